/-
  Own texts, merged: C26, C27, Arg, C28, C29, C30, C31, C92, C32, C33, C34, InvP, C50, C14, C51, C52, C53, C60, C61, C62, C63, C64, C65, C66, C67, C68, C69, C70.
-/
import Derived.Test.YtclgdnpndlognaaGreatBC2
import Derived.Test.YtclgdnpndlognaaGreatBC0
import Derived.Deep.Slices
import Derived.ChangeSame
import Derived.Carry
import Derived.Test.YtclgdnpndlognaaGreatBC1
set_option linter.unusedVariables false
set_option linter.unusedSimpArgs false
set_option maxRecDepth 100000
set_option maxHeartbeats 4000000
namespace Go.Pse
open Go.RowKit Go.Proofs
/-! ### plain: an end is told; a request ends -/
def kBell (s : KS) (g : Int) : Int × Int := (look s.be g).getD (0, 0)
def kPost (s : KS) (d : Deed) : KS := match look s.rg d.1.1 with
  | none => s
  | some (_, r) => { s with rg := updO s.rg d.1.1 (fun r => postR r s.mem (ofD d)), mem := postM r s.mem (ofD d) }
def kSaid (s : KS) (d : Deed) : KS := kPost { s with jn := s.jn ++ [d] } d
def kRung (s : KS) (g : Int) : KS := { s with nt := updO s.nt (kBell s g).1 (ntS (kBell s g).2) }
def kTell (D : KS → ID → Int → Int → KS) (s : KS) (d : Deed) : KS := match look (kSaid s d).nt (kBell (kSaid s d) d.1.1).1 with
  | none => kSaid s d
  | some (_, w, xs) => if woke w xs (kBell (kSaid s d) d.1.1).2 then D (kRung (kSaid s d) d.1.1) (sigI w xs (kBell (kSaid s d) d.1.1).2) 0 (sigV w xs (kBell (kSaid s d) d.1.1).2) else kRung (kSaid s d) d.1.1
def kDec : Nat → KS → ID → Int → Int → KS
  | 0, s, _, _, _ => s
  | n + 1, s, i, r, v => match look s.rt i with
    | none => s
    | some q => match afterQ (kTell (kDec n) (kForget { s with rt := del s.rt i } i) (i, q.e.tag, q.e.op, r, v, false)).rt i with
      | none => kTell (kDec n) (kForget { s with rt := del s.rt i } i) (i, q.e.tag, q.e.op, r, v, false)
      | some x => if x.soft = true ∧ r < 0 then kDec n (kTell (kDec n) (kForget { s with rt := del s.rt i } i) (i, q.e.tag, q.e.op, r, v, false)) x.id (-9) 0 else kTell (kDec n) (kForget { s with rt := del s.rt i } i) (i, q.e.tag, q.e.op, r, v, false)
variable {n : Nat} {s : KS} {i : ID} {r v : Int}
theorem kDec_none (h : look s.rt i = none) : kDec n s i r v = s := by
  cases n with
  | zero => rfl
  | succ n => rw [kDec, h]
variable {d : Deed}
theorem kPost_rt : (kPost s d).rt = s.rt := by unfold kPost; split <;> rfl
theorem kSaid_rt : (kSaid s d).rt = s.rt := by unfold kSaid; rw [kPost_rt]
variable {N M : Nat}
theorem Fits.said (h : Fits s N M) (hm : M + 1 ≤ 90000) (d : Deed) : Fits (kSaid s d) N (M + 1) := by
  unfold kSaid kPost
  split
  · exact h.jnl hm d
  · rename_i b r hl
    have hr := h.rg _ (mem_look hl)
    refine ⟨h.n, hm, h.ids, ?_, h.tm, h.ep, h.nt, h.rp, fun x hx => ?_, postM_ok hr.1 h.mem _⟩
    · have := h.jn
      show (s.jn ++ [d]).length + s.rt.length ≤ M + 1
      simp; omega
    · obtain ⟨y, hy, h1, h2⟩ := updO_mem (show x ∈ updO s.rg d.1.1 (fun r => postR r s.mem (ofD d)) from hx)
      obtain ⟨g1, g2⟩ := h.rg y hy
      rcases h2 with h2 | h2 <;> rw [h2]
      · exact ⟨g1, by show _ + s.rt.length ≤ _; omega⟩
      · refine ⟨postR_ok g1 _, ?_⟩
        have : (postR y.2.2 s.mem (ofD d)).over.length ≤ y.2.2.over.length + 1 := by unfold postR; split <;> simp [Go.Pse.rgUp]
        show _ + s.rt.length ≤ _
        omega
variable {D : KS → ID → Int → Int → KS}
theorem Fits.tell (hD : ∀ s i r v, Fits s N (M + 1) → Fits (D s i r v) N (M + 1) ∧ (D s i r v).rt.length ≤ s.rt.length) (h : Fits s N M) (hm : M + 1 ≤ 90000) (d : Deed) : Fits (kTell D s d) N (M + 1) ∧ (kTell D s d).rt.length ≤ s.rt.length := by
  have h1 := h.said hm d
  unfold kTell
  split
  · exact ⟨h1, by rw [kSaid_rt]; exact Nat.le_refl _⟩
  · split
    · exact ⟨(hD _ _ _ _ (h1.sig _ _)).1, Nat.le_trans (hD _ _ _ _ (h1.sig _ _)).2 (by show (kSaid s d).rt.length ≤ _; rw [kSaid_rt]; exact Nat.le_refl _)⟩
    · exact ⟨h1.sig _ _, by show (kSaid s d).rt.length ≤ _; rw [kSaid_rt]; exact Nat.le_refl _⟩
theorem Fits.dec {N : Nat} : ∀ n {M : Nat} {s : KS} {i : ID} {r v : Int}, Fits s N M → Fits (kDec n s i r v) N M ∧ (kDec n s i r v).rt.length ≤ s.rt.length
  | 0, _, _, _, _, _, h => ⟨h, Nat.le_refl _⟩
  | n + 1, M, s, i, r, v, h => by
    rw [kDec]
    split
    · exact ⟨h, Nat.le_refl _⟩
    · rename_i q hq
      have hl := del_less hq
      obtain ⟨M, rfl⟩ : ∃ M', M = M' + 1 := ⟨M - 1, by have := h.jn; omega⟩
      have h1 := ((h.drop hq).forget i).tell (D := kDec n) (fun s i r v h => Fits.dec n h) h.mm (i, q.e.tag, q.e.op, r, v, false)
      have h2 : (kTell (kDec n) (kForget { s with rt := del s.rt i } i) (i, q.e.tag, q.e.op, r, v, false)).rt.length ≤ s.rt.length := Nat.le_trans h1.2 (by show (del s.rt i).length ≤ _; omega)
      split
      · exact ⟨h1.1, h2⟩
      · split
        · exact ⟨(Fits.dec n h1.1).1, Nat.le_trans (Fits.dec n h1.1).2 h2⟩
        · exact ⟨h1.1, h2⟩
def DecC (n N M : Nat) : Prop := ∀ (E : World) (l m : List As) (p : Nat) (s : KS) (i : ID) (r v : Int), Pick (coA p s) l m → s.rt.length ≤ n → Fits s N M →
  Con Tryz.prog 72 #[.pointer (some ⟨p, 0, none⟩), .agg (encI i).toArray, .int .i64 r, .int .u32 v] E l (fun _ : Unit => .bool (look s.rt i).isSome) (fun _ => coA p (kDec n s i r v) :: m)
variable {E : World} {l m : List As} {p : Nat}
theorem coTell (hp : Pick (coA p s) l m) (hD : DecC n N (M + 1)) (hn : s.rt.length ≤ n) (hF : Fits s N M) (hm : M + 1 ≤ 90000) :
  Con Tryz.prog 121 #[.pointer (some ⟨p, 0, none⟩), .agg (encD d).toArray] E l (fun _ : Unit => .tuple #[]) (fun _ => coA p (kTell (kDec n) s d) :: m) := by
 refine Con.body (n := 51) Tryz.func121 Z Z _ (env_ok 2 Z) <| J_pick hp <| sr <| L_op <| x_box Z Z Z fun b3 => nq <| J_seq <| J_drawL (some 3) mixed <| ip 0 Z Z Z Z (p_move Z) <| iv 2 Z Z Z Z (fun _ => v_loadA Z ty45 HS CT) <| i1 1 Z <| xc fc17 (A1 Z) Z (coJournal) fun _ => i1 3 Z <| xc fc174 (A2 Z Z) Z (coJAdd (s := s) (d := d) PC (by have := hF.jn; omega)) fun _ => i0 <| Q_then <| J_cut (α := Unit) (fun _ : Unit => coA p (kSaid s d) :: blk b3 45 (encD d) :: m) (fun _ : Unit => [(0, .pointer (some ⟨p, 0, none⟩)), (3, .pointer (some ⟨b3, 0, none⟩))]) ?_ ?_
 refine sr <| mv Z Z <| fa Z Z fa45_0 <| fa Z Z fa36_0 <| L_val Z (v_load Z ty3 HS (by exact rfl)) <| xo fc43 (A2 Z Z) Z (coRing (s := { s with jn := s.jn ++ [d] }) (u := d.1.1) PC) fun _ => J_slot (t := 19) (v := .pointer ((look (ptrs s.rg) d.1.1).map fun b => ⟨b, 0, none⟩)) Z Z <| ag Z Z <| nx <| mv Z Z <| L_pur Z (p_neNilPtr Tryz.underlying80 Z) <| nq <| C_split Z (fun h21 => ?_) (fun h21 => ?_)
 obtain ⟨b, hb⟩ : ∃ b, look (ptrs s.rg) d.1.1 = some b := by
  cases hq : look (ptrs s.rg) d.1.1 with
  | none => rw [hq] at h21; simp at h21
  | some b => exact ⟨b, rfl⟩
 obtain ⟨r, hr⟩ := look_got hb
 obtain ⟨hro, hrl⟩ : RgOk r ∧ r.over.length + s.rt.length ≤ M := hF.rg _ (mem_look hr)
 refine J_region <| mv Z Z <| J_slot (t := 22) (v := .pointer (some ⟨b, 0, none⟩)) Z (by rw [hb]; rfl) <| L_val Z (v_loadA Z ty45 HS CT) <| xo fc176 (A1 Z) Z (compOfC (d := d)) fun _ => xo fc175 (A2 Z Z) Z (coPost (s := { s with jn := s.jn ++ [d] }) (u := d.1.1) (r := r) (c := ofD d) PC hr (by omega) hro hF.mem) fun _ => nq <| J_pick (A := coA p _) PC <| J_asTo (B := coA p (kSaid s d)) (by unfold kSaid kPost; rw [show look (KS.rg { s with jn := s.jn ++ [d] }) d.1.1 = _ from hr]) ?_
 exact J_at () SU KE
 have hrn : look s.rg d.1.1 = none := by
  cases hq : look s.rg d.1.1 with
  | none => rfl
  | some y => rw [look_ptrs, hq] at h21; simp at h21
 refine J_skip <| Q_then <| J_pick (A := coA p _) PC <| J_asTo (B := coA p (kSaid s d)) (by unfold kSaid kPost; rw [show look (KS.rg { s with jn := s.jn ++ [d] }) d.1.1 = _ from hrn]) ?_
 exact J_at () SU KE
 intro _
 have hF2 := hF.said hm d
 refine sr <| mv Z Z <| fa Z Z fa45_0 <| fa Z Z fa36_0 <| L_val Z (v_load Z ty3 HS (by exact rfl)) <| xo fc177 (A2 Z Z) Z (coBell (s := kSaid s d) (u := d.1.1) PC) fun _ => J_slot (t := 31) (v := .tuple #[.int .i64 (kBell (kSaid s d) d.1.1).1, .int .u32 (kBell (kSaid s d) d.1.1).2]) Z Z <| mv Z Z <| L_pur Z (p_extract Z Z) <| L_pur Z (p_extract Z Z) <| ag Z Z <| ag Z Z <| nx <| mv Z Z <| mv Z Z <| xo fc170 (A2 Z Z) Z (coNotif (s := kSaid s d) (u := (kBell (kSaid s d) d.1.1).1) PC) fun _ => J_slot (t := 36) (v := .pointer ((look (ptrs (kSaid s d).nt) (kBell (kSaid s d) d.1.1).1).map fun b => ⟨b, 0, none⟩)) Z Z <| ag Z Z <| nx <| mv Z Z <| L_pur Z (p_neNilPtr Tryz.underlying223 Z) <| nq <| C_split Z (fun h38 => ?_) (fun h38 => ?_)
 obtain ⟨b, hb⟩ : ∃ b, look (ptrs (kSaid s d).nt) (kBell (kSaid s d) d.1.1).1 = some b := by
  cases hq : look (ptrs (kSaid s d).nt) (kBell (kSaid s d) d.1.1).1 with
  | none => rw [hq] at h38; simp at h38
  | some b => exact ⟨b, rfl⟩
 obtain ⟨⟨w0, xs⟩, hob⟩ := look_got hb
 have hxl : xs.length ≤ N := (hF2.nt _ (mem_look hob)).2
 have hNN := hF.n
 refine sr <| mv Z Z <| J_slot (t := 40) (v := .pointer (some ⟨b, 0, none⟩)) Z (by rw [hb]; rfl) <| mv Z Z <| xo fc178 (A2 Z Z) Z (coNtSignal (s := kSaid s d) (u := (kBell (kSaid s d) d.1.1).1) (z := (kBell (kSaid s d) d.1.1).2) PC hob (by omega)) fun _ => J_pick (A := coA p _) PC <| J_asTo (B := coA p (kRung (kSaid s d) d.1.1)) (by rfl) <| mv Z Z <| L_pur Z (p_extract Z Z) <| L_pur Z (p_extract Z Z) <| L_pur Z (p_extract Z Z) <| L_op <| x_alloc ty36 Z fun b8 => L_op <| x_store Z Z ty36 Z SM SM RO PT <| ag Z Z <| ag Z Z <| nx <| mv Z Z <| nq <| C_split Z (fun h46 => ?_) (fun h46 => ?_)
 refine J_region <| mv Z Z <| L_val Z (v_loadA Z ty36 HS CT) <| mv Z Z <| xo fc72 (A4 Z Z Z Z) Z (hD _ _ _ p (kRung (kSaid s d) d.1.1) (sigI w0 xs (kBell (kSaid s d) d.1.1).2) 0 (sigV w0 xs (kBell (kSaid s d) d.1.1).2) PC (by show (kSaid s d).rt.length ≤ n; rw [kSaid_rt]; exact hn) (hF2.sig _ _)) fun _ => L_nil <| J_endnormal <| J_pick (A := coA p _) PC <| J_asTo (B := coA p (kTell (kDec n) s d)) (by unfold kTell; rw [hob]; simp only [h46, if_true]) ?_
 exact J_return (()) Tryz.results121 .nil Z SU
 refine J_skip <| J_endnormal <| J_pick (A := coA p _) PC <| J_asTo (B := coA p (kTell (kDec n) s d)) (by unfold kTell; rw [hob]; simp only [h46]; rfl) ?_
 exact J_return (()) Tryz.results121 .nil Z SU
 have hno : look (kSaid s d).nt (kBell (kSaid s d) d.1.1).1 = none := by
  cases hq : look (kSaid s d).nt (kBell (kSaid s d) d.1.1).1 with
  | none => rfl
  | some y => rw [look_ptrs, hq] at h38; simp at h38
 refine J_skip <| J_endnormal <| J_pick (A := coA p _) PC <| J_asTo (B := coA p (kTell (kDec n) s d)) (by unfold kTell; rw [hno]) ?_
 exact J_return (()) Tryz.results121 .nil Z SU
theorem coDecStep (hp : Pick (coA p s) l m) (hD : ∀ k, n = k + 1 → DecC k N M) (hn : s.rt.length ≤ n) (hF : Fits s N M) :
  Con Tryz.prog 72 #[.pointer (some ⟨p, 0, none⟩), .agg (encI i).toArray, .int .i64 r, .int .u32 v] E l (fun _ : Unit => .bool (look s.rt i).isSome) (fun _ => coA p (kDec n s i r v) :: m) := by
 rcases hq : look s.rt i with _ | q
 ·
  refine Con.body (n := 61) Tryz.func72 Z Z _ (env_ok 4 Z) <| J_pick hp <| sr <| L_op <| x_box Z Z Z fun b5 => ag Z Z <| nq <| J_seq <| J_drawL none mixed <| ip 0 Z Z Z Z (p_move Z) <| iv 2 Z Z Z Z (fun _ => v_loadA Z ty36 HS CT) <| I_ready (rs := [1, 7]) SI (by kernel_rfl) (by simp) <| (I_cons Z ?_ (I_cons Z ?_ I_nil))
  refine xc fc16 (A1 Z) Z (coReqs) fun _ => I_ready (rs := [3, 7]) SI (by kernel_rfl) (by simp) <| (I_cons Z ?_ (I_cons Z ?_ I_nil))
  refine xc fc69 (A2 Z Z) Z (coRqGet (s := s) (i := i) PC) fun _ => ip 4 Z Z Z Z (p_move Z) <| ip 5 Z Z Z Z (p_extract Z Z) <| ip 6 Z Z Z Z (p_extract Z Z) <| J_bool (t := 19) (c := false) Z (by rw [hq]; rfl) <| i1 7 Z <| x_alloc ty122 Z fun b9 => i1 8 Z <| x_store Z Z ty122 Z SM SM RO PT <| ip 9 Z Z Z Z (p_assign Z) <| i0 <| Q_then <| J_seq <| sr <| mv Z Z <| L_pur Z (p_not Z) <| nq <| J_bool (t := 21) (c := true) Z (rfl) <| C_true Z <| sr <| ag Z Z <| nq <| J_ret <| Q_then_ret <| J_pick (A := coA p _) PC <| J_asTo (B := coA p (kDec n s i r v)) (by rw [kDec_none hq]) ?_
  exact J_return (()) Tryz.results72 (.tmp Z .nil) Z SU
  refine x_alloc ty122 Z fun b9 => i1 3 Z <| xc fc69 (A2 Z Z) Z (coRqGet (s := s) (i := i) PC) fun _ => ip 4 Z Z Z Z (p_move Z) <| ip 5 Z Z Z Z (p_extract Z Z) <| ip 6 Z Z Z Z (p_extract Z Z) <| J_bool (t := 19) (c := false) Z (by rw [hq]; rfl) <| i1 8 Z <| x_store Z Z ty122 Z SM SM RO PT <| ip 9 Z Z Z Z (p_assign Z) <| i0 <| Q_then <| J_seq <| sr <| mv Z Z <| L_pur Z (p_not Z) <| nq <| J_bool (t := 21) (c := true) Z (rfl) <| C_true Z <| sr <| ag Z Z <| nq <| J_ret <| Q_then_ret <| J_pick (A := coA p _) PC <| J_asTo (B := coA p (kDec n s i r v)) (by rw [kDec_none hq]) ?_
  exact J_return (()) Tryz.results72 (.tmp Z .nil) Z SU
  refine x_alloc ty122 Z fun b9 => i1 1 Z <| xc fc16 (A1 Z) Z (coReqs) fun _ => i1 3 Z <| xc fc69 (A2 Z Z) Z (coRqGet (s := s) (i := i) PC) fun _ => ip 4 Z Z Z Z (p_move Z) <| ip 5 Z Z Z Z (p_extract Z Z) <| ip 6 Z Z Z Z (p_extract Z Z) <| J_bool (t := 19) (c := false) Z (by rw [hq]; rfl) <| i1 8 Z <| x_store Z Z ty122 Z SM SM RO PT <| ip 9 Z Z Z Z (p_assign Z) <| i0 <| Q_then <| J_seq <| sr <| mv Z Z <| L_pur Z (p_not Z) <| nq <| J_bool (t := 21) (c := true) Z (rfl) <| C_true Z <| sr <| ag Z Z <| nq <| J_ret <| Q_then_ret <| J_pick (A := coA p _) PC <| J_asTo (B := coA p (kDec n s i r v)) (by rw [kDec_none hq]) ?_
  exact J_return (()) Tryz.results72 (.tmp Z .nil) Z SU
 ·
  refine Con.body (n := 61) Tryz.func72 Z Z _ (env_ok 4 Z) ?_
  have hl := del_less hq
  obtain ⟨k, rfl⟩ : ∃ k, n = k + 1 := ⟨n - 1, by omega⟩
  obtain ⟨M, rfl⟩ : ∃ M', M = M' + 1 := ⟨M - 1, by have := hF.jn; omega⟩
  have hF1 := hF.drop hq
  have hn2 : (kForget { s with rt := del s.rt i } i).rt.length ≤ k := by show (del s.rt i).length ≤ k; omega
  have hF3 := (hF1.forget i).tell (D := kDec k) (fun s i r v h => Fits.dec k h) hF.mm (i, q.e.tag, q.e.op, r, v, false)
  refine J_pick hp <| sr <| L_op <| x_box Z Z Z fun b5 => ag Z Z <| nq <| J_seq <| J_drawL none mixed <| ip 0 Z Z Z Z (p_move Z) <| iv 2 Z Z Z Z (fun _ => v_loadA Z ty36 HS CT) <| I_ready (rs := [1, 7]) SI (by kernel_rfl) (by simp) <| (I_cons Z ?_ (I_cons Z ?_ I_nil))
  refine xc fc16 (A1 Z) Z (coReqs) fun _ => I_ready (rs := [3, 7]) SI (by kernel_rfl) (by simp) <| (I_cons Z ?_ (I_cons Z ?_ I_nil))
  refine xc fc69 (A2 Z Z) Z (coRqGet (s := s) (i := i) PC) fun _ => ip 4 Z Z Z Z (p_move Z) <| ip 5 Z Z Z Z (p_extract Z Z) <| ip 6 Z Z Z Z (p_extract Z Z) <| i1 7 Z <| x_alloc ty122 Z fun b9 => i1 8 Z <| x_store Z Z ty122 Z SM SM RO PT <| ip 9 Z Z Z Z (p_assign Z) <| i0 <| Q_then <| J_seq <| sr <| mv Z Z <| L_pur Z (p_not Z) <| nq <| J_bool (t := 21) (c := false) Z (by rw [hq]; rfl) <| C_false Z <| J_skip <| Q_then <| J_seq <| J_drawL (some 3) mixed <| ip 0 Z Z Z Z (p_move Z) <| iv 2 Z Z Z Z (fun _ => v_loadA Z ty36 HS CT) <| i1 1 Z <| xc fc16 (A1 Z) Z (coReqs) fun _ => i1 3 Z <| xc fc119 (A2 Z Z) Z (coRqDrop (s := s) (i := i) PC) fun _ => i0 <| qx <| mv Z Z <| L_val Z (v_loadA Z ty36 HS CT) <| xo fc120 (A2 Z Z) Z (coForget (s := { s with rt := del s.rt i }) (i := i) PC hF1) fun _ => nx <| mv Z Z <| L_val Z (v_loadA Z ty36 HS CT) ?_
  refine fa Z Z fa122_1 <| fa Z Z fa34_2 <| L_val Z (v_load Z ty22 HS (by exact rfl)) <| fa Z Z fa122_1 <| fa Z Z fa34_0 <| L_val Z (v_load Z ty3 HS (by exact rfl)) <| mv Z Z <| mv Z Z <| L_pur Z (bld45 (.cons Z (.cons Z (.cons Z (.cons Z (.cons Z .nil))))) (by repeat constructor)) <| J_slot (t := 39) (v := .agg (encD (i, q.e.tag, q.e.op, r, v, false)).toArray) Z (by rw [hq]; rfl) <| xo fc121 (A2 Z Z) Z (coTell (s := (kForget { s with rt := del s.rt i } i)) (d := (i, q.e.tag, q.e.op, r, v, false)) PC (hD k Z) hn2 (hF1.forget i) hF.mm) fun _ => nq <| J_seq <| J_seq <| J_drawL none mixed <| ip 0 Z Z Z Z (p_move Z) <| iv 2 Z Z Z Z (fun _ => v_loadA Z ty36 HS CT) <| I_ready (rs := [1, 7]) SI (by kernel_rfl) (by simp) <| (I_cons Z ?_ (I_cons Z ?_ I_nil))
  refine xc fc16 (A1 Z) Z (coReqs) fun _ => I_ready (rs := [3, 7]) SI (by kernel_rfl) (by simp) <| (I_cons Z ?_ (I_cons Z ?_ I_nil))
  refine xc fc122 (A2 Z Z) Z (coRqAfter (s := (kTell (kDec k) (kForget { s with rt := del s.rt i } i) (i, q.e.tag, q.e.op, r, v, false))) (i := i) PC hF3.1.ids (by have := hF3.1.jn; have := hF3.1.mm; omega)) fun _ => ip 4 Z Z Z Z (p_move Z) <| ip 5 Z Z Z Z (p_extract Z Z) <| ip 6 Z Z Z Z (p_extract Z Z) <| i1 7 Z <| x_alloc ty122 Z fun b11 => i1 8 Z <| x_store Z Z ty122 Z SM SM RO PT <| ip 9 Z Z Z Z (p_assign Z) <| i0 <| qx <| mv Z Z <| mv Z Z <| J_gsplit (t := 49) Z (fun h49 => ?_) (fun h49 => ?_)
  obtain ⟨x, haf⟩ : ∃ x, afterQ (kTell (kDec k) (kForget { s with rt := del s.rt i } i) (i, q.e.tag, q.e.op, r, v, false)).rt i = some x := by
   cases hz : afterQ (kTell (kDec k) (kForget { s with rt := del s.rt i } i) (i, q.e.tag, q.e.op, r, v, false)).rt i with
   | none => rw [hz] at h49; simp at h49
   | some x => exact ⟨x, rfl⟩
  refine J_pick (A := blk b11 _ _) PC <| J_asTo (B := blk b11 122 (encQ x)) (by rw [haf]; rfl) <| gp Z Z Z (p_fieldAddr Z fa122_3) Z <| L_op <| G_on Z Z Z <| J_val (v_load Z ty4 HS (by exact rfl)) Z Z Z <| L_pur Z (p_pick_t Z Z) <| mv Z Z <| J_gsplit (t := 53) Z (fun h53 => ?_) (fun h53 => ?_)
  refine gp Z Z Z (p_move Z) Z <| gp Z Z Z (p_lss Z Z) Z <| L_pur Z (p_pick_t Z Z) <| nq <| C_dec Z (fun h56 => ?_) (fun h56 => ?_)
  refine J_region <| mv Z Z <| fa Z Z fa122_0 <| L_val Z (v_loadA Z ty36 HS CT) <| xo fc72 (A4 Z Z Z Z) Z (hD k Z _ _ _ p (kTell (kDec k) (kForget { s with rt := del s.rt i } i) (i, q.e.tag, q.e.op, r, v, false)) x.id (-9) 0 PC (Nat.le_trans hF3.2 hn2) hF3.1) fun _ => nx <| ag Z Z <| nq <| J_ret <| J_pick (A := coA p _) PC <| J_asTo (B := coA p (kDec (k + 1) s i r v)) (by rw [kDec, hq]; simp only [haf]; rw [if_pos ⟨h53, h56⟩]) ?_
  exact J_return (()) Tryz.results72 (.tmp Z .nil) Z SU
  refine J_skip <| qx <| ag Z Z <| nq <| J_ret <| J_pick (A := coA p _) PC <| J_asTo (B := coA p (kDec (k + 1) s i r v)) (by rw [kDec, hq]; simp only [haf]; rw [if_neg (by intro hc; simp_all)]) ?_
  exact J_return (()) Tryz.results72 (.tmp Z .nil) Z SU
  refine gz Z Z Z Z Z <| gz Z Z Z Z Z <| L_pur Z (p_pick_f Z Z) <| nq <| C_false Z <| J_skip <| qx <| ag Z Z <| nq <| J_ret <| J_pick (A := coA p _) PC <| J_asTo (B := coA p (kDec (k + 1) s i r v)) (by rw [kDec, hq]; simp only [haf]; rw [if_neg (by intro hc; simp_all)]) ?_
  exact J_return (()) Tryz.results72 (.tmp Z .nil) Z SU
  have haf : afterQ (kTell (kDec k) (kForget { s with rt := del s.rt i } i) (i, q.e.tag, q.e.op, r, v, false)).rt i = none := by
   cases hz : afterQ (kTell (kDec k) (kForget { s with rt := del s.rt i } i) (i, q.e.tag, q.e.op, r, v, false)).rt i with
   | none => rfl
   | some x => rw [hz] at h49; simp at h49
  refine gz Z Z Z Z Z <| gz Z Z Z Z Z <| L_pur Z (p_pick_f Z Z) <| mv Z Z <| gz Z Z Z Z Z <| gz Z Z Z Z Z <| L_pur Z (p_pick_f Z Z) <| nq <| C_false Z <| J_skip <| qx <| ag Z Z <| nq <| J_ret <| J_pick (A := coA p _) PC <| J_asTo (B := coA p (kDec (k + 1) s i r v)) (by rw [kDec, hq]; simp only [haf]) ?_
  exact J_return (()) Tryz.results72 (.tmp Z .nil) Z SU
  refine x_alloc ty122 Z fun b11 => i1 3 Z <| xc fc122 (A2 Z Z) Z (coRqAfter (s := (kTell (kDec k) (kForget { s with rt := del s.rt i } i) (i, q.e.tag, q.e.op, r, v, false))) (i := i) PC hF3.1.ids (by have := hF3.1.jn; have := hF3.1.mm; omega)) fun _ => ip 4 Z Z Z Z (p_move Z) <| ip 5 Z Z Z Z (p_extract Z Z) <| ip 6 Z Z Z Z (p_extract Z Z) <| i1 8 Z <| x_store Z Z ty122 Z SM SM RO PT <| ip 9 Z Z Z Z (p_assign Z) <| i0 <| qx <| mv Z Z <| mv Z Z <| J_gsplit (t := 49) Z (fun h49 => ?_) (fun h49 => ?_)
  obtain ⟨x, haf⟩ : ∃ x, afterQ (kTell (kDec k) (kForget { s with rt := del s.rt i } i) (i, q.e.tag, q.e.op, r, v, false)).rt i = some x := by
   cases hz : afterQ (kTell (kDec k) (kForget { s with rt := del s.rt i } i) (i, q.e.tag, q.e.op, r, v, false)).rt i with
   | none => rw [hz] at h49; simp at h49
   | some x => exact ⟨x, rfl⟩
  refine J_pick (A := blk b11 _ _) PC <| J_asTo (B := blk b11 122 (encQ x)) (by rw [haf]; rfl) <| gp Z Z Z (p_fieldAddr Z fa122_3) Z <| L_op <| G_on Z Z Z <| J_val (v_load Z ty4 HS (by exact rfl)) Z Z Z <| L_pur Z (p_pick_t Z Z) <| mv Z Z <| J_gsplit (t := 53) Z (fun h53 => ?_) (fun h53 => ?_)
  refine gp Z Z Z (p_move Z) Z <| gp Z Z Z (p_lss Z Z) Z <| L_pur Z (p_pick_t Z Z) <| nq <| C_dec Z (fun h56 => ?_) (fun h56 => ?_)
  refine J_region <| mv Z Z <| fa Z Z fa122_0 <| L_val Z (v_loadA Z ty36 HS CT) <| xo fc72 (A4 Z Z Z Z) Z (hD k Z _ _ _ p (kTell (kDec k) (kForget { s with rt := del s.rt i } i) (i, q.e.tag, q.e.op, r, v, false)) x.id (-9) 0 PC (Nat.le_trans hF3.2 hn2) hF3.1) fun _ => nx <| ag Z Z <| nq <| J_ret <| J_pick (A := coA p _) PC <| J_asTo (B := coA p (kDec (k + 1) s i r v)) (by rw [kDec, hq]; simp only [haf]; rw [if_pos ⟨h53, h56⟩]) ?_
  exact J_return (()) Tryz.results72 (.tmp Z .nil) Z SU
  refine J_skip <| qx <| ag Z Z <| nq <| J_ret <| J_pick (A := coA p _) PC <| J_asTo (B := coA p (kDec (k + 1) s i r v)) (by rw [kDec, hq]; simp only [haf]; rw [if_neg (by intro hc; simp_all)]) ?_
  exact J_return (()) Tryz.results72 (.tmp Z .nil) Z SU
  refine gz Z Z Z Z Z <| gz Z Z Z Z Z <| L_pur Z (p_pick_f Z Z) <| nq <| C_false Z <| J_skip <| qx <| ag Z Z <| nq <| J_ret <| J_pick (A := coA p _) PC <| J_asTo (B := coA p (kDec (k + 1) s i r v)) (by rw [kDec, hq]; simp only [haf]; rw [if_neg (by intro hc; simp_all)]) ?_
  exact J_return (()) Tryz.results72 (.tmp Z .nil) Z SU
  have haf : afterQ (kTell (kDec k) (kForget { s with rt := del s.rt i } i) (i, q.e.tag, q.e.op, r, v, false)).rt i = none := by
   cases hz : afterQ (kTell (kDec k) (kForget { s with rt := del s.rt i } i) (i, q.e.tag, q.e.op, r, v, false)).rt i with
   | none => rfl
   | some x => rw [hz] at h49; simp at h49
  refine gz Z Z Z Z Z <| gz Z Z Z Z Z <| L_pur Z (p_pick_f Z Z) <| mv Z Z <| gz Z Z Z Z Z <| gz Z Z Z Z Z <| L_pur Z (p_pick_f Z Z) <| nq <| C_false Z <| J_skip <| qx <| ag Z Z <| nq <| J_ret <| J_pick (A := coA p _) PC <| J_asTo (B := coA p (kDec (k + 1) s i r v)) (by rw [kDec, hq]; simp only [haf]) ?_
  exact J_return (()) Tryz.results72 (.tmp Z .nil) Z SU
  refine x_alloc ty122 Z fun b11 => i1 1 Z <| xc fc16 (A1 Z) Z (coReqs) fun _ => i1 3 Z <| xc fc122 (A2 Z Z) Z (coRqAfter (s := (kTell (kDec k) (kForget { s with rt := del s.rt i } i) (i, q.e.tag, q.e.op, r, v, false))) (i := i) PC hF3.1.ids (by have := hF3.1.jn; have := hF3.1.mm; omega)) fun _ => ip 4 Z Z Z Z (p_move Z) <| ip 5 Z Z Z Z (p_extract Z Z) <| ip 6 Z Z Z Z (p_extract Z Z) <| i1 8 Z <| x_store Z Z ty122 Z SM SM RO PT <| ip 9 Z Z Z Z (p_assign Z) <| i0 <| qx <| mv Z Z <| mv Z Z <| J_gsplit (t := 49) Z (fun h49 => ?_) (fun h49 => ?_)
  obtain ⟨x, haf⟩ : ∃ x, afterQ (kTell (kDec k) (kForget { s with rt := del s.rt i } i) (i, q.e.tag, q.e.op, r, v, false)).rt i = some x := by
   cases hz : afterQ (kTell (kDec k) (kForget { s with rt := del s.rt i } i) (i, q.e.tag, q.e.op, r, v, false)).rt i with
   | none => rw [hz] at h49; simp at h49
   | some x => exact ⟨x, rfl⟩
  refine J_pick (A := blk b11 _ _) PC <| J_asTo (B := blk b11 122 (encQ x)) (by rw [haf]; rfl) <| gp Z Z Z (p_fieldAddr Z fa122_3) Z <| L_op <| G_on Z Z Z <| J_val (v_load Z ty4 HS (by exact rfl)) Z Z Z <| L_pur Z (p_pick_t Z Z) <| mv Z Z <| J_gsplit (t := 53) Z (fun h53 => ?_) (fun h53 => ?_)
  refine gp Z Z Z (p_move Z) Z <| gp Z Z Z (p_lss Z Z) Z <| L_pur Z (p_pick_t Z Z) <| nq <| C_dec Z (fun h56 => ?_) (fun h56 => ?_)
  refine J_region <| mv Z Z <| fa Z Z fa122_0 <| L_val Z (v_loadA Z ty36 HS CT) <| xo fc72 (A4 Z Z Z Z) Z (hD k Z _ _ _ p (kTell (kDec k) (kForget { s with rt := del s.rt i } i) (i, q.e.tag, q.e.op, r, v, false)) x.id (-9) 0 PC (Nat.le_trans hF3.2 hn2) hF3.1) fun _ => nx <| ag Z Z <| nq <| J_ret <| J_pick (A := coA p _) PC <| J_asTo (B := coA p (kDec (k + 1) s i r v)) (by rw [kDec, hq]; simp only [haf]; rw [if_pos ⟨h53, h56⟩]) ?_
  exact J_return (()) Tryz.results72 (.tmp Z .nil) Z SU
  refine J_skip <| qx <| ag Z Z <| nq <| J_ret <| J_pick (A := coA p _) PC <| J_asTo (B := coA p (kDec (k + 1) s i r v)) (by rw [kDec, hq]; simp only [haf]; rw [if_neg (by intro hc; simp_all)]) ?_
  exact J_return (()) Tryz.results72 (.tmp Z .nil) Z SU
  refine gz Z Z Z Z Z <| gz Z Z Z Z Z <| L_pur Z (p_pick_f Z Z) <| nq <| C_false Z <| J_skip <| qx <| ag Z Z <| nq <| J_ret <| J_pick (A := coA p _) PC <| J_asTo (B := coA p (kDec (k + 1) s i r v)) (by rw [kDec, hq]; simp only [haf]; rw [if_neg (by intro hc; simp_all)]) ?_
  exact J_return (()) Tryz.results72 (.tmp Z .nil) Z SU
  have haf : afterQ (kTell (kDec k) (kForget { s with rt := del s.rt i } i) (i, q.e.tag, q.e.op, r, v, false)).rt i = none := by
   cases hz : afterQ (kTell (kDec k) (kForget { s with rt := del s.rt i } i) (i, q.e.tag, q.e.op, r, v, false)).rt i with
   | none => rfl
   | some x => rw [hz] at h49; simp at h49
  refine gz Z Z Z Z Z <| gz Z Z Z Z Z <| L_pur Z (p_pick_f Z Z) <| mv Z Z <| gz Z Z Z Z Z <| gz Z Z Z Z Z <| L_pur Z (p_pick_f Z Z) <| nq <| C_false Z <| J_skip <| qx <| ag Z Z <| nq <| J_ret <| J_pick (A := coA p _) PC <| J_asTo (B := coA p (kDec (k + 1) s i r v)) (by rw [kDec, hq]; simp only [haf]) ?_
  exact J_return (()) Tryz.results72 (.tmp Z .nil) Z SU
  refine x_alloc ty122 Z fun b9 => i1 3 Z <| xc fc69 (A2 Z Z) Z (coRqGet (s := s) (i := i) PC) fun _ => ip 4 Z Z Z Z (p_move Z) <| ip 5 Z Z Z Z (p_extract Z Z) <| ip 6 Z Z Z Z (p_extract Z Z) <| i1 8 Z <| x_store Z Z ty122 Z SM SM RO PT <| ip 9 Z Z Z Z (p_assign Z) <| i0 <| Q_then <| J_seq <| sr <| mv Z Z <| L_pur Z (p_not Z) <| nq <| J_bool (t := 21) (c := false) Z (by rw [hq]; rfl) <| C_false Z <| J_skip <| Q_then <| J_seq <| J_drawL (some 3) mixed <| ip 0 Z Z Z Z (p_move Z) <| iv 2 Z Z Z Z (fun _ => v_loadA Z ty36 HS CT) <| i1 1 Z <| xc fc16 (A1 Z) Z (coReqs) fun _ => i1 3 Z <| xc fc119 (A2 Z Z) Z (coRqDrop (s := s) (i := i) PC) fun _ => i0 <| qx <| mv Z Z <| L_val Z (v_loadA Z ty36 HS CT) <| xo fc120 (A2 Z Z) Z (coForget (s := { s with rt := del s.rt i }) (i := i) PC hF1) fun _ => nx <| mv Z Z <| L_val Z (v_loadA Z ty36 HS CT) ?_
  refine fa Z Z fa122_1 <| fa Z Z fa34_2 <| L_val Z (v_load Z ty22 HS (by exact rfl)) <| fa Z Z fa122_1 <| fa Z Z fa34_0 <| L_val Z (v_load Z ty3 HS (by exact rfl)) <| mv Z Z <| mv Z Z <| L_pur Z (bld45 (.cons Z (.cons Z (.cons Z (.cons Z (.cons Z .nil))))) (by repeat constructor)) <| J_slot (t := 39) (v := .agg (encD (i, q.e.tag, q.e.op, r, v, false)).toArray) Z (by rw [hq]; rfl) <| xo fc121 (A2 Z Z) Z (coTell (s := (kForget { s with rt := del s.rt i } i)) (d := (i, q.e.tag, q.e.op, r, v, false)) PC (hD k Z) hn2 (hF1.forget i) hF.mm) fun _ => nq <| J_seq <| J_seq <| J_drawL none mixed <| ip 0 Z Z Z Z (p_move Z) <| iv 2 Z Z Z Z (fun _ => v_loadA Z ty36 HS CT) <| I_ready (rs := [1, 7]) SI (by kernel_rfl) (by simp) <| (I_cons Z ?_ (I_cons Z ?_ I_nil))
  refine xc fc16 (A1 Z) Z (coReqs) fun _ => I_ready (rs := [3, 7]) SI (by kernel_rfl) (by simp) <| (I_cons Z ?_ (I_cons Z ?_ I_nil))
  refine xc fc122 (A2 Z Z) Z (coRqAfter (s := (kTell (kDec k) (kForget { s with rt := del s.rt i } i) (i, q.e.tag, q.e.op, r, v, false))) (i := i) PC hF3.1.ids (by have := hF3.1.jn; have := hF3.1.mm; omega)) fun _ => ip 4 Z Z Z Z (p_move Z) <| ip 5 Z Z Z Z (p_extract Z Z) <| ip 6 Z Z Z Z (p_extract Z Z) <| i1 7 Z <| x_alloc ty122 Z fun b11 => i1 8 Z <| x_store Z Z ty122 Z SM SM RO PT <| ip 9 Z Z Z Z (p_assign Z) <| i0 <| qx <| mv Z Z <| mv Z Z <| J_gsplit (t := 49) Z (fun h49 => ?_) (fun h49 => ?_)
  obtain ⟨x, haf⟩ : ∃ x, afterQ (kTell (kDec k) (kForget { s with rt := del s.rt i } i) (i, q.e.tag, q.e.op, r, v, false)).rt i = some x := by
   cases hz : afterQ (kTell (kDec k) (kForget { s with rt := del s.rt i } i) (i, q.e.tag, q.e.op, r, v, false)).rt i with
   | none => rw [hz] at h49; simp at h49
   | some x => exact ⟨x, rfl⟩
  refine J_pick (A := blk b11 _ _) PC <| J_asTo (B := blk b11 122 (encQ x)) (by rw [haf]; rfl) <| gp Z Z Z (p_fieldAddr Z fa122_3) Z <| L_op <| G_on Z Z Z <| J_val (v_load Z ty4 HS (by exact rfl)) Z Z Z <| L_pur Z (p_pick_t Z Z) <| mv Z Z <| J_gsplit (t := 53) Z (fun h53 => ?_) (fun h53 => ?_)
  refine gp Z Z Z (p_move Z) Z <| gp Z Z Z (p_lss Z Z) Z <| L_pur Z (p_pick_t Z Z) <| nq <| C_dec Z (fun h56 => ?_) (fun h56 => ?_)
  refine J_region <| mv Z Z <| fa Z Z fa122_0 <| L_val Z (v_loadA Z ty36 HS CT) <| xo fc72 (A4 Z Z Z Z) Z (hD k Z _ _ _ p (kTell (kDec k) (kForget { s with rt := del s.rt i } i) (i, q.e.tag, q.e.op, r, v, false)) x.id (-9) 0 PC (Nat.le_trans hF3.2 hn2) hF3.1) fun _ => nx <| ag Z Z <| nq <| J_ret <| J_pick (A := coA p _) PC <| J_asTo (B := coA p (kDec (k + 1) s i r v)) (by rw [kDec, hq]; simp only [haf]; rw [if_pos ⟨h53, h56⟩]) ?_
  exact J_return (()) Tryz.results72 (.tmp Z .nil) Z SU
  refine J_skip <| qx <| ag Z Z <| nq <| J_ret <| J_pick (A := coA p _) PC <| J_asTo (B := coA p (kDec (k + 1) s i r v)) (by rw [kDec, hq]; simp only [haf]; rw [if_neg (by intro hc; simp_all)]) ?_
  exact J_return (()) Tryz.results72 (.tmp Z .nil) Z SU
  refine gz Z Z Z Z Z <| gz Z Z Z Z Z <| L_pur Z (p_pick_f Z Z) <| nq <| C_false Z <| J_skip <| qx <| ag Z Z <| nq <| J_ret <| J_pick (A := coA p _) PC <| J_asTo (B := coA p (kDec (k + 1) s i r v)) (by rw [kDec, hq]; simp only [haf]; rw [if_neg (by intro hc; simp_all)]) ?_
  exact J_return (()) Tryz.results72 (.tmp Z .nil) Z SU
  have haf : afterQ (kTell (kDec k) (kForget { s with rt := del s.rt i } i) (i, q.e.tag, q.e.op, r, v, false)).rt i = none := by
   cases hz : afterQ (kTell (kDec k) (kForget { s with rt := del s.rt i } i) (i, q.e.tag, q.e.op, r, v, false)).rt i with
   | none => rfl
   | some x => rw [hz] at h49; simp at h49
  refine gz Z Z Z Z Z <| gz Z Z Z Z Z <| L_pur Z (p_pick_f Z Z) <| mv Z Z <| gz Z Z Z Z Z <| gz Z Z Z Z Z <| L_pur Z (p_pick_f Z Z) <| nq <| C_false Z <| J_skip <| qx <| ag Z Z <| nq <| J_ret <| J_pick (A := coA p _) PC <| J_asTo (B := coA p (kDec (k + 1) s i r v)) (by rw [kDec, hq]; simp only [haf]) ?_
  exact J_return (()) Tryz.results72 (.tmp Z .nil) Z SU
  refine x_alloc ty122 Z fun b11 => i1 3 Z <| xc fc122 (A2 Z Z) Z (coRqAfter (s := (kTell (kDec k) (kForget { s with rt := del s.rt i } i) (i, q.e.tag, q.e.op, r, v, false))) (i := i) PC hF3.1.ids (by have := hF3.1.jn; have := hF3.1.mm; omega)) fun _ => ip 4 Z Z Z Z (p_move Z) <| ip 5 Z Z Z Z (p_extract Z Z) <| ip 6 Z Z Z Z (p_extract Z Z) <| i1 8 Z <| x_store Z Z ty122 Z SM SM RO PT <| ip 9 Z Z Z Z (p_assign Z) <| i0 <| qx <| mv Z Z <| mv Z Z <| J_gsplit (t := 49) Z (fun h49 => ?_) (fun h49 => ?_)
  obtain ⟨x, haf⟩ : ∃ x, afterQ (kTell (kDec k) (kForget { s with rt := del s.rt i } i) (i, q.e.tag, q.e.op, r, v, false)).rt i = some x := by
   cases hz : afterQ (kTell (kDec k) (kForget { s with rt := del s.rt i } i) (i, q.e.tag, q.e.op, r, v, false)).rt i with
   | none => rw [hz] at h49; simp at h49
   | some x => exact ⟨x, rfl⟩
  refine J_pick (A := blk b11 _ _) PC <| J_asTo (B := blk b11 122 (encQ x)) (by rw [haf]; rfl) <| gp Z Z Z (p_fieldAddr Z fa122_3) Z <| L_op <| G_on Z Z Z <| J_val (v_load Z ty4 HS (by exact rfl)) Z Z Z <| L_pur Z (p_pick_t Z Z) <| mv Z Z <| J_gsplit (t := 53) Z (fun h53 => ?_) (fun h53 => ?_)
  refine gp Z Z Z (p_move Z) Z <| gp Z Z Z (p_lss Z Z) Z <| L_pur Z (p_pick_t Z Z) <| nq <| C_dec Z (fun h56 => ?_) (fun h56 => ?_)
  refine J_region <| mv Z Z <| fa Z Z fa122_0 <| L_val Z (v_loadA Z ty36 HS CT) <| xo fc72 (A4 Z Z Z Z) Z (hD k Z _ _ _ p (kTell (kDec k) (kForget { s with rt := del s.rt i } i) (i, q.e.tag, q.e.op, r, v, false)) x.id (-9) 0 PC (Nat.le_trans hF3.2 hn2) hF3.1) fun _ => nx <| ag Z Z <| nq <| J_ret <| J_pick (A := coA p _) PC <| J_asTo (B := coA p (kDec (k + 1) s i r v)) (by rw [kDec, hq]; simp only [haf]; rw [if_pos ⟨h53, h56⟩]) ?_
  exact J_return (()) Tryz.results72 (.tmp Z .nil) Z SU
  refine J_skip <| qx <| ag Z Z <| nq <| J_ret <| J_pick (A := coA p _) PC <| J_asTo (B := coA p (kDec (k + 1) s i r v)) (by rw [kDec, hq]; simp only [haf]; rw [if_neg (by intro hc; simp_all)]) ?_
  exact J_return (()) Tryz.results72 (.tmp Z .nil) Z SU
  refine gz Z Z Z Z Z <| gz Z Z Z Z Z <| L_pur Z (p_pick_f Z Z) <| nq <| C_false Z <| J_skip <| qx <| ag Z Z <| nq <| J_ret <| J_pick (A := coA p _) PC <| J_asTo (B := coA p (kDec (k + 1) s i r v)) (by rw [kDec, hq]; simp only [haf]; rw [if_neg (by intro hc; simp_all)]) ?_
  exact J_return (()) Tryz.results72 (.tmp Z .nil) Z SU
  have haf : afterQ (kTell (kDec k) (kForget { s with rt := del s.rt i } i) (i, q.e.tag, q.e.op, r, v, false)).rt i = none := by
   cases hz : afterQ (kTell (kDec k) (kForget { s with rt := del s.rt i } i) (i, q.e.tag, q.e.op, r, v, false)).rt i with
   | none => rfl
   | some x => rw [hz] at h49; simp at h49
  refine gz Z Z Z Z Z <| gz Z Z Z Z Z <| L_pur Z (p_pick_f Z Z) <| mv Z Z <| gz Z Z Z Z Z <| gz Z Z Z Z Z <| L_pur Z (p_pick_f Z Z) <| nq <| C_false Z <| J_skip <| qx <| ag Z Z <| nq <| J_ret <| J_pick (A := coA p _) PC <| J_asTo (B := coA p (kDec (k + 1) s i r v)) (by rw [kDec, hq]; simp only [haf]) ?_
  exact J_return (()) Tryz.results72 (.tmp Z .nil) Z SU
  refine x_alloc ty122 Z fun b11 => i1 1 Z <| xc fc16 (A1 Z) Z (coReqs) fun _ => i1 3 Z <| xc fc122 (A2 Z Z) Z (coRqAfter (s := (kTell (kDec k) (kForget { s with rt := del s.rt i } i) (i, q.e.tag, q.e.op, r, v, false))) (i := i) PC hF3.1.ids (by have := hF3.1.jn; have := hF3.1.mm; omega)) fun _ => ip 4 Z Z Z Z (p_move Z) <| ip 5 Z Z Z Z (p_extract Z Z) <| ip 6 Z Z Z Z (p_extract Z Z) <| i1 8 Z <| x_store Z Z ty122 Z SM SM RO PT <| ip 9 Z Z Z Z (p_assign Z) <| i0 <| qx <| mv Z Z <| mv Z Z <| J_gsplit (t := 49) Z (fun h49 => ?_) (fun h49 => ?_)
  obtain ⟨x, haf⟩ : ∃ x, afterQ (kTell (kDec k) (kForget { s with rt := del s.rt i } i) (i, q.e.tag, q.e.op, r, v, false)).rt i = some x := by
   cases hz : afterQ (kTell (kDec k) (kForget { s with rt := del s.rt i } i) (i, q.e.tag, q.e.op, r, v, false)).rt i with
   | none => rw [hz] at h49; simp at h49
   | some x => exact ⟨x, rfl⟩
  refine J_pick (A := blk b11 _ _) PC <| J_asTo (B := blk b11 122 (encQ x)) (by rw [haf]; rfl) <| gp Z Z Z (p_fieldAddr Z fa122_3) Z <| L_op <| G_on Z Z Z <| J_val (v_load Z ty4 HS (by exact rfl)) Z Z Z <| L_pur Z (p_pick_t Z Z) <| mv Z Z <| J_gsplit (t := 53) Z (fun h53 => ?_) (fun h53 => ?_)
  refine gp Z Z Z (p_move Z) Z <| gp Z Z Z (p_lss Z Z) Z <| L_pur Z (p_pick_t Z Z) <| nq <| C_dec Z (fun h56 => ?_) (fun h56 => ?_)
  refine J_region <| mv Z Z <| fa Z Z fa122_0 <| L_val Z (v_loadA Z ty36 HS CT) <| xo fc72 (A4 Z Z Z Z) Z (hD k Z _ _ _ p (kTell (kDec k) (kForget { s with rt := del s.rt i } i) (i, q.e.tag, q.e.op, r, v, false)) x.id (-9) 0 PC (Nat.le_trans hF3.2 hn2) hF3.1) fun _ => nx <| ag Z Z <| nq <| J_ret <| J_pick (A := coA p _) PC <| J_asTo (B := coA p (kDec (k + 1) s i r v)) (by rw [kDec, hq]; simp only [haf]; rw [if_pos ⟨h53, h56⟩]) ?_
  exact J_return (()) Tryz.results72 (.tmp Z .nil) Z SU
  refine J_skip <| qx <| ag Z Z <| nq <| J_ret <| J_pick (A := coA p _) PC <| J_asTo (B := coA p (kDec (k + 1) s i r v)) (by rw [kDec, hq]; simp only [haf]; rw [if_neg (by intro hc; simp_all)]) ?_
  exact J_return (()) Tryz.results72 (.tmp Z .nil) Z SU
  refine gz Z Z Z Z Z <| gz Z Z Z Z Z <| L_pur Z (p_pick_f Z Z) <| nq <| C_false Z <| J_skip <| qx <| ag Z Z <| nq <| J_ret <| J_pick (A := coA p _) PC <| J_asTo (B := coA p (kDec (k + 1) s i r v)) (by rw [kDec, hq]; simp only [haf]; rw [if_neg (by intro hc; simp_all)]) ?_
  exact J_return (()) Tryz.results72 (.tmp Z .nil) Z SU
  have haf : afterQ (kTell (kDec k) (kForget { s with rt := del s.rt i } i) (i, q.e.tag, q.e.op, r, v, false)).rt i = none := by
   cases hz : afterQ (kTell (kDec k) (kForget { s with rt := del s.rt i } i) (i, q.e.tag, q.e.op, r, v, false)).rt i with
   | none => rfl
   | some x => rw [hz] at h49; simp at h49
  refine gz Z Z Z Z Z <| gz Z Z Z Z Z <| L_pur Z (p_pick_f Z Z) <| mv Z Z <| gz Z Z Z Z Z <| gz Z Z Z Z Z <| L_pur Z (p_pick_f Z Z) <| nq <| C_false Z <| J_skip <| qx <| ag Z Z <| nq <| J_ret <| J_pick (A := coA p _) PC <| J_asTo (B := coA p (kDec (k + 1) s i r v)) (by rw [kDec, hq]; simp only [haf]) ?_
  exact J_return (()) Tryz.results72 (.tmp Z .nil) Z SU
  refine x_alloc ty122 Z fun b9 => i1 1 Z <| xc fc16 (A1 Z) Z (coReqs) fun _ => i1 3 Z <| xc fc69 (A2 Z Z) Z (coRqGet (s := s) (i := i) PC) fun _ => ip 4 Z Z Z Z (p_move Z) <| ip 5 Z Z Z Z (p_extract Z Z) <| ip 6 Z Z Z Z (p_extract Z Z) <| i1 8 Z <| x_store Z Z ty122 Z SM SM RO PT <| ip 9 Z Z Z Z (p_assign Z) <| i0 <| Q_then <| J_seq <| sr <| mv Z Z <| L_pur Z (p_not Z) <| nq <| J_bool (t := 21) (c := false) Z (by rw [hq]; rfl) <| C_false Z <| J_skip <| Q_then <| J_seq <| J_drawL (some 3) mixed <| ip 0 Z Z Z Z (p_move Z) <| iv 2 Z Z Z Z (fun _ => v_loadA Z ty36 HS CT) <| i1 1 Z <| xc fc16 (A1 Z) Z (coReqs) fun _ => i1 3 Z <| xc fc119 (A2 Z Z) Z (coRqDrop (s := s) (i := i) PC) fun _ => i0 <| qx <| mv Z Z <| L_val Z (v_loadA Z ty36 HS CT) <| xo fc120 (A2 Z Z) Z (coForget (s := { s with rt := del s.rt i }) (i := i) PC hF1) fun _ => ?_
  refine nx <| mv Z Z <| L_val Z (v_loadA Z ty36 HS CT) <| fa Z Z fa122_1 <| fa Z Z fa34_2 <| L_val Z (v_load Z ty22 HS (by exact rfl)) <| fa Z Z fa122_1 <| fa Z Z fa34_0 <| L_val Z (v_load Z ty3 HS (by exact rfl)) <| mv Z Z <| mv Z Z <| L_pur Z (bld45 (.cons Z (.cons Z (.cons Z (.cons Z (.cons Z .nil))))) (by repeat constructor)) <| J_slot (t := 39) (v := .agg (encD (i, q.e.tag, q.e.op, r, v, false)).toArray) Z (by rw [hq]; rfl) <| xo fc121 (A2 Z Z) Z (coTell (s := (kForget { s with rt := del s.rt i } i)) (d := (i, q.e.tag, q.e.op, r, v, false)) PC (hD k Z) hn2 (hF1.forget i) hF.mm) fun _ => nq <| J_seq <| J_seq <| J_drawL none mixed <| ip 0 Z Z Z Z (p_move Z) <| iv 2 Z Z Z Z (fun _ => v_loadA Z ty36 HS CT) <| I_ready (rs := [1, 7]) SI (by kernel_rfl) (by simp) <| (I_cons Z ?_ (I_cons Z ?_ I_nil))
  refine xc fc16 (A1 Z) Z (coReqs) fun _ => I_ready (rs := [3, 7]) SI (by kernel_rfl) (by simp) <| (I_cons Z ?_ (I_cons Z ?_ I_nil))
  refine xc fc122 (A2 Z Z) Z (coRqAfter (s := (kTell (kDec k) (kForget { s with rt := del s.rt i } i) (i, q.e.tag, q.e.op, r, v, false))) (i := i) PC hF3.1.ids (by have := hF3.1.jn; have := hF3.1.mm; omega)) fun _ => ip 4 Z Z Z Z (p_move Z) <| ip 5 Z Z Z Z (p_extract Z Z) <| ip 6 Z Z Z Z (p_extract Z Z) <| i1 7 Z <| x_alloc ty122 Z fun b11 => i1 8 Z <| x_store Z Z ty122 Z SM SM RO PT <| ip 9 Z Z Z Z (p_assign Z) <| i0 <| qx <| mv Z Z <| mv Z Z <| J_gsplit (t := 49) Z (fun h49 => ?_) (fun h49 => ?_)
  obtain ⟨x, haf⟩ : ∃ x, afterQ (kTell (kDec k) (kForget { s with rt := del s.rt i } i) (i, q.e.tag, q.e.op, r, v, false)).rt i = some x := by
   cases hz : afterQ (kTell (kDec k) (kForget { s with rt := del s.rt i } i) (i, q.e.tag, q.e.op, r, v, false)).rt i with
   | none => rw [hz] at h49; simp at h49
   | some x => exact ⟨x, rfl⟩
  refine J_pick (A := blk b11 _ _) PC <| J_asTo (B := blk b11 122 (encQ x)) (by rw [haf]; rfl) <| gp Z Z Z (p_fieldAddr Z fa122_3) Z <| L_op <| G_on Z Z Z <| J_val (v_load Z ty4 HS (by exact rfl)) Z Z Z <| L_pur Z (p_pick_t Z Z) <| mv Z Z <| J_gsplit (t := 53) Z (fun h53 => ?_) (fun h53 => ?_)
  refine gp Z Z Z (p_move Z) Z <| gp Z Z Z (p_lss Z Z) Z <| L_pur Z (p_pick_t Z Z) <| nq <| C_dec Z (fun h56 => ?_) (fun h56 => ?_)
  refine J_region <| mv Z Z <| fa Z Z fa122_0 <| L_val Z (v_loadA Z ty36 HS CT) <| xo fc72 (A4 Z Z Z Z) Z (hD k Z _ _ _ p (kTell (kDec k) (kForget { s with rt := del s.rt i } i) (i, q.e.tag, q.e.op, r, v, false)) x.id (-9) 0 PC (Nat.le_trans hF3.2 hn2) hF3.1) fun _ => nx <| ag Z Z <| nq <| J_ret <| J_pick (A := coA p _) PC <| J_asTo (B := coA p (kDec (k + 1) s i r v)) (by rw [kDec, hq]; simp only [haf]; rw [if_pos ⟨h53, h56⟩]) ?_
  exact J_return (()) Tryz.results72 (.tmp Z .nil) Z SU
  refine J_skip <| qx <| ag Z Z <| nq <| J_ret <| J_pick (A := coA p _) PC <| J_asTo (B := coA p (kDec (k + 1) s i r v)) (by rw [kDec, hq]; simp only [haf]; rw [if_neg (by intro hc; simp_all)]) ?_
  exact J_return (()) Tryz.results72 (.tmp Z .nil) Z SU
  refine gz Z Z Z Z Z <| gz Z Z Z Z Z <| L_pur Z (p_pick_f Z Z) <| nq <| C_false Z <| J_skip <| qx <| ag Z Z <| nq <| J_ret <| J_pick (A := coA p _) PC <| J_asTo (B := coA p (kDec (k + 1) s i r v)) (by rw [kDec, hq]; simp only [haf]; rw [if_neg (by intro hc; simp_all)]) ?_
  exact J_return (()) Tryz.results72 (.tmp Z .nil) Z SU
  have haf : afterQ (kTell (kDec k) (kForget { s with rt := del s.rt i } i) (i, q.e.tag, q.e.op, r, v, false)).rt i = none := by
   cases hz : afterQ (kTell (kDec k) (kForget { s with rt := del s.rt i } i) (i, q.e.tag, q.e.op, r, v, false)).rt i with
   | none => rfl
   | some x => rw [hz] at h49; simp at h49
  refine gz Z Z Z Z Z <| gz Z Z Z Z Z <| L_pur Z (p_pick_f Z Z) <| mv Z Z <| gz Z Z Z Z Z <| gz Z Z Z Z Z <| L_pur Z (p_pick_f Z Z) <| nq <| C_false Z <| J_skip <| qx <| ag Z Z <| nq <| J_ret <| J_pick (A := coA p _) PC <| J_asTo (B := coA p (kDec (k + 1) s i r v)) (by rw [kDec, hq]; simp only [haf]) ?_
  exact J_return (()) Tryz.results72 (.tmp Z .nil) Z SU
  refine x_alloc ty122 Z fun b11 => i1 3 Z <| xc fc122 (A2 Z Z) Z (coRqAfter (s := (kTell (kDec k) (kForget { s with rt := del s.rt i } i) (i, q.e.tag, q.e.op, r, v, false))) (i := i) PC hF3.1.ids (by have := hF3.1.jn; have := hF3.1.mm; omega)) fun _ => ip 4 Z Z Z Z (p_move Z) <| ip 5 Z Z Z Z (p_extract Z Z) <| ip 6 Z Z Z Z (p_extract Z Z) <| i1 8 Z <| x_store Z Z ty122 Z SM SM RO PT <| ip 9 Z Z Z Z (p_assign Z) <| i0 <| qx <| mv Z Z <| mv Z Z <| J_gsplit (t := 49) Z (fun h49 => ?_) (fun h49 => ?_)
  obtain ⟨x, haf⟩ : ∃ x, afterQ (kTell (kDec k) (kForget { s with rt := del s.rt i } i) (i, q.e.tag, q.e.op, r, v, false)).rt i = some x := by
   cases hz : afterQ (kTell (kDec k) (kForget { s with rt := del s.rt i } i) (i, q.e.tag, q.e.op, r, v, false)).rt i with
   | none => rw [hz] at h49; simp at h49
   | some x => exact ⟨x, rfl⟩
  refine J_pick (A := blk b11 _ _) PC <| J_asTo (B := blk b11 122 (encQ x)) (by rw [haf]; rfl) <| gp Z Z Z (p_fieldAddr Z fa122_3) Z <| L_op <| G_on Z Z Z <| J_val (v_load Z ty4 HS (by exact rfl)) Z Z Z <| L_pur Z (p_pick_t Z Z) <| mv Z Z <| J_gsplit (t := 53) Z (fun h53 => ?_) (fun h53 => ?_)
  refine gp Z Z Z (p_move Z) Z <| gp Z Z Z (p_lss Z Z) Z <| L_pur Z (p_pick_t Z Z) <| nq <| C_dec Z (fun h56 => ?_) (fun h56 => ?_)
  refine J_region <| mv Z Z <| fa Z Z fa122_0 <| L_val Z (v_loadA Z ty36 HS CT) <| xo fc72 (A4 Z Z Z Z) Z (hD k Z _ _ _ p (kTell (kDec k) (kForget { s with rt := del s.rt i } i) (i, q.e.tag, q.e.op, r, v, false)) x.id (-9) 0 PC (Nat.le_trans hF3.2 hn2) hF3.1) fun _ => nx <| ag Z Z <| nq <| J_ret <| J_pick (A := coA p _) PC <| J_asTo (B := coA p (kDec (k + 1) s i r v)) (by rw [kDec, hq]; simp only [haf]; rw [if_pos ⟨h53, h56⟩]) ?_
  exact J_return (()) Tryz.results72 (.tmp Z .nil) Z SU
  refine J_skip <| qx <| ag Z Z <| nq <| J_ret <| J_pick (A := coA p _) PC <| J_asTo (B := coA p (kDec (k + 1) s i r v)) (by rw [kDec, hq]; simp only [haf]; rw [if_neg (by intro hc; simp_all)]) ?_
  exact J_return (()) Tryz.results72 (.tmp Z .nil) Z SU
  refine gz Z Z Z Z Z <| gz Z Z Z Z Z <| L_pur Z (p_pick_f Z Z) <| nq <| C_false Z <| J_skip <| qx <| ag Z Z <| nq <| J_ret <| J_pick (A := coA p _) PC <| J_asTo (B := coA p (kDec (k + 1) s i r v)) (by rw [kDec, hq]; simp only [haf]; rw [if_neg (by intro hc; simp_all)]) ?_
  exact J_return (()) Tryz.results72 (.tmp Z .nil) Z SU
  have haf : afterQ (kTell (kDec k) (kForget { s with rt := del s.rt i } i) (i, q.e.tag, q.e.op, r, v, false)).rt i = none := by
   cases hz : afterQ (kTell (kDec k) (kForget { s with rt := del s.rt i } i) (i, q.e.tag, q.e.op, r, v, false)).rt i with
   | none => rfl
   | some x => rw [hz] at h49; simp at h49
  refine gz Z Z Z Z Z <| gz Z Z Z Z Z <| L_pur Z (p_pick_f Z Z) <| mv Z Z <| gz Z Z Z Z Z <| gz Z Z Z Z Z <| L_pur Z (p_pick_f Z Z) <| nq <| C_false Z <| J_skip <| qx <| ag Z Z <| nq <| J_ret <| J_pick (A := coA p _) PC <| J_asTo (B := coA p (kDec (k + 1) s i r v)) (by rw [kDec, hq]; simp only [haf]) ?_
  exact J_return (()) Tryz.results72 (.tmp Z .nil) Z SU
  refine x_alloc ty122 Z fun b11 => i1 1 Z <| xc fc16 (A1 Z) Z (coReqs) fun _ => i1 3 Z <| xc fc122 (A2 Z Z) Z (coRqAfter (s := (kTell (kDec k) (kForget { s with rt := del s.rt i } i) (i, q.e.tag, q.e.op, r, v, false))) (i := i) PC hF3.1.ids (by have := hF3.1.jn; have := hF3.1.mm; omega)) fun _ => ip 4 Z Z Z Z (p_move Z) <| ip 5 Z Z Z Z (p_extract Z Z) <| ip 6 Z Z Z Z (p_extract Z Z) <| i1 8 Z <| x_store Z Z ty122 Z SM SM RO PT <| ip 9 Z Z Z Z (p_assign Z) <| i0 <| qx <| mv Z Z <| mv Z Z <| J_gsplit (t := 49) Z (fun h49 => ?_) (fun h49 => ?_)
  obtain ⟨x, haf⟩ : ∃ x, afterQ (kTell (kDec k) (kForget { s with rt := del s.rt i } i) (i, q.e.tag, q.e.op, r, v, false)).rt i = some x := by
   cases hz : afterQ (kTell (kDec k) (kForget { s with rt := del s.rt i } i) (i, q.e.tag, q.e.op, r, v, false)).rt i with
   | none => rw [hz] at h49; simp at h49
   | some x => exact ⟨x, rfl⟩
  refine J_pick (A := blk b11 _ _) PC <| J_asTo (B := blk b11 122 (encQ x)) (by rw [haf]; rfl) <| gp Z Z Z (p_fieldAddr Z fa122_3) Z <| L_op <| G_on Z Z Z <| J_val (v_load Z ty4 HS (by exact rfl)) Z Z Z <| L_pur Z (p_pick_t Z Z) <| mv Z Z <| J_gsplit (t := 53) Z (fun h53 => ?_) (fun h53 => ?_)
  refine gp Z Z Z (p_move Z) Z <| gp Z Z Z (p_lss Z Z) Z <| L_pur Z (p_pick_t Z Z) <| nq <| C_dec Z (fun h56 => ?_) (fun h56 => ?_)
  refine J_region <| mv Z Z <| fa Z Z fa122_0 <| L_val Z (v_loadA Z ty36 HS CT) <| xo fc72 (A4 Z Z Z Z) Z (hD k Z _ _ _ p (kTell (kDec k) (kForget { s with rt := del s.rt i } i) (i, q.e.tag, q.e.op, r, v, false)) x.id (-9) 0 PC (Nat.le_trans hF3.2 hn2) hF3.1) fun _ => nx <| ag Z Z <| nq <| J_ret <| J_pick (A := coA p _) PC <| J_asTo (B := coA p (kDec (k + 1) s i r v)) (by rw [kDec, hq]; simp only [haf]; rw [if_pos ⟨h53, h56⟩]) ?_
  exact J_return (()) Tryz.results72 (.tmp Z .nil) Z SU
  refine J_skip <| qx <| ag Z Z <| nq <| J_ret <| J_pick (A := coA p _) PC <| J_asTo (B := coA p (kDec (k + 1) s i r v)) (by rw [kDec, hq]; simp only [haf]; rw [if_neg (by intro hc; simp_all)]) ?_
  exact J_return (()) Tryz.results72 (.tmp Z .nil) Z SU
  refine gz Z Z Z Z Z <| gz Z Z Z Z Z <| L_pur Z (p_pick_f Z Z) <| nq <| C_false Z <| J_skip <| qx <| ag Z Z <| nq <| J_ret <| J_pick (A := coA p _) PC <| J_asTo (B := coA p (kDec (k + 1) s i r v)) (by rw [kDec, hq]; simp only [haf]; rw [if_neg (by intro hc; simp_all)]) ?_
  exact J_return (()) Tryz.results72 (.tmp Z .nil) Z SU
  have haf : afterQ (kTell (kDec k) (kForget { s with rt := del s.rt i } i) (i, q.e.tag, q.e.op, r, v, false)).rt i = none := by
   cases hz : afterQ (kTell (kDec k) (kForget { s with rt := del s.rt i } i) (i, q.e.tag, q.e.op, r, v, false)).rt i with
   | none => rfl
   | some x => rw [hz] at h49; simp at h49
  refine gz Z Z Z Z Z <| gz Z Z Z Z Z <| L_pur Z (p_pick_f Z Z) <| mv Z Z <| gz Z Z Z Z Z <| gz Z Z Z Z Z <| L_pur Z (p_pick_f Z Z) <| nq <| C_false Z <| J_skip <| qx <| ag Z Z <| nq <| J_ret <| J_pick (A := coA p _) PC <| J_asTo (B := coA p (kDec (k + 1) s i r v)) (by rw [kDec, hq]; simp only [haf]) ?_
  exact J_return (()) Tryz.results72 (.tmp Z .nil) Z SU
theorem decC : ∀ n N M, DecC n N M
  | 0, N, M => fun E l m p s i r v hp hn hF => coDecStep hp (fun k h => by cases h) hn hF
  | n + 1, N, M => fun E l m p s i r v hp hn hF => coDecStep hp (fun k h => by cases h; exact decC n N M) hn hF
theorem coDecide (hp : Pick (coA p s) l m) (hF : Fits s N M) : Con Tryz.prog 72 #[.pointer (some ⟨p, 0, none⟩), .agg (encI i).toArray, .int .i64 r, .int .u32 v] E l (fun _ : Unit => .bool (look s.rt i).isSome) (fun _ => coA p (kDec s.rt.length s i r v) :: m) := decC s.rt.length N M E l m p s i r v hp (Nat.le_refl _) hF
/-! ### plain: a ring that has room -/
def Rdy (s : KS) (g c t : Int) : Prop := ∃ b r, look s.rg g = some (b, r) ∧ r.over = [] ∧ r.tail = t ∧ r.cb = 4 ∧ r.cq = c ∧ getN (rowAt s.mem c) 0 4 = 0
theorem getN_far {bs ys : List Int} {a : Nat} (h : 4 ≤ a) (hl : a ≤ bs.length) : getN (putB bs a ys) 0 4 = getN bs 0 4 := by
  have e : ∀ k, k < 4 → byteAt (putB bs a ys) (0 + k) = byteAt bs (0 + k) := fun k hk => by
    unfold byteAt putB
    rw [List.append_assoc, List.getElem?_append_left (by simp; omega), List.getElem?_take_of_lt (by omega)]
  simp only [getN, e 0 (by omega), e 1 (by omega), e 2 (by omega), e 3 (by omega)]
variable {ms : List (List Int)}
theorem getN_row {r : Rg} (hr : RgOk r) (hM : MemOk ms) (c : Cqe) : getN (rgRow r ms c) 0 4 = getN (rowAt ms r.cq) 0 4 := by
  obtain ⟨h1, h2, h3⟩ := hM.at hr.cq
  have h4 := place_in hr
  unfold rgRow
  rw [getN_far (by omega) (by rw [putB_len (by rw [bytesX_len]; omega), h2]; omega), getN_far (by omega) (by rw [h2]; omega)]
theorem rowAt_set {u c : Int} {x : List Int} (hu : 1 ≤ u ∧ u ≤ 64) (hc : 1 ≤ c) (hl : ms.length = 64) : rowAt (ms.set (u - 1).toNat x) c = if c = u then x else rowAt ms c := by
  unfold rowAt
  by_cases h : c = u
  · subst h; rw [if_pos rfl, List.getElem?_set_self (by omega)]; rfl
  · rw [if_neg h, List.getElem?_set_ne (by omega)]
theorem rdy_ok {r : Rg} {t : Int} (h1 : r.over = []) (h2 : r.tail = t) (h3 : r.cb = 4) (h4 : getN (rowAt ms r.cq) 0 4 = 0) (ht : 0 ≤ t ∧ t < 16) : postOk r ms = true := by
  unfold postOk rgWrOk rgFar
  rw [h1, h2, h3, h4, Int.sub_zero, wrap32u_of (by omega)]
  simp only [List.isEmpty_nil, Bool.true_and, decide_eq_true_eq]
  show t < 2 ^ 4
  omega
theorem look_updO {α : Type} {u g : Int} {f : α → α} : ∀ {xs : List (Int × Nat × α)}, look (updO xs u f) g = (look xs g).map fun x => if g = u then (x.1, f x.2) else x
  | [] => rfl
  | x :: xs => by
    unfold updO
    rw [List.map_cons, look_cons, look_cons, show List.map _ xs = updO xs u f from rfl, look_updO]
    by_cases hx : x.1 = u
    · rw [if_pos hx]
      by_cases hg : x.1 = g
      · simp [hg, hg ▸ hx]
      · simp [hg]
    · rw [if_neg hx]
      by_cases hg : x.1 = g
      · have : ¬ g = u := fun e => hx (hg.trans e)
        simp [hg, this]
      · simp [hg]
theorem kPost_some {b : Nat} {r : Rg} (h : look s.rg d.1.1 = some (b, r)) : kPost s d = { s with rg := updO s.rg d.1.1 (fun r => postR r s.mem (ofD d)), mem := postM r s.mem (ofD d) } := by
  unfold kPost; rw [h]
theorem kPost_rg {b : Nat} {r : Rg} (h : look s.rg d.1.1 = some (b, r)) : (kPost s d).rg = updO s.rg d.1.1 (fun r => postR r s.mem (ofD d)) := by rw [kPost_some h]
theorem Rdy.post (hF : Fits s N M) {g c t : Int} (h : Rdy s g c t) (ht : 0 ≤ t ∧ t < 16) (hd : d.1.1 = g) : Rdy (kPost s d) g c (t + 1) := by
  subst hd
  obtain ⟨b, r, h1, h2, h3, h4, h5, h6⟩ := h
  have hro := (hF.rg _ (mem_look h1)).1
  have hr : RgOk r := hro
  have hok := rdy_ok (ms := s.mem) h2 h3 h4 (by rw [h5]; exact h6) ht
  refine ⟨b, rgUp r, ?_, h2, ?_, h4, h5, ?_⟩
  · rw [kPost_rg h1, look_updO, h1]
    simp [postR, hok]
  · show IntKind.u32.wrap (r.tail + 1) = _
    rw [h3, wrap32u_of (by omega)]
  · rw [kPost_some h1]
    show getN (rowAt (postM r s.mem (ofD d)) c) 0 4 = 0
    unfold postM
    rw [hok, if_pos rfl, ← h5, rowAt_set hr.cq hr.cq.1 hF.mem.len, if_pos rfl, getN_row hr hF.mem, h5, h6]
theorem Rdy.other (hF : Fits s N M) {g c t g2 c2 t2 : Int} (h : Rdy s g c t) (h2 : Rdy s g2 c2 t2) (hg : g ≠ g2) (hc : c ≠ c2) (hd : d.1.1 = g2) : Rdy (kPost s d) g c t := by
  subst hd
  obtain ⟨b, r, h1, e2, e3, e4, e5, e6⟩ := h
  obtain ⟨b2, r2, k1, _, _, _, k5, _⟩ := h2
  have hr : RgOk r := (hF.rg _ (mem_look h1)).1
  have hr2 : RgOk r2 := (hF.rg _ (mem_look k1)).1
  refine ⟨b, r, ?_, e2, e3, e4, e5, ?_⟩
  · rw [kPost_rg k1, look_updO, h1]
    simp [hg]
  · rw [kPost_some k1]
    show getN (rowAt (postM r2 s.mem (ofD d)) c) 0 4 = 0
    unfold postM
    split
    · rw [rowAt_set hr2.cq (by have := hr.cq; omega) hF.mem.len, if_neg (by rw [k5]; exact hc)]; exact e6
    · exact e6
def kNext (D : KS → ID → Int → Int → KS) (s : KS) (i : ID) (r : Int) : KS := match afterQ s.rt i with
  | none => s
  | some x => if x.soft = true ∧ r < 0 then D s x.id (-9) 0 else s
theorem kDec_some {q : Rq} (hq : look s.rt i = some q) : kDec (n + 1) s i r v = kNext (kDec n) (kTell (kDec n) (kForget { s with rt := del s.rt i } i) (i, q.e.tag, q.e.op, r, v, false)) i r := by
  rw [kDec, hq]
  simp only []
  generalize kTell (kDec n) (kForget { s with rt := del s.rt i } i) (i, q.e.tag, q.e.op, r, v, false) = t
  unfold kNext
  cases afterQ t.rt i <;> rfl
/-! ### plain: a row of requests, each on the one ahead -/
section
variable {soft : List Bool} {a j n : Nat}
end
end Go.Pse
namespace Go.Pse
open Go.RowKit Go.ChangeShapes Go.WideShapes Go.Deep
inductive Leaf where
  | int (k : IntKind)
  | bool
def Leaf.ok : Leaf → Value → Prop
  | .int k, v => ∃ n, v = .int k n ∧ k.min ≤ n ∧ n ≤ k.max
  | .bool, v => ∃ b, v = .bool b
def Shape : List Leaf → List Value → Prop
  | [], [] => True
  | k :: ks, v :: vs => k.ok v ∧ Shape ks vs
  | _, _ => False
def leafFs (P : Program) (lv : TypeId → Option (List Leaf)) : List Field → Nat → Option (List Leaf)
  | [], _ => some []
  | f :: fs, o => match lv f.type with
    | some ks => if f.offset = o ∧ P.cellsOf f.type = ks.length then (match leafFs P lv fs (o + ks.length) with
      | some r => some (ks ++ r)
      | none => none) else none
    | none => none
def leaves (P : Program) : Nat → TypeId → Option (List Leaf)
  | 0, _ => none
  | n + 1, t => match P.underlying t with
    | some (.int k) => some [.int k]
    | some .bool => some [.bool]
    | some (.struct fs) => leafFs P (leaves P n) fs.toList 0
    | _ => none
theorem Shape.nil_inv {vs : List Value} (h : Shape [] vs) : vs = [] := by
  cases vs with
  | nil => rfl
  | cons v vs => exact h.elim
theorem Shape.cons_inv {k : Leaf} {ks : List Leaf} {vs : List Value} (h : Shape (k :: ks) vs) : ∃ v vs', vs = v :: vs' ∧ k.ok v ∧ Shape ks vs' := by
  cases vs with
  | nil => exact h.elim
  | cons v vs => exact ⟨v, vs, rfl, h.1, h.2⟩
theorem Shape.length : ∀ {ks : List Leaf} {vs : List Value}, Shape ks vs → vs.length = ks.length
  | [], vs, h => by rw [h.nil_inv]; rfl
  | _ :: _, _, h => by obtain ⟨v, vs', rfl, _, h'⟩ := h.cons_inv; simp [h'.length]
theorem Shape.append : ∀ {ks ks' : List Leaf} {vs vs' : List Value}, Shape ks vs → Shape ks' vs' → Shape (ks ++ ks') (vs ++ vs')
  | [], _, vs, _, h, h' => by rw [h.nil_inv]; exact h'
  | _ :: _, _, _, _, h, h' => by obtain ⟨v, ws, rfl, hv, h2⟩ := h.cons_inv; exact ⟨hv, h2.append h'⟩
theorem Shape.ones : ∀ {ks : List Leaf} {vs : List Value}, Shape ks vs → ones vs = true
  | [], vs, h => by rw [h.nil_inv]; rfl
  | k :: _, _, h => by
    obtain ⟨v, ws, rfl, hv, h2⟩ := h.cons_inv
    have h3 : v.oneCell' = true := by
      cases k with
      | int k => obtain ⟨n, rfl, _⟩ := hv; rfl
      | bool => obtain ⟨b, rfl⟩ := hv; rfl
    have h4 := h2.ones
    unfold Pse.ones at h4 ⊢
    simp [h3, h4]
section
variable {H : Type} {enc : TypeId × Value → H} {P : Program} {W : World} {base b0 : Nat} {spare : Nat → Bool} {held : Bool}
theorem shape_fs {lv : TypeId → Option (List Leaf)} {cs : List Value} : ∀ (fs : List Field) (o : Nat) (ks : List Leaf), leafFs P lv fs o = some ks → (∀ f ∈ fs, ∀ ks', lv f.type = some ks' → P.cellsOf f.type = ks'.length → Shape ks' ((cs.drop f.offset).take (P.cellsOf f.type))) → cs.length = o + ks.length → Shape ks (cs.drop o)
  | [], o, ks, h, _, hl => by
    simp only [leafFs, Option.some.injEq] at h
    subst h
    rw [List.drop_of_length_le (by simp at hl; omega)]
    trivial
  | f :: fs, o, ks, h, hf, hl => by
    simp only [leafFs] at h
    split at h
    · rename_i ks1 h1
      split at h
      · rename_i h2
        split at h
        · rename_i r hr
          simp only [Option.some.injEq] at h
          subst h
          obtain ⟨ho, hc⟩ := h2
          have s1 := hf f (by simp) ks1 h1 hc
          rw [ho, hc] at s1
          have s2 := shape_fs fs (o + ks1.length) r hr (fun g hg => hf g (List.mem_cons_of_mem _ hg)) (by simp at hl; omega)
          have e : cs.drop o = (cs.drop o).take ks1.length ++ cs.drop (o + ks1.length) := by rw [← List.drop_drop, List.take_append_drop]
          rw [e]
          exact s1.append s2
        · cases h
      · cases h
    · cases h
theorem shape_trod : ∀ (n : Nat) (t : TypeId) (ks : List Leaf) (fuel : Nat) (cs : List Value) (x : DataW H × List MemPlace), leaves P n t = some ks → P.cellsOf t = ks.length → DataW.trod enc P W base spare held fuel t cs = some x → Shape ks cs
  | 0, _, _, _, _, _, h, _, _ => by cases h
  | n + 1, t, ks, fuel, cs, x, h, hc, hx => by
    simp only [leaves] at h
    split at h
    · rename_i k hu
      cases h
      obtain ⟨z, rfl, _, hw⟩ := DataW.trod_int hu hx
      refine ⟨⟨z, rfl, ?_⟩, trivial⟩
      simpa [Lit.wf] using hw
    · rename_i hu
      cases h
      obtain ⟨z, rfl, _⟩ := DataW.trod_bool hu hx
      exact ⟨⟨z, rfl⟩, trivial⟩
    · rename_i fs hu
      obtain ⟨xs, m, _, _, hl, hxl, hg⟩ := DataW.trod_struct hu hx
      have := shape_fs (cs := cs) fs.toList 0 ks h (fun f hf ks' hk hck => by
        obtain ⟨j, hj⟩ := List.mem_iff_getElem?.1 hf
        have hj' : fs[j]? = some f := by simpa using hj
        have hjl : j < xs.length := by rw [hxl]; exact (Array.getElem?_eq_some_iff.1 hj').1
        have h1 := hg j f hj'
        rw [List.getElem?_eq_getElem hjl] at h1
        exact shape_trod n f.type ks' m _ _ hk hck h1) (by rw [hl, hc]; omega)
      simpa using this
    · cases h
variable {n : Nat}
theorem open_row {t e : TypeId} {ks : List Leaf} {r : Reach} {v : Value} {d : DataW H} {ps : List MemPlace} (ht : P.underlying t = some (.slice e)) (hk : leaves P n e = some ks) (hc : P.cellsOf e = ks.length) (hv : Value.okWide P W r b0 t v)
    (h : DataW.Trod enc P W base spare held t v d ps) : ∃ xs, Reads W ks.length v xs ∧ ∀ x ∈ xs, Shape ks x := by
  have hv1 : v = .slice none 0 0 ∨ ∃ a len cap, v = .slice (some a) len cap ∧ len ≤ cap ∧ (cap : Int) ≤ IntKind.i64.max ∧ a.spot = none := by
    simp only [Value.okWide, ht, Cell.okWide] at hv
    cases v with
    | slice a len cap =>
      cases a with
      | none =>
        left
        cases len with
        | zero => cases cap with
          | zero => rfl
          | succ c => simp [Cell.ok, ht] at hv
        | succ l => simp [Cell.ok, ht] at hv
      | some a =>
        simp only [Cell.ok, ht] at hv
        exact .inr ⟨a, len, cap, rfl, hv.1, hv.2.1, hv.2.2.2.1⟩
    | _ => simp [Cell.ok, ht] at hv
  obtain ⟨fuel, hf⟩ := h
  rcases hv1 with rfl | ⟨a, len, cap, rfl, hlc, hcm, hsp⟩
  · exact ⟨[], ⟨Wf.nil, none, 0, rfl, Nat.le_refl _, by simp [maxLen], fun _ => ⟨rfl, rfl⟩, fun _ h => by cases h⟩, fun _ h => by cases h⟩
  · rcases open_slice ht hf with ⟨h0, _⟩ | ⟨a', len', cap', m, n', D, Pl, h0, _, hl, hm, hmm, _, hi⟩
    · simp [Value.cells] at h0
    · simp only [Value.cells, List.cons.injEq, Value.slice.injEq, Option.some.injEq] at h0
      obtain ⟨⟨rfl, rfl, rfl⟩, _⟩ := h0
      have hlm : len ≤ m := by rw [hmm]; split <;> omega
      have each : ∀ i, i < len → ∃ c : List Value, Shape ks c ∧ ∀ j, j < ks.length → W.cell? (a.add (i * ks.length + j)) = c[j]? := fun i hil => by
        obtain ⟨c, h1, h2⟩ := hi i (by omega)
        obtain ⟨_, hcl, hat⟩ := World.cells?_some h1
        rw [hc] at hat
        exact ⟨c, shape_trod n e ks _ c _ hk hc h2, fun j hj => by rw [← hat j hj, Deep.add_add]⟩
      obtain ⟨f, hf⟩ := choose_lt each
      have hml : ∀ x ∈ (List.range len).map f, Shape ks x := fun x hx => by
        obtain ⟨i, hi, rfl⟩ := List.mem_map.1 hx
        exact (hf i (by simpa using hi)).1
      have hwf : Wf ks.length ((List.range len).map f) := fun x hx => ⟨(hml x hx).length, (hml x hx).ones⟩
      refine ⟨(List.range len).map f, ⟨hwf, some a, cap, by simp, by simpa using hl, hm, (fun h => by cases h), fun ad had => ?_⟩, hml⟩
      cases had
      refine ⟨hsp, fun j u hu => ?_⟩
      have hlt := (List.getElem?_eq_some_iff.1 hu).1
      rw [hwf.len] at hlt
      have hpos : 0 < ks.length := Nat.pos_of_ne_zero fun h => by rw [h] at hlt; simp at hlt
      have hjq : j / ks.length < len := by rw [Nat.div_lt_iff_lt_mul hpos]; simpa using hlt
      have hjm : j % ks.length < ks.length := Nat.mod_lt _ hpos
      have hj : j / ks.length * ks.length + j % ks.length = j := by rw [Nat.mul_comm]; exact Nat.div_add_mod j ks.length
      have hget : ((List.range len).map f)[j / ks.length]? = some (f (j / ks.length)) := by simp [hjq]
      have := hwf.get hget hjm
      rw [hj, hu] at this
      rw [← hj, (hf _ hjq).2 _ hjm, this]
end
theorem decodeRows {D : Type} {enc : D → List Value} {ok : D → Prop} {q : List Value → Prop} (h : ∀ x, q x → ∃ d, x = enc d ∧ ok d) : ∀ (xs : List (List Value)), (∀ x ∈ xs, q x) → ∃ ds : List D, xs = ds.map enc ∧ ∀ d ∈ ds, ok d
  | [], _ => ⟨[], rfl, fun _ h => by cases h⟩
  | x :: xs, hx => by
    obtain ⟨d, rfl, hd⟩ := h x (hx x (by simp))
    obtain ⟨ds, rfl, hds⟩ := decodeRows h xs fun y hy => hx y (List.mem_cons_of_mem _ hy)
    exact ⟨d :: ds, rfl, fun e he => (List.mem_cons.1 he).elim (fun h => h ▸ hd) (hds e)⟩
theorem dec_int {k : IntKind} {x : List Value} (h : Shape [.int k] x) : ∃ z : Int, x = [.int k z] ∧ k.min ≤ z ∧ z ≤ k.max := by
  obtain ⟨v, vs, rfl, ⟨b, rfl, hb⟩, h2⟩ := h.cons_inv
  rw [h2.nil_inv]; exact ⟨b, rfl, hb⟩
end Go.Pse
namespace Go.Pse
open Go.RowKit Go.Proofs
theorem zrow_ok : MemOk (List.replicate 64 zrow) := ⟨List.length_replicate, fun r hr => by
  rw [List.eq_of_mem_replicate hr]
  exact ⟨List.length_replicate, fun x hx => by rw [List.eq_of_mem_replicate hx]; omega⟩⟩
variable {u : Int}
theorem rowAt_zero (hu : 1 ≤ u ∧ u ≤ 64) : rowAt (List.replicate 64 zrow) u = zrow := by
  unfold rowAt
  rw [List.getElem?_replicate, if_pos (by omega)]; rfl
structure One (K : KS) (cs cc : Int) (g : NewG) : Prop where
  rt : K.rt = []
  jn : K.jn = []
  nt : K.nt = []
  rg : K.rg = [(4, (g.bs 0).1, rgNew 5 6 cs cc)]
  mem : K.mem = List.replicate 64 zrow
  fit : Fits K 20 40
def q7 : Rq := ⟨(4, 1), ⟨1, 0, 7, 0, 0, 0, 0, 0⟩, 0, false, false⟩
def ntW (i : ID) (a : Int × List ID) : Int × List ID := (0, waitL a.1 a.2 i)
/-! ### plain: two threads that share; the first ring's requests -/
/-! ### plain: deadlines -/
def cmpI (a b : Int) : Int := if a < b then -1 else if b < a then 1 else 0
def orI (zs : List Int) : Int := (zs.find? fun z => !decide (z = 0)).getD 0
def ordT (a b : Tm) : Int := orI [cmpI a.1 b.1, cmpI a.2.1 b.2.1, cmpI a.2.2 b.2.2]
def ltI (a b : ID) : Bool := decide (a.1 < b.1) || decide (a.1 = b.1) && decide (a.2 < b.2)
def ltT (a b : Tm) : Bool := decide (a.1 < b.1) || decide (a.1 = b.1) && ltI a.2 b.2
theorem cmpI_cases (a b : Int) : (a < b ∧ cmpI a b = -1) ∨ (b < a ∧ cmpI a b = 1) ∨ (a = b ∧ cmpI a b = 0) := by
  unfold cmpI
  by_cases h1 : a < b
  · exact .inl ⟨h1, by simp [h1]⟩
  · by_cases h2 : b < a
    · exact .inr (.inl ⟨h2, by simp [h1, h2]⟩)
    · exact .inr (.inr ⟨by omega, by simp [h1, h2]⟩)
theorem ordT_neg (a b : Tm) : decide (ordT a b < 0) = ltT a b := by
  unfold ordT ltT ltI orI
  rcases cmpI_cases a.1 b.1 with ⟨h1, e1⟩ | ⟨h1, e1⟩ | ⟨h1, e1⟩ <;> rw [e1]
  · simp [h1]
  · have n1 : ¬ a.1 < b.1 := by omega
    have n2 : ¬ a.1 = b.1 := by omega
    simp [n1, n2]
  · have n1 : ¬ a.1 < b.1 := by omega
    rcases cmpI_cases a.2.1 b.2.1 with ⟨h2, e2⟩ | ⟨h2, e2⟩ | ⟨h2, e2⟩ <;> rw [e2]
    · simp [h1, h2]
    · have m1 : ¬ a.2.1 < b.2.1 := by omega
      have m2 : ¬ a.2.1 = b.2.1 := by omega
      simp [h1, m1, m2]
    · have m1 : ¬ a.2.1 < b.2.1 := by omega
      rcases cmpI_cases a.2.2 b.2.2 with ⟨h3, e3⟩ | ⟨h3, e3⟩ | ⟨h3, e3⟩ <;> rw [e3]
      · simp [h1, h2, h3]
      · have k1 : ¬ a.2.2 < b.2.2 := by omega
        simp [h1, h2, k1]
      · have k1 : ¬ a.2.2 < b.2.2 := by omega
        simp [h1, h2, k1]
theorem ltT_iff {a b : Tm} : ltT a b = true ↔ a.1 < b.1 ∨ (a.1 = b.1 ∧ (a.2.1 < b.2.1 ∨ (a.2.1 = b.2.1 ∧ a.2.2 < b.2.2))) := by
  unfold ltT ltI; simp
theorem ltT_trans {a b c : Tm} (h1 : ltT a b = true) (h2 : ltT b c = true) : ltT a c = true := by
  rw [ltT_iff] at *; omega
theorem ltT_total {a b : Tm} (h : ltT a b = false) (hne : a.2 ≠ b.2) : ltT b a = true := by
  have h' : ¬ ltT a b = true := by simp [h]
  rw [ltT_iff] at *
  have : ¬ (a.2.1 = b.2.1 ∧ a.2.2 = b.2.2) := fun e => hne (Prod.ext e.1 e.2)
  omega
abbrev hdrop (xs : List Tm) (i : ID) : List Tm := xs.filter fun c => !isTm i c
def place (xs : List Tm) (x : Tm) : Nat := (xs.takeWhile fun c => ltT c x).length
def putT (xs : List Tm) (x : Tm) : List Tm := xs.take (place xs x) ++ x :: xs.drop (place xs x)
def hpush (xs : List Tm) (x : Tm) : List Tm := putT (hdrop xs x.2) x
def Srt (xs : List Tm) : Prop := xs.Pairwise fun a b => ltT a b = true
theorem place_le (xs : List Tm) (x : Tm) : place xs x ≤ xs.length := by
  unfold place
  induction xs with
  | nil => simp
  | cons c xs ih => rw [List.takeWhile_cons]; split <;> simp <;> omega
theorem place_iff {x : Tm} : ∀ {xs : List Tm}, Srt xs → ∀ {j : Nat} {c : Tm}, xs[j]? = some c → (ltT c x = true ↔ j < place xs x)
  | [], _, _, _, h => by simp at h
  | a :: xs, hs, j, c, h => by
    have hs' := List.pairwise_cons.1 hs
    unfold place
    rw [List.takeWhile_cons]
    by_cases ha : ltT a x = true
    · rw [if_pos ha]
      cases j with
      | zero => simp at h; subst h; simp [ha]
      | succ j =>
        have := place_iff (x := x) hs'.2 (j := j) (c := c) (by simpa using h)
        unfold place at this
        rw [this]
        simp
    · rw [if_neg ha]
      cases j with
      | zero => simp at h; subst h; simp [ha]
      | succ j =>
        have hc : c ∈ xs := List.mem_of_getElem? (by simpa using h : xs[j]? = some c)
        have h1 := hs'.1 c hc
        constructor
        · intro h2; exact absurd (ltT_trans h1 h2) ha
        · intro h2; simp at h2
variable {xs : List Tm}
theorem Srt.drop (h : Srt xs) (i : ID) : Srt (hdrop xs i) := List.Pairwise.sublist List.filter_sublist h
theorem Srt.tail (h : Srt xs) (j : Nat) : Srt (xs.drop j) := List.Pairwise.sublist (List.drop_sublist j xs) h
variable {i : ID}
theorem hdrop_ne {c : Tm} (h : c ∈ hdrop xs i) : c.2 ≠ i := by
  unfold hdrop at h
  rw [List.mem_filter, isTm_eq] at h
  simpa using h.2
theorem Srt.put {x : Tm} (h : Srt xs) (hne : ∀ c ∈ xs, c.2 ≠ x.2) : Srt (putT xs x) := by
  have hi := fun {j : Nat} {c : Tm} => place_iff (x := x) h (j := j) (c := c)
  unfold putT Srt
  have hle := place_le xs x
  have hta : ∀ a ∈ xs.take (place xs x), ltT a x = true := fun a ha => by
    obtain ⟨j, hj⟩ := List.mem_iff_getElem?.1 ha
    rw [List.getElem?_take] at hj
    split at hj
    · exact (hi hj).2 (by assumption)
    · cases hj
  have hdr : ∀ b ∈ xs.drop (place xs x), ltT x b = true := fun b hb => by
    obtain ⟨j, hj⟩ := List.mem_iff_getElem?.1 hb
    rw [List.getElem?_drop] at hj
    have hn : ¬ ltT b x = true := fun e => by have := (hi hj).1 e; omega
    exact ltT_total (by simpa using hn) (hne b (List.mem_of_getElem? hj))
  rw [List.pairwise_append]
  refine ⟨List.Pairwise.sublist (List.take_sublist _ _) h, ?_, ?_⟩
  · rw [List.pairwise_cons]
    exact ⟨hdr, List.Pairwise.sublist (List.drop_sublist _ _) h⟩
  · intro a ha b hb
    rcases List.mem_cons.1 hb with rfl | hb
    · exact hta a ha
    · exact ltT_trans (hta a ha) (hdr b hb)
theorem Srt.push (h : Srt xs) (x : Tm) : Srt (hpush xs x) := (h.drop x.2).put fun _ hc => hdrop_ne hc
theorem hdrop_len (xs : List Tm) (i : ID) : (hdrop xs i).length ≤ xs.length := List.length_filter_le _ _
def due (xs : List Tm) (now : Int) : List Tm := xs.takeWhile fun c => decide (c.1 ≤ now)
def late (xs : List Tm) (now : Int) : List Tm := xs.dropWhile fun c => decide (c.1 ≤ now)
theorem due_len (xs : List Tm) (now : Int) : (due xs now).length + (late xs now).length = xs.length := by
  rw [← List.length_append]; unfold due late; rw [List.takeWhile_append_dropWhile]
variable {now : Int} {k : Nat}
theorem due_at (hk : k ≤ xs.length) (h1 : ∀ c ∈ xs.take k, c.1 ≤ now) (h2 : ∀ c, xs[k]? = some c → ¬ c.1 ≤ now) : due xs now = xs.take k ∧ late xs now = xs.drop k := by
 induction xs generalizing k with
 | nil => simp at hk; subst hk; exact ⟨rfl, rfl⟩
 | cons a xs ih =>
  unfold due late
  rw [List.takeWhile_cons, List.dropWhile_cons]
  cases k with
  | zero =>
   have := h2 a (by simp)
   simp [this]
  | succ k =>
   have ha := h1 a (by simp)
   obtain ⟨g1, g2⟩ := ih (k := k) (by simpa using hk) (fun c hc => h1 c (by simp [hc])) (fun c hc => h2 c (by simpa using hc))
   unfold due at g1
   unfold late at g2
   simp [ha, g1, g2]
variable {E : World} {l : List As}
theorem isnan307 (a : Int) :
    Con Tryz.prog 307 #[.int .u64 a] E l (fun _ : Unit => .bool false) (fun _ => l) := by
  refine Con.body (n := 6) Tryz.func307 Z Z _ (env_ok 1 Z) <| sr <| ag Z Z <| nx <| mv Z Z <| mv Z Z <| L_pur Z (p_neq Z Z) <| ag Z Z <| nq <| J_ret <| J_return (()) Tryz.results307 (.tmp Z .nil) ?_ ?_
  · simp [one]
  · exact SU
theorem isnan125 (a : Int) :
    Con Tryz.prog 125 #[.int .i64 a] E l (fun _ : Unit => .bool false) (fun _ => l) := by
  refine Con.body (n := 6) Tryz.func125 Z Z _ (env_ok 1 Z) <| sr <| ag Z Z <| nx <| mv Z Z <| mv Z Z <| L_pur Z (p_neq Z Z) <| ag Z Z <| nq <| J_ret <| J_return (()) Tryz.results125 (.tmp Z .nil) ?_ ?_
  · simp [one]
  · exact SU
theorem compare266 (a b : Int) :
    Con Tryz.prog 266 #[.int .u64 a, .int .u64 b] E l (fun _ : Unit => .int .i64 (cmpI a b)) (fun _ => l) := by
  refine Con.body (n := 20) Tryz.func266 Z Z _ (env_ok 2 Z) <| sr <| ag Z Z <| nx <| mv Z Z <| xo fc307 (A1 Z) Z (isnan307 _) fun _ => ag Z Z <| nx <| mv Z Z <| xo fc307 (A1 Z) Z (isnan307 _) fun _ => ag Z Z <| nxx <| mv Z Z <| nq <| J_bool (t := 11) (c := false) Z (rfl) <| C_false Z <| J_skip <| Q_then <| J_seq <| sr <| mv Z Z <| nq <| J_bool (t := 13) (c := false) Z (rfl) <| C_false Z <| J_skip <| Q_then <| J_seq <| sr <| mv Z Z <| mv Z Z <| L_pur Z (p_lss Z Z) <| nq <| C_dec Z (fun h16 => ?_) (fun h16 => ?_)
  refine sr <| ag Z Z <| nq <| J_ret <| Q_then_ret <| J_return (()) Tryz.results266 (.tmp Z .nil) ?_ ?_
  · simp [one, cmpI, h16]
  · exact SU
  refine J_skip <| Q_then <| J_seq <| sr <| mv Z Z <| mv Z Z <| L_pur Z (p_gtr Z Z) <| nq <| C_dec Z (fun h19 => ?_) (fun h19 => ?_)
  refine sr <| ag Z Z <| nq <| J_ret <| Q_then_ret <| J_return (()) Tryz.results266 (.tmp Z .nil) ?_ ?_
  · simp [one, cmpI, h16, h19]
  · exact SU
  refine J_skip <| qx <| ag Z Z <| nq <| J_ret <| J_return (()) Tryz.results266 (.tmp Z .nil) ?_ ?_
  · simp [one, cmpI, h16, h19]
  · exact SU
theorem compare76 (a b : Int) :
    Con Tryz.prog 76 #[.int .i64 a, .int .i64 b] E l (fun _ : Unit => .int .i64 (cmpI a b)) (fun _ => l) := by
  refine Con.body (n := 20) Tryz.func76 Z Z _ (env_ok 2 Z) <| sr <| ag Z Z <| nx <| mv Z Z <| xo fc125 (A1 Z) Z (isnan125 _) fun _ => ag Z Z <| nx <| mv Z Z <| xo fc125 (A1 Z) Z (isnan125 _) fun _ => ag Z Z <| nxx <| mv Z Z <| nq <| J_bool (t := 11) (c := false) Z (rfl) <| C_false Z <| J_skip <| Q_then <| J_seq <| sr <| mv Z Z <| nq <| J_bool (t := 13) (c := false) Z (rfl) <| C_false Z <| J_skip <| Q_then <| J_seq <| sr <| mv Z Z <| mv Z Z <| L_pur Z (p_lss Z Z) <| nq <| C_dec Z (fun h16 => ?_) (fun h16 => ?_)
  refine sr <| ag Z Z <| nq <| J_ret <| Q_then_ret <| J_return (()) Tryz.results76 (.tmp Z .nil) ?_ ?_
  · simp [one, cmpI, h16]
  · exact SU
  refine J_skip <| Q_then <| J_seq <| sr <| mv Z Z <| mv Z Z <| L_pur Z (p_gtr Z Z) <| nq <| C_dec Z (fun h19 => ?_) (fun h19 => ?_)
  refine sr <| ag Z Z <| nq <| J_ret <| Q_then_ret <| J_return (()) Tryz.results76 (.tmp Z .nil) ?_ ?_
  · simp [one, cmpI, h16, h19]
  · exact SU
  refine J_skip <| qx <| ag Z Z <| nq <| J_ret <| J_return (()) Tryz.results76 (.tmp Z .nil) ?_ ?_
  · simp [one, cmpI, h16, h19]
  · exact SU
theorem orInts {v : Value} {zs : List Int} (hr : ∀ w, Sep E w l → Reads w 1 v (zs.map encZ)) (hb : zs.length ≤ 1000) :
    Con Tryz.prog 83 #[v] E l (fun _ : Unit => .int .i64 (orI zs)) (fun _ => l) := by
  refine Con.body (n := 18) Tryz.func83 Z Z _ (env_ok 1 Z) <| J_readsB hr fun hw a cap hv h1 h2 h3 => ?_
  subst hv
  have hm : cap ≤ 9223372036854775807 := h2
  have hml : (zs.map encZ).length = zs.length := List.length_map _
  refine sr <| ag Z Z <| nx <| ag Z Z <| nxx <| mv Z Z <| L_pur Z (p_len Z Tryz.underlying55) <| mv Z Z <| nq <| J_block <| J_loop (α := Nat) (fun k => k ≤ zs.length ∧ ∀ c ∈ zs.take k, (!decide (c = 0)) = false) (fun _ => l) (fun k => [(8, .int .i64 (k : Int)), (7, .int .i64 (zs.map encZ).length), (6, .slice a (zs.map encZ).length cap), (3, .int .i64 0)]) (fun k => zs.length - k) 0 ⟨by omega, by simp⟩ SU KE ?_
  intro k ⟨hk, hq⟩
  refine sr <| L_pur Z (p_lss Z Z) <| nq <| J_seq <| C_dec Z (fun h9 => ?_) (fun h9 => ?_)
  have hlt : k < zs.length := by omega
  obtain ⟨bx, ox, rfl⟩ := h3 (by intro h; rw [h] at hml; simp at hml; omega)
  obtain ⟨c, hcc⟩ : ∃ c, zs[k]? = some c := ⟨_, List.getElem?_eq_getElem hlt⟩
  refine J_skip <| Q_then <| J_seq <| J_block <| sr <| L_pur Z (p_indexAddr Z Z Tryz.underlying55 ty3 (by omega) (by omega)) <| L_val Z (by first | exact v_loadE1 Z ty3 HS (by first | (simp only [Int.toNat_natCast, List.getElem?_map, hcc]; rfl) | (simp only [Int.toNat_natCast, List.getElem?_map, hcd]; rfl) | simp | rfl) | exact v_loadR1 Z ty3 (fun w H => hr w (Sub.sep SU H)) (by first | (simp only [Int.toNat_natCast, List.getElem?_map, hcc]; rfl) | (simp only [Int.toNat_natCast, List.getElem?_map, hcd]; rfl) | simp | rfl)) ?_
  refine ag Z Z <| nx <| mv Z Z <| mv Z Z <| L_pur Z (p_neq Z Z) <| nq <| C_dec Z (fun h14 => ?_) (fun h14 => ?_)
  have hor : orI zs = c := by
    unfold orI
    have e : zs = zs.take k ++ c :: zs.drop (k + 1) := by
      conv => lhs; rw [← List.take_append_drop k zs, List.drop_eq_getElem_cons hlt, (List.getElem?_eq_some_iff.1 hcc).2]
    rw [e, List.find?_append, List.find?_eq_none.2 (fun x hx => by simpa using hq x hx), List.find?_cons]
    simp [h14]
  refine sr <| mv Z Z <| ag Z Z <| nq <| J_ret <| Q_blk_ret <| Q_then_ret <| Q_then_ret <| Q_blk_ret <| Q_then_ret <| J_return (()) Tryz.results83 (.tmp Z .nil) ?_ ?_
  · simp [one, hor]
  · exact SU
  refine J_skip <| Q_blk_normal <| qr <| L_pur Z (p_add64 Z Z (by omega)) <| mv Z Z <| nq ?_
  exact J_again (k + 1) (by omega) (⟨by omega, fun c hc => by rw [List.take_add_one, hcc] at hc; rcases List.mem_append.1 hc with h | h; exact hq c h; simp at h; subst h; simpa using h14⟩) SU KE
  have hke : k = zs.length := by omega
  rw [hke, List.take_length] at hq
  have hor : orI zs = 0 := by
    unfold orI
    rw [List.find?_eq_none.2 (fun x hx => by simpa using hq x hx)]; rfl
  refine J_exit <| Q_then_exit <| Q_then_exit <| Q_blk_this <| qx <| mv Z Z <| ag Z Z <| nq <| J_ret <| J_return (()) Tryz.results83 (.tmp Z .nil) ?_ ?_
  · simp [one, hor]
  · exact SU
theorem order (a b : Tm) :
  Con Tryz.prog 201 #[.agg (encT a).toArray, .agg (encT b).toArray] E l (fun _ : Unit => .int .i64 (ordT a b)) (fun _ => l) := by
 refine Con.body (n := 26) Tryz.func201 Z Z _ (env_ok 2 Z) <| sr <| L_op <| x_box Z Z Z fun b2 => L_op <| x_box Z Z Z fun b3 => ag Z Z <| nq <| J_seq <| J_drawI none [blk b2 308 (encT a), blk b3 308 (encT b)] mixed <| ip 0 Z Z Z Z (p_fieldAddr Z fa308_0) <| iv 1 Z Z Z Z (fun _ => v_load Z ty102 HS (by exact rfl)) <| ip 2 Z Z Z Z (p_fieldAddr Z fa308_0) <| iv 3 Z Z Z Z (fun _ => v_load Z ty102 HS (by exact rfl)) <| ip 5 Z Z Z Z (p_fieldAddr Z fa308_1) <| ip 6 Z Z Z Z (p_fieldAddr Z fa36_0) <| iv 7 Z Z Z Z (fun _ => v_load Z ty3 HS (by exact rfl)) <| ip 8 Z Z Z Z (p_fieldAddr Z fa308_1) <| ip 9 Z Z Z Z (p_fieldAddr Z fa36_0) <| iv 10 Z Z Z Z (fun _ => v_load Z ty3 HS (by exact rfl)) <| ip 12 Z Z Z Z (p_fieldAddr Z fa308_1) <| ip 13 Z Z Z Z (p_fieldAddr Z fa36_1) <| iv 14 Z Z Z Z (fun _ => v_load Z ty3 HS (by exact rfl)) ?_
 refine ip 15 Z Z Z Z (p_fieldAddr Z fa308_1) <| ip 16 Z Z Z Z (p_fieldAddr Z fa36_1) <| iv 17 Z Z Z Z (fun _ => v_load Z ty3 HS (by exact rfl)) <| i1 4 Z <| xc fc266 (A2 Z Z) Z (compare266 _ _) fun _ => i1 11 Z <| xc fc76 (A2 Z Z) Z (compare76 _ _) fun _ => i1 18 Z <| xc fc76 (A2 Z Z) Z (compare76 _ _) fun _ => i1 19 Z <| x_lit (vals := [_, _, _]) Tryz.underlying55 ty3 Z (.cons Z (.cons Z (.cons Z .nil))) (.one Z (.one Z (.one Z .nil))) (Wf.cons Z Z (Wf.cons Z Z (Wf.cons Z Z Wf.nil))) Z (by decide) Z Z fun v24 => J_rowEq (ys := [cmpI a.1 b.1, cmpI a.2.1 b.2.1, cmpI a.2.2 b.2.2].map encZ) (rfl) <| J_row .here fun hw24 a24 c24 hv24 hl24 hm24 hz24 => ?_
 subst hv24
 refine i1 20 Z <| xc fc83 (A1 Z) Z (orInts (zs := [cmpI a.1 b.1, cmpI a.2.1 b.2.1, cmpI a.2.2 b.2.2]) (fun w H => sep_reads (xs := [cmpI a.1 b.1, cmpI a.2.1 b.2.1, cmpI a.2.2 b.2.2].map encZ) HS H) (by simp)) fun _ => ip 21 Z Z Z Z (p_assign Z) <| i0 <| Q_then <| J_ret ?_
 exact J_return (()) Tryz.results201 (.tmp Z .nil) Z SU
theorem bsearch {v : Value} {x : Tm} (hv : Has (row 308 3 v (xs.map encT)) l) (hb : xs.length ≤ 100000) (hk : k ≤ xs.length) (hi : ∀ j c, xs[j]? = some c → (ltT c x = true ↔ j < k)) :
  Con Tryz.prog 200 #[v, .agg (encT x).toArray, .func (.func 201) #[] #[]] E l (fun q : Bool => .tuple #[.int .i64 (k : Int), .bool q]) (fun _ => l) := by
 refine Con.body (n := 49) Tryz.func200 Z Z _ (env_ok 3 Z) <| J_row hv fun hw a cap hv h1 h2 h3 => ?_
 subst hv
 have hm : cap ≤ 9223372036854775807 := h2
 have hml : (xs.map encT).length = xs.length := List.length_map _
 refine sr <| L_op <| x_box Z Z Z fun b4 => ag Z Z <| ag Z Z <| nx <| mv Z Z <| L_pur Z (p_len Z Tryz.underlying139) <| ag Z Z <| nx <| mv Z Z <| ag Z Z <| ag Z Z <| nq <| J_seq <| J_block <| J_loop2 (fun lo hi => lo ≤ k ∧ k ≤ hi ∧ hi ≤ xs.length) (fun _ _ => blk b4 308 (encT x) :: l) (fun lo hi => [(9, .int .i64 (lo : Int)), (10, .int .i64 (hi : Int)), (8, .int .i64 (xs.map encT).length), (0, .slice a (xs.map encT).length cap), (2, .func (.func 201) #[] #[]), (4, .pointer (some ⟨b4, 0, none⟩))]) (fun lo hi => hi - lo) 0 (xs.map encT).length ⟨by omega, by omega, by omega⟩ SU KE ?_
 intro lo hi2 ⟨hl1, hl2, hl3⟩
 refine J_seq <| sr <| mv Z Z <| mv Z Z <| L_pur Z (p_lss Z Z) <| nq <| C_dec Z (fun h17 => ?_) (fun h17 => ?_)
 obtain ⟨q, hq⟩ : ∃ q, q = (lo + hi2) / 2 := ⟨_, rfl⟩
 have hlt : q < xs.length := by omega
 obtain ⟨bx, ox, rfl⟩ := h3 (by intro h; rw [h] at hml; simp at hml; omega)
 obtain ⟨c, hcc⟩ : ∃ c, xs[q]? = some c := ⟨_, List.getElem?_eq_getElem hlt⟩
 refine J_skip <| Q_then <| J_block <| sr <| mv Z Z <| mv Z Z <| L_pur Z (p_add64 Z Z (by omega)) <| L_pur Z (p_conv Z Tryz.underlying3 Tryz.underlying154) <| J_slot (t := 21) (v := .int .u64 ((lo + hi2 : Nat) : Int)) Z (by rw [wrap64u_of ⟨by omega, by omega⟩]; simp) <| L_pur Z (p_shr Z Z (by decide) (by decide)) <| J_slot (t := 22) (v := .int .u64 (q : Int)) Z (by rw [hq]; congr 1) <| L_pur Z (p_conv Z Tryz.underlying154 Tryz.underlying3) <| J_slot (t := 23) (v := .int .i64 (q : Int)) Z (by rw [wrap64_of ⟨by omega, by omega⟩]) <| ag Z Z <| nq <| J_seq <| J_drawT 6 mixed (by kernel_rfl) <| sm Z Z <| sm Z Z <| sm Z Z <| sp Z (p_indexAddr Z Z Tryz.underlying139 ty308 (by omega) (by omega)) <| S_val Z (v_loadE Z ty308 HS (by first | (simp only [Int.toNat_natCast, List.getElem?_map, hcc]; rfl) | (simp only [Int.toNat_natCast, List.getElem?_map, hcd]; rfl) | simp | rfl)) ?_
 refine S_val Z (v_loadA Z ty308 HS CT) <| S_nil <| L_op <| x_callc Z Tryz.func201 nm201 bd201 (.cons Z (.cons Z .nil)) Z (order c x) fun _ => L_pur Z (p_lss Z Z) <| nq <| C_dec Z (fun h31 => ?_) (fun h31 => ?_)
 have hqk := (hi q c hcc).1 (by rw [← ordT_neg]; simpa using h31)
 refine J_region <| mv Z Z <| L_pur Z (p_add64 Z Z (by omega)) <| ag Z Z <| L_nil <| Q_blk_normal <| Q_then ?_
 
 exact J_again2 (q + 1) hi2 (by omega) (⟨by omega, hl2, hl3⟩) SU KE
 have hqk : ¬ q < k := fun h => h31 (by have := (hi q c hcc).2 h; rw [← ordT_neg] at this; simpa using this)
 refine J_region <| mv Z Z <| ag Z Z <| L_nil <| Q_blk_normal <| Q_then ?_
 
 exact J_again2 lo q (by omega) (⟨hl1, by omega, by omega⟩) SU KE
 have hlk : lo = k := by omega
 subst hlk
 refine J_exit <| Q_then_exit <| Q_then_exit <| Q_blk_this <| Q_then <| J_seq <| J_drawI none [blk b4 308 (encT x)] mixed <| ip 0 Z Z Z Z (p_move Z) <| ip 1 Z Z Z Z (p_move Z) <| ip 2 Z Z Z Z (p_move Z) <| ip 3 Z Z Z Z (p_lss Z Z) <| ip 4 Z Z Z Z (p_move Z) <| J_gsplit (t := 39) Z (fun h39 => ?_) (fun h39 => ?_)
 have hlt : lo < xs.length := by simp at h39; omega
 obtain ⟨bx, ox, rfl⟩ := h3 (by intro h; rw [h] at hml; simp at hml; omega)
 obtain ⟨c, hcc⟩ : ∃ c, xs[lo]? = some c := ⟨_, List.getElem?_eq_getElem hlt⟩
 refine I_takeOn (i := 5) Z Z Z Z Z Z Z (by kernel_rfl) (fun _ _ _ _ h => h) (fun _ => Pur.vl (p_move Z)) <| I_takeOn (i := 6) Z Z Z Z Z Z Z (by kernel_rfl) (fun _ _ _ _ h => h) (fun _ => Pur.vl (p_move Z)) <| I_takeOn (i := 7) Z Z Z Z Z Z Z (by kernel_rfl) (fun _ _ _ _ h => h) (fun _ => Pur.vl (p_move Z)) <| I_takeOn (i := 8) Z Z Z Z Z Z Z (by kernel_rfl) (fun _ _ _ _ h => h) (fun _ => Pur.vl (p_indexAddr Z Z Tryz.underlying139 ty308 (by omega) (by omega))) <| I_takeOn (i := 10) Z Z Z Z Z Z Z (by kernel_rfl) (fun _ _ _ _ h => h) (fun _ => v_loadA Z ty308 HS CT) <| i1 9 Z <| G_on Z Z Z <| J_val (v_loadE Z ty308 HS (by first | (simp only [Int.toNat_natCast, List.getElem?_map, hcc]; rfl) | (simp only [Int.toNat_natCast, List.getElem?_map, hcd]; rfl) | simp | rfl)) Z Z Z ?_
 refine i1 11 Z <| G_on Z Z Z <| x_callc Z Tryz.func201 nm201 bd201 (.cons Z (.cons Z .nil)) Z (order c x) fun _ => I_takeOn (i := 12) Z Z Z Z Z Z Z (by kernel_rfl) (fun _ _ _ _ h => h) (fun _ => Pur.vl (p_eql Z Z)) <| ip 13 Z Z Z Z (p_pick_t Z Z) <| ip 14 Z Z Z Z (p_assign Z) <| ip 15 Z Z Z Z (p_assign Z) <| i0 <| Q_then <| J_ret ?_
 exact J_return (_) Tryz.results200 (.tmp Z (.tmp Z .nil)) Z SU
 refine I_takeOff (i := 5) Z Z Z Z Z Z Z Z (by kernel_rfl) (fun _ _ _ _ h => h) <| I_takeOff (i := 6) Z Z Z Z Z Z Z Z (by kernel_rfl) (fun _ _ _ _ h => h) <| I_takeOff (i := 7) Z Z Z Z Z Z Z Z (by kernel_rfl) (fun _ _ _ _ h => h) <| I_takeOff (i := 8) Z Z Z Z Z Z Z Z (by kernel_rfl) (fun _ _ _ _ h => h) <| I_takeOff (i := 9) Z Z Z Z Z Z Z Z (by kernel_rfl) (fun _ _ _ _ h => h) <| I_takeOff (i := 10) Z Z Z Z Z Z Z Z (by kernel_rfl) (fun _ _ _ _ h => h) <| I_takeOff (i := 11) Z Z Z Z Z Z Z Z (by kernel_rfl) (fun _ _ _ _ h => h) <| I_takeOff (i := 12) Z Z Z Z Z Z Z Z (by kernel_rfl) (fun _ _ _ _ h => h) <| ip 13 Z Z Z Z (p_pick_f Z Z) <| ip 14 Z Z Z Z (p_assign Z) <| ip 15 Z Z Z Z (p_assign Z) <| i0 <| Q_then <| J_ret ?_
 exact J_return (_) Tryz.results200 (.tmp Z (.tmp Z .nil)) Z SU
theorem ins_new {α : Type} {xs : List α} {c z : α} (h : k < xs.length) :
    ((((xs.take k ++ List.replicate (xs.length + 1 - k) z).take k ++ [c] ++ (xs.take k ++ List.replicate (xs.length + 1 - k) z).drop (k + 1)).take (k + 1)) ++ xs.drop k ++ (((xs.take k ++ List.replicate (xs.length + 1 - k) z).take k ++ [c] ++ (xs.take k ++ List.replicate (xs.length + 1 - k) z).drop (k + 1)).drop (k + 1 + (xs.drop k).length))) = xs.take k ++ c :: xs.drop k := by
  have hl : (xs.take k).length = k := by simp; omega
  have e1 : (xs.take k ++ List.replicate (xs.length + 1 - k) z).take k = xs.take k := by
    exact List.take_left' hl
  rw [e1]
  have hl2 : (xs.take k ++ [c]).length = k + 1 := by simp; omega
  have e2 : ∀ R : List α, (xs.take k ++ [c] ++ R).take (k + 1) = xs.take k ++ [c] := fun R => List.take_left' hl2
  rw [e2, show List.drop (k + 1 + (xs.drop k).length) _ = [] from List.drop_of_length_le (by simp; omega)]
  simp
theorem ins_here {α : Type} {xs : List α} {c : α} (h : k < xs.length) : (xs.take (k + 1) ++ xs.drop k).take k ++ [c] ++ (xs.take (k + 1) ++ xs.drop k).drop (k + 1) = xs.take k ++ c :: xs.drop k := by
  have hl : (xs.take (k + 1)).length = k + 1 := by simp; omega
  have e1 : (xs.take (k + 1) ++ xs.drop k).take k = xs.take k := by
    rw [List.take_append_of_le_length (by omega), List.take_take]
    congr 1; omega
  have e2 : (xs.take (k + 1) ++ xs.drop k).drop (k + 1) = xs.drop k := by
    exact List.drop_left' hl
  rw [e1, e2]; simp
variable {m : List As}
theorem insert1 {m1 : List As} {v u : Value} {xs : List (List Value)} {c : List Value} (hp1 : Pick (row 308 3 u [c]) l m1) (hp2 : Pick (row 308 3 v xs) m1 m) (hb : xs.length ≤ 100000) (hk : k ≤ xs.length) :
  Con Tryz.prog 202 #[v, .int .i64 (k : Int), u] E l (fun v' : Value => v') (fun v' => row 308 3 v' (xs.take k ++ c :: xs.drop k) :: m) := by
 refine Con.body (n := 95) Tryz.func202 Z Z _ (env_ok 3 Z) <| J_pick hp1 <| J_pick (.there hp2) <| J_row .here fun hw a cap hv h1 h2 h3 => ?_
 subst hv
 have hm : cap ≤ 9223372036854775807 := h2
 refine J_row (.there .here) fun hw' a' cap' hv' h1' h2' h3' => ?_
 subst hv'
 refine sr <| ag Z Z <| nx <| mv Z Z <| mv Z Z <| L_pur Z (p_slice Z Tryz.underlying139 ty308 Z Z (by omega) (by omega) (by omega)) <| nx <| mv Z Z <| L_pur Z (p_len Z Tryz.underlying139) <| J_slot (t := 14) (v := .int .i64 1) Z Z <| ag Z Z <| nxx <| mv Z Z <| L_pur Z (p_eql Z Z) <| nq <| J_bool (t := 16) (c := false) Z (by simp) <| C_false Z <| J_skip <| qx <| mv Z Z <| L_pur Z (p_len Z Tryz.underlying139) <| ag Z Z <| nxx <| mv Z Z <| mv Z Z <| L_pur Z (p_eql Z Z) <| nq <| C_dec Z (fun h22 => ?_) (fun h22 => ?_)
 have hkl : k = xs.length := by omega
 refine sr <| mv Z Z <| mv Z Z <| L_op <| x_app Z Z Tryz.underlying139 ty308 Z Z PC (fun w H => sep_reads (xs := [c]) HS H) (OM) (OM) Z <| JE (xs.take k ++ c :: xs.drop k) (by rw [hkl]; simp) fun a25 c25 hw25 hl25 hm25 hz25 => ag Z Z <| nq <| J_ret <| Q_then_ret ?_
 exact J_return (_) Tryz.results202 (.tmp Z .nil) Z SU
 have hkl : k < xs.length := by omega
 obtain ⟨b, o, rfl⟩ := h3 (by intro h; rw [h] at hkl; simp at hkl)
 obtain ⟨ub, uo, rfl⟩ := h3' (by simp)
 refine J_skip <| Q_then <| J_seq <| sr <| mv Z Z <| mv Z Z <| L_pur Z (p_add64 Z Z (by omega)) <| mv Z Z <| L_pur Z (p_cap Z Tryz.underlying139) <| L_pur Z (p_gtr Z Z) <| nq <| C_dec Z (fun h31 => ?_) (fun h31 => ?_)
 refine sr <| mv Z Z <| mv Z Z <| L_pur Z (p_slice Z Tryz.underlying139 ty308 Z Z (by omega) (by omega) (by omega)) <| J_slot (t := 34) (v := .slice (some ⟨b, o, none⟩) k cap) Z (by simp [Addr.add]) <| mv Z Z <| mv Z Z <| L_pur Z (p_add64 Z Z (by omega)) <| mv Z Z <| L_pur Z (p_sub64 Z Z (by omega)) <| J_slot (t := 39) (v := .int .i64 ((xs.length + 1 - k : Nat) : Int)) Z (by congr 1; omega) <| L_op <| x_appMake (i := k) (z0 := xs.length + 1 - k) (xs := xs.take k) Z Z Tryz.underlying139 Tryz.underlying3 ty308 Z Z Z (fun w H => Reads.take (i := k) (sep_reads (xs := xs) HS H) (by omega)) (by first | omega | (simp at h31; omega)) (by omega) (by omega) (by omega) Z <| JR fun a40 c40 hw40 hl40 hm40 hz40 => ?_
 obtain ⟨b4, o4, rfl⟩ := hz40 (by intro h; have := congrArg List.length h; simp at this; omega)
 refine ag Z Z <| nx <| mv Z Z <| mv Z Z <| L_pur Z (p_slice Z Tryz.underlying139 ty308 Z Z (by omega) (by simp; omega) (by simp at hl40 ⊢; omega)) <| mv Z Z <| L_op <| x_copyTo (k0 := k) (ys := [c]) Z Z Tryz.underlying139 ty308 PC (fun w H => sep_reads (xs := [c]) HS H) (by simp; omega) (by simp; omega) Z <| nq <| J_seq <| J_drawT 8 mixed (by kernel_rfl) <| sm Z Z <| sm Z Z <| sm Z Z <| sp Z (p_add64 Z Z (by omega)) <| sp Z (p_slice Z Tryz.underlying139 ty308 Z Z (by omega) (by simp; omega) (by simp at hl40 ⊢; omega)) <| sm Z Z <| sm Z Z <| sp Z (p_slice Z Tryz.underlying139 ty308 Z Z (by omega) (by omega) (by omega)) <| S_nil <| L_op <| x_copyTo (k0 := k + 1) (ys := xs.drop k) Z Z Tryz.underlying139 ty308 PC (fun w H => Reads.drop (a0 := some ⟨b, o, none⟩) (len := xs.length) (cap := cap) (lo := k) (sep_reads (xs := xs) HS H) (by omega)) (by simp; omega) (by simp; omega) Z ?_
 refine J_rowTo (v' := .slice (some ⟨b4, o4, none⟩) (xs.take k ++ List.replicate (xs.length + 1 - k) _).length c40) (ys := xs.take k ++ c :: xs.drop k) (ins_new hkl) Z <| nx <| mv Z Z <| ag Z Z <| nq <| J_ret <| Q_then_ret ?_
 exact J_return (_) Tryz.results202 (.tmp Z .nil) Z SU
 refine J_skip <| qx <| mv Z Z <| mv Z Z <| mv Z Z <| L_pur Z (p_add64 Z Z (by omega)) <| L_pur Z (p_slice Z Tryz.underlying139 ty308 Z Z (by omega) (by omega) (by first | omega | (simp at h31 ⊢; omega))) <| J_slot (t := 60) (v := .slice (some ⟨b, o, none⟩) (xs.length + 1) cap) Z (by simp [Addr.add]) ?_
 have hroom : xs.length + 1 ≤ cap := by first | omega | (simp at h31; omega)
 refine ag Z Z <| nxx <| mv Z Z <| mv Z Z <| mv Z Z <| mv Z Z <| L_pur Z (p_add64 Z Z (by omega)) <| L_pur Z (p_slice Z Tryz.underlying139 ty308 Z Z (by omega) (by omega) (by omega)) <| J_slot (t := 66) (v := .slice (some ⟨b, o + (k + 1) * 3, none⟩) (xs.length - k) (cap - (k + 1))) Z (by have e : ((k : Int) + 1).toNat = k + 1 := by { omega }; rw [e, if_neg (by omega)]; simp [Addr.add_lit]) <| L_op <| x_overlaps (tR := 4) Tryz.func267 nm267 Z (by kernel_rfl) (by kernel_rfl) Z Z Tryz.underlying139 ty308 Z PC PC (by omega) Z <| L_pur Z (p_not Z) <| nq <| J_bool (t := 68) (c := true) Z (rfl) <| C_true Z <| J_seq <| J_drawT 8 mixed (by kernel_rfl) <| sm Z Z <| sm Z Z <| sm Z Z <| sp Z (p_add64 Z Z (by omega)) <| sp Z (p_slice Z Tryz.underlying139 ty308 Z Z (by omega) (by omega) (by omega)) ?_
 refine J_slot (t := 73) (v := .slice (if cap = k + 1 then some ⟨b, o, none⟩ else (some (⟨b, o, none⟩ : Addr)).map (·.add ((k + 1) * 3))) (xs.length - k) (cap - (k + 1))) Z (by have e : ((k : Int) + 1).toNat = k + 1 := by { omega }; rw [e]; congr 1; omega) <| sm Z Z <| sm Z Z <| sp Z (p_slice Z Tryz.underlying139 ty308 Z Z (by omega) (by omega) (by omega)) <| S_nil <| L_op <| x_copyUp (k0 := k) (xs := xs) Z Z Tryz.underlying139 ty308 PC (by omega) (by omega) Z <| nx <| mv Z Z <| mv Z Z <| L_pur Z (p_slice Z Tryz.underlying139 ty308 Z Z (by omega) (by omega) (by omega)) <| mv Z Z <| L_op <| x_copyTo (k0 := k) (ys := [c]) Z Z Tryz.underlying139 ty308 PC (fun w H => sep_reads (xs := [c]) HS H) (by simp; omega) (by simp; omega) Z <| J_rowEq (ys := xs.take k ++ c :: xs.drop k) (ins_here hkl) <| nx <| mv Z Z <| ag Z Z <| nq <| J_ret <| Q_then_ret ?_
 exact J_return (_) Tryz.results202 (.tmp Z .nil) Z SU
theorem tmrPush {b o : Nat} (hp : Pick (tmrA b o xs) l m) (hb : xs.length ≤ 90000) {d : Int} (hs : Srt xs) :
  Con Tryz.prog 141 #[.pointer (some ⟨b, o, none⟩), .int .u64 d, .agg (encI i).toArray] E l (fun _ : Unit => .tuple #[]) (fun _ => tmrA b o (hpush xs (d, i)) :: m) := by
 refine Con.body (n := 35) Tryz.func141 Z Z _ (env_ok 3 Z) <| J_pick hp <| sr <| L_op <| x_box Z Z Z fun b5 => nx <| mv Z Z <| L_val Z (v_loadA Z ty36 HS CT) <| xo fc168 (A2 Z Z) Z (tmrDropC (xs := xs) (i := i) PC (by omega)) fun _ => ?_
 obtain ⟨ys, hys⟩ : ∃ ys, ys = hdrop xs i := ⟨_, rfl⟩
 have hyl : ys.length ≤ xs.length := by rw [hys]; exact hdrop_len xs i
 have hne : ∀ c ∈ ys, c.2 ≠ (d, i).2 := by rw [hys]; exact fun c hc => hdrop_ne hc
 have hss : Srt ys := by rw [hys]; exact hs.drop i
 refine J_asTo (B := tmrA b o ys) (by rw [hys]) <| J_tmrO fun v _ => J_row (.there .here) fun hw a cap hv h1 h2 h3 => ?_
 subst hv
 have hpi := fun j c => place_iff (x := (d, i)) hss (j := j) (c := c)
 have hpl := place_le ys (d, i)
 obtain ⟨k, hk⟩ : ∃ k, k = place ys (d, i) := ⟨_, rfl⟩
 refine nx <| mv Z Z <| L_val Z (v_loadA Z ty36 HS CT) <| L_pur Z (bld308 (.cons Z (.cons Z .nil)) (by repeat constructor)) <| L_op <| x_alloc ty308 Z fun b6 => L_op <| x_store Z Z ty308 Z SM SM RO PT <| J_pick (A := blk b6 308 _) PC <| J_asTo (B := blk b6 308 (encT (d, i))) (by rfl) <| nq <| J_seq <| J_drawI none [blk b6 308 (encT (d, i)), fld b o [.slice a (ys.map encT).length cap]] mixed <| ip 0 Z Z Z Z (p_move Z) <| ip 1 Z Z Z Z (p_nilCheck Z) <| ip 2 Z Z Z Z (p_fieldAddr Z fa141_0) <| iv 3 Z Z Z Z (fun _ => v_loadL Z ty139 HS Z (by exact rfl)) <| iv 4 Z Z Z Z (fun _ => v_loadA Z ty308 HS CT) <| i1 5 Z <| xc fc200 (A3 Z Z Z) Z (bsearch (xs := ys) (x := (d, i)) (k := k) HS (by omega) (by omega) (fun j c h => by rw [hk]; exact hpi j c h)) fun q => ?_
 refine ip 6 Z Z Z Z (p_move Z) <| ip 7 Z Z Z Z (p_extract Z Z) <| ip 8 Z Z Z Z (p_extract Z Z) <| ip 9 Z Z Z Z (p_assign Z) <| ip 10 Z Z Z Z (p_assign Z) <| i0 <| Q_then <| J_drawI (some 11) [blk b6 308 (encT (d, i)), fld b o [.slice a (ys.map encT).length cap]] mixed <| ip 0 Z Z Z Z (p_move Z) <| ip 1 Z Z Z Z (p_move Z) <| ip 2 Z Z Z Z (p_nilCheck Z) <| ip 3 Z Z Z Z (p_fieldAddr Z fa141_0) <| iv 4 Z Z Z Z (fun _ => v_loadL Z ty139 HS Z (by exact rfl)) <| ip 5 Z Z Z Z (p_move Z) <| iv 6 Z Z Z Z (fun _ => v_loadA Z ty308 HS CT) ?_
 refine i1 7 Z <| x_lit (vals := [_]) Tryz.underlying139 ty308 Z (.cons Z .nil) (.agg .nil) (Wf.cons Z Z Wf.nil) Z (by decide) Z Z <| JR fun a31 c31 hw31 hl31 hm31 hz31 => i1 8 Z <| xc fc202 (A3 Z Z Z) Z (insert1 (xs := ys.map encT) (c := encT (d, i)) (k := k) PC PC (by simp; omega) (by simp; omega)) <| JE ((hpush xs (d, i)).map encT) (by unfold hpush putT; rw [← hys, ← hk]; simp [List.map_take, List.map_drop]) fun a32 c32 hw32 hl32 hm32 hz32 => ip 9 Z Z Z Z (p_nilCheck Z) <| ip 10 Z Z Z Z (p_fieldAddr Z fa141_0) <| i1 11 Z <| x_storeL Z Z ty139 Z SM SM Z RO Z PT <| i0 <| J_endnormal <| J_tmrS (b := b) (o := o) (xs := hpush xs (d, i)) _ PX trivial ?_
 exact J_return (()) Tryz.results141 .nil Z SU
theorem tmrLen {b o : Nat} (hp : Pick (tmrA b o xs) l m) (hb : xs.length ≤ 100000) :
    Con Tryz.prog 63 #[.pointer (some ⟨b, o, none⟩)] E l (fun _ : Unit => .int .i64 (xs.length : Int)) (fun _ => tmrA b o xs :: m) := by
  refine Con.body (n := 8) Tryz.func63 Z Z _ (env_ok 1 Z) <| J_pick hp <| J_tmrO fun v _ => J_row (.there .here) fun hw a cap hv h1 h2 h3 => ?_
  subst hv
  have hm : cap ≤ 9223372036854775807 := h2
  have hml : (xs.map encT).length = xs.length := List.length_map _
  refine sr <| ag Z Z <| nx <| mv Z Z <| nc Z Z <| fa Z Z fa141_0 <| L_val Z (v_loadL Z ty139 HS Z (by exact rfl)) <| L_pur Z (p_len Z Tryz.underlying139) <| ag Z Z <| nq <| J_ret <| J_tmrS (b := b) (o := o) (xs := xs) _ PX trivial <| J_return (()) Tryz.results63 (.tmp Z .nil) ?_ ?_
  · simp [one]
  · exact SU
variable {p : Nat} {s : KS}
theorem coTmPush (hp : Pick (coA p s) l m) {d : Int} (hb : s.tm.length ≤ 90000) (hs : Srt s.tm) :
    Con Tryz.prog 141 #[.pointer (some ⟨p, 11, none⟩), .int .u64 d, .agg (encI i).toArray] E l (fun _ : Unit => .tuple #[]) (fun _ => coA p { s with tm := hpush s.tm (d, i) } :: m) := fun w H => by
  refine (?_ : Jk E l 0 [] fun _ w => Calls Tryz.prog 141 #[.pointer (some ⟨p, 11, none⟩), .int .u64 d, .agg (encI i).toArray] w fun e w' => ∃ x, e = .returned ((fun _ : Unit => .tuple #[]) x) ∧ Sep E w' ((fun _ : Unit => coA p { s with tm := hpush s.tm (d, i) } :: m) x)) w _ H fr0
  refine J_pick hp <| J_coO fun bn be br bg bt bs bp bl bk _ => J_con (tmrPush (xs := s.tm) (d := d) (i := i) PC hb hs) fun x => J_coS (p := p) (s := { s with tm := hpush s.tm (d, i) }) bn be br bg bt bs bp bl bk PX trivial ?_
  exact J_end SU
theorem coTmLen (hp : Pick (coA p s) l m) (hb : s.tm.length ≤ 100000) :
    Con Tryz.prog 63 #[.pointer (some ⟨p, 11, none⟩)] E l (fun _ : Unit => .int .i64 (s.tm.length : Int)) (fun _ => coA p s :: m) := fun w H => by
  refine (?_ : Jk E l 0 [] fun _ w => Calls Tryz.prog 63 #[.pointer (some ⟨p, 11, none⟩)] w fun e w' => ∃ x, e = .returned ((fun _ : Unit => .int .i64 (s.tm.length : Int)) x) ∧ Sep E w' ((fun _ : Unit => coA p s :: m) x)) w _ H fr0
  refine J_pick hp <| J_coO fun bn be br bg bt bs bp bl bk _ => J_con (tmrLen (xs := s.tm) PC hb) fun x => J_coS (p := p) (s := s) bn be br bg bt bs bp bl bk PX trivial ?_
  exact J_end SU
theorem delete146 {v : Value} {c : List Value} {xs : List (List Value)} (hp : Pick (row 308 3 v (c :: xs)) l m) :
  Con Tryz.prog 146 #[v, .int .i64 0, .int .i64 1] E l (fun v' : Value => v') (fun v' => row 308 3 v' xs :: m) := by
 refine Con.body (n := 33) Tryz.func146 Z Z _ (env_ok 3 Z) <| J_pick hp <| J_row .here fun hw a cap hv h1 h2 h3 => ?_
 obtain ⟨b, o, rfl⟩ := h3 (by simp)
 subst hv
 have hl : (c :: xs).length = xs.length + 1 := rfl
 have hm : cap ≤ 9223372036854775807 := h2
 refine sr <| ag Z Z <| nx <| mv Z Z <| mv Z Z <| mv Z Z <| mv Z Z <| L_pur Z (p_len Z Tryz.underlying139) <| L_pur Z (p_slice3 Z Tryz.underlying139 ty308 Z Z Z (by omega) (by omega) (by omega) (by omega)) <| nxx <| mv Z Z <| mv Z Z <| L_pur Z (p_eql Z Z) <| nq <| J_bool (t := 16) (c := false) Z (by decide) <| C_false Z <| J_skip <| qx <| mv Z Z <| L_pur Z (p_len Z Tryz.underlying139) <| ag Z Z <| nq <| J_seq <| J_drawT 6 mixed (by kernel_rfl) <| sm Z Z <| sm Z Z <| sp Z (p_slice Z Tryz.underlying139 ty308 Z Z (by omega) (by omega) (by omega)) <| J_slot (t := 22) (v := .slice (some ⟨b, o, none⟩) 0 cap) Z (by simp [Addr.add]) <| sm Z Z <| sm Z Z <| sp Z (p_slice Z Tryz.underlying139 ty308 Z Z (by omega) (by omega) (by omega)) <| S_nil ?_
 refine L_op <| x_appIn (ys := xs) (len := (c :: xs).length) Z Z Tryz.underlying139 ty308 PC (fun w H => (sep_reads HS H).drop (lo := 1) (by omega)) (by omega) Z <| ag Z Z <| nx <| mv Z Z <| mv Z Z <| L_pur Z (p_len Z Tryz.underlying139) <| mv Z Z <| L_pur Z (p_slice Z Tryz.underlying139 ty308 Z Z (by omega) (by omega) (by omega)) <| L_op <| x_clear (len := (c :: xs).length) Z Tryz.underlying139 ty308 Z Z PC (by simp) <| J_take (k := 0 + xs.length) (by simp) <| J_rowEq (ys := xs) (by simp) <| nx <| mv Z Z <| ag Z Z <| nq <| J_ret ?_
 exact J_return (_) Tryz.results146 (.tmp Z .nil) Z SU
theorem tmrDue {b o : Nat} (hp : Pick (tmrA b o xs) l m) (hb : xs.length ≤ 100000) :
  Con Tryz.prog 99 #[.pointer (some ⟨b, o, none⟩), .int .u64 now] E l (fun v : Value => v) (fun v => row 36 2 v (((due xs now).map Prod.snd).map encI) :: tmrA b o (late xs now) :: m) := by
 refine Con.body (n := 42) Tryz.func99 Z Z _ (env_ok 2 Z) <| J_pick hp <| J_asTo (B := tmrA b o (xs.drop 0)) (by simp) <| sr <| ag Z Z <| nx <| ag Z Z <| nq <| J_seq <| J_block <| J_nil (el := 36) (sz := 2) <| J_loop2 (fun j v5 => j ≤ xs.length ∧ ∀ c ∈ xs.take j, c.1 ≤ now) (fun j v5 => row 36 2 v5 (((xs.take j).map Prod.snd).map encI) :: tmrA b o (xs.drop j) :: m) (fun j v5 => [(5, v5), (0, .pointer (some ⟨b, o, none⟩)), (1, .int .u64 now)]) (fun j v5 => xs.length - j) 0 (.slice none 0 0) ⟨by omega, by simp⟩ SU KE ?_
 intro j v5 ⟨hj, hq⟩
 refine J_pick (A := tmrA b o (xs.drop j)) (.there .here) <| J_tmrO fun v _ => J_row (.there .here) fun hw a cap hv h1 h2 h3 => ?_
 subst hv
 have hml : ((xs.drop j).map encT).length = xs.length - j := by simp
 have htl : (xs.take j).length ≤ j := by simp; omega
 refine J_seq <| sr <| mv Z Z <| nc Z Z <| fa Z Z fa141_0 <| L_val Z (v_loadL Z ty139 HS Z (by exact rfl)) <| L_pur Z (p_len Z Tryz.underlying139) <| L_pur Z (p_gtr Z Z) <| mv Z Z <| J_gsplit (t := 12) Z (fun h12 => ?_) (fun h12 => ?_)
 have hlt : j < xs.length := by simp at h12; omega
 obtain ⟨bx, ox, hax⟩ := h3 (by intro h; rw [h] at hml; simp at hml; omega)
 subst hax
 obtain ⟨c, hcc⟩ : ∃ c, xs[j]? = some c := ⟨_, List.getElem?_eq_getElem hlt⟩
 have hc0 : (xs.drop j)[0]? = some c := by rw [List.getElem?_drop]; exact hcc
 have hdj : xs.drop j = c :: xs.drop (j + 1) := by rw [List.drop_eq_getElem_cons hlt, (List.getElem?_eq_some_iff.1 hcc).2]
 refine gp Z Z Z (p_move Z) Z <| gp Z Z Z (p_nilCheck Z) Z <| L_op <| G_on Z Z Z <| J_pur (p_fieldAddr Z fa141_0) Z Z Z <| L_op <| G_on Z Z Z <| J_val (v_loadL Z ty139 HS Z (by exact rfl)) Z Z Z <| gp Z Z Z (p_indexAddr Z Z Tryz.underlying139 ty308 (by omega) (by omega)) Z <| gp Z Z Z (p_fieldAddr Z fa308_0) Z <| L_op <| G_on Z Z Z <| J_val (v_loadF Z ty102 HS (by show ((xs.drop j).map encT)[0]? = _; rw [List.getElem?_map, hc0]; rfl) (by exact rfl)) Z Z Z ?_
 refine gp Z Z Z (p_move Z) Z <| gp Z Z Z (p_leq Z Z) Z <| L_pur Z (p_pick_t Z Z) <| nq <| C_dec Z (fun h22 => ?_) (fun h22 => ?_)
 refine J_skip <| Q_then <| J_block <| sr <| mv Z Z <| mv Z Z <| nc Z Z <| fa Z Z fa141_0 <| L_val Z (v_loadL Z ty139 HS Z (by exact rfl)) <| L_pur Z (p_indexAddr Z Z Tryz.underlying139 ty308 (by omega) (by omega)) <| fa Z Z fa308_1 <| L_val Z (v_loadFA Z ty36 HS (by show ((xs.drop j).map encT)[0]? = _; rw [List.getElem?_map, hc0]; rfl) CT) ?_
 refine L_op <| x_lit (vals := [_]) Tryz.underlying224 ty36 Z (.cons Z .nil) (.agg .nil) (Wf.cons Z Z Wf.nil) Z (by decide) Z Z <| JR fun a31 c31 hw31 hl31 hm31 hz31 => L_op <| x_app Z Z Tryz.underlying224 ty36 Z Z PC (fun w H => sep_reads HS H) (OM) (OM) Z <| JE (((xs.take (j + 1)).map Prod.snd).map encI) (by rw [List.take_add_one, hcc]; simp [encI]) fun a32 c32 hw32 hl32 hm32 hz32 => ag Z Z <| ny <| mv Z Z <| mv Z Z <| nc Z Z <| fa Z Z fa141_0 <| L_val Z (v_loadL Z ty139 HS Z (by exact rfl)) <| J_pick (A := row 308 3 (.slice (some ⟨bx, ox, none⟩) ((xs.drop j).map encT).length cap) ((xs.drop j).map encT)) PC ?_
 refine J_rowEq (ys := encT c :: (xs.drop (j + 1)).map encT) (by rw [hdj]; rfl) <| xo fc146 (A3 Z Z Z) Z (delete146 (c := encT c) (xs := (xs.drop (j + 1)).map encT) (by have e : ((xs.drop j).map encT).length = (encT c :: (xs.drop (j + 1)).map encT).length := by { rw [hdj]; rfl }; rw [e]; exact .here)) <| JR fun a38 c38 hw38 hl38 hm38 hz38 => nc Z Z <| fa Z Z fa141_0 <| L_op <| x_storeL Z Z ty139 Z SM SM Z RO Z PT <| L_nil <| Q_blk_normal <| Q_then <| J_tmrS (b := b) (o := o) (xs := xs.drop (j + 1)) _ PX trivial ?_
 exact J_again2 (j + 1) _ (by omega) (⟨by omega, fun c' hc' => by rw [List.take_add_one, hcc] at hc'; rcases List.mem_append.1 hc' with h | h; exact hq c' h; simp at h; subst h; exact h22⟩) SU KE
 refine J_exit <| Q_then_exit <| Q_then_exit <| Q_blk_this <| Q_then <| J_seq ?_
 obtain ⟨hd, hl⟩ := due_at hj hq (fun c' h => by rw [hcc] at h; cases h; exact h22)
 refine J_region <| mv Z Z <| ag Z Z <| nq <| J_ret <| J_tmrS (b := b) (o := o) (xs := xs.drop j) _ PX trivial <| J_asTo (B := tmrA b o (late xs now)) (by rw [hl]) <| J_pick (A := row 36 2 v5 _) PC <| J_rowEq (ys := ((due xs now).map Prod.snd).map encI) (by rw [hd]) ?_
 exact J_return (_) Tryz.results99 (.tmp Z .nil) Z SU
 refine gz Z Z Z Z Z <| gz Z Z Z Z Z <| gz Z Z Z Z Z <| gz Z Z Z Z Z <| gz Z Z Z Z Z <| gz Z Z Z Z Z <| gz Z Z Z Z Z <| gz Z Z Z Z Z <| gz Z Z Z Z Z <| L_pur Z (p_pick_f Z Z) <| nq <| C_false Z <| J_exit <| Q_then_exit <| Q_then_exit <| Q_blk_this <| Q_then <| J_seq ?_
 obtain ⟨hd, hl⟩ := due_at hj hq (fun c' h => by rw [show j = xs.length by simp at h12; omega, List.getElem?_eq_none (Nat.le_refl _)] at h; cases h)
 refine J_region <| mv Z Z <| ag Z Z <| nq <| J_ret <| J_tmrS (b := b) (o := o) (xs := xs.drop j) _ PX trivial <| J_asTo (B := tmrA b o (late xs now)) (by rw [hl]) <| J_pick (A := row 36 2 v5 _) PC <| J_rowEq (ys := ((due xs now).map Prod.snd).map encI) (by rw [hd]) ?_
 exact J_return (_) Tryz.results99 (.tmp Z .nil) Z SU
theorem coTmDue (hp : Pick (coA p s) l m) (hb : s.tm.length ≤ 100000) :
    Con Tryz.prog 99 #[.pointer (some ⟨p, 11, none⟩), .int .u64 now] E l (fun x : Value => x) (fun x => row 36 2 x (((due s.tm now).map Prod.snd).map encI) :: coA p { s with tm := late s.tm now } :: m) := fun w H => by
  refine (?_ : Jk E l 0 [] fun _ w => Calls Tryz.prog 99 #[.pointer (some ⟨p, 11, none⟩), .int .u64 now] w fun e w' => ∃ x, e = .returned ((fun x : Value => x) x) ∧ Sep E w' ((fun x : Value => row 36 2 x (((due s.tm now).map Prod.snd).map encI) :: coA p { s with tm := late s.tm now } :: m) x)) w _ H fr0
  refine J_pick hp <| J_coO fun bn be br bg bt bs bp bl bk _ => J_con (tmrDue (xs := s.tm) (now := now) PC hb) fun x => J_coS (p := p) (s := { s with tm := late s.tm now }) bn be br bg bt bs bp bl bk PX trivial ?_
  exact J_end SU
/-! ### plain: which request may begin -/
def freeQ (ps : List (ID × Rq)) (g : Int) (r : Rq) : Bool := decide (r.prev = 0) || !(look ps (g, r.prev)).isSome
def goQ (ps : List (ID × Rq)) (g : Int) (k : Nat) (r : Rq) : Bool := !r.started && (freeQ ps g r && (decide (bits .and .i64 r.e.flags 4 = 0) || decide (k = 0)))
def nextF (ps : List (ID × Rq)) (g : Int) : Nat → List Rq → Option Rq
  | _, [] => none
  | k, r :: rs => if goQ ps g k r = true then some r else nextF ps g (k + 1) rs
def nextQ (ps : List (ID × Rq)) (g : Int) : Option ID := (nextF ps g 0 (ofQ ps g)).map Rq.id
variable {g : Int}
theorem rtNextC  {b o : Nat} {ps : List (ID × Rq)} (hp : Pick (rtA b o ps) l m) (hI : Ids ps) (hb : ps.length ≤ 100000) :
    Con Tryz.prog 101 #[.pointer (some ⟨b, o, none⟩), .int .i64 g] E l (fun _ : Unit => .tuple #[.agg (encI ((nextQ ps g).getD (0, 0))).toArray, .bool (nextQ ps g).isSome]) (fun _ => rtA b o ps :: m) := by
  refine Con.body (n := 53) Tryz.func101 Z Z _ (env_ok 2 Z) <| J_pick hp <| sr <| L_op <| x_alloc ty36 Z fun b4 => ag Z Z <| nx <| mv Z Z <| mv Z Z <| xo fc23 (A2 Z Z) Z (rtOf (ps := ps) (g := g) PC hI hb) <| JR fun a12 c12 hw12 hl12 hm12 hz12 => ?_
  have hol := ofQ_len ps g
  obtain ⟨xs, hxs⟩ : ∃ xs, xs = ofQ ps g := ⟨_, rfl⟩
  refine J_pick (A := row 122 13 _ _) PC <| J_rowTo (ys := xs.map encQ) (v' := .slice a12 (xs.map encQ).length c12) (by rw [hxs]) (by rw [hxs]) <| J_slot (t := 12) (v := .slice a12 (xs.map encQ).length c12) Z (by rw [hxs]) ?_
  rw [← hxs] at hol hz12
  have hm : c12 ≤ 9223372036854775807 := hm12
  have hml : (xs.map encQ).length = xs.length := List.length_map _
  refine ag Z Z <| nxx <| mv Z Z <| L_pur Z (p_len Z Tryz.underlying46) <| mv Z Z <| nq <| J_block <| J_pick (A := blk b4 _ _) PC <| J_asTo (B := blk b4 36 (encI (0, 0))) (by rfl) <| J_loop (α := Nat) (fun k => k ≤ xs.length ∧ nextF ps g 0 xs = nextF ps g k (xs.drop k)) (fun k => row 122 13 (.slice a12 (xs.map encQ).length c12) (xs.map encQ) :: blk b4 36 (encI (0, 0)) :: rtA b o ps :: m) (fun k => [(15, .int .i64 (k : Int)), (13, .slice a12 (xs.map encQ).length c12), (14, .int .i64 ((xs.map encQ).length : Int)), (4, .pointer (some ⟨b4, 0, none⟩)), (0, .pointer (some ⟨b, o, none⟩)), (1, .int .i64 g)]) (fun k => xs.length - k) 0 ⟨by omega, rfl⟩ SU KE ?_
  intro k ⟨hk, hnx⟩
  refine sr <| L_pur Z (p_lss Z Z) <| nq <| J_seq <| C_dec Z (fun h16 => ?_) (fun h16 => ?_)
  have hlt : k < xs.length := by omega
  obtain ⟨bx, ox, rfl⟩ := hz12 (by intro h; rw [h] at hml; simp at hml; omega)
  obtain ⟨c, hcc⟩ : ∃ c, xs[k]? = some c := ⟨_, List.getElem?_eq_getElem hlt⟩
  have hdj : xs.drop k = c :: xs.drop (k + 1) := by rw [List.drop_eq_getElem_cons hlt, (List.getElem?_eq_some_iff.1 hcc).2]
  refine J_skip <| Q_then <| J_seq <| J_block <| sr <| mv Z Z <| L_pur Z (p_indexAddr Z Z Tryz.underlying46 ty122 (by omega) (by omega)) <| L_val Z (v_loadE Z ty122 HS (by first | (simp only [Int.toNat_natCast, List.getElem?_map, hcc]; rfl) | (simp only [Int.toNat_natCast, List.getElem?_map, hcd]; rfl) | simp | rfl)) ?_
  refine L_op <| x_alloc ty122 Z fun b8 => ag Z Z <| L_op <| x_store Z Z ty122 Z SM SM RO PT <| nx <| fa Z Z fa122_2 <| L_val Z (v_load Z ty3 HS (by exact rfl)) <| L_pur Z (p_eql Z Z) <| mv Z Z <| J_gsplit (t := 23) Z (fun h23 => ?_) (fun h23 => ?_)
  refine gz Z Z Z Z Z <| gz Z Z Z Z Z <| gz Z Z Z Z Z <| gz Z Z Z Z Z <| gz Z Z Z Z Z <| gz Z Z Z Z Z <| gz Z Z Z Z Z <| L_pur Z (p_pick_t Z Z) <| ag Z Z <| nx <| fa Z Z fa122_4 <| L_val Z (v_load Z ty4 HS (by exact rfl)) <| L_pur Z (p_not Z) <| mv Z Z <| J_gsplit (t := 35) Z (fun h35 => ?_) (fun h35 => ?_)
  refine gp Z Z Z (p_move Z) Z <| L_pur Z (p_pick_t Z Z) <| mv Z Z <| J_gsplit (t := 38) Z (fun h38 => ?_) (fun h38 => ?_)
  refine gp Z Z Z (p_fieldAddr Z fa122_1) Z <| gp Z Z Z (p_fieldAddr Z fa34_1) Z <| L_op <| G_on Z Z Z <| J_val (v_load Z ty3 HS (by exact rfl)) Z Z Z <| gp Z Z Z (p_and Z Z) Z <| gp Z Z Z (p_eql Z Z) Z <| L_op <| G_on Z Z Z <| J_pur (p_move Z) Z Z Z <| J_gsplit (t := 44) Z (fun h44 => ?_) (fun h44 => ?_)
  refine gz Z Z Z Z Z <| gz Z Z Z Z Z <| gp Z Z Z (p_pick_t Z Z) Z <| L_pur Z (p_pick_t Z Z) <| nq <| C_true Z <| J_seq ?_
  have hgo : goQ ps g k c = true := by simp_all [goQ, freeQ]
  have hnq : nextQ ps g = some c.id := by unfold nextQ; rw [← hxs, hnx, hdj, nextF, if_pos hgo]; rfl
  refine J_region <| fa Z Z fa122_0 <| L_val Z (v_loadA Z ty36 HS CT) <| L_op <| x_store Z Z ty36 Z SM SM RO PT <| ag Z Z <| nq <| J_ret <| Q_blk_ret <| Q_then_ret <| Q_then_ret <| Q_blk_ret <| Q_then_ret <| J_return (()) Tryz.results101 (.cellA Z ty36 HS CT (.tmp Z .nil)) ?_ ?_
  · rw [hnq]; rfl
  · exact SU
  refine gp Z Z Z (p_move Z) Z <| gp Z Z Z (p_eql Z Z) Z <| L_op <| G_on Z Z Z <| J_pur (p_pick_f Z Z) Z Z Z <| L_pur Z (p_pick_t Z Z) <| nq <| C_split Z (fun h48 => ?_) (fun h48 => ?_)
  refine J_seq ?_
  have hgo : goQ ps g k c = true := by simp_all [goQ, freeQ]
  have hnq : nextQ ps g = some c.id := by unfold nextQ; rw [← hxs, hnx, hdj, nextF, if_pos hgo]; rfl
  refine J_region <| fa Z Z fa122_0 <| L_val Z (v_loadA Z ty36 HS CT) <| L_op <| x_store Z Z ty36 Z SM SM RO PT <| ag Z Z <| nq <| J_ret <| Q_blk_ret <| Q_then_ret <| Q_then_ret <| Q_blk_ret <| Q_then_ret <| J_return (()) Tryz.results101 (.cellA Z ty36 HS CT (.tmp Z .nil)) ?_ ?_
  · rw [hnq]; rfl
  · exact SU
  refine J_skip <| Q_blk_normal <| qr <| L_pur Z (p_add64 Z Z (by omega)) <| mv Z Z <| nq ?_
  exact J_again (k + 1) (by omega) (⟨by omega, by rw [hnx, hdj, nextF, if_neg (by simp_all [goQ, freeQ])]⟩) SU KE
  refine gz Z Z Z Z Z <| gz Z Z Z Z Z <| gz Z Z Z Z Z <| gz Z Z Z Z Z <| gz Z Z Z Z Z <| gz Z Z Z Z Z <| L_op <| G_offU Z Z Z Z Z <| L_op <| G_offU Z Z Z Z Z <| gz Z Z Z Z Z <| L_pur Z (p_pick_f Z Z) <| nq <| C_false Z <| J_skip <| Q_blk_normal <| qr <| L_pur Z (p_add64 Z Z (by omega)) <| mv Z Z <| nq ?_
  exact J_again (k + 1) (by omega) (⟨by omega, by rw [hnx, hdj, nextF, if_neg (by simp_all [goQ, freeQ])]⟩) SU KE
  refine gz Z Z Z Z Z <| L_pur Z (p_pick_f Z Z) <| mv Z Z <| gz Z Z Z Z Z <| gz Z Z Z Z Z <| gz Z Z Z Z Z <| gz Z Z Z Z Z <| gz Z Z Z Z Z <| gz Z Z Z Z Z <| L_op <| G_offU Z Z Z Z Z <| L_op <| G_offU Z Z Z Z Z <| gz Z Z Z Z Z <| L_pur Z (p_pick_f Z Z) <| nq <| C_false Z <| J_skip <| Q_blk_normal <| qr <| L_pur Z (p_add64 Z Z (by omega)) <| mv Z Z <| nq ?_
  exact J_again (k + 1) (by omega) (⟨by omega, by rw [hnx, hdj, nextF, if_neg (by simp_all [goQ, freeQ])]⟩) SU KE
  refine gp Z Z Z (p_move Z) Z <| gp Z Z Z (p_move Z) Z <| L_op <| G_on Z Z Z <| J_pur (p_fieldAddr Z fa122_2) Z Z Z <| L_op <| G_on Z Z Z <| J_val (v_load Z ty3 HS (by exact rfl)) Z Z Z <| gp Z Z Z (bld36 (.cons Z (.cons Z .nil)) (by repeat constructor)) Z <| L_op <| G_on Z Z Z <| xc fc108 (A2 Z Z) Z (rtHas (ps := ps) (i := (g, c.prev)) PC) fun _ => gp Z Z Z (p_not Z) Z <| L_pur Z (p_pick_f Z Z) <| ag Z Z <| nx <| fa Z Z fa122_4 <| L_val Z (v_load Z ty4 HS (by exact rfl)) <| L_pur Z (p_not Z) <| mv Z Z <| J_gsplit (t := 35) Z (fun h35 => ?_) (fun h35 => ?_)
  refine gp Z Z Z (p_move Z) Z <| L_pur Z (p_pick_t Z Z) <| mv Z Z <| J_gsplit (t := 38) Z (fun h38 => ?_) (fun h38 => ?_)
  refine gp Z Z Z (p_fieldAddr Z fa122_1) Z <| gp Z Z Z (p_fieldAddr Z fa34_1) Z <| L_op <| G_on Z Z Z <| J_val (v_load Z ty3 HS (by exact rfl)) Z Z Z <| gp Z Z Z (p_and Z Z) Z <| gp Z Z Z (p_eql Z Z) Z <| L_op <| G_on Z Z Z <| J_pur (p_move Z) Z Z Z <| J_gsplit (t := 44) Z (fun h44 => ?_) (fun h44 => ?_)
  refine gz Z Z Z Z Z <| gz Z Z Z Z Z <| gp Z Z Z (p_pick_t Z Z) Z <| L_pur Z (p_pick_t Z Z) <| nq <| C_true Z <| J_seq ?_
  have hgo : goQ ps g k c = true := by simp_all [goQ, freeQ]
  have hnq : nextQ ps g = some c.id := by unfold nextQ; rw [← hxs, hnx, hdj, nextF, if_pos hgo]; rfl
  refine J_region <| fa Z Z fa122_0 <| L_val Z (v_loadA Z ty36 HS CT) <| L_op <| x_store Z Z ty36 Z SM SM RO PT <| ag Z Z <| nq <| J_ret <| Q_blk_ret <| Q_then_ret <| Q_then_ret <| Q_blk_ret <| Q_then_ret <| J_return (()) Tryz.results101 (.cellA Z ty36 HS CT (.tmp Z .nil)) ?_ ?_
  · rw [hnq]; rfl
  · exact SU
  refine gp Z Z Z (p_move Z) Z <| gp Z Z Z (p_eql Z Z) Z <| L_op <| G_on Z Z Z <| J_pur (p_pick_f Z Z) Z Z Z <| L_pur Z (p_pick_t Z Z) <| nq <| C_split Z (fun h48 => ?_) (fun h48 => ?_)
  refine J_seq ?_
  have hgo : goQ ps g k c = true := by simp_all [goQ, freeQ]
  have hnq : nextQ ps g = some c.id := by unfold nextQ; rw [← hxs, hnx, hdj, nextF, if_pos hgo]; rfl
  refine J_region <| fa Z Z fa122_0 <| L_val Z (v_loadA Z ty36 HS CT) <| L_op <| x_store Z Z ty36 Z SM SM RO PT <| ag Z Z <| nq <| J_ret <| Q_blk_ret <| Q_then_ret <| Q_then_ret <| Q_blk_ret <| Q_then_ret <| J_return (()) Tryz.results101 (.cellA Z ty36 HS CT (.tmp Z .nil)) ?_ ?_
  · rw [hnq]; rfl
  · exact SU
  refine J_skip <| Q_blk_normal <| qr <| L_pur Z (p_add64 Z Z (by omega)) <| mv Z Z <| nq ?_
  exact J_again (k + 1) (by omega) (⟨by omega, by rw [hnx, hdj, nextF, if_neg (by simp_all [goQ, freeQ])]⟩) SU KE
  refine gz Z Z Z Z Z <| gz Z Z Z Z Z <| gz Z Z Z Z Z <| gz Z Z Z Z Z <| gz Z Z Z Z Z <| gz Z Z Z Z Z <| L_op <| G_offU Z Z Z Z Z <| L_op <| G_offU Z Z Z Z Z <| gz Z Z Z Z Z <| L_pur Z (p_pick_f Z Z) <| nq <| C_false Z <| J_skip <| Q_blk_normal <| qr <| L_pur Z (p_add64 Z Z (by omega)) <| mv Z Z <| nq ?_
  exact J_again (k + 1) (by omega) (⟨by omega, by rw [hnx, hdj, nextF, if_neg (by simp_all [goQ, freeQ])]⟩) SU KE
  refine gz Z Z Z Z Z <| L_pur Z (p_pick_f Z Z) <| mv Z Z <| gz Z Z Z Z Z <| gz Z Z Z Z Z <| gz Z Z Z Z Z <| gz Z Z Z Z Z <| gz Z Z Z Z Z <| gz Z Z Z Z Z <| L_op <| G_offU Z Z Z Z Z <| L_op <| G_offU Z Z Z Z Z <| gz Z Z Z Z Z <| L_pur Z (p_pick_f Z Z) <| nq <| C_false Z <| J_skip <| Q_blk_normal <| qr <| L_pur Z (p_add64 Z Z (by omega)) <| mv Z Z <| nq ?_
  exact J_again (k + 1) (by omega) (⟨by omega, by rw [hnx, hdj, nextF, if_neg (by simp_all [goQ, freeQ])]⟩) SU KE
  refine J_exit <| Q_then_exit <| Q_then_exit <| Q_blk_this <| Q_then <| J_seq ?_
  have hnq : nextQ ps g = none := by unfold nextQ; rw [← hxs, hnx, List.drop_eq_nil_of_le (by omega)]; rfl
  refine J_region <| L_pur Z (bld36 .nil (by repeat constructor)) <| L_op <| x_store Z Z ty36 Z SM SM RO PT <| ag Z Z <| nq <| J_ret <| J_return (()) Tryz.results101 (.cellA Z ty36 HS CT (.tmp Z .nil)) ?_ ?_
  · rw [hnq]; rfl
  · exact SU
theorem coRqNext (hp : Pick (coA p s) l m) (hI : Ids s.rt) (hb : s.rt.length ≤ 100000) :
    Con Tryz.prog 101 #[.pointer (some ⟨p, 10, none⟩), .int .i64 g] E l (fun _ : Unit => .tuple #[.agg (encI ((nextQ s.rt g).getD (0, 0))).toArray, .bool (nextQ s.rt g).isSome]) (fun _ => coA p s :: m) := fun w H => by
  refine (?_ : Jk E l 0 [] fun _ w => Calls Tryz.prog 101 #[.pointer (some ⟨p, 10, none⟩), .int .i64 g] w fun e w' => ∃ x, e = .returned ((fun _ : Unit => .tuple #[.agg (encI ((nextQ s.rt g).getD (0, 0))).toArray, .bool (nextQ s.rt g).isSome]) x) ∧ Sep E w' ((fun _ : Unit => coA p s :: m) x)) w _ H fr0
  refine J_pick hp <| J_coO fun bn be br bg bt bs bp bl bk _ => J_con (rtNextC (ps := s.rt) (g := g) PC hI hb) fun x => J_coS (p := p) (s := s) bn be br bg bt bs bp bl bk PX trivial ?_
  exact J_end SU
/-! ### plain: a ring is torn down -/
def deedG (q : Rq) : Deed := (q.id, q.e.tag, q.e.op, 0, 0, true)
def kTear1 (s : KS) (q : Rq) : KS := { kForget { s with rt := del s.rt q.id } q.id with jn := s.jn ++ [deedG q] }
def kTearL (s : KS) (l : List Rq) : KS := l.foldl kTear1 s
def kCleared (s : KS) (g : Int) : KS := { s with rg := updO s.rg g (fun r => { r with over := [] }) }
def kTear (s : KS) (g : Int) : KS := if (look s.rg g).isSome then kGone (kCleared (kTearL s (ofQ s.rt g)) g) 9 g else s
theorem kTearL_rg : ∀ {l : List Rq} {s : KS}, (kTearL s l).rg = s.rg ∧ (kTearL s l).mb = s.mb ∧ (kTearL s l).ep = (kTearL s l).ep
  | [], s => ⟨rfl, rfl, rfl⟩
  | q :: l, s => by
    have h := kTearL_rg (l := l) (s := kTear1 s q)
    exact ⟨h.1, h.2.1, rfl⟩
variable {N M : Nat}
theorem Fits.delAny (h : Fits s N M) (i : ID) : Fits { s with rt := del s.rt i } N M := by
  have hl := del_le (ps := s.rt) (i := i)
  exact ⟨h.n, h.mm, h.ids.del i, by have := h.jn; show s.jn.length + (del s.rt i).length ≤ M; omega, h.tm, h.ep, h.nt, h.rp, fun x hx => ⟨(h.rg x hx).1, by have := (h.rg x hx).2; show _ + (del s.rt i).length ≤ M; omega⟩, h.mem⟩
theorem Fits.tear1 (h : Fits s N M) (hm : M + 1 ≤ 90000) (q : Rq) : Fits (kTear1 s q) N (M + 1) := by
  have h1 := h.delAny q.id
  exact (h1.forget q.id).jnl hm (deedG q)
theorem Fits.tearL {N : Nat} : ∀ {l : List Rq} {s : KS} {M : Nat}, Fits s N M → M + l.length ≤ 90000 → Fits (kTearL s l) N (M + l.length)
  | [], s, M, h, _ => h
  | q :: l, s, M, h, hm => by
    have := Fits.tearL (l := l) (h.tear1 (by simp at hm; omega) q) (by simp at hm; omega)
    rw [List.length_cons, show M + (l.length + 1) = M + 1 + l.length by omega]
    exact this
theorem rpBindC {b : Nat} {c : ID × Bool} (hp : Pick (rpA b c) l m) :
    Con Tryz.prog 287 #[.pointer (some ⟨b, 0, none⟩), .agg (encI i).toArray] E l (fun _ : Unit => .tuple #[.agg (encI c.1).toArray, .bool c.2]) (fun _ => rpA b (i, true) :: m) := by
  refine Con.body (n := 22) Tryz.func287 Z Z _ (env_ok 2 Z) <| J_pick hp <| sr <| L_op <| x_box Z Z Z fun b3 => L_op <| x_alloc ty36 Z fun b4 => ag Z Z <| nx <| mv Z Z <| xo fc289 (A1 Z) Z (rpCaller (c := c) PC) fun _ => J_pick (A := rpA b c) PC <| J_asTo (B := blk b 243 [.int .i64 c.1.1, .int .i64 c.1.2, .bool c.2]) (by rfl) <| mv Z Z <| L_pur Z (p_extract Z Z) <| L_pur Z (p_extract Z Z) <| L_op <| x_alloc ty36 Z fun b6 => L_op <| x_store Z Z ty36 Z SM SM RO PT <| J_pick (A := blk b6 _ _) PC <| J_asTo (B := blk b6 36 (encI c.1)) (by rfl) <| ag Z Z <| nx <| mv Z Z <| mv Z Z <| L_val Z (v_loadA Z ty36 HS CT) <| nc Z Z <| fa Z Z fa243_0 <| L_op <| x_store Z Z ty36 Z SM SM RO PT <| nc Z Z <| fa Z Z fa243_1 <| L_op <| x_store Z Z ty4 Z SM SM RO PT <| nx <| L_val Z (v_loadA Z ty36 HS CT) <| mv Z Z <| L_op <| x_store Z Z ty36 Z SM SM RO PT ?_
  refine ag Z Z <| nq <| J_ret <| J_pick (A := blk b _ _) PC <| J_asTo (B := rpA b (i, true)) (by rfl) <| J_return (()) Tryz.results287 (.cellA Z ty36 HS CT (.tmp Z .nil)) ?_ ?_
  · rfl
  · exact SU
theorem coRpBind (hp : Pick (coA p s) l m) {b : Nat} {c : ID × Bool} (hl : look s.rp u = some (b, c)) :
  Con Tryz.prog 287 #[.pointer (some ⟨b, 0, none⟩), .agg (encI i).toArray] E l (fun _ : Unit => .tuple #[.agg (encI c.1).toArray, .bool c.2]) (fun _ => coA p { s with rp := updO s.rp u (fun _ => (i, true)) } :: m) := by
 refine J_con0 ?_
 obtain ⟨j, hj⟩ := look_ix hl
 have hjl := (List.getElem?_eq_some_iff.1 hj).1
 refine J_pick hp <| J_coO fun bn be br bg bt bs bp bl bk _ => J_keyd (ps := ptrs s.rp) HS fun hK => J_pick (A := each rpF s.rp) PC <| J_eachOut hj ?_
 skip
 refine J_asTo (B := rpA b c) (by rfl) <| J_con (rpBindC (c := c) (i := i) PC) fun x => J_pick (A := rpA b (i, true)) PC <| J_asTo (B := rpF (u, b, ((fun _ => (i, true))) (c))) (by rfl) <| J_pick (A := each rpF _) PC <| J_pick (A := rpF (u, b, _)) PC <| J_eachIn (u, b, ((fun _ => (i, true))) (c)) hjl ?_
 skip
 refine J_asTo (B := each rpF (updO s.rp u (fun _ => (i, true)))) (by rw [updO_set hK hj]) <| J_pick (A := mapV kZ evA (.map (some br)) (ptrs s.rp)) PC <| J_mapEq (qs := ptrs (updO s.rp u (fun _ => (i, true)))) ptrs_updO.symm <| J_coS (p := p) (s := { s with rp := updO s.rp u (fun _ => (i, true)) }) bn be br bg bt bs bp bl bk PX trivial ?_
 exact J_end SU
variable {out : List Msg} {inn : List Rcv}
theorem coEpReceivers (hp : Pick (coA p s) l m) {b : Nat} (hl : look s.ep u = some (b, out, inn)) (hbo : out.length ≤ 100000) (hbi : inn.length ≤ 100000) :
  Con Tryz.prog 61 #[.pointer (some ⟨b, 0, none⟩)] E l (fun x : Value => x) (fun x => row 246 3 x (inn.map encR) :: coA p s :: m) := by
 refine J_con0 ?_
 obtain ⟨j, hj⟩ := look_ix hl
 have hjl := (List.getElem?_eq_some_iff.1 hj).1
 refine J_pick hp <| J_coO fun bn be br bg bt bs bp bl bk _ => J_keyd (ps := ptrs s.ep) HS fun hK => J_pick (A := each epF s.ep) PC <| J_eachOut hj ?_
 skip
 refine J_asTo (B := epA b out inn) (by rfl) <| J_con (epReceivers (out := out) (inn := inn) PC hbo hbi) fun x => J_pick (A := epA b out inn) PC <| J_asTo (B := epF (u, b, out, inn)) (by rfl) <| J_pick (A := each epF _) PC <| J_pick (A := epF (u, b, _)) PC <| J_eachIn (u, b, out, inn) hjl ?_
 skip
 refine J_asTo (B := each epF s.ep) (by rw [lset_same hj]) <| J_coS (p := p) (s := s) bn be br bg bt bs bp bl bk PX trivial ?_
 exact J_end SU
def kEnds (s : KS) (l : List ID) : KS := l.foldl (fun s i => kDec s.rt.length s i (-9) 0) s
theorem Fits.ends {N M : Nat} : ∀ {l : List ID} {s : KS}, Fits s N M → Fits (kEnds s l) N M
  | [], _, h => h
  | i :: l, s, h => Fits.ends (l := l) (Fits.dec _ (i := i) (r := -9) (v := 0) h).1
/-! ### plain: what is decided, one thing at a time; all but rings, memory, the journal stays -/
def atJ (jn : List Deed) (i : ID) : Option Deed := jn.find? fun d => decide (d.1 = i)
theorem atJ_none {jn : List Deed} (h0 : ∀ e ∈ jn, e.1 ≠ i) : atJ jn i = none := List.find?_eq_none.2 fun e he => by simpa using h0 e he
def rqN (i : ID) (e : Sqe) : Rq := ⟨i, e, 0, false, false⟩
def rtS (ps : List (ID × Rq)) (i : ID) : List (ID × Rq) := match look ps i with
  | none => ps
  | some q => ins ps i { q with started := true }
/-! ### How all begins: what hangs on the number of threads, of units, on what is shared, and on nothing else -/
abbrev Core := Int × Bool × List (Place × SV) × List (Place × M1) × List (Int × Th) × List (Int × Int)
def kCore (s : KS) : Core := (s.cu, s.sh, s.sl, s.mp, s.th, s.q)
def kStep (k : Core) (b t h : Int) : Core := (k.1, k.2.1, tput b k.2.2.1 0 (tcap8 b k.1 ++ if k.2.1 then tcap2 t h else []), tmap b k.2.2.2.1 2, ins k.2.2.2.2.1 (b + 1) (thOf b), qAdd k.2.2.2.2.2 (b + 1) 4)
def cTh (k : Core) (u h : Int) : Nat → Core
  | 0 => k
  | i + 1 => kStep (cTh k u h i) (bOf u i) (i : Int) h
theorem kThread_core {b t h : Int} {r c : Nat} : kCore (kThread s b t h r c) = kStep (kCore s) b t h := by
  simp only [kCore, kStep, kThread, tcaps]
  congr 1
theorem kTh_core {s : KS} {h : Int} {bs : Nat → Nat × Nat} : ∀ i, kCore (kTh s h bs i) = cTh (kCore s) s.cu h i
  | 0 => rfl
  | i + 1 => by
    rw [kTh, kThread_core, kTh_core i, cTh]
def coreN (ct cu : Nat) (sh : Bool) : Core := cTh ((cu : Int), sh, [], [], [], []) (cu : Int) (hOf (ct : Int) (cu : Int)) ct
theorem cut_id {n lo hi : Int} (h : lo ≤ n ∧ n ≤ hi) : cutI n lo hi = n := by unfold cutI; split <;> split <;> omega
section
variable {ct cu : Nat} {cs cc : Int} {sh : Bool} {g : NewG} (h1 : 1 ≤ ct ∧ ct ≤ 3) (h2 : 1 ≤ cu ∧ cu ≤ 12)
include h1 h2 in
theorem kNew_is : kNew (ct : Int) (cu : Int) cs cc sh g = kTh (kBase (ct : Int) (cu : Int) (cutI cs 0 3) (cutI cc 0 4) sh g.mb g.be g.bn) (hOf (ct : Int) (cu : Int)) g.bs ct := by
  unfold kNew
  rw [cut_id (show (1 : Int) ≤ (ct : Int) ∧ (ct : Int) ≤ 3 by omega), cut_id (show (1 : Int) ≤ (cu : Int) ∧ (cu : Int) ≤ 12 by omega), Int.toNat_natCast]
include h1 h2 in
theorem kNew_core : kCore (kNew (ct : Int) (cu : Int) cs cc sh g) = coreN ct cu sh := by
  rw [kNew_is h1 h2, kTh_core]
  cases sh <;> rfl
include h1 h2 in
include h1 h2 in
end
/-! ### plain: addresses of a node's slots -/
theorem addr_or : ∀ k : Nat, k < 16 → bits .or .u32 ((k : Int) * 256) 4 = (k : Int) * 256 + 4 := by decide
theorem addr_shl : ∀ k : Nat, k < 16 → IntKind.u32.wrap ((k : Int) * 2 ^ 8) = (k : Int) * 256 := by decide
abbrev atK (k : Nat) : Int := (k : Int) * 256 + 4
theorem joinC (hk : k < 16) :
    Con Tryz.prog 18 #[.int .i64 (k : Int), .int .i64 4] E l (fun _ : Unit => .int .u32 (atK k)) (fun _ => l) := by
  refine Con.body (n := 12) Tryz.func18 Z Z _ (env_ok 2 Z) <| sr <| ag Z Z <| nx <| mv Z Z <| L_pur Z (p_conv Z Tryz.underlying3 Tryz.underlying22) <| J_slot (t := 6) (v := .int .u32 (k : Int)) Z (by rw [wrap32u_of (by omega)]) <| L_pur Z (p_shl Z Z (by omega) (by have : (IntKind.u32.bits : Int) = 32 := rfl; omega)) <| J_slot (t := 7) (v := .int .u32 ((k : Int) * 256)) Z (by rw [← addr_shl k hk]; rfl) <| mv Z Z <| L_pur Z (p_conv Z Tryz.underlying3 Tryz.underlying22) <| J_slot (t := 9) (v := .int .u32 4) Z Z <| L_pur Z (p_and Z Z) <| J_slot (t := 10) (v := .int .u32 4) Z Z <| L_pur Z (p_or Z Z) <| J_slot (t := 11) (v := .int .u32 (atK k)) Z (by rw [addr_or k hk]) <| ag Z Z <| nq <| J_ret <| J_return (()) Tryz.results18 (.tmp Z .nil) ?_ ?_
  · rfl
  · exact SU
def actA (a p : Nat) (T : Th) (q : Rq) (i : ID) : As := blk a 279 [.pointer (some ⟨p, 0, none⟩), .int .i64 T.unit, .int .i64 T.space, .int .i64 T.ring, .int .i64 T.root.kind, .int .i64 T.root.obj, .int .i64 T.root.size, .int .i64 T.root.badge, .int .i64 T.root.rights, .int .i64 q.id.1, .int .i64 q.id.2, .int .i64 q.e.op, .int .i64 q.e.flags, .int .u32 q.e.tag, .int .u32 q.e.cap, .int .u32 q.e.a, .int .u32 q.e.b, .int .u32 q.e.c, .int .u32 q.e.time, .int .i64 q.prev, .bool q.soft, .bool q.started, .int .i64 i.1, .int .i64 i.2]
variable {n : Nat} {T : Th}
theorem J_act {F : Env} {K : Act → World → Prop} {a p : Nat} {q : Rq} (k : Jk E (blk a 279 [.pointer (some ⟨p, 0, none⟩), .int .i64 T.unit, .int .i64 T.space, .int .i64 T.ring, .int .i64 T.root.kind, .int .i64 T.root.obj, .int .i64 T.root.size, .int .i64 T.root.badge, .int .i64 T.root.rights, .int .i64 q.id.1, .int .i64 q.id.2, .int .i64 q.e.op, .int .i64 q.e.flags, .int .u32 q.e.tag, .int .u32 q.e.cap, .int .u32 q.e.a, .int .u32 q.e.b, .int .u32 q.e.c, .int .u32 q.e.time, .int .i64 q.prev, .bool q.soft, .bool q.started, .int .i64 i.1, .int .i64 i.2] :: l) n F K) : Jk E (actA a p T q i :: l) n F K := k
theorem failsC {n : Int} (hn : 0 ≤ n ∧ n ≤ 100) :
    Con Tryz.prog 167 #[.int .i64 n] E l (fun _ : Unit => .agg #[.int .i64 (-n), .int .u32 0, .bool false]) (fun _ => l) := by
  refine Con.body (n := 6) Tryz.func167 Z Z _ (env_ok 1 Z) <| sr <| L_op <| x_alloc ty276 Z fun b2 => nx <| mv Z Z <| L_pur Z (p_neg64 Z (by omega)) <| L_pur Z (bld276 (.cons Z .nil) (by repeat constructor)) <| L_op <| x_store Z Z ty276 Z SM SM RO PT <| nq <| J_ret <| J_return (()) Tryz.results167 (.cellA Z ty276 HS CT .nil) ?_ ?_
  · rfl
  · exact SU
theorem rtStartC  {b o : Nat} {ps : List (ID × Rq)} (hp : Pick (rtA b o ps) l m) :
    Con Tryz.prog 70 #[.pointer (some ⟨b, o, none⟩), .agg (encI i).toArray] E l (fun _ : Unit => .bool (look ps i).isSome) (fun _ => rtA b o (rtS ps i) :: m) := by
  refine Con.body (n := 25) Tryz.func70 Z Z _ (env_ok 2 Z) <| J_pick hp <| J_rtO fun ob _ => sr <| L_op <| x_box Z Z Z fun b3 => ag Z Z <| nq <| J_seq <| J_drawL none mixed <| ip 0 Z Z Z Z (p_move Z) <| ip 1 Z Z Z Z (p_nilCheck Z) <| ip 2 Z Z Z Z (p_fieldAddr Z fa138_0) <| iv 3 Z Z Z Z (fun _ => v_loadL Z ty136 HS Z (by exact rfl)) <| iv 4 Z Z Z Z (fun _ => v_loadA Z ty36 HS CT) <| iv 5 Z Z Z Z (fun _ => v_lookOk (ek := kI) (ev := evQ) (a := i) Z Z ky36 Tryz.underlying136 zv122 HS) <| J_slot (t := 13) (v := .tuple #[evQ ((look ps i).getD q00), .bool (look ps i).isSome]) Z (by cases look ps i <;> rfl) <| ip 6 Z Z Z Z (p_move Z) <| ip 7 Z Z Z Z (p_extract Z Z) <| ip 8 Z Z Z Z (p_extract Z Z) <| i1 9 Z <| x_alloc ty122 Z fun b5 => i1 10 Z <| x_store Z Z ty122 Z SM SM RO PT <| ip 11 Z Z Z Z (p_assign Z) <| i0 <| Q_then <| J_seq <| sr <| mv Z Z <| nq ?_
  refine C_split Z (fun h16 => ?_) (fun h16 => ?_)
  obtain ⟨q, hq⟩ : ∃ q, look ps i = some q := by
    cases hz : look ps i with
    | none => rw [hz] at h16; simp at h16
    | some q => exact ⟨q, rfl⟩
  rcases ob with _ | bm
  · exact J_mapNone (ps := ps) HS fun hps => by rw [hps] at hq; cases hq
  refine J_pick (A := blk b5 _ _) PC <| J_asTo (B := blk b5 122 (encQ q)) (by rw [hq]; rfl) ?_
  have hrs : rtS ps i = ins ps i { q with started := true } := by unfold rtS; rw [hq]
  refine sr <| fa Z Z fa122_4 <| L_op <| x_store Z Z ty4 Z SM SM RO PT <| J_pick (A := blk b5 _ _) PC <| J_asTo (B := blk b5 122 (encQ { q with started := true })) (by rfl) <| nq <| J_drawT 6 mixed (by kernel_rfl) <| sm Z Z <| sp Z (p_nilCheck Z) <| sp Z (p_fieldAddr Z fa138_0) <| S_val Z (v_loadL Z ty136 HS Z (by exact rfl)) <| S_val Z (v_loadA Z ty36 HS CT) <| S_val Z (v_loadA Z ty122 HS CT) <| S_nil <| L_op <| x_mapUpdate (ek := kI) (ev := evQ) (a := i) (c := { q with started := true }) Z Z Z ky36 Tryz.underlying136 PC <| nx <| mv Z Z <| ag Z Z <| nq <| J_ret <| J_pick (A := mapV kI evQ _ _) PC <| J_mapEq (qs := rtS ps i) (by rw [hrs]) <| J_rtS (b := b) (o := o) (ps := rtS ps i) _ PX trivial ?_
  exact J_return (()) Tryz.results70 (.tmp Z .nil) Z SU
  have hno : look ps i = none := by
    cases hz : look ps i with
    | none => rfl
    | some q => rw [hz] at h16; simp at h16
  have hrs : rtS ps i = ps := by unfold rtS; rw [hno]
  refine J_skip <| qx <| mv Z Z <| ag Z Z <| nq <| J_ret <| J_rtS (b := b) (o := o) (ps := ps) _ PX trivial <| J_asTo (B := rtA b o (rtS ps i)) (by rw [hrs]) ?_
  exact J_return (()) Tryz.results70 (.tmp Z .nil) Z SU
theorem coRqStart (hp : Pick (coA p s) l m) :
    Con Tryz.prog 70 #[.pointer (some ⟨p, 10, none⟩), .agg (encI i).toArray] E l (fun _ : Unit => .bool (look s.rt i).isSome) (fun _ => coA p { s with rt := rtS s.rt i } :: m) := fun w H => by
  refine (?_ : Jk E l 0 [] fun _ w => Calls Tryz.prog 70 #[.pointer (some ⟨p, 10, none⟩), .agg (encI i).toArray] w fun e w' => ∃ x, e = .returned ((fun _ : Unit => .bool (look s.rt i).isSome) x) ∧ Sep E w' ((fun _ : Unit => coA p { s with rt := rtS s.rt i } :: m) x)) w _ H fr0
  refine J_pick hp <| J_coO fun bn be br bg bt bs bp bl bk _ => J_con (rtStartC (ps := s.rt) (i := i) PC) fun x => J_coS (p := p) (s := { s with rt := rtS s.rt i }) bn be br bg bt bs bp bl bk PX trivial ?_
  exact J_end SU
def idxJ (xs : List Deed) (i : ID) : Option Nat := xs.findIdx? fun d => decide (d.1 = i)
variable {d : Deed}
theorem idxJ_some {xs : List Deed} (h : xs[k]? = some d) (hd : d.1 = i) (h0 : ∀ e ∈ xs.take k, e.1 ≠ i) : idxJ xs i = some k ∧ atJ xs i = some d := by
  obtain ⟨hk, he⟩ := List.getElem?_eq_some_iff.1 h
  have hj : ∀ j (hj : j < k), xs[j].1 ≠ i := fun j hj => h0 _ (List.mem_iff_getElem.2 ⟨j, by simp; omega, by simp⟩)
  constructor
  · unfold idxJ
    rw [List.findIdx?_eq_some_iff_getElem]
    exact ⟨hk, by rw [he]; simpa using hd, fun j hj' => by simpa using hj j hj'⟩
  · unfold atJ
    rw [List.find?_eq_some_iff_getElem]
    exact ⟨by simpa using hd, k, hk, he, fun j hj' => by simpa using hj j hj'⟩
theorem idxJ_none {xs : List Deed} (h0 : ∀ e ∈ xs, e.1 ≠ i) : idxJ xs i = none ∧ atJ xs i = none := by
  constructor
  · unfold idxJ
    rw [List.findIdx?_eq_none_iff]
    intro e he
    simpa using h0 e he
  · exact atJ_none h0
theorem idxJ_at {xs : List Deed} (h : idxJ xs i = some k) : ∃ d, xs[k]? = some d ∧ atJ xs i = some d := by
  unfold idxJ at h
  rw [List.findIdx?_eq_some_iff_getElem] at h
  obtain ⟨hk, h1, h2⟩ := h
  refine ⟨xs[k], List.getElem?_eq_getElem hk, ?_⟩
  unfold atJ
  rw [List.find?_eq_some_iff_getElem]
  exact ⟨h1, k, hk, rfl, fun j hj => by simpa using h2 j hj⟩
theorem atC {v : Value} {xs : List Deed} (hr : ∀ w, Sep E w l → Reads w 7 v (xs.map encD)) (hb : xs.length ≤ 200000) :
    Con Tryz.prog 22 #[v, .agg (encI i).toArray] E l (fun _ : Unit => .tuple #[.int .i64 (((idxJ xs i).getD 0 : Nat) : Int), .bool (idxJ xs i).isSome]) (fun _ => l) := by
  refine Con.body (n := 21) Tryz.func22 Z Z _ (env_ok 2 Z) <| J_readsB hr fun hw a cap hv h1 h2 h3 => ?_
  subst hv
  have hm : cap ≤ 9223372036854775807 := h2
  have hml : (xs.map encD).length = xs.length := List.length_map _
  refine sr <| L_op <| x_box Z Z Z fun b3 => ag Z Z <| ag Z Z <| nq <| J_seq <| J_seq <| J_pick (A := blk b3 _ _) PC <| J_asTo (B := blk b3 36 (encI i)) (by rfl) <| J_region <| ag Z Z <| nq <| J_block <| J_loop (α := Nat) (fun k => k ≤ xs.length ∧ ∀ e ∈ xs.take k, e.1 ≠ i) (fun k => blk b3 36 (encI i) :: l) (fun k => [(6, .int .i64 (k : Int)), (0, .slice a (xs.map encD).length cap), (3, .pointer (some ⟨b3, 0, none⟩))]) (fun k => xs.length - k) 0 ⟨by omega, by simp⟩ SU KE ?_
  intro k hk
  obtain ⟨hk, h0⟩ := hk
  refine J_seq <| sr <| mv Z Z <| mv Z Z <| L_pur Z (p_len Z Tryz.underlying40) <| L_pur Z (p_lss Z Z) <| nq <| C_dec Z (fun h10 => ?_) (fun h10 => ?_)
  have hlt : k < xs.length := by omega
  obtain ⟨bx, ox, rfl⟩ := h3 (by intro h; rw [h] at hml; simp at hml; omega)
  obtain ⟨c, hcc⟩ : ∃ c, xs[k]? = some c := ⟨_, List.getElem?_eq_getElem hlt⟩
  refine J_skip <| Q_then <| J_seq <| J_block <| J_seq <| J_drawS mixed (by kernel_rfl) <| sm Z Z <| sm Z Z <| sp Z (p_indexAddr Z Z Tryz.underlying40 ty45 (by omega) (by omega)) <| sp Z (p_fieldAddr Z fa45_0) <| S_val Z (by first | exact v_loadFA Z ty36 HS (by first | (simp only [Int.toNat_natCast, List.getElem?_map, hcc]; rfl) | (simp only [Int.toNat_natCast, List.getElem?_map, hcd]; rfl) | simp | rfl) CT | exact v_loadRFA Z ty36 (fun w H => hr w (Sub.sep SU H)) (by first | (simp only [Int.toNat_natCast, List.getElem?_map, hcc]; rfl) | (simp only [Int.toNat_natCast, List.getElem?_map, hcd]; rfl) | simp | rfl) CT) ?_
  refine S_val Z (v_loadA Z ty36 HS CT) <| sp Z (p_eqv Z Z (fun w => eg36 _ _ _ _ _ w) (fun w => eqv36 _ _ _ _ w)) <| J_slot (t := 19) (v := .bool (decide (c.1 = i))) Z (by congr 1; simp [Prod.ext_iff]) <| sq <| C_dec Z (fun h19 => ?_) (fun h19 => ?_)
  have hix := idxJ_some hcc h19 h0
  refine sr <| mv Z Z <| ag Z Z <| ag Z Z <| nq <| J_ret <| Q_blk_ret <| Q_then_ret <| Q_then_ret <| Q_blk_ret <| Q_then_ret <| J_return (()) Tryz.results22 (.tmp Z (.tmp Z .nil)) ?_ ?_
  · simp [one, hix.1]
  · exact SU
  refine J_skip <| Q_blk_normal <| qr <| mv Z Z <| L_pur Z (p_add64 Z Z (by omega)) <| ag Z Z <| nq ?_
  exact J_again (k + 1) (by omega) (⟨by omega, fun e he => by
      rw [List.take_add_one, hcc] at he
      rcases List.mem_append.1 he with h | h
      · exact h0 e h
      · rw [List.mem_singleton.1 h]; exact h19⟩) SU KE
  have hkx : k = xs.length := by omega
  rw [hkx, List.take_length] at h0
  have hix := idxJ_none h0
  refine J_exit <| Q_then_exit <| Q_then_exit <| Q_blk_this <| qx <| ag Z Z <| ag Z Z <| nq <| J_ret <| J_return (()) Tryz.results22 (.tmp Z (.tmp Z .nil)) ?_ ?_
  · simp [one, hix.1]
  · exact SU
abbrev encE (o : Option (Int × Int)) : Value := .agg #[.int .i64 (o.getD (0, 0)).1, .int .u32 (o.getD (0, 0)).2, .bool o.isNone]
/-! ### plain: addresses; the way to a slot -/
theorem shl1_24 : ∀ k : Nat, k ≤ 24 → shl1 (k : Int) = 2 ^ k ∧ (2 : Int) ^ k ≤ 16777216 ∧ (1 : Int) ≤ 2 ^ k := by decide
theorem and_mask64 {n : Int} (hk : k ≤ 24) (hn : 0 ≤ n ∧ n < 4294967296) : bits .and .i64 n (2 ^ k - 1) = n % 2 ^ k := by
  obtain ⟨X, rfl⟩ := Int.eq_ofNat_of_zero_le hn.1
  have h2 : 1 ≤ 2 ^ k ∧ 2 ^ k ≤ 16777216 := ⟨Nat.one_le_two_pow, by have : (2 : Nat) ^ k ≤ 2 ^ 24 := Nat.pow_le_pow_right (by omega) hk; omega⟩
  have e : ((2 : Int) ^ k - 1) = ((2 ^ k - 1 : Nat) : Int) := by rw [Int.ofNat_sub h2.1]; push_cast; rfl
  have h3 : X % 2 ^ k ≤ X := Nat.mod_le _ _
  rw [e]
  show IntKind.i64.wrap ((BitVec.ofInt 64 (X : Int) &&& BitVec.ofInt 64 ((2 ^ k - 1 : Nat) : Int)).toNat : Nat) = _
  rw [BitVec.toNat_and, BitVec.ofInt_natCast, BitVec.ofInt_natCast, BitVec.toNat_ofNat, BitVec.toNat_ofNat, Nat.mod_eq_of_lt (show X < 2 ^ 64 by omega), Nat.mod_eq_of_lt (show 2 ^ k - 1 < 2 ^ 64 by omega), Nat.and_two_pow_sub_one_eq_mod, wrap64_of (by omega)]
  push_cast; rfl
theorem and15 {n : Int} (hn : 0 ≤ n ∧ n < 4294967296) : bits .and .i64 n 15 = n % 16 := and_mask64 (k := 4) (by omega) hn
def rightB (v d : Int) : Bool := decide (0 ≤ d) && decide (d ≤ 24) && decide (0 ≤ v) && decide (v < 2 ^ d.toNat)
variable {v : Int}
theorem rightB_is {d : Int} (h : rightB v d = true) : (0 ≤ d ∧ d ≤ 24) ∧ (0 ≤ v ∧ v < 16777216) ∧ v < 2 ^ d.toNat := by
  unfold rightB at h
  simp only [Bool.and_eq_true, decide_eq_true_eq] at h
  obtain ⟨k, rfl⟩ : ∃ k : Nat, d = k := ⟨d.toNat, by omega⟩
  have := (shl1_24 k (by omega)).2
  rw [Int.toNat_natCast] at h ⊢
  omega
def splitA (a : Int) : Option (Int × Int) := if decide (a % 256 < 4) || !rightB (a / 256) (a % 256) then none else some (a / 256, a % 256)
def stepA (c : Cap) (v d : Int) : Option (Int × Int) :=
  if decide (c.kind ≠ 2) || !checkC c || !rightB v d || decide (d < c.size + 4) then none
  else if v / 2 ^ (d - c.size).toNat ≠ c.badge then none
  else some (v / 2 ^ (d - c.size - 4).toNat % 16, d - c.size - 4)
def findA (sl : List (Place × SV)) : Nat → Cap → Int → Int → Option Place
  | 0, _, _, _ => none
  | n + 1, c, v, d => match stepA c v d with
    | none => none
    | some (k, r) => if r = 0 then some (c.obj, k) else match look sl (c.obj, k) with
      | none => none
      | some s => findA sl n s.1 (v % 2 ^ r.toNat) r
def kFind (sl : List (Place × SV)) (root : Cap) (a : Int) : Option Place := match splitA a with
  | none => none
  | some x => findA sl 6 root x.1 x.2
def kCap (sl : List (Place × SV)) (root : Cap) (a kind : Int) : Cap × Place × Int := match kFind sl root a with
  | none => (c0, (0, 0), 2)
  | some p => match look sl p with
    | none => (c0, (0, 0), 4)
    | some v => if kind ≠ 0 ∧ v.1.kind ≠ kind then (c0, (0, 0), 5) else (v.1, p, 0)
theorem splitA_is {a v d : Int} (h : splitA a = some (v, d)) : (0 ≤ d ∧ d ≤ 24) ∧ (0 ≤ v ∧ v < 16777216) := by
  unfold splitA at h
  split at h
  · cases h
  · rename_i h1
    simp at h1 h
    obtain ⟨rfl, rfl⟩ := h
    have := rightB_is h1.2
    exact ⟨this.1, this.2.1⟩
theorem checkC_node {c : Cap} (h : checkC c = true) (hk : c.kind = 2) : (0 ≤ c.size ∧ c.size ≤ 8) ∧ (1 ≤ c.obj ∧ c.obj ≤ 64) := by
  unfold checkC inB at h
  simp [hk] at h
  omega
variable {r : Int}
theorem stepA_is {c : Cap} {d k : Int} (h : stepA c v d = some (k, r)) : (0 ≤ r ∧ r ≤ 24) ∧ (0 ≤ k ∧ k < 16) := by
  unfold stepA at h
  split at h
  · cases h
  · rename_i h1
    split at h
    · cases h
    · simp at h1 h
      obtain ⟨⟨⟨h3, h4⟩, h5⟩, h6⟩ := h1
      have := checkC_node h4 h3
      have := rightB_is h5
      omega
theorem div_small (h : 0 ≤ v ∧ v < 16777216) : 0 ≤ v / 2 ^ k ∧ v / 2 ^ k < 4294967296 := by
  have h1 : (0 : Int) < 2 ^ k := Int.pow_pos (by omega)
  exact ⟨Int.ediv_nonneg h.1 (by omega), by have := Int.ediv_le_self (2 ^ k) h.1; omega⟩
theorem rightG {d : Int} :
    Con Tryz.prog 332 #[.int .i64 v, .int .i64 d] E l (fun _ : Unit => .bool (rightB v d)) (fun _ => l) := by
  refine Con.body (n := 21) Tryz.func332 Z Z _ (env_ok 2 Z) <| sr <| ag Z Z <| nx <| mv Z Z <| L_pur Z (p_geq Z Z) <| mv Z Z <| J_gsplit (t := 7) Z (fun h7 => ?_) (fun h7 => ?_)
  refine gp Z Z Z (p_move Z) Z <| gp Z Z Z (p_leq Z Z) Z <| L_pur Z (p_pick_t Z Z) <| mv Z Z <| J_gsplit (t := 11) Z (fun h11 => ?_) (fun h11 => ?_)
  refine gp Z Z Z (p_move Z) Z <| gp Z Z Z (p_geq Z Z) Z <| L_pur Z (p_pick_t Z Z) <| mv Z Z <| J_gsplit (t := 15) Z (fun h15 => ?_) (fun h15 => ?_)
  have hd : 0 ≤ d ∧ d ≤ 24 := ⟨by simpa using h7, by simpa using h11⟩
  obtain ⟨k, hk⟩ : ∃ k : Nat, d = k := ⟨d.toNat, by omega⟩
  obtain ⟨g1, g2, g3⟩ := shl1_24 k (by omega)
  have hdk : d.toNat = k := by omega
  refine gp Z Z Z (p_move Z) Z <| gp Z Z Z (p_move Z) Z <| L_op <| G_on Z Z Z <| J_pur (p_shl Z Z (by omega) (by have : (IntKind.i64.bits : Int) = 64 := rfl; omega)) Z Z Z <| J_slot (t := 18) (v := .int .i64 (2 ^ d.toNat)) Z (by congr 1; rw [hk]; exact g1) <| gp Z Z Z (p_lss Z Z) Z <| L_pur Z (p_pick_t Z Z) <| ag Z Z <| nq <| J_ret <| J_return (()) Tryz.results332 (.tmp Z .nil) ?_ ?_
  · first | rfl | (simp_all [one, rightB]; done) | (simp_all [one, rightB] <;> omega) | (simp_all [one, rightB] <;> grind)
  · exact SU
  refine gz Z Z Z Z Z <| gz Z Z Z Z Z <| gz Z Z Z Z Z <| gz Z Z Z Z Z <| L_pur Z (p_pick_f Z Z) <| ag Z Z <| nq <| J_ret <| J_return (()) Tryz.results332 (.tmp Z .nil) ?_ ?_
  · first | rfl | (simp_all [one, rightB]; done) | (simp_all [one, rightB] <;> omega) | (simp_all [one, rightB] <;> grind)
  · exact SU
  refine gz Z Z Z Z Z <| gz Z Z Z Z Z <| L_pur Z (p_pick_f Z Z) <| mv Z Z <| gz Z Z Z Z Z <| gz Z Z Z Z Z <| gz Z Z Z Z Z <| gz Z Z Z Z Z <| L_pur Z (p_pick_f Z Z) <| ag Z Z <| nq <| J_ret <| J_return (()) Tryz.results332 (.tmp Z .nil) ?_ ?_
  · first | rfl | (simp_all [one, rightB]; done) | (simp_all [one, rightB] <;> omega) | (simp_all [one, rightB] <;> grind)
  · exact SU
  refine gz Z Z Z Z Z <| gz Z Z Z Z Z <| L_pur Z (p_pick_f Z Z) <| mv Z Z <| gz Z Z Z Z Z <| gz Z Z Z Z Z <| L_pur Z (p_pick_f Z Z) <| mv Z Z <| gz Z Z Z Z Z <| gz Z Z Z Z Z <| gz Z Z Z Z Z <| gz Z Z Z Z Z <| L_pur Z (p_pick_f Z Z) <| ag Z Z <| nq <| J_ret <| J_return (()) Tryz.results332 (.tmp Z .nil) ?_ ?_
  · first | rfl | (simp_all [one, rightB]; done) | (simp_all [one, rightB] <;> omega) | (simp_all [one, rightB] <;> grind)
  · exact SU
theorem splitG {a : Int} (ha : 0 ≤ a ∧ a < 4294967296) :
    Con Tryz.prog 321 #[.int .u32 a] E l (fun _ : Unit => .tuple #[.int .i64 ((splitA a).getD (0, 0)).1, .int .i64 ((splitA a).getD (0, 0)).2, .bool (splitA a).isSome]) (fun _ => l) := by
  refine Con.body (n := 23) Tryz.func321 Z Z _ (env_ok 1 Z) <| sr <| ag Z Z <| ag Z Z <| ag Z Z <| nx <| mv Z Z <| L_pur Z (p_shr Z Z (by omega) (by decide)) <| J_slot (t := 8) (v := .int .u32 (a / 256)) Z (by rfl) <| L_pur Z (p_conv Z Tryz.underlying22 Tryz.underlying3) <| J_slot (t := 9) (v := .int .i64 (a / 256)) Z (by rw [wrap64_of (by omega)]) <| mv Z Z <| xo fc263 (A3 Z Z Z) Z (fieldC (n := a) (k := 8) (by omega) ha) fun _ => J_slot (t := 11) (v := .int .u32 (a % 256)) Z (by rfl) <| L_pur Z (p_conv Z Tryz.underlying22 Tryz.underlying3) <| J_slot (t := 12) (v := .int .i64 (a % 256)) Z (by rw [wrap64_of (by omega)]) <| ag Z Z <| ag Z Z <| nxx <| mv Z Z <| L_pur Z (p_lss Z Z) <| mv Z Z <| J_gsplit (t := 15) Z (fun h15 => ?_) (fun h15 => ?_)
  have e15 : decide (a % 256 < 4) = true := h15
  refine gz Z Z Z Z Z <| gz Z Z Z Z Z <| gz Z Z Z Z Z <| gz Z Z Z Z Z <| L_pur Z (p_pick_t Z Z) <| nq <| C_true Z <| sr <| ag Z Z <| ag Z Z <| ag Z Z <| nq <| J_ret <| Q_then_ret <| J_return (()) Tryz.results321 (.tmp Z (.tmp Z (.tmp Z .nil))) ?_ ?_
  · rw [show splitA a = none by unfold splitA; rw [e15]; rfl]; rfl
  · exact SU
  have e15 : decide (a % 256 < 4) = false := h15
  refine gp Z Z Z (p_move Z) Z <| gp Z Z Z (p_move Z) Z <| L_op <| G_on Z Z Z <| xc fc332 (A2 Z Z) Z (rightG) fun _ => gp Z Z Z (p_not Z) Z <| L_pur Z (p_pick_f Z Z) <| nq <| C_split Z (fun h20 => ?_) (fun h20 => ?_)
  have e20 : (!rightB (a / 256) (a % 256)) = true := h20
  refine sr <| ag Z Z <| ag Z Z <| ag Z Z <| nq <| J_ret <| Q_then_ret <| J_return (()) Tryz.results321 (.tmp Z (.tmp Z (.tmp Z .nil))) ?_ ?_
  · rw [show splitA a = none by unfold splitA; rw [e15, e20]; rfl]; rfl
  · exact SU
  have e20 : (!rightB (a / 256) (a % 256)) = false := h20
  refine J_skip <| qx <| mv Z Z <| mv Z Z <| ag Z Z <| ag Z Z <| ag Z Z <| nq <| J_ret <| J_return (()) Tryz.results321 (.tmp Z (.tmp Z (.tmp Z .nil))) ?_ ?_
  · rw [show splitA a = some (a / 256, a % 256) by unfold splitA; rw [e15, e20]; rfl]; rfl
  · exact SU
theorem stepG {c : Cap} {d : Int} :
    Con Tryz.prog 322 #[.agg (encC c).toArray, .int .i64 v, .int .i64 d] E l (fun _ : Unit => .tuple #[.int .i64 ((stepA c v d).getD (0, 0)).1, .int .i64 ((stepA c v d).getD (0, 0)).2, .bool (stepA c v d).isSome]) (fun _ => l) := by
  refine Con.body (n := 48) Tryz.func322 Z Z _ (env_ok 3 Z) <| sr <| L_op <| x_box Z Z Z fun b3 => ag Z Z <| ag Z Z <| ag Z Z <| nxx <| fa Z Z fa110_0 <| L_val Z (v_load Z ty3 HS (by exact rfl)) <| L_pur Z (p_neq Z Z) <| mv Z Z <| J_gsplit (t := 13) Z (fun h13 => ?_) (fun h13 => ?_)
  refine gz Z Z Z Z Z <| gz Z Z Z Z Z <| gz Z Z Z Z Z <| L_pur Z (p_pick_t Z Z) <| mv Z Z <| gz Z Z Z Z Z <| gz Z Z Z Z Z <| gz Z Z Z Z Z <| gz Z Z Z Z Z <| L_pur Z (p_pick_t Z Z) <| mv Z Z <| gz Z Z Z Z Z <| gz Z Z Z Z Z <| gz Z Z Z Z Z <| gz Z Z Z Z Z <| gz Z Z Z Z Z <| L_pur Z (p_pick_t Z Z) <| nq <| C_true Z <| sr <| ag Z Z <| ag Z Z <| ag Z Z <| nq <| J_ret <| Q_then_ret <| J_return (()) Tryz.results322 (.tmp Z (.tmp Z (.tmp Z .nil))) ?_ ?_
  · rw [show stepA c v d = none by unfold stepA; simp_all]; rfl
  · exact SU
  refine L_op <| G_on Z Z Z <| J_val (v_loadA Z ty110 HS CT) Z Z Z <| L_op <| G_on Z Z Z <| xc fc104 (A1 Z) Z (cCheck (c := c)) fun _ => gp Z Z Z (p_not Z) Z <| L_pur Z (p_pick_f Z Z) <| mv Z Z <| J_gsplit (t := 18) Z (fun h18 => ?_) (fun h18 => ?_)
  refine gz Z Z Z Z Z <| gz Z Z Z Z Z <| gz Z Z Z Z Z <| gz Z Z Z Z Z <| L_pur Z (p_pick_t Z Z) <| mv Z Z <| gz Z Z Z Z Z <| gz Z Z Z Z Z <| gz Z Z Z Z Z <| gz Z Z Z Z Z <| gz Z Z Z Z Z <| L_pur Z (p_pick_t Z Z) <| nq <| C_true Z <| sr <| ag Z Z <| ag Z Z <| ag Z Z <| nq <| J_ret <| Q_then_ret <| J_return (()) Tryz.results322 (.tmp Z (.tmp Z (.tmp Z .nil))) ?_ ?_
  · rw [show stepA c v d = none by unfold stepA; simp_all]; rfl
  · exact SU
  refine gp Z Z Z (p_move Z) Z <| gp Z Z Z (p_move Z) Z <| L_op <| G_on Z Z Z <| xc fc332 (A2 Z Z) Z (rightG) fun _ => gp Z Z Z (p_not Z) Z <| L_pur Z (p_pick_f Z Z) <| mv Z Z <| J_gsplit (t := 24) Z (fun h24 => ?_) (fun h24 => ?_)
  refine gz Z Z Z Z Z <| gz Z Z Z Z Z <| gz Z Z Z Z Z <| gz Z Z Z Z Z <| gz Z Z Z Z Z <| L_pur Z (p_pick_t Z Z) <| nq <| C_true Z <| sr <| ag Z Z <| ag Z Z <| ag Z Z <| nq <| J_ret <| Q_then_ret <| J_return (()) Tryz.results322 (.tmp Z (.tmp Z (.tmp Z .nil))) ?_ ?_
  · rw [show stepA c v d = none by unfold stepA; simp_all]; rfl
  · exact SU
  have hk2 : c.kind = 2 := by simpa using h13
  have hck : checkC c = true := by simpa using h18
  have hri : rightB v d = true := by simpa using h24
  have hcn := checkC_node hck hk2
  have hrb := rightB_is hri
  refine gp Z Z Z (p_move Z) Z <| gp Z Z Z (p_fieldAddr Z fa110_2) Z <| L_op <| G_on Z Z Z <| J_val (v_load Z ty3 HS (by exact rfl)) Z Z Z <| gp Z Z Z (p_add64 Z Z (by omega)) Z <| gp Z Z Z (p_lss Z Z) Z <| L_pur Z (p_pick_f Z Z) <| nq <| C_split Z (fun h30 => ?_) (fun h30 => ?_)
  refine sr <| ag Z Z <| ag Z Z <| ag Z Z <| nq <| J_ret <| Q_then_ret <| J_return (()) Tryz.results322 (.tmp Z (.tmp Z (.tmp Z .nil))) ?_ ?_
  · rw [show stepA c v d = none by unfold stepA; simp_all]; rfl
  · exact SU
  have hge : c.size + 4 ≤ d := by simpa using h30
  refine J_skip <| qx <| mv Z Z <| fa Z Z fa110_2 <| L_val Z (v_load Z ty3 HS (by exact rfl)) <| L_pur Z (p_sub64 Z Z (by omega)) <| ag Z Z <| nq <| J_seq <| J_seq <| J_drawS mixed (by kernel_rfl) <| sm Z Z <| sm Z Z <| sp Z (p_shr Z Z (by omega) (by have : (IntKind.i64.bits : Int) = 64 := rfl; omega)) <| sp Z (p_fieldAddr Z fa110_3) <| S_val Z (v_load Z ty3 HS (by exact rfl)) <| sp Z (p_neq Z Z) <| sq <| C_split Z (fun h40 => ?_) (fun h40 => ?_)
  refine sr <| ag Z Z <| ag Z Z <| ag Z Z <| nq <| J_ret <| Q_then_ret <| J_return (()) Tryz.results322 (.tmp Z (.tmp Z (.tmp Z .nil))) ?_ ?_
  · rw [show stepA c v d = none by unfold stepA; simp_all]; rfl
  · exact SU
  refine J_skip <| qx <| mv Z Z <| L_pur Z (p_sub64 Z Z (by omega)) <| ag Z Z <| nx <| mv Z Z <| mv Z Z <| L_pur Z (p_shr Z Z (by omega) (by have : (IntKind.i64.bits : Int) = 64 := rfl; omega)) <| L_pur Z (p_and Z Z) <| J_slot (t := 46) (v := .int .i64 (v / 2 ^ (d - c.size - 4).toNat % 16)) Z (by rw [and15 (div_small hrb.2.1)]) <| mv Z Z <| ag Z Z <| ag Z Z <| ag Z Z <| nq <| J_ret <| J_return (()) Tryz.results322 (.tmp Z (.tmp Z (.tmp Z .nil))) ?_ ?_
  · rw [show stepA c v d = some (v / 2 ^ (d - c.size - 4).toNat % 16, d - c.size - 4) by unfold stepA; simp_all]; rfl
  · exact SU
variable {ps : List (Place × SV)} {root : Cap}
theorem findG {b o : Nat} (hp : Pick (slA b o ps) l m) {a : Int} (ha : 0 ≤ a ∧ a < 4294967296) :
    Con Tryz.prog 309 #[.pointer (some ⟨b, o, none⟩), .agg (encC root).toArray, .int .u32 a] E l (fun _ : Unit => .tuple #[.agg (encI ((kFind ps root a).getD (0, 0))).toArray, .int .i64 (if (kFind ps root a).isSome then 0 else 2)]) (fun _ => slA b o ps :: m) := by
  refine Con.body (n := 63) Tryz.func309 Z Z _ (env_ok 3 Z) <| J_pick hp <| sr <| L_op <| x_box Z Z Z fun b4 => L_op <| x_alloc ty108 Z fun b6 => ag Z Z <| nx <| mv Z Z <| xo fc321 (A1 Z) Z (splitG ha) fun _ => mv Z Z <| L_pur Z (p_extract Z Z) <| L_pur Z (p_extract Z Z) <| L_pur Z (p_extract Z Z) <| ag Z Z <| ag Z Z <| ag Z Z <| nxx <| mv Z Z <| L_pur Z (p_not Z) <| nq <| C_split Z (fun h23 => ?_) (fun h23 => ?_)
  have hsp : splitA a = none := by
    cases hq : splitA a with
    | none => rfl
    | some y => rw [hq] at h23; simp at h23
  have hfk : kFind ps root a = none := by unfold kFind; rw [hsp]
  refine sr <| L_pur Z (bld108 .nil (by repeat constructor)) <| L_op <| x_store Z Z ty108 Z SM SM RO PT <| ag Z Z <| nq <| J_ret <| Q_then_ret <| J_return (()) Tryz.results309 (.cellA Z ty108 HS CT (.tmp Z .nil)) ?_ ?_
  · rw [hfk]; rfl
  · exact SU
  obtain ⟨⟨v0, d0⟩, hsp⟩ : ∃ x, splitA a = some x := by
    cases hq : splitA a with
    | none => rw [hq] at h23; simp at h23
    | some y => exact ⟨y, rfl⟩
  have hs0 := splitA_is hsp
  have hf0 : findA ps 6 root v0 d0 = kFind ps root a := by unfold kFind; rw [hsp]
  refine J_slot (t := 8) (v := .int .i64 (v0)) Z (by rw [hsp]; rfl) <| J_slot (t := 9) (v := .int .i64 (d0)) Z (by rw [hsp]; rfl) <| J_skip <| qx <| L_val Z (v_loadA Z ty110 HS CT) <| L_op <| x_alloc ty110 Z fun b11 => L_op <| x_store Z Z ty110 Z SM SM RO PT <| nq <| J_seq <| J_seq <| J_pick (A := blk b11 _ _) PC ?_
  refine J_asTo (B := blk b11 110 (encC root)) (by rfl) <| J_region <| mv Z Z <| nq <| J_block <| J_loop (α := Nat × Cap × Int × Int) (fun x => x.1 ≤ 6 ∧ ((0 ≤ x.2.2.2 ∧ x.2.2.2 ≤ 24) ∧ (0 ≤ x.2.2.1 ∧ x.2.2.1 < 16777216)) ∧ findA ps (6 - x.1) x.2.1 x.2.2.1 x.2.2.2 = kFind ps root a) (fun x => blk b11 110 (encC x.2.1) :: blk b6 108 [.int .i64 0, .int .i64 0] :: slA b o ps :: m) (fun x => [(26, .int .i64 (x.1 : Int)), (8, .int .i64 x.2.2.1), (9, .int .i64 x.2.2.2), (0, .pointer (some ⟨b, o, none⟩)), (11, .pointer (some ⟨b11, 0, none⟩)), (6, .pointer (some ⟨b6, 0, none⟩))]) (fun x => 6 - x.1) (0, root, v0, d0) ⟨by omega, hs0, hf0⟩ SU KE ?_
  intro x hx
  obtain ⟨k, c, v, d⟩ := x
  obtain ⟨hk, hv, hf⟩ := hx
  dsimp only at hk hv hf ⊢
  refine sr <| L_pur Z (p_lss Z Z) <| nq <| J_seq <| C_dec Z (fun h27 => ?_) (fun h27 => ?_)
  obtain ⟨n, hn⟩ : ∃ n, 6 - k = n + 1 := ⟨5 - k, by omega⟩
  rw [hn, findA] at hf
  refine J_skip <| Q_then <| J_seq <| J_block <| sr <| L_val Z (v_loadA Z ty110 HS CT) <| mv Z Z <| mv Z Z <| xo fc322 (A3 Z Z Z) Z (stepG (c := c) (v := v) (d := d)) fun _ => mv Z Z <| L_pur Z (p_extract Z Z) <| L_pur Z (p_extract Z Z) <| L_pur Z (p_extract Z Z) <| ag Z Z <| ag Z Z <| ag Z Z <| nxx <| mv Z Z <| L_pur Z (p_not Z) <| nq <| C_split Z (fun h37 => ?_) (fun h37 => ?_)
  have hst : stepA c v d = none := by
    cases hq : stepA c v d with
    | none => rfl
    | some y => rw [hq] at h37; simp at h37
  rw [hst] at hf
  have hfk : kFind ps root a = none := hf.symm
  refine sr <| L_pur Z (bld108 .nil (by repeat constructor)) <| L_op <| x_store Z Z ty108 Z SM SM RO PT <| ag Z Z <| nq <| J_ret <| Q_then_ret <| Q_blk_ret <| Q_then_ret <| Q_then_ret <| Q_blk_ret <| Q_then_ret <| J_return (()) Tryz.results309 (.cellA Z ty108 HS CT (.tmp Z .nil)) ?_ ?_
  · rw [hfk]; rfl
  · exact SU
  obtain ⟨⟨j, r⟩, hst⟩ : ∃ x, stepA c v d = some x := by
    cases hq : stepA c v d with
    | none => rw [hq] at h37; simp at h37
    | some y => exact ⟨y, rfl⟩
  rw [hst] at hf
  have hjr := stepA_is hst
  refine J_slot (t := 12) (v := .int .i64 (j)) Z (by rw [hst]; rfl) <| J_slot (t := 13) (v := .int .i64 (r)) Z (by rw [hst]; rfl) <| J_skip <| qx <| fa Z Z fa110_1 <| L_val Z (v_load Z ty3 HS (by exact rfl)) <| mv Z Z <| L_pur Z (bld108 (.cons Z (.cons Z .nil)) (by repeat constructor)) <| L_op <| x_alloc ty108 Z fun b15 => L_op <| x_store Z Z ty108 Z SM SM RO PT <| J_pick (A := blk b15 _ _) PC <| J_asTo (B := blk b15 108 (encI (c.obj, j))) (by rfl) <| nxx <| mv Z Z <| L_pur Z (p_eql Z Z) <| nq <| C_dec Z (fun h44 => ?_) (fun h44 => ?_)
  have hfk : kFind ps root a = some (c.obj, j) := by rw [← hf]; exact if_pos h44
  refine sr <| L_val Z (v_loadA Z ty108 HS CT) <| L_op <| x_store Z Z ty108 Z SM SM RO PT <| ag Z Z <| nq <| J_ret <| Q_then_ret <| Q_blk_ret <| Q_then_ret <| Q_then_ret <| Q_blk_ret <| Q_then_ret <| J_return (()) Tryz.results309 (.cellA Z ty108 HS CT (.tmp Z .nil)) ?_ ?_
  · rw [hfk]; rfl
  · exact SU
  dsimp only at hf
  rw [if_neg h44] at hf
  refine J_skip <| Q_then <| J_seq <| sr <| mv Z Z <| L_val Z (v_loadA Z ty108 HS CT) <| xo fc277 (A2 Z Z) Z (slGetC (ps := ps) (p := (c.obj, j)) PC) fun _ => mv Z Z <| L_pur Z (p_extract Z Z) <| L_pur Z (p_extract Z Z) <| L_op <| x_store Z Z ty110 Z SM SM RO PT <| ag Z Z <| nx <| mv Z Z <| L_pur Z (p_not Z) <| nq <| C_split Z (fun h53 => ?_) (fun h53 => ?_)
  have hsl : look ps (c.obj, j) = none := by
    cases hq : look ps (c.obj, j) with
    | none => rfl
    | some y => rw [hq] at h53; simp at h53
  rw [hsl] at hf
  have hfk : kFind ps root a = none := hf.symm
  refine sr <| L_pur Z (bld108 .nil (by repeat constructor)) <| L_op <| x_store Z Z ty108 Z SM SM RO PT <| ag Z Z <| nq <| J_ret <| Q_then_ret <| Q_blk_ret <| Q_then_ret <| Q_then_ret <| Q_blk_ret <| Q_then_ret <| J_return (()) Tryz.results309 (.cellA Z ty108 HS CT (.tmp Z .nil)) ?_ ?_
  · rw [hfk]; rfl
  · exact SU
  obtain ⟨sv, hsv⟩ : ∃ x, look ps (c.obj, j) = some x := by
    cases hq : look ps (c.obj, j) with
    | none => rw [hq] at h53; simp at h53
    | some y => exact ⟨y, rfl⟩
  rw [hsv] at hf
  refine J_pick (A := blk b11 _ _) PC <| J_asTo (B := blk b11 110 (encC sv.1)) (by rw [hsv]; rfl) ?_
  obtain ⟨rk, hrk⟩ : ∃ rk : Nat, r = rk := ⟨r.toNat, by omega⟩
  obtain ⟨g1, g2, g3⟩ := shl1_24 rk (by omega)
  have hrt : r.toNat = rk := by omega
  have hvm : 0 ≤ v % 2 ^ r.toNat ∧ v % 2 ^ r.toNat < 16777216 := by
    rw [hrt]
    exact ⟨Int.emod_nonneg _ (by omega), by have := Int.emod_lt_of_pos v (b := 2 ^ rk) (by omega); omega⟩
  refine J_skip <| qr <| mv Z Z <| mv Z Z <| L_pur Z (p_shl Z Z (by omega) (by have : (IntKind.i64.bits : Int) = 64 := rfl; omega)) <| J_slot (t := 57) (v := .int .i64 (2 ^ rk)) Z (by rw [← g1]; unfold shl1; rw [hrk]) <| L_pur Z (p_sub64 Z Z (by omega)) <| L_pur Z (p_and Z Z) <| J_slot (t := 59) (v := .int .i64 (v % 2 ^ r.toNat)) Z (by rw [hrt, and_mask64 (by omega) (by omega)]) <| mv Z Z <| ag Z Z <| ag Z Z <| L_nil <| Q_blk_normal <| qr <| L_pur Z (p_add64 Z Z (by omega)) <| mv Z Z <| nq ?_
  exact J_again ((k + 1, sv.1, v % 2 ^ r.toNat, r)) (by show 6 - (k + 1) < 6 - k; omega) (⟨by show k + 1 ≤ 6; omega, ⟨hjr.1, hvm⟩, by rw [← hf]; show findA ps (6 - (k + 1)) _ _ _ = _; rw [show 6 - (k + 1) = n by omega]⟩) SU KE
  have hfk : kFind ps root a = none := by rw [← hf, show 6 - k = 0 by omega]; rfl
  refine J_exit <| Q_then_exit <| Q_then_exit <| Q_blk_this <| qx <| L_pur Z (bld108 .nil (by repeat constructor)) <| L_op <| x_store Z Z ty108 Z SM SM RO PT <| ag Z Z <| nq <| J_ret <| J_return (()) Tryz.results309 (.cellA Z ty108 HS CT (.tmp Z .nil)) ?_ ?_
  · rw [hfk]; rfl
  · exact SU
theorem capG {b o : Nat} (hp : Pick (slA b o ps) l m) {a kind : Int} (ha : 0 ≤ a ∧ a < 4294967296) :
    Con Tryz.prog 285 #[.pointer (some ⟨b, o, none⟩), .agg (encC root).toArray, .int .u32 a, .int .i64 kind] E l (fun _ : Unit => .tuple #[.agg (encC (kCap ps root a kind).1).toArray, .agg (encI (kCap ps root a kind).2.1).toArray, .int .i64 (kCap ps root a kind).2.2]) (fun _ => slA b o ps :: m) := by
  refine Con.body (n := 51) Tryz.func285 Z Z _ (env_ok 4 Z) <| J_pick hp <| sr <| L_op <| x_box Z Z Z fun b5 => L_op <| x_alloc ty110 Z fun b8 => L_op <| x_alloc ty108 Z fun b9 => ag Z Z <| nx <| mv Z Z <| L_val Z (v_loadA Z ty110 HS CT) <| mv Z Z <| xo fc309 (A3 Z Z Z) Z (findG (ps := ps) (root := root) (a := a) PC ha) fun _ => mv Z Z <| L_pur Z (p_extract Z Z) <| L_pur Z (p_extract Z Z) <| L_op <| x_alloc ty108 Z fun b11 => L_op <| x_store Z Z ty108 Z SM SM RO PT <| ag Z Z <| nxx <| mv Z Z <| L_pur Z (p_neq Z Z) <| nq <| C_split Z (fun h23 => ?_) (fun h23 => ?_)
  have hfi : kFind ps root a = none := by
    cases hq : kFind ps root a with
    | none => rfl
    | some y => rw [hq] at h23; simp at h23
  have hca : (kCap ps root a kind) = (c0, (0, 0), 2) := by unfold kCap; rw [hfi]
  refine J_slot (t := 12) (v := .int .i64 (2)) Z (by rw [hfi]; rfl) <| sr <| L_pur Z (bld110 .nil (by repeat constructor)) <| L_pur Z (bld108 .nil (by repeat constructor)) <| mv Z Z <| L_op <| x_store Z Z ty110 Z SM SM RO PT <| L_op <| x_store Z Z ty108 Z SM SM RO PT <| ag Z Z <| nq <| J_ret <| Q_then_ret <| J_return (()) Tryz.results285 (.cellA Z ty110 HS CT (.cellA Z ty108 HS CT (.tmp Z .nil))) ?_ ?_
  · rw [hca]; rfl
  · exact SU
  obtain ⟨pl, hfi⟩ : ∃ x, kFind ps root a = some x := by
    cases hq : kFind ps root a with
    | none => rw [hq] at h23; simp at h23
    | some y => exact ⟨y, rfl⟩
  refine J_pick (A := blk b11 _ _) PC <| J_asTo (B := blk b11 108 (encI pl)) (by rw [hfi]; rfl) <| J_skip <| qx <| mv Z Z <| L_val Z (v_loadA Z ty108 HS CT) <| xo fc277 (A2 Z Z) Z (slGetC (ps := ps) (p := pl) PC) fun _ => mv Z Z <| L_pur Z (p_extract Z Z) <| L_pur Z (p_extract Z Z) <| L_op <| x_alloc ty110 Z fun b13 => L_op <| x_store Z Z ty110 Z SM SM RO PT <| ag Z Z <| nq <| J_seq <| J_block <| sr <| mv Z Z <| L_pur Z (p_not Z) <| ag Z Z <| nq <| C_split Z (fun h33 => ?_) (fun h33 => ?_)
  have hno : look ps pl = none := by
    cases hq : look ps pl with
    | none => rfl
    | some y => rw [hq] at h33; simp at h33
  have hca : (kCap ps root a kind) = (c0, (0, 0), 4) := by unfold kCap; rw [hfi]; dsimp only; rw [hno]
  refine sr <| L_pur Z (bld110 .nil (by repeat constructor)) <| L_pur Z (bld108 .nil (by repeat constructor)) <| L_op <| x_store Z Z ty110 Z SM SM RO PT <| L_op <| x_store Z Z ty108 Z SM SM RO PT <| ag Z Z <| nq <| J_ret <| Q_blk_ret <| Q_then_ret <| J_return (()) Tryz.results285 (.cellA Z ty110 HS CT (.cellA Z ty108 HS CT (.tmp Z .nil))) ?_ ?_
  · rw [hca]; rfl
  · exact SU
  obtain ⟨sv, hsv⟩ : ∃ x, look ps pl = some x := by
    cases hq : look ps pl with
    | none => rw [hq] at h33; simp at h33
    | some y => exact ⟨y, rfl⟩
  refine J_pick (A := blk b13 _ _) PC <| J_asTo (B := blk b13 110 (encC sv.1)) (by rw [hsv]; rfl) <| sr <| mv Z Z <| L_pur Z (p_neq Z Z) <| mv Z Z <| J_gsplit (t := 41) Z (fun h41 => ?_) (fun h41 => ?_)
  refine gp Z Z Z (p_fieldAddr Z fa110_0) Z <| L_op <| G_on Z Z Z <| J_val (v_load Z ty3 HS (by exact rfl)) Z Z Z <| gp Z Z Z (p_move Z) Z <| gp Z Z Z (p_neq Z Z) Z <| L_pur Z (p_pick_t Z Z) <| ag Z Z <| nq <| C_split Z (fun h38 => ?_) (fun h38 => ?_)
  have hca : (kCap ps root a kind) = (c0, (0, 0), 5) := by unfold kCap; rw [hfi]; dsimp only; rw [hsv]; simp_all
  refine sr <| L_pur Z (bld110 .nil (by repeat constructor)) <| L_pur Z (bld108 .nil (by repeat constructor)) <| L_op <| x_store Z Z ty110 Z SM SM RO PT <| L_op <| x_store Z Z ty108 Z SM SM RO PT <| ag Z Z <| nq <| J_ret <| Q_blk_ret <| Q_then_ret <| J_return (()) Tryz.results285 (.cellA Z ty110 HS CT (.cellA Z ty108 HS CT (.tmp Z .nil))) ?_ ?_
  · rw [hca]; rfl
  · exact SU
  have hca : (kCap ps root a kind) = (sv.1, pl, 0) := by unfold kCap; rw [hfi]; dsimp only; rw [hsv]; simp_all
  refine J_skip <| Q_blk_normal <| Q_then <| J_seq <| J_drawL (some 2) mixed <| iv 0 Z Z Z Z (fun _ => v_loadA Z ty110 HS CT) <| I_ready (rs := [1, 2]) SI (by kernel_rfl) (by simp) <| (I_cons Z ?_ (I_cons Z ?_ I_nil))
  refine J_val (v_loadA Z ty108 HS CT) Z Z Z <| i1 2 Z <| x_store Z Z ty110 Z SM SM RO PT <| i1 3 Z <| x_store Z Z ty108 Z SM SM RO PT <| ip 4 Z Z Z Z (p_assign Z) <| i0 <| Q_then <| J_ret <| J_return (()) Tryz.results285 (.cellA Z ty110 HS CT (.cellA Z ty108 HS CT (.tmp Z .nil))) ?_ ?_
  · rw [hca]; rfl
  · exact SU
  refine x_store Z Z ty110 Z SM SM RO PT <| i1 1 Z <| J_val (v_loadA Z ty108 HS CT) Z Z Z <| i1 3 Z <| x_store Z Z ty108 Z SM SM RO PT <| ip 4 Z Z Z Z (p_assign Z) <| i0 <| Q_then <| J_ret <| J_return (()) Tryz.results285 (.cellA Z ty110 HS CT (.cellA Z ty108 HS CT (.tmp Z .nil))) ?_ ?_
  · rw [hca]; rfl
  · exact SU
  have hca : (kCap ps root a kind) = (sv.1, pl, 0) := by unfold kCap; rw [hfi]; dsimp only; rw [hsv]; simp_all
  refine gz Z Z Z Z Z <| gz Z Z Z Z Z <| gz Z Z Z Z Z <| gz Z Z Z Z Z <| L_pur Z (p_pick_f Z Z) <| ag Z Z <| nq <| C_false Z <| J_skip <| Q_blk_normal <| Q_then <| J_seq <| J_drawL (some 2) mixed <| iv 0 Z Z Z Z (fun _ => v_loadA Z ty110 HS CT) <| I_ready (rs := [1, 2]) SI (by kernel_rfl) (by simp) <| (I_cons Z ?_ (I_cons Z ?_ I_nil))
  refine J_val (v_loadA Z ty108 HS CT) Z Z Z <| i1 2 Z <| x_store Z Z ty110 Z SM SM RO PT <| i1 3 Z <| x_store Z Z ty108 Z SM SM RO PT <| ip 4 Z Z Z Z (p_assign Z) <| i0 <| Q_then <| J_ret <| J_return (()) Tryz.results285 (.cellA Z ty110 HS CT (.cellA Z ty108 HS CT (.tmp Z .nil))) ?_ ?_
  · rw [hca]; rfl
  · exact SU
  refine x_store Z Z ty110 Z SM SM RO PT <| i1 1 Z <| J_val (v_loadA Z ty108 HS CT) Z Z Z <| i1 3 Z <| x_store Z Z ty108 Z SM SM RO PT <| ip 4 Z Z Z Z (p_assign Z) <| i0 <| Q_then <| J_ret <| J_return (()) Tryz.results285 (.cellA Z ty110 HS CT (.cellA Z ty108 HS CT (.tmp Z .nil))) ?_ ?_
  · rw [hca]; rfl
  · exact SU
/-! ### plain: slots, by what they hold; a tree of slots -/
def heirs (ps : List (Place × SV)) (q : SV → Bool) : List Place := sortP ((ps.filter fun e => q e.2).map Prod.fst)
def kids (ps : List (Place × SV)) (p : Place) : List Place := if (look ps p).isSome then heirs ps fun s => decide (s.2 = p) else []
def namesC (a b : Cap) : Bool := decide (a.kind = b.kind) && decide (a.obj = b.obj) && (decide (a.kind ≠ 1) || decide (a.size = b.size))
def named (ps : List (Place × SV)) (c : Cap) : List Place := heirs ps fun s => namesC s.1 c
theorem heirs_mem {q : SV → Bool} {a : Place} : a ∈ heirs ps q ↔ ∃ s, (a, s) ∈ ps ∧ q s = true := by
  unfold heirs sortP
  rw [sortF_mem, List.mem_map]
  constructor
  · rintro ⟨e, he, rfl⟩
    have := List.mem_filter.1 he
    exact ⟨e.2, this.1, this.2⟩
  · rintro ⟨s, h1, h2⟩
    exact ⟨(a, s), List.mem_filter.2 ⟨h1, h2⟩, rfl⟩
def turnL (ps : List (Place × SV)) (to : Place) (l : List Place) : List (Place × SV) := l.foldl (fun t k => ins t k (((look t k).getD s0).1, to)) ps
def turnS (ps : List (Place × SV)) (a to : Place) : List (Place × SV) := turnL ps to (kids ps a)
theorem turnL_some {to a : Place} : ∀ {l : List Place} {ps : List (Place × SV)}, (look ps a).isSome = true → (look (turnL ps to l) a).isSome = true
  | [], _, h => h
  | k :: l, ps, h => turnL_some (l := l) (ps := ins ps k (((look ps k).getD s0).1, to)) (by rw [look_ins]; split <;> simp [h])
def dropS (ps : List (Place × SV)) (p : Place) : List (Place × SV) := match look ps p with
  | none => ps
  | some s => del (turnS ps p s.2) p
def moveOk (ps : List (Place × SV)) (a b : Place) : Bool := (look ps a).isSome && canP b && !(look ps b).isSome
def moveS (ps : List (Place × SV)) (a b : Place) : List (Place × SV) := if moveOk ps a b then ins (del (turnS ps a b) a) b ((look ps a).getD s0) else ps
def belowL (ps : List (Place × SV)) : Nat → List Place → List Place → Option (List Place)
  | _, done, [] => some done
  | 0, _, _ :: _ => none
  | n + 1, done, p :: ts => belowL ps n (done ++ [p]) (ts ++ kids ps p)
/-! ### plain: copies, moves; what a deletion takes -/
def bothS (ps : List (Place × SV)) (p q : Place) : Cap × Int := match look ps p with
  | none => (c0, 4)
  | some s => if canP q = false then (c0, 7) else if (look ps q).isSome then (c0, 3) else (s.1, 0)
def lessC (c : Cap) (r : Int) : Cap := { c with rights := bits .and .i64 c.rights (bits .and .i64 r 7) }
def badgeC (c : Cap) (n : Int) : Cap × Int :=
  if c.kind = 4 ∨ c.kind = 5 then (if c.badge ≠ 0 ∨ n = 0 then (c0, 12) else if n > 2147483647 then (c0, 7) else ({ c with badge := n }, 0))
  else if c.kind = 2 then (if checkC { c with size := n % 256, badge := n / 256 } = true then ({ c with size := n % 256, badge := n / 256 }, 0) else (c0, 7))
  else (c0, 5)
def copyS (ps : List (Place × SV)) (p q : Place) (r : Int) : List (Place × SV) × Int :=
  if (bothS ps p q).2 ≠ 0 then (ps, (bothS ps p q).2) else if r < 0 ∨ r > 7 then (ps, 7) else (slPut ps q (lessC (bothS ps p q).1 r) p, 0)
def mintS (ps : List (Place × SV)) (p q : Place) (n : Int) : List (Place × SV) × Int :=
  if (bothS ps p q).2 ≠ 0 then (ps, (bothS ps p q).2) else if (badgeC (bothS ps p q).1 n).2 ≠ 0 then (ps, (badgeC (bothS ps p q).1 n).2) else (slPut ps q (badgeC (bothS ps p q).1 n).1 p, 0)
def dmoveS (ps : List (Place × SV)) (p q : Place) : List (Place × SV) × Int := (if (bothS ps p q).2 = 0 then moveS ps p q else ps, (bothS ps p q).2)
theorem has_some {p a : Place} (h : a ∈ kids ps p) : (look ps a).isSome = true := by
  unfold kids at h
  split at h
  · obtain ⟨s, h1, _⟩ := heirs_mem.1 h
    cases hq : look ps a with
    | none => exact absurd (List.mem_map.2 ⟨(a, s), h1, rfl⟩) (look_none_iff.1 hq)
    | some y => rfl
  · cases h
theorem ins_len {a : Place} {u : SV} (h : (look ps a).isSome = true) : (ins ps a u).length = ps.length := by
  unfold Go.Pse.ins; rw [if_pos h, List.length_map]
theorem turnL_len {to : Place} : ∀ {l : List Place} {ps : List (Place × SV)}, (∀ a ∈ l, (look ps a).isSome = true) → (turnL ps to l).length = ps.length
  | [], _, _ => rfl
  | k :: l, ps, h => by
    have h1 := turnL_len (to := to) (l := l) (ps := ins ps k (((look ps k).getD s0).1, to)) fun a ha => by
      rw [look_ins]; split
      · rfl
      · exact h a (List.mem_cons_of_mem _ ha)
    show (turnL (ins ps k (((look ps k).getD s0).1, to)) to l).length = _
    rw [h1, ins_len (h k List.mem_cons_self)]
theorem turnS_len (ps : List (Place × SV)) (a to : Place) : (turnS ps a to).length = ps.length := turnL_len fun _ h => has_some h
theorem dropS_len {p : Place} {s : SV} (h : look ps p = some s) : (dropS ps p).length + 1 ≤ ps.length := by
  have e : dropS ps p = del (turnS ps p s.2) p := by unfold dropS; rw [h]
  have h1 : (look (turnS ps p s.2) p).isSome = true := turnL_some (by rw [h]; rfl)
  obtain ⟨y, hy⟩ := Option.isSome_iff_exists.1 h1
  have := del_less hy
  rw [e, turnS_len] at *
  exact this
abbrev Obj2 := Int × Int
def dropK1 (D : List (Place × SV) → Place → List (Place × SV) × List Obj2) (u : Int) (x : List (Place × SV) × List Obj2) (k : Nat) : List (Place × SV) × List Obj2 := match D x.1 (u, (k : Int)) with
  | (t, o) => (t, x.2 ++ o)
def dropK (D : List (Place × SV) → Place → List (Place × SV) × List Obj2) (u : Int) (n : Nat) (x : List (Place × SV) × List Obj2) : List (Place × SV) × List Obj2 := (List.range n).foldl (dropK1 D u) x
def kDropT : Nat → List (Place × SV) → Place → List (Place × SV) × List Obj2
  | 0, ps, _ => (ps, [])
  | n + 1, ps, p => match look ps p with
    | none => (ps, [])
    | some s => match named (dropS ps p) s.1 with
      | _ :: _ => (dropS ps p, [])
      | [] => if s.1.kind = 2 then dropK (kDropT n) s.1.obj 16 (dropS ps p, [(s.1.kind, s.1.obj)]) else (dropS ps p, [(s.1.kind, s.1.obj)])
theorem dropK_succ {D : List (Place × SV) → Place → List (Place × SV) × List Obj2} {x : List (Place × SV) × List Obj2} : dropK D u (n + 1) x = ((D (dropK D u n x).1 (u, (n : Int))).1, (dropK D u n x).2 ++ (D (dropK D u n x).1 (u, (n : Int))).2) := by
  unfold dropK
  rw [List.range_succ, List.foldl_append]
  rfl
theorem dropK_len {D : List (Place × SV) → Place → List (Place × SV) × List Obj2} (hD : ∀ ps p, (D ps p).1.length + (D ps p).2.length ≤ ps.length) {u : Int} {x : List (Place × SV) × List Obj2} : ∀ n, (dropK D u n x).1.length + (dropK D u n x).2.length ≤ x.1.length + x.2.length
  | 0 => Nat.le_refl _
  | n + 1 => by
    rw [dropK_succ]
    have h1 := dropK_len hD (u := u) (x := x) n
    have h2 := hD (dropK D u n x).1 (u, (n : Int))
    simp only [List.length_append]
    omega
theorem kDropT_len : ∀ n ps p, (kDropT n ps p).1.length + (kDropT n ps p).2.length ≤ ps.length
  | 0, ps, p => Nat.le_refl _
  | n + 1, ps, p => by
    rw [kDropT]
    split
    · simp
    · rename_i s hs
      have h1 := dropS_len hs
      split
      · simp; omega
      · split
        · have := dropK_len (kDropT_len n) (u := s.1.obj) (x := (dropS ps p, [(s.1.kind, s.1.obj)])) 16
          simp at this ⊢
          omega
        · simp; omega
theorem dropK_le {D : List (Place × SV) → Place → List (Place × SV) × List Obj2} (hD : ∀ ps p, (D ps p).1.length + (D ps p).2.length ≤ ps.length) {x : List (Place × SV) × List Obj2} (n : Nat) : (dropK D u n x).1.length ≤ x.1.length := by
  induction n with
  | zero => exact Nat.le_refl _
  | succ n ih =>
    rw [dropK_succ]
    have h2 := hD (dropK D u n x).1 (u, (n : Int))
    show (D (dropK D u n x).1 (u, (n : Int))).1.length ≤ _
    omega
theorem kDropT_less {p : Place} {s : SV} (h : look ps p = some s) : (kDropT (n + 1) ps p).1.length < ps.length := by
  have h1 := dropS_len h
  rw [kDropT, h]
  dsimp only
  split
  · exact h1
  · split
    · have := dropK_le (kDropT_len n) (u := s.1.obj) (x := (dropS ps p, [(s.1.kind, s.1.obj)])) 16
      simp only at this
      omega
    · exact h1
def deleteS (ps : List (Place × SV)) (p : Place) : (List (Place × SV) × List Obj2) × Int := match look ps p with
  | none => ((ps, []), 4)
  | some _ => (kDropT ps.length ps p, 0)
def belowS (ps : List (Place × SV)) (p : Place) : Option (List Place) := (belowL ps ps.length [] (kids ps p)).map sortP
def revL (p : Place) : Nat → List (Place × SV) → List Obj2 → Option (List (Place × SV) × List Obj2)
  | 0, _, _ => none
  | n + 1, ps, out => match belowS ps p with
    | none => none
    | some [] => some (ps, out)
    | some (a :: _) => match kDropT ps.length ps a with
      | (t, o) => revL p n t (out ++ o)
def revokeS (ps : List (Place × SV)) (p : Place) : (List (Place × SV) × List Obj2) × Int := match look ps p with
  | none => ((ps, []), 4)
  | some _ => ((revL p (ps.length + 1) ps []).getD (ps, []), 0)
def RevOk (ps : List (Place × SV)) (p : Place) : Prop := (look ps p).isSome = true → (revL p (ps.length + 1) ps []).isSome = true
theorem revL_below {p : Place} {out : List Obj2} {r : List (Place × SV) × List Obj2} (h : revL p n ps out = some r) : ∃ L, belowS ps p = some L := by
  cases n with
  | zero => simp [revL] at h
  | succ n =>
    cases hb : belowS ps p with
    | none => rw [revL, hb] at h; cases h
    | some L => exact ⟨L, rfl⟩
theorem revL_step {p a : Place} {out : List Obj2} {ls : List Place} (hb : belowS ps p = some (a :: ls)) : revL p (n + 1) ps out = revL p n (kDropT ps.length ps a).1 (out ++ (kDropT ps.length ps a).2) := by rw [revL, hb]
/-! ### plain: objects are made of memory -/
def usedM (mr : List (Place × Int)) (r : Place) : Int := (look mr r).getD 0
def mtkOk (mr : List (Place × Int)) (r : Place) (n : Int) : Bool := decide (1 ≤ n) && decide (n ≤ r.2 - usedM mr r)
def mtkM (mr : List (Place × Int)) (r : Place) (n : Int) : List (Place × Int) := if mtkOk mr r n = true then ins mr r (usedM mr r + n) else mr
def mtkV (mr : List (Place × Int)) (r : Place) (n : Int) : Int := if mtkOk mr r n = true then r.1 + usedM mr r else 0
def kindsC (kind size : Int) : Int := if kind = 2 ∨ kind = 3 ∨ kind = 4 ∨ kind = 5 ∨ kind = 7 then (if size ≠ 0 then 7 else 0) else if kind = 1 then (if size < 1 ∨ size > 64 then 7 else 0) else 5
def sizeC (c : Cap) : Int := if c.kind = 1 then c.size else 1
def withinC (c u : Cap) : Bool := !(decide (c.obj ≥ u.obj + u.size) || decide (c.obj + sizeC c ≤ u.obj)) && (decide (c.kind ≠ 1) || decide (c.obj > u.obj) || decide (c.obj + sizeC c < u.obj + u.size))
def bareS (ps : List (Place × SV)) (u : Cap) : Bool := ps.all fun e => !withinC e.2.1 u
def rangeC (c : Cap) : Place := if c.kind ≠ 1 then (0, 0) else (c.obj, c.size)
def CapsOk (ps : List (Place × SV)) : Prop := ∀ e ∈ ps, checkC e.2.1 = true
def MarksOk (mr : List (Place × Int)) : Prop := ∀ e ∈ mr, 0 ≤ e.2 ∧ e.2 ≤ 64
def resetM (ps : List (Place × SV)) (mr : List (Place × Int)) (u : Cap) : List (Place × Int) := if bareS ps u = true then del mr (rangeC u) else mr
def madeC (mr : List (Place × Int)) (u : Cap) (kind size : Int) : Cap := ⟨kind, mtkV mr (rangeC u) (max size 1), size, 0, 7⟩
def makeS (ps : List (Place × SV)) (mr : List (Place × Int)) (p q : Place) (kind size : Int) : (List (Place × SV) × List (Place × Int)) × Cap × Int := match look ps p with
  | none => ((ps, mr), c0, 4)
  | some u => if u.1.kind ≠ 1 then ((ps, mr), c0, 5) else if canP q = false then ((ps, mr), c0, 7) else if (look ps q).isSome then ((ps, mr), c0, 3) else if kindsC kind size ≠ 0 then ((ps, mr), c0, kindsC kind size)
    else if mtkOk (resetM ps mr u.1) (rangeC u.1) (max size 1) = true then ((slPut ps q (madeC (resetM ps mr u.1) u.1 kind size) p, mtkM (resetM ps mr u.1) (rangeC u.1) (max size 1)), madeC (resetM ps mr u.1) u.1 kind size, 0)
    else ((ps, resetM ps mr u.1), c0, 8)
theorem checkC_is {c : Cap} (h : checkC c = true) : (1 ≤ c.obj ∧ c.obj ≤ 64) ∧ (0 ≤ c.size ∧ c.size ≤ 64) ∧ (c.kind = 1 → c.obj + c.size ≤ 65 ∧ 1 ≤ c.size) := by
  unfold checkC inB at h
  simp only [Bool.and_eq_true, decide_eq_true_eq] at h
  obtain ⟨⟨⟨h1, h2⟩, h3⟩, h4⟩ := h
  split at h4
  · simp at h4; omega
  · split at h4
    · simp at h4; omega
    · split at h4 <;> simp at h4 <;> omega
theorem usedM_is {mr : List (Place × Int)} (h : MarksOk mr) (r : Place) : 0 ≤ usedM mr r ∧ usedM mr r ≤ 64 := by
  unfold usedM
  cases hq : look mr r with
  | none => simp
  | some y => exact h _ (mem_look hq)
theorem MarksOk.del {mr : List (Place × Int)} (h : MarksOk mr) (r : Place) : MarksOk (del mr r) := fun e he => h e (List.mem_filter.1 he).1
theorem MarksOk.reset {mr : List (Place × Int)} (h : MarksOk mr) (ps : List (Place × SV)) (u : Cap) : MarksOk (resetM ps mr u) := by
  unfold resetM; split
  · exact h.del _
  · exact h
/-! ### an object is laid in; plain -/
theorem ptrs_ins {α : Type} {xs : List (Int × Nat × α)} {b : Nat} {a : α} : ins (ptrs xs) u b = ptrs (ins xs u (b, a)) := by
  unfold Go.Pse.ins
  rw [look_ptrs]
  cases look xs u with
  | none => simp [ptrs]
  | some y =>
    simp only [Option.map_some, Option.isSome_some, if_true]
    unfold ptrs
    rw [List.map_map, List.map_map]
    refine List.map_congr_left fun x _ => ?_
    simp only [Function.comp]
    split <;> rfl
theorem J_eachIns {α : Type} {F : Env} {K : Act → World → Prop} {f : Int × Nat × α → As} {xs : List (Int × Nat × α)} {x : Nat × α} (hK : Keyd (ptrs xs)) (k : Jk E (each f (ins xs u x) :: l) n F K) : Jk E (f (u, x) :: each f xs :: l) n F K := by
 have hK' : Keyd xs := by
  unfold Keyd at hK ⊢
  rw [show (ptrs xs).map Prod.fst = xs.map Prod.fst by unfold ptrs; rw [List.map_map]; rfl] at hK
  exact hK
 cases hl : look xs u with
 | none =>
  refine J_eachPush ?_
  rw [show ins xs u x = xs ++ [(u, x)] by unfold Go.Pse.ins; rw [hl]; rfl] at k
  exact k
 | some y =>
  obtain ⟨i, hi⟩ := look_ix hl
  rw [ins_at hK' hi rfl] at k
  refine J_pick (A := each f xs) (.there .here) <| J_eachOut hi <| J_sub (l' := f (u, x) :: each f (xs.eraseIdx i) :: l) (Sub.cons (.there (.there .here)) (Sub.cons (.there .here) (Sub.drop .refl))) ?_
  exact J_eachIn (u, x) (List.getElem?_eq_some_iff.1 hi).1 k
def zeroM (ms : List (List Int)) (u : Int) : List (List Int) := ms.set (u - 1).toNat zrow
def kMade (s : KS) (c : Cap) (b : Nat) : KS :=
  if c.kind = 4 then { s with ep := ins s.ep c.obj (b, [], []) } else if c.kind = 5 then { s with nt := ins s.nt c.obj (b, 0, []) } else if c.kind = 7 then { s with rp := ins s.rp c.obj (b, (0, 0), false) } else if c.kind = 3 then { s with mem := zeroM s.mem c.obj } else s
def sendE (x : Msg) (a : List Msg × List Rcv) : List Msg × List Rcv := match a.2 with
  | [] => (a.1 ++ [x], [])
  | _ :: r => (a.1, r)
def recvE (y : Rcv) (a : List Msg × List Rcv) : List Msg × List Rcv := match a.1 with
  | [] => ([], a.2 ++ [y])
  | _ :: r => (r, a.2)
def m0 : Msg := ((0, 0), 0, 0, false)
def r0 : Rcv := ((0, 0), 0)
def kWaits (s : KS) (k u : Int) : List ID :=
  if k = 4 then (match look s.ep u with
    | none => []
    | some x => x.2.1.map Prod.fst ++ x.2.2.map Prod.fst)
  else if k = 5 then (match look s.nt u with
    | none => []
    | some x => x.2.2)
  else if k = 7 then (match look s.rp u with
    | none => []
    | some x => if x.2.2 = true then [x.2.1] else [])
  else []
variable {ms : List (List Int)}
theorem zeroC {b : Nat} (hp : Pick (memA b ms) l m) (hM : MemOk ms) (hu1 : 1 ≤ u ∧ u ≤ 64) :
    Con Tryz.prog 106 #[.pointer (some ⟨b, 0, none⟩), .int .i64 u] E l (fun _ : Unit => .bool true) (fun _ => memA b (zeroM ms u) :: m) := by
  refine Con.body (n := 15) Tryz.func106 Z Z _ (env_ok 2 Z) ?_
  obtain ⟨hu, hrl, hrB⟩ := hM.at hu1
  have hms := hM.len
  obtain ⟨r, hr⟩ : ∃ r, r = rowAt ms u := ⟨_, rfl⟩
  rw [← hr] at hu hrl hrB
  refine J_pick hp <| J_memO fun v xs hxs => ?_
  have hxl : xs.length = 64 := by rw [← hms, ← show xs.map Prod.snd = ms from hxs, List.length_map]
  obtain ⟨vr, hx⟩ := snd_at hxs hu
  have hxu := (List.getElem?_eq_some_iff.1 hx).1
  refine J_pick (A := each memF xs) PC <| J_eachOut hx <| J_asTo (B := row 5 1 vr (r.map encU)) (by rfl) <| J_row .here fun hwr ar cr hvr hr1 hr2 hr3 => ?_
  have hlr : (r.map encU).length = 512 := by rw [List.length_map]; exact hrl
  obtain ⟨br, orr, rfl⟩ := hr3 (by intro h; rw [h] at hlr; simp at hlr)
  subst hvr
  have hcr : cr ≤ 9223372036854775807 := hr2
  refine sr <| ag Z Z <| nq <| J_seq <| J_slot (t := 1) (v := .int .i64 ((((u - 1).toNat : Nat) : Int) + 1)) Z (by congr 1; omega) <| J_region <| mv Z Z <| mv Z Z <| xo fc85 (A4 Z Z Z Z) Z (partC (u := (u - 1).toNat) (off := 0) (n := 512) (len := (r.map encU).length) HS HS hx (by omega) (by omega) (by omega)) fun _ => mv Z Z <| L_pur Z (p_extract Z Z) <| L_pur Z (p_extract Z Z) <| ag Z Z <| ag Z Z <| nx <| mv Z Z <| L_op <| x_clear (k0 := 0) (len := (r.map encU).length) Z Tryz.underlying73 ty5 Z Z PC (by simp; omega) <| J_rowEq (ys := zrow.map encU) (by rw [List.take_zero, List.nil_append, List.drop_eq_nil_of_le (by omega), List.append_nil]; rfl) <| nx <| mv Z Z <| ag Z Z <| nq <| J_ret <| J_pick (A := row 5 1 (.slice (some ⟨br, orr, none⟩) (r.map encU).length cr) _) PC ?_
  refine J_asTo (B := memF (.slice (some ⟨br, orr, none⟩) (r.map encU).length cr, zrow)) (by rfl) <| J_pick (A := each memF _) PC <| J_pick (A := memF _) PC <| J_eachIn (.slice (some ⟨br, orr, none⟩) (r.map encU).length cr, zrow) hxu ?_
  skip
  refine J_pick (A := row 73 1 v _) PC <| J_rowEq (ys := (xs.set (u - 1).toNat (.slice (some ⟨br, orr, none⟩) (r.map encU).length cr, zrow)).map fun x : Value × List Int => [x.1]) (fst_set hx).symm <| J_memS (b := b) (ms := (zeroM ms u)) v (xs.set (u - 1).toNat (.slice (some ⟨br, orr, none⟩) (r.map encU).length cr, zrow)) PX (by show List.map Prod.snd _ = _; rw [List.map_set, show xs.map Prod.snd = ms from hxs]; rfl) <| J_return (()) Tryz.results106 (.tmp Z .nil) ?_ ?_
  · rfl
  · exact SU
theorem coMake (hp : Pick (coA p s) l m) {c : Cap} (hc : 1 ≤ c.obj ∧ c.obj ≤ 64) (hM : MemOk s.mem) :
    Con Tryz.prog 59 #[.pointer (some ⟨p, 0, none⟩), .agg (encC c).toArray] E l (fun b : Nat => .tuple #[]) (fun b => coA p (kMade s c b) :: m) := by
  refine Con.body (n := 45) Tryz.func59 Z Z _ (env_ok 2 Z) <| J_pick hp <| J_coO fun bn be br bg bt bs bp bl bk _ => J_keyd (ps := ptrs s.ep) HS fun hKep => J_keyd (ps := ptrs s.nt) HS fun hKnt => J_keyd (ps := ptrs s.rp) HS fun hKrp => sr <| L_op <| x_box Z Z Z fun b3 => nx <| fa Z Z fa110_0 <| L_val Z (v_load Z ty3 HS (by exact rfl)) <| nq <| J_block <| sr <| L_pur Z (p_eql Z Z) <| ag Z Z <| nq <| C_dec Z (fun h6 => ?_) (fun h6 => ?_)
  refine J_drawL (some 8) mixed <| ip 0 Z Z Z Z (p_move Z) <| ip 1 Z Z Z Z (p_nilCheck Z) <| ip 2 Z Z Z Z (p_fieldAddr Z fa153_10) <| iv 3 Z Z Z Z (fun _ => v_loadL (o := 13) (i := 1) Z ty145 HS Z (by exact rfl)) <| ip 4 Z Z Z Z (p_fieldAddr Z fa110_1) <| iv 5 Z Z Z Z (fun _ => v_load Z ty3 HS (by exact rfl)) <| ip 6 Z Z Z Z (bld222 .nil (by repeat constructor)) <| i1 7 Z <| x_box Z Z Z fun b15 => i1 8 Z <| x_mapUpdate (ek := kZ) (ev := evA) (a := c.obj) (c := b15) Z Z Z ky3 Tryz.underlying145 PC <| J_pick (A := mapV kZ evA (.map (some be)) _) PC <| J_mapEq (qs := ptrs (ins s.ep c.obj (b15, [], []))) ptrs_ins <| J_pick (A := blk b15 _ _) PC <| J_asTo (B := blk b15 222 [.slice none 0 0, .slice none 0 0]) (by rfl) <| J_epNew <| J_asTo (B := epF (c.obj, b15, [], [])) (by rfl) <| J_pick (A := each epF s.ep) PC <| J_pick (A := epF (c.obj, b15, [], [])) PC ?_
  refine J_eachIns hKep <| i0 <| Q_blk_normal <| J_endnormal <| J_coS (p := p) (s := { s with ep := ins s.ep c.obj (b15, [], []) }) bn be br bg bt bs bp bl bk PX trivial <| J_asTo (B := coA p (kMade s c b15)) (by unfold kMade; rw [if_pos h6]) <| J_return (b15) Tryz.results59 .nil ?_ ?_
  · rfl
  · exact SU
  refine sr <| L_pur Z (p_eql Z Z) <| ag Z Z <| nq <| C_dec Z (fun h16 => ?_) (fun h16 => ?_)
  refine J_drawL (some 8) mixed <| ip 0 Z Z Z Z (p_move Z) <| ip 1 Z Z Z Z (p_nilCheck Z) <| ip 2 Z Z Z Z (p_fieldAddr Z fa153_9) <| iv 3 Z Z Z Z (fun _ => v_loadL (o := 13) (i := 0) Z ty144 HS Z (by exact rfl)) <| ip 4 Z Z Z Z (p_fieldAddr Z fa110_1) <| iv 5 Z Z Z Z (fun _ => v_load Z ty3 HS (by exact rfl)) <| ip 6 Z Z Z Z (bld229 .nil (by repeat constructor)) <| i1 7 Z <| x_box Z Z Z fun b25 => i1 8 Z <| x_mapUpdate (ek := kZ) (ev := evA) (a := c.obj) (c := b25) Z Z Z ky3 Tryz.underlying144 PC <| J_pick (A := mapV kZ evA (.map (some bn)) _) PC <| J_mapEq (qs := ptrs (ins s.nt c.obj (b25, 0, []))) ptrs_ins <| J_pick (A := blk b25 _ _) PC <| J_asTo (B := blk b25 229 [.int .u32 0, .slice none 0 0, .map none]) (by rfl) <| J_ntNew <| J_asTo (B := ntF (c.obj, b25, 0, [])) (by rfl) <| J_pick (A := each ntF s.nt) PC <| J_pick (A := ntF (c.obj, b25, 0, [])) PC ?_
  refine J_eachIns hKnt <| i0 <| Q_blk_normal <| J_endnormal <| J_coS (p := p) (s := { s with nt := ins s.nt c.obj (b25, 0, []) }) bn be br bg bt bs bp bl bk PX trivial <| J_asTo (B := coA p (kMade s c b25)) (by unfold kMade; rw [if_neg h6, if_pos h16]) <| J_return (b25) Tryz.results59 .nil ?_ ?_
  · rfl
  · exact SU
  refine sr <| L_pur Z (p_eql Z Z) <| ag Z Z <| nq <| C_dec Z (fun h26 => ?_) (fun h26 => ?_)
  refine J_drawL (some 8) mixed <| ip 0 Z Z Z Z (p_move Z) <| ip 1 Z Z Z Z (p_nilCheck Z) <| ip 2 Z Z Z Z (p_fieldAddr Z fa153_11) <| iv 3 Z Z Z Z (fun _ => v_loadL (o := 13) (i := 2) Z ty146 HS Z (by exact rfl)) <| ip 4 Z Z Z Z (p_fieldAddr Z fa110_1) <| iv 5 Z Z Z Z (fun _ => v_load Z ty3 HS (by exact rfl)) <| ip 6 Z Z Z Z (bld243 .nil (by repeat constructor)) <| i1 7 Z <| x_box Z Z Z fun b35 => i1 8 Z <| x_mapUpdate (ek := kZ) (ev := evA) (a := c.obj) (c := b35) Z Z Z ky3 Tryz.underlying146 PC <| J_pick (A := mapV kZ evA (.map (some br)) _) PC <| J_mapEq (qs := ptrs (ins s.rp c.obj (b35, (0, 0), false))) ptrs_ins <| J_pick (A := blk b35 _ _) PC <| J_asTo (B := rpF (c.obj, b35, (0, 0), false)) (by rfl) <| J_pick (A := each rpF s.rp) PC <| J_pick (A := rpF (c.obj, b35, (0, 0), false)) PC ?_
  refine J_eachIns hKrp <| i0 <| Q_blk_normal <| J_endnormal <| J_coS (p := p) (s := { s with rp := ins s.rp c.obj (b35, (0, 0), false) }) bn be br bg bt bs bp bl bk PX trivial <| J_asTo (B := coA p (kMade s c b35)) (by unfold kMade; rw [if_neg h6, if_neg h16, if_pos h26]) <| J_return (b35) Tryz.results59 .nil ?_ ?_
  · rfl
  · exact SU
  refine sr <| L_pur Z (p_eql Z Z) <| ag Z Z <| nq <| C_dec Z (fun h36 => ?_) (fun h36 => ?_)
  refine J_drawT 6 mixed (by kernel_rfl) <| sm Z Z <| sp Z (p_nilCheck Z) <| sp Z (p_fieldAddr Z fa153_1) <| S_val Z (v_loadL (o := 0) (i := 5) Z ty75 HS Z (by exact rfl)) <| sp Z (p_fieldAddr Z fa110_1) <| S_val Z (v_load Z ty3 HS (by exact rfl)) <| S_nil <| xo fc106 (A2 Z Z) Z (zeroC (ms := s.mem) (u := c.obj) PC hM hc) fun _ => L_nil <| Q_blk_normal <| J_endnormal <| J_coS (p := p) (s := { s with mem := zeroM s.mem c.obj }) bn be br bg bt bs bp bl bk PX trivial <| J_asTo (B := coA p (kMade s c 0)) (by unfold kMade; rw [if_neg h6, if_neg h16, if_neg h26, if_pos h36]) <| J_return (0) Tryz.results59 .nil ?_ ?_
  · rfl
  · exact SU
  refine J_skip <| Q_blk_normal <| J_endnormal <| J_coS (p := p) (s := s) bn be br bg bt bs bp bl bk PX trivial <| J_asTo (B := coA p (kMade s c 0)) (by unfold kMade; rw [if_neg h6, if_neg h16, if_neg h26, if_neg h36]) <| J_return (0) Tryz.results59 .nil ?_ ?_
  · rfl
  · exact SU
theorem delete288 {v : Value} {c : List Value} {xs : List (List Value)} (hp : Pick (row 374 5 v (c :: xs)) l m) :
  Con Tryz.prog 288 #[v, .int .i64 0, .int .i64 1] E l (fun v' : Value => v') (fun v' => row 374 5 v' xs :: m) := by
 refine Con.body (n := 33) Tryz.func288 Z Z _ (env_ok 3 Z) <| J_pick hp <| J_row .here fun hw a cap hv h1 h2 h3 => ?_
 obtain ⟨b, o, rfl⟩ := h3 (by simp)
 subst hv
 have hl : (c :: xs).length = xs.length + 1 := rfl
 have hm : cap ≤ 9223372036854775807 := h2
 refine sr <| ag Z Z <| nx <| mv Z Z <| mv Z Z <| mv Z Z <| mv Z Z <| L_pur Z (p_len Z Tryz.underlying220) <| L_pur Z (p_slice3 Z Tryz.underlying220 ty374 Z Z Z (by omega) (by omega) (by omega) (by omega)) <| nxx <| mv Z Z <| mv Z Z <| L_pur Z (p_eql Z Z) <| nq <| J_bool (t := 16) (c := false) Z (by decide) <| C_false Z <| J_skip <| qx <| mv Z Z <| L_pur Z (p_len Z Tryz.underlying220) <| ag Z Z <| nq <| J_seq <| J_drawT 6 mixed (by kernel_rfl) <| sm Z Z <| sm Z Z <| sp Z (p_slice Z Tryz.underlying220 ty374 Z Z (by omega) (by omega) (by omega)) <| J_slot (t := 22) (v := .slice (some ⟨b, o, none⟩) 0 cap) Z (by simp [Addr.add]) <| sm Z Z <| sm Z Z <| sp Z (p_slice Z Tryz.underlying220 ty374 Z Z (by omega) (by omega) (by omega)) <| S_nil ?_
 refine L_op <| x_appIn (ys := xs) (len := (c :: xs).length) Z Z Tryz.underlying220 ty374 PC (fun w H => (sep_reads HS H).drop (lo := 1) (by omega)) (by omega) Z <| ag Z Z <| nx <| mv Z Z <| mv Z Z <| L_pur Z (p_len Z Tryz.underlying220) <| mv Z Z <| L_pur Z (p_slice Z Tryz.underlying220 ty374 Z Z (by omega) (by omega) (by omega)) <| L_op <| x_clear (len := (c :: xs).length) Z Tryz.underlying220 ty374 Z Z PC (by simp) <| J_take (k := 0 + xs.length) (by simp) <| J_rowEq (ys := xs) (by simp) <| nx <| mv Z Z <| ag Z Z <| nq <| J_ret ?_
 exact J_return (_) Tryz.results288 (.tmp Z .nil) Z SU
theorem epRecvG {b : Nat} (hp : Pick (epA b out inn) l m) (hbo : out.length ≤ 100000) (hbi : inn.length ≤ 100000) {x : Rcv} :
    Con Tryz.prog 227 #[.pointer (some ⟨b, 0, none⟩), .agg (encR x).toArray] E l (fun _ : Unit => .tuple #[.agg (encM (out.headD m0)).toArray, .bool (!out.isEmpty)]) (fun _ => epA b (recvE x (out, inn)).1 (recvE x (out, inn)).2 :: m) := by
  rcases out with _ | ⟨y, r⟩
  ·
    refine Con.body (n := 39) Tryz.func227 Z Z _ (env_ok 2 Z) <| J_pick hp <| J_epO fun vo vi _ => J_row (.there .here) fun hw a cap hv h1 h2 h3 => ?_
    subst hv
    refine J_row (.there (.there .here)) fun hw' a' cap' hv h1' h2' h3' => ?_
    subst hv
    have hmm : cap ≤ 9223372036854775807 := h2
    have hmm' : cap' ≤ 9223372036854775807 := h2'
    refine sr <| L_op <| x_box Z Z Z fun b3 => L_op <| x_alloc ty374 Z fun b4 => ag Z Z <| nxx <| mv Z Z <| nc Z Z <| fa Z Z fa222_0 <| L_val Z (v_load Z ty220 HS (by exact rfl)) <| L_pur Z (p_len Z Tryz.underlying220) <| L_pur Z (p_eql Z Z) <| nq <| J_bool (t := 12) (c := true) Z (by simp) <| C_true Z <| J_seq <| J_drawL (some 7) mixed <| ip 0 Z Z Z Z (p_move Z) <| ip 1 Z Z Z Z (p_move Z) <| ip 2 Z Z Z Z (p_nilCheck Z) <| ip 3 Z Z Z Z (p_fieldAddr Z fa222_1) <| iv 4 Z Z Z Z (fun _ => v_load Z ty114 HS (by exact rfl)) <| iv 5 Z Z Z Z (fun _ => v_loadA Z ty246 HS CT) ?_
    refine i1 6 Z <| x_lit (vals := [_]) Tryz.underlying114 ty246 Z (.cons Z .nil) (.agg .nil) (Wf.cons Z Z Wf.nil) Z (by decide) Z Z <| JR fun a19 c19 hw19 hl19 hm19 hz19 => i1 7 Z <| x_app Z Z Tryz.underlying114 ty246 Z Z PC (fun w H => sep_reads HS H) (by simp; omega) (by simp; omega) Z <| JE ((inn ++ [x]).map encR) (by simp) fun a20 c20 hw20 hl20 hm20 hz20 => ip 8 Z Z Z Z (p_nilCheck Z) <| ip 9 Z Z Z Z (p_fieldAddr Z fa222_1) <| i1 10 Z <| x_store Z Z ty114 Z SM SM RO PT <| i0 <| qx <| L_pur Z (bld374 .nil (by repeat constructor)) <| L_op <| x_store Z Z ty374 Z SM SM RO PT <| ag Z Z <| nq <| J_ret <| Q_then_ret <| J_epS (b := b) (out := []) (inn := (inn ++ [x])) _ _ PX trivial <| J_return (()) Tryz.results227 (.cellA Z ty374 HS CT (.tmp Z .nil)) ?_ ?_
    · rfl
    · exact SU
  ·
    refine Con.body (n := 39) Tryz.func227 Z Z _ (env_ok 2 Z) <| J_pick hp <| J_epO fun vo vi _ => J_row (.there .here) fun hw a cap hv h1 h2 h3 => ?_
    subst hv
    refine J_row (.there (.there .here)) fun hw' a' cap' hv h1' h2' h3' => ?_
    subst hv
    have hmm : cap ≤ 9223372036854775807 := h2
    have hmm' : cap' ≤ 9223372036854775807 := h2'
    obtain ⟨bq, oq, rfl⟩ := h3 (by simp)
    refine sr <| L_op <| x_box Z Z Z fun b3 => L_op <| x_alloc ty374 Z fun b4 => ag Z Z <| nxx <| mv Z Z <| nc Z Z <| fa Z Z fa222_0 <| L_val Z (v_load Z ty220 HS (by exact rfl)) <| L_pur Z (p_len Z Tryz.underlying220) <| L_pur Z (p_eql Z Z) <| nq <| J_bool (t := 12) (c := false) Z (by simp; omega) <| C_false Z <| J_skip <| qx <| mv Z Z <| nc Z Z <| fa Z Z fa222_0 <| L_val Z (v_load Z ty220 HS (by exact rfl)) <| L_pur Z (p_indexAddr Z Z Tryz.underlying220 ty374 (by simp) (by simp)) <| L_val Z (v_loadE Z ty374 HS (by rfl)) <| L_op <| x_alloc ty374 Z fun b6 => L_op <| x_store Z Z ty374 Z SM SM RO PT <| nq <| J_seq <| J_pick (A := row 374 5 _ _) PC <| J_rowEq (ys := encM y :: r.map encM) (by rfl) <| J_region <| mv Z Z <| mv Z Z <| nc Z Z <| fa Z Z fa222_0 <| L_val Z (v_load Z ty220 HS (by exact rfl)) ?_
    refine xo fc288 (A3 Z Z Z) Z (delete288 (c := encM y) (xs := r.map encM) PC) <| JR fun a35 c35 hw35 hl35 hm35 hz35 => nc Z Z <| fa Z Z fa222_0 <| L_op <| x_store Z Z ty220 Z SM SM RO PT <| nx <| L_val Z (v_loadA Z ty374 HS CT) <| L_op <| x_store Z Z ty374 Z SM SM RO PT <| ag Z Z <| nq <| J_ret <| J_epS (b := b) (out := r) (inn := inn) _ _ PX trivial <| J_return (()) Tryz.results227 (.cellA Z ty374 HS CT (.tmp Z .nil)) ?_ ?_
    · rfl
    · exact SU
theorem coEpRecvG (hp : Pick (coA p s) l m) {b : Nat} (hl : look s.ep u = some (b, out, inn)) (hbo : out.length ≤ 100000) (hbi : inn.length ≤ 100000) {y : Rcv} :
  Con Tryz.prog 227 #[.pointer (some ⟨b, 0, none⟩), .agg (encR y).toArray] E l (fun _ : Unit => .tuple #[.agg (encM (out.headD m0)).toArray, .bool (!out.isEmpty)]) (fun _ => coA p { s with ep := updO s.ep u (recvE y) } :: m) := by
 refine J_con0 ?_
 obtain ⟨j, hj⟩ := look_ix hl
 have hjl := (List.getElem?_eq_some_iff.1 hj).1
 refine J_pick hp <| J_coO fun bn be br bg bt bs bp bl bk _ => J_keyd (ps := ptrs s.ep) HS fun hK => J_pick (A := each epF s.ep) PC <| J_eachOut hj ?_
 skip
 refine J_asTo (B := epA b out inn) (by rfl) <| J_con (epRecvG (out := out) (inn := inn) (x := y) PC hbo hbi) fun x => J_pick (A := epA b (recvE y (out, inn)).1 (recvE y (out, inn)).2) PC <| J_asTo (B := epF (u, b, ((recvE y)) (out, inn))) (by rfl) <| J_pick (A := each epF _) PC <| J_pick (A := epF (u, b, _)) PC <| J_eachIn (u, b, ((recvE y)) (out, inn)) hjl ?_
 skip
 refine J_asTo (B := each epF (updO s.ep u (recvE y))) (by rw [updO_set hK hj]) <| J_pick (A := mapV kZ evA (.map (some be)) (ptrs s.ep)) PC <| J_mapEq (qs := ptrs (updO s.ep u (recvE y))) ptrs_updO.symm <| J_coS (p := p) (s := { s with ep := updO s.ep u (recvE y) }) bn be br bg bt bs bp bl bk PX trivial ?_
 exact J_end SU
/-! ### plain: a ring is torn down, whatever it has -/
theorem look_delO {κ υ : Type} [DecidableEq κ] {ps : List (κ × υ)} {a i : κ} (h : a ≠ i) : look (del ps i) a = look ps a := by
  rw [look_del, if_neg (fun e => h e.symm)]
theorem Fits.tearOn {N M : Nat} : ∀ {l : List Rq} {s : KS}, Fits s N M → (l.map Rq.id).Nodup → (∀ q ∈ l, look s.rt q.id = some q) → Fits (kTearL s l) N M
  | [], _, h, _, _ => h
  | q :: l, s, h, hn, hm => by
    obtain ⟨M, rfl⟩ : ∃ M', M = M' + 1 := ⟨M - 1, by
      have h1 := del_less (hm q List.mem_cons_self)
      have h2 := h.jn
      omega⟩
    rw [List.map_cons, List.nodup_cons] at hn
    refine Fits.tearOn (l := l) (s := kTear1 s q) (((h.drop (hm q List.mem_cons_self)).forget q.id).jnl h.mm (deedG q)) hn.2 fun x hx => ?_
    show look (del s.rt q.id) x.id = some x
    rw [look_delO (fun e => hn.1 (List.mem_map.2 ⟨x, hx, e⟩))]
    exact hm x (List.mem_cons_of_mem _ hx)
theorem ofQ_ids {ps : List (ID × Rq)} (hK : Keyd ps) (hI : Ids ps) (g : Int) : ((ofQ ps g).map Rq.id).Nodup ∧ ∀ q ∈ ofQ ps g, look ps q.id = some q := by
  constructor
  · have h1 : (ofQ ps g).Perm (ofRing ps g) := sortF_isPerm _
    refine (h1.map Rq.id).nodup_iff.2 ?_
    unfold ofRing
    rw [List.map_map]
    have h2 : (ps.filter fun e => decide (e.1.1 = g)).map (Rq.id ∘ Prod.snd) = (ps.filter fun e => decide (e.1.1 = g)).map Prod.fst := List.map_congr_left fun e he => hI e (List.mem_filter.1 he).1
    rw [h2]
    exact List.Nodup.sublist (List.Sublist.map _ List.filter_sublist) hK
  · intro q hq
    obtain ⟨k, h1, h2⟩ := ofQ_mem.1 hq
    rw [hI _ h1]
    exact look_mem hK h1
theorem rem_mem {α : Type} {xs : List (Int × α)} {x : Int × α} (h : x ∈ rem xs u) : x ∈ xs := (List.mem_filter.1 h).1
theorem Fits.gone (h : Fits s N M) (k u : Int) : Fits (kGone s k u) N M := by
  unfold kGone
  split
  · exact ⟨h.n, h.mm, h.ids, h.jn, h.tm, fun x hx => h.ep x (rem_mem hx), h.nt, h.rp, h.rg, h.mem⟩
  · split
    · exact ⟨h.n, h.mm, h.ids, h.jn, h.tm, h.ep, fun x hx => h.nt x (rem_mem hx), h.rp, h.rg, h.mem⟩
    · split
      · exact ⟨h.n, h.mm, h.ids, h.jn, h.tm, h.ep, h.nt, fun x hx => h.rp x (rem_mem hx), h.rg, h.mem⟩
      · split
        · exact ⟨h.n, h.mm, h.ids, h.jn, h.tm, h.ep, h.nt, h.rp, h.rg, h.mem⟩
        · split
          · exact ⟨h.n, h.mm, h.ids, h.jn, h.tm, h.ep, h.nt, h.rp, h.rg, h.mem⟩
          · split
            · exact ⟨h.n, h.mm, h.ids, h.jn, h.tm, h.ep, h.nt, h.rp, h.rg, h.mem⟩
            · split
              · exact ⟨h.n, h.mm, h.ids, h.jn, h.tm, h.ep, h.nt, h.rp, fun x hx => h.rg x (rem_mem hx), h.mem⟩
              · exact h
theorem Fits.cleared (h : Fits s N M) (g : Int) : Fits (kCleared s g) N M :=
  ⟨h.n, h.mm, h.ids, h.jn, h.tm, h.ep, h.nt, h.rp, fun x hx => by
    obtain ⟨y, hy, h1, h2⟩ := updO_mem (show x ∈ updO s.rg g (fun r => { r with over := [] }) from hx)
    obtain ⟨g1, g2⟩ := h.rg y hy
    rcases h2 with h2 | h2 <;> rw [h2]
    · exact ⟨g1, g2⟩
    · exact ⟨⟨g1.sq, g1.cq, g1.cb, g1.tail, g1.sb, g1.head⟩, by have := h.jn; show 0 + s.rt.length ≤ M; omega⟩, h.mem⟩
theorem Fits.tear (hK : Keyd s.rt) (h : Fits s N M) (g : Int) : Fits (kTear s g) N M := by
  unfold kTear
  split
  · have hq := ofQ_ids hK h.ids g
    exact ((h.tearOn hq.1 hq.2).cleared g).gone 9 g
  · exact h
theorem kTearL_same : ∀ {l : List Rq} {s : KS}, (kTearL s l).q = s.q ∧ (kTearL s l).mp = s.mp ∧ (kTearL s l).sl = s.sl ∧ (kTearL s l).mr = s.mr
  | [], _ => ⟨rfl, rfl, rfl, rfl⟩
  | q :: l, s => kTearL_same (l := l) (s := kTear1 s q)
theorem kTearL_rt : ∀ {l : List Rq} {s : KS}, (kTearL s l).rt.Sublist s.rt
  | [], _ => List.Sublist.refl _
  | q :: l, s => (kTearL_rt (l := l) (s := kTear1 s q)).trans (List.filter_sublist (l := s.rt))
theorem kTear_same : (kTear s g).q = s.q ∧ (kTear s g).mp = s.mp ∧ (kTear s g).sl = s.sl ∧ (kTear s g).mr = s.mr := by
  unfold kTear
  split
  · have h := kTearL_same (l := ofQ s.rt g) (s := s)
    exact h
  · exact ⟨rfl, rfl, rfl, rfl⟩
theorem kTear_rt : (kTear s g).rt.Sublist s.rt := by
  unfold kTear
  split
  · exact kTearL_rt
  · exact List.Sublist.refl _
theorem Keyd.sub {κ υ : Type} {ps qs : List (κ × υ)} (h : Keyd ps) (hs : qs.Sublist ps) : Keyd qs := List.Nodup.sublist (hs.map _) h
def tornStep (u : Int) (s : KS) (g : Int) : KS := match look s.rg g with
  | none => s
  | some x => if x.2.sq = u ∨ x.2.cq = u then kTear s g else s
def kTorn (s : KS) (u : Int) (l : List Int) : KS := l.foldl (tornStep u) s
def kDestroy (s : KS) (o : Obj2) : KS :=
  kGone (if o.1 = 3 then kTorn (kEnds s (kWaits s o.1 o.2)) o.2 (sortZ ((kEnds s (kWaits s o.1 o.2)).rg.map Prod.fst)) else if o.1 = 9 then kTear (kEnds s (kWaits s o.1 o.2)) o.2 else kEnds s (kWaits s o.1 o.2)) o.1 o.2
def kDestroyL (s : KS) (l : List Obj2) : KS := l.foldl kDestroy s
structure Kept (s t : KS) : Prop where
  q : t.q = s.q
  mp : t.mp = s.mp
  sl : t.sl = s.sl
  mr : t.mr = s.mr
theorem Kept.refl (s : KS) : Kept s s := ⟨rfl, rfl, rfl, rfl⟩
theorem Kept.trans {s t v : KS} (h : Kept s t) (g : Kept t v) : Kept s v := ⟨g.q.trans h.q, g.mp.trans h.mp, g.sl.trans h.sl, g.mr.trans h.mr⟩
theorem Kept.said (s : KS) (d : Deed) : Kept s (kSaid s d) := by unfold kSaid kPost; split <;> exact ⟨rfl, rfl, rfl, rfl⟩
variable {D : KS → ID → Int → Int → KS}
theorem Kept.tell (hD : ∀ s i r v, Kept s (D s i r v)) (s : KS) (d : Deed) : Kept s (kTell D s d) := by
  unfold kTell
  split
  · exact Kept.said s d
  · split
    · exact (Kept.said s d).trans (Kept.trans (t := kRung (kSaid s d) d.1.1) ⟨rfl, rfl, rfl, rfl⟩ (hD _ _ _ _))
    · exact (Kept.said s d).trans ⟨rfl, rfl, rfl, rfl⟩
theorem Kept.dec : ∀ n (s : KS) (i : ID) (r v : Int), Kept s (kDec n s i r v)
  | 0, s, _, _, _ => .refl s
  | n + 1, s, i, r, v => by
    cases hq : look s.rt i with
    | none => rw [kDec_none hq]; exact .refl s
    | some q =>
      rw [kDec_some hq]
      have h0 : Kept s (kForget { s with rt := del s.rt i } i) := ⟨rfl, rfl, rfl, rfl⟩
      have h := h0.trans (Kept.tell (D := kDec n) (fun s i r v => Kept.dec n s i r v) (kForget { s with rt := del s.rt i } i) (i, q.e.tag, q.e.op, r, v, false))
      unfold kNext
      split
      · exact h
      · split
        · exact h.trans (Kept.dec n _ _ _ _)
        · exact h
theorem Kept.ends : ∀ (l : List ID) (s : KS), Kept s (kEnds s l)
  | [], s => .refl s
  | i :: l, s => (Kept.dec _ _ _ _ _).trans (Kept.ends l _)
theorem Kept.tear (s : KS) (g : Int) : Kept s (kTear s g) := ⟨kTear_same.1, kTear_same.2.1, kTear_same.2.2.1, kTear_same.2.2.2⟩
theorem Kept.tornStep (u : Int) (s : KS) (g : Int) : Kept s (tornStep u s g) := by
  unfold Go.Pse.tornStep
  split
  · exact .refl s
  · split
    · exact .tear s g
    · exact .refl s
theorem Kept.torn (u : Int) : ∀ (l : List Int) (s : KS), Kept s (kTorn s u l)
  | [], s => .refl s
  | g :: l, s => (Kept.tornStep u s g).trans (Kept.torn u l _)
theorem dec_rt : ∀ n (s : KS) (i : ID) (r v : Int), (kDec n s i r v).rt.Sublist s.rt
  | 0, s, _, _, _ => List.Sublist.refl _
  | n + 1, s, i, r, v => by
    cases hq : look s.rt i with
    | none => rw [kDec_none hq]; exact List.Sublist.refl _
    | some q =>
      rw [kDec_some hq]
      have h : (kTell (kDec n) (kForget { s with rt := del s.rt i } i) (i, q.e.tag, q.e.op, r, v, false)).rt.Sublist s.rt := by
        unfold kTell
        have h0 : (kSaid (kForget { s with rt := del s.rt i } i) (i, q.e.tag, q.e.op, r, v, false)).rt.Sublist s.rt := by
          rw [kSaid_rt]; exact List.filter_sublist (l := s.rt)
        split
        · exact h0
        · split
          · exact (dec_rt n _ _ _ _).trans h0
          · exact h0
      unfold kNext
      split
      · exact h
      · split
        · exact (dec_rt n _ _ _ _).trans h
        · exact h
theorem ends_rt : ∀ (l : List ID) (s : KS), (kEnds s l).rt.Sublist s.rt
  | [], s => List.Sublist.refl _
  | i :: l, s => (ends_rt l _).trans (dec_rt _ _ _ _ _)
theorem tornStep_rt (u : Int) (s : KS) (g : Int) : (tornStep u s g).rt.Sublist s.rt := by
  unfold tornStep
  split
  · exact List.Sublist.refl _
  · split
    · exact kTear_rt
    · exact List.Sublist.refl _
theorem torn_rt (u : Int) : ∀ (l : List Int) (s : KS), (kTorn s u l).rt.Sublist s.rt
  | [], s => List.Sublist.refl _
  | g :: l, s => (torn_rt u l _).trans (tornStep_rt u s g)
theorem Fits.tornStep {s : KS} {N M : Nat} (hK : Keyd s.rt) (h : Fits s N M) (u g : Int) : Fits (tornStep u s g) N M := by
  unfold Go.Pse.tornStep
  split
  · exact h
  · split
    · exact h.tear hK g
    · exact h
theorem Fits.torn {N M : Nat} (u : Int) : ∀ {l : List Int} {s : KS}, Keyd s.rt → Fits s N M → Fits (kTorn s u l) N M
  | [], _, _, h => h
  | g :: l, s, hK, h => Fits.torn u (l := l) (hK.sub (tornStep_rt u s g)) (h.tornStep hK u g)
theorem kDestroy_rt (s : KS) (o : Obj2) : (kDestroy s o).rt.Sublist s.rt := by
  have e : ∀ (t : KS) (k u : Int), (kGone t k u).rt = t.rt := fun t k u => by
    unfold kGone; (repeat' split) <;> rfl
  unfold kDestroy
  rw [e]
  split
  · exact (torn_rt _ _ _).trans (ends_rt _ _)
  · split
    · exact kTear_rt.trans (ends_rt _ _)
    · exact ends_rt _ _
theorem Fits.destroy (hK : Keyd s.rt) (h : Fits s N M) (o : Obj2) : Fits (kDestroy s o) N M := by
  have hE : Fits (kEnds s (kWaits s o.1 o.2)) N M := h.ends
  have hK2 := hK.sub (ends_rt (kWaits s o.1 o.2) s)
  unfold kDestroy
  refine Fits.gone ?_ _ _
  split
  · exact hE.torn _ hK2
  · split
    · exact hE.tear hK2 _
    · exact hE
theorem gone_len (s : KS) (k u : Int) : (kGone s k u).q.length ≤ s.q.length ∧ (kGone s k u).mp.length ≤ s.mp.length ∧ (kGone s k u).sl = s.sl ∧ (kGone s k u).mr = s.mr := by
  unfold kGone
  have h1 : ∀ p : (Int × Int) × (Int × Int) → Bool, (s.mp.filter p).length ≤ s.mp.length := fun p => List.length_filter_le _ _
  (repeat' split) <;> first | exact ⟨Nat.le_refl _, Nat.le_refl _, rfl, rfl⟩ | exact ⟨Nat.le_refl _, h1 _, rfl, rfl⟩ | exact ⟨qRem_len _ _, Nat.le_refl _, rfl, rfl⟩
theorem destroy_len (s : KS) (o : Obj2) : (kDestroy s o).q.length ≤ s.q.length ∧ (kDestroy s o).mp.length ≤ s.mp.length ∧ (kDestroy s o).sl = s.sl ∧ (kDestroy s o).mr = s.mr := by
  have hk : Kept s (if o.1 = 3 then kTorn (kEnds s (kWaits s o.1 o.2)) o.2 (sortZ ((kEnds s (kWaits s o.1 o.2)).rg.map Prod.fst)) else if o.1 = 9 then kTear (kEnds s (kWaits s o.1 o.2)) o.2 else kEnds s (kWaits s o.1 o.2)) := by
    split
    · exact (Kept.ends _ _).trans (Kept.torn _ _ _)
    · split
      · exact (Kept.ends _ _).trans (Kept.tear _ _)
      · exact Kept.ends _ _
  have h := gone_len (if o.1 = 3 then kTorn (kEnds s (kWaits s o.1 o.2)) o.2 (sortZ ((kEnds s (kWaits s o.1 o.2)).rg.map Prod.fst)) else if o.1 = 9 then kTear (kEnds s (kWaits s o.1 o.2)) o.2 else kEnds s (kWaits s o.1 o.2)) o.1 o.2
  rw [hk.q, hk.mp, hk.sl, hk.mr] at h
  exact h
theorem destroyL_rt : ∀ (l : List Obj2) (s : KS), (kDestroyL s l).rt.Sublist s.rt
  | [], s => List.Sublist.refl _
  | o :: l, s => (destroyL_rt l _).trans (kDestroy_rt s o)
theorem Fits.destroyL {N M : Nat} : ∀ {l : List Obj2} {s : KS}, Keyd s.rt → Fits s N M → Fits (kDestroyL s l) N M
  | [], _, _, h => h
  | o :: l, s, hK, h => Fits.destroyL (l := l) (hK.sub (kDestroy_rt s o)) (h.destroy hK o)
theorem destroyL_len : ∀ (l : List Obj2) (s : KS), (kDestroyL s l).q.length ≤ s.q.length ∧ (kDestroyL s l).mp.length ≤ s.mp.length ∧ (kDestroyL s l).sl = s.sl ∧ (kDestroyL s l).mr = s.mr
  | [], s => ⟨Nat.le_refl _, Nat.le_refl _, rfl, rfl⟩
  | o :: l, s => by
    have h1 := destroyL_len l (kDestroy s o)
    have h2 := destroy_len s o
    exact ⟨Nat.le_trans h1.1 h2.1, Nat.le_trans h1.2.1 h2.2.1, h1.2.2.1.trans h2.2.2.1, h1.2.2.2.trans h2.2.2.2⟩
theorem kSaid_rglen (s : KS) (d : Deed) : (kSaid s d).rg.length = s.rg.length := by
  unfold kSaid kPost
  split
  · rfl
  · simp [updO]
theorem tell_rglen (hD : ∀ s i r v, (D s i r v).rg.length = s.rg.length) (s : KS) (d : Deed) : (kTell D s d).rg.length = s.rg.length := by
  unfold kTell
  split
  · exact kSaid_rglen s d
  · split
    · exact (hD _ _ _ _).trans (kSaid_rglen s d)
    · exact kSaid_rglen s d
theorem dec_rglen : ∀ n (s : KS) (i : ID) (r v : Int), (kDec n s i r v).rg.length = s.rg.length
  | 0, s, _, _, _ => rfl
  | n + 1, s, i, r, v => by
    cases hq : look s.rt i with
    | none => rw [kDec_none hq]
    | some q =>
      rw [kDec_some hq]
      have h := tell_rglen (D := kDec n) (fun s i r v => dec_rglen n s i r v) (kForget { s with rt := del s.rt i } i) (i, q.e.tag, q.e.op, r, v, false)
      unfold kNext
      split
      · exact h
      · split
        · exact (dec_rglen n _ _ _ _).trans h
        · exact h
theorem ends_rglen : ∀ (l : List ID) (s : KS), (kEnds s l).rg.length = s.rg.length
  | [], s => rfl
  | i :: l, s => (ends_rglen l _).trans (dec_rglen _ _ _ _ _)
theorem kTear_rglen (s : KS) (g : Int) : (kTear s g).rg.length ≤ s.rg.length := by
  unfold kTear
  split
  · have e : (kGone (kCleared (kTearL s (ofQ s.rt g)) g) 9 g).rg = rem (updO (kTearL s (ofQ s.rt g)).rg g (fun r => { r with over := [] })) g := rfl
    rw [e, kTearL_rg.1]
    unfold rem
    refine Nat.le_trans (List.length_filter_le _ _) ?_
    unfold updO; rw [List.length_map]; exact Nat.le_refl _
  · exact Nat.le_refl _
theorem torn_rglen (u : Int) : ∀ (l : List Int) (s : KS), (kTorn s u l).rg.length ≤ s.rg.length
  | [], s => Nat.le_refl _
  | g :: l, s => by
    refine Nat.le_trans (torn_rglen u l (tornStep u s g)) ?_
    unfold tornStep
    split
    · exact Nat.le_refl _
    · split
      · exact kTear_rglen s g
      · exact Nat.le_refl _
theorem gone_rglen (s : KS) (k u : Int) : (kGone s k u).rg.length ≤ s.rg.length := by
  unfold kGone
  (repeat' split) <;> first | exact Nat.le_refl _ | exact List.length_filter_le _ _
theorem destroy_rglen (s : KS) (o : Obj2) : (kDestroy s o).rg.length ≤ s.rg.length := by
  unfold kDestroy
  refine Nat.le_trans (gone_rglen _ _ _) ?_
  split
  · exact Nat.le_trans (torn_rglen _ _ _) (Nat.le_of_eq (ends_rglen _ _))
  · split
    · exact Nat.le_trans (kTear_rglen _ _) (Nat.le_of_eq (ends_rglen _ _))
    · exact Nat.le_of_eq (ends_rglen _ _)
theorem destroyL_rglen : ∀ (l : List Obj2) (s : KS), (kDestroyL s l).rg.length ≤ s.rg.length
  | [], s => Nat.le_refl _
  | o :: l, s => Nat.le_trans (destroyL_rglen l _) (destroy_rglen s o)
theorem coCapG (hp : Pick (coA p s) l m) {a kind : Int} (ha : 0 ≤ a ∧ a < 4294967296) :
    Con Tryz.prog 285 #[.pointer (some ⟨p, 6, none⟩), .agg (encC root).toArray, .int .u32 a, .int .i64 kind] E l (fun _ : Unit => .tuple #[.agg (encC (kCap s.sl root a kind).1).toArray, .agg (encI (kCap s.sl root a kind).2.1).toArray, .int .i64 (kCap s.sl root a kind).2.2]) (fun _ => coA p s :: m) := fun w H => by
  refine (?_ : Jk E l 0 [] fun _ w => Calls Tryz.prog 285 #[.pointer (some ⟨p, 6, none⟩), .agg (encC root).toArray, .int .u32 a, .int .i64 kind] w fun e w' => ∃ x, e = .returned ((fun _ : Unit => .tuple #[.agg (encC (kCap s.sl root a kind).1).toArray, .agg (encI (kCap s.sl root a kind).2.1).toArray, .int .i64 (kCap s.sl root a kind).2.2]) x) ∧ Sep E w' ((fun _ : Unit => coA p s :: m) x)) w _ H fr0
  refine J_pick hp <| J_coO fun bn be br bg bt bs bp bl bk _ => J_con (capG (ps := s.sl) (root := root) (a := a) (kind := kind) PC ha) fun x => J_coS (p := p) (s := s) bn be br bg bt bs bp bl bk PX trivial ?_
  exact J_end SU
/-! ### plain: what an entry asks of slots -/
def in32 (n : Int) : Prop := 0 ≤ n ∧ n < 4294967296
structure SqeOk (e : Sqe) : Prop where
  cap : in32 e.cap
  a : in32 e.a
  b : in32 e.b
  c : in32 e.c
def twoAt (s : KS) (T : Th) (e : Sqe) : Option (Place × Place) := match kFind s.sl T.root e.cap with
  | none => none
  | some x => match kFind s.sl T.root e.a with
    | none => none
    | some y => some (x, y)
def twoS (s : KS) (F : Place → Place → KS × Int) : Option (Place × Place) → KS × Int
  | none => (s, 2)
  | some x => F x.1 x.2
def killS (s : KS) (F : Place → (List (Place × SV) × List Obj2) × Int) : Option Place → KS × Int
  | none => (s, 2)
  | some x => (kDestroyL { s with sl := (F x).1.1 } (F x).1.2, (F x).2)
def mayS (s : KS) (T : Th) (e : Sqe) (kind r : Int) : Cap × Int :=
  if (kCap s.sl T.root e.cap kind).2.2 = 0 ∧ bits .and .i64 (kCap s.sl T.root e.cap kind).1.rights r ≠ r then (c0, 6) else ((kCap s.sl T.root e.cap kind).1, (kCap s.sl T.root e.cap kind).2.2)
theorem kCap_code {sl : List (Place × SV)} {a kind : Int} : 0 ≤ (kCap sl root a kind).2.2 ∧ (kCap sl root a kind).2.2 ≤ 5 := by
  unfold kCap
  split
  · simp
  · split
    · simp
    · split <;> simp
variable {kind : Int}
theorem mayS_code {e : Sqe} : 0 ≤ (mayS s T e kind r).2 ∧ (mayS s T e kind r).2 ≤ 6 := by
  unfold mayS
  split
  · simp
  · have := kCap_code (sl := s.sl) (root := T.root) (a := e.cap) (kind := kind)
    simp only; omega
theorem foundG {a p : Nat} {q : Rq} (hp : Picks [actA a p T q i, coA p s] l m) {a_ : Int} (ha : in32 a_) :
    Con Tryz.prog 221 #[.pointer (some ⟨a, 0, none⟩), .int .u32 a_, .int .i64 kind] E l (fun _ : Unit => .tuple #[.agg (encC (kCap s.sl T.root a_ kind).1).toArray, .int .i64 (kCap s.sl T.root a_ kind).2.2]) (fun _ => actA a p T q i :: coA p s :: m) := by
  refine Con.body (n := 30) Tryz.func221 Z Z _ (env_ok 3 Z) <| J_picks2 hp <| J_act <| sr <| L_op <| x_alloc ty110 Z fun b6 => ag Z Z <| nq <| J_seq <| J_drawL none mixed <| ip 0 Z Z Z Z (p_move Z) <| ip 1 Z Z Z Z (p_nilCheck Z) <| ip 2 Z Z Z Z (p_fieldAddr Z fa279_0) <| iv 3 Z Z Z Z (fun _ => v_load Z ty24 HS (by exact rfl)) <| ip 5 Z Z Z Z (p_move Z) <| ip 6 Z Z Z Z (p_nilCheck Z) <| ip 7 Z Z Z Z (p_fieldAddr Z fa279_1) <| ip 8 Z Z Z Z (p_fieldAddr Z fa213_3) <| iv 9 Z Z Z Z (fun _ => v_loadA Z ty110 HS CT) <| J_slot (t := 21) (v := .agg (encC T.root).toArray) Z Z <| ip 10 Z Z Z Z (p_move Z) <| ip 11 Z Z Z Z (p_move Z) <| I_ready (rs := [4, 17, 18]) SI (by kernel_rfl) (by simp) <| (I_cons Z ?_ (I_cons Z ?_ (I_cons Z ?_ I_nil)))
  refine xc fc28 (A1 Z) Z (coSlots) fun _ => I_ready (rs := [12, 17, 18]) SI (by kernel_rfl) (by simp) <| (I_cons Z ?_ (I_cons Z ?_ (I_cons Z ?_ I_nil)))
  refine xc fc285 (A4 Z Z Z Z) Z (coCapG (s := s) (root := T.root) (a := a_) (kind := kind) PC ha) fun _ => ip 13 Z Z Z Z (p_move Z) <| ip 14 Z Z Z Z (p_extract Z Z) <| ip 15 Z Z Z Z (p_extract Z Z) <| ip 16 Z Z Z Z (p_extract Z Z) <| I_ready (rs := [17, 18]) SI (by kernel_rfl) (by simp) <| (I_cons Z ?_ (I_cons Z ?_ I_nil))
  refine x_alloc ty110 Z fun b8 => i1 18 Z <| x_alloc ty108 Z fun b9 => i1 19 Z <| x_store Z Z ty110 Z SM SM RO PT <| i1 20 Z <| x_store Z Z ty108 Z SM SM RO PT <| ip 21 Z Z Z Z (p_assign Z) <| i0 <| qx <| L_val Z (v_loadA Z ty110 HS CT) <| mv Z Z <| L_op <| x_store Z Z ty110 Z SM SM RO PT <| ag Z Z <| nq <| J_ret <| J_pick (A := blk a _ _) PC <| J_asTo (B := actA a p T q i) (by rfl) <| J_return (()) Tryz.results221 (.cellA Z ty110 HS CT (.tmp Z .nil)) ?_ ?_
  · rfl
  · exact SU
  refine x_alloc ty108 Z fun b9 => i1 17 Z <| x_alloc ty110 Z fun b8 => i1 19 Z <| x_store Z Z ty110 Z SM SM RO PT <| i1 20 Z <| x_store Z Z ty108 Z SM SM RO PT <| ip 21 Z Z Z Z (p_assign Z) <| i0 <| qx <| L_val Z (v_loadA Z ty110 HS CT) <| mv Z Z <| L_op <| x_store Z Z ty110 Z SM SM RO PT <| ag Z Z <| nq <| J_ret <| J_pick (A := blk a _ _) PC <| J_asTo (B := actA a p T q i) (by rfl) <| J_return (()) Tryz.results221 (.cellA Z ty110 HS CT (.tmp Z .nil)) ?_ ?_
  · rfl
  · exact SU
  refine x_alloc ty110 Z fun b8 => I_ready (rs := [12, 18]) SI (by kernel_rfl) (by simp) <| (I_cons Z ?_ (I_cons Z ?_ I_nil))
  refine xc fc285 (A4 Z Z Z Z) Z (coCapG (s := s) (root := T.root) (a := a_) (kind := kind) PC ha) fun _ => ip 13 Z Z Z Z (p_move Z) <| ip 14 Z Z Z Z (p_extract Z Z) <| ip 15 Z Z Z Z (p_extract Z Z) <| ip 16 Z Z Z Z (p_extract Z Z) <| i1 18 Z <| x_alloc ty108 Z fun b9 => i1 19 Z <| x_store Z Z ty110 Z SM SM RO PT <| i1 20 Z <| x_store Z Z ty108 Z SM SM RO PT <| ip 21 Z Z Z Z (p_assign Z) <| i0 <| qx <| L_val Z (v_loadA Z ty110 HS CT) <| mv Z Z <| L_op <| x_store Z Z ty110 Z SM SM RO PT <| ag Z Z <| nq <| J_ret <| J_pick (A := blk a _ _) PC <| J_asTo (B := actA a p T q i) (by rfl) <| J_return (()) Tryz.results221 (.cellA Z ty110 HS CT (.tmp Z .nil)) ?_ ?_
  · rfl
  · exact SU
  refine x_alloc ty108 Z fun b9 => i1 12 Z <| xc fc285 (A4 Z Z Z Z) Z (coCapG (s := s) (root := T.root) (a := a_) (kind := kind) PC ha) fun _ => ip 13 Z Z Z Z (p_move Z) <| ip 14 Z Z Z Z (p_extract Z Z) <| ip 15 Z Z Z Z (p_extract Z Z) <| ip 16 Z Z Z Z (p_extract Z Z) <| i1 19 Z <| x_store Z Z ty110 Z SM SM RO PT <| i1 20 Z <| x_store Z Z ty108 Z SM SM RO PT <| ip 21 Z Z Z Z (p_assign Z) <| i0 <| qx <| L_val Z (v_loadA Z ty110 HS CT) <| mv Z Z <| L_op <| x_store Z Z ty110 Z SM SM RO PT <| ag Z Z <| nq <| J_ret <| J_pick (A := blk a _ _) PC <| J_asTo (B := actA a p T q i) (by rfl) <| J_return (()) Tryz.results221 (.cellA Z ty110 HS CT (.tmp Z .nil)) ?_ ?_
  · rfl
  · exact SU
  refine x_alloc ty108 Z fun b9 => I_ready (rs := [12, 17]) SI (by kernel_rfl) (by simp) <| (I_cons Z ?_ (I_cons Z ?_ I_nil))
  refine xc fc285 (A4 Z Z Z Z) Z (coCapG (s := s) (root := T.root) (a := a_) (kind := kind) PC ha) fun _ => ip 13 Z Z Z Z (p_move Z) <| ip 14 Z Z Z Z (p_extract Z Z) <| ip 15 Z Z Z Z (p_extract Z Z) <| ip 16 Z Z Z Z (p_extract Z Z) <| i1 17 Z <| x_alloc ty110 Z fun b8 => i1 19 Z <| x_store Z Z ty110 Z SM SM RO PT <| i1 20 Z <| x_store Z Z ty108 Z SM SM RO PT <| ip 21 Z Z Z Z (p_assign Z) <| i0 <| qx <| L_val Z (v_loadA Z ty110 HS CT) <| mv Z Z <| L_op <| x_store Z Z ty110 Z SM SM RO PT <| ag Z Z <| nq <| J_ret <| J_pick (A := blk a _ _) PC <| J_asTo (B := actA a p T q i) (by rfl) <| J_return (()) Tryz.results221 (.cellA Z ty110 HS CT (.tmp Z .nil)) ?_ ?_
  · rfl
  · exact SU
  refine x_alloc ty110 Z fun b8 => i1 12 Z <| xc fc285 (A4 Z Z Z Z) Z (coCapG (s := s) (root := T.root) (a := a_) (kind := kind) PC ha) fun _ => ip 13 Z Z Z Z (p_move Z) <| ip 14 Z Z Z Z (p_extract Z Z) <| ip 15 Z Z Z Z (p_extract Z Z) <| ip 16 Z Z Z Z (p_extract Z Z) <| i1 19 Z <| x_store Z Z ty110 Z SM SM RO PT <| i1 20 Z <| x_store Z Z ty108 Z SM SM RO PT <| ip 21 Z Z Z Z (p_assign Z) <| i0 <| qx <| L_val Z (v_loadA Z ty110 HS CT) <| mv Z Z <| L_op <| x_store Z Z ty110 Z SM SM RO PT <| ag Z Z <| nq <| J_ret <| J_pick (A := blk a _ _) PC <| J_asTo (B := actA a p T q i) (by rfl) <| J_return (()) Tryz.results221 (.cellA Z ty110 HS CT (.tmp Z .nil)) ?_ ?_
  · rfl
  · exact SU
  refine x_alloc ty110 Z fun b8 => I_ready (rs := [4, 18]) SI (by kernel_rfl) (by simp) <| (I_cons Z ?_ (I_cons Z ?_ I_nil))
  refine xc fc28 (A1 Z) Z (coSlots) fun _ => I_ready (rs := [12, 18]) SI (by kernel_rfl) (by simp) <| (I_cons Z ?_ (I_cons Z ?_ I_nil))
  refine xc fc285 (A4 Z Z Z Z) Z (coCapG (s := s) (root := T.root) (a := a_) (kind := kind) PC ha) fun _ => ip 13 Z Z Z Z (p_move Z) <| ip 14 Z Z Z Z (p_extract Z Z) <| ip 15 Z Z Z Z (p_extract Z Z) <| ip 16 Z Z Z Z (p_extract Z Z) <| i1 18 Z <| x_alloc ty108 Z fun b9 => i1 19 Z <| x_store Z Z ty110 Z SM SM RO PT <| i1 20 Z <| x_store Z Z ty108 Z SM SM RO PT <| ip 21 Z Z Z Z (p_assign Z) <| i0 <| qx <| L_val Z (v_loadA Z ty110 HS CT) <| mv Z Z <| L_op <| x_store Z Z ty110 Z SM SM RO PT <| ag Z Z <| nq <| J_ret <| J_pick (A := blk a _ _) PC <| J_asTo (B := actA a p T q i) (by rfl) <| J_return (()) Tryz.results221 (.cellA Z ty110 HS CT (.tmp Z .nil)) ?_ ?_
  · rfl
  · exact SU
  refine x_alloc ty108 Z fun b9 => i1 12 Z <| xc fc285 (A4 Z Z Z Z) Z (coCapG (s := s) (root := T.root) (a := a_) (kind := kind) PC ha) fun _ => ip 13 Z Z Z Z (p_move Z) <| ip 14 Z Z Z Z (p_extract Z Z) <| ip 15 Z Z Z Z (p_extract Z Z) <| ip 16 Z Z Z Z (p_extract Z Z) <| i1 19 Z <| x_store Z Z ty110 Z SM SM RO PT <| i1 20 Z <| x_store Z Z ty108 Z SM SM RO PT <| ip 21 Z Z Z Z (p_assign Z) <| i0 <| qx <| L_val Z (v_loadA Z ty110 HS CT) <| mv Z Z <| L_op <| x_store Z Z ty110 Z SM SM RO PT <| ag Z Z <| nq <| J_ret <| J_pick (A := blk a _ _) PC <| J_asTo (B := actA a p T q i) (by rfl) <| J_return (()) Tryz.results221 (.cellA Z ty110 HS CT (.tmp Z .nil)) ?_ ?_
  · rfl
  · exact SU
  refine x_alloc ty108 Z fun b9 => i1 4 Z <| xc fc28 (A1 Z) Z (coSlots) fun _ => i1 12 Z <| xc fc285 (A4 Z Z Z Z) Z (coCapG (s := s) (root := T.root) (a := a_) (kind := kind) PC ha) fun _ => ip 13 Z Z Z Z (p_move Z) <| ip 14 Z Z Z Z (p_extract Z Z) <| ip 15 Z Z Z Z (p_extract Z Z) <| ip 16 Z Z Z Z (p_extract Z Z) <| i1 19 Z <| x_store Z Z ty110 Z SM SM RO PT <| i1 20 Z <| x_store Z Z ty108 Z SM SM RO PT <| ip 21 Z Z Z Z (p_assign Z) <| i0 <| qx <| L_val Z (v_loadA Z ty110 HS CT) <| mv Z Z <| L_op <| x_store Z Z ty110 Z SM SM RO PT <| ag Z Z <| nq <| J_ret <| J_pick (A := blk a _ _) PC <| J_asTo (B := actA a p T q i) (by rfl) <| J_return (()) Tryz.results221 (.cellA Z ty110 HS CT (.tmp Z .nil)) ?_ ?_
  · rfl
  · exact SU
  refine x_alloc ty108 Z fun b9 => I_ready (rs := [4, 17]) SI (by kernel_rfl) (by simp) <| (I_cons Z ?_ (I_cons Z ?_ I_nil))
  refine xc fc28 (A1 Z) Z (coSlots) fun _ => I_ready (rs := [12, 17]) SI (by kernel_rfl) (by simp) <| (I_cons Z ?_ (I_cons Z ?_ I_nil))
  refine xc fc285 (A4 Z Z Z Z) Z (coCapG (s := s) (root := T.root) (a := a_) (kind := kind) PC ha) fun _ => ip 13 Z Z Z Z (p_move Z) <| ip 14 Z Z Z Z (p_extract Z Z) <| ip 15 Z Z Z Z (p_extract Z Z) <| ip 16 Z Z Z Z (p_extract Z Z) <| i1 17 Z <| x_alloc ty110 Z fun b8 => i1 19 Z <| x_store Z Z ty110 Z SM SM RO PT <| i1 20 Z <| x_store Z Z ty108 Z SM SM RO PT <| ip 21 Z Z Z Z (p_assign Z) <| i0 <| qx <| L_val Z (v_loadA Z ty110 HS CT) <| mv Z Z <| L_op <| x_store Z Z ty110 Z SM SM RO PT <| ag Z Z <| nq <| J_ret <| J_pick (A := blk a _ _) PC <| J_asTo (B := actA a p T q i) (by rfl) <| J_return (()) Tryz.results221 (.cellA Z ty110 HS CT (.tmp Z .nil)) ?_ ?_
  · rfl
  · exact SU
  refine x_alloc ty110 Z fun b8 => i1 12 Z <| xc fc285 (A4 Z Z Z Z) Z (coCapG (s := s) (root := T.root) (a := a_) (kind := kind) PC ha) fun _ => ip 13 Z Z Z Z (p_move Z) <| ip 14 Z Z Z Z (p_extract Z Z) <| ip 15 Z Z Z Z (p_extract Z Z) <| ip 16 Z Z Z Z (p_extract Z Z) <| i1 19 Z <| x_store Z Z ty110 Z SM SM RO PT <| i1 20 Z <| x_store Z Z ty108 Z SM SM RO PT <| ip 21 Z Z Z Z (p_assign Z) <| i0 <| qx <| L_val Z (v_loadA Z ty110 HS CT) <| mv Z Z <| L_op <| x_store Z Z ty110 Z SM SM RO PT <| ag Z Z <| nq <| J_ret <| J_pick (A := blk a _ _) PC <| J_asTo (B := actA a p T q i) (by rfl) <| J_return (()) Tryz.results221 (.cellA Z ty110 HS CT (.tmp Z .nil)) ?_ ?_
  · rfl
  · exact SU
  refine x_alloc ty110 Z fun b8 => i1 4 Z <| xc fc28 (A1 Z) Z (coSlots) fun _ => i1 12 Z <| xc fc285 (A4 Z Z Z Z) Z (coCapG (s := s) (root := T.root) (a := a_) (kind := kind) PC ha) fun _ => ip 13 Z Z Z Z (p_move Z) <| ip 14 Z Z Z Z (p_extract Z Z) <| ip 15 Z Z Z Z (p_extract Z Z) <| ip 16 Z Z Z Z (p_extract Z Z) <| i1 19 Z <| x_store Z Z ty110 Z SM SM RO PT <| i1 20 Z <| x_store Z Z ty108 Z SM SM RO PT <| ip 21 Z Z Z Z (p_assign Z) <| i0 <| qx <| L_val Z (v_loadA Z ty110 HS CT) <| mv Z Z <| L_op <| x_store Z Z ty110 Z SM SM RO PT <| ag Z Z <| nq <| J_ret <| J_pick (A := blk a _ _) PC <| J_asTo (B := actA a p T q i) (by rfl) <| J_return (()) Tryz.results221 (.cellA Z ty110 HS CT (.tmp Z .nil)) ?_ ?_
  · rfl
  · exact SU
theorem mayG {a p : Nat} {q : Rq} (hp : Picks [actA a p T q i, coA p s] l m) (hE : SqeOk q.e) :
    Con Tryz.prog 224 #[.pointer (some ⟨a, 0, none⟩), .int .i64 kind, .int .i64 r] E l (fun _ : Unit => .tuple #[.agg (encC (mayS s T q.e kind r).1).toArray, .int .i64 (mayS s T q.e kind r).2]) (fun _ => actA a p T q i :: coA p s :: m) := by
  refine Con.body (n := 35) Tryz.func224 Z Z _ (env_ok 3 Z) <| J_picks2 hp <| J_act <| sr <| L_op <| x_alloc ty110 Z fun b6 => ag Z Z <| nx <| mv Z Z <| mv Z Z <| nc Z Z <| fa Z Z fa279_2 <| fa Z Z fa122_1 <| fa Z Z fa34_3 <| L_val Z (v_load Z ty22 HS (by exact rfl)) <| J_pick (A := blk a _ _) PC <| J_asTo (B := actA a p T q i) (by rfl) <| mv Z Z <| xo fc221 (A3 Z Z Z) Z (foundG (a_ := q.e.cap) (kind := kind) PX hE.cap) fun _ => mv Z Z <| L_pur Z (p_extract Z Z) <| L_pur Z (p_extract Z Z) <| L_op <| x_alloc ty110 Z fun b8 => L_op <| x_store Z Z ty110 Z SM SM RO PT <| J_pick (A := blk b8 _ _) PC <| J_asTo (B := blk b8 110 (encC (kCap s.sl T.root q.e.cap kind).1)) (by rfl) <| ag Z Z <| nxx <| mv Z Z <| L_pur Z (p_eql Z Z) <| mv Z Z <| J_gsplit (t := 24) Z (fun h24 => ?_) (fun h24 => ?_)
  refine gp Z Z Z (p_fieldAddr Z fa110_4) Z <| L_op <| G_on Z Z Z <| J_val (v_load Z ty3 HS (by exact rfl)) Z Z Z <| gp Z Z Z (p_move Z) Z <| gp Z Z Z (p_and Z Z) Z <| L_op <| G_on Z Z Z <| J_pur (p_move Z) Z Z Z <| gp Z Z Z (p_neq Z Z) Z <| L_pur Z (p_pick_t Z Z) <| nq <| C_split Z (fun h31 => ?_) (fun h31 => ?_)
  refine J_seq ?_
  have hmy : (mayS s T q.e kind r) = (c0, 6) := by unfold mayS; exact if_pos ⟨by simpa using h24, by simpa using h31⟩
  refine J_region <| L_pur Z (bld110 .nil (by repeat constructor)) <| L_op <| x_store Z Z ty110 Z SM SM RO PT <| ag Z Z <| nq <| J_ret <| Q_then_ret <| J_return (()) Tryz.results224 (.cellA Z ty110 HS CT (.tmp Z .nil)) ?_ ?_
  · rw [hmy]; rfl
  · exact SU
  refine J_skip <| Q_then <| J_seq ?_
  have hmy : (mayS s T q.e kind r) = ((kCap s.sl T.root q.e.cap kind).1, (kCap s.sl T.root q.e.cap kind).2.2) := by unfold mayS; exact if_neg (fun e => by first | exact absurd e.1 (by simpa using h24) | exact absurd e.2 (by simpa using h31))
  refine J_region <| L_val Z (v_loadA Z ty110 HS CT) <| mv Z Z <| L_op <| x_store Z Z ty110 Z SM SM RO PT <| ag Z Z <| nq <| J_ret <| J_return (()) Tryz.results224 (.cellA Z ty110 HS CT (.tmp Z .nil)) ?_ ?_
  · rw [hmy]; rfl
  · exact SU
  refine gz Z Z Z Z Z <| gz Z Z Z Z Z <| gz Z Z Z Z Z <| gz Z Z Z Z Z <| gz Z Z Z Z Z <| gz Z Z Z Z Z <| L_pur Z (p_pick_f Z Z) <| nq <| C_false Z <| J_skip <| Q_then <| J_seq ?_
  have hmy : (mayS s T q.e kind r) = ((kCap s.sl T.root q.e.cap kind).1, (kCap s.sl T.root q.e.cap kind).2.2) := by unfold mayS; exact if_neg (fun e => by first | exact absurd e.1 (by simpa using h24) | exact absurd e.2 (by simpa using h31))
  refine J_region <| L_val Z (v_loadA Z ty110 HS CT) <| mv Z Z <| L_op <| x_store Z Z ty110 Z SM SM RO PT <| ag Z Z <| nq <| J_ret <| J_return (()) Tryz.results224 (.cellA Z ty110 HS CT (.tmp Z .nil)) ?_ ?_
  · rw [hmy]; rfl
  · exact SU
def copyF (s : KS) (e : Sqe) (x y : Place) : KS × Int := ({ s with sl := (copyS s.sl x y e.b).1 }, (copyS s.sl x y e.b).2)
def mintF (s : KS) (e : Sqe) (x y : Place) : KS × Int := ({ s with sl := (mintS s.sl x y e.b).1 }, (mintS s.sl x y e.b).2)
def moveF (s : KS) (x y : Place) : KS × Int := ({ s with sl := (dmoveS s.sl x y).1 }, (dmoveS s.sl x y).2)
def retF (s : KS) (e : Sqe) (x y : Place) : KS × Int := ({ s with sl := (makeS s.sl s.mr x y e.b e.c).1.1, mr := (makeS s.sl s.mr x y e.b e.c).1.2 }, (makeS s.sl s.mr x y e.b e.c).2.2)
def kSlots (s : KS) (T : Th) (e : Sqe) : KS × Int :=
  if e.op = 2 then twoS s (copyF s e) (twoAt s T e) else if e.op = 3 then twoS s (mintF s e) (twoAt s T e) else if e.op = 4 then twoS s (moveF s) (twoAt s T e)
  else if e.op = 5 then killS s (deleteS s.sl) (kFind s.sl T.root e.cap) else killS s (revokeS s.sl) (kFind s.sl T.root e.cap)
def kRetC (s : KS) (T : Th) (e : Sqe) : Int := (twoS s (retF s e) (twoAt s T e)).2
def kRetK (s : KS) (T : Th) (e : Sqe) : Cap := match twoAt s T e with
  | none => c0
  | some x => (makeS s.sl s.mr x.1 x.2 e.b e.c).2.1
def kRetS (s : KS) (T : Th) (e : Sqe) (b : Nat) : KS := if kRetC s T e = 0 then kMade (twoS s (retF s e) (twoAt s T e)).1 (kRetK s T e) b else (twoS s (retF s e) (twoAt s T e)).1
def kRetV (s : KS) (T : Th) (e : Sqe) : Int := if kRetC s T e = 0 then (kRetK s T e).obj else 0
theorem makeS_obj {mr : List (Place × Int)} {p q : Place} {k z : Int} (hc : CapsOk ps) (hm : MarksOk mr) (h : (makeS ps mr p q k z).2.2 = 0) : 1 ≤ (makeS ps mr p q k z).2.1.obj ∧ (makeS ps mr p q k z).2.1.obj ≤ 64 := by
  unfold makeS at h ⊢
  split at h
  · simp at h
  · rename_i u hu
    have hcu := checkC_is (hc _ (mem_look hu))
    dsimp only at hcu
    split at h
    · simp at h
    · rename_i h1
      split at h
      · simp at h
      · rename_i h2
        split at h
        · simp at h
        · rename_i h3
          split at h
          · rename_i h4; exact absurd h h4
          · rename_i h4
            split at h
            · rename_i h5
              rw [if_neg h1, if_neg h2, if_neg h3, if_neg h4, if_pos h5]
              have hus := usedM_is (hm.reset ps u.1) (rangeC u.1)
              have hk1 : u.1.kind = 1 := by simpa using h1
              have hr : rangeC u.1 = (u.1.obj, u.1.size) := if_neg h1
              have hto := h5
              unfold mtkOk at hto
              simp only [Bool.and_eq_true, decide_eq_true_eq, hr] at hto
              show 1 ≤ mtkV _ _ _ ∧ mtkV _ _ _ ≤ 64
              unfold mtkV
              rw [if_pos h5, hr]
              rw [hr] at hus
              have := hcu.2.2 hk1
              dsimp only
              omega
            · simp at h
/-! ### plain: what an entry asks of pages, threads, whoever waits -/
abbrev Out := Option (Int × Int)
def failO (c : Int) : Out := some (-c, 0)
def kMaps (s : KS) (T : Th) (e : Sqe) : KS × Int :=
  if (kCap s.sl T.root e.cap 3).2.2 ≠ 0 then (s, (kCap s.sl T.root e.cap 3).2.2)
  else if e.a ≥ 8 ∨ e.b < 1 ∨ e.b > 3 then (s, 7)
  else if bits .and .i64 (kCap s.sl T.root e.cap 3).1.rights e.b ≠ e.b then (s, 6)
  else if (look s.sp T.space).getD false = false then (s, 11)
  else if spSetOk s.mp (T.space, e.a) ((kCap s.sl T.root e.cap 3).1.obj, e.b) = false then (s, 3)
  else ({ s with mp := spSet s.mp (T.space, e.a) ((kCap s.sl T.root e.cap 3).1.obj, e.b) }, 0)
def kUnmap (s : KS) (T : Th) (e : Sqe) : KS × Int :=
  if e.a ≥ 8 then (s, 7) else if (look s.mp (T.space, e.a)).isSome = false then ({ s with mp := del s.mp (T.space, e.a) }, 11) else ({ s with mp := del s.mp (T.space, e.a) }, 0)
def kThr (s : KS) (e : Sqe) (u : Int) : KS × Bool :=
  if e.op = 16 then ({ s with q := qSet s.q u e.a }, qSetOk s.q u e.a) else if e.op = 17 then (kStop s u, kStopOk s u) else (kGo s u, kGoOk s u)
def kThreads (s : KS) (T : Th) (e : Sqe) : KS × Int :=
  if (kCap s.sl T.root e.cap 6).2.2 ≠ 0 then (s, (kCap s.sl T.root e.cap 6).2.2)
  else if e.op = 16 ∧ e.a ≥ 8 then (s, 7)
  else ((kThr s e (kCap s.sl T.root e.cap 6).1.obj).1, if (kThr s e (kCap s.sl T.root e.cap 6).1.obj).2 = true then 0 else 11)
def tagQ (ps : List (ID × Rq)) (g tag but : Int) : Option ID := ((ofQ ps g).find? fun r => decide (r.e.tag = tag) && !decide (r.id.2 = but)).map Rq.id
def kCancels (s : KS) (e : Sqe) (i : ID) : KS × Int := match tagQ s.rt i.1 e.a i.2 with
  | none => (s, 11)
  | some j => (kDec s.rt.length s j (-9) 0, 0)
def kBind (s : KS) (u : Int) (j : ID) : KS := match look s.rp u with
  | none => s
  | some x => if x.2.2 = true then kDec s.rt.length { s with rp := updO s.rp u (fun _ => (j, true)) } x.2.1 (-9) 0 else { s with rp := updO s.rp u (fun _ => (j, true)) }
def kSend3 (s : KS) (u : Int) (i : ID) (call : Bool) : KS × Out := if call = false then (s, some (0, 0)) else match look s.rp u with
  | none => (s, failO 11)
  | some _ => (kBind s u i, none)
def kSend2 (s : KS) (c : Cap) (e : Sqe) (i : ID) (call : Bool) : List Rcv → KS × Out
  | [] => (s, none)
  | y :: _ => kSend3 (kDec s.rt.length s y.1 c.badge e.a) y.2 i call
def kSend1 (s : KS) (c : Cap) (e : Sqe) (i : ID) (call : Bool) : KS × Out := match look s.ep c.obj with
  | none => (s, failO 11)
  | some y => kSend2 { s with ep := updO s.ep c.obj (sendE (i, e.a, c.badge, call)) } c e i call y.2.2
def kSends (s : KS) (T : Th) (e : Sqe) (i : ID) (call : Bool) : KS × Out :=
  if (mayS s T e 4 (if call = true then 6 else 2)).2 ≠ 0 then (s, failO (mayS s T e 4 (if call = true then 6 else 2)).2) else kSend1 s (mayS s T e 4 (if call = true then 6 else 2)).1 e i call
def kMet (s : KS) (u : Int) (x : Msg) : KS :=
  if x.2.2.2 = true then (match look s.rp u with
    | none => kDec s.rt.length s x.1 (-11) 0
    | some _ => kBind s u x.1)
  else kDec s.rt.length s x.1 0 0
def kRecv2 (s : KS) (u : Int) : List Msg → KS × Out
  | [] => (s, none)
  | x :: _ => (kMet s u x, some (x.2.2.1, x.2.1))
def kRecv1 (s : KS) (c : Cap) (u : Int) (i : ID) : KS × Out := match look s.ep c.obj with
  | none => (s, failO 11)
  | some y => kRecv2 { s with ep := updO s.ep c.obj (recvE (i, u)) } u y.2.1
def kRecvs (s : KS) (T : Th) (e : Sqe) (i : ID) : KS × Out :=
  if (mayS s T e 4 1).2 ≠ 0 then (s, failO (mayS s T e 4 1).2)
  else if e.b ≠ 0 then (if (kCap s.sl T.root e.b 7).2.2 ≠ 0 then (s, failO (kCap s.sl T.root e.b 7).2.2) else kRecv1 s (mayS s T e 4 1).1 (kCap s.sl T.root e.b 7).1.obj i)
  else kRecv1 s (mayS s T e 4 1).1 0 i
def kAnswers (s : KS) (T : Th) (e : Sqe) : KS × Int :=
  if (kCap s.sl T.root e.cap 7).2.2 ≠ 0 then (s, (kCap s.sl T.root e.cap 7).2.2)
  else match look s.rp (kCap s.sl T.root e.cap 7).1.obj with
    | none => (s, 11)
    | some x => if x.2.2 = false then ({ s with rp := updO s.rp (kCap s.sl T.root e.cap 7).1.obj (fun _ => ((0, 0), false)) }, 11)
      else (kDec s.rt.length { s with rp := updO s.rp (kCap s.sl T.root e.cap 7).1.obj (fun _ => ((0, 0), false)) } x.2.1 0 e.a, 0)
def sigB (c : Cap) (e : Sqe) : Int := if IntKind.u32.wrap c.badge = 0 then e.a else IntKind.u32.wrap c.badge
def kSignals (s : KS) (T : Th) (e : Sqe) : KS × Int :=
  if (mayS s T e 5 2).2 ≠ 0 then (s, (mayS s T e 5 2).2)
  else match look s.nt (mayS s T e 5 2).1.obj with
    | none => (s, 11)
    | some x => (if woke x.2.1 x.2.2 (sigB (mayS s T e 5 2).1 e) = true then kDec s.rt.length { s with nt := updO s.nt (mayS s T e 5 2).1.obj (ntS (sigB (mayS s T e 5 2).1 e)) } (sigI x.2.1 x.2.2 (sigB (mayS s T e 5 2).1 e)) 0 (sigV x.2.1 x.2.2 (sigB (mayS s T e 5 2).1 e)) else { s with nt := updO s.nt (mayS s T e 5 2).1.obj (ntS (sigB (mayS s T e 5 2).1 e)) }, 0)
def kNWaits (s : KS) (T : Th) (e : Sqe) (i : ID) : KS × Out :=
  if (mayS s T e 5 1).2 ≠ 0 then (s, failO (mayS s T e 5 1).2)
  else match look s.nt (mayS s T e 5 1).1.obj with
    | none => (s, failO 11)
    | some x => ({ s with nt := updO s.nt (mayS s T e 5 1).1.obj (ntW i) }, if x.2.1 = 0 then none else some (0, x.2.1))
theorem Fits.rpF (h : Fits s N M) (u : Int) (f : ID × Bool → ID × Bool) : Fits { s with rp := updO s.rp u f } N M :=
  ⟨h.n, h.mm, h.ids, h.jn, h.tm, h.ep, h.nt, fun x hx => by
    obtain ⟨y, hy, h1, _⟩ := updO_mem (show x ∈ updO s.rp u f from hx)
    rw [h1]; exact h.rp y hy, h.rg, h.mem⟩
theorem Fits.more (h : Fits s N M) (hN : N + 1 ≤ 90000) : Fits s (N + 1) M :=
  ⟨hN, h.mm, h.ids, h.jn, by have := h.tm; omega, fun x hx => by have := h.ep x hx; exact ⟨this.1, by omega, by omega⟩, fun x hx => by have := h.nt x hx; exact ⟨this.1, by omega⟩, h.rp, h.rg, h.mem⟩
theorem sendE_len (z : Msg) (a : List Msg × List Rcv) : (sendE z a).1.length ≤ a.1.length + 1 ∧ (sendE z a).2.length ≤ a.2.length := by
  unfold sendE
  split
  · simp
  · rename_i h; simp [h]
theorem recvE_len (z : Rcv) (a : List Msg × List Rcv) : (recvE z a).1.length ≤ a.1.length ∧ (recvE z a).2.length ≤ a.2.length + 1 := by
  unfold recvE
  split
  · simp
  · rename_i h; simp [h]
theorem Fits.epF (h : Fits s N M) (hN : N + 1 ≤ 90000) (u : Int) {f : List Msg × List Rcv → List Msg × List Rcv} (hf : ∀ a, (f a).1.length ≤ a.1.length + 1 ∧ (f a).2.length ≤ a.2.length + 1) : Fits { s with ep := updO s.ep u f } (N + 1) M :=
  ⟨hN, h.mm, h.ids, h.jn, by have := h.tm; show s.tm.length ≤ _; omega, fun x hx => by
    obtain ⟨y, hy, h1, h2⟩ := updO_mem (show x ∈ updO s.ep u f from hx)
    have h3 := h.ep y hy
    rw [h1]
    rcases h2 with h2 | h2 <;> rw [h2]
    · exact ⟨h3.1, by omega, by omega⟩
    · have := hf y.2.2; exact ⟨h3.1, by omega, by omega⟩, fun x hx => by have := h.nt x hx; exact ⟨this.1, by omega⟩, h.rp, h.rg, h.mem⟩
theorem Fits.ntF (h : Fits s N M) (hN : N + 1 ≤ 90000) (u : Int) {f : Int × List ID → Int × List ID} (hf : ∀ a, (f a).2.length ≤ a.2.length + 1) : Fits { s with nt := updO s.nt u f } (N + 1) M :=
  ⟨hN, h.mm, h.ids, h.jn, by have := h.tm; show s.tm.length ≤ _; omega, fun x hx => by have := h.ep x hx; exact ⟨this.1, by omega, by omega⟩, fun x hx => by
    obtain ⟨y, hy, h1, h2⟩ := updO_mem (show x ∈ updO s.nt u f from hx)
    have h3 := h.nt y hy
    rw [h1]
    rcases h2 with h2 | h2 <;> rw [h2]
    · exact ⟨h3.1, by omega⟩
    · have := hf y.2.2; exact ⟨h3.1, by omega⟩, h.rp, h.rg, h.mem⟩
theorem bindsG {a p : Nat} {q : Rq} (hp : Picks [actA a p T q i, coA p s] l m) {b : Nat} {c : ID × Bool} {j : ID} (hl : look s.rp u = some (b, c)) (hF : Fits s N M) :
  Con Tryz.prog 226 #[.pointer (some ⟨a, 0, none⟩), .pointer (some ⟨b, 0, none⟩), .agg (encI j).toArray] E l (fun _ : Unit => .tuple #[]) (fun _ => actA a p T q i :: coA p (kBind s u j) :: m) := by
 refine Con.body (n := 21) Tryz.func226 Z Z _ (env_ok 3 Z) <| J_picks2 hp <| sr <| L_op <| x_box Z Z Z fun b5 => nx <| mv Z Z <| L_val Z (v_loadA Z ty36 HS CT) <| xo fc287 (A2 Z Z) Z (coRpBind (s := s) (u := u) (c := c) (i := j) PC hl) fun _ => mv Z Z <| L_pur Z (p_extract Z Z) <| L_pur Z (p_extract Z Z) <| L_op <| x_alloc ty36 Z fun b6 => L_op <| x_store Z Z ty36 Z SM SM RO PT <| ag Z Z <| nx <| mv Z Z <| nq <| C_split Z (fun h14 => ?_) (fun h14 => ?_)
 have hkb : kBind s u j = kDec s.rt.length { s with rp := updO s.rp u (fun _ => (j, true)) } c.1 (-9) 0 := by unfold kBind; rw [hl]; exact if_pos h14
 refine J_pick (A := actA a p T q i) PC <| J_act <| J_drawT 5 mixed (by kernel_rfl) <| sm Z Z <| sp Z (p_nilCheck Z) <| sp Z (p_fieldAddr Z fa279_0) <| S_val Z (v_load Z ty24 HS (by exact rfl)) <| S_val Z (v_loadA Z ty36 HS CT) <| S_nil <| xo fc72 (A4 Z Z Z Z) Z (coDecide (s := { s with rp := updO s.rp u (fun _ => (j, true)) }) (i := c.1) (r := -9) (v := 0) PC (hF.rpF _ _)) fun _ => L_nil <| J_endnormal <| J_pick (A := coA p _) PC <| J_asTo (B := coA p (kBind s u j)) (by rw [hkb]; try rfl) <| J_pick (A := blk a _ _) PC <| J_asTo (B := actA a p T q i) (by rfl) ?_
 exact J_return (()) Tryz.results226 .nil Z SU
 have hkb : kBind s u j = { s with rp := updO s.rp u (fun _ => (j, true)) } := by unfold kBind; rw [hl]; exact if_neg (by rw [h14]; decide)
 refine J_skip <| J_endnormal <| J_pick (A := coA p _) PC <| J_asTo (B := coA p (kBind s u j)) (by rw [hkb]; try rfl) <| J_pick (A := actA a p T q i) PC ?_
 exact J_return (()) Tryz.results226 .nil Z SU
end Go.Pse
