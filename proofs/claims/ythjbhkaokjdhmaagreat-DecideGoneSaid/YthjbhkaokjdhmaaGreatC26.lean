/-
  A request ends.
-/
import Derived.Test.YthjbhkaokjdhmaaGreatC25
namespace Go.Pse
open Go.RowKit Go.Proofs

/-! ### plain: an end is told; a request ends -/
def kBell (s : KS) (g : Int) : Int × Int := (look s.be g).getD (0, 0)
def kPost (s : KS) (d : Deed) : KS := match look s.rg d.1.1 with
  | none => s
  | some (_, r) => { s with rg := updO s.rg d.1.1 (fun r => postR r s.mem (ofD d)), mem := postM r s.mem (ofD d) }
def kSaid (s : KS) (d : Deed) : KS := kPost { s with jn := s.jn ++ [d] } d
def kRung (s : KS) (g : Int) : KS := { s with nt := updO s.nt (kBell s g).1 (ntS (kBell s g).2) }
def kTell (D : KS → ID → Int → Int → KS) (s : KS) (d : Deed) : KS := match look (kSaid s d).nt (kBell (kSaid s d) d.1.1).1 with
  | none => kSaid s d
  | some (_, w, xs) => if woke w xs (kBell (kSaid s d) d.1.1).2 then D (kRung (kSaid s d) d.1.1) (sigI w xs (kBell (kSaid s d) d.1.1).2) 0 (sigV w xs (kBell (kSaid s d) d.1.1).2) else kRung (kSaid s d) d.1.1
/-- How a request ends; n: how deep it may go. -/
def kDec : Nat → KS → ID → Int → Int → KS
  | 0, s, _, _, _ => s
  | n + 1, s, i, r, v => match look s.rt i with
    | none => s
    | some q => match afterQ (kTell (kDec n) (kForget { s with rt := del s.rt i } i) (i, q.e.tag, q.e.op, r, v, false)).rt i with
      | none => kTell (kDec n) (kForget { s with rt := del s.rt i } i) (i, q.e.tag, q.e.op, r, v, false)
      | some x => if x.soft = true ∧ r < 0 then kDec n (kTell (kDec n) (kForget { s with rt := del s.rt i } i) (i, q.e.tag, q.e.op, r, v, false)) x.id (-9) 0 else kTell (kDec n) (kForget { s with rt := del s.rt i } i) (i, q.e.tag, q.e.op, r, v, false)
theorem kDec_none {n : Nat} {s : KS} {i : ID} {r v : Int} (h : look s.rt i = none) : kDec n s i r v = s := by
  cases n with
  | zero => rfl
  | succ n => rw [kDec, h]
theorem kPost_rt {s : KS} {d : Deed} : (kPost s d).rt = s.rt := by unfold kPost; split <;> rfl
theorem kSaid_rt {s : KS} {d : Deed} : (kSaid s d).rt = s.rt := by unfold kSaid; rw [kPost_rt]
theorem Fits.said {s : KS} {N M : Nat} (h : Fits s N M) (hm : M + 1 ≤ 90000) (d : Deed) : Fits (kSaid s d) N (M + 1) := by
  unfold kSaid kPost
  split
  · exact h.jnl hm d
  · rename_i b r hl
    have hr := h.rg _ (mem_look hl)
    refine ⟨h.n, hm, h.ids, ?_, h.tm, h.ep, h.nt, h.rp, fun x hx => ?_, postM_ok hr.1 h.mem _⟩
    · have := h.jn
      show (s.jn ++ [d]).length + s.rt.length ≤ M + 1
      simp; omega
    · obtain ⟨y, hy, h1, h2⟩ := updO_mem (show x ∈ updO s.rg d.1.1 (fun r => postR r s.mem (ofD d)) from hx)
      obtain ⟨g1, g2⟩ := h.rg y hy
      rcases h2 with h2 | h2 <;> rw [h2]
      · exact ⟨g1, by show _ + s.rt.length ≤ _; omega⟩
      · refine ⟨postR_ok g1 _, ?_⟩
        have : (postR y.2.2 s.mem (ofD d)).over.length ≤ y.2.2.over.length + 1 := by unfold postR; split <;> simp [Go.Pse.rgUp]
        show _ + s.rt.length ≤ _
        omega
theorem Fits.tell {D : KS → ID → Int → Int → KS} {N M : Nat} (hD : ∀ s i r v, Fits s N (M + 1) → Fits (D s i r v) N (M + 1) ∧ (D s i r v).rt.length ≤ s.rt.length) {s : KS} (h : Fits s N M) (hm : M + 1 ≤ 90000) (d : Deed) : Fits (kTell D s d) N (M + 1) ∧ (kTell D s d).rt.length ≤ s.rt.length := by
  have h1 := h.said hm d
  unfold kTell
  split
  · exact ⟨h1, by rw [kSaid_rt]; exact Nat.le_refl _⟩
  · split
    · exact ⟨(hD _ _ _ _ (h1.sig _ _)).1, Nat.le_trans (hD _ _ _ _ (h1.sig _ _)).2 (by show (kSaid s d).rt.length ≤ _; rw [kSaid_rt]; exact Nat.le_refl _)⟩
    · exact ⟨h1.sig _ _, by show (kSaid s d).rt.length ≤ _; rw [kSaid_rt]; exact Nat.le_refl _⟩
theorem Fits.dec {N : Nat} : ∀ n {M : Nat} {s : KS} {i : ID} {r v : Int}, Fits s N M → Fits (kDec n s i r v) N M ∧ (kDec n s i r v).rt.length ≤ s.rt.length
  | 0, _, _, _, _, _, h => ⟨h, Nat.le_refl _⟩
  | n + 1, M, s, i, r, v, h => by
    rw [kDec]
    split
    · exact ⟨h, Nat.le_refl _⟩
    · rename_i q hq
      have hl := del_less hq
      obtain ⟨M, rfl⟩ : ∃ M', M = M' + 1 := ⟨M - 1, by have := h.jn; omega⟩
      have h1 := ((h.drop hq).forget i).tell (D := kDec n) (fun s i r v h => Fits.dec n h) h.mm (i, q.e.tag, q.e.op, r, v, false)
      have h2 : (kTell (kDec n) (kForget { s with rt := del s.rt i } i) (i, q.e.tag, q.e.op, r, v, false)).rt.length ≤ s.rt.length := Nat.le_trans h1.2 (by show (del s.rt i).length ≤ _; omega)
      split
      · exact ⟨h1.1, h2⟩
      · split
        · exact ⟨(Fits.dec n h1.1).1, Nat.le_trans (Fits.dec n h1.1).2 h2⟩
        · exact ⟨h1.1, h2⟩
/-- What is proved of Decide, where no more than n requests are there. -/
def DecC (n N M : Nat) : Prop := ∀ (E : World) (l m : List As) (p : Nat) (s : KS) (i : ID) (r v : Int), Pick (coA p s) l m → s.rt.length ≤ n → Fits s N M →
  Con Tryz.prog 14 #[.pointer (some ⟨p, 0, none⟩), .agg (encI i).toArray, .int .i64 r, .int .u32 v] E l (fun _ : Unit => .bool (look s.rt i).isSome) (fun _ => coA p (kDec n s i r v) :: m)
set_option maxRecDepth 100000 in
set_option maxHeartbeats 4000000 in
theorem coTell {E : World} {l m : List As}{p : Nat} {s : KS} (hp : Pick (coA p s) l m) {n N M : Nat} (hD : DecC n N (M + 1)) {d : Deed} (hn : s.rt.length ≤ n) (hF : Fits s N M) (hm : M + 1 ≤ 90000) :
  Con Tryz.prog 40 #[.pointer (some ⟨p, 0, none⟩), .agg (encD d).toArray] E l (fun _ : Unit => .tuple #[]) (fun _ => coA p (kTell (kDec n) s d) :: m) := by
 refine Con.body (vs := [.pointer (some ⟨p, 0, none⟩), .agg (encD d).toArray]) (n := 51) Tryz.func40 rfl rfl [(0, .pointer (some ⟨p, 0, none⟩)), (1, .agg (encD d).toArray)] (env_ok 2 rfl) <| J_pick hp <| sr <| L_op <| x_box rfl rfl rfl fun b3 => nq <| J_seq <| J_drawL (some 3) mixed ?_
 refine ip 0 rfl rfl rfl rfl (p_move rfl) <| iv 2 rfl rfl rfl rfl (fun _ => v_loadA rfl ty50 HS CT) ?_
 refine i1 1 rfl <| x_call Tryz.func11 nm11 bd11 (.cons rfl .nil) rfl (coJournal) fun _ => i1 3 rfl <| x_call Tryz.func51 nm51 bd51 (.cons rfl (.cons rfl .nil)) rfl (coJAdd (s := s) (d := d) PC (by have := hF.jn; omega)) fun _ => ?_
 refine i0 <| Q_then ?_
 refine J_cut (α := Unit) (fun _ : Unit => coA p (kSaid s d) :: blk b3 50 (encD d) :: m) (fun _ : Unit => [(0, .pointer (some ⟨p, 0, none⟩)), (3, .pointer (some ⟨b3, 0, none⟩))]) ?_ ?_
 ·
  refine sr <| mv rfl rfl <| fa rfl rfl fa50_0 <| fa rfl rfl fa36_0 <| L_val rfl (v_load rfl ty3 HS (by exact rfl)) ?_
  refine L_op <| x_call Tryz.func10 nm10 bd10 (.cons rfl (.cons rfl .nil)) rfl (coRing (s := { s with jn := s.jn ++ [d] }) (u := d.1.1) PC) fun _ => ?_
  refine J_slot (t := 19) (v := .pointer ((look (ptrs s.rg) d.1.1).map fun b => ⟨b, 0, none⟩)) rfl rfl <| ag rfl rfl <| nx <| mv rfl rfl <| L_pur rfl (p_neNilPtr Tryz.underlying30 rfl) <| nq ?_
  refine C_split rfl (fun h21 => ?_) (fun h21 => ?_)
  ·
   obtain ⟨b, hb⟩ : ∃ b, look (ptrs s.rg) d.1.1 = some b := by
    cases hq : look (ptrs s.rg) d.1.1 with
    | none => rw [hq] at h21; simp at h21
    | some b => exact ⟨b, rfl⟩
   obtain ⟨r, hr⟩ := look_got hb
   obtain ⟨hro, hrl⟩ : RgOk r ∧ r.over.length + s.rt.length ≤ M := hF.rg _ (mem_look hr)
   refine J_region <| mv rfl rfl <| J_slot (t := 22) (v := .pointer (some ⟨b, 0, none⟩)) rfl (by rw [hb]; rfl) <| L_val rfl (v_loadA rfl ty50 HS CT) ?_
   refine L_op <| x_call Tryz.func66 nm66 bd66 (.cons rfl .nil) rfl (compOfC (d := d)) fun _ => L_op <| x_call Tryz.func65 nm65 bd65 (.cons rfl (.cons rfl .nil)) rfl (coPost (s := { s with jn := s.jn ++ [d] }) (u := d.1.1) (r := r) (c := ofD d) PC hr (by omega) hro hF.mem) fun _ => ?_
   refine nq <| J_pick (A := coA p _) PC ?_
   refine J_asTo (B := coA p (kSaid s d)) (by unfold kSaid kPost; rw [show look (KS.rg { s with jn := s.jn ++ [d] }) d.1.1 = _ from hr]) ?_
   exact J_at (L := (fun _ : Unit => coA p (kSaid s d) :: blk b3 50 (encD d) :: m)) (G := (fun _ : Unit => [(0, .pointer (some ⟨p, 0, none⟩)), (3, .pointer (some ⟨b3, 0, none⟩))])) () SU KE
  ·
   have hrn : look s.rg d.1.1 = none := by
    cases hq : look s.rg d.1.1 with
    | none => rfl
    | some y => rw [look_ptrs, hq] at h21; simp at h21
   refine J_skip <| Q_then <| J_pick (A := coA p _) PC ?_
   refine J_asTo (B := coA p (kSaid s d)) (by unfold kSaid kPost; rw [show look (KS.rg { s with jn := s.jn ++ [d] }) d.1.1 = _ from hrn]) ?_
   exact J_at (L := (fun _ : Unit => coA p (kSaid s d) :: blk b3 50 (encD d) :: m)) (G := (fun _ : Unit => [(0, .pointer (some ⟨p, 0, none⟩)), (3, .pointer (some ⟨b3, 0, none⟩))])) () SU KE
 ·
  intro _
  have hF2 := hF.said hm d
  refine sr <| mv rfl rfl <| fa rfl rfl fa50_0 <| fa rfl rfl fa36_0 <| L_val rfl (v_load rfl ty3 HS (by exact rfl)) ?_
  refine L_op <| x_call Tryz.func67 nm67 bd67 (.cons rfl (.cons rfl .nil)) rfl (coBell (s := kSaid s d) (u := d.1.1) PC) fun _ => ?_
  refine J_slot (t := 31) (v := .tuple #[.int .i64 (kBell (kSaid s d) d.1.1).1, .int .u32 (kBell (kSaid s d) d.1.1).2]) rfl rfl <| mv rfl rfl <| L_pur rfl (p_extract rfl rfl) <| L_pur rfl (p_extract rfl rfl) <| ag rfl rfl <| ag rfl rfl <| nx <| mv rfl rfl ?_
  refine mv rfl rfl <| L_op <| x_call Tryz.func19 nm19 bd19 (.cons rfl (.cons rfl .nil)) rfl (coNotif (s := kSaid s d) (u := (kBell (kSaid s d) d.1.1).1) PC) fun _ => ?_
  refine J_slot (t := 36) (v := .pointer ((look (ptrs (kSaid s d).nt) (kBell (kSaid s d) d.1.1).1).map fun b => ⟨b, 0, none⟩)) rfl rfl <| ag rfl rfl <| nx <| mv rfl rfl <| L_pur rfl (p_neNilPtr Tryz.underlying54 rfl) <| nq ?_
  refine C_split rfl (fun h38 => ?_) (fun h38 => ?_)
  ·
   obtain ⟨b, hb⟩ : ∃ b, look (ptrs (kSaid s d).nt) (kBell (kSaid s d) d.1.1).1 = some b := by
    cases hq : look (ptrs (kSaid s d).nt) (kBell (kSaid s d) d.1.1).1 with
    | none => rw [hq] at h38; simp at h38
    | some b => exact ⟨b, rfl⟩
   obtain ⟨⟨w0, xs⟩, hob⟩ := look_got hb
   have hxl : xs.length ≤ N := (hF2.nt _ (mem_look hob)).2
   have hNN := hF.n
   refine sr <| mv rfl rfl <| J_slot (t := 40) (v := .pointer (some ⟨b, 0, none⟩)) rfl (by rw [hb]; rfl) <| mv rfl rfl <| L_op <| x_call Tryz.func68 nm68 bd68 (.cons rfl (.cons rfl .nil)) rfl (coNtSignal (s := kSaid s d) (u := (kBell (kSaid s d) d.1.1).1) (z := (kBell (kSaid s d) d.1.1).2) PC hob (by omega)) fun _ => ?_
   refine J_pick (A := coA p _) PC ?_
   refine J_asTo (B := coA p (kRung (kSaid s d) d.1.1)) (by rfl) <| mv rfl rfl <| L_pur rfl (p_extract rfl rfl) <| L_pur rfl (p_extract rfl rfl) <| L_pur rfl (p_extract rfl rfl) <| L_op <| x_alloc ty36 rfl fun b8 => L_op <| x_store rfl rfl ty36 rfl SM SM RO PT ?_
   refine ag rfl rfl <| ag rfl rfl <| nx <| mv rfl rfl <| nq ?_
   refine C_split rfl (fun h46 => ?_) (fun h46 => ?_)
   ·
    refine J_region <| mv rfl rfl <| L_val rfl (v_loadA rfl ty36 HS CT) ?_
    refine mv rfl rfl <| L_op <| x_call Tryz.func14 nm14 bd14 (.cons rfl (.cons rfl (.cons rfl (.cons rfl .nil)))) rfl (hD _ _ _ p (kRung (kSaid s d) d.1.1) (sigI w0 xs (kBell (kSaid s d) d.1.1).2) 0 (sigV w0 xs (kBell (kSaid s d) d.1.1).2) PC (by show (kSaid s d).rt.length ≤ n; rw [kSaid_rt]; exact hn) (hF2.sig _ _)) fun _ => ?_
    refine L_nil <| J_endnormal <| J_pick (A := coA p _) PC ?_
    refine J_asTo (B := coA p (kTell (kDec n) s d)) (by unfold kTell; rw [hob]; simp only [h46, if_true]) ?_
    exact J_return (()) Tryz.results40 .nil rfl SU
   ·
    refine J_skip <| J_endnormal <| J_pick (A := coA p _) PC ?_
    refine J_asTo (B := coA p (kTell (kDec n) s d)) (by unfold kTell; rw [hob]; simp only [h46]; rfl) ?_
    exact J_return (()) Tryz.results40 .nil rfl SU
  ·
   have hno : look (kSaid s d).nt (kBell (kSaid s d) d.1.1).1 = none := by
    cases hq : look (kSaid s d).nt (kBell (kSaid s d) d.1.1).1 with
    | none => rfl
    | some y => rw [look_ptrs, hq] at h38; simp at h38
   refine J_skip <| J_endnormal <| J_pick (A := coA p _) PC ?_
   refine J_asTo (B := coA p (kTell (kDec n) s d)) (by unfold kTell; rw [hno]) ?_
   exact J_return (()) Tryz.results40 .nil rfl SU

set_option maxRecDepth 100000 in
set_option maxHeartbeats 4000000 in
theorem coDecStep {E : World} {l m : List As}{p : Nat} {s : KS} (hp : Pick (coA p s) l m) {n N M : Nat} (hD : ∀ k, n = k + 1 → DecC k N M) {i : ID} {r v : Int} (hn : s.rt.length ≤ n) (hF : Fits s N M) :
  Con Tryz.prog 14 #[.pointer (some ⟨p, 0, none⟩), .agg (encI i).toArray, .int .i64 r, .int .u32 v] E l (fun _ : Unit => .bool (look s.rt i).isSome) (fun _ => coA p (kDec n s i r v) :: m) := by
 rcases hq : look s.rt i with _ | q
 ·
  refine Con.body (vs := [.pointer (some ⟨p, 0, none⟩), .agg (encI i).toArray, .int .i64 r, .int .u32 v]) (n := 61) Tryz.func14 rfl rfl [(0, .pointer (some ⟨p, 0, none⟩)), (1, .agg (encI i).toArray), (2, .int .i64 r), (3, .int .u32 v)] (env_ok 4 rfl) <| J_pick hp <| sr <| L_op <| x_box rfl rfl rfl fun b5 => ag rfl rfl <| nq <| J_seq ?_
  refine J_drawL none mixed <| ip 0 rfl rfl rfl rfl (p_move rfl) <| iv 2 rfl rfl rfl rfl (fun _ => v_loadA rfl ty36 HS CT) ?_
  refine I_ready (rs := [1, 7]) SI (by kernel_rfl) (by simp) ?_
  refine (I_cons rfl ?_ (I_cons rfl ?_ I_nil))
  ·
   refine x_call Tryz.func9 nm9 bd9 (.cons rfl .nil) rfl (coReqs) fun _ => I_ready (rs := [3, 7]) SI (by kernel_rfl) (by simp) ?_
   refine (I_cons rfl ?_ (I_cons rfl ?_ I_nil))
   ·
    refine x_call Tryz.func37 nm37 bd37 (.cons rfl (.cons rfl .nil)) rfl (coRqGet (s := s) (i := i) PC) fun _ => ?_
    refine ip 4 rfl rfl rfl rfl (p_move rfl) <| ip 5 rfl rfl rfl rfl (p_extract rfl rfl) <| ip 6 rfl rfl rfl rfl (p_extract rfl rfl) <| J_bool (t := 19) (c := false) rfl (by rw [hq]; rfl) <| i1 7 rfl <| x_alloc ty41 rfl fun b9 => i1 8 rfl <| x_store rfl rfl ty41 rfl SM SM RO PT ?_
    refine ip 9 rfl rfl rfl rfl (p_assign rfl) <| i0 <| Q_then <| J_seq <| sr <| mv rfl rfl <| L_pur rfl (p_not rfl) <| nq ?_
    refine J_bool (t := 21) (c := true) rfl (rfl) <| C_true rfl <| sr <| ag rfl rfl <| nq <| J_ret <| Q_then_ret <| J_pick (A := coA p _) PC ?_
    refine J_asTo (B := coA p (kDec n s i r v)) (by rw [kDec_none hq]) ?_
    exact J_return (()) Tryz.results14 (.tmp rfl .nil) rfl SU
   ·
    refine x_alloc ty41 rfl fun b9 => i1 3 rfl <| x_call Tryz.func37 nm37 bd37 (.cons rfl (.cons rfl .nil)) rfl (coRqGet (s := s) (i := i) PC) fun _ => ?_
    refine ip 4 rfl rfl rfl rfl (p_move rfl) <| ip 5 rfl rfl rfl rfl (p_extract rfl rfl) <| ip 6 rfl rfl rfl rfl (p_extract rfl rfl) <| J_bool (t := 19) (c := false) rfl (by rw [hq]; rfl) <| i1 8 rfl <| x_store rfl rfl ty41 rfl SM SM RO PT ?_
    refine ip 9 rfl rfl rfl rfl (p_assign rfl) <| i0 <| Q_then <| J_seq <| sr <| mv rfl rfl <| L_pur rfl (p_not rfl) <| nq ?_
    refine J_bool (t := 21) (c := true) rfl (rfl) <| C_true rfl <| sr <| ag rfl rfl <| nq <| J_ret <| Q_then_ret <| J_pick (A := coA p _) PC ?_
    refine J_asTo (B := coA p (kDec n s i r v)) (by rw [kDec_none hq]) ?_
    exact J_return (()) Tryz.results14 (.tmp rfl .nil) rfl SU
  ·
   refine x_alloc ty41 rfl fun b9 => i1 1 rfl <| x_call Tryz.func9 nm9 bd9 (.cons rfl .nil) rfl (coReqs) fun _ => i1 3 rfl <| x_call Tryz.func37 nm37 bd37 (.cons rfl (.cons rfl .nil)) rfl (coRqGet (s := s) (i := i) PC) fun _ => ?_
   refine ip 4 rfl rfl rfl rfl (p_move rfl) <| ip 5 rfl rfl rfl rfl (p_extract rfl rfl) <| ip 6 rfl rfl rfl rfl (p_extract rfl rfl) <| J_bool (t := 19) (c := false) rfl (by rw [hq]; rfl) <| i1 8 rfl <| x_store rfl rfl ty41 rfl SM SM RO PT ?_
   refine ip 9 rfl rfl rfl rfl (p_assign rfl) <| i0 <| Q_then <| J_seq <| sr <| mv rfl rfl <| L_pur rfl (p_not rfl) <| nq ?_
   refine J_bool (t := 21) (c := true) rfl (rfl) <| C_true rfl <| sr <| ag rfl rfl <| nq <| J_ret <| Q_then_ret <| J_pick (A := coA p _) PC ?_
   refine J_asTo (B := coA p (kDec n s i r v)) (by rw [kDec_none hq]) ?_
   exact J_return (()) Tryz.results14 (.tmp rfl .nil) rfl SU
 ·
  refine Con.body (vs := [.pointer (some ⟨p, 0, none⟩), .agg (encI i).toArray, .int .i64 r, .int .u32 v]) (n := 61) Tryz.func14 rfl rfl [(0, .pointer (some ⟨p, 0, none⟩)), (1, .agg (encI i).toArray), (2, .int .i64 r), (3, .int .u32 v)] (env_ok 4 rfl) ?_
  have hl := del_less hq
  obtain ⟨k, rfl⟩ : ∃ k, n = k + 1 := ⟨n - 1, by omega⟩
  obtain ⟨M, rfl⟩ : ∃ M', M = M' + 1 := ⟨M - 1, by have := hF.jn; omega⟩
  have hF1 := hF.drop hq
  have hn2 : (kForget { s with rt := del s.rt i } i).rt.length ≤ k := by show (del s.rt i).length ≤ k; omega
  have hF3 := (hF1.forget i).tell (D := kDec k) (fun s i r v h => Fits.dec k h) hF.mm (i, q.e.tag, q.e.op, r, v, false)
  refine J_pick hp <| sr <| L_op <| x_box rfl rfl rfl fun b5 => ag rfl rfl <| nq <| J_seq <| J_drawL none mixed ?_
  refine ip 0 rfl rfl rfl rfl (p_move rfl) <| iv 2 rfl rfl rfl rfl (fun _ => v_loadA rfl ty36 HS CT) ?_
  refine I_ready (rs := [1, 7]) SI (by kernel_rfl) (by simp) ?_
  refine (I_cons rfl ?_ (I_cons rfl ?_ I_nil))
  ·
   refine x_call Tryz.func9 nm9 bd9 (.cons rfl .nil) rfl (coReqs) fun _ => I_ready (rs := [3, 7]) SI (by kernel_rfl) (by simp) ?_
   refine (I_cons rfl ?_ (I_cons rfl ?_ I_nil))
   ·
    refine x_call Tryz.func37 nm37 bd37 (.cons rfl (.cons rfl .nil)) rfl (coRqGet (s := s) (i := i) PC) fun _ => ?_
    refine ip 4 rfl rfl rfl rfl (p_move rfl) <| ip 5 rfl rfl rfl rfl (p_extract rfl rfl) <| ip 6 rfl rfl rfl rfl (p_extract rfl rfl) <| i1 7 rfl <| x_alloc ty41 rfl fun b9 => i1 8 rfl <| x_store rfl rfl ty41 rfl SM SM RO PT ?_
    refine ip 9 rfl rfl rfl rfl (p_assign rfl) <| i0 <| Q_then <| J_seq <| sr <| mv rfl rfl <| L_pur rfl (p_not rfl) <| nq ?_
    refine J_bool (t := 21) (c := false) rfl (by rw [hq]; rfl) <| C_false rfl <| J_skip <| Q_then <| J_seq <| J_drawL (some 3) mixed <| ip 0 rfl rfl rfl rfl (p_move rfl) <| iv 2 rfl rfl rfl rfl (fun _ => v_loadA rfl ty36 HS CT) ?_
    refine i1 1 rfl <| x_call Tryz.func9 nm9 bd9 (.cons rfl .nil) rfl (coReqs) fun _ => i1 3 rfl <| x_call Tryz.func38 nm38 bd38 (.cons rfl (.cons rfl .nil)) rfl (coRqDrop (s := s) (i := i) PC) fun _ => ?_
    refine i0 <| qx <| mv rfl rfl <| L_val rfl (v_loadA rfl ty36 HS CT) ?_
    refine L_op <| x_call Tryz.func39 nm39 bd39 (.cons rfl (.cons rfl .nil)) rfl (coForget (s := { s with rt := del s.rt i }) (i := i) PC hF1) fun _ => ?_
    refine nx <| mv rfl rfl <| L_val rfl (v_loadA rfl ty36 HS CT) ?_
    refine fa rfl rfl fa41_1 <| fa rfl rfl fa39_2 <| L_val rfl (v_load rfl ty37 HS (by exact rfl)) ?_
    refine fa rfl rfl fa41_1 <| fa rfl rfl fa39_0 <| L_val rfl (v_load rfl ty3 HS (by exact rfl)) ?_
    refine mv rfl rfl <| mv rfl rfl <| L_pur rfl (bld50 (.cons rfl (.cons rfl (.cons rfl (.cons rfl (.cons rfl .nil))))) (by repeat constructor)) <| J_slot (t := 39) (v := .agg (encD (i, q.e.tag, q.e.op, r, v, false)).toArray) rfl (by rw [hq]; rfl) <| L_op <| x_call Tryz.func40 nm40 bd40 (.cons rfl (.cons rfl .nil)) rfl (coTell (s := (kForget { s with rt := del s.rt i } i)) (d := (i, q.e.tag, q.e.op, r, v, false)) PC (hD k rfl) hn2 (hF1.forget i) hF.mm) fun _ => ?_
    refine nq <| J_seq <| J_seq <| J_drawL none mixed <| ip 0 rfl rfl rfl rfl (p_move rfl) <| iv 2 rfl rfl rfl rfl (fun _ => v_loadA rfl ty36 HS CT) ?_
    refine I_ready (rs := [1, 7]) SI (by kernel_rfl) (by simp) ?_
    refine (I_cons rfl ?_ (I_cons rfl ?_ I_nil))
    ·
     refine x_call Tryz.func9 nm9 bd9 (.cons rfl .nil) rfl (coReqs) fun _ => I_ready (rs := [3, 7]) SI (by kernel_rfl) (by simp) ?_
     refine (I_cons rfl ?_ (I_cons rfl ?_ I_nil))
     ·
      refine x_call Tryz.func41 nm41 bd41 (.cons rfl (.cons rfl .nil)) rfl (coRqAfter (s := (kTell (kDec k) (kForget { s with rt := del s.rt i } i) (i, q.e.tag, q.e.op, r, v, false))) (i := i) PC hF3.1.ids (by have := hF3.1.jn; have := hF3.1.mm; omega)) fun _ => ?_
      refine ip 4 rfl rfl rfl rfl (p_move rfl) <| ip 5 rfl rfl rfl rfl (p_extract rfl rfl) <| ip 6 rfl rfl rfl rfl (p_extract rfl rfl) <| i1 7 rfl <| x_alloc ty41 rfl fun b11 => i1 8 rfl <| x_store rfl rfl ty41 rfl SM SM RO PT ?_
      refine ip 9 rfl rfl rfl rfl (p_assign rfl) <| i0 <| qx <| mv rfl rfl <| mv rfl rfl ?_
      refine J_gsplit (t := 49) rfl (fun h49 => ?_) (fun h49 => ?_)
      ·
       obtain ⟨x, haf⟩ : ∃ x, afterQ (kTell (kDec k) (kForget { s with rt := del s.rt i } i) (i, q.e.tag, q.e.op, r, v, false)).rt i = some x := by
        cases hz : afterQ (kTell (kDec k) (kForget { s with rt := del s.rt i } i) (i, q.e.tag, q.e.op, r, v, false)).rt i with
        | none => rw [hz] at h49; simp at h49
        | some x => exact ⟨x, rfl⟩
       refine J_pick (A := blk b11 _ _) PC ?_
       refine J_asTo (B := blk b11 41 (encQ x)) (by rw [haf]; rfl) <| L_op <| G_on rfl rfl rfl <| J_pur (p_fieldAddr rfl fa41_3) rfl rfl rfl <| L_op <| G_on rfl rfl rfl <| J_val (v_load rfl ty4 HS (by exact rfl)) rfl rfl rfl ?_
       refine L_pur rfl (p_pick_t rfl rfl) <| mv rfl rfl ?_
       refine J_gsplit (t := 53) rfl (fun h53 => ?_) (fun h53 => ?_)
       ·
        refine L_op <| G_on rfl rfl rfl <| J_pur (p_move rfl) rfl rfl rfl <| L_op <| G_on rfl rfl rfl <| J_pur (p_lss rfl rfl) rfl rfl rfl <| L_pur rfl (p_pick_t rfl rfl) <| nq ?_
        refine C_dec rfl (fun h56 => ?_) (fun h56 => ?_)
        ·
         refine J_region <| mv rfl rfl <| fa rfl rfl fa41_0 <| L_val rfl (v_loadA rfl ty36 HS CT) ?_
         refine L_op <| x_call Tryz.func14 nm14 bd14 (.cons rfl (.cons rfl (.cons rfl (.cons rfl .nil)))) rfl (hD k rfl _ _ _ p (kTell (kDec k) (kForget { s with rt := del s.rt i } i) (i, q.e.tag, q.e.op, r, v, false)) x.id (-9) 0 PC (Nat.le_trans hF3.2 hn2) hF3.1) fun _ => ?_
         refine nx <| ag rfl rfl <| nq <| J_ret <| J_pick (A := coA p _) PC ?_
         refine J_asTo (B := coA p (kDec (k + 1) s i r v)) (by rw [kDec, hq]; simp only [haf]; rw [if_pos ⟨h53, h56⟩]) ?_
         exact J_return (()) Tryz.results14 (.tmp rfl .nil) rfl SU
        ·
         refine J_skip <| qx <| ag rfl rfl <| nq <| J_ret <| J_pick (A := coA p _) PC ?_
         refine J_asTo (B := coA p (kDec (k + 1) s i r v)) (by rw [kDec, hq]; simp only [haf]; rw [if_neg (by intro hc; simp_all)]) ?_
         exact J_return (()) Tryz.results14 (.tmp rfl .nil) rfl SU
       ·
        refine L_op <| G_off rfl rfl rfl rfl rfl rfl <| L_op <| G_off rfl rfl rfl rfl rfl rfl <| L_pur rfl (p_pick_f rfl rfl) <| nq <| C_false rfl <| J_skip ?_
        refine qx <| ag rfl rfl <| nq <| J_ret <| J_pick (A := coA p _) PC ?_
        refine J_asTo (B := coA p (kDec (k + 1) s i r v)) (by rw [kDec, hq]; simp only [haf]; rw [if_neg (by intro hc; simp_all)]) ?_
        exact J_return (()) Tryz.results14 (.tmp rfl .nil) rfl SU
      ·
       have haf : afterQ (kTell (kDec k) (kForget { s with rt := del s.rt i } i) (i, q.e.tag, q.e.op, r, v, false)).rt i = none := by
        cases hz : afterQ (kTell (kDec k) (kForget { s with rt := del s.rt i } i) (i, q.e.tag, q.e.op, r, v, false)).rt i with
        | none => rfl
        | some x => rw [hz] at h49; simp at h49
       refine L_op <| G_off rfl rfl rfl rfl rfl rfl <| L_op <| G_off rfl rfl rfl rfl rfl rfl <| L_pur rfl (p_pick_f rfl rfl) <| mv rfl rfl <| L_op <| G_off rfl rfl rfl rfl rfl rfl ?_
       refine L_op <| G_off rfl rfl rfl rfl rfl rfl <| L_pur rfl (p_pick_f rfl rfl) <| nq <| C_false rfl <| J_skip <| qx <| ag rfl rfl ?_
       refine nq <| J_ret <| J_pick (A := coA p _) PC ?_
       refine J_asTo (B := coA p (kDec (k + 1) s i r v)) (by rw [kDec, hq]; simp only [haf]) ?_
       exact J_return (()) Tryz.results14 (.tmp rfl .nil) rfl SU
     ·
      refine x_alloc ty41 rfl fun b11 => i1 3 rfl <| x_call Tryz.func41 nm41 bd41 (.cons rfl (.cons rfl .nil)) rfl (coRqAfter (s := (kTell (kDec k) (kForget { s with rt := del s.rt i } i) (i, q.e.tag, q.e.op, r, v, false))) (i := i) PC hF3.1.ids (by have := hF3.1.jn; have := hF3.1.mm; omega)) fun _ => ?_
      refine ip 4 rfl rfl rfl rfl (p_move rfl) <| ip 5 rfl rfl rfl rfl (p_extract rfl rfl) <| ip 6 rfl rfl rfl rfl (p_extract rfl rfl) <| i1 8 rfl <| x_store rfl rfl ty41 rfl SM SM RO PT ?_
      refine ip 9 rfl rfl rfl rfl (p_assign rfl) <| i0 <| qx <| mv rfl rfl <| mv rfl rfl ?_
      refine J_gsplit (t := 49) rfl (fun h49 => ?_) (fun h49 => ?_)
      ·
       obtain ⟨x, haf⟩ : ∃ x, afterQ (kTell (kDec k) (kForget { s with rt := del s.rt i } i) (i, q.e.tag, q.e.op, r, v, false)).rt i = some x := by
        cases hz : afterQ (kTell (kDec k) (kForget { s with rt := del s.rt i } i) (i, q.e.tag, q.e.op, r, v, false)).rt i with
        | none => rw [hz] at h49; simp at h49
        | some x => exact ⟨x, rfl⟩
       refine J_pick (A := blk b11 _ _) PC ?_
       refine J_asTo (B := blk b11 41 (encQ x)) (by rw [haf]; rfl) <| L_op <| G_on rfl rfl rfl <| J_pur (p_fieldAddr rfl fa41_3) rfl rfl rfl <| L_op <| G_on rfl rfl rfl <| J_val (v_load rfl ty4 HS (by exact rfl)) rfl rfl rfl ?_
       refine L_pur rfl (p_pick_t rfl rfl) <| mv rfl rfl ?_
       refine J_gsplit (t := 53) rfl (fun h53 => ?_) (fun h53 => ?_)
       ·
        refine L_op <| G_on rfl rfl rfl <| J_pur (p_move rfl) rfl rfl rfl <| L_op <| G_on rfl rfl rfl <| J_pur (p_lss rfl rfl) rfl rfl rfl <| L_pur rfl (p_pick_t rfl rfl) <| nq ?_
        refine C_dec rfl (fun h56 => ?_) (fun h56 => ?_)
        ·
         refine J_region <| mv rfl rfl <| fa rfl rfl fa41_0 <| L_val rfl (v_loadA rfl ty36 HS CT) ?_
         refine L_op <| x_call Tryz.func14 nm14 bd14 (.cons rfl (.cons rfl (.cons rfl (.cons rfl .nil)))) rfl (hD k rfl _ _ _ p (kTell (kDec k) (kForget { s with rt := del s.rt i } i) (i, q.e.tag, q.e.op, r, v, false)) x.id (-9) 0 PC (Nat.le_trans hF3.2 hn2) hF3.1) fun _ => ?_
         refine nx <| ag rfl rfl <| nq <| J_ret <| J_pick (A := coA p _) PC ?_
         refine J_asTo (B := coA p (kDec (k + 1) s i r v)) (by rw [kDec, hq]; simp only [haf]; rw [if_pos ⟨h53, h56⟩]) ?_
         exact J_return (()) Tryz.results14 (.tmp rfl .nil) rfl SU
        ·
         refine J_skip <| qx <| ag rfl rfl <| nq <| J_ret <| J_pick (A := coA p _) PC ?_
         refine J_asTo (B := coA p (kDec (k + 1) s i r v)) (by rw [kDec, hq]; simp only [haf]; rw [if_neg (by intro hc; simp_all)]) ?_
         exact J_return (()) Tryz.results14 (.tmp rfl .nil) rfl SU
       ·
        refine L_op <| G_off rfl rfl rfl rfl rfl rfl <| L_op <| G_off rfl rfl rfl rfl rfl rfl <| L_pur rfl (p_pick_f rfl rfl) <| nq <| C_false rfl <| J_skip ?_
        refine qx <| ag rfl rfl <| nq <| J_ret <| J_pick (A := coA p _) PC ?_
        refine J_asTo (B := coA p (kDec (k + 1) s i r v)) (by rw [kDec, hq]; simp only [haf]; rw [if_neg (by intro hc; simp_all)]) ?_
        exact J_return (()) Tryz.results14 (.tmp rfl .nil) rfl SU
      ·
       have haf : afterQ (kTell (kDec k) (kForget { s with rt := del s.rt i } i) (i, q.e.tag, q.e.op, r, v, false)).rt i = none := by
        cases hz : afterQ (kTell (kDec k) (kForget { s with rt := del s.rt i } i) (i, q.e.tag, q.e.op, r, v, false)).rt i with
        | none => rfl
        | some x => rw [hz] at h49; simp at h49
       refine L_op <| G_off rfl rfl rfl rfl rfl rfl <| L_op <| G_off rfl rfl rfl rfl rfl rfl <| L_pur rfl (p_pick_f rfl rfl) <| mv rfl rfl <| L_op <| G_off rfl rfl rfl rfl rfl rfl ?_
       refine L_op <| G_off rfl rfl rfl rfl rfl rfl <| L_pur rfl (p_pick_f rfl rfl) <| nq <| C_false rfl <| J_skip <| qx <| ag rfl rfl ?_
       refine nq <| J_ret <| J_pick (A := coA p _) PC ?_
       refine J_asTo (B := coA p (kDec (k + 1) s i r v)) (by rw [kDec, hq]; simp only [haf]) ?_
       exact J_return (()) Tryz.results14 (.tmp rfl .nil) rfl SU
    ·
     refine x_alloc ty41 rfl fun b11 => i1 1 rfl <| x_call Tryz.func9 nm9 bd9 (.cons rfl .nil) rfl (coReqs) fun _ => i1 3 rfl <| x_call Tryz.func41 nm41 bd41 (.cons rfl (.cons rfl .nil)) rfl (coRqAfter (s := (kTell (kDec k) (kForget { s with rt := del s.rt i } i) (i, q.e.tag, q.e.op, r, v, false))) (i := i) PC hF3.1.ids (by have := hF3.1.jn; have := hF3.1.mm; omega)) fun _ => ?_
     refine ip 4 rfl rfl rfl rfl (p_move rfl) <| ip 5 rfl rfl rfl rfl (p_extract rfl rfl) <| ip 6 rfl rfl rfl rfl (p_extract rfl rfl) <| i1 8 rfl <| x_store rfl rfl ty41 rfl SM SM RO PT ?_
     refine ip 9 rfl rfl rfl rfl (p_assign rfl) <| i0 <| qx <| mv rfl rfl <| mv rfl rfl ?_
     refine J_gsplit (t := 49) rfl (fun h49 => ?_) (fun h49 => ?_)
     ·
      obtain ⟨x, haf⟩ : ∃ x, afterQ (kTell (kDec k) (kForget { s with rt := del s.rt i } i) (i, q.e.tag, q.e.op, r, v, false)).rt i = some x := by
       cases hz : afterQ (kTell (kDec k) (kForget { s with rt := del s.rt i } i) (i, q.e.tag, q.e.op, r, v, false)).rt i with
       | none => rw [hz] at h49; simp at h49
       | some x => exact ⟨x, rfl⟩
      refine J_pick (A := blk b11 _ _) PC ?_
      refine J_asTo (B := blk b11 41 (encQ x)) (by rw [haf]; rfl) <| L_op <| G_on rfl rfl rfl <| J_pur (p_fieldAddr rfl fa41_3) rfl rfl rfl <| L_op <| G_on rfl rfl rfl <| J_val (v_load rfl ty4 HS (by exact rfl)) rfl rfl rfl ?_
      refine L_pur rfl (p_pick_t rfl rfl) <| mv rfl rfl ?_
      refine J_gsplit (t := 53) rfl (fun h53 => ?_) (fun h53 => ?_)
      ·
       refine L_op <| G_on rfl rfl rfl <| J_pur (p_move rfl) rfl rfl rfl <| L_op <| G_on rfl rfl rfl <| J_pur (p_lss rfl rfl) rfl rfl rfl <| L_pur rfl (p_pick_t rfl rfl) <| nq ?_
       refine C_dec rfl (fun h56 => ?_) (fun h56 => ?_)
       ·
        refine J_region <| mv rfl rfl <| fa rfl rfl fa41_0 <| L_val rfl (v_loadA rfl ty36 HS CT) ?_
        refine L_op <| x_call Tryz.func14 nm14 bd14 (.cons rfl (.cons rfl (.cons rfl (.cons rfl .nil)))) rfl (hD k rfl _ _ _ p (kTell (kDec k) (kForget { s with rt := del s.rt i } i) (i, q.e.tag, q.e.op, r, v, false)) x.id (-9) 0 PC (Nat.le_trans hF3.2 hn2) hF3.1) fun _ => ?_
        refine nx <| ag rfl rfl <| nq <| J_ret <| J_pick (A := coA p _) PC ?_
        refine J_asTo (B := coA p (kDec (k + 1) s i r v)) (by rw [kDec, hq]; simp only [haf]; rw [if_pos ⟨h53, h56⟩]) ?_
        exact J_return (()) Tryz.results14 (.tmp rfl .nil) rfl SU
       ·
        refine J_skip <| qx <| ag rfl rfl <| nq <| J_ret <| J_pick (A := coA p _) PC ?_
        refine J_asTo (B := coA p (kDec (k + 1) s i r v)) (by rw [kDec, hq]; simp only [haf]; rw [if_neg (by intro hc; simp_all)]) ?_
        exact J_return (()) Tryz.results14 (.tmp rfl .nil) rfl SU
      ·
       refine L_op <| G_off rfl rfl rfl rfl rfl rfl <| L_op <| G_off rfl rfl rfl rfl rfl rfl <| L_pur rfl (p_pick_f rfl rfl) <| nq <| C_false rfl <| J_skip ?_
       refine qx <| ag rfl rfl <| nq <| J_ret <| J_pick (A := coA p _) PC ?_
       refine J_asTo (B := coA p (kDec (k + 1) s i r v)) (by rw [kDec, hq]; simp only [haf]; rw [if_neg (by intro hc; simp_all)]) ?_
       exact J_return (()) Tryz.results14 (.tmp rfl .nil) rfl SU
     ·
      have haf : afterQ (kTell (kDec k) (kForget { s with rt := del s.rt i } i) (i, q.e.tag, q.e.op, r, v, false)).rt i = none := by
       cases hz : afterQ (kTell (kDec k) (kForget { s with rt := del s.rt i } i) (i, q.e.tag, q.e.op, r, v, false)).rt i with
       | none => rfl
       | some x => rw [hz] at h49; simp at h49
      refine L_op <| G_off rfl rfl rfl rfl rfl rfl <| L_op <| G_off rfl rfl rfl rfl rfl rfl <| L_pur rfl (p_pick_f rfl rfl) <| mv rfl rfl <| L_op <| G_off rfl rfl rfl rfl rfl rfl ?_
      refine L_op <| G_off rfl rfl rfl rfl rfl rfl <| L_pur rfl (p_pick_f rfl rfl) <| nq <| C_false rfl <| J_skip <| qx <| ag rfl rfl ?_
      refine nq <| J_ret <| J_pick (A := coA p _) PC ?_
      refine J_asTo (B := coA p (kDec (k + 1) s i r v)) (by rw [kDec, hq]; simp only [haf]) ?_
      exact J_return (()) Tryz.results14 (.tmp rfl .nil) rfl SU
   ·
    refine x_alloc ty41 rfl fun b9 => i1 3 rfl <| x_call Tryz.func37 nm37 bd37 (.cons rfl (.cons rfl .nil)) rfl (coRqGet (s := s) (i := i) PC) fun _ => ?_
    refine ip 4 rfl rfl rfl rfl (p_move rfl) <| ip 5 rfl rfl rfl rfl (p_extract rfl rfl) <| ip 6 rfl rfl rfl rfl (p_extract rfl rfl) <| i1 8 rfl <| x_store rfl rfl ty41 rfl SM SM RO PT ?_
    refine ip 9 rfl rfl rfl rfl (p_assign rfl) <| i0 <| Q_then <| J_seq <| sr <| mv rfl rfl <| L_pur rfl (p_not rfl) <| nq ?_
    refine J_bool (t := 21) (c := false) rfl (by rw [hq]; rfl) <| C_false rfl <| J_skip <| Q_then <| J_seq <| J_drawL (some 3) mixed <| ip 0 rfl rfl rfl rfl (p_move rfl) <| iv 2 rfl rfl rfl rfl (fun _ => v_loadA rfl ty36 HS CT) ?_
    refine i1 1 rfl <| x_call Tryz.func9 nm9 bd9 (.cons rfl .nil) rfl (coReqs) fun _ => i1 3 rfl <| x_call Tryz.func38 nm38 bd38 (.cons rfl (.cons rfl .nil)) rfl (coRqDrop (s := s) (i := i) PC) fun _ => ?_
    refine i0 <| qx <| mv rfl rfl <| L_val rfl (v_loadA rfl ty36 HS CT) ?_
    refine L_op <| x_call Tryz.func39 nm39 bd39 (.cons rfl (.cons rfl .nil)) rfl (coForget (s := { s with rt := del s.rt i }) (i := i) PC hF1) fun _ => ?_
    refine nx <| mv rfl rfl <| L_val rfl (v_loadA rfl ty36 HS CT) ?_
    refine fa rfl rfl fa41_1 <| fa rfl rfl fa39_2 <| L_val rfl (v_load rfl ty37 HS (by exact rfl)) ?_
    refine fa rfl rfl fa41_1 <| fa rfl rfl fa39_0 <| L_val rfl (v_load rfl ty3 HS (by exact rfl)) ?_
    refine mv rfl rfl <| mv rfl rfl <| L_pur rfl (bld50 (.cons rfl (.cons rfl (.cons rfl (.cons rfl (.cons rfl .nil))))) (by repeat constructor)) <| J_slot (t := 39) (v := .agg (encD (i, q.e.tag, q.e.op, r, v, false)).toArray) rfl (by rw [hq]; rfl) <| L_op <| x_call Tryz.func40 nm40 bd40 (.cons rfl (.cons rfl .nil)) rfl (coTell (s := (kForget { s with rt := del s.rt i } i)) (d := (i, q.e.tag, q.e.op, r, v, false)) PC (hD k rfl) hn2 (hF1.forget i) hF.mm) fun _ => ?_
    refine nq <| J_seq <| J_seq <| J_drawL none mixed <| ip 0 rfl rfl rfl rfl (p_move rfl) <| iv 2 rfl rfl rfl rfl (fun _ => v_loadA rfl ty36 HS CT) ?_
    refine I_ready (rs := [1, 7]) SI (by kernel_rfl) (by simp) ?_
    refine (I_cons rfl ?_ (I_cons rfl ?_ I_nil))
    ·
     refine x_call Tryz.func9 nm9 bd9 (.cons rfl .nil) rfl (coReqs) fun _ => I_ready (rs := [3, 7]) SI (by kernel_rfl) (by simp) ?_
     refine (I_cons rfl ?_ (I_cons rfl ?_ I_nil))
     ·
      refine x_call Tryz.func41 nm41 bd41 (.cons rfl (.cons rfl .nil)) rfl (coRqAfter (s := (kTell (kDec k) (kForget { s with rt := del s.rt i } i) (i, q.e.tag, q.e.op, r, v, false))) (i := i) PC hF3.1.ids (by have := hF3.1.jn; have := hF3.1.mm; omega)) fun _ => ?_
      refine ip 4 rfl rfl rfl rfl (p_move rfl) <| ip 5 rfl rfl rfl rfl (p_extract rfl rfl) <| ip 6 rfl rfl rfl rfl (p_extract rfl rfl) <| i1 7 rfl <| x_alloc ty41 rfl fun b11 => i1 8 rfl <| x_store rfl rfl ty41 rfl SM SM RO PT ?_
      refine ip 9 rfl rfl rfl rfl (p_assign rfl) <| i0 <| qx <| mv rfl rfl <| mv rfl rfl ?_
      refine J_gsplit (t := 49) rfl (fun h49 => ?_) (fun h49 => ?_)
      ·
       obtain ⟨x, haf⟩ : ∃ x, afterQ (kTell (kDec k) (kForget { s with rt := del s.rt i } i) (i, q.e.tag, q.e.op, r, v, false)).rt i = some x := by
        cases hz : afterQ (kTell (kDec k) (kForget { s with rt := del s.rt i } i) (i, q.e.tag, q.e.op, r, v, false)).rt i with
        | none => rw [hz] at h49; simp at h49
        | some x => exact ⟨x, rfl⟩
       refine J_pick (A := blk b11 _ _) PC ?_
       refine J_asTo (B := blk b11 41 (encQ x)) (by rw [haf]; rfl) <| L_op <| G_on rfl rfl rfl <| J_pur (p_fieldAddr rfl fa41_3) rfl rfl rfl <| L_op <| G_on rfl rfl rfl <| J_val (v_load rfl ty4 HS (by exact rfl)) rfl rfl rfl ?_
       refine L_pur rfl (p_pick_t rfl rfl) <| mv rfl rfl ?_
       refine J_gsplit (t := 53) rfl (fun h53 => ?_) (fun h53 => ?_)
       ·
        refine L_op <| G_on rfl rfl rfl <| J_pur (p_move rfl) rfl rfl rfl <| L_op <| G_on rfl rfl rfl <| J_pur (p_lss rfl rfl) rfl rfl rfl <| L_pur rfl (p_pick_t rfl rfl) <| nq ?_
        refine C_dec rfl (fun h56 => ?_) (fun h56 => ?_)
        ·
         refine J_region <| mv rfl rfl <| fa rfl rfl fa41_0 <| L_val rfl (v_loadA rfl ty36 HS CT) ?_
         refine L_op <| x_call Tryz.func14 nm14 bd14 (.cons rfl (.cons rfl (.cons rfl (.cons rfl .nil)))) rfl (hD k rfl _ _ _ p (kTell (kDec k) (kForget { s with rt := del s.rt i } i) (i, q.e.tag, q.e.op, r, v, false)) x.id (-9) 0 PC (Nat.le_trans hF3.2 hn2) hF3.1) fun _ => ?_
         refine nx <| ag rfl rfl <| nq <| J_ret <| J_pick (A := coA p _) PC ?_
         refine J_asTo (B := coA p (kDec (k + 1) s i r v)) (by rw [kDec, hq]; simp only [haf]; rw [if_pos ⟨h53, h56⟩]) ?_
         exact J_return (()) Tryz.results14 (.tmp rfl .nil) rfl SU
        ·
         refine J_skip <| qx <| ag rfl rfl <| nq <| J_ret <| J_pick (A := coA p _) PC ?_
         refine J_asTo (B := coA p (kDec (k + 1) s i r v)) (by rw [kDec, hq]; simp only [haf]; rw [if_neg (by intro hc; simp_all)]) ?_
         exact J_return (()) Tryz.results14 (.tmp rfl .nil) rfl SU
       ·
        refine L_op <| G_off rfl rfl rfl rfl rfl rfl <| L_op <| G_off rfl rfl rfl rfl rfl rfl <| L_pur rfl (p_pick_f rfl rfl) <| nq <| C_false rfl <| J_skip ?_
        refine qx <| ag rfl rfl <| nq <| J_ret <| J_pick (A := coA p _) PC ?_
        refine J_asTo (B := coA p (kDec (k + 1) s i r v)) (by rw [kDec, hq]; simp only [haf]; rw [if_neg (by intro hc; simp_all)]) ?_
        exact J_return (()) Tryz.results14 (.tmp rfl .nil) rfl SU
      ·
       have haf : afterQ (kTell (kDec k) (kForget { s with rt := del s.rt i } i) (i, q.e.tag, q.e.op, r, v, false)).rt i = none := by
        cases hz : afterQ (kTell (kDec k) (kForget { s with rt := del s.rt i } i) (i, q.e.tag, q.e.op, r, v, false)).rt i with
        | none => rfl
        | some x => rw [hz] at h49; simp at h49
       refine L_op <| G_off rfl rfl rfl rfl rfl rfl <| L_op <| G_off rfl rfl rfl rfl rfl rfl <| L_pur rfl (p_pick_f rfl rfl) <| mv rfl rfl <| L_op <| G_off rfl rfl rfl rfl rfl rfl ?_
       refine L_op <| G_off rfl rfl rfl rfl rfl rfl <| L_pur rfl (p_pick_f rfl rfl) <| nq <| C_false rfl <| J_skip <| qx <| ag rfl rfl ?_
       refine nq <| J_ret <| J_pick (A := coA p _) PC ?_
       refine J_asTo (B := coA p (kDec (k + 1) s i r v)) (by rw [kDec, hq]; simp only [haf]) ?_
       exact J_return (()) Tryz.results14 (.tmp rfl .nil) rfl SU
     ·
      refine x_alloc ty41 rfl fun b11 => i1 3 rfl <| x_call Tryz.func41 nm41 bd41 (.cons rfl (.cons rfl .nil)) rfl (coRqAfter (s := (kTell (kDec k) (kForget { s with rt := del s.rt i } i) (i, q.e.tag, q.e.op, r, v, false))) (i := i) PC hF3.1.ids (by have := hF3.1.jn; have := hF3.1.mm; omega)) fun _ => ?_
      refine ip 4 rfl rfl rfl rfl (p_move rfl) <| ip 5 rfl rfl rfl rfl (p_extract rfl rfl) <| ip 6 rfl rfl rfl rfl (p_extract rfl rfl) <| i1 8 rfl <| x_store rfl rfl ty41 rfl SM SM RO PT ?_
      refine ip 9 rfl rfl rfl rfl (p_assign rfl) <| i0 <| qx <| mv rfl rfl <| mv rfl rfl ?_
      refine J_gsplit (t := 49) rfl (fun h49 => ?_) (fun h49 => ?_)
      ·
       obtain ⟨x, haf⟩ : ∃ x, afterQ (kTell (kDec k) (kForget { s with rt := del s.rt i } i) (i, q.e.tag, q.e.op, r, v, false)).rt i = some x := by
        cases hz : afterQ (kTell (kDec k) (kForget { s with rt := del s.rt i } i) (i, q.e.tag, q.e.op, r, v, false)).rt i with
        | none => rw [hz] at h49; simp at h49
        | some x => exact ⟨x, rfl⟩
       refine J_pick (A := blk b11 _ _) PC ?_
       refine J_asTo (B := blk b11 41 (encQ x)) (by rw [haf]; rfl) <| L_op <| G_on rfl rfl rfl <| J_pur (p_fieldAddr rfl fa41_3) rfl rfl rfl <| L_op <| G_on rfl rfl rfl <| J_val (v_load rfl ty4 HS (by exact rfl)) rfl rfl rfl ?_
       refine L_pur rfl (p_pick_t rfl rfl) <| mv rfl rfl ?_
       refine J_gsplit (t := 53) rfl (fun h53 => ?_) (fun h53 => ?_)
       ·
        refine L_op <| G_on rfl rfl rfl <| J_pur (p_move rfl) rfl rfl rfl <| L_op <| G_on rfl rfl rfl <| J_pur (p_lss rfl rfl) rfl rfl rfl <| L_pur rfl (p_pick_t rfl rfl) <| nq ?_
        refine C_dec rfl (fun h56 => ?_) (fun h56 => ?_)
        ·
         refine J_region <| mv rfl rfl <| fa rfl rfl fa41_0 <| L_val rfl (v_loadA rfl ty36 HS CT) ?_
         refine L_op <| x_call Tryz.func14 nm14 bd14 (.cons rfl (.cons rfl (.cons rfl (.cons rfl .nil)))) rfl (hD k rfl _ _ _ p (kTell (kDec k) (kForget { s with rt := del s.rt i } i) (i, q.e.tag, q.e.op, r, v, false)) x.id (-9) 0 PC (Nat.le_trans hF3.2 hn2) hF3.1) fun _ => ?_
         refine nx <| ag rfl rfl <| nq <| J_ret <| J_pick (A := coA p _) PC ?_
         refine J_asTo (B := coA p (kDec (k + 1) s i r v)) (by rw [kDec, hq]; simp only [haf]; rw [if_pos ⟨h53, h56⟩]) ?_
         exact J_return (()) Tryz.results14 (.tmp rfl .nil) rfl SU
        ·
         refine J_skip <| qx <| ag rfl rfl <| nq <| J_ret <| J_pick (A := coA p _) PC ?_
         refine J_asTo (B := coA p (kDec (k + 1) s i r v)) (by rw [kDec, hq]; simp only [haf]; rw [if_neg (by intro hc; simp_all)]) ?_
         exact J_return (()) Tryz.results14 (.tmp rfl .nil) rfl SU
       ·
        refine L_op <| G_off rfl rfl rfl rfl rfl rfl <| L_op <| G_off rfl rfl rfl rfl rfl rfl <| L_pur rfl (p_pick_f rfl rfl) <| nq <| C_false rfl <| J_skip ?_
        refine qx <| ag rfl rfl <| nq <| J_ret <| J_pick (A := coA p _) PC ?_
        refine J_asTo (B := coA p (kDec (k + 1) s i r v)) (by rw [kDec, hq]; simp only [haf]; rw [if_neg (by intro hc; simp_all)]) ?_
        exact J_return (()) Tryz.results14 (.tmp rfl .nil) rfl SU
      ·
       have haf : afterQ (kTell (kDec k) (kForget { s with rt := del s.rt i } i) (i, q.e.tag, q.e.op, r, v, false)).rt i = none := by
        cases hz : afterQ (kTell (kDec k) (kForget { s with rt := del s.rt i } i) (i, q.e.tag, q.e.op, r, v, false)).rt i with
        | none => rfl
        | some x => rw [hz] at h49; simp at h49
       refine L_op <| G_off rfl rfl rfl rfl rfl rfl <| L_op <| G_off rfl rfl rfl rfl rfl rfl <| L_pur rfl (p_pick_f rfl rfl) <| mv rfl rfl <| L_op <| G_off rfl rfl rfl rfl rfl rfl ?_
       refine L_op <| G_off rfl rfl rfl rfl rfl rfl <| L_pur rfl (p_pick_f rfl rfl) <| nq <| C_false rfl <| J_skip <| qx <| ag rfl rfl ?_
       refine nq <| J_ret <| J_pick (A := coA p _) PC ?_
       refine J_asTo (B := coA p (kDec (k + 1) s i r v)) (by rw [kDec, hq]; simp only [haf]) ?_
       exact J_return (()) Tryz.results14 (.tmp rfl .nil) rfl SU
    ·
     refine x_alloc ty41 rfl fun b11 => i1 1 rfl <| x_call Tryz.func9 nm9 bd9 (.cons rfl .nil) rfl (coReqs) fun _ => i1 3 rfl <| x_call Tryz.func41 nm41 bd41 (.cons rfl (.cons rfl .nil)) rfl (coRqAfter (s := (kTell (kDec k) (kForget { s with rt := del s.rt i } i) (i, q.e.tag, q.e.op, r, v, false))) (i := i) PC hF3.1.ids (by have := hF3.1.jn; have := hF3.1.mm; omega)) fun _ => ?_
     refine ip 4 rfl rfl rfl rfl (p_move rfl) <| ip 5 rfl rfl rfl rfl (p_extract rfl rfl) <| ip 6 rfl rfl rfl rfl (p_extract rfl rfl) <| i1 8 rfl <| x_store rfl rfl ty41 rfl SM SM RO PT ?_
     refine ip 9 rfl rfl rfl rfl (p_assign rfl) <| i0 <| qx <| mv rfl rfl <| mv rfl rfl ?_
     refine J_gsplit (t := 49) rfl (fun h49 => ?_) (fun h49 => ?_)
     ·
      obtain ⟨x, haf⟩ : ∃ x, afterQ (kTell (kDec k) (kForget { s with rt := del s.rt i } i) (i, q.e.tag, q.e.op, r, v, false)).rt i = some x := by
       cases hz : afterQ (kTell (kDec k) (kForget { s with rt := del s.rt i } i) (i, q.e.tag, q.e.op, r, v, false)).rt i with
       | none => rw [hz] at h49; simp at h49
       | some x => exact ⟨x, rfl⟩
      refine J_pick (A := blk b11 _ _) PC ?_
      refine J_asTo (B := blk b11 41 (encQ x)) (by rw [haf]; rfl) <| L_op <| G_on rfl rfl rfl <| J_pur (p_fieldAddr rfl fa41_3) rfl rfl rfl <| L_op <| G_on rfl rfl rfl <| J_val (v_load rfl ty4 HS (by exact rfl)) rfl rfl rfl ?_
      refine L_pur rfl (p_pick_t rfl rfl) <| mv rfl rfl ?_
      refine J_gsplit (t := 53) rfl (fun h53 => ?_) (fun h53 => ?_)
      ·
       refine L_op <| G_on rfl rfl rfl <| J_pur (p_move rfl) rfl rfl rfl <| L_op <| G_on rfl rfl rfl <| J_pur (p_lss rfl rfl) rfl rfl rfl <| L_pur rfl (p_pick_t rfl rfl) <| nq ?_
       refine C_dec rfl (fun h56 => ?_) (fun h56 => ?_)
       ·
        refine J_region <| mv rfl rfl <| fa rfl rfl fa41_0 <| L_val rfl (v_loadA rfl ty36 HS CT) ?_
        refine L_op <| x_call Tryz.func14 nm14 bd14 (.cons rfl (.cons rfl (.cons rfl (.cons rfl .nil)))) rfl (hD k rfl _ _ _ p (kTell (kDec k) (kForget { s with rt := del s.rt i } i) (i, q.e.tag, q.e.op, r, v, false)) x.id (-9) 0 PC (Nat.le_trans hF3.2 hn2) hF3.1) fun _ => ?_
        refine nx <| ag rfl rfl <| nq <| J_ret <| J_pick (A := coA p _) PC ?_
        refine J_asTo (B := coA p (kDec (k + 1) s i r v)) (by rw [kDec, hq]; simp only [haf]; rw [if_pos ⟨h53, h56⟩]) ?_
        exact J_return (()) Tryz.results14 (.tmp rfl .nil) rfl SU
       ·
        refine J_skip <| qx <| ag rfl rfl <| nq <| J_ret <| J_pick (A := coA p _) PC ?_
        refine J_asTo (B := coA p (kDec (k + 1) s i r v)) (by rw [kDec, hq]; simp only [haf]; rw [if_neg (by intro hc; simp_all)]) ?_
        exact J_return (()) Tryz.results14 (.tmp rfl .nil) rfl SU
      ·
       refine L_op <| G_off rfl rfl rfl rfl rfl rfl <| L_op <| G_off rfl rfl rfl rfl rfl rfl <| L_pur rfl (p_pick_f rfl rfl) <| nq <| C_false rfl <| J_skip ?_
       refine qx <| ag rfl rfl <| nq <| J_ret <| J_pick (A := coA p _) PC ?_
       refine J_asTo (B := coA p (kDec (k + 1) s i r v)) (by rw [kDec, hq]; simp only [haf]; rw [if_neg (by intro hc; simp_all)]) ?_
       exact J_return (()) Tryz.results14 (.tmp rfl .nil) rfl SU
     ·
      have haf : afterQ (kTell (kDec k) (kForget { s with rt := del s.rt i } i) (i, q.e.tag, q.e.op, r, v, false)).rt i = none := by
       cases hz : afterQ (kTell (kDec k) (kForget { s with rt := del s.rt i } i) (i, q.e.tag, q.e.op, r, v, false)).rt i with
       | none => rfl
       | some x => rw [hz] at h49; simp at h49
      refine L_op <| G_off rfl rfl rfl rfl rfl rfl <| L_op <| G_off rfl rfl rfl rfl rfl rfl <| L_pur rfl (p_pick_f rfl rfl) <| mv rfl rfl <| L_op <| G_off rfl rfl rfl rfl rfl rfl ?_
      refine L_op <| G_off rfl rfl rfl rfl rfl rfl <| L_pur rfl (p_pick_f rfl rfl) <| nq <| C_false rfl <| J_skip <| qx <| ag rfl rfl ?_
      refine nq <| J_ret <| J_pick (A := coA p _) PC ?_
      refine J_asTo (B := coA p (kDec (k + 1) s i r v)) (by rw [kDec, hq]; simp only [haf]) ?_
      exact J_return (()) Tryz.results14 (.tmp rfl .nil) rfl SU
  ·
   refine x_alloc ty41 rfl fun b9 => i1 1 rfl <| x_call Tryz.func9 nm9 bd9 (.cons rfl .nil) rfl (coReqs) fun _ => i1 3 rfl <| x_call Tryz.func37 nm37 bd37 (.cons rfl (.cons rfl .nil)) rfl (coRqGet (s := s) (i := i) PC) fun _ => ?_
   refine ip 4 rfl rfl rfl rfl (p_move rfl) <| ip 5 rfl rfl rfl rfl (p_extract rfl rfl) <| ip 6 rfl rfl rfl rfl (p_extract rfl rfl) <| i1 8 rfl <| x_store rfl rfl ty41 rfl SM SM RO PT ?_
   refine ip 9 rfl rfl rfl rfl (p_assign rfl) <| i0 <| Q_then <| J_seq <| sr <| mv rfl rfl <| L_pur rfl (p_not rfl) <| nq ?_
   refine J_bool (t := 21) (c := false) rfl (by rw [hq]; rfl) <| C_false rfl <| J_skip <| Q_then <| J_seq <| J_drawL (some 3) mixed <| ip 0 rfl rfl rfl rfl (p_move rfl) <| iv 2 rfl rfl rfl rfl (fun _ => v_loadA rfl ty36 HS CT) ?_
   refine i1 1 rfl <| x_call Tryz.func9 nm9 bd9 (.cons rfl .nil) rfl (coReqs) fun _ => i1 3 rfl <| x_call Tryz.func38 nm38 bd38 (.cons rfl (.cons rfl .nil)) rfl (coRqDrop (s := s) (i := i) PC) fun _ => ?_
   refine i0 <| qx <| mv rfl rfl <| L_val rfl (v_loadA rfl ty36 HS CT) ?_
   refine L_op <| x_call Tryz.func39 nm39 bd39 (.cons rfl (.cons rfl .nil)) rfl (coForget (s := { s with rt := del s.rt i }) (i := i) PC hF1) fun _ => ?_
   refine nx <| mv rfl rfl <| L_val rfl (v_loadA rfl ty36 HS CT) ?_
   refine fa rfl rfl fa41_1 <| fa rfl rfl fa39_2 <| L_val rfl (v_load rfl ty37 HS (by exact rfl)) ?_
   refine fa rfl rfl fa41_1 <| fa rfl rfl fa39_0 <| L_val rfl (v_load rfl ty3 HS (by exact rfl)) ?_
   refine mv rfl rfl <| mv rfl rfl <| L_pur rfl (bld50 (.cons rfl (.cons rfl (.cons rfl (.cons rfl (.cons rfl .nil))))) (by repeat constructor)) <| J_slot (t := 39) (v := .agg (encD (i, q.e.tag, q.e.op, r, v, false)).toArray) rfl (by rw [hq]; rfl) <| L_op <| x_call Tryz.func40 nm40 bd40 (.cons rfl (.cons rfl .nil)) rfl (coTell (s := (kForget { s with rt := del s.rt i } i)) (d := (i, q.e.tag, q.e.op, r, v, false)) PC (hD k rfl) hn2 (hF1.forget i) hF.mm) fun _ => ?_
   refine nq <| J_seq <| J_seq <| J_drawL none mixed <| ip 0 rfl rfl rfl rfl (p_move rfl) <| iv 2 rfl rfl rfl rfl (fun _ => v_loadA rfl ty36 HS CT) ?_
   refine I_ready (rs := [1, 7]) SI (by kernel_rfl) (by simp) ?_
   refine (I_cons rfl ?_ (I_cons rfl ?_ I_nil))
   ·
    refine x_call Tryz.func9 nm9 bd9 (.cons rfl .nil) rfl (coReqs) fun _ => I_ready (rs := [3, 7]) SI (by kernel_rfl) (by simp) ?_
    refine (I_cons rfl ?_ (I_cons rfl ?_ I_nil))
    ·
     refine x_call Tryz.func41 nm41 bd41 (.cons rfl (.cons rfl .nil)) rfl (coRqAfter (s := (kTell (kDec k) (kForget { s with rt := del s.rt i } i) (i, q.e.tag, q.e.op, r, v, false))) (i := i) PC hF3.1.ids (by have := hF3.1.jn; have := hF3.1.mm; omega)) fun _ => ?_
     refine ip 4 rfl rfl rfl rfl (p_move rfl) <| ip 5 rfl rfl rfl rfl (p_extract rfl rfl) <| ip 6 rfl rfl rfl rfl (p_extract rfl rfl) <| i1 7 rfl <| x_alloc ty41 rfl fun b11 => i1 8 rfl <| x_store rfl rfl ty41 rfl SM SM RO PT ?_
     refine ip 9 rfl rfl rfl rfl (p_assign rfl) <| i0 <| qx <| mv rfl rfl <| mv rfl rfl ?_
     refine J_gsplit (t := 49) rfl (fun h49 => ?_) (fun h49 => ?_)
     ·
      obtain ⟨x, haf⟩ : ∃ x, afterQ (kTell (kDec k) (kForget { s with rt := del s.rt i } i) (i, q.e.tag, q.e.op, r, v, false)).rt i = some x := by
       cases hz : afterQ (kTell (kDec k) (kForget { s with rt := del s.rt i } i) (i, q.e.tag, q.e.op, r, v, false)).rt i with
       | none => rw [hz] at h49; simp at h49
       | some x => exact ⟨x, rfl⟩
      refine J_pick (A := blk b11 _ _) PC ?_
      refine J_asTo (B := blk b11 41 (encQ x)) (by rw [haf]; rfl) <| L_op <| G_on rfl rfl rfl <| J_pur (p_fieldAddr rfl fa41_3) rfl rfl rfl <| L_op <| G_on rfl rfl rfl <| J_val (v_load rfl ty4 HS (by exact rfl)) rfl rfl rfl ?_
      refine L_pur rfl (p_pick_t rfl rfl) <| mv rfl rfl ?_
      refine J_gsplit (t := 53) rfl (fun h53 => ?_) (fun h53 => ?_)
      ·
       refine L_op <| G_on rfl rfl rfl <| J_pur (p_move rfl) rfl rfl rfl <| L_op <| G_on rfl rfl rfl <| J_pur (p_lss rfl rfl) rfl rfl rfl <| L_pur rfl (p_pick_t rfl rfl) <| nq ?_
       refine C_dec rfl (fun h56 => ?_) (fun h56 => ?_)
       ·
        refine J_region <| mv rfl rfl <| fa rfl rfl fa41_0 <| L_val rfl (v_loadA rfl ty36 HS CT) ?_
        refine L_op <| x_call Tryz.func14 nm14 bd14 (.cons rfl (.cons rfl (.cons rfl (.cons rfl .nil)))) rfl (hD k rfl _ _ _ p (kTell (kDec k) (kForget { s with rt := del s.rt i } i) (i, q.e.tag, q.e.op, r, v, false)) x.id (-9) 0 PC (Nat.le_trans hF3.2 hn2) hF3.1) fun _ => ?_
        refine nx <| ag rfl rfl <| nq <| J_ret <| J_pick (A := coA p _) PC ?_
        refine J_asTo (B := coA p (kDec (k + 1) s i r v)) (by rw [kDec, hq]; simp only [haf]; rw [if_pos ⟨h53, h56⟩]) ?_
        exact J_return (()) Tryz.results14 (.tmp rfl .nil) rfl SU
       ·
        refine J_skip <| qx <| ag rfl rfl <| nq <| J_ret <| J_pick (A := coA p _) PC ?_
        refine J_asTo (B := coA p (kDec (k + 1) s i r v)) (by rw [kDec, hq]; simp only [haf]; rw [if_neg (by intro hc; simp_all)]) ?_
        exact J_return (()) Tryz.results14 (.tmp rfl .nil) rfl SU
      ·
       refine L_op <| G_off rfl rfl rfl rfl rfl rfl <| L_op <| G_off rfl rfl rfl rfl rfl rfl <| L_pur rfl (p_pick_f rfl rfl) <| nq <| C_false rfl <| J_skip ?_
       refine qx <| ag rfl rfl <| nq <| J_ret <| J_pick (A := coA p _) PC ?_
       refine J_asTo (B := coA p (kDec (k + 1) s i r v)) (by rw [kDec, hq]; simp only [haf]; rw [if_neg (by intro hc; simp_all)]) ?_
       exact J_return (()) Tryz.results14 (.tmp rfl .nil) rfl SU
     ·
      have haf : afterQ (kTell (kDec k) (kForget { s with rt := del s.rt i } i) (i, q.e.tag, q.e.op, r, v, false)).rt i = none := by
       cases hz : afterQ (kTell (kDec k) (kForget { s with rt := del s.rt i } i) (i, q.e.tag, q.e.op, r, v, false)).rt i with
       | none => rfl
       | some x => rw [hz] at h49; simp at h49
      refine L_op <| G_off rfl rfl rfl rfl rfl rfl <| L_op <| G_off rfl rfl rfl rfl rfl rfl <| L_pur rfl (p_pick_f rfl rfl) <| mv rfl rfl <| L_op <| G_off rfl rfl rfl rfl rfl rfl ?_
      refine L_op <| G_off rfl rfl rfl rfl rfl rfl <| L_pur rfl (p_pick_f rfl rfl) <| nq <| C_false rfl <| J_skip <| qx <| ag rfl rfl ?_
      refine nq <| J_ret <| J_pick (A := coA p _) PC ?_
      refine J_asTo (B := coA p (kDec (k + 1) s i r v)) (by rw [kDec, hq]; simp only [haf]) ?_
      exact J_return (()) Tryz.results14 (.tmp rfl .nil) rfl SU
    ·
     refine x_alloc ty41 rfl fun b11 => i1 3 rfl <| x_call Tryz.func41 nm41 bd41 (.cons rfl (.cons rfl .nil)) rfl (coRqAfter (s := (kTell (kDec k) (kForget { s with rt := del s.rt i } i) (i, q.e.tag, q.e.op, r, v, false))) (i := i) PC hF3.1.ids (by have := hF3.1.jn; have := hF3.1.mm; omega)) fun _ => ?_
     refine ip 4 rfl rfl rfl rfl (p_move rfl) <| ip 5 rfl rfl rfl rfl (p_extract rfl rfl) <| ip 6 rfl rfl rfl rfl (p_extract rfl rfl) <| i1 8 rfl <| x_store rfl rfl ty41 rfl SM SM RO PT ?_
     refine ip 9 rfl rfl rfl rfl (p_assign rfl) <| i0 <| qx <| mv rfl rfl <| mv rfl rfl ?_
     refine J_gsplit (t := 49) rfl (fun h49 => ?_) (fun h49 => ?_)
     ·
      obtain ⟨x, haf⟩ : ∃ x, afterQ (kTell (kDec k) (kForget { s with rt := del s.rt i } i) (i, q.e.tag, q.e.op, r, v, false)).rt i = some x := by
       cases hz : afterQ (kTell (kDec k) (kForget { s with rt := del s.rt i } i) (i, q.e.tag, q.e.op, r, v, false)).rt i with
       | none => rw [hz] at h49; simp at h49
       | some x => exact ⟨x, rfl⟩
      refine J_pick (A := blk b11 _ _) PC ?_
      refine J_asTo (B := blk b11 41 (encQ x)) (by rw [haf]; rfl) <| L_op <| G_on rfl rfl rfl <| J_pur (p_fieldAddr rfl fa41_3) rfl rfl rfl <| L_op <| G_on rfl rfl rfl <| J_val (v_load rfl ty4 HS (by exact rfl)) rfl rfl rfl ?_
      refine L_pur rfl (p_pick_t rfl rfl) <| mv rfl rfl ?_
      refine J_gsplit (t := 53) rfl (fun h53 => ?_) (fun h53 => ?_)
      ·
       refine L_op <| G_on rfl rfl rfl <| J_pur (p_move rfl) rfl rfl rfl <| L_op <| G_on rfl rfl rfl <| J_pur (p_lss rfl rfl) rfl rfl rfl <| L_pur rfl (p_pick_t rfl rfl) <| nq ?_
       refine C_dec rfl (fun h56 => ?_) (fun h56 => ?_)
       ·
        refine J_region <| mv rfl rfl <| fa rfl rfl fa41_0 <| L_val rfl (v_loadA rfl ty36 HS CT) ?_
        refine L_op <| x_call Tryz.func14 nm14 bd14 (.cons rfl (.cons rfl (.cons rfl (.cons rfl .nil)))) rfl (hD k rfl _ _ _ p (kTell (kDec k) (kForget { s with rt := del s.rt i } i) (i, q.e.tag, q.e.op, r, v, false)) x.id (-9) 0 PC (Nat.le_trans hF3.2 hn2) hF3.1) fun _ => ?_
        refine nx <| ag rfl rfl <| nq <| J_ret <| J_pick (A := coA p _) PC ?_
        refine J_asTo (B := coA p (kDec (k + 1) s i r v)) (by rw [kDec, hq]; simp only [haf]; rw [if_pos ⟨h53, h56⟩]) ?_
        exact J_return (()) Tryz.results14 (.tmp rfl .nil) rfl SU
       ·
        refine J_skip <| qx <| ag rfl rfl <| nq <| J_ret <| J_pick (A := coA p _) PC ?_
        refine J_asTo (B := coA p (kDec (k + 1) s i r v)) (by rw [kDec, hq]; simp only [haf]; rw [if_neg (by intro hc; simp_all)]) ?_
        exact J_return (()) Tryz.results14 (.tmp rfl .nil) rfl SU
      ·
       refine L_op <| G_off rfl rfl rfl rfl rfl rfl <| L_op <| G_off rfl rfl rfl rfl rfl rfl <| L_pur rfl (p_pick_f rfl rfl) <| nq <| C_false rfl <| J_skip ?_
       refine qx <| ag rfl rfl <| nq <| J_ret <| J_pick (A := coA p _) PC ?_
       refine J_asTo (B := coA p (kDec (k + 1) s i r v)) (by rw [kDec, hq]; simp only [haf]; rw [if_neg (by intro hc; simp_all)]) ?_
       exact J_return (()) Tryz.results14 (.tmp rfl .nil) rfl SU
     ·
      have haf : afterQ (kTell (kDec k) (kForget { s with rt := del s.rt i } i) (i, q.e.tag, q.e.op, r, v, false)).rt i = none := by
       cases hz : afterQ (kTell (kDec k) (kForget { s with rt := del s.rt i } i) (i, q.e.tag, q.e.op, r, v, false)).rt i with
       | none => rfl
       | some x => rw [hz] at h49; simp at h49
      refine L_op <| G_off rfl rfl rfl rfl rfl rfl <| L_op <| G_off rfl rfl rfl rfl rfl rfl <| L_pur rfl (p_pick_f rfl rfl) <| mv rfl rfl <| L_op <| G_off rfl rfl rfl rfl rfl rfl ?_
      refine L_op <| G_off rfl rfl rfl rfl rfl rfl <| L_pur rfl (p_pick_f rfl rfl) <| nq <| C_false rfl <| J_skip <| qx <| ag rfl rfl ?_
      refine nq <| J_ret <| J_pick (A := coA p _) PC ?_
      refine J_asTo (B := coA p (kDec (k + 1) s i r v)) (by rw [kDec, hq]; simp only [haf]) ?_
      exact J_return (()) Tryz.results14 (.tmp rfl .nil) rfl SU
   ·
    refine x_alloc ty41 rfl fun b11 => i1 1 rfl <| x_call Tryz.func9 nm9 bd9 (.cons rfl .nil) rfl (coReqs) fun _ => i1 3 rfl <| x_call Tryz.func41 nm41 bd41 (.cons rfl (.cons rfl .nil)) rfl (coRqAfter (s := (kTell (kDec k) (kForget { s with rt := del s.rt i } i) (i, q.e.tag, q.e.op, r, v, false))) (i := i) PC hF3.1.ids (by have := hF3.1.jn; have := hF3.1.mm; omega)) fun _ => ?_
    refine ip 4 rfl rfl rfl rfl (p_move rfl) <| ip 5 rfl rfl rfl rfl (p_extract rfl rfl) <| ip 6 rfl rfl rfl rfl (p_extract rfl rfl) <| i1 8 rfl <| x_store rfl rfl ty41 rfl SM SM RO PT ?_
    refine ip 9 rfl rfl rfl rfl (p_assign rfl) <| i0 <| qx <| mv rfl rfl <| mv rfl rfl ?_
    refine J_gsplit (t := 49) rfl (fun h49 => ?_) (fun h49 => ?_)
    ·
     obtain ⟨x, haf⟩ : ∃ x, afterQ (kTell (kDec k) (kForget { s with rt := del s.rt i } i) (i, q.e.tag, q.e.op, r, v, false)).rt i = some x := by
      cases hz : afterQ (kTell (kDec k) (kForget { s with rt := del s.rt i } i) (i, q.e.tag, q.e.op, r, v, false)).rt i with
      | none => rw [hz] at h49; simp at h49
      | some x => exact ⟨x, rfl⟩
     refine J_pick (A := blk b11 _ _) PC ?_
     refine J_asTo (B := blk b11 41 (encQ x)) (by rw [haf]; rfl) <| L_op <| G_on rfl rfl rfl <| J_pur (p_fieldAddr rfl fa41_3) rfl rfl rfl <| L_op <| G_on rfl rfl rfl <| J_val (v_load rfl ty4 HS (by exact rfl)) rfl rfl rfl ?_
     refine L_pur rfl (p_pick_t rfl rfl) <| mv rfl rfl ?_
     refine J_gsplit (t := 53) rfl (fun h53 => ?_) (fun h53 => ?_)
     ·
      refine L_op <| G_on rfl rfl rfl <| J_pur (p_move rfl) rfl rfl rfl <| L_op <| G_on rfl rfl rfl <| J_pur (p_lss rfl rfl) rfl rfl rfl <| L_pur rfl (p_pick_t rfl rfl) <| nq ?_
      refine C_dec rfl (fun h56 => ?_) (fun h56 => ?_)
      ·
       refine J_region <| mv rfl rfl <| fa rfl rfl fa41_0 <| L_val rfl (v_loadA rfl ty36 HS CT) ?_
       refine L_op <| x_call Tryz.func14 nm14 bd14 (.cons rfl (.cons rfl (.cons rfl (.cons rfl .nil)))) rfl (hD k rfl _ _ _ p (kTell (kDec k) (kForget { s with rt := del s.rt i } i) (i, q.e.tag, q.e.op, r, v, false)) x.id (-9) 0 PC (Nat.le_trans hF3.2 hn2) hF3.1) fun _ => ?_
       refine nx <| ag rfl rfl <| nq <| J_ret <| J_pick (A := coA p _) PC ?_
       refine J_asTo (B := coA p (kDec (k + 1) s i r v)) (by rw [kDec, hq]; simp only [haf]; rw [if_pos ⟨h53, h56⟩]) ?_
       exact J_return (()) Tryz.results14 (.tmp rfl .nil) rfl SU
      ·
       refine J_skip <| qx <| ag rfl rfl <| nq <| J_ret <| J_pick (A := coA p _) PC ?_
       refine J_asTo (B := coA p (kDec (k + 1) s i r v)) (by rw [kDec, hq]; simp only [haf]; rw [if_neg (by intro hc; simp_all)]) ?_
       exact J_return (()) Tryz.results14 (.tmp rfl .nil) rfl SU
     ·
      refine L_op <| G_off rfl rfl rfl rfl rfl rfl <| L_op <| G_off rfl rfl rfl rfl rfl rfl <| L_pur rfl (p_pick_f rfl rfl) <| nq <| C_false rfl <| J_skip ?_
      refine qx <| ag rfl rfl <| nq <| J_ret <| J_pick (A := coA p _) PC ?_
      refine J_asTo (B := coA p (kDec (k + 1) s i r v)) (by rw [kDec, hq]; simp only [haf]; rw [if_neg (by intro hc; simp_all)]) ?_
      exact J_return (()) Tryz.results14 (.tmp rfl .nil) rfl SU
    ·
     have haf : afterQ (kTell (kDec k) (kForget { s with rt := del s.rt i } i) (i, q.e.tag, q.e.op, r, v, false)).rt i = none := by
      cases hz : afterQ (kTell (kDec k) (kForget { s with rt := del s.rt i } i) (i, q.e.tag, q.e.op, r, v, false)).rt i with
      | none => rfl
      | some x => rw [hz] at h49; simp at h49
     refine L_op <| G_off rfl rfl rfl rfl rfl rfl <| L_op <| G_off rfl rfl rfl rfl rfl rfl <| L_pur rfl (p_pick_f rfl rfl) <| mv rfl rfl <| L_op <| G_off rfl rfl rfl rfl rfl rfl ?_
     refine L_op <| G_off rfl rfl rfl rfl rfl rfl <| L_pur rfl (p_pick_f rfl rfl) <| nq <| C_false rfl <| J_skip <| qx <| ag rfl rfl ?_
     refine nq <| J_ret <| J_pick (A := coA p _) PC ?_
     refine J_asTo (B := coA p (kDec (k + 1) s i r v)) (by rw [kDec, hq]; simp only [haf]) ?_
     exact J_return (()) Tryz.results14 (.tmp rfl .nil) rfl SU

theorem decC : ∀ n N M, DecC n N M
  | 0, N, M => fun E l m p s i r v hp hn hF => coDecStep hp (fun k h => by cases h) hn hF
  | n + 1, N, M => fun E l m p s i r v hp hn hF => coDecStep hp (fun k h => by cases h; exact decC n N M) hn hF
/-- Decide. -/
theorem coDecide {E : World} {l m : List As} {p : Nat} {s : KS} (hp : Pick (coA p s) l m) {N M : Nat} {i : ID} {r v : Int} (hF : Fits s N M) : Con Tryz.prog 14 #[.pointer (some ⟨p, 0, none⟩), .agg (encI i).toArray, .int .i64 r, .int .u32 v] E l (fun _ : Unit => .bool (look s.rt i).isSome) (fun _ => coA p (kDec s.rt.length s i r v) :: m) := decC s.rt.length N M E l m p s i r v hp (Nat.le_refl _) hF
end Go.Pse
