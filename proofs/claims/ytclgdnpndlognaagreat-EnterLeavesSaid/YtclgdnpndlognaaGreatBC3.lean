/-
  Own texts, merged: C25, C26, C27, Arg, C28, C29, C30, C31, C92, C32, C33, C34, InvP, C50, C14, C51, C52, C53, C60, C61, C62, C63, C64, C65, C66, C67, C68, C69, C70, C71, C72, C73, C54, C74a, C75.
-/
import Derived.Test.YtclgdnpndlognaaGreatBC2
import Derived.Test.YtclgdnpndlognaaGreatBC0
import Derived.Deep.Slices
import Derived.ChangeSame
import Derived.Carry
set_option linter.unusedVariables false
set_option linter.unusedSimpArgs false
set_option maxRecDepth 100000
set_option maxHeartbeats 4000000
namespace Go.Pse
open Go.RowKit Go.Proofs
theorem coForget {E : World} {l m : List As}{p : Nat} {s : KS} (hp : Pick (coA p s) l m) {i : ID} {N M : Nat} (hF : Fits s N M) :
  Con Tryz.prog 120 #[.pointer (some ⟨p, 0, none⟩), .agg (encI i).toArray] E l (fun _ : Unit => .tuple #[]) (fun _ => coA p (kForget s i) :: m) := by
 refine Con.body (vs := [.pointer (some ⟨p, 0, none⟩), .agg (encI i).toArray]) (n := 40) Tryz.func120 rfl rfl [(0, .pointer (some ⟨p, 0, none⟩)), (1, .agg (encI i).toArray)] (env_ok 2 rfl) <| J_pick hp <| sr <| L_op <| x_box rfl rfl rfl fun b3 => nq <| J_seq <| J_drawL (some 3) mixed ?_
 refine ip 0 rfl rfl rfl rfl (p_move rfl) <| iv 2 rfl rfl rfl rfl (fun _ => v_loadA rfl ty36 HS CT) ?_
 refine i1 1 rfl <| xc fc62 (.cons rfl .nil) rfl (coTimers) fun _ => i1 3 rfl <| xc fc168 (.cons rfl (.cons rfl .nil)) rfl (coTmDrop (s := s) (i := i) PC (by have := hF.tm; have := hF.n; omega)) fun _ => ?_
 refine J_pick (A := coA p _) PC ?_
 refine J_asTo (B := coA p (forTo s i ((1 : Nat) : Int))) (by rw [show ((1 : Nat) : Int) = 1 from rfl, forTo_one hF]) <| i0 <| qx <| ag rfl rfl <| nq <| J_block <| J_loop (α := Nat) (fun k => 1 ≤ k ∧ k ≤ 65) (fun k => coA p (forTo s i (k : Int)) :: blk b3 36 (encI i) :: m) (fun k => [(4, .int .i64 (k : Int)), (0, .pointer (some ⟨p, 0, none⟩)), (3, .pointer (some ⟨b3, 0, none⟩))]) (fun k => 65 - k) 1 (by omega) SU KE ?_
 intro k hk
 refine J_seq <| sr <| mv rfl rfl <| L_pur rfl (p_leq rfl rfl) <| nq ?_
 refine C_dec rfl (fun h13 => ?_) (fun h13 => ?_)
 have hF2 := hF.forTo i (k : Int)
 have hNN := hF.n
 refine J_skip <| Q_then <| J_seq <| J_block ?_
 refine J_cut (α := Unit) (fun _ : Unit => coA p { forTo s i (k : Int) with ep := mapTo (epD i) ((k : Int) + 1) s.ep } :: blk b3 36 (encI i) :: m) (fun _ : Unit => [(4, .int .i64 (k : Int)), (0, .pointer (some ⟨p, 0, none⟩)), (3, .pointer (some ⟨b3, 0, none⟩))]) ?_ ?_
 refine sr <| mv rfl rfl <| mv rfl rfl <| L_op <| xc fc60 (.cons rfl (.cons rfl .nil)) rfl (coEp (s := (forTo s i (k : Int))) (u := (k : Int)) PC) fun _ => ?_
 refine J_slot (t := 18) (v := .pointer ((look (ptrs (KS.ep (forTo s i (k : Int)))) (k : Int)).map fun b => ⟨b, 0, none⟩)) rfl rfl <| ag rfl rfl <| nx <| mv rfl rfl <| L_pur rfl (p_neNilPtr Tryz.underlying112 rfl) <| nq ?_
 refine C_split rfl (fun h20 => ?_) (fun h20 => ?_)
 obtain ⟨b, hb⟩ : ∃ b, look (ptrs (KS.ep (forTo s i (k : Int)))) (k : Int) = some b := by
  cases hq : look (ptrs (KS.ep (forTo s i (k : Int)))) (k : Int) with
  | none => rw [hq] at h20; simp at h20
  | some b => exact ⟨b, rfl⟩
 obtain ⟨⟨ob1, ob2⟩, hob⟩ := look_got hb
 have hb1 : ob1.length ≤ N := (hF2.ep _ (mem_look hob)).2.1
 have hb2 : ob2.length ≤ N := (hF2.ep _ (mem_look hob)).2.2
 refine J_region <| mv rfl rfl <| J_slot (t := 21) (v := .pointer (some ⟨b, 0, none⟩)) rfl (by rw [hb]; rfl) <| L_val rfl (v_loadA rfl ty36 HS CT) ?_
 refine L_op <| xc fc169 (.cons rfl (.cons rfl .nil)) rfl (coEpDrop (s := (forTo s i (k : Int))) (u := (k : Int)) PC hob (by omega) (by omega)) fun _ => ?_
 refine nq <| J_pick (A := coA p _) PC ?_
 refine J_asTo (B := coA p { forTo s i (k : Int) with ep := mapTo (epD i) ((k : Int) + 1) s.ep }) (by unfold forTo; simp only [mapTo_up]) ?_
 exact J_at (L := (fun _ : Unit => coA p { forTo s i (k : Int) with ep := mapTo (epD i) ((k : Int) + 1) s.ep } :: blk b3 36 (encI i) :: m)) (G := (fun _ : Unit => [(4, .int .i64 (k : Int)), (0, .pointer (some ⟨p, 0, none⟩)), (3, .pointer (some ⟨b3, 0, none⟩))])) () SU KE
 have hno : look (ptrs s.ep) (k : Int) = none := by
  rw [← ptrs_mapTo (f := epD i) (k := (k : Int))]
  cases hq : look (ptrs (mapTo (epD i) (k : Int) s.ep)) (k : Int) with
  | none => rfl
  | some b => rw [show look (ptrs (KS.ep (forTo s i (k : Int)))) (k : Int) = _ from hq] at h20; simp at h20
 refine J_skip <| Q_then <| J_pick (A := coA p _) PC ?_
 refine J_asTo (B := coA p { forTo s i (k : Int) with ep := mapTo (epD i) ((k : Int) + 1) s.ep }) (by unfold forTo; simp only [mapTo_no (f := epD i) hno]) ?_
 exact J_at (L := (fun _ : Unit => coA p { forTo s i (k : Int) with ep := mapTo (epD i) ((k : Int) + 1) s.ep } :: blk b3 36 (encI i) :: m)) (G := (fun _ : Unit => [(4, .int .i64 (k : Int)), (0, .pointer (some ⟨p, 0, none⟩)), (3, .pointer (some ⟨b3, 0, none⟩))])) () SU KE
 intro _
 refine J_cut (α := Unit) (fun _ : Unit => coA p { forTo s i (k : Int) with ep := mapTo (epD i) ((k : Int) + 1) s.ep, nt := mapTo (ntD i) ((k : Int) + 1) s.nt } :: blk b3 36 (encI i) :: m) (fun _ : Unit => [(4, .int .i64 (k : Int)), (0, .pointer (some ⟨p, 0, none⟩)), (3, .pointer (some ⟨b3, 0, none⟩))]) ?_ ?_
 refine sr <| mv rfl rfl <| mv rfl rfl <| L_op <| xc fc170 (.cons rfl (.cons rfl .nil)) rfl (coNotif (s := { forTo s i (k : Int) with ep := mapTo (epD i) ((k : Int) + 1) s.ep }) (u := (k : Int)) PC) fun _ => ?_
 refine J_slot (t := 26) (v := .pointer ((look (ptrs (KS.nt { forTo s i (k : Int) with ep := mapTo (epD i) ((k : Int) + 1) s.ep })) (k : Int)).map fun b => ⟨b, 0, none⟩)) rfl rfl <| ag rfl rfl <| nx <| mv rfl rfl <| L_pur rfl (p_neNilPtr Tryz.underlying223 rfl) <| nq ?_
 refine C_split rfl (fun h28 => ?_) (fun h28 => ?_)
 obtain ⟨b, hb⟩ : ∃ b, look (ptrs (KS.nt { forTo s i (k : Int) with ep := mapTo (epD i) ((k : Int) + 1) s.ep })) (k : Int) = some b := by
  cases hq : look (ptrs (KS.nt { forTo s i (k : Int) with ep := mapTo (epD i) ((k : Int) + 1) s.ep })) (k : Int) with
  | none => rw [hq] at h28; simp at h28
  | some b => exact ⟨b, rfl⟩
 obtain ⟨⟨ob1, ob2⟩, hob⟩ := look_got hb
 have hb2 : ob2.length ≤ N := (hF2.nt _ (mem_look hob)).2
 refine J_region <| mv rfl rfl <| J_slot (t := 29) (v := .pointer (some ⟨b, 0, none⟩)) rfl (by rw [hb]; rfl) <| L_val rfl (v_loadA rfl ty36 HS CT) ?_
 refine L_op <| xc fc171 (.cons rfl (.cons rfl .nil)) rfl (coNtDrop (s := { forTo s i (k : Int) with ep := mapTo (epD i) ((k : Int) + 1) s.ep }) (u := (k : Int)) PC hob (by omega)) fun _ => ?_
 refine nq <| J_pick (A := coA p _) PC ?_
 refine J_asTo (B := coA p { forTo s i (k : Int) with ep := mapTo (epD i) ((k : Int) + 1) s.ep, nt := mapTo (ntD i) ((k : Int) + 1) s.nt }) (by unfold forTo; simp only [mapTo_up]) ?_
 exact J_at (L := (fun _ : Unit => coA p { forTo s i (k : Int) with ep := mapTo (epD i) ((k : Int) + 1) s.ep, nt := mapTo (ntD i) ((k : Int) + 1) s.nt } :: blk b3 36 (encI i) :: m)) (G := (fun _ : Unit => [(4, .int .i64 (k : Int)), (0, .pointer (some ⟨p, 0, none⟩)), (3, .pointer (some ⟨b3, 0, none⟩))])) () SU KE
 have hno : look (ptrs s.nt) (k : Int) = none := by
  rw [← ptrs_mapTo (f := ntD i) (k := (k : Int))]
  cases hq : look (ptrs (mapTo (ntD i) (k : Int) s.nt)) (k : Int) with
  | none => rfl
  | some b => rw [show look (ptrs (KS.nt { forTo s i (k : Int) with ep := mapTo (epD i) ((k : Int) + 1) s.ep })) (k : Int) = _ from hq] at h28; simp at h28
 refine J_skip <| Q_then <| J_pick (A := coA p _) PC ?_
 refine J_asTo (B := coA p { forTo s i (k : Int) with ep := mapTo (epD i) ((k : Int) + 1) s.ep, nt := mapTo (ntD i) ((k : Int) + 1) s.nt }) (by unfold forTo; simp only [mapTo_no (f := ntD i) hno]) ?_
 exact J_at (L := (fun _ : Unit => coA p { forTo s i (k : Int) with ep := mapTo (epD i) ((k : Int) + 1) s.ep, nt := mapTo (ntD i) ((k : Int) + 1) s.nt } :: blk b3 36 (encI i) :: m)) (G := (fun _ : Unit => [(4, .int .i64 (k : Int)), (0, .pointer (some ⟨p, 0, none⟩)), (3, .pointer (some ⟨b3, 0, none⟩))])) () SU KE
 intro _
 refine sr <| mv rfl rfl <| mv rfl rfl <| L_op <| xc fc172 (.cons rfl (.cons rfl .nil)) rfl (coReply (s := { forTo s i (k : Int) with ep := mapTo (epD i) ((k : Int) + 1) s.ep, nt := mapTo (ntD i) ((k : Int) + 1) s.nt }) (u := (k : Int)) PC) fun _ => ?_
 refine J_slot (t := 34) (v := .pointer ((look (ptrs (KS.rp { forTo s i (k : Int) with ep := mapTo (epD i) ((k : Int) + 1) s.ep, nt := mapTo (ntD i) ((k : Int) + 1) s.nt })) (k : Int)).map fun b => ⟨b, 0, none⟩)) rfl rfl <| ag rfl rfl <| nx <| mv rfl rfl <| L_pur rfl (p_neNilPtr Tryz.underlying241 rfl) <| nq ?_
 refine C_split rfl (fun h36 => ?_) (fun h36 => ?_)
 obtain ⟨b, hb⟩ : ∃ b, look (ptrs (KS.rp { forTo s i (k : Int) with ep := mapTo (epD i) ((k : Int) + 1) s.ep, nt := mapTo (ntD i) ((k : Int) + 1) s.nt })) (k : Int) = some b := by
  cases hq : look (ptrs (KS.rp { forTo s i (k : Int) with ep := mapTo (epD i) ((k : Int) + 1) s.ep, nt := mapTo (ntD i) ((k : Int) + 1) s.nt })) (k : Int) with
  | none => rw [hq] at h36; simp at h36
  | some b => exact ⟨b, rfl⟩
 obtain ⟨ob, hob⟩ := look_got hb
 refine J_region <| mv rfl rfl <| J_slot (t := 37) (v := .pointer (some ⟨b, 0, none⟩)) rfl (by rw [hb]; rfl) <| L_val rfl (v_loadA rfl ty36 HS CT) ?_
 refine L_op <| xc fc173 (.cons rfl (.cons rfl .nil)) rfl (coRpDrop (s := { forTo s i (k : Int) with ep := mapTo (epD i) ((k : Int) + 1) s.ep, nt := mapTo (ntD i) ((k : Int) + 1) s.nt }) (u := (k : Int)) PC hob) fun _ => ?_
 refine L_nil <| Q_blk_normal <| qr <| mv rfl rfl <| L_pur rfl (p_add64 rfl rfl (by omega)) <| ag rfl rfl <| nq <| J_pick (A := coA p _) PC ?_
 refine J_asTo (B := coA p (forTo s i ((k + 1 : Nat) : Int))) (by unfold forTo; simp only [mapTo_up]; push_cast; rfl) ?_
 exact J_again (k + 1) (by omega) (by omega) SU KE
 have hno : look (ptrs s.rp) (k : Int) = none := by
  rw [← ptrs_mapTo (f := rpD i) (k := (k : Int))]
  cases hq : look (ptrs (mapTo (rpD i) (k : Int) s.rp)) (k : Int) with
  | none => rfl
  | some b => rw [show look (ptrs (KS.rp { forTo s i (k : Int) with ep := mapTo (epD i) ((k : Int) + 1) s.ep, nt := mapTo (ntD i) ((k : Int) + 1) s.nt })) (k : Int) = _ from hq] at h36; simp at h36
 refine J_skip <| Q_blk_normal <| qr <| mv rfl rfl <| L_pur rfl (p_add64 rfl rfl (by omega)) <| ag rfl rfl <| nq <| J_pick (A := coA p _) PC ?_
 refine J_asTo (B := coA p (forTo s i ((k + 1 : Nat) : Int))) (by unfold forTo; simp only [mapTo_no (f := rpD i) hno]; push_cast; rfl) ?_
 exact J_again (k + 1) (by omega) (by omega) SU KE
 have hk65 : k = 65 := by omega
 subst hk65
 refine J_pick (A := coA p _) PC ?_
 refine J_asTo (B := coA p (kForget s i)) (by rw [show ((65 : Nat) : Int) = 65 from rfl, forTo_all hF]) <| J_exit <| Q_then_exit <| Q_then_exit <| Q_blk_this <| J_endnormal ?_
 exact J_return (()) Tryz.results120 .nil rfl SU
end Go.Pse
namespace Go.Pse
open Go.RowKit Go.Proofs
/-! ### plain: an end is told; a request ends -/
def kBell (s : KS) (g : Int) : Int × Int := (look s.be g).getD (0, 0)
def kPost (s : KS) (d : Deed) : KS := match look s.rg d.1.1 with
  | none => s
  | some (_, r) => { s with rg := updO s.rg d.1.1 (fun r => postR r s.mem (ofD d)), mem := postM r s.mem (ofD d) }
def kSaid (s : KS) (d : Deed) : KS := kPost { s with jn := s.jn ++ [d] } d
def kRung (s : KS) (g : Int) : KS := { s with nt := updO s.nt (kBell s g).1 (ntS (kBell s g).2) }
def kTell (D : KS → ID → Int → Int → KS) (s : KS) (d : Deed) : KS := match look (kSaid s d).nt (kBell (kSaid s d) d.1.1).1 with
  | none => kSaid s d
  | some (_, w, xs) => if woke w xs (kBell (kSaid s d) d.1.1).2 then D (kRung (kSaid s d) d.1.1) (sigI w xs (kBell (kSaid s d) d.1.1).2) 0 (sigV w xs (kBell (kSaid s d) d.1.1).2) else kRung (kSaid s d) d.1.1
def kDec : Nat → KS → ID → Int → Int → KS
  | 0, s, _, _, _ => s
  | n + 1, s, i, r, v => match look s.rt i with
    | none => s
    | some q => match afterQ (kTell (kDec n) (kForget { s with rt := del s.rt i } i) (i, q.e.tag, q.e.op, r, v, false)).rt i with
      | none => kTell (kDec n) (kForget { s with rt := del s.rt i } i) (i, q.e.tag, q.e.op, r, v, false)
      | some x => if x.soft = true ∧ r < 0 then kDec n (kTell (kDec n) (kForget { s with rt := del s.rt i } i) (i, q.e.tag, q.e.op, r, v, false)) x.id (-9) 0 else kTell (kDec n) (kForget { s with rt := del s.rt i } i) (i, q.e.tag, q.e.op, r, v, false)
theorem kDec_none {n : Nat} {s : KS} {i : ID} {r v : Int} (h : look s.rt i = none) : kDec n s i r v = s := by
  cases n with
  | zero => rfl
  | succ n => rw [kDec, h]
theorem kPost_rt {s : KS} {d : Deed} : (kPost s d).rt = s.rt := by unfold kPost; split <;> rfl
theorem kSaid_rt {s : KS} {d : Deed} : (kSaid s d).rt = s.rt := by unfold kSaid; rw [kPost_rt]
theorem Fits.said {s : KS} {N M : Nat} (h : Fits s N M) (hm : M + 1 ≤ 90000) (d : Deed) : Fits (kSaid s d) N (M + 1) := by
  unfold kSaid kPost
  split
  · exact h.jnl hm d
  · rename_i b r hl
    have hr := h.rg _ (mem_look hl)
    refine ⟨h.n, hm, h.ids, ?_, h.tm, h.ep, h.nt, h.rp, fun x hx => ?_, postM_ok hr.1 h.mem _⟩
    · have := h.jn
      show (s.jn ++ [d]).length + s.rt.length ≤ M + 1
      simp; omega
    · obtain ⟨y, hy, h1, h2⟩ := updO_mem (show x ∈ updO s.rg d.1.1 (fun r => postR r s.mem (ofD d)) from hx)
      obtain ⟨g1, g2⟩ := h.rg y hy
      rcases h2 with h2 | h2 <;> rw [h2]
      · exact ⟨g1, by show _ + s.rt.length ≤ _; omega⟩
      · refine ⟨postR_ok g1 _, ?_⟩
        have : (postR y.2.2 s.mem (ofD d)).over.length ≤ y.2.2.over.length + 1 := by unfold postR; split <;> simp [Go.Pse.rgUp]
        show _ + s.rt.length ≤ _
        omega
theorem Fits.tell {D : KS → ID → Int → Int → KS} {N M : Nat} (hD : ∀ s i r v, Fits s N (M + 1) → Fits (D s i r v) N (M + 1) ∧ (D s i r v).rt.length ≤ s.rt.length) {s : KS} (h : Fits s N M) (hm : M + 1 ≤ 90000) (d : Deed) : Fits (kTell D s d) N (M + 1) ∧ (kTell D s d).rt.length ≤ s.rt.length := by
  have h1 := h.said hm d
  unfold kTell
  split
  · exact ⟨h1, by rw [kSaid_rt]; exact Nat.le_refl _⟩
  · split
    · exact ⟨(hD _ _ _ _ (h1.sig _ _)).1, Nat.le_trans (hD _ _ _ _ (h1.sig _ _)).2 (by show (kSaid s d).rt.length ≤ _; rw [kSaid_rt]; exact Nat.le_refl _)⟩
    · exact ⟨h1.sig _ _, by show (kSaid s d).rt.length ≤ _; rw [kSaid_rt]; exact Nat.le_refl _⟩
theorem Fits.dec {N : Nat} : ∀ n {M : Nat} {s : KS} {i : ID} {r v : Int}, Fits s N M → Fits (kDec n s i r v) N M ∧ (kDec n s i r v).rt.length ≤ s.rt.length
  | 0, _, _, _, _, _, h => ⟨h, Nat.le_refl _⟩
  | n + 1, M, s, i, r, v, h => by
    rw [kDec]
    split
    · exact ⟨h, Nat.le_refl _⟩
    · rename_i q hq
      have hl := del_less hq
      obtain ⟨M, rfl⟩ : ∃ M', M = M' + 1 := ⟨M - 1, by have := h.jn; omega⟩
      have h1 := ((h.drop hq).forget i).tell (D := kDec n) (fun s i r v h => Fits.dec n h) h.mm (i, q.e.tag, q.e.op, r, v, false)
      have h2 : (kTell (kDec n) (kForget { s with rt := del s.rt i } i) (i, q.e.tag, q.e.op, r, v, false)).rt.length ≤ s.rt.length := Nat.le_trans h1.2 (by show (del s.rt i).length ≤ _; omega)
      split
      · exact ⟨h1.1, h2⟩
      · split
        · exact ⟨(Fits.dec n h1.1).1, Nat.le_trans (Fits.dec n h1.1).2 h2⟩
        · exact ⟨h1.1, h2⟩
def DecC (n N M : Nat) : Prop := ∀ (E : World) (l m : List As) (p : Nat) (s : KS) (i : ID) (r v : Int), Pick (coA p s) l m → s.rt.length ≤ n → Fits s N M →
  Con Tryz.prog 72 #[.pointer (some ⟨p, 0, none⟩), .agg (encI i).toArray, .int .i64 r, .int .u32 v] E l (fun _ : Unit => .bool (look s.rt i).isSome) (fun _ => coA p (kDec n s i r v) :: m)
theorem coTell {E : World} {l m : List As}{p : Nat} {s : KS} (hp : Pick (coA p s) l m) {n N M : Nat} (hD : DecC n N (M + 1)) {d : Deed} (hn : s.rt.length ≤ n) (hF : Fits s N M) (hm : M + 1 ≤ 90000) :
  Con Tryz.prog 121 #[.pointer (some ⟨p, 0, none⟩), .agg (encD d).toArray] E l (fun _ : Unit => .tuple #[]) (fun _ => coA p (kTell (kDec n) s d) :: m) := by
 refine Con.body (vs := [.pointer (some ⟨p, 0, none⟩), .agg (encD d).toArray]) (n := 51) Tryz.func121 rfl rfl [(0, .pointer (some ⟨p, 0, none⟩)), (1, .agg (encD d).toArray)] (env_ok 2 rfl) <| J_pick hp <| sr <| L_op <| x_box rfl rfl rfl fun b3 => nq <| J_seq <| J_drawL (some 3) mixed ?_
 refine ip 0 rfl rfl rfl rfl (p_move rfl) <| iv 2 rfl rfl rfl rfl (fun _ => v_loadA rfl ty45 HS CT) ?_
 refine i1 1 rfl <| xc fc17 (.cons rfl .nil) rfl (coJournal) fun _ => i1 3 rfl <| xc fc174 (.cons rfl (.cons rfl .nil)) rfl (coJAdd (s := s) (d := d) PC (by have := hF.jn; omega)) fun _ => ?_
 refine i0 <| Q_then ?_
 refine J_cut (α := Unit) (fun _ : Unit => coA p (kSaid s d) :: blk b3 45 (encD d) :: m) (fun _ : Unit => [(0, .pointer (some ⟨p, 0, none⟩)), (3, .pointer (some ⟨b3, 0, none⟩))]) ?_ ?_
 refine sr <| mv rfl rfl <| fa rfl rfl fa45_0 <| fa rfl rfl fa36_0 <| L_val rfl (v_load rfl ty3 HS (by exact rfl)) ?_
 refine L_op <| xc fc43 (.cons rfl (.cons rfl .nil)) rfl (coRing (s := { s with jn := s.jn ++ [d] }) (u := d.1.1) PC) fun _ => ?_
 refine J_slot (t := 19) (v := .pointer ((look (ptrs s.rg) d.1.1).map fun b => ⟨b, 0, none⟩)) rfl rfl <| ag rfl rfl <| nx <| mv rfl rfl <| L_pur rfl (p_neNilPtr Tryz.underlying80 rfl) <| nq ?_
 refine C_split rfl (fun h21 => ?_) (fun h21 => ?_)
 obtain ⟨b, hb⟩ : ∃ b, look (ptrs s.rg) d.1.1 = some b := by
  cases hq : look (ptrs s.rg) d.1.1 with
  | none => rw [hq] at h21; simp at h21
  | some b => exact ⟨b, rfl⟩
 obtain ⟨r, hr⟩ := look_got hb
 obtain ⟨hro, hrl⟩ : RgOk r ∧ r.over.length + s.rt.length ≤ M := hF.rg _ (mem_look hr)
 refine J_region <| mv rfl rfl <| J_slot (t := 22) (v := .pointer (some ⟨b, 0, none⟩)) rfl (by rw [hb]; rfl) <| L_val rfl (v_loadA rfl ty45 HS CT) ?_
 refine L_op <| xc fc176 (.cons rfl .nil) rfl (compOfC (d := d)) fun _ => L_op <| xc fc175 (.cons rfl (.cons rfl .nil)) rfl (coPost (s := { s with jn := s.jn ++ [d] }) (u := d.1.1) (r := r) (c := ofD d) PC hr (by omega) hro hF.mem) fun _ => ?_
 refine nq <| J_pick (A := coA p _) PC ?_
 refine J_asTo (B := coA p (kSaid s d)) (by unfold kSaid kPost; rw [show look (KS.rg { s with jn := s.jn ++ [d] }) d.1.1 = _ from hr]) ?_
 exact J_at (L := (fun _ : Unit => coA p (kSaid s d) :: blk b3 45 (encD d) :: m)) (G := (fun _ : Unit => [(0, .pointer (some ⟨p, 0, none⟩)), (3, .pointer (some ⟨b3, 0, none⟩))])) () SU KE
 have hrn : look s.rg d.1.1 = none := by
  cases hq : look s.rg d.1.1 with
  | none => rfl
  | some y => rw [look_ptrs, hq] at h21; simp at h21
 refine J_skip <| Q_then <| J_pick (A := coA p _) PC ?_
 refine J_asTo (B := coA p (kSaid s d)) (by unfold kSaid kPost; rw [show look (KS.rg { s with jn := s.jn ++ [d] }) d.1.1 = _ from hrn]) ?_
 exact J_at (L := (fun _ : Unit => coA p (kSaid s d) :: blk b3 45 (encD d) :: m)) (G := (fun _ : Unit => [(0, .pointer (some ⟨p, 0, none⟩)), (3, .pointer (some ⟨b3, 0, none⟩))])) () SU KE
 intro _
 have hF2 := hF.said hm d
 refine sr <| mv rfl rfl <| fa rfl rfl fa45_0 <| fa rfl rfl fa36_0 <| L_val rfl (v_load rfl ty3 HS (by exact rfl)) ?_
 refine L_op <| xc fc177 (.cons rfl (.cons rfl .nil)) rfl (coBell (s := kSaid s d) (u := d.1.1) PC) fun _ => ?_
 refine J_slot (t := 31) (v := .tuple #[.int .i64 (kBell (kSaid s d) d.1.1).1, .int .u32 (kBell (kSaid s d) d.1.1).2]) rfl rfl <| mv rfl rfl <| L_pur rfl (p_extract rfl rfl) <| L_pur rfl (p_extract rfl rfl) <| ag rfl rfl <| ag rfl rfl <| nx <| mv rfl rfl ?_
 refine mv rfl rfl <| L_op <| xc fc170 (.cons rfl (.cons rfl .nil)) rfl (coNotif (s := kSaid s d) (u := (kBell (kSaid s d) d.1.1).1) PC) fun _ => ?_
 refine J_slot (t := 36) (v := .pointer ((look (ptrs (kSaid s d).nt) (kBell (kSaid s d) d.1.1).1).map fun b => ⟨b, 0, none⟩)) rfl rfl <| ag rfl rfl <| nx <| mv rfl rfl <| L_pur rfl (p_neNilPtr Tryz.underlying223 rfl) <| nq ?_
 refine C_split rfl (fun h38 => ?_) (fun h38 => ?_)
 obtain ⟨b, hb⟩ : ∃ b, look (ptrs (kSaid s d).nt) (kBell (kSaid s d) d.1.1).1 = some b := by
  cases hq : look (ptrs (kSaid s d).nt) (kBell (kSaid s d) d.1.1).1 with
  | none => rw [hq] at h38; simp at h38
  | some b => exact ⟨b, rfl⟩
 obtain ⟨⟨w0, xs⟩, hob⟩ := look_got hb
 have hxl : xs.length ≤ N := (hF2.nt _ (mem_look hob)).2
 have hNN := hF.n
 refine sr <| mv rfl rfl <| J_slot (t := 40) (v := .pointer (some ⟨b, 0, none⟩)) rfl (by rw [hb]; rfl) <| mv rfl rfl <| L_op <| xc fc178 (.cons rfl (.cons rfl .nil)) rfl (coNtSignal (s := kSaid s d) (u := (kBell (kSaid s d) d.1.1).1) (z := (kBell (kSaid s d) d.1.1).2) PC hob (by omega)) fun _ => ?_
 refine J_pick (A := coA p _) PC ?_
 refine J_asTo (B := coA p (kRung (kSaid s d) d.1.1)) (by rfl) <| mv rfl rfl <| L_pur rfl (p_extract rfl rfl) <| L_pur rfl (p_extract rfl rfl) <| L_pur rfl (p_extract rfl rfl) <| L_op <| x_alloc ty36 rfl fun b8 => L_op <| x_store rfl rfl ty36 rfl SM SM RO PT ?_
 refine ag rfl rfl <| ag rfl rfl <| nx <| mv rfl rfl <| nq ?_
 refine C_split rfl (fun h46 => ?_) (fun h46 => ?_)
 refine J_region <| mv rfl rfl <| L_val rfl (v_loadA rfl ty36 HS CT) ?_
 refine mv rfl rfl <| L_op <| xc fc72 (.cons rfl (.cons rfl (.cons rfl (.cons rfl .nil)))) rfl (hD _ _ _ p (kRung (kSaid s d) d.1.1) (sigI w0 xs (kBell (kSaid s d) d.1.1).2) 0 (sigV w0 xs (kBell (kSaid s d) d.1.1).2) PC (by show (kSaid s d).rt.length ≤ n; rw [kSaid_rt]; exact hn) (hF2.sig _ _)) fun _ => ?_
 refine L_nil <| J_endnormal <| J_pick (A := coA p _) PC ?_
 refine J_asTo (B := coA p (kTell (kDec n) s d)) (by unfold kTell; rw [hob]; simp only [h46, if_true]) ?_
 exact J_return (()) Tryz.results121 .nil rfl SU
 refine J_skip <| J_endnormal <| J_pick (A := coA p _) PC ?_
 refine J_asTo (B := coA p (kTell (kDec n) s d)) (by unfold kTell; rw [hob]; simp only [h46]; rfl) ?_
 exact J_return (()) Tryz.results121 .nil rfl SU
 have hno : look (kSaid s d).nt (kBell (kSaid s d) d.1.1).1 = none := by
  cases hq : look (kSaid s d).nt (kBell (kSaid s d) d.1.1).1 with
  | none => rfl
  | some y => rw [look_ptrs, hq] at h38; simp at h38
 refine J_skip <| J_endnormal <| J_pick (A := coA p _) PC ?_
 refine J_asTo (B := coA p (kTell (kDec n) s d)) (by unfold kTell; rw [hno]) ?_
 exact J_return (()) Tryz.results121 .nil rfl SU
theorem coDecStep {E : World} {l m : List As}{p : Nat} {s : KS} (hp : Pick (coA p s) l m) {n N M : Nat} (hD : ∀ k, n = k + 1 → DecC k N M) {i : ID} {r v : Int} (hn : s.rt.length ≤ n) (hF : Fits s N M) :
  Con Tryz.prog 72 #[.pointer (some ⟨p, 0, none⟩), .agg (encI i).toArray, .int .i64 r, .int .u32 v] E l (fun _ : Unit => .bool (look s.rt i).isSome) (fun _ => coA p (kDec n s i r v) :: m) := by
 rcases hq : look s.rt i with _ | q
 ·
  refine Con.body (vs := [.pointer (some ⟨p, 0, none⟩), .agg (encI i).toArray, .int .i64 r, .int .u32 v]) (n := 61) Tryz.func72 rfl rfl [(0, .pointer (some ⟨p, 0, none⟩)), (1, .agg (encI i).toArray), (2, .int .i64 r), (3, .int .u32 v)] (env_ok 4 rfl) <| J_pick hp <| sr <| L_op <| x_box rfl rfl rfl fun b5 => ag rfl rfl <| nq <| J_seq ?_
  refine J_drawL none mixed <| ip 0 rfl rfl rfl rfl (p_move rfl) <| iv 2 rfl rfl rfl rfl (fun _ => v_loadA rfl ty36 HS CT) ?_
  refine I_ready (rs := [1, 7]) SI (by kernel_rfl) (by simp) ?_
  refine (I_cons rfl ?_ (I_cons rfl ?_ I_nil))
  refine xc fc16 (.cons rfl .nil) rfl (coReqs) fun _ => I_ready (rs := [3, 7]) SI (by kernel_rfl) (by simp) ?_
  refine (I_cons rfl ?_ (I_cons rfl ?_ I_nil))
  refine xc fc69 (.cons rfl (.cons rfl .nil)) rfl (coRqGet (s := s) (i := i) PC) fun _ => ?_
  refine ip 4 rfl rfl rfl rfl (p_move rfl) <| ip 5 rfl rfl rfl rfl (p_extract rfl rfl) <| ip 6 rfl rfl rfl rfl (p_extract rfl rfl) <| J_bool (t := 19) (c := false) rfl (by rw [hq]; rfl) <| i1 7 rfl <| x_alloc ty122 rfl fun b9 => i1 8 rfl <| x_store rfl rfl ty122 rfl SM SM RO PT ?_
  refine ip 9 rfl rfl rfl rfl (p_assign rfl) <| i0 <| Q_then <| J_seq <| sr <| mv rfl rfl <| L_pur rfl (p_not rfl) <| nq ?_
  refine J_bool (t := 21) (c := true) rfl (rfl) <| C_true rfl <| sr <| ag rfl rfl <| nq <| J_ret <| Q_then_ret <| J_pick (A := coA p _) PC ?_
  refine J_asTo (B := coA p (kDec n s i r v)) (by rw [kDec_none hq]) ?_
  exact J_return (()) Tryz.results72 (.tmp rfl .nil) rfl SU
  refine x_alloc ty122 rfl fun b9 => i1 3 rfl <| xc fc69 (.cons rfl (.cons rfl .nil)) rfl (coRqGet (s := s) (i := i) PC) fun _ => ?_
  refine ip 4 rfl rfl rfl rfl (p_move rfl) <| ip 5 rfl rfl rfl rfl (p_extract rfl rfl) <| ip 6 rfl rfl rfl rfl (p_extract rfl rfl) <| J_bool (t := 19) (c := false) rfl (by rw [hq]; rfl) <| i1 8 rfl <| x_store rfl rfl ty122 rfl SM SM RO PT ?_
  refine ip 9 rfl rfl rfl rfl (p_assign rfl) <| i0 <| Q_then <| J_seq <| sr <| mv rfl rfl <| L_pur rfl (p_not rfl) <| nq ?_
  refine J_bool (t := 21) (c := true) rfl (rfl) <| C_true rfl <| sr <| ag rfl rfl <| nq <| J_ret <| Q_then_ret <| J_pick (A := coA p _) PC ?_
  refine J_asTo (B := coA p (kDec n s i r v)) (by rw [kDec_none hq]) ?_
  exact J_return (()) Tryz.results72 (.tmp rfl .nil) rfl SU
  refine x_alloc ty122 rfl fun b9 => i1 1 rfl <| xc fc16 (.cons rfl .nil) rfl (coReqs) fun _ => i1 3 rfl <| xc fc69 (.cons rfl (.cons rfl .nil)) rfl (coRqGet (s := s) (i := i) PC) fun _ => ?_
  refine ip 4 rfl rfl rfl rfl (p_move rfl) <| ip 5 rfl rfl rfl rfl (p_extract rfl rfl) <| ip 6 rfl rfl rfl rfl (p_extract rfl rfl) <| J_bool (t := 19) (c := false) rfl (by rw [hq]; rfl) <| i1 8 rfl <| x_store rfl rfl ty122 rfl SM SM RO PT ?_
  refine ip 9 rfl rfl rfl rfl (p_assign rfl) <| i0 <| Q_then <| J_seq <| sr <| mv rfl rfl <| L_pur rfl (p_not rfl) <| nq ?_
  refine J_bool (t := 21) (c := true) rfl (rfl) <| C_true rfl <| sr <| ag rfl rfl <| nq <| J_ret <| Q_then_ret <| J_pick (A := coA p _) PC ?_
  refine J_asTo (B := coA p (kDec n s i r v)) (by rw [kDec_none hq]) ?_
  exact J_return (()) Tryz.results72 (.tmp rfl .nil) rfl SU
 ·
  refine Con.body (vs := [.pointer (some ⟨p, 0, none⟩), .agg (encI i).toArray, .int .i64 r, .int .u32 v]) (n := 61) Tryz.func72 rfl rfl [(0, .pointer (some ⟨p, 0, none⟩)), (1, .agg (encI i).toArray), (2, .int .i64 r), (3, .int .u32 v)] (env_ok 4 rfl) ?_
  have hl := del_less hq
  obtain ⟨k, rfl⟩ : ∃ k, n = k + 1 := ⟨n - 1, by omega⟩
  obtain ⟨M, rfl⟩ : ∃ M', M = M' + 1 := ⟨M - 1, by have := hF.jn; omega⟩
  have hF1 := hF.drop hq
  have hn2 : (kForget { s with rt := del s.rt i } i).rt.length ≤ k := by show (del s.rt i).length ≤ k; omega
  have hF3 := (hF1.forget i).tell (D := kDec k) (fun s i r v h => Fits.dec k h) hF.mm (i, q.e.tag, q.e.op, r, v, false)
  refine J_pick hp <| sr <| L_op <| x_box rfl rfl rfl fun b5 => ag rfl rfl <| nq <| J_seq <| J_drawL none mixed ?_
  refine ip 0 rfl rfl rfl rfl (p_move rfl) <| iv 2 rfl rfl rfl rfl (fun _ => v_loadA rfl ty36 HS CT) ?_
  refine I_ready (rs := [1, 7]) SI (by kernel_rfl) (by simp) ?_
  refine (I_cons rfl ?_ (I_cons rfl ?_ I_nil))
  refine xc fc16 (.cons rfl .nil) rfl (coReqs) fun _ => I_ready (rs := [3, 7]) SI (by kernel_rfl) (by simp) ?_
  refine (I_cons rfl ?_ (I_cons rfl ?_ I_nil))
  refine xc fc69 (.cons rfl (.cons rfl .nil)) rfl (coRqGet (s := s) (i := i) PC) fun _ => ?_
  refine ip 4 rfl rfl rfl rfl (p_move rfl) <| ip 5 rfl rfl rfl rfl (p_extract rfl rfl) <| ip 6 rfl rfl rfl rfl (p_extract rfl rfl) <| i1 7 rfl <| x_alloc ty122 rfl fun b9 => i1 8 rfl <| x_store rfl rfl ty122 rfl SM SM RO PT ?_
  refine ip 9 rfl rfl rfl rfl (p_assign rfl) <| i0 <| Q_then <| J_seq <| sr <| mv rfl rfl <| L_pur rfl (p_not rfl) <| nq ?_
  refine J_bool (t := 21) (c := false) rfl (by rw [hq]; rfl) <| C_false rfl <| J_skip <| Q_then <| J_seq <| J_drawL (some 3) mixed <| ip 0 rfl rfl rfl rfl (p_move rfl) <| iv 2 rfl rfl rfl rfl (fun _ => v_loadA rfl ty36 HS CT) ?_
  refine i1 1 rfl <| xc fc16 (.cons rfl .nil) rfl (coReqs) fun _ => i1 3 rfl <| xc fc119 (.cons rfl (.cons rfl .nil)) rfl (coRqDrop (s := s) (i := i) PC) fun _ => ?_
  refine i0 <| qx <| mv rfl rfl <| L_val rfl (v_loadA rfl ty36 HS CT) ?_
  refine L_op <| xc fc120 (.cons rfl (.cons rfl .nil)) rfl (coForget (s := { s with rt := del s.rt i }) (i := i) PC hF1) fun _ => ?_
  refine nx <| mv rfl rfl <| L_val rfl (v_loadA rfl ty36 HS CT) ?_
  refine fa rfl rfl fa122_1 <| fa rfl rfl fa34_2 <| L_val rfl (v_load rfl ty22 HS (by exact rfl)) ?_
  refine fa rfl rfl fa122_1 <| fa rfl rfl fa34_0 <| L_val rfl (v_load rfl ty3 HS (by exact rfl)) ?_
  refine mv rfl rfl <| mv rfl rfl <| L_pur rfl (bld45 (.cons rfl (.cons rfl (.cons rfl (.cons rfl (.cons rfl .nil))))) (by repeat constructor)) <| J_slot (t := 39) (v := .agg (encD (i, q.e.tag, q.e.op, r, v, false)).toArray) rfl (by rw [hq]; rfl) <| L_op <| xc fc121 (.cons rfl (.cons rfl .nil)) rfl (coTell (s := (kForget { s with rt := del s.rt i } i)) (d := (i, q.e.tag, q.e.op, r, v, false)) PC (hD k rfl) hn2 (hF1.forget i) hF.mm) fun _ => ?_
  refine nq <| J_seq <| J_seq <| J_drawL none mixed <| ip 0 rfl rfl rfl rfl (p_move rfl) <| iv 2 rfl rfl rfl rfl (fun _ => v_loadA rfl ty36 HS CT) ?_
  refine I_ready (rs := [1, 7]) SI (by kernel_rfl) (by simp) ?_
  refine (I_cons rfl ?_ (I_cons rfl ?_ I_nil))
  refine xc fc16 (.cons rfl .nil) rfl (coReqs) fun _ => I_ready (rs := [3, 7]) SI (by kernel_rfl) (by simp) ?_
  refine (I_cons rfl ?_ (I_cons rfl ?_ I_nil))
  refine xc fc122 (.cons rfl (.cons rfl .nil)) rfl (coRqAfter (s := (kTell (kDec k) (kForget { s with rt := del s.rt i } i) (i, q.e.tag, q.e.op, r, v, false))) (i := i) PC hF3.1.ids (by have := hF3.1.jn; have := hF3.1.mm; omega)) fun _ => ?_
  refine ip 4 rfl rfl rfl rfl (p_move rfl) <| ip 5 rfl rfl rfl rfl (p_extract rfl rfl) <| ip 6 rfl rfl rfl rfl (p_extract rfl rfl) <| i1 7 rfl <| x_alloc ty122 rfl fun b11 => i1 8 rfl <| x_store rfl rfl ty122 rfl SM SM RO PT ?_
  refine ip 9 rfl rfl rfl rfl (p_assign rfl) <| i0 <| qx <| mv rfl rfl <| mv rfl rfl ?_
  refine J_gsplit (t := 49) rfl (fun h49 => ?_) (fun h49 => ?_)
  obtain ⟨x, haf⟩ : ∃ x, afterQ (kTell (kDec k) (kForget { s with rt := del s.rt i } i) (i, q.e.tag, q.e.op, r, v, false)).rt i = some x := by
   cases hz : afterQ (kTell (kDec k) (kForget { s with rt := del s.rt i } i) (i, q.e.tag, q.e.op, r, v, false)).rt i with
   | none => rw [hz] at h49; simp at h49
   | some x => exact ⟨x, rfl⟩
  refine J_pick (A := blk b11 _ _) PC ?_
  refine J_asTo (B := blk b11 122 (encQ x)) (by rw [haf]; rfl) <| L_op <| G_on rfl rfl rfl <| J_pur (p_fieldAddr rfl fa122_3) rfl rfl rfl <| L_op <| G_on rfl rfl rfl <| J_val (v_load rfl ty4 HS (by exact rfl)) rfl rfl rfl ?_
  refine L_pur rfl (p_pick_t rfl rfl) <| mv rfl rfl ?_
  refine J_gsplit (t := 53) rfl (fun h53 => ?_) (fun h53 => ?_)
  refine L_op <| G_on rfl rfl rfl <| J_pur (p_move rfl) rfl rfl rfl <| L_op <| G_on rfl rfl rfl <| J_pur (p_lss rfl rfl) rfl rfl rfl <| L_pur rfl (p_pick_t rfl rfl) <| nq ?_
  refine C_dec rfl (fun h56 => ?_) (fun h56 => ?_)
  refine J_region <| mv rfl rfl <| fa rfl rfl fa122_0 <| L_val rfl (v_loadA rfl ty36 HS CT) ?_
  refine L_op <| xc fc72 (.cons rfl (.cons rfl (.cons rfl (.cons rfl .nil)))) rfl (hD k rfl _ _ _ p (kTell (kDec k) (kForget { s with rt := del s.rt i } i) (i, q.e.tag, q.e.op, r, v, false)) x.id (-9) 0 PC (Nat.le_trans hF3.2 hn2) hF3.1) fun _ => ?_
  refine nx <| ag rfl rfl <| nq <| J_ret <| J_pick (A := coA p _) PC ?_
  refine J_asTo (B := coA p (kDec (k + 1) s i r v)) (by rw [kDec, hq]; simp only [haf]; rw [if_pos ⟨h53, h56⟩]) ?_
  exact J_return (()) Tryz.results72 (.tmp rfl .nil) rfl SU
  refine J_skip <| qx <| ag rfl rfl <| nq <| J_ret <| J_pick (A := coA p _) PC ?_
  refine J_asTo (B := coA p (kDec (k + 1) s i r v)) (by rw [kDec, hq]; simp only [haf]; rw [if_neg (by intro hc; simp_all)]) ?_
  exact J_return (()) Tryz.results72 (.tmp rfl .nil) rfl SU
  refine L_op <| G_off rfl rfl rfl rfl rfl rfl <| L_op <| G_off rfl rfl rfl rfl rfl rfl <| L_pur rfl (p_pick_f rfl rfl) <| nq <| C_false rfl <| J_skip ?_
  refine qx <| ag rfl rfl <| nq <| J_ret <| J_pick (A := coA p _) PC ?_
  refine J_asTo (B := coA p (kDec (k + 1) s i r v)) (by rw [kDec, hq]; simp only [haf]; rw [if_neg (by intro hc; simp_all)]) ?_
  exact J_return (()) Tryz.results72 (.tmp rfl .nil) rfl SU
  have haf : afterQ (kTell (kDec k) (kForget { s with rt := del s.rt i } i) (i, q.e.tag, q.e.op, r, v, false)).rt i = none := by
   cases hz : afterQ (kTell (kDec k) (kForget { s with rt := del s.rt i } i) (i, q.e.tag, q.e.op, r, v, false)).rt i with
   | none => rfl
   | some x => rw [hz] at h49; simp at h49
  refine L_op <| G_off rfl rfl rfl rfl rfl rfl <| L_op <| G_off rfl rfl rfl rfl rfl rfl <| L_pur rfl (p_pick_f rfl rfl) <| mv rfl rfl <| L_op <| G_off rfl rfl rfl rfl rfl rfl ?_
  refine L_op <| G_off rfl rfl rfl rfl rfl rfl <| L_pur rfl (p_pick_f rfl rfl) <| nq <| C_false rfl <| J_skip <| qx <| ag rfl rfl ?_
  refine nq <| J_ret <| J_pick (A := coA p _) PC ?_
  refine J_asTo (B := coA p (kDec (k + 1) s i r v)) (by rw [kDec, hq]; simp only [haf]) ?_
  exact J_return (()) Tryz.results72 (.tmp rfl .nil) rfl SU
  refine x_alloc ty122 rfl fun b11 => i1 3 rfl <| xc fc122 (.cons rfl (.cons rfl .nil)) rfl (coRqAfter (s := (kTell (kDec k) (kForget { s with rt := del s.rt i } i) (i, q.e.tag, q.e.op, r, v, false))) (i := i) PC hF3.1.ids (by have := hF3.1.jn; have := hF3.1.mm; omega)) fun _ => ?_
  refine ip 4 rfl rfl rfl rfl (p_move rfl) <| ip 5 rfl rfl rfl rfl (p_extract rfl rfl) <| ip 6 rfl rfl rfl rfl (p_extract rfl rfl) <| i1 8 rfl <| x_store rfl rfl ty122 rfl SM SM RO PT ?_
  refine ip 9 rfl rfl rfl rfl (p_assign rfl) <| i0 <| qx <| mv rfl rfl <| mv rfl rfl ?_
  refine J_gsplit (t := 49) rfl (fun h49 => ?_) (fun h49 => ?_)
  obtain ⟨x, haf⟩ : ∃ x, afterQ (kTell (kDec k) (kForget { s with rt := del s.rt i } i) (i, q.e.tag, q.e.op, r, v, false)).rt i = some x := by
   cases hz : afterQ (kTell (kDec k) (kForget { s with rt := del s.rt i } i) (i, q.e.tag, q.e.op, r, v, false)).rt i with
   | none => rw [hz] at h49; simp at h49
   | some x => exact ⟨x, rfl⟩
  refine J_pick (A := blk b11 _ _) PC ?_
  refine J_asTo (B := blk b11 122 (encQ x)) (by rw [haf]; rfl) <| L_op <| G_on rfl rfl rfl <| J_pur (p_fieldAddr rfl fa122_3) rfl rfl rfl <| L_op <| G_on rfl rfl rfl <| J_val (v_load rfl ty4 HS (by exact rfl)) rfl rfl rfl ?_
  refine L_pur rfl (p_pick_t rfl rfl) <| mv rfl rfl ?_
  refine J_gsplit (t := 53) rfl (fun h53 => ?_) (fun h53 => ?_)
  refine L_op <| G_on rfl rfl rfl <| J_pur (p_move rfl) rfl rfl rfl <| L_op <| G_on rfl rfl rfl <| J_pur (p_lss rfl rfl) rfl rfl rfl <| L_pur rfl (p_pick_t rfl rfl) <| nq ?_
  refine C_dec rfl (fun h56 => ?_) (fun h56 => ?_)
  refine J_region <| mv rfl rfl <| fa rfl rfl fa122_0 <| L_val rfl (v_loadA rfl ty36 HS CT) ?_
  refine L_op <| xc fc72 (.cons rfl (.cons rfl (.cons rfl (.cons rfl .nil)))) rfl (hD k rfl _ _ _ p (kTell (kDec k) (kForget { s with rt := del s.rt i } i) (i, q.e.tag, q.e.op, r, v, false)) x.id (-9) 0 PC (Nat.le_trans hF3.2 hn2) hF3.1) fun _ => ?_
  refine nx <| ag rfl rfl <| nq <| J_ret <| J_pick (A := coA p _) PC ?_
  refine J_asTo (B := coA p (kDec (k + 1) s i r v)) (by rw [kDec, hq]; simp only [haf]; rw [if_pos ⟨h53, h56⟩]) ?_
  exact J_return (()) Tryz.results72 (.tmp rfl .nil) rfl SU
  refine J_skip <| qx <| ag rfl rfl <| nq <| J_ret <| J_pick (A := coA p _) PC ?_
  refine J_asTo (B := coA p (kDec (k + 1) s i r v)) (by rw [kDec, hq]; simp only [haf]; rw [if_neg (by intro hc; simp_all)]) ?_
  exact J_return (()) Tryz.results72 (.tmp rfl .nil) rfl SU
  refine L_op <| G_off rfl rfl rfl rfl rfl rfl <| L_op <| G_off rfl rfl rfl rfl rfl rfl <| L_pur rfl (p_pick_f rfl rfl) <| nq <| C_false rfl <| J_skip ?_
  refine qx <| ag rfl rfl <| nq <| J_ret <| J_pick (A := coA p _) PC ?_
  refine J_asTo (B := coA p (kDec (k + 1) s i r v)) (by rw [kDec, hq]; simp only [haf]; rw [if_neg (by intro hc; simp_all)]) ?_
  exact J_return (()) Tryz.results72 (.tmp rfl .nil) rfl SU
  have haf : afterQ (kTell (kDec k) (kForget { s with rt := del s.rt i } i) (i, q.e.tag, q.e.op, r, v, false)).rt i = none := by
   cases hz : afterQ (kTell (kDec k) (kForget { s with rt := del s.rt i } i) (i, q.e.tag, q.e.op, r, v, false)).rt i with
   | none => rfl
   | some x => rw [hz] at h49; simp at h49
  refine L_op <| G_off rfl rfl rfl rfl rfl rfl <| L_op <| G_off rfl rfl rfl rfl rfl rfl <| L_pur rfl (p_pick_f rfl rfl) <| mv rfl rfl <| L_op <| G_off rfl rfl rfl rfl rfl rfl ?_
  refine L_op <| G_off rfl rfl rfl rfl rfl rfl <| L_pur rfl (p_pick_f rfl rfl) <| nq <| C_false rfl <| J_skip <| qx <| ag rfl rfl ?_
  refine nq <| J_ret <| J_pick (A := coA p _) PC ?_
  refine J_asTo (B := coA p (kDec (k + 1) s i r v)) (by rw [kDec, hq]; simp only [haf]) ?_
  exact J_return (()) Tryz.results72 (.tmp rfl .nil) rfl SU
  refine x_alloc ty122 rfl fun b11 => i1 1 rfl <| xc fc16 (.cons rfl .nil) rfl (coReqs) fun _ => i1 3 rfl <| xc fc122 (.cons rfl (.cons rfl .nil)) rfl (coRqAfter (s := (kTell (kDec k) (kForget { s with rt := del s.rt i } i) (i, q.e.tag, q.e.op, r, v, false))) (i := i) PC hF3.1.ids (by have := hF3.1.jn; have := hF3.1.mm; omega)) fun _ => ?_
  refine ip 4 rfl rfl rfl rfl (p_move rfl) <| ip 5 rfl rfl rfl rfl (p_extract rfl rfl) <| ip 6 rfl rfl rfl rfl (p_extract rfl rfl) <| i1 8 rfl <| x_store rfl rfl ty122 rfl SM SM RO PT ?_
  refine ip 9 rfl rfl rfl rfl (p_assign rfl) <| i0 <| qx <| mv rfl rfl <| mv rfl rfl ?_
  refine J_gsplit (t := 49) rfl (fun h49 => ?_) (fun h49 => ?_)
  obtain ⟨x, haf⟩ : ∃ x, afterQ (kTell (kDec k) (kForget { s with rt := del s.rt i } i) (i, q.e.tag, q.e.op, r, v, false)).rt i = some x := by
   cases hz : afterQ (kTell (kDec k) (kForget { s with rt := del s.rt i } i) (i, q.e.tag, q.e.op, r, v, false)).rt i with
   | none => rw [hz] at h49; simp at h49
   | some x => exact ⟨x, rfl⟩
  refine J_pick (A := blk b11 _ _) PC ?_
  refine J_asTo (B := blk b11 122 (encQ x)) (by rw [haf]; rfl) <| L_op <| G_on rfl rfl rfl <| J_pur (p_fieldAddr rfl fa122_3) rfl rfl rfl <| L_op <| G_on rfl rfl rfl <| J_val (v_load rfl ty4 HS (by exact rfl)) rfl rfl rfl ?_
  refine L_pur rfl (p_pick_t rfl rfl) <| mv rfl rfl ?_
  refine J_gsplit (t := 53) rfl (fun h53 => ?_) (fun h53 => ?_)
  refine L_op <| G_on rfl rfl rfl <| J_pur (p_move rfl) rfl rfl rfl <| L_op <| G_on rfl rfl rfl <| J_pur (p_lss rfl rfl) rfl rfl rfl <| L_pur rfl (p_pick_t rfl rfl) <| nq ?_
  refine C_dec rfl (fun h56 => ?_) (fun h56 => ?_)
  refine J_region <| mv rfl rfl <| fa rfl rfl fa122_0 <| L_val rfl (v_loadA rfl ty36 HS CT) ?_
  refine L_op <| xc fc72 (.cons rfl (.cons rfl (.cons rfl (.cons rfl .nil)))) rfl (hD k rfl _ _ _ p (kTell (kDec k) (kForget { s with rt := del s.rt i } i) (i, q.e.tag, q.e.op, r, v, false)) x.id (-9) 0 PC (Nat.le_trans hF3.2 hn2) hF3.1) fun _ => ?_
  refine nx <| ag rfl rfl <| nq <| J_ret <| J_pick (A := coA p _) PC ?_
  refine J_asTo (B := coA p (kDec (k + 1) s i r v)) (by rw [kDec, hq]; simp only [haf]; rw [if_pos ⟨h53, h56⟩]) ?_
  exact J_return (()) Tryz.results72 (.tmp rfl .nil) rfl SU
  refine J_skip <| qx <| ag rfl rfl <| nq <| J_ret <| J_pick (A := coA p _) PC ?_
  refine J_asTo (B := coA p (kDec (k + 1) s i r v)) (by rw [kDec, hq]; simp only [haf]; rw [if_neg (by intro hc; simp_all)]) ?_
  exact J_return (()) Tryz.results72 (.tmp rfl .nil) rfl SU
  refine L_op <| G_off rfl rfl rfl rfl rfl rfl <| L_op <| G_off rfl rfl rfl rfl rfl rfl <| L_pur rfl (p_pick_f rfl rfl) <| nq <| C_false rfl <| J_skip ?_
  refine qx <| ag rfl rfl <| nq <| J_ret <| J_pick (A := coA p _) PC ?_
  refine J_asTo (B := coA p (kDec (k + 1) s i r v)) (by rw [kDec, hq]; simp only [haf]; rw [if_neg (by intro hc; simp_all)]) ?_
  exact J_return (()) Tryz.results72 (.tmp rfl .nil) rfl SU
  have haf : afterQ (kTell (kDec k) (kForget { s with rt := del s.rt i } i) (i, q.e.tag, q.e.op, r, v, false)).rt i = none := by
   cases hz : afterQ (kTell (kDec k) (kForget { s with rt := del s.rt i } i) (i, q.e.tag, q.e.op, r, v, false)).rt i with
   | none => rfl
   | some x => rw [hz] at h49; simp at h49
  refine L_op <| G_off rfl rfl rfl rfl rfl rfl <| L_op <| G_off rfl rfl rfl rfl rfl rfl <| L_pur rfl (p_pick_f rfl rfl) <| mv rfl rfl <| L_op <| G_off rfl rfl rfl rfl rfl rfl ?_
  refine L_op <| G_off rfl rfl rfl rfl rfl rfl <| L_pur rfl (p_pick_f rfl rfl) <| nq <| C_false rfl <| J_skip <| qx <| ag rfl rfl ?_
  refine nq <| J_ret <| J_pick (A := coA p _) PC ?_
  refine J_asTo (B := coA p (kDec (k + 1) s i r v)) (by rw [kDec, hq]; simp only [haf]) ?_
  exact J_return (()) Tryz.results72 (.tmp rfl .nil) rfl SU
  refine x_alloc ty122 rfl fun b9 => i1 3 rfl <| xc fc69 (.cons rfl (.cons rfl .nil)) rfl (coRqGet (s := s) (i := i) PC) fun _ => ?_
  refine ip 4 rfl rfl rfl rfl (p_move rfl) <| ip 5 rfl rfl rfl rfl (p_extract rfl rfl) <| ip 6 rfl rfl rfl rfl (p_extract rfl rfl) <| i1 8 rfl <| x_store rfl rfl ty122 rfl SM SM RO PT ?_
  refine ip 9 rfl rfl rfl rfl (p_assign rfl) <| i0 <| Q_then <| J_seq <| sr <| mv rfl rfl <| L_pur rfl (p_not rfl) <| nq ?_
  refine J_bool (t := 21) (c := false) rfl (by rw [hq]; rfl) <| C_false rfl <| J_skip <| Q_then <| J_seq <| J_drawL (some 3) mixed <| ip 0 rfl rfl rfl rfl (p_move rfl) <| iv 2 rfl rfl rfl rfl (fun _ => v_loadA rfl ty36 HS CT) ?_
  refine i1 1 rfl <| xc fc16 (.cons rfl .nil) rfl (coReqs) fun _ => i1 3 rfl <| xc fc119 (.cons rfl (.cons rfl .nil)) rfl (coRqDrop (s := s) (i := i) PC) fun _ => ?_
  refine i0 <| qx <| mv rfl rfl <| L_val rfl (v_loadA rfl ty36 HS CT) ?_
  refine L_op <| xc fc120 (.cons rfl (.cons rfl .nil)) rfl (coForget (s := { s with rt := del s.rt i }) (i := i) PC hF1) fun _ => ?_
  refine nx <| mv rfl rfl <| L_val rfl (v_loadA rfl ty36 HS CT) ?_
  refine fa rfl rfl fa122_1 <| fa rfl rfl fa34_2 <| L_val rfl (v_load rfl ty22 HS (by exact rfl)) ?_
  refine fa rfl rfl fa122_1 <| fa rfl rfl fa34_0 <| L_val rfl (v_load rfl ty3 HS (by exact rfl)) ?_
  refine mv rfl rfl <| mv rfl rfl <| L_pur rfl (bld45 (.cons rfl (.cons rfl (.cons rfl (.cons rfl (.cons rfl .nil))))) (by repeat constructor)) <| J_slot (t := 39) (v := .agg (encD (i, q.e.tag, q.e.op, r, v, false)).toArray) rfl (by rw [hq]; rfl) <| L_op <| xc fc121 (.cons rfl (.cons rfl .nil)) rfl (coTell (s := (kForget { s with rt := del s.rt i } i)) (d := (i, q.e.tag, q.e.op, r, v, false)) PC (hD k rfl) hn2 (hF1.forget i) hF.mm) fun _ => ?_
  refine nq <| J_seq <| J_seq <| J_drawL none mixed <| ip 0 rfl rfl rfl rfl (p_move rfl) <| iv 2 rfl rfl rfl rfl (fun _ => v_loadA rfl ty36 HS CT) ?_
  refine I_ready (rs := [1, 7]) SI (by kernel_rfl) (by simp) ?_
  refine (I_cons rfl ?_ (I_cons rfl ?_ I_nil))
  refine xc fc16 (.cons rfl .nil) rfl (coReqs) fun _ => I_ready (rs := [3, 7]) SI (by kernel_rfl) (by simp) ?_
  refine (I_cons rfl ?_ (I_cons rfl ?_ I_nil))
  refine xc fc122 (.cons rfl (.cons rfl .nil)) rfl (coRqAfter (s := (kTell (kDec k) (kForget { s with rt := del s.rt i } i) (i, q.e.tag, q.e.op, r, v, false))) (i := i) PC hF3.1.ids (by have := hF3.1.jn; have := hF3.1.mm; omega)) fun _ => ?_
  refine ip 4 rfl rfl rfl rfl (p_move rfl) <| ip 5 rfl rfl rfl rfl (p_extract rfl rfl) <| ip 6 rfl rfl rfl rfl (p_extract rfl rfl) <| i1 7 rfl <| x_alloc ty122 rfl fun b11 => i1 8 rfl <| x_store rfl rfl ty122 rfl SM SM RO PT ?_
  refine ip 9 rfl rfl rfl rfl (p_assign rfl) <| i0 <| qx <| mv rfl rfl <| mv rfl rfl ?_
  refine J_gsplit (t := 49) rfl (fun h49 => ?_) (fun h49 => ?_)
  obtain ⟨x, haf⟩ : ∃ x, afterQ (kTell (kDec k) (kForget { s with rt := del s.rt i } i) (i, q.e.tag, q.e.op, r, v, false)).rt i = some x := by
   cases hz : afterQ (kTell (kDec k) (kForget { s with rt := del s.rt i } i) (i, q.e.tag, q.e.op, r, v, false)).rt i with
   | none => rw [hz] at h49; simp at h49
   | some x => exact ⟨x, rfl⟩
  refine J_pick (A := blk b11 _ _) PC ?_
  refine J_asTo (B := blk b11 122 (encQ x)) (by rw [haf]; rfl) <| L_op <| G_on rfl rfl rfl <| J_pur (p_fieldAddr rfl fa122_3) rfl rfl rfl <| L_op <| G_on rfl rfl rfl <| J_val (v_load rfl ty4 HS (by exact rfl)) rfl rfl rfl ?_
  refine L_pur rfl (p_pick_t rfl rfl) <| mv rfl rfl ?_
  refine J_gsplit (t := 53) rfl (fun h53 => ?_) (fun h53 => ?_)
  refine L_op <| G_on rfl rfl rfl <| J_pur (p_move rfl) rfl rfl rfl <| L_op <| G_on rfl rfl rfl <| J_pur (p_lss rfl rfl) rfl rfl rfl <| L_pur rfl (p_pick_t rfl rfl) <| nq ?_
  refine C_dec rfl (fun h56 => ?_) (fun h56 => ?_)
  refine J_region <| mv rfl rfl <| fa rfl rfl fa122_0 <| L_val rfl (v_loadA rfl ty36 HS CT) ?_
  refine L_op <| xc fc72 (.cons rfl (.cons rfl (.cons rfl (.cons rfl .nil)))) rfl (hD k rfl _ _ _ p (kTell (kDec k) (kForget { s with rt := del s.rt i } i) (i, q.e.tag, q.e.op, r, v, false)) x.id (-9) 0 PC (Nat.le_trans hF3.2 hn2) hF3.1) fun _ => ?_
  refine nx <| ag rfl rfl <| nq <| J_ret <| J_pick (A := coA p _) PC ?_
  refine J_asTo (B := coA p (kDec (k + 1) s i r v)) (by rw [kDec, hq]; simp only [haf]; rw [if_pos ⟨h53, h56⟩]) ?_
  exact J_return (()) Tryz.results72 (.tmp rfl .nil) rfl SU
  refine J_skip <| qx <| ag rfl rfl <| nq <| J_ret <| J_pick (A := coA p _) PC ?_
  refine J_asTo (B := coA p (kDec (k + 1) s i r v)) (by rw [kDec, hq]; simp only [haf]; rw [if_neg (by intro hc; simp_all)]) ?_
  exact J_return (()) Tryz.results72 (.tmp rfl .nil) rfl SU
  refine L_op <| G_off rfl rfl rfl rfl rfl rfl <| L_op <| G_off rfl rfl rfl rfl rfl rfl <| L_pur rfl (p_pick_f rfl rfl) <| nq <| C_false rfl <| J_skip ?_
  refine qx <| ag rfl rfl <| nq <| J_ret <| J_pick (A := coA p _) PC ?_
  refine J_asTo (B := coA p (kDec (k + 1) s i r v)) (by rw [kDec, hq]; simp only [haf]; rw [if_neg (by intro hc; simp_all)]) ?_
  exact J_return (()) Tryz.results72 (.tmp rfl .nil) rfl SU
  have haf : afterQ (kTell (kDec k) (kForget { s with rt := del s.rt i } i) (i, q.e.tag, q.e.op, r, v, false)).rt i = none := by
   cases hz : afterQ (kTell (kDec k) (kForget { s with rt := del s.rt i } i) (i, q.e.tag, q.e.op, r, v, false)).rt i with
   | none => rfl
   | some x => rw [hz] at h49; simp at h49
  refine L_op <| G_off rfl rfl rfl rfl rfl rfl <| L_op <| G_off rfl rfl rfl rfl rfl rfl <| L_pur rfl (p_pick_f rfl rfl) <| mv rfl rfl <| L_op <| G_off rfl rfl rfl rfl rfl rfl ?_
  refine L_op <| G_off rfl rfl rfl rfl rfl rfl <| L_pur rfl (p_pick_f rfl rfl) <| nq <| C_false rfl <| J_skip <| qx <| ag rfl rfl ?_
  refine nq <| J_ret <| J_pick (A := coA p _) PC ?_
  refine J_asTo (B := coA p (kDec (k + 1) s i r v)) (by rw [kDec, hq]; simp only [haf]) ?_
  exact J_return (()) Tryz.results72 (.tmp rfl .nil) rfl SU
  refine x_alloc ty122 rfl fun b11 => i1 3 rfl <| xc fc122 (.cons rfl (.cons rfl .nil)) rfl (coRqAfter (s := (kTell (kDec k) (kForget { s with rt := del s.rt i } i) (i, q.e.tag, q.e.op, r, v, false))) (i := i) PC hF3.1.ids (by have := hF3.1.jn; have := hF3.1.mm; omega)) fun _ => ?_
  refine ip 4 rfl rfl rfl rfl (p_move rfl) <| ip 5 rfl rfl rfl rfl (p_extract rfl rfl) <| ip 6 rfl rfl rfl rfl (p_extract rfl rfl) <| i1 8 rfl <| x_store rfl rfl ty122 rfl SM SM RO PT ?_
  refine ip 9 rfl rfl rfl rfl (p_assign rfl) <| i0 <| qx <| mv rfl rfl <| mv rfl rfl ?_
  refine J_gsplit (t := 49) rfl (fun h49 => ?_) (fun h49 => ?_)
  obtain ⟨x, haf⟩ : ∃ x, afterQ (kTell (kDec k) (kForget { s with rt := del s.rt i } i) (i, q.e.tag, q.e.op, r, v, false)).rt i = some x := by
   cases hz : afterQ (kTell (kDec k) (kForget { s with rt := del s.rt i } i) (i, q.e.tag, q.e.op, r, v, false)).rt i with
   | none => rw [hz] at h49; simp at h49
   | some x => exact ⟨x, rfl⟩
  refine J_pick (A := blk b11 _ _) PC ?_
  refine J_asTo (B := blk b11 122 (encQ x)) (by rw [haf]; rfl) <| L_op <| G_on rfl rfl rfl <| J_pur (p_fieldAddr rfl fa122_3) rfl rfl rfl <| L_op <| G_on rfl rfl rfl <| J_val (v_load rfl ty4 HS (by exact rfl)) rfl rfl rfl ?_
  refine L_pur rfl (p_pick_t rfl rfl) <| mv rfl rfl ?_
  refine J_gsplit (t := 53) rfl (fun h53 => ?_) (fun h53 => ?_)
  refine L_op <| G_on rfl rfl rfl <| J_pur (p_move rfl) rfl rfl rfl <| L_op <| G_on rfl rfl rfl <| J_pur (p_lss rfl rfl) rfl rfl rfl <| L_pur rfl (p_pick_t rfl rfl) <| nq ?_
  refine C_dec rfl (fun h56 => ?_) (fun h56 => ?_)
  refine J_region <| mv rfl rfl <| fa rfl rfl fa122_0 <| L_val rfl (v_loadA rfl ty36 HS CT) ?_
  refine L_op <| xc fc72 (.cons rfl (.cons rfl (.cons rfl (.cons rfl .nil)))) rfl (hD k rfl _ _ _ p (kTell (kDec k) (kForget { s with rt := del s.rt i } i) (i, q.e.tag, q.e.op, r, v, false)) x.id (-9) 0 PC (Nat.le_trans hF3.2 hn2) hF3.1) fun _ => ?_
  refine nx <| ag rfl rfl <| nq <| J_ret <| J_pick (A := coA p _) PC ?_
  refine J_asTo (B := coA p (kDec (k + 1) s i r v)) (by rw [kDec, hq]; simp only [haf]; rw [if_pos ⟨h53, h56⟩]) ?_
  exact J_return (()) Tryz.results72 (.tmp rfl .nil) rfl SU
  refine J_skip <| qx <| ag rfl rfl <| nq <| J_ret <| J_pick (A := coA p _) PC ?_
  refine J_asTo (B := coA p (kDec (k + 1) s i r v)) (by rw [kDec, hq]; simp only [haf]; rw [if_neg (by intro hc; simp_all)]) ?_
  exact J_return (()) Tryz.results72 (.tmp rfl .nil) rfl SU
  refine L_op <| G_off rfl rfl rfl rfl rfl rfl <| L_op <| G_off rfl rfl rfl rfl rfl rfl <| L_pur rfl (p_pick_f rfl rfl) <| nq <| C_false rfl <| J_skip ?_
  refine qx <| ag rfl rfl <| nq <| J_ret <| J_pick (A := coA p _) PC ?_
  refine J_asTo (B := coA p (kDec (k + 1) s i r v)) (by rw [kDec, hq]; simp only [haf]; rw [if_neg (by intro hc; simp_all)]) ?_
  exact J_return (()) Tryz.results72 (.tmp rfl .nil) rfl SU
  have haf : afterQ (kTell (kDec k) (kForget { s with rt := del s.rt i } i) (i, q.e.tag, q.e.op, r, v, false)).rt i = none := by
   cases hz : afterQ (kTell (kDec k) (kForget { s with rt := del s.rt i } i) (i, q.e.tag, q.e.op, r, v, false)).rt i with
   | none => rfl
   | some x => rw [hz] at h49; simp at h49
  refine L_op <| G_off rfl rfl rfl rfl rfl rfl <| L_op <| G_off rfl rfl rfl rfl rfl rfl <| L_pur rfl (p_pick_f rfl rfl) <| mv rfl rfl <| L_op <| G_off rfl rfl rfl rfl rfl rfl ?_
  refine L_op <| G_off rfl rfl rfl rfl rfl rfl <| L_pur rfl (p_pick_f rfl rfl) <| nq <| C_false rfl <| J_skip <| qx <| ag rfl rfl ?_
  refine nq <| J_ret <| J_pick (A := coA p _) PC ?_
  refine J_asTo (B := coA p (kDec (k + 1) s i r v)) (by rw [kDec, hq]; simp only [haf]) ?_
  exact J_return (()) Tryz.results72 (.tmp rfl .nil) rfl SU
  refine x_alloc ty122 rfl fun b11 => i1 1 rfl <| xc fc16 (.cons rfl .nil) rfl (coReqs) fun _ => i1 3 rfl <| xc fc122 (.cons rfl (.cons rfl .nil)) rfl (coRqAfter (s := (kTell (kDec k) (kForget { s with rt := del s.rt i } i) (i, q.e.tag, q.e.op, r, v, false))) (i := i) PC hF3.1.ids (by have := hF3.1.jn; have := hF3.1.mm; omega)) fun _ => ?_
  refine ip 4 rfl rfl rfl rfl (p_move rfl) <| ip 5 rfl rfl rfl rfl (p_extract rfl rfl) <| ip 6 rfl rfl rfl rfl (p_extract rfl rfl) <| i1 8 rfl <| x_store rfl rfl ty122 rfl SM SM RO PT ?_
  refine ip 9 rfl rfl rfl rfl (p_assign rfl) <| i0 <| qx <| mv rfl rfl <| mv rfl rfl ?_
  refine J_gsplit (t := 49) rfl (fun h49 => ?_) (fun h49 => ?_)
  obtain ⟨x, haf⟩ : ∃ x, afterQ (kTell (kDec k) (kForget { s with rt := del s.rt i } i) (i, q.e.tag, q.e.op, r, v, false)).rt i = some x := by
   cases hz : afterQ (kTell (kDec k) (kForget { s with rt := del s.rt i } i) (i, q.e.tag, q.e.op, r, v, false)).rt i with
   | none => rw [hz] at h49; simp at h49
   | some x => exact ⟨x, rfl⟩
  refine J_pick (A := blk b11 _ _) PC ?_
  refine J_asTo (B := blk b11 122 (encQ x)) (by rw [haf]; rfl) <| L_op <| G_on rfl rfl rfl <| J_pur (p_fieldAddr rfl fa122_3) rfl rfl rfl <| L_op <| G_on rfl rfl rfl <| J_val (v_load rfl ty4 HS (by exact rfl)) rfl rfl rfl ?_
  refine L_pur rfl (p_pick_t rfl rfl) <| mv rfl rfl ?_
  refine J_gsplit (t := 53) rfl (fun h53 => ?_) (fun h53 => ?_)
  refine L_op <| G_on rfl rfl rfl <| J_pur (p_move rfl) rfl rfl rfl <| L_op <| G_on rfl rfl rfl <| J_pur (p_lss rfl rfl) rfl rfl rfl <| L_pur rfl (p_pick_t rfl rfl) <| nq ?_
  refine C_dec rfl (fun h56 => ?_) (fun h56 => ?_)
  refine J_region <| mv rfl rfl <| fa rfl rfl fa122_0 <| L_val rfl (v_loadA rfl ty36 HS CT) ?_
  refine L_op <| xc fc72 (.cons rfl (.cons rfl (.cons rfl (.cons rfl .nil)))) rfl (hD k rfl _ _ _ p (kTell (kDec k) (kForget { s with rt := del s.rt i } i) (i, q.e.tag, q.e.op, r, v, false)) x.id (-9) 0 PC (Nat.le_trans hF3.2 hn2) hF3.1) fun _ => ?_
  refine nx <| ag rfl rfl <| nq <| J_ret <| J_pick (A := coA p _) PC ?_
  refine J_asTo (B := coA p (kDec (k + 1) s i r v)) (by rw [kDec, hq]; simp only [haf]; rw [if_pos ⟨h53, h56⟩]) ?_
  exact J_return (()) Tryz.results72 (.tmp rfl .nil) rfl SU
  refine J_skip <| qx <| ag rfl rfl <| nq <| J_ret <| J_pick (A := coA p _) PC ?_
  refine J_asTo (B := coA p (kDec (k + 1) s i r v)) (by rw [kDec, hq]; simp only [haf]; rw [if_neg (by intro hc; simp_all)]) ?_
  exact J_return (()) Tryz.results72 (.tmp rfl .nil) rfl SU
  refine L_op <| G_off rfl rfl rfl rfl rfl rfl <| L_op <| G_off rfl rfl rfl rfl rfl rfl <| L_pur rfl (p_pick_f rfl rfl) <| nq <| C_false rfl <| J_skip ?_
  refine qx <| ag rfl rfl <| nq <| J_ret <| J_pick (A := coA p _) PC ?_
  refine J_asTo (B := coA p (kDec (k + 1) s i r v)) (by rw [kDec, hq]; simp only [haf]; rw [if_neg (by intro hc; simp_all)]) ?_
  exact J_return (()) Tryz.results72 (.tmp rfl .nil) rfl SU
  have haf : afterQ (kTell (kDec k) (kForget { s with rt := del s.rt i } i) (i, q.e.tag, q.e.op, r, v, false)).rt i = none := by
   cases hz : afterQ (kTell (kDec k) (kForget { s with rt := del s.rt i } i) (i, q.e.tag, q.e.op, r, v, false)).rt i with
   | none => rfl
   | some x => rw [hz] at h49; simp at h49
  refine L_op <| G_off rfl rfl rfl rfl rfl rfl <| L_op <| G_off rfl rfl rfl rfl rfl rfl <| L_pur rfl (p_pick_f rfl rfl) <| mv rfl rfl <| L_op <| G_off rfl rfl rfl rfl rfl rfl ?_
  refine L_op <| G_off rfl rfl rfl rfl rfl rfl <| L_pur rfl (p_pick_f rfl rfl) <| nq <| C_false rfl <| J_skip <| qx <| ag rfl rfl ?_
  refine nq <| J_ret <| J_pick (A := coA p _) PC ?_
  refine J_asTo (B := coA p (kDec (k + 1) s i r v)) (by rw [kDec, hq]; simp only [haf]) ?_
  exact J_return (()) Tryz.results72 (.tmp rfl .nil) rfl SU
  refine x_alloc ty122 rfl fun b9 => i1 1 rfl <| xc fc16 (.cons rfl .nil) rfl (coReqs) fun _ => i1 3 rfl <| xc fc69 (.cons rfl (.cons rfl .nil)) rfl (coRqGet (s := s) (i := i) PC) fun _ => ?_
  refine ip 4 rfl rfl rfl rfl (p_move rfl) <| ip 5 rfl rfl rfl rfl (p_extract rfl rfl) <| ip 6 rfl rfl rfl rfl (p_extract rfl rfl) <| i1 8 rfl <| x_store rfl rfl ty122 rfl SM SM RO PT ?_
  refine ip 9 rfl rfl rfl rfl (p_assign rfl) <| i0 <| Q_then <| J_seq <| sr <| mv rfl rfl <| L_pur rfl (p_not rfl) <| nq ?_
  refine J_bool (t := 21) (c := false) rfl (by rw [hq]; rfl) <| C_false rfl <| J_skip <| Q_then <| J_seq <| J_drawL (some 3) mixed <| ip 0 rfl rfl rfl rfl (p_move rfl) <| iv 2 rfl rfl rfl rfl (fun _ => v_loadA rfl ty36 HS CT) ?_
  refine i1 1 rfl <| xc fc16 (.cons rfl .nil) rfl (coReqs) fun _ => i1 3 rfl <| xc fc119 (.cons rfl (.cons rfl .nil)) rfl (coRqDrop (s := s) (i := i) PC) fun _ => ?_
  refine i0 <| qx <| mv rfl rfl <| L_val rfl (v_loadA rfl ty36 HS CT) ?_
  refine L_op <| xc fc120 (.cons rfl (.cons rfl .nil)) rfl (coForget (s := { s with rt := del s.rt i }) (i := i) PC hF1) fun _ => ?_
  refine nx <| mv rfl rfl <| L_val rfl (v_loadA rfl ty36 HS CT) ?_
  refine fa rfl rfl fa122_1 <| fa rfl rfl fa34_2 <| L_val rfl (v_load rfl ty22 HS (by exact rfl)) ?_
  refine fa rfl rfl fa122_1 <| fa rfl rfl fa34_0 <| L_val rfl (v_load rfl ty3 HS (by exact rfl)) ?_
  refine mv rfl rfl <| mv rfl rfl <| L_pur rfl (bld45 (.cons rfl (.cons rfl (.cons rfl (.cons rfl (.cons rfl .nil))))) (by repeat constructor)) <| J_slot (t := 39) (v := .agg (encD (i, q.e.tag, q.e.op, r, v, false)).toArray) rfl (by rw [hq]; rfl) <| L_op <| xc fc121 (.cons rfl (.cons rfl .nil)) rfl (coTell (s := (kForget { s with rt := del s.rt i } i)) (d := (i, q.e.tag, q.e.op, r, v, false)) PC (hD k rfl) hn2 (hF1.forget i) hF.mm) fun _ => ?_
  refine nq <| J_seq <| J_seq <| J_drawL none mixed <| ip 0 rfl rfl rfl rfl (p_move rfl) <| iv 2 rfl rfl rfl rfl (fun _ => v_loadA rfl ty36 HS CT) ?_
  refine I_ready (rs := [1, 7]) SI (by kernel_rfl) (by simp) ?_
  refine (I_cons rfl ?_ (I_cons rfl ?_ I_nil))
  refine xc fc16 (.cons rfl .nil) rfl (coReqs) fun _ => I_ready (rs := [3, 7]) SI (by kernel_rfl) (by simp) ?_
  refine (I_cons rfl ?_ (I_cons rfl ?_ I_nil))
  refine xc fc122 (.cons rfl (.cons rfl .nil)) rfl (coRqAfter (s := (kTell (kDec k) (kForget { s with rt := del s.rt i } i) (i, q.e.tag, q.e.op, r, v, false))) (i := i) PC hF3.1.ids (by have := hF3.1.jn; have := hF3.1.mm; omega)) fun _ => ?_
  refine ip 4 rfl rfl rfl rfl (p_move rfl) <| ip 5 rfl rfl rfl rfl (p_extract rfl rfl) <| ip 6 rfl rfl rfl rfl (p_extract rfl rfl) <| i1 7 rfl <| x_alloc ty122 rfl fun b11 => i1 8 rfl <| x_store rfl rfl ty122 rfl SM SM RO PT ?_
  refine ip 9 rfl rfl rfl rfl (p_assign rfl) <| i0 <| qx <| mv rfl rfl <| mv rfl rfl ?_
  refine J_gsplit (t := 49) rfl (fun h49 => ?_) (fun h49 => ?_)
  obtain ⟨x, haf⟩ : ∃ x, afterQ (kTell (kDec k) (kForget { s with rt := del s.rt i } i) (i, q.e.tag, q.e.op, r, v, false)).rt i = some x := by
   cases hz : afterQ (kTell (kDec k) (kForget { s with rt := del s.rt i } i) (i, q.e.tag, q.e.op, r, v, false)).rt i with
   | none => rw [hz] at h49; simp at h49
   | some x => exact ⟨x, rfl⟩
  refine J_pick (A := blk b11 _ _) PC ?_
  refine J_asTo (B := blk b11 122 (encQ x)) (by rw [haf]; rfl) <| L_op <| G_on rfl rfl rfl <| J_pur (p_fieldAddr rfl fa122_3) rfl rfl rfl <| L_op <| G_on rfl rfl rfl <| J_val (v_load rfl ty4 HS (by exact rfl)) rfl rfl rfl ?_
  refine L_pur rfl (p_pick_t rfl rfl) <| mv rfl rfl ?_
  refine J_gsplit (t := 53) rfl (fun h53 => ?_) (fun h53 => ?_)
  refine L_op <| G_on rfl rfl rfl <| J_pur (p_move rfl) rfl rfl rfl <| L_op <| G_on rfl rfl rfl <| J_pur (p_lss rfl rfl) rfl rfl rfl <| L_pur rfl (p_pick_t rfl rfl) <| nq ?_
  refine C_dec rfl (fun h56 => ?_) (fun h56 => ?_)
  refine J_region <| mv rfl rfl <| fa rfl rfl fa122_0 <| L_val rfl (v_loadA rfl ty36 HS CT) ?_
  refine L_op <| xc fc72 (.cons rfl (.cons rfl (.cons rfl (.cons rfl .nil)))) rfl (hD k rfl _ _ _ p (kTell (kDec k) (kForget { s with rt := del s.rt i } i) (i, q.e.tag, q.e.op, r, v, false)) x.id (-9) 0 PC (Nat.le_trans hF3.2 hn2) hF3.1) fun _ => ?_
  refine nx <| ag rfl rfl <| nq <| J_ret <| J_pick (A := coA p _) PC ?_
  refine J_asTo (B := coA p (kDec (k + 1) s i r v)) (by rw [kDec, hq]; simp only [haf]; rw [if_pos ⟨h53, h56⟩]) ?_
  exact J_return (()) Tryz.results72 (.tmp rfl .nil) rfl SU
  refine J_skip <| qx <| ag rfl rfl <| nq <| J_ret <| J_pick (A := coA p _) PC ?_
  refine J_asTo (B := coA p (kDec (k + 1) s i r v)) (by rw [kDec, hq]; simp only [haf]; rw [if_neg (by intro hc; simp_all)]) ?_
  exact J_return (()) Tryz.results72 (.tmp rfl .nil) rfl SU
  refine L_op <| G_off rfl rfl rfl rfl rfl rfl <| L_op <| G_off rfl rfl rfl rfl rfl rfl <| L_pur rfl (p_pick_f rfl rfl) <| nq <| C_false rfl <| J_skip ?_
  refine qx <| ag rfl rfl <| nq <| J_ret <| J_pick (A := coA p _) PC ?_
  refine J_asTo (B := coA p (kDec (k + 1) s i r v)) (by rw [kDec, hq]; simp only [haf]; rw [if_neg (by intro hc; simp_all)]) ?_
  exact J_return (()) Tryz.results72 (.tmp rfl .nil) rfl SU
  have haf : afterQ (kTell (kDec k) (kForget { s with rt := del s.rt i } i) (i, q.e.tag, q.e.op, r, v, false)).rt i = none := by
   cases hz : afterQ (kTell (kDec k) (kForget { s with rt := del s.rt i } i) (i, q.e.tag, q.e.op, r, v, false)).rt i with
   | none => rfl
   | some x => rw [hz] at h49; simp at h49
  refine L_op <| G_off rfl rfl rfl rfl rfl rfl <| L_op <| G_off rfl rfl rfl rfl rfl rfl <| L_pur rfl (p_pick_f rfl rfl) <| mv rfl rfl <| L_op <| G_off rfl rfl rfl rfl rfl rfl ?_
  refine L_op <| G_off rfl rfl rfl rfl rfl rfl <| L_pur rfl (p_pick_f rfl rfl) <| nq <| C_false rfl <| J_skip <| qx <| ag rfl rfl ?_
  refine nq <| J_ret <| J_pick (A := coA p _) PC ?_
  refine J_asTo (B := coA p (kDec (k + 1) s i r v)) (by rw [kDec, hq]; simp only [haf]) ?_
  exact J_return (()) Tryz.results72 (.tmp rfl .nil) rfl SU
  refine x_alloc ty122 rfl fun b11 => i1 3 rfl <| xc fc122 (.cons rfl (.cons rfl .nil)) rfl (coRqAfter (s := (kTell (kDec k) (kForget { s with rt := del s.rt i } i) (i, q.e.tag, q.e.op, r, v, false))) (i := i) PC hF3.1.ids (by have := hF3.1.jn; have := hF3.1.mm; omega)) fun _ => ?_
  refine ip 4 rfl rfl rfl rfl (p_move rfl) <| ip 5 rfl rfl rfl rfl (p_extract rfl rfl) <| ip 6 rfl rfl rfl rfl (p_extract rfl rfl) <| i1 8 rfl <| x_store rfl rfl ty122 rfl SM SM RO PT ?_
  refine ip 9 rfl rfl rfl rfl (p_assign rfl) <| i0 <| qx <| mv rfl rfl <| mv rfl rfl ?_
  refine J_gsplit (t := 49) rfl (fun h49 => ?_) (fun h49 => ?_)
  obtain ⟨x, haf⟩ : ∃ x, afterQ (kTell (kDec k) (kForget { s with rt := del s.rt i } i) (i, q.e.tag, q.e.op, r, v, false)).rt i = some x := by
   cases hz : afterQ (kTell (kDec k) (kForget { s with rt := del s.rt i } i) (i, q.e.tag, q.e.op, r, v, false)).rt i with
   | none => rw [hz] at h49; simp at h49
   | some x => exact ⟨x, rfl⟩
  refine J_pick (A := blk b11 _ _) PC ?_
  refine J_asTo (B := blk b11 122 (encQ x)) (by rw [haf]; rfl) <| L_op <| G_on rfl rfl rfl <| J_pur (p_fieldAddr rfl fa122_3) rfl rfl rfl <| L_op <| G_on rfl rfl rfl <| J_val (v_load rfl ty4 HS (by exact rfl)) rfl rfl rfl ?_
  refine L_pur rfl (p_pick_t rfl rfl) <| mv rfl rfl ?_
  refine J_gsplit (t := 53) rfl (fun h53 => ?_) (fun h53 => ?_)
  refine L_op <| G_on rfl rfl rfl <| J_pur (p_move rfl) rfl rfl rfl <| L_op <| G_on rfl rfl rfl <| J_pur (p_lss rfl rfl) rfl rfl rfl <| L_pur rfl (p_pick_t rfl rfl) <| nq ?_
  refine C_dec rfl (fun h56 => ?_) (fun h56 => ?_)
  refine J_region <| mv rfl rfl <| fa rfl rfl fa122_0 <| L_val rfl (v_loadA rfl ty36 HS CT) ?_
  refine L_op <| xc fc72 (.cons rfl (.cons rfl (.cons rfl (.cons rfl .nil)))) rfl (hD k rfl _ _ _ p (kTell (kDec k) (kForget { s with rt := del s.rt i } i) (i, q.e.tag, q.e.op, r, v, false)) x.id (-9) 0 PC (Nat.le_trans hF3.2 hn2) hF3.1) fun _ => ?_
  refine nx <| ag rfl rfl <| nq <| J_ret <| J_pick (A := coA p _) PC ?_
  refine J_asTo (B := coA p (kDec (k + 1) s i r v)) (by rw [kDec, hq]; simp only [haf]; rw [if_pos ⟨h53, h56⟩]) ?_
  exact J_return (()) Tryz.results72 (.tmp rfl .nil) rfl SU
  refine J_skip <| qx <| ag rfl rfl <| nq <| J_ret <| J_pick (A := coA p _) PC ?_
  refine J_asTo (B := coA p (kDec (k + 1) s i r v)) (by rw [kDec, hq]; simp only [haf]; rw [if_neg (by intro hc; simp_all)]) ?_
  exact J_return (()) Tryz.results72 (.tmp rfl .nil) rfl SU
  refine L_op <| G_off rfl rfl rfl rfl rfl rfl <| L_op <| G_off rfl rfl rfl rfl rfl rfl <| L_pur rfl (p_pick_f rfl rfl) <| nq <| C_false rfl <| J_skip ?_
  refine qx <| ag rfl rfl <| nq <| J_ret <| J_pick (A := coA p _) PC ?_
  refine J_asTo (B := coA p (kDec (k + 1) s i r v)) (by rw [kDec, hq]; simp only [haf]; rw [if_neg (by intro hc; simp_all)]) ?_
  exact J_return (()) Tryz.results72 (.tmp rfl .nil) rfl SU
  have haf : afterQ (kTell (kDec k) (kForget { s with rt := del s.rt i } i) (i, q.e.tag, q.e.op, r, v, false)).rt i = none := by
   cases hz : afterQ (kTell (kDec k) (kForget { s with rt := del s.rt i } i) (i, q.e.tag, q.e.op, r, v, false)).rt i with
   | none => rfl
   | some x => rw [hz] at h49; simp at h49
  refine L_op <| G_off rfl rfl rfl rfl rfl rfl <| L_op <| G_off rfl rfl rfl rfl rfl rfl <| L_pur rfl (p_pick_f rfl rfl) <| mv rfl rfl <| L_op <| G_off rfl rfl rfl rfl rfl rfl ?_
  refine L_op <| G_off rfl rfl rfl rfl rfl rfl <| L_pur rfl (p_pick_f rfl rfl) <| nq <| C_false rfl <| J_skip <| qx <| ag rfl rfl ?_
  refine nq <| J_ret <| J_pick (A := coA p _) PC ?_
  refine J_asTo (B := coA p (kDec (k + 1) s i r v)) (by rw [kDec, hq]; simp only [haf]) ?_
  exact J_return (()) Tryz.results72 (.tmp rfl .nil) rfl SU
  refine x_alloc ty122 rfl fun b11 => i1 1 rfl <| xc fc16 (.cons rfl .nil) rfl (coReqs) fun _ => i1 3 rfl <| xc fc122 (.cons rfl (.cons rfl .nil)) rfl (coRqAfter (s := (kTell (kDec k) (kForget { s with rt := del s.rt i } i) (i, q.e.tag, q.e.op, r, v, false))) (i := i) PC hF3.1.ids (by have := hF3.1.jn; have := hF3.1.mm; omega)) fun _ => ?_
  refine ip 4 rfl rfl rfl rfl (p_move rfl) <| ip 5 rfl rfl rfl rfl (p_extract rfl rfl) <| ip 6 rfl rfl rfl rfl (p_extract rfl rfl) <| i1 8 rfl <| x_store rfl rfl ty122 rfl SM SM RO PT ?_
  refine ip 9 rfl rfl rfl rfl (p_assign rfl) <| i0 <| qx <| mv rfl rfl <| mv rfl rfl ?_
  refine J_gsplit (t := 49) rfl (fun h49 => ?_) (fun h49 => ?_)
  obtain ⟨x, haf⟩ : ∃ x, afterQ (kTell (kDec k) (kForget { s with rt := del s.rt i } i) (i, q.e.tag, q.e.op, r, v, false)).rt i = some x := by
   cases hz : afterQ (kTell (kDec k) (kForget { s with rt := del s.rt i } i) (i, q.e.tag, q.e.op, r, v, false)).rt i with
   | none => rw [hz] at h49; simp at h49
   | some x => exact ⟨x, rfl⟩
  refine J_pick (A := blk b11 _ _) PC ?_
  refine J_asTo (B := blk b11 122 (encQ x)) (by rw [haf]; rfl) <| L_op <| G_on rfl rfl rfl <| J_pur (p_fieldAddr rfl fa122_3) rfl rfl rfl <| L_op <| G_on rfl rfl rfl <| J_val (v_load rfl ty4 HS (by exact rfl)) rfl rfl rfl ?_
  refine L_pur rfl (p_pick_t rfl rfl) <| mv rfl rfl ?_
  refine J_gsplit (t := 53) rfl (fun h53 => ?_) (fun h53 => ?_)
  refine L_op <| G_on rfl rfl rfl <| J_pur (p_move rfl) rfl rfl rfl <| L_op <| G_on rfl rfl rfl <| J_pur (p_lss rfl rfl) rfl rfl rfl <| L_pur rfl (p_pick_t rfl rfl) <| nq ?_
  refine C_dec rfl (fun h56 => ?_) (fun h56 => ?_)
  refine J_region <| mv rfl rfl <| fa rfl rfl fa122_0 <| L_val rfl (v_loadA rfl ty36 HS CT) ?_
  refine L_op <| xc fc72 (.cons rfl (.cons rfl (.cons rfl (.cons rfl .nil)))) rfl (hD k rfl _ _ _ p (kTell (kDec k) (kForget { s with rt := del s.rt i } i) (i, q.e.tag, q.e.op, r, v, false)) x.id (-9) 0 PC (Nat.le_trans hF3.2 hn2) hF3.1) fun _ => ?_
  refine nx <| ag rfl rfl <| nq <| J_ret <| J_pick (A := coA p _) PC ?_
  refine J_asTo (B := coA p (kDec (k + 1) s i r v)) (by rw [kDec, hq]; simp only [haf]; rw [if_pos ⟨h53, h56⟩]) ?_
  exact J_return (()) Tryz.results72 (.tmp rfl .nil) rfl SU
  refine J_skip <| qx <| ag rfl rfl <| nq <| J_ret <| J_pick (A := coA p _) PC ?_
  refine J_asTo (B := coA p (kDec (k + 1) s i r v)) (by rw [kDec, hq]; simp only [haf]; rw [if_neg (by intro hc; simp_all)]) ?_
  exact J_return (()) Tryz.results72 (.tmp rfl .nil) rfl SU
  refine L_op <| G_off rfl rfl rfl rfl rfl rfl <| L_op <| G_off rfl rfl rfl rfl rfl rfl <| L_pur rfl (p_pick_f rfl rfl) <| nq <| C_false rfl <| J_skip ?_
  refine qx <| ag rfl rfl <| nq <| J_ret <| J_pick (A := coA p _) PC ?_
  refine J_asTo (B := coA p (kDec (k + 1) s i r v)) (by rw [kDec, hq]; simp only [haf]; rw [if_neg (by intro hc; simp_all)]) ?_
  exact J_return (()) Tryz.results72 (.tmp rfl .nil) rfl SU
  have haf : afterQ (kTell (kDec k) (kForget { s with rt := del s.rt i } i) (i, q.e.tag, q.e.op, r, v, false)).rt i = none := by
   cases hz : afterQ (kTell (kDec k) (kForget { s with rt := del s.rt i } i) (i, q.e.tag, q.e.op, r, v, false)).rt i with
   | none => rfl
   | some x => rw [hz] at h49; simp at h49
  refine L_op <| G_off rfl rfl rfl rfl rfl rfl <| L_op <| G_off rfl rfl rfl rfl rfl rfl <| L_pur rfl (p_pick_f rfl rfl) <| mv rfl rfl <| L_op <| G_off rfl rfl rfl rfl rfl rfl ?_
  refine L_op <| G_off rfl rfl rfl rfl rfl rfl <| L_pur rfl (p_pick_f rfl rfl) <| nq <| C_false rfl <| J_skip <| qx <| ag rfl rfl ?_
  refine nq <| J_ret <| J_pick (A := coA p _) PC ?_
  refine J_asTo (B := coA p (kDec (k + 1) s i r v)) (by rw [kDec, hq]; simp only [haf]) ?_
  exact J_return (()) Tryz.results72 (.tmp rfl .nil) rfl SU
theorem decC : ∀ n N M, DecC n N M
  | 0, N, M => fun E l m p s i r v hp hn hF => coDecStep hp (fun k h => by cases h) hn hF
  | n + 1, N, M => fun E l m p s i r v hp hn hF => coDecStep hp (fun k h => by cases h; exact decC n N M) hn hF
theorem coDecide {E : World} {l m : List As} {p : Nat} {s : KS} (hp : Pick (coA p s) l m) {N M : Nat} {i : ID} {r v : Int} (hF : Fits s N M) : Con Tryz.prog 72 #[.pointer (some ⟨p, 0, none⟩), .agg (encI i).toArray, .int .i64 r, .int .u32 v] E l (fun _ : Unit => .bool (look s.rt i).isSome) (fun _ => coA p (kDec s.rt.length s i r v) :: m) := decC s.rt.length N M E l m p s i r v hp (Nat.le_refl _) hF
end Go.Pse
namespace Go.Pse
open Go.RowKit Go.Proofs
/-! ### plain: a ring that has room -/
def Rdy (s : KS) (g c t : Int) : Prop := ∃ b r, look s.rg g = some (b, r) ∧ r.over = [] ∧ r.tail = t ∧ r.cb = 4 ∧ r.cq = c ∧ getN (rowAt s.mem c) 0 4 = 0
theorem getN_far {bs ys : List Int} {a : Nat} (h : 4 ≤ a) (hl : a ≤ bs.length) : getN (putB bs a ys) 0 4 = getN bs 0 4 := by
  have e : ∀ k, k < 4 → byteAt (putB bs a ys) (0 + k) = byteAt bs (0 + k) := fun k hk => by
    unfold byteAt putB
    rw [List.append_assoc, List.getElem?_append_left (by simp; omega), List.getElem?_take_of_lt (by omega)]
  simp only [getN, e 0 (by omega), e 1 (by omega), e 2 (by omega), e 3 (by omega)]
theorem getN_row {r : Rg} {ms : List (List Int)} (hr : RgOk r) (hM : MemOk ms) (c : Cqe) : getN (rgRow r ms c) 0 4 = getN (rowAt ms r.cq) 0 4 := by
  obtain ⟨h1, h2, h3⟩ := hM.at hr.cq
  have h4 := place_in hr
  unfold rgRow
  rw [getN_far (by omega) (by rw [putB_len (by rw [bytesX_len]; omega), h2]; omega), getN_far (by omega) (by rw [h2]; omega)]
theorem rowAt_set {ms : List (List Int)} {u c : Int} {x : List Int} (hu : 1 ≤ u ∧ u ≤ 64) (hc : 1 ≤ c) (hl : ms.length = 64) : rowAt (ms.set (u - 1).toNat x) c = if c = u then x else rowAt ms c := by
  unfold rowAt
  by_cases h : c = u
  · subst h; rw [if_pos rfl, List.getElem?_set_self (by omega)]; rfl
  · rw [if_neg h, List.getElem?_set_ne (by omega)]
theorem rdy_ok {r : Rg} {ms : List (List Int)} {t : Int} (h1 : r.over = []) (h2 : r.tail = t) (h3 : r.cb = 4) (h4 : getN (rowAt ms r.cq) 0 4 = 0) (ht : 0 ≤ t ∧ t < 16) : postOk r ms = true := by
  unfold postOk rgWrOk rgFar
  rw [h1, h2, h3, h4, Int.sub_zero, wrap32u_of (by omega)]
  simp only [List.isEmpty_nil, Bool.true_and, decide_eq_true_eq]
  show t < 2 ^ 4
  omega
theorem look_updO {α : Type} {u g : Int} {f : α → α} : ∀ {xs : List (Int × Nat × α)}, look (updO xs u f) g = (look xs g).map fun x => if g = u then (x.1, f x.2) else x
  | [] => rfl
  | x :: xs => by
    unfold updO
    rw [List.map_cons, look_cons, look_cons, show List.map _ xs = updO xs u f from rfl, look_updO]
    by_cases hx : x.1 = u
    · rw [if_pos hx]
      by_cases hg : x.1 = g
      · simp [hg, hg ▸ hx]
      · simp [hg]
    · rw [if_neg hx]
      by_cases hg : x.1 = g
      · have : ¬ g = u := fun e => hx (hg.trans e)
        simp [hg, this]
      · simp [hg]
theorem kPost_some {s : KS} {d : Deed} {b : Nat} {r : Rg} (h : look s.rg d.1.1 = some (b, r)) : kPost s d = { s with rg := updO s.rg d.1.1 (fun r => postR r s.mem (ofD d)), mem := postM r s.mem (ofD d) } := by
  unfold kPost; rw [h]
theorem kPost_rg {s : KS} {d : Deed} {b : Nat} {r : Rg} (h : look s.rg d.1.1 = some (b, r)) : (kPost s d).rg = updO s.rg d.1.1 (fun r => postR r s.mem (ofD d)) := by rw [kPost_some h]
theorem Rdy.post {s : KS} {N M : Nat} (hF : Fits s N M) {g c t : Int} (h : Rdy s g c t) (ht : 0 ≤ t ∧ t < 16) {d : Deed} (hd : d.1.1 = g) : Rdy (kPost s d) g c (t + 1) := by
  subst hd
  obtain ⟨b, r, h1, h2, h3, h4, h5, h6⟩ := h
  have hro := (hF.rg _ (mem_look h1)).1
  have hr : RgOk r := hro
  have hok := rdy_ok (ms := s.mem) h2 h3 h4 (by rw [h5]; exact h6) ht
  refine ⟨b, rgUp r, ?_, h2, ?_, h4, h5, ?_⟩
  · rw [kPost_rg h1, look_updO, h1]
    simp [postR, hok]
  · show IntKind.u32.wrap (r.tail + 1) = _
    rw [h3, wrap32u_of (by omega)]
  · rw [kPost_some h1]
    show getN (rowAt (postM r s.mem (ofD d)) c) 0 4 = 0
    unfold postM
    rw [hok, if_pos rfl, ← h5, rowAt_set hr.cq hr.cq.1 hF.mem.len, if_pos rfl, getN_row hr hF.mem, h5, h6]
theorem Rdy.other {s : KS} {N M : Nat} (hF : Fits s N M) {g c t g2 c2 t2 : Int} (h : Rdy s g c t) (h2 : Rdy s g2 c2 t2) (hg : g ≠ g2) (hc : c ≠ c2) {d : Deed} (hd : d.1.1 = g2) : Rdy (kPost s d) g c t := by
  subst hd
  obtain ⟨b, r, h1, e2, e3, e4, e5, e6⟩ := h
  obtain ⟨b2, r2, k1, _, _, _, k5, _⟩ := h2
  have hr : RgOk r := (hF.rg _ (mem_look h1)).1
  have hr2 : RgOk r2 := (hF.rg _ (mem_look k1)).1
  refine ⟨b, r, ?_, e2, e3, e4, e5, ?_⟩
  · rw [kPost_rg k1, look_updO, h1]
    simp [hg]
  · rw [kPost_some k1]
    show getN (rowAt (postM r2 s.mem (ofD d)) c) 0 4 = 0
    unfold postM
    split
    · rw [rowAt_set hr2.cq (by have := hr.cq; omega) hF.mem.len, if_neg (by rw [k5]; exact hc)]; exact e6
    · exact e6
def kNext (D : KS → ID → Int → Int → KS) (s : KS) (i : ID) (r : Int) : KS := match afterQ s.rt i with
  | none => s
  | some x => if x.soft = true ∧ r < 0 then D s x.id (-9) 0 else s
theorem kDec_some {n : Nat} {s : KS} {i : ID} {r v : Int} {q : Rq} (hq : look s.rt i = some q) : kDec (n + 1) s i r v = kNext (kDec n) (kTell (kDec n) (kForget { s with rt := del s.rt i } i) (i, q.e.tag, q.e.op, r, v, false)) i r := by
  rw [kDec, hq]
  simp only []
  generalize kTell (kDec n) (kForget { s with rt := del s.rt i } i) (i, q.e.tag, q.e.op, r, v, false) = t
  unfold kNext
  cases afterQ t.rt i <;> rfl
/-! ### plain: a row of requests, each on the one ahead -/
section
variable {soft : List Bool} {a j n : Nat}
end
end Go.Pse
namespace Go.Pse
open Go.RowKit Go.ChangeShapes Go.WideShapes Go.Deep
inductive Leaf where
  | int (k : IntKind)
  | bool
def Leaf.ok : Leaf → Value → Prop
  | .int k, v => ∃ n, v = .int k n ∧ k.min ≤ n ∧ n ≤ k.max
  | .bool, v => ∃ b, v = .bool b
def Shape : List Leaf → List Value → Prop
  | [], [] => True
  | k :: ks, v :: vs => k.ok v ∧ Shape ks vs
  | _, _ => False
def leafFs (P : Program) (lv : TypeId → Option (List Leaf)) : List Field → Nat → Option (List Leaf)
  | [], _ => some []
  | f :: fs, o => match lv f.type with
    | some ks => if f.offset = o ∧ P.cellsOf f.type = ks.length then (match leafFs P lv fs (o + ks.length) with
      | some r => some (ks ++ r)
      | none => none) else none
    | none => none
def leaves (P : Program) : Nat → TypeId → Option (List Leaf)
  | 0, _ => none
  | n + 1, t => match P.underlying t with
    | some (.int k) => some [.int k]
    | some .bool => some [.bool]
    | some (.struct fs) => leafFs P (leaves P n) fs.toList 0
    | _ => none
theorem Shape.nil_inv {vs : List Value} (h : Shape [] vs) : vs = [] := by
  cases vs with
  | nil => rfl
  | cons v vs => exact h.elim
theorem Shape.cons_inv {k : Leaf} {ks : List Leaf} {vs : List Value} (h : Shape (k :: ks) vs) : ∃ v vs', vs = v :: vs' ∧ k.ok v ∧ Shape ks vs' := by
  cases vs with
  | nil => exact h.elim
  | cons v vs => exact ⟨v, vs, rfl, h.1, h.2⟩
theorem Shape.length : ∀ {ks : List Leaf} {vs : List Value}, Shape ks vs → vs.length = ks.length
  | [], vs, h => by rw [h.nil_inv]; rfl
  | _ :: _, _, h => by obtain ⟨v, vs', rfl, _, h'⟩ := h.cons_inv; simp [h'.length]
theorem Shape.append : ∀ {ks ks' : List Leaf} {vs vs' : List Value}, Shape ks vs → Shape ks' vs' → Shape (ks ++ ks') (vs ++ vs')
  | [], _, vs, _, h, h' => by rw [h.nil_inv]; exact h'
  | _ :: _, _, _, _, h, h' => by obtain ⟨v, ws, rfl, hv, h2⟩ := h.cons_inv; exact ⟨hv, h2.append h'⟩
theorem Shape.ones : ∀ {ks : List Leaf} {vs : List Value}, Shape ks vs → ones vs = true
  | [], vs, h => by rw [h.nil_inv]; rfl
  | k :: _, _, h => by
    obtain ⟨v, ws, rfl, hv, h2⟩ := h.cons_inv
    have h3 : v.oneCell' = true := by
      cases k with
      | int k => obtain ⟨n, rfl, _⟩ := hv; rfl
      | bool => obtain ⟨b, rfl⟩ := hv; rfl
    have h4 := h2.ones
    unfold Pse.ones at h4 ⊢
    simp [h3, h4]
section
variable {H : Type} {enc : TypeId × Value → H} {P : Program} {W : World} {base b0 : Nat} {spare : Nat → Bool} {held : Bool}
end
end Go.Pse
namespace Go.Pse
open Go.RowKit Go.Proofs
theorem zrow_ok : MemOk (List.replicate 64 zrow) := ⟨List.length_replicate, fun r hr => by
  rw [List.eq_of_mem_replicate hr]
  exact ⟨List.length_replicate, fun x hx => by rw [List.eq_of_mem_replicate hx]; omega⟩⟩
theorem rowAt_zero {u : Int} (hu : 1 ≤ u ∧ u ≤ 64) : rowAt (List.replicate 64 zrow) u = zrow := by
  unfold rowAt
  rw [List.getElem?_replicate, if_pos (by omega)]; rfl
structure One (K : KS) (cs cc : Int) (g : NewG) : Prop where
  rt : K.rt = []
  jn : K.jn = []
  nt : K.nt = []
  rg : K.rg = [(4, (g.bs 0).1, rgNew 5 6 cs cc)]
  mem : K.mem = List.replicate 64 zrow
  fit : Fits K 20 40
end Go.Pse
namespace Go.Pse
open Go.RowKit Go.Proofs
def ntW (i : ID) (a : Int × List ID) : Int × List ID := (0, waitL a.1 a.2 i)
/-! ### plain: two threads that share; the first ring's requests -/
end Go.Pse
namespace Go.Pse
open Go.RowKit Go.Proofs
/-! ### plain: deadlines -/
def cmpI (a b : Int) : Int := if a < b then -1 else if b < a then 1 else 0
def orI (zs : List Int) : Int := (zs.find? fun z => !decide (z = 0)).getD 0
def ordT (a b : Tm) : Int := orI [cmpI a.1 b.1, cmpI a.2.1 b.2.1, cmpI a.2.2 b.2.2]
def ltI (a b : ID) : Bool := decide (a.1 < b.1) || decide (a.1 = b.1) && decide (a.2 < b.2)
def ltT (a b : Tm) : Bool := decide (a.1 < b.1) || decide (a.1 = b.1) && ltI a.2 b.2
theorem cmpI_cases (a b : Int) : (a < b ∧ cmpI a b = -1) ∨ (b < a ∧ cmpI a b = 1) ∨ (a = b ∧ cmpI a b = 0) := by
  unfold cmpI
  by_cases h1 : a < b
  · exact .inl ⟨h1, by simp [h1]⟩
  · by_cases h2 : b < a
    · exact .inr (.inl ⟨h2, by simp [h1, h2]⟩)
    · exact .inr (.inr ⟨by omega, by simp [h1, h2]⟩)
theorem ordT_neg (a b : Tm) : decide (ordT a b < 0) = ltT a b := by
  unfold ordT ltT ltI orI
  rcases cmpI_cases a.1 b.1 with ⟨h1, e1⟩ | ⟨h1, e1⟩ | ⟨h1, e1⟩ <;> rw [e1]
  · simp [h1]
  · have n1 : ¬ a.1 < b.1 := by omega
    have n2 : ¬ a.1 = b.1 := by omega
    simp [n1, n2]
  · have n1 : ¬ a.1 < b.1 := by omega
    rcases cmpI_cases a.2.1 b.2.1 with ⟨h2, e2⟩ | ⟨h2, e2⟩ | ⟨h2, e2⟩ <;> rw [e2]
    · simp [h1, h2]
    · have m1 : ¬ a.2.1 < b.2.1 := by omega
      have m2 : ¬ a.2.1 = b.2.1 := by omega
      simp [h1, m1, m2]
    · have m1 : ¬ a.2.1 < b.2.1 := by omega
      rcases cmpI_cases a.2.2 b.2.2 with ⟨h3, e3⟩ | ⟨h3, e3⟩ | ⟨h3, e3⟩ <;> rw [e3]
      · simp [h1, h2, h3]
      · have k1 : ¬ a.2.2 < b.2.2 := by omega
        simp [h1, h2, k1]
      · have k1 : ¬ a.2.2 < b.2.2 := by omega
        simp [h1, h2, k1]
theorem ltT_iff {a b : Tm} : ltT a b = true ↔ a.1 < b.1 ∨ (a.1 = b.1 ∧ (a.2.1 < b.2.1 ∨ (a.2.1 = b.2.1 ∧ a.2.2 < b.2.2))) := by
  unfold ltT ltI; simp
theorem ltT_trans {a b c : Tm} (h1 : ltT a b = true) (h2 : ltT b c = true) : ltT a c = true := by
  rw [ltT_iff] at *; omega
theorem ltT_total {a b : Tm} (h : ltT a b = false) (hne : a.2 ≠ b.2) : ltT b a = true := by
  have h' : ¬ ltT a b = true := by simp [h]
  rw [ltT_iff] at *
  have : ¬ (a.2.1 = b.2.1 ∧ a.2.2 = b.2.2) := fun e => hne (Prod.ext e.1 e.2)
  omega
abbrev hdrop (xs : List Tm) (i : ID) : List Tm := xs.filter fun c => !isTm i c
def place (xs : List Tm) (x : Tm) : Nat := (xs.takeWhile fun c => ltT c x).length
def putT (xs : List Tm) (x : Tm) : List Tm := xs.take (place xs x) ++ x :: xs.drop (place xs x)
def hpush (xs : List Tm) (x : Tm) : List Tm := putT (hdrop xs x.2) x
def Srt (xs : List Tm) : Prop := xs.Pairwise fun a b => ltT a b = true
theorem place_le (xs : List Tm) (x : Tm) : place xs x ≤ xs.length := by
  unfold place
  induction xs with
  | nil => simp
  | cons c xs ih => rw [List.takeWhile_cons]; split <;> simp <;> omega
theorem place_iff {x : Tm} : ∀ {xs : List Tm}, Srt xs → ∀ {j : Nat} {c : Tm}, xs[j]? = some c → (ltT c x = true ↔ j < place xs x)
  | [], _, _, _, h => by simp at h
  | a :: xs, hs, j, c, h => by
    have hs' := List.pairwise_cons.1 hs
    unfold place
    rw [List.takeWhile_cons]
    by_cases ha : ltT a x = true
    · rw [if_pos ha]
      cases j with
      | zero => simp at h; subst h; simp [ha]
      | succ j =>
        have := place_iff (x := x) hs'.2 (j := j) (c := c) (by simpa using h)
        unfold place at this
        rw [this]
        simp
    · rw [if_neg ha]
      cases j with
      | zero => simp at h; subst h; simp [ha]
      | succ j =>
        have hc : c ∈ xs := List.mem_of_getElem? (by simpa using h : xs[j]? = some c)
        have h1 := hs'.1 c hc
        constructor
        · intro h2; exact absurd (ltT_trans h1 h2) ha
        · intro h2; simp at h2
theorem Srt.drop {xs : List Tm} (h : Srt xs) (i : ID) : Srt (hdrop xs i) := List.Pairwise.sublist List.filter_sublist h
theorem Srt.tail {xs : List Tm} (h : Srt xs) (j : Nat) : Srt (xs.drop j) := List.Pairwise.sublist (List.drop_sublist j xs) h
theorem hdrop_ne {xs : List Tm} {i : ID} {c : Tm} (h : c ∈ hdrop xs i) : c.2 ≠ i := by
  unfold hdrop at h
  rw [List.mem_filter, isTm_eq] at h
  simpa using h.2
theorem Srt.put {xs : List Tm} {x : Tm} (h : Srt xs) (hne : ∀ c ∈ xs, c.2 ≠ x.2) : Srt (putT xs x) := by
  have hi := fun {j : Nat} {c : Tm} => place_iff (x := x) h (j := j) (c := c)
  unfold putT Srt
  have hle := place_le xs x
  have hta : ∀ a ∈ xs.take (place xs x), ltT a x = true := fun a ha => by
    obtain ⟨j, hj⟩ := List.mem_iff_getElem?.1 ha
    rw [List.getElem?_take] at hj
    split at hj
    · exact (hi hj).2 (by assumption)
    · cases hj
  have hdr : ∀ b ∈ xs.drop (place xs x), ltT x b = true := fun b hb => by
    obtain ⟨j, hj⟩ := List.mem_iff_getElem?.1 hb
    rw [List.getElem?_drop] at hj
    have hn : ¬ ltT b x = true := fun e => by have := (hi hj).1 e; omega
    exact ltT_total (by simpa using hn) (hne b (List.mem_of_getElem? hj))
  rw [List.pairwise_append]
  refine ⟨List.Pairwise.sublist (List.take_sublist _ _) h, ?_, ?_⟩
  · rw [List.pairwise_cons]
    exact ⟨hdr, List.Pairwise.sublist (List.drop_sublist _ _) h⟩
  · intro a ha b hb
    rcases List.mem_cons.1 hb with rfl | hb
    · exact hta a ha
    · exact ltT_trans (hta a ha) (hdr b hb)
theorem Srt.push {xs : List Tm} (h : Srt xs) (x : Tm) : Srt (hpush xs x) := (h.drop x.2).put fun _ hc => hdrop_ne hc
theorem hdrop_len (xs : List Tm) (i : ID) : (hdrop xs i).length ≤ xs.length := List.length_filter_le _ _
def due (xs : List Tm) (now : Int) : List Tm := xs.takeWhile fun c => decide (c.1 ≤ now)
def late (xs : List Tm) (now : Int) : List Tm := xs.dropWhile fun c => decide (c.1 ≤ now)
theorem due_len (xs : List Tm) (now : Int) : (due xs now).length + (late xs now).length = xs.length := by
  rw [← List.length_append]; unfold due late; rw [List.takeWhile_append_dropWhile]
theorem due_at {xs : List Tm} {now : Int} {k : Nat} (hk : k ≤ xs.length) (h1 : ∀ c ∈ xs.take k, c.1 ≤ now) (h2 : ∀ c, xs[k]? = some c → ¬ c.1 ≤ now) : due xs now = xs.take k ∧ late xs now = xs.drop k := by
 induction xs generalizing k with
 | nil => simp at hk; subst hk; exact ⟨rfl, rfl⟩
 | cons a xs ih =>
  unfold due late
  rw [List.takeWhile_cons, List.dropWhile_cons]
  cases k with
  | zero =>
   have := h2 a (by simp)
   simp [this]
  | succ k =>
   have ha := h1 a (by simp)
   obtain ⟨g1, g2⟩ := ih (k := k) (by simpa using hk) (fun c hc => h1 c (by simp [hc])) (fun c hc => h2 c (by simpa using hc))
   unfold due at g1
   unfold late at g2
   simp [ha, g1, g2]
theorem isnan307 {E : World} {l : List As} (a : Int) :
    Con Tryz.prog 307 #[.int .u64 a] E l (fun _ : Unit => .bool false) (fun _ => l) := by
  refine Con.body (vs := [.int .u64 a]) (n := 6) Tryz.func307 rfl rfl [(0, .int .u64 a)] (env_ok 1 rfl) <| sr <| ag rfl rfl <| nx <| mv rfl rfl <| mv rfl rfl <| L_pur rfl (p_neq rfl rfl) <| ag rfl rfl ?_
  refine nq <| J_ret ?_
  refine J_return (()) Tryz.results307 (.tmp rfl .nil) ?_ ?_
  · simp [one]
  · exact SU
theorem isnan125 {E : World} {l : List As} (a : Int) :
    Con Tryz.prog 125 #[.int .i64 a] E l (fun _ : Unit => .bool false) (fun _ => l) := by
  refine Con.body (vs := [.int .i64 a]) (n := 6) Tryz.func125 rfl rfl [(0, .int .i64 a)] (env_ok 1 rfl) <| sr <| ag rfl rfl <| nx <| mv rfl rfl <| mv rfl rfl <| L_pur rfl (p_neq rfl rfl) <| ag rfl rfl ?_
  refine nq <| J_ret ?_
  refine J_return (()) Tryz.results125 (.tmp rfl .nil) ?_ ?_
  · simp [one]
  · exact SU
theorem compare266 {E : World} {l : List As} (a b : Int) :
    Con Tryz.prog 266 #[.int .u64 a, .int .u64 b] E l (fun _ : Unit => .int .i64 (cmpI a b)) (fun _ => l) := by
  refine Con.body (vs := [.int .u64 a, .int .u64 b]) (n := 20) Tryz.func266 rfl rfl [(0, .int .u64 a), (1, .int .u64 b)] (env_ok 2 rfl) <| sr <| ag rfl rfl <| nx <| mv rfl rfl <| L_op <| xc fc307 (.cons rfl .nil) rfl (isnan307 _) fun _ => ag rfl rfl ?_
  refine nx <| mv rfl rfl <| L_op <| xc fc307 (.cons rfl .nil) rfl (isnan307 _) fun _ => ag rfl rfl <| nxx <| mv rfl rfl <| nq ?_
  refine J_bool (t := 11) (c := false) rfl (rfl) <| C_false rfl <| J_skip <| Q_then <| J_seq <| sr <| mv rfl rfl <| nq ?_
  refine J_bool (t := 13) (c := false) rfl (rfl) <| C_false rfl <| J_skip <| Q_then <| J_seq <| sr <| mv rfl rfl <| mv rfl rfl ?_
  refine L_pur rfl (p_lss rfl rfl) <| nq ?_
  refine C_dec rfl (fun h16 => ?_) (fun h16 => ?_)
  refine sr <| ag rfl rfl <| nq <| J_ret <| Q_then_ret ?_
  refine J_return (()) Tryz.results266 (.tmp rfl .nil) ?_ ?_
  · simp [one, cmpI, h16]
  · exact SU
  refine J_skip <| Q_then <| J_seq <| sr <| mv rfl rfl <| mv rfl rfl <| L_pur rfl (p_gtr rfl rfl) <| nq ?_
  refine C_dec rfl (fun h19 => ?_) (fun h19 => ?_)
  refine sr <| ag rfl rfl <| nq <| J_ret <| Q_then_ret ?_
  refine J_return (()) Tryz.results266 (.tmp rfl .nil) ?_ ?_
  · simp [one, cmpI, h16, h19]
  · exact SU
  refine J_skip <| qx <| ag rfl rfl <| nq <| J_ret ?_
  refine J_return (()) Tryz.results266 (.tmp rfl .nil) ?_ ?_
  · simp [one, cmpI, h16, h19]
  · exact SU
theorem compare76 {E : World} {l : List As} (a b : Int) :
    Con Tryz.prog 76 #[.int .i64 a, .int .i64 b] E l (fun _ : Unit => .int .i64 (cmpI a b)) (fun _ => l) := by
  refine Con.body (vs := [.int .i64 a, .int .i64 b]) (n := 20) Tryz.func76 rfl rfl [(0, .int .i64 a), (1, .int .i64 b)] (env_ok 2 rfl) <| sr <| ag rfl rfl <| nx <| mv rfl rfl <| L_op <| xc fc125 (.cons rfl .nil) rfl (isnan125 _) fun _ => ag rfl rfl ?_
  refine nx <| mv rfl rfl <| L_op <| xc fc125 (.cons rfl .nil) rfl (isnan125 _) fun _ => ag rfl rfl <| nxx <| mv rfl rfl <| nq ?_
  refine J_bool (t := 11) (c := false) rfl (rfl) <| C_false rfl <| J_skip <| Q_then <| J_seq <| sr <| mv rfl rfl <| nq ?_
  refine J_bool (t := 13) (c := false) rfl (rfl) <| C_false rfl <| J_skip <| Q_then <| J_seq <| sr <| mv rfl rfl <| mv rfl rfl ?_
  refine L_pur rfl (p_lss rfl rfl) <| nq ?_
  refine C_dec rfl (fun h16 => ?_) (fun h16 => ?_)
  refine sr <| ag rfl rfl <| nq <| J_ret <| Q_then_ret ?_
  refine J_return (()) Tryz.results76 (.tmp rfl .nil) ?_ ?_
  · simp [one, cmpI, h16]
  · exact SU
  refine J_skip <| Q_then <| J_seq <| sr <| mv rfl rfl <| mv rfl rfl <| L_pur rfl (p_gtr rfl rfl) <| nq ?_
  refine C_dec rfl (fun h19 => ?_) (fun h19 => ?_)
  refine sr <| ag rfl rfl <| nq <| J_ret <| Q_then_ret ?_
  refine J_return (()) Tryz.results76 (.tmp rfl .nil) ?_ ?_
  · simp [one, cmpI, h16, h19]
  · exact SU
  refine J_skip <| qx <| ag rfl rfl <| nq <| J_ret ?_
  refine J_return (()) Tryz.results76 (.tmp rfl .nil) ?_ ?_
  · simp [one, cmpI, h16, h19]
  · exact SU
theorem orInts {E : World} {l : List As} {v : Value} {zs : List Int} (hr : ∀ w, Sep E w l → Reads w 1 v (zs.map encZ)) (hb : zs.length ≤ 1000) :
    Con Tryz.prog 83 #[v] E l (fun _ : Unit => .int .i64 (orI zs)) (fun _ => l) := by
  refine Con.body (vs := [v]) (n := 18) Tryz.func83 rfl rfl [(0, v)] (env_ok 1 rfl) <| J_readsB hr fun hw a cap hv h1 h2 h3 => ?_
  subst hv
  have hm : cap ≤ 9223372036854775807 := h2
  have hml : (zs.map encZ).length = zs.length := List.length_map _
  refine sr <| ag rfl rfl <| nx <| ag rfl rfl <| nxx <| mv rfl rfl <| L_pur rfl (p_len rfl Tryz.underlying55) <| mv rfl rfl ?_
  refine nq <| J_block <| J_loop (α := Nat) (fun k => k ≤ zs.length ∧ ∀ c ∈ zs.take k, (!decide (c = 0)) = false) (fun _ => l) (fun k => [(8, .int .i64 (k : Int)), (7, .int .i64 (zs.map encZ).length), (6, .slice a (zs.map encZ).length cap), (3, .int .i64 0)]) (fun k => zs.length - k) 0 ⟨by omega, by simp⟩ SU KE ?_
  intro k ⟨hk, hq⟩
  refine sr <| L_pur rfl (p_lss rfl rfl) <| nq <| J_seq ?_
  refine C_dec rfl (fun h9 => ?_) (fun h9 => ?_)
  have hlt : k < zs.length := by omega
  obtain ⟨bx, ox, rfl⟩ := h3 (by intro h; rw [h] at hml; simp at hml; omega)
  obtain ⟨c, hcc⟩ : ∃ c, zs[k]? = some c := ⟨_, List.getElem?_eq_getElem hlt⟩
  refine J_skip <| Q_then <| J_seq <| J_block <| sr <| L_pur rfl (p_indexAddr rfl rfl Tryz.underlying55 ty3 (by omega) (by omega)) ?_
  refine L_val rfl (by first | exact v_loadE1 rfl ty3 HS (by first | (simp only [Int.toNat_natCast, List.getElem?_map, hcc]; rfl) | (simp only [Int.toNat_natCast, List.getElem?_map, hcd]; rfl) | simp | rfl) | exact v_loadR1 rfl ty3 (fun w H => hr w (Sub.sep SU H)) (by first | (simp only [Int.toNat_natCast, List.getElem?_map, hcc]; rfl) | (simp only [Int.toNat_natCast, List.getElem?_map, hcd]; rfl) | simp | rfl)) ?_
  refine ag rfl rfl <| nx <| mv rfl rfl <| mv rfl rfl <| L_pur rfl (p_neq rfl rfl) <| nq ?_
  refine C_dec rfl (fun h14 => ?_) (fun h14 => ?_)
  have hor : orI zs = c := by
    unfold orI
    have e : zs = zs.take k ++ c :: zs.drop (k + 1) := by
      conv => lhs; rw [← List.take_append_drop k zs, List.drop_eq_getElem_cons hlt, (List.getElem?_eq_some_iff.1 hcc).2]
    rw [e, List.find?_append, List.find?_eq_none.2 (fun x hx => by simpa using hq x hx), List.find?_cons]
    simp [h14]
  refine sr <| mv rfl rfl <| ag rfl rfl <| nq <| J_ret <| Q_blk_ret <| Q_then_ret <| Q_then_ret ?_
  refine Q_blk_ret <| Q_then_ret ?_
  refine J_return (()) Tryz.results83 (.tmp rfl .nil) ?_ ?_
  · simp [one, hor]
  · exact SU
  refine J_skip <| Q_blk_normal <| qr <| L_pur rfl (p_add64 rfl rfl (by omega)) <| mv rfl rfl <| nq ?_
  exact J_again (k + 1) (by omega) (⟨by omega, fun c hc => by rw [List.take_add_one, hcc] at hc; rcases List.mem_append.1 hc with h | h; exact hq c h; simp at h; subst h; simpa using h14⟩) SU KE
  have hke : k = zs.length := by omega
  rw [hke, List.take_length] at hq
  have hor : orI zs = 0 := by
    unfold orI
    rw [List.find?_eq_none.2 (fun x hx => by simpa using hq x hx)]; rfl
  refine J_exit <| Q_then_exit <| Q_then_exit <| Q_blk_this <| qx <| mv rfl rfl <| ag rfl rfl <| nq ?_
  refine J_ret ?_
  refine J_return (()) Tryz.results83 (.tmp rfl .nil) ?_ ?_
  · simp [one, hor]
  · exact SU
theorem order {E : World} {l : List As} (a b : Tm) :
  Con Tryz.prog 201 #[.agg (encT a).toArray, .agg (encT b).toArray] E l (fun _ : Unit => .int .i64 (ordT a b)) (fun _ => l) := by
 refine Con.body (vs := [.agg (encT a).toArray, .agg (encT b).toArray]) (n := 26) Tryz.func201 rfl rfl [(0, .agg (encT a).toArray), (1, .agg (encT b).toArray)] (env_ok 2 rfl) <| sr <| L_op <| x_box rfl rfl rfl fun b2 => L_op <| x_box rfl rfl rfl fun b3 => ag rfl rfl <| nq ?_
 refine J_seq <| J_drawI none [blk b2 308 (encT a), blk b3 308 (encT b)] mixed <| ip 0 rfl rfl rfl rfl (p_fieldAddr rfl fa308_0) <| iv 1 rfl rfl rfl rfl (fun _ => v_load rfl ty102 HS (by exact rfl)) ?_
 refine ip 2 rfl rfl rfl rfl (p_fieldAddr rfl fa308_0) <| iv 3 rfl rfl rfl rfl (fun _ => v_load rfl ty102 HS (by exact rfl)) ?_
 refine ip 5 rfl rfl rfl rfl (p_fieldAddr rfl fa308_1) <| ip 6 rfl rfl rfl rfl (p_fieldAddr rfl fa36_0) <| iv 7 rfl rfl rfl rfl (fun _ => v_load rfl ty3 HS (by exact rfl)) ?_
 refine ip 8 rfl rfl rfl rfl (p_fieldAddr rfl fa308_1) <| ip 9 rfl rfl rfl rfl (p_fieldAddr rfl fa36_0) <| iv 10 rfl rfl rfl rfl (fun _ => v_load rfl ty3 HS (by exact rfl)) ?_
 refine ip 12 rfl rfl rfl rfl (p_fieldAddr rfl fa308_1) <| ip 13 rfl rfl rfl rfl (p_fieldAddr rfl fa36_1) <| iv 14 rfl rfl rfl rfl (fun _ => v_load rfl ty3 HS (by exact rfl)) ?_
 refine ip 15 rfl rfl rfl rfl (p_fieldAddr rfl fa308_1) <| ip 16 rfl rfl rfl rfl (p_fieldAddr rfl fa36_1) <| iv 17 rfl rfl rfl rfl (fun _ => v_load rfl ty3 HS (by exact rfl)) ?_
 refine i1 4 rfl <| xc fc266 (.cons rfl (.cons rfl .nil)) rfl (compare266 _ _) fun _ => i1 11 rfl <| xc fc76 (.cons rfl (.cons rfl .nil)) rfl (compare76 _ _) fun _ => i1 18 rfl <| xc fc76 (.cons rfl (.cons rfl .nil)) rfl (compare76 _ _) fun _ => i1 19 rfl <| x_lit (vals := [_, _, _]) Tryz.underlying55 ty3 rfl (.cons rfl (.cons rfl (.cons rfl .nil))) (.one rfl (.one rfl (.one rfl .nil))) (Wf.cons rfl rfl (Wf.cons rfl rfl (Wf.cons rfl rfl Wf.nil))) rfl (by decide) rfl rfl fun v24 => ?_
 refine J_rowEq (ys := [cmpI a.1 b.1, cmpI a.2.1 b.2.1, cmpI a.2.2 b.2.2].map encZ) (rfl) <| J_row .here fun hw24 a24 c24 hv24 hl24 hm24 hz24 => ?_
 subst hv24
 refine i1 20 rfl <| xc fc83 (.cons rfl .nil) rfl (orInts (zs := [cmpI a.1 b.1, cmpI a.2.1 b.2.1, cmpI a.2.2 b.2.2]) (fun w H => sep_reads (xs := [cmpI a.1 b.1, cmpI a.2.1 b.2.1, cmpI a.2.2 b.2.2].map encZ) HS H) (by simp)) fun _ => ?_
 refine ip 21 rfl rfl rfl rfl (p_assign rfl) <| i0 <| Q_then <| J_ret ?_
 exact J_return (()) Tryz.results201 (.tmp rfl .nil) rfl SU
theorem bsearch {E : World} {l : List As} {v : Value} {xs : List Tm} {x : Tm} {k : Nat} (hv : Has (row 308 3 v (xs.map encT)) l) (hb : xs.length ≤ 100000) (hk : k ≤ xs.length) (hi : ∀ j c, xs[j]? = some c → (ltT c x = true ↔ j < k)) :
  Con Tryz.prog 200 #[v, .agg (encT x).toArray, .func (.func 201) #[] #[]] E l (fun q : Bool => .tuple #[.int .i64 (k : Int), .bool q]) (fun _ => l) := by
 refine Con.body (vs := [v, .agg (encT x).toArray, .func (.func 201) #[] #[]]) (n := 49) Tryz.func200 rfl rfl [(0, v), (1, .agg (encT x).toArray), (2, .func (.func 201) #[] #[])] (env_ok 3 rfl) <| J_row hv fun hw a cap hv h1 h2 h3 => ?_
 subst hv
 have hm : cap ≤ 9223372036854775807 := h2
 have hml : (xs.map encT).length = xs.length := List.length_map _
 refine sr <| L_op <| x_box rfl rfl rfl fun b4 => ag rfl rfl <| ag rfl rfl <| nx <| mv rfl rfl <| L_pur rfl (p_len rfl Tryz.underlying139) ?_
 refine ag rfl rfl <| nx <| mv rfl rfl <| ag rfl rfl <| ag rfl rfl <| nq <| J_seq <| J_block ?_
 refine J_loop2 (fun lo hi => lo ≤ k ∧ k ≤ hi ∧ hi ≤ xs.length) (fun _ _ => blk b4 308 (encT x) :: l) (fun lo hi => [(9, .int .i64 (lo : Int)), (10, .int .i64 (hi : Int)), (8, .int .i64 (xs.map encT).length), (0, .slice a (xs.map encT).length cap), (2, .func (.func 201) #[] #[]), (4, .pointer (some ⟨b4, 0, none⟩))]) (fun lo hi => hi - lo) 0 (xs.map encT).length ⟨by omega, by omega, by omega⟩ SU KE ?_
 intro lo hi2 ⟨hl1, hl2, hl3⟩
 refine J_seq <| sr <| mv rfl rfl <| mv rfl rfl <| L_pur rfl (p_lss rfl rfl) <| nq ?_
 refine C_dec rfl (fun h17 => ?_) (fun h17 => ?_)
 obtain ⟨q, hq⟩ : ∃ q, q = (lo + hi2) / 2 := ⟨_, rfl⟩
 have hlt : q < xs.length := by omega
 obtain ⟨bx, ox, rfl⟩ := h3 (by intro h; rw [h] at hml; simp at hml; omega)
 obtain ⟨c, hcc⟩ : ∃ c, xs[q]? = some c := ⟨_, List.getElem?_eq_getElem hlt⟩
 refine J_skip <| Q_then <| J_block <| sr <| mv rfl rfl <| mv rfl rfl <| L_pur rfl (p_add64 rfl rfl (by omega)) <| L_pur rfl (p_conv rfl Tryz.underlying3 Tryz.underlying154) ?_
 refine J_slot (t := 21) (v := .int .u64 ((lo + hi2 : Nat) : Int)) rfl (by rw [wrap64u_of ⟨by omega, by omega⟩]; simp) <| L_pur rfl (p_shr rfl rfl (by decide) (by decide)) <| J_slot (t := 22) (v := .int .u64 (q : Int)) rfl (by rw [hq]; congr 1) <| L_pur rfl (p_conv rfl Tryz.underlying154 Tryz.underlying3) <| J_slot (t := 23) (v := .int .i64 (q : Int)) rfl (by rw [wrap64_of ⟨by omega, by omega⟩]) <| ag rfl rfl <| nq <| J_seq ?_
 refine J_drawT 6 mixed (by kernel_rfl) <| sm rfl rfl <| sm rfl rfl <| sm rfl rfl <| sp rfl (p_indexAddr rfl rfl Tryz.underlying139 ty308 (by omega) (by omega)) ?_
 refine S_val rfl (v_loadE rfl ty308 HS (by first | (simp only [Int.toNat_natCast, List.getElem?_map, hcc]; rfl) | (simp only [Int.toNat_natCast, List.getElem?_map, hcd]; rfl) | simp | rfl)) ?_
 refine S_val rfl (v_loadA rfl ty308 HS CT) ?_
 refine S_nil <| L_op <| x_callc rfl Tryz.func201 nm201 bd201 (.cons rfl (.cons rfl .nil)) rfl (order c x) fun _ => L_pur rfl (p_lss rfl rfl) <| nq ?_
 refine C_dec rfl (fun h31 => ?_) (fun h31 => ?_)
 have hqk := (hi q c hcc).1 (by rw [← ordT_neg]; simpa using h31)
 refine J_region <| mv rfl rfl <| L_pur rfl (p_add64 rfl rfl (by omega)) <| ag rfl rfl <| L_nil <| Q_blk_normal <| Q_then ?_
 
 exact J_again2 (q + 1) hi2 (by omega) (⟨by omega, hl2, hl3⟩) SU KE
 have hqk : ¬ q < k := fun h => h31 (by have := (hi q c hcc).2 h; rw [← ordT_neg] at this; simpa using this)
 refine J_region <| mv rfl rfl <| ag rfl rfl <| L_nil <| Q_blk_normal <| Q_then ?_
 
 exact J_again2 lo q (by omega) (⟨hl1, by omega, by omega⟩) SU KE
 have hlk : lo = k := by omega
 subst hlk
 refine J_exit <| Q_then_exit <| Q_then_exit <| Q_blk_this <| Q_then <| J_seq <| J_drawI none [blk b4 308 (encT x)] mixed <| ip 0 rfl rfl rfl rfl (p_move rfl) ?_
 refine ip 1 rfl rfl rfl rfl (p_move rfl) <| ip 2 rfl rfl rfl rfl (p_move rfl) <| ip 3 rfl rfl rfl rfl (p_lss rfl rfl) <| ip 4 rfl rfl rfl rfl (p_move rfl) ?_
 refine J_gsplit (t := 39) rfl (fun h39 => ?_) (fun h39 => ?_)
 have hlt : lo < xs.length := by simp at h39; omega
 obtain ⟨bx, ox, rfl⟩ := h3 (by intro h; rw [h] at hml; simp at hml; omega)
 obtain ⟨c, hcc⟩ : ∃ c, xs[lo]? = some c := ⟨_, List.getElem?_eq_getElem hlt⟩
 refine I_takeOn (i := 5) rfl rfl rfl rfl rfl rfl rfl (by kernel_rfl) (fun _ _ _ _ h => h) (fun _ => Pur.vl (p_move rfl)) <| I_takeOn (i := 6) rfl rfl rfl rfl rfl rfl rfl (by kernel_rfl) (fun _ _ _ _ h => h) (fun _ => Pur.vl (p_move rfl)) <| I_takeOn (i := 7) rfl rfl rfl rfl rfl rfl rfl (by kernel_rfl) (fun _ _ _ _ h => h) (fun _ => Pur.vl (p_move rfl)) <| I_takeOn (i := 8) rfl rfl rfl rfl rfl rfl rfl (by kernel_rfl) (fun _ _ _ _ h => h) (fun _ => Pur.vl (p_indexAddr rfl rfl Tryz.underlying139 ty308 (by omega) (by omega))) <| I_takeOn (i := 10) rfl rfl rfl rfl rfl rfl rfl (by kernel_rfl) (fun _ _ _ _ h => h) (fun _ => v_loadA rfl ty308 HS CT) ?_
 refine i1 9 rfl <| G_on rfl rfl rfl ?_
 refine J_val (v_loadE rfl ty308 HS (by first | (simp only [Int.toNat_natCast, List.getElem?_map, hcc]; rfl) | (simp only [Int.toNat_natCast, List.getElem?_map, hcd]; rfl) | simp | rfl)) rfl rfl rfl ?_
 refine i1 11 rfl <| G_on rfl rfl rfl <| x_callc rfl Tryz.func201 nm201 bd201 (.cons rfl (.cons rfl .nil)) rfl (order c x) fun _ => I_takeOn (i := 12) rfl rfl rfl rfl rfl rfl rfl (by kernel_rfl) (fun _ _ _ _ h => h) (fun _ => Pur.vl (p_eql rfl rfl)) <| ip 13 rfl rfl rfl rfl (p_pick_t rfl rfl) <| ip 14 rfl rfl rfl rfl (p_assign rfl) <| ip 15 rfl rfl rfl rfl (p_assign rfl) <| i0 ?_
 refine Q_then <| J_ret ?_
 exact J_return (_) Tryz.results200 (.tmp rfl (.tmp rfl .nil)) rfl SU
 refine I_takeOff (i := 5) rfl rfl rfl rfl rfl rfl rfl rfl (by kernel_rfl) (fun _ _ _ _ h => h) <| I_takeOff (i := 6) rfl rfl rfl rfl rfl rfl rfl rfl (by kernel_rfl) (fun _ _ _ _ h => h) <| I_takeOff (i := 7) rfl rfl rfl rfl rfl rfl rfl rfl (by kernel_rfl) (fun _ _ _ _ h => h) <| I_takeOff (i := 8) rfl rfl rfl rfl rfl rfl rfl rfl (by kernel_rfl) (fun _ _ _ _ h => h) <| I_takeOff (i := 9) rfl rfl rfl rfl rfl rfl rfl rfl (by kernel_rfl) (fun _ _ _ _ h => h) <| I_takeOff (i := 10) rfl rfl rfl rfl rfl rfl rfl rfl (by kernel_rfl) (fun _ _ _ _ h => h) <| I_takeOff (i := 11) rfl rfl rfl rfl rfl rfl rfl rfl (by kernel_rfl) (fun _ _ _ _ h => h) <| I_takeOff (i := 12) rfl rfl rfl rfl rfl rfl rfl rfl (by kernel_rfl) (fun _ _ _ _ h => h) ?_
 refine ip 13 rfl rfl rfl rfl (p_pick_f rfl rfl) <| ip 14 rfl rfl rfl rfl (p_assign rfl) <| ip 15 rfl rfl rfl rfl (p_assign rfl) <| i0 <| Q_then <| J_ret ?_
 exact J_return (_) Tryz.results200 (.tmp rfl (.tmp rfl .nil)) rfl SU
theorem ins_new {α : Type} {xs : List α} {c z : α} {k : Nat} (h : k < xs.length) :
    ((((xs.take k ++ List.replicate (xs.length + 1 - k) z).take k ++ [c] ++ (xs.take k ++ List.replicate (xs.length + 1 - k) z).drop (k + 1)).take (k + 1)) ++ xs.drop k ++ (((xs.take k ++ List.replicate (xs.length + 1 - k) z).take k ++ [c] ++ (xs.take k ++ List.replicate (xs.length + 1 - k) z).drop (k + 1)).drop (k + 1 + (xs.drop k).length))) = xs.take k ++ c :: xs.drop k := by
  have hl : (xs.take k).length = k := by simp; omega
  have e1 : (xs.take k ++ List.replicate (xs.length + 1 - k) z).take k = xs.take k := by
    exact List.take_left' hl
  rw [e1]
  have hl2 : (xs.take k ++ [c]).length = k + 1 := by simp; omega
  have e2 : ∀ R : List α, (xs.take k ++ [c] ++ R).take (k + 1) = xs.take k ++ [c] := fun R => List.take_left' hl2
  rw [e2, show List.drop (k + 1 + (xs.drop k).length) _ = [] from List.drop_of_length_le (by simp; omega)]
  simp
theorem ins_here {α : Type} {xs : List α} {c : α} {k : Nat} (h : k < xs.length) : (xs.take (k + 1) ++ xs.drop k).take k ++ [c] ++ (xs.take (k + 1) ++ xs.drop k).drop (k + 1) = xs.take k ++ c :: xs.drop k := by
  have hl : (xs.take (k + 1)).length = k + 1 := by simp; omega
  have e1 : (xs.take (k + 1) ++ xs.drop k).take k = xs.take k := by
    rw [List.take_append_of_le_length (by omega), List.take_take]
    congr 1; omega
  have e2 : (xs.take (k + 1) ++ xs.drop k).drop (k + 1) = xs.drop k := by
    exact List.drop_left' hl
  rw [e1, e2]; simp
theorem insert1 {E : World} {l m : List As}{m1 : List As} {v u : Value} {xs : List (List Value)} {c : List Value} {k : Nat} (hp1 : Pick (row 308 3 u [c]) l m1) (hp2 : Pick (row 308 3 v xs) m1 m) (hb : xs.length ≤ 100000) (hk : k ≤ xs.length) :
  Con Tryz.prog 202 #[v, .int .i64 (k : Int), u] E l (fun v' : Value => v') (fun v' => row 308 3 v' (xs.take k ++ c :: xs.drop k) :: m) := by
 refine Con.body (vs := [v, .int .i64 (k : Int), u]) (n := 95) Tryz.func202 rfl rfl [(0, v), (1, .int .i64 (k : Int)), (2, u)] (env_ok 3 rfl) <| J_pick hp1 <| J_pick (.there hp2) <| J_row .here fun hw a cap hv h1 h2 h3 => ?_
 subst hv
 have hm : cap ≤ 9223372036854775807 := h2
 refine J_row (.there .here) fun hw' a' cap' hv' h1' h2' h3' => ?_
 subst hv'
 refine sr <| ag rfl rfl <| nx <| mv rfl rfl <| mv rfl rfl <| L_pur rfl (p_slice rfl Tryz.underlying139 ty308 rfl rfl (by omega) (by omega) (by omega)) <| nx <| mv rfl rfl ?_
 refine L_pur rfl (p_len rfl Tryz.underlying139) <| J_slot (t := 14) (v := .int .i64 1) rfl rfl <| ag rfl rfl <| nxx <| mv rfl rfl <| L_pur rfl (p_eql rfl rfl) <| nq <| J_bool (t := 16) (c := false) rfl (by simp) ?_
 refine C_false rfl <| J_skip <| qx <| mv rfl rfl <| L_pur rfl (p_len rfl Tryz.underlying139) <| ag rfl rfl <| nxx <| mv rfl rfl ?_
 refine mv rfl rfl <| L_pur rfl (p_eql rfl rfl) <| nq ?_
 refine C_dec rfl (fun h22 => ?_) (fun h22 => ?_)
 have hkl : k = xs.length := by omega
 refine sr <| mv rfl rfl <| mv rfl rfl <| L_op <| x_app rfl rfl Tryz.underlying139 ty308 rfl rfl PC (fun w H => sep_reads (xs := [c]) HS H) (OM) (OM) rfl <| JE (xs.take k ++ c :: xs.drop k) (by rw [hkl]; simp) fun a25 c25 hw25 hl25 hm25 hz25 => ag rfl rfl <| nq ?_
 refine J_ret <| Q_then_ret ?_
 exact J_return (_) Tryz.results202 (.tmp rfl .nil) rfl SU
 have hkl : k < xs.length := by omega
 obtain ⟨b, o, rfl⟩ := h3 (by intro h; rw [h] at hkl; simp at hkl)
 obtain ⟨ub, uo, rfl⟩ := h3' (by simp)
 refine J_skip <| Q_then <| J_seq <| sr <| mv rfl rfl <| mv rfl rfl <| L_pur rfl (p_add64 rfl rfl (by omega)) <| mv rfl rfl ?_
 refine L_pur rfl (p_cap rfl Tryz.underlying139) <| L_pur rfl (p_gtr rfl rfl) <| nq ?_
 refine C_dec rfl (fun h31 => ?_) (fun h31 => ?_)
 refine sr <| mv rfl rfl <| mv rfl rfl <| L_pur rfl (p_slice rfl Tryz.underlying139 ty308 rfl rfl (by omega) (by omega) (by omega)) <| J_slot (t := 34) (v := .slice (some ⟨b, o, none⟩) k cap) rfl (by simp [Addr.add]) <| mv rfl rfl <| mv rfl rfl <| L_pur rfl (p_add64 rfl rfl (by omega)) ?_
 refine mv rfl rfl <| L_pur rfl (p_sub64 rfl rfl (by omega)) <| J_slot (t := 39) (v := .int .i64 ((xs.length + 1 - k : Nat) : Int)) rfl (by congr 1; omega) <| L_op <| x_appMake (i := k) (z0 := xs.length + 1 - k) (xs := xs.take k) rfl rfl Tryz.underlying139 Tryz.underlying3 ty308 rfl rfl rfl (fun w H => Reads.take (i := k) (sep_reads (xs := xs) HS H) (by omega)) (by first | omega | (simp at h31; omega)) (by omega) (by omega) (by omega) rfl <| JR fun a40 c40 hw40 hl40 hm40 hz40 => ?_
 obtain ⟨b4, o4, rfl⟩ := hz40 (by intro h; have := congrArg List.length h; simp at this; omega)
 refine ag rfl rfl <| nx <| mv rfl rfl <| mv rfl rfl <| L_pur rfl (p_slice rfl Tryz.underlying139 ty308 rfl rfl (by omega) (by simp; omega) (by simp at hl40 ⊢; omega)) <| mv rfl rfl <| L_op <| x_copyTo (k0 := k) (ys := [c]) rfl rfl Tryz.underlying139 ty308 PC (fun w H => sep_reads (xs := [c]) HS H) (by simp; omega) (by simp; omega) rfl ?_
 refine nq <| J_seq <| J_drawT 8 mixed (by kernel_rfl) <| sm rfl rfl <| sm rfl rfl <| sm rfl rfl <| sp rfl (p_add64 rfl rfl (by omega)) <| sp rfl (p_slice rfl Tryz.underlying139 ty308 rfl rfl (by omega) (by simp; omega) (by simp at hl40 ⊢; omega)) ?_
 refine sm rfl rfl <| sm rfl rfl <| sp rfl (p_slice rfl Tryz.underlying139 ty308 rfl rfl (by omega) (by omega) (by omega)) <| S_nil <| L_op <| x_copyTo (k0 := k + 1) (ys := xs.drop k) rfl rfl Tryz.underlying139 ty308 PC (fun w H => Reads.drop (a0 := some ⟨b, o, none⟩) (len := xs.length) (cap := cap) (lo := k) (sep_reads (xs := xs) HS H) (by omega)) (by simp; omega) (by simp; omega) rfl ?_
 refine J_rowTo (v' := .slice (some ⟨b4, o4, none⟩) (xs.take k ++ List.replicate (xs.length + 1 - k) _).length c40) (ys := xs.take k ++ c :: xs.drop k) (ins_new hkl) rfl <| nx <| mv rfl rfl <| ag rfl rfl <| nq <| J_ret <| Q_then_ret ?_
 exact J_return (_) Tryz.results202 (.tmp rfl .nil) rfl SU
 refine J_skip <| qx <| mv rfl rfl <| mv rfl rfl <| mv rfl rfl <| L_pur rfl (p_add64 rfl rfl (by omega)) <| L_pur rfl (p_slice rfl Tryz.underlying139 ty308 rfl rfl (by omega) (by omega) (by first | omega | (simp at h31 ⊢; omega))) <| J_slot (t := 60) (v := .slice (some ⟨b, o, none⟩) (xs.length + 1) cap) rfl (by simp [Addr.add]) ?_
 have hroom : xs.length + 1 ≤ cap := by first | omega | (simp at h31; omega)
 refine ag rfl rfl <| nxx <| mv rfl rfl <| mv rfl rfl <| mv rfl rfl <| mv rfl rfl <| L_pur rfl (p_add64 rfl rfl (by omega)) <| L_pur rfl (p_slice rfl Tryz.underlying139 ty308 rfl rfl (by omega) (by omega) (by omega)) ?_
 refine J_slot (t := 66) (v := .slice (some ⟨b, o + (k + 1) * 3, none⟩) (xs.length - k) (cap - (k + 1))) rfl (by have e : ((k : Int) + 1).toNat = k + 1 := by { omega }; rw [e, if_neg (by omega)]; simp [Addr.add_lit]) ?_
 refine L_op <| x_overlaps (tR := 4) Tryz.func267 nm267 rfl (by kernel_rfl) (by kernel_rfl) rfl rfl Tryz.underlying139 ty308 rfl PC PC (by omega) rfl ?_
 refine L_pur rfl (p_not rfl) <| nq <| J_bool (t := 68) (c := true) rfl (rfl) <| C_true rfl <| J_seq <| J_drawT 8 mixed (by kernel_rfl) <| sm rfl rfl <| sm rfl rfl ?_
 refine sm rfl rfl <| sp rfl (p_add64 rfl rfl (by omega)) <| sp rfl (p_slice rfl Tryz.underlying139 ty308 rfl rfl (by omega) (by omega) (by omega)) ?_
 refine J_slot (t := 73) (v := .slice (if cap = k + 1 then some ⟨b, o, none⟩ else (some (⟨b, o, none⟩ : Addr)).map (·.add ((k + 1) * 3))) (xs.length - k) (cap - (k + 1))) rfl (by have e : ((k : Int) + 1).toNat = k + 1 := by { omega }; rw [e]; congr 1; omega) ?_
 refine sm rfl rfl <| sm rfl rfl <| sp rfl (p_slice rfl Tryz.underlying139 ty308 rfl rfl (by omega) (by omega) (by omega)) <| S_nil <| L_op <| x_copyUp (k0 := k) (xs := xs) rfl rfl Tryz.underlying139 ty308 PC (by omega) (by omega) rfl ?_
 refine nx <| mv rfl rfl <| mv rfl rfl <| L_pur rfl (p_slice rfl Tryz.underlying139 ty308 rfl rfl (by omega) (by omega) (by omega)) <| mv rfl rfl <| L_op <| x_copyTo (k0 := k) (ys := [c]) rfl rfl Tryz.underlying139 ty308 PC (fun w H => sep_reads (xs := [c]) HS H) (by simp; omega) (by simp; omega) rfl ?_
 refine J_rowEq (ys := xs.take k ++ c :: xs.drop k) (ins_here hkl) <| nx <| mv rfl rfl <| ag rfl rfl <| nq <| J_ret <| Q_then_ret ?_
 exact J_return (_) Tryz.results202 (.tmp rfl .nil) rfl SU
theorem tmrPush {E : World} {l m : List As} {b o : Nat} {xs : List Tm} (hp : Pick (tmrA b o xs) l m) (hb : xs.length ≤ 90000) {d : Int} {i : ID} (hs : Srt xs) :
  Con Tryz.prog 141 #[.pointer (some ⟨b, o, none⟩), .int .u64 d, .agg (encI i).toArray] E l (fun _ : Unit => .tuple #[]) (fun _ => tmrA b o (hpush xs (d, i)) :: m) := by
 refine Con.body (vs := [.pointer (some ⟨b, o, none⟩), .int .u64 d, .agg (encI i).toArray]) (n := 35) Tryz.func141 rfl rfl [(0, .pointer (some ⟨b, o, none⟩)), (1, .int .u64 d), (2, .agg (encI i).toArray)] (env_ok 3 rfl) <| J_pick hp <| sr <| L_op <| x_box rfl rfl rfl fun b5 => nx <| mv rfl rfl <| L_val rfl (v_loadA rfl ty36 HS CT) ?_
 refine L_op <| xc fc168 (.cons rfl (.cons rfl .nil)) rfl (tmrDropC (xs := xs) (i := i) PC (by omega)) fun _ => ?_
 obtain ⟨ys, hys⟩ : ∃ ys, ys = hdrop xs i := ⟨_, rfl⟩
 have hyl : ys.length ≤ xs.length := by rw [hys]; exact hdrop_len xs i
 have hne : ∀ c ∈ ys, c.2 ≠ (d, i).2 := by rw [hys]; exact fun c hc => hdrop_ne hc
 have hss : Srt ys := by rw [hys]; exact hs.drop i
 refine J_asTo (B := tmrA b o ys) (by rw [hys]) <| J_tmrO fun v _ => J_row (.there .here) fun hw a cap hv h1 h2 h3 => ?_
 subst hv
 have hpi := fun j c => place_iff (x := (d, i)) hss (j := j) (c := c)
 have hpl := place_le ys (d, i)
 obtain ⟨k, hk⟩ : ∃ k, k = place ys (d, i) := ⟨_, rfl⟩
 refine nx <| mv rfl rfl <| L_val rfl (v_loadA rfl ty36 HS CT) ?_
 refine L_pur rfl (bld308 (.cons rfl (.cons rfl .nil)) (by repeat constructor)) <| L_op <| x_alloc ty308 rfl fun b6 => L_op <| x_store rfl rfl ty308 rfl SM SM RO PT ?_
 refine J_pick (A := blk b6 308 _) PC ?_
 refine J_asTo (B := blk b6 308 (encT (d, i))) (by rfl) <| nq <| J_seq <| J_drawI none [blk b6 308 (encT (d, i)), fld b o [.slice a (ys.map encT).length cap]] mixed <| ip 0 rfl rfl rfl rfl (p_move rfl) <| ip 1 rfl rfl rfl rfl (p_nilCheck rfl) <| ip 2 rfl rfl rfl rfl (p_fieldAddr rfl fa141_0) <| iv 3 rfl rfl rfl rfl (fun _ => v_loadL rfl ty139 HS rfl (by exact rfl)) ?_
 refine iv 4 rfl rfl rfl rfl (fun _ => v_loadA rfl ty308 HS CT) ?_
 refine i1 5 rfl <| xc fc200 (.cons rfl (.cons rfl (.cons rfl .nil))) rfl (bsearch (xs := ys) (x := (d, i)) (k := k) HS (by omega) (by omega) (fun j c h => by rw [hk]; exact hpi j c h)) fun q => ?_
 refine ip 6 rfl rfl rfl rfl (p_move rfl) <| ip 7 rfl rfl rfl rfl (p_extract rfl rfl) <| ip 8 rfl rfl rfl rfl (p_extract rfl rfl) <| ip 9 rfl rfl rfl rfl (p_assign rfl) <| ip 10 rfl rfl rfl rfl (p_assign rfl) <| i0 <| Q_then <| J_drawI (some 11) [blk b6 308 (encT (d, i)), fld b o [.slice a (ys.map encT).length cap]] mixed ?_
 refine ip 0 rfl rfl rfl rfl (p_move rfl) <| ip 1 rfl rfl rfl rfl (p_move rfl) <| ip 2 rfl rfl rfl rfl (p_nilCheck rfl) <| ip 3 rfl rfl rfl rfl (p_fieldAddr rfl fa141_0) <| iv 4 rfl rfl rfl rfl (fun _ => v_loadL rfl ty139 HS rfl (by exact rfl)) ?_
 refine ip 5 rfl rfl rfl rfl (p_move rfl) <| iv 6 rfl rfl rfl rfl (fun _ => v_loadA rfl ty308 HS CT) ?_
 refine i1 7 rfl <| x_lit (vals := [_]) Tryz.underlying139 ty308 rfl (.cons rfl .nil) (.agg .nil) (Wf.cons rfl rfl Wf.nil) rfl (by decide) rfl rfl <| JR fun a31 c31 hw31 hl31 hm31 hz31 => i1 8 rfl <| xc fc202 (.cons rfl (.cons rfl (.cons rfl .nil))) rfl (insert1 (xs := ys.map encT) (c := encT (d, i)) (k := k) PC PC (by simp; omega) (by simp; omega)) <| JE ((hpush xs (d, i)).map encT) (by unfold hpush putT; rw [← hys, ← hk]; simp [List.map_take, List.map_drop]) fun a32 c32 hw32 hl32 hm32 hz32 => ip 9 rfl rfl rfl rfl (p_nilCheck rfl) <| ip 10 rfl rfl rfl rfl (p_fieldAddr rfl fa141_0) ?_
 refine i1 11 rfl <| x_storeL rfl rfl ty139 rfl SM SM rfl RO rfl PT ?_
 refine i0 <| J_endnormal <| J_tmrS (b := b) (o := o) (xs := hpush xs (d, i)) _ PX trivial ?_
 exact J_return (()) Tryz.results141 .nil rfl SU
theorem coTmPush {E : World} {l m : List As} {p : Nat} {s : KS} (hp : Pick (coA p s) l m) {d : Int} {i : ID} (hb : s.tm.length ≤ 90000) (hs : Srt s.tm) :
    Con Tryz.prog 141 #[.pointer (some ⟨p, 11, none⟩), .int .u64 d, .agg (encI i).toArray] E l (fun _ : Unit => .tuple #[]) (fun _ => coA p { s with tm := hpush s.tm (d, i) } :: m) := fun w H => by
  refine (?_ : Jk E l 0 [] fun _ w => Calls Tryz.prog 141 #[.pointer (some ⟨p, 11, none⟩), .int .u64 d, .agg (encI i).toArray] w fun e w' => ∃ x, e = .returned ((fun _ : Unit => .tuple #[]) x) ∧ Sep E w' ((fun _ : Unit => coA p { s with tm := hpush s.tm (d, i) } :: m) x)) w _ H fr0
  refine J_pick hp <| J_coO fun bn be br bg bt bs bp bl bk _ => J_con (tmrPush (xs := s.tm) (d := d) (i := i) PC hb hs) fun x => ?_
  refine J_coS (p := p) (s := { s with tm := hpush s.tm (d, i) }) bn be br bg bt bs bp bl bk PX trivial ?_
  exact J_end SU
end Go.Pse
namespace Go.Pse
open Go.RowKit Go.Proofs
theorem delete146 {E : World} {l m : List As} {v : Value} {c : List Value} {xs : List (List Value)} (hp : Pick (row 308 3 v (c :: xs)) l m) :
  Con Tryz.prog 146 #[v, .int .i64 0, .int .i64 1] E l (fun v' : Value => v') (fun v' => row 308 3 v' xs :: m) := by
 refine Con.body (vs := [v, .int .i64 0, .int .i64 1]) (n := 33) Tryz.func146 rfl rfl [(0, v), (1, .int .i64 0), (2, .int .i64 1)] (env_ok 3 rfl) <| J_pick hp <| J_row .here fun hw a cap hv h1 h2 h3 => ?_
 obtain ⟨b, o, rfl⟩ := h3 (by simp)
 subst hv
 have hl : (c :: xs).length = xs.length + 1 := rfl
 have hm : cap ≤ 9223372036854775807 := h2
 refine sr <| ag rfl rfl <| nx <| mv rfl rfl <| mv rfl rfl <| mv rfl rfl <| mv rfl rfl <| L_pur rfl (p_len rfl Tryz.underlying139) ?_
 refine L_pur rfl (p_slice3 rfl Tryz.underlying139 ty308 rfl rfl rfl (by omega) (by omega) (by omega) (by omega)) <| nxx <| mv rfl rfl <| mv rfl rfl <| L_pur rfl (p_eql rfl rfl) <| nq <| J_bool (t := 16) (c := false) rfl (by decide) <| C_false rfl ?_
 refine J_skip <| qx <| mv rfl rfl <| L_pur rfl (p_len rfl Tryz.underlying139) <| ag rfl rfl <| nq <| J_seq <| J_drawT 6 mixed (by kernel_rfl) ?_
 refine sm rfl rfl <| sm rfl rfl <| sp rfl (p_slice rfl Tryz.underlying139 ty308 rfl rfl (by omega) (by omega) (by omega)) <| J_slot (t := 22) (v := .slice (some ⟨b, o, none⟩) 0 cap) rfl (by simp [Addr.add]) <| sm rfl rfl <| sm rfl rfl <| sp rfl (p_slice rfl Tryz.underlying139 ty308 rfl rfl (by omega) (by omega) (by omega)) <| S_nil ?_
 refine L_op <| x_appIn (ys := xs) (len := (c :: xs).length) rfl rfl Tryz.underlying139 ty308 PC (fun w H => (sep_reads HS H).drop (lo := 1) (by omega)) (by omega) rfl ?_
 refine ag rfl rfl <| nx <| mv rfl rfl <| mv rfl rfl <| L_pur rfl (p_len rfl Tryz.underlying139) <| mv rfl rfl <| L_pur rfl (p_slice rfl Tryz.underlying139 ty308 rfl rfl (by omega) (by omega) (by omega)) <| L_op <| x_clear (len := (c :: xs).length) rfl Tryz.underlying139 ty308 rfl rfl PC (by simp) ?_
 refine J_take (k := 0 + xs.length) (by simp) <| J_rowEq (ys := xs) (by simp) <| nx <| mv rfl rfl <| ag rfl rfl <| nq <| J_ret ?_
 exact J_return (_) Tryz.results146 (.tmp rfl .nil) rfl SU
theorem tmrDue {E : World} {l m : List As} {b o : Nat} {xs : List Tm} (hp : Pick (tmrA b o xs) l m) (hb : xs.length ≤ 100000) {now : Int} :
  Con Tryz.prog 99 #[.pointer (some ⟨b, o, none⟩), .int .u64 now] E l (fun v : Value => v) (fun v => row 36 2 v (((due xs now).map Prod.snd).map encI) :: tmrA b o (late xs now) :: m) := by
 refine Con.body (vs := [.pointer (some ⟨b, o, none⟩), .int .u64 now]) (n := 42) Tryz.func99 rfl rfl [(0, .pointer (some ⟨b, o, none⟩)), (1, .int .u64 now)] (env_ok 2 rfl) <| J_pick hp <| J_asTo (B := tmrA b o (xs.drop 0)) (by simp) <| sr <| ag rfl rfl <| nx <| ag rfl rfl <| nq ?_
 refine J_seq <| J_block <| J_nil (el := 36) (sz := 2) <| J_loop2 (fun j v5 => j ≤ xs.length ∧ ∀ c ∈ xs.take j, c.1 ≤ now) (fun j v5 => row 36 2 v5 (((xs.take j).map Prod.snd).map encI) :: tmrA b o (xs.drop j) :: m) (fun j v5 => [(5, v5), (0, .pointer (some ⟨b, o, none⟩)), (1, .int .u64 now)]) (fun j v5 => xs.length - j) 0 (.slice none 0 0) ⟨by omega, by simp⟩ SU KE ?_
 intro j v5 ⟨hj, hq⟩
 refine J_pick (A := tmrA b o (xs.drop j)) (.there .here) <| J_tmrO fun v _ => J_row (.there .here) fun hw a cap hv h1 h2 h3 => ?_
 subst hv
 have hml : ((xs.drop j).map encT).length = xs.length - j := by simp
 have htl : (xs.take j).length ≤ j := by simp; omega
 refine J_seq <| sr <| mv rfl rfl <| nc rfl rfl <| fa rfl rfl fa141_0 <| L_val rfl (v_loadL rfl ty139 HS rfl (by exact rfl)) ?_
 refine L_pur rfl (p_len rfl Tryz.underlying139) <| L_pur rfl (p_gtr rfl rfl) <| mv rfl rfl ?_
 refine J_gsplit (t := 12) rfl (fun h12 => ?_) (fun h12 => ?_)
 have hlt : j < xs.length := by simp at h12; omega
 obtain ⟨bx, ox, hax⟩ := h3 (by intro h; rw [h] at hml; simp at hml; omega)
 subst hax
 obtain ⟨c, hcc⟩ : ∃ c, xs[j]? = some c := ⟨_, List.getElem?_eq_getElem hlt⟩
 have hc0 : (xs.drop j)[0]? = some c := by rw [List.getElem?_drop]; exact hcc
 have hdj : xs.drop j = c :: xs.drop (j + 1) := by rw [List.drop_eq_getElem_cons hlt, (List.getElem?_eq_some_iff.1 hcc).2]
 refine L_op <| G_on rfl rfl rfl <| J_pur (p_move rfl) rfl rfl rfl <| L_op <| G_on rfl rfl rfl <| J_pur (p_nilCheck rfl) rfl rfl rfl <| L_op <| G_on rfl rfl rfl ?_
 refine J_pur (p_fieldAddr rfl fa141_0) rfl rfl rfl <| L_op <| G_on rfl rfl rfl <| J_val (v_loadL rfl ty139 HS rfl (by exact rfl)) rfl rfl rfl ?_
 refine L_op <| G_on rfl rfl rfl <| J_pur (p_indexAddr rfl rfl Tryz.underlying139 ty308 (by omega) (by omega)) rfl rfl rfl <| L_op <| G_on rfl rfl rfl <| J_pur (p_fieldAddr rfl fa308_0) rfl rfl rfl <| L_op <| G_on rfl rfl rfl ?_
 refine J_val (v_loadF rfl ty102 HS (by show ((xs.drop j).map encT)[0]? = _; rw [List.getElem?_map, hc0]; rfl) (by exact rfl)) rfl rfl rfl ?_
 refine L_op <| G_on rfl rfl rfl <| J_pur (p_move rfl) rfl rfl rfl <| L_op <| G_on rfl rfl rfl <| J_pur (p_leq rfl rfl) rfl rfl rfl <| L_pur rfl (p_pick_t rfl rfl) <| nq ?_
 refine C_dec rfl (fun h22 => ?_) (fun h22 => ?_)
 refine J_skip <| Q_then <| J_block <| sr <| mv rfl rfl <| mv rfl rfl <| nc rfl rfl <| fa rfl rfl fa141_0 ?_
 refine L_val rfl (v_loadL rfl ty139 HS rfl (by exact rfl)) ?_
 refine L_pur rfl (p_indexAddr rfl rfl Tryz.underlying139 ty308 (by omega) (by omega)) <| fa rfl rfl fa308_1 ?_
 refine L_val rfl (v_loadFA rfl ty36 HS (by show ((xs.drop j).map encT)[0]? = _; rw [List.getElem?_map, hc0]; rfl) CT) ?_
 refine L_op <| x_lit (vals := [_]) Tryz.underlying224 ty36 rfl (.cons rfl .nil) (.agg .nil) (Wf.cons rfl rfl Wf.nil) rfl (by decide) rfl rfl <| JR fun a31 c31 hw31 hl31 hm31 hz31 => L_op <| x_app rfl rfl Tryz.underlying224 ty36 rfl rfl PC (fun w H => sep_reads HS H) (OM) (OM) rfl <| JE (((xs.take (j + 1)).map Prod.snd).map encI) (by rw [List.take_add_one, hcc]; simp [encI]) fun a32 c32 hw32 hl32 hm32 hz32 => ag rfl rfl <| ny ?_
 refine mv rfl rfl <| mv rfl rfl <| nc rfl rfl <| fa rfl rfl fa141_0 <| L_val rfl (v_loadL rfl ty139 HS rfl (by exact rfl)) ?_
 refine J_pick (A := row 308 3 (.slice (some ⟨bx, ox, none⟩) ((xs.drop j).map encT).length cap) ((xs.drop j).map encT)) PC ?_
 refine J_rowEq (ys := encT c :: (xs.drop (j + 1)).map encT) (by rw [hdj]; rfl) <| L_op <| xc fc146 (.cons rfl (.cons rfl (.cons rfl .nil))) rfl (delete146 (c := encT c) (xs := (xs.drop (j + 1)).map encT) (by have e : ((xs.drop j).map encT).length = (encT c :: (xs.drop (j + 1)).map encT).length := by { rw [hdj]; rfl }; rw [e]; exact .here)) <| JR fun a38 c38 hw38 hl38 hm38 hz38 => nc rfl rfl <| fa rfl rfl fa141_0 <| L_op <| x_storeL rfl rfl ty139 rfl SM SM rfl RO rfl PT ?_
 refine L_nil <| Q_blk_normal <| Q_then <| J_tmrS (b := b) (o := o) (xs := xs.drop (j + 1)) _ PX trivial ?_
 exact J_again2 (j + 1) _ (by omega) (⟨by omega, fun c' hc' => by rw [List.take_add_one, hcc] at hc'; rcases List.mem_append.1 hc' with h | h; exact hq c' h; simp at h; subst h; exact h22⟩) SU KE
 refine J_exit <| Q_then_exit <| Q_then_exit <| Q_blk_this <| Q_then <| J_seq ?_
 obtain ⟨hd, hl⟩ := due_at hj hq (fun c' h => by rw [hcc] at h; cases h; exact h22)
 refine J_region <| mv rfl rfl <| ag rfl rfl <| nq <| J_ret <| J_tmrS (b := b) (o := o) (xs := xs.drop j) _ PX trivial ?_
 refine J_asTo (B := tmrA b o (late xs now)) (by rw [hl]) <| J_pick (A := row 36 2 v5 _) PC ?_
 refine J_rowEq (ys := ((due xs now).map Prod.snd).map encI) (by rw [hd]) ?_
 exact J_return (_) Tryz.results99 (.tmp rfl .nil) rfl SU
 refine L_op <| G_off rfl rfl rfl rfl rfl rfl <| L_op <| G_off rfl rfl rfl rfl rfl rfl <| L_op <| G_off rfl rfl rfl rfl rfl rfl <| L_op <| G_off rfl rfl rfl rfl rfl rfl ?_
 refine L_op <| G_off rfl rfl rfl rfl rfl rfl <| L_op <| G_off rfl rfl rfl rfl rfl rfl <| L_op <| G_off rfl rfl rfl rfl rfl rfl <| L_op <| G_off rfl rfl rfl rfl rfl rfl ?_
 refine L_op <| G_off rfl rfl rfl rfl rfl rfl <| L_pur rfl (p_pick_f rfl rfl) <| nq <| C_false rfl <| J_exit <| Q_then_exit <| Q_then_exit ?_
 refine Q_blk_this <| Q_then <| J_seq ?_
 obtain ⟨hd, hl⟩ := due_at hj hq (fun c' h => by rw [show j = xs.length by simp at h12; omega, List.getElem?_eq_none (Nat.le_refl _)] at h; cases h)
 refine J_region <| mv rfl rfl <| ag rfl rfl <| nq <| J_ret <| J_tmrS (b := b) (o := o) (xs := xs.drop j) _ PX trivial ?_
 refine J_asTo (B := tmrA b o (late xs now)) (by rw [hl]) <| J_pick (A := row 36 2 v5 _) PC ?_
 refine J_rowEq (ys := ((due xs now).map Prod.snd).map encI) (by rw [hd]) ?_
 exact J_return (_) Tryz.results99 (.tmp rfl .nil) rfl SU
theorem coTmDue {E : World} {l m : List As} {p : Nat} {s : KS} (hp : Pick (coA p s) l m) {now : Int} (hb : s.tm.length ≤ 100000) :
    Con Tryz.prog 99 #[.pointer (some ⟨p, 11, none⟩), .int .u64 now] E l (fun x : Value => x) (fun x => row 36 2 x (((due s.tm now).map Prod.snd).map encI) :: coA p { s with tm := late s.tm now } :: m) := fun w H => by
  refine (?_ : Jk E l 0 [] fun _ w => Calls Tryz.prog 99 #[.pointer (some ⟨p, 11, none⟩), .int .u64 now] w fun e w' => ∃ x, e = .returned ((fun x : Value => x) x) ∧ Sep E w' ((fun x : Value => row 36 2 x (((due s.tm now).map Prod.snd).map encI) :: coA p { s with tm := late s.tm now } :: m) x)) w _ H fr0
  refine J_pick hp <| J_coO fun bn be br bg bt bs bp bl bk _ => J_con (tmrDue (xs := s.tm) (now := now) PC hb) fun x => ?_
  refine J_coS (p := p) (s := { s with tm := late s.tm now }) bn be br bg bt bs bp bl bk PX trivial ?_
  exact J_end SU
/-! ### plain: which request may begin -/
def freeQ (ps : List (ID × Rq)) (g : Int) (r : Rq) : Bool := decide (r.prev = 0) || !(look ps (g, r.prev)).isSome
def goQ (ps : List (ID × Rq)) (g : Int) (k : Nat) (r : Rq) : Bool := !r.started && (freeQ ps g r && (decide (bits .and .i64 r.e.flags 4 = 0) || decide (k = 0)))
def nextF (ps : List (ID × Rq)) (g : Int) : Nat → List Rq → Option Rq
  | _, [] => none
  | k, r :: rs => if goQ ps g k r = true then some r else nextF ps g (k + 1) rs
def nextQ (ps : List (ID × Rq)) (g : Int) : Option ID := (nextF ps g 0 (ofQ ps g)).map Rq.id
theorem rtNextC {E : World} {l m : List As}  {b o : Nat} {ps : List (ID × Rq)} (hp : Pick (rtA b o ps) l m) {g : Int} (hI : Ids ps) (hb : ps.length ≤ 100000) :
    Con Tryz.prog 101 #[.pointer (some ⟨b, o, none⟩), .int .i64 g] E l (fun _ : Unit => .tuple #[.agg (encI ((nextQ ps g).getD (0, 0))).toArray, .bool (nextQ ps g).isSome]) (fun _ => rtA b o ps :: m) := by
  refine Con.body (vs := [.pointer (some ⟨b, o, none⟩), .int .i64 g]) (n := 53) Tryz.func101 rfl rfl [(0, .pointer (some ⟨b, o, none⟩)), (1, .int .i64 g)] (env_ok 2 rfl) <| J_pick hp <| sr <| L_op <| x_alloc ty36 rfl fun b4 => ag rfl rfl <| nx <| mv rfl rfl ?_
  refine mv rfl rfl <| L_op <| xc fc23 (.cons rfl (.cons rfl .nil)) rfl (rtOf (ps := ps) (g := g) PC hI hb) <| JR fun a12 c12 hw12 hl12 hm12 hz12 => ?_
  have hol := ofQ_len ps g
  obtain ⟨xs, hxs⟩ : ∃ xs, xs = ofQ ps g := ⟨_, rfl⟩
  refine J_pick (A := row 122 13 _ _) PC ?_
  refine J_rowTo (ys := xs.map encQ) (v' := .slice a12 (xs.map encQ).length c12) (by rw [hxs]) (by rw [hxs]) <| J_slot (t := 12) (v := .slice a12 (xs.map encQ).length c12) rfl (by rw [hxs]) ?_
  rw [← hxs] at hol hz12
  have hm : c12 ≤ 9223372036854775807 := hm12
  have hml : (xs.map encQ).length = xs.length := List.length_map _
  refine ag rfl rfl <| nxx <| mv rfl rfl <| L_pur rfl (p_len rfl Tryz.underlying46) <| mv rfl rfl <| nq <| J_block <| J_pick (A := blk b4 _ _) PC ?_
  refine J_asTo (B := blk b4 36 (encI (0, 0))) (by rfl) <| J_loop (α := Nat) (fun k => k ≤ xs.length ∧ nextF ps g 0 xs = nextF ps g k (xs.drop k)) (fun k => row 122 13 (.slice a12 (xs.map encQ).length c12) (xs.map encQ) :: blk b4 36 (encI (0, 0)) :: rtA b o ps :: m) (fun k => [(15, .int .i64 (k : Int)), (13, .slice a12 (xs.map encQ).length c12), (14, .int .i64 ((xs.map encQ).length : Int)), (4, .pointer (some ⟨b4, 0, none⟩)), (0, .pointer (some ⟨b, o, none⟩)), (1, .int .i64 g)]) (fun k => xs.length - k) 0 ⟨by omega, rfl⟩ SU KE ?_
  intro k ⟨hk, hnx⟩
  refine sr <| L_pur rfl (p_lss rfl rfl) <| nq <| J_seq ?_
  refine C_dec rfl (fun h16 => ?_) (fun h16 => ?_)
  have hlt : k < xs.length := by omega
  obtain ⟨bx, ox, rfl⟩ := hz12 (by intro h; rw [h] at hml; simp at hml; omega)
  obtain ⟨c, hcc⟩ : ∃ c, xs[k]? = some c := ⟨_, List.getElem?_eq_getElem hlt⟩
  have hdj : xs.drop k = c :: xs.drop (k + 1) := by rw [List.drop_eq_getElem_cons hlt, (List.getElem?_eq_some_iff.1 hcc).2]
  refine J_skip <| Q_then <| J_seq <| J_block <| sr <| mv rfl rfl <| L_pur rfl (p_indexAddr rfl rfl Tryz.underlying46 ty122 (by omega) (by omega)) ?_
  refine L_val rfl (v_loadE rfl ty122 HS (by first | (simp only [Int.toNat_natCast, List.getElem?_map, hcc]; rfl) | (simp only [Int.toNat_natCast, List.getElem?_map, hcd]; rfl) | simp | rfl)) ?_
  refine L_op <| x_alloc ty122 rfl fun b8 => ag rfl rfl <| L_op <| x_store rfl rfl ty122 rfl SM SM RO PT ?_
  refine nx <| fa rfl rfl fa122_2 <| L_val rfl (v_load rfl ty3 HS (by exact rfl)) ?_
  refine L_pur rfl (p_eql rfl rfl) <| mv rfl rfl ?_
  refine J_gsplit (t := 23) rfl (fun h23 => ?_) (fun h23 => ?_)
  refine L_op <| G_off rfl rfl rfl rfl rfl rfl <| L_op <| G_off rfl rfl rfl rfl rfl rfl <| L_op <| G_off rfl rfl rfl rfl rfl rfl <| L_op <| G_off rfl rfl rfl rfl rfl rfl ?_
  refine L_op <| G_off rfl rfl rfl rfl rfl rfl <| L_op <| G_off rfl rfl rfl rfl rfl rfl <| L_op <| G_off rfl rfl rfl rfl rfl rfl <| L_pur rfl (p_pick_t rfl rfl) <| ag rfl rfl ?_
  refine nx <| fa rfl rfl fa122_4 <| L_val rfl (v_load rfl ty4 HS (by exact rfl)) ?_
  refine L_pur rfl (p_not rfl) <| mv rfl rfl ?_
  refine J_gsplit (t := 35) rfl (fun h35 => ?_) (fun h35 => ?_)
  refine L_op <| G_on rfl rfl rfl <| J_pur (p_move rfl) rfl rfl rfl <| L_pur rfl (p_pick_t rfl rfl) <| mv rfl rfl ?_
  refine J_gsplit (t := 38) rfl (fun h38 => ?_) (fun h38 => ?_)
  refine L_op <| G_on rfl rfl rfl <| J_pur (p_fieldAddr rfl fa122_1) rfl rfl rfl <| L_op <| G_on rfl rfl rfl <| J_pur (p_fieldAddr rfl fa34_1) rfl rfl rfl <| L_op <| G_on rfl rfl rfl ?_
  refine J_val (v_load rfl ty3 HS (by exact rfl)) rfl rfl rfl ?_
  refine L_op <| G_on rfl rfl rfl <| J_pur (p_and rfl rfl) rfl rfl rfl <| L_op <| G_on rfl rfl rfl <| J_pur (p_eql rfl rfl) rfl rfl rfl <| L_op <| G_on rfl rfl rfl ?_
  refine J_pur (p_move rfl) rfl rfl rfl ?_
  refine J_gsplit (t := 44) rfl (fun h44 => ?_) (fun h44 => ?_)
  refine L_op <| G_off rfl rfl rfl rfl rfl rfl <| L_op <| G_off rfl rfl rfl rfl rfl rfl <| L_op <| G_on rfl rfl rfl <| J_pur (p_pick_t rfl rfl) rfl rfl rfl <| L_pur rfl (p_pick_t rfl rfl) ?_
  refine nq <| C_true rfl <| J_seq ?_
  have hgo : goQ ps g k c = true := by simp_all [goQ, freeQ]
  have hnq : nextQ ps g = some c.id := by unfold nextQ; rw [← hxs, hnx, hdj, nextF, if_pos hgo]; rfl
  refine J_region <| fa rfl rfl fa122_0 <| L_val rfl (v_loadA rfl ty36 HS CT) ?_
  refine L_op <| x_store rfl rfl ty36 rfl SM SM RO PT ?_
  refine ag rfl rfl <| nq <| J_ret <| Q_blk_ret <| Q_then_ret <| Q_then_ret <| Q_blk_ret <| Q_then_ret ?_
  refine J_return (()) Tryz.results101 (.cellA rfl ty36 HS CT (.tmp rfl .nil)) ?_ ?_
  · rw [hnq]; rfl
  · exact SU
  refine L_op <| G_on rfl rfl rfl <| J_pur (p_move rfl) rfl rfl rfl <| L_op <| G_on rfl rfl rfl <| J_pur (p_eql rfl rfl) rfl rfl rfl <| L_op <| G_on rfl rfl rfl ?_
  refine J_pur (p_pick_f rfl rfl) rfl rfl rfl <| L_pur rfl (p_pick_t rfl rfl) <| nq ?_
  refine C_split rfl (fun h48 => ?_) (fun h48 => ?_)
  refine J_seq ?_
  have hgo : goQ ps g k c = true := by simp_all [goQ, freeQ]
  have hnq : nextQ ps g = some c.id := by unfold nextQ; rw [← hxs, hnx, hdj, nextF, if_pos hgo]; rfl
  refine J_region <| fa rfl rfl fa122_0 <| L_val rfl (v_loadA rfl ty36 HS CT) ?_
  refine L_op <| x_store rfl rfl ty36 rfl SM SM RO PT ?_
  refine ag rfl rfl <| nq <| J_ret <| Q_blk_ret <| Q_then_ret <| Q_then_ret <| Q_blk_ret <| Q_then_ret ?_
  refine J_return (()) Tryz.results101 (.cellA rfl ty36 HS CT (.tmp rfl .nil)) ?_ ?_
  · rw [hnq]; rfl
  · exact SU
  refine J_skip <| Q_blk_normal <| qr <| L_pur rfl (p_add64 rfl rfl (by omega)) <| mv rfl rfl <| nq ?_
  exact J_again (k + 1) (by omega) (⟨by omega, by rw [hnx, hdj, nextF, if_neg (by simp_all [goQ, freeQ])]⟩) SU KE
  refine L_op <| G_off rfl rfl rfl rfl rfl rfl <| L_op <| G_off rfl rfl rfl rfl rfl rfl <| L_op <| G_off rfl rfl rfl rfl rfl rfl <| L_op <| G_off rfl rfl rfl rfl rfl rfl ?_
  refine L_op <| G_off rfl rfl rfl rfl rfl rfl <| L_op <| G_off rfl rfl rfl rfl rfl rfl <| L_op <| G_offU rfl rfl rfl rfl rfl <| L_op <| G_offU rfl rfl rfl rfl rfl ?_
  refine L_op <| G_off rfl rfl rfl rfl rfl rfl <| L_pur rfl (p_pick_f rfl rfl) <| nq <| C_false rfl <| J_skip <| Q_blk_normal <| qr ?_
  refine L_pur rfl (p_add64 rfl rfl (by omega)) <| mv rfl rfl <| nq ?_
  exact J_again (k + 1) (by omega) (⟨by omega, by rw [hnx, hdj, nextF, if_neg (by simp_all [goQ, freeQ])]⟩) SU KE
  refine L_op <| G_off rfl rfl rfl rfl rfl rfl <| L_pur rfl (p_pick_f rfl rfl) <| mv rfl rfl <| L_op <| G_off rfl rfl rfl rfl rfl rfl <| L_op <| G_off rfl rfl rfl rfl rfl rfl ?_
  refine L_op <| G_off rfl rfl rfl rfl rfl rfl <| L_op <| G_off rfl rfl rfl rfl rfl rfl <| L_op <| G_off rfl rfl rfl rfl rfl rfl <| L_op <| G_off rfl rfl rfl rfl rfl rfl ?_
  refine L_op <| G_offU rfl rfl rfl rfl rfl <| L_op <| G_offU rfl rfl rfl rfl rfl <| L_op <| G_off rfl rfl rfl rfl rfl rfl <| L_pur rfl (p_pick_f rfl rfl) <| nq ?_
  refine C_false rfl <| J_skip <| Q_blk_normal <| qr <| L_pur rfl (p_add64 rfl rfl (by omega)) <| mv rfl rfl <| nq ?_
  exact J_again (k + 1) (by omega) (⟨by omega, by rw [hnx, hdj, nextF, if_neg (by simp_all [goQ, freeQ])]⟩) SU KE
  refine L_op <| G_on rfl rfl rfl <| J_pur (p_move rfl) rfl rfl rfl <| L_op <| G_on rfl rfl rfl <| J_pur (p_move rfl) rfl rfl rfl <| L_op <| G_on rfl rfl rfl ?_
  refine J_pur (p_fieldAddr rfl fa122_2) rfl rfl rfl <| L_op <| G_on rfl rfl rfl <| J_val (v_load rfl ty3 HS (by exact rfl)) rfl rfl rfl ?_
  refine L_op <| G_on rfl rfl rfl <| J_pur (bld36 (.cons rfl (.cons rfl .nil)) (by repeat constructor)) rfl rfl rfl <| L_op <| G_on rfl rfl rfl <| xc fc108 (.cons rfl (.cons rfl .nil)) rfl (rtHas (ps := ps) (i := (g, c.prev)) PC) fun _ => ?_
  refine L_op <| G_on rfl rfl rfl <| J_pur (p_not rfl) rfl rfl rfl <| L_pur rfl (p_pick_f rfl rfl) <| ag rfl rfl <| nx <| fa rfl rfl fa122_4 <| L_val rfl (v_load rfl ty4 HS (by exact rfl)) ?_
  refine L_pur rfl (p_not rfl) <| mv rfl rfl ?_
  refine J_gsplit (t := 35) rfl (fun h35 => ?_) (fun h35 => ?_)
  refine L_op <| G_on rfl rfl rfl <| J_pur (p_move rfl) rfl rfl rfl <| L_pur rfl (p_pick_t rfl rfl) <| mv rfl rfl ?_
  refine J_gsplit (t := 38) rfl (fun h38 => ?_) (fun h38 => ?_)
  refine L_op <| G_on rfl rfl rfl <| J_pur (p_fieldAddr rfl fa122_1) rfl rfl rfl <| L_op <| G_on rfl rfl rfl <| J_pur (p_fieldAddr rfl fa34_1) rfl rfl rfl <| L_op <| G_on rfl rfl rfl ?_
  refine J_val (v_load rfl ty3 HS (by exact rfl)) rfl rfl rfl ?_
  refine L_op <| G_on rfl rfl rfl <| J_pur (p_and rfl rfl) rfl rfl rfl <| L_op <| G_on rfl rfl rfl <| J_pur (p_eql rfl rfl) rfl rfl rfl <| L_op <| G_on rfl rfl rfl ?_
  refine J_pur (p_move rfl) rfl rfl rfl ?_
  refine J_gsplit (t := 44) rfl (fun h44 => ?_) (fun h44 => ?_)
  refine L_op <| G_off rfl rfl rfl rfl rfl rfl <| L_op <| G_off rfl rfl rfl rfl rfl rfl <| L_op <| G_on rfl rfl rfl <| J_pur (p_pick_t rfl rfl) rfl rfl rfl <| L_pur rfl (p_pick_t rfl rfl) ?_
  refine nq <| C_true rfl <| J_seq ?_
  have hgo : goQ ps g k c = true := by simp_all [goQ, freeQ]
  have hnq : nextQ ps g = some c.id := by unfold nextQ; rw [← hxs, hnx, hdj, nextF, if_pos hgo]; rfl
  refine J_region <| fa rfl rfl fa122_0 <| L_val rfl (v_loadA rfl ty36 HS CT) ?_
  refine L_op <| x_store rfl rfl ty36 rfl SM SM RO PT ?_
  refine ag rfl rfl <| nq <| J_ret <| Q_blk_ret <| Q_then_ret <| Q_then_ret <| Q_blk_ret <| Q_then_ret ?_
  refine J_return (()) Tryz.results101 (.cellA rfl ty36 HS CT (.tmp rfl .nil)) ?_ ?_
  · rw [hnq]; rfl
  · exact SU
  refine L_op <| G_on rfl rfl rfl <| J_pur (p_move rfl) rfl rfl rfl <| L_op <| G_on rfl rfl rfl <| J_pur (p_eql rfl rfl) rfl rfl rfl <| L_op <| G_on rfl rfl rfl ?_
  refine J_pur (p_pick_f rfl rfl) rfl rfl rfl <| L_pur rfl (p_pick_t rfl rfl) <| nq ?_
  refine C_split rfl (fun h48 => ?_) (fun h48 => ?_)
  refine J_seq ?_
  have hgo : goQ ps g k c = true := by simp_all [goQ, freeQ]
  have hnq : nextQ ps g = some c.id := by unfold nextQ; rw [← hxs, hnx, hdj, nextF, if_pos hgo]; rfl
  refine J_region <| fa rfl rfl fa122_0 <| L_val rfl (v_loadA rfl ty36 HS CT) ?_
  refine L_op <| x_store rfl rfl ty36 rfl SM SM RO PT ?_
  refine ag rfl rfl <| nq <| J_ret <| Q_blk_ret <| Q_then_ret <| Q_then_ret <| Q_blk_ret <| Q_then_ret ?_
  refine J_return (()) Tryz.results101 (.cellA rfl ty36 HS CT (.tmp rfl .nil)) ?_ ?_
  · rw [hnq]; rfl
  · exact SU
  refine J_skip <| Q_blk_normal <| qr <| L_pur rfl (p_add64 rfl rfl (by omega)) <| mv rfl rfl <| nq ?_
  exact J_again (k + 1) (by omega) (⟨by omega, by rw [hnx, hdj, nextF, if_neg (by simp_all [goQ, freeQ])]⟩) SU KE
  refine L_op <| G_off rfl rfl rfl rfl rfl rfl <| L_op <| G_off rfl rfl rfl rfl rfl rfl <| L_op <| G_off rfl rfl rfl rfl rfl rfl <| L_op <| G_off rfl rfl rfl rfl rfl rfl ?_
  refine L_op <| G_off rfl rfl rfl rfl rfl rfl <| L_op <| G_off rfl rfl rfl rfl rfl rfl <| L_op <| G_offU rfl rfl rfl rfl rfl <| L_op <| G_offU rfl rfl rfl rfl rfl ?_
  refine L_op <| G_off rfl rfl rfl rfl rfl rfl <| L_pur rfl (p_pick_f rfl rfl) <| nq <| C_false rfl <| J_skip <| Q_blk_normal <| qr ?_
  refine L_pur rfl (p_add64 rfl rfl (by omega)) <| mv rfl rfl <| nq ?_
  exact J_again (k + 1) (by omega) (⟨by omega, by rw [hnx, hdj, nextF, if_neg (by simp_all [goQ, freeQ])]⟩) SU KE
  refine L_op <| G_off rfl rfl rfl rfl rfl rfl <| L_pur rfl (p_pick_f rfl rfl) <| mv rfl rfl <| L_op <| G_off rfl rfl rfl rfl rfl rfl <| L_op <| G_off rfl rfl rfl rfl rfl rfl ?_
  refine L_op <| G_off rfl rfl rfl rfl rfl rfl <| L_op <| G_off rfl rfl rfl rfl rfl rfl <| L_op <| G_off rfl rfl rfl rfl rfl rfl <| L_op <| G_off rfl rfl rfl rfl rfl rfl ?_
  refine L_op <| G_offU rfl rfl rfl rfl rfl <| L_op <| G_offU rfl rfl rfl rfl rfl <| L_op <| G_off rfl rfl rfl rfl rfl rfl <| L_pur rfl (p_pick_f rfl rfl) <| nq ?_
  refine C_false rfl <| J_skip <| Q_blk_normal <| qr <| L_pur rfl (p_add64 rfl rfl (by omega)) <| mv rfl rfl <| nq ?_
  exact J_again (k + 1) (by omega) (⟨by omega, by rw [hnx, hdj, nextF, if_neg (by simp_all [goQ, freeQ])]⟩) SU KE
  refine J_exit <| Q_then_exit <| Q_then_exit <| Q_blk_this <| Q_then <| J_seq ?_
  have hnq : nextQ ps g = none := by unfold nextQ; rw [← hxs, hnx, List.drop_eq_nil_of_le (by omega)]; rfl
  refine J_region <| L_pur rfl (bld36 .nil (by repeat constructor)) <| L_op <| x_store rfl rfl ty36 rfl SM SM RO PT ?_
  refine ag rfl rfl <| nq <| J_ret ?_
  refine J_return (()) Tryz.results101 (.cellA rfl ty36 HS CT (.tmp rfl .nil)) ?_ ?_
  · rw [hnq]; rfl
  · exact SU
theorem coRqNext {E : World} {l m : List As} {p : Nat} {s : KS} (hp : Pick (coA p s) l m) {g : Int} (hI : Ids s.rt) (hb : s.rt.length ≤ 100000) :
    Con Tryz.prog 101 #[.pointer (some ⟨p, 10, none⟩), .int .i64 g] E l (fun _ : Unit => .tuple #[.agg (encI ((nextQ s.rt g).getD (0, 0))).toArray, .bool (nextQ s.rt g).isSome]) (fun _ => coA p s :: m) := fun w H => by
  refine (?_ : Jk E l 0 [] fun _ w => Calls Tryz.prog 101 #[.pointer (some ⟨p, 10, none⟩), .int .i64 g] w fun e w' => ∃ x, e = .returned ((fun _ : Unit => .tuple #[.agg (encI ((nextQ s.rt g).getD (0, 0))).toArray, .bool (nextQ s.rt g).isSome]) x) ∧ Sep E w' ((fun _ : Unit => coA p s :: m) x)) w _ H fr0
  refine J_pick hp <| J_coO fun bn be br bg bt bs bp bl bk _ => J_con (rtNextC (ps := s.rt) (g := g) PC hI hb) fun x => ?_
  refine J_coS (p := p) (s := s) bn be br bg bt bs bp bl bk PX trivial ?_
  exact J_end SU
end Go.Pse
namespace Go.Pse
open Go.RowKit Go.Proofs
/-! ### plain: a ring is torn down -/
def deedG (q : Rq) : Deed := (q.id, q.e.tag, q.e.op, 0, 0, true)
def kTear1 (s : KS) (q : Rq) : KS := { kForget { s with rt := del s.rt q.id } q.id with jn := s.jn ++ [deedG q] }
def kTearL (s : KS) (l : List Rq) : KS := l.foldl kTear1 s
def kCleared (s : KS) (g : Int) : KS := { s with rg := updO s.rg g (fun r => { r with over := [] }) }
def kTear (s : KS) (g : Int) : KS := if (look s.rg g).isSome then kGone (kCleared (kTearL s (ofQ s.rt g)) g) 9 g else s
theorem kTearL_rg : ∀ {l : List Rq} {s : KS}, (kTearL s l).rg = s.rg ∧ (kTearL s l).mb = s.mb ∧ (kTearL s l).ep = (kTearL s l).ep
  | [], s => ⟨rfl, rfl, rfl⟩
  | q :: l, s => by
    have h := kTearL_rg (l := l) (s := kTear1 s q)
    exact ⟨h.1, h.2.1, rfl⟩
theorem Fits.delAny {s : KS} {N M : Nat} (h : Fits s N M) (i : ID) : Fits { s with rt := del s.rt i } N M := by
  have hl := del_le (ps := s.rt) (i := i)
  exact ⟨h.n, h.mm, h.ids.del i, by have := h.jn; show s.jn.length + (del s.rt i).length ≤ M; omega, h.tm, h.ep, h.nt, h.rp, fun x hx => ⟨(h.rg x hx).1, by have := (h.rg x hx).2; show _ + (del s.rt i).length ≤ M; omega⟩, h.mem⟩
theorem Fits.tear1 {s : KS} {N M : Nat} (h : Fits s N M) (hm : M + 1 ≤ 90000) (q : Rq) : Fits (kTear1 s q) N (M + 1) := by
  have h1 := h.delAny q.id
  exact (h1.forget q.id).jnl hm (deedG q)
theorem Fits.tearL {N : Nat} : ∀ {l : List Rq} {s : KS} {M : Nat}, Fits s N M → M + l.length ≤ 90000 → Fits (kTearL s l) N (M + l.length)
  | [], s, M, h, _ => h
  | q :: l, s, M, h, hm => by
    have := Fits.tearL (l := l) (h.tear1 (by simp at hm; omega) q) (by simp at hm; omega)
    rw [List.length_cons, show M + (l.length + 1) = M + 1 + l.length by omega]
    exact this
end Go.Pse
namespace Go.Pse
open Go.RowKit Go.Proofs
def kEnds (s : KS) (l : List ID) : KS := l.foldl (fun s i => kDec s.rt.length s i (-9) 0) s
theorem Fits.ends {N M : Nat} : ∀ {l : List ID} {s : KS}, Fits s N M → Fits (kEnds s l) N M
  | [], _, h => h
  | i :: l, s, h => Fits.ends (l := l) (Fits.dec _ (i := i) (r := -9) (v := 0) h).1
end Go.Pse
namespace Go.Pse
open Go.RowKit Go.Proofs
/-! ### plain: what is decided, one thing at a time; all but rings, memory, the journal stays -/
def rqN (i : ID) (e : Sqe) : Rq := ⟨i, e, 0, false, false⟩
def rtS (ps : List (ID × Rq)) (i : ID) : List (ID × Rq) := match look ps i with
  | none => ps
  | some q => ins ps i { q with started := true }
end Go.Pse
namespace Go.Pse
open Go.RowKit Go.Proofs
/-! ### How all begins: what hangs on the number of threads, of units, on what is shared, and on nothing else -/
abbrev Core := Int × Bool × List (Place × SV) × List (Place × M1) × List (Int × Th) × List (Int × Int)
def kCore (s : KS) : Core := (s.cu, s.sh, s.sl, s.mp, s.th, s.q)
def kStep (k : Core) (b t h : Int) : Core := (k.1, k.2.1, tput b k.2.2.1 0 (tcap8 b k.1 ++ if k.2.1 then tcap2 t h else []), tmap b k.2.2.2.1 2, ins k.2.2.2.2.1 (b + 1) (thOf b), qAdd k.2.2.2.2.2 (b + 1) 4)
def cTh (k : Core) (u h : Int) : Nat → Core
  | 0 => k
  | i + 1 => kStep (cTh k u h i) (bOf u i) (i : Int) h
theorem kThread_core {s : KS} {b t h : Int} {r c : Nat} : kCore (kThread s b t h r c) = kStep (kCore s) b t h := by
  simp only [kCore, kStep, kThread, tcaps]
  congr 1
theorem kTh_core {s : KS} {h : Int} {bs : Nat → Nat × Nat} : ∀ i, kCore (kTh s h bs i) = cTh (kCore s) s.cu h i
  | 0 => rfl
  | i + 1 => by
    rw [kTh, kThread_core, kTh_core i, cTh]
def coreN (ct cu : Nat) (sh : Bool) : Core := cTh ((cu : Int), sh, [], [], [], []) (cu : Int) (hOf (ct : Int) (cu : Int)) ct
theorem cut_id {n lo hi : Int} (h : lo ≤ n ∧ n ≤ hi) : cutI n lo hi = n := by unfold cutI; split <;> split <;> omega
section
variable {ct cu : Nat} {cs cc : Int} {sh : Bool} {g : NewG} (h1 : 1 ≤ ct ∧ ct ≤ 3) (h2 : 1 ≤ cu ∧ cu ≤ 12)
include h1 h2 in
theorem kNew_is : kNew (ct : Int) (cu : Int) cs cc sh g = kTh (kBase (ct : Int) (cu : Int) (cutI cs 0 3) (cutI cc 0 4) sh g.mb g.be g.bn) (hOf (ct : Int) (cu : Int)) g.bs ct := by
  unfold kNew
  rw [cut_id (show (1 : Int) ≤ (ct : Int) ∧ (ct : Int) ≤ 3 by omega), cut_id (show (1 : Int) ≤ (cu : Int) ∧ (cu : Int) ≤ 12 by omega), Int.toNat_natCast]
include h1 h2 in
theorem kNew_core : kCore (kNew (ct : Int) (cu : Int) cs cc sh g) = coreN ct cu sh := by
  rw [kNew_is h1 h2, kTh_core]
  cases sh <;> rfl
include h1 h2 in
include h1 h2 in
end
end Go.Pse
namespace Go.Pse
open Go.RowKit Go.Proofs
/-! ### plain: addresses of a node's slots -/
def actA (a p : Nat) (T : Th) (q : Rq) (i : ID) : As := blk a 279 [.pointer (some ⟨p, 0, none⟩), .int .i64 T.unit, .int .i64 T.space, .int .i64 T.ring, .int .i64 T.root.kind, .int .i64 T.root.obj, .int .i64 T.root.size, .int .i64 T.root.badge, .int .i64 T.root.rights, .int .i64 q.id.1, .int .i64 q.id.2, .int .i64 q.e.op, .int .i64 q.e.flags, .int .u32 q.e.tag, .int .u32 q.e.cap, .int .u32 q.e.a, .int .u32 q.e.b, .int .u32 q.e.c, .int .u32 q.e.time, .int .i64 q.prev, .bool q.soft, .bool q.started, .int .i64 i.1, .int .i64 i.2]
end Go.Pse
namespace Go.Pse
open Go.RowKit Go.Proofs
theorem rtStartC {E : World} {l m : List As}  {b o : Nat} {ps : List (ID × Rq)} (hp : Pick (rtA b o ps) l m) {i : ID} :
    Con Tryz.prog 70 #[.pointer (some ⟨b, o, none⟩), .agg (encI i).toArray] E l (fun _ : Unit => .bool (look ps i).isSome) (fun _ => rtA b o (rtS ps i) :: m) := by
  refine Con.body (vs := [.pointer (some ⟨b, o, none⟩), .agg (encI i).toArray]) (n := 25) Tryz.func70 rfl rfl [(0, .pointer (some ⟨b, o, none⟩)), (1, .agg (encI i).toArray)] (env_ok 2 rfl) <| J_pick hp <| J_rtO fun ob _ => sr <| L_op <| x_box rfl rfl rfl fun b3 => ag rfl rfl <| nq ?_
  refine J_seq <| J_drawL none mixed <| ip 0 rfl rfl rfl rfl (p_move rfl) <| ip 1 rfl rfl rfl rfl (p_nilCheck rfl) <| ip 2 rfl rfl rfl rfl (p_fieldAddr rfl fa138_0) <| iv 3 rfl rfl rfl rfl (fun _ => v_loadL rfl ty136 HS rfl (by exact rfl)) ?_
  refine iv 4 rfl rfl rfl rfl (fun _ => v_loadA rfl ty36 HS CT) ?_
  refine iv 5 rfl rfl rfl rfl (fun _ => v_lookOk (ek := kI) (ev := evQ) (a := i) rfl rfl ky36 Tryz.underlying136 zv122 HS) ?_
  refine J_slot (t := 13) (v := .tuple #[evQ ((look ps i).getD q00), .bool (look ps i).isSome]) rfl (by cases look ps i <;> rfl) <| ip 6 rfl rfl rfl rfl (p_move rfl) <| ip 7 rfl rfl rfl rfl (p_extract rfl rfl) <| ip 8 rfl rfl rfl rfl (p_extract rfl rfl) <| i1 9 rfl <| x_alloc ty122 rfl fun b5 => i1 10 rfl <| x_store rfl rfl ty122 rfl SM SM RO PT ?_
  refine ip 11 rfl rfl rfl rfl (p_assign rfl) <| i0 <| Q_then <| J_seq <| sr <| mv rfl rfl <| nq ?_
  refine C_split rfl (fun h16 => ?_) (fun h16 => ?_)
  obtain ⟨q, hq⟩ : ∃ q, look ps i = some q := by
    cases hz : look ps i with
    | none => rw [hz] at h16; simp at h16
    | some q => exact ⟨q, rfl⟩
  rcases ob with _ | bm
  · exact J_mapNone (ps := ps) HS fun hps => by rw [hps] at hq; cases hq
  refine J_pick (A := blk b5 _ _) PC ?_
  refine J_asTo (B := blk b5 122 (encQ q)) (by rw [hq]; rfl) ?_
  have hrs : rtS ps i = ins ps i { q with started := true } := by unfold rtS; rw [hq]
  refine sr <| fa rfl rfl fa122_4 <| L_op <| x_store rfl rfl ty4 rfl SM SM RO PT ?_
  refine J_pick (A := blk b5 _ _) PC ?_
  refine J_asTo (B := blk b5 122 (encQ { q with started := true })) (by rfl) <| nq <| J_drawT 6 mixed (by kernel_rfl) <| sm rfl rfl <| sp rfl (p_nilCheck rfl) <| sp rfl (p_fieldAddr rfl fa138_0) <| S_val rfl (v_loadL rfl ty136 HS rfl (by exact rfl)) ?_
  refine S_val rfl (v_loadA rfl ty36 HS CT) ?_
  refine S_val rfl (v_loadA rfl ty122 HS CT) ?_
  refine S_nil <| L_op <| x_mapUpdate (ek := kI) (ev := evQ) (a := i) (c := { q with started := true }) rfl rfl rfl ky36 Tryz.underlying136 PC ?_
  refine nx <| mv rfl rfl <| ag rfl rfl <| nq <| J_ret <| J_pick (A := mapV kI evQ _ _) PC ?_
  refine J_mapEq (qs := rtS ps i) (by rw [hrs]) <| J_rtS (b := b) (o := o) (ps := rtS ps i) _ PX trivial ?_
  exact J_return (()) Tryz.results70 (.tmp rfl .nil) rfl SU
  have hno : look ps i = none := by
    cases hz : look ps i with
    | none => rfl
    | some q => rw [hz] at h16; simp at h16
  have hrs : rtS ps i = ps := by unfold rtS; rw [hno]
  refine J_skip <| qx <| mv rfl rfl <| ag rfl rfl <| nq <| J_ret <| J_rtS (b := b) (o := o) (ps := ps) _ PX trivial ?_
  refine J_asTo (B := rtA b o (rtS ps i)) (by rw [hrs]) ?_
  exact J_return (()) Tryz.results70 (.tmp rfl .nil) rfl SU
theorem coRqStart {E : World} {l m : List As} {p : Nat} {s : KS} (hp : Pick (coA p s) l m) {i : ID} :
    Con Tryz.prog 70 #[.pointer (some ⟨p, 10, none⟩), .agg (encI i).toArray] E l (fun _ : Unit => .bool (look s.rt i).isSome) (fun _ => coA p { s with rt := rtS s.rt i } :: m) := fun w H => by
  refine (?_ : Jk E l 0 [] fun _ w => Calls Tryz.prog 70 #[.pointer (some ⟨p, 10, none⟩), .agg (encI i).toArray] w fun e w' => ∃ x, e = .returned ((fun _ : Unit => .bool (look s.rt i).isSome) x) ∧ Sep E w' ((fun _ : Unit => coA p { s with rt := rtS s.rt i } :: m) x)) w _ H fr0
  refine J_pick hp <| J_coO fun bn be br bg bt bs bp bl bk _ => J_con (rtStartC (ps := s.rt) (i := i) PC) fun x => ?_
  refine J_coS (p := p) (s := { s with rt := rtS s.rt i }) bn be br bg bt bs bp bl bk PX trivial ?_
  exact J_end SU
abbrev encE (o : Option (Int × Int)) : Value := .agg #[.int .i64 (o.getD (0, 0)).1, .int .u32 (o.getD (0, 0)).2, .bool o.isNone]
end Go.Pse
namespace Go.Pse
open Go.RowKit Go.Proofs
/-! ### plain: addresses; the way to a slot -/
def rightB (v d : Int) : Bool := decide (0 ≤ d) && decide (d ≤ 24) && decide (0 ≤ v) && decide (v < 2 ^ d.toNat)
def splitA (a : Int) : Option (Int × Int) := if decide (a % 256 < 4) || !rightB (a / 256) (a % 256) then none else some (a / 256, a % 256)
def stepA (c : Cap) (v d : Int) : Option (Int × Int) :=
  if decide (c.kind ≠ 2) || !checkC c || !rightB v d || decide (d < c.size + 4) then none
  else if v / 2 ^ (d - c.size).toNat ≠ c.badge then none
  else some (v / 2 ^ (d - c.size - 4).toNat % 16, d - c.size - 4)
def findA (sl : List (Place × SV)) : Nat → Cap → Int → Int → Option Place
  | 0, _, _, _ => none
  | n + 1, c, v, d => match stepA c v d with
    | none => none
    | some (k, r) => if r = 0 then some (c.obj, k) else match look sl (c.obj, k) with
      | none => none
      | some s => findA sl n s.1 (v % 2 ^ r.toNat) r
def kFind (sl : List (Place × SV)) (root : Cap) (a : Int) : Option Place := match splitA a with
  | none => none
  | some x => findA sl 6 root x.1 x.2
def kCap (sl : List (Place × SV)) (root : Cap) (a kind : Int) : Cap × Place × Int := match kFind sl root a with
  | none => (c0, (0, 0), 2)
  | some p => match look sl p with
    | none => (c0, (0, 0), 4)
    | some v => if kind ≠ 0 ∧ v.1.kind ≠ kind then (c0, (0, 0), 5) else (v.1, p, 0)
end Go.Pse
namespace Go.Pse
open Go.RowKit Go.Proofs
/-! ### plain: slots, by what they hold; a tree of slots -/
def heirs (ps : List (Place × SV)) (q : SV → Bool) : List Place := sortP ((ps.filter fun e => q e.2).map Prod.fst)
def kids (ps : List (Place × SV)) (p : Place) : List Place := if (look ps p).isSome then heirs ps fun s => decide (s.2 = p) else []
def namesC (a b : Cap) : Bool := decide (a.kind = b.kind) && decide (a.obj = b.obj) && (decide (a.kind ≠ 1) || decide (a.size = b.size))
def named (ps : List (Place × SV)) (c : Cap) : List Place := heirs ps fun s => namesC s.1 c
theorem heirs_mem {ps : List (Place × SV)} {q : SV → Bool} {a : Place} : a ∈ heirs ps q ↔ ∃ s, (a, s) ∈ ps ∧ q s = true := by
  unfold heirs sortP
  rw [sortF_mem, List.mem_map]
  constructor
  · rintro ⟨e, he, rfl⟩
    have := List.mem_filter.1 he
    exact ⟨e.2, this.1, this.2⟩
  · rintro ⟨s, h1, h2⟩
    exact ⟨(a, s), List.mem_filter.2 ⟨h1, h2⟩, rfl⟩
def turnL (ps : List (Place × SV)) (to : Place) (l : List Place) : List (Place × SV) := l.foldl (fun t k => ins t k (((look t k).getD s0).1, to)) ps
def turnS (ps : List (Place × SV)) (a to : Place) : List (Place × SV) := turnL ps to (kids ps a)
theorem turnL_some {to a : Place} : ∀ {l : List Place} {ps : List (Place × SV)}, (look ps a).isSome = true → (look (turnL ps to l) a).isSome = true
  | [], _, h => h
  | k :: l, ps, h => turnL_some (l := l) (ps := ins ps k (((look ps k).getD s0).1, to)) (by rw [look_ins]; split <;> simp [h])
def dropS (ps : List (Place × SV)) (p : Place) : List (Place × SV) := match look ps p with
  | none => ps
  | some s => del (turnS ps p s.2) p
def moveOk (ps : List (Place × SV)) (a b : Place) : Bool := (look ps a).isSome && canP b && !(look ps b).isSome
def moveS (ps : List (Place × SV)) (a b : Place) : List (Place × SV) := if moveOk ps a b then ins (del (turnS ps a b) a) b ((look ps a).getD s0) else ps
def belowL (ps : List (Place × SV)) : Nat → List Place → List Place → Option (List Place)
  | _, done, [] => some done
  | 0, _, _ :: _ => none
  | n + 1, done, p :: ts => belowL ps n (done ++ [p]) (ts ++ kids ps p)
end Go.Pse
namespace Go.Pse
open Go.RowKit Go.Proofs
/-! ### plain: copies, moves; what a deletion takes -/
def bothS (ps : List (Place × SV)) (p q : Place) : Cap × Int := match look ps p with
  | none => (c0, 4)
  | some s => if canP q = false then (c0, 7) else if (look ps q).isSome then (c0, 3) else (s.1, 0)
def lessC (c : Cap) (r : Int) : Cap := { c with rights := bits .and .i64 c.rights (bits .and .i64 r 7) }
def badgeC (c : Cap) (n : Int) : Cap × Int :=
  if c.kind = 4 ∨ c.kind = 5 then (if c.badge ≠ 0 ∨ n = 0 then (c0, 12) else if n > 2147483647 then (c0, 7) else ({ c with badge := n }, 0))
  else if c.kind = 2 then (if checkC { c with size := n % 256, badge := n / 256 } = true then ({ c with size := n % 256, badge := n / 256 }, 0) else (c0, 7))
  else (c0, 5)
def copyS (ps : List (Place × SV)) (p q : Place) (r : Int) : List (Place × SV) × Int :=
  if (bothS ps p q).2 ≠ 0 then (ps, (bothS ps p q).2) else if r < 0 ∨ r > 7 then (ps, 7) else (slPut ps q (lessC (bothS ps p q).1 r) p, 0)
def mintS (ps : List (Place × SV)) (p q : Place) (n : Int) : List (Place × SV) × Int :=
  if (bothS ps p q).2 ≠ 0 then (ps, (bothS ps p q).2) else if (badgeC (bothS ps p q).1 n).2 ≠ 0 then (ps, (badgeC (bothS ps p q).1 n).2) else (slPut ps q (badgeC (bothS ps p q).1 n).1 p, 0)
def dmoveS (ps : List (Place × SV)) (p q : Place) : List (Place × SV) × Int := (if (bothS ps p q).2 = 0 then moveS ps p q else ps, (bothS ps p q).2)
theorem has_some {ps : List (Place × SV)} {p a : Place} (h : a ∈ kids ps p) : (look ps a).isSome = true := by
  unfold kids at h
  split at h
  · obtain ⟨s, h1, _⟩ := heirs_mem.1 h
    cases hq : look ps a with
    | none => exact absurd (List.mem_map.2 ⟨(a, s), h1, rfl⟩) (look_none_iff.1 hq)
    | some y => rfl
  · cases h
theorem ins_len {ps : List (Place × SV)} {a : Place} {u : SV} (h : (look ps a).isSome = true) : (ins ps a u).length = ps.length := by
  unfold Go.Pse.ins; rw [if_pos h, List.length_map]
theorem turnL_len {to : Place} : ∀ {l : List Place} {ps : List (Place × SV)}, (∀ a ∈ l, (look ps a).isSome = true) → (turnL ps to l).length = ps.length
  | [], _, _ => rfl
  | k :: l, ps, h => by
    have h1 := turnL_len (to := to) (l := l) (ps := ins ps k (((look ps k).getD s0).1, to)) fun a ha => by
      rw [look_ins]; split
      · rfl
      · exact h a (List.mem_cons_of_mem _ ha)
    show (turnL (ins ps k (((look ps k).getD s0).1, to)) to l).length = _
    rw [h1, ins_len (h k List.mem_cons_self)]
theorem turnS_len (ps : List (Place × SV)) (a to : Place) : (turnS ps a to).length = ps.length := turnL_len fun _ h => has_some h
theorem dropS_len {ps : List (Place × SV)} {p : Place} {s : SV} (h : look ps p = some s) : (dropS ps p).length + 1 ≤ ps.length := by
  have e : dropS ps p = del (turnS ps p s.2) p := by unfold dropS; rw [h]
  have h1 : (look (turnS ps p s.2) p).isSome = true := turnL_some (by rw [h]; rfl)
  obtain ⟨y, hy⟩ := Option.isSome_iff_exists.1 h1
  have := del_less hy
  rw [e, turnS_len] at *
  exact this
abbrev Obj2 := Int × Int
def dropK1 (D : List (Place × SV) → Place → List (Place × SV) × List Obj2) (u : Int) (x : List (Place × SV) × List Obj2) (k : Nat) : List (Place × SV) × List Obj2 := match D x.1 (u, (k : Int)) with
  | (t, o) => (t, x.2 ++ o)
def dropK (D : List (Place × SV) → Place → List (Place × SV) × List Obj2) (u : Int) (n : Nat) (x : List (Place × SV) × List Obj2) : List (Place × SV) × List Obj2 := (List.range n).foldl (dropK1 D u) x
def kDropT : Nat → List (Place × SV) → Place → List (Place × SV) × List Obj2
  | 0, ps, _ => (ps, [])
  | n + 1, ps, p => match look ps p with
    | none => (ps, [])
    | some s => match named (dropS ps p) s.1 with
      | _ :: _ => (dropS ps p, [])
      | [] => if s.1.kind = 2 then dropK (kDropT n) s.1.obj 16 (dropS ps p, [(s.1.kind, s.1.obj)]) else (dropS ps p, [(s.1.kind, s.1.obj)])
theorem dropK_succ {D : List (Place × SV) → Place → List (Place × SV) × List Obj2} {u : Int} {n : Nat} {x : List (Place × SV) × List Obj2} : dropK D u (n + 1) x = ((D (dropK D u n x).1 (u, (n : Int))).1, (dropK D u n x).2 ++ (D (dropK D u n x).1 (u, (n : Int))).2) := by
  unfold dropK
  rw [List.range_succ, List.foldl_append]
  rfl
theorem dropK_len {D : List (Place × SV) → Place → List (Place × SV) × List Obj2} (hD : ∀ ps p, (D ps p).1.length + (D ps p).2.length ≤ ps.length) {u : Int} {x : List (Place × SV) × List Obj2} : ∀ n, (dropK D u n x).1.length + (dropK D u n x).2.length ≤ x.1.length + x.2.length
  | 0 => Nat.le_refl _
  | n + 1 => by
    rw [dropK_succ]
    have h1 := dropK_len hD (u := u) (x := x) n
    have h2 := hD (dropK D u n x).1 (u, (n : Int))
    simp only [List.length_append]
    omega
theorem kDropT_len : ∀ n ps p, (kDropT n ps p).1.length + (kDropT n ps p).2.length ≤ ps.length
  | 0, ps, p => Nat.le_refl _
  | n + 1, ps, p => by
    rw [kDropT]
    split
    · simp
    · rename_i s hs
      have h1 := dropS_len hs
      split
      · simp; omega
      · split
        · have := dropK_len (kDropT_len n) (u := s.1.obj) (x := (dropS ps p, [(s.1.kind, s.1.obj)])) 16
          simp at this ⊢
          omega
        · simp; omega
theorem dropK_le {D : List (Place × SV) → Place → List (Place × SV) × List Obj2} (hD : ∀ ps p, (D ps p).1.length + (D ps p).2.length ≤ ps.length) {u : Int} {x : List (Place × SV) × List Obj2} (n : Nat) : (dropK D u n x).1.length ≤ x.1.length := by
  induction n with
  | zero => exact Nat.le_refl _
  | succ n ih =>
    rw [dropK_succ]
    have h2 := hD (dropK D u n x).1 (u, (n : Int))
    show (D (dropK D u n x).1 (u, (n : Int))).1.length ≤ _
    omega
theorem kDropT_less {n : Nat} {ps : List (Place × SV)} {p : Place} {s : SV} (h : look ps p = some s) : (kDropT (n + 1) ps p).1.length < ps.length := by
  have h1 := dropS_len h
  rw [kDropT, h]
  dsimp only
  split
  · exact h1
  · split
    · have := dropK_le (kDropT_len n) (u := s.1.obj) (x := (dropS ps p, [(s.1.kind, s.1.obj)])) 16
      simp only at this
      omega
    · exact h1
def deleteS (ps : List (Place × SV)) (p : Place) : (List (Place × SV) × List Obj2) × Int := match look ps p with
  | none => ((ps, []), 4)
  | some _ => (kDropT ps.length ps p, 0)
def belowS (ps : List (Place × SV)) (p : Place) : Option (List Place) := (belowL ps ps.length [] (kids ps p)).map sortP
def revL (p : Place) : Nat → List (Place × SV) → List Obj2 → Option (List (Place × SV) × List Obj2)
  | 0, _, _ => none
  | n + 1, ps, out => match belowS ps p with
    | none => none
    | some [] => some (ps, out)
    | some (a :: _) => match kDropT ps.length ps a with
      | (t, o) => revL p n t (out ++ o)
def revokeS (ps : List (Place × SV)) (p : Place) : (List (Place × SV) × List Obj2) × Int := match look ps p with
  | none => ((ps, []), 4)
  | some _ => ((revL p (ps.length + 1) ps []).getD (ps, []), 0)
def RevOk (ps : List (Place × SV)) (p : Place) : Prop := (look ps p).isSome = true → (revL p (ps.length + 1) ps []).isSome = true
theorem revL_below {p : Place} {n : Nat} {ps : List (Place × SV)} {out : List Obj2} {r : List (Place × SV) × List Obj2} (h : revL p n ps out = some r) : ∃ L, belowS ps p = some L := by
  cases n with
  | zero => simp [revL] at h
  | succ n =>
    cases hb : belowS ps p with
    | none => rw [revL, hb] at h; cases h
    | some L => exact ⟨L, rfl⟩
theorem revL_step {p a : Place} {n : Nat} {ps : List (Place × SV)} {out : List Obj2} {ls : List Place} (hb : belowS ps p = some (a :: ls)) : revL p (n + 1) ps out = revL p n (kDropT ps.length ps a).1 (out ++ (kDropT ps.length ps a).2) := by rw [revL, hb]
end Go.Pse
namespace Go.Pse
open Go.RowKit Go.Proofs
/-! ### plain: objects are made of memory -/
def usedM (mr : List (Place × Int)) (r : Place) : Int := (look mr r).getD 0
def mtkOk (mr : List (Place × Int)) (r : Place) (n : Int) : Bool := decide (1 ≤ n) && decide (n ≤ r.2 - usedM mr r)
def mtkM (mr : List (Place × Int)) (r : Place) (n : Int) : List (Place × Int) := if mtkOk mr r n = true then ins mr r (usedM mr r + n) else mr
def mtkV (mr : List (Place × Int)) (r : Place) (n : Int) : Int := if mtkOk mr r n = true then r.1 + usedM mr r else 0
def kindsC (kind size : Int) : Int := if kind = 2 ∨ kind = 3 ∨ kind = 4 ∨ kind = 5 ∨ kind = 7 then (if size ≠ 0 then 7 else 0) else if kind = 1 then (if size < 1 ∨ size > 64 then 7 else 0) else 5
def sizeC (c : Cap) : Int := if c.kind = 1 then c.size else 1
def withinC (c u : Cap) : Bool := !(decide (c.obj ≥ u.obj + u.size) || decide (c.obj + sizeC c ≤ u.obj)) && (decide (c.kind ≠ 1) || decide (c.obj > u.obj) || decide (c.obj + sizeC c < u.obj + u.size))
def bareS (ps : List (Place × SV)) (u : Cap) : Bool := ps.all fun e => !withinC e.2.1 u
def rangeC (c : Cap) : Place := if c.kind ≠ 1 then (0, 0) else (c.obj, c.size)
def CapsOk (ps : List (Place × SV)) : Prop := ∀ e ∈ ps, checkC e.2.1 = true
def MarksOk (mr : List (Place × Int)) : Prop := ∀ e ∈ mr, 0 ≤ e.2 ∧ e.2 ≤ 64
def resetM (ps : List (Place × SV)) (mr : List (Place × Int)) (u : Cap) : List (Place × Int) := if bareS ps u = true then del mr (rangeC u) else mr
def madeC (mr : List (Place × Int)) (u : Cap) (kind size : Int) : Cap := ⟨kind, mtkV mr (rangeC u) (max size 1), size, 0, 7⟩
def makeS (ps : List (Place × SV)) (mr : List (Place × Int)) (p q : Place) (kind size : Int) : (List (Place × SV) × List (Place × Int)) × Cap × Int := match look ps p with
  | none => ((ps, mr), c0, 4)
  | some u => if u.1.kind ≠ 1 then ((ps, mr), c0, 5) else if canP q = false then ((ps, mr), c0, 7) else if (look ps q).isSome then ((ps, mr), c0, 3) else if kindsC kind size ≠ 0 then ((ps, mr), c0, kindsC kind size)
    else if mtkOk (resetM ps mr u.1) (rangeC u.1) (max size 1) = true then ((slPut ps q (madeC (resetM ps mr u.1) u.1 kind size) p, mtkM (resetM ps mr u.1) (rangeC u.1) (max size 1)), madeC (resetM ps mr u.1) u.1 kind size, 0)
    else ((ps, resetM ps mr u.1), c0, 8)
theorem checkC_is {c : Cap} (h : checkC c = true) : (1 ≤ c.obj ∧ c.obj ≤ 64) ∧ (0 ≤ c.size ∧ c.size ≤ 64) ∧ (c.kind = 1 → c.obj + c.size ≤ 65 ∧ 1 ≤ c.size) := by
  unfold checkC inB at h
  simp only [Bool.and_eq_true, decide_eq_true_eq] at h
  obtain ⟨⟨⟨h1, h2⟩, h3⟩, h4⟩ := h
  split at h4
  · simp at h4; omega
  · split at h4
    · simp at h4; omega
    · split at h4 <;> simp at h4 <;> omega
theorem usedM_is {mr : List (Place × Int)} (h : MarksOk mr) (r : Place) : 0 ≤ usedM mr r ∧ usedM mr r ≤ 64 := by
  unfold usedM
  cases hq : look mr r with
  | none => simp
  | some y => exact h _ (mem_look hq)
theorem MarksOk.del {mr : List (Place × Int)} (h : MarksOk mr) (r : Place) : MarksOk (del mr r) := fun e he => h e (List.mem_filter.1 he).1
theorem MarksOk.reset {mr : List (Place × Int)} (h : MarksOk mr) (ps : List (Place × SV)) (u : Cap) : MarksOk (resetM ps mr u) := by
  unfold resetM; split
  · exact h.del _
  · exact h
end Go.Pse
namespace Go.Pse
open Go.RowKit Go.Proofs
/-! ### an object is laid in; plain -/
def zeroM (ms : List (List Int)) (u : Int) : List (List Int) := ms.set (u - 1).toNat zrow
def kMade (s : KS) (c : Cap) (b : Nat) : KS :=
  if c.kind = 4 then { s with ep := ins s.ep c.obj (b, [], []) } else if c.kind = 5 then { s with nt := ins s.nt c.obj (b, 0, []) } else if c.kind = 7 then { s with rp := ins s.rp c.obj (b, (0, 0), false) } else if c.kind = 3 then { s with mem := zeroM s.mem c.obj } else s
def sendE (x : Msg) (a : List Msg × List Rcv) : List Msg × List Rcv := match a.2 with
  | [] => (a.1 ++ [x], [])
  | _ :: r => (a.1, r)
def recvE (y : Rcv) (a : List Msg × List Rcv) : List Msg × List Rcv := match a.1 with
  | [] => ([], a.2 ++ [y])
  | _ :: r => (r, a.2)
def r0 : Rcv := ((0, 0), 0)
def kWaits (s : KS) (k u : Int) : List ID :=
  if k = 4 then (match look s.ep u with
    | none => []
    | some x => x.2.1.map Prod.fst ++ x.2.2.map Prod.fst)
  else if k = 5 then (match look s.nt u with
    | none => []
    | some x => x.2.2)
  else if k = 7 then (match look s.rp u with
    | none => []
    | some x => if x.2.2 = true then [x.2.1] else [])
  else []
end Go.Pse
namespace Go.Pse
open Go.RowKit Go.Proofs
/-! ### plain: a ring is torn down, whatever it has -/
theorem look_delO {κ υ : Type} [DecidableEq κ] {ps : List (κ × υ)} {a i : κ} (h : a ≠ i) : look (del ps i) a = look ps a := by
  rw [look_del, if_neg (fun e => h e.symm)]
theorem Fits.tearOn {N M : Nat} : ∀ {l : List Rq} {s : KS}, Fits s N M → (l.map Rq.id).Nodup → (∀ q ∈ l, look s.rt q.id = some q) → Fits (kTearL s l) N M
  | [], _, h, _, _ => h
  | q :: l, s, h, hn, hm => by
    obtain ⟨M, rfl⟩ : ∃ M', M = M' + 1 := ⟨M - 1, by
      have h1 := del_less (hm q List.mem_cons_self)
      have h2 := h.jn
      omega⟩
    rw [List.map_cons, List.nodup_cons] at hn
    refine Fits.tearOn (l := l) (s := kTear1 s q) (((h.drop (hm q List.mem_cons_self)).forget q.id).jnl h.mm (deedG q)) hn.2 fun x hx => ?_
    show look (del s.rt q.id) x.id = some x
    rw [look_delO (fun e => hn.1 (List.mem_map.2 ⟨x, hx, e⟩))]
    exact hm x (List.mem_cons_of_mem _ hx)
theorem ofQ_ids {ps : List (ID × Rq)} (hK : Keyd ps) (hI : Ids ps) (g : Int) : ((ofQ ps g).map Rq.id).Nodup ∧ ∀ q ∈ ofQ ps g, look ps q.id = some q := by
  constructor
  · have h1 : (ofQ ps g).Perm (ofRing ps g) := sortF_isPerm _
    refine (h1.map Rq.id).nodup_iff.2 ?_
    unfold ofRing
    rw [List.map_map]
    have h2 : (ps.filter fun e => decide (e.1.1 = g)).map (Rq.id ∘ Prod.snd) = (ps.filter fun e => decide (e.1.1 = g)).map Prod.fst := List.map_congr_left fun e he => hI e (List.mem_filter.1 he).1
    rw [h2]
    exact List.Nodup.sublist (List.Sublist.map _ List.filter_sublist) hK
  · intro q hq
    obtain ⟨k, h1, h2⟩ := ofQ_mem.1 hq
    rw [hI _ h1]
    exact look_mem hK h1
theorem rem_mem {α : Type} {xs : List (Int × α)} {u : Int} {x : Int × α} (h : x ∈ rem xs u) : x ∈ xs := (List.mem_filter.1 h).1
theorem Fits.gone {s : KS} {N M : Nat} (h : Fits s N M) (k u : Int) : Fits (kGone s k u) N M := by
  unfold kGone
  split
  · exact ⟨h.n, h.mm, h.ids, h.jn, h.tm, fun x hx => h.ep x (rem_mem hx), h.nt, h.rp, h.rg, h.mem⟩
  · split
    · exact ⟨h.n, h.mm, h.ids, h.jn, h.tm, h.ep, fun x hx => h.nt x (rem_mem hx), h.rp, h.rg, h.mem⟩
    · split
      · exact ⟨h.n, h.mm, h.ids, h.jn, h.tm, h.ep, h.nt, fun x hx => h.rp x (rem_mem hx), h.rg, h.mem⟩
      · split
        · exact ⟨h.n, h.mm, h.ids, h.jn, h.tm, h.ep, h.nt, h.rp, h.rg, h.mem⟩
        · split
          · exact ⟨h.n, h.mm, h.ids, h.jn, h.tm, h.ep, h.nt, h.rp, h.rg, h.mem⟩
          · split
            · exact ⟨h.n, h.mm, h.ids, h.jn, h.tm, h.ep, h.nt, h.rp, h.rg, h.mem⟩
            · split
              · exact ⟨h.n, h.mm, h.ids, h.jn, h.tm, h.ep, h.nt, h.rp, fun x hx => h.rg x (rem_mem hx), h.mem⟩
              · exact h
theorem Fits.cleared {s : KS} {N M : Nat} (h : Fits s N M) (g : Int) : Fits (kCleared s g) N M :=
  ⟨h.n, h.mm, h.ids, h.jn, h.tm, h.ep, h.nt, h.rp, fun x hx => by
    obtain ⟨y, hy, h1, h2⟩ := updO_mem (show x ∈ updO s.rg g (fun r => { r with over := [] }) from hx)
    obtain ⟨g1, g2⟩ := h.rg y hy
    rcases h2 with h2 | h2 <;> rw [h2]
    · exact ⟨g1, g2⟩
    · exact ⟨⟨g1.sq, g1.cq, g1.cb, g1.tail, g1.sb, g1.head⟩, by have := h.jn; show 0 + s.rt.length ≤ M; omega⟩, h.mem⟩
theorem Fits.tear {s : KS} {N M : Nat} (hK : Keyd s.rt) (h : Fits s N M) (g : Int) : Fits (kTear s g) N M := by
  unfold kTear
  split
  · have hq := ofQ_ids hK h.ids g
    exact ((h.tearOn hq.1 hq.2).cleared g).gone 9 g
  · exact h
theorem kTearL_same : ∀ {l : List Rq} {s : KS}, (kTearL s l).q = s.q ∧ (kTearL s l).mp = s.mp ∧ (kTearL s l).sl = s.sl ∧ (kTearL s l).mr = s.mr
  | [], _ => ⟨rfl, rfl, rfl, rfl⟩
  | q :: l, s => kTearL_same (l := l) (s := kTear1 s q)
theorem kTearL_rt : ∀ {l : List Rq} {s : KS}, (kTearL s l).rt.Sublist s.rt
  | [], _ => List.Sublist.refl _
  | q :: l, s => (kTearL_rt (l := l) (s := kTear1 s q)).trans (List.filter_sublist (l := s.rt))
theorem kTear_same {s : KS} {g : Int} : (kTear s g).q = s.q ∧ (kTear s g).mp = s.mp ∧ (kTear s g).sl = s.sl ∧ (kTear s g).mr = s.mr := by
  unfold kTear
  split
  · have h := kTearL_same (l := ofQ s.rt g) (s := s)
    exact h
  · exact ⟨rfl, rfl, rfl, rfl⟩
theorem kTear_rt {s : KS} {g : Int} : (kTear s g).rt.Sublist s.rt := by
  unfold kTear
  split
  · exact kTearL_rt
  · exact List.Sublist.refl _
theorem Keyd.sub {κ υ : Type} {ps qs : List (κ × υ)} (h : Keyd ps) (hs : qs.Sublist ps) : Keyd qs := List.Nodup.sublist (hs.map _) h
def tornStep (u : Int) (s : KS) (g : Int) : KS := match look s.rg g with
  | none => s
  | some x => if x.2.sq = u ∨ x.2.cq = u then kTear s g else s
def kTorn (s : KS) (u : Int) (l : List Int) : KS := l.foldl (tornStep u) s
def kDestroy (s : KS) (o : Obj2) : KS :=
  kGone (if o.1 = 3 then kTorn (kEnds s (kWaits s o.1 o.2)) o.2 (sortZ ((kEnds s (kWaits s o.1 o.2)).rg.map Prod.fst)) else if o.1 = 9 then kTear (kEnds s (kWaits s o.1 o.2)) o.2 else kEnds s (kWaits s o.1 o.2)) o.1 o.2
def kDestroyL (s : KS) (l : List Obj2) : KS := l.foldl kDestroy s
structure Kept (s t : KS) : Prop where
  q : t.q = s.q
  mp : t.mp = s.mp
  sl : t.sl = s.sl
  mr : t.mr = s.mr
theorem Kept.refl (s : KS) : Kept s s := ⟨rfl, rfl, rfl, rfl⟩
theorem Kept.trans {s t v : KS} (h : Kept s t) (g : Kept t v) : Kept s v := ⟨g.q.trans h.q, g.mp.trans h.mp, g.sl.trans h.sl, g.mr.trans h.mr⟩
theorem Kept.said (s : KS) (d : Deed) : Kept s (kSaid s d) := by unfold kSaid kPost; split <;> exact ⟨rfl, rfl, rfl, rfl⟩
theorem Kept.tell {D : KS → ID → Int → Int → KS} (hD : ∀ s i r v, Kept s (D s i r v)) (s : KS) (d : Deed) : Kept s (kTell D s d) := by
  unfold kTell
  split
  · exact Kept.said s d
  · split
    · exact (Kept.said s d).trans (Kept.trans (t := kRung (kSaid s d) d.1.1) ⟨rfl, rfl, rfl, rfl⟩ (hD _ _ _ _))
    · exact (Kept.said s d).trans ⟨rfl, rfl, rfl, rfl⟩
theorem Kept.dec : ∀ n (s : KS) (i : ID) (r v : Int), Kept s (kDec n s i r v)
  | 0, s, _, _, _ => .refl s
  | n + 1, s, i, r, v => by
    cases hq : look s.rt i with
    | none => rw [kDec_none hq]; exact .refl s
    | some q =>
      rw [kDec_some hq]
      have h0 : Kept s (kForget { s with rt := del s.rt i } i) := ⟨rfl, rfl, rfl, rfl⟩
      have h := h0.trans (Kept.tell (D := kDec n) (fun s i r v => Kept.dec n s i r v) (kForget { s with rt := del s.rt i } i) (i, q.e.tag, q.e.op, r, v, false))
      unfold kNext
      split
      · exact h
      · split
        · exact h.trans (Kept.dec n _ _ _ _)
        · exact h
theorem Kept.ends : ∀ (l : List ID) (s : KS), Kept s (kEnds s l)
  | [], s => .refl s
  | i :: l, s => (Kept.dec _ _ _ _ _).trans (Kept.ends l _)
theorem Kept.tear (s : KS) (g : Int) : Kept s (kTear s g) := ⟨kTear_same.1, kTear_same.2.1, kTear_same.2.2.1, kTear_same.2.2.2⟩
theorem Kept.tornStep (u : Int) (s : KS) (g : Int) : Kept s (tornStep u s g) := by
  unfold Go.Pse.tornStep
  split
  · exact .refl s
  · split
    · exact .tear s g
    · exact .refl s
theorem Kept.torn (u : Int) : ∀ (l : List Int) (s : KS), Kept s (kTorn s u l)
  | [], s => .refl s
  | g :: l, s => (Kept.tornStep u s g).trans (Kept.torn u l _)
theorem dec_rt : ∀ n (s : KS) (i : ID) (r v : Int), (kDec n s i r v).rt.Sublist s.rt
  | 0, s, _, _, _ => List.Sublist.refl _
  | n + 1, s, i, r, v => by
    cases hq : look s.rt i with
    | none => rw [kDec_none hq]; exact List.Sublist.refl _
    | some q =>
      rw [kDec_some hq]
      have h : (kTell (kDec n) (kForget { s with rt := del s.rt i } i) (i, q.e.tag, q.e.op, r, v, false)).rt.Sublist s.rt := by
        unfold kTell
        have h0 : (kSaid (kForget { s with rt := del s.rt i } i) (i, q.e.tag, q.e.op, r, v, false)).rt.Sublist s.rt := by
          rw [kSaid_rt]; exact List.filter_sublist (l := s.rt)
        split
        · exact h0
        · split
          · exact (dec_rt n _ _ _ _).trans h0
          · exact h0
      unfold kNext
      split
      · exact h
      · split
        · exact (dec_rt n _ _ _ _).trans h
        · exact h
theorem ends_rt : ∀ (l : List ID) (s : KS), (kEnds s l).rt.Sublist s.rt
  | [], s => List.Sublist.refl _
  | i :: l, s => (ends_rt l _).trans (dec_rt _ _ _ _ _)
theorem tornStep_rt (u : Int) (s : KS) (g : Int) : (tornStep u s g).rt.Sublist s.rt := by
  unfold tornStep
  split
  · exact List.Sublist.refl _
  · split
    · exact kTear_rt
    · exact List.Sublist.refl _
theorem torn_rt (u : Int) : ∀ (l : List Int) (s : KS), (kTorn s u l).rt.Sublist s.rt
  | [], s => List.Sublist.refl _
  | g :: l, s => (torn_rt u l _).trans (tornStep_rt u s g)
theorem Fits.tornStep {s : KS} {N M : Nat} (hK : Keyd s.rt) (h : Fits s N M) (u g : Int) : Fits (tornStep u s g) N M := by
  unfold Go.Pse.tornStep
  split
  · exact h
  · split
    · exact h.tear hK g
    · exact h
theorem Fits.torn {N M : Nat} (u : Int) : ∀ {l : List Int} {s : KS}, Keyd s.rt → Fits s N M → Fits (kTorn s u l) N M
  | [], _, _, h => h
  | g :: l, s, hK, h => Fits.torn u (l := l) (hK.sub (tornStep_rt u s g)) (h.tornStep hK u g)
theorem kDestroy_rt (s : KS) (o : Obj2) : (kDestroy s o).rt.Sublist s.rt := by
  have e : ∀ (t : KS) (k u : Int), (kGone t k u).rt = t.rt := fun t k u => by
    unfold kGone; (repeat' split) <;> rfl
  unfold kDestroy
  rw [e]
  split
  · exact (torn_rt _ _ _).trans (ends_rt _ _)
  · split
    · exact kTear_rt.trans (ends_rt _ _)
    · exact ends_rt _ _
theorem Fits.destroy {s : KS} {N M : Nat} (hK : Keyd s.rt) (h : Fits s N M) (o : Obj2) : Fits (kDestroy s o) N M := by
  have hE : Fits (kEnds s (kWaits s o.1 o.2)) N M := h.ends
  have hK2 := hK.sub (ends_rt (kWaits s o.1 o.2) s)
  unfold kDestroy
  refine Fits.gone ?_ _ _
  split
  · exact hE.torn _ hK2
  · split
    · exact hE.tear hK2 _
    · exact hE
theorem gone_len (s : KS) (k u : Int) : (kGone s k u).q.length ≤ s.q.length ∧ (kGone s k u).mp.length ≤ s.mp.length ∧ (kGone s k u).sl = s.sl ∧ (kGone s k u).mr = s.mr := by
  unfold kGone
  have h1 : ∀ p : (Int × Int) × (Int × Int) → Bool, (s.mp.filter p).length ≤ s.mp.length := fun p => List.length_filter_le _ _
  (repeat' split) <;> first | exact ⟨Nat.le_refl _, Nat.le_refl _, rfl, rfl⟩ | exact ⟨Nat.le_refl _, h1 _, rfl, rfl⟩ | exact ⟨qRem_len _ _, Nat.le_refl _, rfl, rfl⟩
theorem destroy_len (s : KS) (o : Obj2) : (kDestroy s o).q.length ≤ s.q.length ∧ (kDestroy s o).mp.length ≤ s.mp.length ∧ (kDestroy s o).sl = s.sl ∧ (kDestroy s o).mr = s.mr := by
  have hk : Kept s (if o.1 = 3 then kTorn (kEnds s (kWaits s o.1 o.2)) o.2 (sortZ ((kEnds s (kWaits s o.1 o.2)).rg.map Prod.fst)) else if o.1 = 9 then kTear (kEnds s (kWaits s o.1 o.2)) o.2 else kEnds s (kWaits s o.1 o.2)) := by
    split
    · exact (Kept.ends _ _).trans (Kept.torn _ _ _)
    · split
      · exact (Kept.ends _ _).trans (Kept.tear _ _)
      · exact Kept.ends _ _
  have h := gone_len (if o.1 = 3 then kTorn (kEnds s (kWaits s o.1 o.2)) o.2 (sortZ ((kEnds s (kWaits s o.1 o.2)).rg.map Prod.fst)) else if o.1 = 9 then kTear (kEnds s (kWaits s o.1 o.2)) o.2 else kEnds s (kWaits s o.1 o.2)) o.1 o.2
  rw [hk.q, hk.mp, hk.sl, hk.mr] at h
  exact h
theorem destroyL_rt : ∀ (l : List Obj2) (s : KS), (kDestroyL s l).rt.Sublist s.rt
  | [], s => List.Sublist.refl _
  | o :: l, s => (destroyL_rt l _).trans (kDestroy_rt s o)
theorem Fits.destroyL {N M : Nat} : ∀ {l : List Obj2} {s : KS}, Keyd s.rt → Fits s N M → Fits (kDestroyL s l) N M
  | [], _, _, h => h
  | o :: l, s, hK, h => Fits.destroyL (l := l) (hK.sub (kDestroy_rt s o)) (h.destroy hK o)
theorem destroyL_len : ∀ (l : List Obj2) (s : KS), (kDestroyL s l).q.length ≤ s.q.length ∧ (kDestroyL s l).mp.length ≤ s.mp.length ∧ (kDestroyL s l).sl = s.sl ∧ (kDestroyL s l).mr = s.mr
  | [], s => ⟨Nat.le_refl _, Nat.le_refl _, rfl, rfl⟩
  | o :: l, s => by
    have h1 := destroyL_len l (kDestroy s o)
    have h2 := destroy_len s o
    exact ⟨Nat.le_trans h1.1 h2.1, Nat.le_trans h1.2.1 h2.2.1, h1.2.2.1.trans h2.2.2.1, h1.2.2.2.trans h2.2.2.2⟩
end Go.Pse
namespace Go.Pse
open Go.RowKit Go.Proofs
theorem kSaid_rglen (s : KS) (d : Deed) : (kSaid s d).rg.length = s.rg.length := by
  unfold kSaid kPost
  split
  · rfl
  · simp [updO]
theorem tell_rglen {D : KS → ID → Int → Int → KS} (hD : ∀ s i r v, (D s i r v).rg.length = s.rg.length) (s : KS) (d : Deed) : (kTell D s d).rg.length = s.rg.length := by
  unfold kTell
  split
  · exact kSaid_rglen s d
  · split
    · exact (hD _ _ _ _).trans (kSaid_rglen s d)
    · exact kSaid_rglen s d
theorem dec_rglen : ∀ n (s : KS) (i : ID) (r v : Int), (kDec n s i r v).rg.length = s.rg.length
  | 0, s, _, _, _ => rfl
  | n + 1, s, i, r, v => by
    cases hq : look s.rt i with
    | none => rw [kDec_none hq]
    | some q =>
      rw [kDec_some hq]
      have h := tell_rglen (D := kDec n) (fun s i r v => dec_rglen n s i r v) (kForget { s with rt := del s.rt i } i) (i, q.e.tag, q.e.op, r, v, false)
      unfold kNext
      split
      · exact h
      · split
        · exact (dec_rglen n _ _ _ _).trans h
        · exact h
theorem ends_rglen : ∀ (l : List ID) (s : KS), (kEnds s l).rg.length = s.rg.length
  | [], s => rfl
  | i :: l, s => (ends_rglen l _).trans (dec_rglen _ _ _ _ _)
theorem kTear_rglen (s : KS) (g : Int) : (kTear s g).rg.length ≤ s.rg.length := by
  unfold kTear
  split
  · have e : (kGone (kCleared (kTearL s (ofQ s.rt g)) g) 9 g).rg = rem (updO (kTearL s (ofQ s.rt g)).rg g (fun r => { r with over := [] })) g := rfl
    rw [e, kTearL_rg.1]
    unfold rem
    refine Nat.le_trans (List.length_filter_le _ _) ?_
    unfold updO; rw [List.length_map]; exact Nat.le_refl _
  · exact Nat.le_refl _
theorem torn_rglen (u : Int) : ∀ (l : List Int) (s : KS), (kTorn s u l).rg.length ≤ s.rg.length
  | [], s => Nat.le_refl _
  | g :: l, s => by
    refine Nat.le_trans (torn_rglen u l (tornStep u s g)) ?_
    unfold tornStep
    split
    · exact Nat.le_refl _
    · split
      · exact kTear_rglen s g
      · exact Nat.le_refl _
theorem gone_rglen (s : KS) (k u : Int) : (kGone s k u).rg.length ≤ s.rg.length := by
  unfold kGone
  (repeat' split) <;> first | exact Nat.le_refl _ | exact List.length_filter_le _ _
theorem destroy_rglen (s : KS) (o : Obj2) : (kDestroy s o).rg.length ≤ s.rg.length := by
  unfold kDestroy
  refine Nat.le_trans (gone_rglen _ _ _) ?_
  split
  · exact Nat.le_trans (torn_rglen _ _ _) (Nat.le_of_eq (ends_rglen _ _))
  · split
    · exact Nat.le_trans (kTear_rglen _ _) (Nat.le_of_eq (ends_rglen _ _))
    · exact Nat.le_of_eq (ends_rglen _ _)
theorem destroyL_rglen : ∀ (l : List Obj2) (s : KS), (kDestroyL s l).rg.length ≤ s.rg.length
  | [], s => Nat.le_refl _
  | o :: l, s => Nat.le_trans (destroyL_rglen l _) (destroy_rglen s o)
end Go.Pse
namespace Go.Pse
open Go.RowKit Go.Proofs
/-! ### plain: what an entry asks of slots -/
def in32 (n : Int) : Prop := 0 ≤ n ∧ n < 4294967296
structure SqeOk (e : Sqe) : Prop where
  cap : in32 e.cap
  a : in32 e.a
  b : in32 e.b
  c : in32 e.c
def twoAt (s : KS) (T : Th) (e : Sqe) : Option (Place × Place) := match kFind s.sl T.root e.cap with
  | none => none
  | some x => match kFind s.sl T.root e.a with
    | none => none
    | some y => some (x, y)
def twoS (s : KS) (F : Place → Place → KS × Int) : Option (Place × Place) → KS × Int
  | none => (s, 2)
  | some x => F x.1 x.2
def killS (s : KS) (F : Place → (List (Place × SV) × List Obj2) × Int) : Option Place → KS × Int
  | none => (s, 2)
  | some x => (kDestroyL { s with sl := (F x).1.1 } (F x).1.2, (F x).2)
def mayS (s : KS) (T : Th) (e : Sqe) (kind r : Int) : Cap × Int :=
  if (kCap s.sl T.root e.cap kind).2.2 = 0 ∧ bits .and .i64 (kCap s.sl T.root e.cap kind).1.rights r ≠ r then (c0, 6) else ((kCap s.sl T.root e.cap kind).1, (kCap s.sl T.root e.cap kind).2.2)
end Go.Pse
namespace Go.Pse
open Go.RowKit Go.Proofs
def copyF (s : KS) (e : Sqe) (x y : Place) : KS × Int := ({ s with sl := (copyS s.sl x y e.b).1 }, (copyS s.sl x y e.b).2)
def mintF (s : KS) (e : Sqe) (x y : Place) : KS × Int := ({ s with sl := (mintS s.sl x y e.b).1 }, (mintS s.sl x y e.b).2)
def moveF (s : KS) (x y : Place) : KS × Int := ({ s with sl := (dmoveS s.sl x y).1 }, (dmoveS s.sl x y).2)
def retF (s : KS) (e : Sqe) (x y : Place) : KS × Int := ({ s with sl := (makeS s.sl s.mr x y e.b e.c).1.1, mr := (makeS s.sl s.mr x y e.b e.c).1.2 }, (makeS s.sl s.mr x y e.b e.c).2.2)
def kSlots (s : KS) (T : Th) (e : Sqe) : KS × Int :=
  if e.op = 2 then twoS s (copyF s e) (twoAt s T e) else if e.op = 3 then twoS s (mintF s e) (twoAt s T e) else if e.op = 4 then twoS s (moveF s) (twoAt s T e)
  else if e.op = 5 then killS s (deleteS s.sl) (kFind s.sl T.root e.cap) else killS s (revokeS s.sl) (kFind s.sl T.root e.cap)
def kRetC (s : KS) (T : Th) (e : Sqe) : Int := (twoS s (retF s e) (twoAt s T e)).2
def kRetK (s : KS) (T : Th) (e : Sqe) : Cap := match twoAt s T e with
  | none => c0
  | some x => (makeS s.sl s.mr x.1 x.2 e.b e.c).2.1
def kRetS (s : KS) (T : Th) (e : Sqe) (b : Nat) : KS := if kRetC s T e = 0 then kMade (twoS s (retF s e) (twoAt s T e)).1 (kRetK s T e) b else (twoS s (retF s e) (twoAt s T e)).1
def kRetV (s : KS) (T : Th) (e : Sqe) : Int := if kRetC s T e = 0 then (kRetK s T e).obj else 0
theorem makeS_obj {ps : List (Place × SV)} {mr : List (Place × Int)} {p q : Place} {k z : Int} (hc : CapsOk ps) (hm : MarksOk mr) (h : (makeS ps mr p q k z).2.2 = 0) : 1 ≤ (makeS ps mr p q k z).2.1.obj ∧ (makeS ps mr p q k z).2.1.obj ≤ 64 := by
  unfold makeS at h ⊢
  split at h
  · simp at h
  · rename_i u hu
    have hcu := checkC_is (hc _ (mem_look hu))
    dsimp only at hcu
    split at h
    · simp at h
    · rename_i h1
      split at h
      · simp at h
      · rename_i h2
        split at h
        · simp at h
        · rename_i h3
          split at h
          · rename_i h4; exact absurd h h4
          · rename_i h4
            split at h
            · rename_i h5
              rw [if_neg h1, if_neg h2, if_neg h3, if_neg h4, if_pos h5]
              have hus := usedM_is (hm.reset ps u.1) (rangeC u.1)
              have hk1 : u.1.kind = 1 := by simpa using h1
              have hr : rangeC u.1 = (u.1.obj, u.1.size) := if_neg h1
              have hto := h5
              unfold mtkOk at hto
              simp only [Bool.and_eq_true, decide_eq_true_eq, hr] at hto
              show 1 ≤ mtkV _ _ _ ∧ mtkV _ _ _ ≤ 64
              unfold mtkV
              rw [if_pos h5, hr]
              rw [hr] at hus
              have := hcu.2.2 hk1
              dsimp only
              omega
            · simp at h
end Go.Pse
namespace Go.Pse
open Go.RowKit Go.Proofs
/-! ### plain: what an entry asks of pages, threads, whoever waits -/
abbrev Out := Option (Int × Int)
def failO (c : Int) : Out := some (-c, 0)
def kMaps (s : KS) (T : Th) (e : Sqe) : KS × Int :=
  if (kCap s.sl T.root e.cap 3).2.2 ≠ 0 then (s, (kCap s.sl T.root e.cap 3).2.2)
  else if e.a ≥ 8 ∨ e.b < 1 ∨ e.b > 3 then (s, 7)
  else if bits .and .i64 (kCap s.sl T.root e.cap 3).1.rights e.b ≠ e.b then (s, 6)
  else if (look s.sp T.space).getD false = false then (s, 11)
  else if spSetOk s.mp (T.space, e.a) ((kCap s.sl T.root e.cap 3).1.obj, e.b) = false then (s, 3)
  else ({ s with mp := spSet s.mp (T.space, e.a) ((kCap s.sl T.root e.cap 3).1.obj, e.b) }, 0)
def kUnmap (s : KS) (T : Th) (e : Sqe) : KS × Int :=
  if e.a ≥ 8 then (s, 7) else if (look s.mp (T.space, e.a)).isSome = false then ({ s with mp := del s.mp (T.space, e.a) }, 11) else ({ s with mp := del s.mp (T.space, e.a) }, 0)
def kThr (s : KS) (e : Sqe) (u : Int) : KS × Bool :=
  if e.op = 16 then ({ s with q := qSet s.q u e.a }, qSetOk s.q u e.a) else if e.op = 17 then (kStop s u, kStopOk s u) else (kGo s u, kGoOk s u)
def kThreads (s : KS) (T : Th) (e : Sqe) : KS × Int :=
  if (kCap s.sl T.root e.cap 6).2.2 ≠ 0 then (s, (kCap s.sl T.root e.cap 6).2.2)
  else if e.op = 16 ∧ e.a ≥ 8 then (s, 7)
  else ((kThr s e (kCap s.sl T.root e.cap 6).1.obj).1, if (kThr s e (kCap s.sl T.root e.cap 6).1.obj).2 = true then 0 else 11)
def tagQ (ps : List (ID × Rq)) (g tag but : Int) : Option ID := ((ofQ ps g).find? fun r => decide (r.e.tag = tag) && !decide (r.id.2 = but)).map Rq.id
def kCancels (s : KS) (e : Sqe) (i : ID) : KS × Int := match tagQ s.rt i.1 e.a i.2 with
  | none => (s, 11)
  | some j => (kDec s.rt.length s j (-9) 0, 0)
def kBind (s : KS) (u : Int) (j : ID) : KS := match look s.rp u with
  | none => s
  | some x => if x.2.2 = true then kDec s.rt.length { s with rp := updO s.rp u (fun _ => (j, true)) } x.2.1 (-9) 0 else { s with rp := updO s.rp u (fun _ => (j, true)) }
def kSend3 (s : KS) (u : Int) (i : ID) (call : Bool) : KS × Out := if call = false then (s, some (0, 0)) else match look s.rp u with
  | none => (s, failO 11)
  | some _ => (kBind s u i, none)
def kSend2 (s : KS) (c : Cap) (e : Sqe) (i : ID) (call : Bool) : List Rcv → KS × Out
  | [] => (s, none)
  | y :: _ => kSend3 (kDec s.rt.length s y.1 c.badge e.a) y.2 i call
def kSend1 (s : KS) (c : Cap) (e : Sqe) (i : ID) (call : Bool) : KS × Out := match look s.ep c.obj with
  | none => (s, failO 11)
  | some y => kSend2 { s with ep := updO s.ep c.obj (sendE (i, e.a, c.badge, call)) } c e i call y.2.2
def kSends (s : KS) (T : Th) (e : Sqe) (i : ID) (call : Bool) : KS × Out :=
  if (mayS s T e 4 (if call = true then 6 else 2)).2 ≠ 0 then (s, failO (mayS s T e 4 (if call = true then 6 else 2)).2) else kSend1 s (mayS s T e 4 (if call = true then 6 else 2)).1 e i call
def kMet (s : KS) (u : Int) (x : Msg) : KS :=
  if x.2.2.2 = true then (match look s.rp u with
    | none => kDec s.rt.length s x.1 (-11) 0
    | some _ => kBind s u x.1)
  else kDec s.rt.length s x.1 0 0
def kRecv2 (s : KS) (u : Int) : List Msg → KS × Out
  | [] => (s, none)
  | x :: _ => (kMet s u x, some (x.2.2.1, x.2.1))
def kRecv1 (s : KS) (c : Cap) (u : Int) (i : ID) : KS × Out := match look s.ep c.obj with
  | none => (s, failO 11)
  | some y => kRecv2 { s with ep := updO s.ep c.obj (recvE (i, u)) } u y.2.1
def kRecvs (s : KS) (T : Th) (e : Sqe) (i : ID) : KS × Out :=
  if (mayS s T e 4 1).2 ≠ 0 then (s, failO (mayS s T e 4 1).2)
  else if e.b ≠ 0 then (if (kCap s.sl T.root e.b 7).2.2 ≠ 0 then (s, failO (kCap s.sl T.root e.b 7).2.2) else kRecv1 s (mayS s T e 4 1).1 (kCap s.sl T.root e.b 7).1.obj i)
  else kRecv1 s (mayS s T e 4 1).1 0 i
def kAnswers (s : KS) (T : Th) (e : Sqe) : KS × Int :=
  if (kCap s.sl T.root e.cap 7).2.2 ≠ 0 then (s, (kCap s.sl T.root e.cap 7).2.2)
  else match look s.rp (kCap s.sl T.root e.cap 7).1.obj with
    | none => (s, 11)
    | some x => if x.2.2 = false then ({ s with rp := updO s.rp (kCap s.sl T.root e.cap 7).1.obj (fun _ => ((0, 0), false)) }, 11)
      else (kDec s.rt.length { s with rp := updO s.rp (kCap s.sl T.root e.cap 7).1.obj (fun _ => ((0, 0), false)) } x.2.1 0 e.a, 0)
def sigB (c : Cap) (e : Sqe) : Int := if IntKind.u32.wrap c.badge = 0 then e.a else IntKind.u32.wrap c.badge
def kSignals (s : KS) (T : Th) (e : Sqe) : KS × Int :=
  if (mayS s T e 5 2).2 ≠ 0 then (s, (mayS s T e 5 2).2)
  else match look s.nt (mayS s T e 5 2).1.obj with
    | none => (s, 11)
    | some x => (if woke x.2.1 x.2.2 (sigB (mayS s T e 5 2).1 e) = true then kDec s.rt.length { s with nt := updO s.nt (mayS s T e 5 2).1.obj (ntS (sigB (mayS s T e 5 2).1 e)) } (sigI x.2.1 x.2.2 (sigB (mayS s T e 5 2).1 e)) 0 (sigV x.2.1 x.2.2 (sigB (mayS s T e 5 2).1 e)) else { s with nt := updO s.nt (mayS s T e 5 2).1.obj (ntS (sigB (mayS s T e 5 2).1 e)) }, 0)
def kNWaits (s : KS) (T : Th) (e : Sqe) (i : ID) : KS × Out :=
  if (mayS s T e 5 1).2 ≠ 0 then (s, failO (mayS s T e 5 1).2)
  else match look s.nt (mayS s T e 5 1).1.obj with
    | none => (s, failO 11)
    | some x => ({ s with nt := updO s.nt (mayS s T e 5 1).1.obj (ntW i) }, if x.2.1 = 0 then none else some (0, x.2.1))
theorem Fits.rpF {s : KS} {N M : Nat} (h : Fits s N M) (u : Int) (f : ID × Bool → ID × Bool) : Fits { s with rp := updO s.rp u f } N M :=
  ⟨h.n, h.mm, h.ids, h.jn, h.tm, h.ep, h.nt, fun x hx => by
    obtain ⟨y, hy, h1, _⟩ := updO_mem (show x ∈ updO s.rp u f from hx)
    rw [h1]; exact h.rp y hy, h.rg, h.mem⟩
theorem Fits.more {s : KS} {N M : Nat} (h : Fits s N M) (hN : N + 1 ≤ 90000) : Fits s (N + 1) M :=
  ⟨hN, h.mm, h.ids, h.jn, by have := h.tm; omega, fun x hx => by have := h.ep x hx; exact ⟨this.1, by omega, by omega⟩, fun x hx => by have := h.nt x hx; exact ⟨this.1, by omega⟩, h.rp, h.rg, h.mem⟩
theorem sendE_len (z : Msg) (a : List Msg × List Rcv) : (sendE z a).1.length ≤ a.1.length + 1 ∧ (sendE z a).2.length ≤ a.2.length := by
  unfold sendE
  split
  · simp
  · rename_i h; simp [h]
theorem recvE_len (z : Rcv) (a : List Msg × List Rcv) : (recvE z a).1.length ≤ a.1.length ∧ (recvE z a).2.length ≤ a.2.length + 1 := by
  unfold recvE
  split
  · simp
  · rename_i h; simp [h]
theorem Fits.epF {s : KS} {N M : Nat} (h : Fits s N M) (hN : N + 1 ≤ 90000) (u : Int) {f : List Msg × List Rcv → List Msg × List Rcv} (hf : ∀ a, (f a).1.length ≤ a.1.length + 1 ∧ (f a).2.length ≤ a.2.length + 1) : Fits { s with ep := updO s.ep u f } (N + 1) M :=
  ⟨hN, h.mm, h.ids, h.jn, by have := h.tm; show s.tm.length ≤ _; omega, fun x hx => by
    obtain ⟨y, hy, h1, h2⟩ := updO_mem (show x ∈ updO s.ep u f from hx)
    have h3 := h.ep y hy
    rw [h1]
    rcases h2 with h2 | h2 <;> rw [h2]
    · exact ⟨h3.1, by omega, by omega⟩
    · have := hf y.2.2; exact ⟨h3.1, by omega, by omega⟩, fun x hx => by have := h.nt x hx; exact ⟨this.1, by omega⟩, h.rp, h.rg, h.mem⟩
theorem Fits.ntF {s : KS} {N M : Nat} (h : Fits s N M) (hN : N + 1 ≤ 90000) (u : Int) {f : Int × List ID → Int × List ID} (hf : ∀ a, (f a).2.length ≤ a.2.length + 1) : Fits { s with nt := updO s.nt u f } (N + 1) M :=
  ⟨hN, h.mm, h.ids, h.jn, by have := h.tm; show s.tm.length ≤ _; omega, fun x hx => by have := h.ep x hx; exact ⟨this.1, by omega, by omega⟩, fun x hx => by
    obtain ⟨y, hy, h1, h2⟩ := updO_mem (show x ∈ updO s.nt u f from hx)
    have h3 := h.nt y hy
    rw [h1]
    rcases h2 with h2 | h2 <;> rw [h2]
    · exact ⟨h3.1, by omega⟩
    · have := hf y.2.2; exact ⟨h3.1, by omega⟩, h.rp, h.rg, h.mem⟩
end Go.Pse
namespace Go.Pse
open Go.RowKit Go.Proofs
/-! ### plain: what an entry does -/
def kDoes (s : KS) (T : Th) (q : Rq) (i : ID) (b : Nat) : KS × Out :=
 if q.e.op = 1 then (s, some (0, 0))
 else if q.e.op = 2 ∨ q.e.op = 3 ∨ q.e.op = 4 ∨ q.e.op = 5 ∨ q.e.op = 6 then ((kSlots s T q.e).1, failO (kSlots s T q.e).2)
 else if q.e.op = 7 then (kRetS s T q.e b, some (-(kRetC s T q.e), kRetV s T q.e))
 else if q.e.op = 8 then ((kMaps s T q.e).1, failO (kMaps s T q.e).2)
 else if q.e.op = 9 then ((kUnmap s T q.e).1, failO (kUnmap s T q.e).2)
 else if q.e.op = 10 ∨ q.e.op = 12 then kSends s T q.e i (decide (q.e.op = 12))
 else if q.e.op = 11 then kRecvs s T q.e i
 else if q.e.op = 13 then ((kAnswers s T q.e).1, failO (kAnswers s T q.e).2)
 else if q.e.op = 14 then ((kSignals s T q.e).1, failO (kSignals s T q.e).2)
 else if q.e.op = 15 then kNWaits s T q.e i
 else if q.e.op = 16 ∨ q.e.op = 17 ∨ q.e.op = 18 then ((kThreads s T q.e).1, failO (kThreads s T q.e).2)
 else if q.e.op = 19 then (s, none)
 else if q.e.op = 20 then ((kCancels s q.e i).1, failO (kCancels s q.e i).2)
 else (s, failO 11)
def kOwner (s : KS) (r : Int) : Option Th := (s.th.find? fun e => decide (e.2.ring = r)).map Prod.snd
structure Good (s : KS) (N M : Nat) : Prop where
  fit : Fits s N M
  n1 : N + 1 ≤ 90000
  m2 : M ≤ 45000
  q : s.q.length ≤ N
  mp : s.mp.length ≤ N
  sl : s.sl.length ≤ N
  rg : s.rg.length ≤ 1000
  caps : CapsOk s.sl
  marks : MarksOk s.mr
  rev : ∀ p, RevOk s.sl p
  own : ∀ r x, Owns s r x → x = kOwner s r
  ent : ∀ e ∈ s.rt, SqeOk e.2.e
def DoesC (s : KS) (T : Th) (q : Rq) (i : ID) : Prop := ∀ (E : World) (l m : List As) (a p : Nat), Picks [actA a p T q i, coA p s] l m →
  Con Tryz.prog 118 #[.pointer (some ⟨a, 0, none⟩)] E l (fun b : Nat => encE (kDoes s T q i b).2) (fun b => actA a p T q i :: coA p (kDoes s T q i b).1 :: m)
theorem does19G {E : World} {l m : List As} {a p : Nat} {s : KS} {T : Th} {q : Rq} {i : ID} (hp : Picks [actA a p T q i, coA p s] l m) {N M : Nat} (hG : Good s N M) (hE : SqeOk q.e) (hop : q.e.op = 19) :
    Con Tryz.prog 118 #[.pointer (some ⟨a, 0, none⟩)] E l (fun b : Nat => encE (kDoes s T q i b).2) (fun b => actA a p T q i :: coA p (kDoes s T q i b).1 :: m) := by
  refine Con.body (vs := [.pointer (some ⟨a, 0, none⟩)]) (n := 71) Tryz.func118 rfl rfl [(0, .pointer (some ⟨a, 0, none⟩))] (env_ok 1 rfl) <| J_picks2 hp <| J_asTo (B := blk a 279 [.pointer (some ⟨p, 0, none⟩), .int .i64 T.unit, .int .i64 T.space, .int .i64 T.ring, .int .i64 T.root.kind, .int .i64 T.root.obj, .int .i64 T.root.size, .int .i64 T.root.badge, .int .i64 T.root.rights, .int .i64 q.id.1, .int .i64 q.id.2, .int .i64 q.e.op, .int .i64 q.e.flags, .int .u32 q.e.tag, .int .u32 q.e.cap, .int .u32 q.e.a, .int .u32 q.e.b, .int .u32 q.e.c, .int .u32 q.e.time, .int .i64 q.prev, .bool q.soft, .bool q.started, .int .i64 i.1, .int .i64 i.2]) (by rfl) <| sr <| L_op <| x_alloc ty276 rfl fun b2 => nxx <| mv rfl rfl ?_
  refine nc rfl rfl <| fa rfl rfl fa279_2 <| fa rfl rfl fa122_1 <| fa rfl rfl fa34_0 <| L_val rfl (v_load rfl ty3 HS (by exact rfl)) ?_
  refine J_pick (A := blk a _ _) PC ?_
  refine J_asTo (B := actA a p T q i) (by rfl) <| ag rfl rfl <| nx <| mv rfl rfl <| nq <| J_block <| sr <| L_pur rfl (p_eql rfl rfl) ?_
  refine ag rfl rfl <| nq <| J_bool (t := 11) (c := false) rfl (by simp [hop]) <| C_false rfl <| J_seq <| sr <| L_pur rfl (p_eql rfl rfl) <| ag rfl rfl ?_
  refine nq <| J_bool (t := 14) (c := false) rfl (by simp [hop]) <| C_false rfl <| sr <| L_pur rfl (p_eql rfl rfl) <| ag rfl rfl <| nq <| J_bool (t := 14) (c := false) rfl (by simp [hop]) ?_
  refine C_false rfl <| sr <| L_pur rfl (p_eql rfl rfl) <| ag rfl rfl <| nq <| J_bool (t := 14) (c := false) rfl (by simp [hop]) <| C_false rfl <| sr ?_
  refine L_pur rfl (p_eql rfl rfl) <| ag rfl rfl <| nq <| J_bool (t := 14) (c := false) rfl (by simp [hop]) <| C_false rfl <| J_region <| L_pur rfl (p_eql rfl rfl) <| ag rfl rfl ?_
  refine nq <| J_bool (t := 14) (c := false) rfl (by simp [hop]) <| C_false rfl <| sr <| L_pur rfl (p_eql rfl rfl) <| ag rfl rfl <| nq <| J_bool (t := 22) (c := false) rfl (by simp [hop]) ?_
  refine C_false rfl <| sr <| L_pur rfl (p_eql rfl rfl) <| ag rfl rfl <| nq <| J_bool (t := 26) (c := false) rfl (by simp [hop]) <| C_false rfl <| sr ?_
  refine L_pur rfl (p_eql rfl rfl) <| ag rfl rfl <| nq <| J_bool (t := 30) (c := false) rfl (by simp [hop]) <| C_false rfl <| J_seq <| sr <| L_pur rfl (p_eql rfl rfl) ?_
  refine ag rfl rfl <| nq <| J_bool (t := 34) (c := false) rfl (by simp [hop]) <| C_false rfl <| J_region <| L_pur rfl (p_eql rfl rfl) <| ag rfl rfl <| nq ?_
  refine J_bool (t := 34) (c := false) rfl (by simp [hop]) <| C_false rfl <| sr <| L_pur rfl (p_eql rfl rfl) <| ag rfl rfl <| nq <| J_bool (t := 41) (c := false) rfl (by simp [hop]) <| C_false rfl ?_
  refine sr <| L_pur rfl (p_eql rfl rfl) <| ag rfl rfl <| nq <| J_bool (t := 45) (c := false) rfl (by simp [hop]) <| C_false rfl <| sr <| L_pur rfl (p_eql rfl rfl) ?_
  refine ag rfl rfl <| nq <| J_bool (t := 49) (c := false) rfl (by simp [hop]) <| C_false rfl <| sr <| L_pur rfl (p_eql rfl rfl) <| ag rfl rfl <| nq ?_
  refine J_bool (t := 53) (c := false) rfl (by simp [hop]) <| C_false rfl <| J_seq <| sr <| L_pur rfl (p_eql rfl rfl) <| ag rfl rfl <| nq <| J_bool (t := 57) (c := false) rfl (by simp [hop]) ?_
  refine C_false rfl <| sr <| L_pur rfl (p_eql rfl rfl) <| ag rfl rfl <| nq <| J_bool (t := 57) (c := false) rfl (by simp [hop]) <| C_false rfl <| J_region ?_
  refine L_pur rfl (p_eql rfl rfl) <| ag rfl rfl <| nq <| J_bool (t := 57) (c := false) rfl (by simp [hop]) <| C_false rfl <| sr <| L_pur rfl (p_eql rfl rfl) <| ag rfl rfl ?_
  refine nq <| J_bool (t := 63) (c := true) rfl (by simp [hop]) <| C_true rfl <| sr <| L_pur rfl (bld276 (.cons rfl .nil) (by repeat constructor)) <| L_op <| x_store rfl rfl ty276 rfl SM SM RO PT ?_
  refine nq <| J_ret <| Q_blk_ret <| Q_then_ret ?_
  have hks : ∀ b, kDoes s T q i b = (s, none) := fun b => by unfold kDoes; simp only [hop]; rfl
  refine J_pick (A := coA p _) PC ?_
  refine J_asTo (B := coA p (kDoes s T q i 0).1) (by rw [hks]; try rfl) <| J_pick (A := actA a p T q i) PC ?_
  refine J_return (0) Tryz.results118 (.cellA rfl ty276 HS CT .nil) ?_ ?_
  · rw [hks]; rfl
  · exact SU
theorem doesC19 {s : KS} {T : Th} {q : Rq} {i : ID} {N M : Nat} (hG : Good s N M) (hE : SqeOk q.e) (hop : q.e.op = 19) : DoesC s T q i := fun _ _ _ _ _ hp => does19G hp hG hE hop
def kAct (s : KS) (i : ID) (b : Nat) : KS × Out := match look s.rt i with
  | none => (s, none)
  | some q => match kOwner s i.1 with
    | none => (s, failO 11)
    | some T => kDoes s T q i b
def kStart (s : KS) (i : ID) (b : Nat) : KS × Bool := match look s.rt i with
  | none => (s, false)
  | some q => if q.started = true then (s, false) else match kAct { s with rt := rtS s.rt i } i b with
    | (t, none) => (t, true)
    | (t, some x) => (kDec t.rt.length t i x.1 x.2, true)
theorem coActG {E : World} {l m : List As} {p : Nat} {s : KS} (hp : Pick (coA p s) l m) {i : ID} {N M : Nat} (hG : Good s N M) (hD : ∀ (q : Rq) (T : Th), look s.rt i = some q → DoesC s T q i) :
    Con Tryz.prog 71 #[.pointer (some ⟨p, 0, none⟩), .agg (encI i).toArray] E l (fun b : Nat => .tuple #[.int .i64 (((kAct s i b).2.getD (0, 0)).1), .int .u32 (((kAct s i b).2.getD (0, 0)).2), .bool (kAct s i b).2.isSome]) (fun b => coA p (kAct s i b).1 :: m) := by
  refine Con.body (vs := [.pointer (some ⟨p, 0, none⟩), .agg (encI i).toArray]) (n := 42) Tryz.func71 rfl rfl [(0, .pointer (some ⟨p, 0, none⟩)), (1, .agg (encI i).toArray)] (env_ok 2 rfl) <| J_pick hp <| sr <| L_op <| x_box rfl rfl rfl fun b3 => ag rfl rfl <| ag rfl rfl <| ag rfl rfl ?_
  refine nq <| J_seq <| J_drawL none mixed <| ip 0 rfl rfl rfl rfl (p_move rfl) <| iv 2 rfl rfl rfl rfl (fun _ => v_loadA rfl ty36 HS CT) ?_
  refine I_ready (rs := [1, 7]) SI (by kernel_rfl) (by simp) ?_
  refine (I_cons rfl ?_ (I_cons rfl ?_ I_nil))
  refine xc fc16 (.cons rfl .nil) rfl (coReqs) fun _ => I_ready (rs := [3, 7]) SI (by kernel_rfl) (by simp) ?_
  refine (I_cons rfl ?_ (I_cons rfl ?_ I_nil))
  refine xc fc69 (.cons rfl (.cons rfl .nil)) rfl (coRqGet (s := s) (i := i) PC) fun _ => ?_
  refine ip 4 rfl rfl rfl rfl (p_move rfl) <| ip 5 rfl rfl rfl rfl (p_extract rfl rfl) <| ip 6 rfl rfl rfl rfl (p_extract rfl rfl) <| i1 7 rfl <| x_alloc ty122 rfl fun b7 => i1 8 rfl <| x_store rfl rfl ty122 rfl SM SM RO PT ?_
  refine ip 9 rfl rfl rfl rfl (p_assign rfl) <| i0 <| Q_then <| J_seq <| sr <| mv rfl rfl <| L_pur rfl (p_not rfl) <| nq ?_
  refine C_split rfl (fun h19 => ?_) (fun h19 => ?_)
  have hq : look s.rt i = none := by
    cases hq : look s.rt i with
    | none => rfl
    | some y => rw [hq] at h19; simp at h19
  have hka : ∀ b, kAct s i b = (s, none) := fun b => by unfold kAct; rw [hq]
  refine sr <| ag rfl rfl <| ag rfl rfl <| ag rfl rfl <| nq <| J_ret <| Q_then_ret <| J_pick (A := coA p _) PC ?_
  refine J_asTo (B := coA p (kAct s i 0).1) (by rw [hka]) ?_
  refine J_return (0) Tryz.results71 (.tmp rfl (.tmp rfl (.tmp rfl .nil))) ?_ ?_
  · rw [hka]; rfl
  · exact SU
  obtain ⟨q, hq⟩ : ∃ x, look s.rt i = some x := by
    cases hq : look s.rt i with
    | none => rw [hq] at h19; simp at h19
    | some y => exact ⟨y, rfl⟩
  refine J_pick (A := blk b7 _ _) PC ?_
  refine J_asTo (B := blk b7 122 (encQ q)) (by rw [hq]; rfl) <| J_skip <| qx <| mv rfl rfl <| fa rfl rfl fa36_0 <| L_val rfl (v_load rfl ty3 HS (by exact rfl)) ?_
  refine L_op <| xc fc117 (.cons rfl (.cons rfl .nil)) rfl (coOwner (s := s) (r := i.1) PC) fun x24 => ?_
  refine J_pure fun hO => ?_
  obtain rfl := hG.own _ _ hO
  refine mv rfl rfl <| L_pur rfl (p_extract rfl rfl) <| L_pur rfl (p_extract rfl rfl) <| L_op <| x_alloc ty213 rfl fun b9 => L_op <| x_store rfl rfl ty213 rfl SM SM RO PT ?_
  refine ag rfl rfl <| nxx <| mv rfl rfl <| L_pur rfl (p_not rfl) <| nq ?_
  refine C_split rfl (fun h28 => ?_) (fun h28 => ?_)
  have hT : kOwner s i.1 = none := by
    cases hq : kOwner s i.1 with
    | none => rfl
    | some y => rw [hq] at h28; simp at h28
  have hka : ∀ b, kAct s i b = (s, failO 11) := fun b => by unfold kAct; rw [hq]; dsimp only; rw [hT]
  refine sr <| ag rfl rfl <| ag rfl rfl <| ag rfl rfl <| nq <| J_ret <| Q_then_ret <| J_pick (A := coA p _) PC ?_
  refine J_asTo (B := coA p (kAct s i 0).1) (by rw [hka]) ?_
  refine J_return (0) Tryz.results71 (.tmp rfl (.tmp rfl (.tmp rfl .nil))) ?_ ?_
  · rw [hka]; rfl
  · exact SU
  obtain ⟨T, hT⟩ : ∃ x, kOwner s i.1 = some x := by
    cases hq : kOwner s i.1 with
    | none => rw [hq] at h28; simp at h28
    | some y => exact ⟨y, rfl⟩
  have hka : ∀ b, kAct s i b = kDoes s T q i b := fun b => by unfold kAct; rw [hq]; dsimp only; rw [hT]
  refine J_skip <| qx <| mv rfl rfl <| L_val rfl (v_loadA rfl ty213 HS CT) ?_
  refine L_val rfl (v_loadA rfl ty122 HS CT) ?_
  refine L_val rfl (v_loadA rfl ty36 HS CT) ?_
  refine L_pur rfl (bld279 (.cons rfl (.cons rfl (.cons rfl (.cons rfl .nil)))) (by repeat constructor)) <| L_op <| x_box rfl rfl rfl fun b34 => J_pick (A := blk b34 _ _) PC ?_
  refine J_asTo (B := actA b34 p T q i) (by rw [hT]; rfl) <| L_op <| xc fc118 (.cons rfl .nil) rfl (hD q T hq _ _ _ b34 p PX) fun x36 => ?_
  refine L_op <| x_alloc ty276 rfl fun b10 => L_op <| x_store rfl rfl ty276 rfl SM SM RO PT ?_
  refine nxx <| fa rfl rfl fa276_2 <| L_val rfl (v_load rfl ty4 HS (by exact rfl)) ?_
  refine nq ?_
  refine C_split rfl (fun h37 => ?_) (fun h37 => ?_)
  refine sr <| ag rfl rfl <| ag rfl rfl <| ag rfl rfl <| nq <| J_ret <| Q_then_ret <| J_pick (A := coA p _) PC ?_
  refine J_asTo (B := coA p (kAct s i x36).1) (by rw [hka]) ?_
  refine J_return (x36) Tryz.results71 (.tmp rfl (.tmp rfl (.tmp rfl .nil))) ?_ ?_
  · rw [hka]; cases ho : (kDoes s T q i x36).2 with
    | none => rfl
    | some y => rw [ho] at h37; cases h37
  · exact SU
  refine J_skip <| Q_then <| J_seq <| J_drawS mixed (by kernel_rfl) <| sp rfl (p_fieldAddr rfl fa276_0) <| S_val rfl (v_load rfl ty3 HS (by exact rfl)) ?_
  refine sp rfl (p_fieldAddr rfl fa276_1) <| S_val rfl (v_load rfl ty22 HS (by exact rfl)) ?_
  refine sp rfl (p_assign rfl) <| sp rfl (p_assign rfl) <| sp rfl (p_assign rfl) <| sq <| J_ret <| J_pick (A := coA p _) PC ?_
  refine J_asTo (B := coA p (kAct s i x36).1) (by rw [hka]) ?_
  refine J_return (x36) Tryz.results71 (.tmp rfl (.tmp rfl (.tmp rfl .nil))) ?_ ?_
  · rw [hka]; cases ho : (kDoes s T q i x36).2 with
    | none => rw [ho] at h37; cases h37
    | some y => rfl
  · exact SU
  refine x_alloc ty122 rfl fun b7 => i1 3 rfl <| xc fc69 (.cons rfl (.cons rfl .nil)) rfl (coRqGet (s := s) (i := i) PC) fun _ => ?_
  refine ip 4 rfl rfl rfl rfl (p_move rfl) <| ip 5 rfl rfl rfl rfl (p_extract rfl rfl) <| ip 6 rfl rfl rfl rfl (p_extract rfl rfl) <| i1 8 rfl <| x_store rfl rfl ty122 rfl SM SM RO PT ?_
  refine ip 9 rfl rfl rfl rfl (p_assign rfl) <| i0 <| Q_then <| J_seq <| sr <| mv rfl rfl <| L_pur rfl (p_not rfl) <| nq ?_
  refine C_split rfl (fun h19 => ?_) (fun h19 => ?_)
  have hq : look s.rt i = none := by
    cases hq : look s.rt i with
    | none => rfl
    | some y => rw [hq] at h19; simp at h19
  have hka : ∀ b, kAct s i b = (s, none) := fun b => by unfold kAct; rw [hq]
  refine sr <| ag rfl rfl <| ag rfl rfl <| ag rfl rfl <| nq <| J_ret <| Q_then_ret <| J_pick (A := coA p _) PC ?_
  refine J_asTo (B := coA p (kAct s i 0).1) (by rw [hka]) ?_
  refine J_return (0) Tryz.results71 (.tmp rfl (.tmp rfl (.tmp rfl .nil))) ?_ ?_
  · rw [hka]; rfl
  · exact SU
  obtain ⟨q, hq⟩ : ∃ x, look s.rt i = some x := by
    cases hq : look s.rt i with
    | none => rw [hq] at h19; simp at h19
    | some y => exact ⟨y, rfl⟩
  refine J_pick (A := blk b7 _ _) PC ?_
  refine J_asTo (B := blk b7 122 (encQ q)) (by rw [hq]; rfl) <| J_skip <| qx <| mv rfl rfl <| fa rfl rfl fa36_0 <| L_val rfl (v_load rfl ty3 HS (by exact rfl)) ?_
  refine L_op <| xc fc117 (.cons rfl (.cons rfl .nil)) rfl (coOwner (s := s) (r := i.1) PC) fun x24 => ?_
  refine J_pure fun hO => ?_
  obtain rfl := hG.own _ _ hO
  refine mv rfl rfl <| L_pur rfl (p_extract rfl rfl) <| L_pur rfl (p_extract rfl rfl) <| L_op <| x_alloc ty213 rfl fun b9 => L_op <| x_store rfl rfl ty213 rfl SM SM RO PT ?_
  refine ag rfl rfl <| nxx <| mv rfl rfl <| L_pur rfl (p_not rfl) <| nq ?_
  refine C_split rfl (fun h28 => ?_) (fun h28 => ?_)
  have hT : kOwner s i.1 = none := by
    cases hq : kOwner s i.1 with
    | none => rfl
    | some y => rw [hq] at h28; simp at h28
  have hka : ∀ b, kAct s i b = (s, failO 11) := fun b => by unfold kAct; rw [hq]; dsimp only; rw [hT]
  refine sr <| ag rfl rfl <| ag rfl rfl <| ag rfl rfl <| nq <| J_ret <| Q_then_ret <| J_pick (A := coA p _) PC ?_
  refine J_asTo (B := coA p (kAct s i 0).1) (by rw [hka]) ?_
  refine J_return (0) Tryz.results71 (.tmp rfl (.tmp rfl (.tmp rfl .nil))) ?_ ?_
  · rw [hka]; rfl
  · exact SU
  obtain ⟨T, hT⟩ : ∃ x, kOwner s i.1 = some x := by
    cases hq : kOwner s i.1 with
    | none => rw [hq] at h28; simp at h28
    | some y => exact ⟨y, rfl⟩
  have hka : ∀ b, kAct s i b = kDoes s T q i b := fun b => by unfold kAct; rw [hq]; dsimp only; rw [hT]
  refine J_skip <| qx <| mv rfl rfl <| L_val rfl (v_loadA rfl ty213 HS CT) ?_
  refine L_val rfl (v_loadA rfl ty122 HS CT) ?_
  refine L_val rfl (v_loadA rfl ty36 HS CT) ?_
  refine L_pur rfl (bld279 (.cons rfl (.cons rfl (.cons rfl (.cons rfl .nil)))) (by repeat constructor)) <| L_op <| x_box rfl rfl rfl fun b34 => J_pick (A := blk b34 _ _) PC ?_
  refine J_asTo (B := actA b34 p T q i) (by rw [hT]; rfl) <| L_op <| xc fc118 (.cons rfl .nil) rfl (hD q T hq _ _ _ b34 p PX) fun x36 => ?_
  refine L_op <| x_alloc ty276 rfl fun b10 => L_op <| x_store rfl rfl ty276 rfl SM SM RO PT ?_
  refine nxx <| fa rfl rfl fa276_2 <| L_val rfl (v_load rfl ty4 HS (by exact rfl)) ?_
  refine nq ?_
  refine C_split rfl (fun h37 => ?_) (fun h37 => ?_)
  refine sr <| ag rfl rfl <| ag rfl rfl <| ag rfl rfl <| nq <| J_ret <| Q_then_ret <| J_pick (A := coA p _) PC ?_
  refine J_asTo (B := coA p (kAct s i x36).1) (by rw [hka]) ?_
  refine J_return (x36) Tryz.results71 (.tmp rfl (.tmp rfl (.tmp rfl .nil))) ?_ ?_
  · rw [hka]; cases ho : (kDoes s T q i x36).2 with
    | none => rfl
    | some y => rw [ho] at h37; cases h37
  · exact SU
  refine J_skip <| Q_then <| J_seq <| J_drawS mixed (by kernel_rfl) <| sp rfl (p_fieldAddr rfl fa276_0) <| S_val rfl (v_load rfl ty3 HS (by exact rfl)) ?_
  refine sp rfl (p_fieldAddr rfl fa276_1) <| S_val rfl (v_load rfl ty22 HS (by exact rfl)) ?_
  refine sp rfl (p_assign rfl) <| sp rfl (p_assign rfl) <| sp rfl (p_assign rfl) <| sq <| J_ret <| J_pick (A := coA p _) PC ?_
  refine J_asTo (B := coA p (kAct s i x36).1) (by rw [hka]) ?_
  refine J_return (x36) Tryz.results71 (.tmp rfl (.tmp rfl (.tmp rfl .nil))) ?_ ?_
  · rw [hka]; cases ho : (kDoes s T q i x36).2 with
    | none => rw [ho] at h37; cases h37
    | some y => rfl
  · exact SU
  refine x_alloc ty122 rfl fun b7 => i1 1 rfl <| xc fc16 (.cons rfl .nil) rfl (coReqs) fun _ => i1 3 rfl <| xc fc69 (.cons rfl (.cons rfl .nil)) rfl (coRqGet (s := s) (i := i) PC) fun _ => ?_
  refine ip 4 rfl rfl rfl rfl (p_move rfl) <| ip 5 rfl rfl rfl rfl (p_extract rfl rfl) <| ip 6 rfl rfl rfl rfl (p_extract rfl rfl) <| i1 8 rfl <| x_store rfl rfl ty122 rfl SM SM RO PT ?_
  refine ip 9 rfl rfl rfl rfl (p_assign rfl) <| i0 <| Q_then <| J_seq <| sr <| mv rfl rfl <| L_pur rfl (p_not rfl) <| nq ?_
  refine C_split rfl (fun h19 => ?_) (fun h19 => ?_)
  have hq : look s.rt i = none := by
    cases hq : look s.rt i with
    | none => rfl
    | some y => rw [hq] at h19; simp at h19
  have hka : ∀ b, kAct s i b = (s, none) := fun b => by unfold kAct; rw [hq]
  refine sr <| ag rfl rfl <| ag rfl rfl <| ag rfl rfl <| nq <| J_ret <| Q_then_ret <| J_pick (A := coA p _) PC ?_
  refine J_asTo (B := coA p (kAct s i 0).1) (by rw [hka]) ?_
  refine J_return (0) Tryz.results71 (.tmp rfl (.tmp rfl (.tmp rfl .nil))) ?_ ?_
  · rw [hka]; rfl
  · exact SU
  obtain ⟨q, hq⟩ : ∃ x, look s.rt i = some x := by
    cases hq : look s.rt i with
    | none => rw [hq] at h19; simp at h19
    | some y => exact ⟨y, rfl⟩
  refine J_pick (A := blk b7 _ _) PC ?_
  refine J_asTo (B := blk b7 122 (encQ q)) (by rw [hq]; rfl) <| J_skip <| qx <| mv rfl rfl <| fa rfl rfl fa36_0 <| L_val rfl (v_load rfl ty3 HS (by exact rfl)) ?_
  refine L_op <| xc fc117 (.cons rfl (.cons rfl .nil)) rfl (coOwner (s := s) (r := i.1) PC) fun x24 => ?_
  refine J_pure fun hO => ?_
  obtain rfl := hG.own _ _ hO
  refine mv rfl rfl <| L_pur rfl (p_extract rfl rfl) <| L_pur rfl (p_extract rfl rfl) <| L_op <| x_alloc ty213 rfl fun b9 => L_op <| x_store rfl rfl ty213 rfl SM SM RO PT ?_
  refine ag rfl rfl <| nxx <| mv rfl rfl <| L_pur rfl (p_not rfl) <| nq ?_
  refine C_split rfl (fun h28 => ?_) (fun h28 => ?_)
  have hT : kOwner s i.1 = none := by
    cases hq : kOwner s i.1 with
    | none => rfl
    | some y => rw [hq] at h28; simp at h28
  have hka : ∀ b, kAct s i b = (s, failO 11) := fun b => by unfold kAct; rw [hq]; dsimp only; rw [hT]
  refine sr <| ag rfl rfl <| ag rfl rfl <| ag rfl rfl <| nq <| J_ret <| Q_then_ret <| J_pick (A := coA p _) PC ?_
  refine J_asTo (B := coA p (kAct s i 0).1) (by rw [hka]) ?_
  refine J_return (0) Tryz.results71 (.tmp rfl (.tmp rfl (.tmp rfl .nil))) ?_ ?_
  · rw [hka]; rfl
  · exact SU
  obtain ⟨T, hT⟩ : ∃ x, kOwner s i.1 = some x := by
    cases hq : kOwner s i.1 with
    | none => rw [hq] at h28; simp at h28
    | some y => exact ⟨y, rfl⟩
  have hka : ∀ b, kAct s i b = kDoes s T q i b := fun b => by unfold kAct; rw [hq]; dsimp only; rw [hT]
  refine J_skip <| qx <| mv rfl rfl <| L_val rfl (v_loadA rfl ty213 HS CT) ?_
  refine L_val rfl (v_loadA rfl ty122 HS CT) ?_
  refine L_val rfl (v_loadA rfl ty36 HS CT) ?_
  refine L_pur rfl (bld279 (.cons rfl (.cons rfl (.cons rfl (.cons rfl .nil)))) (by repeat constructor)) <| L_op <| x_box rfl rfl rfl fun b34 => J_pick (A := blk b34 _ _) PC ?_
  refine J_asTo (B := actA b34 p T q i) (by rw [hT]; rfl) <| L_op <| xc fc118 (.cons rfl .nil) rfl (hD q T hq _ _ _ b34 p PX) fun x36 => ?_
  refine L_op <| x_alloc ty276 rfl fun b10 => L_op <| x_store rfl rfl ty276 rfl SM SM RO PT ?_
  refine nxx <| fa rfl rfl fa276_2 <| L_val rfl (v_load rfl ty4 HS (by exact rfl)) ?_
  refine nq ?_
  refine C_split rfl (fun h37 => ?_) (fun h37 => ?_)
  refine sr <| ag rfl rfl <| ag rfl rfl <| ag rfl rfl <| nq <| J_ret <| Q_then_ret <| J_pick (A := coA p _) PC ?_
  refine J_asTo (B := coA p (kAct s i x36).1) (by rw [hka]) ?_
  refine J_return (x36) Tryz.results71 (.tmp rfl (.tmp rfl (.tmp rfl .nil))) ?_ ?_
  · rw [hka]; cases ho : (kDoes s T q i x36).2 with
    | none => rfl
    | some y => rw [ho] at h37; cases h37
  · exact SU
  refine J_skip <| Q_then <| J_seq <| J_drawS mixed (by kernel_rfl) <| sp rfl (p_fieldAddr rfl fa276_0) <| S_val rfl (v_load rfl ty3 HS (by exact rfl)) ?_
  refine sp rfl (p_fieldAddr rfl fa276_1) <| S_val rfl (v_load rfl ty22 HS (by exact rfl)) ?_
  refine sp rfl (p_assign rfl) <| sp rfl (p_assign rfl) <| sp rfl (p_assign rfl) <| sq <| J_ret <| J_pick (A := coA p _) PC ?_
  refine J_asTo (B := coA p (kAct s i x36).1) (by rw [hka]) ?_
  refine J_return (x36) Tryz.results71 (.tmp rfl (.tmp rfl (.tmp rfl .nil))) ?_ ?_
  · rw [hka]; cases ho : (kDoes s T q i x36).2 with
    | none => rw [ho] at h37; cases h37
    | some y => rfl
  · exact SU
end Go.Pse
namespace Go.Pse
open Go.RowKit Go.Proofs
theorem nodup_length_le {α : Type} [DecidableEq α] : ∀ {l m : List α}, l.Nodup → (∀ x ∈ l, x ∈ m) → l.length ≤ m.length
  | [], _, _, _ => Nat.zero_le _
  | x :: l, m, hn, hm => by
    rw [List.nodup_cons] at hn
    have hx := hm x List.mem_cons_self
    have h1 := nodup_length_le (l := l) (m := m.erase x) hn.2 fun y hy => by
      rw [List.mem_erase_of_ne (fun e => hn.1 (by rw [← e]; exact hy))]
      exact hm y (List.mem_cons_of_mem _ hy)
    rw [List.length_erase_of_mem hx] at h1
    have := List.length_pos_of_mem hx
    simp only [List.length_cons]
    omega
/-! ### plain: the slots are a tree, whatever is asked -/
theorem kids_mem {ps : List (Place × SV)} {p a : Place} (hK : Keyd ps) : a ∈ kids ps p ↔ (look ps p).isSome = true ∧ ∃ s, look ps a = some s ∧ s.2 = p := by
  unfold kids
  split
  · rename_i h
    rw [heirs_mem]
    constructor
    · rintro ⟨s, h1, h2⟩
      exact ⟨h, s, look_mem hK h1, by simpa using h2⟩
    · rintro ⟨_, s, h1, h2⟩
      exact ⟨s, mem_look h1, by simpa using h2⟩
  · rename_i h
    constructor
    · intro e; cases e
    · rintro ⟨e, _⟩; exact absurd e h
theorem turnL_keyd {to : Place} : ∀ {l : List Place} {ps : List (Place × SV)}, Keyd ps → Keyd (turnL ps to l)
  | [], _, h => h
  | _ :: l, _, h => turnL_keyd (l := l) (h.ins _ _)
theorem turnL_look {to x : Place} : ∀ {l : List Place} {ps : List (Place × SV)}, look (turnL ps to l) x = if x ∈ l then some (((look ps x).getD s0).1, to) else look ps x
  | [], _ => rfl
  | k :: l, ps => by
    have h := turnL_look (to := to) (x := x) (l := l) (ps := ins ps k (((look ps k).getD s0).1, to))
    show look (turnL (ins ps k (((look ps k).getD s0).1, to)) to l) x = _
    rw [h, look_ins]
    by_cases h1 : k = x
    · subst h1
      simp
    · have h2 : (x ∈ k :: l) ↔ x ∈ l := by simp [Ne.symm h1]
      simp [h1, h2]
structure TreeOk (ps : List (Place × SV)) : Prop where
  keyd : Keyd ps
  can : ∀ x s, look ps x = some s → canP x = true
  par : ∀ x s, look ps x = some s → s.2 = (0, 0) ∨ (look ps s.2).isSome = true
  caps : ∀ x s, look ps x = some s → checkC s.1 = true
  rank : ∃ rk : Place → Nat, ∀ x s, look ps x = some s → s.2 ≠ (0, 0) → rk s.2 < rk x
theorem TreeOk.capsOk {ps : List (Place × SV)} (h : TreeOk ps) : CapsOk ps := fun e he => h.caps e.1 e.2 (look_mem h.keyd he)
theorem canP_zero : canP (0, 0) = false := by decide
theorem TreeOk.nz {ps : List (Place × SV)} (h : TreeOk ps) {x : Place} (hx : (look ps x).isSome = true) : x ≠ (0, 0) := fun e => by
  obtain ⟨s, hs⟩ := Option.isSome_iff_exists.1 hx
  have := h.can x s hs
  rw [e, canP_zero] at this; cases this
def maxRk (rk : Place → Nat) (ps : List (Place × SV)) : Nat := ps.foldr (fun e n => max (rk e.1) n) 0
theorem TreeOk.put {ps : List (Place × SV)} (h : TreeOk ps) (p : Place) (c : Cap) (q : Place) : TreeOk (slPut ps p c q) := by
  unfold slPut
  split
  · rename_i hok
    unfold slPutOk at hok
    simp only [Bool.and_eq_true, Bool.not_eq_true', Bool.or_eq_true, decide_eq_true_eq] at hok
    obtain ⟨⟨⟨h1, h2⟩, h3⟩, h4⟩ := hok
    have hnone : look ps p = none := by cases hq : look ps p with
      | none => rfl
      | some y => rw [hq] at h2; cases h2
    obtain ⟨rk, hrk⟩ := h.rank
    have hold : ∀ x s, look ps x = some s → x ≠ p := fun x s hx e => by rw [e, hnone] at hx; cases hx
    refine ⟨h.keyd.ins _ _, fun x s hx => ?_, fun x s hx => ?_, fun x s hx => ?_, ⟨fun x => if x = p then maxRk rk ps + rk q + 1 else rk x, fun x s hx hs => ?_⟩⟩
    · rw [look_ins] at hx
      split at hx
      · rename_i e; rw [← e]; exact h1
      · exact h.can x s hx
    · rw [look_ins] at hx ⊢
      split at hx
      · cases hx
        rcases h4 with h4 | h4
        · exact .inl h4
        · right; split
          · rfl
          · exact h4
      · rcases h.par x s hx with h5 | h5
        · exact .inl h5
        · right; split
          · rfl
          · exact h5
    · rw [look_ins] at hx
      split at hx
      · cases hx; exact h3
      · exact h.caps x s hx
    · rw [look_ins] at hx
      split at hx
      · rename_i e
        cases hx
        rcases h4 with h4 | h4
        · exact absurd h4 hs
        · have hqp : q ≠ p := fun e2 => by rw [e2, hnone] at h4; cases h4
          dsimp only
          rw [if_neg hqp, if_pos e.symm]; omega
      · have hsp : s.2 ≠ p := fun e => by
          rcases h.par x s hx with h5 | h5
          · exact hs h5
          · rw [e, hnone] at h5; cases h5
        dsimp only
        rw [if_neg hsp, if_neg (hold x s hx)]
        exact hrk x s hx hs
  · exact h
theorem TreeOk.drop {ps : List (Place × SV)} (h : TreeOk ps) (p : Place) : TreeOk (dropS ps p) := by
  unfold dropS
  cases hp : look ps p with
  | none => exact h
  | some s0' =>
    obtain ⟨rk, hrk⟩ := h.rank
    have hsp : s0'.2 ≠ p := fun e => by
      have h1 := h.nz (x := p) (by rw [hp]; rfl)
      have := hrk p s0' hp (by rw [e]; exact h1)
      rw [e] at this; omega
    have hlk : ∀ x s, look (del (turnS ps p s0'.2) p) x = some s → x ≠ p ∧ ∃ t, look ps x = some t ∧ ((t.2 = p ∧ s = (t.1, s0'.2)) ∨ (t.2 ≠ p ∧ s = t)) := fun x s hx => by
      rw [look_del] at hx
      split at hx
      · cases hx
      · rename_i hne
        refine ⟨fun e => hne e.symm, ?_⟩
        unfold turnS at hx
        rw [turnL_look] at hx
        split at hx
        · rename_i hk
          obtain ⟨_, t, h1, h2⟩ := (kids_mem h.keyd).1 hk
          refine ⟨t, h1, .inl ⟨h2, ?_⟩⟩
          rw [h1] at hx; exact (Option.some.inj hx).symm
        · rename_i hk
          refine ⟨s, hx, .inr ⟨fun e => hk ((kids_mem h.keyd).2 ⟨by rw [hp]; rfl, s, hx, e⟩), rfl⟩⟩
    have hsome : ∀ x, x ≠ p → (look ps x).isSome = true → (look (del (turnS ps p s0'.2) p) x).isSome = true := fun x hx h1 => by
      rw [look_del, if_neg (fun e => hx e.symm)]
      unfold turnS
      exact turnL_some h1
    refine ⟨(turnL_keyd h.keyd).del _, fun x s hx => ?_, fun x s hx => ?_, fun x s hx => ?_, ⟨rk, fun x s hx hs => ?_⟩⟩
    · obtain ⟨_, t, h1, _⟩ := hlk x s hx
      exact h.can x t h1
    · obtain ⟨_, t, h1, h2⟩ := hlk x s hx
      rcases h2 with ⟨_, rfl⟩ | ⟨h2, rfl⟩
      · rcases h.par p s0' hp with h3 | h3
        · exact .inl h3
        · exact .inr (hsome _ hsp h3)
      · rcases h.par x s h1 with h3 | h3
        · exact .inl h3
        · exact .inr (hsome _ h2 h3)
    · obtain ⟨_, t, h1, h2⟩ := hlk x s hx
      rcases h2 with ⟨_, rfl⟩ | ⟨_, rfl⟩
      · exact h.caps x t h1
      · exact h.caps x s h1
    · obtain ⟨_, t, h1, h2⟩ := hlk x s hx
      rcases h2 with ⟨h2, rfl⟩ | ⟨_, rfl⟩
      · have h3 := hrk p s0' hp hs
        have h4 := hrk x t h1 (by rw [h2]; exact h.nz (by rw [hp]; rfl))
        rw [h2] at h4
        show rk s0'.2 < rk x
        omega
      · exact hrk x s h1 hs
theorem TreeOk.move {ps : List (Place × SV)} (h : TreeOk ps) (a b : Place) : TreeOk (moveS ps a b) := by
  unfold moveS
  split
  · rename_i hok
    unfold moveOk at hok
    simp only [Bool.and_eq_true, Bool.not_eq_true'] at hok
    obtain ⟨⟨h1, h2⟩, h3⟩ := hok
    obtain ⟨sa, ha⟩ := Option.isSome_iff_exists.1 h1
    have hnb : look ps b = none := by cases hq : look ps b with
      | none => rfl
      | some y => rw [hq] at h3; cases h3
    have hab : a ≠ b := fun e => by rw [e, hnb] at ha; cases ha
    rw [ha]
    show TreeOk (ins (del (turnS ps a b) a) b sa)
    obtain ⟨rk, hrk⟩ := h.rank
    have hsa : sa.2 ≠ a := fun e => by
      have := hrk a sa ha (by rw [e]; exact h.nz h1)
      rw [e] at this; omega
    have hsb : sa.2 ≠ b := fun e => by
      rcases h.par a sa ha with h4 | h4
      · rw [e] at h4; rw [h4, canP_zero] at h2; cases h2
      · rw [e, hnb] at h4; cases h4
    have hlk : ∀ x s, look (ins (del (turnS ps a b) a) b sa) x = some s → (x = b ∧ s = sa) ∨ (x ≠ b ∧ x ≠ a ∧ ∃ t, look ps x = some t ∧ ((t.2 = a ∧ s = (t.1, b)) ∨ (t.2 ≠ a ∧ s = t))) := fun x s hx => by
      rw [look_ins] at hx
      split at hx
      · rename_i e; exact .inl ⟨e.symm, (Option.some.inj hx).symm⟩
      · rename_i hne
        rw [look_del] at hx
        split at hx
        · cases hx
        · rename_i hne2
          refine .inr ⟨fun e => hne e.symm, fun e => hne2 e.symm, ?_⟩
          unfold turnS at hx
          rw [turnL_look] at hx
          split at hx
          · rename_i hk
            obtain ⟨_, t, g1, g2⟩ := (kids_mem h.keyd).1 hk
            refine ⟨t, g1, .inl ⟨g2, ?_⟩⟩
            rw [g1] at hx; exact (Option.some.inj hx).symm
          · rename_i hk
            exact ⟨s, hx, .inr ⟨fun e => hk ((kids_mem h.keyd).2 ⟨h1, s, hx, e⟩), rfl⟩⟩
    have hsome : ∀ x, x ≠ a → (look ps x).isSome = true → (look (ins (del (turnS ps a b) a) b sa) x).isSome = true := fun x hx g => by
      rw [look_ins]; split
      · rfl
      · rw [look_del, if_neg (fun e => hx e.symm)]
        unfold turnS
        exact turnL_some g
    have hb : (look (ins (del (turnS ps a b) a) b sa) b).isSome = true := by rw [look_ins, if_pos rfl]; rfl
    refine ⟨((turnL_keyd h.keyd).del _).ins _ _, fun x s hx => ?_, fun x s hx => ?_, fun x s hx => ?_, ⟨fun x => if x = b then rk a else rk x, fun x s hx hs => ?_⟩⟩
    · rcases hlk x s hx with ⟨rfl, _⟩ | ⟨_, _, t, g1, _⟩
      · exact h2
      · exact h.can x t g1
    · rcases hlk x s hx with ⟨rfl, rfl⟩ | ⟨_, _, t, g1, g2⟩
      · rcases h.par a s ha with g | g
        · exact .inl g
        · exact .inr (hsome _ hsa g)
      · rcases g2 with ⟨_, rfl⟩ | ⟨g2, rfl⟩
        · exact .inr hb
        · rcases h.par x s g1 with g | g
          · exact .inl g
          · exact .inr (hsome _ g2 g)
    · rcases hlk x s hx with ⟨rfl, rfl⟩ | ⟨_, _, t, g1, g2⟩
      · exact h.caps a s ha
      · rcases g2 with ⟨_, rfl⟩ | ⟨_, rfl⟩
        · exact h.caps x t g1
        · exact h.caps x s g1
    · rcases hlk x s hx with ⟨rfl, rfl⟩ | ⟨gx, gy, t, g1, g2⟩
      · dsimp only
        rw [if_neg hsb, if_pos rfl]
        exact hrk a s ha hs
      · rcases g2 with ⟨g2, rfl⟩ | ⟨g2, rfl⟩
        · dsimp only
          rw [if_pos rfl, if_neg gx]
          have := hrk x t g1 (by rw [g2]; exact h.nz h1)
          rw [g2] at this; exact this
        · have g3 : s.2 ≠ b := fun e => by
            rcases h.par x s g1 with g | g
            · exact hs g
            · rw [e, hnb] at g; cases g
          dsimp only
          rw [if_neg g3, if_neg gx]
          exact hrk x s g1 hs
  · exact h
theorem dropK_ind {D : List (Place × SV) → Place → List (Place × SV) × List Obj2} {Q : List (Place × SV) → Prop} (hD : ∀ ps p, Q ps → Q (D ps p).1) {u : Int} {x : List (Place × SV) × List Obj2} (hx : Q x.1) : ∀ n, Q (dropK D u n x).1
  | 0 => hx
  | n + 1 => by rw [dropK_succ]; exact hD _ _ (dropK_ind hD hx n)
theorem TreeOk.dropT : ∀ n {ps : List (Place × SV)} (p : Place), TreeOk ps → TreeOk (kDropT n ps p).1
  | 0, _, _, h => h
  | n + 1, ps, p, h => by
    rw [kDropT]
    split
    · exact h
    · split
      · exact h.drop p
      · split
        · exact dropK_ind (Q := TreeOk) (fun ps p h => TreeOk.dropT n p h) (x := (dropS ps p, _)) (h.drop p) 16
        · exact h.drop p
theorem TreeOk.belowL {ps : List (Place × SV)} (h : TreeOk ps) {p : Place} {rk : Place → Nat} (hrk : ∀ x s, look ps x = some s → s.2 ≠ (0, 0) → rk s.2 < rk x) (hp : (look ps p).isSome = true) : ∀ (n : Nat) (done todo : List Place), (done ++ todo).Nodup → (∀ x ∈ done ++ todo, rk p < rk x ∧ ∃ s, look ps x = some s ∧ (s.2 = p ∨ s.2 ∈ done)) → ps.length ≤ n + done.length → ∃ L, belowL ps n done todo = some L ∧ ∀ x ∈ L, (look ps x).isSome = true
  | n, done, [], _, hm, _ => ⟨done, by unfold Go.Pse.belowL; rfl, fun x hx => by
    obtain ⟨_, s, hs, _⟩ := hm x (by simpa using hx)
    rw [hs]; rfl⟩
  | 0, done, a :: ts, hn, hm, hl => by
    exfalso
    have h1 : (done ++ a :: ts).length ≤ (ps.map Prod.fst).length := nodup_length_le hn fun x hx => by
      obtain ⟨_, s, hs, _⟩ := hm x hx
      exact List.mem_map.2 ⟨(x, s), mem_look hs, rfl⟩
    rw [List.length_map] at h1
    simp at h1; omega
  | n + 1, done, a :: ts, hn, hm, hl => by
    rw [Go.Pse.belowL]
    have ha := hm a (by simp)
    obtain ⟨hra, sa, hsa, hpa⟩ := ha
    refine TreeOk.belowL h hrk hp n (done ++ [a]) (ts ++ kids ps a) ?_ ?_ (by simp; omega)
    · have e : done ++ [a] ++ (ts ++ kids ps a) = (done ++ a :: ts) ++ kids ps a := by simp
      rw [e, List.nodup_append]
      refine ⟨hn, ?_, ?_⟩
      · unfold kids
        split
        · unfold heirs
          refine ((sortF_isPerm _).nodup_iff).2 ?_
          exact List.Nodup.sublist (List.Sublist.map _ List.filter_sublist) h.keyd
        · exact List.nodup_nil
      · intro x hx y hy hxy
        subst hxy
        obtain ⟨_, s, hs, h2⟩ := (kids_mem h.keyd).1 hy
        obtain ⟨_, s', hs', h3⟩ := hm x hx
        rw [hs] at hs'
        cases hs'
        rw [h2] at h3
        rcases h3 with h3 | h3
        · rw [h3] at hra; omega
        · have := (List.nodup_append.1 hn).2.2 a h3 a (by simp)
          exact this rfl
    · intro x hx
      rw [show done ++ [a] ++ (ts ++ kids ps a) = (done ++ a :: ts) ++ kids ps a by simp] at hx
      rcases List.mem_append.1 hx with hx | hx
      · obtain ⟨h1, s, h2, h3⟩ := hm x hx
        exact ⟨h1, s, h2, h3.imp id fun h => by simp [h]⟩
      · obtain ⟨_, s, h1, h2⟩ := (kids_mem h.keyd).1 hx
        have h3 := hrk x s h1 (by rw [h2]; exact h.nz (by rw [hsa]; rfl))
        rw [h2] at h3
        exact ⟨by omega, s, h1, .inr (by simp [h2])⟩
theorem TreeOk.below {ps : List (Place × SV)} (h : TreeOk ps) {p : Place} (hp : (look ps p).isSome = true) : ∃ L, belowS ps p = some L ∧ ∀ x ∈ L, (look ps x).isSome = true := by
 obtain ⟨rk, hrk⟩ := h.rank
 obtain ⟨L, h1, h2⟩ := h.belowL hrk hp ps.length [] (kids ps p) (by
  rw [List.nil_append]
  unfold kids
  rw [if_pos hp]
  unfold heirs
  refine ((sortF_isPerm _).nodup_iff).2 ?_
  exact List.Nodup.sublist (List.Sublist.map _ List.filter_sublist) h.keyd) (fun x hx => by
   rw [List.nil_append] at hx
   obtain ⟨_, s, h1, h2⟩ := (kids_mem h.keyd).1 hx
   have h3 := hrk x s h1 (by rw [h2]; exact h.nz hp)
   rw [h2] at h3
   exact ⟨h3, s, h1, .inl h2⟩) (by simp)
 exact ⟨sortP L, by unfold belowS; rw [h1]; rfl, fun x hx => h2 x (by unfold sortP at hx; exact sortF_mem.1 hx)⟩
theorem belowS_none {ps : List (Place × SV)} {p : Place} (hp : look ps p = none) : belowS ps p = some [] := by
  have : kids ps p = [] := by unfold kids; rw [hp]; rfl
  unfold belowS
  rw [this]
  unfold Go.Pse.belowL
  rfl
theorem TreeOk.revL : ∀ {n : Nat} {ps : List (Place × SV)} {p : Place} {out : List Obj2}, TreeOk ps → ps.length < n → (revL p n ps out).isSome = true
 | 0, _, _, _, _, hl => by omega
 | n + 1, ps, p, out, h, hl => by
  have hb : ∃ L, belowS ps p = some L ∧ ∀ x ∈ L, (look ps x).isSome = true := by
   cases hp : look ps p with
   | none => exact ⟨[], belowS_none hp, fun _ hx => by cases hx⟩
   | some s => exact h.below (by rw [hp]; rfl)
  obtain ⟨L, h1, h2⟩ := hb
  cases L with
  | nil => rw [Go.Pse.revL, h1]; rfl
  | cons a ls =>
   rw [revL_step h1]
   obtain ⟨s, hs⟩ := Option.isSome_iff_exists.1 (h2 a List.mem_cons_self)
   obtain ⟨k, hk⟩ : ∃ k, ps.length = k + 1 := ⟨ps.length - 1, by have := del_less hs; omega⟩
   have hless := kDropT_less (n := k) hs
   rw [← hk] at hless
   exact TreeOk.revL (h.dropT _ a) (by omega)
theorem TreeOk.revOk {ps : List (Place × SV)} (h : TreeOk ps) (p : Place) : RevOk ps p := fun _ => h.revL (by omega)
theorem TreeOk.revT {p : Place} : ∀ {n : Nat} {ps : List (Place × SV)} {out : List Obj2} {r : List (Place × SV) × List Obj2}, TreeOk ps → Go.Pse.revL p n ps out = some r → TreeOk r.1 ∧ r.1.length ≤ ps.length
  | 0, _, _, _, _, hr => by simp [Go.Pse.revL] at hr
  | n + 1, ps, out, r, h, hr => by
    obtain ⟨L, hb⟩ := revL_below hr
    cases L with
    | nil => rw [Go.Pse.revL, hb] at hr; cases hr; exact ⟨h, Nat.le_refl _⟩
    | cons a ls =>
      rw [revL_step hb] at hr
      have h1 := TreeOk.revT (h.dropT _ a) hr
      exact ⟨h1.1, Nat.le_trans h1.2 (by have := kDropT_len ps.length ps a; omega)⟩
end Go.Pse
namespace Go.Pse
open Go.RowKit Go.Proofs
/-! ### plain: what holds of every state, whatever is asked -/
structure WellQ (Q : Sqe → Prop) (s : KS) (N M : Nat) : Prop where
  fit : Fits s N M
  q : s.q.length ≤ N
  mp : s.mp.length ≤ N
  sl : s.sl.length ≤ N
  rg : s.rg.length ≤ 1000
  tree : TreeOk s.sl
  marks : MarksOk s.mr
  thr : (s.th.map fun e => e.2.ring).Nodup
  ent : ∀ e ∈ s.rt, SqeOk e.2.e ∧ Q e.2.e
  rtk : Keyd s.rt
abbrev Well := WellQ fun _ => True
variable {Q : Sqe → Prop}
theorem own_of {s : KS} (h : (s.th.map fun e => e.2.ring).Nodup) {r : Int} {x : Option Th} (ho : Owns s r x) : x = kOwner s r := by
 unfold kOwner
 cases x with
 | none =>
  rw [List.find?_eq_none.2 (fun e he => by simpa using ho e he)]; rfl
 | some t =>
  obtain ⟨k, hk, hr⟩ := ho
  have hm := mem_look hk
  cases hf : s.th.find? (fun e => decide (e.2.ring = r)) with
  | none =>
   have := List.find?_eq_none.1 hf (k, t) hm
   simp [hr] at this
  | some e =>
   have he := List.mem_of_find?_eq_some hf
   have hr2 : e.2.ring = r := by have := List.find?_some hf; simpa using this
   obtain ⟨i, hi⟩ := List.getElem?_of_mem hm
   obtain ⟨j, hj⟩ := List.getElem?_of_mem he
   have hij : i = j := nodup_idx h (x := r) (by rw [List.getElem?_map, hi]; simp [hr]) (by rw [List.getElem?_map, hj]; simp [hr2])
   subst hij
   rw [hi] at hj
   cases hj
   rfl
theorem WellQ.good {s : KS} {N M : Nat} (h : WellQ Q s N M) (hN : N + 1 ≤ 90000) (hM : M ≤ 45000) : Good s N M :=
  ⟨h.fit, hN, hM, h.q, h.mp, h.sl, h.rg, h.tree.capsOk, h.marks, h.tree.revOk, fun _ _ => own_of h.thr, fun e he => (h.ent e he).1⟩
theorem WellQ.more {s : KS} {N M : Nat} (h : WellQ Q s N M) (hN : N + 1 ≤ 90000) : WellQ Q s (N + 1) M :=
  ⟨h.fit.more hN, Nat.le_succ_of_le h.q, Nat.le_succ_of_le h.mp, Nat.le_succ_of_le h.sl, h.rg, h.tree, h.marks, h.thr, h.ent, h.rtk⟩
theorem WellQ.ended {s t : KS} {N M : Nat} (h : WellQ Q s N M) (hf : Fits t N M) (hq : t.q.length ≤ s.q.length) (hmp : t.mp.length ≤ s.mp.length) (hsl : t.sl = s.sl) (hmr : t.mr = s.mr) (hth : t.th.Sublist s.th) (hrg : t.rg.length ≤ s.rg.length) (hrt : t.rt.Sublist s.rt) : WellQ Q t N M :=
  ⟨hf, Nat.le_trans hq h.q, Nat.le_trans hmp h.mp, by rw [hsl]; exact h.sl, Nat.le_trans hrg h.rg, by rw [hsl]; exact h.tree, by rw [hmr]; exact h.marks, List.Nodup.sublist (hth.map _) h.thr, fun e he => h.ent e (hrt.subset he), h.rtk.sub hrt⟩
theorem kSaid_th (s : KS) (d : Deed) : (kSaid s d).th = s.th := by unfold kSaid kPost; split <;> rfl
theorem tell_th {D : KS → ID → Int → Int → KS} (hD : ∀ s i r v, (D s i r v).th = s.th) (s : KS) (d : Deed) : (kTell D s d).th = s.th := by
  unfold kTell
  split
  · exact kSaid_th s d
  · split
    · exact (hD _ _ _ _).trans (kSaid_th s d)
    · exact kSaid_th s d
theorem dec_th : ∀ n (s : KS) (i : ID) (r v : Int), (kDec n s i r v).th = s.th
  | 0, s, _, _, _ => rfl
  | n + 1, s, i, r, v => by
    cases hq : look s.rt i with
    | none => rw [kDec_none hq]
    | some q =>
      rw [kDec_some hq]
      have h := tell_th (D := kDec n) (fun s i r v => dec_th n s i r v) (kForget { s with rt := del s.rt i } i) (i, q.e.tag, q.e.op, r, v, false)
      unfold kNext
      split
      · exact h
      · split
        · exact (dec_th n _ _ _ _).trans h
        · exact h
theorem ends_th : ∀ (l : List ID) (s : KS), (kEnds s l).th = s.th
  | [], s => rfl
  | i :: l, s => (ends_th l _).trans (dec_th _ _ _ _ _)
theorem kTearL_th : ∀ (l : List Rq) (s : KS), (kTearL s l).th = s.th
  | [], _ => rfl
  | q :: l, s => kTearL_th l (kTear1 s q)
theorem kTear_th (s : KS) (g : Int) : (kTear s g).th = s.th := by
  unfold kTear
  split
  · exact kTearL_th (ofQ s.rt g) s
  · rfl
theorem torn_th (u : Int) : ∀ (l : List Int) (s : KS), (kTorn s u l).th = s.th
  | [], s => rfl
  | g :: l, s => by
    refine (torn_th u l (tornStep u s g)).trans ?_
    unfold tornStep
    split
    · rfl
    · split
      · exact kTear_th s g
      · rfl
theorem gone_th (s : KS) (k u : Int) : (kGone s k u).th.Sublist s.th := by
  unfold kGone
  (repeat' split) <;> first | exact List.Sublist.refl _ | exact List.filter_sublist (l := s.th)
theorem destroy_th (s : KS) (o : Obj2) : (kDestroy s o).th.Sublist s.th := by
  unfold kDestroy
  refine (gone_th _ _ _).trans ?_
  split
  · rw [torn_th, ends_th]; exact List.Sublist.refl _
  · split
    · rw [kTear_th, ends_th]; exact List.Sublist.refl _
    · rw [ends_th]; exact List.Sublist.refl _
theorem destroyL_th : ∀ (l : List Obj2) (s : KS), (kDestroyL s l).th.Sublist s.th
  | [], _ => List.Sublist.refl _
  | o :: l, s => (destroyL_th l _).trans (destroy_th s o)
theorem WellQ.dec {s : KS} {N M : Nat} (h : WellQ Q s N M) (n : Nat) (i : ID) (r v : Int) : WellQ Q (kDec n s i r v) N M := by
  have hk := Kept.dec n s i r v
  exact h.ended (Fits.dec n h.fit).1 (by rw [hk.q]; exact Nat.le_refl _) (by rw [hk.mp]; exact Nat.le_refl _) hk.sl hk.mr (by rw [dec_th]; exact List.Sublist.refl _) (by rw [dec_rglen]; exact Nat.le_refl _) (dec_rt n s i r v)
theorem WellQ.destroyL {s : KS} {N M : Nat} (h : WellQ Q s N M) (l : List Obj2) : WellQ Q (kDestroyL s l) N M := by
  have hl := destroyL_len l s
  exact h.ended (h.fit.destroyL h.rtk) hl.1 hl.2.1 hl.2.2.1 hl.2.2.2 (destroyL_th l s) (destroyL_rglen l s) (destroyL_rt l s)
theorem WellQ.rpU {s : KS} {N M : Nat} (h : WellQ Q s N M) (u : Int) (f : ID × Bool → ID × Bool) : WellQ Q { s with rp := updO s.rp u f } N M :=
  ⟨h.fit.rpF u f, h.q, h.mp, h.sl, h.rg, h.tree, h.marks, h.thr, h.ent, h.rtk⟩
theorem WellQ.epU {s : KS} {N M : Nat} (h : WellQ Q s N M) (hN : N + 1 ≤ 90000) (u : Int) {f : List Msg × List Rcv → List Msg × List Rcv} (hf : ∀ a, (f a).1.length ≤ a.1.length + 1 ∧ (f a).2.length ≤ a.2.length + 1) : WellQ Q { s with ep := updO s.ep u f } (N + 1) M :=
  ⟨h.fit.epF hN u hf, Nat.le_succ_of_le h.q, Nat.le_succ_of_le h.mp, Nat.le_succ_of_le h.sl, h.rg, h.tree, h.marks, h.thr, h.ent, h.rtk⟩
theorem WellQ.ntU {s : KS} {N M : Nat} (h : WellQ Q s N M) (hN : N + 1 ≤ 90000) (u : Int) {f : Int × List ID → Int × List ID} (hf : ∀ a, (f a).2.length ≤ a.2.length + 1) : WellQ Q { s with nt := updO s.nt u f } (N + 1) M :=
  ⟨h.fit.ntF hN u hf, Nat.le_succ_of_le h.q, Nat.le_succ_of_le h.mp, Nat.le_succ_of_le h.sl, h.rg, h.tree, h.marks, h.thr, h.ent, h.rtk⟩
theorem WellQ.slU {s : KS} {N M : Nat} (h : WellQ Q s N M) (hN : N + 1 ≤ 90000) {ps : List (Place × SV)} (ht : TreeOk ps) (hl : ps.length ≤ s.sl.length + 1) : WellQ Q { s with sl := ps } (N + 1) M := by
  have h2 := h.more hN
  have := h.sl
  exact ⟨⟨h2.fit.n, h2.fit.mm, h2.fit.ids, h2.fit.jn, h2.fit.tm, h2.fit.ep, h2.fit.nt, h2.fit.rp, h2.fit.rg, h2.fit.mem⟩, h2.q, h2.mp, (show ps.length ≤ N + 1 by omega), h2.rg, ht, h2.marks, h2.thr, h2.ent, h2.rtk⟩
theorem WellQ.mrU {s : KS} {N M : Nat} (h : WellQ Q s N M) {mr : List (Place × Int)} (hm : MarksOk mr) : WellQ Q { s with mr := mr } N M :=
  ⟨⟨h.fit.n, h.fit.mm, h.fit.ids, h.fit.jn, h.fit.tm, h.fit.ep, h.fit.nt, h.fit.rp, h.fit.rg, h.fit.mem⟩, h.q, h.mp, h.sl, h.rg, h.tree, hm, h.thr, h.ent, h.rtk⟩
theorem WellQ.mpU {s : KS} {N M : Nat} (h : WellQ Q s N M) (hN : N + 1 ≤ 90000) {ps : List (Place × M1)} (hl : ps.length ≤ s.mp.length + 1) : WellQ Q { s with mp := ps } (N + 1) M := by
  have h2 := h.more hN
  have := h.mp
  exact ⟨⟨h2.fit.n, h2.fit.mm, h2.fit.ids, h2.fit.jn, h2.fit.tm, h2.fit.ep, h2.fit.nt, h2.fit.rp, h2.fit.rg, h2.fit.mem⟩, h2.q, (show ps.length ≤ N + 1 by omega), h2.sl, h2.rg, h2.tree, h2.marks, h2.thr, h2.ent, h2.rtk⟩
theorem WellQ.qU {s : KS} {N M : Nat} (h : WellQ Q s N M) (hN : N + 1 ≤ 90000) {q : List (Int × Int)} {pr : List (Int × Int)} (hl : q.length ≤ s.q.length + 1) : WellQ Q { s with q := q, pr := pr } (N + 1) M := by
  have h2 := h.more hN
  have := h.q
  exact ⟨⟨h2.fit.n, h2.fit.mm, h2.fit.ids, h2.fit.jn, h2.fit.tm, h2.fit.ep, h2.fit.nt, h2.fit.rp, h2.fit.rg, h2.fit.mem⟩, (show q.length ≤ N + 1 by omega), h2.mp, h2.sl, h2.rg, h2.tree, h2.marks, h2.thr, h2.ent, h2.rtk⟩
theorem ins_le {κ υ : Type} [DecidableEq κ] (ps : List (κ × υ)) (a : κ) (u : υ) : (ins ps a u).length ≤ ps.length + 1 := by
  unfold Go.Pse.ins; split <;> simp
theorem slPut_le (ps : List (Place × SV)) (p : Place) (c : Cap) (q : Place) : (slPut ps p c q).length ≤ ps.length + 1 := by
  unfold slPut; split
  · exact ins_le _ _ _
  · omega
theorem copyS_tree {ps : List (Place × SV)} (h : TreeOk ps) (p q : Place) (r : Int) : TreeOk (copyS ps p q r).1 ∧ (copyS ps p q r).1.length ≤ ps.length + 1 := by
  unfold copyS
  (repeat' split) <;> first | exact ⟨h, Nat.le_succ _⟩ | exact ⟨h.put _ _ _, slPut_le _ _ _ _⟩
theorem mintS_tree {ps : List (Place × SV)} (h : TreeOk ps) (p q : Place) (r : Int) : TreeOk (mintS ps p q r).1 ∧ (mintS ps p q r).1.length ≤ ps.length + 1 := by
  unfold mintS
  (repeat' split) <;> first | exact ⟨h, Nat.le_succ _⟩ | exact ⟨h.put _ _ _, slPut_le _ _ _ _⟩
theorem moveS_le (ps : List (Place × SV)) (a b : Place) : (moveS ps a b).length ≤ ps.length + 1 := by
  unfold moveS; split
  · refine Nat.le_trans (ins_le _ _ _) ?_
    have := del_le (ps := turnS ps a b) (i := a)
    rw [turnS_len] at this
    omega
  · omega
theorem dmoveS_tree {ps : List (Place × SV)} (h : TreeOk ps) (p q : Place) : TreeOk (dmoveS ps p q).1 ∧ (dmoveS ps p q).1.length ≤ ps.length + 1 := by
  unfold dmoveS
  dsimp only
  split
  · exact ⟨h.move _ _, moveS_le _ _ _⟩
  · exact ⟨h, Nat.le_succ _⟩
theorem deleteS_tree {ps : List (Place × SV)} (h : TreeOk ps) (p : Place) : TreeOk (deleteS ps p).1.1 ∧ (deleteS ps p).1.1.length ≤ ps.length + 1 := by
  unfold deleteS
  split
  · exact ⟨h, Nat.le_succ _⟩
  · exact ⟨h.dropT _ _, by have := kDropT_len ps.length ps p; show (kDropT ps.length ps p).1.length ≤ _; omega⟩
theorem revokeS_tree {ps : List (Place × SV)} (h : TreeOk ps) (p : Place) : TreeOk (revokeS ps p).1.1 ∧ (revokeS ps p).1.1.length ≤ ps.length + 1 := by
  unfold revokeS
  split
  · exact ⟨h, Nat.le_succ _⟩
  · dsimp only
    cases hr : revL p (ps.length + 1) ps [] with
    | none => exact ⟨h, Nat.le_succ _⟩
    | some r =>
      have := h.revT hr
      exact ⟨this.1, Nat.le_succ_of_le this.2⟩
theorem makeS_tree {ps : List (Place × SV)} {mr : List (Place × Int)} (h : TreeOk ps) (hm : MarksOk mr) (p q : Place) (k z : Int) : TreeOk (makeS ps mr p q k z).1.1 ∧ (makeS ps mr p q k z).1.1.length ≤ ps.length + 1 ∧ MarksOk (makeS ps mr p q k z).1.2 := by
  unfold makeS
  split
  · exact ⟨h, Nat.le_succ _, hm⟩
  · rename_i u hu
    have hcu := checkC_is (h.caps p u hu)
    split
    · exact ⟨h, Nat.le_succ _, hm⟩
    · rename_i h1
      split
      · exact ⟨h, Nat.le_succ _, hm⟩
      · split
        · exact ⟨h, Nat.le_succ _, hm⟩
        · split
          · exact ⟨h, Nat.le_succ _, hm⟩
          · split
            · rename_i hto
              refine ⟨h.put _ _ _, slPut_le _ _ _ _, ?_⟩
              show MarksOk (mtkM _ _ _)
              unfold mtkM
              rw [if_pos hto]
              have hr : rangeC u.1 = (u.1.obj, u.1.size) := if_neg h1
              have hus := usedM_is (hm.reset ps u.1) (rangeC u.1)
              unfold mtkOk at hto
              simp only [Bool.and_eq_true, decide_eq_true_eq] at hto
              rw [hr] at hto hus ⊢
              intro e he
              unfold Go.Pse.ins at he
              split at he
              · obtain ⟨x, hx, rfl⟩ := List.mem_map.1 he
                split
                · dsimp only at hto ⊢; omega
                · exact hm.reset ps u.1 x hx
              · rcases List.mem_append.1 he with he | he
                · exact hm.reset ps u.1 e he
                · rw [List.mem_singleton.1 he]; dsimp only at hto ⊢; omega
            · exact ⟨h, Nat.le_succ _, hm.reset _ _⟩
theorem WellQ.two {s : KS} {N M : Nat} (h : WellQ Q s N M) (hN : N + 1 ≤ 90000) {F : Place → Place → KS × Int} (hF : ∀ x y, WellQ Q (F x y).1 (N + 1) M) (o : Option (Place × Place)) : WellQ Q (twoS s F o).1 (N + 1) M := by
  cases o with
  | none => exact h.more hN
  | some x => exact hF _ _
theorem WellQ.kill {s : KS} {N M : Nat} (h : WellQ Q s N M) (hN : N + 1 ≤ 90000) {F : Place → (List (Place × SV) × List Obj2) × Int} (hF : ∀ x, TreeOk (F x).1.1 ∧ (F x).1.1.length ≤ s.sl.length + 1) (o : Option Place) : WellQ Q (killS s F o).1 (N + 1) M := by
  cases o with
  | none => exact h.more hN
  | some x => exact (h.slU hN (hF x).1 (hF x).2).destroyL _
theorem WellQ.slots {s : KS} {N M : Nat} (h : WellQ Q s N M) (hN : N + 1 ≤ 90000) (T : Th) (e : Sqe) : WellQ Q (kSlots s T e).1 (N + 1) M := by
  unfold kSlots
  split
  · exact h.two hN (fun x y => h.slU hN (copyS_tree h.tree x y e.b).1 (copyS_tree h.tree x y e.b).2) _
  · split
    · exact h.two hN (fun x y => h.slU hN (mintS_tree h.tree x y e.b).1 (mintS_tree h.tree x y e.b).2) _
    · split
      · exact h.two hN (fun x y => h.slU hN (dmoveS_tree h.tree x y).1 (dmoveS_tree h.tree x y).2) _
      · split
        · exact h.kill hN (fun x => deleteS_tree h.tree x) _
        · exact h.kill hN (fun x => revokeS_tree h.tree x) _
theorem zrow_len : zrow.length = 512 ∧ Bytes zrow := ⟨List.length_replicate, fun x hx => by
  have := (List.mem_replicate.1 hx).2
  omega⟩
theorem ins_memO {α : Type} {xs : List (Int × α)} {u : Int} {a : α} {x : Int × α} (h : x ∈ ins xs u a) : x ∈ xs ∨ x = (u, a) := by
  unfold Go.Pse.ins at h
  split at h
  · obtain ⟨y, hy, rfl⟩ := List.mem_map.1 h
    split
    · exact .inr rfl
    · exact .inl hy
  · rcases List.mem_append.1 h with h | h
    · exact .inl h
    · exact .inr (List.mem_singleton.1 h)
theorem WellQ.made {s : KS} {N M : Nat} (h : WellQ Q s N M) {c : Cap} (hc : 1 ≤ c.obj ∧ c.obj ≤ 64) (b : Nat) : WellQ Q (kMade s c b) N M := by
  have hf := h.fit
  unfold kMade
  split
  · exact ⟨⟨hf.n, hf.mm, hf.ids, hf.jn, hf.tm, fun x hx => by
      rcases ins_memO hx with hx | rfl
      · exact hf.ep x hx
      · exact ⟨hc, Nat.zero_le _, Nat.zero_le _⟩, hf.nt, hf.rp, hf.rg, hf.mem⟩, h.q, h.mp, h.sl, h.rg, h.tree, h.marks, h.thr, h.ent, h.rtk⟩
  · split
    · exact ⟨⟨hf.n, hf.mm, hf.ids, hf.jn, hf.tm, hf.ep, fun x hx => by
        rcases ins_memO hx with hx | rfl
        · exact hf.nt x hx
        · exact ⟨hc, Nat.zero_le _⟩, hf.rp, hf.rg, hf.mem⟩, h.q, h.mp, h.sl, h.rg, h.tree, h.marks, h.thr, h.ent, h.rtk⟩
    · split
      · exact ⟨⟨hf.n, hf.mm, hf.ids, hf.jn, hf.tm, hf.ep, hf.nt, fun x hx => by
          rcases ins_memO hx with hx | rfl
          · exact hf.rp x hx
          · exact hc, hf.rg, hf.mem⟩, h.q, h.mp, h.sl, h.rg, h.tree, h.marks, h.thr, h.ent, h.rtk⟩
      · split
        · exact ⟨⟨hf.n, hf.mm, hf.ids, hf.jn, hf.tm, hf.ep, hf.nt, hf.rp, hf.rg, hf.mem.put zrow_len⟩, h.q, h.mp, h.sl, h.rg, h.tree, h.marks, h.thr, h.ent, h.rtk⟩
        · exact h
theorem WellQ.ret {s : KS} {N M : Nat} (h : WellQ Q s N M) (hN : N + 1 ≤ 90000) (T : Th) (e : Sqe) (b : Nat) : WellQ Q (kRetS s T e b) (N + 1) M := by
  have h2 : WellQ Q (twoS s (retF s e) (twoAt s T e)).1 (N + 1) M := h.two hN (fun x y => by
    have := makeS_tree h.tree h.marks x y e.b e.c
    exact (h.slU hN this.1 this.2.1).mrU this.2.2) _
  unfold kRetS
  split
  · rename_i hc
    refine h2.made ?_ b
    unfold kRetC at hc
    unfold kRetK
    cases hq : twoAt s T e with
    | none => rw [hq] at hc; simp [twoS] at hc
    | some x => rw [hq] at hc; exact makeS_obj h.tree.capsOk h.marks hc
  · exact h2
theorem spSet_le (ps : List (Place × M1)) (p : Place) (f : M1) : (spSet ps p f).length ≤ ps.length + 1 := by
  unfold spSet; split
  · exact ins_le _ _ _
  · omega
theorem WellQ.maps {s : KS} {N M : Nat} (h : WellQ Q s N M) (hN : N + 1 ≤ 90000) (T : Th) (e : Sqe) : WellQ Q (kMaps s T e).1 (N + 1) M := by
  unfold kMaps
  (repeat' split) <;> first | exact h.more hN | exact h.mpU hN (spSet_le _ _ _)
theorem WellQ.unmap {s : KS} {N M : Nat} (h : WellQ Q s N M) (hN : N + 1 ≤ 90000) (T : Th) (e : Sqe) : WellQ Q (kUnmap s T e).1 (N + 1) M := by
  have hd : (del s.mp (T.space, e.a)).length ≤ s.mp.length + 1 := Nat.le_succ_of_le del_le
  unfold kUnmap
  (repeat' split) <;> first | exact h.more hN | exact h.mpU hN hd
theorem qSet_le (q : List (Int × Int)) (i p : Int) : (qSet q i p).length ≤ q.length + 1 := by
  unfold qSet
  split
  · split
    · omega
    · exact Nat.le_trans (qAdd_len _ _ _) (Nat.succ_le_succ (qRem_len _ _))
  · omega
theorem WellQ.thrS {s : KS} {N M : Nat} (h : WellQ Q s N M) (hN : N + 1 ≤ 90000) (T : Th) (e : Sqe) : WellQ Q (kThreads s T e).1 (N + 1) M := by
  unfold kThreads
  split
  · exact h.more hN
  · split
    · exact h.more hN
    · show WellQ Q (kThr s e _).1 (N + 1) M
      unfold kThr
      split
      · exact h.qU hN (pr := s.pr) (qSet_le _ _ _)
      · split
        · show WellQ Q (kStop s _) (N + 1) M
          unfold kStop
          split
          · exact h.qU hN (Nat.le_succ_of_le (qRem_len _ _))
          · exact h.more hN
        · show WellQ Q (kGo s _) (N + 1) M
          unfold kGo
          split
          · exact h.qU hN (pr := s.pr) (qAdd_len _ _ _)
          · exact h.more hN
theorem WellQ.bind {s : KS} {N M : Nat} (h : WellQ Q s N M) (u : Int) (j : ID) : WellQ Q (kBind s u j) N M := by
  unfold kBind
  split
  · exact h
  · split
    · exact (h.rpU _ _).dec _ _ _ _
    · exact h.rpU _ _
theorem WellQ.send1 {s : KS} {N M : Nat} (h : WellQ Q s N M) (hN : N + 1 ≤ 90000) (c : Cap) (e : Sqe) (i : ID) (call : Bool) : WellQ Q (kSend1 s c e i call).1 (N + 1) M := by
  unfold kSend1
  split
  · exact h.more hN
  · rename_i y _
    obtain ⟨yb, yo, yi⟩ := y
    have h1 := h.epU hN c.obj (f := sendE (i, e.a, c.badge, call)) fun a => by have := sendE_len (i, e.a, c.badge, call) a; omega
    cases yi with
    | nil => exact h1
    | cons z zs =>
      show WellQ Q (kSend3 _ _ _ _).1 (N + 1) M
      unfold kSend3
      split
      · exact h1.dec _ _ _ _
      · split
        · exact h1.dec _ _ _ _
        · exact (h1.dec _ _ _ _).bind _ _
theorem WellQ.sends {s : KS} {N M : Nat} (h : WellQ Q s N M) (hN : N + 1 ≤ 90000) (T : Th) (e : Sqe) (i : ID) (call : Bool) : WellQ Q (kSends s T e i call).1 (N + 1) M := by
  unfold kSends
  generalize (if call = true then (6 : Int) else 2) = r
  split
  · exact h.more hN
  · exact h.send1 hN _ _ _ _
theorem WellQ.met {s : KS} {N M : Nat} (h : WellQ Q s N M) (u : Int) (x : Msg) : WellQ Q (kMet s u x) N M := by
  unfold kMet
  split
  · split
    · exact h.dec _ _ _ _
    · exact h.bind _ _
  · exact h.dec _ _ _ _
theorem WellQ.recv1 {s : KS} {N M : Nat} (h : WellQ Q s N M) (hN : N + 1 ≤ 90000) (c : Cap) (u : Int) (i : ID) : WellQ Q (kRecv1 s c u i).1 (N + 1) M := by
  unfold kRecv1
  split
  · exact h.more hN
  · rename_i y _
    obtain ⟨yb, yo, yi⟩ := y
    have h1 := h.epU hN c.obj (f := recvE (i, u)) fun a => by have := recvE_len (i, u) a; omega
    cases yo with
    | nil => exact h1
    | cons z zs => exact h1.met _ _
theorem WellQ.recvs {s : KS} {N M : Nat} (h : WellQ Q s N M) (hN : N + 1 ≤ 90000) (T : Th) (e : Sqe) (i : ID) : WellQ Q (kRecvs s T e i).1 (N + 1) M := by
  unfold kRecvs
  (repeat' split) <;> first | exact h.more hN | exact h.recv1 hN _ _ _
theorem WellQ.answers {s : KS} {N M : Nat} (h : WellQ Q s N M) (hN : N + 1 ≤ 90000) (T : Th) (e : Sqe) : WellQ Q (kAnswers s T e).1 (N + 1) M := by
  unfold kAnswers
  (repeat' split) <;> first | exact h.more hN | exact (h.rpU _ _).more hN | exact ((h.rpU _ _).dec _ _ _ _).more hN
theorem WellQ.sig {s : KS} {N M : Nat} (h : WellQ Q s N M) (hN : N + 1 ≤ 90000) (u x : Int) : WellQ Q { s with nt := updO s.nt u (ntS x) } (N + 1) M :=
  h.ntU hN u fun a => by have := sigL_len a.1 a.2 x; show (sigL a.1 a.2 x).length ≤ _; omega
theorem WellQ.signals {s : KS} {N M : Nat} (h : WellQ Q s N M) (hN : N + 1 ≤ 90000) (T : Th) (e : Sqe) : WellQ Q (kSignals s T e).1 (N + 1) M := by
  unfold kSignals
  split
  · exact h.more hN
  · split
    · exact h.more hN
    · dsimp only
      split
      · exact (h.sig hN _ _).dec _ _ _ _
      · exact h.sig hN _ _
theorem WellQ.nwaits {s : KS} {N M : Nat} (h : WellQ Q s N M) (hN : N + 1 ≤ 90000) (T : Th) (e : Sqe) (i : ID) : WellQ Q (kNWaits s T e i).1 (N + 1) M := by
  unfold kNWaits
  split
  · exact h.more hN
  · split
    · exact h.more hN
    · exact h.ntU hN _ fun a => waitL_len a.1 a.2 i
theorem WellQ.cancels {s : KS} {N M : Nat} (h : WellQ Q s N M) (hN : N + 1 ≤ 90000) (e : Sqe) (i : ID) : WellQ Q (kCancels s e i).1 (N + 1) M := by
  unfold kCancels
  split
  · exact h.more hN
  · exact (h.dec _ _ _ _).more hN
theorem wif {c : Prop} [Decidable c] {x y : KS × Out} {N M : Nat} (h1 : WellQ Q x.1 N M) (h2 : WellQ Q y.1 N M) : WellQ Q (if c then x else y).1 N M := by
  by_cases h : c
  · rw [if_pos h]; exact h1
  · rw [if_neg h]; exact h2
theorem WellQ.does {s : KS} {N M : Nat} (h : WellQ Q s N M) (hN : N + 1 ≤ 90000) (T : Th) (q : Rq) (i : ID) (b : Nat) : WellQ Q (kDoes s T q i b).1 (N + 1) M :=
  wif (h.more hN) <| wif (h.slots hN _ _) <| wif (h.ret hN _ _ _) <| wif (h.maps hN _ _) <| wif (h.unmap hN _ _) <| wif (h.sends hN _ _ _ _) <| wif (h.recvs hN _ _ _) <| wif (h.answers hN _ _) <| wif (h.signals hN _ _) <| wif (h.nwaits hN _ _ _) <| wif (h.thrS hN _ _) <| wif (h.more hN) <| wif (h.cancels hN _ _) <| h.more hN
theorem WellQ.act {s : KS} {N M : Nat} (h : WellQ Q s N M) (hN : N + 1 ≤ 90000) (i : ID) (b : Nat) : WellQ Q (kAct s i b).1 (N + 1) M := by
  unfold kAct
  split
  · exact h.more hN
  · split
    · exact h.more hN
    · exact h.does hN _ _ _ _
end Go.Pse
namespace Go.Pse
open Go.RowKit Go.Proofs
theorem addQ_ids {ps : List (ID × Rq)} {q : Rq} (h : Ids ps) : Ids (addQ ps q) := fun e he => by
  unfold addQ at he
  split at he
  · rename_i h1
    have hn : look ps q.id = none := by
      unfold addOk at h1
      simp at h1
      cases hq : look ps q.id with
      | none => rfl
      | some y => rw [hq] at h1; simp at h1
    unfold Go.Pse.ins at he
    rw [hn] at he
    simp at he
    rcases he with h2 | rfl
    · exact h e h2
    · rfl
  · exact h e he
end Go.Pse
namespace Go.Pse
open Go.RowKit Go.Proofs
theorem ins_memK {κ υ : Type} [DecidableEq κ] {xs : List (κ × υ)} {u : κ} {a : υ} {x : κ × υ} (h : x ∈ ins xs u a) : x ∈ xs ∨ x = (u, a) := by
  unfold Go.Pse.ins at h
  split at h
  · obtain ⟨y, hy, rfl⟩ := List.mem_map.1 h
    split
    · exact .inr rfl
    · exact .inl hy
  · rcases List.mem_append.1 h with h | h
    · exact .inl h
    · exact .inr (List.mem_singleton.1 h)
variable {Q : Sqe → Prop}
theorem rtS_len {ps : List (ID × Rq)} {i : ID} : (rtS ps i).length = ps.length := by
  unfold rtS
  split
  · rfl
  · rename_i q hq
    unfold Go.Pse.ins
    rw [if_pos (by rw [hq]; rfl), List.length_map]
theorem rtS_mem {ps : List (ID × Rq)} {i : ID} {e : ID × Rq} (h : e ∈ rtS ps i) : ∃ x ∈ ps, e.1 = x.1 ∧ e.2.id = x.2.id ∧ e.2.e = x.2.e := by
  unfold rtS at h
  split at h
  · exact ⟨e, h, rfl, rfl, rfl⟩
  · rename_i q hq
    unfold Go.Pse.ins at h
    rw [if_pos (by rw [hq]; rfl)] at h
    obtain ⟨x, hx, rfl⟩ := List.mem_map.1 h
    split
    · rename_i hi
      exact ⟨(i, q), mem_look hq, rfl, rfl, rfl⟩
    · exact ⟨x, hx, rfl, rfl, rfl⟩
theorem WellQ.start {s : KS} {N M : Nat} (h : WellQ Q s N M) (i : ID) : WellQ Q { s with rt := rtS s.rt i } N M := by
  have hf := h.fit
  refine ⟨⟨hf.n, hf.mm, fun e he => ?_, by show s.jn.length + (rtS s.rt i).length ≤ M; rw [rtS_len]; exact hf.jn, hf.tm, hf.ep, hf.nt, hf.rp, fun x hx => ⟨(hf.rg x hx).1, by show _ + (rtS s.rt i).length ≤ M; rw [rtS_len]; exact (hf.rg x hx).2⟩, hf.mem⟩, h.q, h.mp, h.sl, h.rg, h.tree, h.marks, h.thr, fun e he => ?_, ?_⟩
  · obtain ⟨x, hx, h1, h2, _⟩ := rtS_mem he
    rw [h2, h1]; exact hf.ids x hx
  · obtain ⟨x, hx, _, _, h3⟩ := rtS_mem he
    rw [h3]; exact h.ent x hx
  · show Keyd (rtS s.rt i)
    unfold rtS
    split
    · exact h.rtk
    · exact h.rtk.ins _ _
theorem WellQ.take {s : KS} {N M : Nat} (h : WellQ Q s N M) (r n : Int) : WellQ Q (kTake s r n) N M := by
  have hf := h.fit
  unfold kTake
  split
  · exact ⟨⟨hf.n, hf.mm, hf.ids, hf.jn, hf.tm, hf.ep, hf.nt, hf.rp, hf.rg, hf.mem⟩, h.q, h.mp, h.sl, h.rg, h.tree, h.marks, h.thr, h.ent, h.rtk⟩
  · exact h
theorem WellQ.addq {s : KS} {N M : Nat} (h : WellQ Q s N M) (hM : M + 1 ≤ 90000) {q : Rq} (hq : SqeOk q.e ∧ Q q.e) : WellQ Q { s with rt := addQ s.rt q } N (M + 1) := by
  have hf := h.fit
  have hl : (addQ s.rt q).length ≤ s.rt.length + 1 := by
    unfold addQ; split
    · exact ins_le _ _ _
    · omega
  have hj := hf.jn
  refine ⟨⟨hf.n, hM, addQ_ids hf.ids, by show s.jn.length + (addQ s.rt q).length ≤ M + 1; omega, hf.tm, hf.ep, hf.nt, hf.rp, fun x hx => ⟨(hf.rg x hx).1, by have := (hf.rg x hx).2; show _ + (addQ s.rt q).length ≤ M + 1; omega⟩, hf.mem⟩, h.q, h.mp, h.sl, h.rg, h.tree, h.marks, h.thr, fun e he => ?_, ?_⟩
  · have he2 : e ∈ addQ s.rt q := he
    unfold addQ at he2
    split at he2
    · rcases ins_memK he2 with h1 | rfl
      · exact h.ent e h1
      · exact hq
    · exact h.ent e he2
  · show Keyd (addQ s.rt q)
    unfold addQ; split
    · exact h.rtk.ins _ _
    · exact h.rtk
theorem Well.add {s : KS} {N M : Nat} (h : Well s N M) (hM : M + 1 ≤ 90000) {q : Rq} (hq : SqeOk q.e) : Well { s with rt := addQ s.rt q } N (M + 1) := WellQ.addq h hM ⟨hq, trivial⟩
theorem kStart_is {s : KS} {i : ID} {q : Rq} {b : Nat} (hq : look s.rt i = some q) (hs : q.started = false) : kStart s i b = match (kAct { s with rt := rtS s.rt i } i b).2 with
    | none => ((kAct { s with rt := rtS s.rt i } i b).1, true)
    | some x => (kDec (kAct { s with rt := rtS s.rt i } i b).1.rt.length (kAct { s with rt := rtS s.rt i } i b).1 i x.1 x.2, true) := by
  unfold kStart
  rw [hq]
  dsimp only
  rw [if_neg (by rw [hs]; decide)]
  cases h : kAct { s with rt := rtS s.rt i } i b with
  | mk t o => cases o <;> rfl
theorem WellQ.started {s : KS} {N M : Nat} (h : WellQ Q s N M) (hN : N + 1 ≤ 90000) (i : ID) (b : Nat) : WellQ Q (kStart s i b).1 (N + 1) M := by
  unfold kStart
  split
  · exact h.more hN
  · split
    · exact h.more hN
    · have h1 := (h.start i).act hN i b
      cases hk : kAct { s with rt := rtS s.rt i } i b with
      | mk t o =>
        rw [hk] at h1
        cases o with
        | none => exact h1
        | some x => exact h1.dec _ _ _ _
def askId (s : KS) (g : Int) : ID := (g, kTakeV s g 1)
def askT1 (s : KS) (g : Int) (e : Sqe) : KS := { kTake s g 1 with rt := addQ (kTake s g 1).rt (rqN (askId s g) e) }
def kAskS (s : KS) (g : Int) (e : Sqe) (b : Nat) : KS := if addOk (kTake s g 1).rt (rqN (askId s g) e) = true then (kStart (askT1 s g e) (askId s g) b).1 else kTake s g 1
theorem WellQ.askq {s : KS} {N M : Nat} (h : WellQ Q s N M) (hN : N + 1 ≤ 90000) (hM : M + 1 ≤ 90000) (g : Int) {e : Sqe} (he : SqeOk e ∧ Q e) (b : Nat) : WellQ Q (kAskS s g e b) (N + 1) (M + 1) := by
  unfold kAskS
  split
  · exact ((h.take g 1).addq hM (q := rqN (askId s g) e) he).started hN _ _
  · have h2 := (h.take g 1).more hN
    have hf := h2.fit
    exact ⟨⟨hf.n, hM, hf.ids, Nat.le_succ_of_le hf.jn, hf.tm, hf.ep, hf.nt, hf.rp, fun x hx => ⟨(hf.rg x hx).1, Nat.le_succ_of_le (hf.rg x hx).2⟩, hf.mem⟩, h2.q, h2.mp, h2.sl, h2.rg, h2.tree, h2.marks, h2.thr, h2.ent, h2.rtk⟩
theorem Well.ask {s : KS} {N M : Nat} (h : Well s N M) (hN : N + 1 ≤ 90000) (hM : M + 1 ≤ 90000) (g : Int) {e : Sqe} (he : SqeOk e) (b : Nat) : Well (kAskS s g e b) (N + 1) (M + 1) := WellQ.askq h hN hM g ⟨he, trivial⟩ b
theorem coStartG {E : World} {l m : List As} {p : Nat} {s : KS} (hp : Pick (coA p s) l m) {i : ID} {N M : Nat} (hW : WellQ Q s N M) (hN : N + 2 ≤ 90000) (hM : M ≤ 45000) (hD : ∀ (q : Rq) (T : Th), look (rtS s.rt i) i = some q → DoesC { s with rt := rtS s.rt i } T q i) :
    Con Tryz.prog 20 #[.pointer (some ⟨p, 0, none⟩), .agg (encI i).toArray] E l (fun b : Nat => .bool (kStart s i b).2) (fun b => coA p (kStart s i b).1 :: m) := by
  refine Con.body (vs := [.pointer (some ⟨p, 0, none⟩), .agg (encI i).toArray]) (n := 40) Tryz.func20 rfl rfl [(0, .pointer (some ⟨p, 0, none⟩)), (1, .agg (encI i).toArray)] (env_ok 2 rfl) <| J_pick hp <| sr <| L_op <| x_box rfl rfl rfl fun b3 => ag rfl rfl <| nq <| J_seq ?_
  refine J_drawL none mixed <| ip 0 rfl rfl rfl rfl (p_move rfl) <| iv 2 rfl rfl rfl rfl (fun _ => v_loadA rfl ty36 HS CT) ?_
  refine I_ready (rs := [1, 7]) SI (by kernel_rfl) (by simp) ?_
  refine (I_cons rfl ?_ (I_cons rfl ?_ I_nil))
  refine xc fc16 (.cons rfl .nil) rfl (coReqs) fun _ => I_ready (rs := [3, 7]) SI (by kernel_rfl) (by simp) ?_
  refine (I_cons rfl ?_ (I_cons rfl ?_ I_nil))
  refine xc fc69 (.cons rfl (.cons rfl .nil)) rfl (coRqGet (s := s) (i := i) PC) fun _ => ?_
  refine ip 4 rfl rfl rfl rfl (p_move rfl) <| ip 5 rfl rfl rfl rfl (p_extract rfl rfl) <| ip 6 rfl rfl rfl rfl (p_extract rfl rfl) <| i1 7 rfl <| x_alloc ty122 rfl fun b5 => i1 8 rfl <| x_store rfl rfl ty122 rfl SM SM RO PT ?_
  refine ip 9 rfl rfl rfl rfl (p_assign rfl) <| i0 <| Q_then <| J_seq <| sr <| mv rfl rfl <| L_pur rfl (p_not rfl) <| mv rfl rfl ?_
  refine J_gsplit (t := 19) rfl (fun h19 => ?_) (fun h19 => ?_)
  have hq : look s.rt i = none := by
    cases hq : look s.rt i with
    | none => rfl
    | some y => rw [hq] at h19; simp at h19
  have hks : ∀ b, kStart s i b = (s, false) := fun b => by unfold kStart; rw [hq]
  refine L_op <| G_off rfl rfl rfl rfl rfl rfl <| L_op <| G_off rfl rfl rfl rfl rfl rfl <| L_pur rfl (p_pick_t rfl rfl) <| nq <| C_true rfl <| sr ?_
  refine ag rfl rfl <| nq <| J_ret <| Q_then_ret <| J_pick (A := coA p _) PC ?_
  refine J_asTo (B := coA p (kStart s i 0).1) (by rw [hks]) ?_
  refine J_return (0) Tryz.results20 (.tmp rfl .nil) ?_ ?_
  · rw [hks]; rfl
  · exact SU
  obtain ⟨q, hq⟩ : ∃ x, look s.rt i = some x := by
    cases hq : look s.rt i with
    | none => rw [hq] at h19; simp at h19
    | some y => exact ⟨y, rfl⟩
  refine J_pick (A := blk b5 _ _) PC ?_
  refine J_asTo (B := blk b5 122 (encQ q)) (by rw [hq]; rfl) <| L_op <| G_on rfl rfl rfl <| J_pur (p_fieldAddr rfl fa122_4) rfl rfl rfl <| L_op <| G_on rfl rfl rfl <| J_val (v_load rfl ty4 HS (by exact rfl)) rfl rfl rfl ?_
  refine L_pur rfl (p_pick_f rfl rfl) <| nq ?_
  refine C_split rfl (fun h22 => ?_) (fun h22 => ?_)
  have hks : ∀ b, kStart s i b = (s, false) := fun b => by unfold kStart; rw [hq]; exact if_pos h22
  refine sr <| ag rfl rfl <| nq <| J_ret <| Q_then_ret <| J_pick (A := coA p _) PC ?_
  refine J_asTo (B := coA p (kStart s i 0).1) (by rw [hks]) ?_
  refine J_return (0) Tryz.results20 (.tmp rfl .nil) ?_ ?_
  · rw [hks]; rfl
  · exact SU
  have hst : q.started = false := by simpa using h22
  have hW1 := hW.start i
  refine J_skip <| Q_then <| J_seq <| J_drawL (some 3) mixed <| ip 0 rfl rfl rfl rfl (p_move rfl) <| iv 2 rfl rfl rfl rfl (fun _ => v_loadA rfl ty36 HS CT) ?_
  refine i1 1 rfl <| xc fc16 (.cons rfl .nil) rfl (coReqs) fun _ => i1 3 rfl <| xc fc70 (.cons rfl (.cons rfl .nil)) rfl (coRqStart (s := s) (i := i) PC) fun _ => ?_
  refine i0 <| Q_then <| J_seq <| sr <| mv rfl rfl <| L_val rfl (v_loadA rfl ty36 HS CT) ?_
  refine L_op <| xc fc71 (.cons rfl (.cons rfl .nil)) rfl (coActG (s := { s with rt := rtS s.rt i }) (i := i) PC (hW1.good (by omega) hM) hD) fun x30 => ?_
  have hF2 : Fits (kAct { s with rt := rtS s.rt i } i x30).1 (N + 1) M := (hW1.act (by omega) i x30).fit
  have hki := kStart_is (b := x30) hq hst
  refine mv rfl rfl <| L_pur rfl (p_extract rfl rfl) <| L_pur rfl (p_extract rfl rfl) <| L_pur rfl (p_extract rfl rfl) <| ag rfl rfl <| ag rfl rfl <| ag rfl rfl <| nx ?_
  refine mv rfl rfl <| nq ?_
  refine C_split rfl (fun h34 => ?_) (fun h34 => ?_)
  obtain ⟨o, ho⟩ : ∃ o, (kAct { s with rt := rtS s.rt i } i x30).2 = some o := Option.isSome_iff_exists.1 h34
  rw [ho] at hki
  refine J_slot (t := 7) (v := .int .i64 o.1) rfl (by rw [ho]; rfl) <| J_slot (t := 8) (v := .int .u32 o.2) rfl (by rw [ho]; rfl) <| J_region <| mv rfl rfl <| L_val rfl (v_loadA rfl ty36 HS CT) ?_
  refine mv rfl rfl <| mv rfl rfl <| L_op <| xc fc72 (.cons rfl (.cons rfl (.cons rfl (.cons rfl .nil)))) rfl (coDecide (s := (kAct { s with rt := rtS s.rt i } i x30).1) (i := i) (r := o.1) (v := o.2) PC hF2) fun _ => ?_
  refine nx <| ag rfl rfl <| nq <| J_ret <| J_pick (A := coA p _) PC ?_
  refine J_asTo (B := coA p (kStart s i x30).1) (by rw [hki]) ?_
  refine J_return (x30) Tryz.results20 (.tmp rfl .nil) ?_ ?_
  · rw [hki]; rfl
  · exact SU
  have ho : (kAct { s with rt := rtS s.rt i } i x30).2 = none := by
    cases ho : (kAct { s with rt := rtS s.rt i } i x30).2 with
    | none => rfl
    | some y => rw [ho] at h34; cases h34
  rw [ho] at hki
  refine J_skip <| qx <| ag rfl rfl <| nq <| J_ret <| J_pick (A := coA p _) PC ?_
  refine J_asTo (B := coA p (kStart s i x30).1) (by rw [hki]) ?_
  refine J_return (x30) Tryz.results20 (.tmp rfl .nil) ?_ ?_
  · rw [hki]; rfl
  · exact SU
  refine x_alloc ty122 rfl fun b5 => i1 3 rfl <| xc fc69 (.cons rfl (.cons rfl .nil)) rfl (coRqGet (s := s) (i := i) PC) fun _ => ?_
  refine ip 4 rfl rfl rfl rfl (p_move rfl) <| ip 5 rfl rfl rfl rfl (p_extract rfl rfl) <| ip 6 rfl rfl rfl rfl (p_extract rfl rfl) <| i1 8 rfl <| x_store rfl rfl ty122 rfl SM SM RO PT ?_
  refine ip 9 rfl rfl rfl rfl (p_assign rfl) <| i0 <| Q_then <| J_seq <| sr <| mv rfl rfl <| L_pur rfl (p_not rfl) <| mv rfl rfl ?_
  refine J_gsplit (t := 19) rfl (fun h19 => ?_) (fun h19 => ?_)
  have hq : look s.rt i = none := by
    cases hq : look s.rt i with
    | none => rfl
    | some y => rw [hq] at h19; simp at h19
  have hks : ∀ b, kStart s i b = (s, false) := fun b => by unfold kStart; rw [hq]
  refine L_op <| G_off rfl rfl rfl rfl rfl rfl <| L_op <| G_off rfl rfl rfl rfl rfl rfl <| L_pur rfl (p_pick_t rfl rfl) <| nq <| C_true rfl <| sr ?_
  refine ag rfl rfl <| nq <| J_ret <| Q_then_ret <| J_pick (A := coA p _) PC ?_
  refine J_asTo (B := coA p (kStart s i 0).1) (by rw [hks]) ?_
  refine J_return (0) Tryz.results20 (.tmp rfl .nil) ?_ ?_
  · rw [hks]; rfl
  · exact SU
  obtain ⟨q, hq⟩ : ∃ x, look s.rt i = some x := by
    cases hq : look s.rt i with
    | none => rw [hq] at h19; simp at h19
    | some y => exact ⟨y, rfl⟩
  refine J_pick (A := blk b5 _ _) PC ?_
  refine J_asTo (B := blk b5 122 (encQ q)) (by rw [hq]; rfl) <| L_op <| G_on rfl rfl rfl <| J_pur (p_fieldAddr rfl fa122_4) rfl rfl rfl <| L_op <| G_on rfl rfl rfl <| J_val (v_load rfl ty4 HS (by exact rfl)) rfl rfl rfl ?_
  refine L_pur rfl (p_pick_f rfl rfl) <| nq ?_
  refine C_split rfl (fun h22 => ?_) (fun h22 => ?_)
  have hks : ∀ b, kStart s i b = (s, false) := fun b => by unfold kStart; rw [hq]; exact if_pos h22
  refine sr <| ag rfl rfl <| nq <| J_ret <| Q_then_ret <| J_pick (A := coA p _) PC ?_
  refine J_asTo (B := coA p (kStart s i 0).1) (by rw [hks]) ?_
  refine J_return (0) Tryz.results20 (.tmp rfl .nil) ?_ ?_
  · rw [hks]; rfl
  · exact SU
  have hst : q.started = false := by simpa using h22
  have hW1 := hW.start i
  refine J_skip <| Q_then <| J_seq <| J_drawL (some 3) mixed <| ip 0 rfl rfl rfl rfl (p_move rfl) <| iv 2 rfl rfl rfl rfl (fun _ => v_loadA rfl ty36 HS CT) ?_
  refine i1 1 rfl <| xc fc16 (.cons rfl .nil) rfl (coReqs) fun _ => i1 3 rfl <| xc fc70 (.cons rfl (.cons rfl .nil)) rfl (coRqStart (s := s) (i := i) PC) fun _ => ?_
  refine i0 <| Q_then <| J_seq <| sr <| mv rfl rfl <| L_val rfl (v_loadA rfl ty36 HS CT) ?_
  refine L_op <| xc fc71 (.cons rfl (.cons rfl .nil)) rfl (coActG (s := { s with rt := rtS s.rt i }) (i := i) PC (hW1.good (by omega) hM) hD) fun x30 => ?_
  have hF2 : Fits (kAct { s with rt := rtS s.rt i } i x30).1 (N + 1) M := (hW1.act (by omega) i x30).fit
  have hki := kStart_is (b := x30) hq hst
  refine mv rfl rfl <| L_pur rfl (p_extract rfl rfl) <| L_pur rfl (p_extract rfl rfl) <| L_pur rfl (p_extract rfl rfl) <| ag rfl rfl <| ag rfl rfl <| ag rfl rfl <| nx ?_
  refine mv rfl rfl <| nq ?_
  refine C_split rfl (fun h34 => ?_) (fun h34 => ?_)
  obtain ⟨o, ho⟩ : ∃ o, (kAct { s with rt := rtS s.rt i } i x30).2 = some o := Option.isSome_iff_exists.1 h34
  rw [ho] at hki
  refine J_slot (t := 7) (v := .int .i64 o.1) rfl (by rw [ho]; rfl) <| J_slot (t := 8) (v := .int .u32 o.2) rfl (by rw [ho]; rfl) <| J_region <| mv rfl rfl <| L_val rfl (v_loadA rfl ty36 HS CT) ?_
  refine mv rfl rfl <| mv rfl rfl <| L_op <| xc fc72 (.cons rfl (.cons rfl (.cons rfl (.cons rfl .nil)))) rfl (coDecide (s := (kAct { s with rt := rtS s.rt i } i x30).1) (i := i) (r := o.1) (v := o.2) PC hF2) fun _ => ?_
  refine nx <| ag rfl rfl <| nq <| J_ret <| J_pick (A := coA p _) PC ?_
  refine J_asTo (B := coA p (kStart s i x30).1) (by rw [hki]) ?_
  refine J_return (x30) Tryz.results20 (.tmp rfl .nil) ?_ ?_
  · rw [hki]; rfl
  · exact SU
  have ho : (kAct { s with rt := rtS s.rt i } i x30).2 = none := by
    cases ho : (kAct { s with rt := rtS s.rt i } i x30).2 with
    | none => rfl
    | some y => rw [ho] at h34; cases h34
  rw [ho] at hki
  refine J_skip <| qx <| ag rfl rfl <| nq <| J_ret <| J_pick (A := coA p _) PC ?_
  refine J_asTo (B := coA p (kStart s i x30).1) (by rw [hki]) ?_
  refine J_return (x30) Tryz.results20 (.tmp rfl .nil) ?_ ?_
  · rw [hki]; rfl
  · exact SU
  refine x_alloc ty122 rfl fun b5 => i1 1 rfl <| xc fc16 (.cons rfl .nil) rfl (coReqs) fun _ => i1 3 rfl <| xc fc69 (.cons rfl (.cons rfl .nil)) rfl (coRqGet (s := s) (i := i) PC) fun _ => ?_
  refine ip 4 rfl rfl rfl rfl (p_move rfl) <| ip 5 rfl rfl rfl rfl (p_extract rfl rfl) <| ip 6 rfl rfl rfl rfl (p_extract rfl rfl) <| i1 8 rfl <| x_store rfl rfl ty122 rfl SM SM RO PT ?_
  refine ip 9 rfl rfl rfl rfl (p_assign rfl) <| i0 <| Q_then <| J_seq <| sr <| mv rfl rfl <| L_pur rfl (p_not rfl) <| mv rfl rfl ?_
  refine J_gsplit (t := 19) rfl (fun h19 => ?_) (fun h19 => ?_)
  have hq : look s.rt i = none := by
    cases hq : look s.rt i with
    | none => rfl
    | some y => rw [hq] at h19; simp at h19
  have hks : ∀ b, kStart s i b = (s, false) := fun b => by unfold kStart; rw [hq]
  refine L_op <| G_off rfl rfl rfl rfl rfl rfl <| L_op <| G_off rfl rfl rfl rfl rfl rfl <| L_pur rfl (p_pick_t rfl rfl) <| nq <| C_true rfl <| sr ?_
  refine ag rfl rfl <| nq <| J_ret <| Q_then_ret <| J_pick (A := coA p _) PC ?_
  refine J_asTo (B := coA p (kStart s i 0).1) (by rw [hks]) ?_
  refine J_return (0) Tryz.results20 (.tmp rfl .nil) ?_ ?_
  · rw [hks]; rfl
  · exact SU
  obtain ⟨q, hq⟩ : ∃ x, look s.rt i = some x := by
    cases hq : look s.rt i with
    | none => rw [hq] at h19; simp at h19
    | some y => exact ⟨y, rfl⟩
  refine J_pick (A := blk b5 _ _) PC ?_
  refine J_asTo (B := blk b5 122 (encQ q)) (by rw [hq]; rfl) <| L_op <| G_on rfl rfl rfl <| J_pur (p_fieldAddr rfl fa122_4) rfl rfl rfl <| L_op <| G_on rfl rfl rfl <| J_val (v_load rfl ty4 HS (by exact rfl)) rfl rfl rfl ?_
  refine L_pur rfl (p_pick_f rfl rfl) <| nq ?_
  refine C_split rfl (fun h22 => ?_) (fun h22 => ?_)
  have hks : ∀ b, kStart s i b = (s, false) := fun b => by unfold kStart; rw [hq]; exact if_pos h22
  refine sr <| ag rfl rfl <| nq <| J_ret <| Q_then_ret <| J_pick (A := coA p _) PC ?_
  refine J_asTo (B := coA p (kStart s i 0).1) (by rw [hks]) ?_
  refine J_return (0) Tryz.results20 (.tmp rfl .nil) ?_ ?_
  · rw [hks]; rfl
  · exact SU
  have hst : q.started = false := by simpa using h22
  have hW1 := hW.start i
  refine J_skip <| Q_then <| J_seq <| J_drawL (some 3) mixed <| ip 0 rfl rfl rfl rfl (p_move rfl) <| iv 2 rfl rfl rfl rfl (fun _ => v_loadA rfl ty36 HS CT) ?_
  refine i1 1 rfl <| xc fc16 (.cons rfl .nil) rfl (coReqs) fun _ => i1 3 rfl <| xc fc70 (.cons rfl (.cons rfl .nil)) rfl (coRqStart (s := s) (i := i) PC) fun _ => ?_
  refine i0 <| Q_then <| J_seq <| sr <| mv rfl rfl <| L_val rfl (v_loadA rfl ty36 HS CT) ?_
  refine L_op <| xc fc71 (.cons rfl (.cons rfl .nil)) rfl (coActG (s := { s with rt := rtS s.rt i }) (i := i) PC (hW1.good (by omega) hM) hD) fun x30 => ?_
  have hF2 : Fits (kAct { s with rt := rtS s.rt i } i x30).1 (N + 1) M := (hW1.act (by omega) i x30).fit
  have hki := kStart_is (b := x30) hq hst
  refine mv rfl rfl <| L_pur rfl (p_extract rfl rfl) <| L_pur rfl (p_extract rfl rfl) <| L_pur rfl (p_extract rfl rfl) <| ag rfl rfl <| ag rfl rfl <| ag rfl rfl <| nx ?_
  refine mv rfl rfl <| nq ?_
  refine C_split rfl (fun h34 => ?_) (fun h34 => ?_)
  obtain ⟨o, ho⟩ : ∃ o, (kAct { s with rt := rtS s.rt i } i x30).2 = some o := Option.isSome_iff_exists.1 h34
  rw [ho] at hki
  refine J_slot (t := 7) (v := .int .i64 o.1) rfl (by rw [ho]; rfl) <| J_slot (t := 8) (v := .int .u32 o.2) rfl (by rw [ho]; rfl) <| J_region <| mv rfl rfl <| L_val rfl (v_loadA rfl ty36 HS CT) ?_
  refine mv rfl rfl <| mv rfl rfl <| L_op <| xc fc72 (.cons rfl (.cons rfl (.cons rfl (.cons rfl .nil)))) rfl (coDecide (s := (kAct { s with rt := rtS s.rt i } i x30).1) (i := i) (r := o.1) (v := o.2) PC hF2) fun _ => ?_
  refine nx <| ag rfl rfl <| nq <| J_ret <| J_pick (A := coA p _) PC ?_
  refine J_asTo (B := coA p (kStart s i x30).1) (by rw [hki]) ?_
  refine J_return (x30) Tryz.results20 (.tmp rfl .nil) ?_ ?_
  · rw [hki]; rfl
  · exact SU
  have ho : (kAct { s with rt := rtS s.rt i } i x30).2 = none := by
    cases ho : (kAct { s with rt := rtS s.rt i } i x30).2 with
    | none => rfl
    | some y => rw [ho] at h34; cases h34
  rw [ho] at hki
  refine J_skip <| qx <| ag rfl rfl <| nq <| J_ret <| J_pick (A := coA p _) PC ?_
  refine J_asTo (B := coA p (kStart s i x30).1) (by rw [hki]) ?_
  refine J_return (x30) Tryz.results20 (.tmp rfl .nil) ?_ ?_
  · rw [hki]; rfl
  · exact SU
end Go.Pse
namespace Go.Pse
open Go.RowKit Go.Proofs
/-! ### plain: what an entry's doing leaves of deadlines, requests, the journal -/
structure Ebb (s t : KS) : Prop where
  tm : t.tm.Sublist s.tm := by exact List.Sublist.refl _
  rt : t.rt.Sublist s.rt := by exact List.Sublist.refl _
  jn : s.jn <+: t.jn := by exact List.prefix_refl _
  tk : t.tk = s.tk := by rfl
  be : t.be = s.be := by rfl
  now : t.now = s.now := by rfl
  cf : (t.ct, t.cu, t.cs, t.cc, t.sh) = (s.ct, s.cu, s.cs, s.cc, s.sh) := by rfl
theorem Ebb.refl (s : KS) : Ebb s s := {}
theorem Ebb.trans {s t u : KS} (h : Ebb s t) (g : Ebb t u) : Ebb s u := ⟨g.tm.trans h.tm, g.rt.trans h.rt, h.jn.trans g.jn, g.tk.trans h.tk, g.be.trans h.be, g.now.trans h.now, g.cf.trans h.cf⟩
theorem Ebb.said (s : KS) (d : Deed) : Ebb s (kSaid s d) := by
  unfold kSaid kPost
  split <;> exact { jn := List.prefix_append _ _ }
theorem Ebb.tell {D : KS → ID → Int → Int → KS} (hD : ∀ s i r v, Ebb s (D s i r v)) (s : KS) (d : Deed) : Ebb s (kTell D s d) := by
  unfold kTell
  split
  · exact .said s d
  · split
    · exact (Ebb.said s d).trans (Ebb.trans (t := kRung (kSaid s d) d.1.1) {} (hD _ _ _ _))
    · exact (Ebb.said s d).trans {}
theorem Ebb.gone1 (s : KS) (i : ID) : Ebb s (kForget { s with rt := del s.rt i } i) := { tm := List.filter_sublist, rt := List.filter_sublist }
theorem Ebb.dec : ∀ n (s : KS) (i : ID) (r v : Int), Ebb s (kDec n s i r v)
  | 0, s, _, _, _ => .refl s
  | n + 1, s, i, r, v => by
    cases hq : look s.rt i with
    | none => rw [kDec_none hq]; exact .refl s
    | some q =>
      rw [kDec_some hq]
      have h := (Ebb.gone1 s i).trans (Ebb.tell (D := kDec n) (fun s i r v => Ebb.dec n s i r v) _ (i, q.e.tag, q.e.op, r, v, false))
      unfold kNext
      split
      · exact h
      · split
        · exact h.trans (Ebb.dec n _ _ _ _)
        · exact h
theorem Ebb.ends : ∀ (l : List ID) (s : KS), Ebb s (kEnds s l)
  | [], s => .refl s
  | i :: l, s => (Ebb.dec _ _ _ _ _).trans (Ebb.ends l _)
theorem Ebb.gone (s : KS) (k u : Int) : Ebb s (kGone s k u) := by
  unfold kGone
  (repeat' split) <;> exact {}
theorem Ebb.tearL : ∀ (l : List Rq) (s : KS), Ebb s (kTearL s l)
  | [], s => .refl s
  | q :: l, s => ((Ebb.gone1 s q.id).trans (t := kForget { s with rt := del s.rt q.id } q.id) (u := kTear1 s q) { jn := List.prefix_append _ _ }).trans (Ebb.tearL l (kTear1 s q))
theorem Ebb.tear (s : KS) (g : Int) : Ebb s (kTear s g) := by
  unfold kTear
  split
  · exact (Ebb.tearL _ s).trans (Ebb.trans (t := kCleared (kTearL s (ofQ s.rt g)) g) {} (Ebb.gone _ _ _))
  · exact .refl s
theorem Ebb.torn (u : Int) : ∀ (l : List Int) (s : KS), Ebb s (kTorn s u l)
  | [], s => .refl s
  | g :: l, s => by
    refine Ebb.trans (t := tornStep u s g) ?_ (Ebb.torn u l _)
    unfold tornStep
    split
    · exact .refl s
    · split
      · exact .tear s g
      · exact .refl s
theorem Ebb.destroy (s : KS) (o : Obj2) : Ebb s (kDestroy s o) := by
  unfold kDestroy
  refine Ebb.trans ?_ (Ebb.gone _ _ _)
  split
  · exact (Ebb.ends _ _).trans (Ebb.torn _ _ _)
  · split
    · exact (Ebb.ends _ _).trans (Ebb.tear _ _)
    · exact .ends _ _
theorem Ebb.destroyL : ∀ (l : List Obj2) (s : KS), Ebb s (kDestroyL s l)
  | [], s => .refl s
  | o :: l, s => (Ebb.destroy s o).trans (Ebb.destroyL l _)
theorem Ebb.two {s : KS} {F : Place → Place → KS × Int} (hF : ∀ x y, Ebb s (F x y).1) (o : Option (Place × Place)) : Ebb s (twoS s F o).1 := by
  cases o with
  | none => exact .refl s
  | some x => exact hF _ _
theorem Ebb.kill {s : KS} {F : Place → (List (Place × SV) × List Obj2) × Int} (o : Option Place) : Ebb s (killS s F o).1 := by
  cases o with
  | none => exact .refl s
  | some x => exact Ebb.trans (t := { s with sl := (F x).1.1 }) {} (Ebb.destroyL _ _)
theorem Ebb.slots (s : KS) (T : Th) (e : Sqe) : Ebb s (kSlots s T e).1 := by
  unfold kSlots
  split
  · exact .two (fun _ _ => {}) _
  · split
    · exact .two (fun _ _ => {}) _
    · split
      · exact .two (fun _ _ => {}) _
      · split
        · exact .kill _
        · exact .kill _
theorem Ebb.made (s : KS) (c : Cap) (b : Nat) : Ebb s (kMade s c b) := by
  unfold kMade
  (repeat' split) <;> exact {}
theorem Ebb.ret (s : KS) (T : Th) (e : Sqe) (b : Nat) : Ebb s (kRetS s T e b) := by
  have h : Ebb s (twoS s (retF s e) (twoAt s T e)).1 := .two (fun _ _ => {}) _
  unfold kRetS
  split
  · exact h.trans (.made _ _ _)
  · exact h
theorem Ebb.maps (s : KS) (T : Th) (e : Sqe) : Ebb s (kMaps s T e).1 := by
  unfold kMaps
  (repeat' split) <;> exact {}
theorem Ebb.unmap (s : KS) (T : Th) (e : Sqe) : Ebb s (kUnmap s T e).1 := by
  unfold kUnmap
  (repeat' split) <;> exact {}
theorem Ebb.thrs (s : KS) (T : Th) (e : Sqe) : Ebb s (kThreads s T e).1 := by
  unfold kThreads
  split
  · exact {}
  · split
    · exact {}
    · show Ebb s (kThr s e _).1
      unfold kThr kStop kGo
      (repeat' split) <;> exact {}
theorem Ebb.bind (s : KS) (u : Int) (j : ID) : Ebb s (kBind s u j) := by
  unfold kBind
  split
  · exact {}
  · split
    · exact Ebb.trans (t := { s with rp := updO s.rp u (fun _ => (j, true)) }) {} (.dec _ _ _ _ _)
    · exact {}
theorem Ebb.sends (s : KS) (T : Th) (e : Sqe) (i : ID) (call : Bool) : Ebb s (kSends s T e i call).1 := by
  unfold kSends
  generalize (if call = true then (6 : Int) else 2) = r
  split
  · exact {}
  · unfold kSend1
    split
    · exact {}
    · rename_i y _
      obtain ⟨yb, yo, yi⟩ := y
      have h1 : Ebb s { s with ep := updO s.ep (mayS s T e 4 r).1.obj (sendE (i, e.a, (mayS s T e 4 r).1.badge, call)) } := {}
      cases yi with
      | nil => exact h1
      | cons z zs =>
        refine h1.trans ?_
        show Ebb _ (kSend3 _ _ _ _).1
        unfold kSend3
        split
        · exact .dec _ _ _ _ _
        · split
          · exact .dec _ _ _ _ _
          · exact (Ebb.dec _ _ _ _ _).trans (.bind _ _ _)
theorem Ebb.recv1 (s : KS) (c : Cap) (u : Int) (i : ID) : Ebb s (kRecv1 s c u i).1 := by
  unfold kRecv1
  split
  · exact {}
  · rename_i y _
    obtain ⟨yb, yo, yi⟩ := y
    have h1 : Ebb s { s with ep := updO s.ep c.obj (recvE (i, u)) } := {}
    cases yo with
    | nil => exact h1
    | cons z zs =>
      refine h1.trans ?_
      show Ebb _ (kMet _ _ _)
      unfold kMet
      split
      · split
        · exact .dec _ _ _ _ _
        · exact .bind _ _ _
      · exact .dec _ _ _ _ _
theorem Ebb.recvs (s : KS) (T : Th) (e : Sqe) (i : ID) : Ebb s (kRecvs s T e i).1 := by
  unfold kRecvs
  (repeat' split) <;> first | exact {} | exact .recv1 _ _ _ _
theorem Ebb.answers (s : KS) (T : Th) (e : Sqe) : Ebb s (kAnswers s T e).1 := by
  unfold kAnswers
  (repeat' split) <;> first | exact {} | exact Ebb.trans (t := { s with rp := _ }) {} (.dec _ _ _ _ _)
theorem Ebb.signals (s : KS) (T : Th) (e : Sqe) : Ebb s (kSignals s T e).1 := by
  unfold kSignals
  split
  · exact {}
  · split
    · exact {}
    · dsimp only
      split
      · exact Ebb.trans (t := { s with nt := _ }) {} (.dec _ _ _ _ _)
      · exact {}
theorem Ebb.nwaits (s : KS) (T : Th) (e : Sqe) (i : ID) : Ebb s (kNWaits s T e i).1 := by
  unfold kNWaits
  (repeat' split) <;> exact {}
theorem Ebb.cancels (s : KS) (e : Sqe) (i : ID) : Ebb s (kCancels s e i).1 := by
  unfold kCancels
  split
  · exact {}
  · exact .dec _ _ _ _ _
theorem eif {c : Prop} [Decidable c] {x y : KS × Out} {s : KS} (h1 : Ebb s x.1) (h2 : Ebb s y.1) : Ebb s (if c then x else y).1 := by
  by_cases h : c
  · rw [if_pos h]; exact h1
  · rw [if_neg h]; exact h2
theorem Ebb.does (s : KS) (T : Th) (q : Rq) (i : ID) (b : Nat) : Ebb s (kDoes s T q i b).1 :=
  eif {} <| eif (.slots _ _ _) <| eif (.ret _ _ _ _) <| eif (.maps _ _ _) <| eif (.unmap _ _ _) <| eif (.sends _ _ _ _ _) <| eif (.recvs _ _ _ _) <| eif (.answers _ _ _) <| eif (.signals _ _ _) <| eif (.nwaits _ _ _ _) <| eif (.thrs _ _ _) <| eif {} <| eif (.cancels _ _ _) {}
theorem Ebb.act (s : KS) (i : ID) (b : Nat) : Ebb s (kAct s i b).1 := by
  unfold kAct
  split
  · exact {}
  · split
    · exact {}
    · exact .does _ _ _ _ _
theorem Ebb.start (s : KS) (i : ID) (b : Nat) : ∃ r, (r = s.rt ∨ r = rtS s.rt i) ∧ Ebb { s with rt := r } (kStart s i b).1 := by
  unfold kStart
  split
  · exact ⟨s.rt, .inl rfl, .refl s⟩
  · split
    · exact ⟨s.rt, .inl rfl, .refl s⟩
    · refine ⟨rtS s.rt i, .inr rfl, ?_⟩
      have h1 := Ebb.act { s with rt := rtS s.rt i } i b
      cases hk : kAct { s with rt := rtS s.rt i } i b with
      | mk t o =>
        rw [hk] at h1
        cases o with
        | none => exact h1
        | some x => exact h1.trans (.dec _ _ _ _ _)
theorem start_tk (s : KS) (i : ID) (b : Nat) : (kStart s i b).1.tk = s.tk ∧ (kStart s i b).1.tm.Sublist s.tm := by
  obtain ⟨r, _, h⟩ := Ebb.start s i b
  exact ⟨h.tk, h.tm⟩
variable {Q : Sqe → Prop}
theorem WellQ.tell {s : KS} {N M : Nat} (h : WellQ Q s N M) (hM : M + 1 ≤ 90000) (n : Nat) (d : Deed) : WellQ Q (kTell (kDec n) s d) N (M + 1) := by
  have hf := h.fit
  have h2 : WellQ Q s N (M + 1) := ⟨⟨hf.n, hM, hf.ids, Nat.le_succ_of_le hf.jn, hf.tm, hf.ep, hf.nt, hf.rp, fun x hx => ⟨(hf.rg x hx).1, Nat.le_succ_of_le (hf.rg x hx).2⟩, hf.mem⟩, h.q, h.mp, h.sl, h.rg, h.tree, h.marks, h.thr, h.ent, h.rtk⟩
  have hk := Kept.tell (D := kDec n) (fun s i r v => Kept.dec n s i r v) s d
  exact h2.ended (hf.tell (D := kDec n) (fun s i r v h => Fits.dec n h) hM d).1 (by rw [hk.q]; exact Nat.le_refl _) (by rw [hk.mp]; exact Nat.le_refl _) hk.sl hk.mr (by rw [tell_th (fun s i r v => dec_th n s i r v)]; exact List.Sublist.refl _) (by rw [tell_rglen (fun s i r v => dec_rglen n s i r v)]; exact Nat.le_refl _) (Ebb.tell (fun s i r v => Ebb.dec n s i r v) s d).rt
end Go.Pse
