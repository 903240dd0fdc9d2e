/-
  A request waits nowhere any more.
-/
import Derived.Test.YthjbhkaokjdhmaaGreatC24
namespace Go.Pse
open Go.RowKit Go.Proofs

set_option maxRecDepth 100000 in
set_option maxHeartbeats 4000000 in
theorem coForget {E : World} {l m : List As}{p : Nat} {s : KS} (hp : Pick (coA p s) l m) {i : ID} {N M : Nat} (hF : Fits s N M) :
  Con Tryz.prog 39 #[.pointer (some ⟨p, 0, none⟩), .agg (encI i).toArray] E l (fun _ : Unit => .tuple #[]) (fun _ => coA p (kForget s i) :: m) := by
 refine Con.body (vs := [.pointer (some ⟨p, 0, none⟩), .agg (encI i).toArray]) (n := 40) Tryz.func39 rfl rfl [(0, .pointer (some ⟨p, 0, none⟩)), (1, .agg (encI i).toArray)] (env_ok 2 rfl) <| J_pick hp <| sr <| L_op <| x_box rfl rfl rfl fun b3 => nq <| J_seq <| J_drawL (some 3) mixed ?_
 refine ip 0 rfl rfl rfl rfl (p_move rfl) <| iv 2 rfl rfl rfl rfl (fun _ => v_loadA rfl ty36 HS CT) ?_
 refine i1 1 rfl <| x_call Tryz.func22 nm22 bd22 (.cons rfl .nil) rfl (coTimers) fun _ => i1 3 rfl <| x_call Tryz.func47 nm47 bd47 (.cons rfl (.cons rfl .nil)) rfl (coTmDrop (s := s) (i := i) PC (by have := hF.tm; have := hF.n; omega)) fun _ => ?_
 refine J_pick (A := coA p _) PC ?_
 refine J_asTo (B := coA p (forTo s i ((1 : Nat) : Int))) (by rw [show ((1 : Nat) : Int) = 1 from rfl, forTo_one hF]) <| i0 <| qx <| ag rfl rfl <| nq <| J_block <| J_loop (α := Nat) (fun k => 1 ≤ k ∧ k ≤ 65) (fun k => coA p (forTo s i (k : Int)) :: blk b3 36 (encI i) :: m) (fun k => [(4, .int .i64 (k : Int)), (0, .pointer (some ⟨p, 0, none⟩)), (3, .pointer (some ⟨b3, 0, none⟩))]) (fun k => 65 - k) 1 (by omega) SU KE ?_
 intro k hk
 refine J_seq <| sr <| mv rfl rfl <| L_pur rfl (p_leq rfl rfl) <| nq ?_
 refine C_dec rfl (fun h13 => ?_) (fun h13 => ?_)
 ·
  have hF2 := hF.forTo i (k : Int)
  have hNN := hF.n
  refine J_skip <| Q_then <| J_seq <| J_block ?_
  refine J_cut (α := Unit) (fun _ : Unit => coA p { forTo s i (k : Int) with ep := mapTo (epD i) ((k : Int) + 1) s.ep } :: blk b3 36 (encI i) :: m) (fun _ : Unit => [(4, .int .i64 (k : Int)), (0, .pointer (some ⟨p, 0, none⟩)), (3, .pointer (some ⟨b3, 0, none⟩))]) ?_ ?_
  ·
   refine sr <| mv rfl rfl <| mv rfl rfl <| L_op <| x_call Tryz.func28 nm28 bd28 (.cons rfl (.cons rfl .nil)) rfl (coEp (s := (forTo s i (k : Int))) (u := (k : Int)) PC) fun _ => ?_
   refine J_slot (t := 18) (v := .pointer ((look (ptrs (KS.ep (forTo s i (k : Int)))) (k : Int)).map fun b => ⟨b, 0, none⟩)) rfl rfl <| ag rfl rfl <| nx <| mv rfl rfl <| L_pur rfl (p_neNilPtr Tryz.underlying73 rfl) <| nq ?_
   refine C_split rfl (fun h20 => ?_) (fun h20 => ?_)
   ·
    obtain ⟨b, hb⟩ : ∃ b, look (ptrs (KS.ep (forTo s i (k : Int)))) (k : Int) = some b := by
     cases hq : look (ptrs (KS.ep (forTo s i (k : Int)))) (k : Int) with
     | none => rw [hq] at h20; simp at h20
     | some b => exact ⟨b, rfl⟩
    obtain ⟨⟨ob1, ob2⟩, hob⟩ := look_got hb
    have hb1 : ob1.length ≤ N := (hF2.ep _ (mem_look hob)).2.1
    have hb2 : ob2.length ≤ N := (hF2.ep _ (mem_look hob)).2.2
    refine J_region <| mv rfl rfl <| J_slot (t := 21) (v := .pointer (some ⟨b, 0, none⟩)) rfl (by rw [hb]; rfl) <| L_val rfl (v_loadA rfl ty36 HS CT) ?_
    refine L_op <| x_call Tryz.func62 nm62 bd62 (.cons rfl (.cons rfl .nil)) rfl (coEpDrop (s := (forTo s i (k : Int))) (u := (k : Int)) PC hob (by omega) (by omega)) fun _ => ?_
    refine nq <| J_pick (A := coA p _) PC ?_
    refine J_asTo (B := coA p { forTo s i (k : Int) with ep := mapTo (epD i) ((k : Int) + 1) s.ep }) (by unfold forTo; simp only [mapTo_up]) ?_
    exact J_at (L := (fun _ : Unit => coA p { forTo s i (k : Int) with ep := mapTo (epD i) ((k : Int) + 1) s.ep } :: blk b3 36 (encI i) :: m)) (G := (fun _ : Unit => [(4, .int .i64 (k : Int)), (0, .pointer (some ⟨p, 0, none⟩)), (3, .pointer (some ⟨b3, 0, none⟩))])) () SU KE
   ·
    have hno : look (ptrs s.ep) (k : Int) = none := by
     rw [← ptrs_mapTo (f := epD i) (k := (k : Int))]
     cases hq : look (ptrs (mapTo (epD i) (k : Int) s.ep)) (k : Int) with
     | none => rfl
     | some b => rw [show look (ptrs (KS.ep (forTo s i (k : Int)))) (k : Int) = _ from hq] at h20; simp at h20
    refine J_skip <| Q_then <| J_pick (A := coA p _) PC ?_
    refine J_asTo (B := coA p { forTo s i (k : Int) with ep := mapTo (epD i) ((k : Int) + 1) s.ep }) (by unfold forTo; simp only [mapTo_no (f := epD i) hno]) ?_
    exact J_at (L := (fun _ : Unit => coA p { forTo s i (k : Int) with ep := mapTo (epD i) ((k : Int) + 1) s.ep } :: blk b3 36 (encI i) :: m)) (G := (fun _ : Unit => [(4, .int .i64 (k : Int)), (0, .pointer (some ⟨p, 0, none⟩)), (3, .pointer (some ⟨b3, 0, none⟩))])) () SU KE
  ·
   intro _
   refine J_cut (α := Unit) (fun _ : Unit => coA p { forTo s i (k : Int) with ep := mapTo (epD i) ((k : Int) + 1) s.ep, nt := mapTo (ntD i) ((k : Int) + 1) s.nt } :: blk b3 36 (encI i) :: m) (fun _ : Unit => [(4, .int .i64 (k : Int)), (0, .pointer (some ⟨p, 0, none⟩)), (3, .pointer (some ⟨b3, 0, none⟩))]) ?_ ?_
   ·
    refine sr <| mv rfl rfl <| mv rfl rfl <| L_op <| x_call Tryz.func19 nm19 bd19 (.cons rfl (.cons rfl .nil)) rfl (coNotif (s := { forTo s i (k : Int) with ep := mapTo (epD i) ((k : Int) + 1) s.ep }) (u := (k : Int)) PC) fun _ => ?_
    refine J_slot (t := 26) (v := .pointer ((look (ptrs (KS.nt { forTo s i (k : Int) with ep := mapTo (epD i) ((k : Int) + 1) s.ep })) (k : Int)).map fun b => ⟨b, 0, none⟩)) rfl rfl <| ag rfl rfl <| nx <| mv rfl rfl <| L_pur rfl (p_neNilPtr Tryz.underlying54 rfl) <| nq ?_
    refine C_split rfl (fun h28 => ?_) (fun h28 => ?_)
    ·
     obtain ⟨b, hb⟩ : ∃ b, look (ptrs (KS.nt { forTo s i (k : Int) with ep := mapTo (epD i) ((k : Int) + 1) s.ep })) (k : Int) = some b := by
      cases hq : look (ptrs (KS.nt { forTo s i (k : Int) with ep := mapTo (epD i) ((k : Int) + 1) s.ep })) (k : Int) with
      | none => rw [hq] at h28; simp at h28
      | some b => exact ⟨b, rfl⟩
     obtain ⟨⟨ob1, ob2⟩, hob⟩ := look_got hb
     have hb2 : ob2.length ≤ N := (hF2.nt _ (mem_look hob)).2
     refine J_region <| mv rfl rfl <| J_slot (t := 29) (v := .pointer (some ⟨b, 0, none⟩)) rfl (by rw [hb]; rfl) <| L_val rfl (v_loadA rfl ty36 HS CT) ?_
     refine L_op <| x_call Tryz.func63 nm63 bd63 (.cons rfl (.cons rfl .nil)) rfl (coNtDrop (s := { forTo s i (k : Int) with ep := mapTo (epD i) ((k : Int) + 1) s.ep }) (u := (k : Int)) PC hob (by omega)) fun _ => ?_
     refine nq <| J_pick (A := coA p _) PC ?_
     refine J_asTo (B := coA p { forTo s i (k : Int) with ep := mapTo (epD i) ((k : Int) + 1) s.ep, nt := mapTo (ntD i) ((k : Int) + 1) s.nt }) (by unfold forTo; simp only [mapTo_up]) ?_
     exact J_at (L := (fun _ : Unit => coA p { forTo s i (k : Int) with ep := mapTo (epD i) ((k : Int) + 1) s.ep, nt := mapTo (ntD i) ((k : Int) + 1) s.nt } :: blk b3 36 (encI i) :: m)) (G := (fun _ : Unit => [(4, .int .i64 (k : Int)), (0, .pointer (some ⟨p, 0, none⟩)), (3, .pointer (some ⟨b3, 0, none⟩))])) () SU KE
    ·
     have hno : look (ptrs s.nt) (k : Int) = none := by
      rw [← ptrs_mapTo (f := ntD i) (k := (k : Int))]
      cases hq : look (ptrs (mapTo (ntD i) (k : Int) s.nt)) (k : Int) with
      | none => rfl
      | some b => rw [show look (ptrs (KS.nt { forTo s i (k : Int) with ep := mapTo (epD i) ((k : Int) + 1) s.ep })) (k : Int) = _ from hq] at h28; simp at h28
     refine J_skip <| Q_then <| J_pick (A := coA p _) PC ?_
     refine J_asTo (B := coA p { forTo s i (k : Int) with ep := mapTo (epD i) ((k : Int) + 1) s.ep, nt := mapTo (ntD i) ((k : Int) + 1) s.nt }) (by unfold forTo; simp only [mapTo_no (f := ntD i) hno]) ?_
     exact J_at (L := (fun _ : Unit => coA p { forTo s i (k : Int) with ep := mapTo (epD i) ((k : Int) + 1) s.ep, nt := mapTo (ntD i) ((k : Int) + 1) s.nt } :: blk b3 36 (encI i) :: m)) (G := (fun _ : Unit => [(4, .int .i64 (k : Int)), (0, .pointer (some ⟨p, 0, none⟩)), (3, .pointer (some ⟨b3, 0, none⟩))])) () SU KE
   ·
    intro _
    refine sr <| mv rfl rfl <| mv rfl rfl <| L_op <| x_call Tryz.func27 nm27 bd27 (.cons rfl (.cons rfl .nil)) rfl (coReply (s := { forTo s i (k : Int) with ep := mapTo (epD i) ((k : Int) + 1) s.ep, nt := mapTo (ntD i) ((k : Int) + 1) s.nt }) (u := (k : Int)) PC) fun _ => ?_
    refine J_slot (t := 34) (v := .pointer ((look (ptrs (KS.rp { forTo s i (k : Int) with ep := mapTo (epD i) ((k : Int) + 1) s.ep, nt := mapTo (ntD i) ((k : Int) + 1) s.nt })) (k : Int)).map fun b => ⟨b, 0, none⟩)) rfl rfl <| ag rfl rfl <| nx <| mv rfl rfl <| L_pur rfl (p_neNilPtr Tryz.underlying68 rfl) <| nq ?_
    refine C_split rfl (fun h36 => ?_) (fun h36 => ?_)
    ·
     obtain ⟨b, hb⟩ : ∃ b, look (ptrs (KS.rp { forTo s i (k : Int) with ep := mapTo (epD i) ((k : Int) + 1) s.ep, nt := mapTo (ntD i) ((k : Int) + 1) s.nt })) (k : Int) = some b := by
      cases hq : look (ptrs (KS.rp { forTo s i (k : Int) with ep := mapTo (epD i) ((k : Int) + 1) s.ep, nt := mapTo (ntD i) ((k : Int) + 1) s.nt })) (k : Int) with
      | none => rw [hq] at h36; simp at h36
      | some b => exact ⟨b, rfl⟩
     obtain ⟨ob, hob⟩ := look_got hb
     refine J_region <| mv rfl rfl <| J_slot (t := 37) (v := .pointer (some ⟨b, 0, none⟩)) rfl (by rw [hb]; rfl) <| L_val rfl (v_loadA rfl ty36 HS CT) ?_
     refine L_op <| x_call Tryz.func64 nm64 bd64 (.cons rfl (.cons rfl .nil)) rfl (coRpDrop (s := { forTo s i (k : Int) with ep := mapTo (epD i) ((k : Int) + 1) s.ep, nt := mapTo (ntD i) ((k : Int) + 1) s.nt }) (u := (k : Int)) PC hob) fun _ => ?_
     refine L_nil <| Q_blk_normal <| qr <| mv rfl rfl <| L_pur rfl (p_add64 rfl rfl (by omega)) <| ag rfl rfl <| nq <| J_pick (A := coA p _) PC ?_
     refine J_asTo (B := coA p (forTo s i ((k + 1 : Nat) : Int))) (by unfold forTo; simp only [mapTo_up]; push_cast; rfl) ?_
     exact J_again (k + 1) (by omega) (by omega) SU KE
    ·
     have hno : look (ptrs s.rp) (k : Int) = none := by
      rw [← ptrs_mapTo (f := rpD i) (k := (k : Int))]
      cases hq : look (ptrs (mapTo (rpD i) (k : Int) s.rp)) (k : Int) with
      | none => rfl
      | some b => rw [show look (ptrs (KS.rp { forTo s i (k : Int) with ep := mapTo (epD i) ((k : Int) + 1) s.ep, nt := mapTo (ntD i) ((k : Int) + 1) s.nt })) (k : Int) = _ from hq] at h36; simp at h36
     refine J_skip <| Q_blk_normal <| qr <| mv rfl rfl <| L_pur rfl (p_add64 rfl rfl (by omega)) <| ag rfl rfl <| nq <| J_pick (A := coA p _) PC ?_
     refine J_asTo (B := coA p (forTo s i ((k + 1 : Nat) : Int))) (by unfold forTo; simp only [mapTo_no (f := rpD i) hno]; push_cast; rfl) ?_
     exact J_again (k + 1) (by omega) (by omega) SU KE
 ·
  have hk65 : k = 65 := by omega
  subst hk65
  refine J_pick (A := coA p _) PC ?_
  refine J_asTo (B := coA p (kForget s i)) (by rw [show ((65 : Nat) : Int) = 65 from rfl, forTo_all hF]) <| J_exit <| Q_then_exit <| Q_then_exit <| Q_blk_this <| J_endnormal ?_
  exact J_return (()) Tryz.results39 .nil rfl SU

end Go.Pse
