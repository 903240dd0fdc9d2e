/-
  Whether all is right, where nobody waits: contracts.
-/
import Derived.Test.YthjgdlhkdjgjpaaGreatC41
namespace Go.Pse
open Go.RowKit Go.Proofs

/-! ### plain: capabilities that are right; nobody waits -/
structure SlRight (sl : List (Place × SV)) : Prop where
  one : ∀ p ∈ sl.map Prod.fst, checkC ((look sl p).getD s0).1 = true ∧ ((look sl p).getD s0).2 = (0, 0)
  apart : ∀ p ∈ sl.map Prod.fst, ∀ q ∈ sl.map Prod.fst, ((look sl p).getD s0).1.obj = ((look sl q).getD s0).1.obj → ((look sl p).getD s0).1.kind = ((look sl q).getD s0).1.kind
def slRightB (sl : List (Place × SV)) : Bool := sl.all fun e => checkC e.2.1 && decide (e.2.2 = (0, 0)) && sl.all fun e' => !decide (e.2.1.obj = e'.2.1.obj) || decide (e.2.1.kind = e'.2.1.kind)
theorem slRight_of {sl : List (Place × SV)} (h : slRightB sl = true) : SlRight sl := by
  have h4 := List.all_eq_true.1 h
  refine ⟨fun p hp => ?_, fun p hp p' hp' => ?_⟩
  · obtain ⟨u, hu, hm⟩ := key_look hp
    have := h4 _ hm
    simp only [Bool.and_eq_true, decide_eq_true_eq] at this
    rw [hu]; exact this.1
  · obtain ⟨u, hu, hm⟩ := key_look hp
    obtain ⟨u', hu', hm'⟩ := key_look hp'
    have := h4 _ hm
    simp only [Bool.and_eq_true, decide_eq_true_eq] at this
    have := List.all_eq_true.1 this.2 _ hm'
    simp only [Bool.or_eq_true, decide_eq_true_eq, Bool.not_eq_true', decide_eq_false_iff_not] at this
    rw [hu, hu']
    intro ho
    rcases this with h | h
    · exact absurd ho h
    · exact h
/-- What the map of kinds holds: kinds of capabilities that are there. -/
def Kinds (sl : List (Place × SV)) (km : List (Int × Int)) : Prop := ∀ o k, look km o = some k → ∃ q ∈ sl.map Prod.fst, ((look sl q).getD s0).1.obj = o ∧ ((look sl q).getD s0).1.kind = k
theorem Kinds.nil (sl : List (Place × SV)) : Kinds sl [] := fun _ _ h => by cases h
theorem Kinds.ins {sl : List (Place × SV)} {km : List (Int × Int)} (h : Kinds sl km) {c : Place} (hc : c ∈ sl.map Prod.fst) : Kinds sl (ins km ((look sl c).getD s0).1.obj ((look sl c).getD s0).1.kind) := fun o k hk => by
  rw [look_ins] at hk
  split at hk
  · rename_i ho
    exact ⟨c, hc, ho, Option.some.inj hk⟩
  · exact h o k hk
structure Idle (s : KS) : Prop where
  ep : ∀ x ∈ s.ep, x.2.2 = ([], [])
  nt : ∀ x ∈ s.nt, x.2.2.2 = []
  rp : ∀ x ∈ s.rp, x.2.2.2 = false
  tm : s.tm = []
  rt : s.rt = []
theorem ofQ_nil (g : Int) : ofQ [] g = [] := List.length_eq_zero_iff.1 (Nat.le_zero.1 (ofQ_len [] g))
theorem sortP_mem {xs : List (Int × Int)} {a : Int × Int} : a ∈ sortP xs ↔ a ∈ xs := sortF_mem
set_option maxRecDepth 100000 in
set_option maxHeartbeats 4000000 in
theorem coAuSlots {E : World} {l m : List As} {p : Nat} {s : KS} (hp : Pick (coA p s) l m) (hR : SlRight s.sl) (hb : s.sl.length ≤ 1000000) :
  Con Tryz.prog 40 #[.pointer (some ⟨p, 0, none⟩)] E l (fun _ : Unit => .bool true) (fun _ => coA p s :: m) := by
 refine Con.body (vs := [.pointer (some ⟨p, 0, none⟩)]) (n := 74) Tryz.func40 rfl rfl [(0, .pointer (some ⟨p, 0, none⟩))] (env_ok 1 rfl) <| J_pick hp <| sr <| ag rfl rfl <| nx <| mv rfl rfl <| L_op <| x_call Tryz.func14 nm14 bd14 (.cons rfl .nil) rfl (coSlots) fun _ => ?_
 refine ag rfl rfl <| nx <| L_op <| x_makeMap (ek := kZ) (ev := evZ) rfl fun b16 => ag rfl rfl <| nxx <| mv rfl rfl <| L_op <| x_call Tryz.func59 nm59 bd59 (.cons rfl .nil) rfl (coSlAll (s := s) PC hb) ?_
 refine JR fun a18 c18 hw18 hl18 hm18 hz18 => ?_
 obtain ⟨xs, hxs⟩ : ∃ xs, xs = sortP (s.sl.map Prod.fst) := ⟨_, rfl⟩
 refine J_pick (A := row 129 2 _ _) PC ?_
 refine J_rowTo (ys := xs.map encI) (v' := .slice a18 (xs.map encI).length c18) (by rw [hxs]) (by rw [hxs]) <| J_slot (t := 18) (v := .slice a18 (xs.map encI).length c18) rfl (by rw [hxs]) ?_
 rw [← hxs] at hz18
 have hmcap : c18 ≤ 9223372036854775807 := hm18
 have hml : (xs.map encI).length = xs.length := List.length_map _
 have hxl : xs.length ≤ 1000000 := by rw [hxs, sortP_len, List.length_map]; exact hb
 have hmem : ∀ c ∈ xs, c ∈ s.sl.map Prod.fst := fun c hc => by rw [hxs] at hc; exact sortP_mem.1 hc
 refine L_pur rfl (p_len rfl Tryz.underlying178) <| mv rfl rfl <| nq <| J_block <| J_loop2 (fun i km => i ≤ xs.length ∧ Kinds s.sl km) (fun i km => mapV kZ evZ (.map (some b16)) km :: row 129 2 (.slice a18 (xs.map encI).length c18) (xs.map encI) :: coA p s :: m) (fun i km => [(20, .int .i64 (i : Int)), (18, .slice a18 (xs.map encI).length c18), (19, .int .i64 ((xs.map encI).length : Int)), (3, .pointer (some ⟨p, 6, none⟩)), (4, .map (some b16)), (0, .pointer (some ⟨p, 0, none⟩))]) (fun i km => xs.length - i) 0 [] ⟨by omega, Kinds.nil _⟩ SU KE ?_
 intro i km hi
 obtain ⟨hi, hkm⟩ := hi
 refine sr <| L_pur rfl (p_lss rfl rfl) <| nq <| J_seq ?_
 refine C_dec rfl (fun h21 => ?_) (fun h21 => ?_)
 ·
  have hlt : i < xs.length := by omega
  obtain ⟨bx, ox, rfl⟩ := hz18 (by intro h; rw [h] at hml; simp at hml; omega)
  obtain ⟨c, hcc⟩ : ∃ c, xs[i]? = some c := ⟨_, List.getElem?_eq_getElem hlt⟩
  have hck := hmem c (List.mem_of_getElem? hcc)
  obtain ⟨ho1, ho2⟩ := hR.one c hck
  refine J_skip <| Q_then <| J_seq <| J_block <| sr <| L_pur rfl (p_indexAddr rfl rfl Tryz.underlying178 ty129 (by omega) (by omega)) ?_
  refine L_val rfl (v_loadE rfl ty129 HS (by first | (simp only [Int.toNat_natCast, List.getElem?_map, hcc]; rfl) | (simp only [Int.toNat_natCast, List.getElem?_map, hcd]; rfl) | simp | rfl)) ?_
  refine L_op <| x_alloc ty129 rfl fun b6 => L_op <| x_store rfl rfl ty129 rfl SM SM RO PT ?_
  refine J_pick (A := blk b6 _ _) PC ?_
  refine J_asTo (B := blk b6 129 (encI c)) (by rfl) <| nx <| mv rfl rfl <| L_val rfl (v_loadA rfl ty129 HS CT) ?_
  refine L_op <| x_call Tryz.func32 nm32 bd32 (.cons rfl (.cons rfl .nil)) rfl (coSlGet (s := s) (a := c) PC) fun _ => ?_
  refine mv rfl rfl <| L_pur rfl (p_extract rfl rfl) <| L_pur rfl (p_extract rfl rfl) <| L_op <| x_alloc ty119 rfl fun b7 => L_op <| x_store rfl rfl ty119 rfl SM SM RO PT ?_
  refine J_pick (A := blk b7 _ _) PC ?_
  refine J_asTo (B := blk b7 119 (encC ((look s.sl c).getD s0).1)) (by rfl) <| ag rfl rfl <| nx <| mv rfl rfl <| L_val rfl (v_loadA rfl ty129 HS CT) ?_
  refine L_op <| x_call Tryz.func60 nm60 bd60 (.cons rfl (.cons rfl .nil)) rfl (coSlPar (s := s) (a := c) PC) fun _ => ?_
  refine J_slot (t := 32) (v := .agg (encI (0, 0)).toArray) rfl (by rw [ho2]) <| L_op <| x_alloc ty129 rfl fun b9 => L_op <| x_store rfl rfl ty129 rfl SM SM RO PT ?_
  refine J_pick (A := blk b9 _ _) PC ?_
  refine J_asTo (B := blk b9 129 (encI (0, 0))) (by rfl) <| nxx <| mv rfl rfl <| L_val rfl (v_loadA rfl ty129 HS CT) ?_
  refine L_op <| x_call Tryz.func32 nm32 bd32 (.cons rfl (.cons rfl .nil)) rfl (coSlGet (s := s) (a := (0, 0)) PC) fun _ => ?_
  refine mv rfl rfl <| L_pur rfl (p_extract rfl rfl) <| L_pur rfl (p_extract rfl rfl) <| L_op <| x_alloc ty119 rfl fun b10 => L_op <| x_store rfl rfl ty119 rfl SM SM RO PT ?_
  refine ag rfl rfl <| nx <| mv rfl rfl <| L_pur rfl (p_not rfl) <| mv rfl rfl ?_
  refine J_gsplit (t := 41) rfl (fun h41 => ?_) (fun h41 => ?_)
  ·
   refine L_op <| G_on rfl rfl rfl <| J_val (v_loadA rfl ty129 HS CT) rfl rfl rfl ?_
   refine L_op <| G_on rfl rfl rfl <| J_pur (bld129 .nil (by repeat constructor)) rfl rfl rfl <| L_op <| G_on rfl rfl rfl <| J_pur (p_nev rfl rfl (fun w => eg129 _ _ _ _ _ w) (fun w => nev129 _ _ _ _ w)) rfl rfl rfl <| J_bool (t := 44) (c := false) rfl (by simp [encI]) <| L_pur rfl (p_pick_t rfl rfl) ?_
   refine mv rfl rfl <| J_bool (t := 46) (c := false) rfl (rfl) <| L_op <| G_on rfl rfl rfl <| J_val (v_loadA rfl ty119 HS CT) rfl rfl rfl ?_
   refine L_op <| G_on rfl rfl rfl <| x_call Tryz.func61 nm61 bd61 (.cons rfl .nil) rfl (cCheck) fun _ => J_bool (t := 48) (c := true) rfl (by rw [ho1]) <| L_op <| G_on rfl rfl rfl <| J_pur (p_not rfl) rfl rfl rfl <| L_pur rfl (p_pick_f rfl rfl) ?_
   refine nq <| J_bool (t := 50) (c := false) rfl (rfl) <| C_false rfl <| J_skip <| Q_then <| J_seq <| sr <| fa rfl rfl fa119_0 ?_
   refine L_val rfl (v_load rfl ty3 HS (by exact rfl)) ?_
   refine L_pur rfl (p_eql rfl rfl) <| nq ?_
   refine C_dec rfl (fun h53 => ?_) (fun h53 => ?_)
   ·
    refine J_exit <| Q_then_exit <| Q_blk_this <| qr <| L_pur rfl (p_add64 rfl rfl (by omega)) <| mv rfl rfl <| nq ?_
    
    exact J_again2 (i + 1) km (by omega) (⟨by omega, hkm⟩) SU KE
   ·
    refine J_skip <| Q_then <| J_seq <| sr <| mv rfl rfl <| fa rfl rfl fa119_1 <| L_val rfl (v_load rfl ty3 HS (by exact rfl)) ?_
    refine L_val rfl (v_lookOk (ek := kZ) (ev := evZ) (a := ((look s.sl c).getD s0).1.obj) rfl rfl ky3 Tryz.underlying67 zv3 HS) ?_
    refine J_slot (t := 58) (v := .tuple #[.int .i64 ((look km ((look s.sl c).getD s0).1.obj).getD 0), .bool (look km ((look s.sl c).getD s0).1.obj).isSome]) rfl (by cases look km ((look s.sl c).getD s0).1.obj <;> rfl) <| mv rfl rfl <| L_pur rfl (p_extract rfl rfl) <| L_pur rfl (p_extract rfl rfl) <| ag rfl rfl <| ag rfl rfl <| nx <| mv rfl rfl ?_
    refine mv rfl rfl ?_
    refine J_gsplit (t := 62) rfl (fun h62 => ?_) (fun h62 => ?_)
    ·
     obtain ⟨kk, hkk⟩ : ∃ kk, look km ((look s.sl c).getD s0).1.obj = some kk := by
      cases hz : look km ((look s.sl c).getD s0).1.obj with
      | none => rw [hz] at h62; simp at h62
      | some kk => exact ⟨kk, rfl⟩
     obtain ⟨q, hq1, hq2, hq3⟩ := hkm _ _ hkk
     have hap := hR.apart q hq1 c hck hq2
     refine L_op <| G_on rfl rfl rfl <| J_pur (p_move rfl) rfl rfl rfl <| L_op <| G_on rfl rfl rfl <| J_pur (p_fieldAddr rfl fa119_0) rfl rfl rfl <| L_op <| G_on rfl rfl rfl ?_
     refine J_val (v_load rfl ty3 HS (by exact rfl)) rfl rfl rfl ?_
     refine L_op <| G_on rfl rfl rfl <| J_pur (p_neq rfl rfl) rfl rfl rfl <| J_bool (t := 66) (c := false) rfl (by rw [hkk]; simp; rw [← hq3, hap]) <| L_pur rfl (p_pick_t rfl rfl) <| nq <| J_bool (t := 67) (c := false) rfl (rfl) <| C_false rfl ?_
     refine J_skip <| qr <| mv rfl rfl <| fa rfl rfl fa119_1 <| L_val rfl (v_load rfl ty3 HS (by exact rfl)) ?_
     refine fa rfl rfl fa119_0 <| L_val rfl (v_load rfl ty3 HS (by exact rfl)) ?_
     refine L_op <| x_mapUpdate (ek := kZ) (ev := evZ) (a := ((look s.sl c).getD s0).1.obj) (c := ((look s.sl c).getD s0).1.kind) rfl rfl rfl ky3 Tryz.underlying67 PC ?_
     refine L_nil <| Q_blk_normal <| qr <| L_pur rfl (p_add64 rfl rfl (by omega)) <| mv rfl rfl <| nq ?_
     
     exact J_again2 (i + 1) (ins km ((look s.sl c).getD s0).1.obj ((look s.sl c).getD s0).1.kind) (by omega) (⟨by omega, hkm.ins hck⟩) SU KE
    ·
     refine L_op <| G_off rfl rfl rfl rfl rfl rfl <| L_op <| G_off rfl rfl rfl rfl rfl rfl <| L_op <| G_off rfl rfl rfl rfl rfl rfl <| L_op <| G_off rfl rfl rfl rfl rfl rfl ?_
     refine L_pur rfl (p_pick_f rfl rfl) <| nq <| C_false rfl <| J_skip <| qr <| mv rfl rfl <| fa rfl rfl fa119_1 <| L_val rfl (v_load rfl ty3 HS (by exact rfl)) ?_
     refine fa rfl rfl fa119_0 <| L_val rfl (v_load rfl ty3 HS (by exact rfl)) ?_
     refine L_op <| x_mapUpdate (ek := kZ) (ev := evZ) (a := ((look s.sl c).getD s0).1.obj) (c := ((look s.sl c).getD s0).1.kind) rfl rfl rfl ky3 Tryz.underlying67 PC ?_
     refine L_nil <| Q_blk_normal <| qr <| L_pur rfl (p_add64 rfl rfl (by omega)) <| mv rfl rfl <| nq ?_
     
     exact J_again2 (i + 1) (ins km ((look s.sl c).getD s0).1.obj ((look s.sl c).getD s0).1.kind) (by omega) (⟨by omega, hkm.ins hck⟩) SU KE
  ·
   refine L_op <| G_off rfl rfl rfl rfl rfl rfl <| L_op <| G_off rfl rfl rfl rfl rfl rfl <| L_op <| G_off rfl rfl rfl rfl rfl rfl <| L_pur rfl (p_pick_f rfl rfl) <| mv rfl rfl ?_
   refine L_op <| G_on rfl rfl rfl <| J_val (v_loadA rfl ty119 HS CT) rfl rfl rfl ?_
   refine L_op <| G_on rfl rfl rfl <| x_call Tryz.func61 nm61 bd61 (.cons rfl .nil) rfl (cCheck) fun _ => J_bool (t := 48) (c := true) rfl (by rw [ho1]) <| L_op <| G_on rfl rfl rfl <| J_pur (p_not rfl) rfl rfl rfl <| L_pur rfl (p_pick_f rfl rfl) ?_
   refine nq <| J_bool (t := 50) (c := false) rfl (rfl) <| C_false rfl <| J_skip <| Q_then <| J_seq <| sr <| fa rfl rfl fa119_0 ?_
   refine L_val rfl (v_load rfl ty3 HS (by exact rfl)) ?_
   refine L_pur rfl (p_eql rfl rfl) <| nq ?_
   refine C_dec rfl (fun h53 => ?_) (fun h53 => ?_)
   ·
    refine J_exit <| Q_then_exit <| Q_blk_this <| qr <| L_pur rfl (p_add64 rfl rfl (by omega)) <| mv rfl rfl <| nq ?_
    
    exact J_again2 (i + 1) km (by omega) (⟨by omega, hkm⟩) SU KE
   ·
    refine J_skip <| Q_then <| J_seq <| sr <| mv rfl rfl <| fa rfl rfl fa119_1 <| L_val rfl (v_load rfl ty3 HS (by exact rfl)) ?_
    refine L_val rfl (v_lookOk (ek := kZ) (ev := evZ) (a := ((look s.sl c).getD s0).1.obj) rfl rfl ky3 Tryz.underlying67 zv3 HS) ?_
    refine J_slot (t := 58) (v := .tuple #[.int .i64 ((look km ((look s.sl c).getD s0).1.obj).getD 0), .bool (look km ((look s.sl c).getD s0).1.obj).isSome]) rfl (by cases look km ((look s.sl c).getD s0).1.obj <;> rfl) <| mv rfl rfl <| L_pur rfl (p_extract rfl rfl) <| L_pur rfl (p_extract rfl rfl) <| ag rfl rfl <| ag rfl rfl <| nx <| mv rfl rfl ?_
    refine mv rfl rfl ?_
    refine J_gsplit (t := 62) rfl (fun h62 => ?_) (fun h62 => ?_)
    ·
     obtain ⟨kk, hkk⟩ : ∃ kk, look km ((look s.sl c).getD s0).1.obj = some kk := by
      cases hz : look km ((look s.sl c).getD s0).1.obj with
      | none => rw [hz] at h62; simp at h62
      | some kk => exact ⟨kk, rfl⟩
     obtain ⟨q, hq1, hq2, hq3⟩ := hkm _ _ hkk
     have hap := hR.apart q hq1 c hck hq2
     refine L_op <| G_on rfl rfl rfl <| J_pur (p_move rfl) rfl rfl rfl <| L_op <| G_on rfl rfl rfl <| J_pur (p_fieldAddr rfl fa119_0) rfl rfl rfl <| L_op <| G_on rfl rfl rfl ?_
     refine J_val (v_load rfl ty3 HS (by exact rfl)) rfl rfl rfl ?_
     refine L_op <| G_on rfl rfl rfl <| J_pur (p_neq rfl rfl) rfl rfl rfl <| J_bool (t := 66) (c := false) rfl (by rw [hkk]; simp; rw [← hq3, hap]) <| L_pur rfl (p_pick_t rfl rfl) <| nq <| J_bool (t := 67) (c := false) rfl (rfl) <| C_false rfl ?_
     refine J_skip <| qr <| mv rfl rfl <| fa rfl rfl fa119_1 <| L_val rfl (v_load rfl ty3 HS (by exact rfl)) ?_
     refine fa rfl rfl fa119_0 <| L_val rfl (v_load rfl ty3 HS (by exact rfl)) ?_
     refine L_op <| x_mapUpdate (ek := kZ) (ev := evZ) (a := ((look s.sl c).getD s0).1.obj) (c := ((look s.sl c).getD s0).1.kind) rfl rfl rfl ky3 Tryz.underlying67 PC ?_
     refine L_nil <| Q_blk_normal <| qr <| L_pur rfl (p_add64 rfl rfl (by omega)) <| mv rfl rfl <| nq ?_
     
     exact J_again2 (i + 1) (ins km ((look s.sl c).getD s0).1.obj ((look s.sl c).getD s0).1.kind) (by omega) (⟨by omega, hkm.ins hck⟩) SU KE
    ·
     refine L_op <| G_off rfl rfl rfl rfl rfl rfl <| L_op <| G_off rfl rfl rfl rfl rfl rfl <| L_op <| G_off rfl rfl rfl rfl rfl rfl <| L_op <| G_off rfl rfl rfl rfl rfl rfl ?_
     refine L_pur rfl (p_pick_f rfl rfl) <| nq <| C_false rfl <| J_skip <| qr <| mv rfl rfl <| fa rfl rfl fa119_1 <| L_val rfl (v_load rfl ty3 HS (by exact rfl)) ?_
     refine fa rfl rfl fa119_0 <| L_val rfl (v_load rfl ty3 HS (by exact rfl)) ?_
     refine L_op <| x_mapUpdate (ek := kZ) (ev := evZ) (a := ((look s.sl c).getD s0).1.obj) (c := ((look s.sl c).getD s0).1.kind) rfl rfl rfl ky3 Tryz.underlying67 PC ?_
     refine L_nil <| Q_blk_normal <| qr <| L_pur rfl (p_add64 rfl rfl (by omega)) <| mv rfl rfl <| nq ?_
     
     exact J_again2 (i + 1) (ins km ((look s.sl c).getD s0).1.obj ((look s.sl c).getD s0).1.kind) (by omega) (⟨by omega, hkm.ins hck⟩) SU KE
 ·
  refine J_exit <| Q_then_exit <| Q_then_exit <| Q_blk_this <| qx <| ag rfl rfl <| nq <| J_ret ?_
  exact J_return (()) Tryz.results40 (.tmp rfl .nil) rfl SU

set_option maxRecDepth 100000 in
set_option maxHeartbeats 4000000 in
theorem coWaiting {E : World} {l m : List As} {p : Nat} {s : KS} (hp : Pick (coA p s) l m) (hI : Idle s) :
  Con Tryz.prog 62 #[.pointer (some ⟨p, 0, none⟩)] E l (fun v : Value => .tuple #[v, .bool true]) (fun v => row 35 2 v [] :: coA p s :: m) := by
 refine Con.body (vs := [.pointer (some ⟨p, 0, none⟩)]) (n := 87) Tryz.func62 rfl rfl [(0, .pointer (some ⟨p, 0, none⟩))] (env_ok 1 rfl) <| J_pick hp <| sr <| ag rfl rfl <| ag rfl rfl <| nx <| ag rfl rfl <| J_nil (el := 35) (sz := 2) ?_
 refine nxx <| ag rfl rfl <| nq <| J_block <| J_loop2 (fun (k : Nat) (v4 : Value) => 1 ≤ k ∧ k ≤ 65) (fun k v4 => row 35 2 v4 [] :: coA p s :: m) (fun k v4 => [(5, .int .i64 (k : Int)), (4, v4), (0, .pointer (some ⟨p, 0, none⟩))]) (fun k v4 => 65 - k) 1 _ (by omega) SU KE ?_
 intro k v4 hk
 refine J_seq <| sr <| mv rfl rfl <| L_pur rfl (p_leq rfl rfl) <| nq ?_
 refine C_dec rfl (fun h18 => ?_) (fun h18 => ?_)
 ·
  refine J_skip <| Q_then <| J_seq <| J_block ?_
  refine J_cut (α := Value) (fun v4 : Value => row 35 2 v4 [] :: coA p s :: m) (fun v4 : Value => [(5, .int .i64 (k : Int)), (4, v4), (0, .pointer (some ⟨p, 0, none⟩))]) ?_ ?_
  ·
   refine sr <| mv rfl rfl <| mv rfl rfl <| L_op <| x_call Tryz.func84 nm84 bd84 (.cons rfl (.cons rfl .nil)) rfl (coEp (s := s) (u := (k : Int)) PC) fun _ => ?_
   refine J_slot (t := 23) (v := .pointer ((look (ptrs s.ep) (k : Int)).map fun b => ⟨b, 0, none⟩)) rfl rfl <| ag rfl rfl <| nx <| mv rfl rfl <| L_pur rfl (p_neNilPtr Tryz.underlying93 rfl) <| nq ?_
   refine C_split rfl (fun h25 => ?_) (fun h25 => ?_)
   ·
    obtain ⟨b, hb⟩ : ∃ b, look (ptrs s.ep) (k : Int) = some b := by
     cases hq : look (ptrs s.ep) (k : Int) with
     | none => rw [hq] at h25; simp at h25
     | some b => exact ⟨b, rfl⟩
    obtain ⟨ob, hob⟩ := look_got hb
    obtain ⟨o1, o2⟩ := ob
    have hid := hI.ep _ (mem_look hob)
    obtain ⟨rfl, rfl⟩ : o1 = [] ∧ o2 = [] := by cases hid; exact ⟨rfl, rfl⟩
    refine sr <| mv rfl rfl <| J_slot (t := 26) (v := .pointer (some ⟨b, 0, none⟩)) rfl (by rw [hb]; rfl) <| L_op <| x_call Tryz.func85 nm85 bd85 (.cons rfl .nil) rfl (coEpSenders (s := s) (u := (k : Int)) PC hob (by simp) (by simp)) <| JR fun a27 c27 hw27 hl27 hm27 hz27 => mv rfl rfl <| J_slot (t := 28) (v := .pointer (some ⟨b, 0, none⟩)) rfl (by rw [hb]; rfl) ?_
    refine L_op <| x_call Tryz.func86 nm86 bd86 (.cons rfl .nil) rfl (coEpReceivers (s := s) (u := (k : Int)) PC hob (by simp) (by simp)) <| JR fun a29 c29 hw29 hl29 hm29 hz29 => ag rfl rfl <| ag rfl rfl <| nxx <| mv rfl rfl <| L_pur rfl (p_len rfl Tryz.underlying94) ?_
    refine L_pur rfl (p_gtr rfl rfl) <| J_bool (t := 32) (c := false) rfl (by simp) <| mv rfl rfl <| J_bool (t := 33) (c := false) rfl (rfl) <| L_op <| G_off rfl rfl rfl rfl rfl rfl <| L_op <| G_off rfl rfl rfl rfl rfl rfl ?_
    refine L_op <| G_off rfl rfl rfl rfl rfl rfl <| L_pur rfl (p_pick_f rfl rfl) <| nq <| C_false rfl <| J_skip <| Q_then <| J_seq ?_
    refine sr <| mv rfl rfl <| L_pur rfl (p_len rfl Tryz.underlying94) <| mv rfl rfl <| nq <| J_block <| J_loop (α := Nat) (fun j => j = 0) (fun j => row 212 5 (.slice a27 (([] : List Msg).map encM).length c27) (([] : List Msg).map encM) :: row 214 3 (.slice a29 (([] : List Rcv).map encR).length c29) (([] : List Rcv).map encR) :: row 35 2 v4 [] :: coA p s :: m) (fun j => [(40, .int .i64 (j : Int)), (38, .slice a27 (([] : List Msg).map encM).length c27), (39, .int .i64 ((([] : List Msg).map encM).length : Int)), (7, .slice a27 (([] : List Msg).map encM).length c27), (8, .slice a29 (([] : List Rcv).map encR).length c29), (5, .int .i64 (k : Int)), (4, v4), (0, .pointer (some ⟨p, 0, none⟩))]) (fun j => 0) 0 rfl SU KE ?_
    intro j hj
    refine sr <| L_pur rfl (p_lss rfl rfl) <| nq <| J_seq ?_
    refine C_dec rfl (fun h41 => ?_) (fun h41 => ?_)
    ·
     exfalso
     first | omega | (simp at h41; omega)
    ·
     refine J_exit <| Q_then_exit <| Q_then_exit <| Q_blk_this <| qx <| mv rfl rfl <| L_pur rfl (p_len rfl Tryz.underlying95) <| mv rfl rfl ?_
     refine nq <| J_block <| J_loop (α := Nat) (fun j => j = 0) (fun j => row 212 5 (.slice a27 (([] : List Msg).map encM).length c27) (([] : List Msg).map encM) :: row 214 3 (.slice a29 (([] : List Rcv).map encR).length c29) (([] : List Rcv).map encR) :: row 35 2 v4 [] :: coA p s :: m) (fun j => [(52, .int .i64 (j : Int)), (50, .slice a29 (([] : List Rcv).map encR).length c29), (51, .int .i64 ((([] : List Rcv).map encR).length : Int)), (7, .slice a27 (([] : List Msg).map encM).length c27), (8, .slice a29 (([] : List Rcv).map encR).length c29), (5, .int .i64 (k : Int)), (4, v4), (0, .pointer (some ⟨p, 0, none⟩))]) (fun j => 0) 0 rfl SU KE ?_
     intro j hj
     refine sr <| L_pur rfl (p_lss rfl rfl) <| nq <| J_seq ?_
     refine C_dec rfl (fun h53 => ?_) (fun h53 => ?_)
     ·
      exfalso
      first | omega | (simp at h53; omega)
     ·
      refine J_exit <| Q_then_exit <| Q_then_exit <| Q_blk_this <| Q_then ?_
      exact J_at (α := Value) (L := (fun v4 : Value => row 35 2 v4 [] :: coA p s :: m)) (G := (fun v4 : Value => [(5, .int .i64 (k : Int)), (4, v4), (0, .pointer (some ⟨p, 0, none⟩))])) v4 SU KE
   ·
    refine J_skip <| Q_then ?_
    exact J_at (α := Value) (L := (fun v4 : Value => row 35 2 v4 [] :: coA p s :: m)) (G := (fun v4 : Value => [(5, .int .i64 (k : Int)), (4, v4), (0, .pointer (some ⟨p, 0, none⟩))])) v4 SU KE
  ·
   intro v4
   refine J_cut (α := Value) (fun v4 : Value => row 35 2 v4 [] :: coA p s :: m) (fun v4 : Value => [(5, .int .i64 (k : Int)), (4, v4), (0, .pointer (some ⟨p, 0, none⟩))]) ?_ ?_
   ·
    refine sr <| mv rfl rfl <| mv rfl rfl <| L_op <| x_call Tryz.func87 nm87 bd87 (.cons rfl (.cons rfl .nil)) rfl (coNotif (s := s) (u := (k : Int)) PC) fun _ => ?_
    refine J_slot (t := 64) (v := .pointer ((look (ptrs s.nt) (k : Int)).map fun b => ⟨b, 0, none⟩)) rfl rfl <| ag rfl rfl <| nx <| mv rfl rfl <| L_pur rfl (p_neNilPtr Tryz.underlying98 rfl) <| nq ?_
    refine C_split rfl (fun h66 => ?_) (fun h66 => ?_)
    ·
     obtain ⟨b, hb⟩ : ∃ b, look (ptrs s.nt) (k : Int) = some b := by
      cases hq : look (ptrs s.nt) (k : Int) with
      | none => rw [hq] at h66; simp at h66
      | some b => exact ⟨b, rfl⟩
     obtain ⟨ob, hob⟩ := look_got hb
     obtain ⟨o1, o2⟩ := ob
     obtain rfl : o2 = [] := hI.nt _ (mem_look hob)
     refine J_region <| mv rfl rfl <| mv rfl rfl <| J_slot (t := 68) (v := .pointer (some ⟨b, 0, none⟩)) rfl (by rw [hb]; rfl) <| L_op <| x_call Tryz.func88 nm88 bd88 (.cons rfl .nil) rfl (coNtWaits (s := s) (u := (k : Int)) PC hob (by simp)) <| JR fun a69 c69 hw69 hl69 hm69 hz69 => L_op <| x_app rfl rfl Tryz.underlying99 ty35 rfl rfl PC (fun w H => sep_reads HS H) (by simp) (by simp) rfl ?_
     refine JE (([] : List (List Value))) (by simp) fun a70 c70 hw70 hl70 hm70 hz70 => ag rfl rfl <| nq ?_
     exact J_at (α := Value) (L := (fun v4 : Value => row 35 2 v4 [] :: coA p s :: m)) (G := (fun v4 : Value => [(5, .int .i64 (k : Int)), (4, v4), (0, .pointer (some ⟨p, 0, none⟩))])) _ SU KE
    ·
     refine J_skip <| Q_then ?_
     exact J_at (α := Value) (L := (fun v4 : Value => row 35 2 v4 [] :: coA p s :: m)) (G := (fun v4 : Value => [(5, .int .i64 (k : Int)), (4, v4), (0, .pointer (some ⟨p, 0, none⟩))])) _ SU KE
   ·
    intro v4
    refine sr <| mv rfl rfl <| mv rfl rfl <| L_op <| x_call Tryz.func89 nm89 bd89 (.cons rfl (.cons rfl .nil)) rfl (coReply (s := s) (u := (k : Int)) PC) fun _ => ?_
    refine J_slot (t := 73) (v := .pointer ((look (ptrs s.rp) (k : Int)).map fun b => ⟨b, 0, none⟩)) rfl rfl <| ag rfl rfl <| nx <| mv rfl rfl <| L_pur rfl (p_neNilPtr Tryz.underlying147 rfl) <| nq ?_
    refine C_split rfl (fun h75 => ?_) (fun h75 => ?_)
    ·
     obtain ⟨b, hb⟩ : ∃ b, look (ptrs s.rp) (k : Int) = some b := by
      cases hq : look (ptrs s.rp) (k : Int) with
      | none => rw [hq] at h75; simp at h75
      | some b => exact ⟨b, rfl⟩
     obtain ⟨ob, hob⟩ := look_got hb
     have hid : ob.2 = false := hI.rp _ (mem_look hob)
     refine sr <| mv rfl rfl <| J_slot (t := 77) (v := .pointer (some ⟨b, 0, none⟩)) rfl (by rw [hb]; rfl) <| L_op <| x_call Tryz.func90 nm90 bd90 (.cons rfl .nil) rfl (coRpCaller (s := s) (u := (k : Int)) (c := ob) PC hob) fun _ => ?_
     refine mv rfl rfl <| L_pur rfl (p_extract rfl rfl) <| L_pur rfl (p_extract rfl rfl) <| J_bool (t := 80) (c := false) rfl (by rw [hid]) <| L_op <| x_alloc ty35 rfl fun b15 => L_op <| x_store rfl rfl ty35 rfl SM SM RO PT ?_
     refine ag rfl rfl <| nx <| mv rfl rfl <| nq <| J_bool (t := 81) (c := false) rfl (rfl) <| C_false rfl <| J_skip <| Q_blk_normal ?_
     refine qr <| mv rfl rfl <| L_pur rfl (p_add64 rfl rfl (by omega)) <| ag rfl rfl <| nq ?_
     
     exact J_again2 (k + 1) _ (by omega) (by omega) SU KE
    ·
     refine J_skip <| Q_blk_normal <| qr <| mv rfl rfl <| L_pur rfl (p_add64 rfl rfl (by omega)) <| ag rfl rfl <| nq ?_
     
     exact J_again2 (k + 1) _ (by omega) (by omega) SU KE
 ·
  refine J_exit <| Q_then_exit <| Q_then_exit <| Q_blk_this <| qx <| mv rfl rfl <| ag rfl rfl <| ag rfl rfl ?_
  refine nq <| J_ret ?_
  exact J_return (v4) Tryz.results62 (.tmp rfl (.tmp rfl .nil)) rfl SU

set_option maxRecDepth 100000 in
set_option maxHeartbeats 4000000 in
theorem tmrAllNil {E : World} {l m : List As} {b o : Nat} (hp : Pick (tmrA b o []) l m) :
  Con Tryz.prog 92 #[.pointer (some ⟨b, o, none⟩)] E l (fun _ : Unit => .slice none 0 0) (fun _ => tmrA b o [] :: m) := by
 refine Con.body (vs := [.pointer (some ⟨b, o, none⟩)]) (n := 22) Tryz.func92 rfl rfl [(0, .pointer (some ⟨b, o, none⟩))] (env_ok 1 rfl) <| J_pick hp <| J_tmrO fun v _ => J_row (.there .here) fun hw a cap hv h1 h2 h3 => ?_
 subst hv
 refine sr <| ag rfl rfl <| nx <| ag rfl rfl <| nxx <| mv rfl rfl <| nc rfl rfl <| fa rfl rfl fa86_0 ?_
 refine L_val rfl (v_loadL rfl ty84 HS rfl (by exact rfl)) ?_
 refine L_pur rfl (p_len rfl Tryz.underlying84) <| mv rfl rfl <| nq <| J_block <| J_loop (α := Nat) (fun j => j = 0) (fun _ => fld b o [.slice a (([] : List Tm).map encT).length cap] :: row 248 3 (.slice a (([] : List Tm).map encT).length cap) (([] : List Tm).map encT) :: m) (fun j => [(11, .int .i64 (j : Int)), (9, .slice a (([] : List Tm).map encT).length cap), (10, .int .i64 ((([] : List Tm).map encT).length : Int)), (3, .slice none 0 0)]) (fun j => 0) 0 rfl SU KE ?_
 intro j hj
 refine sr <| L_pur rfl (p_lss rfl rfl) <| nq <| J_seq ?_
 refine C_dec rfl (fun h12 => ?_) (fun h12 => ?_)
 ·
  exfalso
  first | omega | (simp at h12; omega)
 ·
  refine J_exit <| Q_then_exit <| Q_then_exit <| Q_blk_this <| qx <| mv rfl rfl <| ag rfl rfl <| nq ?_
  refine J_ret <| J_tmrS (b := b) (o := o) (xs := []) _ PX trivial ?_
  exact J_return (()) Tryz.results92 (.tmp rfl .nil) rfl SU

theorem coTmAll {E : World} {l m : List As} {p : Nat} {s : KS} (hp : Pick (coA p s) l m) (ht : s.tm = []) :
    Con Tryz.prog 92 #[.pointer (some ⟨p, 11, none⟩)] E l (fun _ : Unit => .slice none 0 0) (fun _ => coA p s :: m) := fun w H => by
  refine (?_ : Jk E l 0 [] fun _ w => Calls Tryz.prog 92 #[.pointer (some ⟨p, 11, none⟩)] w fun e w' => ∃ x, e = .returned ((fun _ : Unit => .slice none 0 0) x) ∧ Sep E w' ((fun _ : Unit => coA p s :: m) x)) w _ H fr0
  refine J_pick hp <| J_coO fun bn be br bg bt bs bp bl bk _ => J_pick (A := tmrA p 11 s.tm) PC ?_
  refine J_asTo (B := tmrA p 11 []) (by rw [ht]) <| J_con (tmrAllNil PC) fun x => ?_
  refine J_asTo (B := tmrA p 11 s.tm) (by rw [ht]) <| J_coS (p := p) (s := s) bn be br bg bt bs bp bl bk PX trivial ?_
  exact J_end SU
set_option maxRecDepth 100000 in
set_option maxHeartbeats 4000000 in
theorem coTimed {E : World} {l m : List As} {p : Nat} {s : KS} (hp : Pick (coA p s) l m) (hI : Idle s) :
  Con Tryz.prog 63 #[.pointer (some ⟨p, 0, none⟩)] E l (fun _ : Unit => .bool true) (fun _ => coA p s :: m) := by
 refine Con.body (vs := [.pointer (some ⟨p, 0, none⟩)]) (n := 25) Tryz.func63 rfl rfl [(0, .pointer (some ⟨p, 0, none⟩))] (env_ok 1 rfl) <| J_pick hp <| sr <| ag rfl rfl <| nxx <| mv rfl rfl <| L_op <| x_call Tryz.func91 nm91 bd91 (.cons rfl .nil) rfl (coTimers) fun _ => ?_
 refine L_op <| x_call Tryz.func92 nm92 bd92 (.cons rfl .nil) rfl (coTmAll (s := s) PC hI.tm) fun _ => ?_
 refine L_pur rfl (p_len rfl Tryz.underlying99) <| mv rfl rfl <| nq <| J_block <| J_loop (α := Nat) (fun j => j = 0) (fun j => coA p s :: m) (fun j => [(11, .int .i64 (j : Int)), (9, .slice none 0 0), (10, .int .i64 0), (0, .pointer (some ⟨p, 0, none⟩))]) (fun j => 0) 0 rfl SU KE ?_
 intro j hj
 refine sr <| L_pur rfl (p_lss rfl rfl) <| nq <| J_seq ?_
 refine C_dec rfl (fun h12 => ?_) (fun h12 => ?_)
 ·
  exfalso
  first | omega | (simp at h12; omega)
 ·
  refine J_exit <| Q_then_exit <| Q_then_exit <| Q_blk_this <| qx <| ag rfl rfl <| nq <| J_ret ?_
  exact J_return (()) Tryz.results63 (.tmp rfl .nil) rfl SU

set_option maxRecDepth 100000 in
set_option maxHeartbeats 4000000 in
theorem coAuWaits {E : World} {l m : List As} {p : Nat} {s : KS} (hp : Pick (coA p s) l m) (hI : Idle s) :
  Con Tryz.prog 41 #[.pointer (some ⟨p, 0, none⟩)] E l (fun _ : Unit => .bool true) (fun _ => coA p s :: m) := by
 refine Con.body (vs := [.pointer (some ⟨p, 0, none⟩)]) (n := 53) Tryz.func41 rfl rfl [(0, .pointer (some ⟨p, 0, none⟩))] (env_ok 1 rfl) <| J_pick hp <| sr <| ag rfl rfl <| nx <| mv rfl rfl <| L_op <| x_call Tryz.func62 nm62 bd62 (.cons rfl .nil) rfl (coWaiting (s := s) PC hI) fun x12 => ?_
 refine J_row .here fun hw12 a12 c12 hv12 hl12 hm12 hz12 => ?_
 subst hv12
 refine mv rfl rfl <| L_pur rfl (p_extract rfl rfl) <| L_pur rfl (p_extract rfl rfl) <| ag rfl rfl <| ag rfl rfl <| nxx <| mv rfl rfl <| L_pur rfl (p_not rfl) ?_
 refine mv rfl rfl <| J_bool (t := 17) (c := false) rfl (rfl) <| L_op <| G_on rfl rfl rfl <| J_pur (p_move rfl) rfl rfl rfl <| L_op <| G_on rfl rfl rfl <| x_call Tryz.func63 nm63 bd63 (.cons rfl .nil) rfl (coTimed (s := s) PC hI) fun _ => ?_
 refine L_op <| G_on rfl rfl rfl <| J_pur (p_not rfl) rfl rfl rfl <| L_pur rfl (p_pick_f rfl rfl) <| nq <| J_bool (t := 21) (c := false) rfl (rfl) <| C_false rfl <| J_skip ?_
 refine Q_then <| J_seq <| sr <| mv rfl rfl <| L_pur rfl (p_len rfl Tryz.underlying99) <| mv rfl rfl <| nq <| J_block ?_
 refine J_loop (α := Nat) (fun j => j = 0) (fun j => coA p s :: m) (fun j => [(24, .int .i64 (j : Int)), (22, .slice a12 ([] : List (List Value)).length c12), (23, .int .i64 (([] : List (List Value)).length : Int)), (0, .pointer (some ⟨p, 0, none⟩))]) (fun j => 0) 0 rfl SU KE ?_
 intro j hj
 refine sr <| L_pur rfl (p_lss rfl rfl) <| nq <| J_seq ?_
 refine C_dec rfl (fun h25 => ?_) (fun h25 => ?_)
 ·
  exfalso
  first | omega | (simp at h25; omega)
 ·
  refine J_exit <| Q_then_exit <| Q_then_exit <| Q_blk_this <| Q_then <| J_seq <| sr <| ag rfl rfl ?_
  refine nq <| J_block <| J_loop (α := Nat) (fun k => 1 ≤ k ∧ k ≤ 65) (fun _ => coA p s :: m) (fun k => [(9, .int .i64 (k : Int)), (0, .pointer (some ⟨p, 0, none⟩))]) (fun k => 65 - k) 1 (by omega) SU KE ?_
  intro k hk
  refine J_seq <| sr <| mv rfl rfl <| L_pur rfl (p_leq rfl rfl) <| nq ?_
  refine C_dec rfl (fun h44 => ?_) (fun h44 => ?_)
  ·
   refine J_skip <| Q_then <| J_seq <| J_block <| sr <| mv rfl rfl <| L_op <| x_call Tryz.func8 nm8 bd8 (.cons rfl .nil) rfl (coReqs) fun _ => ?_
   refine mv rfl rfl <| L_op <| x_call Tryz.func25 nm25 bd25 (.cons rfl (.cons rfl .nil)) rfl (coRqOf (s := s) (g := (k : Int)) PC (by rw [hI.rt]; exact Ids.nil) (by rw [hI.rt]; decide)) <| JR fun a50 c50 hw50 hl50 hm50 hz50 => L_pur rfl (p_len rfl Tryz.underlying110) <| L_pur rfl (p_gtr rfl rfl) <| J_bool (t := 52) (c := false) rfl (by rw [List.length_map, hI.rt, ofQ_nil]; rfl) <| nq ?_
   refine J_bool (t := 52) (c := false) rfl (rfl) <| C_false rfl <| J_skip <| Q_blk_normal <| qr <| mv rfl rfl <| L_pur rfl (p_add64 rfl rfl (by omega)) <| ag rfl rfl ?_
   refine nq ?_
   exact J_again (k + 1) (by omega) (by omega) SU KE
  ·
   refine J_exit <| Q_then_exit <| Q_then_exit <| Q_blk_this <| qx <| ag rfl rfl <| nq <| J_ret ?_
   exact J_return (()) Tryz.results41 (.tmp rfl .nil) rfl SU

set_option maxRecDepth 100000 in
set_option maxHeartbeats 4000000 in
theorem coAuAll {E : World} {l m : List As} {p : Nat} {s : KS} (hp : Pick (coA p s) l m) (hR : SlRight s.sl) (hI : Idle s) (hb : s.sl.length ≤ 1000000) (hj : s.jn.length ≤ 200000) (hg : s.rg.length ≤ 1000) (hok : ∀ x ∈ s.rg, 0 ≤ x.2.2.tail ∧ x.2.2.tail < 4294967296 ∧ x.2.2.over.length ≤ 1000000) :
    Con Tryz.prog 19 #[.pointer (some ⟨p, 0, none⟩)] E l (fun _ : Unit => .bool (kRingsOk s)) (fun _ => coA p s :: m) := by
  refine Con.body (vs := [.pointer (some ⟨p, 0, none⟩)]) (n := 13) Tryz.func19 rfl rfl [(0, .pointer (some ⟨p, 0, none⟩))] (env_ok 1 rfl) <| J_pick hp <| sr <| ag rfl rfl <| nx <| mv rfl rfl <| L_op <| x_call Tryz.func40 nm40 bd40 (.cons rfl .nil) rfl (coAuSlots (s := s) PC hR hb) fun _ => ?_
  refine mv rfl rfl <| J_bool (t := 5) (c := true) rfl (rfl) <| L_op <| G_on rfl rfl rfl <| J_pur (p_move rfl) rfl rfl rfl <| L_op <| G_on rfl rfl rfl <| x_call Tryz.func41 nm41 bd41 (.cons rfl .nil) rfl (coAuWaits (s := s) PC hI) fun _ => ?_
  refine L_pur rfl (p_pick_t rfl rfl) <| mv rfl rfl <| J_bool (t := 9) (c := true) rfl (rfl) <| L_op <| G_on rfl rfl rfl <| J_pur (p_move rfl) rfl rfl rfl <| L_op <| G_on rfl rfl rfl ?_
  refine x_call Tryz.func13 nm13 bd13 (.cons rfl .nil) rfl (coRingsOk (s := s) PC hj (by rw [hI.rt]; exact Ids.nil) (by rw [hI.rt]; decide) hg hok) fun _ => ?_
  refine L_pur rfl (p_pick_t rfl rfl) <| ag rfl rfl <| nq <| J_ret ?_
  exact J_return (()) Tryz.results19 (.tmp rfl .nil) rfl SU

end Go.Pse
