/-
  Slots, pages, who may run: contracts.
-/
import Derived.Test.YthjgdlhkdjgjpaaGreatC1
namespace Go.Pse
open Go.RowKit Go.Proofs

def slPutOk (ps : List (Place × SV)) (p : Place) (c : Cap) (q : Place) : Bool := canP p && !(look ps p).isSome && checkC c && (decide (q = (0, 0)) || (look ps q).isSome)
def slPut (ps : List (Place × SV)) (p : Place) (c : Cap) (q : Place) : List (Place × SV) := if slPutOk ps p c q then ins ps p (c, q) else ps
set_option maxRecDepth 100000 in
set_option maxHeartbeats 4000000 in
theorem slHas {E : World} {l m : List As} {b o : Nat} {ps : List (Place × SV)} (hp : Pick (slA b o ps) l m) {p : Place} :
    Con Tryz.prog 66 #[.pointer (some ⟨b, o, none⟩), .agg (encI p).toArray] E l (fun _ : Unit => .bool (look ps p).isSome) (fun _ => slA b o ps :: m) := by
  refine Con.body (vs := [.pointer (some ⟨b, o, none⟩), .agg (encI p).toArray]) (n := 17) Tryz.func66 rfl rfl [(0, .pointer (some ⟨b, o, none⟩)), (1, .agg (encI p).toArray)] (env_ok 2 rfl) <| J_pick hp <| J_slO fun ob _ => sr <| L_op <| x_box rfl rfl rfl fun b3 => ag rfl rfl <| nq ?_
  refine J_seq <| J_drawL none mixed <| ip 0 rfl rfl rfl rfl (p_move rfl) <| ip 1 rfl rfl rfl rfl (p_nilCheck rfl) <| ip 2 rfl rfl rfl rfl (p_fieldAddr rfl fa71_0) <| iv 3 rfl rfl rfl rfl (fun _ => v_loadL rfl ty69 HS rfl (by exact rfl)) ?_
  refine iv 4 rfl rfl rfl rfl (fun _ => v_loadA rfl ty129 HS CT) ?_
  refine iv 5 rfl rfl rfl rfl (fun _ => v_lookOk (ek := kI) (ev := evS) (a := p) rfl rfl ky129 Tryz.underlying69 zv169 HS) ?_
  refine J_slot (t := 13) (v := .tuple #[evS ((look ps p).getD s0), .bool (look ps p).isSome]) rfl (by cases look ps p <;> rfl) <| ip 6 rfl rfl rfl rfl (p_move rfl) <| ip 7 rfl rfl rfl rfl (p_extract rfl rfl) <| ip 8 rfl rfl rfl rfl (p_extract rfl rfl) <| i1 9 rfl <| x_alloc ty169 rfl fun b5 => i1 10 rfl <| x_store rfl rfl ty169 rfl SM SM RO PT ?_
  refine ip 11 rfl rfl rfl rfl (p_assign rfl) <| i0 <| qx <| mv rfl rfl <| ag rfl rfl <| nq <| J_ret <| J_slS (b := b) (o := o) (ps := ps) _ PX trivial ?_
  exact J_return (()) Tryz.results66 (.tmp rfl .nil) rfl SU

set_option maxRecDepth 100000 in
set_option maxHeartbeats 4000000 in
theorem slLays {E : World} {l m : List As} {b o : Nat} {ps : List (Place × SV)} (hp : Pick (slA b o ps) l m) {p : Place} {s : SV} :
  Con Tryz.prog 67 #[.pointer (some ⟨b, o, none⟩), .agg (encI p).toArray, .agg (encC s.1 ++ encI s.2).toArray] E l (fun _ : Unit => .tuple #[]) (fun _ => slA b o (ins ps p s) :: m) := by
 refine Con.body (vs := [.pointer (some ⟨b, o, none⟩), .agg (encI p).toArray, .agg (encC s.1 ++ encI s.2).toArray]) (n := 21) Tryz.func67 rfl rfl [(0, .pointer (some ⟨b, o, none⟩)), (1, .agg (encI p).toArray), (2, .agg (encC s.1 ++ encI s.2).toArray)] (env_ok 3 rfl) <| J_pick hp <| J_slO fun ob _ => sr <| L_op <| x_box rfl rfl rfl fun b4 => L_op <| x_box rfl rfl rfl fun b5 => ?_
 refine nxx <| mv rfl rfl <| nc rfl rfl <| fa rfl rfl fa71_0 <| L_val rfl (v_loadL rfl ty69 HS rfl (by exact rfl)) ?_
 refine L_pur rfl (p_eqNilMap Tryz.underlying69 rfl) <| nq ?_
 refine C_split rfl (fun h10 => ?_) (fun h10 => ?_)
 ·
  obtain rfl : ob = none := by simpa using h10
  refine J_mapNone (ps := ps) HS fun hps => ?_
  subst hps
  refine J_region <| mv rfl rfl <| L_op <| x_makeMap (ek := kI) (ev := evS) rfl fun b12 => nc rfl rfl <| fa rfl rfl fa71_0 <| L_op <| x_storeL rfl rfl ty69 rfl SM SM rfl RO rfl PT ?_
  refine nq <| J_drawT 6 mixed (by kernel_rfl) <| sm rfl rfl <| sp rfl (p_nilCheck rfl) <| sp rfl (p_fieldAddr rfl fa71_0) <| S_val rfl (v_loadL rfl ty69 HS rfl (by exact rfl)) ?_
  refine S_val rfl (v_loadA rfl ty129 HS CT) ?_
  refine S_val rfl (v_loadA rfl ty169 HS CT) ?_
  refine S_nil <| L_op <| x_mapUpdate (ek := kI) (ev := evS) (a := p) (c := s) rfl rfl rfl ky129 Tryz.underlying69 PC ?_
  refine L_nil <| J_endnormal <| J_slS (b := b) (o := o) (ps := ins [] p s) _ PX trivial ?_
  exact J_return (()) Tryz.results67 .nil rfl SU
 ·
  obtain ⟨bm, rfl⟩ : ∃ bm, ob = some bm := by cases ob with | none => simp at h10 | some x => exact ⟨x, rfl⟩
  refine J_skip <| Q_then <| J_drawT 6 mixed (by kernel_rfl) <| sm rfl rfl <| sp rfl (p_nilCheck rfl) <| sp rfl (p_fieldAddr rfl fa71_0) <| S_val rfl (v_loadL rfl ty69 HS rfl (by exact rfl)) ?_
  refine S_val rfl (v_loadA rfl ty129 HS CT) ?_
  refine S_val rfl (v_loadA rfl ty169 HS CT) ?_
  refine S_nil <| L_op <| x_mapUpdate (ek := kI) (ev := evS) (a := p) (c := s) rfl rfl rfl ky129 Tryz.underlying69 PC ?_
  refine L_nil <| J_endnormal <| J_slS (b := b) (o := o) (ps := ins ps p s) _ PX trivial ?_
  exact J_return (()) Tryz.results67 .nil rfl SU

set_option maxRecDepth 100000 in
set_option maxHeartbeats 4000000 in
theorem slPutC {E : World} {l m : List As} {b o : Nat} {ps : List (Place × SV)} (hp : Pick (slA b o ps) l m) {p : Place} {c : Cap} {q : Place} :
    Con Tryz.prog 42 #[.pointer (some ⟨b, o, none⟩), .agg (encI p).toArray, .agg (encC c).toArray, .agg (encI q).toArray] E l (fun _ : Unit => .bool (slPutOk ps p c q)) (fun _ => slA b o (slPut ps p c q) :: m) := by
  refine Con.body (vs := [.pointer (some ⟨b, o, none⟩), .agg (encI p).toArray, .agg (encC c).toArray, .agg (encI q).toArray]) (n := 39) Tryz.func42 rfl rfl [(0, .pointer (some ⟨b, o, none⟩)), (1, .agg (encI p).toArray), (2, .agg (encC c).toArray), (3, .agg (encI q).toArray)] (env_ok 4 rfl) ?_
  obtain ⟨q1, q2⟩ := q
  refine J_pick hp <| sr <| L_op <| x_box rfl rfl rfl fun b5 => L_op <| x_box rfl rfl rfl fun b6 => L_op <| x_box rfl rfl rfl fun b7 => ?_
  refine ag rfl rfl <| nxx <| L_val rfl (v_loadA rfl ty129 HS CT) ?_
  refine L_op <| x_call Tryz.func65 nm65 bd65 (.cons rfl .nil) rfl (sCan) fun _ => L_pur rfl (p_not rfl) <| mv rfl rfl ?_
  refine J_gsplit (t := 12) rfl (fun h12 => ?_) (fun h12 => ?_)
  ·
    refine L_op <| G_off rfl rfl rfl rfl rfl rfl <| L_op <| G_off rfl rfl rfl rfl rfl rfl <| L_op <| G_off rfl rfl rfl rfl rfl rfl <| L_pur rfl (p_pick_t rfl rfl) <| mv rfl rfl ?_
    refine L_op <| G_off rfl rfl rfl rfl rfl rfl <| L_op <| G_off rfl rfl rfl rfl rfl rfl <| L_op <| G_off rfl rfl rfl rfl rfl rfl <| L_pur rfl (p_pick_t rfl rfl) <| mv rfl rfl ?_
    refine L_op <| G_off rfl rfl rfl rfl rfl rfl <| L_op <| G_off rfl rfl rfl rfl rfl rfl <| L_op <| G_off rfl rfl rfl rfl rfl rfl <| L_op <| G_off rfl rfl rfl rfl rfl rfl ?_
    refine L_op <| G_offU rfl rfl rfl rfl rfl <| L_op <| G_offU rfl rfl rfl rfl rfl <| L_op <| G_offU rfl rfl rfl rfl rfl <| L_op <| G_offU rfl rfl rfl rfl rfl ?_
    refine L_op <| G_off rfl rfl rfl rfl rfl rfl <| L_pur rfl (p_pick_t rfl rfl) <| nq <| C_true rfl <| sr <| ag rfl rfl <| nq ?_
    refine J_ret <| Q_then_ret <| J_pick (A := slA b o _) PC ?_
    refine J_asTo (B := slA b o (slPut ps p c (q1, q2))) (by first | (simp_all [slPut, slPutOk, Prod.ext_iff]; done) | (simp_all [slPut, slPutOk, Prod.ext_iff] <;> grind)) ?_
    refine J_return (()) Tryz.results42 (.tmp rfl .nil) ?_ ?_
    · first | rfl | (simp_all [one, slPutOk, Prod.ext_iff]; done) | (simp_all [one, slPutOk, Prod.ext_iff] <;> omega) | (simp_all [one, slPutOk, Prod.ext_iff] <;> grind)
    · exact SU
  ·
    refine L_op <| G_on rfl rfl rfl <| J_pur (p_move rfl) rfl rfl rfl <| L_op <| G_on rfl rfl rfl <| J_val (v_loadA rfl ty129 HS CT) rfl rfl rfl ?_
    refine L_op <| G_on rfl rfl rfl <| x_call Tryz.func66 nm66 bd66 (.cons rfl (.cons rfl .nil)) rfl (slHas (ps := ps) PC) fun _ => ?_
    refine L_pur rfl (p_pick_f rfl rfl) <| mv rfl rfl ?_
    refine J_gsplit (t := 17) rfl (fun h17 => ?_) (fun h17 => ?_)
    ·
      refine L_op <| G_off rfl rfl rfl rfl rfl rfl <| L_op <| G_off rfl rfl rfl rfl rfl rfl <| L_op <| G_off rfl rfl rfl rfl rfl rfl <| L_pur rfl (p_pick_t rfl rfl) <| mv rfl rfl ?_
      refine L_op <| G_off rfl rfl rfl rfl rfl rfl <| L_op <| G_off rfl rfl rfl rfl rfl rfl <| L_op <| G_off rfl rfl rfl rfl rfl rfl <| L_op <| G_off rfl rfl rfl rfl rfl rfl ?_
      refine L_op <| G_offU rfl rfl rfl rfl rfl <| L_op <| G_offU rfl rfl rfl rfl rfl <| L_op <| G_offU rfl rfl rfl rfl rfl <| L_op <| G_offU rfl rfl rfl rfl rfl ?_
      refine L_op <| G_off rfl rfl rfl rfl rfl rfl <| L_pur rfl (p_pick_t rfl rfl) <| nq <| C_true rfl <| sr <| ag rfl rfl <| nq ?_
      refine J_ret <| Q_then_ret <| J_pick (A := slA b o _) PC ?_
      refine J_asTo (B := slA b o (slPut ps p c (q1, q2))) (by first | (simp_all [slPut, slPutOk, Prod.ext_iff]; done) | (simp_all [slPut, slPutOk, Prod.ext_iff] <;> grind)) ?_
      refine J_return (()) Tryz.results42 (.tmp rfl .nil) ?_ ?_
      · first | rfl | (simp_all [one, slPutOk, Prod.ext_iff]; done) | (simp_all [one, slPutOk, Prod.ext_iff] <;> omega) | (simp_all [one, slPutOk, Prod.ext_iff] <;> grind)
      · exact SU
    ·
      refine L_op <| G_on rfl rfl rfl <| J_val (v_loadA rfl ty119 HS CT) rfl rfl rfl ?_
      refine L_op <| G_on rfl rfl rfl <| x_call Tryz.func61 nm61 bd61 (.cons rfl .nil) rfl (cCheck) fun _ => L_op <| G_on rfl rfl rfl <| J_pur (p_not rfl) rfl rfl rfl <| L_pur rfl (p_pick_f rfl rfl) <| mv rfl rfl ?_
      refine J_gsplit (t := 22) rfl (fun h22 => ?_) (fun h22 => ?_)
      ·
        refine L_op <| G_off rfl rfl rfl rfl rfl rfl <| L_op <| G_off rfl rfl rfl rfl rfl rfl <| L_op <| G_off rfl rfl rfl rfl rfl rfl <| L_op <| G_off rfl rfl rfl rfl rfl rfl ?_
        refine L_op <| G_offU rfl rfl rfl rfl rfl <| L_op <| G_offU rfl rfl rfl rfl rfl <| L_op <| G_offU rfl rfl rfl rfl rfl <| L_op <| G_offU rfl rfl rfl rfl rfl ?_
        refine L_op <| G_off rfl rfl rfl rfl rfl rfl <| L_pur rfl (p_pick_t rfl rfl) <| nq <| C_true rfl <| sr <| ag rfl rfl <| nq ?_
        refine J_ret <| Q_then_ret <| J_pick (A := slA b o _) PC ?_
        refine J_asTo (B := slA b o (slPut ps p c (q1, q2))) (by first | (simp_all [slPut, slPutOk, Prod.ext_iff]; done) | (simp_all [slPut, slPutOk, Prod.ext_iff] <;> grind)) ?_
        refine J_return (()) Tryz.results42 (.tmp rfl .nil) ?_ ?_
        · first | rfl | (simp_all [one, slPutOk, Prod.ext_iff]; done) | (simp_all [one, slPutOk, Prod.ext_iff] <;> omega) | (simp_all [one, slPutOk, Prod.ext_iff] <;> grind)
        · exact SU
      ·
        refine L_op <| G_on rfl rfl rfl <| J_val (v_loadA rfl ty129 HS CT) rfl rfl rfl ?_
        refine L_op <| G_on rfl rfl rfl <| J_pur (bld129 .nil (by repeat constructor)) rfl rfl rfl <| L_op <| G_on rfl rfl rfl <| J_pur (p_nev rfl rfl (fun w => eg129 _ _ _ _ _ w) (fun w => nev129 _ _ _ _ w)) rfl rfl rfl <| L_op <| G_on rfl rfl rfl ?_
        refine J_pur (p_move rfl) rfl rfl rfl ?_
        refine J_gsplit (t := 26) rfl (fun h26 => ?_) (fun h26 => ?_)
        ·
          refine L_op <| G_on rfl rfl rfl <| J_pur (p_move rfl) rfl rfl rfl <| L_op <| G_on rfl rfl rfl <| J_val (v_loadA rfl ty129 HS CT) rfl rfl rfl ?_
          refine L_op <| G_on rfl rfl rfl <| x_call Tryz.func66 nm66 bd66 (.cons rfl (.cons rfl .nil)) rfl (slHas (ps := ps) PC) fun _ => ?_
          refine L_op <| G_on rfl rfl rfl <| J_pur (p_not rfl) rfl rfl rfl <| L_op <| G_on rfl rfl rfl <| J_pur (p_pick_t rfl rfl) rfl rfl rfl <| L_pur rfl (p_pick_f rfl rfl) <| nq ?_
          refine C_split rfl (fun h32 => ?_) (fun h32 => ?_)
          ·
            refine sr <| ag rfl rfl <| nq <| J_ret <| Q_then_ret <| J_pick (A := slA b o _) PC ?_
            refine J_asTo (B := slA b o (slPut ps p c (q1, q2))) (by first | (simp_all [slPut, slPutOk, Prod.ext_iff]; done) | (simp_all [slPut, slPutOk, Prod.ext_iff] <;> grind)) ?_
            refine J_return (()) Tryz.results42 (.tmp rfl .nil) ?_ ?_
            · first | rfl | (simp_all [one, slPutOk, Prod.ext_iff]; done) | (simp_all [one, slPutOk, Prod.ext_iff] <;> omega) | (simp_all [one, slPutOk, Prod.ext_iff] <;> grind)
            · exact SU
          ·
            refine J_skip <| qx <| mv rfl rfl <| L_val rfl (v_loadA rfl ty129 HS CT) ?_
            refine L_val rfl (v_loadA rfl ty119 HS CT) ?_
            refine L_val rfl (v_loadA rfl ty129 HS CT) ?_
            refine L_pur rfl (bld169 (.cons rfl (.cons rfl .nil)) (by repeat constructor)) <| L_op <| x_call Tryz.func67 nm67 bd67 (.cons rfl (.cons rfl (.cons rfl .nil))) rfl (slLays (ps := ps) (p := p) (s := (c, (q1, q2))) PC) fun _ => ?_
            refine nx <| ag rfl rfl <| nq <| J_ret <| J_pick (A := slA b o _) PC ?_
            refine J_asTo (B := slA b o (slPut ps p c (q1, q2))) (by first | (simp_all [slPut, slPutOk, Prod.ext_iff]; done) | (simp_all [slPut, slPutOk, Prod.ext_iff] <;> grind)) ?_
            refine J_return (()) Tryz.results42 (.tmp rfl .nil) ?_ ?_
            · first | rfl | (simp_all [one, slPutOk, Prod.ext_iff]; done) | (simp_all [one, slPutOk, Prod.ext_iff] <;> omega) | (simp_all [one, slPutOk, Prod.ext_iff] <;> grind)
            · exact SU
        ·
          refine L_op <| G_off rfl rfl rfl rfl rfl rfl <| L_op <| G_off rfl rfl rfl rfl rfl rfl <| L_op <| G_off rfl rfl rfl rfl rfl rfl <| L_op <| G_off rfl rfl rfl rfl rfl rfl ?_
          refine L_op <| G_on rfl rfl rfl <| J_pur (p_pick_f rfl rfl) rfl rfl rfl <| L_pur rfl (p_pick_f rfl rfl) <| nq <| C_false rfl <| J_skip <| qx ?_
          refine mv rfl rfl <| L_val rfl (v_loadA rfl ty129 HS CT) ?_
          refine L_val rfl (v_loadA rfl ty119 HS CT) ?_
          refine L_val rfl (v_loadA rfl ty129 HS CT) ?_
          refine L_pur rfl (bld169 (.cons rfl (.cons rfl .nil)) (by repeat constructor)) <| L_op <| x_call Tryz.func67 nm67 bd67 (.cons rfl (.cons rfl (.cons rfl .nil))) rfl (slLays (ps := ps) (p := p) (s := (c, (q1, q2))) PC) fun _ => ?_
          refine nx <| ag rfl rfl <| nq <| J_ret <| J_pick (A := slA b o _) PC ?_
          refine J_asTo (B := slA b o (slPut ps p c (q1, q2))) (by first | (simp_all [slPut, slPutOk, Prod.ext_iff]; done) | (simp_all [slPut, slPutOk, Prod.ext_iff] <;> grind)) ?_
          refine J_return (()) Tryz.results42 (.tmp rfl .nil) ?_ ?_
          · first | rfl | (simp_all [one, slPutOk, Prod.ext_iff]; done) | (simp_all [one, slPutOk, Prod.ext_iff] <;> omega) | (simp_all [one, slPutOk, Prod.ext_iff] <;> grind)
          · exact SU

def spSetOk (ps : List (Place × M1)) (p : Place) (f : M1) : Bool := !(decide (p.2 < 0) || decide (p.2 ≥ 8) || !okUnit p.1 || !okUnit f.1 || decide (f.2 < 1) || decide (f.2 > 3)) && !(look ps p).isSome
def spSet (ps : List (Place × M1)) (p : Place) (f : M1) : List (Place × M1) := if spSetOk ps p f then ins ps p f else ps
set_option maxRecDepth 100000 in
set_option maxHeartbeats 4000000 in
theorem spSetC {E : World} {l m : List As} {b o : Nat} {ps : List (Place × M1)} (hp : Pick (spA b o ps) l m) {p : Place} {f : M1} :
    Con Tryz.prog 18 #[.pointer (some ⟨b, o, none⟩), .agg (encI p).toArray, .agg (encI f).toArray] E l (fun _ : Unit => .bool (spSetOk ps p f)) (fun _ => spA b o (spSet ps p f) :: m) := by
  refine Con.body (vs := [.pointer (some ⟨b, o, none⟩), .agg (encI p).toArray, .agg (encI f).toArray]) (n := 64) Tryz.func18 rfl rfl [(0, .pointer (some ⟨b, o, none⟩)), (1, .agg (encI p).toArray), (2, .agg (encI f).toArray)] (env_ok 3 rfl) <| J_pick hp <| J_spO fun ob _ => sr <| L_op <| x_box rfl rfl rfl fun b4 => L_op <| x_box rfl rfl rfl fun b5 => ?_
  refine ag rfl rfl <| nxx <| fa rfl rfl fa54_1 <| L_val rfl (v_load rfl ty3 HS (by exact rfl)) ?_
  refine L_pur rfl (p_lss rfl rfl) <| mv rfl rfl ?_
  refine J_gsplit (t := 12) rfl (fun h12 => ?_) (fun h12 => ?_)
  ·
    refine L_op <| G_off rfl rfl rfl rfl rfl rfl <| L_op <| G_off rfl rfl rfl rfl rfl rfl <| L_op <| G_off rfl rfl rfl rfl rfl rfl <| L_pur rfl (p_pick_t rfl rfl) <| mv rfl rfl ?_
    refine L_op <| G_off rfl rfl rfl rfl rfl rfl <| L_op <| G_off rfl rfl rfl rfl rfl rfl <| L_op <| G_off rfl rfl rfl rfl rfl rfl <| L_op <| G_off rfl rfl rfl rfl rfl rfl ?_
    refine L_pur rfl (p_pick_t rfl rfl) <| mv rfl rfl <| L_op <| G_off rfl rfl rfl rfl rfl rfl <| L_op <| G_off rfl rfl rfl rfl rfl rfl <| L_op <| G_off rfl rfl rfl rfl rfl rfl ?_
    refine L_op <| G_off rfl rfl rfl rfl rfl rfl <| L_pur rfl (p_pick_t rfl rfl) <| mv rfl rfl <| L_op <| G_off rfl rfl rfl rfl rfl rfl <| L_op <| G_off rfl rfl rfl rfl rfl rfl ?_
    refine L_op <| G_off rfl rfl rfl rfl rfl rfl <| L_pur rfl (p_pick_t rfl rfl) <| mv rfl rfl <| L_op <| G_off rfl rfl rfl rfl rfl rfl <| L_op <| G_off rfl rfl rfl rfl rfl rfl ?_
    refine L_op <| G_off rfl rfl rfl rfl rfl rfl <| L_pur rfl (p_pick_t rfl rfl) <| nq <| C_true rfl <| sr <| ag rfl rfl <| nq ?_
    refine J_ret <| Q_then_ret <| J_spS (b := b) (o := o) (ps := ps) _ PX trivial ?_
    refine J_asTo (B := spA b o (spSet ps p f)) (by first | (simp_all [spSet, spSetOk]; done) | (simp_all [spSet, spSetOk] <;> grind)) ?_
    refine J_return (()) Tryz.results18 (.tmp rfl .nil) ?_ ?_
    · first | rfl | (simp_all [one, spSetOk]; done) | (simp_all [one, spSetOk] <;> omega) | (simp_all [one, spSetOk] <;> grind)
    · exact SU
  ·
    refine L_op <| G_on rfl rfl rfl <| J_pur (p_fieldAddr rfl fa54_1) rfl rfl rfl <| L_op <| G_on rfl rfl rfl <| J_val (v_load rfl ty3 HS (by exact rfl)) rfl rfl rfl ?_
    refine L_op <| G_on rfl rfl rfl <| J_pur (p_geq rfl rfl) rfl rfl rfl <| L_pur rfl (p_pick_f rfl rfl) <| mv rfl rfl ?_
    refine J_gsplit (t := 17) rfl (fun h17 => ?_) (fun h17 => ?_)
    ·
      refine L_op <| G_off rfl rfl rfl rfl rfl rfl <| L_op <| G_off rfl rfl rfl rfl rfl rfl <| L_op <| G_off rfl rfl rfl rfl rfl rfl <| L_op <| G_off rfl rfl rfl rfl rfl rfl ?_
      refine L_pur rfl (p_pick_t rfl rfl) <| mv rfl rfl <| L_op <| G_off rfl rfl rfl rfl rfl rfl <| L_op <| G_off rfl rfl rfl rfl rfl rfl <| L_op <| G_off rfl rfl rfl rfl rfl rfl ?_
      refine L_op <| G_off rfl rfl rfl rfl rfl rfl <| L_pur rfl (p_pick_t rfl rfl) <| mv rfl rfl <| L_op <| G_off rfl rfl rfl rfl rfl rfl <| L_op <| G_off rfl rfl rfl rfl rfl rfl ?_
      refine L_op <| G_off rfl rfl rfl rfl rfl rfl <| L_pur rfl (p_pick_t rfl rfl) <| mv rfl rfl <| L_op <| G_off rfl rfl rfl rfl rfl rfl <| L_op <| G_off rfl rfl rfl rfl rfl rfl ?_
      refine L_op <| G_off rfl rfl rfl rfl rfl rfl <| L_pur rfl (p_pick_t rfl rfl) <| nq <| C_true rfl <| sr <| ag rfl rfl <| nq ?_
      refine J_ret <| Q_then_ret <| J_spS (b := b) (o := o) (ps := ps) _ PX trivial ?_
      refine J_asTo (B := spA b o (spSet ps p f)) (by first | (simp_all [spSet, spSetOk]; done) | (simp_all [spSet, spSetOk] <;> grind)) ?_
      refine J_return (()) Tryz.results18 (.tmp rfl .nil) ?_ ?_
      · first | rfl | (simp_all [one, spSetOk]; done) | (simp_all [one, spSetOk] <;> omega) | (simp_all [one, spSetOk] <;> grind)
      · exact SU
    ·
      refine L_op <| G_on rfl rfl rfl <| J_pur (p_fieldAddr rfl fa54_0) rfl rfl rfl <| L_op <| G_on rfl rfl rfl <| J_val (v_load rfl ty3 HS (by exact rfl)) rfl rfl rfl ?_
      refine L_op <| G_on rfl rfl rfl <| x_call Tryz.func39 nm39 bd39 (.cons rfl .nil) rfl (sUnit) fun _ => L_op <| G_on rfl rfl rfl <| J_pur (p_not rfl) rfl rfl rfl <| L_pur rfl (p_pick_f rfl rfl) <| mv rfl rfl ?_
      refine J_gsplit (t := 23) rfl (fun h23 => ?_) (fun h23 => ?_)
      ·
        refine L_op <| G_off rfl rfl rfl rfl rfl rfl <| L_op <| G_off rfl rfl rfl rfl rfl rfl <| L_op <| G_off rfl rfl rfl rfl rfl rfl <| L_op <| G_off rfl rfl rfl rfl rfl rfl ?_
        refine L_pur rfl (p_pick_t rfl rfl) <| mv rfl rfl <| L_op <| G_off rfl rfl rfl rfl rfl rfl <| L_op <| G_off rfl rfl rfl rfl rfl rfl <| L_op <| G_off rfl rfl rfl rfl rfl rfl ?_
        refine L_pur rfl (p_pick_t rfl rfl) <| mv rfl rfl <| L_op <| G_off rfl rfl rfl rfl rfl rfl <| L_op <| G_off rfl rfl rfl rfl rfl rfl <| L_op <| G_off rfl rfl rfl rfl rfl rfl ?_
        refine L_pur rfl (p_pick_t rfl rfl) <| nq <| C_true rfl <| sr <| ag rfl rfl <| nq <| J_ret <| Q_then_ret ?_
        refine J_spS (b := b) (o := o) (ps := ps) _ PX trivial ?_
        refine J_asTo (B := spA b o (spSet ps p f)) (by first | (simp_all [spSet, spSetOk]; done) | (simp_all [spSet, spSetOk] <;> grind)) ?_
        refine J_return (()) Tryz.results18 (.tmp rfl .nil) ?_ ?_
        · first | rfl | (simp_all [one, spSetOk]; done) | (simp_all [one, spSetOk] <;> omega) | (simp_all [one, spSetOk] <;> grind)
        · exact SU
      ·
        refine L_op <| G_on rfl rfl rfl <| J_pur (p_fieldAddr rfl fa56_0) rfl rfl rfl <| L_op <| G_on rfl rfl rfl <| J_val (v_load rfl ty3 HS (by exact rfl)) rfl rfl rfl ?_
        refine L_op <| G_on rfl rfl rfl <| x_call Tryz.func39 nm39 bd39 (.cons rfl .nil) rfl (sUnit) fun _ => L_op <| G_on rfl rfl rfl <| J_pur (p_not rfl) rfl rfl rfl <| L_pur rfl (p_pick_f rfl rfl) <| mv rfl rfl ?_
        refine J_gsplit (t := 29) rfl (fun h29 => ?_) (fun h29 => ?_)
        ·
          refine L_op <| G_off rfl rfl rfl rfl rfl rfl <| L_op <| G_off rfl rfl rfl rfl rfl rfl <| L_op <| G_off rfl rfl rfl rfl rfl rfl <| L_pur rfl (p_pick_t rfl rfl) <| mv rfl rfl ?_
          refine L_op <| G_off rfl rfl rfl rfl rfl rfl <| L_op <| G_off rfl rfl rfl rfl rfl rfl <| L_op <| G_off rfl rfl rfl rfl rfl rfl <| L_pur rfl (p_pick_t rfl rfl) <| nq ?_
          refine C_true rfl <| sr <| ag rfl rfl <| nq <| J_ret <| Q_then_ret <| J_spS (b := b) (o := o) (ps := ps) _ PX trivial ?_
          refine J_asTo (B := spA b o (spSet ps p f)) (by first | (simp_all [spSet, spSetOk]; done) | (simp_all [spSet, spSetOk] <;> grind)) ?_
          refine J_return (()) Tryz.results18 (.tmp rfl .nil) ?_ ?_
          · first | rfl | (simp_all [one, spSetOk]; done) | (simp_all [one, spSetOk] <;> omega) | (simp_all [one, spSetOk] <;> grind)
          · exact SU
        ·
          refine L_op <| G_on rfl rfl rfl <| J_pur (p_fieldAddr rfl fa56_1) rfl rfl rfl <| L_op <| G_on rfl rfl rfl <| J_val (v_load rfl ty3 HS (by exact rfl)) rfl rfl rfl ?_
          refine L_op <| G_on rfl rfl rfl <| J_pur (p_lss rfl rfl) rfl rfl rfl <| L_pur rfl (p_pick_f rfl rfl) <| mv rfl rfl ?_
          refine J_gsplit (t := 34) rfl (fun h34 => ?_) (fun h34 => ?_)
          ·
            refine L_op <| G_off rfl rfl rfl rfl rfl rfl <| L_op <| G_off rfl rfl rfl rfl rfl rfl <| L_op <| G_off rfl rfl rfl rfl rfl rfl <| L_pur rfl (p_pick_t rfl rfl) <| nq ?_
            refine C_true rfl <| sr <| ag rfl rfl <| nq <| J_ret <| Q_then_ret <| J_spS (b := b) (o := o) (ps := ps) _ PX trivial ?_
            refine J_asTo (B := spA b o (spSet ps p f)) (by first | (simp_all [spSet, spSetOk]; done) | (simp_all [spSet, spSetOk] <;> grind)) ?_
            refine J_return (()) Tryz.results18 (.tmp rfl .nil) ?_ ?_
            · first | rfl | (simp_all [one, spSetOk]; done) | (simp_all [one, spSetOk] <;> omega) | (simp_all [one, spSetOk] <;> grind)
            · exact SU
          ·
            refine L_op <| G_on rfl rfl rfl <| J_pur (p_fieldAddr rfl fa56_1) rfl rfl rfl <| L_op <| G_on rfl rfl rfl <| J_val (v_load rfl ty3 HS (by exact rfl)) rfl rfl rfl ?_
            refine L_op <| G_on rfl rfl rfl <| J_pur (p_gtr rfl rfl) rfl rfl rfl <| L_pur rfl (p_pick_f rfl rfl) <| nq ?_
            refine C_split rfl (fun h38 => ?_) (fun h38 => ?_)
            ·
              refine sr <| ag rfl rfl <| nq <| J_ret <| Q_then_ret <| J_spS (b := b) (o := o) (ps := ps) _ PX trivial ?_
              refine J_asTo (B := spA b o (spSet ps p f)) (by first | (simp_all [spSet, spSetOk]; done) | (simp_all [spSet, spSetOk] <;> grind)) ?_
              refine J_return (()) Tryz.results18 (.tmp rfl .nil) ?_ ?_
              · first | rfl | (simp_all [one, spSetOk]; done) | (simp_all [one, spSetOk] <;> omega) | (simp_all [one, spSetOk] <;> grind)
              · exact SU
            ·
              refine J_skip <| Q_then <| J_seq <| J_seq <| J_drawL none mixed <| ip 0 rfl rfl rfl rfl (p_move rfl) <| ip 1 rfl rfl rfl rfl (p_nilCheck rfl) <| ip 2 rfl rfl rfl rfl (p_fieldAddr rfl fa77_0) ?_
              refine iv 3 rfl rfl rfl rfl (fun _ => v_loadL rfl ty75 HS rfl (by exact rfl)) ?_
              refine iv 4 rfl rfl rfl rfl (fun _ => v_loadA rfl ty54 HS CT) ?_
              refine iv 5 rfl rfl rfl rfl (fun _ => v_lookOk (ek := kI) (ev := kI) (a := p) rfl rfl ky54 Tryz.underlying75 zv56 HS) ?_
              refine J_slot (t := 45) (v := .tuple #[kI ((look ps p).getD (0, 0)), .bool (look ps p).isSome]) rfl (by cases look ps p <;> rfl) <| ip 6 rfl rfl rfl rfl (p_move rfl) <| ip 7 rfl rfl rfl rfl (p_extract rfl rfl) <| ip 8 rfl rfl rfl rfl (p_extract rfl rfl) <| i1 9 rfl <| x_alloc ty56 rfl fun b7 => i1 10 rfl <| x_store rfl rfl ty56 rfl SM SM RO PT ?_
              refine ip 11 rfl rfl rfl rfl (p_assign rfl) <| i0 <| qx <| mv rfl rfl <| nq ?_
              refine C_split rfl (fun h48 => ?_) (fun h48 => ?_)
              ·
                refine sr <| ag rfl rfl <| nq <| J_ret <| Q_then_ret <| J_spS (b := b) (o := o) (ps := ps) _ PX trivial ?_
                refine J_asTo (B := spA b o (spSet ps p f)) (by first | (simp_all [spSet, spSetOk]; done) | (simp_all [spSet, spSetOk] <;> grind)) ?_
                refine J_return (()) Tryz.results18 (.tmp rfl .nil) ?_ ?_
                · first | rfl | (simp_all [one, spSetOk]; done) | (simp_all [one, spSetOk] <;> omega) | (simp_all [one, spSetOk] <;> grind)
                · exact SU
              ·
                refine J_skip <| Q_then <| J_seq <| sr <| mv rfl rfl <| nc rfl rfl <| fa rfl rfl fa77_0 <| L_val rfl (v_loadL rfl ty75 HS rfl (by exact rfl)) ?_
                refine L_pur rfl (p_eqNilMap Tryz.underlying75 rfl) <| nq ?_
                refine C_split rfl (fun h53 => ?_) (fun h53 => ?_)
                ·
                  obtain rfl : ob = none := by simpa using h53
                  refine J_mapNone (ps := ps) HS fun hps => ?_
                  subst hps
                  refine J_region <| mv rfl rfl <| L_op <| x_makeMap (ek := kI) (ev := kI) rfl fun b55 => nc rfl rfl <| fa rfl rfl fa77_0 <| L_op <| x_storeL rfl rfl ty75 rfl SM SM rfl RO rfl PT ?_
                  refine nq <| J_seq <| J_drawT 6 mixed (by kernel_rfl) <| sm rfl rfl <| sp rfl (p_nilCheck rfl) <| sp rfl (p_fieldAddr rfl fa77_0) <| S_val rfl (v_loadL rfl ty75 HS rfl (by exact rfl)) ?_
                  refine S_val rfl (v_loadA rfl ty54 HS CT) ?_
                  refine S_val rfl (v_loadA rfl ty56 HS CT) ?_
                  refine S_nil <| L_op <| x_mapUpdate (ek := kI) (ev := kI) (a := p) (c := f) rfl rfl rfl ky54 Tryz.underlying75 PC ?_
                  refine nx <| ag rfl rfl <| nq <| J_ret <| J_spS (b := b) (o := o) (ps := ins [] p f) _ PX trivial ?_
                  refine J_asTo (B := spA b o (spSet [] p f)) (by first | (simp_all [spSet, spSetOk]; done) | (simp_all [spSet, spSetOk] <;> grind)) ?_
                  refine J_return (()) Tryz.results18 (.tmp rfl .nil) ?_ ?_
                  · first | rfl | (simp_all [one, spSetOk]; done) | (simp_all [one, spSetOk] <;> omega) | (simp_all [one, spSetOk] <;> grind)
                  · exact SU
                ·
                  obtain ⟨bm, rfl⟩ : ∃ bm, ob = some bm := by cases ob with | none => simp at h53 | some x => exact ⟨x, rfl⟩
                  refine J_skip <| Q_then <| J_seq <| J_drawT 6 mixed (by kernel_rfl) <| sm rfl rfl <| sp rfl (p_nilCheck rfl) <| sp rfl (p_fieldAddr rfl fa77_0) <| S_val rfl (v_loadL rfl ty75 HS rfl (by exact rfl)) ?_
                  refine S_val rfl (v_loadA rfl ty54 HS CT) ?_
                  refine S_val rfl (v_loadA rfl ty56 HS CT) ?_
                  refine S_nil <| L_op <| x_mapUpdate (ek := kI) (ev := kI) (a := p) (c := f) rfl rfl rfl ky54 Tryz.underlying75 PC ?_
                  refine nx <| ag rfl rfl <| nq <| J_ret <| J_spS (b := b) (o := o) (ps := ins ps p f) _ PX trivial ?_
                  refine J_asTo (B := spA b o (spSet ps p f)) (by first | (simp_all [spSet, spSetOk]; done) | (simp_all [spSet, spSetOk] <;> grind)) ?_
                  refine J_return (()) Tryz.results18 (.tmp rfl .nil) ?_ ?_
                  · first | rfl | (simp_all [one, spSetOk]; done) | (simp_all [one, spSetOk] <;> omega) | (simp_all [one, spSetOk] <;> grind)
                  · exact SU

def isT (i : Int) (c : Int × Int) : Bool := decide (c.1 = i)
def qAt (q : List (Int × Int)) (i : Int) : Int := idx (isT i) q
def qHas (q : List (Int × Int)) (i : Int) : Bool := q.any (isT i)
def qAddOk (q : List (Int × Int)) (i p : Int) : Bool := !qHas q i && okPrio p
def qAdd (q : List (Int × Int)) (i p : Int) : List (Int × Int) := if qAddOk q i p then q ++ [(i, p)] else q
def qRem (q : List (Int × Int)) (i : Int) : List (Int × Int) := q.take (qAt q i).toNat ++ (if qHas q i then q.drop ((qAt q i).toNat + 1) else q.drop (qAt q i).toNat)
def qGet (q : List (Int × Int)) (i : Int) : Option Int := (q.find? (isT i)).map Prod.snd
def qSetOk (q : List (Int × Int)) (i p : Int) : Bool := qHas q i && okPrio p
def qSet (q : List (Int × Int)) (i p : Int) : List (Int × Int) := if qSetOk q i p then (if (qGet q i).getD 0 = p then q else qAdd (qRem q i) i p) else q
theorem qAt_cases (q : List (Int × Int)) (i : Int) : (qAt q i = -1 ∧ qHas q i = false ∧ qGet q i = none ∧ qRem q i = q) ∨
    ∃ k : Nat, qAt q i = k ∧ k < q.length ∧ qHas q i = true ∧ ∃ c, q[k]? = some c ∧ qGet q i = some c.2 ∧ qRem q i = q.take k ++ q.drop (k + 1) := by
  rcases idx_cases (isT i) q with ⟨h1, h2⟩ | ⟨k, h1, h2, h3, c, h4, h5⟩
  · left
    have hh : qHas q i = false := by
      unfold qHas; rw [List.any_eq_false]; intro x hx; simp [h2 x hx]
    refine ⟨h1, hh, ?_, ?_⟩
    · unfold qGet; rw [List.find?_eq_none.2 (fun x hx => by simp [h2 x hx])]; rfl
    · unfold qRem qAt; rw [h1, hh]; simp
  · right
    have hh : qHas q i = true := by
      unfold qHas; rw [List.any_eq_true]; exact ⟨c, List.mem_of_getElem? h4, h5⟩
    refine ⟨k, h1, h2, hh, c, h4, ?_, ?_⟩
    · unfold qGet
      have e : q = q.take k ++ c :: q.drop (k + 1) := by
        rw [← (List.getElem?_eq_some_iff.1 h4).2, ← List.drop_eq_getElem_cons h2, List.take_append_drop]
      rw [e, List.find?_append, List.find?_eq_none.2 (fun x hx => by simp [h3 x hx]), List.find?_cons, h5]; rfl
    · unfold qRem qAt; rw [h1, hh]; simp
theorem qRem_len (q : List (Int × Int)) (i : Int) : (qRem q i).length ≤ q.length := by
  rcases qAt_cases q i with ⟨_, _, _, h⟩ | ⟨k, _, hk, _, _, _, _, h⟩
  · rw [h]; exact Nat.le_refl _
  · rw [h]; simp; omega
theorem qAdd_len (q : List (Int × Int)) (i p : Int) : (qAdd q i p).length ≤ q.length + 1 := by unfold qAdd; split <;> simp
theorem encI2_one (c : Int × Int) : ones (encI c) = true := rfl
theorem encI2_len (c : Int × Int) : (encI c).length = 2 := rfl
theorem delK_eq {α : Type} {xs : List α} {i : Nat} (hi : i < xs.length) (T R1 R2 : List α) : ((xs.take i ++ xs.drop (i + 1) ++ T).take (xs.length - 1) ++ R1 ++ R2).take (xs.length - 1) = xs.take i ++ xs.drop (i + 1) := by
  have hl : (xs.take i ++ xs.drop (i + 1)).length = xs.length - 1 := by simp; omega
  rw [List.take_left' hl, List.append_assoc, List.take_left' hl]
set_option maxRecDepth 100000 in
set_option maxHeartbeats 4000000 in
theorem indexfunc93 {E : World} {l : List As} {v : Value} {α : Type} {enc : α → List Value} {xs : List α} {g : FuncId} {caps : Array Value} {fn : Func} (hf : Tryz.prog.funcs[g]? = some fn) (hn : (fn.name == "runtime.NumGoroutine") = false) (hb : fn.body.isNone = false) {q : α → Bool} {C : As} (hg : ∀ (l' : List As) (c : α), Has C l' → Con Tryz.prog g (#[.agg (enc c).toArray] ++ caps) E l' (fun _ : Unit => .bool (q c)) (fun _ => l')) (hv : Has (row 190 2 v (xs.map enc)) l) (hc : Has C l) :
    Con Tryz.prog 93 #[v, .func (.func g) #[] caps] E l (fun _ : Unit => .int .i64 (idx q xs)) (fun _ => l) := by
  refine Con.body (vs := [v, .func (.func g) #[] caps]) (n := 19) Tryz.func93 rfl rfl [(0, v), (1, .func (.func g) #[] caps)] (env_ok 2 rfl) <| J_row hv fun hw a cap hv h1 h2 h3 => ?_
  subst hv
  have hm : cap ≤ 9223372036854775807 := h2
  have hml : (xs.map enc).length = xs.length := List.length_map _
  refine sr <| ag rfl rfl <| nxx <| mv rfl rfl <| L_pur rfl (p_len rfl Tryz.underlying78) <| mv rfl rfl <| nq <| J_block ?_
  refine J_loop (α := Nat) (fun i => i ≤ xs.length ∧ ∀ c ∈ xs.take i, q c = false) (fun _ => l) (fun i => [(8, .int .i64 (i : Int)), (7, .int .i64 (xs.map enc).length), (0, .slice a (xs.map enc).length cap), (1, .func (.func g) #[] caps)]) (fun i => xs.length - i) 0 ⟨by omega, by simp⟩ SU KE ?_
  intro i ⟨hi, hq⟩
  refine sr <| L_pur rfl (p_lss rfl rfl) <| nq <| J_seq ?_
  refine C_dec rfl (fun h9 => ?_) (fun h9 => ?_)
  ·
    have hlt : i < xs.length := by omega
    obtain ⟨b, o, rfl⟩ := h3 (by intro h; rw [h] at hml; simp at hml; omega)
    obtain ⟨c, hcc⟩ : ∃ c, xs[i]? = some c := ⟨_, List.getElem?_eq_getElem hlt⟩
    refine J_skip <| Q_then <| J_seq <| J_block <| sr <| mv rfl rfl <| ag rfl rfl <| nx ?_
    refine mv rfl rfl <| mv rfl rfl <| mv rfl rfl <| L_pur rfl (p_indexAddr rfl rfl Tryz.underlying78 ty190 (by omega) (by omega)) ?_
    refine L_val rfl (v_loadE rfl ty190 HS (by simp only [Int.toNat_natCast, List.getElem?_map, hcc]; rfl)) ?_
    refine L_op <| x_callc rfl hf hn hb (.cons rfl .nil) rfl (hg _ c hc) fun _ => nq ?_
    refine C_split rfl (fun h16 => ?_) (fun h16 => ?_)
    ·
      have hidx := idx_here hq hcc h16
      refine sr <| mv rfl rfl <| ag rfl rfl <| nq <| J_ret <| Q_blk_ret <| Q_then_ret <| Q_then_ret ?_
      refine Q_blk_ret <| Q_then_ret ?_
      refine J_return (()) Tryz.results93 (.tmp rfl .nil) ?_ ?_
      · simp [one, hidx]
      · exact SU
    ·
      refine J_skip <| Q_blk_normal <| qr <| L_pur rfl (p_add64 rfl rfl (by omega)) <| mv rfl rfl <| nq ?_
      exact J_again (i + 1) (by omega) (⟨by omega, take_false_succ hq hcc h16⟩) SU KE
  ·
    have hix : i = xs.length := by omega
    rw [hix, List.take_length] at hq
    have hidx := idx_none hq
    refine J_exit <| Q_then_exit <| Q_then_exit <| Q_blk_this <| qx <| ag rfl rfl <| nq <| J_ret ?_
    refine J_return (()) Tryz.results93 (.tmp rfl .nil) ?_ ?_
    · simp [one, hidx]
    · exact SU


set_option maxRecDepth 100000 in
set_option maxHeartbeats 4000000 in
theorem clo94 {E : World} {l : List As} {bc : Nat} {i : Int} {c : Int × Int} (hc : Has (blk bc 3 [.int .i64 i]) l) :
    Con Tryz.prog 94 #[.agg (encI c).toArray, .pointer (some ⟨bc, 0, none⟩)] E l (fun _ : Unit => .bool (isT i c)) (fun _ => l) := by
  refine Con.body (vs := [.agg (encI c).toArray, .pointer (some ⟨bc, 0, none⟩)]) (n := 8) Tryz.func94 rfl rfl [(0, .agg (encI c).toArray), (1, .pointer (some ⟨bc, 0, none⟩))] (env_ok 2 rfl) <| sr <| L_op <| x_box rfl rfl rfl fun b2 => ag rfl rfl <| nx <| fa rfl rfl fa190_0 <| L_val rfl (v_load rfl ty3 HS (by exact rfl)) ?_
  refine L_val rfl (v_load rfl ty3 HS (by exact rfl)) ?_
  refine L_pur rfl (p_eql rfl rfl) <| ag rfl rfl <| nq <| J_ret ?_
  exact J_return (()) Tryz.results94 (.tmp rfl .nil) rfl SU

set_option maxRecDepth 100000 in
set_option maxHeartbeats 4000000 in
theorem qAtC {E : World} {l m : List As} {b o : Nat} {q : List ID} (hp : Pick (rqA b o q) l m) {i : Int} :
    Con Tryz.prog 68 #[.pointer (some ⟨b, o, none⟩), .int .i64 i] E l (fun _ : Unit => .int .i64 (qAt q i)) (fun _ => rqA b o q :: m) := by
  refine Con.body (vs := [.pointer (some ⟨b, o, none⟩), .int .i64 i]) (n := 11) Tryz.func68 rfl rfl [(0, .pointer (some ⟨b, o, none⟩)), (1, .int .i64 i)] (env_ok 2 rfl) <| J_pick hp <| J_rqO fun v _ => sr <| L_op <| x_box rfl rfl rfl fun b3 => ag rfl rfl <| nx ?_
  refine mv rfl rfl <| nc rfl rfl <| fa rfl rfl fa80_0 <| L_val rfl (v_loadL rfl ty78 HS rfl (by exact rfl)) ?_
  refine L_pur rfl (p_makeFunc (.cons rfl .nil)) <| L_op <| x_call Tryz.func93 nm93 bd93 (.cons rfl (.cons rfl .nil)) rfl (indexfunc93 (xs := q) (enc := encI) (q := isT i) (C := blk b3 3 [.int .i64 i]) Tryz.func94 nm94 bd94 (fun l' c hc => clo94 hc) HS HS) fun _ => ?_
  refine ag rfl rfl <| nq <| J_ret <| J_rqS (b := b) (o := o) (xs := q) _ PX trivial ?_
  exact J_return (()) Tryz.results68 (.tmp rfl .nil) rfl SU

end Go.Pse
