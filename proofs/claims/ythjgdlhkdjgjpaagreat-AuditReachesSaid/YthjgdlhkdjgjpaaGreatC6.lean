/-
  The state: how all begins.
-/
import Derived.Test.YthjgdlhkdjgjpaaGreatC5
namespace Go.Pse
open Go.RowKit Go.Proofs

theorem J_cutAt {E : World} {l : List As} {n : Nat} {F : Env} {K : Act → World → Prop} {b o : Nat} (xs ys : List Value) (o' : Nat) {zs : List Value} (hz : zs = xs ++ ys) (ho : o + xs.length = o') (k : Jk E (fld b o' ys :: fld b o xs :: l) n F K) : Jk E (fld b o zs :: l) n F K :=
  J_split xs ys hz (by rw [ho]; exact J_pick (.there .here) k)
def encG (ct cu cs cc : Int) (sh : Bool) : List Value := [.int .i64 ct, .int .i64 cu, .int .i64 cs, .int .i64 cc, .bool sh]
abbrev kZero (ct cu cs cc : Int) (sh : Bool) (mb : Nat) : KS := { ct := ct, cu := cu, cs := cs, cc := cc, sh := sh, mb := mb, mem := List.replicate 64 zrow, sl := [], mr := [], mp := [], q := [], rt := [], tm := [], jn := [], nt := [], ep := [], rp := [], rg := [], th := [], sp := [], pr := [], be := [], tk := [], now := 0 }
set_option maxRecDepth 100000 in
theorem J_coNew {E : World} {l : List As} {n : Nat} {F : Env} {K : Act → World → Prop} {p mb bn be br bg bt bs bp bl bk : Nat} {ct cu cs cc : Int} {sh : Bool} (k : Jk E (coA p (kZero ct cu cs cc sh mb) :: l) n F K) :
  Jk E (blk p 92 [.int .i64 ct, .int .i64 cu, .int .i64 cs, .int .i64 cc, .bool sh, .pointer (some ⟨mb, 0, none⟩), .map none, .map none, .map none, .slice none 0 0, .map none, .slice none 0 0, .slice none 0 0, .map (some bn), .map (some be), .map (some br), .map (some bg), .map (some bt), .map (some bs), .map (some bp), .map (some bl), .map (some bk), .int .u64 0] :: memA mb (List.replicate 64 zrow) :: mapV kZ evA (.map (some bn)) [] :: mapV kZ evA (.map (some be)) [] :: mapV kZ evA (.map (some br)) [] :: mapV kZ evA (.map (some bg)) [] :: mapV kZ evT (.map (some bt)) [] :: mapV kZ evB (.map (some bs)) [] :: mapV kZ evZ (.map (some bp)) [] :: mapV kZ evL (.map (some bl)) [] :: mapV kZ evZ (.map (some bk)) [] :: l) n F K := by
 refine J_fld <| J_cutAt [.int .i64 ct, .int .i64 cu, .int .i64 cs, .int .i64 cc, .bool sh, .pointer (some ⟨mb, 0, none⟩)] [.map none, .map none, .map none, .slice none 0 0, .map none, .slice none 0 0, .slice none 0 0, .map (some bn), .map (some be), .map (some br), .map (some bg), .map (some bt), .map (some bs), .map (some bp), .map (some bl), .map (some bk), .int .u64 0] 6 rfl rfl <| J_cutAt [.map none] [.map none, .map none, .slice none 0 0, .map none, .slice none 0 0, .slice none 0 0, .map (some bn), .map (some be), .map (some br), .map (some bg), .map (some bt), .map (some bs), .map (some bp), .map (some bl), .map (some bk), .int .u64 0] 7 rfl rfl <| J_cutAt [.map none] [.map none, .slice none 0 0, .map none, .slice none 0 0, .slice none 0 0, .map (some bn), .map (some be), .map (some br), .map (some bg), .map (some bt), .map (some bs), .map (some bp), .map (some bl), .map (some bk), .int .u64 0] 8 rfl rfl <| J_cutAt [.map none] [.slice none 0 0, .map none, .slice none 0 0, .slice none 0 0, .map (some bn), .map (some be), .map (some br), .map (some bg), .map (some bt), .map (some bs), .map (some bp), .map (some bl), .map (some bk), .int .u64 0] 9 rfl rfl <| J_cutAt [.slice none 0 0] [.map none, .slice none 0 0, .slice none 0 0, .map (some bn), .map (some be), .map (some br), .map (some bg), .map (some bt), .map (some bs), .map (some bp), .map (some bl), .map (some bk), .int .u64 0] 10 rfl rfl <| J_cutAt [.map none] [.slice none 0 0, .slice none 0 0, .map (some bn), .map (some be), .map (some br), .map (some bg), .map (some bt), .map (some bs), .map (some bp), .map (some bl), .map (some bk), .int .u64 0] 11 rfl rfl <| J_cutAt [.slice none 0 0] [.slice none 0 0, .map (some bn), .map (some be), .map (some br), .map (some bg), .map (some bt), .map (some bs), .map (some bp), .map (some bl), .map (some bk), .int .u64 0] 12 rfl rfl ?_
 refine J_cutAt [.slice none 0 0] [.map (some bn), .map (some be), .map (some br), .map (some bg), .map (some bt), .map (some bs), .map (some bp), .map (some bl), .map (some bk), .int .u64 0] 13 rfl rfl <| J_cutAt [.map (some bn), .map (some be), .map (some br), .map (some bg), .map (some bt), .map (some bs), .map (some bp), .map (some bl), .map (some bk)] [.int .u64 0] 22 rfl rfl <| J_mapNil (ek := kI) (ev := evS) <| J_slS (b := p) (o := 6) (ps := []) none PX trivial ?_
 refine J_mapNil (ek := kI) (ev := evZ) <| J_mkS (b := p) (o := 7) (ps := []) none PX trivial ?_
 refine J_mapNil (ek := kI) (ev := kI) <| J_spS (b := p) (o := 8) (ps := []) none PX trivial ?_
 refine J_mapNil (ek := kI) (ev := evQ) <| J_rtS (b := p) (o := 10) (ps := []) none PX trivial ?_
 refine J_nil (el := 190) (sz := 2) <| J_rowEq (ys := ([] : List _).map encI) rfl <| J_rqS (b := p) (o := 9) (xs := []) (.slice none 0 0) PX trivial ?_
 refine J_nil (el := 248) (sz := 3) <| J_rowEq (ys := ([] : List _).map encT) rfl <| J_tmrS (b := p) (o := 11) (xs := []) (.slice none 0 0) PX trivial ?_
 refine J_nil (el := 38) (sz := 7) <| J_rowEq (ys := ([] : List _).map encD) rfl <| J_jnlS (b := p) (o := 12) (xs := []) (.slice none 0 0) PX trivial ?_
 refine J_pick (A := mapV kZ evA (.map (some bn)) []) PC ?_
 refine J_mapEq (qs := ptrs ([] : List (Int × Nat × Int × List ID))) rfl <| J_pick (A := mapV kZ evA (.map (some be)) []) PC ?_
 refine J_mapEq (qs := ptrs ([] : List (Int × Nat × List Msg × List Rcv))) rfl <| J_pick (A := mapV kZ evA (.map (some br)) []) PC ?_
 refine J_mapEq (qs := ptrs ([] : List (Int × Nat × ID × Bool))) rfl <| J_pick (A := mapV kZ evA (.map (some bg)) []) PC ?_
 refine J_mapEq (qs := ptrs ([] : List (Int × Nat × Rg))) rfl <| J_eachNil ntF <| J_eachNil epF <| J_eachNil rpF <| J_eachNil (rgF mb) <| J_coS (p := p) (s := kZero ct cu cs cc sh mb) bn be br bg bt bs bp bl bk PX trivial ?_
 exact k

def bOf (u : Int) (j : Nat) : Int := 1 + (j : Int) * (7 + u)
def hOf (ct cu : Int) : Int := 1 + ct * (7 + cu)
def kBase (ct cu cs cc : Int) (sh : Bool) (mb be bn : Nat) : KS := if sh then { kZero ct cu cs cc true mb with ep := [(hOf ct cu, be, [], [])], nt := [(hOf ct cu + 1, bn, 0, [])] } else kZero ct cu cs cc false mb
def kTh (s : KS) (h : Int) (bs : Nat → Nat × Nat) : Nat → KS
  | 0 => s
  | i + 1 => kThread (kTh s h bs i) (bOf s.cu i) (i : Int) h (bs i).1 (bs i).2
section
variable {s : KS} {h : Int} {bs : Nat → Nat × Nat}
theorem kTh_keep : ∀ i, (kTh s h bs i).ct = s.ct ∧ (kTh s h bs i).cu = s.cu ∧ (kTh s h bs i).cs = s.cs ∧ (kTh s h bs i).cc = s.cc ∧ (kTh s h bs i).sh = s.sh ∧ (kTh s h bs i).mb = s.mb ∧ (kTh s h bs i).mem = s.mem ∧ (kTh s h bs i).nt = s.nt ∧ (kTh s h bs i).ep = s.ep ∧ (kTh s h bs i).pr = s.pr ∧ (kTh s h bs i).now = s.now ∧ (kTh s h bs i).mr = s.mr ∧ (kTh s h bs i).rt = s.rt ∧ (kTh s h bs i).tm = s.tm ∧ (kTh s h bs i).jn = s.jn
  | 0 => ⟨rfl, rfl, rfl, rfl, rfl, rfl, rfl, rfl, rfl, rfl, rfl, rfl, rfl, rfl, rfl⟩
  | i + 1 => kTh_keep i
theorem kTh_cu (i : Nat) : (kTh s h bs i).cu = s.cu := (kTh_keep i).2.1
theorem kTh_rp : ∀ i, (kTh s h bs i).rp = s.rp ++ (List.range i).map fun j => (bOf s.cu j + 6, (bs j).2, (0, 0), false)
  | 0 => by simp [kTh]
  | i + 1 => by
    show (kTh s h bs i).rp ++ _ = _
    rw [kTh_rp i, List.range_succ, List.map_append, List.append_assoc]; rfl
theorem kTh_rg : ∀ i, (kTh s h bs i).rg = s.rg ++ (List.range i).map fun j => (bOf s.cu j + 3, (bs j).1, rgNew (bOf s.cu j + 4) (bOf s.cu j + 5) s.cs s.cc)
  | 0 => by simp [kTh]
  | i + 1 => by
    show (kTh s h bs i).rg ++ [(bOf s.cu i + 3, (bs i).1, rgNew (bOf s.cu i + 4) (bOf s.cu i + 5) (kTh s h bs i).cs (kTh s h bs i).cc)] = _
    rw [kTh_rg i, List.range_succ, List.map_append, List.append_assoc, (kTh_keep i).2.2.1, (kTh_keep i).2.2.2.1]; rfl
theorem kTh_qlen : ∀ i, (kTh s h bs i).q.length ≤ s.q.length + i
  | 0 => Nat.le_refl _
  | i + 1 => by
    have := kTh_qlen i
    have h2 := qAdd_len (kTh s h bs i).q (bOf s.cu i + 1) 4
    show (qAdd (kTh s h bs i).q (bOf s.cu i + 1) 4).length ≤ _
    omega
theorem kTh_congr {bs' : Nat → Nat × Nat} : ∀ {i : Nat}, (∀ j, j < i → bs j = bs' j) → kTh s h bs i = kTh s h bs' i
  | 0, _ => rfl
  | i + 1, hh => by rw [kTh, kTh, kTh_congr fun j hj => hh j (by omega), hh i (by omega)]
theorem bOf_ne {u : Int} {i j : Nat} (hu : 1 ≤ u ∧ u ≤ 12) (hi : i ≤ 2) (hj : j < i) : bOf u j ≠ bOf u i := by
  unfold bOf
  have : (i = 1 ∧ j = 0) ∨ (i = 2 ∧ j = 0) ∨ (i = 2 ∧ j = 1) := by omega
  rcases this with ⟨rfl, rfl⟩ | ⟨rfl, rfl⟩ | ⟨rfl, rfl⟩ <;> simp <;> omega
theorem kTh_fresh {i : Nat} (hr : s.rp = []) (hg : s.rg = []) (hu : 1 ≤ s.cu ∧ s.cu ≤ 12) (hi : i ≤ 2) : look (ptrs (kTh s h bs i).rp) (bOf s.cu i + 6) = none ∧ look (ptrs (kTh s h bs i).rg) (bOf s.cu i + 3) = none := by
  rw [kTh_rp, kTh_rg, hr, hg]
  constructor <;> (
    rw [look_none_iff]
    intro hm
    simp only [ptrs, List.nil_append, List.map_map, List.mem_map, List.mem_range, Function.comp] at hm
    obtain ⟨j, hj, he⟩ := hm
    exact bOf_ne hu hi hj (by omega))
end
theorem cut_in {n lo hi : Int} (h : lo ≤ hi) : lo ≤ cutI n lo hi ∧ cutI n lo hi ≤ hi := by unfold cutI; split <;> split <;> omega
structure NewG where
  p : Nat
  mb : Nat
  be : Nat
  bn : Nat
  bs : Nat → Nat × Nat
def kNew (ct cu cs cc : Int) (sh : Bool) (g : NewG) : KS := kTh (kBase (cutI ct 1 3) (cutI cu 1 12) (cutI cs 0 3) (cutI cc 0 4) sh g.mb g.be g.bn) (hOf (cutI ct 1 3) (cutI cu 1 12)) g.bs (cutI ct 1 3).toNat
set_option maxRecDepth 100000 in
set_option maxHeartbeats 4000000 in
theorem coNew {E : World} {l : List As} {ct cu cs cc : Int} {sh : Bool} :
    Con Tryz.prog 6 #[.agg (encG ct cu cs cc sh).toArray] E l (fun g : NewG => .pointer (some ⟨g.p, 0, none⟩)) (fun g => coA g.p (kNew ct cu cs cc sh g) :: l) := by
  refine Con.body (vs := [.agg (encG ct cu cs cc sh).toArray]) (n := 69) Tryz.func6 rfl rfl [(0, .agg (encG ct cu cs cc sh).toArray)] (env_ok 1 rfl) <| sr <| L_op <| x_box rfl rfl rfl fun b1 => ag rfl rfl <| nq <| J_seq <| J_drawL (some 15) mixed ?_
  refine ip 0 rfl rfl rfl rfl (p_fieldAddr rfl fa27_0) <| iv 1 rfl rfl rfl rfl (fun _ => v_load rfl ty3 HS (by exact rfl)) ?_
  refine ip 3 rfl rfl rfl rfl (p_fieldAddr rfl fa27_1) <| iv 4 rfl rfl rfl rfl (fun _ => v_load rfl ty3 HS (by exact rfl)) ?_
  refine ip 6 rfl rfl rfl rfl (p_fieldAddr rfl fa27_2) <| iv 7 rfl rfl rfl rfl (fun _ => v_load rfl ty3 HS (by exact rfl)) ?_
  refine ip 9 rfl rfl rfl rfl (p_fieldAddr rfl fa27_3) <| iv 10 rfl rfl rfl rfl (fun _ => v_load rfl ty3 HS (by exact rfl)) ?_
  refine ip 12 rfl rfl rfl rfl (p_fieldAddr rfl fa27_4) <| iv 13 rfl rfl rfl rfl (fun _ => v_load rfl ty4 HS (by exact rfl)) ?_
  refine i1 2 rfl <| x_call Tryz.func20 nm20 bd20 (.cons rfl (.cons rfl (.cons rfl .nil))) rfl (cCut) fun _ => i1 5 rfl <| x_call Tryz.func20 nm20 bd20 (.cons rfl (.cons rfl (.cons rfl .nil))) rfl (cCut) fun _ => i1 8 rfl <| x_call Tryz.func20 nm20 bd20 (.cons rfl (.cons rfl (.cons rfl .nil))) rfl (cCut) fun _ => i1 11 rfl <| x_call Tryz.func20 nm20 bd20 (.cons rfl (.cons rfl (.cons rfl .nil))) rfl (cCut) fun _ => ?_
  obtain ⟨X, hX⟩ : ∃ X, X = cutI ct 1 3 := ⟨_, rfl⟩
  obtain ⟨U, hU⟩ : ∃ U, U = cutI cu 1 12 := ⟨_, rfl⟩
  have hX2 := cut_in (n := ct) (lo := 1) (hi := 3) (by omega)
  have hU2 := cut_in (n := cu) (lo := 1) (hi := 12) (by omega)
  rw [← hX] at hX2
  rw [← hU] at hU2
  refine J_slot (t := 8) (v := .int .i64 X) rfl (by rw [hX]) <| J_slot (t := 11) (v := .int .i64 U) rfl (by rw [hU]) ?_
  obtain ⟨H, hH⟩ : ∃ H, H = hOf X U := ⟨_, rfl⟩
  have hH2 : 1 ≤ H ∧ H ≤ 60 ∧ X * (7 + U) = H - 1 := by
    rw [hH]; unfold hOf
    have : X = 1 ∨ X = 2 ∨ X = 3 := by omega
    rcases this with rfl | rfl | rfl <;> omega
  refine ip 14 rfl rfl rfl rfl (bld27 (.cons rfl (.cons rfl (.cons rfl (.cons rfl (.cons rfl .nil))))) (by repeat constructor)) <| i1 15 rfl <| x_store rfl rfl ty27 rfl SM SM RO PT ?_
  refine J_pick (A := blk b1 _ _) PC ?_
  refine J_asTo (B := blk b1 27 (encG X U (cutI cs 0 3) (cutI cc 0 4) sh)) (by rfl) <| i0 <| Q_then <| J_seq <| J_drawP .nil ?_
  refine' Pa.det [] rfl rfl rfl rfl (by kernel_rfl) (by decide) ?_ ?_ ?_
  rotate_left
  ·
    intro γ Rr X K k
    refine J_val (v_loadA rfl ty27 HS CT) rfl rfl rfl ?_
    exact k
  · exact fun _ _ _ => rfl
  refine' Pa.nat [] rfl rfl rfl rfl (by kernel_rfl) (by decide) ?_ ?_ ?_
  rotate_left 2
  ·
    intro γ Rr X K k
    refine x_call Tryz.func21 nm21 bd21 (.cons rfl .nil) rfl (memNew) fun b22 => ?_
    exact k b22
  · exact fun _ _ _ => ⟨rfl, rfl⟩
  refine' Pa.nat [] rfl rfl rfl rfl (by kernel_rfl) (by decide) ?_ ?_ ?_
  rotate_left 2
  ·
    intro γ Rr X K k
    refine x_makeMap (ek := kZ) (ev := evA) rfl fun b23 => ?_
    exact k b23
  · exact fun _ _ _ => ⟨rfl, rfl⟩
  refine' Pa.nat [] rfl rfl rfl rfl (by kernel_rfl) (by decide) ?_ ?_ ?_
  rotate_left 2
  ·
    intro γ Rr X K k
    refine x_makeMap (ek := kZ) (ev := evA) rfl fun b24 => ?_
    exact k b24
  · exact fun _ _ _ => ⟨rfl, rfl⟩
  refine' Pa.nat [] rfl rfl rfl rfl (by kernel_rfl) (by decide) ?_ ?_ ?_
  rotate_left 2
  ·
    intro γ Rr X K k
    refine x_makeMap (ek := kZ) (ev := evA) rfl fun b25 => ?_
    exact k b25
  · exact fun _ _ _ => ⟨rfl, rfl⟩
  refine' Pa.nat [] rfl rfl rfl rfl (by kernel_rfl) (by decide) ?_ ?_ ?_
  rotate_left 2
  ·
    intro γ Rr X K k
    refine x_makeMap (ek := kZ) (ev := evA) rfl fun b26 => ?_
    exact k b26
  · exact fun _ _ _ => ⟨rfl, rfl⟩
  refine' Pa.nat [] rfl rfl rfl rfl (by kernel_rfl) (by decide) ?_ ?_ ?_
  rotate_left 2
  ·
    intro γ Rr X K k
    refine x_makeMap (ek := kZ) (ev := evT) rfl fun b27 => ?_
    exact k b27
  · exact fun _ _ _ => ⟨rfl, rfl⟩
  refine' Pa.nat [] rfl rfl rfl rfl (by kernel_rfl) (by decide) ?_ ?_ ?_
  rotate_left 2
  ·
    intro γ Rr X K k
    refine x_makeMap (ek := kZ) (ev := evB) rfl fun b28 => ?_
    exact k b28
  · exact fun _ _ _ => ⟨rfl, rfl⟩
  refine' Pa.nat [] rfl rfl rfl rfl (by kernel_rfl) (by decide) ?_ ?_ ?_
  rotate_left 2
  ·
    intro γ Rr X K k
    refine x_makeMap (ek := kZ) (ev := evZ) rfl fun b29 => ?_
    exact k b29
  · exact fun _ _ _ => ⟨rfl, rfl⟩
  refine' Pa.nat [] rfl rfl rfl rfl (by kernel_rfl) (by decide) ?_ ?_ ?_
  rotate_left 2
  ·
    intro γ Rr X K k
    refine x_makeMap (ek := kZ) (ev := evL) rfl fun b30 => ?_
    exact k b30
  · exact fun _ _ _ => ⟨rfl, rfl⟩
  refine' Pa.nat [] rfl rfl rfl rfl (by kernel_rfl) (by decide) ?_ ?_ ?_
  rotate_left 2
  ·
    intro γ Rr X K k
    refine x_makeMap (ek := kZ) (ev := evZ) rfl fun b31 => ?_
    exact k b31
  · exact fun _ _ _ => ⟨rfl, rfl⟩
  refine Pa.fin 14 3 rfl rfl mixed rfl (by kernel_rfl) SU (fun _ _ _ _ _ h => h) fun γ => ?_
  generalize (γ 22).1 = b22
  generalize (γ 23).1 = b23
  generalize (γ 24).1 = b24
  generalize (γ 25).1 = b25
  generalize (γ 26).1 = b26
  generalize (γ 27).1 = b27
  generalize (γ 28).1 = b28
  generalize (γ 29).1 = b29
  generalize (γ 30).1 = b30
  generalize (γ 31).1 = b31
  refine ap 11 rfl rfl rfl rfl (bld92 (.cons rfl (.cons rfl (.cons rfl (.cons rfl (.cons rfl (.cons rfl (.cons rfl (.cons rfl (.cons rfl (.cons rfl (.cons rfl .nil))))))))))) (by repeat constructor)) <| A_one (i := 12) (by kernel_rfl) rfl <| x_box rfl rfl rfl fun b33 => J_pick (A := mapV kZ evZ (.map (some b31)) []) PC ?_
  refine J_pick (A := mapV kZ evL (.map (some b30)) []) PC ?_
  refine J_pick (A := mapV kZ evZ (.map (some b29)) []) PC ?_
  refine J_pick (A := mapV kZ evB (.map (some b28)) []) PC ?_
  refine J_pick (A := mapV kZ evT (.map (some b27)) []) PC ?_
  refine J_pick (A := mapV kZ evA (.map (some b26)) []) PC ?_
  refine J_pick (A := mapV kZ evA (.map (some b25)) []) PC ?_
  refine J_pick (A := mapV kZ evA (.map (some b24)) []) PC ?_
  refine J_pick (A := mapV kZ evA (.map (some b23)) []) PC ?_
  refine J_pick (A := memA b22 _) PC ?_
  refine J_pick (A := blk b33 _ _) PC ?_
  refine J_coNew <| ap 13 rfl rfl rfl rfl (p_assign rfl) <| A_done (by kernel_rfl) <| qx <| fa rfl rfl fa27_0 <| L_val rfl (v_load rfl ty3 HS (by exact rfl)) ?_
  refine fa rfl rfl fa27_1 <| L_val rfl (v_load rfl ty3 HS (by exact rfl)) ?_
  refine L_pur rfl (p_add64 rfl rfl (by omega)) <| L_pur rfl (p_mul64 rfl rfl (by omega)) <| L_pur rfl (p_add64 rfl rfl (by omega)) <| J_slot (t := 40) (v := .int .i64 H) rfl (by rw [hH2.2.2]; congr 1; omega) <| ag rfl rfl <| nq ?_
  refine J_cut (α := Nat × Nat) (fun x => coA b33 (kBase X U (cutI cs 0 3) (cutI cc 0 4) sh b22 x.1 x.2) :: blk b1 27 (encG X U (cutI cs 0 3) (cutI cc 0 4) sh) :: l) (fun x => [(3, .pointer (some ⟨b33, 0, none⟩)), (4, .int .i64 H), (1, .pointer (some ⟨b1, 0, none⟩))]) ?_ ?_
  ·
    refine sr <| fa rfl rfl fa27_4 <| L_val rfl (v_load rfl ty4 HS (by exact rfl)) ?_
    refine nq ?_
    refine C_split rfl (fun h42 => ?_) (fun h42 => ?_)
    ·
      obtain rfl : sh = true := h42
      refine J_pick (A := coA b33 _) PC ?_
      refine J_coO fun bn be br bg bt bs bp bl bk _ => sr <| mv rfl rfl <| nc rfl rfl <| fa rfl rfl fa92_10 <| L_val rfl (v_loadL (o := 13) (i := 1) rfl ty62 HS rfl (by exact rfl)) ?_
      refine mv rfl rfl <| L_pur rfl (bld97 .nil (by repeat constructor)) <| L_op <| x_box rfl rfl rfl fun b49 => L_op <| x_mapUpdate (ek := kZ) (ev := evA) (a := H) (c := b49) rfl rfl rfl ky3 Tryz.underlying62 PC ?_
      refine ny <| mv rfl rfl <| nc rfl rfl <| fa rfl rfl fa92_9 <| L_val rfl (v_loadL (o := 13) (i := 0) rfl ty61 HS rfl (by exact rfl)) ?_
      refine mv rfl rfl <| L_pur rfl (p_add64 rfl rfl (by omega)) <| L_pur rfl (bld104 .nil (by repeat constructor)) <| L_op <| x_box rfl rfl rfl fun b57 => L_op <| x_mapUpdate (ek := kZ) (ev := evA) (a := H + 1) (c := b57) rfl rfl rfl ky3 Tryz.underlying61 PC ?_
      refine nq <| J_pick (A := blk b49 _ _) PC ?_
      refine J_asTo (B := blk b49 97 [.slice none 0 0, .slice none 0 0]) (by rfl) <| J_epNew <| J_asTo (B := epF (H, b49, [], [])) (by rfl) <| J_pick (A := each epF _) PC ?_
      refine J_pick (A := epF _) PC ?_
      refine J_eachPush <| J_asTo (B := each epF [(H, b49, [], [])]) (by rfl) <| J_pick (A := blk b57 _ _) PC ?_
      refine J_asTo (B := blk b57 104 [.int .u32 0, .slice none 0 0, .map none]) (by rfl) <| J_ntNew <| J_asTo (B := ntF (H + 1, b57, 0, [])) (by rfl) <| J_pick (A := each ntF _) PC ?_
      refine J_pick (A := ntF _) PC ?_
      refine J_eachPush <| J_asTo (B := each ntF [(H + 1, b57, 0, [])]) (by rfl) <| J_pick (A := mapV kZ evA (.map (some be)) _) PC ?_
      refine J_mapEq (qs := ptrs [(H, b49, ([] : List Msg), ([] : List Rcv))]) (by rfl) <| J_pick (A := mapV kZ evA (.map (some bn)) _) PC ?_
      refine J_mapEq (qs := ptrs [(H + 1, b57, (0 : Int), ([] : List ID))]) (by rfl) <| J_coS (p := b33) (s := { kZero X U (cutI cs 0 3) (cutI cc 0 4) true b22 with ep := [(H, b49, [], [])], nt := [(H + 1, b57, 0, [])] }) bn be br bg bt bs bp bl bk PX trivial ?_
      refine J_asTo (B := coA b33 (kBase X U (cutI cs 0 3) (cutI cc 0 4) true b22 b49 b57)) (by rw [hH]; rfl) ?_
      exact J_at (α := Nat × Nat) (L := fun x => coA b33 (kBase X U (cutI cs 0 3) (cutI cc 0 4) true b22 x.1 x.2) :: blk b1 27 (encG X U (cutI cs 0 3) (cutI cc 0 4) true) :: l) (G := fun x => [(3, .pointer (some ⟨b33, 0, none⟩)), (4, .int .i64 H), (1, .pointer (some ⟨b1, 0, none⟩))]) (b49, b57) SU KE
    ·
      refine J_skip <| Q_then ?_
      obtain rfl : sh = false := by simpa using h42
      refine J_pick (A := coA b33 _) PC ?_
      refine J_asTo (B := coA b33 (kBase X U (cutI cs 0 3) (cutI cc 0 4) false b22 0 0)) (by rfl) ?_
      exact J_at (α := Nat × Nat) (L := fun x => coA b33 (kBase X U (cutI cs 0 3) (cutI cc 0 4) false b22 x.1 x.2) :: blk b1 27 (encG X U (cutI cs 0 3) (cutI cc 0 4) false) :: l) (G := fun x => [(3, .pointer (some ⟨b33, 0, none⟩)), (4, .int .i64 H), (1, .pointer (some ⟨b1, 0, none⟩))]) (0, 0) SU KE
  ·
    intro x
    obtain ⟨be, bn⟩ := x
    obtain ⟨S, hS⟩ : ∃ S, S = (kBase X U (cutI cs 0 3) (cutI cc 0 4) sh b22 be bn) := ⟨_, rfl⟩
    have hSf : S.cu = U ∧ S.rp = [] ∧ S.rg = [] ∧ S.q = [] := by rw [hS]; unfold kBase; split <;> exact ⟨rfl, rfl, rfl, rfl⟩
    obtain ⟨hS1, hS2, hS3, hS4⟩ := hSf
    refine J_asTo (B := coA b33 S) (by rw [hS]) <| J_seq <| sr <| fa rfl rfl fa27_0 <| L_val rfl (v_load rfl ty3 HS (by exact rfl)) ?_
    refine mv rfl rfl <| nq <| J_block <| J_loop (α := Nat × (Nat → Nat × Nat)) (fun x => (x.1 : Int) ≤ X) (fun x => coA b33 (kTh S H x.2 x.1) :: l) (fun x => [(60, .int .i64 (x.1 : Int)), (59, .int .i64 X), (3, .pointer (some ⟨b33, 0, none⟩)), (4, .int .i64 H)]) (fun x => X.toNat - x.1) (0, fun _ => (0, 0)) (by simp; omega) SU KE ?_
    intro x hi
    obtain ⟨i, bs⟩ := x
    dsimp only at hi ⊢
    refine sr <| L_pur rfl (p_lss rfl rfl) <| nq <| J_seq ?_
    refine C_dec rfl (fun h61 => ?_) (fun h61 => ?_)
    ·
      refine J_skip <| Q_then <| J_seq <| J_block <| sr <| mv rfl rfl <| ag rfl rfl <| ny ?_
      refine mv rfl rfl <| mv rfl rfl <| mv rfl rfl <| L_op <| x_call Tryz.func22 nm22 bd22 (.cons rfl (.cons rfl (.cons rfl .nil))) rfl (coThread (b := bOf S.cu i) (s := kTh S H bs i) (t := (i : Int)) (h := H) PC (by omega) (by rw [kTh_cu]; omega) (by rw [kTh_cu]; rfl) (by omega) (by have := kTh_qlen (s := S) (h := H) (bs := bs) i; rw [hS4] at this; simp at this; omega) (kTh_fresh hS2 hS3 (by omega) (by omega)).1 (kTh_fresh hS2 hS3 (by omega) (by omega)).2) fun x66 => ?_
      refine J_asTo (B := coA b33 (kTh S H (fun j => if j = i then x66 else bs j) (i + 1))) (by rw [kTh, if_pos rfl, kTh_congr (bs := fun j => if j = i then x66 else bs j) (bs' := bs) (fun j hj => if_neg (by omega))]) <| L_nil <| Q_blk_normal <| qr <| L_pur rfl (p_add64 rfl rfl (by omega)) <| mv rfl rfl <| nq ?_
      exact J_again ((i + 1, fun j => if j = i then x66 else bs j)) (by simp; omega) (by simp; omega) SU KE
    ·
      refine J_pick (A := coA b33 _) PC ?_
      refine J_asTo (B := coA b33 (kNew ct cu cs cc sh ⟨b33, b22, be, bn, bs⟩)) (by unfold kNew; rw [← hX, ← hU, ← hH, ← hS]; congr 2; omega) <| J_exit <| Q_then_exit <| Q_then_exit <| Q_blk_this <| qx <| mv rfl rfl <| ag rfl rfl ?_
      refine nq <| J_ret ?_
      refine J_return (⟨b33, b22, be, bn, bs⟩) Tryz.results6 (.tmp rfl .nil) ?_ ?_
      · rfl
      · exact SU

end Go.Pse
