/-
  Own texts, merged: C61, C62, C63, C64, C65, C66, C67, C68, C69, C70, C71, C72.
-/
import Derived.Test.YtjhbhjenmijmfaaGreatBC3
set_option linter.unusedVariables false
set_option linter.unusedSimpArgs false
set_option maxRecDepth 100000
set_option maxHeartbeats 4000000
namespace Go.Pse
open Go.RowKit Go.Proofs
/-! ### plain: slots, by what they hold; a tree of slots -/
def heirs (ps : List (Place × SV)) (q : SV → Bool) : List Place := sortP ((ps.filter fun e => q e.2).map Prod.fst)
def kids (ps : List (Place × SV)) (p : Place) : List Place := if (look ps p).isSome then heirs ps fun s => decide (s.2 = p) else []
def namesC (a b : Cap) : Bool := decide (a.kind = b.kind) && decide (a.obj = b.obj) && (decide (a.kind ≠ 1) || decide (a.size = b.size))
def named (ps : List (Place × SV)) (c : Cap) : List Place := heirs ps fun s => namesC s.1 c
theorem heirs_len (ps : List (Place × SV)) (q : SV → Bool) : (heirs ps q).length ≤ ps.length := by
  unfold heirs; rw [sortP_len, List.length_map]; exact List.length_filter_le _ _
theorem kids_len (ps : List (Place × SV)) (p : Place) : (kids ps p).length ≤ ps.length := by
  unfold kids; split
  · exact heirs_len _ _
  · exact Nat.zero_le _
theorem heirs_mem {ps : List (Place × SV)} {q : SV → Bool} {a : Place} : a ∈ heirs ps q ↔ ∃ s, (a, s) ∈ ps ∧ q s = true := by
  unfold heirs sortP
  rw [sortF_mem, List.mem_map]
  constructor
  · rintro ⟨e, he, rfl⟩
    have := List.mem_filter.1 he
    exact ⟨e.2, this.1, this.2⟩
  · rintro ⟨s, h1, h2⟩
    exact ⟨(a, s), List.mem_filter.2 ⟨h1, h2⟩, rfl⟩
def comeS (ps : List (Place × SV)) (q : SV → Bool) (done : List Place) : List Place := done.filter fun k => q ((look ps k).getD s0)
theorem comeS_on {ps : List (Place × SV)} {q : SV → Bool} {done : List Place} {k : Place} {u : SV} (hK : Keyd ps) (hm : (k, u) ∈ ps) (h : q u = true) : comeS ps q (done ++ [k]) = comeS ps q done ++ [k] := by
  unfold comeS
  rw [List.filter_append]
  congr 1
  simp [look_mem hK hm, h]
theorem comeS_off {ps : List (Place × SV)} {q : SV → Bool} {done : List Place} {k : Place} {u : SV} (hK : Keyd ps) (hm : (k, u) ∈ ps) (h : q u = false) : comeS ps q (done ++ [k]) = comeS ps q done := by
  unfold comeS
  rw [List.filter_append]
  simp [look_mem hK hm, h]
theorem comeS_len (ps : List (Place × SV)) (q : SV → Bool) (done : List Place) : (comeS ps q done).length ≤ done.length := List.length_filter_le _ _
theorem comeS_perm {ps : List (Place × SV)} {q : SV → Bool} {done : List Place} (hK : Keyd ps) (h : done.Perm (ps.map Prod.fst)) : (comeS ps q done).Perm ((ps.filter fun e => q e.2).map Prod.fst) := by
  unfold comeS
  have h1 := h.filter fun k => q ((look ps k).getD s0)
  rw [List.filter_map] at h1
  have h2 : (ps.filter ((fun k => q ((look ps k).getD s0)) ∘ Prod.fst)) = ps.filter fun e => q e.2 := List.filter_congr fun e he => by
    simp only [Function.comp]
    rw [look_mem hK (show (e.1, e.2) ∈ ps from he)]; rfl
  rw [h2] at h1
  exact h1
def turnL (ps : List (Place × SV)) (to : Place) (l : List Place) : List (Place × SV) := l.foldl (fun t k => ins t k (((look t k).getD s0).1, to)) ps
def turnS (ps : List (Place × SV)) (a to : Place) : List (Place × SV) := turnL ps to (kids ps a)
theorem turnL_snoc {ps : List (Place × SV)} {to k : Place} {l : List Place} : turnL ps to (l ++ [k]) = ins (turnL ps to l) k (((look (turnL ps to l) k).getD s0).1, to) := by unfold turnL; rw [List.foldl_append]; rfl
theorem turnL_some {to a : Place} : ∀ {l : List Place} {ps : List (Place × SV)}, (look ps a).isSome = true → (look (turnL ps to l) a).isSome = true
  | [], _, h => h
  | k :: l, ps, h => turnL_some (l := l) (ps := ins ps k (((look ps k).getD s0).1, to)) (by rw [look_ins]; split <;> simp [h])
theorem kids_some {ps : List (Place × SV)} {p a : Place} (hK : Keyd ps) (h : a ∈ kids ps p) : (look ps a).isSome = true := by
  unfold kids at h
  split at h
  · obtain ⟨s, h1, _⟩ := heirs_mem.1 h
    rw [look_mem hK h1]; rfl
  · cases h
def dropS (ps : List (Place × SV)) (p : Place) : List (Place × SV) := match look ps p with
  | none => ps
  | some s => del (turnS ps p s.2) p
def moveOk (ps : List (Place × SV)) (a b : Place) : Bool := (look ps a).isSome && canP b && !(look ps b).isSome
def moveS (ps : List (Place × SV)) (a b : Place) : List (Place × SV) := if moveOk ps a b then ins (del (turnS ps a b) a) b ((look ps a).getD s0) else ps
def belowL (ps : List (Place × SV)) : Nat → List Place → List Place → Option (List Place)
  | _, done, [] => some done
  | 0, _, _ :: _ => none
  | n + 1, done, p :: ts => belowL ps n (done ++ [p]) (ts ++ kids ps p)
theorem belowL_len {ps : List (Place × SV)} : ∀ {n : Nat} {done todo L : List Place}, belowL ps n done todo = some L → (done ++ todo).length ≤ L.length
  | n, done, [], L, h => by
    unfold belowL at h
    cases h; simp
  | 0, done, p :: ts, L, h => by simp [belowL] at h
  | n + 1, done, p :: ts, L, h => by
    rw [belowL] at h
    have := belowL_len h
    simp at this ⊢
    omega
theorem J_slKeyd {E : World} {l : List As} {n : Nat} {F : Env} {K : Act → World → Prop} {b o : Nat} {ps : List (Place × SV)} (k : Keyd ps → Jk E (slA b o ps :: l) n F K) : Jk E (slA b o ps :: l) n F K :=
  J_slO fun ob _ => J_mapV (ek := kI) (ev := evS) (ps := ps) HS (fun _ h1 => by
    subst h1
    exact J_slS (b := b) (o := o) (ps := []) ob PX trivial (k Keyd.nil)) (fun bm _ hK => J_slS (b := b) (o := o) (ps := ps) ob PX trivial (k hK))
theorem whichC {E : World} {l m : List As} {b o : Nat} {ps : List (Place × SV)} {g : FuncId} {caps : Array Value} {fn : Func} (hf : Tryz.prog.funcs[g]? = some fn) (hn : (fn.name == "runtime.NumGoroutine") = false) (hb : fn.body.isNone = false) {q : SV → Bool} {C : As} (hg : ∀ (l' : List As) (s : SV), Has C l' → Con Tryz.prog g (#[evS s] ++ caps) E l' (fun _ : Unit => .bool (q s)) (fun _ => l')) (hp : Picks [C, slA b o ps] l m) (hz : ps.length ≤ 100000) :
  Con Tryz.prog 291 #[.pointer (some ⟨b, o, none⟩), .func (.func g) #[] caps] E l (fun v : Value => v) (fun v => row 67 2 v ((heirs ps q).map encI) :: C :: slA b o ps :: m) := by
 refine Con.body (vs := [.pointer (some ⟨b, o, none⟩), .func (.func g) #[] caps]) (n := 28) Tryz.func291 rfl rfl [(0, .pointer (some ⟨b, o, none⟩)), (1, .func (.func g) #[] caps)] (env_ok 2 rfl) <| J_picks2 hp <| J_pick (A := slA b o ps) PC ?_
 refine J_slO fun ob _ => sr <| ag rfl rfl <| nx <| ag rfl rfl <| J_nil (el := 67) (sz := 2) <| nxx <| mv rfl rfl ?_
 refine nc rfl rfl <| fa rfl rfl fa108_0 <| L_val rfl (v_loadL rfl ty106 HS rfl (by exact rfl)) ?_
 refine L_op <| x_range (ek := kI) (ev := evS) rfl Tryz.underlying106 PC rfl fun r12 => ?_
 refine nq <| J_block <| J_rangeKeyd (ek := kI) (ev := evS) (ps := ps) HS fun hK => ?_
 refine J_loop2 (fun done v => Come ps done) (fun done v => rangeA kI evS (.map ob) r12 ps done :: row 67 2 v ((comeS ps q done).map encI) :: C :: fld b o [.map ob] :: m) (fun done v => [(12, .pointer (some ⟨r12, 0, none⟩)), (5, v), (0, .pointer (some ⟨b, o, none⟩)), (1, .func (.func g) #[] caps)]) (fun done v => ps.length - done.length) [] _ Come.nil SU KE ?_
 intro done v hC
 refine sr ?_
 refine L_op (x_next (ek := kI) (ev := evS) rfl PC rfl (fun k13 u13 hm13 hn13 => ?_) (fun hd13 => ?_))
 have hlt := hC.lt hK hm13 hn13
 have hcl := comeS_len ps q done
 refine L_pur rfl (p_extract rfl rfl) <| nq <| J_seq <| C_true rfl <| J_skip <| Q_then <| J_block <| sr ?_
 refine L_val rfl (v_entry (ek := kI) (ev := evS) rfl HS (by simp) hm13) ?_
 refine L_pur rfl (p_extract rfl rfl) <| L_pur rfl (p_extract rfl rfl) <| L_op <| x_alloc ty67 rfl fun b6 => L_op <| x_alloc ty184 rfl fun b7 => L_op <| x_store rfl rfl ty67 rfl SM SM RO PT ?_
 refine L_op <| x_store rfl rfl ty184 rfl SM SM RO PT ?_
 refine nx <| mv rfl rfl <| L_val rfl (v_loadA rfl ty184 HS CT) ?_
 refine L_op <| x_callc rfl hf hn hb (.cons rfl .nil) rfl (hg _ u13 HS) fun _ => ?_
 refine nq ?_
 refine C_split rfl (fun h20 => ?_) (fun h20 => ?_)
 refine J_region <| mv rfl rfl <| L_val rfl (v_loadA rfl ty67 HS CT) ?_
 refine L_op <| x_lit (vals := [_]) Tryz.underlying81 ty67 rfl (.cons rfl .nil) (.agg .nil) (Wf.cons rfl rfl Wf.nil) rfl (by decide) rfl rfl <| JR fun a23 c23 hw23 hl23 hm23 hz23 => L_op <| x_app rfl rfl Tryz.underlying81 ty67 rfl rfl PC (fun w H => sep_reads HS H) (by simp; omega) (by simp; omega) rfl <| JE ((comeS ps q (done ++ [k13])).map encI) (by rw [comeS_on hK hm13 h20]; simp [encI]) fun a24 c24 hw24 hl24 hm24 hz24 => ag rfl rfl <| J_nil (el := 67) (sz := 2) ?_
 refine L_nil <| Q_blk_normal <| Q_then ?_
 
 exact J_again2 (done ++ [k13]) _ (by have := hC.lt hK hm13 hn13; simp; omega) (hC.step hm13 hn13) SU KE
 refine J_skip <| Q_blk_normal <| Q_then <| J_pick (A := row 67 2 v _) PC ?_
 refine J_rowEq (ys := (comeS ps q (done ++ [k13])).map encI) (by rw [comeS_off hK hm13 h20]) ?_
 exact J_again2 (done ++ [k13]) _ (by have := hC.lt hK hm13 hn13; simp; omega) (hC.step hm13 hn13) SU KE
 have hperm := comeS_perm (q := q) hK (hC.perm hK hd13)
 have hlen : (comeS ps q done).length ≤ 1000000 := by
  rw [hperm.length_eq, List.length_map]
  have := List.length_filter_le (fun e : Place × SV => q e.2) ps
  omega
 refine L_pur rfl (p_extract rfl rfl) <| nq <| J_seq <| C_false rfl <| J_exit <| Q_then_exit <| Q_then_exit <| Q_blk_this ?_
 refine qx <| mv rfl rfl <| L_op <| xc fc101 (.cons rfl (.cons rfl .nil)) rfl (slSort (xs := comeS ps q done) PC hlen) fun _ => ?_
 refine nx <| mv rfl rfl <| ag rfl rfl <| nq <| J_ret <| J_pick (A := row 67 2 v _) PC ?_
 refine J_rowEq (ys := (heirs ps q).map encI) (by rw [sortP_perm hperm]; rfl) <| J_pick (A := rangeA kI evS _ _ _ _) PC ?_
 refine J_rangeEnd <| J_slS (b := b) (o := o) (ps := ps) _ PX trivial ?_
 exact J_return (v) Tryz.results291 (.tmp rfl .nil) rfl SU
theorem childClo {E : World} {l : List As} {bc : Nat} {i : Place} {s : SV} (hc : Has (blk bc 67 (encI i)) l) :
    Con Tryz.prog 294 #[evS s, .pointer (some ⟨bc, 0, none⟩)] E l (fun _ : Unit => .bool (decide (s.2 = i))) (fun _ => l) := by
  refine Con.body (vs := [evS s, .pointer (some ⟨bc, 0, none⟩)]) (n := 8) Tryz.func294 rfl rfl [(0, evS s), (1, .pointer (some ⟨bc, 0, none⟩))] (env_ok 2 rfl) <| sr <| L_op <| x_box rfl rfl rfl fun b2 => ag rfl rfl <| nx <| fa rfl rfl fa184_1 <| L_val rfl (v_loadA rfl ty67 HS CT) ?_
  refine L_val rfl (v_loadA rfl ty67 HS CT) ?_
  refine L_pur rfl (p_eqv rfl rfl (fun w => eg67 _ _ _ _ _ w) (fun w => eqv67 _ _ _ _ w)) <| J_slot (t := 7) (v := .bool (decide (s.2 = i))) rfl (by congr 1; simp [Prod.ext_iff]) <| ag rfl rfl <| nq <| J_ret ?_
  refine J_return (()) Tryz.results294 (.tmp rfl .nil) ?_ ?_
  · rfl
  · exact SU
theorem namesG {E : World} {l : List As} {c d : Cap} :
    Con Tryz.prog 293 #[.agg (encC c).toArray, .agg (encC d).toArray] E l (fun _ : Unit => .bool (namesC c d)) (fun _ => l) := by
  refine Con.body (vs := [.agg (encC c).toArray, .agg (encC d).toArray]) (n := 29) Tryz.func293 rfl rfl [(0, .agg (encC c).toArray), (1, .agg (encC d).toArray)] (env_ok 2 rfl) <| sr <| L_op <| x_box rfl rfl rfl fun b2 => L_op <| x_box rfl rfl rfl fun b3 => ag rfl rfl <| nx ?_
  refine fa rfl rfl fa69_0 <| L_val rfl (v_load rfl ty3 HS (by exact rfl)) ?_
  refine fa rfl rfl fa69_0 <| L_val rfl (v_load rfl ty3 HS (by exact rfl)) ?_
  refine L_pur rfl (p_eql rfl rfl) <| mv rfl rfl ?_
  refine J_gsplit (t := 10) rfl (fun h10 => ?_) (fun h10 => ?_)
  refine L_op <| G_on rfl rfl rfl <| J_pur (p_fieldAddr rfl fa69_1) rfl rfl rfl <| L_op <| G_on rfl rfl rfl <| J_val (v_load rfl ty3 HS (by exact rfl)) rfl rfl rfl ?_
  refine L_op <| G_on rfl rfl rfl <| J_pur (p_fieldAddr rfl fa69_1) rfl rfl rfl <| L_op <| G_on rfl rfl rfl <| J_val (v_load rfl ty3 HS (by exact rfl)) rfl rfl rfl ?_
  refine L_op <| G_on rfl rfl rfl <| J_pur (p_eql rfl rfl) rfl rfl rfl <| L_pur rfl (p_pick_t rfl rfl) <| mv rfl rfl ?_
  refine J_gsplit (t := 17) rfl (fun h17 => ?_) (fun h17 => ?_)
  refine L_op <| G_on rfl rfl rfl <| J_pur (p_fieldAddr rfl fa69_0) rfl rfl rfl <| L_op <| G_on rfl rfl rfl <| J_val (v_load rfl ty3 HS (by exact rfl)) rfl rfl rfl ?_
  refine L_op <| G_on rfl rfl rfl <| J_pur (p_neq rfl rfl) rfl rfl rfl <| L_op <| G_on rfl rfl rfl <| J_pur (p_move rfl) rfl rfl rfl ?_
  refine J_gsplit (t := 21) rfl (fun h21 => ?_) (fun h21 => ?_)
  refine L_op <| G_off rfl rfl rfl rfl rfl rfl <| L_op <| G_off rfl rfl rfl rfl rfl rfl <| L_op <| G_off rfl rfl rfl rfl rfl rfl <| L_op <| G_off rfl rfl rfl rfl rfl rfl ?_
  refine L_op <| G_off rfl rfl rfl rfl rfl rfl <| L_op <| G_on rfl rfl rfl <| J_pur (p_pick_t rfl rfl) rfl rfl rfl <| L_pur rfl (p_pick_t rfl rfl) <| ag rfl rfl <| nq ?_
  refine J_ret ?_
  refine J_return (()) Tryz.results293 (.tmp rfl .nil) ?_ ?_
  · first | rfl | (simp_all [one, namesC]; done) | (simp_all [one, namesC] <;> omega) | (simp_all [one, namesC] <;> grind)
  · exact SU
  refine L_op <| G_on rfl rfl rfl <| J_pur (p_fieldAddr rfl fa69_2) rfl rfl rfl <| L_op <| G_on rfl rfl rfl <| J_val (v_load rfl ty3 HS (by exact rfl)) rfl rfl rfl ?_
  refine L_op <| G_on rfl rfl rfl <| J_pur (p_fieldAddr rfl fa69_2) rfl rfl rfl <| L_op <| G_on rfl rfl rfl <| J_val (v_load rfl ty3 HS (by exact rfl)) rfl rfl rfl ?_
  refine L_op <| G_on rfl rfl rfl <| J_pur (p_eql rfl rfl) rfl rfl rfl <| L_op <| G_on rfl rfl rfl <| J_pur (p_pick_f rfl rfl) rfl rfl rfl <| L_pur rfl (p_pick_t rfl rfl) <| ag rfl rfl ?_
  refine nq <| J_ret ?_
  refine J_return (()) Tryz.results293 (.tmp rfl .nil) ?_ ?_
  · first | rfl | (simp_all [one, namesC]; done) | (simp_all [one, namesC] <;> omega) | (simp_all [one, namesC] <;> grind)
  · exact SU
  refine L_op <| G_off rfl rfl rfl rfl rfl rfl <| L_op <| G_off rfl rfl rfl rfl rfl rfl <| L_op <| G_off rfl rfl rfl rfl rfl rfl <| L_op <| G_off rfl rfl rfl rfl rfl rfl ?_
  refine L_op <| G_offU rfl rfl rfl rfl rfl <| L_op <| G_offU rfl rfl rfl rfl rfl <| L_op <| G_offU rfl rfl rfl rfl rfl <| L_op <| G_offU rfl rfl rfl rfl rfl ?_
  refine L_op <| G_offU rfl rfl rfl rfl rfl <| L_op <| G_off rfl rfl rfl rfl rfl rfl <| L_pur rfl (p_pick_f rfl rfl) <| ag rfl rfl <| nq <| J_ret ?_
  refine J_return (()) Tryz.results293 (.tmp rfl .nil) ?_ ?_
  · first | rfl | (simp_all [one, namesC]; done) | (simp_all [one, namesC] <;> omega) | (simp_all [one, namesC] <;> grind)
  · exact SU
  refine L_op <| G_off rfl rfl rfl rfl rfl rfl <| L_op <| G_off rfl rfl rfl rfl rfl rfl <| L_op <| G_off rfl rfl rfl rfl rfl rfl <| L_op <| G_off rfl rfl rfl rfl rfl rfl ?_
  refine L_op <| G_off rfl rfl rfl rfl rfl rfl <| L_pur rfl (p_pick_f rfl rfl) <| mv rfl rfl <| L_op <| G_off rfl rfl rfl rfl rfl rfl <| L_op <| G_off rfl rfl rfl rfl rfl rfl ?_
  refine L_op <| G_off rfl rfl rfl rfl rfl rfl <| L_op <| G_off rfl rfl rfl rfl rfl rfl <| L_op <| G_offU rfl rfl rfl rfl rfl <| L_op <| G_offU rfl rfl rfl rfl rfl ?_
  refine L_op <| G_offU rfl rfl rfl rfl rfl <| L_op <| G_offU rfl rfl rfl rfl rfl <| L_op <| G_offU rfl rfl rfl rfl rfl <| L_op <| G_off rfl rfl rfl rfl rfl rfl ?_
  refine L_pur rfl (p_pick_f rfl rfl) <| ag rfl rfl <| nq <| J_ret ?_
  refine J_return (()) Tryz.results293 (.tmp rfl .nil) ?_ ?_
  · first | rfl | (simp_all [one, namesC]; done) | (simp_all [one, namesC] <;> omega) | (simp_all [one, namesC] <;> grind)
  · exact SU
theorem namedClo {E : World} {l : List As} {bc : Nat} {c : Cap} {s : SV} (hc : Has (blk bc 69 (encC c)) l) :
    Con Tryz.prog 292 #[evS s, .pointer (some ⟨bc, 0, none⟩)] E l (fun _ : Unit => .bool (namesC s.1 c)) (fun _ => l) := by
  refine Con.body (vs := [evS s, .pointer (some ⟨bc, 0, none⟩)]) (n := 8) Tryz.func292 rfl rfl [(0, evS s), (1, .pointer (some ⟨bc, 0, none⟩))] (env_ok 2 rfl) <| sr <| L_op <| x_box rfl rfl rfl fun b2 => ag rfl rfl <| nx <| fa rfl rfl fa184_0 <| L_val rfl (v_loadA rfl ty69 HS CT) ?_
  refine L_val rfl (v_loadA rfl ty69 HS CT) ?_
  refine L_op <| xc fc293 (.cons rfl (.cons rfl .nil)) rfl (namesG (c := s.1) (d := c)) fun _ => ag rfl rfl <| nq <| J_ret ?_
  refine J_return (()) Tryz.results292 (.tmp rfl .nil) ?_ ?_
  · rfl
  · exact SU
theorem childC {E : World} {l m : List As} {b o : Nat} {ps : List (Place × SV)} (hp : Pick (slA b o ps) l m) {p : Place} (hz : ps.length ≤ 100000) :
  Con Tryz.prog 272 #[.pointer (some ⟨b, o, none⟩), .agg (encI p).toArray] E l (fun v : Value => v) (fun v => row 67 2 v ((kids ps p).map encI) :: slA b o ps :: m) := by
 refine Con.body (vs := [.pointer (some ⟨b, o, none⟩), .agg (encI p).toArray]) (n := 12) Tryz.func272 rfl rfl [(0, .pointer (some ⟨b, o, none⟩)), (1, .agg (encI p).toArray)] (env_ok 2 rfl) <| J_pick hp <| sr <| L_op <| x_box rfl rfl rfl fun b3 => ag rfl rfl <| nxx <| mv rfl rfl ?_
 refine L_val rfl (v_loadA rfl ty67 HS CT) ?_
 refine L_op <| xc fc60 (.cons rfl (.cons rfl .nil)) rfl (slHas (ps := ps) (p := p) PC) fun _ => ?_
 refine L_pur rfl (p_not rfl) <| nq ?_
 refine C_split rfl (fun h8 => ?_) (fun h8 => ?_)
 have hkd : kids ps p = [] := by
  unfold kids
  rw [if_neg (by simpa using h8)]
 refine J_nil (el := 67) (sz := 2) <| sr <| ag rfl rfl <| nq <| J_ret <| Q_then_ret <| J_pick (A := row 67 2 _ _) PC ?_
 refine J_rowEq (ys := (kids ps p).map encI) (by first | (rw [hkd]; done) | (rw [hkd]; rfl)) ?_
 exact J_return (_) Tryz.results272 (.tmp rfl .nil) rfl SU
 have hkd : kids ps p = heirs ps fun s => decide (s.2 = p) := by
  unfold kids
  rw [if_pos (by simpa using h8)]
 refine J_skip <| qx <| mv rfl rfl <| L_pur rfl (p_makeFunc (.cons rfl .nil)) <| L_op <| xc fc291 (.cons rfl (.cons rfl .nil)) rfl (whichC (ps := ps) (q := fun s => decide (s.2 = p)) (C := blk b3 67 (encI p)) Tryz.func294 nm294 bd294 (fun l' s h => childClo h) PX hz) <| JR fun a11 c11 hw11 hl11 hm11 hz11 => ag rfl rfl ?_
 refine nq <| J_ret <| J_pick (A := row 67 2 _ _) PC ?_
 refine J_rowEq (ys := (kids ps p).map encI) (by first | (rw [hkd]; done) | (rw [hkd]; rfl)) ?_
 exact J_return (_) Tryz.results272 (.tmp rfl .nil) rfl SU
theorem namedG {E : World} {l m : List As} {b o : Nat} {ps : List (Place × SV)} (hp : Pick (slA b o ps) l m) {c : Cap} (hz : ps.length ≤ 100000) :
    Con Tryz.prog 271 #[.pointer (some ⟨b, o, none⟩), .agg (encC c).toArray] E l (fun v : Value => v) (fun v => row 67 2 v ((named ps c).map encI) :: slA b o ps :: m) := by
  refine Con.body (vs := [.pointer (some ⟨b, o, none⟩), .agg (encC c).toArray]) (n := 8) Tryz.func271 rfl rfl [(0, .pointer (some ⟨b, o, none⟩)), (1, .agg (encC c).toArray)] (env_ok 2 rfl) <| J_pick hp <| sr <| L_op <| x_box rfl rfl rfl fun b3 => ag rfl rfl <| nx <| mv rfl rfl ?_
  refine L_pur rfl (p_makeFunc (.cons rfl .nil)) <| L_op <| xc fc291 (.cons rfl (.cons rfl .nil)) rfl (whichC (ps := ps) (q := fun s => namesC s.1 c) (C := blk b3 69 (encC c)) Tryz.func292 nm292 bd292 (fun l' s h => namedClo h) PX hz) <| JR fun a7 c7 hw7 hl7 hm7 hz7 => ag rfl rfl <| nq <| J_ret <| J_pick (A := row 67 2 _ _) PC ?_
  refine J_rowEq (ys := (named ps c).map encI) (by rfl) ?_
  exact J_return (_) Tryz.results271 (.tmp rfl .nil) rfl SU
theorem turnsC {E : World} {l m : List As} {b o : Nat} {ps : List (Place × SV)} (hp : Pick (slA b o ps) l m) {a to : Place} (hz : ps.length ≤ 100000) :
    Con Tryz.prog 268 #[.pointer (some ⟨b, o, none⟩), .agg (encI a).toArray, .agg (encI to).toArray] E l (fun _ : Unit => .tuple #[]) (fun _ => slA b o (turnS ps a to) :: m) := by
  refine Con.body (vs := [.pointer (some ⟨b, o, none⟩), .agg (encI a).toArray, .agg (encI to).toArray]) (n := 31) Tryz.func268 rfl rfl [(0, .pointer (some ⟨b, o, none⟩)), (1, .agg (encI a).toArray), (2, .agg (encI to).toArray)] (env_ok 3 rfl) <| J_pick hp <| sr <| L_op <| x_box rfl rfl rfl fun b4 => L_op <| x_box rfl rfl rfl fun b5 => nx ?_
  refine mv rfl rfl <| L_val rfl (v_loadA rfl ty67 HS CT) ?_
  refine L_op <| xc fc272 (.cons rfl (.cons rfl .nil)) rfl (childC (ps := ps) (p := a) PC hz) <| JR fun a10 c10 hw10 hl10 hm10 hz10 => J_pick (A := slA b o ps) PC ?_
  refine J_slKeyd fun hK => ?_
  have hkl := kids_len ps a
  obtain ⟨xs, hxs⟩ : ∃ xs, xs = kids ps a := ⟨_, rfl⟩
  refine J_pick (A := row 67 2 _ _) PC ?_
  refine J_rowTo (ys := xs.map encI) (v' := .slice a10 (xs.map encI).length c10) (by rw [hxs]) (by rw [hxs]) <| J_slot (t := 10) (v := .slice a10 (xs.map encI).length c10) rfl (by rw [hxs]) ?_
  rw [← hxs] at hkl hz10
  have hmc : c10 ≤ 9223372036854775807 := hm10
  have hml : (xs.map encI).length = xs.length := List.length_map _
  refine J_pick (A := slA b o ps) PC ?_
  refine J_asTo (B := slA b o (turnL ps to (xs.take 0))) (by rfl) <| L_pur rfl (p_len rfl Tryz.underlying81) <| mv rfl rfl <| nq <| J_block <| J_loop (α := Nat) (fun k => k ≤ xs.length) (fun k => slA b o (turnL ps to (xs.take k)) :: row 67 2 (.slice a10 (xs.map encI).length c10) (xs.map encI) :: blk b5 67 (encI to) :: m) (fun k => [(12, .int .i64 (k : Int)), (10, .slice a10 (xs.map encI).length c10), (11, .int .i64 ((xs.map encI).length : Int)), (0, .pointer (some ⟨b, o, none⟩)), (5, .pointer (some ⟨b5, 0, none⟩))]) (fun k => xs.length - k) 0 (by omega) SU KE ?_
  intro k hk
  refine sr <| L_pur rfl (p_lss rfl rfl) <| nq <| J_seq ?_
  refine C_dec rfl (fun h13 => ?_) (fun h13 => ?_)
  have hlt : k < xs.length := by omega
  obtain ⟨bx, ox, rfl⟩ := hz10 (by intro h; rw [h] at hml; simp at hml; omega)
  obtain ⟨c, hcc⟩ : ∃ c, xs[k]? = some c := ⟨_, List.getElem?_eq_getElem hlt⟩
  have hsm : (look (turnL ps to (xs.take k)) c).isSome = true := turnL_some (kids_some hK (by rw [← hxs]; exact List.mem_of_getElem? hcc))
  refine J_skip <| Q_then <| J_seq <| J_block <| sr <| L_pur rfl (p_indexAddr rfl rfl Tryz.underlying81 ty67 (by omega) (by omega)) ?_
  refine L_val rfl (v_loadE rfl ty67 HS (by first | (simp only [Int.toNat_natCast, List.getElem?_map, hcc]; rfl) | (simp only [Int.toNat_natCast, List.getElem?_map, hcd]; rfl) | simp | rfl)) ?_
  refine L_op <| x_alloc ty67 rfl fun b7 => L_op <| x_store rfl rfl ty67 rfl SM SM RO PT ?_
  refine nq <| J_pick (A := blk b7 _ _) PC ?_
  refine J_asTo (B := blk b7 67 (encI c)) (by rfl) <| J_pick (A := slA b o _) PC ?_
  refine J_slO fun ob _ => ?_
  obtain rfl | ⟨bm, rfl⟩ : ob = none ∨ ∃ bm, ob = some bm := by
    cases ob with
    | none => exact .inl rfl
    | some x => exact .inr ⟨x, rfl⟩
  · exact J_mapNone (ps := (turnL ps to (xs.take k))) HS fun hps => by rw [hps] at hsm; cases hsm
  refine J_drawT 14 mixed (by kernel_rfl) <| sm rfl rfl <| sp rfl (p_nilCheck rfl) <| sp rfl (p_fieldAddr rfl fa108_0) <| S_val rfl (v_loadL rfl ty106 HS rfl (by exact rfl)) ?_
  refine S_val rfl (v_loadA rfl ty67 HS CT) ?_
  refine sm rfl rfl <| sp rfl (p_nilCheck rfl) <| sp rfl (p_fieldAddr rfl fa108_0) <| S_val rfl (v_loadL rfl ty106 HS rfl (by exact rfl)) ?_
  refine S_val rfl (v_loadA rfl ty67 HS CT) ?_
  refine S_val rfl (v_look (ek := kI) (ev := evS) (a := c) rfl rfl ky67 Tryz.underlying106 zv184 HS) ?_
  refine J_slot (t := 26) (v := evS ((look (turnL ps to (xs.take k)) c).getD s0)) rfl (by cases look (turnL ps to (xs.take k)) c <;> rfl) <| sp rfl (p_field rfl fd184_0) <| S_val rfl (v_loadA rfl ty67 HS CT) ?_
  refine sp rfl (bld184 (.cons rfl (.cons rfl .nil)) (by repeat constructor)) <| S_nil <| L_op <| x_mapUpdate (ek := kI) (ev := evS) (a := c) (c := (((look (turnL ps to (xs.take k)) c).getD s0).1, to)) rfl rfl rfl ky67 Tryz.underlying106 PC ?_
  refine J_pick (A := mapV kI evS _ _) PC ?_
  refine J_mapEq (qs := turnL ps to (xs.take (k + 1))) (by rw [List.take_add_one, hcc, Option.toList_some, turnL_snoc]) <| J_slS (b := b) (o := o) (ps := turnL ps to (xs.take (k + 1))) _ PX trivial ?_
  refine L_nil <| Q_blk_normal <| qr <| L_pur rfl (p_add64 rfl rfl (by omega)) <| mv rfl rfl <| nq ?_
  exact J_again (k + 1) (by omega) (by omega) SU KE
  have hkx : k = xs.length := by omega
  subst hkx
  refine J_pick (A := slA b o _) PC ?_
  refine J_asTo (B := slA b o (turnS ps a to)) (by rw [List.take_length, hxs]; rfl) <| J_exit <| Q_then_exit <| Q_then_exit <| Q_blk_this <| J_endnormal ?_
  exact J_return (()) Tryz.results268 .nil rfl SU
theorem dropG {E : World} {l m : List As} {b o : Nat} {ps : List (Place × SV)} (hp : Pick (slA b o ps) l m) {p : Place} (hz : ps.length ≤ 100000) :
    Con Tryz.prog 270 #[.pointer (some ⟨b, o, none⟩), .agg (encI p).toArray] E l (fun _ : Unit => .bool (look ps p).isSome) (fun _ => slA b o (dropS ps p) :: m) := by
  refine Con.body (vs := [.pointer (some ⟨b, o, none⟩), .agg (encI p).toArray]) (n := 28) Tryz.func270 rfl rfl [(0, .pointer (some ⟨b, o, none⟩)), (1, .agg (encI p).toArray)] (env_ok 2 rfl) <| J_pick hp <| sr <| L_op <| x_box rfl rfl rfl fun b3 => ag rfl rfl <| nq <| J_seq ?_
  refine J_pick (A := slA b o ps) PC ?_
  refine J_slO fun ob _ => J_drawL none mixed <| ip 0 rfl rfl rfl rfl (p_move rfl) <| ip 1 rfl rfl rfl rfl (p_nilCheck rfl) <| ip 2 rfl rfl rfl rfl (p_fieldAddr rfl fa108_0) <| iv 3 rfl rfl rfl rfl (fun _ => v_loadL rfl ty106 HS rfl (by exact rfl)) ?_
  refine iv 4 rfl rfl rfl rfl (fun _ => v_loadA rfl ty67 HS CT) ?_
  refine iv 5 rfl rfl rfl rfl (fun _ => v_lookOk (ek := kI) (ev := evS) (a := p) rfl rfl ky67 Tryz.underlying106 zv184 HS) ?_
  refine J_slot (t := 13) (v := .tuple #[evS ((look ps p).getD s0), .bool (look ps p).isSome]) rfl (by cases look ps p <;> rfl) <| ip 6 rfl rfl rfl rfl (p_move rfl) <| ip 7 rfl rfl rfl rfl (p_extract rfl rfl) <| ip 8 rfl rfl rfl rfl (p_extract rfl rfl) <| i1 9 rfl <| x_alloc ty184 rfl fun b5 => i1 10 rfl <| x_store rfl rfl ty184 rfl SM SM RO PT ?_
  refine ip 11 rfl rfl rfl rfl (p_assign rfl) <| i0 <| Q_then <| J_seq <| sr <| mv rfl rfl <| L_pur rfl (p_not rfl) <| nq ?_
  refine C_split rfl (fun h17 => ?_) (fun h17 => ?_)
  have hno : look ps p = none := by
    cases hq : look ps p with
    | none => rfl
    | some y => rw [hq] at h17; simp at h17
  have hds : dropS ps p = ps := by unfold dropS; rw [hno]
  refine J_slS (b := b) (o := o) (ps := ps) ob PX trivial ?_
  refine J_asTo (B := slA b o (dropS ps p)) (by rw [hds]) <| sr <| ag rfl rfl <| nq <| J_ret <| Q_then_ret ?_
  refine J_return (()) Tryz.results270 (.tmp rfl .nil) ?_ ?_
  · simp_all [one]
  · exact SU
  obtain ⟨s, hs⟩ : ∃ x, look ps p = some x := by
    cases hq : look ps p with
    | none => rw [hq] at h17; simp at h17
    | some y => exact ⟨y, rfl⟩
  have hds : dropS ps p = del (turnS ps p s.2) p := by unfold dropS; rw [hs]
  refine J_slS (b := b) (o := o) (ps := ps) ob PX trivial ?_
  refine J_pick (A := blk b5 _ _) PC ?_
  refine J_asTo (B := blk b5 184 (encC s.1 ++ encI s.2)) (by rw [hs]; rfl) <| J_skip <| qx <| mv rfl rfl <| L_val rfl (v_loadA rfl ty67 HS CT) ?_
  refine fa rfl rfl fa184_1 <| L_val rfl (v_loadA rfl ty67 HS CT) ?_
  refine L_op <| xc fc268 (.cons rfl (.cons rfl (.cons rfl .nil))) rfl (turnsC (ps := ps) (a := p) (to := s.2) PC hz) fun _ => ?_
  refine nq <| J_seq <| J_pick (A := slA b o (turnS ps p s.2)) PC ?_
  refine J_slO fun ob _ => J_drawT 5 mixed (by kernel_rfl) <| sm rfl rfl <| sp rfl (p_nilCheck rfl) <| sp rfl (p_fieldAddr rfl fa108_0) <| S_val rfl (v_loadL rfl ty106 HS rfl (by exact rfl)) ?_
  refine S_val rfl (v_loadA rfl ty67 HS CT) ?_
  refine S_nil <| L_op <| x_delete (ek := kI) (ev := evS) (a := p) rfl rfl ky67 Tryz.underlying106 PC ?_
  refine J_slS (b := b) (o := o) (ps := del (turnS ps p s.2) p) _ PX trivial ?_
  refine J_asTo (B := slA b o (dropS ps p)) (by rw [hds]) <| nx <| ag rfl rfl <| nq <| J_ret ?_
  refine J_return (()) Tryz.results270 (.tmp rfl .nil) ?_ ?_
  · simp_all [one]
  · exact SU
theorem belowC {E : World} {l m : List As} {b o : Nat} {ps : List (Place × SV)} (hp : Pick (slA b o ps) l m) {p : Place} {N : Nat} {L : List Place} (hL : belowL ps N [] (kids ps p) = some L) (hLz : L.length ≤ 100000) (hz : ps.length ≤ 100000) :
  Con Tryz.prog 233 #[.pointer (some ⟨b, o, none⟩), .agg (encI p).toArray] E l (fun v : Value => v) (fun v => row 67 2 v ((sortP L).map encI) :: slA b o ps :: m) := by
 refine Con.body (vs := [.pointer (some ⟨b, o, none⟩), .agg (encI p).toArray]) (n := 27) Tryz.func233 rfl rfl [(0, .pointer (some ⟨b, o, none⟩)), (1, .agg (encI p).toArray)] (env_ok 2 rfl) <| J_pick hp <| sr <| L_op <| x_box rfl rfl rfl fun b3 => ag rfl rfl <| nx <| mv rfl rfl ?_
 refine L_val rfl (v_loadA rfl ty67 HS CT) ?_
 refine L_op <| xc fc272 (.cons rfl (.cons rfl .nil)) rfl (childC (ps := ps) (p := p) PC hz) <| JR fun a9 c9 hw9 hl9 hm9 hz9 => ag rfl rfl <| nq <| J_seq <| J_seq <| J_pick (A := row 67 2 _ _) PC ?_
 refine J_rowEq (ys := (([] : List Place) ++ kids ps p).map encI) (by rfl) <| J_region <| ag rfl rfl <| nq <| J_block <| J_loop2 (fun (x : List Place × List Place × Nat) v => belowL ps x.2.2 x.1 x.2.1 = some L) (fun x v => row 67 2 v (((x.1 ++ x.2.1)).map encI) :: slA b o ps :: m) (fun x v => [(6, .int .i64 (x.1.length : Int)), (5, v), (0, .pointer (some ⟨b, o, none⟩))]) (fun x v => x.2.2) ([], kids ps p, N) _ hL SU KE ?_
 intro x v hx
 obtain ⟨done, todo, n⟩ := x
 dsimp only at hx ⊢
 have hbl := belowL_len hx
 rw [List.length_append] at hbl
 refine J_row (v := v) HS fun hwv av cv hvv hlv hmv hzv => ?_
 subst hvv
 have hmc : cv ≤ 9223372036854775807 := hmv
 have hml : ((done ++ todo).map encI).length = done.length + todo.length := by rw [List.length_map, List.length_append]
 refine J_seq <| sr <| mv rfl rfl <| mv rfl rfl <| L_pur rfl (p_len rfl Tryz.underlying81) <| J_slot (t := 12) (v := .int .i64 (((done.length + todo.length : Nat) : Int))) rfl (by rw [hml]) <| L_pur rfl (p_lss rfl rfl) <| nq ?_
 refine C_dec rfl (fun h13 => ?_) (fun h13 => ?_)
 obtain ⟨a0, ts, rfl⟩ : ∃ a0 ts, todo = a0 :: ts := by
  cases todo with
  | nil => simp at h13
  | cons a0 ts => exact ⟨a0, ts, rfl⟩
 obtain ⟨n1, rfl⟩ : ∃ n1, n = n1 + 1 := by
  cases n with
  | zero => simp [belowL] at hx
  | succ n1 => exact ⟨n1, rfl⟩
 rw [belowL] at hx
 have hbl2 := belowL_len hx
 simp only [List.length_append, List.length_cons] at hbl2
 obtain ⟨bx, ox, rfl⟩ := hzv (by intro h; rw [h] at hml; simp at hml)
 have hcc : (done ++ a0 :: ts)[done.length]? = some a0 := by rw [List.getElem?_append_right (Nat.le_refl _)]; simp
 refine J_skip <| Q_then <| J_seq <| J_block <| J_region <| mv rfl rfl <| mv rfl rfl <| mv rfl rfl ?_
 refine mv rfl rfl <| L_pur rfl (p_indexAddr rfl rfl Tryz.underlying81 ty67 (by omega) (by omega)) ?_
 refine L_val rfl (v_loadE rfl ty67 HS (by first | (simp only [Int.toNat_natCast, List.getElem?_map, hcc]; rfl) | (simp only [Int.toNat_natCast, List.getElem?_map, hcd]; rfl) | simp | rfl)) ?_
 refine L_op <| xc fc272 (.cons rfl (.cons rfl .nil)) rfl (childC (ps := ps) (p := a0) PC hz) <| JR fun a22 c22 hw22 hl22 hm22 hz22 => L_op <| x_app rfl rfl Tryz.underlying81 ty67 rfl rfl PC (fun w H => sep_reads HS H) (by simp; omega) (by simp; omega) rfl <| JE (((done ++ [a0]) ++ (ts ++ kids ps a0)).map encI) (by simp) fun a23 c23 hw23 hl23 hm23 hz23 => ag rfl rfl <| L_nil ?_
 refine Q_blk_normal <| qr <| mv rfl rfl <| L_pur rfl (p_add64 rfl rfl (by omega)) <| ag rfl rfl <| nq <| J_slot (t := 6) (v := .int .i64 (((done ++ [a0]).length : Nat) : Int)) rfl (by simp) ?_
 exact J_again2 (done ++ [a0], ts ++ kids ps a0, n1) _ (by show n1 < n1 + 1; omega) (hx) SU KE
 obtain rfl : todo = [] := by
  cases todo with
  | nil => rfl
  | cons a0 ts => exfalso; simp at h13; omega
 obtain rfl : done = L := by
  unfold belowL at hx
  exact Option.some.inj hx
 refine J_pick (A := row 67 2 _ _) PC ?_
 refine J_rowEq (ys := done.map encI) (by rw [List.append_nil]) <| J_exit <| Q_then_exit <| Q_then_exit <| Q_blk_this <| qx <| mv rfl rfl <| L_op <| xc fc101 (.cons rfl (.cons rfl .nil)) rfl (slSort (xs := done) PC (by omega)) fun _ => ?_
 refine nx <| mv rfl rfl <| ag rfl rfl <| nq <| J_ret ?_
 exact J_return (_) Tryz.results233 (.tmp rfl .nil) rfl SU
end Go.Pse
namespace Go.Pse
open Go.RowKit Go.Proofs
/-! ### plain: copies, moves; what a deletion takes -/
def bothS (ps : List (Place × SV)) (p q : Place) : Cap × Int := match look ps p with
  | none => (c0, 4)
  | some s => if canP q = false then (c0, 7) else if (look ps q).isSome then (c0, 3) else (s.1, 0)
def lessC (c : Cap) (r : Int) : Cap := { c with rights := bits .and .i64 c.rights (bits .and .i64 r 7) }
def badgeC (c : Cap) (n : Int) : Cap × Int :=
  if c.kind = 4 ∨ c.kind = 5 then (if c.badge ≠ 0 ∨ n = 0 then (c0, 12) else if n > 2147483647 then (c0, 7) else ({ c with badge := n }, 0))
  else if c.kind = 2 then (if checkC { c with size := n % 256, badge := n / 256 } = true then ({ c with size := n % 256, badge := n / 256 }, 0) else (c0, 7))
  else (c0, 5)
def copyS (ps : List (Place × SV)) (p q : Place) (r : Int) : List (Place × SV) × Int :=
  if (bothS ps p q).2 ≠ 0 then (ps, (bothS ps p q).2) else if r < 0 ∨ r > 7 then (ps, 7) else (slPut ps q (lessC (bothS ps p q).1 r) p, 0)
def mintS (ps : List (Place × SV)) (p q : Place) (n : Int) : List (Place × SV) × Int :=
  if (bothS ps p q).2 ≠ 0 then (ps, (bothS ps p q).2) else if (badgeC (bothS ps p q).1 n).2 ≠ 0 then (ps, (badgeC (bothS ps p q).1 n).2) else (slPut ps q (badgeC (bothS ps p q).1 n).1 p, 0)
def dmoveS (ps : List (Place × SV)) (p q : Place) : List (Place × SV) × Int := (if (bothS ps p q).2 = 0 then moveS ps p q else ps, (bothS ps p q).2)
theorem has_some {ps : List (Place × SV)} {p a : Place} (h : a ∈ kids ps p) : (look ps a).isSome = true := by
  unfold kids at h
  split at h
  · obtain ⟨s, h1, _⟩ := heirs_mem.1 h
    cases hq : look ps a with
    | none => exact absurd (List.mem_map.2 ⟨(a, s), h1, rfl⟩) (look_none_iff.1 hq)
    | some y => rfl
  · cases h
theorem ins_len {ps : List (Place × SV)} {a : Place} {u : SV} (h : (look ps a).isSome = true) : (ins ps a u).length = ps.length := by
  unfold Go.Pse.ins; rw [if_pos h, List.length_map]
theorem turnL_len {to : Place} : ∀ {l : List Place} {ps : List (Place × SV)}, (∀ a ∈ l, (look ps a).isSome = true) → (turnL ps to l).length = ps.length
  | [], _, _ => rfl
  | k :: l, ps, h => by
    have h1 := turnL_len (to := to) (l := l) (ps := ins ps k (((look ps k).getD s0).1, to)) fun a ha => by
      rw [look_ins]; split
      · rfl
      · exact h a (List.mem_cons_of_mem _ ha)
    show (turnL (ins ps k (((look ps k).getD s0).1, to)) to l).length = _
    rw [h1, ins_len (h k List.mem_cons_self)]
theorem turnS_len (ps : List (Place × SV)) (a to : Place) : (turnS ps a to).length = ps.length := turnL_len fun _ h => has_some h
theorem dropS_len {ps : List (Place × SV)} {p : Place} {s : SV} (h : look ps p = some s) : (dropS ps p).length + 1 ≤ ps.length := by
  have e : dropS ps p = del (turnS ps p s.2) p := by unfold dropS; rw [h]
  have h1 : (look (turnS ps p s.2) p).isSome = true := turnL_some (by rw [h]; rfl)
  obtain ⟨y, hy⟩ := Option.isSome_iff_exists.1 h1
  have := del_less hy
  rw [e, turnS_len] at *
  exact this
abbrev Obj2 := Int × Int
def dropK1 (D : List (Place × SV) → Place → List (Place × SV) × List Obj2) (u : Int) (x : List (Place × SV) × List Obj2) (k : Nat) : List (Place × SV) × List Obj2 := match D x.1 (u, (k : Int)) with
  | (t, o) => (t, x.2 ++ o)
def dropK (D : List (Place × SV) → Place → List (Place × SV) × List Obj2) (u : Int) (n : Nat) (x : List (Place × SV) × List Obj2) : List (Place × SV) × List Obj2 := (List.range n).foldl (dropK1 D u) x
def kDropT : Nat → List (Place × SV) → Place → List (Place × SV) × List Obj2
  | 0, ps, _ => (ps, [])
  | n + 1, ps, p => match look ps p with
    | none => (ps, [])
    | some s => match named (dropS ps p) s.1 with
      | _ :: _ => (dropS ps p, [])
      | [] => if s.1.kind = 2 then dropK (kDropT n) s.1.obj 16 (dropS ps p, [(s.1.kind, s.1.obj)]) else (dropS ps p, [(s.1.kind, s.1.obj)])
theorem dropK_succ {D : List (Place × SV) → Place → List (Place × SV) × List Obj2} {u : Int} {n : Nat} {x : List (Place × SV) × List Obj2} : dropK D u (n + 1) x = ((D (dropK D u n x).1 (u, (n : Int))).1, (dropK D u n x).2 ++ (D (dropK D u n x).1 (u, (n : Int))).2) := by
  unfold dropK
  rw [List.range_succ, List.foldl_append]
  rfl
theorem dropK_len {D : List (Place × SV) → Place → List (Place × SV) × List Obj2} (hD : ∀ ps p, (D ps p).1.length + (D ps p).2.length ≤ ps.length) {u : Int} {x : List (Place × SV) × List Obj2} : ∀ n, (dropK D u n x).1.length + (dropK D u n x).2.length ≤ x.1.length + x.2.length
  | 0 => Nat.le_refl _
  | n + 1 => by
    rw [dropK_succ]
    have h1 := dropK_len hD (u := u) (x := x) n
    have h2 := hD (dropK D u n x).1 (u, (n : Int))
    simp only [List.length_append]
    omega
theorem kDropT_len : ∀ n ps p, (kDropT n ps p).1.length + (kDropT n ps p).2.length ≤ ps.length
  | 0, ps, p => Nat.le_refl _
  | n + 1, ps, p => by
    rw [kDropT]
    split
    · simp
    · rename_i s hs
      have h1 := dropS_len hs
      split
      · simp; omega
      · split
        · have := dropK_len (kDropT_len n) (u := s.1.obj) (x := (dropS ps p, [(s.1.kind, s.1.obj)])) 16
          simp at this ⊢
          omega
        · simp; omega
theorem dropK_le {D : List (Place × SV) → Place → List (Place × SV) × List Obj2} (hD : ∀ ps p, (D ps p).1.length + (D ps p).2.length ≤ ps.length) {u : Int} {x : List (Place × SV) × List Obj2} (n : Nat) : (dropK D u n x).1.length ≤ x.1.length := by
  induction n with
  | zero => exact Nat.le_refl _
  | succ n ih =>
    rw [dropK_succ]
    have h2 := hD (dropK D u n x).1 (u, (n : Int))
    show (D (dropK D u n x).1 (u, (n : Int))).1.length ≤ _
    omega
theorem kDropT_less {n : Nat} {ps : List (Place × SV)} {p : Place} {s : SV} (h : look ps p = some s) : (kDropT (n + 1) ps p).1.length < ps.length := by
  have h1 := dropS_len h
  rw [kDropT, h]
  dsimp only
  split
  · exact h1
  · split
    · have := dropK_le (kDropT_len n) (u := s.1.obj) (x := (dropS ps p, [(s.1.kind, s.1.obj)])) 16
      simp only at this
      omega
    · exact h1
def deleteS (ps : List (Place × SV)) (p : Place) : (List (Place × SV) × List Obj2) × Int := match look ps p with
  | none => ((ps, []), 4)
  | some _ => (kDropT ps.length ps p, 0)
def belowS (ps : List (Place × SV)) (p : Place) : Option (List Place) := (belowL ps ps.length [] (kids ps p)).map sortP
def revL (p : Place) : Nat → List (Place × SV) → List Obj2 → Option (List (Place × SV) × List Obj2)
  | 0, _, _ => none
  | n + 1, ps, out => match belowS ps p with
    | none => none
    | some [] => some (ps, out)
    | some (a :: _) => match kDropT ps.length ps a with
      | (t, o) => revL p n t (out ++ o)
def revokeS (ps : List (Place × SV)) (p : Place) : (List (Place × SV) × List Obj2) × Int := match look ps p with
  | none => ((ps, []), 4)
  | some _ => ((revL p (ps.length + 1) ps []).getD (ps, []), 0)
def RevOk (ps : List (Place × SV)) (p : Place) : Prop := (look ps p).isSome = true → (revL p (ps.length + 1) ps []).isSome = true
theorem belowL_fuel {ps : List (Place × SV)} : ∀ {n : Nat} {done todo L : List Place}, belowL ps n done todo = some L → L.length ≤ done.length + n
  | n, done, [], L, h => by
    unfold belowL at h
    cases h; omega
  | 0, done, p :: ts, L, h => by simp [belowL] at h
  | n + 1, done, p :: ts, L, h => by
    rw [belowL] at h
    have := belowL_fuel h
    simp at this
    omega
theorem belowS_is {ps : List (Place × SV)} {p : Place} {L : List Place} (h : belowS ps p = some L) : ∃ L0, belowL ps ps.length [] (kids ps p) = some L0 ∧ sortP L0 = L ∧ L0.length ≤ ps.length := by
  unfold belowS at h
  obtain ⟨L0, h1, h2⟩ := Option.map_eq_some_iff.1 h
  have := belowL_fuel h1
  exact ⟨L0, h1, h2, by simpa using this⟩
theorem revL_below {p : Place} {n : Nat} {ps : List (Place × SV)} {out : List Obj2} {r : List (Place × SV) × List Obj2} (h : revL p n ps out = some r) : ∃ L, belowS ps p = some L := by
  cases n with
  | zero => simp [revL] at h
  | succ n =>
    cases hb : belowS ps p with
    | none => rw [revL, hb] at h; cases h
    | some L => exact ⟨L, rfl⟩
theorem revL_step {p a : Place} {n : Nat} {ps : List (Place × SV)} {out : List Obj2} {ls : List Place} (hb : belowS ps p = some (a :: ls)) : revL p (n + 1) ps out = revL p n (kDropT ps.length ps a).1 (out ++ (kDropT ps.length ps a).2) := by rw [revL, hb]
def DropC (n : Nat) : Prop := ∀ (E : World) (l m : List As) (b o : Nat) (ps : List (Place × SV)) (p : Place), Pick (slA b o ps) l m → ps.length ≤ n → n ≤ 100000 →
  Con Tryz.prog 232 #[.pointer (some ⟨b, o, none⟩), .agg (encI p).toArray] E l (fun v : Value => v) (fun v => row 418 2 v (((kDropT n ps p).2).map encI) :: slA b o (kDropT n ps p).1 :: m)
theorem dropStep {E : World} {l m : List As} {b o : Nat} {ps : List (Place × SV)} (hp : Pick (slA b o ps) l m) {p : Place} {n : Nat} (hD : ∀ k, n = k + 1 → DropC k) (hn : ps.length ≤ n) (hn1 : n ≤ 100000) :
    Con Tryz.prog 232 #[.pointer (some ⟨b, o, none⟩), .agg (encI p).toArray] E l (fun v : Value => v) (fun v => row 418 2 v (((kDropT n ps p).2).map encI) :: slA b o (kDropT n ps p).1 :: m) := by
  refine Con.body (vs := [.pointer (some ⟨b, o, none⟩), .agg (encI p).toArray]) (n := 48) Tryz.func232 rfl rfl [(0, .pointer (some ⟨b, o, none⟩)), (1, .agg (encI p).toArray)] (env_ok 2 rfl) <| J_pick hp <| sr <| L_op <| x_box rfl rfl rfl fun b3 => ag rfl rfl <| nx <| mv rfl rfl ?_
  refine L_val rfl (v_loadA rfl ty67 HS CT) ?_
  refine L_op <| xc fc34 (.cons rfl (.cons rfl .nil)) rfl (slGetC (ps := ps) (p := p) PC) fun _ => ?_
  refine mv rfl rfl <| L_pur rfl (p_extract rfl rfl) <| L_pur rfl (p_extract rfl rfl) <| L_op <| x_alloc ty69 rfl fun b5 => L_op <| x_store rfl rfl ty69 rfl SM SM RO PT ?_
  refine ag rfl rfl <| nxx <| mv rfl rfl <| L_pur rfl (p_not rfl) <| nq ?_
  refine C_split rfl (fun h16 => ?_) (fun h16 => ?_)
  have hno : look ps p = none := by
    cases hq : look ps p with
    | none => rfl
    | some y => rw [hq] at h16; simp at h16
  have hkd : (kDropT n ps p) = (ps, []) := by
    cases n with
    | zero => rfl
    | succ n => rw [kDropT, hno]
  refine J_nil (el := 418) (sz := 2) <| sr <| ag rfl rfl <| nq <| J_ret <| Q_then_ret <| J_pick (A := slA b o _) PC ?_
  refine J_asTo (B := slA b o (kDropT n ps p).1) (by rw [hkd]) <| J_pick (A := row 418 2 _ _) PC ?_
  refine J_rowEq (ys := (kDropT n ps p).2.map encI) (by rw [hkd]; try rfl) ?_
  exact J_return (_) Tryz.results232 (.tmp rfl .nil) rfl SU
  obtain ⟨s, hs⟩ : ∃ x, look ps p = some x := by
    cases hq : look ps p with
    | none => rw [hq] at h16; simp at h16
    | some y => exact ⟨y, rfl⟩
  have hsl := dropS_len hs
  obtain ⟨k, rfl⟩ : ∃ k, n = k + 1 := ⟨n - 1, by omega⟩
  refine J_pick (A := blk b5 _ _) PC ?_
  refine J_asTo (B := blk b5 69 (encC s.1)) (by rw [hs]; rfl) <| J_skip <| qx <| mv rfl rfl <| L_val rfl (v_loadA rfl ty67 HS CT) ?_
  refine L_op <| xc fc270 (.cons rfl (.cons rfl .nil)) rfl (dropG (ps := ps) (p := p) PC (by omega)) fun _ => ?_
  refine nxx <| mv rfl rfl <| L_val rfl (v_loadA rfl ty69 HS CT) ?_
  refine L_op <| xc fc271 (.cons rfl (.cons rfl .nil)) rfl (namedG (ps := dropS ps p) (c := s.1) PC (by omega)) <| JR fun a22 c22 hw22 hl22 hm22 hz22 => L_pur rfl (p_len rfl Tryz.underlying81) <| J_slot (t := 23) (v := .int .i64 ((named (dropS ps p) s.1).length : Int)) rfl (by rw [List.length_map]) <| L_pur rfl (p_gtr rfl rfl) <| nq ?_
  refine C_dec rfl (fun h24 => ?_) (fun h24 => ?_)
  have hkd : (kDropT (k + 1) ps p) = (dropS ps p, []) := by
    rw [kDropT, hs]
    dsimp only
    split
    · rfl
    · rename_i hq
      rw [hq] at h24; simp at h24
  refine J_nil (el := 418) (sz := 2) <| sr <| ag rfl rfl <| nq <| J_ret <| Q_then_ret <| J_pick (A := slA b o _) PC ?_
  refine J_asTo (B := slA b o (kDropT (k + 1) ps p).1) (by rw [hkd]) <| J_pick (A := row 418 2 _ _) PC ?_
  refine J_rowEq (ys := (kDropT (k + 1) ps p).2.map encI) (by rw [hkd]; try rfl) ?_
  exact J_return (_) Tryz.results232 (.tmp rfl .nil) rfl SU
  have hnm : named (dropS ps p) s.1 = [] := by
    cases hq : named (dropS ps p) s.1 with
    | nil => rfl
    | cons x xs => rw [hq] at h24; simp at h24 <;> omega
  refine J_skip <| qx <| fa rfl rfl fa69_0 <| L_val rfl (v_load rfl ty3 HS (by exact rfl)) ?_
  refine fa rfl rfl fa69_1 <| L_val rfl (v_load rfl ty3 HS (by exact rfl)) ?_
  refine L_pur rfl (bld418 (.cons rfl (.cons rfl .nil)) (by repeat constructor)) <| L_op <| x_lit (vals := [_]) Tryz.underlying326 ty418 rfl (.cons rfl .nil) (.agg .nil) (Wf.cons rfl rfl Wf.nil) rfl (by decide) rfl rfl <| JE ([(s.1.kind, s.1.obj)].map encI) (by rfl) fun a30 c30 hw30 hl30 hm30 hz30 => ag rfl rfl <| nxx <| fa rfl rfl fa69_0 <| L_val rfl (v_load rfl ty3 HS (by exact rfl)) ?_
  refine L_pur rfl (p_neq rfl rfl) <| nq ?_
  refine C_dec rfl (fun h33 => ?_) (fun h33 => ?_)
  have hkd : (kDropT (k + 1) ps p) = (dropS ps p, [(s.1.kind, s.1.obj)]) := by
    rw [kDropT, hs]
    dsimp only
    rw [hnm]
    exact if_neg h33
  refine sr <| mv rfl rfl <| ag rfl rfl <| nq <| J_ret <| Q_then_ret <| J_pick (A := slA b o _) PC ?_
  refine J_asTo (B := slA b o (kDropT (k + 1) ps p).1) (by rw [hkd]) <| J_pick (A := row 418 2 _ _) PC ?_
  refine J_rowEq (ys := (kDropT (k + 1) ps p).2.map encI) (by rw [hkd]; try rfl) ?_
  exact J_return (_) Tryz.results232 (.tmp rfl .nil) rfl SU
  have hkd : (kDropT (k + 1) ps p) = (dropK (kDropT k) s.1.obj 16 (dropS ps p, [(s.1.kind, s.1.obj)])) := by
    rw [kDropT, hs]
    dsimp only
    rw [hnm]
    exact if_pos (by simpa using h33)
  refine J_skip <| Q_then <| J_seq <| sr <| mv rfl rfl <| J_pick (A := slA b o _) PC ?_
  refine J_asTo (B := slA b o (dropK (kDropT k) s.1.obj 0 (dropS ps p, [(s.1.kind, s.1.obj)])).1) (by rfl) <| J_pick (A := row 418 2 _ _) PC ?_
  refine J_rowEq (ys := (dropK (kDropT k) s.1.obj 0 (dropS ps p, [(s.1.kind, s.1.obj)])).2.map encI) (by rfl) <| nq <| J_block <| J_loop2 (fun (j : Nat) v => j ≤ 16) (fun j v => row 418 2 v (((dropK (kDropT k) s.1.obj j (dropS ps p, [(s.1.kind, s.1.obj)])).2).map encI) :: blk b5 69 (encC s.1) :: slA b o (dropK (kDropT k) s.1.obj j (dropS ps p, [(s.1.kind, s.1.obj)])).1 :: m) (fun j v => [(35, .int .i64 (j : Int)), (7, v), (0, .pointer (some ⟨b, o, none⟩)), (5, .pointer (some ⟨b5, 0, none⟩))]) (fun j v => 16 - j) 0 _ (by omega) SU KE ?_
  intro j v hj
  have hlen := dropK_len (kDropT_len k) (u := s.1.obj) (x := (dropS ps p, [(s.1.kind, s.1.obj)])) j
  have hlen1 := dropK_len (kDropT_len k) (u := s.1.obj) (x := (dropS ps p, [(s.1.kind, s.1.obj)])) (j + 1)
  simp only [List.length_cons, List.length_nil] at hlen hlen1
  rw [dropK_succ] at hlen1
  simp only [List.length_append] at hlen1
  have hle := dropK_le (kDropT_len k) (u := s.1.obj) (x := (dropS ps p, [(s.1.kind, s.1.obj)])) j
  simp only at hle
  refine sr <| L_pur rfl (p_lss rfl rfl) <| nq <| J_seq ?_
  refine C_dec rfl (fun h36 => ?_) (fun h36 => ?_)
  refine J_skip <| Q_then <| J_seq <| J_block <| sr <| mv rfl rfl <| ag rfl rfl <| ny ?_
  refine mv rfl rfl <| mv rfl rfl <| fa rfl rfl fa69_1 <| L_val rfl (v_load rfl ty3 HS (by exact rfl)) ?_
  refine mv rfl rfl <| L_pur rfl (bld67 (.cons rfl (.cons rfl .nil)) (by repeat constructor)) <| L_op <| xc fc232 (.cons rfl (.cons rfl .nil)) rfl (hD k rfl _ _ _ b o (dropK (kDropT k) s.1.obj j (dropS ps p, [(s.1.kind, s.1.obj)])).1 (s.1.obj, (j : Int)) PC (by omega) (by omega)) <| JR fun a44 c44 hw44 hl44 hm44 hz44 => L_op <| x_app rfl rfl Tryz.underlying326 ty418 rfl rfl PC (fun w H => sep_reads HS H) (by simp; omega) (by simp; omega) rfl <| JE ((dropK (kDropT k) s.1.obj (j + 1) (dropS ps p, [(s.1.kind, s.1.obj)])).2.map encI) (by rw [dropK_succ]; simp) fun a45 c45 hw45 hl45 hm45 hz45 => ?_
  refine J_pick (A := slA b o _) PC ?_
  refine J_asTo (B := slA b o (dropK (kDropT k) s.1.obj (j + 1) (dropS ps p, [(s.1.kind, s.1.obj)])).1) (by rw [dropK_succ]) <| ag rfl rfl <| L_nil <| Q_blk_normal <| qr <| L_pur rfl (p_add64 rfl rfl (by omega)) <| mv rfl rfl <| nq ?_
  exact J_again2 (j + 1) _ (by omega) (by omega) SU KE
  have hj16 : j = 16 := by omega
  subst hj16
  refine J_exit <| Q_then_exit <| Q_then_exit <| Q_blk_this <| qx <| mv rfl rfl <| ag rfl rfl <| nq ?_
  refine J_ret <| J_pick (A := slA b o _) PC ?_
  refine J_asTo (B := slA b o (kDropT (k + 1) ps p).1) (by rw [hkd]) <| J_pick (A := row 418 2 _ _) PC ?_
  refine J_rowEq (ys := (kDropT (k + 1) ps p).2.map encI) (by rw [hkd]; try rfl) ?_
  exact J_return (_) Tryz.results232 (.tmp rfl .nil) rfl SU
theorem dropAll : ∀ n, DropC n
  | 0 => fun _ _ _ _ _ _ _ hp hn h1 => dropStep hp (fun _ h => by cases h) hn h1
  | n + 1 => fun _ _ _ _ _ _ _ hp hn h1 => dropStep hp (fun k h => by cases h; exact dropAll n) hn h1
theorem deleteG {E : World} {l m : List As} {b o : Nat} {ps : List (Place × SV)} (hp : Pick (slA b o ps) l m) {p : Place} (hz : ps.length ≤ 100000) :
    Con Tryz.prog 167 #[.pointer (some ⟨b, o, none⟩), .agg (encI p).toArray] E l (fun v : Value => .tuple #[v, .int .i64 (deleteS ps p).2]) (fun v => row 418 2 v (((deleteS ps p).1.2).map encI) :: slA b o (deleteS ps p).1.1 :: m) := by
  refine Con.body (vs := [.pointer (some ⟨b, o, none⟩), .agg (encI p).toArray]) (n := 19) Tryz.func167 rfl rfl [(0, .pointer (some ⟨b, o, none⟩)), (1, .agg (encI p).toArray)] (env_ok 2 rfl) <| J_pick hp <| sr <| L_op <| x_box rfl rfl rfl fun b3 => ag rfl rfl <| ag rfl rfl <| nxx ?_
  refine mv rfl rfl <| L_val rfl (v_loadA rfl ty67 HS CT) ?_
  refine L_op <| xc fc34 (.cons rfl (.cons rfl .nil)) rfl (slGetC (ps := ps) (p := p) PC) fun _ => ?_
  refine mv rfl rfl <| L_pur rfl (p_extract rfl rfl) <| L_pur rfl (p_extract rfl rfl) <| L_op <| x_alloc ty69 rfl fun b6 => L_op <| x_store rfl rfl ty69 rfl SM SM RO PT ?_
  refine ag rfl rfl <| nx <| mv rfl rfl <| L_pur rfl (p_not rfl) <| nq ?_
  refine C_split rfl (fun h15 => ?_) (fun h15 => ?_)
  have hno : look ps p = none := by
    cases hq : look ps p with
    | none => rfl
    | some y => rw [hq] at h15; simp at h15
  have hkd : (deleteS ps p) = ((ps, []), 4) := by unfold deleteS; rw [hno]
  refine J_nil (el := 418) (sz := 2) <| sr <| ag rfl rfl <| ag rfl rfl <| nq <| J_ret <| Q_then_ret <| J_pick (A := slA b o _) PC ?_
  refine J_asTo (B := slA b o (deleteS ps p).1.1) (by rw [hkd]) <| J_pick (A := row 418 2 _ _) PC ?_
  refine J_rowEq (ys := (deleteS ps p).1.2.map encI) (by rw [hkd]; try rfl) ?_
  refine J_return (.slice none 0 0) Tryz.results167 (.tmp rfl (.tmp rfl .nil)) ?_ ?_
  · rw [hkd]; rfl
  · exact SU
  obtain ⟨s, hs⟩ : ∃ x, look ps p = some x := by
    cases hq : look ps p with
    | none => rw [hq] at h15; simp at h15
    | some y => exact ⟨y, rfl⟩
  have hkd : (deleteS ps p) = (kDropT ps.length ps p, 0) := by unfold deleteS; rw [hs]
  refine J_skip <| qx <| mv rfl rfl <| L_val rfl (v_loadA rfl ty67 HS CT) ?_
  refine L_op <| xc fc232 (.cons rfl (.cons rfl .nil)) rfl (dropAll ps.length _ _ _ b o ps p PC (Nat.le_refl _) hz) <| JR fun a18 c18 hw18 hl18 hm18 hz18 => ag rfl rfl <| ag rfl rfl <| nq <| J_ret <| J_pick (A := slA b o _) PC ?_
  refine J_asTo (B := slA b o (deleteS ps p).1.1) (by rw [hkd]) <| J_pick (A := row 418 2 _ _) PC ?_
  refine J_rowEq (ys := (deleteS ps p).1.2.map encI) (by rw [hkd]; try rfl) ?_
  refine J_return (.slice a18 ((kDropT ps.length ps p).2.map encI).length c18) Tryz.results167 (.tmp rfl (.tmp rfl .nil)) ?_ ?_
  · rw [hkd]; rfl
  · exact SU
theorem revokeG {E : World} {l m : List As} {b o : Nat} {ps : List (Place × SV)} (hp : Pick (slA b o ps) l m) {p : Place} (hR : RevOk ps p) (hz : ps.length ≤ 100000) :
    Con Tryz.prog 169 #[.pointer (some ⟨b, o, none⟩), .agg (encI p).toArray] E l (fun v : Value => .tuple #[v, .int .i64 (revokeS ps p).2]) (fun v => row 418 2 v (((revokeS ps p).1.2).map encI) :: slA b o (revokeS ps p).1.1 :: m) := by
  refine Con.body (vs := [.pointer (some ⟨b, o, none⟩), .agg (encI p).toArray]) (n := 35) Tryz.func169 rfl rfl [(0, .pointer (some ⟨b, o, none⟩)), (1, .agg (encI p).toArray)] (env_ok 2 rfl) <| J_pick hp <| sr <| L_op <| x_box rfl rfl rfl fun b3 => ag rfl rfl <| ag rfl rfl <| nxx ?_
  refine mv rfl rfl <| L_val rfl (v_loadA rfl ty67 HS CT) ?_
  refine L_op <| xc fc34 (.cons rfl (.cons rfl .nil)) rfl (slGetC (ps := ps) (p := p) PC) fun _ => ?_
  refine mv rfl rfl <| L_pur rfl (p_extract rfl rfl) <| L_pur rfl (p_extract rfl rfl) <| L_op <| x_alloc ty69 rfl fun b6 => L_op <| x_store rfl rfl ty69 rfl SM SM RO PT ?_
  refine ag rfl rfl <| nx <| mv rfl rfl <| L_pur rfl (p_not rfl) <| nq ?_
  refine C_split rfl (fun h17 => ?_) (fun h17 => ?_)
  have hno : look ps p = none := by
    cases hq : look ps p with
    | none => rfl
    | some y => rw [hq] at h17; simp at h17
  have hkd : (revokeS ps p) = ((ps, []), 4) := by unfold revokeS; rw [hno]
  refine J_nil (el := 418) (sz := 2) <| sr <| ag rfl rfl <| ag rfl rfl <| nq <| J_ret <| Q_then_ret <| J_pick (A := slA b o _) PC ?_
  refine J_asTo (B := slA b o (revokeS ps p).1.1) (by rw [hkd]) <| J_pick (A := row 418 2 _ _) PC ?_
  refine J_rowEq (ys := (revokeS ps p).1.2.map encI) (by rw [hkd]; try rfl) ?_
  refine J_return (.slice none 0 0) Tryz.results169 (.tmp rfl (.tmp rfl .nil)) ?_ ?_
  · rw [hkd]; rfl
  · exact SU
  obtain ⟨s, hs⟩ : ∃ x, look ps p = some x := by
    cases hq : look ps p with
    | none => rw [hq] at h17; simp at h17
    | some y => exact ⟨y, rfl⟩
  obtain ⟨R, hRR⟩ := Option.isSome_iff_exists.1 (hR (by rw [hs]; rfl))
  have hkd : (revokeS ps p) = (R, 0) := by unfold revokeS; rw [hs]; dsimp only; rw [hRR]; rfl
  obtain ⟨L, hL⟩ := revL_below hRR
  obtain ⟨L0, hL0, hLs, hLz⟩ := belowS_is hL
  refine J_nil (el := 418) (sz := 2) <| J_skip <| qx <| ag rfl rfl <| nxx <| mv rfl rfl <| L_val rfl (v_loadA rfl ty67 HS CT) ?_
  refine L_op <| xc fc233 (.cons rfl (.cons rfl .nil)) rfl (belowC (ps := ps) (p := p) (N := ps.length) (L := L0) PC hL0 (by omega) hz) <| JE (L.map encI) (by rw [hLs]) fun a20 c20 hw20 hl20 hm20 hz20 => ag rfl rfl <| nq <| J_block <| J_pick (A := row 418 2 (.slice none 0 0) _) PC ?_
  refine J_rowEq (ys := (([] : List Obj2)).map encI) (by rfl) <| J_loop3 (fun (x : List (Place × SV) × List Obj2 × Nat × List Place) v8 v9 => revL p x.2.2.1 x.1 x.2.1 = some R ∧ belowS x.1 p = some x.2.2.2 ∧ x.1.length + x.2.1.length ≤ ps.length) (fun x v8 v9 => row 418 2 v8 ((x.2.1).map encI) :: row 67 2 v9 ((x.2.2.2).map encI) :: blk b3 67 (encI p) :: slA b o x.1 :: m) (fun x v8 v9 => [(8, v8), (9, v9), (0, .pointer (some ⟨b, o, none⟩)), (3, .pointer (some ⟨b3, 0, none⟩))]) (fun x v8 v9 => x.2.2.1) (ps, [], ps.length + 1, L) _ _ ⟨hRR, hL, by simp⟩ SU KE ?_
  intro x v8 v9 hx
  obtain ⟨t, out, n, ls⟩ := x
  obtain ⟨hx1, hx2, hx3⟩ := hx
  dsimp only at hx1 hx2 hx3 ⊢
  refine J_row (v := v9) HS fun hwv av cv hvv hlv hmv hzv => ?_
  subst hvv
  have hmc : cv ≤ 9223372036854775807 := hmv
  have hml : (ls.map encI).length = ls.length := List.length_map _
  refine J_seq <| sr <| mv rfl rfl <| L_pur rfl (p_len rfl Tryz.underlying81) <| J_slot (t := 22) (v := .int .i64 ((ls.length : Int))) rfl (by rw [hml]) <| L_pur rfl (p_gtr rfl rfl) <| nq ?_
  refine C_dec rfl (fun h23 => ?_) (fun h23 => ?_)
  obtain ⟨a0, ts, rfl⟩ : ∃ a0 ts, ls = a0 :: ts := by
    cases ls with
    | nil => simp at h23
    | cons a0 ts => exact ⟨a0, ts, rfl⟩
  obtain ⟨n1, rfl⟩ : ∃ n1, n = n1 + 1 := by
    cases n with
    | zero => simp [revL] at hx1
    | succ n1 => exact ⟨n1, rfl⟩
  rw [revL_step hx2] at hx1
  have hkl := kDropT_len t.length t a0
  obtain ⟨L2, hL2⟩ := revL_below hx1
  obtain ⟨L3, hL3, hLs3, hLz3⟩ := belowS_is hL2
  obtain ⟨bx, ox, rfl⟩ := hzv (by simp)
  refine J_skip <| Q_then <| J_seq <| J_block <| J_region <| mv rfl rfl <| mv rfl rfl <| mv rfl rfl ?_
  refine L_pur rfl (p_indexAddr rfl rfl Tryz.underlying81 ty67 (by simp) (by simp)) <| L_val rfl (v_loadE rfl ty67 HS (by rfl)) ?_
  refine L_op <| xc fc232 (.cons rfl (.cons rfl .nil)) rfl (dropAll t.length _ _ _ b o t a0 PC (Nat.le_refl _) (by omega)) <| JR fun a32 c32 hw32 hl32 hm32 hz32 => L_op <| x_app rfl rfl Tryz.underlying326 ty418 rfl rfl PC (fun w H => sep_reads HS H) (by simp; omega) (by simp; omega) rfl <| JE ((out ++ (kDropT t.length t a0).2).map encI) (by simp) fun a33 c33 hw33 hl33 hm33 hz33 => ag rfl rfl <| L_nil ?_
  refine Q_blk_normal <| qr <| mv rfl rfl <| L_val rfl (v_loadA rfl ty67 HS CT) ?_
  refine L_op <| xc fc233 (.cons rfl (.cons rfl .nil)) rfl (belowC (ps := (kDropT t.length t a0).1) (p := p) (N := (kDropT t.length t a0).1.length) (L := L3) PC hL3 (by omega) (by omega)) <| JE (L2.map encI) (by rw [hLs3]) fun a26 c26 hw26 hl26 hm26 hz26 => ag rfl rfl <| nq ?_
  exact J_again3 ((kDropT t.length t a0).1, out ++ (kDropT t.length t a0).2, n1, L2) _ _ (by show n1 < n1 + 1; omega) (⟨hx1, hL2, by show (kDropT t.length t a0).1.length + (out ++ (kDropT t.length t a0).2).length ≤ ps.length; rw [List.length_append]; omega⟩) SU KE
  obtain rfl : ls = [] := by
    cases ls with
    | nil => rfl
    | cons a0 ts => exfalso; simp at h23 <;> omega
  obtain rfl : (t, out) = R := by
    cases n with
    | zero => simp [revL] at hx1
    | succ n => rw [revL, hx2] at hx1; exact Option.some.inj hx1
  refine J_exit <| Q_then_exit <| Q_then_exit <| Q_blk_this <| qx <| mv rfl rfl <| ag rfl rfl <| ag rfl rfl ?_
  refine nq <| J_ret <| J_pick (A := slA b o _) PC ?_
  refine J_asTo (B := slA b o (revokeS ps p).1.1) (by rw [hkd]) <| J_pick (A := row 418 2 _ _) PC ?_
  refine J_rowEq (ys := (revokeS ps p).1.2.map encI) (by rw [hkd]; try rfl) ?_
  refine J_return (v8) Tryz.results169 (.tmp rfl (.tmp rfl .nil)) ?_ ?_
  · rw [hkd]; rfl
  · exact SU
end Go.Pse
namespace Go.Pse
open Go.RowKit Go.Proofs
/-! ### plain: objects are made of memory -/
def usedM (mr : List (Place × Int)) (r : Place) : Int := (look mr r).getD 0
def mtkOk (mr : List (Place × Int)) (r : Place) (n : Int) : Bool := decide (1 ≤ n) && decide (n ≤ r.2 - usedM mr r)
def mtkM (mr : List (Place × Int)) (r : Place) (n : Int) : List (Place × Int) := if mtkOk mr r n = true then ins mr r (usedM mr r + n) else mr
def mtkV (mr : List (Place × Int)) (r : Place) (n : Int) : Int := if mtkOk mr r n = true then r.1 + usedM mr r else 0
def kindsC (kind size : Int) : Int := if kind = 2 ∨ kind = 3 ∨ kind = 4 ∨ kind = 5 ∨ kind = 7 then (if size ≠ 0 then 7 else 0) else if kind = 1 then (if size < 1 ∨ size > 64 then 7 else 0) else 5
def sizeC (c : Cap) : Int := if c.kind = 1 then c.size else 1
def withinC (c u : Cap) : Bool := !(decide (c.obj ≥ u.obj + u.size) || decide (c.obj + sizeC c ≤ u.obj)) && (decide (c.kind ≠ 1) || decide (c.obj > u.obj) || decide (c.obj + sizeC c < u.obj + u.size))
def bareS (ps : List (Place × SV)) (u : Cap) : Bool := ps.all fun e => !withinC e.2.1 u
def rangeC (c : Cap) : Place := if c.kind ≠ 1 then (0, 0) else (c.obj, c.size)
def CapsOk (ps : List (Place × SV)) : Prop := ∀ e ∈ ps, checkC e.2.1 = true
def MarksOk (mr : List (Place × Int)) : Prop := ∀ e ∈ mr, 0 ≤ e.2 ∧ e.2 ≤ 64
def resetM (ps : List (Place × SV)) (mr : List (Place × Int)) (u : Cap) : List (Place × Int) := if bareS ps u = true then del mr (rangeC u) else mr
def madeC (mr : List (Place × Int)) (u : Cap) (kind size : Int) : Cap := ⟨kind, mtkV mr (rangeC u) (max size 1), size, 0, 7⟩
def makeS (ps : List (Place × SV)) (mr : List (Place × Int)) (p q : Place) (kind size : Int) : (List (Place × SV) × List (Place × Int)) × Cap × Int := match look ps p with
  | none => ((ps, mr), c0, 4)
  | some u => if u.1.kind ≠ 1 then ((ps, mr), c0, 5) else if canP q = false then ((ps, mr), c0, 7) else if (look ps q).isSome then ((ps, mr), c0, 3) else if kindsC kind size ≠ 0 then ((ps, mr), c0, kindsC kind size)
    else if mtkOk (resetM ps mr u.1) (rangeC u.1) (max size 1) = true then ((slPut ps q (madeC (resetM ps mr u.1) u.1 kind size) p, mtkM (resetM ps mr u.1) (rangeC u.1) (max size 1)), madeC (resetM ps mr u.1) u.1 kind size, 0)
    else ((ps, resetM ps mr u.1), c0, 8)
theorem checkC_is {c : Cap} (h : checkC c = true) : (1 ≤ c.obj ∧ c.obj ≤ 64) ∧ (0 ≤ c.size ∧ c.size ≤ 64) ∧ (c.kind = 1 → c.obj + c.size ≤ 65 ∧ 1 ≤ c.size) := by
  unfold checkC inB at h
  simp only [Bool.and_eq_true, decide_eq_true_eq] at h
  obtain ⟨⟨⟨h1, h2⟩, h3⟩, h4⟩ := h
  split at h4
  · simp at h4; omega
  · split at h4
    · simp at h4; omega
    · split at h4 <;> simp at h4 <;> omega
theorem usedM_is {mr : List (Place × Int)} (h : MarksOk mr) (r : Place) : 0 ≤ usedM mr r ∧ usedM mr r ≤ 64 := by
  unfold usedM
  cases hq : look mr r with
  | none => simp
  | some y => exact h _ (mem_look hq)
theorem MarksOk.del {mr : List (Place × Int)} (h : MarksOk mr) (r : Place) : MarksOk (del mr r) := fun e he => h e (List.mem_filter.1 he).1
theorem MarksOk.reset {mr : List (Place × Int)} (h : MarksOk mr) (ps : List (Place × SV)) (u : Cap) : MarksOk (resetM ps mr u) := by
  unfold resetM; split
  · exact h.del _
  · exact h
theorem mkReset {E : World} {l m : List As} {b o : Nat} {mr : List (Place × Int)} (hp : Pick (mkA b o mr) l m) {r : Place} :
    Con Tryz.prog 237 #[.pointer (some ⟨b, o, none⟩), .agg (encI r).toArray] E l (fun _ : Unit => .tuple #[]) (fun _ => mkA b o (del mr r) :: m) := by
  refine Con.body (vs := [.pointer (some ⟨b, o, none⟩), .agg (encI r).toArray]) (n := 9) Tryz.func237 rfl rfl [(0, .pointer (some ⟨b, o, none⟩)), (1, .agg (encI r).toArray)] (env_ok 2 rfl) <| J_pick hp <| J_mkO fun ob _ => sr <| L_op <| x_box rfl rfl rfl fun b3 => nq <| J_drawT 5 mixed (by kernel_rfl) ?_
  refine sm rfl rfl <| sp rfl (p_nilCheck rfl) <| sp rfl (p_fieldAddr rfl fa111_0) <| S_val rfl (v_loadL rfl ty109 HS rfl (by exact rfl)) ?_
  refine S_val rfl (v_loadA rfl ty386 HS CT) ?_
  refine S_nil <| L_op <| x_delete (ek := kI) (ev := evZ) (a := r) rfl rfl ky386 Tryz.underlying109 PC ?_
  refine L_nil <| J_endnormal <| J_mkS (b := b) (o := o) (ps := del mr r) _ PX trivial ?_
  exact J_return (()) Tryz.results237 .nil rfl SU
theorem mkTake {E : World} {l m : List As} {b o : Nat} {mr : List (Place × Int)} (hp : Pick (mkA b o mr) l m) {r : Place} {n : Int} (hm : MarksOk mr) (hr : 0 ≤ r.1 ∧ r.1 ≤ 64 ∧ 0 ≤ r.2 ∧ r.2 ≤ 64) :
    Con Tryz.prog 238 #[.pointer (some ⟨b, o, none⟩), .agg (encI r).toArray, .int .i64 n] E l (fun _ : Unit => .tuple #[.int .i64 (mtkV mr r n), .bool (mtkOk mr r n)]) (fun _ => mkA b o (mtkM mr r n) :: m) := by
  refine Con.body (vs := [.pointer (some ⟨b, o, none⟩), .agg (encI r).toArray, .int .i64 n]) (n := 46) Tryz.func238 rfl rfl [(0, .pointer (some ⟨b, o, none⟩)), (1, .agg (encI r).toArray), (2, .int .i64 n)] (env_ok 3 rfl) <| J_pick hp <| J_mkO fun ob _ => ?_
  have hus := usedM_is hm r
  refine sr <| L_op <| x_box rfl rfl rfl fun b4 => ag rfl rfl <| ag rfl rfl <| nq <| J_seq <| J_drawS mixed (by kernel_rfl) ?_
  refine sm rfl rfl <| sp rfl (p_nilCheck rfl) <| sp rfl (p_fieldAddr rfl fa111_0) <| S_val rfl (v_loadL rfl ty109 HS rfl (by exact rfl)) ?_
  refine S_val rfl (v_loadA rfl ty386 HS CT) ?_
  refine S_val rfl (v_look (ek := kI) (ev := evZ) (a := r) rfl rfl ky386 Tryz.underlying109 zv3 HS) ?_
  refine J_slot (t := 14) (v := .int .i64 (usedM mr r)) rfl (by unfold usedM; cases look mr r <;> rfl) <| sp rfl (p_assign rfl) <| sq <| J_seq <| sr <| mv rfl rfl <| L_pur rfl (p_lss rfl rfl) <| mv rfl rfl ?_
  refine J_gsplit (t := 17) rfl (fun h17 => ?_) (fun h17 => ?_)
  refine L_op <| G_off rfl rfl rfl rfl rfl rfl <| L_op <| G_off rfl rfl rfl rfl rfl rfl <| L_op <| G_off rfl rfl rfl rfl rfl rfl <| L_op <| G_off rfl rfl rfl rfl rfl rfl ?_
  refine L_op <| G_off rfl rfl rfl rfl rfl rfl <| L_op <| G_off rfl rfl rfl rfl rfl rfl <| L_pur rfl (p_pick_t rfl rfl) <| nq <| C_true rfl <| J_seq ?_
  have hto : mtkOk mr r n = false := by unfold mtkOk; first | (simp_all; done) | (simp_all <;> omega)
  have htm : mtkM mr r n = mr := by unfold mtkM; rw [if_neg (by rw [hto]; decide)]
  have htv : mtkV mr r n = 0 := by unfold mtkV; rw [if_neg (by rw [hto]; decide)]
  refine J_mkS (b := b) (o := o) (ps := mr) _ PX trivial ?_
  refine J_asTo (B := mkA b o (mtkM mr r n)) (by rw [htm]) <| J_region <| ag rfl rfl <| ag rfl rfl <| nq <| J_ret <| Q_then_ret ?_
  refine J_return (()) Tryz.results238 (.tmp rfl (.tmp rfl .nil)) ?_ ?_
  · rw [hto, htv]; rfl
  · exact SU
  refine L_op <| G_on rfl rfl rfl <| J_pur (p_move rfl) rfl rfl rfl <| L_op <| G_on rfl rfl rfl <| J_pur (p_fieldAddr rfl fa386_1) rfl rfl rfl <| L_op <| G_on rfl rfl rfl ?_
  refine J_val (v_load rfl ty3 HS (by exact rfl)) rfl rfl rfl ?_
  refine L_op <| G_on rfl rfl rfl <| J_pur (p_move rfl) rfl rfl rfl <| L_op <| G_on rfl rfl rfl <| J_pur (p_sub64 rfl rfl (by omega)) rfl rfl rfl <| L_op <| G_on rfl rfl rfl ?_
  refine J_pur (p_gtr rfl rfl) rfl rfl rfl <| L_pur rfl (p_pick_f rfl rfl) <| nq ?_
  refine C_split rfl (fun h24 => ?_) (fun h24 => ?_)
  refine J_seq ?_
  have hto : mtkOk mr r n = false := by unfold mtkOk; first | (simp_all; done) | (simp_all <;> omega)
  have htm : mtkM mr r n = mr := by unfold mtkM; rw [if_neg (by rw [hto]; decide)]
  have htv : mtkV mr r n = 0 := by unfold mtkV; rw [if_neg (by rw [hto]; decide)]
  refine J_mkS (b := b) (o := o) (ps := mr) _ PX trivial ?_
  refine J_asTo (B := mkA b o (mtkM mr r n)) (by rw [htm]) <| J_region <| ag rfl rfl <| ag rfl rfl <| nq <| J_ret <| Q_then_ret ?_
  refine J_return (()) Tryz.results238 (.tmp rfl (.tmp rfl .nil)) ?_ ?_
  · rw [hto, htv]; rfl
  · exact SU
  refine J_skip <| Q_then <| J_seq <| J_seq ?_
  have hto : mtkOk mr r n = true := by unfold mtkOk; simp_all
  have htm : mtkM mr r n = ins mr r (usedM mr r + n) := by unfold mtkM; rw [if_pos hto]
  have htv : mtkV mr r n = r.1 + usedM mr r := by unfold mtkV; rw [if_pos hto]
  have hn2 : 1 ≤ n ∧ n ≤ r.2 - usedM mr r := by unfold mtkOk at hto; simpa using hto
  refine J_region <| mv rfl rfl <| nc rfl rfl <| fa rfl rfl fa111_0 <| L_val rfl (v_loadL rfl ty109 HS rfl (by exact rfl)) ?_
  refine L_pur rfl (p_eqNilMap Tryz.underlying109 rfl) <| nq ?_
  refine C_split rfl (fun h29 => ?_) (fun h29 => ?_)
  obtain rfl : ob = none := by simpa using h29
  refine J_mapNone (ps := mr) HS fun hps => ?_
  subst hps
  refine J_region <| mv rfl rfl <| L_op <| x_makeMap (ek := kI) (ev := evZ) rfl fun b31 => nc rfl rfl <| fa rfl rfl fa111_0 <| L_op <| x_storeL rfl rfl ty109 rfl SM SM rfl RO rfl PT ?_
  refine nq <| J_seq <| J_drawT 8 mixed (by kernel_rfl) <| sm rfl rfl <| sp rfl (p_nilCheck rfl) <| sp rfl (p_fieldAddr rfl fa111_0) <| S_val rfl (v_loadL rfl ty109 HS rfl (by exact rfl)) ?_
  refine S_val rfl (v_loadA rfl ty386 HS CT) ?_
  refine sm rfl rfl <| sm rfl rfl <| sp rfl (p_add64 rfl rfl (by omega)) <| S_nil <| L_op <| x_mapUpdate (ek := kI) (ev := evZ) (a := r) (c := usedM _ r + n) rfl rfl rfl ky386 Tryz.underlying109 PC ?_
  refine J_mkS (b := b) (o := o) (ps := ins [] r (usedM [] r + n)) _ PX trivial ?_
  refine J_asTo (B := mkA b o (mtkM [] r n)) (by rw [htm]) <| nx <| fa rfl rfl fa386_0 <| L_val rfl (v_load rfl ty3 HS (by exact rfl)) ?_
  refine mv rfl rfl <| L_pur rfl (p_add64 rfl rfl (by omega)) <| ag rfl rfl <| ag rfl rfl <| nq <| J_ret ?_
  refine J_return (()) Tryz.results238 (.tmp rfl (.tmp rfl .nil)) ?_ ?_
  · rw [hto, htv]; rfl
  · exact SU
  obtain ⟨bm, rfl⟩ : ∃ bm, ob = some bm := by cases ob with | none => simp at h29 | some x => exact ⟨x, rfl⟩
  refine J_skip <| Q_then <| J_seq <| J_drawT 8 mixed (by kernel_rfl) <| sm rfl rfl <| sp rfl (p_nilCheck rfl) <| sp rfl (p_fieldAddr rfl fa111_0) <| S_val rfl (v_loadL rfl ty109 HS rfl (by exact rfl)) ?_
  refine S_val rfl (v_loadA rfl ty386 HS CT) ?_
  refine sm rfl rfl <| sm rfl rfl <| sp rfl (p_add64 rfl rfl (by omega)) <| S_nil <| L_op <| x_mapUpdate (ek := kI) (ev := evZ) (a := r) (c := usedM _ r + n) rfl rfl rfl ky386 Tryz.underlying109 PC ?_
  refine J_mkS (b := b) (o := o) (ps := ins mr r (usedM mr r + n)) _ PX trivial ?_
  refine J_asTo (B := mkA b o (mtkM mr r n)) (by rw [htm]) <| nx <| fa rfl rfl fa386_0 <| L_val rfl (v_load rfl ty3 HS (by exact rfl)) ?_
  refine mv rfl rfl <| L_pur rfl (p_add64 rfl rfl (by omega)) <| ag rfl rfl <| ag rfl rfl <| nq <| J_ret ?_
  refine J_return (()) Tryz.results238 (.tmp rfl (.tmp rfl .nil)) ?_ ?_
  · rw [hto, htv]; rfl
  · exact SU
theorem kindsG {E : World} {l : List As} {k z : Int} :
    Con Tryz.prog 234 #[.int .i64 k, .int .i64 z] E l (fun _ : Unit => .int .i64 (kindsC k z)) (fun _ => l) := by
  refine Con.body (vs := [.int .i64 k, .int .i64 z]) (n := 22) Tryz.func234 rfl rfl [(0, .int .i64 k), (1, .int .i64 z)] (env_ok 2 rfl) <| sr <| ag rfl rfl <| nxx <| mv rfl rfl <| nq <| J_block <| J_seq ?_
  refine sr <| L_pur rfl (p_eql rfl rfl) <| ag rfl rfl <| nq ?_
  refine C_split rfl (fun h6 => ?_) (fun h6 => ?_)
  refine J_skip <| Q_then ?_
  refine C_split rfl (fun h6 => ?_) (fun h6 => ?_)
  refine sr <| mv rfl rfl <| L_pur rfl (p_neq rfl rfl) <| nq ?_
  refine C_split rfl (fun h13 => ?_) (fun h13 => ?_)
  refine sr <| ag rfl rfl <| nq <| J_ret <| Q_blk_ret <| Q_then_ret ?_
  refine J_return (()) Tryz.results234 (.tmp rfl .nil) ?_ ?_
  · first | rfl | (simp_all [one, kindsC]; done) | (simp_all [one, kindsC] <;> omega)
  · exact SU
  refine J_skip <| Q_blk_normal <| qx <| ag rfl rfl <| nq <| J_ret ?_
  refine J_return (()) Tryz.results234 (.tmp rfl .nil) ?_ ?_
  · first | rfl | (simp_all [one, kindsC]; done) | (simp_all [one, kindsC] <;> omega)
  · exact SU
  refine sr <| L_pur rfl (p_eql rfl rfl) <| ag rfl rfl <| nq ?_
  refine C_split rfl (fun h14 => ?_) (fun h14 => ?_)
  refine sr <| mv rfl rfl <| L_pur rfl (p_lss rfl rfl) <| mv rfl rfl ?_
  refine J_gsplit (t := 18) rfl (fun h18 => ?_) (fun h18 => ?_)
  refine L_op <| G_off rfl rfl rfl rfl rfl rfl <| L_op <| G_off rfl rfl rfl rfl rfl rfl <| L_pur rfl (p_pick_t rfl rfl) <| nq <| C_true rfl <| sr ?_
  refine ag rfl rfl <| nq <| J_ret <| Q_blk_ret <| Q_then_ret ?_
  refine J_return (()) Tryz.results234 (.tmp rfl .nil) ?_ ?_
  · first | rfl | (simp_all [one, kindsC]; done) | (simp_all [one, kindsC] <;> omega)
  · exact SU
  refine L_op <| G_on rfl rfl rfl <| J_pur (p_move rfl) rfl rfl rfl <| L_op <| G_on rfl rfl rfl <| J_pur (p_gtr rfl rfl) rfl rfl rfl <| L_pur rfl (p_pick_f rfl rfl) <| nq ?_
  refine C_split rfl (fun h21 => ?_) (fun h21 => ?_)
  refine sr <| ag rfl rfl <| nq <| J_ret <| Q_blk_ret <| Q_then_ret ?_
  refine J_return (()) Tryz.results234 (.tmp rfl .nil) ?_ ?_
  · first | rfl | (simp_all [one, kindsC]; done) | (simp_all [one, kindsC] <;> omega)
  · exact SU
  refine J_skip <| Q_blk_normal <| qx <| ag rfl rfl <| nq <| J_ret ?_
  refine J_return (()) Tryz.results234 (.tmp rfl .nil) ?_ ?_
  · first | rfl | (simp_all [one, kindsC]; done) | (simp_all [one, kindsC] <;> omega)
  · exact SU
  refine sr <| ag rfl rfl <| nq <| J_ret <| Q_blk_ret <| Q_then_ret ?_
  refine J_return (()) Tryz.results234 (.tmp rfl .nil) ?_ ?_
  · first | rfl | (simp_all [one, kindsC]; done) | (simp_all [one, kindsC] <;> omega)
  · exact SU
  refine sr <| L_pur rfl (p_eql rfl rfl) <| ag rfl rfl <| nq ?_
  refine C_split rfl (fun h6 => ?_) (fun h6 => ?_)
  refine J_skip <| Q_then ?_
  refine C_split rfl (fun h6 => ?_) (fun h6 => ?_)
  refine sr <| mv rfl rfl <| L_pur rfl (p_neq rfl rfl) <| nq ?_
  refine C_split rfl (fun h13 => ?_) (fun h13 => ?_)
  refine sr <| ag rfl rfl <| nq <| J_ret <| Q_blk_ret <| Q_then_ret ?_
  refine J_return (()) Tryz.results234 (.tmp rfl .nil) ?_ ?_
  · first | rfl | (simp_all [one, kindsC]; done) | (simp_all [one, kindsC] <;> omega)
  · exact SU
  refine J_skip <| Q_blk_normal <| qx <| ag rfl rfl <| nq <| J_ret ?_
  refine J_return (()) Tryz.results234 (.tmp rfl .nil) ?_ ?_
  · first | rfl | (simp_all [one, kindsC]; done) | (simp_all [one, kindsC] <;> omega)
  · exact SU
  refine sr <| L_pur rfl (p_eql rfl rfl) <| ag rfl rfl <| nq ?_
  refine C_split rfl (fun h14 => ?_) (fun h14 => ?_)
  refine sr <| mv rfl rfl <| L_pur rfl (p_lss rfl rfl) <| mv rfl rfl ?_
  refine J_gsplit (t := 18) rfl (fun h18 => ?_) (fun h18 => ?_)
  refine L_op <| G_off rfl rfl rfl rfl rfl rfl <| L_op <| G_off rfl rfl rfl rfl rfl rfl <| L_pur rfl (p_pick_t rfl rfl) <| nq <| C_true rfl <| sr ?_
  refine ag rfl rfl <| nq <| J_ret <| Q_blk_ret <| Q_then_ret ?_
  refine J_return (()) Tryz.results234 (.tmp rfl .nil) ?_ ?_
  · first | rfl | (simp_all [one, kindsC]; done) | (simp_all [one, kindsC] <;> omega)
  · exact SU
  refine L_op <| G_on rfl rfl rfl <| J_pur (p_move rfl) rfl rfl rfl <| L_op <| G_on rfl rfl rfl <| J_pur (p_gtr rfl rfl) rfl rfl rfl <| L_pur rfl (p_pick_f rfl rfl) <| nq ?_
  refine C_split rfl (fun h21 => ?_) (fun h21 => ?_)
  refine sr <| ag rfl rfl <| nq <| J_ret <| Q_blk_ret <| Q_then_ret ?_
  refine J_return (()) Tryz.results234 (.tmp rfl .nil) ?_ ?_
  · first | rfl | (simp_all [one, kindsC]; done) | (simp_all [one, kindsC] <;> omega)
  · exact SU
  refine J_skip <| Q_blk_normal <| qx <| ag rfl rfl <| nq <| J_ret ?_
  refine J_return (()) Tryz.results234 (.tmp rfl .nil) ?_ ?_
  · first | rfl | (simp_all [one, kindsC]; done) | (simp_all [one, kindsC] <;> omega)
  · exact SU
  refine sr <| ag rfl rfl <| nq <| J_ret <| Q_blk_ret <| Q_then_ret ?_
  refine J_return (()) Tryz.results234 (.tmp rfl .nil) ?_ ?_
  · first | rfl | (simp_all [one, kindsC]; done) | (simp_all [one, kindsC] <;> omega)
  · exact SU
  refine sr <| L_pur rfl (p_eql rfl rfl) <| ag rfl rfl <| nq ?_
  refine C_split rfl (fun h6 => ?_) (fun h6 => ?_)
  refine J_skip <| Q_then ?_
  refine C_split rfl (fun h6 => ?_) (fun h6 => ?_)
  refine sr <| mv rfl rfl <| L_pur rfl (p_neq rfl rfl) <| nq ?_
  refine C_split rfl (fun h13 => ?_) (fun h13 => ?_)
  refine sr <| ag rfl rfl <| nq <| J_ret <| Q_blk_ret <| Q_then_ret ?_
  refine J_return (()) Tryz.results234 (.tmp rfl .nil) ?_ ?_
  · first | rfl | (simp_all [one, kindsC]; done) | (simp_all [one, kindsC] <;> omega)
  · exact SU
  refine J_skip <| Q_blk_normal <| qx <| ag rfl rfl <| nq <| J_ret ?_
  refine J_return (()) Tryz.results234 (.tmp rfl .nil) ?_ ?_
  · first | rfl | (simp_all [one, kindsC]; done) | (simp_all [one, kindsC] <;> omega)
  · exact SU
  refine sr <| L_pur rfl (p_eql rfl rfl) <| ag rfl rfl <| nq ?_
  refine C_split rfl (fun h14 => ?_) (fun h14 => ?_)
  refine sr <| mv rfl rfl <| L_pur rfl (p_lss rfl rfl) <| mv rfl rfl ?_
  refine J_gsplit (t := 18) rfl (fun h18 => ?_) (fun h18 => ?_)
  refine L_op <| G_off rfl rfl rfl rfl rfl rfl <| L_op <| G_off rfl rfl rfl rfl rfl rfl <| L_pur rfl (p_pick_t rfl rfl) <| nq <| C_true rfl <| sr ?_
  refine ag rfl rfl <| nq <| J_ret <| Q_blk_ret <| Q_then_ret ?_
  refine J_return (()) Tryz.results234 (.tmp rfl .nil) ?_ ?_
  · first | rfl | (simp_all [one, kindsC]; done) | (simp_all [one, kindsC] <;> omega)
  · exact SU
  refine L_op <| G_on rfl rfl rfl <| J_pur (p_move rfl) rfl rfl rfl <| L_op <| G_on rfl rfl rfl <| J_pur (p_gtr rfl rfl) rfl rfl rfl <| L_pur rfl (p_pick_f rfl rfl) <| nq ?_
  refine C_split rfl (fun h21 => ?_) (fun h21 => ?_)
  refine sr <| ag rfl rfl <| nq <| J_ret <| Q_blk_ret <| Q_then_ret ?_
  refine J_return (()) Tryz.results234 (.tmp rfl .nil) ?_ ?_
  · first | rfl | (simp_all [one, kindsC]; done) | (simp_all [one, kindsC] <;> omega)
  · exact SU
  refine J_skip <| Q_blk_normal <| qx <| ag rfl rfl <| nq <| J_ret ?_
  refine J_return (()) Tryz.results234 (.tmp rfl .nil) ?_ ?_
  · first | rfl | (simp_all [one, kindsC]; done) | (simp_all [one, kindsC] <;> omega)
  · exact SU
  refine sr <| ag rfl rfl <| nq <| J_ret <| Q_blk_ret <| Q_then_ret ?_
  refine J_return (()) Tryz.results234 (.tmp rfl .nil) ?_ ?_
  · first | rfl | (simp_all [one, kindsC]; done) | (simp_all [one, kindsC] <;> omega)
  · exact SU
  refine sr <| L_pur rfl (p_eql rfl rfl) <| ag rfl rfl <| nq ?_
  refine C_split rfl (fun h6 => ?_) (fun h6 => ?_)
  refine J_skip <| Q_then ?_
  refine C_split rfl (fun h6 => ?_) (fun h6 => ?_)
  refine sr <| mv rfl rfl <| L_pur rfl (p_neq rfl rfl) <| nq ?_
  refine C_split rfl (fun h13 => ?_) (fun h13 => ?_)
  refine sr <| ag rfl rfl <| nq <| J_ret <| Q_blk_ret <| Q_then_ret ?_
  refine J_return (()) Tryz.results234 (.tmp rfl .nil) ?_ ?_
  · first | rfl | (simp_all [one, kindsC]; done) | (simp_all [one, kindsC] <;> omega)
  · exact SU
  refine J_skip <| Q_blk_normal <| qx <| ag rfl rfl <| nq <| J_ret ?_
  refine J_return (()) Tryz.results234 (.tmp rfl .nil) ?_ ?_
  · first | rfl | (simp_all [one, kindsC]; done) | (simp_all [one, kindsC] <;> omega)
  · exact SU
  refine sr <| L_pur rfl (p_eql rfl rfl) <| ag rfl rfl <| nq ?_
  refine C_split rfl (fun h14 => ?_) (fun h14 => ?_)
  refine sr <| mv rfl rfl <| L_pur rfl (p_lss rfl rfl) <| mv rfl rfl ?_
  refine J_gsplit (t := 18) rfl (fun h18 => ?_) (fun h18 => ?_)
  refine L_op <| G_off rfl rfl rfl rfl rfl rfl <| L_op <| G_off rfl rfl rfl rfl rfl rfl <| L_pur rfl (p_pick_t rfl rfl) <| nq <| C_true rfl <| sr ?_
  refine ag rfl rfl <| nq <| J_ret <| Q_blk_ret <| Q_then_ret ?_
  refine J_return (()) Tryz.results234 (.tmp rfl .nil) ?_ ?_
  · first | rfl | (simp_all [one, kindsC]; done) | (simp_all [one, kindsC] <;> omega)
  · exact SU
  refine L_op <| G_on rfl rfl rfl <| J_pur (p_move rfl) rfl rfl rfl <| L_op <| G_on rfl rfl rfl <| J_pur (p_gtr rfl rfl) rfl rfl rfl <| L_pur rfl (p_pick_f rfl rfl) <| nq ?_
  refine C_split rfl (fun h21 => ?_) (fun h21 => ?_)
  refine sr <| ag rfl rfl <| nq <| J_ret <| Q_blk_ret <| Q_then_ret ?_
  refine J_return (()) Tryz.results234 (.tmp rfl .nil) ?_ ?_
  · first | rfl | (simp_all [one, kindsC]; done) | (simp_all [one, kindsC] <;> omega)
  · exact SU
  refine J_skip <| Q_blk_normal <| qx <| ag rfl rfl <| nq <| J_ret ?_
  refine J_return (()) Tryz.results234 (.tmp rfl .nil) ?_ ?_
  · first | rfl | (simp_all [one, kindsC]; done) | (simp_all [one, kindsC] <;> omega)
  · exact SU
  refine sr <| ag rfl rfl <| nq <| J_ret <| Q_blk_ret <| Q_then_ret ?_
  refine J_return (()) Tryz.results234 (.tmp rfl .nil) ?_ ?_
  · first | rfl | (simp_all [one, kindsC]; done) | (simp_all [one, kindsC] <;> omega)
  · exact SU
  refine J_region <| L_pur rfl (p_eql rfl rfl) <| ag rfl rfl <| nq ?_
  refine C_split rfl (fun h6 => ?_) (fun h6 => ?_)
  refine sr <| mv rfl rfl <| L_pur rfl (p_neq rfl rfl) <| nq ?_
  refine C_split rfl (fun h13 => ?_) (fun h13 => ?_)
  refine sr <| ag rfl rfl <| nq <| J_ret <| Q_blk_ret <| Q_then_ret ?_
  refine J_return (()) Tryz.results234 (.tmp rfl .nil) ?_ ?_
  · first | rfl | (simp_all [one, kindsC]; done) | (simp_all [one, kindsC] <;> omega)
  · exact SU
  refine J_skip <| Q_blk_normal <| qx <| ag rfl rfl <| nq <| J_ret ?_
  refine J_return (()) Tryz.results234 (.tmp rfl .nil) ?_ ?_
  · first | rfl | (simp_all [one, kindsC]; done) | (simp_all [one, kindsC] <;> omega)
  · exact SU
  refine sr <| L_pur rfl (p_eql rfl rfl) <| ag rfl rfl <| nq ?_
  refine C_split rfl (fun h14 => ?_) (fun h14 => ?_)
  refine sr <| mv rfl rfl <| L_pur rfl (p_lss rfl rfl) <| mv rfl rfl ?_
  refine J_gsplit (t := 18) rfl (fun h18 => ?_) (fun h18 => ?_)
  refine L_op <| G_off rfl rfl rfl rfl rfl rfl <| L_op <| G_off rfl rfl rfl rfl rfl rfl <| L_pur rfl (p_pick_t rfl rfl) <| nq <| C_true rfl <| sr ?_
  refine ag rfl rfl <| nq <| J_ret <| Q_blk_ret <| Q_then_ret ?_
  refine J_return (()) Tryz.results234 (.tmp rfl .nil) ?_ ?_
  · first | rfl | (simp_all [one, kindsC]; done) | (simp_all [one, kindsC] <;> omega)
  · exact SU
  refine L_op <| G_on rfl rfl rfl <| J_pur (p_move rfl) rfl rfl rfl <| L_op <| G_on rfl rfl rfl <| J_pur (p_gtr rfl rfl) rfl rfl rfl <| L_pur rfl (p_pick_f rfl rfl) <| nq ?_
  refine C_split rfl (fun h21 => ?_) (fun h21 => ?_)
  refine sr <| ag rfl rfl <| nq <| J_ret <| Q_blk_ret <| Q_then_ret ?_
  refine J_return (()) Tryz.results234 (.tmp rfl .nil) ?_ ?_
  · first | rfl | (simp_all [one, kindsC]; done) | (simp_all [one, kindsC] <;> omega)
  · exact SU
  refine J_skip <| Q_blk_normal <| qx <| ag rfl rfl <| nq <| J_ret ?_
  refine J_return (()) Tryz.results234 (.tmp rfl .nil) ?_ ?_
  · first | rfl | (simp_all [one, kindsC]; done) | (simp_all [one, kindsC] <;> omega)
  · exact SU
  refine sr <| ag rfl rfl <| nq <| J_ret <| Q_blk_ret <| Q_then_ret ?_
  refine J_return (()) Tryz.results234 (.tmp rfl .nil) ?_ ?_
  · first | rfl | (simp_all [one, kindsC]; done) | (simp_all [one, kindsC] <;> omega)
  · exact SU
theorem rangeG {E : World} {l : List As} {c : Cap} :
    Con Tryz.prog 235 #[.agg (encC c).toArray] E l (fun _ : Unit => .agg (encI (rangeC c)).toArray) (fun _ => l) := by
  refine Con.body (vs := [.agg (encC c).toArray]) (n := 12) Tryz.func235 rfl rfl [(0, .agg (encC c).toArray)] (env_ok 1 rfl) <| sr <| L_op <| x_box rfl rfl rfl fun b1 => L_op <| x_alloc ty386 rfl fun b2 => nxx <| fa rfl rfl fa69_0 ?_
  refine L_val rfl (v_load rfl ty3 HS (by exact rfl)) ?_
  refine L_pur rfl (p_neq rfl rfl) <| nq ?_
  refine C_split rfl (fun h5 => ?_) (fun h5 => ?_)
  refine sr <| L_pur rfl (bld386 .nil (by repeat constructor)) <| L_op <| x_store rfl rfl ty386 rfl SM SM RO PT ?_
  refine nq <| J_ret <| Q_then_ret ?_
  refine J_return (()) Tryz.results235 (.cellA rfl ty386 HS CT .nil) ?_ ?_
  · (simp_all [one, rangeC, encI]; done)
  · exact SU
  refine J_skip <| qx <| fa rfl rfl fa69_1 <| L_val rfl (v_load rfl ty3 HS (by exact rfl)) ?_
  refine fa rfl rfl fa69_2 <| L_val rfl (v_load rfl ty3 HS (by exact rfl)) ?_
  refine L_pur rfl (bld386 (.cons rfl (.cons rfl .nil)) (by repeat constructor)) <| L_op <| x_store rfl rfl ty386 rfl SM SM RO PT ?_
  refine nq <| J_ret ?_
  refine J_return (()) Tryz.results235 (.cellA rfl ty386 HS CT .nil) ?_ ?_
  · (simp_all [one, rangeC, encI]; done)
  · exact SU
theorem withinG {E : World} {l : List As} {c d : Cap} (hc : (1 ≤ c.obj ∧ c.obj ≤ 64 ∧ 0 ≤ c.size ∧ c.size ≤ 64)) (hd : (1 ≤ d.obj ∧ d.obj ≤ 64 ∧ 0 ≤ d.size ∧ d.size ≤ 64)) :
    Con Tryz.prog 273 #[.agg (encC c).toArray, .agg (encC d).toArray] E l (fun _ : Unit => .bool (withinC c d)) (fun _ => l) := by
  refine Con.body (vs := [.agg (encC c).toArray, .agg (encC d).toArray]) (n := 49) Tryz.func273 rfl rfl [(0, .agg (encC c).toArray), (1, .agg (encC d).toArray)] (env_ok 2 rfl) <| sr <| L_op <| x_box rfl rfl rfl fun b2 => L_op <| x_box rfl rfl rfl fun b3 => ag rfl rfl <| nx ?_
  refine fa rfl rfl fa69_1 <| L_val rfl (v_load rfl ty3 HS (by exact rfl)) ?_
  refine ag rfl rfl <| ag rfl rfl <| nxx <| fa rfl rfl fa69_0 <| L_val rfl (v_load rfl ty3 HS (by exact rfl)) ?_
  refine L_pur rfl (p_eql rfl rfl) <| nq ?_
  refine C_split rfl (fun h11 => ?_) (fun h11 => ?_)
  refine J_region <| fa rfl rfl fa69_2 <| L_val rfl (v_load rfl ty3 HS (by exact rfl)) ?_
  refine ag rfl rfl <| nq <| J_seq <| J_seq <| J_slot (t := 6) (v := .int .i64 (sizeC c)) rfl (by unfold sizeC; rw [if_pos (by simpa using h11)]) ?_
  have hsz : 0 ≤ sizeC c ∧ sizeC c ≤ 64 := by unfold sizeC; split <;> omega
  refine J_region <| mv rfl rfl <| fa rfl rfl fa69_1 <| L_val rfl (v_load rfl ty3 HS (by exact rfl)) ?_
  refine fa rfl rfl fa69_2 <| L_val rfl (v_load rfl ty3 HS (by exact rfl)) ?_
  refine L_pur rfl (p_add64 rfl rfl (by omega)) <| L_pur rfl (p_geq rfl rfl) <| mv rfl rfl ?_
  refine J_gsplit (t := 21) rfl (fun h21 => ?_) (fun h21 => ?_)
  refine L_op <| G_off rfl rfl rfl rfl rfl rfl <| L_op <| G_off rfl rfl rfl rfl rfl rfl <| L_op <| G_off rfl rfl rfl rfl rfl rfl <| L_op <| G_off rfl rfl rfl rfl rfl rfl ?_
  refine L_op <| G_off rfl rfl rfl rfl rfl rfl <| L_op <| G_off rfl rfl rfl rfl rfl rfl <| L_pur rfl (p_pick_t rfl rfl) <| nq <| C_true rfl <| sr ?_
  refine ag rfl rfl <| nq <| J_ret <| Q_then_ret ?_
  refine J_return (()) Tryz.results273 (.tmp rfl .nil) ?_ ?_
  · first | (simp_all [one, withinC]; done) | (simp_all [one, withinC] <;> (rw [Bool.eq_iff_iff]; simp; omega))
  · exact SU
  refine L_op <| G_on rfl rfl rfl <| J_pur (p_move rfl) rfl rfl rfl <| L_op <| G_on rfl rfl rfl <| J_pur (p_move rfl) rfl rfl rfl <| L_op <| G_on rfl rfl rfl ?_
  refine J_pur (p_add64 rfl rfl (by omega)) rfl rfl rfl <| L_op <| G_on rfl rfl rfl <| J_pur (p_fieldAddr rfl fa69_1) rfl rfl rfl <| L_op <| G_on rfl rfl rfl <| J_val (v_load rfl ty3 HS (by exact rfl)) rfl rfl rfl ?_
  refine L_op <| G_on rfl rfl rfl <| J_pur (p_leq rfl rfl) rfl rfl rfl <| L_pur rfl (p_pick_f rfl rfl) <| nq ?_
  refine C_split rfl (fun h28 => ?_) (fun h28 => ?_)
  refine sr <| ag rfl rfl <| nq <| J_ret <| Q_then_ret ?_
  refine J_return (()) Tryz.results273 (.tmp rfl .nil) ?_ ?_
  · first | (simp_all [one, withinC]; done) | (simp_all [one, withinC] <;> (rw [Bool.eq_iff_iff]; simp; omega))
  · exact SU
  refine J_skip <| qx <| fa rfl rfl fa69_0 <| L_val rfl (v_load rfl ty3 HS (by exact rfl)) ?_
  refine L_pur rfl (p_neq rfl rfl) <| mv rfl rfl ?_
  refine J_gsplit (t := 32) rfl (fun h32 => ?_) (fun h32 => ?_)
  refine L_op <| G_off rfl rfl rfl rfl rfl rfl <| L_op <| G_off rfl rfl rfl rfl rfl rfl <| L_op <| G_off rfl rfl rfl rfl rfl rfl <| L_op <| G_off rfl rfl rfl rfl rfl rfl ?_
  refine L_pur rfl (p_pick_t rfl rfl) <| mv rfl rfl <| L_op <| G_off rfl rfl rfl rfl rfl rfl <| L_op <| G_off rfl rfl rfl rfl rfl rfl <| L_op <| G_off rfl rfl rfl rfl rfl rfl ?_
  refine L_op <| G_off rfl rfl rfl rfl rfl rfl <| L_op <| G_off rfl rfl rfl rfl rfl rfl <| L_op <| G_off rfl rfl rfl rfl rfl rfl <| L_op <| G_off rfl rfl rfl rfl rfl rfl ?_
  refine L_op <| G_off rfl rfl rfl rfl rfl rfl <| L_op <| G_off rfl rfl rfl rfl rfl rfl <| L_pur rfl (p_pick_t rfl rfl) <| ag rfl rfl <| nq <| J_ret ?_
  refine J_return (()) Tryz.results273 (.tmp rfl .nil) ?_ ?_
  · first | (simp_all [one, withinC]; done) | (simp_all [one, withinC] <;> (rw [Bool.eq_iff_iff]; simp; omega))
  · exact SU
  refine L_op <| G_on rfl rfl rfl <| J_pur (p_move rfl) rfl rfl rfl <| L_op <| G_on rfl rfl rfl <| J_pur (p_fieldAddr rfl fa69_1) rfl rfl rfl <| L_op <| G_on rfl rfl rfl ?_
  refine J_val (v_load rfl ty3 HS (by exact rfl)) rfl rfl rfl ?_
  refine L_op <| G_on rfl rfl rfl <| J_pur (p_gtr rfl rfl) rfl rfl rfl <| L_pur rfl (p_pick_f rfl rfl) <| mv rfl rfl ?_
  refine J_gsplit (t := 38) rfl (fun h38 => ?_) (fun h38 => ?_)
  refine L_op <| G_off rfl rfl rfl rfl rfl rfl <| L_op <| G_off rfl rfl rfl rfl rfl rfl <| L_op <| G_off rfl rfl rfl rfl rfl rfl <| L_op <| G_off rfl rfl rfl rfl rfl rfl ?_
  refine L_op <| G_off rfl rfl rfl rfl rfl rfl <| L_op <| G_off rfl rfl rfl rfl rfl rfl <| L_op <| G_off rfl rfl rfl rfl rfl rfl <| L_op <| G_off rfl rfl rfl rfl rfl rfl ?_
  refine L_op <| G_off rfl rfl rfl rfl rfl rfl <| L_pur rfl (p_pick_t rfl rfl) <| ag rfl rfl <| nq <| J_ret ?_
  refine J_return (()) Tryz.results273 (.tmp rfl .nil) ?_ ?_
  · first | (simp_all [one, withinC]; done) | (simp_all [one, withinC] <;> (rw [Bool.eq_iff_iff]; simp; omega))
  · exact SU
  refine L_op <| G_on rfl rfl rfl <| J_pur (p_move rfl) rfl rfl rfl <| L_op <| G_on rfl rfl rfl <| J_pur (p_move rfl) rfl rfl rfl <| L_op <| G_on rfl rfl rfl ?_
  refine J_pur (p_add64 rfl rfl (by omega)) rfl rfl rfl <| L_op <| G_on rfl rfl rfl <| J_pur (p_fieldAddr rfl fa69_1) rfl rfl rfl <| L_op <| G_on rfl rfl rfl <| J_val (v_load rfl ty3 HS (by exact rfl)) rfl rfl rfl ?_
  refine L_op <| G_on rfl rfl rfl <| J_pur (p_fieldAddr rfl fa69_2) rfl rfl rfl <| L_op <| G_on rfl rfl rfl <| J_val (v_load rfl ty3 HS (by exact rfl)) rfl rfl rfl ?_
  refine L_op <| G_on rfl rfl rfl <| J_pur (p_add64 rfl rfl (by omega)) rfl rfl rfl <| L_op <| G_on rfl rfl rfl <| J_pur (p_lss rfl rfl) rfl rfl rfl <| L_pur rfl (p_pick_f rfl rfl) <| ag rfl rfl ?_
  refine nq <| J_ret ?_
  refine J_return (()) Tryz.results273 (.tmp rfl .nil) ?_ ?_
  · first | (simp_all [one, withinC]; done) | (simp_all [one, withinC] <;> (rw [Bool.eq_iff_iff]; simp; omega))
  · exact SU
  refine J_skip <| Q_then <| J_seq <| J_seq <| J_slot (t := 6) (v := .int .i64 (sizeC c)) rfl (by unfold sizeC; rw [if_neg (by simpa using h11)]) ?_
  have hsz : 0 ≤ sizeC c ∧ sizeC c ≤ 64 := by unfold sizeC; split <;> omega
  refine J_region <| mv rfl rfl <| fa rfl rfl fa69_1 <| L_val rfl (v_load rfl ty3 HS (by exact rfl)) ?_
  refine fa rfl rfl fa69_2 <| L_val rfl (v_load rfl ty3 HS (by exact rfl)) ?_
  refine L_pur rfl (p_add64 rfl rfl (by omega)) <| L_pur rfl (p_geq rfl rfl) <| mv rfl rfl ?_
  refine J_gsplit (t := 21) rfl (fun h21 => ?_) (fun h21 => ?_)
  refine L_op <| G_off rfl rfl rfl rfl rfl rfl <| L_op <| G_off rfl rfl rfl rfl rfl rfl <| L_op <| G_off rfl rfl rfl rfl rfl rfl <| L_op <| G_off rfl rfl rfl rfl rfl rfl ?_
  refine L_op <| G_off rfl rfl rfl rfl rfl rfl <| L_op <| G_off rfl rfl rfl rfl rfl rfl <| L_pur rfl (p_pick_t rfl rfl) <| nq <| C_true rfl <| sr ?_
  refine ag rfl rfl <| nq <| J_ret <| Q_then_ret ?_
  refine J_return (()) Tryz.results273 (.tmp rfl .nil) ?_ ?_
  · first | (simp_all [one, withinC]; done) | (simp_all [one, withinC] <;> (rw [Bool.eq_iff_iff]; simp; omega))
  · exact SU
  refine L_op <| G_on rfl rfl rfl <| J_pur (p_move rfl) rfl rfl rfl <| L_op <| G_on rfl rfl rfl <| J_pur (p_move rfl) rfl rfl rfl <| L_op <| G_on rfl rfl rfl ?_
  refine J_pur (p_add64 rfl rfl (by omega)) rfl rfl rfl <| L_op <| G_on rfl rfl rfl <| J_pur (p_fieldAddr rfl fa69_1) rfl rfl rfl <| L_op <| G_on rfl rfl rfl <| J_val (v_load rfl ty3 HS (by exact rfl)) rfl rfl rfl ?_
  refine L_op <| G_on rfl rfl rfl <| J_pur (p_leq rfl rfl) rfl rfl rfl <| L_pur rfl (p_pick_f rfl rfl) <| nq ?_
  refine C_split rfl (fun h28 => ?_) (fun h28 => ?_)
  refine sr <| ag rfl rfl <| nq <| J_ret <| Q_then_ret ?_
  refine J_return (()) Tryz.results273 (.tmp rfl .nil) ?_ ?_
  · first | (simp_all [one, withinC]; done) | (simp_all [one, withinC] <;> (rw [Bool.eq_iff_iff]; simp; omega))
  · exact SU
  refine J_skip <| qx <| fa rfl rfl fa69_0 <| L_val rfl (v_load rfl ty3 HS (by exact rfl)) ?_
  refine L_pur rfl (p_neq rfl rfl) <| mv rfl rfl ?_
  refine J_gsplit (t := 32) rfl (fun h32 => ?_) (fun h32 => ?_)
  refine L_op <| G_off rfl rfl rfl rfl rfl rfl <| L_op <| G_off rfl rfl rfl rfl rfl rfl <| L_op <| G_off rfl rfl rfl rfl rfl rfl <| L_op <| G_off rfl rfl rfl rfl rfl rfl ?_
  refine L_pur rfl (p_pick_t rfl rfl) <| mv rfl rfl <| L_op <| G_off rfl rfl rfl rfl rfl rfl <| L_op <| G_off rfl rfl rfl rfl rfl rfl <| L_op <| G_off rfl rfl rfl rfl rfl rfl ?_
  refine L_op <| G_off rfl rfl rfl rfl rfl rfl <| L_op <| G_off rfl rfl rfl rfl rfl rfl <| L_op <| G_off rfl rfl rfl rfl rfl rfl <| L_op <| G_off rfl rfl rfl rfl rfl rfl ?_
  refine L_op <| G_off rfl rfl rfl rfl rfl rfl <| L_op <| G_off rfl rfl rfl rfl rfl rfl <| L_pur rfl (p_pick_t rfl rfl) <| ag rfl rfl <| nq <| J_ret ?_
  refine J_return (()) Tryz.results273 (.tmp rfl .nil) ?_ ?_
  · first | (simp_all [one, withinC]; done) | (simp_all [one, withinC] <;> (rw [Bool.eq_iff_iff]; simp; omega))
  · exact SU
  refine L_op <| G_on rfl rfl rfl <| J_pur (p_move rfl) rfl rfl rfl <| L_op <| G_on rfl rfl rfl <| J_pur (p_fieldAddr rfl fa69_1) rfl rfl rfl <| L_op <| G_on rfl rfl rfl ?_
  refine J_val (v_load rfl ty3 HS (by exact rfl)) rfl rfl rfl ?_
  refine L_op <| G_on rfl rfl rfl <| J_pur (p_gtr rfl rfl) rfl rfl rfl <| L_pur rfl (p_pick_f rfl rfl) <| mv rfl rfl ?_
  refine J_gsplit (t := 38) rfl (fun h38 => ?_) (fun h38 => ?_)
  refine L_op <| G_off rfl rfl rfl rfl rfl rfl <| L_op <| G_off rfl rfl rfl rfl rfl rfl <| L_op <| G_off rfl rfl rfl rfl rfl rfl <| L_op <| G_off rfl rfl rfl rfl rfl rfl ?_
  refine L_op <| G_off rfl rfl rfl rfl rfl rfl <| L_op <| G_off rfl rfl rfl rfl rfl rfl <| L_op <| G_off rfl rfl rfl rfl rfl rfl <| L_op <| G_off rfl rfl rfl rfl rfl rfl ?_
  refine L_op <| G_off rfl rfl rfl rfl rfl rfl <| L_pur rfl (p_pick_t rfl rfl) <| ag rfl rfl <| nq <| J_ret ?_
  refine J_return (()) Tryz.results273 (.tmp rfl .nil) ?_ ?_
  · first | (simp_all [one, withinC]; done) | (simp_all [one, withinC] <;> (rw [Bool.eq_iff_iff]; simp; omega))
  · exact SU
  refine L_op <| G_on rfl rfl rfl <| J_pur (p_move rfl) rfl rfl rfl <| L_op <| G_on rfl rfl rfl <| J_pur (p_move rfl) rfl rfl rfl <| L_op <| G_on rfl rfl rfl ?_
  refine J_pur (p_add64 rfl rfl (by omega)) rfl rfl rfl <| L_op <| G_on rfl rfl rfl <| J_pur (p_fieldAddr rfl fa69_1) rfl rfl rfl <| L_op <| G_on rfl rfl rfl <| J_val (v_load rfl ty3 HS (by exact rfl)) rfl rfl rfl ?_
  refine L_op <| G_on rfl rfl rfl <| J_pur (p_fieldAddr rfl fa69_2) rfl rfl rfl <| L_op <| G_on rfl rfl rfl <| J_val (v_load rfl ty3 HS (by exact rfl)) rfl rfl rfl ?_
  refine L_op <| G_on rfl rfl rfl <| J_pur (p_add64 rfl rfl (by omega)) rfl rfl rfl <| L_op <| G_on rfl rfl rfl <| J_pur (p_lss rfl rfl) rfl rfl rfl <| L_pur rfl (p_pick_f rfl rfl) <| ag rfl rfl ?_
  refine nq <| J_ret ?_
  refine J_return (()) Tryz.results273 (.tmp rfl .nil) ?_ ?_
  · first | (simp_all [one, withinC]; done) | (simp_all [one, withinC] <;> (rw [Bool.eq_iff_iff]; simp; omega))
  · exact SU
theorem bareG {E : World} {l m : List As} {b o : Nat} {ps : List (Place × SV)} (hp : Pick (slA b o ps) l m) {u : Cap} (hck : CapsOk ps) (hu : (1 ≤ u.obj ∧ u.obj ≤ 64 ∧ 0 ≤ u.size ∧ u.size ≤ 64)) (hz : ps.length ≤ 100000) :
    Con Tryz.prog 236 #[.pointer (some ⟨b, o, none⟩), .agg (encC u).toArray] E l (fun _ : Unit => .bool (bareS ps u)) (fun _ => slA b o ps :: m) := by
  refine Con.body (vs := [.pointer (some ⟨b, o, none⟩), .agg (encC u).toArray]) (n := 26) Tryz.func236 rfl rfl [(0, .pointer (some ⟨b, o, none⟩)), (1, .agg (encC u).toArray)] (env_ok 2 rfl) <| J_pick hp <| J_slKeyd fun hK => sr <| L_op <| x_box rfl rfl rfl fun b3 => ag rfl rfl <| nxx ?_
  refine mv rfl rfl <| L_op <| xc fc37 (.cons rfl .nil) rfl (slAllC (ps := ps) PC (by omega)) <| JR fun a10 c10 hw10 hl10 hm10 hz10 => ?_
  obtain ⟨xs, hxs⟩ : ∃ xs, xs = sortP (ps.map Prod.fst) := ⟨_, rfl⟩
  refine J_pick (A := row 67 2 _ _) PC ?_
  refine J_rowTo (ys := xs.map encI) (v' := .slice a10 (xs.map encI).length c10) (by rw [hxs]) (by rw [hxs]) <| J_slot (t := 10) (v := .slice a10 (xs.map encI).length c10) rfl (by rw [hxs]) ?_
  rw [← hxs] at hz10
  have hmc : c10 ≤ 9223372036854775807 := hm10
  have hml : (xs.map encI).length = xs.length := List.length_map _
  have hxl : xs.length ≤ 100000 := by rw [hxs, sortP_len, List.length_map]; exact hz
  have hxm : ∀ a, a ∈ xs ↔ a ∈ ps.map Prod.fst := fun a => by rw [hxs]; unfold sortP; exact sortF_mem
  refine L_pur rfl (p_len rfl Tryz.underlying81) <| mv rfl rfl <| nq <| J_block <| J_loop (α := Nat) (fun k => k ≤ xs.length ∧ ∀ c ∈ xs.take k, withinC ((look ps c).getD s0).1 u = false) (fun k => row 67 2 (.slice a10 (xs.map encI).length c10) (xs.map encI) :: blk b3 69 (encC u) :: slA b o ps :: m) (fun k => [(12, .int .i64 (k : Int)), (10, .slice a10 (xs.map encI).length c10), (11, .int .i64 ((xs.map encI).length : Int)), (0, .pointer (some ⟨b, o, none⟩)), (3, .pointer (some ⟨b3, 0, none⟩))]) (fun k => xs.length - k) 0 ⟨by omega, by simp⟩ SU KE ?_
  intro k hk
  obtain ⟨hk, h0⟩ := hk
  refine sr <| L_pur rfl (p_lss rfl rfl) <| nq <| J_seq ?_
  refine C_dec rfl (fun h13 => ?_) (fun h13 => ?_)
  have hlt : k < xs.length := by omega
  obtain ⟨bx, ox, rfl⟩ := hz10 (by intro h; rw [h] at hml; simp at hml; omega)
  obtain ⟨c, hcc⟩ : ∃ c, xs[k]? = some c := ⟨_, List.getElem?_eq_getElem hlt⟩
  obtain ⟨e, he, hec⟩ := List.mem_map.1 ((hxm c).1 (List.mem_of_getElem? hcc))
  obtain ⟨s, hs⟩ : ∃ s, look ps c = some s := by
    cases hq : look ps c with
    | none => exact absurd (List.mem_map.2 ⟨e, he, hec⟩) (look_none_iff.1 hq)
    | some y => exact ⟨y, rfl⟩
  have hsc := checkC_is (hck _ (mem_look hs))
  refine J_skip <| Q_then <| J_seq <| J_block <| sr <| L_pur rfl (p_indexAddr rfl rfl Tryz.underlying81 ty67 (by omega) (by omega)) ?_
  refine L_val rfl (v_loadE rfl ty67 HS (by first | (simp only [Int.toNat_natCast, List.getElem?_map, hcc]; rfl) | (simp only [Int.toNat_natCast, List.getElem?_map, hcd]; rfl) | simp | rfl)) ?_
  refine L_op <| x_alloc ty67 rfl fun b6 => L_op <| x_store rfl rfl ty67 rfl SM SM RO PT ?_
  refine J_pick (A := blk b6 _ _) PC ?_
  refine J_asTo (B := blk b6 67 (encI c)) (by rfl) <| nx <| mv rfl rfl <| L_val rfl (v_loadA rfl ty67 HS CT) ?_
  refine L_op <| xc fc34 (.cons rfl (.cons rfl .nil)) rfl (slGetC (ps := ps) (p := c) PC) fun _ => ?_
  refine mv rfl rfl <| L_pur rfl (p_extract rfl rfl) <| L_pur rfl (p_extract rfl rfl) <| L_op <| x_alloc ty69 rfl fun b7 => L_op <| x_store rfl rfl ty69 rfl SM SM RO PT ?_
  refine ag rfl rfl <| nx <| L_val rfl (v_loadA rfl ty69 HS CT) ?_
  refine L_val rfl (v_loadA rfl ty69 HS CT) ?_
  refine L_op <| xc fc273 (.cons rfl (.cons rfl .nil)) rfl (withinG (c := ((look ps c).getD s0).1) (d := u) (by rw [hs]; dsimp only [Option.getD]; dsimp only at hsc; omega) hu) fun _ => nq ?_
  refine C_split rfl (fun h24 => ?_) (fun h24 => ?_)
  have hba : bareS ps u = false := by
    unfold bareS
    rw [List.all_eq_false]
    exact ⟨(c, s), mem_look hs, by rw [hs] at h24; simpa using h24⟩
  refine sr <| ag rfl rfl <| nq <| J_ret <| Q_blk_ret <| Q_then_ret <| Q_then_ret <| Q_blk_ret ?_
  refine Q_then_ret ?_
  refine J_return (()) Tryz.results236 (.tmp rfl .nil) ?_ ?_
  · rw [hba]; rfl
  · exact SU
  refine J_skip <| Q_blk_normal <| qr <| L_pur rfl (p_add64 rfl rfl (by omega)) <| mv rfl rfl <| nq ?_
  exact J_again (k + 1) (by omega) (⟨by omega, fun e he => by
      rw [List.take_add_one, hcc] at he
      rcases List.mem_append.1 he with h | h
      · exact h0 e h
      · rw [List.mem_singleton.1 h]; exact h24⟩) SU KE
  have hba : bareS ps u = true := by
    unfold bareS
    rw [List.all_eq_true]
    intro e he
    have h1 := h0 e.1 (by rw [show k = xs.length by omega, List.take_length]; exact (hxm e.1).2 (List.mem_map.2 ⟨e, he, rfl⟩))
    rw [look_mem hK (show (e.1, e.2) ∈ ps from he)] at h1
    simpa using h1
  refine J_exit <| Q_then_exit <| Q_then_exit <| Q_blk_this <| qx <| ag rfl rfl <| nq <| J_ret ?_
  refine J_return (()) Tryz.results236 (.tmp rfl .nil) ?_ ?_
  · rw [hba]; rfl
  · exact SU
theorem makeG {E : World} {l m : List As} {b o b2 o2 : Nat} {ps : List (Place × SV)} {mr : List (Place × Int)} (hp : Picks [slA b o ps, mkA b2 o2 mr] l m) {p q : Place} {kind size : Int} (hck : CapsOk ps) (hmk : MarksOk mr) (hz : ps.length ≤ 100000) :
    Con Tryz.prog 171 #[.pointer (some ⟨b, o, none⟩), .pointer (some ⟨b2, o2, none⟩), .agg (encI p).toArray, .agg (encI q).toArray, .int .i64 kind, .int .i64 size] E l (fun _ : Unit => .tuple #[.agg (encC (makeS ps mr p q kind size).2.1).toArray, .int .i64 (makeS ps mr p q kind size).2.2]) (fun _ => slA b o (makeS ps mr p q kind size).1.1 :: mkA b2 o2 (makeS ps mr p q kind size).1.2 :: m) := by
  refine Con.body (vs := [.pointer (some ⟨b, o, none⟩), .pointer (some ⟨b2, o2, none⟩), .agg (encI p).toArray, .agg (encI q).toArray, .int .i64 kind, .int .i64 size]) (n := 101) Tryz.func171 rfl rfl [(0, .pointer (some ⟨b, o, none⟩)), (1, .pointer (some ⟨b2, o2, none⟩)), (2, .agg (encI p).toArray), (3, .agg (encI q).toArray), (4, .int .i64 kind), (5, .int .i64 size)] (env_ok 6 rfl) <| J_picks2 hp <| sr <| L_op <| x_box rfl rfl rfl fun b8 => L_op <| x_box rfl rfl rfl fun b9 => L_op <| x_alloc ty69 rfl fun b12 => ?_
  refine ag rfl rfl <| nx <| mv rfl rfl <| L_val rfl (v_loadA rfl ty67 HS CT) ?_
  refine L_op <| xc fc34 (.cons rfl (.cons rfl .nil)) rfl (slGetC (ps := ps) (p := p) PC) fun _ => ?_
  refine mv rfl rfl <| L_pur rfl (p_extract rfl rfl) <| L_pur rfl (p_extract rfl rfl) <| L_op <| x_alloc ty69 rfl fun b14 => L_op <| x_store rfl rfl ty69 rfl SM SM RO PT ?_
  refine ag rfl rfl <| nq <| J_seq <| J_block <| sr <| mv rfl rfl <| L_pur rfl (p_not rfl) <| ag rfl rfl ?_
  refine nq ?_
  refine C_split rfl (fun h28 => ?_) (fun h28 => ?_)
  have hno : look ps p = none := by
    cases hq : look ps p with
    | none => rfl
    | some y => rw [hq] at h28; simp at h28
  have hms : (makeS ps mr p q kind size) = ((ps, mr), c0, 4) := by unfold makeS; rw [hno]
  refine sr <| L_pur rfl (bld69 .nil (by repeat constructor)) <| L_op <| x_store rfl rfl ty69 rfl SM SM RO PT ?_
  refine ag rfl rfl <| nq <| J_ret <| Q_blk_ret <| Q_then_ret <| J_pick (A := slA b o _) PC ?_
  refine J_asTo (B := slA b o (makeS ps mr p q kind size).1.1) (by rw [hms]) <| J_pick (A := mkA b2 o2 _) PC ?_
  refine J_asTo (B := mkA b2 o2 (makeS ps mr p q kind size).1.2) (by rw [hms]) ?_
  refine J_return (()) Tryz.results171 (.cellA rfl ty69 HS CT (.tmp rfl .nil)) ?_ ?_
  · rw [hms]; rfl
  · exact SU
  obtain ⟨u, hu⟩ : ∃ x, look ps p = some x := by
    cases hq : look ps p with
    | none => rw [hq] at h28; simp at h28
    | some y => exact ⟨y, rfl⟩
  have hcu := hck _ (mem_look hu)
  have hcb := checkC_is hcu
  dsimp only at hcu hcb
  refine J_pick (A := blk b14 _ _) PC ?_
  refine J_asTo (B := blk b14 69 (encC u.1)) (by rw [hu]; rfl) <| sr <| fa rfl rfl fa69_0 <| L_val rfl (v_load rfl ty3 HS (by exact rfl)) ?_
  refine L_pur rfl (p_neq rfl rfl) <| ag rfl rfl <| nq ?_
  refine C_split rfl (fun h32 => ?_) (fun h32 => ?_)
  have hms : (makeS ps mr p q kind size) = ((ps, mr), c0, 5) := by unfold makeS; rw [hu]; exact if_pos (by simpa using h32)
  refine sr <| L_pur rfl (bld69 .nil (by repeat constructor)) <| L_op <| x_store rfl rfl ty69 rfl SM SM RO PT ?_
  refine ag rfl rfl <| nq <| J_ret <| Q_blk_ret <| Q_then_ret <| J_pick (A := slA b o _) PC ?_
  refine J_asTo (B := slA b o (makeS ps mr p q kind size).1.1) (by rw [hms]) <| J_pick (A := mkA b2 o2 _) PC ?_
  refine J_asTo (B := mkA b2 o2 (makeS ps mr p q kind size).1.2) (by rw [hms]) ?_
  refine J_return (()) Tryz.results171 (.cellA rfl ty69 HS CT (.tmp rfl .nil)) ?_ ?_
  · rw [hms]; rfl
  · exact SU
  have hk1 : ¬ u.1.kind ≠ 1 := by simpa using h32
  refine sr <| fa rfl rfl fa67_0 <| L_val rfl (v_load rfl ty3 HS (by exact rfl)) ?_
  refine L_pur rfl (p_lss rfl rfl) <| mv rfl rfl ?_
  refine J_gsplit (t := 41) rfl (fun h41 => ?_) (fun h41 => ?_)
  refine L_op <| G_off rfl rfl rfl rfl rfl rfl <| L_op <| G_off rfl rfl rfl rfl rfl rfl <| L_op <| G_off rfl rfl rfl rfl rfl rfl <| L_pur rfl (p_pick_t rfl rfl) <| mv rfl rfl ?_
  refine L_op <| G_off rfl rfl rfl rfl rfl rfl <| L_op <| G_off rfl rfl rfl rfl rfl rfl <| L_op <| G_off rfl rfl rfl rfl rfl rfl <| L_pur rfl (p_pick_t rfl rfl) <| mv rfl rfl ?_
  refine L_op <| G_off rfl rfl rfl rfl rfl rfl <| L_op <| G_off rfl rfl rfl rfl rfl rfl <| L_op <| G_off rfl rfl rfl rfl rfl rfl <| L_pur rfl (p_pick_t rfl rfl) <| ag rfl rfl ?_
  refine nq <| C_true rfl <| J_seq ?_
  have hcp : canP q = false := by first | (simp_all [canP]; done) | (simp_all [canP] <;> omega)
  have hms : (makeS ps mr p q kind size) = ((ps, mr), c0, 7) := by unfold makeS; rw [hu]; dsimp only; rw [if_neg hk1]; exact if_pos hcp
  refine J_region <| L_pur rfl (bld69 .nil (by repeat constructor)) <| L_op <| x_store rfl rfl ty69 rfl SM SM RO PT ?_
  refine ag rfl rfl <| nq <| J_ret <| Q_blk_ret <| Q_then_ret <| J_pick (A := slA b o _) PC ?_
  refine J_asTo (B := slA b o (makeS ps mr p q kind size).1.1) (by rw [hms]) <| J_pick (A := mkA b2 o2 _) PC ?_
  refine J_asTo (B := mkA b2 o2 (makeS ps mr p q kind size).1.2) (by rw [hms]) ?_
  refine J_return (()) Tryz.results171 (.cellA rfl ty69 HS CT (.tmp rfl .nil)) ?_ ?_
  · rw [hms]; rfl
  · exact SU
  refine L_op <| G_on rfl rfl rfl <| J_pur (p_fieldAddr rfl fa67_0) rfl rfl rfl <| L_op <| G_on rfl rfl rfl <| J_val (v_load rfl ty3 HS (by exact rfl)) rfl rfl rfl ?_
  refine L_op <| G_on rfl rfl rfl <| J_pur (p_gtr rfl rfl) rfl rfl rfl <| L_pur rfl (p_pick_f rfl rfl) <| mv rfl rfl ?_
  refine J_gsplit (t := 46) rfl (fun h46 => ?_) (fun h46 => ?_)
  refine L_op <| G_off rfl rfl rfl rfl rfl rfl <| L_op <| G_off rfl rfl rfl rfl rfl rfl <| L_op <| G_off rfl rfl rfl rfl rfl rfl <| L_pur rfl (p_pick_t rfl rfl) <| mv rfl rfl ?_
  refine L_op <| G_off rfl rfl rfl rfl rfl rfl <| L_op <| G_off rfl rfl rfl rfl rfl rfl <| L_op <| G_off rfl rfl rfl rfl rfl rfl <| L_pur rfl (p_pick_t rfl rfl) <| ag rfl rfl ?_
  refine nq <| C_true rfl <| J_seq ?_
  have hcp : canP q = false := by first | (simp_all [canP]; done) | (simp_all [canP] <;> omega)
  have hms : (makeS ps mr p q kind size) = ((ps, mr), c0, 7) := by unfold makeS; rw [hu]; dsimp only; rw [if_neg hk1]; exact if_pos hcp
  refine J_region <| L_pur rfl (bld69 .nil (by repeat constructor)) <| L_op <| x_store rfl rfl ty69 rfl SM SM RO PT ?_
  refine ag rfl rfl <| nq <| J_ret <| Q_blk_ret <| Q_then_ret <| J_pick (A := slA b o _) PC ?_
  refine J_asTo (B := slA b o (makeS ps mr p q kind size).1.1) (by rw [hms]) <| J_pick (A := mkA b2 o2 _) PC ?_
  refine J_asTo (B := mkA b2 o2 (makeS ps mr p q kind size).1.2) (by rw [hms]) ?_
  refine J_return (()) Tryz.results171 (.cellA rfl ty69 HS CT (.tmp rfl .nil)) ?_ ?_
  · rw [hms]; rfl
  · exact SU
  refine L_op <| G_on rfl rfl rfl <| J_pur (p_fieldAddr rfl fa67_1) rfl rfl rfl <| L_op <| G_on rfl rfl rfl <| J_val (v_load rfl ty3 HS (by exact rfl)) rfl rfl rfl ?_
  refine L_op <| G_on rfl rfl rfl <| J_pur (p_lss rfl rfl) rfl rfl rfl <| L_pur rfl (p_pick_f rfl rfl) <| mv rfl rfl ?_
  refine J_gsplit (t := 51) rfl (fun h51 => ?_) (fun h51 => ?_)
  refine L_op <| G_off rfl rfl rfl rfl rfl rfl <| L_op <| G_off rfl rfl rfl rfl rfl rfl <| L_op <| G_off rfl rfl rfl rfl rfl rfl <| L_pur rfl (p_pick_t rfl rfl) <| ag rfl rfl ?_
  refine nq <| C_true rfl <| J_seq ?_
  have hcp : canP q = false := by first | (simp_all [canP]; done) | (simp_all [canP] <;> omega)
  have hms : (makeS ps mr p q kind size) = ((ps, mr), c0, 7) := by unfold makeS; rw [hu]; dsimp only; rw [if_neg hk1]; exact if_pos hcp
  refine J_region <| L_pur rfl (bld69 .nil (by repeat constructor)) <| L_op <| x_store rfl rfl ty69 rfl SM SM RO PT ?_
  refine ag rfl rfl <| nq <| J_ret <| Q_blk_ret <| Q_then_ret <| J_pick (A := slA b o _) PC ?_
  refine J_asTo (B := slA b o (makeS ps mr p q kind size).1.1) (by rw [hms]) <| J_pick (A := mkA b2 o2 _) PC ?_
  refine J_asTo (B := mkA b2 o2 (makeS ps mr p q kind size).1.2) (by rw [hms]) ?_
  refine J_return (()) Tryz.results171 (.cellA rfl ty69 HS CT (.tmp rfl .nil)) ?_ ?_
  · rw [hms]; rfl
  · exact SU
  refine L_op <| G_on rfl rfl rfl <| J_pur (p_fieldAddr rfl fa67_1) rfl rfl rfl <| L_op <| G_on rfl rfl rfl <| J_val (v_load rfl ty3 HS (by exact rfl)) rfl rfl rfl ?_
  refine L_op <| G_on rfl rfl rfl <| J_pur (p_geq rfl rfl) rfl rfl rfl <| L_pur rfl (p_pick_f rfl rfl) <| ag rfl rfl <| nq ?_
  refine C_split rfl (fun h37 => ?_) (fun h37 => ?_)
  refine J_seq ?_
  have hcp : canP q = false := by first | (simp_all [canP]; done) | (simp_all [canP] <;> omega)
  have hms : (makeS ps mr p q kind size) = ((ps, mr), c0, 7) := by unfold makeS; rw [hu]; dsimp only; rw [if_neg hk1]; exact if_pos hcp
  refine J_region <| L_pur rfl (bld69 .nil (by repeat constructor)) <| L_op <| x_store rfl rfl ty69 rfl SM SM RO PT ?_
  refine ag rfl rfl <| nq <| J_ret <| Q_blk_ret <| Q_then_ret <| J_pick (A := slA b o _) PC ?_
  refine J_asTo (B := slA b o (makeS ps mr p q kind size).1.1) (by rw [hms]) <| J_pick (A := mkA b2 o2 _) PC ?_
  refine J_asTo (B := mkA b2 o2 (makeS ps mr p q kind size).1.2) (by rw [hms]) ?_
  refine J_return (()) Tryz.results171 (.cellA rfl ty69 HS CT (.tmp rfl .nil)) ?_ ?_
  · rw [hms]; rfl
  · exact SU
  refine J_skip <| Q_blk_normal <| Q_then <| J_seq <| J_seq ?_
  have hcp : ¬ canP q = false := by
    have : canP q = true := by first | (simp_all [canP]; done) | (simp_all [canP] <;> omega)
    rw [this]; decide
  refine J_region <| mv rfl rfl <| L_val rfl (v_loadA rfl ty67 HS CT) ?_
  refine L_op <| xc fc34 (.cons rfl (.cons rfl .nil)) rfl (slGetC (ps := ps) (p := q) PC) fun _ => ?_
  refine mv rfl rfl <| L_pur rfl (p_extract rfl rfl) <| L_pur rfl (p_extract rfl rfl) <| L_op <| x_alloc ty69 rfl fun b16 => L_op <| x_store rfl rfl ty69 rfl SM SM RO PT ?_
  refine ag rfl rfl <| nx <| mv rfl rfl <| nq ?_
  refine C_split rfl (fun h63 => ?_) (fun h63 => ?_)
  have hms : (makeS ps mr p q kind size) = ((ps, mr), c0, 3) := by unfold makeS; rw [hu]; dsimp only; rw [if_neg hk1, if_neg hcp]; exact if_pos h63
  refine sr <| L_pur rfl (bld69 .nil (by repeat constructor)) <| L_op <| x_store rfl rfl ty69 rfl SM SM RO PT ?_
  refine ag rfl rfl <| nq <| J_ret <| Q_then_ret <| J_pick (A := slA b o _) PC ?_
  refine J_asTo (B := slA b o (makeS ps mr p q kind size).1.1) (by rw [hms]) <| J_pick (A := mkA b2 o2 _) PC ?_
  refine J_asTo (B := mkA b2 o2 (makeS ps mr p q kind size).1.2) (by rw [hms]) ?_
  refine J_return (()) Tryz.results171 (.cellA rfl ty69 HS CT (.tmp rfl .nil)) ?_ ?_
  · rw [hms]; rfl
  · exact SU
  have hq0 : ¬ (look ps q).isSome = true := by rw [h63]; decide
  refine J_skip <| Q_then <| J_seq <| sr <| mv rfl rfl <| mv rfl rfl <| L_op <| xc fc234 (.cons rfl (.cons rfl .nil)) rfl (kindsG (k := kind) (z := size)) fun _ => ?_
  refine ag rfl rfl <| nx <| mv rfl rfl <| L_pur rfl (p_neq rfl rfl) <| nq ?_
  refine C_split rfl (fun h69 => ?_) (fun h69 => ?_)
  have hms : (makeS ps mr p q kind size) = ((ps, mr), c0, kindsC kind size) := by unfold makeS; rw [hu]; dsimp only; rw [if_neg hk1, if_neg hcp, if_neg hq0]; exact if_pos (by simpa using h69)
  refine sr <| L_pur rfl (bld69 .nil (by repeat constructor)) <| mv rfl rfl <| L_op <| x_store rfl rfl ty69 rfl SM SM RO PT ?_
  refine ag rfl rfl <| nq <| J_ret <| Q_then_ret <| J_pick (A := slA b o _) PC ?_
  refine J_asTo (B := slA b o (makeS ps mr p q kind size).1.1) (by rw [hms]) <| J_pick (A := mkA b2 o2 _) PC ?_
  refine J_asTo (B := mkA b2 o2 (makeS ps mr p q kind size).1.2) (by rw [hms]) ?_
  refine J_return (()) Tryz.results171 (.cellA rfl ty69 HS CT (.tmp rfl .nil)) ?_ ?_
  · rw [hms]; rfl
  · exact SU
  have hkd : ¬ kindsC kind size ≠ 0 := by simpa using h69
  refine J_skip <| qx <| L_val rfl (v_loadA rfl ty69 HS CT) ?_
  refine L_op <| xc fc235 (.cons rfl .nil) rfl (rangeG (c := u.1)) fun _ => L_op <| x_alloc ty386 rfl fun b19 => L_op <| x_store rfl rfl ty386 rfl SM SM RO PT ?_
  have hrc : rangeC u.1 = (u.1.obj, u.1.size) := if_neg hk1
  refine J_pick (A := blk b19 _ _) PC ?_
  refine J_asTo (B := blk b19 386 (encI (rangeC u.1))) (by rfl) <| nxx <| mv rfl rfl <| L_val rfl (v_loadA rfl ty69 HS CT) ?_
  refine L_op <| xc fc236 (.cons rfl (.cons rfl .nil)) rfl (bareG (ps := ps) (u := u.1) PC hck (by omega) hz) fun _ => ?_
  refine nq ?_
  refine C_split rfl (fun h76 => ?_) (fun h76 => ?_)
  refine J_region <| mv rfl rfl <| L_val rfl (v_loadA rfl ty386 HS CT) ?_
  refine L_op <| xc fc237 (.cons rfl (.cons rfl .nil)) rfl (mkReset (mr := mr) (r := rangeC u.1) PC) fun _ => ?_
  refine nq <| J_seq <| J_pick (A := mkA b2 o2 _) PC ?_
  refine J_asTo (B := mkA b2 o2 (resetM ps mr u.1)) (by unfold resetM; rw [if_pos h76]) <| J_region <| mv rfl rfl <| L_val rfl (v_loadA rfl ty386 HS CT) ?_
  refine mv rfl rfl <| L_pur rfl (p_max rfl rfl) <| J_slot (t := 84) (v := .int .i64 (max size 1)) rfl (by congr 1; first | rfl | (simp; omega) | (split <;> omega)) <| L_op <| xc fc238 (.cons rfl (.cons rfl (.cons rfl .nil))) rfl (mkTake (mr := (resetM ps mr u.1)) (r := rangeC u.1) (n := max size 1) PC (hmk.reset ps u.1) (by rw [hrc]; dsimp only; omega)) fun _ => ?_
  refine mv rfl rfl <| L_pur rfl (p_extract rfl rfl) <| L_pur rfl (p_extract rfl rfl) <| ag rfl rfl <| ag rfl rfl <| nxx <| mv rfl rfl <| L_pur rfl (p_not rfl) ?_
  refine nq ?_
  refine C_split rfl (fun h89 => ?_) (fun h89 => ?_)
  have hto : ¬ mtkOk (resetM ps mr u.1) (rangeC u.1) (max size 1) = true := by simpa using h89
  have hms : (makeS ps mr p q kind size) = ((ps, (resetM ps mr u.1)), c0, 8) := by unfold makeS; rw [hu]; dsimp only; rw [if_neg hk1, if_neg hcp, if_neg hq0, if_neg hkd]; exact if_neg hto
  refine J_pick (A := mkA b2 o2 _) PC ?_
  refine J_asTo (B := mkA b2 o2 (resetM ps mr u.1)) (by unfold mtkM; rw [if_neg hto]) <| sr <| L_pur rfl (bld69 .nil (by repeat constructor)) <| L_op <| x_store rfl rfl ty69 rfl SM SM RO PT ?_
  refine ag rfl rfl <| nq <| J_ret <| Q_then_ret <| J_pick (A := slA b o _) PC ?_
  refine J_asTo (B := slA b o (makeS ps mr p q kind size).1.1) (by rw [hms]) <| J_pick (A := mkA b2 o2 _) PC ?_
  refine J_asTo (B := mkA b2 o2 (makeS ps mr p q kind size).1.2) (by rw [hms]) ?_
  refine J_return (()) Tryz.results171 (.cellA rfl ty69 HS CT (.tmp rfl .nil)) ?_ ?_
  · rw [hms]; rfl
  · exact SU
  have hto : mtkOk (resetM ps mr u.1) (rangeC u.1) (max size 1) = true := by simpa using h89
  have hms : (makeS ps mr p q kind size) = ((slPut ps q (madeC (resetM ps mr u.1) u.1 kind size) p, mtkM (resetM ps mr u.1) (rangeC u.1) (max size 1)), madeC (resetM ps mr u.1) u.1 kind size, 0) := by unfold makeS; rw [hu]; dsimp only; rw [if_neg hk1, if_neg hcp, if_neg hq0, if_neg hkd]; exact if_pos hto
  refine J_skip <| qx <| mv rfl rfl <| mv rfl rfl <| mv rfl rfl <| L_pur rfl (bld69 (.cons rfl (.cons rfl (.cons rfl (.cons rfl .nil)))) (by repeat constructor)) <| L_op <| x_alloc ty69 rfl fun b21 => ?_
  refine L_op <| x_store rfl rfl ty69 rfl SM SM RO PT ?_
  refine J_pick (A := blk b21 _ _) PC ?_
  refine J_asTo (B := blk b21 69 (encC (madeC (resetM ps mr u.1) u.1 kind size))) (by rfl) <| nx <| mv rfl rfl <| L_val rfl (v_loadA rfl ty67 HS CT) ?_
  refine L_val rfl (v_loadA rfl ty69 HS CT) ?_
  refine L_val rfl (v_loadA rfl ty67 HS CT) ?_
  refine L_op <| xc fc30 (.cons rfl (.cons rfl (.cons rfl (.cons rfl .nil)))) rfl (slPutC (ps := ps) (p := q) (c := madeC (resetM ps mr u.1) u.1 kind size) (q := p) PC) fun _ => ?_
  refine nx <| L_val rfl (v_loadA rfl ty69 HS CT) ?_
  refine L_op <| x_store rfl rfl ty69 rfl SM SM RO PT ?_
  refine ag rfl rfl <| nq <| J_ret <| J_pick (A := slA b o _) PC ?_
  refine J_asTo (B := slA b o (makeS ps mr p q kind size).1.1) (by rw [hms]) <| J_pick (A := mkA b2 o2 _) PC ?_
  refine J_asTo (B := mkA b2 o2 (makeS ps mr p q kind size).1.2) (by rw [hms]) ?_
  refine J_return (()) Tryz.results171 (.cellA rfl ty69 HS CT (.tmp rfl .nil)) ?_ ?_
  · rw [hms]; rfl
  · exact SU
  refine J_skip <| Q_then <| J_seq <| J_pick (A := mkA b2 o2 _) PC ?_
  refine J_asTo (B := mkA b2 o2 (resetM ps mr u.1)) (by unfold resetM; rw [if_neg (by rw [h76]; decide)]) <| J_region <| mv rfl rfl <| L_val rfl (v_loadA rfl ty386 HS CT) ?_
  refine mv rfl rfl <| L_pur rfl (p_max rfl rfl) <| J_slot (t := 84) (v := .int .i64 (max size 1)) rfl (by congr 1; first | rfl | (simp; omega) | (split <;> omega)) <| L_op <| xc fc238 (.cons rfl (.cons rfl (.cons rfl .nil))) rfl (mkTake (mr := (resetM ps mr u.1)) (r := rangeC u.1) (n := max size 1) PC (hmk.reset ps u.1) (by rw [hrc]; dsimp only; omega)) fun _ => ?_
  refine mv rfl rfl <| L_pur rfl (p_extract rfl rfl) <| L_pur rfl (p_extract rfl rfl) <| ag rfl rfl <| ag rfl rfl <| nxx <| mv rfl rfl <| L_pur rfl (p_not rfl) ?_
  refine nq ?_
  refine C_split rfl (fun h89 => ?_) (fun h89 => ?_)
  have hto : ¬ mtkOk (resetM ps mr u.1) (rangeC u.1) (max size 1) = true := by simpa using h89
  have hms : (makeS ps mr p q kind size) = ((ps, (resetM ps mr u.1)), c0, 8) := by unfold makeS; rw [hu]; dsimp only; rw [if_neg hk1, if_neg hcp, if_neg hq0, if_neg hkd]; exact if_neg hto
  refine J_pick (A := mkA b2 o2 _) PC ?_
  refine J_asTo (B := mkA b2 o2 (resetM ps mr u.1)) (by unfold mtkM; rw [if_neg hto]) <| sr <| L_pur rfl (bld69 .nil (by repeat constructor)) <| L_op <| x_store rfl rfl ty69 rfl SM SM RO PT ?_
  refine ag rfl rfl <| nq <| J_ret <| Q_then_ret <| J_pick (A := slA b o _) PC ?_
  refine J_asTo (B := slA b o (makeS ps mr p q kind size).1.1) (by rw [hms]) <| J_pick (A := mkA b2 o2 _) PC ?_
  refine J_asTo (B := mkA b2 o2 (makeS ps mr p q kind size).1.2) (by rw [hms]) ?_
  refine J_return (()) Tryz.results171 (.cellA rfl ty69 HS CT (.tmp rfl .nil)) ?_ ?_
  · rw [hms]; rfl
  · exact SU
  have hto : mtkOk (resetM ps mr u.1) (rangeC u.1) (max size 1) = true := by simpa using h89
  have hms : (makeS ps mr p q kind size) = ((slPut ps q (madeC (resetM ps mr u.1) u.1 kind size) p, mtkM (resetM ps mr u.1) (rangeC u.1) (max size 1)), madeC (resetM ps mr u.1) u.1 kind size, 0) := by unfold makeS; rw [hu]; dsimp only; rw [if_neg hk1, if_neg hcp, if_neg hq0, if_neg hkd]; exact if_pos hto
  refine J_skip <| qx <| mv rfl rfl <| mv rfl rfl <| mv rfl rfl <| L_pur rfl (bld69 (.cons rfl (.cons rfl (.cons rfl (.cons rfl .nil)))) (by repeat constructor)) <| L_op <| x_alloc ty69 rfl fun b21 => ?_
  refine L_op <| x_store rfl rfl ty69 rfl SM SM RO PT ?_
  refine J_pick (A := blk b21 _ _) PC ?_
  refine J_asTo (B := blk b21 69 (encC (madeC (resetM ps mr u.1) u.1 kind size))) (by rfl) <| nx <| mv rfl rfl <| L_val rfl (v_loadA rfl ty67 HS CT) ?_
  refine L_val rfl (v_loadA rfl ty69 HS CT) ?_
  refine L_val rfl (v_loadA rfl ty67 HS CT) ?_
  refine L_op <| xc fc30 (.cons rfl (.cons rfl (.cons rfl (.cons rfl .nil)))) rfl (slPutC (ps := ps) (p := q) (c := madeC (resetM ps mr u.1) u.1 kind size) (q := p) PC) fun _ => ?_
  refine nx <| L_val rfl (v_loadA rfl ty69 HS CT) ?_
  refine L_op <| x_store rfl rfl ty69 rfl SM SM RO PT ?_
  refine ag rfl rfl <| nq <| J_ret <| J_pick (A := slA b o _) PC ?_
  refine J_asTo (B := slA b o (makeS ps mr p q kind size).1.1) (by rw [hms]) <| J_pick (A := mkA b2 o2 _) PC ?_
  refine J_asTo (B := mkA b2 o2 (makeS ps mr p q kind size).1.2) (by rw [hms]) ?_
  refine J_return (()) Tryz.results171 (.cellA rfl ty69 HS CT (.tmp rfl .nil)) ?_ ?_
  · rw [hms]; rfl
  · exact SU
end Go.Pse
namespace Go.Pse
open Go.RowKit Go.Proofs
/-! ### an object is laid in; plain -/
theorem ptrs_ins {α : Type} {xs : List (Int × Nat × α)} {u : Int} {b : Nat} {a : α} : ins (ptrs xs) u b = ptrs (ins xs u (b, a)) := by
  unfold Go.Pse.ins
  rw [look_ptrs]
  cases look xs u with
  | none => simp [ptrs]
  | some y =>
    simp only [Option.map_some, Option.isSome_some, if_true]
    unfold ptrs
    rw [List.map_map, List.map_map]
    refine List.map_congr_left fun x _ => ?_
    simp only [Function.comp]
    split <;> rfl
theorem J_eachIns {α : Type} {E : World} {l : List As} {n : Nat} {F : Env} {K : Act → World → Prop} {f : Int × Nat × α → As} {xs : List (Int × Nat × α)} {u : Int} {x : Nat × α} (hK : Keyd (ptrs xs)) (k : Jk E (each f (ins xs u x) :: l) n F K) : Jk E (f (u, x) :: each f xs :: l) n F K := by
 have hK' : Keyd xs := by
  unfold Keyd at hK ⊢
  rw [show (ptrs xs).map Prod.fst = xs.map Prod.fst by unfold ptrs; rw [List.map_map]; rfl] at hK
  exact hK
 cases hl : look xs u with
 | none =>
  refine J_eachPush ?_
  rw [show ins xs u x = xs ++ [(u, x)] by unfold Go.Pse.ins; rw [hl]; rfl] at k
  exact k
 | some y =>
  obtain ⟨i, hi⟩ := look_ix hl
  rw [ins_at hK' hi rfl] at k
  refine J_pick (A := each f xs) (.there .here) <| J_eachOut hi <| J_sub (l' := f (u, x) :: each f (xs.eraseIdx i) :: l) (Sub.cons (.there (.there .here)) (Sub.cons (.there .here) (Sub.drop .refl))) ?_
  exact J_eachIn (u, x) (List.getElem?_eq_some_iff.1 hi).1 k
def zeroM (ms : List (List Int)) (u : Int) : List (List Int) := ms.set (u - 1).toNat zrow
def kMade (s : KS) (c : Cap) (b : Nat) : KS :=
  if c.kind = 4 then { s with ep := ins s.ep c.obj (b, [], []) } else if c.kind = 5 then { s with nt := ins s.nt c.obj (b, 0, []) } else if c.kind = 7 then { s with rp := ins s.rp c.obj (b, (0, 0), false) } else if c.kind = 3 then { s with mem := zeroM s.mem c.obj } else s
def sendE (x : Msg) (a : List Msg × List Rcv) : List Msg × List Rcv := match a.2 with
  | [] => (a.1 ++ [x], [])
  | _ :: r => (a.1, r)
def recvE (y : Rcv) (a : List Msg × List Rcv) : List Msg × List Rcv := match a.1 with
  | [] => ([], a.2 ++ [y])
  | _ :: r => (r, a.2)
def r0 : Rcv := ((0, 0), 0)
def kWaits (s : KS) (k u : Int) : List ID :=
  if k = 4 then (match look s.ep u with
    | none => []
    | some x => x.2.1.map Prod.fst ++ x.2.2.map Prod.fst)
  else if k = 5 then (match look s.nt u with
    | none => []
    | some x => x.2.2)
  else if k = 7 then (match look s.rp u with
    | none => []
    | some x => if x.2.2 = true then [x.2.1] else [])
  else []
theorem zeroC {E : World} {l m : List As} {b : Nat} {ms : List (List Int)} {u : Int} (hp : Pick (memA b ms) l m) (hM : MemOk ms) (hu1 : 1 ≤ u ∧ u ≤ 64) :
    Con Tryz.prog 239 #[.pointer (some ⟨b, 0, none⟩), .int .i64 u] E l (fun _ : Unit => .bool true) (fun _ => memA b (zeroM ms u) :: m) := by
  refine Con.body (vs := [.pointer (some ⟨b, 0, none⟩), .int .i64 u]) (n := 15) Tryz.func239 rfl rfl [(0, .pointer (some ⟨b, 0, none⟩)), (1, .int .i64 u)] (env_ok 2 rfl) ?_
  obtain ⟨hu, hrl, hrB⟩ := hM.at hu1
  have hms := hM.len
  obtain ⟨r, hr⟩ : ∃ r, r = rowAt ms u := ⟨_, rfl⟩
  rw [← hr] at hu hrl hrB
  refine J_pick hp <| J_memO fun v xs hxs => ?_
  have hxl : xs.length = 64 := by rw [← hms, ← show xs.map Prod.snd = ms from hxs, List.length_map]
  obtain ⟨vr, hx⟩ := snd_at hxs hu
  have hxu := (List.getElem?_eq_some_iff.1 hx).1
  refine J_pick (A := each memF xs) PC ?_
  refine J_eachOut hx <| J_asTo (B := row 5 1 vr (r.map encU)) (by rfl) <| J_row .here fun hwr ar cr hvr hr1 hr2 hr3 => ?_
  have hlr : (r.map encU).length = 512 := by rw [List.length_map]; exact hrl
  obtain ⟨br, orr, rfl⟩ := hr3 (by intro h; rw [h] at hlr; simp at hlr)
  subst hvr
  have hcr : cr ≤ 9223372036854775807 := hr2
  refine sr <| ag rfl rfl <| nq <| J_seq <| J_slot (t := 1) (v := .int .i64 ((((u - 1).toNat : Nat) : Int) + 1)) rfl (by congr 1; omega) <| J_region <| mv rfl rfl <| mv rfl rfl ?_
  refine L_op <| xc fc274 (.cons rfl (.cons rfl (.cons rfl (.cons rfl .nil)))) rfl (partC (u := (u - 1).toNat) (off := 0) (n := 512) (len := (r.map encU).length) HS HS hx (by omega) (by omega) (by omega)) fun _ => ?_
  refine mv rfl rfl <| L_pur rfl (p_extract rfl rfl) <| L_pur rfl (p_extract rfl rfl) <| ag rfl rfl <| ag rfl rfl <| nx <| mv rfl rfl <| L_op <| x_clear (k0 := 0) (len := (r.map encU).length) rfl Tryz.underlying268 ty5 rfl rfl PC (by simp; omega) ?_
  refine J_rowEq (ys := zrow.map encU) (by rw [List.take_zero, List.nil_append, List.drop_eq_nil_of_le (by omega), List.append_nil]; rfl) <| nx <| mv rfl rfl <| ag rfl rfl <| nq <| J_ret <| J_pick (A := row 5 1 (.slice (some ⟨br, orr, none⟩) (r.map encU).length cr) _) PC ?_
  refine J_asTo (B := memF (.slice (some ⟨br, orr, none⟩) (r.map encU).length cr, zrow)) (by rfl) <| J_pick (A := each memF _) PC ?_
  refine J_pick (A := memF _) PC ?_
  refine J_eachIn (.slice (some ⟨br, orr, none⟩) (r.map encU).length cr, zrow) hxu ?_
  skip
  refine J_pick (A := row 268 1 v _) PC ?_
  refine J_rowEq (ys := (xs.set (u - 1).toNat (.slice (some ⟨br, orr, none⟩) (r.map encU).length cr, zrow)).map fun x : Value × List Int => [x.1]) (fst_set hx).symm <| J_memS (b := b) (ms := (zeroM ms u)) v (xs.set (u - 1).toNat (.slice (some ⟨br, orr, none⟩) (r.map encU).length cr, zrow)) PX (by show List.map Prod.snd _ = _; rw [List.map_set, show xs.map Prod.snd = ms from hxs]; rfl) ?_
  refine J_return (()) Tryz.results239 (.tmp rfl .nil) ?_ ?_
  · rfl
  · exact SU
theorem coMake {E : World} {l m : List As} {p : Nat} {s : KS} (hp : Pick (coA p s) l m) {c : Cap} (hc : 1 ≤ c.obj ∧ c.obj ≤ 64) (hM : MemOk s.mem) :
    Con Tryz.prog 173 #[.pointer (some ⟨p, 0, none⟩), .agg (encC c).toArray] E l (fun b : Nat => .tuple #[]) (fun b => coA p (kMade s c b) :: m) := by
  refine Con.body (vs := [.pointer (some ⟨p, 0, none⟩), .agg (encC c).toArray]) (n := 45) Tryz.func173 rfl rfl [(0, .pointer (some ⟨p, 0, none⟩)), (1, .agg (encC c).toArray)] (env_ok 2 rfl) <| J_pick hp <| J_coO fun bn be br bg bt bs bp bl bk _ => J_keyd (ps := ptrs s.ep) HS fun hKep => ?_
  refine J_keyd (ps := ptrs s.nt) HS fun hKnt => ?_
  refine J_keyd (ps := ptrs s.rp) HS fun hKrp => ?_
  refine sr <| L_op <| x_box rfl rfl rfl fun b3 => nx <| fa rfl rfl fa69_0 <| L_val rfl (v_load rfl ty3 HS (by exact rfl)) ?_
  refine nq <| J_block <| sr <| L_pur rfl (p_eql rfl rfl) <| ag rfl rfl <| nq ?_
  refine C_dec rfl (fun h6 => ?_) (fun h6 => ?_)
  refine J_drawL (some 8) mixed <| ip 0 rfl rfl rfl rfl (p_move rfl) <| ip 1 rfl rfl rfl rfl (p_nilCheck rfl) <| ip 2 rfl rfl rfl rfl (p_fieldAddr rfl fa136_10) <| iv 3 rfl rfl rfl rfl (fun _ => v_loadL (o := 13) (i := 1) rfl ty127 HS rfl (by exact rfl)) ?_
  refine ip 4 rfl rfl rfl rfl (p_fieldAddr rfl fa69_1) <| iv 5 rfl rfl rfl rfl (fun _ => v_load rfl ty3 HS (by exact rfl)) ?_
  refine ip 6 rfl rfl rfl rfl (bld179 .nil (by repeat constructor)) <| i1 7 rfl <| x_box rfl rfl rfl fun b15 => i1 8 rfl <| x_mapUpdate (ek := kZ) (ev := evA) (a := c.obj) (c := b15) rfl rfl rfl ky3 Tryz.underlying127 PC ?_
  refine J_pick (A := mapV kZ evA (.map (some be)) _) PC ?_
  refine J_mapEq (qs := ptrs (ins s.ep c.obj (b15, [], []))) ptrs_ins <| J_pick (A := blk b15 _ _) PC ?_
  refine J_asTo (B := blk b15 179 [.slice none 0 0, .slice none 0 0]) (by rfl) <| J_epNew <| J_asTo (B := epF (c.obj, b15, [], [])) (by rfl) <| J_pick (A := each epF s.ep) PC ?_
  refine J_pick (A := epF (c.obj, b15, [], [])) PC ?_
  refine J_eachIns hKep <| i0 <| Q_blk_normal <| J_endnormal <| J_coS (p := p) (s := { s with ep := ins s.ep c.obj (b15, [], []) }) bn be br bg bt bs bp bl bk PX trivial ?_
  refine J_asTo (B := coA p (kMade s c b15)) (by unfold kMade; rw [if_pos h6]) ?_
  refine J_return (b15) Tryz.results173 .nil ?_ ?_
  · rfl
  · exact SU
  refine sr <| L_pur rfl (p_eql rfl rfl) <| ag rfl rfl <| nq ?_
  refine C_dec rfl (fun h16 => ?_) (fun h16 => ?_)
  refine J_drawL (some 8) mixed <| ip 0 rfl rfl rfl rfl (p_move rfl) <| ip 1 rfl rfl rfl rfl (p_nilCheck rfl) <| ip 2 rfl rfl rfl rfl (p_fieldAddr rfl fa136_9) <| iv 3 rfl rfl rfl rfl (fun _ => v_loadL (o := 13) (i := 0) rfl ty126 HS rfl (by exact rfl)) ?_
  refine ip 4 rfl rfl rfl rfl (p_fieldAddr rfl fa69_1) <| iv 5 rfl rfl rfl rfl (fun _ => v_load rfl ty3 HS (by exact rfl)) ?_
  refine ip 6 rfl rfl rfl rfl (bld213 .nil (by repeat constructor)) <| i1 7 rfl <| x_box rfl rfl rfl fun b25 => i1 8 rfl <| x_mapUpdate (ek := kZ) (ev := evA) (a := c.obj) (c := b25) rfl rfl rfl ky3 Tryz.underlying126 PC ?_
  refine J_pick (A := mapV kZ evA (.map (some bn)) _) PC ?_
  refine J_mapEq (qs := ptrs (ins s.nt c.obj (b25, 0, []))) ptrs_ins <| J_pick (A := blk b25 _ _) PC ?_
  refine J_asTo (B := blk b25 213 [.int .u32 0, .slice none 0 0, .map none]) (by rfl) <| J_ntNew <| J_asTo (B := ntF (c.obj, b25, 0, [])) (by rfl) <| J_pick (A := each ntF s.nt) PC ?_
  refine J_pick (A := ntF (c.obj, b25, 0, [])) PC ?_
  refine J_eachIns hKnt <| i0 <| Q_blk_normal <| J_endnormal <| J_coS (p := p) (s := { s with nt := ins s.nt c.obj (b25, 0, []) }) bn be br bg bt bs bp bl bk PX trivial ?_
  refine J_asTo (B := coA p (kMade s c b25)) (by unfold kMade; rw [if_neg h6, if_pos h16]) ?_
  refine J_return (b25) Tryz.results173 .nil ?_ ?_
  · rfl
  · exact SU
  refine sr <| L_pur rfl (p_eql rfl rfl) <| ag rfl rfl <| nq ?_
  refine C_dec rfl (fun h26 => ?_) (fun h26 => ?_)
  refine J_drawL (some 8) mixed <| ip 0 rfl rfl rfl rfl (p_move rfl) <| ip 1 rfl rfl rfl rfl (p_nilCheck rfl) <| ip 2 rfl rfl rfl rfl (p_fieldAddr rfl fa136_11) <| iv 3 rfl rfl rfl rfl (fun _ => v_loadL (o := 13) (i := 2) rfl ty128 HS rfl (by exact rfl)) ?_
  refine ip 4 rfl rfl rfl rfl (p_fieldAddr rfl fa69_1) <| iv 5 rfl rfl rfl rfl (fun _ => v_load rfl ty3 HS (by exact rfl)) ?_
  refine ip 6 rfl rfl rfl rfl (bld273 .nil (by repeat constructor)) <| i1 7 rfl <| x_box rfl rfl rfl fun b35 => i1 8 rfl <| x_mapUpdate (ek := kZ) (ev := evA) (a := c.obj) (c := b35) rfl rfl rfl ky3 Tryz.underlying128 PC ?_
  refine J_pick (A := mapV kZ evA (.map (some br)) _) PC ?_
  refine J_mapEq (qs := ptrs (ins s.rp c.obj (b35, (0, 0), false))) ptrs_ins <| J_pick (A := blk b35 _ _) PC ?_
  refine J_asTo (B := rpF (c.obj, b35, (0, 0), false)) (by rfl) <| J_pick (A := each rpF s.rp) PC ?_
  refine J_pick (A := rpF (c.obj, b35, (0, 0), false)) PC ?_
  refine J_eachIns hKrp <| i0 <| Q_blk_normal <| J_endnormal <| J_coS (p := p) (s := { s with rp := ins s.rp c.obj (b35, (0, 0), false) }) bn be br bg bt bs bp bl bk PX trivial ?_
  refine J_asTo (B := coA p (kMade s c b35)) (by unfold kMade; rw [if_neg h6, if_neg h16, if_pos h26]) ?_
  refine J_return (b35) Tryz.results173 .nil ?_ ?_
  · rfl
  · exact SU
  refine sr <| L_pur rfl (p_eql rfl rfl) <| ag rfl rfl <| nq ?_
  refine C_dec rfl (fun h36 => ?_) (fun h36 => ?_)
  refine J_drawT 6 mixed (by kernel_rfl) <| sm rfl rfl <| sp rfl (p_nilCheck rfl) <| sp rfl (p_fieldAddr rfl fa136_1) <| S_val rfl (v_loadL (o := 0) (i := 5) rfl ty105 HS rfl (by exact rfl)) ?_
  refine sp rfl (p_fieldAddr rfl fa69_1) <| S_val rfl (v_load rfl ty3 HS (by exact rfl)) ?_
  refine S_nil <| L_op <| xc fc239 (.cons rfl (.cons rfl .nil)) rfl (zeroC (ms := s.mem) (u := c.obj) PC hM hc) fun _ => ?_
  refine L_nil <| Q_blk_normal <| J_endnormal <| J_coS (p := p) (s := { s with mem := zeroM s.mem c.obj }) bn be br bg bt bs bp bl bk PX trivial ?_
  refine J_asTo (B := coA p (kMade s c 0)) (by unfold kMade; rw [if_neg h6, if_neg h16, if_neg h26, if_pos h36]) ?_
  refine J_return (0) Tryz.results173 .nil ?_ ?_
  · rfl
  · exact SU
  refine J_skip <| Q_blk_normal <| J_endnormal <| J_coS (p := p) (s := s) bn be br bg bt bs bp bl bk PX trivial ?_
  refine J_asTo (B := coA p (kMade s c 0)) (by unfold kMade; rw [if_neg h6, if_neg h16, if_neg h26, if_neg h36]) ?_
  refine J_return (0) Tryz.results173 .nil ?_ ?_
  · rfl
  · exact SU
end Go.Pse
namespace Go.Pse
open Go.RowKit Go.Proofs
theorem coWaitsNo {E : World} {l m : List As} {p : Nat} {s : KS} (hp : Pick (coA p s) l m) {k u : Int} (h4 : k = 4 → look s.ep u = none) (h5 : k = 5 → look s.nt u = none) (h7 : k = 7 → look s.rp u = none) :
  Con Tryz.prog 286 #[.pointer (some ⟨p, 0, none⟩), .agg (encI (k, u)).toArray] E l (fun v : Value => v) (fun v => row 39 2 v (([] : List ID).map encI) :: coA p s :: m) := by
 refine Con.body (vs := [.pointer (some ⟨p, 0, none⟩), .agg (encI (k, u)).toArray]) (n := 80) Tryz.func286 rfl rfl [(0, .pointer (some ⟨p, 0, none⟩)), (1, .agg (encI (k, u)).toArray)] (env_ok 2 rfl) <| J_pick hp <| sr <| L_op <| x_box rfl rfl rfl fun b3 => ag rfl rfl <| nx <| ag rfl rfl ?_
 refine J_nil (el := 39) (sz := 2) <| nxx <| fa rfl rfl fa418_0 <| L_val rfl (v_load rfl ty3 HS (by exact rfl)) ?_
 refine nq <| J_block <| sr <| L_pur rfl (p_eql rfl rfl) <| ag rfl rfl <| nq ?_
 refine C_dec rfl (fun h17 => ?_) (fun h17 => ?_)
 refine sr <| mv rfl rfl <| fa rfl rfl fa418_1 <| L_val rfl (v_load rfl ty3 HS (by exact rfl)) ?_
 refine L_op <| xc fc27 (.cons rfl (.cons rfl .nil)) rfl (coEp (s := s) (u := u) PC) fun _ => ?_
 refine J_slot (t := 22) (v := .pointer none) rfl (by rw [look_ptrs, h4 h17]; rfl) <| ag rfl rfl <| nx <| mv rfl rfl <| L_pur rfl (p_neNilPtr Tryz.underlying57 rfl) <| nq <| J_bool (t := 24) (c := false) rfl (rfl) <| C_false rfl ?_
 refine J_skip <| Q_blk_normal <| qx <| mv rfl rfl <| ag rfl rfl <| nq <| J_ret <| J_pick (A := row 39 2 _ _) PC ?_
 refine J_rowEq (ys := ([] : List ID).map encI) (by rfl) ?_
 exact J_return (_) Tryz.results286 (.tmp rfl .nil) rfl SU
 refine sr <| L_pur rfl (p_eql rfl rfl) <| ag rfl rfl <| nq ?_
 refine C_dec rfl (fun h51 => ?_) (fun h51 => ?_)
 refine sr <| mv rfl rfl <| fa rfl rfl fa418_1 <| L_val rfl (v_load rfl ty3 HS (by exact rfl)) ?_
 refine L_op <| xc fc36 (.cons rfl (.cons rfl .nil)) rfl (coNotif (s := s) (u := u) PC) fun _ => ?_
 refine J_slot (t := 56) (v := .pointer none) rfl (by rw [look_ptrs, h5 h51]; rfl) <| ag rfl rfl <| nx <| mv rfl rfl <| L_pur rfl (p_neNilPtr Tryz.underlying79 rfl) <| nq <| J_bool (t := 58) (c := false) rfl (rfl) <| C_false rfl ?_
 refine J_skip <| Q_blk_normal <| qx <| mv rfl rfl <| ag rfl rfl <| nq <| J_ret <| J_pick (A := row 39 2 _ _) PC ?_
 refine J_rowEq (ys := ([] : List ID).map encI) (by rfl) ?_
 exact J_return (_) Tryz.results286 (.tmp rfl .nil) rfl SU
 refine sr <| L_pur rfl (p_eql rfl rfl) <| ag rfl rfl <| nq ?_
 refine C_dec rfl (fun h61 => ?_) (fun h61 => ?_)
 refine sr <| mv rfl rfl <| fa rfl rfl fa418_1 <| L_val rfl (v_load rfl ty3 HS (by exact rfl)) ?_
 refine L_op <| xc fc20 (.cons rfl (.cons rfl .nil)) rfl (coReply (s := s) (u := u) PC) fun _ => ?_
 refine J_slot (t := 66) (v := .pointer none) rfl (by rw [look_ptrs, h7 h61]; rfl) <| ag rfl rfl <| nx <| mv rfl rfl <| L_pur rfl (p_neNilPtr Tryz.underlying42 rfl) <| nq <| J_bool (t := 68) (c := false) rfl (rfl) <| C_false rfl ?_
 refine J_skip <| Q_blk_normal <| qx <| mv rfl rfl <| ag rfl rfl <| nq <| J_ret <| J_pick (A := row 39 2 _ _) PC ?_
 refine J_rowEq (ys := ([] : List ID).map encI) (by rfl) ?_
 exact J_return (_) Tryz.results286 (.tmp rfl .nil) rfl SU
 refine J_skip <| Q_blk_normal <| qx <| mv rfl rfl <| ag rfl rfl <| nq <| J_ret <| J_pick (A := row 39 2 _ _) PC ?_
 refine J_rowEq (ys := ([] : List ID).map encI) (by rfl) ?_
 exact J_return (_) Tryz.results286 (.tmp rfl .nil) rfl SU
theorem kWaits_ep {s : KS} {u : Int} {b : Nat} {o : List Msg} {i : List Rcv} (h : look s.ep u = some (b, o, i)) : kWaits s 4 u = o.map Prod.fst ++ i.map Prod.fst := by unfold kWaits; rw [if_pos rfl, h]
theorem kWaits_nt {s : KS} {u : Int} {b : Nat} {w : Int} {xs : List ID} (h : look s.nt u = some (b, w, xs)) : kWaits s 5 u = xs := by unfold kWaits; rw [if_neg (by decide), if_pos rfl, h]
theorem kWaits_rp {s : KS} {u : Int} {b : Nat} {c : ID × Bool} (h : look s.rp u = some (b, c)) : kWaits s 7 u = if c.2 = true then [c.1] else [] := by unfold kWaits; rw [if_neg (by decide), if_neg (by decide), if_pos rfl, h]
theorem kWaits_no {s : KS} {k u : Int} (h4 : k = 4 → look s.ep u = none) (h5 : k = 5 → look s.nt u = none) (h7 : k = 7 → look s.rp u = none) : kWaits s k u = [] := by
  unfold kWaits
  split
  · rename_i h; rw [h4 h]
  · split
    · rename_i h; rw [h5 h]
    · split
      · rename_i h; rw [h7 h]
      · rfl
theorem coWaits {E : World} {l m : List As} {p : Nat} {s : KS} (hp : Pick (coA p s) l m) {k u : Int} {N M : Nat} (hF : Fits s N M) : Con Tryz.prog 286 #[.pointer (some ⟨p, 0, none⟩), .agg (encI (k, u)).toArray] E l (fun v : Value => v) (fun v => row 39 2 v ((kWaits s k u).map encI) :: coA p s :: m) := by
  have hN := hF.n
  by_cases h4 : k = 4
  · subst h4
    cases hl : look s.ep u with
    | none => rw [kWaits_no (fun _ => hl) (fun h => by cases h) (fun h => by cases h)]; exact coWaitsNo hp (fun _ => hl) (fun h => by cases h) (fun h => by cases h)
    | some x =>
      obtain ⟨b, o, i⟩ := x
      have h := hF.ep _ (mem_look hl)
      rw [kWaits_ep hl]
      exact coWaitsEp hp hl (by have := h.2.1; dsimp only at this; omega) (by have := h.2.2; dsimp only at this; omega)
  by_cases h5 : k = 5
  · subst h5
    cases hl : look s.nt u with
    | none => rw [kWaits_no (fun h => by cases h) (fun _ => hl) (fun h => by cases h)]; exact coWaitsNo hp (fun h => by cases h) (fun _ => hl) (fun h => by cases h)
    | some x =>
      obtain ⟨b, w, xs⟩ := x
      have h := hF.nt _ (mem_look hl)
      rw [kWaits_nt hl]
      exact coWaitsNt hp hl (by have := h.2; dsimp only at this; omega)
  by_cases h7 : k = 7
  · subst h7
    cases hl : look s.rp u with
    | none => rw [kWaits_no (fun h => by cases h) (fun h => by cases h) (fun _ => hl)]; exact coWaitsNo hp (fun h => by cases h) (fun h => by cases h) (fun _ => hl)
    | some x =>
      obtain ⟨b, c⟩ := x
      rw [kWaits_rp hl]
      exact coWaitsRp hp hl
  · rw [kWaits_no (fun h => absurd h h4) (fun h => absurd h h5) (fun h => absurd h h7)]
    exact coWaitsNo hp (fun h => absurd h h4) (fun h => absurd h h5) (fun h => absurd h h7)
/-! ### plain: a ring is torn down, whatever it has -/
theorem look_delO {κ υ : Type} [DecidableEq κ] {ps : List (κ × υ)} {a i : κ} (h : a ≠ i) : look (del ps i) a = look ps a := by
  rw [look_del, if_neg (fun e => h e.symm)]
theorem Fits.tearOn {N M : Nat} : ∀ {l : List Rq} {s : KS}, Fits s N M → (l.map Rq.id).Nodup → (∀ q ∈ l, look s.rt q.id = some q) → Fits (kTearL s l) N M
  | [], _, h, _, _ => h
  | q :: l, s, h, hn, hm => by
    obtain ⟨M, rfl⟩ : ∃ M', M = M' + 1 := ⟨M - 1, by
      have h1 := del_less (hm q List.mem_cons_self)
      have h2 := h.jn
      omega⟩
    rw [List.map_cons, List.nodup_cons] at hn
    refine Fits.tearOn (l := l) (s := kTear1 s q) (((h.drop (hm q List.mem_cons_self)).forget q.id).jnl h.mm (deedG q)) hn.2 fun x hx => ?_
    show look (del s.rt q.id) x.id = some x
    rw [look_delO (fun e => hn.1 (List.mem_map.2 ⟨x, hx, e⟩))]
    exact hm x (List.mem_cons_of_mem _ hx)
theorem ofQ_ids {ps : List (ID × Rq)} (hK : Keyd ps) (hI : Ids ps) (g : Int) : ((ofQ ps g).map Rq.id).Nodup ∧ ∀ q ∈ ofQ ps g, look ps q.id = some q := by
  constructor
  · have h1 : (ofQ ps g).Perm (ofRing ps g) := sortF_isPerm _
    refine (h1.map Rq.id).nodup_iff.2 ?_
    unfold ofRing
    rw [List.map_map]
    have h2 : (ps.filter fun e => decide (e.1.1 = g)).map (Rq.id ∘ Prod.snd) = (ps.filter fun e => decide (e.1.1 = g)).map Prod.fst := List.map_congr_left fun e he => hI e (List.mem_filter.1 he).1
    rw [h2]
    exact List.Nodup.sublist (List.Sublist.map _ List.filter_sublist) hK
  · intro q hq
    obtain ⟨k, h1, h2⟩ := ofQ_mem.1 hq
    rw [hI _ h1]
    exact look_mem hK h1
theorem rem_mem {α : Type} {xs : List (Int × α)} {u : Int} {x : Int × α} (h : x ∈ rem xs u) : x ∈ xs := (List.mem_filter.1 h).1
theorem Fits.gone {s : KS} {N M : Nat} (h : Fits s N M) (k u : Int) : Fits (kGone s k u) N M := by
  unfold kGone
  split
  · exact ⟨h.n, h.mm, h.ids, h.jn, h.tm, fun x hx => h.ep x (rem_mem hx), h.nt, h.rp, h.rg, h.mem⟩
  · split
    · exact ⟨h.n, h.mm, h.ids, h.jn, h.tm, h.ep, fun x hx => h.nt x (rem_mem hx), h.rp, h.rg, h.mem⟩
    · split
      · exact ⟨h.n, h.mm, h.ids, h.jn, h.tm, h.ep, h.nt, fun x hx => h.rp x (rem_mem hx), h.rg, h.mem⟩
      · split
        · exact ⟨h.n, h.mm, h.ids, h.jn, h.tm, h.ep, h.nt, h.rp, h.rg, h.mem⟩
        · split
          · exact ⟨h.n, h.mm, h.ids, h.jn, h.tm, h.ep, h.nt, h.rp, h.rg, h.mem⟩
          · split
            · exact ⟨h.n, h.mm, h.ids, h.jn, h.tm, h.ep, h.nt, h.rp, h.rg, h.mem⟩
            · split
              · exact ⟨h.n, h.mm, h.ids, h.jn, h.tm, h.ep, h.nt, h.rp, fun x hx => h.rg x (rem_mem hx), h.mem⟩
              · exact h
theorem Fits.cleared {s : KS} {N M : Nat} (h : Fits s N M) (g : Int) : Fits (kCleared s g) N M :=
  ⟨h.n, h.mm, h.ids, h.jn, h.tm, h.ep, h.nt, h.rp, fun x hx => by
    obtain ⟨y, hy, h1, h2⟩ := updO_mem (show x ∈ updO s.rg g (fun r => { r with over := [] }) from hx)
    obtain ⟨g1, g2⟩ := h.rg y hy
    rcases h2 with h2 | h2 <;> rw [h2]
    · exact ⟨g1, g2⟩
    · exact ⟨⟨g1.sq, g1.cq, g1.cb, g1.tail⟩, by have := h.jn; show 0 + s.rt.length ≤ M; omega⟩, h.mem⟩
theorem Fits.tear {s : KS} {N M : Nat} (hK : Keyd s.rt) (h : Fits s N M) (g : Int) : Fits (kTear s g) N M := by
  unfold kTear
  split
  · have hq := ofQ_ids hK h.ids g
    exact ((h.tearOn hq.1 hq.2).cleared g).gone 9 g
  · exact h
theorem kTearL_same : ∀ {l : List Rq} {s : KS}, (kTearL s l).q = s.q ∧ (kTearL s l).mp = s.mp ∧ (kTearL s l).sl = s.sl ∧ (kTearL s l).mr = s.mr
  | [], _ => ⟨rfl, rfl, rfl, rfl⟩
  | q :: l, s => kTearL_same (l := l) (s := kTear1 s q)
theorem kTearL_rt : ∀ {l : List Rq} {s : KS}, (kTearL s l).rt.Sublist s.rt
  | [], _ => List.Sublist.refl _
  | q :: l, s => (kTearL_rt (l := l) (s := kTear1 s q)).trans (List.filter_sublist (l := s.rt))
theorem kTear_same {s : KS} {g : Int} : (kTear s g).q = s.q ∧ (kTear s g).mp = s.mp ∧ (kTear s g).sl = s.sl ∧ (kTear s g).mr = s.mr := by
  unfold kTear
  split
  · have h := kTearL_same (l := ofQ s.rt g) (s := s)
    exact h
  · exact ⟨rfl, rfl, rfl, rfl⟩
theorem kTear_rt {s : KS} {g : Int} : (kTear s g).rt.Sublist s.rt := by
  unfold kTear
  split
  · exact kTearL_rt
  · exact List.Sublist.refl _
theorem Keyd.sub {κ υ : Type} {ps qs : List (κ × υ)} (h : Keyd ps) (hs : qs.Sublist ps) : Keyd qs := List.Nodup.sublist (hs.map _) h
theorem look_remO {α : Type} {xs : List (Int × α)} {u a : Int} (h : a ≠ u) : look (rem xs u) a = look xs a := by
  unfold rem
  exact look_delO (ps := xs) h
theorem look_updN {α : Type} {xs : List (Int × Nat × α)} {u a : Int} {f : α → α} (h : a ≠ u) : look (updO xs u f) a = look xs a := by
  rw [look_updO]
  cases look xs a with
  | none => rfl
  | some y => simp [h]
theorem kTear_rg {s : KS} {g a : Int} (h : a ≠ g) : look (kTear s g).rg a = look s.rg a := by
  unfold kTear
  split
  · have e : (kGone (kCleared (kTearL s (ofQ s.rt g)) g) 9 g).rg = rem (updO (kTearL s (ofQ s.rt g)).rg g (fun r => { r with over := [] })) g := rfl
    rw [e, look_remO h, look_updN h, kTearL_rg.1]
  · rfl
theorem kTear_no {s : KS} {g : Int} (h : look s.rg g = none) : kTear s g = s := by unfold kTear; rw [h]; rfl
theorem coTearG {E : World} {l m : List As} {p : Nat} {s : KS} (hp : Pick (coA p s) l m) {g : Int} {N M : Nat} (hF : Fits s N M) (hm : M ≤ 45000) : Con Tryz.prog 289 #[.pointer (some ⟨p, 0, none⟩), .int .i64 g] E l (fun _ : Unit => .bool (look s.rg g).isSome) (fun _ => coA p (kTear s g) :: m) := by
  cases hl : look s.rg g with
  | none => rw [kTear_no hl]; exact coTearNo hp hl
  | some x =>
    obtain ⟨b, r⟩ := x
    exact fun w H => ((coTear hp hl hF (by have := hF.jn; omega)) w H).mono fun e w' ⟨x, he, H'⟩ => ⟨x, he, Sub.sep (Sub.cons .here (Sub.drop .refl)) H'⟩
def tornStep (u : Int) (s : KS) (g : Int) : KS := match look s.rg g with
  | none => s
  | some x => if x.2.sq = u ∨ x.2.cq = u then kTear s g else s
def kTorn (s : KS) (u : Int) (l : List Int) : KS := l.foldl (tornStep u) s
def kDestroy (s : KS) (o : Obj2) : KS :=
  kGone (if o.1 = 3 then kTorn (kEnds s (kWaits s o.1 o.2)) o.2 (sortZ ((kEnds s (kWaits s o.1 o.2)).rg.map Prod.fst)) else if o.1 = 9 then kTear (kEnds s (kWaits s o.1 o.2)) o.2 else kEnds s (kWaits s o.1 o.2)) o.1 o.2
def kDestroyL (s : KS) (l : List Obj2) : KS := l.foldl kDestroy s
theorem kTorn_snoc {s : KS} {u g : Int} {l : List Int} : kTorn s u (l ++ [g]) = tornStep u (kTorn s u l) g := by unfold kTorn; rw [List.foldl_append]; rfl
theorem kDestroyL_snoc {s : KS} {o : Obj2} {l : List Obj2} : kDestroyL s (l ++ [o]) = kDestroy (kDestroyL s l) o := by unfold kDestroyL; rw [List.foldl_append]; rfl
structure Kept (s t : KS) : Prop where
  q : t.q = s.q
  mp : t.mp = s.mp
  sl : t.sl = s.sl
  mr : t.mr = s.mr
theorem Kept.refl (s : KS) : Kept s s := ⟨rfl, rfl, rfl, rfl⟩
theorem Kept.trans {s t v : KS} (h : Kept s t) (g : Kept t v) : Kept s v := ⟨g.q.trans h.q, g.mp.trans h.mp, g.sl.trans h.sl, g.mr.trans h.mr⟩
theorem Kept.said (s : KS) (d : Deed) : Kept s (kSaid s d) := by unfold kSaid kPost; split <;> exact ⟨rfl, rfl, rfl, rfl⟩
theorem Kept.tell {D : KS → ID → Int → Int → KS} (hD : ∀ s i r v, Kept s (D s i r v)) (s : KS) (d : Deed) : Kept s (kTell D s d) := by
  unfold kTell
  split
  · exact Kept.said s d
  · split
    · exact (Kept.said s d).trans (Kept.trans (t := kRung (kSaid s d) d.1.1) ⟨rfl, rfl, rfl, rfl⟩ (hD _ _ _ _))
    · exact (Kept.said s d).trans ⟨rfl, rfl, rfl, rfl⟩
theorem Kept.dec : ∀ n (s : KS) (i : ID) (r v : Int), Kept s (kDec n s i r v)
  | 0, s, _, _, _ => .refl s
  | n + 1, s, i, r, v => by
    cases hq : look s.rt i with
    | none => rw [kDec_none hq]; exact .refl s
    | some q =>
      rw [kDec_some hq]
      have h0 : Kept s (kForget { s with rt := del s.rt i } i) := ⟨rfl, rfl, rfl, rfl⟩
      have h := h0.trans (Kept.tell (D := kDec n) (fun s i r v => Kept.dec n s i r v) (kForget { s with rt := del s.rt i } i) (i, q.e.tag, q.e.op, r, v, false))
      unfold kNext
      split
      · exact h
      · split
        · exact h.trans (Kept.dec n _ _ _ _)
        · exact h
theorem Kept.ends : ∀ (l : List ID) (s : KS), Kept s (kEnds s l)
  | [], s => .refl s
  | i :: l, s => (Kept.dec _ _ _ _ _).trans (Kept.ends l _)
theorem Kept.tear (s : KS) (g : Int) : Kept s (kTear s g) := ⟨kTear_same.1, kTear_same.2.1, kTear_same.2.2.1, kTear_same.2.2.2⟩
theorem Kept.tornStep (u : Int) (s : KS) (g : Int) : Kept s (tornStep u s g) := by
  unfold Go.Pse.tornStep
  split
  · exact .refl s
  · split
    · exact .tear s g
    · exact .refl s
theorem Kept.torn (u : Int) : ∀ (l : List Int) (s : KS), Kept s (kTorn s u l)
  | [], s => .refl s
  | g :: l, s => (Kept.tornStep u s g).trans (Kept.torn u l _)
theorem dec_rt : ∀ n (s : KS) (i : ID) (r v : Int), (kDec n s i r v).rt.Sublist s.rt
  | 0, s, _, _, _ => List.Sublist.refl _
  | n + 1, s, i, r, v => by
    cases hq : look s.rt i with
    | none => rw [kDec_none hq]; exact List.Sublist.refl _
    | some q =>
      rw [kDec_some hq]
      have h : (kTell (kDec n) (kForget { s with rt := del s.rt i } i) (i, q.e.tag, q.e.op, r, v, false)).rt.Sublist s.rt := by
        unfold kTell
        have h0 : (kSaid (kForget { s with rt := del s.rt i } i) (i, q.e.tag, q.e.op, r, v, false)).rt.Sublist s.rt := by
          rw [kSaid_rt]; exact List.filter_sublist (l := s.rt)
        split
        · exact h0
        · split
          · exact (dec_rt n _ _ _ _).trans h0
          · exact h0
      unfold kNext
      split
      · exact h
      · split
        · exact (dec_rt n _ _ _ _).trans h
        · exact h
theorem ends_rt : ∀ (l : List ID) (s : KS), (kEnds s l).rt.Sublist s.rt
  | [], s => List.Sublist.refl _
  | i :: l, s => (ends_rt l _).trans (dec_rt _ _ _ _ _)
theorem tornStep_rt (u : Int) (s : KS) (g : Int) : (tornStep u s g).rt.Sublist s.rt := by
  unfold tornStep
  split
  · exact List.Sublist.refl _
  · split
    · exact kTear_rt
    · exact List.Sublist.refl _
theorem torn_rt (u : Int) : ∀ (l : List Int) (s : KS), (kTorn s u l).rt.Sublist s.rt
  | [], s => List.Sublist.refl _
  | g :: l, s => (torn_rt u l _).trans (tornStep_rt u s g)
theorem Fits.tornStep {s : KS} {N M : Nat} (hK : Keyd s.rt) (h : Fits s N M) (u g : Int) : Fits (tornStep u s g) N M := by
  unfold Go.Pse.tornStep
  split
  · exact h
  · split
    · exact h.tear hK g
    · exact h
theorem Fits.torn {N M : Nat} (u : Int) : ∀ {l : List Int} {s : KS}, Keyd s.rt → Fits s N M → Fits (kTorn s u l) N M
  | [], _, _, h => h
  | g :: l, s, hK, h => Fits.torn u (l := l) (hK.sub (tornStep_rt u s g)) (h.tornStep hK u g)
theorem torn_rg (u : Int) {a : Int} : ∀ {l : List Int} {s : KS}, a ∉ l → look (kTorn s u l).rg a = look s.rg a
  | [], _, _ => rfl
  | g :: l, s, h => by
    have h1 := torn_rg u (l := l) (s := tornStep u s g) (fun e => h (List.mem_cons_of_mem _ e))
    show look (kTorn (tornStep u s g) u l).rg a = _
    rw [h1]
    have hne : a ≠ g := fun e => h (e ▸ List.mem_cons_self)
    unfold tornStep
    split
    · rfl
    · split
      · exact kTear_rg hne
      · rfl
theorem kDestroy_rt (s : KS) (o : Obj2) : (kDestroy s o).rt.Sublist s.rt := by
  have e : ∀ (t : KS) (k u : Int), (kGone t k u).rt = t.rt := fun t k u => by
    unfold kGone; (repeat' split) <;> rfl
  unfold kDestroy
  rw [e]
  split
  · exact (torn_rt _ _ _).trans (ends_rt _ _)
  · split
    · exact kTear_rt.trans (ends_rt _ _)
    · exact ends_rt _ _
theorem Fits.destroy {s : KS} {N M : Nat} (hK : Keyd s.rt) (h : Fits s N M) (o : Obj2) : Fits (kDestroy s o) N M := by
  have hE : Fits (kEnds s (kWaits s o.1 o.2)) N M := h.ends
  have hK2 := hK.sub (ends_rt (kWaits s o.1 o.2) s)
  unfold kDestroy
  refine Fits.gone ?_ _ _
  split
  · exact hE.torn _ hK2
  · split
    · exact hE.tear hK2 _
    · exact hE
theorem gone_len (s : KS) (k u : Int) : (kGone s k u).q.length ≤ s.q.length ∧ (kGone s k u).mp.length ≤ s.mp.length ∧ (kGone s k u).sl = s.sl ∧ (kGone s k u).mr = s.mr := by
  unfold kGone
  have h1 : ∀ p : (Int × Int) × (Int × Int) → Bool, (s.mp.filter p).length ≤ s.mp.length := fun p => List.length_filter_le _ _
  (repeat' split) <;> first | exact ⟨Nat.le_refl _, Nat.le_refl _, rfl, rfl⟩ | exact ⟨Nat.le_refl _, h1 _, rfl, rfl⟩ | exact ⟨qRem_len _ _, Nat.le_refl _, rfl, rfl⟩
theorem destroy_len (s : KS) (o : Obj2) : (kDestroy s o).q.length ≤ s.q.length ∧ (kDestroy s o).mp.length ≤ s.mp.length ∧ (kDestroy s o).sl = s.sl ∧ (kDestroy s o).mr = s.mr := by
  have hk : Kept s (if o.1 = 3 then kTorn (kEnds s (kWaits s o.1 o.2)) o.2 (sortZ ((kEnds s (kWaits s o.1 o.2)).rg.map Prod.fst)) else if o.1 = 9 then kTear (kEnds s (kWaits s o.1 o.2)) o.2 else kEnds s (kWaits s o.1 o.2)) := by
    split
    · exact (Kept.ends _ _).trans (Kept.torn _ _ _)
    · split
      · exact (Kept.ends _ _).trans (Kept.tear _ _)
      · exact Kept.ends _ _
  have h := gone_len (if o.1 = 3 then kTorn (kEnds s (kWaits s o.1 o.2)) o.2 (sortZ ((kEnds s (kWaits s o.1 o.2)).rg.map Prod.fst)) else if o.1 = 9 then kTear (kEnds s (kWaits s o.1 o.2)) o.2 else kEnds s (kWaits s o.1 o.2)) o.1 o.2
  rw [hk.q, hk.mp, hk.sl, hk.mr] at h
  exact h
theorem destroyL_rt : ∀ (l : List Obj2) (s : KS), (kDestroyL s l).rt.Sublist s.rt
  | [], s => List.Sublist.refl _
  | o :: l, s => (destroyL_rt l _).trans (kDestroy_rt s o)
theorem Fits.destroyL {N M : Nat} : ∀ {l : List Obj2} {s : KS}, Keyd s.rt → Fits s N M → Fits (kDestroyL s l) N M
  | [], _, _, h => h
  | o :: l, s, hK, h => Fits.destroyL (l := l) (hK.sub (kDestroy_rt s o)) (h.destroy hK o)
theorem destroyL_len : ∀ (l : List Obj2) (s : KS), (kDestroyL s l).q.length ≤ s.q.length ∧ (kDestroyL s l).mp.length ≤ s.mp.length ∧ (kDestroyL s l).sl = s.sl ∧ (kDestroyL s l).mr = s.mr
  | [], s => ⟨Nat.le_refl _, Nat.le_refl _, rfl, rfl⟩
  | o :: l, s => by
    have h1 := destroyL_len l (kDestroy s o)
    have h2 := destroy_len s o
    exact ⟨Nat.le_trans h1.1 h2.1, Nat.le_trans h1.2.1 h2.2.1, h1.2.2.1.trans h2.2.2.1, h1.2.2.2.trans h2.2.2.2⟩
theorem J_coRgKeyd {E : World} {l : List As} {n : Nat} {F : Env} {K : Act → World → Prop} {p : Nat} {s : KS} (k : Keyd (ptrs s.rg) → Jk E (coA p s :: l) n F K) : Jk E (coA p s :: l) n F K :=
  J_coO fun bn be br bg bt bs bp bl bk _ => J_keyd (ps := ptrs s.rg) HS fun hK => J_coS (p := p) (s := s) bn be br bg bt bs bp bl bk PX trivial (k hK)
theorem J_coRtKeyd {E : World} {l : List As} {n : Nat} {F : Env} {K : Act → World → Prop} {p : Nat} {s : KS} (k : Keyd s.rt → Jk E (coA p s :: l) n F K) : Jk E (coA p s :: l) n F K :=
  J_coO fun bn be br bg bt bs bp bl bk _ => J_pick (A := rtA p 10 s.rt) PC <| J_rtO fun ob _ => J_mapV (ek := kI) (ev := evQ) (ps := s.rt) HS (fun _ h1 => J_rtS (b := p) (o := 10) (ps := s.rt) ob PX trivial <| J_coS (p := p) (s := s) bn be br bg bt bs bp bl bk PX trivial <| k (by rw [h1]; exact Keyd.nil)) (fun _ _ hK => J_rtS (b := p) (o := 10) (ps := s.rt) ob PX trivial <| J_coS (p := p) (s := s) bn be br bg bt bs bp bl bk PX trivial <| k hK)
end Go.Pse
namespace Go.Pse
open Go.RowKit Go.Proofs
theorem kSaid_rglen (s : KS) (d : Deed) : (kSaid s d).rg.length = s.rg.length := by
  unfold kSaid kPost
  split
  · rfl
  · simp [updO]
theorem tell_rglen {D : KS → ID → Int → Int → KS} (hD : ∀ s i r v, (D s i r v).rg.length = s.rg.length) (s : KS) (d : Deed) : (kTell D s d).rg.length = s.rg.length := by
  unfold kTell
  split
  · exact kSaid_rglen s d
  · split
    · exact (hD _ _ _ _).trans (kSaid_rglen s d)
    · exact kSaid_rglen s d
theorem dec_rglen : ∀ n (s : KS) (i : ID) (r v : Int), (kDec n s i r v).rg.length = s.rg.length
  | 0, s, _, _, _ => rfl
  | n + 1, s, i, r, v => by
    cases hq : look s.rt i with
    | none => rw [kDec_none hq]
    | some q =>
      rw [kDec_some hq]
      have h := tell_rglen (D := kDec n) (fun s i r v => dec_rglen n s i r v) (kForget { s with rt := del s.rt i } i) (i, q.e.tag, q.e.op, r, v, false)
      unfold kNext
      split
      · exact h
      · split
        · exact (dec_rglen n _ _ _ _).trans h
        · exact h
theorem ends_rglen : ∀ (l : List ID) (s : KS), (kEnds s l).rg.length = s.rg.length
  | [], s => rfl
  | i :: l, s => (ends_rglen l _).trans (dec_rglen _ _ _ _ _)
theorem nodup_take {l : List Int} (h : l.Nodup) {j : Nat} {x : Int} (hx : l[j]? = some x) : x ∉ l.take j := fun hm => by
  obtain ⟨i, hi⟩ := List.getElem?_of_mem hm
  have hil : i < j := by
    have := (List.getElem?_eq_some_iff.1 hi).1
    rw [List.length_take] at this; omega
  rw [List.getElem?_take_of_lt hil] at hi
  have := nodup_idx h hi hx
  omega
theorem kTear_rglen (s : KS) (g : Int) : (kTear s g).rg.length ≤ s.rg.length := by
  unfold kTear
  split
  · have e : (kGone (kCleared (kTearL s (ofQ s.rt g)) g) 9 g).rg = rem (updO (kTearL s (ofQ s.rt g)).rg g (fun r => { r with over := [] })) g := rfl
    rw [e, kTearL_rg.1]
    unfold rem
    refine Nat.le_trans (List.length_filter_le _ _) ?_
    unfold updO; rw [List.length_map]; exact Nat.le_refl _
  · exact Nat.le_refl _
theorem torn_rglen (u : Int) : ∀ (l : List Int) (s : KS), (kTorn s u l).rg.length ≤ s.rg.length
  | [], s => Nat.le_refl _
  | g :: l, s => by
    refine Nat.le_trans (torn_rglen u l (tornStep u s g)) ?_
    unfold tornStep
    split
    · exact Nat.le_refl _
    · split
      · exact kTear_rglen s g
      · exact Nat.le_refl _
theorem gone_rglen (s : KS) (k u : Int) : (kGone s k u).rg.length ≤ s.rg.length := by
  unfold kGone
  (repeat' split) <;> first | exact Nat.le_refl _ | exact List.length_filter_le _ _
theorem destroy_rglen (s : KS) (o : Obj2) : (kDestroy s o).rg.length ≤ s.rg.length := by
  unfold kDestroy
  refine Nat.le_trans (gone_rglen _ _ _) ?_
  split
  · exact Nat.le_trans (torn_rglen _ _ _) (Nat.le_of_eq (ends_rglen _ _))
  · split
    · exact Nat.le_trans (kTear_rglen _ _) (Nat.le_of_eq (ends_rglen _ _))
    · exact Nat.le_of_eq (ends_rglen _ _)
theorem destroyL_rglen : ∀ (l : List Obj2) (s : KS), (kDestroyL s l).rg.length ≤ s.rg.length
  | [], s => Nat.le_refl _
  | o :: l, s => Nat.le_trans (destroyL_rglen l _) (destroy_rglen s o)
theorem coDestroy1 {E : World} {l m : List As} {p : Nat} {s : KS} (hp : Pick (coA p s) l m) {k u : Int} {N M : Nat} (hF : Fits s N M) (hM : M ≤ 45000) (hq : s.q.length ≤ 90000) (hz : s.mp.length ≤ 1000000) (hg0 : s.rg.length ≤ 1000) :
  Con Tryz.prog 269 #[.pointer (some ⟨p, 0, none⟩), .agg (encI (k, u)).toArray] E l (fun _ : Unit => .tuple #[]) (fun _ => coA p (kDestroy s (k, u)) :: m) := by
 refine Con.body (vs := [.pointer (some ⟨p, 0, none⟩), .agg (encI (k, u)).toArray]) (n := 63) Tryz.func269 rfl rfl [(0, .pointer (some ⟨p, 0, none⟩)), (1, .agg (encI (k, u)).toArray)] (env_ok 2 rfl) <| J_pick hp <| sr <| L_op <| x_box rfl rfl rfl fun b3 => nxx <| mv rfl rfl <| L_val rfl (v_loadA rfl ty418 HS CT) ?_
 refine L_op <| xc fc286 (.cons rfl (.cons rfl .nil)) rfl (coWaits (s := s) (k := k) (u := u) PC hF) <| JR fun a12 c12 hw12 hl12 hm12 hz12 => ?_
 have hml : ((kWaits s k u).map encI).length = (kWaits s k u).length := List.length_map _
 have hmcap : c12 ≤ 9223372036854775807 := hm12
 refine J_pick (A := coA p s) PC ?_
 refine J_asTo (B := coA p (kEnds s ((kWaits s k u).take 0))) (by rw [List.take_zero]; rfl) <| L_pur rfl (p_len rfl Tryz.underlying208) <| mv rfl rfl <| nq <| J_block <| J_loop (α := Nat) (fun j => j ≤ (kWaits s k u).length) (fun j => row 39 2 (.slice a12 ((kWaits s k u).map encI).length c12) ((kWaits s k u).map encI) :: blk b3 418 [.int .i64 k, .int .i64 u] :: coA p (kEnds s ((kWaits s k u).take j)) :: m) (fun j => [(14, .int .i64 (j : Int)), (12, .slice a12 ((kWaits s k u).map encI).length c12), (13, .int .i64 (((kWaits s k u).map encI).length : Int)), (0, .pointer (some ⟨p, 0, none⟩)), (3, .pointer (some ⟨b3, 0, none⟩))]) (fun j => (kWaits s k u).length - j) 0 (by omega) SU KE ?_
 intro j hj
 refine sr <| L_pur rfl (p_lss rfl rfl) <| nq <| J_seq ?_
 refine C_dec rfl (fun h15 => ?_) (fun h15 => ?_)
 have hlt : j < (kWaits s k u).length := by omega
 obtain ⟨bx, ox, rfl⟩ := hz12 (by intro h; rw [h] at hml; simp at hml; omega)
 obtain ⟨c, hcc⟩ : ∃ c, (kWaits s k u)[j]? = some c := ⟨_, List.getElem?_eq_getElem hlt⟩
 refine J_skip <| Q_then <| J_seq <| J_block <| sr <| L_pur rfl (p_indexAddr rfl rfl Tryz.underlying208 ty39 (by omega) (by omega)) ?_
 refine L_val rfl (v_loadE rfl ty39 HS (by first | (simp only [Int.toNat_natCast, List.getElem?_map, hcc]; rfl) | (simp only [Int.toNat_natCast, List.getElem?_map, hcd]; rfl) | simp | rfl)) ?_
 refine L_op <| x_alloc ty39 rfl fun b5 => L_op <| x_store rfl rfl ty39 rfl SM SM RO PT ?_
 refine J_pick (A := blk b5 _ _) PC ?_
 refine J_asTo (B := blk b5 39 (encI c)) (by rfl) <| ny <| mv rfl rfl <| L_val rfl (v_loadA rfl ty39 HS CT) ?_
 refine L_op <| xc fc54 (.cons rfl (.cons rfl (.cons rfl (.cons rfl .nil)))) rfl (coDecide (s := (kEnds s ((kWaits s k u).take j))) (i := c) (r := -9) (v := 0) PC (hF.ends (l := (kWaits s k u).take j))) fun _ => ?_
 refine J_pick (A := coA p _) PC ?_
 refine J_asTo (B := coA p (kEnds s ((kWaits s k u).take (j + 1)))) (by rw [List.take_add_one, hcc, Option.toList_some, kEnds_snoc]) <| L_nil <| Q_blk_normal <| qr <| L_pur rfl (p_add64 rfl rfl (by omega)) <| mv rfl rfl <| nq ?_
 exact J_again (j + 1) (by omega) (by omega) SU KE
 have hjw : j = (kWaits s k u).length := by omega
 rw [hjw, List.take_length]
 obtain ⟨S, hS⟩ : ∃ S, S = (kEnds s (kWaits s k u)) := ⟨_, rfl⟩
 rw [← hS]
 have hFS : Fits S N M := by rw [hS]; exact hF.ends
 have hkS : Kept s S := by rw [hS]; exact Kept.ends _ _
 have hgS : S.rg.length = s.rg.length := by rw [hS]; exact ends_rglen _ _
 refine J_pick (A := coA p S) PC ?_
 refine J_coRgKeyd fun hKg => J_coRtKeyd fun hKr => J_exit <| Q_then_exit <| Q_then_exit <| Q_blk_this <| Q_then <| J_seq ?_
 refine sr <| fa rfl rfl fa418_0 <| L_val rfl (v_load rfl ty3 HS (by exact rfl)) ?_
 refine nq <| J_block <| sr <| L_pur rfl (p_eql rfl rfl) <| ag rfl rfl <| nq ?_
 refine C_dec rfl (fun h24 => ?_) (fun h24 => ?_)
 have hk3 : k = 3 := h24
 refine sr <| mv rfl rfl <| L_op <| xc fc287 (.cons rfl .nil) rfl (coRings (s := S) PC (by omega)) <| JR fun a27 c27 hw27 hl27 hm27 hz27 => ?_
 obtain ⟨zs, hzs⟩ : ∃ zs, zs = sortZ (S.rg.map Prod.fst) := ⟨_, rfl⟩
 refine J_pick (A := row 3 1 _ _) PC ?_
 refine J_rowTo (ys := zs.map encN) (v' := .slice a27 (zs.map encN).length c27) (by rw [hzs]) (by rw [hzs]) <| J_slot (t := 27) (v := .slice a27 (zs.map encN).length c27) rfl (by rw [hzs]) ?_
 rw [← hzs] at hz27
 have hmc : c27 ≤ 9223372036854775807 := hm27
 have hmlz : (zs.map encN).length = zs.length := List.length_map _
 have hzl : zs.length = s.rg.length := by rw [hzs, sortZ_len, List.length_map, hgS]
 have hzp : zs.Perm (S.rg.map Prod.fst) := by rw [hzs]; exact sortZ_isPerm _
 have hzn : zs.Nodup := hzp.nodup_iff.2 (by unfold Keyd at hKg; rwa [show (ptrs S.rg).map Prod.fst = S.rg.map Prod.fst by unfold ptrs; rw [List.map_map]; rfl] at hKg)
 refine J_pick (A := coA p S) PC ?_
 refine J_asTo (B := coA p (kTorn S u (zs.take 0))) (by rfl) <| L_pur rfl (p_len rfl Tryz.underlying73) <| mv rfl rfl <| nq <| J_block <| J_loop (α := Nat) (fun j => j ≤ zs.length) (fun j => row 3 1 (.slice a27 (zs.map encN).length c27) (zs.map encN) :: blk b3 418 [.int .i64 k, .int .i64 u] :: coA p (kTorn S u (zs.take j)) :: m) (fun j => [(29, .int .i64 (j : Int)), (27, .slice a27 (zs.map encN).length c27), (28, .int .i64 ((zs.map encN).length : Int)), (0, .pointer (some ⟨p, 0, none⟩)), (3, .pointer (some ⟨b3, 0, none⟩))]) (fun j => zs.length - j) 0 (by omega) SU KE ?_
 intro j hj
 refine sr <| L_pur rfl (p_lss rfl rfl) <| nq <| J_seq ?_
 refine C_dec rfl (fun h30 => ?_) (fun h30 => ?_)
 have hlt : j < zs.length := by omega
 obtain ⟨bx, ox, rfl⟩ := hz27 (by intro h; rw [h] at hmlz; simp at hmlz; omega)
 obtain ⟨c, hcc⟩ : ∃ c, zs[j]? = some c := ⟨_, List.getElem?_eq_getElem hlt⟩
 have hFT : Fits (kTorn S u (zs.take j)) N M := hFS.torn u hKr
 have hnot : c ∉ zs.take j := nodup_take hzn hcc
 obtain ⟨x, hx⟩ : ∃ x, look (kTorn S u (zs.take j)).rg c = some x := by
  rw [torn_rg u hnot]
  cases hq : look S.rg c with
  | none => exact absurd (hzp.mem_iff.1 (List.mem_of_getElem? hcc)) (look_none_iff.1 hq)
  | some y => exact ⟨y, rfl⟩
 obtain ⟨bR, r⟩ := x
 obtain ⟨nn, hnn⟩ := look_ix hx
 refine J_skip <| Q_then <| J_seq <| J_block <| sr <| L_pur rfl (p_indexAddr rfl rfl Tryz.underlying73 ty3 (by omega) (by omega)) ?_
 refine L_val rfl (v_loadE1 rfl ty3 HS (by first | (simp only [Int.toNat_natCast, List.getElem?_map, hcc]; rfl) | (simp only [Int.toNat_natCast, List.getElem?_map, hcd]; rfl) | simp | rfl)) ?_
 refine ag rfl rfl <| nx <| mv rfl rfl <| mv rfl rfl <| L_op <| xc fc135 (.cons rfl (.cons rfl .nil)) rfl (coRing (s := (kTorn S u (zs.take j))) (u := c) PC) fun _ => ?_
 refine J_slot (t := 36) (v := .pointer (some ⟨bR, 0, none⟩)) rfl (by rw [look_is hx]; rfl) <| L_op <| xc fc288 (.cons rfl .nil) rfl (coUnits (s := (kTorn S u (zs.take j))) (n := nn) (u := c) (r := r) PC hnn) fun _ => ?_
 refine mv rfl rfl <| L_pur rfl (p_extract rfl rfl) <| L_pur rfl (p_extract rfl rfl) <| ag rfl rfl <| ag rfl rfl <| nx <| mv rfl rfl <| fa rfl rfl fa418_1 ?_
 refine L_val rfl (v_load rfl ty3 HS (by exact rfl)) ?_
 refine L_pur rfl (p_eql rfl rfl) <| mv rfl rfl ?_
 refine J_gsplit (t := 44) rfl (fun h44 => ?_) (fun h44 => ?_)
 refine L_op <| G_off rfl rfl rfl rfl rfl rfl <| L_op <| G_off rfl rfl rfl rfl rfl rfl <| L_op <| G_off rfl rfl rfl rfl rfl rfl <| L_op <| G_off rfl rfl rfl rfl rfl rfl ?_
 refine L_pur rfl (p_pick_t rfl rfl) <| nq <| C_true rfl ?_
 have hor : r.sq = u ∨ r.cq = u := by first | exact .inl (by simpa using h44) | exact .inr (by simpa using h49)
 refine J_region <| mv rfl rfl <| mv rfl rfl <| L_op <| xc fc289 (.cons rfl (.cons rfl .nil)) rfl (coTearG (s := (kTorn S u (zs.take j))) (g := c) PC hFT hM) fun _ => ?_
 refine J_pick (A := coA p _) PC ?_
 refine J_asTo (B := coA p (kTorn S u (zs.take (j + 1)))) (by rw [List.take_add_one, hcc, Option.toList_some, kTorn_snoc]; unfold tornStep; rw [hx]; dsimp only; rw [if_pos hor]) <| L_nil <| Q_blk_normal <| qr <| L_pur rfl (p_add64 rfl rfl (by omega)) <| mv rfl rfl <| nq ?_
 exact J_again (j + 1) (by omega) (by omega) SU KE
 refine L_op <| G_on rfl rfl rfl <| J_pur (p_move rfl) rfl rfl rfl <| L_op <| G_on rfl rfl rfl <| J_pur (p_fieldAddr rfl fa418_1) rfl rfl rfl <| L_op <| G_on rfl rfl rfl ?_
 refine J_val (v_load rfl ty3 HS (by exact rfl)) rfl rfl rfl ?_
 refine L_op <| G_on rfl rfl rfl <| J_pur (p_eql rfl rfl) rfl rfl rfl <| L_pur rfl (p_pick_f rfl rfl) <| nq ?_
 refine C_dec rfl (fun h49 => ?_) (fun h49 => ?_)
 have hor : r.sq = u ∨ r.cq = u := by first | exact .inl (by simpa using h44) | exact .inr (by simpa using h49)
 refine J_region <| mv rfl rfl <| mv rfl rfl <| L_op <| xc fc289 (.cons rfl (.cons rfl .nil)) rfl (coTearG (s := (kTorn S u (zs.take j))) (g := c) PC hFT hM) fun _ => ?_
 refine J_pick (A := coA p _) PC ?_
 refine J_asTo (B := coA p (kTorn S u (zs.take (j + 1)))) (by rw [List.take_add_one, hcc, Option.toList_some, kTorn_snoc]; unfold tornStep; rw [hx]; dsimp only; rw [if_pos hor]) <| L_nil <| Q_blk_normal <| qr <| L_pur rfl (p_add64 rfl rfl (by omega)) <| mv rfl rfl <| nq ?_
 exact J_again (j + 1) (by omega) (by omega) SU KE
 have hor : ¬ (r.sq = u ∨ r.cq = u) := fun e => e.elim (by simpa using h44) (by simpa using h49)
 refine J_pick (A := coA p _) PC ?_
 refine J_asTo (B := coA p (kTorn S u (zs.take (j + 1)))) (by rw [List.take_add_one, hcc, Option.toList_some, kTorn_snoc]; unfold tornStep; rw [hx]; dsimp only; rw [if_neg hor]) <| J_skip <| Q_blk_normal <| qr <| L_pur rfl (p_add64 rfl rfl (by omega)) <| mv rfl rfl <| nq ?_
 exact J_again (j + 1) (by omega) (by omega) SU KE
 have hjz : j = zs.length := by omega
 rw [hjz, List.take_length, hzs]
 have hfin : kDestroy s (k, u) = kGone (kTorn S u (sortZ (S.rg.map Prod.fst))) k u := by unfold kDestroy; dsimp only; rw [← hS, if_pos hk3]
 refine J_exit <| Q_then_exit <| Q_then_exit <| Q_blk_this <| Q_blk_normal <| qr <| mv rfl rfl <| L_val rfl (v_loadA rfl ty418 HS CT) ?_
 refine L_op <| xc fc290 (.cons rfl (.cons rfl .nil)) rfl (coGone (k := k) (u := u) PC (by first | (rw [(Kept.torn u _ S).q, hkS.q]; exact hq) | (rw [(Kept.tear S u).q, hkS.q]; exact hq) | (rw [hkS.q]; exact hq)) (by first | (rw [(Kept.torn u _ S).mp, hkS.mp]; exact hz) | (rw [(Kept.tear S u).mp, hkS.mp]; exact hz) | (rw [hkS.mp]; exact hz))) fun _ => ?_
 refine L_nil <| J_endnormal <| J_pick (A := coA p _) PC ?_
 refine J_asTo (B := coA p (kDestroy s (k, u))) (by rw [hfin]) ?_
 exact J_return (()) Tryz.results269 .nil rfl SU
 have hk3 : ¬ k = 3 := h24
 refine sr <| L_pur rfl (p_eql rfl rfl) <| ag rfl rfl <| nq ?_
 refine C_dec rfl (fun h54 => ?_) (fun h54 => ?_)
 have hfin : kDestroy s (k, u) = kGone (kTear S u) k u := by unfold kDestroy; dsimp only; rw [← hS, if_neg hk3, if_pos h54]
 refine J_region <| mv rfl rfl <| fa rfl rfl fa418_1 <| L_val rfl (v_load rfl ty3 HS (by exact rfl)) ?_
 refine L_op <| xc fc289 (.cons rfl (.cons rfl .nil)) rfl (coTearG (s := S) (g := u) PC hFS hM) fun _ => ?_
 refine L_nil <| Q_blk_normal <| qr <| mv rfl rfl <| L_val rfl (v_loadA rfl ty418 HS CT) ?_
 refine L_op <| xc fc290 (.cons rfl (.cons rfl .nil)) rfl (coGone (k := k) (u := u) PC (by first | (rw [(Kept.torn u _ S).q, hkS.q]; exact hq) | (rw [(Kept.tear S u).q, hkS.q]; exact hq) | (rw [hkS.q]; exact hq)) (by first | (rw [(Kept.torn u _ S).mp, hkS.mp]; exact hz) | (rw [(Kept.tear S u).mp, hkS.mp]; exact hz) | (rw [hkS.mp]; exact hz))) fun _ => ?_
 refine L_nil <| J_endnormal <| J_pick (A := coA p _) PC ?_
 refine J_asTo (B := coA p (kDestroy s (k, u))) (by rw [hfin]) ?_
 exact J_return (()) Tryz.results269 .nil rfl SU
 have hfin : kDestroy s (k, u) = kGone S k u := by unfold kDestroy; dsimp only; rw [← hS, if_neg hk3, if_neg h54]
 refine J_skip <| Q_blk_normal <| qr <| mv rfl rfl <| L_val rfl (v_loadA rfl ty418 HS CT) ?_
 refine L_op <| xc fc290 (.cons rfl (.cons rfl .nil)) rfl (coGone (k := k) (u := u) PC (by first | (rw [(Kept.torn u _ S).q, hkS.q]; exact hq) | (rw [(Kept.tear S u).q, hkS.q]; exact hq) | (rw [hkS.q]; exact hq)) (by first | (rw [(Kept.torn u _ S).mp, hkS.mp]; exact hz) | (rw [(Kept.tear S u).mp, hkS.mp]; exact hz) | (rw [hkS.mp]; exact hz))) fun _ => ?_
 refine L_nil <| J_endnormal <| J_pick (A := coA p _) PC ?_
 refine J_asTo (B := coA p (kDestroy s (k, u))) (by rw [hfin]) ?_
 exact J_return (()) Tryz.results269 .nil rfl SU
theorem coDestroyG {E : World} {l m : List As} {p : Nat} {s : KS} {v : Value} {os : List Obj2} (hp : Picks [coA p s, row 418 2 v (os.map encI)] l m) {N M : Nat} (hF : Fits s N M) (hM : M ≤ 45000) (hq : s.q.length ≤ 90000) (hz : s.mp.length ≤ 1000000) (hg0 : s.rg.length ≤ 1000) :
  Con Tryz.prog 231 #[.pointer (some ⟨p, 0, none⟩), v] E l (fun _ : Unit => .tuple #[]) (fun _ => coA p (kDestroyL s os) :: m) := by
 refine Con.body (vs := [.pointer (some ⟨p, 0, none⟩), v]) (n := 16) Tryz.func231 rfl rfl [(0, .pointer (some ⟨p, 0, none⟩)), (1, v)] (env_ok 2 rfl) <| J_picks2 hp <| J_coRtKeyd fun hKr => J_row (.there .here) fun hw a6 c6 hv h1 h2 hz6 => ?_
 subst hv
 have hmc : c6 ≤ 9223372036854775807 := h2
 have hml : (os.map encI).length = os.length := List.length_map _
 refine sr <| mv rfl rfl <| L_pur rfl (p_len rfl Tryz.underlying326) <| mv rfl rfl <| J_pick (A := coA p s) PC ?_
 refine J_asTo (B := coA p (kDestroyL s (os.take 0))) (by rw [List.take_zero]; rfl) <| nq <| J_block <| J_loop (α := Nat) (fun j => j ≤ os.length) (fun j => row 418 2 (.slice a6 (os.map encI).length c6) (os.map encI) :: coA p (kDestroyL s (os.take j)) :: m) (fun j => [(8, .int .i64 (j : Int)), (6, .slice a6 (os.map encI).length c6), (7, .int .i64 ((os.map encI).length : Int)), (0, .pointer (some ⟨p, 0, none⟩))]) (fun j => os.length - j) 0 (by omega) SU KE ?_
 intro j hj
 refine sr <| L_pur rfl (p_lss rfl rfl) <| nq <| J_seq ?_
 refine C_dec rfl (fun h9 => ?_) (fun h9 => ?_)
 have hlt : j < os.length := by omega
 obtain ⟨bx, ox, rfl⟩ := hz6 (by intro h; rw [h] at hml; simp at hml; omega)
 obtain ⟨c, hcc⟩ : ∃ c, os[j]? = some c := ⟨_, List.getElem?_eq_getElem hlt⟩
 have hFj : Fits (kDestroyL s (os.take j)) N M := hF.destroyL hKr
 have hlj := destroyL_len (os.take j) s
 have hrj := destroyL_rglen (os.take j) s
 refine J_skip <| Q_then <| J_seq <| J_block <| sr <| L_pur rfl (p_indexAddr rfl rfl Tryz.underlying326 ty418 (by omega) (by omega)) ?_
 refine L_val rfl (v_loadE rfl ty418 HS (by first | (simp only [Int.toNat_natCast, List.getElem?_map, hcc]; rfl) | (simp only [Int.toNat_natCast, List.getElem?_map, hcd]; rfl) | simp | rfl)) ?_
 refine L_op <| x_alloc ty418 rfl fun b5 => L_op <| x_store rfl rfl ty418 rfl SM SM RO PT ?_
 refine ny <| mv rfl rfl <| L_val rfl (v_loadA rfl ty418 HS CT) ?_
 refine L_op <| xc fc269 (.cons rfl (.cons rfl .nil)) rfl (coDestroy1 (s := (kDestroyL s (os.take j))) (k := c.1) (u := c.2) PC hFj hM (by omega) (by omega) (by omega)) fun _ => ?_
 refine J_pick (A := coA p _) PC ?_
 refine J_asTo (B := coA p (kDestroyL s (os.take (j + 1)))) (by rw [List.take_add_one, hcc, Option.toList_some, kDestroyL_snoc]) <| L_nil <| Q_blk_normal <| qr <| L_pur rfl (p_add64 rfl rfl (by omega)) <| mv rfl rfl <| nq ?_
 exact J_again (j + 1) (by omega) (by omega) SU KE
 have hjo : j = os.length := by omega
 refine J_pick (A := coA p _) PC ?_
 refine J_asTo (B := coA p (kDestroyL s os)) (by rw [hjo, List.take_length]) <| J_exit <| Q_then_exit <| Q_then_exit <| Q_blk_this <| J_endnormal ?_
 exact J_return (()) Tryz.results231 .nil rfl SU
end Go.Pse
namespace Go.Pse
open Go.RowKit Go.Proofs
theorem coFindG {E : World} {l m : List As} {p : Nat} {s : KS} (hp : Pick (coA p s) l m) {root : Cap} {a : Int} (ha : 0 ≤ a ∧ a < 4294967296) :
    Con Tryz.prog 267 #[.pointer (some ⟨p, 6, none⟩), .agg (encC root).toArray, .int .u32 a] E l (fun _ : Unit => .tuple #[.agg (encI ((kFind s.sl root a).getD (0, 0))).toArray, .int .i64 (if (kFind s.sl root a).isSome then 0 else 2)]) (fun _ => coA p s :: m) := fun w H => by
  refine (?_ : Jk E l 0 [] fun _ w => Calls Tryz.prog 267 #[.pointer (some ⟨p, 6, none⟩), .agg (encC root).toArray, .int .u32 a] w fun e w' => ∃ x, e = .returned ((fun _ : Unit => .tuple #[.agg (encI ((kFind s.sl root a).getD (0, 0))).toArray, .int .i64 (if (kFind s.sl root a).isSome then 0 else 2)]) x) ∧ Sep E w' ((fun _ : Unit => coA p s :: m) x)) w _ H fr0
  refine J_pick hp <| J_coO fun bn be br bg bt bs bp bl bk _ => J_con (findG (ps := s.sl) (root := root) (a := a) PC ha) fun x => ?_
  refine J_coS (p := p) (s := s) bn be br bg bt bs bp bl bk PX trivial ?_
  exact J_end SU
theorem coDeleteG {E : World} {l m : List As} {p : Nat} {s : KS} (hp : Pick (coA p s) l m) {xp : Place} (hsl : s.sl.length ≤ 100000) :
    Con Tryz.prog 167 #[.pointer (some ⟨p, 6, none⟩), .agg (encI xp).toArray] E l (fun v : Value => .tuple #[v, .int .i64 (deleteS s.sl xp).2]) (fun v => row 418 2 v (((deleteS s.sl xp).1.2).map encI) :: coA p { s with sl := (deleteS s.sl xp).1.1 } :: m) := fun w H => by
  refine (?_ : Jk E l 0 [] fun _ w => Calls Tryz.prog 167 #[.pointer (some ⟨p, 6, none⟩), .agg (encI xp).toArray] w fun e w' => ∃ x, e = .returned ((fun v : Value => .tuple #[v, .int .i64 (deleteS s.sl xp).2]) x) ∧ Sep E w' ((fun v : Value => row 418 2 v (((deleteS s.sl xp).1.2).map encI) :: coA p { s with sl := (deleteS s.sl xp).1.1 } :: m) x)) w _ H fr0
  refine J_pick hp <| J_coO fun bn be br bg bt bs bp bl bk _ => J_con (deleteG (ps := s.sl) (p := xp) PC hsl) fun x => ?_
  refine J_coS (p := p) (s := { s with sl := (deleteS s.sl xp).1.1 }) bn be br bg bt bs bp bl bk PX trivial ?_
  exact J_end SU
theorem coRevokeG {E : World} {l m : List As} {p : Nat} {s : KS} (hp : Pick (coA p s) l m) {xp : Place} (hR : RevOk s.sl xp) (hsl : s.sl.length ≤ 100000) :
    Con Tryz.prog 169 #[.pointer (some ⟨p, 6, none⟩), .agg (encI xp).toArray] E l (fun v : Value => .tuple #[v, .int .i64 (revokeS s.sl xp).2]) (fun v => row 418 2 v (((revokeS s.sl xp).1.2).map encI) :: coA p { s with sl := (revokeS s.sl xp).1.1 } :: m) := fun w H => by
  refine (?_ : Jk E l 0 [] fun _ w => Calls Tryz.prog 169 #[.pointer (some ⟨p, 6, none⟩), .agg (encI xp).toArray] w fun e w' => ∃ x, e = .returned ((fun v : Value => .tuple #[v, .int .i64 (revokeS s.sl xp).2]) x) ∧ Sep E w' ((fun v : Value => row 418 2 v (((revokeS s.sl xp).1.2).map encI) :: coA p { s with sl := (revokeS s.sl xp).1.1 } :: m) x)) w _ H fr0
  refine J_pick hp <| J_coO fun bn be br bg bt bs bp bl bk _ => J_con (revokeG (ps := s.sl) (p := xp) PC hR hsl) fun x => ?_
  refine J_coS (p := p) (s := { s with sl := (revokeS s.sl xp).1.1 }) bn be br bg bt bs bp bl bk PX trivial ?_
  exact J_end SU
theorem coMakeG {E : World} {l m : List As} {p : Nat} {s : KS} (hp : Pick (coA p s) l m) {xp yp : Place} {kind size : Int} (hck : CapsOk s.sl) (hmk : MarksOk s.mr) (hsl : s.sl.length ≤ 100000) :
    Con Tryz.prog 171 #[.pointer (some ⟨p, 6, none⟩), .pointer (some ⟨p, 7, none⟩), .agg (encI xp).toArray, .agg (encI yp).toArray, .int .i64 kind, .int .i64 size] E l (fun _ : Unit => .tuple #[.agg (encC (makeS s.sl s.mr xp yp kind size).2.1).toArray, .int .i64 (makeS s.sl s.mr xp yp kind size).2.2]) (fun _ => coA p { s with sl := (makeS s.sl s.mr xp yp kind size).1.1, mr := (makeS s.sl s.mr xp yp kind size).1.2 } :: m) := fun w H => by
  refine (?_ : Jk E l 0 [] fun _ w => Calls Tryz.prog 171 #[.pointer (some ⟨p, 6, none⟩), .pointer (some ⟨p, 7, none⟩), .agg (encI xp).toArray, .agg (encI yp).toArray, .int .i64 kind, .int .i64 size] w fun e w' => ∃ x, e = .returned ((fun _ : Unit => .tuple #[.agg (encC (makeS s.sl s.mr xp yp kind size).2.1).toArray, .int .i64 (makeS s.sl s.mr xp yp kind size).2.2]) x) ∧ Sep E w' ((fun _ : Unit => coA p { s with sl := (makeS s.sl s.mr xp yp kind size).1.1, mr := (makeS s.sl s.mr xp yp kind size).1.2 } :: m) x)) w _ H fr0
  refine J_pick hp <| J_coO fun bn be br bg bt bs bp bl bk _ => J_con (makeG (ps := s.sl) (mr := s.mr) (p := xp) (q := yp) (kind := kind) (size := size) PX hck hmk hsl) fun x => ?_
  refine J_coS (p := p) (s := { s with sl := (makeS s.sl s.mr xp yp kind size).1.1, mr := (makeS s.sl s.mr xp yp kind size).1.2 }) bn be br bg bt bs bp bl bk PX trivial ?_
  exact J_end SU
theorem J_picks3 {E : World} {A B C : As} {l m : List As} {n : Nat} {F : Env} {K : Act → World → Prop} (hp : Picks [A, B, C] l m) (k : Jk E (A :: B :: C :: m) n F K) : Jk E l n F K := fun w a H hF => k w a (hp.sep H) hF
/-! ### plain: what an entry asks of slots -/
def in32 (n : Int) : Prop := 0 ≤ n ∧ n < 4294967296
structure SqeOk (e : Sqe) : Prop where
  cap : in32 e.cap
  a : in32 e.a
  b : in32 e.b
  c : in32 e.c
def twoAt (s : KS) (T : Th) (e : Sqe) : Option (Place × Place) := match kFind s.sl T.root e.cap with
  | none => none
  | some x => match kFind s.sl T.root e.a with
    | none => none
    | some y => some (x, y)
def twoS (s : KS) (F : Place → Place → KS × Int) : Option (Place × Place) → KS × Int
  | none => (s, 2)
  | some x => F x.1 x.2
def twoC (C : As) (D : Place → Place → As) : Option (Place × Place) → As
  | none => C
  | some x => D x.1 x.2
def killS (s : KS) (F : Place → (List (Place × SV) × List Obj2) × Int) : Option Place → KS × Int
  | none => (s, 2)
  | some x => (kDestroyL { s with sl := (F x).1.1 } (F x).1.2, (F x).2)
def mayS (s : KS) (T : Th) (e : Sqe) (kind r : Int) : Cap × Int :=
  if (kCap s.sl T.root e.cap kind).2.2 = 0 ∧ bits .and .i64 (kCap s.sl T.root e.cap kind).1.rights r ≠ r then (c0, 6) else ((kCap s.sl T.root e.cap kind).1, (kCap s.sl T.root e.cap kind).2.2)
theorem kindsC_code {k z : Int} : 0 ≤ kindsC k z ∧ kindsC k z ≤ 7 := by
  unfold kindsC
  (repeat' split) <;> simp
theorem makeS_code {ps : List (Place × SV)} {mr : List (Place × Int)} {p q : Place} {k z : Int} : 0 ≤ (makeS ps mr p q k z).2.2 ∧ (makeS ps mr p q k z).2.2 ≤ 100 := by
  have := kindsC_code (k := k) (z := z)
  unfold makeS
  (repeat' split) <;> first | (simp; done) | (simp only; omega)
theorem deleteS_code {ps : List (Place × SV)} {p : Place} : 0 ≤ (deleteS ps p).2 ∧ (deleteS ps p).2 ≤ 100 := by
  unfold deleteS; split <;> simp
theorem revokeS_code {ps : List (Place × SV)} {p : Place} : 0 ≤ (revokeS ps p).2 ∧ (revokeS ps p).2 ≤ 100 := by
  unfold revokeS; split <;> simp
theorem placeG {E : World} {l m : List As} {a p : Nat} {s : KS} {T : Th} {q : Rq} {i : ID} (hp : Picks [actA a p T q i, coA p s] l m) {a_ : Int} (ha : in32 a_) :
    Con Tryz.prog 226 #[.pointer (some ⟨a, 0, none⟩), .int .u32 a_] E l (fun _ : Unit => .tuple #[.agg (encI ((kFind s.sl T.root a_).getD (0, 0))).toArray, .int .i64 (if (kFind s.sl T.root a_).isSome then 0 else 2)]) (fun _ => actA a p T q i :: coA p s :: m) := by
  refine Con.body (vs := [.pointer (some ⟨a, 0, none⟩), .int .u32 a_]) (n := 20) Tryz.func226 rfl rfl [(0, .pointer (some ⟨a, 0, none⟩)), (1, .int .u32 a_)] (env_ok 2 rfl) <| J_picks2 hp <| J_asTo (B := blk a 250 [.pointer (some ⟨p, 0, none⟩), .int .i64 T.unit, .int .i64 T.space, .int .i64 T.ring, .int .i64 T.root.kind, .int .i64 T.root.obj, .int .i64 T.root.size, .int .i64 T.root.badge, .int .i64 T.root.rights, .int .i64 q.id.1, .int .i64 q.id.2, .int .i64 q.e.op, .int .i64 q.e.flags, .int .u32 q.e.tag, .int .u32 q.e.cap, .int .u32 q.e.a, .int .u32 q.e.b, .int .u32 q.e.c, .int .u32 q.e.time, .int .i64 q.prev, .bool q.soft, .bool q.started, .int .i64 i.1, .int .i64 i.2]) (by rfl) <| sr <| L_op <| x_alloc ty67 rfl fun b4 => ag rfl rfl <| nq ?_
  refine J_seq <| J_drawL (some 14) mixed <| ip 0 rfl rfl rfl rfl (p_move rfl) <| ip 1 rfl rfl rfl rfl (p_nilCheck rfl) <| ip 2 rfl rfl rfl rfl (p_fieldAddr rfl fa250_0) <| iv 3 rfl rfl rfl rfl (fun _ => v_load rfl ty25 HS (by exact rfl)) ?_
  refine ip 5 rfl rfl rfl rfl (p_move rfl) <| ip 6 rfl rfl rfl rfl (p_nilCheck rfl) <| ip 7 rfl rfl rfl rfl (p_fieldAddr rfl fa250_1) <| ip 8 rfl rfl rfl rfl (p_fieldAddr rfl fa193_3) <| iv 9 rfl rfl rfl rfl (fun _ => v_loadA rfl ty69 HS CT) ?_
  refine J_slot (t := 15) (v := .agg (encC T.root).toArray) rfl rfl <| ip 10 rfl rfl rfl rfl (p_move rfl) <| i1 4 rfl <| xc fc29 (.cons rfl .nil) rfl (coSlots) fun _ => i1 11 rfl <| xc fc267 (.cons rfl (.cons rfl (.cons rfl .nil))) rfl (coFindG (s := s) (root := T.root) (a := a_) PC ha) fun _ => ?_
  refine ip 12 rfl rfl rfl rfl (p_extract rfl rfl) <| ip 13 rfl rfl rfl rfl (p_extract rfl rfl) <| i1 14 rfl <| x_store rfl rfl ty67 rfl SM SM RO PT ?_
  refine ip 15 rfl rfl rfl rfl (p_assign rfl) <| i0 <| Q_then <| J_ret <| J_pick (A := blk a _ _) PC ?_
  refine J_asTo (B := actA a p T q i) (by rfl) ?_
  refine J_return (()) Tryz.results226 (.cellA rfl ty67 HS CT (.tmp rfl .nil)) ?_ ?_
  · rfl
  · exact SU
theorem twoG {E : World} {l m : List As} {a p : Nat} {s : KS} {T : Th} {q : Rq} {i : ID} {C : As} {D : Place → Place → As} {F : Place → Place → KS × Int} {g : FuncId} {caps : Array Value} {fn : Func} (hf : Tryz.prog.funcs[g]? = some fn) (hn : (fn.name == "runtime.NumGoroutine") = false) (hb : fn.body.isNone = false) (hg : ∀ (l m : List As) (x y : Place), Picks [actA a p T q i, C, coA p s] l m → Con Tryz.prog g (#[.agg (encI x).toArray, .agg (encI y).toArray] ++ caps) E l (fun _ : Unit => .int .i64 (F x y).2) (fun _ => actA a p T q i :: D x y :: coA p (F x y).1 :: m)) (hp : Picks [actA a p T q i, C, coA p s] l m) (hE : SqeOk q.e) (hc : ∀ x y, 0 ≤ (F x y).2 ∧ (F x y).2 ≤ 100) :
    Con Tryz.prog 158 #[.pointer (some ⟨a, 0, none⟩), .func (.func g) #[] caps] E l (fun _ : Unit => encE (some (-(twoS s F (twoAt s T q.e)).2, 0))) (fun _ => actA a p T q i :: twoC C D (twoAt s T q.e) :: coA p (twoS s F (twoAt s T q.e)).1 :: m) := by
  refine Con.body (vs := [.pointer (some ⟨a, 0, none⟩), .func (.func g) #[] caps]) (n := 43) Tryz.func158 rfl rfl [(0, .pointer (some ⟨a, 0, none⟩)), (1, .func (.func g) #[] caps)] (env_ok 2 rfl) <| J_picks3 hp <| J_pick (A := actA a p T q i) PC ?_
  refine J_asTo (B := blk a 250 [.pointer (some ⟨p, 0, none⟩), .int .i64 T.unit, .int .i64 T.space, .int .i64 T.ring, .int .i64 T.root.kind, .int .i64 T.root.obj, .int .i64 T.root.size, .int .i64 T.root.badge, .int .i64 T.root.rights, .int .i64 q.id.1, .int .i64 q.id.2, .int .i64 q.e.op, .int .i64 q.e.flags, .int .u32 q.e.tag, .int .u32 q.e.cap, .int .u32 q.e.a, .int .u32 q.e.b, .int .u32 q.e.c, .int .u32 q.e.time, .int .i64 q.prev, .bool q.soft, .bool q.started, .int .i64 i.1, .int .i64 i.2]) (by rfl) <| sr <| L_op <| x_alloc ty247 rfl fun b4 => nx <| mv rfl rfl <| mv rfl rfl <| nc rfl rfl ?_
  refine fa rfl rfl fa250_2 <| fa rfl rfl fa104_1 <| fa rfl rfl fa31_3 <| L_val rfl (v_load rfl ty22 HS (by exact rfl)) ?_
  refine J_pick (A := blk a _ _) PC ?_
  refine J_asTo (B := actA a p T q i) (by rfl) <| L_op <| xc fc226 (.cons rfl (.cons rfl .nil)) rfl (placeG (a_ := q.e.cap) PX hE.cap) fun _ => ?_
  refine mv rfl rfl <| L_pur rfl (p_extract rfl rfl) <| L_pur rfl (p_extract rfl rfl) <| L_op <| x_alloc ty67 rfl fun b5 => L_op <| x_store rfl rfl ty67 rfl SM SM RO PT ?_
  refine ag rfl rfl <| nxx <| mv rfl rfl <| L_pur rfl (p_neq rfl rfl) <| nq ?_
  refine C_split rfl (fun h20 => ?_) (fun h20 => ?_)
  have hf1 : (kFind s.sl T.root q.e.cap) = none := by
    cases hq : (kFind s.sl T.root q.e.cap) with
    | none => rfl
    | some y => rw [hq] at h20; simp at h20
  have htw : (twoAt s T q.e) = none := by unfold twoAt; rw [hf1]
  refine J_slot (t := 6) (v := .int .i64 (2)) rfl (by rw [hf1]; rfl) <| sr <| mv rfl rfl <| L_op <| xc fc128 (.cons rfl .nil) rfl (failsC (by decide)) fun _ => L_op <| x_store rfl rfl ty247 rfl SM SM RO PT ?_
  refine nq <| J_ret <| Q_then_ret <| J_pick (A := coA p _) PC ?_
  refine J_asTo (B := coA p (twoS s F (twoAt s T q.e)).1) (by rw [htw]; try rfl) <| J_pick (A := C) PC ?_
  refine J_asTo (B := twoC C D (twoAt s T q.e)) (by rw [htw]; try rfl) <| J_pick (A := actA a p T q i) PC ?_
  refine J_return (()) Tryz.results158 (.cellA rfl ty247 HS CT .nil) ?_ ?_
  · rw [htw]; rfl
  · exact SU
  obtain ⟨x, hf1⟩ : ∃ x, (kFind s.sl T.root q.e.cap) = some x := by
    cases hq : (kFind s.sl T.root q.e.cap) with
    | none => rw [hq] at h20; simp at h20
    | some y => exact ⟨y, rfl⟩
  refine J_pick (A := blk b5 _ _) PC ?_
  refine J_asTo (B := blk b5 67 (encI x)) (by rw [hf1]; rfl) <| J_skip <| Q_then <| J_seq <| J_pick (A := actA a p T q i) PC ?_
  refine J_asTo (B := blk a 250 [.pointer (some ⟨p, 0, none⟩), .int .i64 T.unit, .int .i64 T.space, .int .i64 T.ring, .int .i64 T.root.kind, .int .i64 T.root.obj, .int .i64 T.root.size, .int .i64 T.root.badge, .int .i64 T.root.rights, .int .i64 q.id.1, .int .i64 q.id.2, .int .i64 q.e.op, .int .i64 q.e.flags, .int .u32 q.e.tag, .int .u32 q.e.cap, .int .u32 q.e.a, .int .u32 q.e.b, .int .u32 q.e.c, .int .u32 q.e.time, .int .i64 q.prev, .bool q.soft, .bool q.started, .int .i64 i.1, .int .i64 i.2]) (by rfl) <| J_region <| mv rfl rfl <| mv rfl rfl <| nc rfl rfl <| fa rfl rfl fa250_2 <| fa rfl rfl fa104_1 <| fa rfl rfl fa31_4 ?_
  refine L_val rfl (v_load rfl ty22 HS (by exact rfl)) ?_
  refine J_pick (A := blk a _ _) PC ?_
  refine J_asTo (B := actA a p T q i) (by rfl) <| L_op <| xc fc226 (.cons rfl (.cons rfl .nil)) rfl (placeG (a_ := q.e.a) PX hE.a) fun _ => ?_
  refine mv rfl rfl <| L_pur rfl (p_extract rfl rfl) <| L_pur rfl (p_extract rfl rfl) <| L_op <| x_alloc ty67 rfl fun b7 => L_op <| x_store rfl rfl ty67 rfl SM SM RO PT ?_
  refine ag rfl rfl <| nxx <| mv rfl rfl <| L_pur rfl (p_neq rfl rfl) <| nq ?_
  refine C_split rfl (fun h35 => ?_) (fun h35 => ?_)
  have hf2 : (kFind s.sl T.root q.e.a) = none := by
    cases hq : (kFind s.sl T.root q.e.a) with
    | none => rfl
    | some y => rw [hq] at h35; simp at h35
  have htw : (twoAt s T q.e) = none := by unfold twoAt; rw [hf1]; dsimp only; rw [hf2]
  refine J_slot (t := 6) (v := .int .i64 (2)) rfl (by rw [hf2]; rfl) <| sr <| mv rfl rfl <| L_op <| xc fc128 (.cons rfl .nil) rfl (failsC (by decide)) fun _ => L_op <| x_store rfl rfl ty247 rfl SM SM RO PT ?_
  refine nq <| J_ret <| Q_then_ret <| J_pick (A := coA p _) PC ?_
  refine J_asTo (B := coA p (twoS s F (twoAt s T q.e)).1) (by rw [htw]; try rfl) <| J_pick (A := C) PC ?_
  refine J_asTo (B := twoC C D (twoAt s T q.e)) (by rw [htw]; try rfl) <| J_pick (A := actA a p T q i) PC ?_
  refine J_return (()) Tryz.results158 (.cellA rfl ty247 HS CT .nil) ?_ ?_
  · rw [htw]; rfl
  · exact SU
  obtain ⟨y, hf2⟩ : ∃ x, (kFind s.sl T.root q.e.a) = some x := by
    cases hq : (kFind s.sl T.root q.e.a) with
    | none => rw [hq] at h35; simp at h35
    | some y => exact ⟨y, rfl⟩
  have htw : (twoAt s T q.e) = some (x, y) := by unfold twoAt; rw [hf1]; dsimp only; rw [hf2]
  refine J_pick (A := blk b7 _ _) PC ?_
  refine J_asTo (B := blk b7 67 (encI y)) (by rw [hf2]; rfl) <| J_skip <| qx <| mv rfl rfl <| L_val rfl (v_loadA rfl ty67 HS CT) ?_
  refine L_val rfl (v_loadA rfl ty67 HS CT) ?_
  refine L_op <| x_callc rfl hf hn hb (.cons rfl (.cons rfl .nil)) rfl (hg _ _ x y PX) fun _ => ?_
  refine L_op <| xc fc128 (.cons rfl .nil) rfl (failsC (hc x y)) fun _ => L_op <| x_store rfl rfl ty247 rfl SM SM RO PT ?_
  refine nq <| J_ret <| J_pick (A := coA p _) PC ?_
  refine J_asTo (B := coA p (twoS s F (twoAt s T q.e)).1) (by rw [htw]; try rfl) <| J_pick (A := D x y) PC ?_
  refine J_asTo (B := twoC C D (twoAt s T q.e)) (by rw [htw]; try rfl) <| J_pick (A := actA a p T q i) PC ?_
  refine J_return (()) Tryz.results158 (.cellA rfl ty247 HS CT .nil) ?_ ?_
  · rw [htw]; rfl
  · exact SU
theorem killsG {E : World} {l m : List As} {a p : Nat} {s : KS} {T : Th} {q : Rq} {i : ID} {C : As} {F : Place → (List (Place × SV) × List Obj2) × Int} {g : FuncId} {caps : Array Value} {fn : Func} (hf : Tryz.prog.funcs[g]? = some fn) (hn : (fn.name == "runtime.NumGoroutine") = false) (hb : fn.body.isNone = false) (hg : ∀ (l m : List As) (x : Place), Picks [C, coA p s] l m → Con Tryz.prog g (#[.agg (encI x).toArray] ++ caps) E l (fun v : Value => .tuple #[v, .int .i64 (F x).2]) (fun v => row 418 2 v (((F x).1.2).map encI) :: C :: coA p { s with sl := (F x).1.1 } :: m)) (hp : Picks [actA a p T q i, C, coA p s] l m) (hE : SqeOk q.e) (hc : ∀ x, 0 ≤ (F x).2 ∧ (F x).2 ≤ 100) {N M : Nat} (hF : Fits s N M) (hM : M ≤ 45000) (hq : s.q.length ≤ 90000) (hz : s.mp.length ≤ 1000000) (hg0 : s.rg.length ≤ 1000) :
    Con Tryz.prog 165 #[.pointer (some ⟨a, 0, none⟩), .func (.func g) #[] caps] E l (fun _ : Unit => encE (some (-(killS s F (kFind s.sl T.root q.e.cap)).2, 0))) (fun _ => actA a p T q i :: C :: coA p (killS s F (kFind s.sl T.root q.e.cap)).1 :: m) := by
  refine Con.body (vs := [.pointer (some ⟨a, 0, none⟩), .func (.func g) #[] caps]) (n := 37) Tryz.func165 rfl rfl [(0, .pointer (some ⟨a, 0, none⟩)), (1, .func (.func g) #[] caps)] (env_ok 2 rfl) <| J_picks3 hp <| J_pick (A := actA a p T q i) PC ?_
  refine J_asTo (B := blk a 250 [.pointer (some ⟨p, 0, none⟩), .int .i64 T.unit, .int .i64 T.space, .int .i64 T.ring, .int .i64 T.root.kind, .int .i64 T.root.obj, .int .i64 T.root.size, .int .i64 T.root.badge, .int .i64 T.root.rights, .int .i64 q.id.1, .int .i64 q.id.2, .int .i64 q.e.op, .int .i64 q.e.flags, .int .u32 q.e.tag, .int .u32 q.e.cap, .int .u32 q.e.a, .int .u32 q.e.b, .int .u32 q.e.c, .int .u32 q.e.time, .int .i64 q.prev, .bool q.soft, .bool q.started, .int .i64 i.1, .int .i64 i.2]) (by rfl) <| sr <| L_op <| x_alloc ty247 rfl fun b4 => nx <| mv rfl rfl <| mv rfl rfl <| nc rfl rfl ?_
  refine fa rfl rfl fa250_2 <| fa rfl rfl fa104_1 <| fa rfl rfl fa31_3 <| L_val rfl (v_load rfl ty22 HS (by exact rfl)) ?_
  refine J_pick (A := blk a _ _) PC ?_
  refine J_asTo (B := actA a p T q i) (by rfl) <| L_op <| xc fc226 (.cons rfl (.cons rfl .nil)) rfl (placeG (a_ := q.e.cap) PX hE.cap) fun _ => ?_
  refine mv rfl rfl <| L_pur rfl (p_extract rfl rfl) <| L_pur rfl (p_extract rfl rfl) <| L_op <| x_alloc ty67 rfl fun b5 => L_op <| x_store rfl rfl ty67 rfl SM SM RO PT ?_
  refine ag rfl rfl <| nxx <| mv rfl rfl <| L_pur rfl (p_neq rfl rfl) <| nq ?_
  refine C_split rfl (fun h20 => ?_) (fun h20 => ?_)
  have hf1 : (kFind s.sl T.root q.e.cap) = none := by
    cases hq : (kFind s.sl T.root q.e.cap) with
    | none => rfl
    | some y => rw [hq] at h20; simp at h20
  refine J_slot (t := 6) (v := .int .i64 (2)) rfl (by rw [hf1]; rfl) <| sr <| mv rfl rfl <| L_op <| xc fc128 (.cons rfl .nil) rfl (failsC (by decide)) fun _ => L_op <| x_store rfl rfl ty247 rfl SM SM RO PT ?_
  refine nq <| J_ret <| Q_then_ret <| J_pick (A := coA p _) PC ?_
  refine J_asTo (B := coA p (killS s F (kFind s.sl T.root q.e.cap)).1) (by rw [hf1]; try rfl) <| J_pick (A := C) PC ?_
  refine J_pick (A := actA a p T q i) PC ?_
  refine J_return (()) Tryz.results165 (.cellA rfl ty247 HS CT .nil) ?_ ?_
  · rw [hf1]; rfl
  · exact SU
  obtain ⟨x, hf1⟩ : ∃ x, (kFind s.sl T.root q.e.cap) = some x := by
    cases hq : (kFind s.sl T.root q.e.cap) with
    | none => rw [hq] at h20; simp at h20
    | some y => exact ⟨y, rfl⟩
  refine J_pick (A := blk b5 _ _) PC ?_
  refine J_asTo (B := blk b5 67 (encI x)) (by rw [hf1]; rfl) <| J_skip <| qx <| mv rfl rfl <| L_val rfl (v_loadA rfl ty67 HS CT) ?_
  refine L_op <| x_callc rfl hf hn hb (.cons rfl .nil) rfl (hg _ _ x PX) fun v26 => ?_
  refine mv rfl rfl <| L_pur rfl (p_extract rfl rfl) <| L_pur rfl (p_extract rfl rfl) <| ag rfl rfl <| ag rfl rfl <| nq <| J_seq <| J_pick (A := actA a p T q i) PC ?_
  refine J_asTo (B := blk a 250 [.pointer (some ⟨p, 0, none⟩), .int .i64 T.unit, .int .i64 T.space, .int .i64 T.ring, .int .i64 T.root.kind, .int .i64 T.root.obj, .int .i64 T.root.size, .int .i64 T.root.badge, .int .i64 T.root.rights, .int .i64 q.id.1, .int .i64 q.id.2, .int .i64 q.e.op, .int .i64 q.e.flags, .int .u32 q.e.tag, .int .u32 q.e.cap, .int .u32 q.e.a, .int .u32 q.e.b, .int .u32 q.e.c, .int .u32 q.e.time, .int .i64 q.prev, .bool q.soft, .bool q.started, .int .i64 i.1, .int .i64 i.2]) (by rfl) <| J_region <| mv rfl rfl <| nc rfl rfl <| fa rfl rfl fa250_0 <| L_val rfl (v_load rfl ty25 HS (by exact rfl)) ?_
  refine J_pick (A := blk a _ _) PC ?_
  refine J_asTo (B := actA a p T q i) (by rfl) <| mv rfl rfl <| L_op <| xc fc231 (.cons rfl (.cons rfl .nil)) rfl (coDestroyG (s := { s with sl := (F x).1.1 }) (os := (F x).1.2) PX ⟨hF.n, hF.mm, hF.ids, hF.jn, hF.tm, hF.ep, hF.nt, hF.rp, hF.rg, hF.mem⟩ hM hq hz hg0) fun _ => ?_
  refine nx <| mv rfl rfl <| L_op <| xc fc128 (.cons rfl .nil) rfl (failsC (hc x)) fun _ => L_op <| x_store rfl rfl ty247 rfl SM SM RO PT ?_
  refine nq <| J_ret <| J_pick (A := coA p _) PC ?_
  refine J_asTo (B := coA p (killS s F (kFind s.sl T.root q.e.cap)).1) (by rw [hf1]; try rfl) <| J_pick (A := C) PC ?_
  refine J_pick (A := actA a p T q i) PC ?_
  refine J_return (()) Tryz.results165 (.cellA rfl ty247 HS CT .nil) ?_ ?_
  · rw [hf1]; rfl
  · exact SU
end Go.Pse
namespace Go.Pse
open Go.RowKit Go.Proofs
def rcP (_ _ _ : Nat) (_ : Cap)  : Prop := True
def rcL (b1 b3 a : Nat) (c : Cap)  : List As := [blk b1 248 [.pointer (some ⟨a, 0, none⟩)], blk b3 69 (encC c)]
def rcA (b1 b3 a : Nat) (c : Cap) : As := As.ex fun g : Unit => As.all (As.pure (rcP b1 b3 a c ) :: rcL b1 b3 a c )
theorem J_rcO {E : World} {l : List As} {n : Nat} {F : Env} {K : Act → World → Prop} {b1 b3 a : Nat} {c : Cap} (k : ∀ (_ : Unit), rcP b1 b3 a c  → Jk E (blk b1 248 [.pointer (some ⟨a, 0, none⟩)] :: blk b3 69 (encC c) :: l) n F K) : Jk E (rcA b1 b3 a c :: l) n F K := J_unfold (f := fun g : Unit => As.all (As.pure (rcP b1 b3 a c ) :: rcL b1 b3 a c )) (fun _ => rfl) (fun g h => k () h)
theorem J_rcS {E : World} {l m : List As} {n : Nat} {F : Env} {K : Act → World → Prop} {b1 b3 a : Nat} {c : Cap}  (hs : Picks [blk b1 248 [.pointer (some ⟨a, 0, none⟩)], blk b3 69 (encC c)] l m) (h : rcP b1 b3 a c ) (k : Jk E (rcA b1 b3 a c :: m) n F K) : Jk E l n F K := J_fold (f := fun g : Unit => As.all (As.pure (rcP b1 b3 a c ) :: rcL b1 b3 a c )) () rfl hs h k
def copyF (s : KS) (e : Sqe) (x y : Place) : KS × Int := ({ s with sl := (copyS s.sl x y e.b).1 }, (copyS s.sl x y e.b).2)
def mintF (s : KS) (e : Sqe) (x y : Place) : KS × Int := ({ s with sl := (mintS s.sl x y e.b).1 }, (mintS s.sl x y e.b).2)
def moveF (s : KS) (x y : Place) : KS × Int := ({ s with sl := (dmoveS s.sl x y).1 }, (dmoveS s.sl x y).2)
def retF (s : KS) (e : Sqe) (x y : Place) : KS × Int := ({ s with sl := (makeS s.sl s.mr x y e.b e.c).1.1, mr := (makeS s.sl s.mr x y e.b e.c).1.2 }, (makeS s.sl s.mr x y e.b e.c).2.2)
def kSlots (s : KS) (T : Th) (e : Sqe) : KS × Int :=
  if e.op = 2 then twoS s (copyF s e) (twoAt s T e) else if e.op = 3 then twoS s (mintF s e) (twoAt s T e) else if e.op = 4 then twoS s (moveF s) (twoAt s T e)
  else if e.op = 5 then killS s (deleteS s.sl) (kFind s.sl T.root e.cap) else killS s (revokeS s.sl) (kFind s.sl T.root e.cap)
def kRetC (s : KS) (T : Th) (e : Sqe) : Int := (twoS s (retF s e) (twoAt s T e)).2
def kRetK (s : KS) (T : Th) (e : Sqe) : Cap := match twoAt s T e with
  | none => c0
  | some x => (makeS s.sl s.mr x.1 x.2 e.b e.c).2.1
def kRetS (s : KS) (T : Th) (e : Sqe) (b : Nat) : KS := if kRetC s T e = 0 then kMade (twoS s (retF s e) (twoAt s T e)).1 (kRetK s T e) b else (twoS s (retF s e) (twoAt s T e)).1
def kRetV (s : KS) (T : Th) (e : Sqe) : Int := if kRetC s T e = 0 then (kRetK s T e).obj else 0
theorem makeS_obj {ps : List (Place × SV)} {mr : List (Place × Int)} {p q : Place} {k z : Int} (hc : CapsOk ps) (hm : MarksOk mr) (h : (makeS ps mr p q k z).2.2 = 0) : 1 ≤ (makeS ps mr p q k z).2.1.obj ∧ (makeS ps mr p q k z).2.1.obj ≤ 64 := by
  unfold makeS at h ⊢
  split at h
  · simp at h
  · rename_i u hu
    have hcu := checkC_is (hc _ (mem_look hu))
    dsimp only at hcu
    split at h
    · simp at h
    · rename_i h1
      split at h
      · simp at h
      · rename_i h2
        split at h
        · simp at h
        · rename_i h3
          split at h
          · rename_i h4; exact absurd h h4
          · rename_i h4
            split at h
            · rename_i h5
              rw [if_neg h1, if_neg h2, if_neg h3, if_neg h4, if_pos h5]
              have hus := usedM_is (hm.reset ps u.1) (rangeC u.1)
              have hk1 : u.1.kind = 1 := by simpa using h1
              have hr : rangeC u.1 = (u.1.obj, u.1.size) := if_neg h1
              have hto := h5
              unfold mtkOk at hto
              simp only [Bool.and_eq_true, decide_eq_true_eq, hr] at hto
              show 1 ≤ mtkV _ _ _ ∧ mtkV _ _ _ ≤ 64
              unfold mtkV
              rw [if_pos h5, hr]
              rw [hr] at hus
              have := hcu.2.2 hk1
              dsimp only
              omega
            · simp at h
theorem clo4 {E : World} {l m : List As} {p c3 : Nat} {s : KS} {x : Place} (hp : Picks [blk c3 63 [.pointer (some ⟨p, 6, none⟩)], coA p s] l m) (hsl : s.sl.length ≤ 100000) :
    Con Tryz.prog 166 #[.agg (encI x).toArray, .pointer (some ⟨c3, 0, none⟩)] E l (fun v : Value => .tuple #[v, .int .i64 (deleteS s.sl x).2]) (fun v => row 418 2 v (((deleteS s.sl x).1.2).map encI) :: blk c3 63 [.pointer (some ⟨p, 6, none⟩)] :: coA p { s with sl := (deleteS s.sl x).1.1 } :: m) := by
  refine Con.body (vs := [.agg (encI x).toArray, .pointer (some ⟨c3, 0, none⟩)]) (n := 10) Tryz.func166 rfl rfl [(0, .agg (encI x).toArray), (1, .pointer (some ⟨c3, 0, none⟩))] (env_ok 2 rfl) <| J_picks2 hp <| sr <| L_op <| x_box rfl rfl rfl fun b2 => ag rfl rfl <| ag rfl rfl <| nx ?_
  refine L_val rfl (v_load rfl ty63 HS (by exact rfl)) ?_
  refine L_val rfl (v_loadA rfl ty67 HS CT) ?_
  refine L_op <| xc fc167 (.cons rfl (.cons rfl .nil)) rfl (coDeleteG (s := s) (xp := x) PC hsl) fun w7 => ?_
  refine L_pur rfl (p_extract rfl rfl) <| L_pur rfl (p_extract rfl rfl) <| ag rfl rfl <| ag rfl rfl <| nq <| J_ret ?_
  refine J_return (w7) Tryz.results166 (.tmp rfl (.tmp rfl .nil)) ?_ ?_
  · rfl
  · exact SU
theorem clo5 {E : World} {l m : List As} {p c3 : Nat} {s : KS} {x : Place} (hp : Picks [blk c3 63 [.pointer (some ⟨p, 6, none⟩)], coA p s] l m) (hsl : s.sl.length ≤ 100000) (hR : RevOk s.sl x) :
    Con Tryz.prog 168 #[.agg (encI x).toArray, .pointer (some ⟨c3, 0, none⟩)] E l (fun v : Value => .tuple #[v, .int .i64 (revokeS s.sl x).2]) (fun v => row 418 2 v (((revokeS s.sl x).1.2).map encI) :: blk c3 63 [.pointer (some ⟨p, 6, none⟩)] :: coA p { s with sl := (revokeS s.sl x).1.1 } :: m) := by
  refine Con.body (vs := [.agg (encI x).toArray, .pointer (some ⟨c3, 0, none⟩)]) (n := 10) Tryz.func168 rfl rfl [(0, .agg (encI x).toArray), (1, .pointer (some ⟨c3, 0, none⟩))] (env_ok 2 rfl) <| J_picks2 hp <| sr <| L_op <| x_box rfl rfl rfl fun b2 => ag rfl rfl <| ag rfl rfl <| nx ?_
  refine L_val rfl (v_load rfl ty63 HS (by exact rfl)) ?_
  refine L_val rfl (v_loadA rfl ty67 HS CT) ?_
  refine L_op <| xc fc169 (.cons rfl (.cons rfl .nil)) rfl (coRevokeG (s := s) (xp := x) PC hR hsl) fun w7 => ?_
  refine L_pur rfl (p_extract rfl rfl) <| L_pur rfl (p_extract rfl rfl) <| ag rfl rfl <| ag rfl rfl <| nq <| J_ret ?_
  refine J_return (w7) Tryz.results168 (.tmp rfl (.tmp rfl .nil)) ?_ ?_
  · rfl
  · exact SU
theorem slots5G {E : World} {l m : List As} {a p : Nat} {s : KS} {T : Th} {q : Rq} {i : ID} (hp : Picks [actA a p T q i, coA p s] l m) (hE : SqeOk q.e) (hop : q.e.op = 5) (hsl : s.sl.length ≤ 100000) {N M : Nat} (hF : Fits s N M) (hM : M ≤ 45000) (hq : s.q.length ≤ 90000) (hz : s.mp.length ≤ 1000000) (hg0 : s.rg.length ≤ 1000) :
    Con Tryz.prog 117 #[.pointer (some ⟨a, 0, none⟩)] E l (fun _ : Unit => encE (some (-(kSlots s T q.e).2, 0))) (fun _ => actA a p T q i :: coA p (kSlots s T q.e).1 :: m) := by
  refine Con.body (vs := [.pointer (some ⟨a, 0, none⟩)]) (n := 40) Tryz.func117 rfl rfl [(0, .pointer (some ⟨a, 0, none⟩))] (env_ok 1 rfl) <| J_picks2 hp <| J_asTo (B := blk a 250 [.pointer (some ⟨p, 0, none⟩), .int .i64 T.unit, .int .i64 T.space, .int .i64 T.ring, .int .i64 T.root.kind, .int .i64 T.root.obj, .int .i64 T.root.size, .int .i64 T.root.badge, .int .i64 T.root.rights, .int .i64 q.id.1, .int .i64 q.id.2, .int .i64 q.e.op, .int .i64 q.e.flags, .int .u32 q.e.tag, .int .u32 q.e.cap, .int .u32 q.e.a, .int .u32 q.e.b, .int .u32 q.e.c, .int .u32 q.e.time, .int .i64 q.prev, .bool q.soft, .bool q.started, .int .i64 i.1, .int .i64 i.2]) (by rfl) <| sr <| L_op <| x_alloc ty247 rfl fun b2 => nq ?_
  refine J_cut (α := Nat × Nat) (fun x : Nat × Nat => blk x.1 63 [.pointer (some ⟨p, 6, none⟩)] :: blk x.2 31 [.int .i64 q.e.op, .int .i64 q.e.flags, .int .u32 q.e.tag, .int .u32 q.e.cap, .int .u32 q.e.a, .int .u32 q.e.b, .int .u32 q.e.c, .int .u32 q.e.time] :: blk b2 247 [.int .i64 0, .int .u32 0, .bool false] :: actA a p T q i :: coA p s :: m) (fun x : Nat × Nat => [(0, .pointer (some ⟨a, 0, none⟩)), (2, .pointer (some ⟨b2, 0, none⟩)), (3, .pointer (some ⟨x.1, 0, none⟩)), (4, .pointer (some ⟨x.2, 0, none⟩))]) ?_ ?_
  refine J_drawL none mixed <| ip 0 rfl rfl rfl rfl (p_move rfl) <| ip 1 rfl rfl rfl rfl (p_nilCheck rfl) <| ip 2 rfl rfl rfl rfl (p_fieldAddr rfl fa250_0) <| iv 3 rfl rfl rfl rfl (fun _ => v_load rfl ty25 HS (by exact rfl)) ?_
  refine ip 5 rfl rfl rfl rfl (p_move rfl) <| ip 6 rfl rfl rfl rfl (p_nilCheck rfl) <| ip 7 rfl rfl rfl rfl (p_fieldAddr rfl fa250_2) <| ip 8 rfl rfl rfl rfl (p_fieldAddr rfl fa104_1) <| iv 9 rfl rfl rfl rfl (fun _ => v_loadA rfl ty31 HS CT) ?_
  refine I_ready (rs := [4, 10, 11]) SI (by kernel_rfl) (by simp) ?_
  refine (I_cons rfl ?_ (I_cons rfl ?_ (I_cons rfl ?_ I_nil)))
  refine xc fc29 (.cons rfl .nil) rfl (coSlots) fun _ => I_ready (rs := [10, 11]) SI (by kernel_rfl) (by simp) ?_
  refine (I_cons rfl ?_ (I_cons rfl ?_ I_nil))
  refine x_alloc ty63 rfl fun b3 => i1 11 rfl <| x_alloc ty31 rfl fun b4 => i1 12 rfl <| x_store rfl rfl ty63 rfl SM SM RO PT ?_
  refine i1 13 rfl <| x_store rfl rfl ty31 rfl SM SM RO PT ?_
  refine i0 <| Q_then <| J_pick (A := blk a _ _) PC ?_
  refine J_asTo (B := actA a p T q i) (by rfl) <| J_pick (A := blk b4 _ _) PC ?_
  refine J_asTo (B := blk b4 31 [.int .i64 q.e.op, .int .i64 q.e.flags, .int .u32 q.e.tag, .int .u32 q.e.cap, .int .u32 q.e.a, .int .u32 q.e.b, .int .u32 q.e.c, .int .u32 q.e.time]) (by rfl) ?_
  exact J_at (L := (fun x : Nat × Nat => blk x.1 63 [.pointer (some ⟨p, 6, none⟩)] :: blk x.2 31 [.int .i64 q.e.op, .int .i64 q.e.flags, .int .u32 q.e.tag, .int .u32 q.e.cap, .int .u32 q.e.a, .int .u32 q.e.b, .int .u32 q.e.c, .int .u32 q.e.time] :: blk b2 247 [.int .i64 0, .int .u32 0, .bool false] :: actA a p T q i :: coA p s :: m)) (G := (fun x : Nat × Nat => [(0, .pointer (some ⟨a, 0, none⟩)), (2, .pointer (some ⟨b2, 0, none⟩)), (3, .pointer (some ⟨x.1, 0, none⟩)), (4, .pointer (some ⟨x.2, 0, none⟩))])) (b3, b4) SU KE
  refine x_alloc ty31 rfl fun b4 => i1 10 rfl <| x_alloc ty63 rfl fun b3 => i1 12 rfl <| x_store rfl rfl ty63 rfl SM SM RO PT ?_
  refine i1 13 rfl <| x_store rfl rfl ty31 rfl SM SM RO PT ?_
  refine i0 <| Q_then <| J_pick (A := blk a _ _) PC ?_
  refine J_asTo (B := actA a p T q i) (by rfl) <| J_pick (A := blk b4 _ _) PC ?_
  refine J_asTo (B := blk b4 31 [.int .i64 q.e.op, .int .i64 q.e.flags, .int .u32 q.e.tag, .int .u32 q.e.cap, .int .u32 q.e.a, .int .u32 q.e.b, .int .u32 q.e.c, .int .u32 q.e.time]) (by rfl) ?_
  exact J_at (L := (fun x : Nat × Nat => blk x.1 63 [.pointer (some ⟨p, 6, none⟩)] :: blk x.2 31 [.int .i64 q.e.op, .int .i64 q.e.flags, .int .u32 q.e.tag, .int .u32 q.e.cap, .int .u32 q.e.a, .int .u32 q.e.b, .int .u32 q.e.c, .int .u32 q.e.time] :: blk b2 247 [.int .i64 0, .int .u32 0, .bool false] :: actA a p T q i :: coA p s :: m)) (G := (fun x : Nat × Nat => [(0, .pointer (some ⟨a, 0, none⟩)), (2, .pointer (some ⟨b2, 0, none⟩)), (3, .pointer (some ⟨x.1, 0, none⟩)), (4, .pointer (some ⟨x.2, 0, none⟩))])) (b3, b4) SU KE
  refine x_alloc ty63 rfl fun b3 => I_ready (rs := [4, 11]) SI (by kernel_rfl) (by simp) ?_
  refine (I_cons rfl ?_ (I_cons rfl ?_ I_nil))
  refine xc fc29 (.cons rfl .nil) rfl (coSlots) fun _ => i1 11 rfl <| x_alloc ty31 rfl fun b4 => i1 12 rfl <| x_store rfl rfl ty63 rfl SM SM RO PT ?_
  refine i1 13 rfl <| x_store rfl rfl ty31 rfl SM SM RO PT ?_
  refine i0 <| Q_then <| J_pick (A := blk a _ _) PC ?_
  refine J_asTo (B := actA a p T q i) (by rfl) <| J_pick (A := blk b4 _ _) PC ?_
  refine J_asTo (B := blk b4 31 [.int .i64 q.e.op, .int .i64 q.e.flags, .int .u32 q.e.tag, .int .u32 q.e.cap, .int .u32 q.e.a, .int .u32 q.e.b, .int .u32 q.e.c, .int .u32 q.e.time]) (by rfl) ?_
  exact J_at (L := (fun x : Nat × Nat => blk x.1 63 [.pointer (some ⟨p, 6, none⟩)] :: blk x.2 31 [.int .i64 q.e.op, .int .i64 q.e.flags, .int .u32 q.e.tag, .int .u32 q.e.cap, .int .u32 q.e.a, .int .u32 q.e.b, .int .u32 q.e.c, .int .u32 q.e.time] :: blk b2 247 [.int .i64 0, .int .u32 0, .bool false] :: actA a p T q i :: coA p s :: m)) (G := (fun x : Nat × Nat => [(0, .pointer (some ⟨a, 0, none⟩)), (2, .pointer (some ⟨b2, 0, none⟩)), (3, .pointer (some ⟨x.1, 0, none⟩)), (4, .pointer (some ⟨x.2, 0, none⟩))])) (b3, b4) SU KE
  refine x_alloc ty31 rfl fun b4 => i1 4 rfl <| xc fc29 (.cons rfl .nil) rfl (coSlots) fun _ => i1 12 rfl <| x_store rfl rfl ty63 rfl SM SM RO PT ?_
  refine i1 13 rfl <| x_store rfl rfl ty31 rfl SM SM RO PT ?_
  refine i0 <| Q_then <| J_pick (A := blk a _ _) PC ?_
  refine J_asTo (B := actA a p T q i) (by rfl) <| J_pick (A := blk b4 _ _) PC ?_
  refine J_asTo (B := blk b4 31 [.int .i64 q.e.op, .int .i64 q.e.flags, .int .u32 q.e.tag, .int .u32 q.e.cap, .int .u32 q.e.a, .int .u32 q.e.b, .int .u32 q.e.c, .int .u32 q.e.time]) (by rfl) ?_
  exact J_at (L := (fun x : Nat × Nat => blk x.1 63 [.pointer (some ⟨p, 6, none⟩)] :: blk x.2 31 [.int .i64 q.e.op, .int .i64 q.e.flags, .int .u32 q.e.tag, .int .u32 q.e.cap, .int .u32 q.e.a, .int .u32 q.e.b, .int .u32 q.e.c, .int .u32 q.e.time] :: blk b2 247 [.int .i64 0, .int .u32 0, .bool false] :: actA a p T q i :: coA p s :: m)) (G := (fun x : Nat × Nat => [(0, .pointer (some ⟨a, 0, none⟩)), (2, .pointer (some ⟨b2, 0, none⟩)), (3, .pointer (some ⟨x.1, 0, none⟩)), (4, .pointer (some ⟨x.2, 0, none⟩))])) (b3, b4) SU KE
  refine x_alloc ty31 rfl fun b4 => I_ready (rs := [4, 10]) SI (by kernel_rfl) (by simp) ?_
  refine (I_cons rfl ?_ (I_cons rfl ?_ I_nil))
  refine xc fc29 (.cons rfl .nil) rfl (coSlots) fun _ => i1 10 rfl <| x_alloc ty63 rfl fun b3 => i1 12 rfl <| x_store rfl rfl ty63 rfl SM SM RO PT ?_
  refine i1 13 rfl <| x_store rfl rfl ty31 rfl SM SM RO PT ?_
  refine i0 <| Q_then <| J_pick (A := blk a _ _) PC ?_
  refine J_asTo (B := actA a p T q i) (by rfl) <| J_pick (A := blk b4 _ _) PC ?_
  refine J_asTo (B := blk b4 31 [.int .i64 q.e.op, .int .i64 q.e.flags, .int .u32 q.e.tag, .int .u32 q.e.cap, .int .u32 q.e.a, .int .u32 q.e.b, .int .u32 q.e.c, .int .u32 q.e.time]) (by rfl) ?_
  exact J_at (L := (fun x : Nat × Nat => blk x.1 63 [.pointer (some ⟨p, 6, none⟩)] :: blk x.2 31 [.int .i64 q.e.op, .int .i64 q.e.flags, .int .u32 q.e.tag, .int .u32 q.e.cap, .int .u32 q.e.a, .int .u32 q.e.b, .int .u32 q.e.c, .int .u32 q.e.time] :: blk b2 247 [.int .i64 0, .int .u32 0, .bool false] :: actA a p T q i :: coA p s :: m)) (G := (fun x : Nat × Nat => [(0, .pointer (some ⟨a, 0, none⟩)), (2, .pointer (some ⟨b2, 0, none⟩)), (3, .pointer (some ⟨x.1, 0, none⟩)), (4, .pointer (some ⟨x.2, 0, none⟩))])) (b3, b4) SU KE
  refine x_alloc ty63 rfl fun b3 => i1 4 rfl <| xc fc29 (.cons rfl .nil) rfl (coSlots) fun _ => i1 12 rfl <| x_store rfl rfl ty63 rfl SM SM RO PT ?_
  refine i1 13 rfl <| x_store rfl rfl ty31 rfl SM SM RO PT ?_
  refine i0 <| Q_then <| J_pick (A := blk a _ _) PC ?_
  refine J_asTo (B := actA a p T q i) (by rfl) <| J_pick (A := blk b4 _ _) PC ?_
  refine J_asTo (B := blk b4 31 [.int .i64 q.e.op, .int .i64 q.e.flags, .int .u32 q.e.tag, .int .u32 q.e.cap, .int .u32 q.e.a, .int .u32 q.e.b, .int .u32 q.e.c, .int .u32 q.e.time]) (by rfl) ?_
  exact J_at (L := (fun x : Nat × Nat => blk x.1 63 [.pointer (some ⟨p, 6, none⟩)] :: blk x.2 31 [.int .i64 q.e.op, .int .i64 q.e.flags, .int .u32 q.e.tag, .int .u32 q.e.cap, .int .u32 q.e.a, .int .u32 q.e.b, .int .u32 q.e.c, .int .u32 q.e.time] :: blk b2 247 [.int .i64 0, .int .u32 0, .bool false] :: actA a p T q i :: coA p s :: m)) (G := (fun x : Nat × Nat => [(0, .pointer (some ⟨a, 0, none⟩)), (2, .pointer (some ⟨b2, 0, none⟩)), (3, .pointer (some ⟨x.1, 0, none⟩)), (4, .pointer (some ⟨x.2, 0, none⟩))])) (b3, b4) SU KE
  intro x
  obtain ⟨b3, b4⟩ := x
  dsimp only
  refine J_seq <| J_seq ?_
  have hks : (kSlots s T q.e) = killS s (deleteS s.sl) (kFind s.sl T.root q.e.cap) := by unfold kSlots; rw [if_neg (by omega), if_neg (by omega), if_neg (by omega), if_pos hop]
  refine J_region <| fa rfl rfl fa31_0 <| L_val rfl (v_load rfl ty3 HS (by exact rfl)) ?_
  refine nq <| J_block <| sr <| L_pur rfl (p_eql rfl rfl) <| ag rfl rfl <| nq <| J_bool (t := 17) (c := false) rfl (by simp [hop]) <| C_false rfl ?_
  refine sr <| L_pur rfl (p_eql rfl rfl) <| ag rfl rfl <| nq <| J_bool (t := 22) (c := false) rfl (by simp [hop]) <| C_false rfl <| sr <| L_pur rfl (p_eql rfl rfl) ?_
  refine ag rfl rfl <| nq <| J_bool (t := 27) (c := false) rfl (by simp [hop]) <| C_false rfl <| sr <| L_pur rfl (p_eql rfl rfl) <| ag rfl rfl <| nq ?_
  refine J_bool (t := 32) (c := true) rfl (by simp [hop]) <| C_true rfl <| sr <| mv rfl rfl <| L_pur rfl (p_makeFunc (.cons rfl .nil)) <| L_op <| xc fc165 (.cons rfl (.cons rfl .nil)) rfl (killsG (C := blk b3 63 [.pointer (some ⟨p, 6, none⟩)]) (F := deleteS s.sl) Tryz.func166 nm166 bd166 (fun l m x hp => clo4 hp hsl) PX hE (fun x => deleteS_code) hF hM hq hz hg0) fun _ => ?_
  refine L_op <| x_store rfl rfl ty247 rfl SM SM RO PT ?_
  refine nq <| J_ret <| Q_blk_ret <| Q_then_ret <| J_pick (A := coA p _) PC ?_
  refine J_asTo (B := coA p (kSlots s T q.e).1) (by rw [hks]) <| J_pick (A := actA a p T q i) PC ?_
  refine J_return (()) Tryz.results117 (.cellA rfl ty247 HS CT .nil) ?_ ?_
  · rw [hks]; rfl
  · exact SU
theorem slots6G {E : World} {l m : List As} {a p : Nat} {s : KS} {T : Th} {q : Rq} {i : ID} (hp : Picks [actA a p T q i, coA p s] l m) (hE : SqeOk q.e) (hop : q.e.op = 6) (hsl : s.sl.length ≤ 100000) (hR : ∀ x, RevOk s.sl x) {N M : Nat} (hF : Fits s N M) (hM : M ≤ 45000) (hq : s.q.length ≤ 90000) (hz : s.mp.length ≤ 1000000) (hg0 : s.rg.length ≤ 1000) :
    Con Tryz.prog 117 #[.pointer (some ⟨a, 0, none⟩)] E l (fun _ : Unit => encE (some (-(kSlots s T q.e).2, 0))) (fun _ => actA a p T q i :: coA p (kSlots s T q.e).1 :: m) := by
  refine Con.body (vs := [.pointer (some ⟨a, 0, none⟩)]) (n := 40) Tryz.func117 rfl rfl [(0, .pointer (some ⟨a, 0, none⟩))] (env_ok 1 rfl) <| J_picks2 hp <| J_asTo (B := blk a 250 [.pointer (some ⟨p, 0, none⟩), .int .i64 T.unit, .int .i64 T.space, .int .i64 T.ring, .int .i64 T.root.kind, .int .i64 T.root.obj, .int .i64 T.root.size, .int .i64 T.root.badge, .int .i64 T.root.rights, .int .i64 q.id.1, .int .i64 q.id.2, .int .i64 q.e.op, .int .i64 q.e.flags, .int .u32 q.e.tag, .int .u32 q.e.cap, .int .u32 q.e.a, .int .u32 q.e.b, .int .u32 q.e.c, .int .u32 q.e.time, .int .i64 q.prev, .bool q.soft, .bool q.started, .int .i64 i.1, .int .i64 i.2]) (by rfl) <| sr <| L_op <| x_alloc ty247 rfl fun b2 => nq ?_
  refine J_cut (α := Nat × Nat) (fun x : Nat × Nat => blk x.1 63 [.pointer (some ⟨p, 6, none⟩)] :: blk x.2 31 [.int .i64 q.e.op, .int .i64 q.e.flags, .int .u32 q.e.tag, .int .u32 q.e.cap, .int .u32 q.e.a, .int .u32 q.e.b, .int .u32 q.e.c, .int .u32 q.e.time] :: blk b2 247 [.int .i64 0, .int .u32 0, .bool false] :: actA a p T q i :: coA p s :: m) (fun x : Nat × Nat => [(0, .pointer (some ⟨a, 0, none⟩)), (2, .pointer (some ⟨b2, 0, none⟩)), (3, .pointer (some ⟨x.1, 0, none⟩)), (4, .pointer (some ⟨x.2, 0, none⟩))]) ?_ ?_
  refine J_drawL none mixed <| ip 0 rfl rfl rfl rfl (p_move rfl) <| ip 1 rfl rfl rfl rfl (p_nilCheck rfl) <| ip 2 rfl rfl rfl rfl (p_fieldAddr rfl fa250_0) <| iv 3 rfl rfl rfl rfl (fun _ => v_load rfl ty25 HS (by exact rfl)) ?_
  refine ip 5 rfl rfl rfl rfl (p_move rfl) <| ip 6 rfl rfl rfl rfl (p_nilCheck rfl) <| ip 7 rfl rfl rfl rfl (p_fieldAddr rfl fa250_2) <| ip 8 rfl rfl rfl rfl (p_fieldAddr rfl fa104_1) <| iv 9 rfl rfl rfl rfl (fun _ => v_loadA rfl ty31 HS CT) ?_
  refine I_ready (rs := [4, 10, 11]) SI (by kernel_rfl) (by simp) ?_
  refine (I_cons rfl ?_ (I_cons rfl ?_ (I_cons rfl ?_ I_nil)))
  refine xc fc29 (.cons rfl .nil) rfl (coSlots) fun _ => I_ready (rs := [10, 11]) SI (by kernel_rfl) (by simp) ?_
  refine (I_cons rfl ?_ (I_cons rfl ?_ I_nil))
  refine x_alloc ty63 rfl fun b3 => i1 11 rfl <| x_alloc ty31 rfl fun b4 => i1 12 rfl <| x_store rfl rfl ty63 rfl SM SM RO PT ?_
  refine i1 13 rfl <| x_store rfl rfl ty31 rfl SM SM RO PT ?_
  refine i0 <| Q_then <| J_pick (A := blk a _ _) PC ?_
  refine J_asTo (B := actA a p T q i) (by rfl) <| J_pick (A := blk b4 _ _) PC ?_
  refine J_asTo (B := blk b4 31 [.int .i64 q.e.op, .int .i64 q.e.flags, .int .u32 q.e.tag, .int .u32 q.e.cap, .int .u32 q.e.a, .int .u32 q.e.b, .int .u32 q.e.c, .int .u32 q.e.time]) (by rfl) ?_
  exact J_at (L := (fun x : Nat × Nat => blk x.1 63 [.pointer (some ⟨p, 6, none⟩)] :: blk x.2 31 [.int .i64 q.e.op, .int .i64 q.e.flags, .int .u32 q.e.tag, .int .u32 q.e.cap, .int .u32 q.e.a, .int .u32 q.e.b, .int .u32 q.e.c, .int .u32 q.e.time] :: blk b2 247 [.int .i64 0, .int .u32 0, .bool false] :: actA a p T q i :: coA p s :: m)) (G := (fun x : Nat × Nat => [(0, .pointer (some ⟨a, 0, none⟩)), (2, .pointer (some ⟨b2, 0, none⟩)), (3, .pointer (some ⟨x.1, 0, none⟩)), (4, .pointer (some ⟨x.2, 0, none⟩))])) (b3, b4) SU KE
  refine x_alloc ty31 rfl fun b4 => i1 10 rfl <| x_alloc ty63 rfl fun b3 => i1 12 rfl <| x_store rfl rfl ty63 rfl SM SM RO PT ?_
  refine i1 13 rfl <| x_store rfl rfl ty31 rfl SM SM RO PT ?_
  refine i0 <| Q_then <| J_pick (A := blk a _ _) PC ?_
  refine J_asTo (B := actA a p T q i) (by rfl) <| J_pick (A := blk b4 _ _) PC ?_
  refine J_asTo (B := blk b4 31 [.int .i64 q.e.op, .int .i64 q.e.flags, .int .u32 q.e.tag, .int .u32 q.e.cap, .int .u32 q.e.a, .int .u32 q.e.b, .int .u32 q.e.c, .int .u32 q.e.time]) (by rfl) ?_
  exact J_at (L := (fun x : Nat × Nat => blk x.1 63 [.pointer (some ⟨p, 6, none⟩)] :: blk x.2 31 [.int .i64 q.e.op, .int .i64 q.e.flags, .int .u32 q.e.tag, .int .u32 q.e.cap, .int .u32 q.e.a, .int .u32 q.e.b, .int .u32 q.e.c, .int .u32 q.e.time] :: blk b2 247 [.int .i64 0, .int .u32 0, .bool false] :: actA a p T q i :: coA p s :: m)) (G := (fun x : Nat × Nat => [(0, .pointer (some ⟨a, 0, none⟩)), (2, .pointer (some ⟨b2, 0, none⟩)), (3, .pointer (some ⟨x.1, 0, none⟩)), (4, .pointer (some ⟨x.2, 0, none⟩))])) (b3, b4) SU KE
  refine x_alloc ty63 rfl fun b3 => I_ready (rs := [4, 11]) SI (by kernel_rfl) (by simp) ?_
  refine (I_cons rfl ?_ (I_cons rfl ?_ I_nil))
  refine xc fc29 (.cons rfl .nil) rfl (coSlots) fun _ => i1 11 rfl <| x_alloc ty31 rfl fun b4 => i1 12 rfl <| x_store rfl rfl ty63 rfl SM SM RO PT ?_
  refine i1 13 rfl <| x_store rfl rfl ty31 rfl SM SM RO PT ?_
  refine i0 <| Q_then <| J_pick (A := blk a _ _) PC ?_
  refine J_asTo (B := actA a p T q i) (by rfl) <| J_pick (A := blk b4 _ _) PC ?_
  refine J_asTo (B := blk b4 31 [.int .i64 q.e.op, .int .i64 q.e.flags, .int .u32 q.e.tag, .int .u32 q.e.cap, .int .u32 q.e.a, .int .u32 q.e.b, .int .u32 q.e.c, .int .u32 q.e.time]) (by rfl) ?_
  exact J_at (L := (fun x : Nat × Nat => blk x.1 63 [.pointer (some ⟨p, 6, none⟩)] :: blk x.2 31 [.int .i64 q.e.op, .int .i64 q.e.flags, .int .u32 q.e.tag, .int .u32 q.e.cap, .int .u32 q.e.a, .int .u32 q.e.b, .int .u32 q.e.c, .int .u32 q.e.time] :: blk b2 247 [.int .i64 0, .int .u32 0, .bool false] :: actA a p T q i :: coA p s :: m)) (G := (fun x : Nat × Nat => [(0, .pointer (some ⟨a, 0, none⟩)), (2, .pointer (some ⟨b2, 0, none⟩)), (3, .pointer (some ⟨x.1, 0, none⟩)), (4, .pointer (some ⟨x.2, 0, none⟩))])) (b3, b4) SU KE
  refine x_alloc ty31 rfl fun b4 => i1 4 rfl <| xc fc29 (.cons rfl .nil) rfl (coSlots) fun _ => i1 12 rfl <| x_store rfl rfl ty63 rfl SM SM RO PT ?_
  refine i1 13 rfl <| x_store rfl rfl ty31 rfl SM SM RO PT ?_
  refine i0 <| Q_then <| J_pick (A := blk a _ _) PC ?_
  refine J_asTo (B := actA a p T q i) (by rfl) <| J_pick (A := blk b4 _ _) PC ?_
  refine J_asTo (B := blk b4 31 [.int .i64 q.e.op, .int .i64 q.e.flags, .int .u32 q.e.tag, .int .u32 q.e.cap, .int .u32 q.e.a, .int .u32 q.e.b, .int .u32 q.e.c, .int .u32 q.e.time]) (by rfl) ?_
  exact J_at (L := (fun x : Nat × Nat => blk x.1 63 [.pointer (some ⟨p, 6, none⟩)] :: blk x.2 31 [.int .i64 q.e.op, .int .i64 q.e.flags, .int .u32 q.e.tag, .int .u32 q.e.cap, .int .u32 q.e.a, .int .u32 q.e.b, .int .u32 q.e.c, .int .u32 q.e.time] :: blk b2 247 [.int .i64 0, .int .u32 0, .bool false] :: actA a p T q i :: coA p s :: m)) (G := (fun x : Nat × Nat => [(0, .pointer (some ⟨a, 0, none⟩)), (2, .pointer (some ⟨b2, 0, none⟩)), (3, .pointer (some ⟨x.1, 0, none⟩)), (4, .pointer (some ⟨x.2, 0, none⟩))])) (b3, b4) SU KE
  refine x_alloc ty31 rfl fun b4 => I_ready (rs := [4, 10]) SI (by kernel_rfl) (by simp) ?_
  refine (I_cons rfl ?_ (I_cons rfl ?_ I_nil))
  refine xc fc29 (.cons rfl .nil) rfl (coSlots) fun _ => i1 10 rfl <| x_alloc ty63 rfl fun b3 => i1 12 rfl <| x_store rfl rfl ty63 rfl SM SM RO PT ?_
  refine i1 13 rfl <| x_store rfl rfl ty31 rfl SM SM RO PT ?_
  refine i0 <| Q_then <| J_pick (A := blk a _ _) PC ?_
  refine J_asTo (B := actA a p T q i) (by rfl) <| J_pick (A := blk b4 _ _) PC ?_
  refine J_asTo (B := blk b4 31 [.int .i64 q.e.op, .int .i64 q.e.flags, .int .u32 q.e.tag, .int .u32 q.e.cap, .int .u32 q.e.a, .int .u32 q.e.b, .int .u32 q.e.c, .int .u32 q.e.time]) (by rfl) ?_
  exact J_at (L := (fun x : Nat × Nat => blk x.1 63 [.pointer (some ⟨p, 6, none⟩)] :: blk x.2 31 [.int .i64 q.e.op, .int .i64 q.e.flags, .int .u32 q.e.tag, .int .u32 q.e.cap, .int .u32 q.e.a, .int .u32 q.e.b, .int .u32 q.e.c, .int .u32 q.e.time] :: blk b2 247 [.int .i64 0, .int .u32 0, .bool false] :: actA a p T q i :: coA p s :: m)) (G := (fun x : Nat × Nat => [(0, .pointer (some ⟨a, 0, none⟩)), (2, .pointer (some ⟨b2, 0, none⟩)), (3, .pointer (some ⟨x.1, 0, none⟩)), (4, .pointer (some ⟨x.2, 0, none⟩))])) (b3, b4) SU KE
  refine x_alloc ty63 rfl fun b3 => i1 4 rfl <| xc fc29 (.cons rfl .nil) rfl (coSlots) fun _ => i1 12 rfl <| x_store rfl rfl ty63 rfl SM SM RO PT ?_
  refine i1 13 rfl <| x_store rfl rfl ty31 rfl SM SM RO PT ?_
  refine i0 <| Q_then <| J_pick (A := blk a _ _) PC ?_
  refine J_asTo (B := actA a p T q i) (by rfl) <| J_pick (A := blk b4 _ _) PC ?_
  refine J_asTo (B := blk b4 31 [.int .i64 q.e.op, .int .i64 q.e.flags, .int .u32 q.e.tag, .int .u32 q.e.cap, .int .u32 q.e.a, .int .u32 q.e.b, .int .u32 q.e.c, .int .u32 q.e.time]) (by rfl) ?_
  exact J_at (L := (fun x : Nat × Nat => blk x.1 63 [.pointer (some ⟨p, 6, none⟩)] :: blk x.2 31 [.int .i64 q.e.op, .int .i64 q.e.flags, .int .u32 q.e.tag, .int .u32 q.e.cap, .int .u32 q.e.a, .int .u32 q.e.b, .int .u32 q.e.c, .int .u32 q.e.time] :: blk b2 247 [.int .i64 0, .int .u32 0, .bool false] :: actA a p T q i :: coA p s :: m)) (G := (fun x : Nat × Nat => [(0, .pointer (some ⟨a, 0, none⟩)), (2, .pointer (some ⟨b2, 0, none⟩)), (3, .pointer (some ⟨x.1, 0, none⟩)), (4, .pointer (some ⟨x.2, 0, none⟩))])) (b3, b4) SU KE
  intro x
  obtain ⟨b3, b4⟩ := x
  dsimp only
  refine J_seq <| J_seq ?_
  have hks : (kSlots s T q.e) = killS s (revokeS s.sl) (kFind s.sl T.root q.e.cap) := by unfold kSlots; rw [if_neg (by omega), if_neg (by omega), if_neg (by omega), if_neg (by omega)]
  refine J_region <| fa rfl rfl fa31_0 <| L_val rfl (v_load rfl ty3 HS (by exact rfl)) ?_
  refine nq <| J_block <| sr <| L_pur rfl (p_eql rfl rfl) <| ag rfl rfl <| nq <| J_bool (t := 17) (c := false) rfl (by simp [hop]) <| C_false rfl ?_
  refine sr <| L_pur rfl (p_eql rfl rfl) <| ag rfl rfl <| nq <| J_bool (t := 22) (c := false) rfl (by simp [hop]) <| C_false rfl <| sr <| L_pur rfl (p_eql rfl rfl) ?_
  refine ag rfl rfl <| nq <| J_bool (t := 27) (c := false) rfl (by simp [hop]) <| C_false rfl <| sr <| L_pur rfl (p_eql rfl rfl) <| ag rfl rfl <| nq ?_
  refine J_bool (t := 32) (c := false) rfl (by simp [hop]) <| C_false rfl <| J_skip <| Q_blk_normal <| qx <| mv rfl rfl <| L_pur rfl (p_makeFunc (.cons rfl .nil)) <| L_op <| xc fc165 (.cons rfl (.cons rfl .nil)) rfl (killsG (C := blk b3 63 [.pointer (some ⟨p, 6, none⟩)]) (F := revokeS s.sl) Tryz.func168 nm168 bd168 (fun l m x hp => clo5 hp hsl (hR x)) PX hE (fun x => revokeS_code) hF hM hq hz hg0) fun _ => ?_
  refine L_op <| x_store rfl rfl ty247 rfl SM SM RO PT ?_
  refine nq <| J_ret <| J_pick (A := coA p _) PC ?_
  refine J_asTo (B := coA p (kSlots s T q.e).1) (by rw [hks]) <| J_pick (A := actA a p T q i) PC ?_
  refine J_return (()) Tryz.results117 (.cellA rfl ty247 HS CT .nil) ?_ ?_
  · rw [hks]; rfl
  · exact SU
theorem cloR {E : World} {l m : List As} {a p b1 b3 : Nat} {s : KS} {T : Th} {q : Rq} {i : ID} {x y : Place} {c : Cap} (hp : Picks [actA a p T q i, rcA b1 b3 a c, coA p s] l m) (hE : SqeOk q.e) (hck : CapsOk s.sl) (hmk : MarksOk s.mr) (hsl : s.sl.length ≤ 100000) :
    Con Tryz.prog 170 #[.agg (encI x).toArray, .agg (encI y).toArray, .pointer (some ⟨b1, 0, none⟩), .pointer (some ⟨b3, 0, none⟩)] E l (fun _ : Unit => .int .i64 (retF s q.e x y).2) (fun _ => actA a p T q i :: rcA b1 b3 a (makeS s.sl s.mr x y q.e.b q.e.c).2.1 :: coA p (retF s q.e x y).1 :: m) := by
  refine Con.body (vs := [.agg (encI x).toArray, .agg (encI y).toArray, .pointer (some ⟨b1, 0, none⟩), .pointer (some ⟨b3, 0, none⟩)]) (n := 41) Tryz.func170 rfl rfl [(0, .agg (encI x).toArray), (1, .agg (encI y).toArray), (2, .pointer (some ⟨b1, 0, none⟩)), (3, .pointer (some ⟨b3, 0, none⟩))] (env_ok 4 rfl) <| J_picks3 hp <| J_pick (A := rcA b1 b3 a c) PC ?_
  refine J_rcO fun _ _ => J_pick (A := actA a p T q i) PC ?_
  refine J_asTo (B := blk a 250 [.pointer (some ⟨p, 0, none⟩), .int .i64 T.unit, .int .i64 T.space, .int .i64 T.ring, .int .i64 T.root.kind, .int .i64 T.root.obj, .int .i64 T.root.size, .int .i64 T.root.badge, .int .i64 T.root.rights, .int .i64 q.id.1, .int .i64 q.id.2, .int .i64 q.e.op, .int .i64 q.e.flags, .int .u32 q.e.tag, .int .u32 q.e.cap, .int .u32 q.e.a, .int .u32 q.e.b, .int .u32 q.e.c, .int .u32 q.e.time, .int .i64 q.prev, .bool q.soft, .bool q.started, .int .i64 i.1, .int .i64 i.2]) (by rfl) <| sr <| L_op <| x_box rfl rfl rfl fun b4 => L_op <| x_box rfl rfl rfl fun b5 => ag rfl rfl <| nq ?_
  refine J_seq <| J_drawL (some 26) mixed <| iv 0 rfl rfl rfl rfl (fun _ => v_load rfl ty248 HS (by exact rfl)) ?_
  refine ip 1 rfl rfl rfl rfl (p_nilCheck rfl) <| ip 2 rfl rfl rfl rfl (p_fieldAddr rfl fa250_0) <| iv 3 rfl rfl rfl rfl (fun _ => v_load rfl ty25 HS (by exact rfl)) ?_
  refine iv 5 rfl rfl rfl rfl (fun _ => v_load rfl ty248 HS (by exact rfl)) ?_
  refine ip 6 rfl rfl rfl rfl (p_nilCheck rfl) <| ip 7 rfl rfl rfl rfl (p_fieldAddr rfl fa250_0) <| iv 8 rfl rfl rfl rfl (fun _ => v_load rfl ty25 HS (by exact rfl)) ?_
  refine iv 10 rfl rfl rfl rfl (fun _ => v_loadA rfl ty67 HS CT) ?_
  refine iv 11 rfl rfl rfl rfl (fun _ => v_loadA rfl ty67 HS CT) ?_
  refine iv 12 rfl rfl rfl rfl (fun _ => v_load rfl ty248 HS (by exact rfl)) ?_
  refine ip 13 rfl rfl rfl rfl (p_nilCheck rfl) <| ip 14 rfl rfl rfl rfl (p_fieldAddr rfl fa250_2) <| ip 15 rfl rfl rfl rfl (p_fieldAddr rfl fa104_1) <| ip 16 rfl rfl rfl rfl (p_fieldAddr rfl fa31_5) <| iv 17 rfl rfl rfl rfl (fun _ => v_load rfl ty22 HS (by exact rfl)) ?_
  refine ip 18 rfl rfl rfl rfl (p_conv rfl Tryz.underlying22 Tryz.underlying3) <| J_slot (t := 28) (v := .int .i64 (q.e.b)) rfl (by rw [wrap64_of (by have := hE.b.1; have := hE.b.2; omega)]) <| iv 19 rfl rfl rfl rfl (fun _ => v_load rfl ty248 HS (by exact rfl)) ?_
  refine ip 20 rfl rfl rfl rfl (p_nilCheck rfl) <| ip 21 rfl rfl rfl rfl (p_fieldAddr rfl fa250_2) <| ip 22 rfl rfl rfl rfl (p_fieldAddr rfl fa104_1) <| ip 23 rfl rfl rfl rfl (p_fieldAddr rfl fa31_6) <| iv 24 rfl rfl rfl rfl (fun _ => v_load rfl ty22 HS (by exact rfl)) ?_
  refine ip 25 rfl rfl rfl rfl (p_conv rfl Tryz.underlying22 Tryz.underlying3) <| J_slot (t := 35) (v := .int .i64 (q.e.c)) rfl (by rw [wrap64_of (by have := hE.c.1; have := hE.c.2; omega)]) <| I_ready (rs := [4, 30]) SI (by kernel_rfl) (by simp) ?_
  refine (I_cons rfl ?_ (I_cons rfl ?_ I_nil))
  refine xc fc29 (.cons rfl .nil) rfl (coSlots) fun _ => I_ready (rs := [9, 30]) SI (by kernel_rfl) (by simp) ?_
  refine (I_cons rfl ?_ (I_cons rfl ?_ I_nil))
  refine xc fc172 (.cons rfl .nil) rfl (coMarks) fun _ => I_ready (rs := [26, 30]) SI (by kernel_rfl) (by simp) ?_
  refine (I_cons rfl ?_ (I_cons rfl ?_ I_nil))
  refine xc fc171 (.cons rfl (.cons rfl (.cons rfl (.cons rfl (.cons rfl (.cons rfl .nil)))))) rfl (coMakeG (s := s) (xp := x) (yp := y) (kind := q.e.b) (size := q.e.c) PC hck hmk hsl) fun _ => ?_
  refine ip 27 rfl rfl rfl rfl (p_move rfl) <| ip 28 rfl rfl rfl rfl (p_extract rfl rfl) <| ip 29 rfl rfl rfl rfl (p_extract rfl rfl) <| i1 30 rfl <| x_alloc ty69 rfl fun b7 => i1 31 rfl <| x_store rfl rfl ty69 rfl SM SM RO PT ?_
  refine ip 32 rfl rfl rfl rfl (p_assign rfl) <| i0 <| qx <| L_val rfl (v_loadA rfl ty69 HS CT) ?_
  refine L_op <| x_store rfl rfl ty69 rfl SM SM RO PT ?_
  refine nx <| mv rfl rfl <| ag rfl rfl <| nq <| J_ret <| J_pick (A := blk b3 _ _) PC ?_
  refine J_asTo (B := blk b3 69 (encC (makeS s.sl s.mr x y q.e.b q.e.c).2.1)) (by rfl) <| J_rcS (b1 := b1) (b3 := b3) (a := a) (c := (makeS s.sl s.mr x y q.e.b q.e.c).2.1) PX trivial ?_
  refine J_pick (A := blk a _ _) PC ?_
  refine J_asTo (B := actA a p T q i) (by rfl) <| J_pick (A := coA p _) PC ?_
  refine J_asTo (B := coA p (retF s q.e x y).1) (by rfl) <| J_pick (A := actA a p T q i) PC ?_
  refine J_return (()) Tryz.results170 (.tmp rfl .nil) ?_ ?_
  · rfl
  · exact SU
  refine x_alloc ty69 rfl fun b7 => i1 26 rfl <| xc fc171 (.cons rfl (.cons rfl (.cons rfl (.cons rfl (.cons rfl (.cons rfl .nil)))))) rfl (coMakeG (s := s) (xp := x) (yp := y) (kind := q.e.b) (size := q.e.c) PC hck hmk hsl) fun _ => ?_
  refine ip 27 rfl rfl rfl rfl (p_move rfl) <| ip 28 rfl rfl rfl rfl (p_extract rfl rfl) <| ip 29 rfl rfl rfl rfl (p_extract rfl rfl) <| i1 31 rfl <| x_store rfl rfl ty69 rfl SM SM RO PT ?_
  refine ip 32 rfl rfl rfl rfl (p_assign rfl) <| i0 <| qx <| L_val rfl (v_loadA rfl ty69 HS CT) ?_
  refine L_op <| x_store rfl rfl ty69 rfl SM SM RO PT ?_
  refine nx <| mv rfl rfl <| ag rfl rfl <| nq <| J_ret <| J_pick (A := blk b3 _ _) PC ?_
  refine J_asTo (B := blk b3 69 (encC (makeS s.sl s.mr x y q.e.b q.e.c).2.1)) (by rfl) <| J_rcS (b1 := b1) (b3 := b3) (a := a) (c := (makeS s.sl s.mr x y q.e.b q.e.c).2.1) PX trivial ?_
  refine J_pick (A := blk a _ _) PC ?_
  refine J_asTo (B := actA a p T q i) (by rfl) <| J_pick (A := coA p _) PC ?_
  refine J_asTo (B := coA p (retF s q.e x y).1) (by rfl) <| J_pick (A := actA a p T q i) PC ?_
  refine J_return (()) Tryz.results170 (.tmp rfl .nil) ?_ ?_
  · rfl
  · exact SU
  refine x_alloc ty69 rfl fun b7 => i1 9 rfl <| xc fc172 (.cons rfl .nil) rfl (coMarks) fun _ => i1 26 rfl <| xc fc171 (.cons rfl (.cons rfl (.cons rfl (.cons rfl (.cons rfl (.cons rfl .nil)))))) rfl (coMakeG (s := s) (xp := x) (yp := y) (kind := q.e.b) (size := q.e.c) PC hck hmk hsl) fun _ => ?_
  refine ip 27 rfl rfl rfl rfl (p_move rfl) <| ip 28 rfl rfl rfl rfl (p_extract rfl rfl) <| ip 29 rfl rfl rfl rfl (p_extract rfl rfl) <| i1 31 rfl <| x_store rfl rfl ty69 rfl SM SM RO PT ?_
  refine ip 32 rfl rfl rfl rfl (p_assign rfl) <| i0 <| qx <| L_val rfl (v_loadA rfl ty69 HS CT) ?_
  refine L_op <| x_store rfl rfl ty69 rfl SM SM RO PT ?_
  refine nx <| mv rfl rfl <| ag rfl rfl <| nq <| J_ret <| J_pick (A := blk b3 _ _) PC ?_
  refine J_asTo (B := blk b3 69 (encC (makeS s.sl s.mr x y q.e.b q.e.c).2.1)) (by rfl) <| J_rcS (b1 := b1) (b3 := b3) (a := a) (c := (makeS s.sl s.mr x y q.e.b q.e.c).2.1) PX trivial ?_
  refine J_pick (A := blk a _ _) PC ?_
  refine J_asTo (B := actA a p T q i) (by rfl) <| J_pick (A := coA p _) PC ?_
  refine J_asTo (B := coA p (retF s q.e x y).1) (by rfl) <| J_pick (A := actA a p T q i) PC ?_
  refine J_return (()) Tryz.results170 (.tmp rfl .nil) ?_ ?_
  · rfl
  · exact SU
  refine x_alloc ty69 rfl fun b7 => i1 4 rfl <| xc fc29 (.cons rfl .nil) rfl (coSlots) fun _ => i1 9 rfl <| xc fc172 (.cons rfl .nil) rfl (coMarks) fun _ => i1 26 rfl <| xc fc171 (.cons rfl (.cons rfl (.cons rfl (.cons rfl (.cons rfl (.cons rfl .nil)))))) rfl (coMakeG (s := s) (xp := x) (yp := y) (kind := q.e.b) (size := q.e.c) PC hck hmk hsl) fun _ => ?_
  refine ip 27 rfl rfl rfl rfl (p_move rfl) <| ip 28 rfl rfl rfl rfl (p_extract rfl rfl) <| ip 29 rfl rfl rfl rfl (p_extract rfl rfl) <| i1 31 rfl <| x_store rfl rfl ty69 rfl SM SM RO PT ?_
  refine ip 32 rfl rfl rfl rfl (p_assign rfl) <| i0 <| qx <| L_val rfl (v_loadA rfl ty69 HS CT) ?_
  refine L_op <| x_store rfl rfl ty69 rfl SM SM RO PT ?_
  refine nx <| mv rfl rfl <| ag rfl rfl <| nq <| J_ret <| J_pick (A := blk b3 _ _) PC ?_
  refine J_asTo (B := blk b3 69 (encC (makeS s.sl s.mr x y q.e.b q.e.c).2.1)) (by rfl) <| J_rcS (b1 := b1) (b3 := b3) (a := a) (c := (makeS s.sl s.mr x y q.e.b q.e.c).2.1) PX trivial ?_
  refine J_pick (A := blk a _ _) PC ?_
  refine J_asTo (B := actA a p T q i) (by rfl) <| J_pick (A := coA p _) PC ?_
  refine J_asTo (B := coA p (retF s q.e x y).1) (by rfl) <| J_pick (A := actA a p T q i) PC ?_
  refine J_return (()) Tryz.results170 (.tmp rfl .nil) ?_ ?_
  · rfl
  · exact SU
theorem retypeG {E : World} {l m : List As} {a p : Nat} {s : KS} {T : Th} {q : Rq} {i : ID} (hp : Picks [actA a p T q i, coA p s] l m) (hE : SqeOk q.e) (hck : CapsOk s.sl) (hmk : MarksOk s.mr) (hMem : MemOk s.mem) (hsl : s.sl.length ≤ 100000) :
    Con Tryz.prog 118 #[.pointer (some ⟨a, 0, none⟩)] E l (fun b : Nat => encE (some (-(kRetC s T q.e), kRetV s T q.e))) (fun b => actA a p T q i :: coA p (kRetS s T q.e b) :: m) := by
  refine Con.body (vs := [.pointer (some ⟨a, 0, none⟩)]) (n := 22) Tryz.func118 rfl rfl [(0, .pointer (some ⟨a, 0, none⟩))] (env_ok 1 rfl) <| J_picks2 hp <| sr <| L_op <| x_box rfl rfl rfl fun b1 => L_op <| x_alloc ty247 rfl fun b2 => nx ?_
  refine L_op <| x_alloc ty69 rfl fun b3 => nx <| L_val rfl (v_load rfl ty248 HS (by exact rfl)) ?_
  refine L_pur rfl (p_makeFunc (.cons rfl (.cons rfl .nil))) <| J_pick (A := blk b3 _ _) PC ?_
  refine J_asTo (B := blk b3 69 (encC c0)) (by rfl) <| J_rcS (b1 := b1) (b3 := b3) (a := a) (c := c0) PX trivial ?_
  refine L_op <| xc fc158 (.cons rfl (.cons rfl .nil)) rfl (twoG (C := rcA b1 b3 a c0) (D := fun x y => rcA b1 b3 a (makeS s.sl s.mr x y q.e.b q.e.c).2.1) (F := retF s q.e) Tryz.func170 nm170 bd170 (fun l m x y hp => cloR hp hE hck hmk hsl) PX hE (fun x y => makeS_code)) fun _ => ?_
  refine L_op <| x_alloc ty247 rfl fun b4 => L_op <| x_store rfl rfl ty247 rfl SM SM RO PT ?_
  refine nxx <| fa rfl rfl fa247_0 <| L_val rfl (v_load rfl ty3 HS (by exact rfl)) ?_
  refine L_pur rfl (p_eql rfl rfl) <| nq ?_
  refine C_dec rfl (fun h10 => ?_) (fun h10 => ?_)
  have hh10 : -(twoS s (retF s q.e) (twoAt s T q.e)).2 = 0 := h10
  have hc0 : kRetC s T q.e = 0 := by unfold kRetC; omega
  obtain ⟨xy, hxy⟩ : ∃ x, (twoAt s T q.e) = some x := by
    cases hq : (twoAt s T q.e) with
    | none => unfold kRetC at hc0; rw [hq] at hc0; simp [twoS] at hc0
    | some y => exact ⟨y, rfl⟩
  have hco : (makeS s.sl s.mr xy.1 xy.2 q.e.b q.e.c).2.2 = 0 := by
    have h := hc0
    unfold kRetC at h
    rw [hxy] at h
    exact h
  have hkk : kRetK s T q.e = (makeS s.sl s.mr xy.1 xy.2 q.e.b q.e.c).2.1 := by unfold kRetK; rw [hxy]
  have hob := makeS_obj hck hmk hco
  rw [← hkk] at hob
  refine J_pick (A := twoC _ _ _) PC ?_
  refine J_asTo (B := rcA b1 b3 a (kRetK s T q.e)) (by rw [hxy, hkk]; rfl) <| J_rcO fun _ _ => J_pick (A := actA a p T q i) PC ?_
  refine J_asTo (B := blk a 250 [.pointer (some ⟨p, 0, none⟩), .int .i64 T.unit, .int .i64 T.space, .int .i64 T.ring, .int .i64 T.root.kind, .int .i64 T.root.obj, .int .i64 T.root.size, .int .i64 T.root.badge, .int .i64 T.root.rights, .int .i64 q.id.1, .int .i64 q.id.2, .int .i64 q.e.op, .int .i64 q.e.flags, .int .u32 q.e.tag, .int .u32 q.e.cap, .int .u32 q.e.a, .int .u32 q.e.b, .int .u32 q.e.c, .int .u32 q.e.time, .int .i64 q.prev, .bool q.soft, .bool q.started, .int .i64 i.1, .int .i64 i.2]) (by rfl) <| J_seq <| J_drawT 5 mixed (by kernel_rfl) <| S_val rfl (v_load rfl ty248 HS (by exact rfl)) ?_
  refine sp rfl (p_nilCheck rfl) <| sp rfl (p_fieldAddr rfl fa250_0) <| S_val rfl (v_load rfl ty25 HS (by exact rfl)) ?_
  refine S_val rfl (v_loadA rfl ty69 HS CT) ?_
  refine S_nil <| L_op <| xc fc173 (.cons rfl (.cons rfl .nil)) rfl (coMake (s := (twoS s (retF s q.e) (twoAt s T q.e)).1) (c := kRetK s T q.e) PC hob (by rw [hxy]; exact hMem)) fun x16 => ?_
  refine ny <| fa rfl rfl fa69_1 <| L_val rfl (v_load rfl ty3 HS (by exact rfl)) ?_
  refine L_pur rfl (p_conv rfl Tryz.underlying3 Tryz.underlying22) <| J_slot (t := 19) (v := .int .u32 ((kRetK s T q.e).obj)) rfl (by rw [wrap32u_of (by omega)]) <| fa rfl rfl fa247_1 <| L_op <| x_store rfl rfl ty22 rfl SM SM RO PT ?_
  refine nx <| L_val rfl (v_loadA rfl ty247 HS CT) ?_
  refine L_op <| x_store rfl rfl ty247 rfl SM SM RO PT ?_
  refine nq <| J_ret <| J_pick (A := coA p _) PC ?_
  refine J_asTo (B := coA p (kRetS s T q.e x16)) (by unfold kRetS; rw [if_pos hc0]) <| J_pick (A := blk a _ _) PC ?_
  refine J_asTo (B := actA a p T q i) (by rfl) ?_
  refine J_return (x16) Tryz.results118 (.cellA rfl ty247 HS CT .nil) ?_ ?_
  · unfold kRetV; rw [if_pos hc0]; rfl
  · exact SU
  have hh10 : ¬ -(twoS s (retF s q.e) (twoAt s T q.e)).2 = 0 := h10
  have hc0 : ¬ kRetC s T q.e = 0 := by unfold kRetC; omega
  refine J_skip <| qx <| L_val rfl (v_loadA rfl ty247 HS CT) ?_
  refine L_op <| x_store rfl rfl ty247 rfl SM SM RO PT ?_
  refine nq <| J_ret <| J_pick (A := coA p _) PC ?_
  refine J_asTo (B := coA p (kRetS s T q.e 0)) (by unfold kRetS; rw [if_neg hc0]) <| J_pick (A := actA a p T q i) PC ?_
  refine J_return (0) Tryz.results118 (.cellA rfl ty247 HS CT .nil) ?_ ?_
  · unfold kRetV; rw [if_neg hc0]; rfl
  · exact SU
end Go.Pse
namespace Go.Pse
open Go.RowKit Go.Proofs
/-! ### plain: what an entry asks of pages, threads, whoever waits -/
abbrev Out := Option (Int × Int)
def failO (c : Int) : Out := some (-c, 0)
def kMaps (s : KS) (T : Th) (e : Sqe) : KS × Int :=
  if (kCap s.sl T.root e.cap 3).2.2 ≠ 0 then (s, (kCap s.sl T.root e.cap 3).2.2)
  else if e.a ≥ 8 ∨ e.b < 1 ∨ e.b > 3 then (s, 7)
  else if bits .and .i64 (kCap s.sl T.root e.cap 3).1.rights e.b ≠ e.b then (s, 6)
  else if (look s.sp T.space).getD false = false then (s, 11)
  else if spSetOk s.mp (T.space, e.a) ((kCap s.sl T.root e.cap 3).1.obj, e.b) = false then (s, 3)
  else ({ s with mp := spSet s.mp (T.space, e.a) ((kCap s.sl T.root e.cap 3).1.obj, e.b) }, 0)
def kUnmap (s : KS) (T : Th) (e : Sqe) : KS × Int :=
  if e.a ≥ 8 then (s, 7) else if (look s.mp (T.space, e.a)).isSome = false then ({ s with mp := del s.mp (T.space, e.a) }, 11) else ({ s with mp := del s.mp (T.space, e.a) }, 0)
def kThr (s : KS) (e : Sqe) (u : Int) : KS × Bool :=
  if e.op = 16 then ({ s with q := qSet s.q u e.a }, qSetOk s.q u e.a) else if e.op = 17 then (kStop s u, kStopOk s u) else (kGo s u, kGoOk s u)
def kThreads (s : KS) (T : Th) (e : Sqe) : KS × Int :=
  if (kCap s.sl T.root e.cap 6).2.2 ≠ 0 then (s, (kCap s.sl T.root e.cap 6).2.2)
  else if e.op = 16 ∧ e.a ≥ 8 then (s, 7)
  else ((kThr s e (kCap s.sl T.root e.cap 6).1.obj).1, if (kThr s e (kCap s.sl T.root e.cap 6).1.obj).2 = true then 0 else 11)
def tagQ (ps : List (ID × Rq)) (g tag but : Int) : Option ID := ((ofQ ps g).find? fun r => decide (r.e.tag = tag) && !decide (r.id.2 = but)).map Rq.id
def kCancels (s : KS) (e : Sqe) (i : ID) : KS × Int := match tagQ s.rt i.1 e.a i.2 with
  | none => (s, 11)
  | some j => (kDec s.rt.length s j (-9) 0, 0)
def kBind (s : KS) (u : Int) (j : ID) : KS := match look s.rp u with
  | none => s
  | some x => if x.2.2 = true then kDec s.rt.length { s with rp := updO s.rp u (fun _ => (j, true)) } x.2.1 (-9) 0 else { s with rp := updO s.rp u (fun _ => (j, true)) }
def kSend3 (s : KS) (u : Int) (i : ID) (call : Bool) : KS × Out := if call = false then (s, some (0, 0)) else match look s.rp u with
  | none => (s, failO 11)
  | some _ => (kBind s u i, none)
def kSend2 (s : KS) (c : Cap) (e : Sqe) (i : ID) (call : Bool) : List Rcv → KS × Out
  | [] => (s, none)
  | y :: _ => kSend3 (kDec s.rt.length s y.1 c.badge e.a) y.2 i call
def kSend1 (s : KS) (c : Cap) (e : Sqe) (i : ID) (call : Bool) : KS × Out := match look s.ep c.obj with
  | none => (s, failO 11)
  | some y => kSend2 { s with ep := updO s.ep c.obj (sendE (i, e.a, c.badge, call)) } c e i call y.2.2
def kSends (s : KS) (T : Th) (e : Sqe) (i : ID) (call : Bool) : KS × Out :=
  if (mayS s T e 4 (if call = true then 6 else 2)).2 ≠ 0 then (s, failO (mayS s T e 4 (if call = true then 6 else 2)).2) else kSend1 s (mayS s T e 4 (if call = true then 6 else 2)).1 e i call
def kMet (s : KS) (u : Int) (x : Msg) : KS :=
  if x.2.2.2 = true then (match look s.rp u with
    | none => kDec s.rt.length s x.1 (-11) 0
    | some _ => kBind s u x.1)
  else kDec s.rt.length s x.1 0 0
def kRecv2 (s : KS) (u : Int) : List Msg → KS × Out
  | [] => (s, none)
  | x :: _ => (kMet s u x, some (x.2.2.1, x.2.1))
def kRecv1 (s : KS) (c : Cap) (u : Int) (i : ID) : KS × Out := match look s.ep c.obj with
  | none => (s, failO 11)
  | some y => kRecv2 { s with ep := updO s.ep c.obj (recvE (i, u)) } u y.2.1
def kRecvs (s : KS) (T : Th) (e : Sqe) (i : ID) : KS × Out :=
  if (mayS s T e 4 1).2 ≠ 0 then (s, failO (mayS s T e 4 1).2)
  else if e.b ≠ 0 then (if (kCap s.sl T.root e.b 7).2.2 ≠ 0 then (s, failO (kCap s.sl T.root e.b 7).2.2) else kRecv1 s (mayS s T e 4 1).1 (kCap s.sl T.root e.b 7).1.obj i)
  else kRecv1 s (mayS s T e 4 1).1 0 i
def kAnswers (s : KS) (T : Th) (e : Sqe) : KS × Int :=
  if (kCap s.sl T.root e.cap 7).2.2 ≠ 0 then (s, (kCap s.sl T.root e.cap 7).2.2)
  else match look s.rp (kCap s.sl T.root e.cap 7).1.obj with
    | none => (s, 11)
    | some x => if x.2.2 = false then ({ s with rp := updO s.rp (kCap s.sl T.root e.cap 7).1.obj (fun _ => ((0, 0), false)) }, 11)
      else (kDec s.rt.length { s with rp := updO s.rp (kCap s.sl T.root e.cap 7).1.obj (fun _ => ((0, 0), false)) } x.2.1 0 e.a, 0)
def sigB (c : Cap) (e : Sqe) : Int := if IntKind.u32.wrap c.badge = 0 then e.a else IntKind.u32.wrap c.badge
def kSignals (s : KS) (T : Th) (e : Sqe) : KS × Int :=
  if (mayS s T e 5 2).2 ≠ 0 then (s, (mayS s T e 5 2).2)
  else match look s.nt (mayS s T e 5 2).1.obj with
    | none => (s, 11)
    | some x => (if woke x.2.1 x.2.2 (sigB (mayS s T e 5 2).1 e) = true then kDec s.rt.length { s with nt := updO s.nt (mayS s T e 5 2).1.obj (ntS (sigB (mayS s T e 5 2).1 e)) } (sigI x.2.1 x.2.2 (sigB (mayS s T e 5 2).1 e)) 0 (sigV x.2.1 x.2.2 (sigB (mayS s T e 5 2).1 e)) else { s with nt := updO s.nt (mayS s T e 5 2).1.obj (ntS (sigB (mayS s T e 5 2).1 e)) }, 0)
def kNWaits (s : KS) (T : Th) (e : Sqe) (i : ID) : KS × Out :=
  if (mayS s T e 5 1).2 ≠ 0 then (s, failO (mayS s T e 5 1).2)
  else match look s.nt (mayS s T e 5 1).1.obj with
    | none => (s, failO 11)
    | some x => ({ s with nt := updO s.nt (mayS s T e 5 1).1.obj (ntW i) }, if x.2.1 = 0 then none else some (0, x.2.1))
theorem Fits.rpF {s : KS} {N M : Nat} (h : Fits s N M) (u : Int) (f : ID × Bool → ID × Bool) : Fits { s with rp := updO s.rp u f } N M :=
  ⟨h.n, h.mm, h.ids, h.jn, h.tm, h.ep, h.nt, fun x hx => by
    obtain ⟨y, hy, h1, _⟩ := updO_mem (show x ∈ updO s.rp u f from hx)
    rw [h1]; exact h.rp y hy, h.rg, h.mem⟩
theorem Fits.more {s : KS} {N M : Nat} (h : Fits s N M) (hN : N + 1 ≤ 90000) : Fits s (N + 1) M :=
  ⟨hN, h.mm, h.ids, h.jn, by have := h.tm; omega, fun x hx => by have := h.ep x hx; exact ⟨this.1, by omega, by omega⟩, fun x hx => by have := h.nt x hx; exact ⟨this.1, by omega⟩, h.rp, h.rg, h.mem⟩
theorem sendE_len (z : Msg) (a : List Msg × List Rcv) : (sendE z a).1.length ≤ a.1.length + 1 ∧ (sendE z a).2.length ≤ a.2.length := by
  unfold sendE
  split
  · simp
  · rename_i h; simp [h]
theorem recvE_len (z : Rcv) (a : List Msg × List Rcv) : (recvE z a).1.length ≤ a.1.length ∧ (recvE z a).2.length ≤ a.2.length + 1 := by
  unfold recvE
  split
  · simp
  · rename_i h; simp [h]
theorem Fits.epF {s : KS} {N M : Nat} (h : Fits s N M) (hN : N + 1 ≤ 90000) (u : Int) {f : List Msg × List Rcv → List Msg × List Rcv} (hf : ∀ a, (f a).1.length ≤ a.1.length + 1 ∧ (f a).2.length ≤ a.2.length + 1) : Fits { s with ep := updO s.ep u f } (N + 1) M :=
  ⟨hN, h.mm, h.ids, h.jn, by have := h.tm; show s.tm.length ≤ _; omega, fun x hx => by
    obtain ⟨y, hy, h1, h2⟩ := updO_mem (show x ∈ updO s.ep u f from hx)
    have h3 := h.ep y hy
    rw [h1]
    rcases h2 with h2 | h2 <;> rw [h2]
    · exact ⟨h3.1, by omega, by omega⟩
    · have := hf y.2.2; exact ⟨h3.1, by omega, by omega⟩, fun x hx => by have := h.nt x hx; exact ⟨this.1, by omega⟩, h.rp, h.rg, h.mem⟩
theorem Fits.ntF {s : KS} {N M : Nat} (h : Fits s N M) (hN : N + 1 ≤ 90000) (u : Int) {f : Int × List ID → Int × List ID} (hf : ∀ a, (f a).2.length ≤ a.2.length + 1) : Fits { s with nt := updO s.nt u f } (N + 1) M :=
  ⟨hN, h.mm, h.ids, h.jn, by have := h.tm; show s.tm.length ≤ _; omega, fun x hx => by have := h.ep x hx; exact ⟨this.1, by omega, by omega⟩, fun x hx => by
    obtain ⟨y, hy, h1, h2⟩ := updO_mem (show x ∈ updO s.nt u f from hx)
    have h3 := h.nt y hy
    rw [h1]
    rcases h2 with h2 | h2 <;> rw [h2]
    · exact ⟨h3.1, by omega⟩
    · have := hf y.2.2; exact ⟨h3.1, by omega⟩, h.rp, h.rg, h.mem⟩
end Go.Pse
namespace Go.Pse
open Go.RowKit Go.Proofs
/-! ### plain: what an entry does -/
def kDoes (s : KS) (T : Th) (q : Rq) (i : ID) (b : Nat) : KS × Out :=
 if q.e.op = 1 then (s, some (0, 0))
 else if q.e.op = 2 ∨ q.e.op = 3 ∨ q.e.op = 4 ∨ q.e.op = 5 ∨ q.e.op = 6 then ((kSlots s T q.e).1, failO (kSlots s T q.e).2)
 else if q.e.op = 7 then (kRetS s T q.e b, some (-(kRetC s T q.e), kRetV s T q.e))
 else if q.e.op = 8 then ((kMaps s T q.e).1, failO (kMaps s T q.e).2)
 else if q.e.op = 9 then ((kUnmap s T q.e).1, failO (kUnmap s T q.e).2)
 else if q.e.op = 10 ∨ q.e.op = 12 then kSends s T q.e i (decide (q.e.op = 12))
 else if q.e.op = 11 then kRecvs s T q.e i
 else if q.e.op = 13 then ((kAnswers s T q.e).1, failO (kAnswers s T q.e).2)
 else if q.e.op = 14 then ((kSignals s T q.e).1, failO (kSignals s T q.e).2)
 else if q.e.op = 15 then kNWaits s T q.e i
 else if q.e.op = 16 ∨ q.e.op = 17 ∨ q.e.op = 18 then ((kThreads s T q.e).1, failO (kThreads s T q.e).2)
 else if q.e.op = 19 then (s, none)
 else if q.e.op = 20 then ((kCancels s q.e i).1, failO (kCancels s q.e i).2)
 else (s, failO 11)
def kOwner (s : KS) (r : Int) : Option Th := (s.th.find? fun e => decide (e.2.ring = r)).map Prod.snd
structure Good (s : KS) (N M : Nat) : Prop where
  fit : Fits s N M
  n1 : N + 1 ≤ 90000
  m2 : M ≤ 45000
  q : s.q.length ≤ N
  mp : s.mp.length ≤ N
  sl : s.sl.length ≤ N
  rg : s.rg.length ≤ 1000
  caps : CapsOk s.sl
  marks : MarksOk s.mr
  rev : ∀ p, RevOk s.sl p
  own : ∀ r x, Owns s r x → x = kOwner s r
  ent : ∀ e ∈ s.rt, SqeOk e.2.e
def DoesC (s : KS) (T : Th) (q : Rq) (i : ID) : Prop := ∀ (E : World) (l m : List As) (a p : Nat), Picks [actA a p T q i, coA p s] l m →
  Con Tryz.prog 86 #[.pointer (some ⟨a, 0, none⟩)] E l (fun b : Nat => encE (kDoes s T q i b).2) (fun b => actA a p T q i :: coA p (kDoes s T q i b).1 :: m)
theorem does1G {E : World} {l m : List As} {a p : Nat} {s : KS} {T : Th} {q : Rq} {i : ID} (hp : Picks [actA a p T q i, coA p s] l m) {N M : Nat} (hG : Good s N M) (hE : SqeOk q.e) (hop : q.e.op = 1) :
    Con Tryz.prog 86 #[.pointer (some ⟨a, 0, none⟩)] E l (fun b : Nat => encE (kDoes s T q i b).2) (fun b => actA a p T q i :: coA p (kDoes s T q i b).1 :: m) := by
  refine Con.body (vs := [.pointer (some ⟨a, 0, none⟩)]) (n := 71) Tryz.func86 rfl rfl [(0, .pointer (some ⟨a, 0, none⟩))] (env_ok 1 rfl) <| J_picks2 hp <| J_asTo (B := blk a 250 [.pointer (some ⟨p, 0, none⟩), .int .i64 T.unit, .int .i64 T.space, .int .i64 T.ring, .int .i64 T.root.kind, .int .i64 T.root.obj, .int .i64 T.root.size, .int .i64 T.root.badge, .int .i64 T.root.rights, .int .i64 q.id.1, .int .i64 q.id.2, .int .i64 q.e.op, .int .i64 q.e.flags, .int .u32 q.e.tag, .int .u32 q.e.cap, .int .u32 q.e.a, .int .u32 q.e.b, .int .u32 q.e.c, .int .u32 q.e.time, .int .i64 q.prev, .bool q.soft, .bool q.started, .int .i64 i.1, .int .i64 i.2]) (by rfl) <| sr <| L_op <| x_alloc ty247 rfl fun b2 => nxx <| mv rfl rfl ?_
  refine nc rfl rfl <| fa rfl rfl fa250_2 <| fa rfl rfl fa104_1 <| fa rfl rfl fa31_0 <| L_val rfl (v_load rfl ty3 HS (by exact rfl)) ?_
  refine J_pick (A := blk a _ _) PC ?_
  refine J_asTo (B := actA a p T q i) (by rfl) <| ag rfl rfl <| nx <| mv rfl rfl <| nq <| J_block <| sr <| L_pur rfl (p_eql rfl rfl) ?_
  refine ag rfl rfl <| nq <| J_bool (t := 11) (c := true) rfl (by simp [hop]) <| C_true rfl <| sr <| L_pur rfl (bld247 .nil (by repeat constructor)) <| L_op <| x_store rfl rfl ty247 rfl SM SM RO PT ?_
  refine nq <| J_ret <| Q_blk_ret <| Q_then_ret ?_
  have hks : ∀ b, kDoes s T q i b = (s, some (0, 0)) := fun b => by unfold kDoes; simp only [hop]; rfl
  refine J_pick (A := coA p _) PC ?_
  refine J_asTo (B := coA p (kDoes s T q i 0).1) (by rw [hks]; try rfl) <| J_pick (A := actA a p T q i) PC ?_
  refine J_return (0) Tryz.results86 (.cellA rfl ty247 HS CT .nil) ?_ ?_
  · rw [hks]; rfl
  · exact SU
theorem doesC1 {s : KS} {T : Th} {q : Rq} {i : ID} {N M : Nat} (hG : Good s N M) (hE : SqeOk q.e) (hop : q.e.op = 1) : DoesC s T q i := fun _ _ _ _ _ hp => does1G hp hG hE hop
theorem does5G {E : World} {l m : List As} {a p : Nat} {s : KS} {T : Th} {q : Rq} {i : ID} (hp : Picks [actA a p T q i, coA p s] l m) {N M : Nat} (hG : Good s N M) (hE : SqeOk q.e) (hop : q.e.op = 5) :
    Con Tryz.prog 86 #[.pointer (some ⟨a, 0, none⟩)] E l (fun b : Nat => encE (kDoes s T q i b).2) (fun b => actA a p T q i :: coA p (kDoes s T q i b).1 :: m) := by
  refine Con.body (vs := [.pointer (some ⟨a, 0, none⟩)]) (n := 71) Tryz.func86 rfl rfl [(0, .pointer (some ⟨a, 0, none⟩))] (env_ok 1 rfl) <| J_picks2 hp <| J_asTo (B := blk a 250 [.pointer (some ⟨p, 0, none⟩), .int .i64 T.unit, .int .i64 T.space, .int .i64 T.ring, .int .i64 T.root.kind, .int .i64 T.root.obj, .int .i64 T.root.size, .int .i64 T.root.badge, .int .i64 T.root.rights, .int .i64 q.id.1, .int .i64 q.id.2, .int .i64 q.e.op, .int .i64 q.e.flags, .int .u32 q.e.tag, .int .u32 q.e.cap, .int .u32 q.e.a, .int .u32 q.e.b, .int .u32 q.e.c, .int .u32 q.e.time, .int .i64 q.prev, .bool q.soft, .bool q.started, .int .i64 i.1, .int .i64 i.2]) (by rfl) <| sr <| L_op <| x_alloc ty247 rfl fun b2 => nxx <| mv rfl rfl ?_
  refine nc rfl rfl <| fa rfl rfl fa250_2 <| fa rfl rfl fa104_1 <| fa rfl rfl fa31_0 <| L_val rfl (v_load rfl ty3 HS (by exact rfl)) ?_
  refine J_pick (A := blk a _ _) PC ?_
  refine J_asTo (B := actA a p T q i) (by rfl) <| ag rfl rfl <| nx <| mv rfl rfl <| nq <| J_block <| sr <| L_pur rfl (p_eql rfl rfl) ?_
  refine ag rfl rfl <| nq <| J_bool (t := 11) (c := false) rfl (by simp [hop]) <| C_false rfl <| J_seq <| sr <| L_pur rfl (p_eql rfl rfl) <| ag rfl rfl ?_
  refine nq <| J_bool (t := 14) (c := false) rfl (by simp [hop]) <| C_false rfl <| sr <| L_pur rfl (p_eql rfl rfl) <| ag rfl rfl <| nq <| J_bool (t := 14) (c := false) rfl (by simp [hop]) ?_
  refine C_false rfl <| sr <| L_pur rfl (p_eql rfl rfl) <| ag rfl rfl <| nq <| J_bool (t := 14) (c := false) rfl (by simp [hop]) <| C_false rfl <| sr ?_
  refine L_pur rfl (p_eql rfl rfl) <| ag rfl rfl <| nq <| J_bool (t := 14) (c := true) rfl (by simp [hop]) <| C_true rfl <| J_skip <| Q_then <| J_bool (t := 14) (c := true) rfl (by simp [hop]) ?_
  refine C_true rfl <| sr <| mv rfl rfl <| L_op <| xc fc117 (.cons rfl .nil) rfl (slots5G PX hE hop (by have := hG.sl; have := hG.n1; omega) hG.fit hG.m2 (by have := hG.q; have := hG.n1; omega) (by have := hG.mp; have := hG.n1; omega) hG.rg) fun _ => ?_
  refine L_op <| x_store rfl rfl ty247 rfl SM SM RO PT ?_
  refine nq <| J_ret <| Q_blk_ret <| Q_then_ret ?_
  have hks : ∀ b, kDoes s T q i b = ((kSlots s T q.e).1, failO (kSlots s T q.e).2) := fun b => by unfold kDoes; simp only [hop]; rfl
  refine J_pick (A := coA p _) PC ?_
  refine J_asTo (B := coA p (kDoes s T q i 0).1) (by rw [hks]; try rfl) <| J_pick (A := actA a p T q i) PC ?_
  refine J_return (0) Tryz.results86 (.cellA rfl ty247 HS CT .nil) ?_ ?_
  · rw [hks]; rfl
  · exact SU
theorem doesC5 {s : KS} {T : Th} {q : Rq} {i : ID} {N M : Nat} (hG : Good s N M) (hE : SqeOk q.e) (hop : q.e.op = 5) : DoesC s T q i := fun _ _ _ _ _ hp => does5G hp hG hE hop
theorem does6G {E : World} {l m : List As} {a p : Nat} {s : KS} {T : Th} {q : Rq} {i : ID} (hp : Picks [actA a p T q i, coA p s] l m) {N M : Nat} (hG : Good s N M) (hE : SqeOk q.e) (hop : q.e.op = 6) :
    Con Tryz.prog 86 #[.pointer (some ⟨a, 0, none⟩)] E l (fun b : Nat => encE (kDoes s T q i b).2) (fun b => actA a p T q i :: coA p (kDoes s T q i b).1 :: m) := by
  refine Con.body (vs := [.pointer (some ⟨a, 0, none⟩)]) (n := 71) Tryz.func86 rfl rfl [(0, .pointer (some ⟨a, 0, none⟩))] (env_ok 1 rfl) <| J_picks2 hp <| J_asTo (B := blk a 250 [.pointer (some ⟨p, 0, none⟩), .int .i64 T.unit, .int .i64 T.space, .int .i64 T.ring, .int .i64 T.root.kind, .int .i64 T.root.obj, .int .i64 T.root.size, .int .i64 T.root.badge, .int .i64 T.root.rights, .int .i64 q.id.1, .int .i64 q.id.2, .int .i64 q.e.op, .int .i64 q.e.flags, .int .u32 q.e.tag, .int .u32 q.e.cap, .int .u32 q.e.a, .int .u32 q.e.b, .int .u32 q.e.c, .int .u32 q.e.time, .int .i64 q.prev, .bool q.soft, .bool q.started, .int .i64 i.1, .int .i64 i.2]) (by rfl) <| sr <| L_op <| x_alloc ty247 rfl fun b2 => nxx <| mv rfl rfl ?_
  refine nc rfl rfl <| fa rfl rfl fa250_2 <| fa rfl rfl fa104_1 <| fa rfl rfl fa31_0 <| L_val rfl (v_load rfl ty3 HS (by exact rfl)) ?_
  refine J_pick (A := blk a _ _) PC ?_
  refine J_asTo (B := actA a p T q i) (by rfl) <| ag rfl rfl <| nx <| mv rfl rfl <| nq <| J_block <| sr <| L_pur rfl (p_eql rfl rfl) ?_
  refine ag rfl rfl <| nq <| J_bool (t := 11) (c := false) rfl (by simp [hop]) <| C_false rfl <| J_seq <| sr <| L_pur rfl (p_eql rfl rfl) <| ag rfl rfl ?_
  refine nq <| J_bool (t := 14) (c := false) rfl (by simp [hop]) <| C_false rfl <| sr <| L_pur rfl (p_eql rfl rfl) <| ag rfl rfl <| nq <| J_bool (t := 14) (c := false) rfl (by simp [hop]) ?_
  refine C_false rfl <| sr <| L_pur rfl (p_eql rfl rfl) <| ag rfl rfl <| nq <| J_bool (t := 14) (c := false) rfl (by simp [hop]) <| C_false rfl <| sr ?_
  refine L_pur rfl (p_eql rfl rfl) <| ag rfl rfl <| nq <| J_bool (t := 14) (c := false) rfl (by simp [hop]) <| C_false rfl <| J_region <| L_pur rfl (p_eql rfl rfl) <| ag rfl rfl ?_
  refine nq <| J_bool (t := 14) (c := true) rfl (by simp [hop]) <| C_true rfl <| sr <| mv rfl rfl <| L_op <| xc fc117 (.cons rfl .nil) rfl (slots6G PX hE hop (by have := hG.sl; have := hG.n1; omega) hG.rev hG.fit hG.m2 (by have := hG.q; have := hG.n1; omega) (by have := hG.mp; have := hG.n1; omega) hG.rg) fun _ => ?_
  refine L_op <| x_store rfl rfl ty247 rfl SM SM RO PT ?_
  refine nq <| J_ret <| Q_blk_ret <| Q_then_ret ?_
  have hks : ∀ b, kDoes s T q i b = ((kSlots s T q.e).1, failO (kSlots s T q.e).2) := fun b => by unfold kDoes; simp only [hop]; rfl
  refine J_pick (A := coA p _) PC ?_
  refine J_asTo (B := coA p (kDoes s T q i 0).1) (by rw [hks]; try rfl) <| J_pick (A := actA a p T q i) PC ?_
  refine J_return (0) Tryz.results86 (.cellA rfl ty247 HS CT .nil) ?_ ?_
  · rw [hks]; rfl
  · exact SU
theorem doesC6 {s : KS} {T : Th} {q : Rq} {i : ID} {N M : Nat} (hG : Good s N M) (hE : SqeOk q.e) (hop : q.e.op = 6) : DoesC s T q i := fun _ _ _ _ _ hp => does6G hp hG hE hop
theorem does7G {E : World} {l m : List As} {a p : Nat} {s : KS} {T : Th} {q : Rq} {i : ID} (hp : Picks [actA a p T q i, coA p s] l m) {N M : Nat} (hG : Good s N M) (hE : SqeOk q.e) (hop : q.e.op = 7) :
    Con Tryz.prog 86 #[.pointer (some ⟨a, 0, none⟩)] E l (fun b : Nat => encE (kDoes s T q i b).2) (fun b => actA a p T q i :: coA p (kDoes s T q i b).1 :: m) := by
  refine Con.body (vs := [.pointer (some ⟨a, 0, none⟩)]) (n := 71) Tryz.func86 rfl rfl [(0, .pointer (some ⟨a, 0, none⟩))] (env_ok 1 rfl) <| J_picks2 hp <| J_asTo (B := blk a 250 [.pointer (some ⟨p, 0, none⟩), .int .i64 T.unit, .int .i64 T.space, .int .i64 T.ring, .int .i64 T.root.kind, .int .i64 T.root.obj, .int .i64 T.root.size, .int .i64 T.root.badge, .int .i64 T.root.rights, .int .i64 q.id.1, .int .i64 q.id.2, .int .i64 q.e.op, .int .i64 q.e.flags, .int .u32 q.e.tag, .int .u32 q.e.cap, .int .u32 q.e.a, .int .u32 q.e.b, .int .u32 q.e.c, .int .u32 q.e.time, .int .i64 q.prev, .bool q.soft, .bool q.started, .int .i64 i.1, .int .i64 i.2]) (by rfl) <| sr <| L_op <| x_alloc ty247 rfl fun b2 => nxx <| mv rfl rfl ?_
  refine nc rfl rfl <| fa rfl rfl fa250_2 <| fa rfl rfl fa104_1 <| fa rfl rfl fa31_0 <| L_val rfl (v_load rfl ty3 HS (by exact rfl)) ?_
  refine J_pick (A := blk a _ _) PC ?_
  refine J_asTo (B := actA a p T q i) (by rfl) <| ag rfl rfl <| nx <| mv rfl rfl <| nq <| J_block <| sr <| L_pur rfl (p_eql rfl rfl) ?_
  refine ag rfl rfl <| nq <| J_bool (t := 11) (c := false) rfl (by simp [hop]) <| C_false rfl <| J_seq <| sr <| L_pur rfl (p_eql rfl rfl) <| ag rfl rfl ?_
  refine nq <| J_bool (t := 14) (c := false) rfl (by simp [hop]) <| C_false rfl <| sr <| L_pur rfl (p_eql rfl rfl) <| ag rfl rfl <| nq <| J_bool (t := 14) (c := false) rfl (by simp [hop]) ?_
  refine C_false rfl <| sr <| L_pur rfl (p_eql rfl rfl) <| ag rfl rfl <| nq <| J_bool (t := 14) (c := false) rfl (by simp [hop]) <| C_false rfl <| sr ?_
  refine L_pur rfl (p_eql rfl rfl) <| ag rfl rfl <| nq <| J_bool (t := 14) (c := false) rfl (by simp [hop]) <| C_false rfl <| J_region <| L_pur rfl (p_eql rfl rfl) <| ag rfl rfl ?_
  refine nq <| J_bool (t := 14) (c := false) rfl (by simp [hop]) <| C_false rfl <| sr <| L_pur rfl (p_eql rfl rfl) <| ag rfl rfl <| nq <| J_bool (t := 22) (c := true) rfl (by simp [hop]) ?_
  refine C_true rfl <| sr <| mv rfl rfl <| L_op <| xc fc118 (.cons rfl .nil) rfl (retypeG PX hE hG.caps hG.marks hG.fit.mem (by have := hG.sl; have := hG.n1; omega)) fun x25 => ?_
  refine L_op <| x_store rfl rfl ty247 rfl SM SM RO PT ?_
  refine nq <| J_ret <| Q_blk_ret <| Q_then_ret ?_
  have hks : ∀ b, kDoes s T q i b = (kRetS s T q.e b, some (-(kRetC s T q.e), kRetV s T q.e)) := fun b => by unfold kDoes; simp only [hop]; rfl
  refine J_pick (A := coA p _) PC ?_
  refine J_asTo (B := coA p (kDoes s T q i x25).1) (by rw [hks]; try rfl) <| J_pick (A := actA a p T q i) PC ?_
  refine J_return (x25) Tryz.results86 (.cellA rfl ty247 HS CT .nil) ?_ ?_
  · rw [hks]; rfl
  · exact SU
theorem doesC7 {s : KS} {T : Th} {q : Rq} {i : ID} {N M : Nat} (hG : Good s N M) (hE : SqeOk q.e) (hop : q.e.op = 7) : DoesC s T q i := fun _ _ _ _ _ hp => does7G hp hG hE hop
def kAct (s : KS) (i : ID) (b : Nat) : KS × Out := match look s.rt i with
  | none => (s, none)
  | some q => match kOwner s i.1 with
    | none => (s, failO 11)
    | some T => kDoes s T q i b
def kStart (s : KS) (i : ID) (b : Nat) : KS × Bool := match look s.rt i with
  | none => (s, false)
  | some q => if q.started = true then (s, false) else match kAct { s with rt := rtS s.rt i } i b with
    | (t, none) => (t, true)
    | (t, some x) => (kDec t.rt.length t i x.1 x.2, true)
theorem coActG {E : World} {l m : List As} {p : Nat} {s : KS} (hp : Pick (coA p s) l m) {i : ID} {N M : Nat} (hG : Good s N M) (hD : ∀ (q : Rq) (T : Th), look s.rt i = some q → DoesC s T q i) :
    Con Tryz.prog 53 #[.pointer (some ⟨p, 0, none⟩), .agg (encI i).toArray] E l (fun b : Nat => .tuple #[.int .i64 (((kAct s i b).2.getD (0, 0)).1), .int .u32 (((kAct s i b).2.getD (0, 0)).2), .bool (kAct s i b).2.isSome]) (fun b => coA p (kAct s i b).1 :: m) := by
  refine Con.body (vs := [.pointer (some ⟨p, 0, none⟩), .agg (encI i).toArray]) (n := 42) Tryz.func53 rfl rfl [(0, .pointer (some ⟨p, 0, none⟩)), (1, .agg (encI i).toArray)] (env_ok 2 rfl) <| J_pick hp <| sr <| L_op <| x_box rfl rfl rfl fun b3 => ag rfl rfl <| ag rfl rfl <| ag rfl rfl ?_
  refine nq <| J_seq <| J_drawL none mixed <| ip 0 rfl rfl rfl rfl (p_move rfl) <| iv 2 rfl rfl rfl rfl (fun _ => v_loadA rfl ty39 HS CT) ?_
  refine I_ready (rs := [1, 7]) SI (by kernel_rfl) (by simp) ?_
  refine (I_cons rfl ?_ (I_cons rfl ?_ I_nil))
  refine xc fc22 (.cons rfl .nil) rfl (coReqs) fun _ => I_ready (rs := [3, 7]) SI (by kernel_rfl) (by simp) ?_
  refine (I_cons rfl ?_ (I_cons rfl ?_ I_nil))
  refine xc fc51 (.cons rfl (.cons rfl .nil)) rfl (coRqGet (s := s) (i := i) PC) fun _ => ?_
  refine ip 4 rfl rfl rfl rfl (p_move rfl) <| ip 5 rfl rfl rfl rfl (p_extract rfl rfl) <| ip 6 rfl rfl rfl rfl (p_extract rfl rfl) <| i1 7 rfl <| x_alloc ty104 rfl fun b7 => i1 8 rfl <| x_store rfl rfl ty104 rfl SM SM RO PT ?_
  refine ip 9 rfl rfl rfl rfl (p_assign rfl) <| i0 <| Q_then <| J_seq <| sr <| mv rfl rfl <| L_pur rfl (p_not rfl) <| nq ?_
  refine C_split rfl (fun h19 => ?_) (fun h19 => ?_)
  have hq : look s.rt i = none := by
    cases hq : look s.rt i with
    | none => rfl
    | some y => rw [hq] at h19; simp at h19
  have hka : ∀ b, kAct s i b = (s, none) := fun b => by unfold kAct; rw [hq]
  refine sr <| ag rfl rfl <| ag rfl rfl <| ag rfl rfl <| nq <| J_ret <| Q_then_ret <| J_pick (A := coA p _) PC ?_
  refine J_asTo (B := coA p (kAct s i 0).1) (by rw [hka]) ?_
  refine J_return (0) Tryz.results53 (.tmp rfl (.tmp rfl (.tmp rfl .nil))) ?_ ?_
  · rw [hka]; rfl
  · exact SU
  obtain ⟨q, hq⟩ : ∃ x, look s.rt i = some x := by
    cases hq : look s.rt i with
    | none => rw [hq] at h19; simp at h19
    | some y => exact ⟨y, rfl⟩
  refine J_pick (A := blk b7 _ _) PC ?_
  refine J_asTo (B := blk b7 104 (encQ q)) (by rw [hq]; rfl) <| J_skip <| qx <| mv rfl rfl <| fa rfl rfl fa39_0 <| L_val rfl (v_load rfl ty3 HS (by exact rfl)) ?_
  refine L_op <| xc fc85 (.cons rfl (.cons rfl .nil)) rfl (coOwner (s := s) (r := i.1) PC) fun x24 => ?_
  refine J_pure fun hO => ?_
  obtain rfl := hG.own _ _ hO
  refine mv rfl rfl <| L_pur rfl (p_extract rfl rfl) <| L_pur rfl (p_extract rfl rfl) <| L_op <| x_alloc ty193 rfl fun b9 => L_op <| x_store rfl rfl ty193 rfl SM SM RO PT ?_
  refine ag rfl rfl <| nxx <| mv rfl rfl <| L_pur rfl (p_not rfl) <| nq ?_
  refine C_split rfl (fun h28 => ?_) (fun h28 => ?_)
  have hT : kOwner s i.1 = none := by
    cases hq : kOwner s i.1 with
    | none => rfl
    | some y => rw [hq] at h28; simp at h28
  have hka : ∀ b, kAct s i b = (s, failO 11) := fun b => by unfold kAct; rw [hq]; dsimp only; rw [hT]
  refine sr <| ag rfl rfl <| ag rfl rfl <| ag rfl rfl <| nq <| J_ret <| Q_then_ret <| J_pick (A := coA p _) PC ?_
  refine J_asTo (B := coA p (kAct s i 0).1) (by rw [hka]) ?_
  refine J_return (0) Tryz.results53 (.tmp rfl (.tmp rfl (.tmp rfl .nil))) ?_ ?_
  · rw [hka]; rfl
  · exact SU
  obtain ⟨T, hT⟩ : ∃ x, kOwner s i.1 = some x := by
    cases hq : kOwner s i.1 with
    | none => rw [hq] at h28; simp at h28
    | some y => exact ⟨y, rfl⟩
  have hka : ∀ b, kAct s i b = kDoes s T q i b := fun b => by unfold kAct; rw [hq]; dsimp only; rw [hT]
  refine J_skip <| qx <| mv rfl rfl <| L_val rfl (v_loadA rfl ty193 HS CT) ?_
  refine L_val rfl (v_loadA rfl ty104 HS CT) ?_
  refine L_val rfl (v_loadA rfl ty39 HS CT) ?_
  refine L_pur rfl (bld250 (.cons rfl (.cons rfl (.cons rfl (.cons rfl .nil)))) (by repeat constructor)) <| L_op <| x_box rfl rfl rfl fun b34 => J_pick (A := blk b34 _ _) PC ?_
  refine J_asTo (B := actA b34 p T q i) (by rw [hT]; rfl) <| L_op <| xc fc86 (.cons rfl .nil) rfl (hD q T hq _ _ _ b34 p PX) fun x36 => ?_
  refine L_op <| x_alloc ty247 rfl fun b10 => L_op <| x_store rfl rfl ty247 rfl SM SM RO PT ?_
  refine nxx <| fa rfl rfl fa247_2 <| L_val rfl (v_load rfl ty4 HS (by exact rfl)) ?_
  refine nq ?_
  refine C_split rfl (fun h37 => ?_) (fun h37 => ?_)
  refine sr <| ag rfl rfl <| ag rfl rfl <| ag rfl rfl <| nq <| J_ret <| Q_then_ret <| J_pick (A := coA p _) PC ?_
  refine J_asTo (B := coA p (kAct s i x36).1) (by rw [hka]) ?_
  refine J_return (x36) Tryz.results53 (.tmp rfl (.tmp rfl (.tmp rfl .nil))) ?_ ?_
  · rw [hka]; cases ho : (kDoes s T q i x36).2 with
    | none => rfl
    | some y => rw [ho] at h37; cases h37
  · exact SU
  refine J_skip <| Q_then <| J_seq <| J_drawS mixed (by kernel_rfl) <| sp rfl (p_fieldAddr rfl fa247_0) <| S_val rfl (v_load rfl ty3 HS (by exact rfl)) ?_
  refine sp rfl (p_fieldAddr rfl fa247_1) <| S_val rfl (v_load rfl ty22 HS (by exact rfl)) ?_
  refine sp rfl (p_assign rfl) <| sp rfl (p_assign rfl) <| sp rfl (p_assign rfl) <| sq <| J_ret <| J_pick (A := coA p _) PC ?_
  refine J_asTo (B := coA p (kAct s i x36).1) (by rw [hka]) ?_
  refine J_return (x36) Tryz.results53 (.tmp rfl (.tmp rfl (.tmp rfl .nil))) ?_ ?_
  · rw [hka]; cases ho : (kDoes s T q i x36).2 with
    | none => rw [ho] at h37; cases h37
    | some y => rfl
  · exact SU
  refine x_alloc ty104 rfl fun b7 => i1 3 rfl <| xc fc51 (.cons rfl (.cons rfl .nil)) rfl (coRqGet (s := s) (i := i) PC) fun _ => ?_
  refine ip 4 rfl rfl rfl rfl (p_move rfl) <| ip 5 rfl rfl rfl rfl (p_extract rfl rfl) <| ip 6 rfl rfl rfl rfl (p_extract rfl rfl) <| i1 8 rfl <| x_store rfl rfl ty104 rfl SM SM RO PT ?_
  refine ip 9 rfl rfl rfl rfl (p_assign rfl) <| i0 <| Q_then <| J_seq <| sr <| mv rfl rfl <| L_pur rfl (p_not rfl) <| nq ?_
  refine C_split rfl (fun h19 => ?_) (fun h19 => ?_)
  have hq : look s.rt i = none := by
    cases hq : look s.rt i with
    | none => rfl
    | some y => rw [hq] at h19; simp at h19
  have hka : ∀ b, kAct s i b = (s, none) := fun b => by unfold kAct; rw [hq]
  refine sr <| ag rfl rfl <| ag rfl rfl <| ag rfl rfl <| nq <| J_ret <| Q_then_ret <| J_pick (A := coA p _) PC ?_
  refine J_asTo (B := coA p (kAct s i 0).1) (by rw [hka]) ?_
  refine J_return (0) Tryz.results53 (.tmp rfl (.tmp rfl (.tmp rfl .nil))) ?_ ?_
  · rw [hka]; rfl
  · exact SU
  obtain ⟨q, hq⟩ : ∃ x, look s.rt i = some x := by
    cases hq : look s.rt i with
    | none => rw [hq] at h19; simp at h19
    | some y => exact ⟨y, rfl⟩
  refine J_pick (A := blk b7 _ _) PC ?_
  refine J_asTo (B := blk b7 104 (encQ q)) (by rw [hq]; rfl) <| J_skip <| qx <| mv rfl rfl <| fa rfl rfl fa39_0 <| L_val rfl (v_load rfl ty3 HS (by exact rfl)) ?_
  refine L_op <| xc fc85 (.cons rfl (.cons rfl .nil)) rfl (coOwner (s := s) (r := i.1) PC) fun x24 => ?_
  refine J_pure fun hO => ?_
  obtain rfl := hG.own _ _ hO
  refine mv rfl rfl <| L_pur rfl (p_extract rfl rfl) <| L_pur rfl (p_extract rfl rfl) <| L_op <| x_alloc ty193 rfl fun b9 => L_op <| x_store rfl rfl ty193 rfl SM SM RO PT ?_
  refine ag rfl rfl <| nxx <| mv rfl rfl <| L_pur rfl (p_not rfl) <| nq ?_
  refine C_split rfl (fun h28 => ?_) (fun h28 => ?_)
  have hT : kOwner s i.1 = none := by
    cases hq : kOwner s i.1 with
    | none => rfl
    | some y => rw [hq] at h28; simp at h28
  have hka : ∀ b, kAct s i b = (s, failO 11) := fun b => by unfold kAct; rw [hq]; dsimp only; rw [hT]
  refine sr <| ag rfl rfl <| ag rfl rfl <| ag rfl rfl <| nq <| J_ret <| Q_then_ret <| J_pick (A := coA p _) PC ?_
  refine J_asTo (B := coA p (kAct s i 0).1) (by rw [hka]) ?_
  refine J_return (0) Tryz.results53 (.tmp rfl (.tmp rfl (.tmp rfl .nil))) ?_ ?_
  · rw [hka]; rfl
  · exact SU
  obtain ⟨T, hT⟩ : ∃ x, kOwner s i.1 = some x := by
    cases hq : kOwner s i.1 with
    | none => rw [hq] at h28; simp at h28
    | some y => exact ⟨y, rfl⟩
  have hka : ∀ b, kAct s i b = kDoes s T q i b := fun b => by unfold kAct; rw [hq]; dsimp only; rw [hT]
  refine J_skip <| qx <| mv rfl rfl <| L_val rfl (v_loadA rfl ty193 HS CT) ?_
  refine L_val rfl (v_loadA rfl ty104 HS CT) ?_
  refine L_val rfl (v_loadA rfl ty39 HS CT) ?_
  refine L_pur rfl (bld250 (.cons rfl (.cons rfl (.cons rfl (.cons rfl .nil)))) (by repeat constructor)) <| L_op <| x_box rfl rfl rfl fun b34 => J_pick (A := blk b34 _ _) PC ?_
  refine J_asTo (B := actA b34 p T q i) (by rw [hT]; rfl) <| L_op <| xc fc86 (.cons rfl .nil) rfl (hD q T hq _ _ _ b34 p PX) fun x36 => ?_
  refine L_op <| x_alloc ty247 rfl fun b10 => L_op <| x_store rfl rfl ty247 rfl SM SM RO PT ?_
  refine nxx <| fa rfl rfl fa247_2 <| L_val rfl (v_load rfl ty4 HS (by exact rfl)) ?_
  refine nq ?_
  refine C_split rfl (fun h37 => ?_) (fun h37 => ?_)
  refine sr <| ag rfl rfl <| ag rfl rfl <| ag rfl rfl <| nq <| J_ret <| Q_then_ret <| J_pick (A := coA p _) PC ?_
  refine J_asTo (B := coA p (kAct s i x36).1) (by rw [hka]) ?_
  refine J_return (x36) Tryz.results53 (.tmp rfl (.tmp rfl (.tmp rfl .nil))) ?_ ?_
  · rw [hka]; cases ho : (kDoes s T q i x36).2 with
    | none => rfl
    | some y => rw [ho] at h37; cases h37
  · exact SU
  refine J_skip <| Q_then <| J_seq <| J_drawS mixed (by kernel_rfl) <| sp rfl (p_fieldAddr rfl fa247_0) <| S_val rfl (v_load rfl ty3 HS (by exact rfl)) ?_
  refine sp rfl (p_fieldAddr rfl fa247_1) <| S_val rfl (v_load rfl ty22 HS (by exact rfl)) ?_
  refine sp rfl (p_assign rfl) <| sp rfl (p_assign rfl) <| sp rfl (p_assign rfl) <| sq <| J_ret <| J_pick (A := coA p _) PC ?_
  refine J_asTo (B := coA p (kAct s i x36).1) (by rw [hka]) ?_
  refine J_return (x36) Tryz.results53 (.tmp rfl (.tmp rfl (.tmp rfl .nil))) ?_ ?_
  · rw [hka]; cases ho : (kDoes s T q i x36).2 with
    | none => rw [ho] at h37; cases h37
    | some y => rfl
  · exact SU
  refine x_alloc ty104 rfl fun b7 => i1 1 rfl <| xc fc22 (.cons rfl .nil) rfl (coReqs) fun _ => i1 3 rfl <| xc fc51 (.cons rfl (.cons rfl .nil)) rfl (coRqGet (s := s) (i := i) PC) fun _ => ?_
  refine ip 4 rfl rfl rfl rfl (p_move rfl) <| ip 5 rfl rfl rfl rfl (p_extract rfl rfl) <| ip 6 rfl rfl rfl rfl (p_extract rfl rfl) <| i1 8 rfl <| x_store rfl rfl ty104 rfl SM SM RO PT ?_
  refine ip 9 rfl rfl rfl rfl (p_assign rfl) <| i0 <| Q_then <| J_seq <| sr <| mv rfl rfl <| L_pur rfl (p_not rfl) <| nq ?_
  refine C_split rfl (fun h19 => ?_) (fun h19 => ?_)
  have hq : look s.rt i = none := by
    cases hq : look s.rt i with
    | none => rfl
    | some y => rw [hq] at h19; simp at h19
  have hka : ∀ b, kAct s i b = (s, none) := fun b => by unfold kAct; rw [hq]
  refine sr <| ag rfl rfl <| ag rfl rfl <| ag rfl rfl <| nq <| J_ret <| Q_then_ret <| J_pick (A := coA p _) PC ?_
  refine J_asTo (B := coA p (kAct s i 0).1) (by rw [hka]) ?_
  refine J_return (0) Tryz.results53 (.tmp rfl (.tmp rfl (.tmp rfl .nil))) ?_ ?_
  · rw [hka]; rfl
  · exact SU
  obtain ⟨q, hq⟩ : ∃ x, look s.rt i = some x := by
    cases hq : look s.rt i with
    | none => rw [hq] at h19; simp at h19
    | some y => exact ⟨y, rfl⟩
  refine J_pick (A := blk b7 _ _) PC ?_
  refine J_asTo (B := blk b7 104 (encQ q)) (by rw [hq]; rfl) <| J_skip <| qx <| mv rfl rfl <| fa rfl rfl fa39_0 <| L_val rfl (v_load rfl ty3 HS (by exact rfl)) ?_
  refine L_op <| xc fc85 (.cons rfl (.cons rfl .nil)) rfl (coOwner (s := s) (r := i.1) PC) fun x24 => ?_
  refine J_pure fun hO => ?_
  obtain rfl := hG.own _ _ hO
  refine mv rfl rfl <| L_pur rfl (p_extract rfl rfl) <| L_pur rfl (p_extract rfl rfl) <| L_op <| x_alloc ty193 rfl fun b9 => L_op <| x_store rfl rfl ty193 rfl SM SM RO PT ?_
  refine ag rfl rfl <| nxx <| mv rfl rfl <| L_pur rfl (p_not rfl) <| nq ?_
  refine C_split rfl (fun h28 => ?_) (fun h28 => ?_)
  have hT : kOwner s i.1 = none := by
    cases hq : kOwner s i.1 with
    | none => rfl
    | some y => rw [hq] at h28; simp at h28
  have hka : ∀ b, kAct s i b = (s, failO 11) := fun b => by unfold kAct; rw [hq]; dsimp only; rw [hT]
  refine sr <| ag rfl rfl <| ag rfl rfl <| ag rfl rfl <| nq <| J_ret <| Q_then_ret <| J_pick (A := coA p _) PC ?_
  refine J_asTo (B := coA p (kAct s i 0).1) (by rw [hka]) ?_
  refine J_return (0) Tryz.results53 (.tmp rfl (.tmp rfl (.tmp rfl .nil))) ?_ ?_
  · rw [hka]; rfl
  · exact SU
  obtain ⟨T, hT⟩ : ∃ x, kOwner s i.1 = some x := by
    cases hq : kOwner s i.1 with
    | none => rw [hq] at h28; simp at h28
    | some y => exact ⟨y, rfl⟩
  have hka : ∀ b, kAct s i b = kDoes s T q i b := fun b => by unfold kAct; rw [hq]; dsimp only; rw [hT]
  refine J_skip <| qx <| mv rfl rfl <| L_val rfl (v_loadA rfl ty193 HS CT) ?_
  refine L_val rfl (v_loadA rfl ty104 HS CT) ?_
  refine L_val rfl (v_loadA rfl ty39 HS CT) ?_
  refine L_pur rfl (bld250 (.cons rfl (.cons rfl (.cons rfl (.cons rfl .nil)))) (by repeat constructor)) <| L_op <| x_box rfl rfl rfl fun b34 => J_pick (A := blk b34 _ _) PC ?_
  refine J_asTo (B := actA b34 p T q i) (by rw [hT]; rfl) <| L_op <| xc fc86 (.cons rfl .nil) rfl (hD q T hq _ _ _ b34 p PX) fun x36 => ?_
  refine L_op <| x_alloc ty247 rfl fun b10 => L_op <| x_store rfl rfl ty247 rfl SM SM RO PT ?_
  refine nxx <| fa rfl rfl fa247_2 <| L_val rfl (v_load rfl ty4 HS (by exact rfl)) ?_
  refine nq ?_
  refine C_split rfl (fun h37 => ?_) (fun h37 => ?_)
  refine sr <| ag rfl rfl <| ag rfl rfl <| ag rfl rfl <| nq <| J_ret <| Q_then_ret <| J_pick (A := coA p _) PC ?_
  refine J_asTo (B := coA p (kAct s i x36).1) (by rw [hka]) ?_
  refine J_return (x36) Tryz.results53 (.tmp rfl (.tmp rfl (.tmp rfl .nil))) ?_ ?_
  · rw [hka]; cases ho : (kDoes s T q i x36).2 with
    | none => rfl
    | some y => rw [ho] at h37; cases h37
  · exact SU
  refine J_skip <| Q_then <| J_seq <| J_drawS mixed (by kernel_rfl) <| sp rfl (p_fieldAddr rfl fa247_0) <| S_val rfl (v_load rfl ty3 HS (by exact rfl)) ?_
  refine sp rfl (p_fieldAddr rfl fa247_1) <| S_val rfl (v_load rfl ty22 HS (by exact rfl)) ?_
  refine sp rfl (p_assign rfl) <| sp rfl (p_assign rfl) <| sp rfl (p_assign rfl) <| sq <| J_ret <| J_pick (A := coA p _) PC ?_
  refine J_asTo (B := coA p (kAct s i x36).1) (by rw [hka]) ?_
  refine J_return (x36) Tryz.results53 (.tmp rfl (.tmp rfl (.tmp rfl .nil))) ?_ ?_
  · rw [hka]; cases ho : (kDoes s T q i x36).2 with
    | none => rw [ho] at h37; cases h37
    | some y => rfl
  · exact SU
end Go.Pse
namespace Go.Pse
open Go.RowKit Go.Proofs
theorem nodup_length_le {α : Type} [DecidableEq α] : ∀ {l m : List α}, l.Nodup → (∀ x ∈ l, x ∈ m) → l.length ≤ m.length
  | [], _, _, _ => Nat.zero_le _
  | x :: l, m, hn, hm => by
    rw [List.nodup_cons] at hn
    have hx := hm x List.mem_cons_self
    have h1 := nodup_length_le (l := l) (m := m.erase x) hn.2 fun y hy => by
      rw [List.mem_erase_of_ne (fun e => hn.1 (by rw [← e]; exact hy))]
      exact hm y (List.mem_cons_of_mem _ hy)
    rw [List.length_erase_of_mem hx] at h1
    have := List.length_pos_of_mem hx
    simp only [List.length_cons]
    omega
/-! ### plain: the slots are a tree, whatever is asked -/
theorem kids_mem {ps : List (Place × SV)} {p a : Place} (hK : Keyd ps) : a ∈ kids ps p ↔ (look ps p).isSome = true ∧ ∃ s, look ps a = some s ∧ s.2 = p := by
  unfold kids
  split
  · rename_i h
    rw [heirs_mem]
    constructor
    · rintro ⟨s, h1, h2⟩
      exact ⟨h, s, look_mem hK h1, by simpa using h2⟩
    · rintro ⟨_, s, h1, h2⟩
      exact ⟨s, mem_look h1, by simpa using h2⟩
  · rename_i h
    constructor
    · intro e; cases e
    · rintro ⟨e, _⟩; exact absurd e h
theorem turnL_keyd {to : Place} : ∀ {l : List Place} {ps : List (Place × SV)}, Keyd ps → Keyd (turnL ps to l)
  | [], _, h => h
  | _ :: l, _, h => turnL_keyd (l := l) (h.ins _ _)
theorem turnL_look {to x : Place} : ∀ {l : List Place} {ps : List (Place × SV)}, look (turnL ps to l) x = if x ∈ l then some (((look ps x).getD s0).1, to) else look ps x
  | [], _ => rfl
  | k :: l, ps => by
    have h := turnL_look (to := to) (x := x) (l := l) (ps := ins ps k (((look ps k).getD s0).1, to))
    show look (turnL (ins ps k (((look ps k).getD s0).1, to)) to l) x = _
    rw [h, look_ins]
    by_cases h1 : k = x
    · subst h1
      simp
    · have h2 : (x ∈ k :: l) ↔ x ∈ l := by simp [Ne.symm h1]
      simp [h1, h2]
structure TreeOk (ps : List (Place × SV)) : Prop where
  keyd : Keyd ps
  can : ∀ x s, look ps x = some s → canP x = true
  par : ∀ x s, look ps x = some s → s.2 = (0, 0) ∨ (look ps s.2).isSome = true
  caps : ∀ x s, look ps x = some s → checkC s.1 = true
  rank : ∃ rk : Place → Nat, ∀ x s, look ps x = some s → s.2 ≠ (0, 0) → rk s.2 < rk x
theorem TreeOk.capsOk {ps : List (Place × SV)} (h : TreeOk ps) : CapsOk ps := fun e he => h.caps e.1 e.2 (look_mem h.keyd he)
theorem canP_zero : canP (0, 0) = false := by decide
theorem TreeOk.nz {ps : List (Place × SV)} (h : TreeOk ps) {x : Place} (hx : (look ps x).isSome = true) : x ≠ (0, 0) := fun e => by
  obtain ⟨s, hs⟩ := Option.isSome_iff_exists.1 hx
  have := h.can x s hs
  rw [e, canP_zero] at this; cases this
def maxRk (rk : Place → Nat) (ps : List (Place × SV)) : Nat := ps.foldr (fun e n => max (rk e.1) n) 0
theorem TreeOk.put {ps : List (Place × SV)} (h : TreeOk ps) (p : Place) (c : Cap) (q : Place) : TreeOk (slPut ps p c q) := by
  unfold slPut
  split
  · rename_i hok
    unfold slPutOk at hok
    simp only [Bool.and_eq_true, Bool.not_eq_true', Bool.or_eq_true, decide_eq_true_eq] at hok
    obtain ⟨⟨⟨h1, h2⟩, h3⟩, h4⟩ := hok
    have hnone : look ps p = none := by cases hq : look ps p with
      | none => rfl
      | some y => rw [hq] at h2; cases h2
    obtain ⟨rk, hrk⟩ := h.rank
    have hold : ∀ x s, look ps x = some s → x ≠ p := fun x s hx e => by rw [e, hnone] at hx; cases hx
    refine ⟨h.keyd.ins _ _, fun x s hx => ?_, fun x s hx => ?_, fun x s hx => ?_, ⟨fun x => if x = p then maxRk rk ps + rk q + 1 else rk x, fun x s hx hs => ?_⟩⟩
    · rw [look_ins] at hx
      split at hx
      · rename_i e; rw [← e]; exact h1
      · exact h.can x s hx
    · rw [look_ins] at hx ⊢
      split at hx
      · cases hx
        rcases h4 with h4 | h4
        · exact .inl h4
        · right; split
          · rfl
          · exact h4
      · rcases h.par x s hx with h5 | h5
        · exact .inl h5
        · right; split
          · rfl
          · exact h5
    · rw [look_ins] at hx
      split at hx
      · cases hx; exact h3
      · exact h.caps x s hx
    · rw [look_ins] at hx
      split at hx
      · rename_i e
        cases hx
        rcases h4 with h4 | h4
        · exact absurd h4 hs
        · have hqp : q ≠ p := fun e2 => by rw [e2, hnone] at h4; cases h4
          dsimp only
          rw [if_neg hqp, if_pos e.symm]; omega
      · have hsp : s.2 ≠ p := fun e => by
          rcases h.par x s hx with h5 | h5
          · exact hs h5
          · rw [e, hnone] at h5; cases h5
        dsimp only
        rw [if_neg hsp, if_neg (hold x s hx)]
        exact hrk x s hx hs
  · exact h
theorem TreeOk.drop {ps : List (Place × SV)} (h : TreeOk ps) (p : Place) : TreeOk (dropS ps p) := by
  unfold dropS
  cases hp : look ps p with
  | none => exact h
  | some s0' =>
    obtain ⟨rk, hrk⟩ := h.rank
    have hsp : s0'.2 ≠ p := fun e => by
      have h1 := h.nz (x := p) (by rw [hp]; rfl)
      have := hrk p s0' hp (by rw [e]; exact h1)
      rw [e] at this; omega
    have hlk : ∀ x s, look (del (turnS ps p s0'.2) p) x = some s → x ≠ p ∧ ∃ t, look ps x = some t ∧ ((t.2 = p ∧ s = (t.1, s0'.2)) ∨ (t.2 ≠ p ∧ s = t)) := fun x s hx => by
      rw [look_del] at hx
      split at hx
      · cases hx
      · rename_i hne
        refine ⟨fun e => hne e.symm, ?_⟩
        unfold turnS at hx
        rw [turnL_look] at hx
        split at hx
        · rename_i hk
          obtain ⟨_, t, h1, h2⟩ := (kids_mem h.keyd).1 hk
          refine ⟨t, h1, .inl ⟨h2, ?_⟩⟩
          rw [h1] at hx; exact (Option.some.inj hx).symm
        · rename_i hk
          refine ⟨s, hx, .inr ⟨fun e => hk ((kids_mem h.keyd).2 ⟨by rw [hp]; rfl, s, hx, e⟩), rfl⟩⟩
    have hsome : ∀ x, x ≠ p → (look ps x).isSome = true → (look (del (turnS ps p s0'.2) p) x).isSome = true := fun x hx h1 => by
      rw [look_del, if_neg (fun e => hx e.symm)]
      unfold turnS
      exact turnL_some h1
    refine ⟨(turnL_keyd h.keyd).del _, fun x s hx => ?_, fun x s hx => ?_, fun x s hx => ?_, ⟨rk, fun x s hx hs => ?_⟩⟩
    · obtain ⟨_, t, h1, _⟩ := hlk x s hx
      exact h.can x t h1
    · obtain ⟨_, t, h1, h2⟩ := hlk x s hx
      rcases h2 with ⟨_, rfl⟩ | ⟨h2, rfl⟩
      · rcases h.par p s0' hp with h3 | h3
        · exact .inl h3
        · exact .inr (hsome _ hsp h3)
      · rcases h.par x s h1 with h3 | h3
        · exact .inl h3
        · exact .inr (hsome _ h2 h3)
    · obtain ⟨_, t, h1, h2⟩ := hlk x s hx
      rcases h2 with ⟨_, rfl⟩ | ⟨_, rfl⟩
      · exact h.caps x t h1
      · exact h.caps x s h1
    · obtain ⟨_, t, h1, h2⟩ := hlk x s hx
      rcases h2 with ⟨h2, rfl⟩ | ⟨_, rfl⟩
      · have h3 := hrk p s0' hp hs
        have h4 := hrk x t h1 (by rw [h2]; exact h.nz (by rw [hp]; rfl))
        rw [h2] at h4
        show rk s0'.2 < rk x
        omega
      · exact hrk x s h1 hs
theorem TreeOk.move {ps : List (Place × SV)} (h : TreeOk ps) (a b : Place) : TreeOk (moveS ps a b) := by
  unfold moveS
  split
  · rename_i hok
    unfold moveOk at hok
    simp only [Bool.and_eq_true, Bool.not_eq_true'] at hok
    obtain ⟨⟨h1, h2⟩, h3⟩ := hok
    obtain ⟨sa, ha⟩ := Option.isSome_iff_exists.1 h1
    have hnb : look ps b = none := by cases hq : look ps b with
      | none => rfl
      | some y => rw [hq] at h3; cases h3
    have hab : a ≠ b := fun e => by rw [e, hnb] at ha; cases ha
    rw [ha]
    show TreeOk (ins (del (turnS ps a b) a) b sa)
    obtain ⟨rk, hrk⟩ := h.rank
    have hsa : sa.2 ≠ a := fun e => by
      have := hrk a sa ha (by rw [e]; exact h.nz h1)
      rw [e] at this; omega
    have hsb : sa.2 ≠ b := fun e => by
      rcases h.par a sa ha with h4 | h4
      · rw [e] at h4; rw [h4, canP_zero] at h2; cases h2
      · rw [e, hnb] at h4; cases h4
    have hlk : ∀ x s, look (ins (del (turnS ps a b) a) b sa) x = some s → (x = b ∧ s = sa) ∨ (x ≠ b ∧ x ≠ a ∧ ∃ t, look ps x = some t ∧ ((t.2 = a ∧ s = (t.1, b)) ∨ (t.2 ≠ a ∧ s = t))) := fun x s hx => by
      rw [look_ins] at hx
      split at hx
      · rename_i e; exact .inl ⟨e.symm, (Option.some.inj hx).symm⟩
      · rename_i hne
        rw [look_del] at hx
        split at hx
        · cases hx
        · rename_i hne2
          refine .inr ⟨fun e => hne e.symm, fun e => hne2 e.symm, ?_⟩
          unfold turnS at hx
          rw [turnL_look] at hx
          split at hx
          · rename_i hk
            obtain ⟨_, t, g1, g2⟩ := (kids_mem h.keyd).1 hk
            refine ⟨t, g1, .inl ⟨g2, ?_⟩⟩
            rw [g1] at hx; exact (Option.some.inj hx).symm
          · rename_i hk
            exact ⟨s, hx, .inr ⟨fun e => hk ((kids_mem h.keyd).2 ⟨h1, s, hx, e⟩), rfl⟩⟩
    have hsome : ∀ x, x ≠ a → (look ps x).isSome = true → (look (ins (del (turnS ps a b) a) b sa) x).isSome = true := fun x hx g => by
      rw [look_ins]; split
      · rfl
      · rw [look_del, if_neg (fun e => hx e.symm)]
        unfold turnS
        exact turnL_some g
    have hb : (look (ins (del (turnS ps a b) a) b sa) b).isSome = true := by rw [look_ins, if_pos rfl]; rfl
    refine ⟨((turnL_keyd h.keyd).del _).ins _ _, fun x s hx => ?_, fun x s hx => ?_, fun x s hx => ?_, ⟨fun x => if x = b then rk a else rk x, fun x s hx hs => ?_⟩⟩
    · rcases hlk x s hx with ⟨rfl, _⟩ | ⟨_, _, t, g1, _⟩
      · exact h2
      · exact h.can x t g1
    · rcases hlk x s hx with ⟨rfl, rfl⟩ | ⟨_, _, t, g1, g2⟩
      · rcases h.par a s ha with g | g
        · exact .inl g
        · exact .inr (hsome _ hsa g)
      · rcases g2 with ⟨_, rfl⟩ | ⟨g2, rfl⟩
        · exact .inr hb
        · rcases h.par x s g1 with g | g
          · exact .inl g
          · exact .inr (hsome _ g2 g)
    · rcases hlk x s hx with ⟨rfl, rfl⟩ | ⟨_, _, t, g1, g2⟩
      · exact h.caps a s ha
      · rcases g2 with ⟨_, rfl⟩ | ⟨_, rfl⟩
        · exact h.caps x t g1
        · exact h.caps x s g1
    · rcases hlk x s hx with ⟨rfl, rfl⟩ | ⟨gx, gy, t, g1, g2⟩
      · dsimp only
        rw [if_neg hsb, if_pos rfl]
        exact hrk a s ha hs
      · rcases g2 with ⟨g2, rfl⟩ | ⟨g2, rfl⟩
        · dsimp only
          rw [if_pos rfl, if_neg gx]
          have := hrk x t g1 (by rw [g2]; exact h.nz h1)
          rw [g2] at this; exact this
        · have g3 : s.2 ≠ b := fun e => by
            rcases h.par x s g1 with g | g
            · exact hs g
            · rw [e, hnb] at g; cases g
          dsimp only
          rw [if_neg g3, if_neg gx]
          exact hrk x s g1 hs
  · exact h
theorem dropK_ind {D : List (Place × SV) → Place → List (Place × SV) × List Obj2} {Q : List (Place × SV) → Prop} (hD : ∀ ps p, Q ps → Q (D ps p).1) {u : Int} {x : List (Place × SV) × List Obj2} (hx : Q x.1) : ∀ n, Q (dropK D u n x).1
  | 0 => hx
  | n + 1 => by rw [dropK_succ]; exact hD _ _ (dropK_ind hD hx n)
theorem TreeOk.dropT : ∀ n {ps : List (Place × SV)} (p : Place), TreeOk ps → TreeOk (kDropT n ps p).1
  | 0, _, _, h => h
  | n + 1, ps, p, h => by
    rw [kDropT]
    split
    · exact h
    · split
      · exact h.drop p
      · split
        · exact dropK_ind (Q := TreeOk) (fun ps p h => TreeOk.dropT n p h) (x := (dropS ps p, _)) (h.drop p) 16
        · exact h.drop p
theorem TreeOk.belowL {ps : List (Place × SV)} (h : TreeOk ps) {p : Place} {rk : Place → Nat} (hrk : ∀ x s, look ps x = some s → s.2 ≠ (0, 0) → rk s.2 < rk x) (hp : (look ps p).isSome = true) : ∀ (n : Nat) (done todo : List Place), (done ++ todo).Nodup → (∀ x ∈ done ++ todo, rk p < rk x ∧ ∃ s, look ps x = some s ∧ (s.2 = p ∨ s.2 ∈ done)) → ps.length ≤ n + done.length → ∃ L, belowL ps n done todo = some L ∧ ∀ x ∈ L, (look ps x).isSome = true
  | n, done, [], _, hm, _ => ⟨done, by unfold Go.Pse.belowL; rfl, fun x hx => by
    obtain ⟨_, s, hs, _⟩ := hm x (by simpa using hx)
    rw [hs]; rfl⟩
  | 0, done, a :: ts, hn, hm, hl => by
    exfalso
    have h1 : (done ++ a :: ts).length ≤ (ps.map Prod.fst).length := nodup_length_le hn fun x hx => by
      obtain ⟨_, s, hs, _⟩ := hm x hx
      exact List.mem_map.2 ⟨(x, s), mem_look hs, rfl⟩
    rw [List.length_map] at h1
    simp at h1; omega
  | n + 1, done, a :: ts, hn, hm, hl => by
    rw [Go.Pse.belowL]
    have ha := hm a (by simp)
    obtain ⟨hra, sa, hsa, hpa⟩ := ha
    refine TreeOk.belowL h hrk hp n (done ++ [a]) (ts ++ kids ps a) ?_ ?_ (by simp; omega)
    · have e : done ++ [a] ++ (ts ++ kids ps a) = (done ++ a :: ts) ++ kids ps a := by simp
      rw [e, List.nodup_append]
      refine ⟨hn, ?_, ?_⟩
      · unfold kids
        split
        · unfold heirs
          refine ((sortF_isPerm _).nodup_iff).2 ?_
          exact List.Nodup.sublist (List.Sublist.map _ List.filter_sublist) h.keyd
        · exact List.nodup_nil
      · intro x hx y hy hxy
        subst hxy
        obtain ⟨_, s, hs, h2⟩ := (kids_mem h.keyd).1 hy
        obtain ⟨_, s', hs', h3⟩ := hm x hx
        rw [hs] at hs'
        cases hs'
        rw [h2] at h3
        rcases h3 with h3 | h3
        · rw [h3] at hra; omega
        · have := (List.nodup_append.1 hn).2.2 a h3 a (by simp)
          exact this rfl
    · intro x hx
      rw [show done ++ [a] ++ (ts ++ kids ps a) = (done ++ a :: ts) ++ kids ps a by simp] at hx
      rcases List.mem_append.1 hx with hx | hx
      · obtain ⟨h1, s, h2, h3⟩ := hm x hx
        exact ⟨h1, s, h2, h3.imp id fun h => by simp [h]⟩
      · obtain ⟨_, s, h1, h2⟩ := (kids_mem h.keyd).1 hx
        have h3 := hrk x s h1 (by rw [h2]; exact h.nz (by rw [hsa]; rfl))
        rw [h2] at h3
        exact ⟨by omega, s, h1, .inr (by simp [h2])⟩
theorem TreeOk.below {ps : List (Place × SV)} (h : TreeOk ps) {p : Place} (hp : (look ps p).isSome = true) : ∃ L, belowS ps p = some L ∧ ∀ x ∈ L, (look ps x).isSome = true := by
 obtain ⟨rk, hrk⟩ := h.rank
 obtain ⟨L, h1, h2⟩ := h.belowL hrk hp ps.length [] (kids ps p) (by
  rw [List.nil_append]
  unfold kids
  rw [if_pos hp]
  unfold heirs
  refine ((sortF_isPerm _).nodup_iff).2 ?_
  exact List.Nodup.sublist (List.Sublist.map _ List.filter_sublist) h.keyd) (fun x hx => by
   rw [List.nil_append] at hx
   obtain ⟨_, s, h1, h2⟩ := (kids_mem h.keyd).1 hx
   have h3 := hrk x s h1 (by rw [h2]; exact h.nz hp)
   rw [h2] at h3
   exact ⟨h3, s, h1, .inl h2⟩) (by simp)
 exact ⟨sortP L, by unfold belowS; rw [h1]; rfl, fun x hx => h2 x (by unfold sortP at hx; exact sortF_mem.1 hx)⟩
theorem belowS_none {ps : List (Place × SV)} {p : Place} (hp : look ps p = none) : belowS ps p = some [] := by
  have : kids ps p = [] := by unfold kids; rw [hp]; rfl
  unfold belowS
  rw [this]
  unfold Go.Pse.belowL
  rfl
theorem TreeOk.revL : ∀ {n : Nat} {ps : List (Place × SV)} {p : Place} {out : List Obj2}, TreeOk ps → ps.length < n → (revL p n ps out).isSome = true
 | 0, _, _, _, _, hl => by omega
 | n + 1, ps, p, out, h, hl => by
  have hb : ∃ L, belowS ps p = some L ∧ ∀ x ∈ L, (look ps x).isSome = true := by
   cases hp : look ps p with
   | none => exact ⟨[], belowS_none hp, fun _ hx => by cases hx⟩
   | some s => exact h.below (by rw [hp]; rfl)
  obtain ⟨L, h1, h2⟩ := hb
  cases L with
  | nil => rw [Go.Pse.revL, h1]; rfl
  | cons a ls =>
   rw [revL_step h1]
   obtain ⟨s, hs⟩ := Option.isSome_iff_exists.1 (h2 a List.mem_cons_self)
   obtain ⟨k, hk⟩ : ∃ k, ps.length = k + 1 := ⟨ps.length - 1, by have := del_less hs; omega⟩
   have hless := kDropT_less (n := k) hs
   rw [← hk] at hless
   exact TreeOk.revL (h.dropT _ a) (by omega)
theorem TreeOk.revOk {ps : List (Place × SV)} (h : TreeOk ps) (p : Place) : RevOk ps p := fun _ => h.revL (by omega)
theorem TreeOk.revT {p : Place} : ∀ {n : Nat} {ps : List (Place × SV)} {out : List Obj2} {r : List (Place × SV) × List Obj2}, TreeOk ps → Go.Pse.revL p n ps out = some r → TreeOk r.1 ∧ r.1.length ≤ ps.length
  | 0, _, _, _, _, hr => by simp [Go.Pse.revL] at hr
  | n + 1, ps, out, r, h, hr => by
    obtain ⟨L, hb⟩ := revL_below hr
    cases L with
    | nil => rw [Go.Pse.revL, hb] at hr; cases hr; exact ⟨h, Nat.le_refl _⟩
    | cons a ls =>
      rw [revL_step hb] at hr
      have h1 := TreeOk.revT (h.dropT _ a) hr
      exact ⟨h1.1, Nat.le_trans h1.2 (by have := kDropT_len ps.length ps a; omega)⟩
end Go.Pse
