/-
  The law on the order in which they are due.
-/
import Derived.Test.YtjolbnicboaaeaaTm6
namespace Go.Pse
open Go.RowKit Go.Proofs

def TR (zs : List Int) (k : Nat) : Tm := ((num (zs.getD k 0) 50 : Int), (2, (k : Int)))
theorem TR_inj (zs : List Int) : ∀ j k, (TR zs j).2 = (TR zs k).2 → j = k := fun j k e => by have := congrArg Prod.snd e; simp only [TR] at this; omega
theorem num_50 {x : Int} : (0 : Int) ≤ num x 50 ∧ (num x 50 : Int) < 50 := by have := num_lt (x := x) (b := 50) (by omega); omega
def Mem (T : Nat → Tm) (n : Nat) (xs : List Tm) (g : List Bool) : Prop := g.length = n ∧ (∀ c ∈ xs, ∃ k, k < n ∧ c = T k ∧ g[k]? = some false) ∧ ∀ k, g[k]? = some false → T k ∈ xs
theorem Mem.start {T : Nat → Tm} {n : Nat} {xs : List Tm} (h : xs.Perm ((List.range n).map T)) : Mem T n xs (List.replicate n false) := by
  refine ⟨by simp, fun c hc => ?_, fun k hk => ?_⟩
  · obtain ⟨j, hj, rfl⟩ := List.mem_map.1 (h.mem_iff.1 hc)
    have hj' : j < n := by simpa using hj
    exact ⟨j, hj', rfl, by simp [hj']⟩
  · have hk' : k < n := by have := (List.getElem?_eq_some_iff.1 hk).1; simpa using this
    exact h.mem_iff.2 (List.mem_map.2 ⟨k, by simpa using hk', rfl⟩)
theorem Mem.step {T : Nat → Tm} (hT : ∀ j k, (T j).2 = (T k).2 → j = k) {n j : Nat} {r : List Tm} {g : List Bool} (h : Mem T n (T j :: r) g) (hs : Srt (T j :: r)) : Mem T n r (g.set j true) := by
  obtain ⟨h0, h1, h2⟩ := h
  have hne : ∀ c ∈ r, c ≠ T j := fun c hc e => by
    have := (List.pairwise_cons.1 hs).1 c hc
    rw [e, ltT_iff] at this; omega
  refine ⟨by simpa using h0, fun c hc => ?_, fun k hk => ?_⟩
  · obtain ⟨k, hk, rfl, hg⟩ := h1 c (List.mem_cons_of_mem _ hc)
    refine ⟨k, hk, rfl, ?_⟩
    have hjk : ¬ j = k := fun e => hne _ hc (by rw [e])
    rw [List.getElem?_set, if_neg hjk]; exact hg
  · rw [List.getElem?_set] at hk
    split at hk
    · split at hk <;> cases hk
    · rename_i hjk
      rcases List.mem_cons.1 (h2 k hk) with e | e
      · exact absurd (hT k j (by rw [e])).symm hjk
      · exact e
def Low (lb : Int × Int) (xs : List Tm) : Prop := ∀ c ∈ xs, lb.1 < c.1 ∨ (lb.1 = c.1 ∧ lb.2 ≤ c.2.2)
theorem Low.step {zs : List Int} {c : Tm} {r : List Tm} (hs : Srt (c :: r)) (h2 : ∀ d ∈ c :: r, d.2.1 = 2) : Low (c.1, c.2.2) r := fun d hd => by
  have := (List.pairwise_cons.1 hs).1 d hd
  rw [ltT_iff] at this
  have e1 := h2 d (List.mem_cons_of_mem _ hd)
  have e2 := h2 c (by simp)
  show c.1 < d.1 ∨ _
  simp only
  omega
theorem Low.sub {lb : Int × Int} {xs ys : List Tm} (h : Low lb xs) (hs : ∀ c ∈ ys, c ∈ xs) : Low lb ys := fun c hc => h c (hs c hc)
def encB' (b : Bool) : List Value := [.bool b]

set_option maxRecDepth 100000 in
set_option maxHeartbeats 4000000 in
theorem timerRises {E W : World} {v u : Value} {zs ss : List Int} (hr : Reads W 1 v (zs.map fun z => [Value.int .i64 z])) (hz : Reads W 1 u (ss.map fun z => [Value.int .i64 z])) :
  Con Try.prog 21 #[v, u] E [old W] (fun _ : Unit => .bool true) (fun _ => [old W]) := by
 refine Con.body (vs := [v, u]) (n := 160) Try.func21 rfl rfl [(0, v), (1, u)] (env_ok 2 rfl) ?_
 refine J_readsB (fun w H => hr.old HS H) fun hw a cap hv h1 h2 h3 => ?_
 subst hv
 have hm : cap ≤ 9223372036854775807 := h2
 have hml : (zs.map fun z => [Value.int .i64 z]).length = zs.length := List.length_map _
 refine J_readsB (fun w H => hz.old HS H) fun hw' a' cap' hv' h1' h2' h3' => ?_
 subst hv'
 have hm' : cap' ≤ 9223372036854775807 := h2'
 have hml' : (ss.map fun z => [Value.int .i64 z]).length = ss.length := List.length_map _
 refine J_seq ?_
 refine J_region ?_
 refine L_pur rfl (p_assign rfl) ?_
 refine L_nil ?_
 refine Q_then ?_
 refine J_seq ?_
 refine J_region ?_
 refine L_op (x_call Try.func70 nm70 bd70 .nil rfl (first21) fun _ => ?_)
 refine L_pur rfl (p_assign rfl) ?_
 refine L_nil ?_
 refine Q_then ?_
 refine J_seq ?_
 refine J_seq ?_
 refine J_region ?_
 refine L_pur rfl (p_move rfl) ?_
 refine L_pur rfl (p_not rfl) ?_
 refine L_nil ?_
 refine Q_then ?_
 refine J_bool (t := 23) (c := false) rfl (rfl) ?_
 refine C_false rfl ?_
 refine J_skip ?_
 refine Q_then ?_
 refine J_seq ?_
 refine J_seq ?_
 refine J_region ?_
 refine L_pur rfl (p_move rfl) ?_
 refine L_pur rfl (p_len rfl Try.underlying23) ?_
 refine L_pur rfl (p_gtr rfl rfl) ?_
 refine L_pur rfl (p_move rfl) ?_
 refine J_gsplit (t := 27) rfl (fun h27 => ?_) (fun h27 => ?_)
 ·
  refine L_op (G_off rfl rfl rfl rfl rfl rfl ?_)
  refine L_op (G_off rfl rfl rfl rfl rfl rfl ?_)
  refine L_op (G_off rfl rfl rfl rfl rfl rfl ?_)
  refine L_pur rfl (p_pick_t rfl rfl) ?_
  refine L_nil ?_
  refine Q_then ?_
  refine C_true rfl ?_
  refine J_seq ?_
  refine J_region ?_
  refine L_pur rfl (p_move rfl) ?_
  refine L_pur rfl (p_assign rfl) ?_
  refine L_nil ?_
  refine Q_then ?_
  refine J_ret ?_
  refine Q_then_ret ?_
  exact J_return (()) Try.results21 (.tmp rfl .nil) rfl SU
 ·
  have hzl30 : zs.length ≤ 30 := by simp at h27; omega
  refine L_op (G_on rfl rfl rfl ?_)
  refine J_pur (p_move rfl) rfl rfl rfl ?_
  refine L_op (G_on rfl rfl rfl ?_)
  refine J_pur (p_len rfl Try.underlying23) rfl rfl rfl ?_
  refine L_op (G_on rfl rfl rfl ?_)
  refine J_pur (p_gtr rfl rfl) rfl rfl rfl ?_
  refine L_pur rfl (p_pick_f rfl rfl) ?_
  refine L_nil ?_
  refine Q_then ?_
  refine C_dec rfl (fun h31 => ?_) (fun h31 => ?_)
  ·
   refine J_seq ?_
   refine J_region ?_
   refine L_pur rfl (p_move rfl) ?_
   refine L_pur rfl (p_assign rfl) ?_
   refine L_nil ?_
   refine Q_then ?_
   refine J_ret ?_
   refine Q_then_ret ?_
   exact J_return (()) Try.results21 (.tmp rfl .nil) rfl SU
  ·
   refine J_skip ?_
   refine Q_then ?_
   refine J_seq ?_
   refine J_region ?_
   refine L_op (x_alloc ty134 rfl fun b6 => ?_)
   refine J_hpNew ?_
   refine L_nil ?_
   refine Q_then ?_
   refine J_seq ?_
   refine J_seq ?_
   refine J_region ?_
   refine L_pur rfl (p_assign rfl) ?_
   refine L_nil ?_
   refine Q_then ?_
   refine J_block ?_
   refine J_loop2 (fun i xs => i ≤ zs.length ∧ xs.Perm ((List.range i).map (TR zs))) (fun i xs => [hpA b6 0 xs, old W]) (fun i xs => [(7, .int .i64 (i : Int)), (0, .slice a (zs.map fun z => [Value.int .i64 z]).length cap), (5, .bool true), (6, .pointer (some ⟨b6, 0, none⟩)), (1, .slice a' (ss.map fun z => [Value.int .i64 z]).length cap')]) (fun i xs => zs.length - i) 0 ([] : List Tm) ⟨by omega, List.Perm.refl _⟩ SU KE ?_
   intro i xs ⟨hi, hp⟩
   have hxl : xs.length = i := by have := hp.length_eq; simpa using this
   refine J_seq ?_
   refine J_seq ?_
   refine J_region ?_
   refine L_pur rfl (p_move rfl) ?_
   refine L_pur rfl (p_move rfl) ?_
   refine L_pur rfl (p_len rfl Try.underlying23) ?_
   refine L_pur rfl (p_lss rfl rfl) ?_
   refine L_nil ?_
   refine Q_then ?_
   refine C_dec rfl (fun h36 => ?_) (fun h36 => ?_)
   ·
    have hlt : i < zs.length := by omega
    obtain ⟨bx, ox, rfl⟩ := h3 (by intro h; rw [h] at hml; simp at hml; omega)
    obtain ⟨c, hcc⟩ : ∃ c, zs[i]? = some c := ⟨_, List.getElem?_eq_getElem hlt⟩
    have hT1 : (TR zs i).1 = (num c 50 : Int) := by simp [TR, List.getD, hcc]
    have hnl := num_50 (x := c)
    refine J_skip ?_
    refine Q_then ?_
    refine J_seq ?_
    refine J_block ?_
    refine J_region ?_
    refine L_pur rfl (p_move rfl) ?_
    refine L_pur rfl (p_move rfl) ?_
    refine L_pur rfl (p_indexAddr rfl rfl Try.underlying23 ty3 (by omega) (by omega)) ?_
    refine L_val rfl (v_loadR1 rfl ty3 (fun w H => hr.old HS H) (by first | (simp only [Int.toNat_natCast, List.getElem?_map, hcc]; rfl) | (simp only [Int.toNat_natCast, List.getElem?_map, hcd]; rfl) | simp | rfl)) ?_
    refine L_op (x_call Try.func23 nm23 bd23 (.cons rfl (.cons rfl .nil)) rfl (number (by omega) (by omega)) fun _ => ?_)
    refine L_pur rfl (p_conv rfl Try.underlying3 Try.underlying136) ?_
    refine J_slot (t := 44) (v := .int .u64 (TR zs i).1) rfl (by rw [wrap64u_of ⟨by omega, by omega⟩, hT1]) ?_
    refine L_pur rfl (p_move rfl) ?_
    refine L_pur rfl (bld36 (.cons rfl (.cons rfl .nil)) (by repeat constructor)) ?_
    refine J_slot (t := 46) (v := .agg (encI (TR zs i).2).toArray) rfl (by rfl) ?_
    refine L_op (x_call Try.func71 nm71 bd71 (.cons rfl (.cons rfl (.cons rfl .nil))) rfl (hPush (xs := xs) PC (by omega) (TR zs i).1 (TR zs i).2) fun _ => ?_)
    refine L_nil ?_
    refine Q_blk_normal ?_
    refine Q_then ?_
    refine J_region ?_
    refine L_pur rfl (p_move rfl) ?_
    refine L_pur rfl (p_add64 rfl rfl (by omega)) ?_
    refine L_pur rfl (p_assign rfl) ?_
    refine L_nil ?_
    refine Q_then ?_
    exact J_again2 (i + 1) (hpush xs (TR zs i)) (by omega) (⟨by omega, push_new (TR_inj zs) hp⟩) SU KE
   ·
    have hin : i = zs.length := by omega
    subst hin
    obtain ⟨N, hN⟩ : ∃ N, N = zs.length := ⟨_, rfl⟩
    rw [← hN] at hp hxl
    have hmN : (zs.map fun z => [Value.int .i64 z]).length = N := by rw [hml, hN]
    refine J_exit ?_
    refine Q_then_exit ?_
    refine Q_then_exit ?_
    refine Q_blk_this ?_
    refine Q_then ?_
    refine J_seq ?_
    refine J_region ?_
    refine L_pur rfl (p_assign rfl) ?_
    refine L_nil ?_
    refine Q_then ?_
    refine J_seq ?_
    refine J_region ?_
    refine L_pur rfl (p_assign rfl) ?_
    refine L_nil ?_
    refine Q_then ?_
    refine J_seq ?_
    refine J_region ?_
    refine L_pur rfl (p_assign rfl) ?_
    refine L_nil ?_
    refine Q_then ?_
    refine J_seq ?_
    refine J_region ?_
    refine L_pur rfl (p_move rfl) ?_
    refine L_pur rfl (p_len rfl Try.underlying23) ?_
    refine J_slot (t := 49) (v := .int .i64 (N : Int)) rfl (by rw [hmN]) ?_
    refine L_op (x_make rfl rfl Try.underlying22 ty4 rfl rfl (by omega) (by omega) rfl rfl fun v50 => ?_)
    refine J_rowEq (ys := (List.replicate N false).map encB') (by simp [encB']) ?_
    refine J_row .here fun hw50 a50 c50 hv50 hl50 hm50 hz50 => ?_
    subst hv50
    refine J_rowTo (v' := .slice a50 N c50) (ys := (List.replicate N false).map encB') rfl (by simp) ?_
    refine J_slot (t := 50) (v := .slice a50 N c50) rfl (by simp) ?_
    refine L_pur rfl (p_assign rfl) ?_
    refine L_nil ?_
    refine Q_then ?_
    refine J_seq ?_
    refine J_seq ?_
    refine J_region ?_
    refine L_pur rfl (p_assign rfl) ?_
    refine L_nil ?_
    refine Q_then ?_
    refine J_block ?_
    refine J_loop5 (fun (i : Nat) (xs : List Tm) (g : List Bool) (now : Int) (lb : Int × Int) => i ≤ ss.length + 1 ∧ Mem (TR zs) N xs g ∧ Low lb xs ∧ 0 ≤ now ∧ (i ≤ ss.length → now ≤ 9 * (i : Int)) ∧ (i = ss.length + 1 → xs = []) ∧ xs.length ≤ 1000) (fun i xs g now lb => [hpA b6 0 xs, row 4 1 (.slice a50 N c50) (g.map encB'), old W]) (fun i xs g now lb => [(8, .int .u64 now), (9, .int .u64 lb.1), (10, .int .i64 lb.2), (11, .slice a50 N c50), (12, .int .i64 (i : Int)), (0, .slice a (zs.map fun z => [Value.int .i64 z]).length cap), (5, .bool true), (6, .pointer (some ⟨b6, 0, none⟩)), (1, .slice a' (ss.map fun z => [Value.int .i64 z]).length cap')]) (fun i xs g now lb => ss.length + 1 - i) 0 xs (List.replicate N false) (0 : Int) ((0, -1) : Int × Int) ⟨by omega, Mem.start hp, fun c hc => by obtain ⟨j, _, rfl⟩ := List.mem_map.1 (hp.mem_iff.1 hc); have := num_50 (x := zs.getD j 0); simp only [TR]; omega, by omega, by omega, by omega, by omega⟩ SU KE ?_
    intro i xs g now0 lb ⟨hi, hM, hL, hn0, hn1, hend, hxl2⟩
    have hgl := hM.1
    refine J_seq ?_
    refine J_seq ?_
    refine J_region ?_
    refine L_pur rfl (p_move rfl) ?_
    refine L_pur rfl (p_move rfl) ?_
    refine L_pur rfl (p_len rfl Try.underlying23) ?_
    refine L_pur rfl (p_leq rfl rfl) ?_
    refine L_nil ?_
    refine Q_then ?_
    refine C_dec rfl (fun h54 => ?_) (fun h54 => ?_)
    ·
     refine J_skip ?_
     refine Q_then ?_
     refine J_seq ?_
     refine J_block ?_
     refine J_cut (fun now : Int => As.pure (0 ≤ now ∧ (i < ss.length → now ≤ 9 * (i + 1)) ∧ (i = ss.length → now = 1000)) :: hpA b6 0 xs :: row 4 1 (.slice a50 N c50) (g.map encB') :: [old W]) (fun now : Int => [(8, .int .u64 now), (9, .int .u64 lb.1), (10, .int .i64 lb.2), (11, .slice a50 N c50), (12, .int .i64 (i : Int)), (0, .slice a (zs.map fun z => [Value.int .i64 z]).length cap), (5, .bool true), (6, .pointer (some ⟨b6, 0, none⟩)), (1, .slice a' (ss.map fun z => [Value.int .i64 z]).length cap')]) ?_ ?_
     ·
      refine J_seq ?_
      refine J_region ?_
      refine L_pur rfl (p_move rfl) ?_
      refine L_pur rfl (p_move rfl) ?_
      refine L_pur rfl (p_len rfl Try.underlying23) ?_
      refine L_pur rfl (p_eql rfl rfl) ?_
      refine L_nil ?_
      refine Q_then ?_
      refine C_dec rfl (fun h60 => ?_) (fun h60 => ?_)
      ·
       refine J_region ?_
       refine L_pur rfl (p_assign rfl) ?_
       refine L_nil ?_
       refine Q_then ?_
       refine J_pure_in (p := 0 ≤ (1000 : Int) ∧ (i < ss.length → (1000 : Int) ≤ 9 * (i + 1)) ∧ (i = ss.length → (1000 : Int) = 1000)) (by exact ⟨by omega, by omega, fun _ => rfl⟩) ?_
       exact J_at (L := (fun now : Int => As.pure (0 ≤ now ∧ (i < ss.length → now ≤ 9 * (i + 1)) ∧ (i = ss.length → now = 1000)) :: hpA b6 0 xs :: row 4 1 (.slice a50 N c50) (g.map encB') :: [old W])) (G := (fun now : Int => [(8, .int .u64 now), (9, .int .u64 lb.1), (10, .int .i64 lb.2), (11, .slice a50 N c50), (12, .int .i64 (i : Int)), (0, .slice a (zs.map fun z => [Value.int .i64 z]).length cap), (5, .bool true), (6, .pointer (some ⟨b6, 0, none⟩)), (1, .slice a' (ss.map fun z => [Value.int .i64 z]).length cap')])) 1000 SU KE
      ·
       have hlt : i < ss.length := by omega
       obtain ⟨bx, ox, hax⟩ := h3' (by intro h; rw [h] at hml'; simp at hml'; omega)
       subst hax
       obtain ⟨s, hcc⟩ : ∃ s, ss[i]? = some s := ⟨_, List.getElem?_eq_getElem hlt⟩
       have hs9 := num_lt (x := s) (b := 9) (by omega)
       refine J_region ?_
       refine L_pur rfl (p_move rfl) ?_
       refine L_pur rfl (p_move rfl) ?_
       refine L_pur rfl (p_move rfl) ?_
       refine L_pur rfl (p_indexAddr rfl rfl Try.underlying23 ty3 (by omega) (by omega)) ?_
       refine L_val rfl (v_loadR1 rfl ty3 (fun w H => hz.old HS H) (by first | (simp only [Int.toNat_natCast, List.getElem?_map, hcc]; rfl) | (simp only [Int.toNat_natCast, List.getElem?_map, hcd]; rfl) | simp | rfl)) ?_
       refine L_op (x_call Try.func23 nm23 bd23 (.cons rfl (.cons rfl .nil)) rfl (number (by omega) (by omega)) fun _ => ?_)
       refine L_pur rfl (p_conv rfl Try.underlying3 Try.underlying136) ?_
       refine J_slot (t := 67) (v := .int .u64 (num s 9 : Int)) rfl (by rw [wrap64u_of ⟨by omega, by omega⟩]) ?_
       refine L_pur rfl (p_add rfl rfl) ?_
       refine J_slot (t := 68) (v := .int .u64 (now0 + (num s 9 : Int))) rfl (by rw [wrap64u_of ⟨by omega, by omega⟩]) ?_
       refine L_pur rfl (p_assign rfl) ?_
       refine L_nil ?_
       refine Q_then ?_
       refine J_pure_in (p := 0 ≤ ((now0 + (num s 9 : Int)) : Int) ∧ (i < ss.length → ((now0 + (num s 9 : Int)) : Int) ≤ 9 * (i + 1)) ∧ (i = ss.length → ((now0 + (num s 9 : Int)) : Int) = 1000)) (by exact ⟨by omega, by omega, by omega⟩) ?_
       exact J_at (L := (fun now : Int => As.pure (0 ≤ now ∧ (i < ss.length → now ≤ 9 * (i + 1)) ∧ (i = ss.length → now = 1000)) :: hpA b6 0 xs :: row 4 1 (.slice a50 N c50) (g.map encB') :: [old W])) (G := (fun now : Int => [(8, .int .u64 now), (9, .int .u64 lb.1), (10, .int .i64 lb.2), (11, .slice a50 N c50), (12, .int .i64 (i : Int)), (0, .slice a (zs.map fun z => [Value.int .i64 z]).length cap), (5, .bool true), (6, .pointer (some ⟨b6, 0, none⟩)), (1, .slice (some ⟨bx, ox, none⟩) (ss.map fun z => [Value.int .i64 z]).length cap')])) (now0 + (num s 9 : Int)) SU KE
     ·
      intro now
      refine J_pure fun ⟨hw0, hw1, hw2⟩ => ?_
      refine J_hpSrt .here fun hs => ?_
      have hdl := due_len xs now
      obtain ⟨ds, hds⟩ : ∃ ds, ds = due xs now := ⟨_, rfl⟩
      have hxd := due_late xs now
      rw [← hds] at hxd hdl
      have h2all : ∀ c ∈ xs, c.2.1 = 2 := fun c hc => by obtain ⟨j, _, rfl, _⟩ := hM.2.1 c hc; rfl
      refine J_seq ?_
      refine J_region ?_
      refine L_pur rfl (p_move rfl) ?_
      refine L_op (x_call Try.func74 nm74 bd74 (.cons rfl (.cons rfl .nil)) rfl (hDue (xs := xs) PC (by omega) now) fun v70 => ?_)
      refine J_rowEq (ys := (ds.map Prod.snd).map encI) (by rw [hds]) ?_
      refine J_row .here fun hw70 a70 c70 hv70 hl70 hm70 hz70 => ?_
      subst hv70
      have hmd : ((ds.map Prod.snd).map encI).length = ds.length := by simp
      refine L_pur rfl (p_assign rfl) ?_
      refine L_nil ?_
      refine Q_then ?_
      refine J_seq ?_
      refine J_seq ?_
      refine J_region ?_
      refine L_pur rfl (p_assign rfl) ?_
      refine L_nil ?_
      refine Q_then ?_
      refine J_block ?_
      refine J_loop3 (fun k g lb => k ≤ ds.length ∧ Mem (TR zs) N (xs.drop k) g ∧ Low lb (xs.drop k)) (fun k g lb => [row 36 2 (.slice a70 ((ds.map Prod.snd).map encI).length c70) ((ds.map Prod.snd).map encI), hpA b6 0 (late xs now), row 4 1 (.slice a50 N c50) (g.map encB'), old W]) (fun k g lb => [(14, .int .i64 (k : Int)), (13, .slice a70 ((ds.map Prod.snd).map encI).length c70), (8, .int .u64 now), (9, .int .u64 lb.1), (10, .int .i64 lb.2), (11, .slice a50 N c50), (12, .int .i64 (i : Int)), (0, .slice a (zs.map fun z => [Value.int .i64 z]).length cap), (5, .bool true), (6, .pointer (some ⟨b6, 0, none⟩)), (1, .slice a' (ss.map fun z => [Value.int .i64 z]).length cap')]) (fun k g lb => ds.length - k) 0 g lb ⟨by omega, by simpa using hM, by simpa using hL⟩ SU KE ?_
      intro k g lb ⟨hk, hMk, hLk⟩
      have hglk := hMk.1
      refine J_seq ?_
      refine J_seq ?_
      refine J_region ?_
      refine L_pur rfl (p_move rfl) ?_
      refine L_pur rfl (p_move rfl) ?_
      refine L_pur rfl (p_len rfl Try.underlying80) ?_
      refine L_pur rfl (p_lss rfl rfl) ?_
      refine L_nil ?_
      refine Q_then ?_
      refine C_dec rfl (fun h74 => ?_) (fun h74 => ?_)
      ·
       have hltk : k < ds.length := by omega
       obtain ⟨bd, od, hax⟩ := hz70 (by intro h; rw [h] at hmd; simp at hmd; omega)
       subst hax
       obtain ⟨c, hck⟩ : ∃ c, ds[k]? = some c := ⟨_, List.getElem?_eq_getElem hltk⟩
       have hkx : xs[k]? = some c := by rw [hxd, List.getElem?_append_left hltk]; exact hck
       have hkl := (List.getElem?_eq_some_iff.1 hkx).1
       have hdr : xs.drop k = c :: xs.drop (k + 1) := by rw [List.drop_eq_getElem_cons hkl, (List.getElem?_eq_some_iff.1 hkx).2]
       have hsk : Srt (xs.drop k) := hs.tail k
       obtain ⟨j, hj, hcj, hgj⟩ := hMk.2.1 c (by rw [hdr]; simp)
       subst hcj
       rw [hdr] at hMk hLk hsk
       have hMk2 := Mem.step (TR_inj zs) hMk hsk
       have hLk2 : Low ((TR zs j).1, (TR zs j).2.2) (xs.drop (k + 1)) := Low.step (zs := zs) hsk (fun d hd => h2all d (List.mem_of_mem_drop (i := k) (by rw [hdr]; exact hd)))
       have hlb := hLk (TR zs j) (by simp)
       have hcn : (TR zs j).1 ≤ now := (due_mem (now := now) hs).1 (by rw [← hds]; exact List.mem_of_getElem? hck)
       have hjz : j < zs.length := by omega
       obtain ⟨bx, ox, hax⟩ := h3 (by intro h; rw [h] at hml; simp at hml; omega)
       subst hax
       obtain ⟨z, hcc⟩ : ∃ z, zs[j]? = some z := ⟨_, List.getElem?_eq_getElem hjz⟩
       have hT1 : (TR zs j).1 = (num z 50 : Int) := by simp [TR, List.getD, hcc]
       have hnl := num_50 (x := z)
       obtain ⟨bg, og, hag⟩ := hz50 (by simp; omega)
       subst hag
       refine J_skip ?_
       refine Q_then ?_
       refine J_seq ?_
       refine J_block ?_
       refine J_seq ?_
       refine J_region ?_
       refine L_pur rfl (p_move rfl) ?_
       refine L_pur rfl (p_move rfl) ?_
       refine L_pur rfl (p_indexAddr rfl rfl Try.underlying80 ty36 (by omega) (by omega)) ?_
       refine L_pur rfl (p_fieldAddr rfl fa36_1) ?_
       refine L_val rfl (v_loadF rfl ty3 HS (by simp only [Int.toNat_natCast, List.getElem?_map, hck]; rfl) (by exact rfl)) ?_
       refine J_slot (t := 81) (v := .int .i64 (j : Int)) rfl rfl ?_
       refine L_pur rfl (p_assign rfl) ?_
       refine L_nil ?_
       refine Q_then ?_
       refine J_seq ?_
       refine J_seq ?_
       refine J_region ?_
       refine L_pur rfl (p_move rfl) ?_
       refine L_pur rfl (p_move rfl) ?_
       refine L_pur rfl (p_indexAddr rfl rfl Try.underlying80 ty36 (by omega) (by omega)) ?_
       refine L_pur rfl (p_fieldAddr rfl fa36_0) ?_
       refine L_val rfl (v_loadF rfl ty3 HS (by simp only [Int.toNat_natCast, List.getElem?_map, hck]; rfl) (by exact rfl)) ?_
       refine L_pur rfl (p_neq rfl rfl) ?_
       refine L_pur rfl (p_move rfl) ?_
       refine J_bool (t := 88) (c := false) rfl (by simp [TR]) ?_
       refine L_op (G_on rfl rfl rfl ?_)
       refine J_pur (p_move rfl) rfl rfl rfl ?_
       refine L_op (G_on rfl rfl rfl ?_)
       refine J_pur (p_lss rfl rfl) rfl rfl rfl ?_
       refine L_pur rfl (p_pick_f rfl rfl) ?_
       refine L_pur rfl (p_move rfl) ?_
       refine J_bool (t := 92) (c := false) rfl (by simp) ?_
       refine L_op (G_on rfl rfl rfl ?_)
       refine J_pur (p_move rfl) rfl rfl rfl ?_
       refine L_op (G_on rfl rfl rfl ?_)
       refine J_pur (p_move rfl) rfl rfl rfl ?_
       refine L_op (G_on rfl rfl rfl ?_)
       refine J_pur (p_len rfl Try.underlying23) rfl rfl rfl ?_
       refine L_op (G_on rfl rfl rfl ?_)
       refine J_pur (p_geq rfl rfl) rfl rfl rfl ?_
       refine L_pur rfl (p_pick_f rfl rfl) ?_
       refine L_pur rfl (p_move rfl) ?_
       refine J_bool (t := 98) (c := false) rfl (by simp; omega) ?_
       refine L_op (G_on rfl rfl rfl ?_)
       refine J_pur (p_move rfl) rfl rfl rfl ?_
       refine L_op (G_on rfl rfl rfl ?_)
       refine J_pur (p_move rfl) rfl rfl rfl ?_
       refine L_op (G_on rfl rfl rfl ?_)
       refine J_pur (p_indexAddr rfl rfl Try.underlying22 ty4 (by omega) (by omega)) rfl rfl rfl ?_
       refine L_op (G_on rfl rfl rfl ?_)
       refine J_val (v_loadE1 rfl ty4 HS (by simp only [Int.toNat_natCast, List.getElem?_map, hgj]; rfl)) rfl rfl rfl ?_
       refine L_pur rfl (p_pick_f rfl rfl) ?_
       refine L_nil ?_
       refine Q_then ?_
       refine J_bool (t := 103) (c := false) rfl (rfl) ?_
       refine C_false rfl ?_
       refine J_skip ?_
       refine Q_then ?_
       refine J_seq ?_
       refine J_region ?_
       refine L_pur rfl (p_move rfl) ?_
       refine L_pur rfl (p_move rfl) ?_
       refine L_pur rfl (p_indexAddr rfl rfl Try.underlying23 ty3 (by omega) (by omega)) ?_
       refine L_val rfl (v_loadR1 rfl ty3 (fun w H => hr.old HS H) (by first | (simp only [Int.toNat_natCast, List.getElem?_map, hcc]; rfl) | (simp only [Int.toNat_natCast, List.getElem?_map, hcd]; rfl) | simp | rfl)) ?_
       refine L_op (x_call Try.func23 nm23 bd23 (.cons rfl (.cons rfl .nil)) rfl (number (by omega) (by omega)) fun _ => ?_)
       refine L_pur rfl (p_conv rfl Try.underlying3 Try.underlying136) ?_
       refine J_slot (t := 109) (v := .int .u64 (TR zs j).1) rfl (by rw [wrap64u_of ⟨by omega, by omega⟩, hT1]) ?_
       refine L_pur rfl (p_assign rfl) ?_
       refine L_nil ?_
       refine Q_then ?_
       refine J_seq ?_
       refine J_seq ?_
       refine J_region ?_
       refine L_pur rfl (p_move rfl) ?_
       refine L_pur rfl (p_move rfl) ?_
       refine L_pur rfl (p_gtr rfl rfl) ?_
       refine L_pur rfl (p_move rfl) ?_
       refine J_bool (t := 113) (c := false) rfl (by simp; omega) ?_
       refine L_op (G_on rfl rfl rfl ?_)
       refine J_pur (p_move rfl) rfl rfl rfl ?_
       refine L_op (G_on rfl rfl rfl ?_)
       refine J_pur (p_move rfl) rfl rfl rfl ?_
       refine L_op (G_on rfl rfl rfl ?_)
       refine J_pur (p_lss rfl rfl) rfl rfl rfl ?_
       refine L_pur rfl (p_pick_f rfl rfl) ?_
       refine L_pur rfl (p_move rfl) ?_
       refine J_bool (t := 118) (c := false) rfl (by simp; omega) ?_
       refine L_op (G_on rfl rfl rfl ?_)
       refine J_pur (p_move rfl) rfl rfl rfl ?_
       refine L_op (G_on rfl rfl rfl ?_)
       refine J_pur (p_move rfl) rfl rfl rfl ?_
       refine L_op (G_on rfl rfl rfl ?_)
       refine J_pur (p_eql rfl rfl) rfl rfl rfl ?_
       refine L_op (G_on rfl rfl rfl ?_)
       refine J_pur (p_move rfl) rfl rfl rfl ?_
       refine J_gsplit (t := 122) rfl (fun h122 => ?_) (fun h122 => ?_)
       ·
        refine L_op (G_on rfl rfl rfl ?_)
        refine J_pur (p_move rfl) rfl rfl rfl ?_
        refine L_op (G_on rfl rfl rfl ?_)
        refine J_pur (p_move rfl) rfl rfl rfl ?_
        refine L_op (G_on rfl rfl rfl ?_)
        refine J_pur (p_lss rfl rfl) rfl rfl rfl ?_
        refine L_op (G_on rfl rfl rfl ?_)
        refine J_pur (p_pick_t rfl rfl) rfl rfl rfl ?_
        refine L_pur rfl (p_pick_f rfl rfl) ?_
        refine L_nil ?_
        refine Q_then ?_
        refine J_bool (t := 127) (c := false) rfl (by simp at h122 ⊢; simp only [TR] at hlb h122 ⊢; omega) ?_
        refine C_false rfl ?_
        refine J_skip ?_
        refine Q_then ?_
        refine J_seq ?_
        refine J_region ?_
        refine L_pur rfl (p_move rfl) ?_
        refine L_pur rfl (p_move rfl) ?_
        refine L_pur rfl (p_indexAddr rfl rfl Try.underlying22 ty4 (by omega) (by omega)) ?_
        refine L_op (x_storeE (len := N) (vs := [.bool true]) rfl rfl ty4 rfl rfl rfl PC (by first | omega | (simp <;> omega)) ?_)
        refine J_rowEq (ys := (g.set j true).map encB') (by simp [List.map_set, encB']) ?_
        refine L_nil ?_
        refine Q_then ?_
        refine J_seq ?_
        refine J_region ?_
        refine L_pur rfl (p_move rfl) ?_
        refine L_pur rfl (p_assign rfl) ?_
        refine L_nil ?_
        refine Q_then ?_
        refine J_region ?_
        refine L_pur rfl (p_move rfl) ?_
        refine J_slot (t := 132) (v := .int .i64 (TR zs j).2.2) rfl rfl ?_
        refine L_pur rfl (p_assign rfl) ?_
        refine L_nil ?_
        refine Q_blk_normal ?_
        refine Q_then ?_
        refine J_region ?_
        refine L_pur rfl (p_move rfl) ?_
        refine L_pur rfl (p_add64 rfl rfl (by omega)) ?_
        refine L_pur rfl (p_assign rfl) ?_
        refine L_nil ?_
        refine Q_then ?_
        exact J_again3 (k + 1) (g.set j true) ((TR zs j).1, (TR zs j).2.2) (by omega) (⟨by omega, hMk2, hLk2⟩) SU KE
       ·
        refine L_op (G_off rfl rfl rfl rfl rfl rfl ?_)
        refine L_op (G_off rfl rfl rfl rfl rfl rfl ?_)
        refine L_op (G_off rfl rfl rfl rfl rfl rfl ?_)
        refine L_op (G_on rfl rfl rfl ?_)
        refine J_pur (p_pick_f rfl rfl) rfl rfl rfl ?_
        refine L_pur rfl (p_pick_f rfl rfl) ?_
        refine L_nil ?_
        refine Q_then ?_
        refine C_false rfl ?_
        refine J_skip ?_
        refine Q_then ?_
        refine J_seq ?_
        refine J_region ?_
        refine L_pur rfl (p_move rfl) ?_
        refine L_pur rfl (p_move rfl) ?_
        refine L_pur rfl (p_indexAddr rfl rfl Try.underlying22 ty4 (by omega) (by omega)) ?_
        refine L_op (x_storeE (len := N) (vs := [.bool true]) rfl rfl ty4 rfl rfl rfl PC (by first | omega | (simp <;> omega)) ?_)
        refine J_rowEq (ys := (g.set j true).map encB') (by simp [List.map_set, encB']) ?_
        refine L_nil ?_
        refine Q_then ?_
        refine J_seq ?_
        refine J_region ?_
        refine L_pur rfl (p_move rfl) ?_
        refine L_pur rfl (p_assign rfl) ?_
        refine L_nil ?_
        refine Q_then ?_
        refine J_region ?_
        refine L_pur rfl (p_move rfl) ?_
        refine J_slot (t := 132) (v := .int .i64 (TR zs j).2.2) rfl rfl ?_
        refine L_pur rfl (p_assign rfl) ?_
        refine L_nil ?_
        refine Q_blk_normal ?_
        refine Q_then ?_
        refine J_region ?_
        refine L_pur rfl (p_move rfl) ?_
        refine L_pur rfl (p_add64 rfl rfl (by omega)) ?_
        refine L_pur rfl (p_assign rfl) ?_
        refine L_nil ?_
        refine Q_then ?_
        exact J_again3 (k + 1) (g.set j true) ((TR zs j).1, (TR zs j).2.2) (by omega) (⟨by omega, hMk2, hLk2⟩) SU KE
      ·
       have hkd : k = ds.length := by omega
       have hxk : xs.drop k = late xs now := by rw [hkd]; conv => lhs; rw [hxd]; rw [List.drop_left]
       have hM2 : Mem (TR zs) N (late xs now) g := hxk ▸ hMk
       have hL2 : Low lb (late xs now) := hxk ▸ hLk
       have hend2 : i + 1 = ss.length + 1 → late xs now = [] := fun e => by
        have e0 : now = 1000 := hw2 (by omega)
        cases hlx : late xs now with
        | nil => rfl
        | cons c r =>
         have h1 : c ∈ late xs now := by rw [hlx]; simp
         have h2 := (due_mem (now := now) hs).2 h1
         obtain ⟨j, _, rfl, _⟩ := hM2.2.1 c h1
         have := num_50 (x := zs.getD j 0)
         simp only [TR] at h2; omega
       have hmem := fun c => (due_mem (c := c) (now := now) hs).2
       refine J_exit ?_
       refine Q_then_exit ?_
       refine Q_then_exit ?_
       refine Q_blk_this ?_
       refine Q_then ?_
       refine J_seq ?_
       refine J_region ?_
       refine L_op (x_call Try.func75 nm75 bd75 (.cons rfl .nil) rfl (hNext (xs := late xs now) PC (by omega)) fun _ => ?_)
       refine L_pur rfl (p_move rfl) ?_
       refine L_pur rfl (p_extract rfl rfl) ?_
       refine L_pur rfl (p_extract rfl rfl) ?_
       refine L_pur rfl (p_extract rfl rfl) ?_
       refine L_op (x_alloc ty36 rfl fun b18 => ?_)
       refine L_pur rfl (p_assign rfl) ?_
       refine L_op (x_store rfl rfl ty36 rfl (by first | rfl | (simp [*]; done)) (by first | rfl | (simp [*]; done)) RO PT ?_)
       refine L_pur rfl (p_assign rfl) ?_
       refine L_nil ?_
       refine Q_then ?_
       refine J_seq ?_
       refine J_region ?_
       refine L_pur rfl (p_move rfl) ?_
       refine L_pur rfl (p_move rfl) ?_
       refine J_gsplit (t := 139) rfl (fun h139 => ?_) (fun h139 => ?_)
       ·
        refine L_op (G_on rfl rfl rfl ?_)
        refine J_pur (p_move rfl) rfl rfl rfl ?_
        refine L_op (G_on rfl rfl rfl ?_)
        refine J_pur (p_move rfl) rfl rfl rfl ?_
        refine L_op (G_on rfl rfl rfl ?_)
        refine J_pur (p_leq rfl rfl) rfl rfl rfl ?_
        refine L_pur rfl (p_pick_t rfl rfl) ?_
        refine L_nil ?_
        refine Q_then ?_
        refine J_bool (t := 143) (c := false) rfl (by cases hlx : late xs now with | nil => rw [hlx] at h139; simp at h139 | cons c r => (have := hmem c (by rw [hlx]; simp); simp; omega)) ?_
        refine C_false rfl ?_
        refine J_skip ?_
        refine Q_blk_normal ?_
        refine Q_then ?_
        refine J_region ?_
        refine L_pur rfl (p_move rfl) ?_
        refine L_pur rfl (p_add64 rfl rfl (by omega)) ?_
        refine L_pur rfl (p_assign rfl) ?_
        refine L_nil ?_
        refine Q_then ?_
        exact J_again5 (i + 1) _ _ _ _ (by omega) (⟨by omega, hM2, hL2, by omega, by omega, hend2, by omega⟩) SU KE
       ·
        refine L_op (G_off rfl rfl rfl rfl rfl rfl ?_)
        refine L_op (G_off rfl rfl rfl rfl rfl rfl ?_)
        refine L_op (G_off rfl rfl rfl rfl rfl rfl ?_)
        refine L_pur rfl (p_pick_f rfl rfl) ?_
        refine L_nil ?_
        refine Q_then ?_
        refine C_false rfl ?_
        refine J_skip ?_
        refine Q_blk_normal ?_
        refine Q_then ?_
        refine J_region ?_
        refine L_pur rfl (p_move rfl) ?_
        refine L_pur rfl (p_add64 rfl rfl (by omega)) ?_
        refine L_pur rfl (p_assign rfl) ?_
        refine L_nil ?_
        refine Q_then ?_
        exact J_again5 (i + 1) _ _ _ _ (by omega) (⟨by omega, hM2, hL2, by omega, by omega, hend2, by omega⟩) SU KE
    ·
     have hie : i = ss.length + 1 := by omega
     have hx0 := hend hie
     subst hx0
     have hall : ∀ k, k < N → g[k]? = some true := fun k hk => by
      cases hg : g[k]? with
      | none => rw [List.getElem?_eq_none_iff] at hg; omega
      | some b => cases b with
       | true => rfl
       | false => have := hM.2.2 k hg; cases this
     refine J_exit ?_
     refine Q_then_exit ?_
     refine Q_then_exit ?_
     refine Q_blk_this ?_
     refine Q_then ?_
     refine J_seq ?_
     refine J_seq ?_
     refine J_region ?_
     refine L_pur rfl (p_assign rfl) ?_
     refine L_nil ?_
     refine Q_then ?_
     refine J_block ?_
     refine J_loop (α := Nat) (fun j => j ≤ N) (fun j => [hpA b6 0 [], row 4 1 (.slice a50 N c50) (g.map encB'), old W]) (fun j => [(20, .int .i64 (j : Int)), (11, .slice a50 N c50), (5, .bool true), (6, .pointer (some ⟨b6, 0, none⟩))]) (fun j => N - j) 0 (by omega) SU KE ?_
     intro j hj
     refine J_seq ?_
     refine J_seq ?_
     refine J_region ?_
     refine L_pur rfl (p_move rfl) ?_
     refine L_pur rfl (p_move rfl) ?_
     refine L_pur rfl (p_len rfl Try.underlying22) ?_
     refine L_pur rfl (p_lss rfl rfl) ?_
     refine L_nil ?_
     refine Q_then ?_
     refine C_dec rfl (fun h147 => ?_) (fun h147 => ?_)
     ·
      have hltj : j < N := by omega
      obtain ⟨bg, og, hag⟩ := hz50 (by simp; omega)
      subst hag
      have hgj := hall j hltj
      refine J_skip ?_
      refine Q_then ?_
      refine J_seq ?_
      refine J_block ?_
      refine J_seq ?_
      refine J_region ?_
      refine L_pur rfl (p_move rfl) ?_
      refine L_pur rfl (p_move rfl) ?_
      refine L_pur rfl (p_indexAddr rfl rfl Try.underlying22 ty4 (by omega) (by omega)) ?_
      refine L_val rfl (v_loadE1 rfl ty4 HS (by simp only [Int.toNat_natCast, List.getElem?_map, hgj]; rfl)) ?_
      refine L_pur rfl (p_not rfl) ?_
      refine L_nil ?_
      refine Q_then ?_
      refine J_bool (t := 154) (c := false) rfl (rfl) ?_
      refine C_false rfl ?_
      refine J_skip ?_
      refine Q_blk_normal ?_
      refine Q_then ?_
      refine J_region ?_
      refine L_pur rfl (p_move rfl) ?_
      refine L_pur rfl (p_add64 rfl rfl (by omega)) ?_
      refine L_pur rfl (p_assign rfl) ?_
      refine L_nil ?_
      refine Q_then ?_
      exact J_again (j + 1) (by omega) (by omega) SU KE
     ·
      refine J_exit ?_
      refine Q_then_exit ?_
      refine Q_then_exit ?_
      refine Q_blk_this ?_
      refine Q_then ?_
      refine J_seq ?_
      refine J_region ?_
      refine L_pur rfl (p_move rfl) ?_
      refine L_pur rfl (p_move rfl) ?_
      refine J_bool (t := 156) (c := true) rfl (rfl) ?_
      refine L_op (G_on rfl rfl rfl ?_)
      refine x_call Try.func72 nm72 bd72 (.cons rfl .nil) rfl (hLen (xs := []) PC (by simp)) fun _ => ?_
      refine L_op (G_on rfl rfl rfl ?_)
      refine J_pur (p_eql rfl rfl) rfl rfl rfl ?_
      refine L_pur rfl (p_pick_t rfl rfl) ?_
      refine J_bool (t := 159) (c := true) rfl (by simp) ?_
      refine L_pur rfl (p_assign rfl) ?_
      refine L_nil ?_
      refine Q_then ?_
      refine J_ret ?_
      exact J_return (()) Try.results21 (.tmp rfl .nil) rfl SU

end Go.Pse
