/-
  A row of requests, each on the one ahead: what ends with one.
-/
import Derived.Test.YthjbhkaokjdhmaaGreatC26
namespace Go.Pse
open Go.RowKit Go.Proofs

/-! ### plain: a ring that has room -/
/-- Ring g: its completions' unit is c, its tail t; none waits; the head that stands in memory is 0. -/
def Rdy (s : KS) (g c t : Int) : Prop := ∃ b r, look s.rg g = some (b, r) ∧ r.over = [] ∧ r.tail = t ∧ r.cb = 4 ∧ r.cq = c ∧ getN (rowAt s.mem c) 0 4 = 0
theorem getN_far {bs ys : List Int} {a : Nat} (h : 4 ≤ a) (hl : a ≤ bs.length) : getN (putB bs a ys) 0 4 = getN bs 0 4 := by
  have e : ∀ k, k < 4 → byteAt (putB bs a ys) (0 + k) = byteAt bs (0 + k) := fun k hk => by
    unfold byteAt putB
    rw [List.append_assoc, List.getElem?_append_left (by simp; omega), List.getElem?_take_of_lt (by omega)]
  simp only [getN, e 0 (by omega), e 1 (by omega), e 2 (by omega), e 3 (by omega)]
theorem getN_row {r : Rg} {ms : List (List Int)} (hr : RgOk r) (hM : MemOk ms) (c : Cqe) : getN (rgRow r ms c) 0 4 = getN (rowAt ms r.cq) 0 4 := by
  obtain ⟨h1, h2, h3⟩ := hM.at hr.cq
  have h4 := place_in hr
  unfold rgRow
  rw [getN_far (by omega) (by rw [putB_len (by rw [bytesX_len]; omega), h2]; omega), getN_far (by omega) (by rw [h2]; omega)]
theorem rowAt_set {ms : List (List Int)} {u c : Int} {x : List Int} (hu : 1 ≤ u ∧ u ≤ 64) (hc : 1 ≤ c) (hl : ms.length = 64) : rowAt (ms.set (u - 1).toNat x) c = if c = u then x else rowAt ms c := by
  unfold rowAt
  by_cases h : c = u
  · subst h; rw [if_pos rfl, List.getElem?_set_self (by omega)]; rfl
  · rw [if_neg h, List.getElem?_set_ne (by omega)]
theorem rdy_ok {r : Rg} {ms : List (List Int)} {t : Int} (h1 : r.over = []) (h2 : r.tail = t) (h3 : r.cb = 4) (h4 : getN (rowAt ms r.cq) 0 4 = 0) (ht : 0 ≤ t ∧ t < 16) : postOk r ms = true := by
  unfold postOk rgWrOk rgFar
  rw [h1, h2, h3, h4, Int.sub_zero, wrap32u_of (by omega)]
  simp only [List.isEmpty_nil, Bool.true_and, decide_eq_true_eq]
  show t < 2 ^ 4
  omega
theorem look_updO {α : Type} {u g : Int} {f : α → α} : ∀ {xs : List (Int × Nat × α)}, look (updO xs u f) g = (look xs g).map fun x => if g = u then (x.1, f x.2) else x
  | [] => rfl
  | x :: xs => by
    unfold updO
    rw [List.map_cons, look_cons, look_cons, show List.map _ xs = updO xs u f from rfl, look_updO]
    by_cases hx : x.1 = u
    · rw [if_pos hx]
      by_cases hg : x.1 = g
      · simp [hg, hg ▸ hx]
      · simp [hg]
    · rw [if_neg hx]
      by_cases hg : x.1 = g
      · have : ¬ g = u := fun e => hx (hg.trans e)
        simp [hg, this]
      · simp [hg]
theorem kPost_some {s : KS} {d : Deed} {b : Nat} {r : Rg} (h : look s.rg d.1.1 = some (b, r)) : kPost s d = { s with rg := updO s.rg d.1.1 (fun r => postR r s.mem (ofD d)), mem := postM r s.mem (ofD d) } := by
  unfold kPost; rw [h]
theorem kPost_rg {s : KS} {d : Deed} {b : Nat} {r : Rg} (h : look s.rg d.1.1 = some (b, r)) : (kPost s d).rg = updO s.rg d.1.1 (fun r => postR r s.mem (ofD d)) := by rw [kPost_some h]
theorem Rdy.post {s : KS} {N M : Nat} (hF : Fits s N M) {g c t : Int} (h : Rdy s g c t) (ht : 0 ≤ t ∧ t < 16) {d : Deed} (hd : d.1.1 = g) : Rdy (kPost s d) g c (t + 1) := by
  subst hd
  obtain ⟨b, r, h1, h2, h3, h4, h5, h6⟩ := h
  have hro := (hF.rg _ (mem_look h1)).1
  have hr : RgOk r := hro
  have hok := rdy_ok (ms := s.mem) h2 h3 h4 (by rw [h5]; exact h6) ht
  refine ⟨b, rgUp r, ?_, h2, ?_, h4, h5, ?_⟩
  · rw [kPost_rg h1, look_updO, h1]
    simp [postR, hok]
  · show IntKind.u32.wrap (r.tail + 1) = _
    rw [h3, wrap32u_of (by omega)]
  · rw [kPost_some h1]
    show getN (rowAt (postM r s.mem (ofD d)) c) 0 4 = 0
    unfold postM
    rw [hok, if_pos rfl, ← h5, rowAt_set hr.cq hr.cq.1 hF.mem.len, if_pos rfl, getN_row hr hF.mem, h5, h6]
theorem Rdy.other {s : KS} {N M : Nat} (hF : Fits s N M) {g c t g2 c2 t2 : Int} (h : Rdy s g c t) (h2 : Rdy s g2 c2 t2) (hg : g ≠ g2) (hc : c ≠ c2) {d : Deed} (hd : d.1.1 = g2) : Rdy (kPost s d) g c t := by
  subst hd
  obtain ⟨b, r, h1, e2, e3, e4, e5, e6⟩ := h
  obtain ⟨b2, r2, k1, _, _, _, k5, _⟩ := h2
  have hr : RgOk r := (hF.rg _ (mem_look h1)).1
  have hr2 : RgOk r2 := (hF.rg _ (mem_look k1)).1
  refine ⟨b, r, ?_, e2, e3, e4, e5, ?_⟩
  · rw [kPost_rg k1, look_updO, h1]
    simp [hg]
  · rw [kPost_some k1]
    show getN (rowAt (postM r2 s.mem (ofD d)) c) 0 4 = 0
    unfold postM
    split
    · rw [rowAt_set hr2.cq (by have := hr.cq; omega) hF.mem.len, if_neg (by rw [k5]; exact hc)]; exact e6
    · exact e6
theorem kPost_be {s : KS} {d : Deed} : (kPost s d).be = s.be := by unfold kPost; split <;> rfl
theorem kPost_nt {s : KS} {d : Deed} : (kPost s d).nt = s.nt := by unfold kPost; split <;> rfl
theorem kPost_jn {s : KS} {d : Deed} : (kPost s d).jn = s.jn := by unfold kPost; split <;> rfl
theorem kSaid_nt {s : KS} {d : Deed} : (kSaid s d).nt = s.nt := by unfold kSaid; rw [kPost_nt]
theorem kSaid_jn {s : KS} {d : Deed} : (kSaid s d).jn = s.jn ++ [d] := by unfold kSaid; rw [kPost_jn]
theorem kSaid_be {s : KS} {d : Deed} : (kSaid s d).be = s.be := by unfold kSaid; rw [kPost_be]
theorem kTell_quiet {D : KS → ID → Int → Int → KS} {s : KS} {d : Deed} (h : s.nt = []) : kTell D s d = kSaid s d := by
  unfold kTell; rw [kSaid_nt, h]; rfl
/-- What follows a request that has ended: the one that hangs on it. -/
def kNext (D : KS → ID → Int → Int → KS) (s : KS) (i : ID) (r : Int) : KS := match afterQ s.rt i with
  | none => s
  | some x => if x.soft = true ∧ r < 0 then D s x.id (-9) 0 else s
theorem kDec_some {n : Nat} {s : KS} {i : ID} {r v : Int} {q : Rq} (hq : look s.rt i = some q) : kDec (n + 1) s i r v = kNext (kDec n) (kTell (kDec n) (kForget { s with rt := del s.rt i } i) (i, q.e.tag, q.e.op, r, v, false)) i r := by
  rw [kDec, hq]
  simp only []
  generalize kTell (kDec n) (kForget { s with rt := del s.rt i } i) (i, q.e.tag, q.e.op, r, v, false) = t
  unfold kNext
  cases afterQ t.rt i <;> rfl
theorem find_one {α : Type} {p : α → Bool} {l : List α} {x : α} (h : x ∈ l) (hp : p x = true) (hu : ∀ y ∈ l, p y = true → y = x) : l.find? p = some x := by
  cases hf : l.find? p with
  | none => exact absurd hp (by simpa using List.find?_eq_none.1 hf x h)
  | some y => rw [hu y (List.mem_of_find?_eq_some hf) (by simpa using List.find?_some hf)]
theorem afterQ_one {ps : List (ID × Rq)} {i k : ID} {x : Rq} (hm : (k, x) ∈ ps) (hk : k.1 = i.1) (hp : x.prev = i.2) (hu : ∀ e ∈ ps, e.2.prev = i.2 → e.2 = x) : afterQ ps i = some x :=
  find_one (ofQ_mem.2 ⟨k, hm, hk⟩) (by simpa using hp) fun y hy hpy => by
    obtain ⟨k2, h2, _⟩ := ofQ_mem.1 hy
    exact hu _ h2 (by simpa using hpy)
theorem afterQ_no {ps : List (ID × Rq)} {i : ID} (hu : ∀ e ∈ ps, e.2.prev ≠ i.2) : afterQ ps i = none :=
  find_gone fun y hy => by
    obtain ⟨k2, h2, _⟩ := ofQ_mem.1 hy
    simpa using hu _ h2
/-! ### plain: a row of requests, each on the one ahead -/
def rqC (soft : List Bool) (k : Nat) : Rq := ⟨(4, (k : Int) + 1), ⟨19, 0, k, 0, 0, 0, 0, 0⟩, k, (soft[k]?).getD false, false⟩
def rtC (soft : List Bool) (a j n : Nat) : List (ID × Rq) := ((List.range n).filter fun k : Nat => decide (k < a) || decide (j ≤ k)).map fun k : Nat => ((4, (k : Int) + 1), rqC soft k)
section
variable {soft : List Bool} {a j n : Nat}
theorem rtC_mem {e : ID × Rq} : e ∈ rtC soft a j n ↔ ∃ k : Nat, k < n ∧ (k < a ∨ j ≤ k) ∧ e = ((4, (k : Int) + 1), rqC soft k) := by
  unfold rtC
  rw [List.mem_map]
  constructor
  · rintro ⟨k, hk, rfl⟩
    have := List.mem_filter.1 hk
    exact ⟨k, by simpa using this.1, by simpa using this.2, rfl⟩
  · rintro ⟨k, h1, h2, rfl⟩
    exact ⟨k, List.mem_filter.2 ⟨by simpa using h1, by simpa using h2⟩, rfl⟩
theorem rtC_keyd : Keyd (rtC soft a j n) := by
  unfold Keyd rtC List.Nodup
  rw [List.map_map, List.pairwise_map]
  exact (List.Pairwise.filter _ List.nodup_range).imp fun hne h => hne (by have := congrArg Prod.snd h; simp at this; omega)
theorem rtC_ids : Ids (rtC soft a j n) := fun e he => by
  obtain ⟨k, _, _, rfl⟩ := rtC_mem.1 he; rfl
theorem rtC_look {k : Nat} (h : k < n) (h2 : k < a ∨ j ≤ k) : look (rtC soft a j n) (4, (k : Int) + 1) = some (rqC soft k) := look_mem rtC_keyd (rtC_mem.2 ⟨k, h, h2, rfl⟩)
theorem rtC_gone {k : Nat} (h2 : ¬ (k < a ∨ j ≤ k) ∨ n ≤ k) : look (rtC soft a j n) (4, (k : Int) + 1) = none := by
  rw [look_none_iff]
  intro h
  obtain ⟨e, he, h3⟩ := List.mem_map.1 h
  obtain ⟨k2, g1, g2, rfl⟩ := rtC_mem.1 he
  have := congrArg Prod.snd h3
  simp at this
  have : k2 = k := by omega
  subst this
  rcases h2 with h2 | h2
  · exact h2 g2
  · omega
theorem rtC_del (h : a ≤ j) : del (rtC soft a j n) (4, (j : Int) + 1) = rtC soft a (j + 1) n := by
  unfold del rtC
  rw [List.filter_map, List.filter_filter]
  congr 1
  refine List.filter_congr fun k _ => ?_
  rw [Bool.eq_iff_iff]
  simp
  omega
theorem rtC_len : (rtC soft a j n).length ≤ n := by
  unfold rtC; rw [List.length_map]; exact Nat.le_trans (List.length_filter_le _ _) (by rw [List.length_range]; exact Nat.le_refl _)
theorem rtC_snoc : rtC soft 0 0 n ++ [((4, (n : Int) + 1), rqC soft n)] = rtC soft 0 0 (n + 1) := by
  unfold rtC
  rw [List.range_succ, List.filter_append, List.map_append]
  simp
theorem ofRing_C : (ofRing (rtC soft a j n) 4).length = (rtC soft a j n).length := by
  unfold ofRing
  rw [List.filter_eq_self.2 fun e he => by obtain ⟨k, _, _, rfl⟩ := rtC_mem.1 he; rfl, List.length_map]
theorem ofQ_C : (ofQ (rtC soft a j n) 4).length = (rtC soft a j n).length := by unfold ofQ; rw [sortF_len, ofRing_C]
theorem rtC_count (h : a ≤ j) (h2 : j ≤ n) : (rtC soft a j n).length = n - (j - a) := by
  unfold rtC
  rw [List.length_map]
  have e : ∀ m, ((List.range m).filter fun k => decide (k < a) || decide (j ≤ k)).length = min m a + (m - j) := fun m => by
    induction m with
    | zero => simp
    | succ m ih =>
      rw [List.range_succ, List.filter_append, List.length_append, ih, List.filter_cons, List.filter_nil]
      split
      · rename_i h3
        simp at h3 ⊢
        omega
      · rename_i h3
        simp at h3 ⊢
        omega
  rw [e]; omega
theorem rtC_add (hn : n < 12) : addOk (rtC soft 0 0 n) (rqC soft n) = true ∧ addQ (rtC soft 0 0 n) (rqC soft n) = rtC soft 0 0 (n + 1) := by
  have h1 : look (rtC soft 0 0 n) (rqC soft n).id = none := rtC_gone (k := n) (.inr (Nat.le_refl _))
  have h2 : addOk (rtC soft 0 0 n) (rqC soft n) = true := by
    unfold addOk
    rw [h1, show (rqC soft n).id.1 = 4 from rfl, ofQ_C]
    have := rtC_len (soft := soft) (a := 0) (j := 0) (n := n)
    simp; omega
  refine ⟨h2, ?_⟩
  unfold addQ
  rw [if_pos h2]
  unfold Go.Pse.ins
  rw [h1, ← rtC_snoc]; rfl
theorem rtC_after (h : a ≤ j) (h2 : j < n) : afterQ (rtC soft a (j + 1) n) (4, (j : Int) + 1) = if j + 1 < n then some (rqC soft (j + 1)) else none := by
  split
  · rename_i h3
    refine afterQ_one (rtC_mem.2 ⟨j + 1, h3, .inr (Nat.le_refl _), rfl⟩) rfl (by simp [rqC]) fun e he hp => ?_
    obtain ⟨k, _, _, rfl⟩ := rtC_mem.1 he
    have : k = j + 1 := by simp [rqC] at hp; omega
    rw [this]
  · refine afterQ_no fun e he hp => ?_
    obtain ⟨k, g1, g2, rfl⟩ := rtC_mem.1 he
    simp [rqC] at hp
    omega
end
/-- How many behind j, one behind the other, are softly linked. -/
def softs (soft : List Bool) (j : Nat) : Nat := ((soft.drop j).takeWhile fun b => b).length
def wantC (soft : List Bool) (j : Nat) (r : Int) : Nat := if r < 0 then 1 + softs soft (j + 1) else 1
def deedC (j : Nat) (r v : Int) : Deed := ((4, (j : Int) + 1), j, 19, r, v, false)
def deedsC (j w : Nat) (r v : Int) : List Deed := deedC j r v :: (List.range (w - 1)).map fun i => deedC (j + 1 + i) (-9) 0
theorem softs_on {soft : List Bool} {j : Nat} (h : soft[j]? = some true) : softs soft j = softs soft (j + 1) + 1 := by
  have hl := (List.getElem?_eq_some_iff.1 h).1
  unfold softs
  rw [List.drop_eq_getElem_cons hl, (List.getElem?_eq_some_iff.1 h).2, List.takeWhile_cons, if_pos rfl]; rfl
theorem softs_off {soft : List Bool} {j : Nat} (h : (soft[j]?).getD false = false) : softs soft j = 0 := by
  unfold softs
  by_cases hl : j < soft.length
  · rw [List.drop_eq_getElem_cons hl, List.takeWhile_cons, if_neg]; rfl
    rw [List.getElem?_eq_getElem hl] at h
    simpa using h
  · rw [List.drop_of_length_le (by omega)]; rfl
theorem softs_le (soft : List Bool) (j : Nat) : softs soft j ≤ soft.length - j := by
  unfold softs; exact Nat.le_trans (List.takeWhile_prefix _).length_le (by simp)
theorem chain_dec {soft : List Bool} {a N : Nat} : ∀ (c f M j : Nat) (s : KS) (r v : Int) (t : Nat), j + c = soft.length → a ≤ j → j < soft.length → Fits s N M → s.rt = rtC soft a j soft.length → s.rt.length ≤ f → s.nt = [] → Rdy s 4 6 (t : Int) → t + c ≤ 15 →
    (kDec f s (4, (j : Int) + 1) r v).rt = rtC soft a (j + wantC soft j r) soft.length ∧ (kDec f s (4, (j : Int) + 1) r v).jn = s.jn ++ deedsC j (wantC soft j r) r v ∧ Rdy (kDec f s (4, (j : Int) + 1) r v) 4 6 ((t + wantC soft j r : Nat) : Int)
  | 0, f, M, j, s, r, v, t, hc, ha, hj, _, _, _, _, _, _ => by omega
  | c + 1, f, M, j, s, r, v, t, hc, ha, hj, hF, hrt, hf, hnt, hR, ht => by
    have hq : look s.rt (4, (j : Int) + 1) = some (rqC soft j) := by rw [hrt]; exact rtC_look hj (.inr (Nat.le_refl _))
    have hl := del_less hq
    obtain ⟨f, rfl⟩ : ∃ f', f = f' + 1 := ⟨f - 1, by omega⟩
    obtain ⟨M, rfl⟩ : ∃ M', M = M' + 1 := ⟨M - 1, by have := hF.jn; omega⟩
    have hF1 := (hF.drop hq).forget (4, (j : Int) + 1)
    obtain ⟨s1, hs1⟩ : ∃ s1, s1 = kForget { s with rt := del s.rt (4, (j : Int) + 1) } (4, (j : Int) + 1) := ⟨_, rfl⟩
    rw [← hs1] at hF1
    have e1 : s1.rt = rtC soft a (j + 1) soft.length := by rw [hs1]; show del s.rt _ = _; rw [hrt, rtC_del ha]
    have e2 : s1.nt = [] := by rw [hs1]; show allO _ s.nt = _; rw [hnt]; rfl
    have e3 : s1.jn = s.jn := by rw [hs1]; rfl
    have e4 : Rdy s1 4 6 (t : Int) := by rw [hs1]; exact hR
    obtain ⟨s2, hs2⟩ : ∃ s2, s2 = kTell (kDec f) s1 ((4, (j : Int) + 1), (rqC soft j).e.tag, (rqC soft j).e.op, r, v, false) := ⟨_, rfl⟩
    have hF2 := hF1.said hF.mm (deedC j r v)
    have e0 : s2 = kSaid s1 (deedC j r v) := by rw [hs2]; exact kTell_quiet e2
    rw [← e0] at hF2
    have g1 : s2.rt = rtC soft a (j + 1) soft.length := by rw [e0, kSaid_rt, e1]
    have g2 : s2.nt = [] := by rw [e0, kSaid_nt, e2]
    have g3 : s2.jn = s.jn ++ [deedC j r v] := by rw [e0, kSaid_jn, e3]
    have g4 : Rdy s2 4 6 ((t + 1 : Nat) : Int) := by
      rw [e0]
      have := Rdy.post (hF1.jnl hF.mm (deedC j r v)) (g := 4) (c := 6) (t := (t : Int)) e4 (by omega) (d := deedC j r v) rfl
      exact this
    have hstep : kDec (f + 1) s (4, (j : Int) + 1) r v = kNext (kDec f) s2 (4, (j : Int) + 1) r := by rw [kDec_some hq, hs2, hs1]
    rw [hstep]
    unfold kNext
    rw [g1, rtC_after ha hj]
    by_cases h3 : j + 1 < soft.length
    · rw [if_pos h3]
      by_cases h4 : (rqC soft (j + 1)).soft = true ∧ r < 0
      · simp only [if_pos h4]
        have hs : soft[j + 1]? = some true := by
          have := h4.1
          rw [show (rqC soft (j + 1)).soft = (soft[j + 1]?).getD false from rfl, List.getElem?_eq_getElem h3] at this
          rw [List.getElem?_eq_getElem h3]
          simpa using this
        have ih := chain_dec c f (M + 1) (j + 1) s2 (-9) 0 (t + 1) (by omega) (by omega) h3 hF2 g1 (by rw [g1, ← e1, hs1]; show (del s.rt _).length ≤ f; omega) g2 g4 (by omega)
        have hw : wantC soft j r = 1 + wantC soft (j + 1) (-9) := by
          unfold wantC
          rw [if_pos h4.2, if_pos (by omega), softs_on hs]; omega
        rw [show (rqC soft (j + 1)).id = (4, ((j + 1 : Nat) : Int) + 1) from rfl]
        refine ⟨by rw [ih.1, hw]; congr 1; omega, ?_, by rw [hw, show t + (1 + wantC soft (j + 1) (-9)) = t + 1 + wantC soft (j + 1) (-9) by omega]; exact ih.2.2⟩
        rw [ih.2.1, g3, hw, List.append_assoc]
        congr 1
        unfold deedsC
        rw [List.singleton_append]
        congr 1
        rw [show 1 + wantC soft (j + 1) (-9) - 1 = (wantC soft (j + 1) (-9) - 1) + 1 by unfold wantC; rw [if_pos (by omega)]; omega, List.range_succ_eq_map, List.map_cons, List.map_map]
        congr 1
        refine List.map_congr_left fun i _ => ?_
        show deedC (j + 1 + 1 + i) (-9) 0 = deedC (j + 1 + (i + 1)) (-9) 0
        congr 1; omega
      · simp only [if_neg h4]
        have hw : wantC soft j r = 1 := by
          unfold wantC
          split
          · rename_i hr
            rw [softs_off]
            have : ¬ (rqC soft (j + 1)).soft = true := fun e => h4 ⟨e, hr⟩
            simpa [rqC] using this
          · rfl
        rw [hw]
        exact ⟨g1, g3, g4⟩
    · rw [if_neg h3]
      have hw : wantC soft j r = 1 := by
        unfold wantC
        split
        · rw [softs_off]
          rw [List.getElem?_eq_none (by omega)]; rfl
        · rfl
      rw [hw]
      exact ⟨g1, g3, g4⟩
end Go.Pse
