/-
  Own texts, merged: C100a, C100, C101, C102, C103, C104, C105, C111, C112, C113, C114, C106a, C115a, C115.
-/
import Derived.Test.YtclgdnpndlognaaGreatBC4
set_option linter.unusedVariables false
set_option linter.unusedSimpArgs false
namespace Go.Pse
open Go.RowKit Go.Proofs
/-! ### plain: a drain, reckoned -/
abbrev nopE (i : Nat) : Sqe := ⟨1, 0, (i : Int), 0, 0, 0, 0, 0⟩
end Go.Pse
namespace Go.Pse
open Go.RowKit Go.Proofs
/-! ### plain: requests of one ring, in a row -/
def pairsQ (l : List Rq) : List (ID × Rq) := l.map fun q => (q.id, q)
/-- Nobody waits anywhere; the ring 4 is somebody's. -/
structure Quiet (s : KS) (T : Th) : Prop where
  tm : s.tm = []
  ep : s.ep = []
  nt : s.nt = []
  rp : ∀ x ∈ s.rp, x.2.2.2 = false
  ow : kOwner s 4 = some T
/-- A ring with room for completions, t of them there. -/
def RM (X : List Int) (hd : Int) (RG : List (Int × Nat × Rg)) (MS : List (List Int)) (t : Nat) : Prop := ∃ b r, RG = [(4, b, r)] ∧ r.over = [] ∧ r.tail = (t : Int) ∧ r.cb = 4 ∧ r.cq = 6 ∧ RgOk r ∧ MemOk MS ∧ getN (rowAt MS 6) 0 4 = 0 ∧ r.head = hd ∧ r.sq = 5 ∧ r.sb = 3 ∧ rowAt MS 5 = X
variable {X5 : List Int} {hd5 : Int}
def At (s : KS) (rs : List Rq) (js : List Deed) (RG : List (Int × Nat × Rg)) (MS : List (List Int)) : KS := { s with rt := pairsQ rs, jn := js, rg := RG, mem := MS }
theorem RM.post {RG : List (Int × Nat × Rg)} {MS : List (List Int)} {t : Nat} (h : RM X5 hd5 RG MS t) (ht : t < 16) {d : Deed} (hd : d.1.1 = 4) (s : KS) : ∃ RG' MS', RM X5 hd5 RG' MS' (t + 1) ∧ kPost { s with rg := RG, mem := MS } d = { s with rg := RG', mem := MS' } := by
  obtain ⟨b, r, rfl, h2, h3, h4, h5, h6, h7, h8, h9, h10, h11, h12⟩ := h
  have hok := rdy_ok (ms := MS) h2 h3 h4 (by rw [h5]; exact h8) ⟨by omega, by omega⟩
  have hl : look (KS.rg { s with rg := [(4, b, r)], mem := MS }) d.1.1 = some (b, r) := by rw [hd]; rfl
  refine ⟨[(4, b, postR r MS (ofD d))], postM r MS (ofD d), ⟨b, _, rfl, ?_⟩, ?_⟩
  · refine ⟨by unfold postR; rw [hok]; exact h2, ?_, by unfold postR; rw [hok]; exact h4, by unfold postR; rw [hok]; exact h5, postR_ok h6 _, postM_ok h6 h7 _, ?_, by unfold postR; rw [hok]; exact h9, by unfold postR; rw [hok]; exact h10, by unfold postR; rw [hok]; exact h11, ?_⟩
    · unfold postR; rw [hok]
      show IntKind.u32.wrap (r.tail + 1) = _
      rw [h3, wrap32u_of (by omega)]; omega
    · unfold postM; rw [hok, if_pos rfl, h5, rowAt_set (by omega) (by omega) h7.len, if_pos rfl, getN_row h6 h7, h5]; exact h8
    · unfold postM; rw [hok, if_pos rfl, h5, rowAt_set (by omega) (by omega) h7.len, if_neg (by decide)]; exact h12
  · rw [kPost_some hl, hd]
    unfold updO
    simp
theorem At.forget {s : KS} {T : Th} (h : Quiet s T) {rs : List Rq} {js : List Deed} {RG : List (Int × Nat × Rg)} {MS : List (List Int)} (i : ID) : kForget (At s rs js RG MS) i = At s rs js RG MS := by
 have e : allO (rpD i) s.rp = s.rp := by
  unfold allO
  conv => rhs; rw [← List.map_id s.rp]
  refine List.map_congr_left fun x hx => ?_
  obtain ⟨u, b, c⟩ := x
  have := h.rp _ hx
  show (u, b, cDrop c i) = (u, b, c)
  unfold cDrop
  rw [if_neg (fun e => by simp only at this; rw [this] at e; cases e.1)]
 show ({ At s rs js RG MS with tm := tdrop s.tm i, ep := allO (epD i) s.ep, nt := allO (ntD i) s.nt, rp := allO (rpD i) s.rp } : KS) = _
 rw [h.tm, h.ep, h.nt, e]
 unfold At
 cases s
 simp only at *
 obtain ⟨h1, h2, h3, _, _⟩ := h
 simp only at h1 h2 h3
 subst h1; subst h2; subst h3
 rfl
theorem At.tell {s : KS} {T : Th} (h : Quiet s T) {D : KS → ID → Int → Int → KS} {rs : List Rq} {js : List Deed} {RG : List (Int × Nat × Rg)} {MS : List (List Int)} {t : Nat} (hm : RM X5 hd5 RG MS t) (ht : t < 16) {d : Deed} (hd : d.1.1 = 4) : ∃ RG' MS', RM X5 hd5 RG' MS' (t + 1) ∧ kTell D (At s rs js RG MS) d = At s rs (js ++ [d]) RG' MS' := by
  obtain ⟨RG', MS', h1, h2⟩ := hm.post ht hd { s with rt := pairsQ rs, jn := js ++ [d] }
  refine ⟨RG', MS', h1, ?_⟩
  have hs : kSaid (At s rs js RG MS) d = At s rs (js ++ [d]) RG' MS' := h2
  unfold kTell
  rw [hs, show look (KS.nt (At s rs (js ++ [d]) RG' MS')) (kBell (At s rs (js ++ [d]) RG' MS') d.1.1).1 = none from by rw [show KS.nt (At s rs (js ++ [d]) RG' MS') = s.nt from rfl, h.nt]; rfl]
theorem sortF_id : ∀ {xs : List Rq}, (xs.Pairwise fun a b => a.id.2 < b.id.2) → sortF cmpQ xs = xs
  | [], _ => rfl
  | x :: xs, h => by
    obtain ⟨h1, h2⟩ := List.pairwise_cons.1 h
    show insF cmpQ x (sortF cmpQ xs) = _
    rw [sortF_id h2]
    cases xs with
    | nil => rfl
    | cons y ys =>
      unfold insF
      have := h1 y (List.mem_cons_self)
      rw [if_neg (by rw [cmpQ_lt]; simp; omega)]
/-- A row of requests of ring 4, by rising numbers. -/
structure Row (l : List Rq) : Prop where
  ring : ∀ q ∈ l, q.id.1 = 4
  up : l.Pairwise fun a b => a.id.2 < b.id.2
theorem Row.tail {q : Rq} {l : List Rq} (h : Row (q :: l)) : Row l := ⟨fun x hx => h.ring x (List.mem_cons_of_mem _ hx), (List.pairwise_cons.1 h.up).2⟩
theorem Row.head {q q' : Rq} {l : List Rq} (h : Row (q :: l)) (hi : q'.id = q.id) : Row (q' :: l) := ⟨fun x hx => by
  rcases List.mem_cons.1 hx with rfl | hx
  · rw [hi]; exact h.ring q (List.mem_cons_self)
  · exact h.ring x (List.mem_cons_of_mem _ hx), List.pairwise_cons.2 ⟨fun x hx => by rw [hi]; exact (List.pairwise_cons.1 h.up).1 x hx, (List.pairwise_cons.1 h.up).2⟩⟩
theorem Row.of {l : List Rq} (h : Row l) : ofQ (pairsQ l) 4 = l := by
  have e : ofRing (pairsQ l) 4 = l := by
    unfold ofRing pairsQ
    rw [List.filter_eq_self.2 fun e he => by
      obtain ⟨q, hq, rfl⟩ := List.mem_map.1 he
      simpa using h.ring q hq, List.map_map]
    conv => rhs; rw [← List.map_id l]
    rfl
  unfold ofQ
  rw [e, sortF_id h.up]
theorem pairs_look {q : Rq} {l : List Rq} : look (pairsQ (q :: l)) q.id = some q := by
  show look ((q.id, q) :: pairsQ l) q.id = _
  rw [look_cons, if_pos rfl]
theorem pairs_none {l : List Rq} {i : ID} (h : ∀ q ∈ l, q.id ≠ i) : look (pairsQ l) i = none := by
  rw [look_none_iff]
  intro hm
  obtain ⟨e, he, h2⟩ := List.mem_map.1 hm
  obtain ⟨q, hq, rfl⟩ := List.mem_map.1 he
  exact h q hq h2
theorem Row.ne {q : Rq} {l : List Rq} (h : Row (q :: l)) : ∀ x ∈ l, x.id ≠ q.id := fun x hx e => by
  have := (List.pairwise_cons.1 h.up).1 x hx
  rw [e] at this; omega
theorem Row.del {q : Rq} {l : List Rq} (h : Row (q :: l)) : del (pairsQ (q :: l)) q.id = pairsQ l := by
  show List.filter (fun e => !decide (e.1 = q.id)) ((q.id, q) :: pairsQ l) = _
  rw [List.filter_cons, if_neg (by simp)]
  exact List.filter_eq_self.2 fun e he => by
    obtain ⟨x, hx, rfl⟩ := List.mem_map.1 he
    simpa using h.ne x hx
end Go.Pse
namespace Go.Pse
open Go.RowKit Go.Proofs
variable {X5 : List Int} {hd5 : Int}
theorem pairs_app {a b : List Rq} : pairsQ (a ++ b) = pairsQ a ++ pairsQ b := by unfold pairsQ; rw [List.map_append]
section
variable {s : KS} {T : Th} (hQ : Quiet s T)
include hQ
end
/-- All that is asked of a state in which the thread 2 enters, with t entries behind it. -/
structure Mid (S : KS) (b : Nat) (r : Rg) (t : Nat) : Prop where
  th : ∃ T, look S.th 2 = some T ∧ T.ring = 4 ∧ Quiet S T
  rg : S.rg = [(4, b, r)]
  rt : S.rt = []
  tk : S.tk = [(4, (t : Int))]
  rm : RM (rowAt S.mem 5) r.head S.rg S.mem t
  wt : rgWaitOk r S.mem = true
theorem takeF_shift {t : Nat} : ∀ (raw : List (List Int)) (p : Option Sqe) (k : Nat) (s : KS), takeF 4 (1 + (t : Int)) p k raw s = takeF 4 1 p (t + k) raw s
  | [], _, _, _ => rfl
  | bs :: raw, p, k, s => by
    have e1 : (1 : Int) + (t : Int) + (k : Int) = 1 + ((t + k : Nat) : Int) := by omega
    have e2 : reqP 4 (1 + (t : Int)) p k (entE bs) = reqP 4 1 p (t + k) (entE bs) := by
      unfold reqP
      rw [e1, show prevP (1 + (t : Int)) p k = prevP 1 p (t + k) by unfold prevP; cases p <;> simp only [e1]]
    have e3 : badD 4 (1 + (t : Int)) k bs = badD 4 1 (t + k) bs := by unfold badD; rw [e1]
    rw [takeF, takeF, e2, e3, takeF_shift raw, takeF_shift raw, show t + (k + 1) = t + k + 1 by omega]
/-- The ring as it stands, and how many are taken. -/
theorem Mid.look {S : KS} {b : Nat} {r : Rg} {t : Nat} (hF : Mid S b r t) {n : Int} {m : Nat} (hm : minI (rgWait r S.mem) (clampB n) = (m : Int)) : flushR r S.mem = (r, S.mem) ∧ flushS S 4 r = S ∧ takeN S 4 (clampB n) r = (m : Int) ∧ m ≤ (clampB n).toNat ∧ m ≤ 8 := by
  obtain ⟨b', r', hrg, h2, h3, h4, h5, h6, h7, h8, _⟩ := hF.rm
  have e := hrg.symm.trans hF.rg
  cases e
  have hov : flushR r S.mem = (r, S.mem) := by
    unfold flushR
    rw [h2]
    show ({ r with over := [] }, S.mem) = _
    cases r; simp only at h2; subst h2; rfl
  have hmw := rgWait_in (ms := S.mem) h6
  have hm8 : m ≤ 8 ∧ m ≤ (clampB n).toNat := by
    unfold minI at hm
    split at hm <;> omega
  refine ⟨hov, ?_, ?_, hm8.2, hm8.1⟩
  · unfold flushS
    rw [hF.rg, hov]
    have : updO [((4 : Int), b, r)] 4 (fun r => (flushR r S.mem).1) = [(4, b, (flushR r S.mem).1)] := rfl
    rw [this, hov]
    have h := hF.rg
    cases S; simp only at h; subst h; rfl
  · unfold takeN
    rw [hm, hF.rt, show (ofQ [] 4).length = 0 from rfl]
    unfold minI maxI
    (repeat' split) <;> omega
end Go.Pse
namespace Go.Pse
open Go.RowKit Go.Proofs
/-! ### plain: what stands in a ring's memory -/
theorem get_same {bs ys : List Int} {a : Nat} (h : a + ys.length ≤ bs.length) : ((putB bs a ys).drop a).take ys.length = ys := by
  unfold putB
  rw [List.append_assoc, List.drop_left' (by rw [List.length_take]; omega)]
  exact List.take_left' rfl
theorem get_far {bs ys : List Int} {a o n : Nat} (h : a + ys.length ≤ bs.length) (hf : o + n ≤ a ∨ a + ys.length ≤ o) : ((putB bs a ys).drop o).take n = (bs.drop o).take n := by
  refine List.ext_getElem? fun i => ?_
  by_cases hi : i < n
  · rw [List.getElem?_take_of_lt hi, List.getElem?_take_of_lt hi, List.getElem?_drop, List.getElem?_drop]
    unfold putB
    rcases hf with hf | hf
    · rw [List.append_assoc, List.getElem?_append_left (by rw [List.length_take]; omega), List.getElem?_take_of_lt (by omega)]
    · rw [List.getElem?_append_right (by simp; omega), List.getElem?_drop]
      congr 1
      simp
      omega
  · rw [List.getElem?_eq_none (by simp; omega), List.getElem?_eq_none (by simp; omega)]
theorem getN_of {bs cs : List Int} {a b : Nat} (h : (bs.drop a).take 4 = (cs.drop b).take 4) : getN bs a 4 = getN cs b 4 := by
  rw [← getN_part (bs := bs), ← getN_part (bs := cs), h]
theorem getN_le4 {n : Int} (h : 0 ≤ n ∧ n < 4294967296) : getN (le4 n) 0 4 = n := by
  simp only [getN, byteAt, le4]
  simp
  omega
theorem getN_put {bs : List Int} {a : Nat} {n : Int} (hl : a + 4 ≤ bs.length) (h : 0 ≤ n ∧ n < 4294967296) : getN (putB bs a (le4 n)) a 4 = n := by
  rw [getN_of (cs := le4 n) (b := 0) (by
    have := get_same (bs := bs) (ys := le4 n) (a := a) (by show a + 4 ≤ _; exact hl)
    rw [show (le4 n).length = 4 from rfl] at this
    rw [this]; rfl), getN_le4 h]
end Go.Pse
namespace Go.Pse
open Go.RowKit Go.Proofs
/-! ### plain: a ring told by numbers -/
theorem p2n (k : Nat) : (2 : Int) ^ ((k : Int)).toNat = ((2 ^ k : Nat) : Int) := by rw [Int.toNat_natCast]; simp
theorem mod_ne {m j t : Nat} (h1 : j < t) (h2 : t < j + m) : j % m ≠ t % m := fun e => by
  have h := Nat.sub_mod_eq_zero_of_mod_eq e.symm
  rw [Nat.mod_eq_of_lt (by omega)] at h
  omega
theorem pw_pos (k : Nat) : 0 < 2 ^ k := Nat.pow_pos (by decide)
theorem pw_le {k n : Nat} (h : k ≤ n) : 2 ^ k ≤ 2 ^ n := Nat.pow_le_pow_right (by decide) h
/-- The ring 4, told by numbers: tk taken, tl written, P posted. -/
def rgW (sb cb : Nat) (C : Nat → Cqe) (tk tl P : Nat) : Rg := ⟨5, 6, (sb : Int), (cb : Int), (tk : Int), (tl : Int), (List.range (P - tl)).map fun i => C (tl + i)⟩
/-- .. and its memory: lay laid, sent of them told, hd read; X: the entries' bytes; C: the completions. -/
structure RW (sb cb : Nat) (X : Nat → List Int) (C : Nat → Cqe) (sent lay tk hd tl P : Nat) (MS : List (List Int)) : Prop where
  sz : sb ≤ 3 ∧ cb ≤ 4
  mem : MemOk MS
  sw : getN (rowAt MS 5) 4 4 = (sent : Int)
  hw : getN (rowAt MS 6) 0 4 = (hd : Int)
  num : tk ≤ sent ∧ sent ≤ lay ∧ lay ≤ tk + 2 ^ sb ∧ hd ≤ tl ∧ tl ≤ hd + 2 ^ cb ∧ tl ≤ P ∧ lay ≤ 1000000 ∧ P ≤ 1000000
  ent : ∀ j, tk ≤ j → j < lay → ((rowAt MS 5).drop (16 + 32 * (j % 2 ^ sb))).take 32 = X j
  cmp : ∀ j, hd ≤ j → j < tl → ((rowAt MS 6).drop (16 + 16 * (j % 2 ^ cb))).take 16 = bytesX (C j)
section
variable {sb cb : Nat} {X : Nat → List Int} {C : Nat → Cqe} {sent lay tk hd tl P : Nat} {MS : List (List Int)}
theorem RW.sbP (h : RW sb cb X C sent lay tk hd tl P MS) : 2 ^ sb ≤ 8 := pw_le h.sz.1
theorem RW.cbP (h : RW sb cb X C sent lay tk hd tl P MS) : 2 ^ cb ≤ 16 := pw_le h.sz.2
theorem RW.ok (h : RW sb cb X C sent lay tk hd tl P MS) : RgOk (rgW sb cb C tk tl P) := by
  have := h.sz; have := h.num
  exact ⟨by show (1 : Int) ≤ 5 ∧ (5 : Int) ≤ 64; omega, by show (1 : Int) ≤ 6 ∧ (6 : Int) ≤ 64; omega, by show (0 : Int) ≤ (cb : Int) ∧ (cb : Int) ≤ 4; omega, by show (0 : Int) ≤ (tl : Int) ∧ (tl : Int) < _; omega, by show (0 : Int) ≤ (sb : Int) ∧ (sb : Int) ≤ 3; omega, by show (0 : Int) ≤ (tk : Int) ∧ (tk : Int) < _; omega⟩
theorem RW.near (h : RW sb cb X C sent lay tk hd tl P MS) : rgNear (rgW sb cb C tk tl P) MS = ((sent - tk : Nat) : Int) ∧ rgWaitOk (rgW sb cb C tk tl P) MS = true := by
  have hn := h.num
  have e : rgNear (rgW sb cb C tk tl P) MS = ((sent - tk : Nat) : Int) := by
    unfold rgNear
    show IntKind.u32.wrap (getN (rowAt MS 5) 4 4 - (tk : Int)) = _
    rw [h.sw, wrap32u_of (by omega)]; omega
  refine ⟨e, ?_⟩
  unfold rgWaitOk
  rw [e]
  show (!decide (_ > (2 : Int) ^ ((sb : Int)).toNat)) = true
  rw [p2n, decide_eq_false (by omega)]; rfl
theorem RW.wait (h : RW sb cb X C sent lay tk hd tl P MS) : rgWait (rgW sb cb C tk tl P) MS = ((sent - tk : Nat) : Int) := by
  unfold rgWait
  rw [h.near.2, if_pos rfl, h.near.1]
theorem RW.far (h : RW sb cb X C sent lay tk hd tl P MS) {tk' P' : Nat} : rgFar (rgW sb cb C tk' tl P') MS = ((tl - hd : Nat) : Int) ∧ rgRoomOk (rgW sb cb C tk' tl P') MS = true ∧ rgWrOk (rgW sb cb C tk' tl P') MS = decide (tl < hd + 2 ^ cb) := by
  have hn := h.num
  have e : rgFar (rgW sb cb C tk' tl P') MS = ((tl - hd : Nat) : Int) := by
    unfold rgFar
    show IntKind.u32.wrap ((tl : Int) - getN (rowAt MS 6) 0 4) = _
    rw [h.hw, wrap32u_of (by omega)]; omega
  refine ⟨e, ?_, ?_⟩
  · unfold rgRoomOk
    rw [e]
    show (!decide (_ > (2 : Int) ^ ((cb : Int)).toNat)) = true
    rw [p2n, decide_eq_false (by omega)]; rfl
  · unfold rgWrOk
    rw [e]
    show decide (_ < (2 : Int) ^ ((cb : Int)).toNat) = _
    rw [p2n, decide_eq_decide]; omega
theorem RW.valid (h : RW sb cb X C sent lay tk hd tl P MS) : rgValid (rgW sb cb C tk tl P) MS = true := by
  unfold rgValid
  rw [h.near.2, h.far.2.1]; rfl
theorem RW.room (h : RW sb cb X C sent lay tk hd tl P MS) : rgRoom (rgW sb cb C tk tl P) MS = ((hd + 2 ^ cb - tl : Nat) : Int) := by
  have hn := h.num
  unfold rgRoom
  rw [h.far.1]
  show (if _ > (2 : Int) ^ ((cb : Int)).toNat then (0 : Int) else (2 : Int) ^ ((cb : Int)).toNat - _) = _
  rw [p2n, if_neg (by omega)]; omega
theorem RW.fetch (h : RW sb cb X C sent lay tk hd tl P MS) {k : Nat} (hk : tk + k < lay) : fetchB (rgW sb cb C tk tl P) MS k = X (tk + k) := by
  have hn := h.num
  have hp := h.sbP
  unfold fetchB
  show ((rowAt MS 5).drop (16 + IntKind.u32.wrap ((tk : Int) + IntKind.u32.wrap (k : Int)) % (2 : Int) ^ ((sb : Int)).toNat * 32).toNat).take 32 = _
  rw [wrap32u_of (a := (k : Int)) (by omega), wrap32u_of (by omega), p2n, ← h.ent (tk + k) (by omega) hk]
  congr 2
  have : ((tk : Int) + (k : Int)) % ((2 ^ sb : Nat) : Int) = (((tk + k) % 2 ^ sb : Nat) : Int) := by rw [Int.natCast_emod]; simp
  rw [this]; omega
theorem RW.raw (h : RW sb cb X C sent lay tk hd tl P MS) {s : KS} (hs : s.mem = MS) {m : Nat} (hm : tk + m ≤ lay) : takeRaw s (rgW sb cb C tk tl P) m = (List.range m).map fun k => X (tk + k) := by
  unfold takeRaw
  refine List.map_congr_left fun k hk => ?_
  rw [hs]
  exact h.fetch (by have := List.mem_range.1 hk; omega)
/-- More is posted than there is room for. -/
theorem RW.more (h : RW sb cb X C sent lay tk hd tl P MS) {P' : Nat} (hp : tl ≤ P') (hP : P' ≤ 1000000) : RW sb cb X C sent lay tk hd tl P' MS := ⟨h.sz, h.mem, h.sw, h.hw, ⟨h.num.1, h.num.2.1, h.num.2.2.1, h.num.2.2.2.1, h.num.2.2.2.2.1, hp, h.num.2.2.2.2.2.2.1, hP⟩, h.ent, h.cmp⟩
theorem RW.rows (h : RW sb cb X C sent lay tk hd tl P MS) {u : Int} (hu : 1 ≤ u ∧ u ≤ 64) {r : List Int} (c : Int) (hc : 1 ≤ c) : rowAt (MS.set (u - 1).toNat r) c = if c = u then r else rowAt MS c := rowAt_set hu hc h.mem.len
/-- A completion is written. -/
theorem RW.wr (h : RW sb cb X C sent lay tk hd tl P MS) (hr : tl < hd + 2 ^ cb) (hP : tl < P) {tk' P' : Nat} : RW sb cb X C sent lay tk hd (tl + 1) P (MS.set ((6 : Int) - 1).toNat (rgRow (rgW sb cb C tk' tl P') MS (C tl))) := by
  have hn := h.num
  have hp := h.cbP
  have hpp := pw_pos cb
  obtain ⟨_, r2, r3⟩ := h.mem.at (u := 6) (by omega)
  have hx : (bytesX (C tl)).length = 16 := rfl
  have ho : (16 + (tl : Int) % ((2 ^ cb : Nat) : Int) * 16).toNat = 16 + 16 * (tl % 2 ^ cb) := by
    have : (tl : Int) % ((2 ^ cb : Nat) : Int) = ((tl % 2 ^ cb : Nat) : Int) := by rw [Int.natCast_emod]
    rw [this]; omega
  have hrow : rgRow (rgW sb cb C tk' tl P') MS (C tl) = putB (putB (rowAt MS 6) (16 + 16 * (tl % 2 ^ cb)) (bytesX (C tl))) 4 (le4 ((tl : Int) + 1)) := by
    unfold rgRow
    show putB (putB (rowAt MS 6) (16 + (tl : Int) % (2 : Int) ^ ((cb : Int)).toNat * 16).toNat (bytesX (C tl))) 4 (le4 (IntKind.u32.wrap ((tl : Int) + 1))) = _
    rw [p2n, ho, wrap32u_of (by omega)]
  have hm := Nat.mod_lt tl hpp
  have hin : 16 + 16 * (tl % 2 ^ cb) + (bytesX (C tl)).length ≤ (rowAt MS 6).length := by omega
  have hl1 : (putB (rowAt MS 6) (16 + 16 * (tl % 2 ^ cb)) (bytesX (C tl))).length = 512 := by rw [putB_len hin, r2]
  have hl4 : ((le4 ((tl : Int) + 1))).length = 4 := rfl
  have R := h.rows (u := 6) (by omega) (r := rgRow (rgW sb cb C tk' tl P') MS (C tl))
  have e5 := R 5 (by omega)
  rw [if_neg (by decide)] at e5
  have e6 := (R 6 (by omega)).trans (by rw [if_pos rfl, hrow])
  refine ⟨h.sz, h.mem.put ⟨by rw [hrow, putB_len (by omega), hl1], by rw [hrow]; exact putB_bytes (putB_bytes r3 (bytesX_bytes _)) (le4_bytes _)⟩, by rw [e5]; exact h.sw, ?_, ⟨hn.1, hn.2.1, hn.2.2.1, by omega, by omega, by omega, by omega, by omega⟩, fun j h1 h2 => by rw [e5]; exact h.ent j h1 h2, fun j h1 h2 => ?_⟩
  · rw [e6, ← h.hw]
    refine getN_of ?_
    rw [get_far (by omega) (.inl (by omega)), get_far hin (.inl (by omega))]
  · have hj := Nat.mod_lt j hpp
    rw [e6, get_far (by omega) (.inr (by omega))]
    by_cases hjt : j = tl
    · subst hjt
      have := get_same hin
      rw [hx] at this
      exact this
    · have hne := mod_ne (m := 2 ^ cb) (j := j) (t := tl) (by omega) (by omega)
      rw [get_far hin (by omega), h.cmp j h1 (by omega)]
/-- One is posted. -/
theorem RW.post (h : RW sb cb X C sent lay tk hd tl P MS) (hP : P < 1000000) : ∃ tl' MS', tl' = (if P = tl ∧ tl < hd + 2 ^ cb then tl + 1 else tl) ∧ RW sb cb X C sent lay tk hd tl' (P + 1) MS' ∧ postR (rgW sb cb C tk tl P) MS (C P) = rgW sb cb C tk tl' (P + 1) ∧ postM (rgW sb cb C tk tl P) MS (C P) = MS' := by
  have hn := h.num
  have hw := (h.far (tk' := tk) (P' := P)).2.2
  have he : (rgW sb cb C tk tl P).over.isEmpty = decide (P = tl) := by
    show ((List.range (P - tl)).map fun i => C (tl + i)).isEmpty = _
    by_cases e : P = tl
    · rw [e, Nat.sub_self, decide_eq_true rfl]; rfl
    · rw [decide_eq_false e]
      obtain ⟨k, hk⟩ : ∃ k, P - tl = k + 1 := ⟨P - tl - 1, by omega⟩
      rw [hk, List.range_succ_eq_map]; rfl
  unfold postR postM postOk
  rw [he, hw]
  by_cases hc : P = tl ∧ tl < hd + 2 ^ cb
  · rw [decide_eq_true hc.1, decide_eq_true hc.2]
    obtain ⟨rfl, hr⟩ := hc
    refine ⟨P + 1, _, by rw [if_pos ⟨rfl, hr⟩], (h.more (P' := P + 1) (by omega) (by omega)).wr hr (by omega) (tk' := tk) (P' := P), ?_, rfl⟩
    show ({ rgW sb cb C tk P P with tail := IntKind.u32.wrap ((P : Int) + 1) } : Rg) = _
    rw [wrap32u_of (by omega)]
    unfold rgW
    rw [Nat.sub_self, Nat.sub_self]; rfl
  · have hf : (decide (P = tl) && decide (tl < hd + 2 ^ cb)) = false := by
      rw [Bool.and_eq_false_iff, decide_eq_false_iff_not, decide_eq_false_iff_not]
      exact Decidable.not_and_iff_or_not.1 hc
    rw [hf]
    refine ⟨tl, MS, by rw [if_neg hc], h.more (by omega) (by omega), ?_, rfl⟩
    unfold rgW
    show (⟨_, _, _, _, _, _, ((List.range (P - tl)).map fun i => C (tl + i)) ++ [C P]⟩ : Rg) = _
    rw [show P + 1 - tl = (P - tl) + 1 by omega, List.range_succ, List.map_append, List.map_singleton, show tl + (P - tl) = P by omega]
/-- Those that wait are written, as long as there is room. -/
theorem RW.flushX : ∀ (n : Nat) {tl : Nat} {MS : List (List Int)} {r : Rg}, RW sb cb X C sent lay tk hd tl (tl + n) MS → r = { rgW sb cb C tk tl (tl + n) with over := r.over } → ∃ MS', RW sb cb X C sent lay tk hd (min (tl + n) (hd + 2 ^ cb)) (tl + n) MS' ∧ flushX r MS ((List.range n).map fun i => C (tl + i)) = (rgW sb cb C tk (min (tl + n) (hd + 2 ^ cb)) (tl + n), MS')
  | 0, tl, MS, r, h, hr => by
    have hn := h.num
    refine ⟨MS, ?_, ?_⟩
    · rw [show min (tl + 0) (hd + 2 ^ cb) = tl by omega]; exact h
    · rw [hr]
      show ({ rgW sb cb C tk tl (tl + 0) with over := [] }, MS) = _
      rw [show min (tl + 0) (hd + 2 ^ cb) = tl by omega]
      unfold rgW
      rw [show tl + 0 - tl = 0 by omega]; rfl
  | n + 1, tl, MS, r, h, hr => by
    have hn := h.num
    have hw := (h.far (tk' := tk) (P' := tl + (n + 1))).2.2
    have hw2 : rgWrOk r MS = decide (tl < hd + 2 ^ cb) := by rw [hr]; exact hw
    have hl : (List.range (n + 1)).map (fun i => C (tl + i)) = C tl :: (List.range n).map fun i => C (tl + 1 + i) := by
      rw [List.range_succ_eq_map, List.map_cons, List.map_map]
      congr 1
      refine List.map_congr_left fun i _ => ?_
      show C (tl + (i + 1)) = _
      rw [show tl + (i + 1) = tl + 1 + i by omega]
    rw [hl]
    unfold Go.Pse.flushX
    rw [hw2]
    by_cases hc : tl < hd + 2 ^ cb
    · rw [decide_eq_true hc, if_pos rfl]
      have h1 := h.wr hc (by omega) (tk' := tk) (P' := tl + (n + 1))
      rw [show tl + (n + 1) = tl + 1 + n by omega] at h1 ⊢
      obtain ⟨MS', g1, g2⟩ := RW.flushX n (r := rgUp r) h1 (by
        rw [hr]
        show ({ rgW sb cb C tk tl (tl + (n + 1)) with over := r.over, tail := IntKind.u32.wrap ((tl : Int) + 1) } : Rg) = _
        rw [wrap32u_of (by omega)]; rfl)
      refine ⟨MS', g1, ?_⟩
      rw [hr] at g2 ⊢
      exact g2
    · rw [decide_eq_false hc, if_neg (by decide)]
      refine ⟨MS, ?_, ?_⟩
      · rw [show min (tl + (n + 1)) (hd + 2 ^ cb) = tl by omega]; exact h
      · rw [hr, ← hl, show min (tl + (n + 1)) (hd + 2 ^ cb) = tl by omega]
        unfold rgW
        rw [show tl + (n + 1) - tl = n + 1 by omega]
theorem RW.flush (h : RW sb cb X C sent lay tk hd tl P MS) : ∃ MS', RW sb cb X C sent lay tk hd (min P (hd + 2 ^ cb)) P MS' ∧ flushR (rgW sb cb C tk tl P) MS = (rgW sb cb C tk (min P (hd + 2 ^ cb)) P, MS') := by
  obtain ⟨n, rfl⟩ : ∃ n, P = tl + n := ⟨P - tl, by have := h.num; omega⟩
  obtain ⟨MS', g1, g2⟩ := RW.flushX n (r := rgW sb cb C tk tl (tl + n)) h rfl
  refine ⟨MS', g1, ?_⟩
  unfold flushR
  rw [show (rgW sb cb C tk tl (tl + n)).over = (List.range n).map fun i => C (tl + i) by unfold rgW; dsimp only; rw [show tl + n - tl = n by omega]]
  exact g2
/-- A row of the ring's entries, changed where no entry stands. -/
theorem RW.put5 (h : RW sb cb X C sent lay tk hd tl P MS) {o : Nat} {ys : List Int} (ho : o + ys.length ≤ 512) (hy : Bytes ys) : MemOk (MS.set ((5 : Int) - 1).toNat (putB (rowAt MS 5) o ys)) ∧ rowAt (MS.set ((5 : Int) - 1).toNat (putB (rowAt MS 5) o ys)) 5 = putB (rowAt MS 5) o ys ∧ rowAt (MS.set ((5 : Int) - 1).toNat (putB (rowAt MS 5) o ys)) 6 = rowAt MS 6 ∧ (rowAt MS 5).length = 512 := by
  obtain ⟨_, r2, r3⟩ := h.mem.at (u := 5) (by omega)
  have R := h.rows (u := 5) (by omega) (r := putB (rowAt MS 5) o ys)
  have e5 := R 5 (by omega)
  rw [if_pos rfl] at e5
  have e6 := R 6 (by omega)
  rw [if_neg (by decide)] at e6
  exact ⟨h.mem.put ⟨by rw [putB_len (by omega), r2], putB_bytes r3 hy⟩, e5, e6, r2⟩
theorem RW.adv (h : RW sb cb X C sent lay tk hd tl P MS) {n : Nat} (hk : tk + n ≤ sent) : RW sb cb X C sent lay (tk + n) hd tl P (advM (rgW sb cb C tk tl P) MS (n : Int)) ∧ advR (rgW sb cb C tk tl P) (n : Int) = rgW sb cb C (tk + n) tl P := by
  have hn := h.num
  have ea : advR (rgW sb cb C tk tl P) (n : Int) = rgW sb cb C (tk + n) tl P := by
    unfold advR rgW
    dsimp only
    rw [wrap32u_of (a := (n : Int)) (by omega), wrap32u_of (by omega)]
    congr 1
  refine ⟨?_, ea⟩
  unfold advM
  rw [ea]
  show RW sb cb X C sent lay (tk + n) hd tl P (MS.set ((5 : Int) - 1).toNat (putB (rowAt MS 5) 0 (le4 ((tk + n : Nat) : Int))))
  obtain ⟨g1, g2, g3, g4⟩ := h.put5 (o := 0) (ys := le4 ((tk + n : Nat) : Int)) (by show 0 + 4 ≤ 512; omega) (le4_bytes _)
  have hl : (le4 ((tk + n : Nat) : Int)).length = 4 := rfl
  refine ⟨h.sz, g1, ?_, by rw [g3]; exact h.hw, ⟨hk, by omega⟩, fun j h1 h2 => ?_, fun j h1 h2 => by rw [g3]; exact h.cmp j h1 h2⟩
  · rw [g2, ← h.sw]
    exact getN_of (get_far (by omega) (.inr (by omega)))
  · rw [g2, get_far (by omega) (.inr (by omega))]
    exact h.ent j (by omega) h2
/-- An entry is laid. -/
theorem RW.layE (h : RW sb cb X C sent lay tk hd tl P MS) (hr : lay < tk + 2 ^ sb) (hl : lay < 1000000) {ys : List Int} (hy : ys = X lay) (hy2 : ys.length = 32 ∧ Bytes ys) : RW sb cb X C sent (lay + 1) tk hd tl P (MS.set ((5 : Int) - 1).toNat (putB (rowAt MS 5) (16 + 32 * (lay % 2 ^ sb)) ys)) := by
  have hn := h.num
  have hp := h.sbP
  have hpp := pw_pos sb
  have hm := Nat.mod_lt lay hpp
  obtain ⟨g1, g2, g3, g4⟩ := h.put5 (o := 16 + 32 * (lay % 2 ^ sb)) (ys := ys) (by omega) hy2.2
  refine ⟨h.sz, g1, ?_, by rw [g3]; exact h.hw, ⟨hn.1, by omega⟩, fun j h1 h2 => ?_, fun j h1 h2 => by rw [g3]; exact h.cmp j h1 h2⟩
  · rw [g2, ← h.sw]
    exact getN_of (get_far (by omega) (.inl (by omega)))
  · rw [g2]
    have hj := Nat.mod_lt j hpp
    by_cases hjl : j = lay
    · subst hjl
      have := get_same (bs := rowAt MS 5) (ys := ys) (a := 16 + 32 * (j % 2 ^ sb)) (by omega)
      rw [hy2.1] at this
      rw [this, hy]
    · have hne := mod_ne (m := 2 ^ sb) (j := j) (t := lay) (by omega) (by omega)
      rw [get_far (by omega) (by omega), h.ent j h1 (by omega)]
/-- What is laid is told. -/
theorem RW.tell (h : RW sb cb X C sent lay tk hd tl P MS) {n : Nat} (hk : tk ≤ n ∧ n ≤ lay) : RW sb cb X C n lay tk hd tl P (MS.set ((5 : Int) - 1).toNat (putB (rowAt MS 5) 4 (le4 (n : Int)))) := by
  have hn := h.num
  obtain ⟨g1, g2, g3, g4⟩ := h.put5 (o := 4) (ys := le4 (n : Int)) (by show 4 + 4 ≤ 512; omega) (le4_bytes _)
  have hl : (le4 (n : Int)).length = 4 := rfl
  refine ⟨h.sz, g1, by rw [g2, getN_put (by omega) (by omega)], by rw [g3]; exact h.hw, ⟨hk.1, hk.2, by omega⟩, fun j h1 h2 => ?_, fun j h1 h2 => by rw [g3]; exact h.cmp j h1 h2⟩
  rw [g2, get_far (by omega) (.inr (by omega))]
  exact h.ent j h1 h2
/-- Completions are read. -/
theorem RW.read (h : RW sb cb X C sent lay tk hd tl P MS) {n : Nat} (hk : hd ≤ n ∧ n ≤ tl) : RW sb cb X C sent lay tk n tl P (MS.set ((6 : Int) - 1).toNat (putB (rowAt MS 6) 0 (le4 (n : Int)))) := by
  have hn := h.num
  obtain ⟨_, r2, r3⟩ := h.mem.at (u := 6) (by omega)
  have R := h.rows (u := 6) (by omega) (r := putB (rowAt MS 6) 0 (le4 (n : Int)))
  have e5 := R 5 (by omega)
  rw [if_neg (by decide)] at e5
  have e6 := R 6 (by omega)
  rw [if_pos rfl] at e6
  have hl : (le4 (n : Int)).length = 4 := rfl
  refine ⟨h.sz, h.mem.put ⟨by rw [putB_len (by omega), r2], putB_bytes r3 (le4_bytes _)⟩, by rw [e5]; exact h.sw, by rw [e6, getN_put (by omega) (by omega)], ⟨hn.1, hn.2.1, hn.2.2.1, by omega⟩, fun j h1 h2 => by rw [e5]; exact h.ent j h1 h2, fun j h1 h2 => ?_⟩
  rw [e6, get_far (by omega) (.inr (by omega))]
  exact h.cmp j (by omega) h2
end
end Go.Pse
namespace Go.Pse
open Go.RowKit Go.Proofs
/-! ### plain: entries are read as they were laid -/
structure SqeW (e : Sqe) : Prop where
  ck : checkE e = true
  tag : 0 ≤ e.tag ∧ e.tag < 4294967296
  cap : 0 ≤ e.cap ∧ e.cap < 4294967296
  a : 0 ≤ e.a ∧ e.a < 4294967296
  b : 0 ≤ e.b ∧ e.b < 4294967296
  c : 0 ≤ e.c ∧ e.c < 4294967296
  time : 0 ≤ e.time ∧ e.time < 4294967296
theorem raw_is {e : Sqe} (h : SqeW e) : (rawE e).length = 32 ∧ goodE (rawE e) = true ∧ entE (rawE e) = e := by
 obtain ⟨hc, h1, h2, h3, h4, h5, h6⟩ := h
 have hr : rawE e = bytesE e := if_pos hc
 have hb : readE (bytesE e) = e := by
  have hc2 := hc
  unfold checkE at hc2
  simp only [Bool.and_eq_true, decide_eq_true_eq] at hc2
  have h0 : e.op % 256 = e.op ∧ e.flags % 256 = e.flags := by omega
  obtain ⟨op, fl, tg, cp, a, b, c, tm⟩ := e
  simp only at *
  unfold readE bytesE
  simp [getN, byteAt, le4]
  omega
 have hg : goodE (bytesE e) = true := by
  unfold goodE
  rw [hb, hc]; rfl
 rw [hr]
 refine ⟨rfl, hg, ?_⟩
 unfold entE
 rw [hg, if_pos rfl, hb]
/-! ### plain: requests that hang on nobody -/
def rowL : Nat → List Sqe → List Rq
  | _, [] => []
  | k, e :: es => ⟨(4, 1 + (k : Int)), e, 0, false, false⟩ :: rowL (k + 1) es
theorem rowL_mem : ∀ {es : List Sqe} {k : Nat} {q : Rq}, q ∈ rowL k es → ∃ i e, es[i]? = some e ∧ q = ⟨(4, 1 + ((k + i : Nat) : Int)), e, 0, false, false⟩
  | [], _, _, h => by cases h
  | e :: es, k, q, h => by
    rcases List.mem_cons.1 h with rfl | h
    · exact ⟨0, e, rfl, by rw [Nat.add_zero]⟩
    · obtain ⟨i, x, h1, h2⟩ := rowL_mem h
      exact ⟨i + 1, x, h1, by rw [h2, show k + 1 + i = k + (i + 1) by omega]⟩
theorem rowL_row : ∀ (es : List Sqe) (k : Nat), Row (rowL k es)
  | [], _ => ⟨fun _ h => (by cases h), List.Pairwise.nil⟩
  | e :: es, k => ⟨fun q hq => by
      obtain ⟨i, x, _, rfl⟩ := rowL_mem hq
      rfl, List.pairwise_cons.2 ⟨fun q hq => by
      obtain ⟨i, x, _, rfl⟩ := rowL_mem hq
      show 1 + (k : Int) < 1 + ((k + 1 + i : Nat) : Int)
      omega, (rowL_row es (k + 1)).up⟩⟩
section
variable {dn rest : List Rq} {q : Rq}
theorem Row.behind (h : Row (dn ++ q :: rest)) : Row (q :: rest) := ⟨fun x hx => h.ring x (List.mem_append_right _ hx), (List.pairwise_append.1 h.up).2.1⟩
theorem Row.drop (h : Row (dn ++ q :: rest)) : Row (dn ++ rest) := ⟨fun x hx => by
  rcases List.mem_append.1 hx with hx | hx
  · exact h.ring x (List.mem_append_left _ hx)
  · exact h.ring x (List.mem_append_right _ (List.mem_cons_of_mem _ hx)), h.up.sublist (List.Sublist.append (List.Sublist.refl _) (List.sublist_cons_self _ _))⟩
theorem Row.ahead (h : Row (dn ++ q :: rest)) : ∀ x ∈ dn, x.id ≠ q.id := fun x hx e => by
  have := (List.pairwise_append.1 h.up).2.2 x hx q (List.mem_cons_self)
  rw [e] at this; omega
theorem Row.lookM : ∀ {dn : List Rq}, Row (dn ++ q :: rest) → look (pairsQ (dn ++ q :: rest)) q.id = some q
  | [], _ => pairs_look
  | x :: dn, h => by
    show look ((x.id, x) :: pairsQ (dn ++ q :: rest)) q.id = _
    rw [look_cons, if_neg (h.ahead x (List.mem_cons_self)), Row.lookM (dn := dn) (Row.tail h)]
theorem Row.delM : ∀ {dn : List Rq}, Row (dn ++ q :: rest) → Go.Pse.del (pairsQ (dn ++ q :: rest)) q.id = pairsQ (dn ++ rest)
  | [], h => h.del
  | x :: dn, h => by
    show List.filter (fun e => !decide (e.1 = q.id)) ((x.id, x) :: pairsQ (dn ++ q :: rest)) = (x.id, x) :: pairsQ (dn ++ rest)
    rw [List.filter_cons, if_pos (by simpa using h.ahead x (List.mem_cons_self))]
    congr 1
    exact Row.delM (dn := dn) (Row.tail h)
theorem Row.startM (h : Row (dn ++ q :: rest)) : rtS (pairsQ (dn ++ q :: rest)) q.id = pairsQ (dn ++ { q with started := true } :: rest) := by
 unfold rtS
 rw [h.lookM]
 show Go.Pse.ins (pairsQ (dn ++ q :: rest)) q.id { q with started := true } = _
 unfold Go.Pse.ins
 rw [if_pos (by rw [h.lookM]; rfl), pairs_app, pairs_app, List.map_append]
 have same : ∀ l : List Rq, (∀ x ∈ l, x.id ≠ q.id) → (pairsQ l).map (fun p => if p.1 = q.id then (q.id, { q with started := true }) else p) = pairsQ l := fun l hl => by
  conv => rhs; rw [← List.map_id (pairsQ l)]
  refine List.map_congr_left fun e he => ?_
  obtain ⟨x, hx, rfl⟩ := List.mem_map.1 he
  rw [if_neg (hl x hx)]; rfl
 rw [same dn h.ahead]
 congr 1
 show List.map _ ((q.id, q) :: pairsQ rest) = (q.id, { q with started := true }) :: pairsQ rest
 rw [List.map_cons, if_pos rfl, same rest h.behind.ne]
theorem Row.mark (h : Row (dn ++ q :: rest)) {q' : Rq} (hi : q'.id = q.id) : Row (dn ++ q' :: rest) := ⟨fun x hx => by
  rcases List.mem_append.1 hx with hx | hx
  · exact h.ring x (List.mem_append_left _ hx)
  · exact (h.behind.head hi).ring x hx, List.pairwise_append.2 ⟨(List.pairwise_append.1 h.up).1, (h.behind.head hi).up, fun x hx y hy => by
  rcases List.mem_cons.1 hy with rfl | hy
  · rw [hi]; exact (List.pairwise_append.1 h.up).2.2 x hx q (List.mem_cons_self)
  · exact (List.pairwise_append.1 h.up).2.2 x hx y (List.mem_cons_of_mem _ hy)⟩⟩
theorem nextF_skip {ps : List (ID × Rq)} {g : Int} {l : List Rq} : ∀ (dn : List Rq) (k : Nat), (∀ x ∈ dn, x.started = true) → nextF ps g k (dn ++ l) = nextF ps g (k + dn.length) l
  | [], _, _ => rfl
  | x :: dn, k, h => by
    rw [List.cons_append, nextF, if_neg (by unfold goQ; rw [h x (List.mem_cons_self)]; simp), nextF_skip dn (k + 1) (fun y hy => h y (List.mem_cons_of_mem _ hy)), List.length_cons, show k + 1 + dn.length = k + (dn.length + 1) by omega]
theorem Row.nextM (h : Row (dn ++ q :: rest)) (hd : ∀ x ∈ dn, x.started = true) (hs : q.started = false) (hp : q.prev = 0) (hf : q.e.flags = 0) : nextQ (pairsQ (dn ++ q :: rest)) 4 = some q.id := by
  unfold nextQ
  rw [h.of, nextF_skip _ _ hd, nextF, if_pos (by unfold goQ freeQ; rw [hs, hp, hf]; rfl)]; rfl
theorem Row.noAfter {l : List Rq} (h : Row l) {i : ID} (hi : i.1 = 4) (h0 : ∀ x ∈ l, x.prev = 0) (h1 : i.2 ≠ 0) : afterQ (pairsQ l) i = none := by
  unfold afterQ
  rw [hi, h.of]
  exact List.find?_eq_none.2 fun x hx => by rw [h0 x hx]; simpa using fun e => h1 e.symm
end
/-- Nobody waits for a signal, for an answer; the ring 4 is somebody's. -/
structure Mute (s : KS) (T : Th) : Prop where
  nt : s.nt = []
  rp : ∀ x ∈ s.rp, x.2.2.2 = false
  ow : kOwner s 4 = some T
theorem Mute.at {s : KS} {T : Th} (h : Mute s T) {x : List Tm} {y : List (Int × Nat × List Msg × List Rcv)} {z : List (Int × Int)} : Mute { s with tm := x, ep := y, tk := z } T := ⟨h.nt, h.rp, h.ow⟩
theorem Mute.forget {s : KS} {T : Th} (h : Mute s T) {rs : List Rq} {js : List Deed} {RG : List (Int × Nat × Rg)} {MS : List (List Int)} (i : ID) : kForget (At s rs js RG MS) i = At { s with tm := tdrop s.tm i, ep := allO (epD i) s.ep } rs js RG MS := by
 have e : allO (rpD i) s.rp = s.rp := by
  unfold allO
  conv => rhs; rw [← List.map_id s.rp]
  refine List.map_congr_left fun x hx => ?_
  obtain ⟨u, b, c⟩ := x
  have := h.rp _ hx
  show (u, b, cDrop c i) = (u, b, c)
  unfold cDrop
  rw [if_neg (fun e => by simp only at this; rw [this] at e; cases e.1)]
 show ({ At s rs js RG MS with tm := tdrop s.tm i, ep := allO (epD i) s.ep, nt := allO (ntD i) s.nt, rp := allO (rpD i) s.rp } : KS) = _
 rw [h.nt, e]
 unfold At
 have h1 := h.nt
 cases s
 simp only at h1
 subst h1
 rfl
section
variable {sb cb : Nat} {X : Nat → List Int} {C : Nat → Cqe} {sent lay tk hd tl P b : Nat} {MS : List (List Int)} {s : KS} {T : Th}
theorem RW.said (h : RW sb cb X C sent lay tk hd tl P MS) (hP : P < 1000000) (hnt : s.nt = []) {D : KS → ID → Int → Int → KS} {rs : List Rq} {js : List Deed} {d : Deed} (hd4 : d.1.1 = 4) (hc : ofD d = C P) : ∃ tl' MS', tl' = (if P = tl ∧ tl < hd + 2 ^ cb then tl + 1 else tl) ∧ RW sb cb X C sent lay tk hd tl' (P + 1) MS' ∧ kTell D (At s rs js [(4, b, rgW sb cb C tk tl P)] MS) d = At s rs (js ++ [d]) [(4, b, rgW sb cb C tk tl' (P + 1))] MS' := by
  obtain ⟨tl', MS', h1, h2, h3, h4⟩ := h.post hP
  refine ⟨tl', MS', h1, h2, ?_⟩
  have hs : kSaid (At s rs js [(4, b, rgW sb cb C tk tl P)] MS) d = At s rs (js ++ [d]) [(4, b, rgW sb cb C tk tl' (P + 1))] MS' := by
    unfold kSaid
    rw [kPost_some (b := b) (r := rgW sb cb C tk tl P) (by rw [hd4]; rfl), hd4]
    show ({ At s rs (js ++ [d]) _ _ with rg := updO [(4, b, rgW sb cb C tk tl P)] 4 (fun r => postR r MS (ofD d)), mem := postM (rgW sb cb C tk tl P) MS (ofD d) } : KS) = _
    rw [hc, h4, show updO [((4 : Int), b, rgW sb cb C tk tl P)] 4 (fun r => postR r MS (C P)) = [(4, b, postR (rgW sb cb C tk tl P) MS (C P))] from rfl, h3]; rfl
  unfold kTell
  rw [hs, show look (KS.nt (At s rs (js ++ [d]) [(4, b, rgW sb cb C tk tl' (P + 1))] MS')) (kBell (At s rs (js ++ [d]) [(4, b, rgW sb cb C tk tl' (P + 1))] MS') d.1.1).1 = none from by rw [show KS.nt (At s rs (js ++ [d]) [(4, b, rgW sb cb C tk tl' (P + 1))] MS') = s.nt from rfl, hnt]; rfl]
/-- One of those that hang on nobody is decided. -/
theorem dec_M (hC : Mute s T) {dn rest : List Rq} {q : Rq} (h : Row (dn ++ q :: rest)) (h0 : ∀ x ∈ dn ++ rest, x.prev = 0) (hi : q.id.2 ≠ 0) (hR : RW sb cb X C sent lay tk hd tl P MS) (hP : P < 1000000) {js : List Deed} {r v : Int} (hc : ofD (q.id, q.e.tag, q.e.op, r, v, false) = C P) (n : Nat) : ∃ tl' MS', tl' = (if P = tl ∧ tl < hd + 2 ^ cb then tl + 1 else tl) ∧ RW sb cb X C sent lay tk hd tl' (P + 1) MS' ∧ kDec (n + 1) (At s (dn ++ q :: rest) js [(4, b, rgW sb cb C tk tl P)] MS) q.id r v = At { s with tm := tdrop s.tm q.id, ep := allO (epD q.id) s.ep } (dn ++ rest) (js ++ [(q.id, q.e.tag, q.e.op, r, v, false)]) [(4, b, rgW sb cb C tk tl' (P + 1))] MS' := by
  have h4 : q.id.1 = 4 := h.ring q (List.mem_append_right _ (List.mem_cons_self))
  obtain ⟨tl', MS', g1, g2, g3⟩ := hR.said (b := b) (s := { s with tm := tdrop s.tm q.id, ep := allO (epD q.id) s.ep }) hP hC.nt (D := kDec n) (rs := dn ++ rest) (js := js) (d := (q.id, q.e.tag, q.e.op, r, v, false)) h4 hc
  refine ⟨tl', MS', g1, g2, ?_⟩
  have hl : look (KS.rt (At s (dn ++ q :: rest) js [(4, b, rgW sb cb C tk tl P)] MS)) q.id = some q := h.lookM
  have hdel : { At s (dn ++ q :: rest) js [(4, b, rgW sb cb C tk tl P)] MS with rt := del (KS.rt (At s (dn ++ q :: rest) js [(4, b, rgW sb cb C tk tl P)] MS)) q.id } = At s (dn ++ rest) js [(4, b, rgW sb cb C tk tl P)] MS := by
    have : del (KS.rt (At s (dn ++ q :: rest) js [(4, b, rgW sb cb C tk tl P)] MS)) q.id = pairsQ (dn ++ rest) := h.delM
    rw [this]; rfl
  rw [kDec_some hl, hdel, hC.forget, g3]
  unfold kNext
  rw [show afterQ (KS.rt (At { s with tm := tdrop s.tm q.id, ep := allO (epD q.id) s.ep } (dn ++ rest) (js ++ [(q.id, q.e.tag, q.e.op, r, v, false)]) [(4, b, rgW sb cb C tk tl' (P + 1))] MS')) q.id = none from h.drop.noAfter h4 h0 hi]
end
/-- What begins, of those that hang on nobody. -/
theorem start_M {s : KS} {dn rest : List Rq} {q : Rq} (h : Row (dn ++ q :: rest)) (hs : q.started = false) {js : List Deed} {RG : List (Int × Nat × Rg)} {MS : List (List Int)} {b : Nat} : kStart (At s (dn ++ q :: rest) js RG MS) q.id b = match (kAct (At s (dn ++ { q with started := true } :: rest) js RG MS) q.id b).2 with
    | none => ((kAct (At s (dn ++ { q with started := true } :: rest) js RG MS) q.id b).1, true)
    | some x => (kDec (kAct (At s (dn ++ { q with started := true } :: rest) js RG MS) q.id b).1.rt.length (kAct (At s (dn ++ { q with started := true } :: rest) js RG MS) q.id b).1 q.id x.1 x.2, true) := by
  have e : { At s (dn ++ q :: rest) js RG MS with rt := rtS (KS.rt (At s (dn ++ q :: rest) js RG MS)) q.id } = At s (dn ++ { q with started := true } :: rest) js RG MS := by
    have : rtS (KS.rt (At s (dn ++ q :: rest) js RG MS)) q.id = pairsQ (dn ++ { q with started := true } :: rest) := h.startM
    rw [this]; rfl
  have hl : look (KS.rt (At s (dn ++ q :: rest) js RG MS)) q.id = some q := h.lookM
  rw [kStart_is hl hs, e]
  cases (kAct (At s (dn ++ { q with started := true } :: rest) js RG MS) q.id b).2 <;> rfl
theorem act_M {s : KS} {T : Th} (hC : Mute s T) {dn rest : List Rq} {q : Rq} (h : Row (dn ++ q :: rest)) {js : List Deed} {RG : List (Int × Nat × Rg)} {MS : List (List Int)} {b : Nat} : kAct (At s (dn ++ q :: rest) js RG MS) q.id b = kDoes (At s (dn ++ q :: rest) js RG MS) T q q.id b := by
  have h4 : q.id.1 = 4 := h.ring q (List.mem_append_right _ (List.mem_cons_self))
  have hl : look (KS.rt (At s (dn ++ q :: rest) js RG MS)) q.id = some q := h.lookM
  have ho : kOwner (At s (dn ++ q :: rest) js RG MS) q.id.1 = some T := by rw [h4]; exact hC.ow
  unfold kAct
  rw [hl]
  dsimp only
  rw [ho]
/-! ### plain: entries are taken -/
def pushT (now : Int) : Nat → List Sqe → List Tm → List Tm
  | _, [], xs => xs
  | k, e :: es, xs => pushT now (k + 1) es (match deadE e now with
    | none => xs
    | some d => hpush xs (d, (4, 1 + (k : Int))))
theorem take_L {s : KS} : ∀ (es : List Sqe) (p : Option Sqe) (k : Nat) (dn : List Rq) (xs : List Tm) {js : List Deed} {RG : List (Int × Nat × Rg)} {MS : List (List Int)}, (∀ e ∈ es, SqeW e ∧ e.flags = 0) → (∀ e, p = some e → e.flags = 0) → (∀ q ∈ dn, q.id.2 < 1 + (k : Int)) → dn.length + es.length ≤ 16 → takeF 4 1 p k (es.map rawE) (At { s with tm := xs } dn js RG MS) = At { s with tm := pushT s.now k es xs } (dn ++ rowL k es) js RG MS
  | [], _, _, dn, xs, js, RG, MS, _, _, _, _ => by
    show At { s with tm := xs } dn js RG MS = At { s with tm := xs } (dn ++ []) js RG MS
    rw [List.append_nil]
  | e :: es, p, k, dn, xs, js, RG, MS, he, hp, hd, hl => by
    rw [List.length_cons] at hl
    obtain ⟨h1, h2⟩ := he e (List.mem_cons_self)
    obtain ⟨_, h4, h5⟩ := raw_is h1
    have hq : reqP 4 1 p k e = ⟨(4, 1 + (k : Int)), e, 0, false, false⟩ := by
      unfold reqP
      cases p with
      | none => rfl
      | some d =>
        have := hp d rfl
        unfold prevP softP
        dsimp only
        rw [this]; rfl
    have hno : look (pairsQ dn) (4, 1 + (k : Int)) = none := pairs_none fun q hq e => by
      have := hd q hq
      rw [e] at this
      simp only at this
      omega
    have hadd : addQ (pairsQ dn) ⟨(4, 1 + (k : Int)), e, 0, false, false⟩ = pairsQ (dn ++ [⟨(4, 1 + (k : Int)), e, 0, false, false⟩]) := by
      have ho : addOk (pairsQ dn) ⟨(4, 1 + (k : Int)), e, 0, false, false⟩ = true := by
        unfold addOk
        rw [hno]
        have := ofQ_len (pairsQ dn) 4
        unfold pairsQ at this
        rw [List.length_map] at this
        show (!Option.isSome none && decide ((ofQ (pairsQ dn) 4).length < 16)) = true
        simp
        unfold pairsQ
        omega
      unfold addQ
      rw [if_pos ho, pairs_app]
      unfold Go.Pse.ins
      rw [hno]; rfl
    have hat : addT (At { s with tm := xs } dn js RG MS) (reqP 4 1 p k e) = At { s with tm := (match deadE e s.now with
      | none => xs
      | some d => hpush xs (d, (4, 1 + (k : Int)))) } (dn ++ [⟨(4, 1 + (k : Int)), e, 0, false, false⟩]) js RG MS := by
      rw [hq]
      unfold addT
      rw [show deadE ((⟨(4, 1 + (k : Int)), e, 0, false, false⟩ : Rq)).e (At { s with tm := xs } dn js RG MS).now = deadE e s.now from rfl]
      cases deadE e s.now with
      | none =>
        show ({ At { s with tm := xs } dn js RG MS with rt := addQ (pairsQ dn) _ } : KS) = _
        rw [hadd]; rfl
      | some d =>
        show ({ At { s with tm := xs } dn js RG MS with rt := addQ (pairsQ dn) _, tm := hpush xs _ } : KS) = _
        rw [hadd]; rfl
    rw [List.map_cons, takeF, if_pos h4, h5, hat, take_L es (some e) (k + 1) _ _ (fun x hx => he x (List.mem_cons_of_mem _ hx)) (fun x hx => by cases hx; exact h2) (fun q hq => by
      rcases List.mem_append.1 hq with hq | hq
      · have := hd q hq; omega
      · rw [List.mem_singleton.1 hq]; show 1 + (k : Int) < _; omega) (by rw [List.length_append, List.length_singleton]; omega), List.append_assoc]; rfl
end Go.Pse
namespace Go.Pse
open Go.RowKit Go.Proofs
/-! ### plain: a thread enters, by numbers -/
section
variable {sb cb : Nat} {X : Nat → List Int} {C : Nat → Cqe} {sent lay tk hd tl P b : Nat} {MS : List (List Int)} {s : KS} {T : Th} {rs : List Rq} {js : List Deed}
/-- What the ring's words say, ahead of all else. -/
theorem enter_W (hT : look s.th 2 = some T) (h4 : T.ring = 4) (h : RW sb cb X C sent lay tk hd tl P MS) (n : Int) : ∃ MS', RW sb cb X C sent lay tk hd (min P (hd + 2 ^ cb)) P MS' ∧ flushS (At s rs js [(4, b, rgW sb cb C tk tl P)] MS) 4 (rgW sb cb C tk tl P) = At s rs js [(4, b, rgW sb cb C tk (min P (hd + 2 ^ cb)) P)] MS' ∧ flushR (rgW sb cb C tk tl P) MS = (rgW sb cb C tk (min P (hd + 2 ^ cb)) P, MS') ∧ ∀ β, kEnter (At s rs js [(4, b, rgW sb cb C tk tl P)] MS) 2 n β = if 8 ≤ P - min P (hd + 2 ^ cb) then (At s rs js [(4, b, rgW sb cb C tk (min P (hd + 2 ^ cb)) P)] MS', -13) else kGoOn (At s rs js [(4, b, rgW sb cb C tk (min P (hd + 2 ^ cb)) P)] MS') 4 (clampB n) β := by
 obtain ⟨MS', g1, g2⟩ := h.flush
 have hf : flushS (At s rs js [(4, b, rgW sb cb C tk tl P)] MS) 4 (rgW sb cb C tk tl P) = At s rs js [(4, b, rgW sb cb C tk (min P (hd + 2 ^ cb)) P)] MS' := by
  show ({ At s rs js _ _ with rg := updO [(4, b, rgW sb cb C tk tl P)] 4 (fun r => (flushR r MS).1), mem := (flushR (rgW sb cb C tk tl P) MS).2 } : KS) = _
  rw [g2, show updO [((4 : Int), b, rgW sb cb C tk tl P)] 4 (fun r => (flushR r MS).1) = [(4, b, (flushR (rgW sb cb C tk tl P) MS).1)] from rfl, g2]; rfl
 refine ⟨MS', g1, hf, g2, fun β => ?_⟩
 have hl : look (KS.rg (At s rs js [(4, b, rgW sb cb C tk tl P)] MS)) T.ring = some (b, rgW sb cb C tk tl P) := by rw [h4]; rfl
 have hov : (rgW sb cb C tk (min P (hd + 2 ^ cb)) P).over.length = P - min P (hd + 2 ^ cb) := by unfold rgW; simp
 unfold kEnter
 rw [show look (KS.th (At s rs js [(4, b, rgW sb cb C tk tl P)] MS)) 2 = some T from hT]
 dsimp only
 rw [hl]
 dsimp only
 rw [show (At s rs js [(4, b, rgW sb cb C tk tl P)] MS).mem = MS from rfl, if_neg (by rw [h.valid]; decide), g2, h4, hf]
 dsimp only
 rw [hov]
/-- How many are taken. -/
theorem takeN_W (hr : Row rs) (h : RW sb cb X C sent lay tk hd tl P MS) (h16 : rs.length ≤ 16) (n : Int) : ∃ m : Nat, m = min (min (sent - tk) (clampB n).toNat) (16 - rs.length) ∧ takeN (At s rs js [(4, b, rgW sb cb C tk tl P)] MS) 4 (clampB n) (rgW sb cb C tk tl P) = (m : Int) := by
  refine ⟨_, rfl, ?_⟩
  have hc := clamp_in n
  unfold takeN
  rw [show (At s rs js [(4, b, rgW sb cb C tk tl P)] MS).mem = MS from rfl, h.wait, show ofQ (KS.rt (At s rs js [(4, b, rgW sb cb C tk tl P)] MS)) 4 = rs from hr.of]
  unfold minI maxI
  (repeat' split) <;> omega
/-- Entries that hang on nobody are taken. -/
theorem takeIn_W {ent : Nat → Sqe} (hr : Row rs) (hrk : ∀ q ∈ rs, q.id.2 < 1 + (tk : Int)) (h : RW sb cb (fun j => rawE (ent j)) C sent lay tk hd tl P MS) (htk : s.tk = [(4, (tk : Int))]) (h16 : rs.length ≤ 16) {n : Int} {m : Nat} (hm : m = min (min (sent - tk) (clampB n).toNat) (16 - rs.length)) (he : ∀ j, tk ≤ j → j < tk + m → SqeW (ent j) ∧ (ent j).flags = 0) : ∃ MS', RW sb cb (fun j => rawE (ent j)) C sent lay (tk + m) hd tl P MS' ∧ kTakeIn (At s rs js [(4, b, rgW sb cb C tk tl P)] MS) 4 (clampB n) = (At { s with tm := pushT s.now tk ((List.range m).map fun i => ent (tk + i)) s.tm, tk := [(4, ((tk + m : Nat) : Int))] } (rs ++ rowL tk ((List.range m).map fun i => ent (tk + i))) js [(4, b, rgW sb cb C (tk + m) tl P)] MS', (m : Int)) := by
 have hn := h.num
 obtain ⟨m', hm1, hm2⟩ := takeN_W (s := s) (b := b) (js := js) hr h h16 n
 obtain rfl : m' = m := by rw [hm1, hm]
 obtain ⟨a1, a2⟩ := h.adv (n := m') (by omega)
 refine ⟨_, a1, ?_⟩
 have hraw : takeRaw (At s rs js [(4, b, rgW sb cb C tk tl P)] MS) (rgW sb cb C tk tl P) m' = ((List.range m').map fun i => ent (tk + i)).map rawE := by
  rw [h.raw rfl (by omega), List.map_map]; rfl
 have hkt : kTake (kAdv (At s rs js [(4, b, rgW sb cb C tk tl P)] MS) 4 (rgW sb cb C tk tl P) (m' : Int)) 4 (m' : Int) = At { s with tm := s.tm, tk := [(4, ((tk + m' : Nat) : Int))] } rs js [(4, b, rgW sb cb C (tk + m') tl P)] (advM (rgW sb cb C tk tl P) MS (m' : Int)) := by
  unfold kAdv
  rw [show updO (KS.rg (At s rs js [(4, b, rgW sb cb C tk tl P)] MS)) 4 (fun r => advR r (m' : Int)) = [(4, b, advR (rgW sb cb C tk tl P) (m' : Int))] from rfl, a2]
  unfold kTake At
  cases s
  simp only at htk
  subst htk
  simp [Go.Pse.look, Go.Pse.ins]
 have hkv : kTakeV (kAdv (At s rs js [(4, b, rgW sb cb C tk tl P)] MS) 4 (rgW sb cb C tk tl P) (m' : Int)) 4 (m' : Int) = 1 + (tk : Int) := by
  unfold kTakeV
  show (if (Go.Pse.look s.tk 4).isSome = true then (Go.Pse.look s.tk 4).getD 0 + 1 else 0) = _
  rw [htk]
  show (tk : Int) + 1 = _
  omega
 unfold kTakeIn
 rw [show Go.Pse.look (KS.rg (At s rs js [(4, b, rgW sb cb C tk tl P)] MS)) 4 = some (b, rgW sb cb C tk tl P) from rfl]
 dsimp only
 rw [show (At s rs js [(4, b, rgW sb cb C tk tl P)] MS).mem = MS from rfl, if_pos h.valid, hm2]
 unfold kTaken
 rw [Int.toNat_natCast, hkv, hkt, hraw, takeF_shift, Nat.add_zero]
 have := take_L (s := { s with tk := [(4, ((tk + m' : Nat) : Int))] }) ((List.range m').map fun i => ent (tk + i)) none tk rs s.tm (js := js) (RG := [(4, b, rgW sb cb C (tk + m') tl P)]) (MS := advM (rgW sb cb C tk tl P) MS (m' : Int)) (fun e h1 => by
  obtain ⟨i, hi, rfl⟩ := List.mem_map.1 h1
  rw [List.mem_range] at hi
  exact he _ (by omega) (by omega)) (fun e h => by cases h) hrk (by rw [List.length_map, List.length_range]; omega)
 rw [this]
/-- Which entries stand where they are taken. -/
theorem ent_W {ent : Nat → Sqe} (hT : look s.th 2 = some T) (h4 : T.ring = 4) (hr : Row rs) (h : RW sb cb (fun j => rawE (ent j)) C sent lay tk hd tl P MS) (h16 : rs.length ≤ 16) {p : Sqe → Bool} {n : Int} (he : ∀ j, tk ≤ j → j < sent → SqeW (ent j) ∧ p (ent j) = true) : entOk p (At s rs js [(4, b, rgW sb cb C tk tl P)] MS) 2 n = true := by
 obtain ⟨MS', g1, g2, g3, _⟩ := enter_W (s := s) (b := b) (rs := rs) (js := js) hT h4 h n
 obtain ⟨m, hm1, hm2⟩ := takeN_W (s := s) (b := b) (js := js) hr g1 h16 n
 unfold entOk
 rw [show look (KS.th (At s rs js [(4, b, rgW sb cb C tk tl P)] MS)) 2 = some T from hT]
 dsimp only
 rw [show look (KS.rg (At s rs js [(4, b, rgW sb cb C tk tl P)] MS)) T.ring = some (b, rgW sb cb C tk tl P) from by rw [h4]; rfl]
 dsimp only
 rw [show (At s rs js [(4, b, rgW sb cb C tk tl P)] MS).mem = MS from rfl, h4, g2, g3, hm2, Int.toNat_natCast, g1.raw rfl (by have := g1.num; omega)]
 refine List.all_eq_true.2 fun x hx => ?_
 obtain ⟨k, hk, rfl⟩ := List.mem_map.1 hx
 rw [List.mem_range] at hk
 obtain ⟨e1, e2⟩ := he (tk + k) (by omega) (by omega)
 rw [(raw_is e1).2.2, e2, Bool.or_true]
end
/-! ### plain: entries that do nothing -/
def deedN (k : Nat) (e : Sqe) : Deed := ((4, 1 + (k : Int)), e.tag, e.op, 0, 0, false)
section
variable {sb cb : Nat} {X : Nat → List Int} {C : Nat → Cqe} {sent lay tk hd tl P b : Nat} {MS : List (List Int)} {s : KS} {T : Th}
theorem Quiet.mute (h : Quiet s T) : Mute s T := ⟨h.nt, h.rp, h.ow⟩
theorem Quiet.still (h : Quiet s T) (i : ID) : { s with tm := tdrop s.tm i, ep := allO (epD i) s.ep } = s := by
  obtain ⟨h1, h2, _, _, _⟩ := h
  cases s
  simp only at h1 h2
  subst h1; subst h2
  rfl
theorem run_nops (hQ : Quiet s T) {β : Nat → Nat} : ∀ (es : List Sqe) (k : Nat) {js : List Deed} {tl P : Nat} {MS : List (List Int)} {fuel j : Nat}, (∀ e ∈ es, e.op = 1 ∧ e.flags = 0) → (∀ i e, es[i]? = some e → ofD (deedN (k + i) e) = C (P + i)) → RW sb cb X C sent lay tk hd tl P MS → tl = min P (hd + 2 ^ cb) → P + es.length ≤ 1000000 → es.length ≤ fuel → ∃ js' MS', js'.length = js.length + es.length ∧ RW sb cb X C sent lay tk hd (min (P + es.length) (hd + 2 ^ cb)) (P + es.length) MS' ∧ kRunN 4 β fuel j (At s (rowL k es) js [(4, b, rgW sb cb C tk tl P)] MS) = (At s [] js' [(4, b, rgW sb cb C tk (min (P + es.length) (hd + 2 ^ cb)) (P + es.length))] MS', es.length)
 | [], k, js, tl, P, MS, fuel, j, _, _, hR, ht, _, _ => by
  refine ⟨js, MS, by simp, by rw [List.length_nil, Nat.add_zero, ← ht]; exact hR, ?_⟩
  rw [List.length_nil, Nat.add_zero, ← ht]
  exact run_nil rfl _ _ _ _
 | e :: es, k, js, tl, P, MS, fuel, j, he, hC, hR, ht, hP, hf => by
  rw [List.length_cons] at hP hf ⊢
  obtain ⟨fuel, rfl⟩ : ∃ f, fuel = f + 1 := ⟨fuel - 1, by omega⟩
  obtain ⟨h1, h2⟩ := he e (List.mem_cons_self)
  have hrow : Row (([] : List Rq) ++ ⟨(4, 1 + (k : Int)), e, 0, false, false⟩ :: rowL (k + 1) es) := rowL_row (e :: es) k
  have hnx : nextQ (pairsQ (rowL k (e :: es))) 4 = some (4, 1 + (k : Int)) := hrow.nextM (fun x hx => by cases hx) rfl rfl h2
  have hst := start_M (s := s) hrow rfl (js := js) (RG := [(4, b, rgW sb cb C tk tl P)]) (MS := MS) (b := β j)
  have hrow2 : Row (([] : List Rq) ++ ⟨(4, 1 + (k : Int)), e, 0, false, true⟩ :: rowL (k + 1) es) := hrow.mark rfl
  have hact := act_M hQ.mute hrow2 (js := js) (RG := [(4, b, rgW sb cb C tk tl P)]) (MS := MS) (b := β j)
  have hdo : kDoes (At s (([] : List Rq) ++ ⟨(4, 1 + (k : Int)), e, 0, false, true⟩ :: rowL (k + 1) es) js [(4, b, rgW sb cb C tk tl P)] MS) T ⟨(4, 1 + (k : Int)), e, 0, false, true⟩ (4, 1 + (k : Int)) (β j) = (At s (([] : List Rq) ++ ⟨(4, 1 + (k : Int)), e, 0, false, true⟩ :: rowL (k + 1) es) js [(4, b, rgW sb cb C tk tl P)] MS, some (0, 0)) := by unfold kDoes; rw [if_pos h1]
  obtain ⟨tl', MS', g1, g2, g3⟩ := dec_M (b := b) hQ.mute hrow2 (fun x hx => by obtain ⟨i, y, _, rfl⟩ := rowL_mem (show x ∈ rowL (k + 1) es from hx); rfl) (by show (1 + (k : Int)) ≠ 0; omega) hR (by omega) (js := js) (r := 0) (v := 0) (hC 0 e rfl) (rowL (k + 1) es).length
  rw [hQ.still] at g3
  have hgo : (kStart (At s (rowL k (e :: es)) js [(4, b, rgW sb cb C tk tl P)] MS) (4, 1 + (k : Int)) (β j)).1 = At s (rowL (k + 1) es) (js ++ [deedN k e]) [(4, b, rgW sb cb C tk tl' (P + 1))] MS' := by
   refine (congrArg Prod.fst hst).trans ?_
   rw [hact, hdo]
   refine Eq.trans ?_ g3
   show kDec (pairsQ _).length _ _ _ _ = _
   unfold pairsQ
   rw [List.length_map]; rfl
  have ht2 : tl' = min (P + 1) (hd + 2 ^ cb) := by rw [g1, ht]; split <;> omega
  obtain ⟨js', MS2, k1, k2, k3⟩ := run_nops hQ (β := β) es (k + 1) (js := js ++ [deedN k e]) (fuel := fuel) (j := j + 1) (fun x hx => he x (List.mem_cons_of_mem _ hx)) (fun i x hx => by
   have := hC (i + 1) x hx
   rw [show k + (i + 1) = k + 1 + i by omega, show P + (i + 1) = P + 1 + i by omega] at this
   exact this) g2 ht2 (by omega) (by omega)
  rw [show P + 1 + es.length = P + (es.length + 1) by omega] at k2 k3
  refine ⟨js', MS2, by rw [k1, List.length_append, List.length_singleton]; omega, k2, ?_⟩
  unfold kRunN
  rw [show nextQ (KS.rt (At s (rowL k (e :: es)) js [(4, b, rgW sb cb C tk tl P)] MS)) 4 = some (4, 1 + (k : Int)) from hnx]
  dsimp only
  rw [hgo, k3]
/-- A state all of whose entries do nothing. -/
structure NS (sb cb b : Nat) (ent : Nat → Sqe) (C : Nat → Cqe) (sent lay tk hd tl : Nat) (S : KS) : Prop where
  ex : ∃ s js MS T, S = At s [] js [(4, b, rgW sb cb C tk tl tk)] MS ∧ look s.th 2 = some T ∧ T.ring = 4 ∧ Quiet s T ∧ s.tk = [(4, (tk : Int))] ∧ js.length = tk ∧ RW sb cb (fun j => rawE (ent j)) C sent lay tk hd tl tk MS
/-- .. is entered. -/
theorem NS.enter {ent : Nat → Sqe} {S : KS} (h : NS sb cb b ent C sent lay tk hd tl S) (he : ∀ j, tk ≤ j → j < sent → SqeW (ent j) ∧ (ent j).flags = 0 ∧ (ent j).time = 0 ∧ (ent j).op = 1 ∧ ofD (deedN j (ent j)) = C j) (n : Int) (β : Nat → Nat) : (8 ≤ tk - min tk (hd + 2 ^ cb) ∧ (kEnter S 2 n β).2 = -13 ∧ NS sb cb b ent C sent lay tk hd (min tk (hd + 2 ^ cb)) (kEnter S 2 n β).1) ∨ (tk - min tk (hd + 2 ^ cb) < 8 ∧ ∃ m, m = min (sent - tk) (clampB n).toNat ∧ (kEnter S 2 n β).2 = (m : Int) ∧ NS sb cb b ent C sent lay (tk + m) hd (min (tk + m) (hd + 2 ^ cb)) (kEnter S 2 n β).1) := by
  obtain ⟨s, js, MS, T, rfl, hT, h4, hQ, htk, hjs, hR⟩ := h.ex
  obtain ⟨MS1, g1, _, _, g2⟩ := enter_W (s := s) (b := b) (rs := []) (js := js) hT h4 hR n
  have hn := g1.num
  rw [g2]
  by_cases hb : 8 ≤ tk - min tk (hd + 2 ^ cb)
  · rw [if_pos hb]
    exact .inl ⟨hb, rfl, ⟨s, js, MS1, T, rfl, hT, h4, hQ, htk, hjs, g1⟩⟩
  · rw [if_neg hb]
    refine .inr ⟨by omega, _, rfl, ?_⟩
    have hsz := hR.sbP
    obtain ⟨m, hm⟩ : ∃ m, m = min (min (sent - tk) (clampB n).toNat) (16 - ([] : List Rq).length) := ⟨_, rfl⟩
    have hm2 : m = min (sent - tk) (clampB n).toNat := by rw [hm, List.length_nil]; omega
    obtain ⟨MS2, k1, k2⟩ := takeIn_W (b := b) (js := js) ⟨fun _ h => (by cases h), List.Pairwise.nil⟩ (fun _ h => (by cases h)) g1 htk (by simp) hm (fun j h1 h2 => ⟨(he j h1 (by omega)).1, (he j h1 (by omega)).2.1⟩)
    rw [← hm2]
    have hps : ∀ (es : List Sqe) (k : Nat) (now : Int) (xs : List Tm), (∀ e ∈ es, e.flags = 0 ∧ e.time = 0) → pushT now k es xs = xs := by
      intro es
      induction es with
      | nil => intros; rfl
      | cons e es ih =>
        intro k now xs h
        obtain ⟨h1, h2⟩ := h e (List.mem_cons_self)
        unfold pushT
        rw [show deadE e now = none from by unfold deadE; rw [h1, h2]; rfl]
        exact ih _ _ _ (fun x hx => h x (List.mem_cons_of_mem _ hx))
    have hent : ∀ e ∈ (List.range m).map fun i => ent (tk + i), ∃ j, tk ≤ j ∧ j < sent ∧ e = ent j := fun e h1 => by
      obtain ⟨i, hi, rfl⟩ := List.mem_map.1 h1
      rw [List.mem_range] at hi
      exact ⟨tk + i, by omega, by omega, rfl⟩
    have hlen : ((List.range m).map fun i => ent (tk + i)).length = m := by rw [List.length_map, List.length_range]
    have hQ2 : Quiet { s with tm := s.tm, tk := [(4, ((tk + m : Nat) : Int))] } T := ⟨hQ.tm, hQ.ep, hQ.nt, hQ.rp, hQ.ow⟩
    obtain ⟨js', MS3, q1, q2, q3⟩ := run_nops (b := b) hQ2 (β := β) ((List.range m).map fun i => ent (tk + i)) tk (js := js) (fuel := (clampB n).toNat) (j := 0) (fun e h1 => by
      obtain ⟨j, g1, g2, rfl⟩ := hent e h1
      have := he j g1 g2
      exact ⟨this.2.2.2.1, this.2.1⟩) (fun i e h1 => by
      rw [List.getElem?_map] at h1
      by_cases hi : i < m
      · rw [List.getElem?_range hi] at h1
        cases h1
        exact (he (tk + i) (by omega) (by omega)).2.2.2.2
      · rw [List.getElem?_eq_none (by simp; omega)] at h1
        cases h1) k1 rfl (by rw [hlen]; omega) (by rw [hlen]; omega)
    rw [hlen] at q1 q2 q3
    have hgo : kGoOn (At s [] js [(4, b, rgW sb cb C tk (min tk (hd + 2 ^ cb)) tk)] MS1) 4 (clampB n) β = (At { s with tk := [(4, ((tk + m : Nat) : Int))] } [] js' [(4, b, rgW sb cb C (tk + m) (min (tk + m) (hd + 2 ^ cb)) (tk + m))] MS3, (m : Int)) := by
      unfold kGoOn
      rw [k2, hps _ _ _ _ (fun e h1 => by
        obtain ⟨j, g1, g2, rfl⟩ := hent e h1
        have := he j g1 g2
        exact ⟨this.2.1, this.2.2.1⟩)]
      dsimp only
      rw [List.nil_append, q3]
    rw [hgo]
    exact ⟨rfl, { s with tk := [(4, ((tk + m : Nat) : Int))] }, js', MS3, T, rfl, hT, h4, ⟨hQ.tm, hQ.ep, hQ.nt, hQ.rp, hQ.ow⟩, rfl, by rw [q1, hjs], q2⟩
end
end Go.Pse
namespace Go.Pse
open Go.RowKit Go.Proofs
/-! ### plain: completions as bytes, read -/
theorem getN_first {bs : List Int} {a j : Nat} (hj : j < 4) : getN bs a (j + 1) = byteAt bs a + 256 * getN bs (a + 1) j := by
  have : j = 0 ∨ j = 1 ∨ j = 2 ∨ j = 3 := by omega
  rcases this with rfl | rfl | rfl | rfl <;> simp only [getN, Nat.add_assoc, Nat.add_zero, Nat.reduceAdd] <;> omega
theorem or_top {x y : Int} (hx : 0 ≤ x ∧ x < 16777216) (hy : 0 ≤ y ∧ y ≤ 255) : bits .or .u32 (IntKind.u32.wrap (x * 2 ^ (8 : Int).toNat)) (IntKind.u32.wrap y) = y + 256 * x := by
  obtain ⟨X, rfl⟩ := Int.eq_ofNat_of_zero_le hx.1
  obtain ⟨Y, rfl⟩ := Int.eq_ofNat_of_zero_le hy.1
  have h2 : X < 16777216 := by omega
  have e : (X : Int) * 2 ^ (8 : Int).toNat = ((256 * X : Nat) : Int) := by
    rw [show (2 : Int) ^ (8 : Int).toNat = 256 from rfl]; omega
  have h3 : (256 * X ||| Y) = 256 * X + Y := (Nat.two_pow_add_eq_or_of_lt (i := 8) (show Y < 2 ^ 8 by omega) X).symm
  rw [wrap32u_of (a := (Y : Int)) (by omega), e, wrap32u_of (by omega), u32_or_nat _ _ (by omega) (by omega), h3]
  omega
def readX (bs : List Int) : Cqe := (getN bs 0 4, IntKind.i32.wrap (getN bs 4 4), getN bs 8 4, getN bs 12 4)
theorem readX_is {c : Cqe} (h1 : 0 ≤ c.1 ∧ c.1 < 4294967296) (h2 : c.2.1 = 0) (h3 : 0 ≤ c.2.2.1 ∧ c.2.2.1 < 4294967296) (h4 : 0 ≤ c.2.2.2 ∧ c.2.2.2 < 4294967296) : readX (bytesX c) = c := by
  obtain ⟨t, r, v, q⟩ := c
  simp only at h1 h2 h3 h4
  subst h2
  unfold readX bytesX
  simp [getN, byteAt, le4]
  refine ⟨by omega, by decide, by omega, by omega⟩
set_option maxRecDepth 100000 in
set_option maxHeartbeats 4000000 in
theorem rgetC {E : World} {l : List As} {v : Value} {bs : List Int} {a : Nat} (hr : ∀ w, Sep E w l → Reads w 1 v (bs.map encU)) (ha : a + 4 ≤ bs.length) (hl : bs.length ≤ 1000) (hB : Bytes bs) :
    Con Tryz.prog 145 #[v, .int .i64 (a : Int), .int .i64 4] E l (fun _ : Unit => .int .u32 (getN bs a 4)) (fun _ => l) := by
  refine Con.body (vs := [v, .int .i64 (a : Int), .int .i64 4]) (n := 39) Tryz.func145 rfl rfl [(0, v), (1, .int .i64 (a : Int)), (2, .int .i64 4)] (env_ok 3 rfl) <| J_readsB hr fun hw ad cap hv h1 h2 h3 => ?_
  subst hv
  have hm : cap ≤ 9223372036854775807 := h2
  have hml : (bs.map encU).length = bs.length := List.length_map _
  refine sr <| ag rfl rfl <| nx <| ag rfl rfl <| nxx <| mv rfl rfl <| L_pur rfl (p_sub64 rfl rfl (by omega)) <| J_slot (t := 10) (v := .int .i64 (3 - ((0 : Nat) : Int))) rfl (by rfl) ?_
  refine ag rfl rfl <| nq <| J_block <| J_loop (α := Nat) (fun i => i ≤ 4) (fun _ => l) (fun i => [(8, .int .i64 (3 - (i : Int))), (7, .int .u32 (getN bs (a + 4 - i) i)), (2, .int .i64 4), (0, .slice ad (bs.map encU).length cap), (1, .int .i64 (a : Int))]) (fun i => 4 - i) 0 (by omega) SU KE ?_
  intro i hi
  refine J_seq <| sr <| mv rfl rfl <| L_pur rfl (p_geq rfl rfl) <| nq ?_
  refine C_dec rfl (fun h12 => ?_) (fun h12 => ?_)
  have hlt : i < 4 := by omega
  obtain ⟨bx, ox, rfl⟩ := h3 (by intro h; rw [h] at hml; simp at hml; omega)
  obtain ⟨c, hcc⟩ : ∃ c, bs[a + 3 - i]? = some c := ⟨_, List.getElem?_eq_getElem (by omega)⟩
  have hcB := hB c (List.mem_of_getElem? hcc)
  have hgN := getN_is hB (a + 4 - i) i
  have hgL : getN bs (a + 4 - i) i < 16777216 := by
    have : i = 0 ∨ i = 1 ∨ i = 2 ∨ i = 3 := by omega
    rcases this with rfl | rfl | rfl | rfl <;> simp at hgN ⊢ <;> omega
  refine J_skip <| Q_then <| J_seq <| J_block <| sr <| mv rfl rfl <| L_pur rfl (p_shl rfl rfl (by omega) (by have : (IntKind.u32.bits : Int) = 32 := rfl; omega)) <| ag rfl rfl ?_
  refine nx <| mv rfl rfl <| mv rfl rfl <| L_pur rfl (p_neg64 rfl (by omega)) <| L_pur rfl (p_geq rfl rfl) <| mv rfl rfl <| J_bool (t := 21) (c := true) rfl (by first | (simp; omega) | simp) <| L_op <| G_on rfl rfl rfl ?_
  refine J_pur (p_move rfl) rfl rfl rfl <| L_op <| G_on rfl rfl rfl <| J_pur (p_move rfl) rfl rfl rfl <| L_op <| G_on rfl rfl rfl <| J_pur (p_len rfl Tryz.underlying73) rfl rfl rfl <| L_op <| G_on rfl rfl rfl ?_
  refine J_pur (p_move rfl) rfl rfl rfl <| L_op <| G_on rfl rfl rfl <| J_pur (p_sub64 rfl rfl (by first | omega | (simp; omega))) rfl rfl rfl <| L_op <| G_on rfl rfl rfl <| J_pur (p_lss rfl rfl) rfl rfl rfl <| L_pur rfl (p_pick_t rfl rfl) ?_
  refine nq <| J_bool (t := 28) (c := true) rfl (by first | (simp; omega) | simp) <| C_true rfl <| J_region <| mv rfl rfl <| mv rfl rfl <| mv rfl rfl <| mv rfl rfl ?_
  refine L_pur rfl (p_add64 rfl rfl (by omega)) <| L_pur rfl (p_indexAddr rfl rfl Tryz.underlying73 ty5 (by omega) (by simp; omega)) ?_
  refine L_val rfl (v_loadR1 rfl ty5 (fun w H => hr w H) (by rw [show ((a : Int) + (3 - (i : Int))).toNat = a + 3 - i by omega, List.getElem?_map, hcc]; rfl)) ?_
  refine L_pur rfl (p_conv rfl Tryz.underlying5 Tryz.underlying22) <| L_pur rfl (p_or rfl rfl) <| J_slot (t := 37) (v := .int .u32 (getN bs (a + 4 - (i + 1)) (i + 1))) rfl (by rw [or_top ⟨hgN.1, hgL⟩ hcB, getN_first hlt, show a + 4 - (i + 1) = a + 3 - i by omega, show a + 3 - i + 1 = a + 4 - i by omega]; unfold byteAt; rw [hcc]; rfl) <| ag rfl rfl <| L_nil <| Q_blk_normal <| qr <| mv rfl rfl ?_
  refine L_pur rfl (p_sub64 rfl rfl (by omega)) <| J_slot (t := 14) (v := .int .i64 (3 - ((i + 1 : Nat) : Int))) rfl (by congr 1; omega) <| ag rfl rfl <| nq ?_
  exact J_again (i + 1) (by omega) (by omega) SU KE
  have hi4 : i = 4 := by omega
  subst hi4
  refine J_exit <| Q_then_exit <| Q_then_exit <| Q_blk_this <| qx <| mv rfl rfl <| ag rfl rfl <| nq ?_
  refine J_ret ?_
  refine J_return (()) Tryz.results145 (.tmp rfl .nil) ?_ ?_
  · rfl
  · exact SU
set_option maxRecDepth 100000 in
set_option maxHeartbeats 4000000 in
theorem ru32C {E : World} {l : List As} {v : Value} {bs : List Int} {a : Nat} (hr : ∀ w, Sep E w l → Reads w 1 v (bs.map encU)) (ha : a + 4 ≤ bs.length) (hl : bs.length ≤ 1000) (hB : Bytes bs) :
    Con Tryz.prog 98 #[v, .int .i64 (a : Int)] E l (fun _ : Unit => .int .u32 (getN bs a 4)) (fun _ => l) := by
  refine Con.body (vs := [v, .int .i64 (a : Int)]) (n := 8) Tryz.func98 rfl rfl [(0, v), (1, .int .i64 (a : Int))] (env_ok 2 rfl) <| sr <| ag rfl rfl <| nx <| mv rfl rfl <| mv rfl rfl <| L_op <| xc fc145 (.cons rfl (.cons rfl (.cons rfl .nil))) rfl (rgetC hr ha hl hB) fun _ => ?_
  refine ag rfl rfl <| nq <| J_ret ?_
  exact J_return (()) Tryz.results98 (.tmp rfl .nil) rfl SU
set_option maxRecDepth 100000 in
set_option maxHeartbeats 4000000 in
theorem rcompC {E : World} {l : List As} {v : Value} {bs : List Int} (hr : ∀ w, Sep E w l → Reads w 1 v (bs.map encU)) (hl : bs.length = 16) (hB : Bytes bs) :
    Con Tryz.prog 51 #[v] E l (fun _ : Unit => .tuple #[.agg (encX (readX bs)).toArray, .bool true]) (fun _ => l) := by
  refine Con.body (vs := [v]) (n := 18) Tryz.func51 rfl rfl [(0, v)] (env_ok 1 rfl) <| J_readsB hr fun hw a cap hv hv1 hv2 hv3 => ?_
  subst hv
  have hml : (bs.map encU).length = bs.length := List.length_map _
  refine sr <| L_op <| x_alloc ty93 rfl fun b2 => ag rfl rfl <| nxx <| mv rfl rfl <| L_pur rfl (p_len rfl Tryz.underlying73) <| L_pur rfl (p_neq rfl rfl) ?_
  refine nq <| J_bool (t := 6) (c := false) rfl (by simp; omega) <| C_false rfl <| J_skip <| qx <| mv rfl rfl <| L_op <| xc fc98 (.cons rfl (.cons rfl .nil)) rfl (ru32C (a := 0) (bs := bs) (fun w H => hr w (Sub.sep SU H)) (by omega) (by omega) hB) fun _ => ?_
  refine mv rfl rfl <| L_op <| xc fc98 (.cons rfl (.cons rfl .nil)) rfl (ru32C (a := 4) (bs := bs) (fun w H => hr w (Sub.sep SU H)) (by omega) (by omega) hB) fun _ => ?_
  refine L_pur rfl (p_conv rfl Tryz.underlying22 Tryz.underlying21) <| mv rfl rfl <| L_op <| xc fc98 (.cons rfl (.cons rfl .nil)) rfl (ru32C (a := 8) (bs := bs) (fun w H => hr w (Sub.sep SU H)) (by omega) (by omega) hB) fun _ => ?_
  refine mv rfl rfl <| L_op <| xc fc98 (.cons rfl (.cons rfl .nil)) rfl (ru32C (a := 12) (bs := bs) (fun w H => hr w (Sub.sep SU H)) (by omega) (by omega) hB) fun _ => ?_
  refine L_pur rfl (bld93 (.cons rfl (.cons rfl (.cons rfl (.cons rfl .nil)))) (by repeat constructor)) <| L_op <| x_store rfl rfl ty93 rfl SM SM RO PT ?_
  refine ag rfl rfl <| nq <| J_ret ?_
  refine J_return (()) Tryz.results51 (.cellA rfl ty93 HS CT (.tmp rfl .nil)) ?_ ?_
  · rfl
  · exact SU
end Go.Pse
namespace Go.Pse
open Go.RowKit Go.Proofs
/-! ### plain: what is put in, among what is no entry -/
/-! ### plain: the rows of the law -/
def pN1 : Sqe → Bool := fun e => decide (e.op = 1)
theorem nOps : ∀ (s : KS) (N M : Nat) (q : Rq) (T : Th) (i : ID), Good s N M → SqeOk q.e → pN1 q.e = true → DoesC s T q i := fun s N M q T i hG hE h => doesC1 hG hE (of_decide_eq_true h)
end Go.Pse
namespace Go.Pse
open Go.RowKit Go.Proofs
/-! ### plain: a ring at first; what is written into it, read out of it -/
theorem RW.zero {sb cb : Nat} (hs : sb ≤ 3 ∧ cb ≤ 4) (X : Nat → List Int) (C : Nat → Cqe) : RW sb cb X C 0 0 0 0 0 0 (List.replicate 64 zrow) := by
  have h1 : getN (rowAt (List.replicate 64 zrow) 5) 4 4 = 0 := by rw [rowAt_zero (by omega)]; decide +kernel
  have h2 : getN (rowAt (List.replicate 64 zrow) 6) 0 4 = 0 := by rw [rowAt_zero (by omega)]; decide +kernel
  exact ⟨hs, zrow_ok, h1, h2, ⟨Nat.le_refl _, Nat.le_refl _, Nat.zero_le _, Nat.le_refl _, Nat.zero_le _, Nat.le_refl _, Nat.zero_le _, Nat.zero_le _⟩, fun j _ h => by omega, fun j _ h => by omega⟩
section
variable {sb cb b : Nat} {ent : Nat → Sqe} {C : Nat → Cqe} {sent lay tk hd tl : Nat} {S : KS}
theorem NS.layE (h : NS sb cb b ent C sent lay tk hd tl S) (hr : lay < tk + 2 ^ sb) (hl : lay < 1000000) (hw : SqeW (ent lay)) : NS sb cb b ent C sent (lay + 1) tk hd tl (memS S 4 (16 + 32 * (lay % 2 ^ sb)) (rawE (ent lay))) := by
  obtain ⟨s, js, MS, T, rfl, hT, h4, hQ, htk, hjs, hR⟩ := h.ex
  exact ⟨s, js, _, T, rfl, hT, h4, hQ, htk, hjs, hR.layE hr hl rfl ⟨(raw_is hw).1, bytes_rawE _⟩⟩
theorem NS.tell (h : NS sb cb b ent C sent lay tk hd tl S) {n : Nat} (hk : tk ≤ n ∧ n ≤ lay) : NS sb cb b ent C n lay tk hd tl (memS S 4 4 (le4 (n : Int))) := by
  obtain ⟨s, js, MS, T, rfl, hT, h4, hQ, htk, hjs, hR⟩ := h.ex
  exact ⟨s, js, _, T, rfl, hT, h4, hQ, htk, hjs, hR.tell hk⟩
theorem NS.read (h : NS sb cb b ent C sent lay tk hd tl S) {n : Nat} (hk : hd ≤ n ∧ n ≤ tl) : NS sb cb b ent C sent lay tk n tl (memS S 5 0 (le4 (n : Int))) := by
  obtain ⟨s, js, MS, T, rfl, hT, h4, hQ, htk, hjs, hR⟩ := h.ex
  exact ⟨s, js, _, T, rfl, hT, h4, hQ, htk, hjs, hR.read hk⟩
theorem NS.rw (h : NS sb cb b ent C sent lay tk hd tl S) : look S.rg 4 = some (b, rgW sb cb C tk tl tk) ∧ RW sb cb (fun j => rawE (ent j)) C sent lay tk hd tl tk S.mem ∧ S.jn.length = tk ∧ look S.tk 4 = some (tk : Int) := by
  obtain ⟨s, js, MS, T, rfl, hT, h4, hQ, htk, hjs, hR⟩ := h.ex
  exact ⟨rfl, hR, hjs, by show look s.tk 4 = _; rw [htk]; rfl⟩
theorem NS.ok (h : NS sb cb b ent C sent lay tk hd tl S) {p : Sqe → Bool} (he : ∀ j, tk ≤ j → j < sent → SqeW (ent j) ∧ p (ent j) = true) (n : Int) : entOk p S 2 n = true := by
  obtain ⟨s, js, MS, T, rfl, hT, h4, hQ, htk, hjs, hR⟩ := h.ex
  exact ent_W hT h4 ⟨fun _ h => (by cases h), List.Pairwise.nil⟩ hR (by simp) he
end
/-! ### plain: entries that do nothing -/
abbrev cmpN (j : Nat) : Cqe := ofD (deedN j (nopE j))
theorem nopE_ok {j : Nat} (h : j < 1000000) : SqeW (nopE j) ∧ (nopE j).flags = 0 ∧ (nopE j).time = 0 ∧ (nopE j).op = 1 ∧ ofD (deedN j (nopE j)) = cmpN j := by
  refine ⟨⟨by show (decide ((1 : Int) ≤ 1) && decide ((1 : Int) ≤ 20) && decide ((0 : Int) ≤ 0) && decide ((0 : Int) ≤ 15) && !decide (bits .and .i64 0 3 = 3)) = true; decide +kernel, ?_, ?_, ?_, ?_, ?_, ?_⟩, rfl, rfl, rfl, rfl⟩
  · show (0 : Int) ≤ (j : Int) ∧ (j : Int) < _; omega
  all_goals show (0 : Int) ≤ 0 ∧ (0 : Int) < _; omega
theorem cmpN_is {j : Nat} (h : j < 1000000) : readX (bytesX (cmpN j)) = ((j : Int), 0, 0, 1 + (j : Int)) := by
  have e : cmpN j = ((j : Int), 0, 0, 1 + (j : Int)) := by
    show ((j : Int), IntKind.i32.wrap 0, (0 : Int), IntKind.u32.wrap (1 + (j : Int))) = _
    rw [wrap32u_of (by omega), show IntKind.i32.wrap 0 = 0 from by decide]
  rw [e]
  exact readX_is (by show (0 : Int) ≤ (j : Int) ∧ (j : Int) < _; omega) rfl (by show (0 : Int) ≤ 0 ∧ (0 : Int) < _; omega) (by show (0 : Int) ≤ 1 + (j : Int) ∧ 1 + (j : Int) < _; omega)
/-! ### plain: the law's rounds -/
def KB (g : NewG) : KS := kNew 1 1 1 0 false g
theorem busy_first (g : NewG) : NS 1 0 (g.bs 0).1 nopE cmpN 0 0 0 0 0 (KB g) := ⟨KB g, [], List.replicate 64 zrow, ⟨2, 3, 4, ⟨2, 1, 0, 0, 7⟩⟩, by kernel_rfl, by kernel_rfl, rfl, ⟨by kernel_rfl, by kernel_rfl, by kernel_rfl, fun x hx => by obtain rfl := List.mem_singleton.1 (show x ∈ [((7 : Int), (g.bs 0).2, ((0 : Int), (0 : Int)), false)] from hx); rfl, by kernel_rfl⟩, by kernel_rfl, rfl, RW.zero (by omega) _ _⟩
structure BI (b n i sent rd : Nat) (S : KS) : Prop where
  inv : EInv pN1 S (40 + 100 * i) (60 + 9 * i)
  ns : ∃ tk tl, NS 1 0 b nopE cmpN sent sent tk rd tl S ∧ tk ≤ tl + 9
  num : sent ≤ n
  go : 40 ≤ i → min n (i - 40) ≤ rd
/-- .. with one more entry, as long as there is room. -/
structure BJ (b n i sent tk rd tl : Nat) (S : KS) : Prop where
  inv : EInv pN1 S (40 + 100 * i) (60 + 9 * i)
  ns : NS 1 0 b nopE cmpN sent sent tk rd tl S
  num : sent ≤ n
  nx : tk ≤ tl + 9
  go : 40 ≤ i → min n (i - 40) ≤ rd
  pg : sent = n ∨ tk < sent
theorem BJ.ok {b n i sent tk rd tl : Nat} {S : KS} (h : BJ b n i sent tk rd tl S) (hn : n ≤ 59) : entOk pN1 S 2 4 = true := h.ns.ok (fun j _ h2 => ⟨(nopE_ok (by have := h.num; omega)).1, rfl⟩) 4
/-- What entering does. -/
theorem BJ.enter {b n i sent tk rd tl : Nat} {S : KS} (h : BJ b n i sent tk rd tl S) (hn : n ≤ 59) (hi : i < 400) (β : Nat → Nat) : ∃ (k : Int) (tk2 : Nat), (kEnter S 2 4 β).2 = k ∧ EInv pN1 (kEnter S 2 4 β).1 (40 + 100 * (i + 1)) (60 + 9 * (i + 1)) ∧ NS 1 0 b nopE cmpN sent sent tk2 rd (min tk2 (rd + 1)) (kEnter S 2 4 β).1 ∧ tk2 ≤ min tk2 (rd + 1) + 9 ∧ ((8 ≤ tk - min tk (rd + 1) ∧ k = -13 ∧ tk2 = tk) ∨ (tk - min tk (rd + 1) < 8 ∧ k = ((tk2 - tk : Nat) : Int) ∧ tk2 = tk + min (sent - tk) 4)) := by
  have hR := h.ns.rw.2.1.num
  have hI := h.inv.enter (h.ok hn) (by omega) (by omega) β
  have hnx := h.nx
  rcases h.ns.enter (fun j _ h2 => nopE_ok (by have := h.num; omega)) 4 β with ⟨h1, h2, h3⟩ | ⟨h1, m, h2, h3, h4⟩
  · exact ⟨_, tk, h2, hI, h3, by omega, .inl ⟨h1, rfl, rfl⟩⟩
  · rw [show (clampB 4).toNat = 4 from rfl] at h2
    exact ⟨_, tk + m, h3, hI, h4, by omega, .inr ⟨h1, by congr 1; omega, by omega⟩⟩
end Go.Pse
namespace Go.Pse
open Go.RowKit Go.Proofs
set_option maxRecDepth 100000 in
set_option maxHeartbeats 4000000 in
theorem enterBusy {E W : World} {v : Value} {bs : List Int} {x : Int} (hr : Reads W 1 v (bs.map fun z => [Value.int .i64 z])) :
    Con Tryz.prog 7 #[.int .i64 x, v] E [old W] (fun _ : Unit => .bool true) (fun _ => [old W]) := by
  refine Con.body (vs := [.int .i64 x, v]) (n := 191) Tryz.func7 rfl rfl [(0, .int .i64 x), (1, v)] (env_ok 2 rfl) <| J_readsB (fun w H => hr.old HS H) fun hw a cap hv h1 h2 h3 => ?_
  subst hv
  have hm : cap ≤ 9223372036854775807 := h2
  have hml : (bs.map fun z => [Value.int .i64 z]).length = bs.length := List.length_map _
  refine sr <| ag rfl rfl <| nx <| L_op <| xc fc36 .nil rfl (first26) fun _ => ag rfl rfl <| nxx <| mv rfl rfl ?_
  refine L_pur rfl (p_not rfl) <| nq <| J_bool (t := 26) (c := false) rfl (rfl) <| C_false rfl <| J_skip <| Q_then <| J_seq <| sr ?_
  refine mv rfl rfl <| L_pur rfl (p_len rfl Tryz.underlying55) <| L_pur rfl (p_gtr rfl rfl) <| nq ?_
  refine C_split rfl (fun h29 => ?_) (fun h29 => ?_)
  refine sr <| mv rfl rfl <| ag rfl rfl <| nq <| J_ret <| Q_then_ret ?_
  refine J_return (()) Tryz.results7 (.tmp rfl .nil) ?_ ?_
  · first | rfl | simp [one, hq1, hq2]
  · exact SU
  have hb : bs.length ≤ 40 := by simp at h29; omega
  refine J_skip <| qx <| mv rfl rfl <| L_op <| xc fc27 (.cons rfl (.cons rfl .nil)) rfl (number (by omega) (by omega)) fun _ => ?_
  obtain ⟨n, hn0⟩ : ∃ n, n = num x 60 := ⟨_, rfl⟩
  have hn : n ≤ 59 := by rw [hn0]; have := num_lt (x := x) (b := 60) (by omega); omega
  refine J_slot (t := 32) (v := .int .i64 (n : Int)) rfl (by rw [hn0]) <| ag rfl rfl <| nx <| L_pur rfl (bld86 (.cons rfl (.cons rfl (.cons rfl (.cons rfl .nil)))) (by repeat constructor)) <| J_slot (t := 33) (v := .agg (encG 1 1 1 0 false).toArray) rfl rfl <| L_op <| xc fc45 (.cons rfl .nil) rfl (coNew (ct := 1) (cu := 1) (cs := 1) (cc := 0) (sh := false)) fun g => ?_
  have IK := wellE110 pN1 g
  have hNS := busy_first g
  have hrg0 : look (ptrs (KB g).rg) 4 = some (g.bs 0).1 := rfl
  rw [show kNew 1 1 1 0 false g = KB g from rfl] at IK
  obtain ⟨K, hK⟩ : ∃ K, K = KB g := ⟨_, rfl⟩
  obtain ⟨b, hb0⟩ : ∃ b, b = (g.bs 0).1 := ⟨_, rfl⟩
  rw [← hK] at IK hNS hrg0
  rw [← hb0] at hNS hrg0
  refine J_pick (A := coA g.p _) PC ?_
  refine J_asTo (B := coA g.p K) (by rw [hK]; rfl) <| ag rfl rfl <| nxx <| mv rfl rfl <| L_pur rfl (p_eqNilPtr Tryz.underlying24 rfl) <| mv rfl rfl <| J_bool (t := 37) (c := false) rfl (rfl) <| L_op <| G_on rfl rfl rfl ?_
  refine J_pur (p_move rfl) rfl rfl rfl <| L_op <| G_on rfl rfl rfl <| xc fc39 (.cons rfl .nil) rfl (coMem (s := K) PC) fun _ => ?_
  refine L_op <| G_on rfl rfl rfl <| J_pur (p_eqNilPtr Tryz.underlying75 rfl) rfl rfl rfl <| L_pur rfl (p_pick_f rfl rfl) <| mv rfl rfl <| J_bool (t := 42) (c := false) rfl (rfl) <| L_op <| G_on rfl rfl rfl ?_
  refine J_pur (p_move rfl) rfl rfl rfl <| L_op <| G_on rfl rfl rfl <| xc fc43 (.cons rfl (.cons rfl .nil)) rfl (coRing (s := K) (u := 4) PC) fun _ => ?_
  refine J_slot (t := 44) (v := .pointer (some ⟨b, 0, none⟩)) rfl (by rw [hrg0]; rfl) <| L_op <| G_on rfl rfl rfl <| J_pur (p_eqNilPtr Tryz.underlying80 rfl) rfl rfl rfl <| L_pur rfl (p_pick_f rfl rfl) <| nq <| J_bool (t := 46) (c := false) rfl (rfl) <| C_false rfl ?_
  refine J_skip <| qx <| ag rfl rfl <| nx <| ag rfl rfl <| nx <| ag rfl rfl <| nxx ?_
  refine ag rfl rfl <| nq <| J_block <| J_loop4 (fun i sent rd S => i ≤ 400 ∧ BI b n i sent rd S) (fun i sent rd S => [coA g.p S, old W]) (fun i sent rd S => [(10, .int .i64 (i : Int)), (9, .int .i64 (rd : Int)), (8, .int .u32 (rd : Int)), (7, .int .i64 (sent : Int)), (6, .pointer (some ⟨g.p, 0, none⟩)), (0, .int .i64 (n : Int)), (1, .slice a (bs.map fun z => [Value.int .i64 z]).length cap), (5, .bool true)]) (fun i sent rd S => 400 - i) 0 0 0 K ⟨by omega, IK, ⟨0, 0, hNS, by omega⟩, by omega, by omega⟩ SU KE ?_
  intro i sent rd S ⟨hi, hB⟩
  have IS := hB.inv
  obtain ⟨tk, tl, hN, htl⟩ := hB.ns
  obtain ⟨hlk, hRW, _, _⟩ := hN.rw
  have hnum := hRW.num
  have hsn := hB.num
  refine J_seq <| sr <| mv rfl rfl <| L_pur rfl (p_lss rfl rfl) <| nq ?_
  refine C_split rfl (fun h48 => ?_) (fun h48 => ?_)
  have hlt : i < 400 := by simp at h48; omega
  refine J_skip <| Q_then <| J_seq <| J_block <| sr <| mv rfl rfl <| L_op <| xc fc43 (.cons rfl (.cons rfl .nil)) rfl (coRing (s := S) (u := 4) PC) fun _ => ?_
  refine J_slot (t := 52) (v := .pointer (some ⟨b, 0, none⟩)) rfl (by rw [look_is hlk]; rfl) <| ag rfl rfl <| nx <| mv rfl rfl <| L_op <| xc fc46 (.cons rfl .nil) rfl (coRgWait (s := S) (u := 4) PC hlk hRW.ok IS.w.fit.mem) fun _ => ?_
  refine mv rfl rfl <| L_pur rfl (p_extract rfl rfl) <| J_slot (t := 56) (v := .int .i64 ((sent - tk : Nat) : Int)) rfl (by rw [hRW.wait]) <| L_pur rfl (p_extract rfl rfl) <| J_slot (t := 57) (v := .bool true) rfl (by rw [hRW.near.2]) <| ag rfl rfl <| ag rfl rfl <| nxx ?_
  refine mv rfl rfl <| L_pur rfl (p_not rfl) <| nq <| J_bool (t := 59) (c := false) rfl (rfl) <| C_false rfl <| J_skip <| Q_then ?_
  refine J_cut (α := Nat × KS) (fun z : Nat × KS => [As.pure (BJ b n i z.1 tk rd tl z.2), coA g.p z.2, old W]) (fun z : Nat × KS => [(11, .pointer (some ⟨b, 0, none⟩)), (10, .int .i64 (i : Int)), (9, .int .i64 (rd : Int)), (8, .int .u32 (rd : Int)), (7, .int .i64 (z.1 : Int)), (6, .pointer (some ⟨g.p, 0, none⟩)), (0, .int .i64 (n : Int)), (1, .slice a (bs.map fun z => [Value.int .i64 z]).length cap), (5, .bool true)]) ?_ ?_
  refine sr <| mv rfl rfl <| mv rfl rfl <| L_pur rfl (p_lss rfl rfl) <| mv rfl rfl ?_
  refine J_gsplit (t := 63) rfl (fun h63 => ?_) (fun h63 => ?_)
  refine L_op <| G_on rfl rfl rfl <| J_pur (p_move rfl) rfl rfl rfl <| L_op <| G_on rfl rfl rfl <| J_pur (p_lss rfl rfl) rfl rfl rfl <| L_pur rfl (p_pick_t rfl rfl) <| nq ?_
  refine C_split rfl (fun h66 => ?_) (fun h66 => ?_)
  have hlay : sent < n ∧ sent - tk < 2 := by simp_all; omega
  have hmd : ((16 : Int) + 32 * ((sent : Int).tmod 2)) = ((16 + 32 * (sent % 2 ^ 1) : Nat) : Int) := by rw [Int.tmod_eq_emod_of_nonneg (by omega)]; omega
  refine sr <| mv rfl rfl <| L_pur rfl (p_conv rfl Tryz.underlying3 Tryz.underlying22) <| J_slot (t := 68) (v := .int .u32 (sent : Int)) rfl (by rw [wrap32u_of (by omega)]) <| L_pur rfl (bld34 (.cons rfl (.cons rfl .nil)) (by repeat constructor)) <| J_slot (t := 69) (v := .agg (encSq (nopE sent)).toArray) rfl rfl <| L_op <| xc fc38 (.cons rfl .nil) rfl (rbytesEC (e := nopE sent)) ?_
  refine JR fun a70 c70 hw70 hl70 hm70 hz70 => ag rfl rfl <| nx <| mv rfl rfl <| L_op <| xc fc39 (.cons rfl .nil) rfl (coMem (s := S) PC) fun _ => ?_
  refine mv rfl rfl <| L_pur rfl (p_rem rfl rfl (by omega)) <| L_pur rfl (p_mul64 rfl rfl (by rw [Int.tmod_eq_emod_of_nonneg (by omega)]; omega)) <| L_pur rfl (p_add64 rfl rfl (by rw [Int.tmod_eq_emod_of_nonneg (by omega)]; omega)) <| J_slot (t := 76) (v := .int .i64 ((16 + 32 * (sent % 2 ^ 1) : Nat) : Int)) rfl (by rw [hmd]) <| mv rfl rfl <| L_op <| xc fc40 (.cons rfl (.cons rfl (.cons rfl (.cons rfl .nil)))) rfl (coMemWrZ (s := S) (u := 4) (off := 16 + 32 * (sent % 2 ^ 1)) (ys := rawE (nopE sent)) PC IS.w.fit.mem rfl rfl (by omega) (fun w H => sep_reads (xs := (rawE (nopE sent)).map encU) HS H) (by have := (raw_is (nopE_ok (j := sent) (by omega)).1).1; omega)) fun _ => ?_
  refine nq <| J_seq ?_
  obtain ⟨Sa, hSa⟩ : ∃ z, z = memS S 4 (16 + 32 * (sent % 2 ^ 1)) (rawE (nopE sent)) := ⟨_, rfl⟩
  refine J_pick (A := coA g.p _) PC ?_
  refine J_asTo (B := coA g.p Sa) (by rw [hSa]) ?_
  have Na := hN.layE (by omega) (by omega) (nopE_ok (j := sent) (by omega)).1
  have Ia : EInv pN1 Sa (40 + 100 * i) (60 + 9 * i) := by rw [hSa]; exact IS.memS (by omega) (by have := (raw_is (nopE_ok (j := sent) (by omega)).1).1; omega) (bytes_rawE _)
  rw [← hSa] at Na
  refine J_region <| mv rfl rfl <| L_pur rfl (p_add64 rfl rfl (by omega)) <| J_slot (t := 80) (v := .int .i64 ((sent + 1 : Nat) : Int)) rfl (by congr 1) <| ag rfl rfl <| nq <| J_drawL (some 5) mixed <| ip 0 rfl rfl rfl rfl (p_move rfl) ?_
  refine ip 3 rfl rfl rfl rfl (p_move rfl) <| ip 4 rfl rfl rfl rfl (p_conv rfl Tryz.underlying3 Tryz.underlying22) <| J_slot (t := 85) (v := .int .u32 ((sent + 1 : Nat) : Int)) rfl (by rw [wrap32u_of (by omega)]) <| I_ready (rs := [1, 2]) SI (by kernel_rfl) (by simp) ?_
  refine (I_cons rfl ?_ (I_cons rfl ?_ I_nil))
  refine xc fc39 (.cons rfl .nil) rfl (coMem (s := Sa) PC) fun _ => ?_
  refine i1 2 rfl <| x_make (len := 4) rfl rfl Tryz.underlying73 ty5 rfl rfl (by simp) (by simp) rfl rfl <| JE ((List.replicate 4 (0 : Int)).map encU) (by rfl) fun a83 c83 hw83 hl83 hm83 hz83 => i1 5 rfl <| xc fc41 (.cons rfl (.cons rfl (.cons rfl .nil))) rfl (rput32C (a := 0) (bs := List.replicate 4 0) (n := ((sent + 1 : Nat) : Int)) (fun w H => sep_reads (xs := (List.replicate 4 (0 : Int)).map encU) HS H) (by decide) (by decide)) <| JE ((le4 ((sent + 1 : Nat) : Int)).map encU) (by rfl) fun a86 c86 hw86 hl86 hm86 hz86 => i1 6 rfl <| xc fc40 (.cons rfl (.cons rfl (.cons rfl (.cons rfl .nil)))) rfl (coMemWrZ (s := Sa) (u := 4) (off := 4) (ys := le4 ((sent + 1 : Nat) : Int)) PC Ia.w.fit.mem rfl rfl (by omega) (fun w H => sep_reads (xs := (le4 ((sent + 1 : Nat) : Int)).map encU) HS H) (by simp [le4])) fun _ => ?_
  refine i0 <| Q_then ?_
  obtain ⟨Sb, hSb⟩ : ∃ z, z = memS Sa 4 4 (le4 ((sent + 1 : Nat) : Int)) := ⟨_, rfl⟩
  refine J_pick (A := coA g.p _) PC ?_
  refine J_asTo (B := coA g.p Sb) (by rw [hSb]) ?_
  have Nb := Na.tell (n := sent + 1) (by omega)
  have Ib : EInv pN1 Sb (40 + 100 * i) (60 + 9 * i) := by rw [hSb]; exact Ia.memS (by omega) (by simp [le4]) (le4_bytes _)
  rw [← hSb] at Nb
  refine J_pure_in (p := BJ b n i (sent + 1) tk rd tl Sb) ⟨Ib, Nb, by omega, by omega, hB.go, by omega⟩ ?_
  exact J_at (α := Nat × KS) (L := (fun z : Nat × KS => [As.pure (BJ b n i z.1 tk rd tl z.2), coA g.p z.2, old W])) (G := (fun z : Nat × KS => [(11, .pointer (some ⟨b, 0, none⟩)), (10, .int .i64 (i : Int)), (9, .int .i64 (rd : Int)), (8, .int .u32 (rd : Int)), (7, .int .i64 (z.1 : Int)), (6, .pointer (some ⟨g.p, 0, none⟩)), (0, .int .i64 (n : Int)), (1, .slice a (bs.map fun z => [Value.int .i64 z]).length cap), (5, .bool true)])) (sent + 1, Sb) SU KE
  refine x_make (len := 4) rfl rfl Tryz.underlying73 ty5 rfl rfl (by simp) (by simp) rfl rfl <| JE ((List.replicate 4 (0 : Int)).map encU) (by rfl) fun a83 c83 hw83 hl83 hm83 hz83 => i1 1 rfl <| xc fc39 (.cons rfl .nil) rfl (coMem (s := Sa) PC) fun _ => ?_
  refine i1 5 rfl <| xc fc41 (.cons rfl (.cons rfl (.cons rfl .nil))) rfl (rput32C (a := 0) (bs := List.replicate 4 0) (n := ((sent + 1 : Nat) : Int)) (fun w H => sep_reads (xs := (List.replicate 4 (0 : Int)).map encU) HS H) (by decide) (by decide)) <| JE ((le4 ((sent + 1 : Nat) : Int)).map encU) (by rfl) fun a86 c86 hw86 hl86 hm86 hz86 => i1 6 rfl <| xc fc40 (.cons rfl (.cons rfl (.cons rfl (.cons rfl .nil)))) rfl (coMemWrZ (s := Sa) (u := 4) (off := 4) (ys := le4 ((sent + 1 : Nat) : Int)) PC Ia.w.fit.mem rfl rfl (by omega) (fun w H => sep_reads (xs := (le4 ((sent + 1 : Nat) : Int)).map encU) HS H) (by simp [le4])) fun _ => ?_
  refine i0 <| Q_then ?_
  obtain ⟨Sb, hSb⟩ : ∃ z, z = memS Sa 4 4 (le4 ((sent + 1 : Nat) : Int)) := ⟨_, rfl⟩
  refine J_pick (A := coA g.p _) PC ?_
  refine J_asTo (B := coA g.p Sb) (by rw [hSb]) ?_
  have Nb := Na.tell (n := sent + 1) (by omega)
  have Ib : EInv pN1 Sb (40 + 100 * i) (60 + 9 * i) := by rw [hSb]; exact Ia.memS (by omega) (by simp [le4]) (le4_bytes _)
  rw [← hSb] at Nb
  refine J_pure_in (p := BJ b n i (sent + 1) tk rd tl Sb) ⟨Ib, Nb, by omega, by omega, hB.go, by omega⟩ ?_
  exact J_at (α := Nat × KS) (L := (fun z : Nat × KS => [As.pure (BJ b n i z.1 tk rd tl z.2), coA g.p z.2, old W])) (G := (fun z : Nat × KS => [(11, .pointer (some ⟨b, 0, none⟩)), (10, .int .i64 (i : Int)), (9, .int .i64 (rd : Int)), (8, .int .u32 (rd : Int)), (7, .int .i64 (z.1 : Int)), (6, .pointer (some ⟨g.p, 0, none⟩)), (0, .int .i64 (n : Int)), (1, .slice a (bs.map fun z => [Value.int .i64 z]).length cap), (5, .bool true)])) (sent + 1, Sb) SU KE
  have hlay : ¬ (sent < n ∧ sent - tk < 2) := by intro hc; simp_all; omega
  refine J_skip <| Q_then <| J_pure_in (p := BJ b n i sent tk rd tl S) ⟨IS, hN, by omega, by omega, hB.go, by omega⟩ ?_
  exact J_at (α := Nat × KS) (L := (fun z : Nat × KS => [As.pure (BJ b n i z.1 tk rd tl z.2), coA g.p z.2, old W])) (G := (fun z : Nat × KS => [(11, .pointer (some ⟨b, 0, none⟩)), (10, .int .i64 (i : Int)), (9, .int .i64 (rd : Int)), (8, .int .u32 (rd : Int)), (7, .int .i64 (z.1 : Int)), (6, .pointer (some ⟨g.p, 0, none⟩)), (0, .int .i64 (n : Int)), (1, .slice a (bs.map fun z => [Value.int .i64 z]).length cap), (5, .bool true)])) (sent, S) SU KE
  have hlay : ¬ (sent < n ∧ sent - tk < 2) := by simp at h63; omega
  refine L_op <| G_off rfl rfl rfl rfl rfl rfl <| L_op <| G_off rfl rfl rfl rfl rfl rfl <| L_pur rfl (p_pick_f rfl rfl) <| nq <| C_false rfl <| J_skip ?_
  refine Q_then <| J_pure_in (p := BJ b n i sent tk rd tl S) ⟨IS, hN, by omega, by omega, hB.go, by omega⟩ ?_
  exact J_at (α := Nat × KS) (L := (fun z : Nat × KS => [As.pure (BJ b n i z.1 tk rd tl z.2), coA g.p z.2, old W])) (G := (fun z : Nat × KS => [(11, .pointer (some ⟨b, 0, none⟩)), (10, .int .i64 (i : Int)), (9, .int .i64 (rd : Int)), (8, .int .u32 (rd : Int)), (7, .int .i64 (z.1 : Int)), (6, .pointer (some ⟨g.p, 0, none⟩)), (0, .int .i64 (n : Int)), (1, .slice a (bs.map fun z => [Value.int .i64 z]).length cap), (5, .bool true)])) (sent, S) SU KE
  intro z
  obtain ⟨sent1, S1⟩ := z
  refine J_pure fun hBJ => ?_
  have I1 := hBJ.inv
  have N1 := hBJ.ns
  obtain ⟨hlk1, hRW1, _, _⟩ := N1.rw
  have hnum1 := hRW1.num
  refine sr <| mv rfl rfl <| L_op <| xc fc47 (.cons rfl .nil) rfl (coRgHead (s := S1) (u := 4) PC hlk1) fun _ => ?_
  refine J_slot (t := 89) (v := .int .u32 (tk : Int)) rfl rfl <| ag rfl rfl <| nx <| mv rfl rfl <| L_op <| xc fc48 (.cons rfl .nil) rfl (coRgOver (s := S1) (u := 4) PC hlk1 (by unfold rgW; simp; omega)) <| JR fun a91 c91 hw91 hl91 hm91 hz91 => L_pur rfl (p_len rfl Tryz.underlying88) ?_
  refine J_slot (t := 92) (v := .int .i64 ((tk - tl : Nat) : Int)) rfl (by rw [List.length_map]; unfold rgW; simp) <| ag rfl rfl <| nx <| mv rfl rfl <| L_op <| xc fc49 (.cons rfl .nil) rfl (coRgRoom (s := S1) (u := 4) PC hlk1 hRW1.ok I1.w.fit.mem) fun _ => ?_
  refine mv rfl rfl <| L_pur rfl (p_extract rfl rfl) <| J_slot (t := 96) (v := .int .i64 ((rd + 1 - tl : Nat) : Int)) rfl (by rw [hRW1.room]) <| L_pur rfl (p_extract rfl rfl) <| ag rfl rfl <| ag rfl rfl <| nx <| mv rfl rfl ?_
  refine L_op <| xc fc42 (.cons rfl (.cons rfl (.cons rfl .nil))) rfl (coEnterP (s := S1) (p := pN1) (t := 2) (n := 4) (N := 40 + 100 * i) (M := 60 + 9 * i) PC I1 (hBJ.ok hn) (by omega) (by omega) nOps) fun b1 => ?_
  obtain ⟨k, tk2, hk, I2, N2, htk2, hE⟩ := hBJ.enter hn hlt b1
  refine J_slot (t := 99) (v := .int .i64 k) rfl (by rw [hk]) ?_
  obtain ⟨S2, hS2⟩ : ∃ z, z = (kEnter S1 2 4 b1).1 := ⟨_, rfl⟩
  rw [← hS2] at I2 N2
  refine J_pick (A := coA g.p _) PC ?_
  refine J_asTo (B := coA g.p S2) (by rw [hS2]) ?_
  obtain ⟨hlk2, hRW2, _, _⟩ := N2.rw
  have hnum2 := hRW2.num
  refine ag rfl rfl <| nq ?_
  refine J_cut (α := Unit) (fun _ : Unit => [coA g.p S2, old W]) (fun _ : Unit => [(11, .pointer (some ⟨b, 0, none⟩)), (10, .int .i64 (i : Int)), (9, .int .i64 (rd : Int)), (8, .int .u32 (rd : Int)), (7, .int .i64 (sent1 : Int)), (6, .pointer (some ⟨g.p, 0, none⟩)), (0, .int .i64 (n : Int)), (1, .slice a (bs.map fun z => [Value.int .i64 z]).length cap), (5, .bool true)]) ?_ ?_
  refine sr <| mv rfl rfl <| mv rfl rfl <| mv rfl rfl <| L_pur rfl (p_min rfl rfl) <| L_pur rfl (p_sub64 rfl rfl (by split <;> omega)) <| J_slot (t := 104) (v := .int .i64 ((tk - min tk (rd + 1) : Nat) : Int)) rfl (by exact congrArg (Value.int .i64) (by split <;> omega)) <| L_pur rfl (p_geq rfl rfl) ?_
  refine nq ?_
  refine C_split rfl (fun h105 => ?_) (fun h105 => ?_)
  have hE1 : k = -13 ∧ tk2 = tk := by simp at h105; omega
  refine sr <| mv rfl rfl <| L_pur rfl (p_neq rfl rfl) <| mv rfl rfl <| J_bool (t := 108) (c := false) rfl (by rw [hE1.1]; rfl) <| L_op <| G_on rfl rfl rfl <| J_pur (p_move rfl) rfl rfl rfl ?_
  refine L_op <| G_on rfl rfl rfl <| xc fc47 (.cons rfl .nil) rfl (coRgHead (s := S2) (u := 4) PC hlk2) fun _ => ?_
  refine L_op <| G_on rfl rfl rfl <| J_pur (p_move rfl) rfl rfl rfl <| L_op <| G_on rfl rfl rfl <| J_pur (p_neq rfl rfl) rfl rfl rfl <| L_pur rfl (p_pick_f rfl rfl) <| nq ?_
  refine J_bool (t := 113) (c := false) rfl (by rw [hE1.2]; simp [rgW]) <| C_false rfl <| J_skip <| Q_then ?_
  exact J_at (α := Unit) (L := (fun _ : Unit => [coA g.p S2, old W])) (G := (fun _ : Unit => [(11, .pointer (some ⟨b, 0, none⟩)), (10, .int .i64 (i : Int)), (9, .int .i64 (rd : Int)), (8, .int .u32 (rd : Int)), (7, .int .i64 (sent1 : Int)), (6, .pointer (some ⟨g.p, 0, none⟩)), (0, .int .i64 (n : Int)), (1, .slice a (bs.map fun z => [Value.int .i64 z]).length cap), (5, .bool true)])) () SU KE
  have hE1 : k = ((tk2 - tk : Nat) : Int) ∧ tk2 = tk + min (sent1 - tk) 4 := by simp at h105; omega
  refine sr <| mv rfl rfl <| L_pur rfl (p_lss rfl rfl) <| mv rfl rfl <| J_bool (t := 116) (c := false) rfl (by simp; omega) <| L_op <| G_on rfl rfl rfl <| J_pur (p_move rfl) rfl rfl rfl ?_
  refine L_op <| G_on rfl rfl rfl <| xc fc47 (.cons rfl .nil) rfl (coRgHead (s := S2) (u := 4) PC hlk2) fun _ => ?_
  refine L_op <| G_on rfl rfl rfl <| J_pur (p_move rfl) rfl rfl rfl <| L_op <| G_on rfl rfl rfl <| J_pur (p_move rfl) rfl rfl rfl <| L_op <| G_on rfl rfl rfl ?_
  refine J_pur (p_conv rfl Tryz.underlying3 Tryz.underlying22) rfl rfl rfl <| J_slot (t := 121) (v := .int .u32 ((tk2 - tk : Nat) : Int)) rfl (by rw [hE1.1, wrap32u_of (by omega)]) <| L_op <| G_on rfl rfl rfl <| J_pur (p_add rfl rfl) rfl rfl rfl <| J_slot (t := 122) (v := .int .u32 (tk2 : Int)) rfl (by rw [wrap32u_of (by omega)]; congr 1; omega) <| L_op <| G_on rfl rfl rfl ?_
  refine J_pur (p_neq rfl rfl) rfl rfl rfl <| L_pur rfl (p_pick_f rfl rfl) <| nq <| J_bool (t := 124) (c := false) rfl (by simp [rgW]) <| C_false rfl <| J_skip <| Q_then ?_
  exact J_at (α := Unit) (L := (fun _ : Unit => [coA g.p S2, old W])) (G := (fun _ : Unit => [(11, .pointer (some ⟨b, 0, none⟩)), (10, .int .i64 (i : Int)), (9, .int .i64 (rd : Int)), (8, .int .u32 (rd : Int)), (7, .int .i64 (sent1 : Int)), (6, .pointer (some ⟨g.p, 0, none⟩)), (0, .int .i64 (n : Int)), (1, .slice a (bs.map fun z => [Value.int .i64 z]).length cap), (5, .bool true)])) () SU KE
  intro _
  refine J_seq <| sr <| mv rfl rfl <| L_op <| xc fc48 (.cons rfl .nil) rfl (coRgOver (s := S2) (u := 4) PC hlk2 (by unfold rgW; simp; omega)) <| JR fun a126 c126 hw126 hl126 hm126 hz126 => L_pur rfl (p_len rfl Tryz.underlying88) <| J_slot (t := 127) (v := .int .i64 ((tk2 - min tk2 (rd + 1) : Nat) : Int)) rfl (by rw [List.length_map]; unfold rgW; simp) ?_
  refine L_pur rfl (p_gtr rfl rfl) <| nq <| J_bool (t := 128) (c := false) rfl (by simp; omega) <| C_false rfl <| J_skip <| Q_then <| J_seq <| sr ?_
  refine mv rfl rfl <| mv rfl rfl <| L_pur rfl (p_len rfl Tryz.underlying55) <| L_pur rfl (p_lss rfl rfl) <| mv rfl rfl ?_
  refine J_gsplit (t := 133) rfl (fun h133 => ?_) (fun h133 => ?_)
  have h133a := h133
  simp at h133a
  have hlt : i < bs.length := by omega
  obtain ⟨bx, ox, rfl⟩ := h3 (by intro h; rw [h] at hml; simp at hml; omega)
  obtain ⟨c, hcc⟩ : ∃ c, bs[i]? = some c := ⟨_, List.getElem?_eq_getElem hlt⟩
  refine L_op <| G_on rfl rfl rfl <| J_pur (p_move rfl) rfl rfl rfl <| L_op <| G_on rfl rfl rfl <| J_pur (p_move rfl) rfl rfl rfl <| L_op <| G_on rfl rfl rfl ?_
  refine J_pur (p_indexAddr rfl rfl Tryz.underlying55 ty3 (by omega) (by simp; omega)) rfl rfl rfl <| L_op <| G_on rfl rfl rfl ?_
  refine J_val (by first | exact v_loadE1 rfl ty3 HS (by simp only [Int.toNat_natCast, List.getElem?_map, hcc]; rfl) | exact v_loadR1 rfl ty3 (fun w H => hr.old HS H) (by simp only [Int.toNat_natCast, List.getElem?_map, hcc]; rfl)) rfl rfl rfl ?_
  refine L_op <| G_on rfl rfl rfl <| J_pur (p_and rfl rfl) rfl rfl rfl <| L_op <| G_on rfl rfl rfl <| J_pur (p_eql rfl rfl) rfl rfl rfl <| L_pur rfl (p_pick_t rfl rfl) <| nq ?_
  refine C_split rfl (fun h140 => ?_) (fun h140 => ?_)
  have hi40 : i < 40 := by simp_all; omega
  refine J_exit <| Q_then_exit <| Q_blk_this <| qr <| mv rfl rfl <| L_pur rfl (p_add64 rfl rfl (by omega)) <| ag rfl rfl <| nq ?_
  
  exact J_again4 (i + 1) sent1 rd S2 (by omega) (⟨by omega, by first | exact I3 | exact I2, ⟨tk2, _, N2, by omega⟩, hBJ.num, fun hq => by have := hBJ.go; have := hBJ.pg; omega⟩) SU KE
  refine J_skip <| qx <| mv rfl rfl <| L_op <| xc fc44 (.cons rfl .nil) rfl (coRgTail (s := S2) (u := 4) PC hlk2) fun _ => ?_
  refine J_slot (t := 142) (v := .int .u32 ((min tk2 (rd + 1) : Nat) : Int)) rfl rfl <| mv rfl rfl <| L_pur rfl (p_neq rfl rfl) <| nq ?_
  refine C_split rfl (fun h144 => ?_) (fun h144 => ?_)
  have hrd : rd < min tk2 (rd + 1) := by simp at h144; omega
  have hcm := hRW2.cmp rd (by omega) hrd
  rw [show 16 + 16 * (rd % 2 ^ 0) = 16 by omega] at hcm
  refine sr <| mv rfl rfl <| L_op <| xc fc39 (.cons rfl .nil) rfl (coMem (s := S2) PC) fun _ => ?_
  refine L_op <| xc fc50 (.cons rfl (.cons rfl (.cons rfl (.cons rfl .nil)))) rfl (coMemRd (s := S2) (u := 5) (off := 16) (n := 16) PC I2.w.fit.mem (by omega) (by omega)) fun v148 => J_rowEq (ys := (bytesX (cmpN rd)).map encU) (congrArg (List.map encU) hcm) <| J_row .here fun hw148 a148 c148 hv148 hl148 hm148 hz148 => ?_
  subst hv148
  refine mv rfl rfl <| L_pur rfl (p_extract rfl rfl) <| L_pur rfl (p_extract rfl rfl) <| ag rfl rfl <| ag rfl rfl <| nx <| mv rfl rfl <| L_op <| xc fc51 (.cons rfl .nil) rfl (rcompC (bs := bytesX (cmpN rd)) (fun w H => sep_reads (xs := (bytesX (cmpN rd)).map encU) HS H) rfl (bytesX_bytes _)) fun _ => ?_
  refine mv rfl rfl <| L_pur rfl (p_extract rfl rfl) <| J_slot (t := 154) (v := .agg (encX ((rd : Int), 0, 0, 1 + (rd : Int))).toArray) rfl (by rw [cmpN_is (by omega)]) <| L_pur rfl (p_extract rfl rfl) <| L_op <| x_alloc ty93 rfl fun b22 => L_op <| x_store rfl rfl ty93 rfl SM SM RO PT ?_
  refine ag rfl rfl <| nxx <| mv rfl rfl <| L_pur rfl (p_not rfl) <| mv rfl rfl <| J_bool (t := 158) (c := false) rfl (rfl) <| L_op <| G_on rfl rfl rfl ?_
  refine J_pur (p_fieldAddr rfl fa93_0) rfl rfl rfl <| L_op <| G_on rfl rfl rfl <| J_val (v_load rfl ty22 HS (by exact rfl)) rfl rfl rfl ?_
  refine L_op <| G_on rfl rfl rfl <| J_pur (p_move rfl) rfl rfl rfl <| L_op <| G_on rfl rfl rfl <| J_pur (p_conv rfl Tryz.underlying3 Tryz.underlying22) rfl rfl rfl <| J_slot (t := 162) (v := .int .u32 (rd : Int)) rfl (by rw [wrap32u_of (by omega)]) <| L_op <| G_on rfl rfl rfl ?_
  refine J_pur (p_neq rfl rfl) rfl rfl rfl <| L_pur rfl (p_pick_f rfl rfl) <| mv rfl rfl <| J_bool (t := 165) (c := false) rfl (by simp) <| L_op <| G_on rfl rfl rfl <| J_pur (p_fieldAddr rfl fa93_1) rfl rfl rfl <| L_op <| G_on rfl rfl rfl ?_
  refine J_val (v_load rfl ty21 HS (by exact rfl)) rfl rfl rfl ?_
  refine L_op <| G_on rfl rfl rfl <| J_pur (p_neq rfl rfl) rfl rfl rfl <| L_pur rfl (p_pick_f rfl rfl) <| nq <| J_bool (t := 169) (c := false) rfl (by simp) <| C_false rfl <| J_skip ?_
  refine qx <| mv rfl rfl <| L_pur rfl (p_add64 rfl rfl (by omega)) <| J_slot (t := 171) (v := .int .i64 ((rd + 1 : Nat) : Int)) rfl (by congr 1) <| ag rfl rfl <| nx <| mv rfl rfl <| L_pur rfl (p_add rfl rfl) ?_
  refine J_slot (t := 173) (v := .int .u32 ((rd + 1 : Nat) : Int)) rfl (by rw [wrap32u_of (by omega)]; congr 1) <| ag rfl rfl <| nq <| J_drawL (some 4) mixed <| ip 0 rfl rfl rfl rfl (p_move rfl) <| ip 3 rfl rfl rfl rfl (p_move rfl) <| I_ready (rs := [1, 2]) SI (by kernel_rfl) (by simp) ?_
  refine (I_cons rfl ?_ (I_cons rfl ?_ I_nil))
  refine xc fc39 (.cons rfl .nil) rfl (coMem (s := S2) PC) fun _ => ?_
  refine i1 2 rfl <| x_make (len := 4) rfl rfl Tryz.underlying73 ty5 rfl rfl (by simp) (by simp) rfl rfl <| JE ((List.replicate 4 (0 : Int)).map encU) (by rfl) fun a176 c176 hw176 hl176 hm176 hz176 => i1 4 rfl <| xc fc41 (.cons rfl (.cons rfl (.cons rfl .nil))) rfl (rput32C (a := 0) (bs := List.replicate 4 0) (n := ((rd + 1 : Nat) : Int)) (fun w H => sep_reads (xs := (List.replicate 4 (0 : Int)).map encU) HS H) (by decide) (by decide)) <| JE ((le4 ((rd + 1 : Nat) : Int)).map encU) (by rfl) fun a178 c178 hw178 hl178 hm178 hz178 => i1 5 rfl <| xc fc40 (.cons rfl (.cons rfl (.cons rfl (.cons rfl .nil)))) rfl (coMemWrZ (s := S2) (u := 5) (off := 0) (ys := le4 ((rd + 1 : Nat) : Int)) PC I2.w.fit.mem rfl rfl (by omega) (fun w H => sep_reads (xs := (le4 ((rd + 1 : Nat) : Int)).map encU) HS H) (by simp [le4])) fun _ => ?_
  refine i0 <| Q_blk_normal <| qr <| mv rfl rfl <| L_pur rfl (p_add64 rfl rfl (by omega)) <| ag rfl rfl <| nq ?_
  obtain ⟨S3, hS3⟩ : ∃ z, z = memS S2 5 0 (le4 ((rd + 1 : Nat) : Int)) := ⟨_, rfl⟩
  refine J_pick (A := coA g.p _) PC ?_
  refine J_asTo (B := coA g.p S3) (by rw [hS3]) ?_
  have N3 := N2.read (n := rd + 1) (by omega)
  have I3 : EInv pN1 S3 (40 + 100 * (i + 1)) (60 + 9 * (i + 1)) := by rw [hS3]; exact I2.memS (by omega) (by simp [le4]) (le4_bytes _)
  rw [← hS3] at N3
  exact J_again4 (i + 1) sent1 (rd + 1) S3 (by omega) (⟨by omega, by first | exact I3 | exact I2, ⟨tk2, _, N3, by omega⟩, hBJ.num, fun hq => by have := hBJ.go; omega⟩) SU KE
  refine x_make (len := 4) rfl rfl Tryz.underlying73 ty5 rfl rfl (by simp) (by simp) rfl rfl <| JE ((List.replicate 4 (0 : Int)).map encU) (by rfl) fun a176 c176 hw176 hl176 hm176 hz176 => i1 1 rfl <| xc fc39 (.cons rfl .nil) rfl (coMem (s := S2) PC) fun _ => ?_
  refine i1 4 rfl <| xc fc41 (.cons rfl (.cons rfl (.cons rfl .nil))) rfl (rput32C (a := 0) (bs := List.replicate 4 0) (n := ((rd + 1 : Nat) : Int)) (fun w H => sep_reads (xs := (List.replicate 4 (0 : Int)).map encU) HS H) (by decide) (by decide)) <| JE ((le4 ((rd + 1 : Nat) : Int)).map encU) (by rfl) fun a178 c178 hw178 hl178 hm178 hz178 => i1 5 rfl <| xc fc40 (.cons rfl (.cons rfl (.cons rfl (.cons rfl .nil)))) rfl (coMemWrZ (s := S2) (u := 5) (off := 0) (ys := le4 ((rd + 1 : Nat) : Int)) PC I2.w.fit.mem rfl rfl (by omega) (fun w H => sep_reads (xs := (le4 ((rd + 1 : Nat) : Int)).map encU) HS H) (by simp [le4])) fun _ => ?_
  refine i0 <| Q_blk_normal <| qr <| mv rfl rfl <| L_pur rfl (p_add64 rfl rfl (by omega)) <| ag rfl rfl <| nq ?_
  obtain ⟨S3, hS3⟩ : ∃ z, z = memS S2 5 0 (le4 ((rd + 1 : Nat) : Int)) := ⟨_, rfl⟩
  refine J_pick (A := coA g.p _) PC ?_
  refine J_asTo (B := coA g.p S3) (by rw [hS3]) ?_
  have N3 := N2.read (n := rd + 1) (by omega)
  have I3 : EInv pN1 S3 (40 + 100 * (i + 1)) (60 + 9 * (i + 1)) := by rw [hS3]; exact I2.memS (by omega) (by simp [le4]) (le4_bytes _)
  rw [← hS3] at N3
  exact J_again4 (i + 1) sent1 (rd + 1) S3 (by omega) (⟨by omega, by first | exact I3 | exact I2, ⟨tk2, _, N3, by omega⟩, hBJ.num, fun hq => by have := hBJ.go; omega⟩) SU KE
  have hrd : min tk2 (rd + 1) = rd := by simp at h144; omega
  refine J_skip <| Q_blk_normal <| qr <| mv rfl rfl <| L_pur rfl (p_add64 rfl rfl (by omega)) <| ag rfl rfl <| nq ?_
  
  exact J_again4 (i + 1) sent1 rd S2 (by omega) (⟨by omega, by first | exact I3 | exact I2, ⟨tk2, _, N2, by omega⟩, hBJ.num, fun hq => by have := hBJ.go; have := hBJ.pg; omega⟩) SU KE
  refine L_op <| G_off rfl rfl rfl rfl rfl rfl <| L_op <| G_off rfl rfl rfl rfl rfl rfl <| L_op <| G_off rfl rfl rfl rfl rfl rfl <| L_op <| G_off rfl rfl rfl rfl rfl rfl ?_
  refine L_op <| G_off rfl rfl rfl rfl rfl rfl <| L_op <| G_off rfl rfl rfl rfl rfl rfl <| L_pur rfl (p_pick_f rfl rfl) <| nq <| C_false rfl <| J_skip ?_
  refine qx <| mv rfl rfl <| L_op <| xc fc44 (.cons rfl .nil) rfl (coRgTail (s := S2) (u := 4) PC hlk2) fun _ => ?_
  refine J_slot (t := 142) (v := .int .u32 ((min tk2 (rd + 1) : Nat) : Int)) rfl rfl <| mv rfl rfl <| L_pur rfl (p_neq rfl rfl) <| nq ?_
  refine C_split rfl (fun h144 => ?_) (fun h144 => ?_)
  have hrd : rd < min tk2 (rd + 1) := by simp at h144; omega
  have hcm := hRW2.cmp rd (by omega) hrd
  rw [show 16 + 16 * (rd % 2 ^ 0) = 16 by omega] at hcm
  refine sr <| mv rfl rfl <| L_op <| xc fc39 (.cons rfl .nil) rfl (coMem (s := S2) PC) fun _ => ?_
  refine L_op <| xc fc50 (.cons rfl (.cons rfl (.cons rfl (.cons rfl .nil)))) rfl (coMemRd (s := S2) (u := 5) (off := 16) (n := 16) PC I2.w.fit.mem (by omega) (by omega)) fun v148 => J_rowEq (ys := (bytesX (cmpN rd)).map encU) (congrArg (List.map encU) hcm) <| J_row .here fun hw148 a148 c148 hv148 hl148 hm148 hz148 => ?_
  subst hv148
  refine mv rfl rfl <| L_pur rfl (p_extract rfl rfl) <| L_pur rfl (p_extract rfl rfl) <| ag rfl rfl <| ag rfl rfl <| nx <| mv rfl rfl <| L_op <| xc fc51 (.cons rfl .nil) rfl (rcompC (bs := bytesX (cmpN rd)) (fun w H => sep_reads (xs := (bytesX (cmpN rd)).map encU) HS H) rfl (bytesX_bytes _)) fun _ => ?_
  refine mv rfl rfl <| L_pur rfl (p_extract rfl rfl) <| J_slot (t := 154) (v := .agg (encX ((rd : Int), 0, 0, 1 + (rd : Int))).toArray) rfl (by rw [cmpN_is (by omega)]) <| L_pur rfl (p_extract rfl rfl) <| L_op <| x_alloc ty93 rfl fun b22 => L_op <| x_store rfl rfl ty93 rfl SM SM RO PT ?_
  refine ag rfl rfl <| nxx <| mv rfl rfl <| L_pur rfl (p_not rfl) <| mv rfl rfl <| J_bool (t := 158) (c := false) rfl (rfl) <| L_op <| G_on rfl rfl rfl ?_
  refine J_pur (p_fieldAddr rfl fa93_0) rfl rfl rfl <| L_op <| G_on rfl rfl rfl <| J_val (v_load rfl ty22 HS (by exact rfl)) rfl rfl rfl ?_
  refine L_op <| G_on rfl rfl rfl <| J_pur (p_move rfl) rfl rfl rfl <| L_op <| G_on rfl rfl rfl <| J_pur (p_conv rfl Tryz.underlying3 Tryz.underlying22) rfl rfl rfl <| J_slot (t := 162) (v := .int .u32 (rd : Int)) rfl (by rw [wrap32u_of (by omega)]) <| L_op <| G_on rfl rfl rfl ?_
  refine J_pur (p_neq rfl rfl) rfl rfl rfl <| L_pur rfl (p_pick_f rfl rfl) <| mv rfl rfl <| J_bool (t := 165) (c := false) rfl (by simp) <| L_op <| G_on rfl rfl rfl <| J_pur (p_fieldAddr rfl fa93_1) rfl rfl rfl <| L_op <| G_on rfl rfl rfl ?_
  refine J_val (v_load rfl ty21 HS (by exact rfl)) rfl rfl rfl ?_
  refine L_op <| G_on rfl rfl rfl <| J_pur (p_neq rfl rfl) rfl rfl rfl <| L_pur rfl (p_pick_f rfl rfl) <| nq <| J_bool (t := 169) (c := false) rfl (by simp) <| C_false rfl <| J_skip ?_
  refine qx <| mv rfl rfl <| L_pur rfl (p_add64 rfl rfl (by omega)) <| J_slot (t := 171) (v := .int .i64 ((rd + 1 : Nat) : Int)) rfl (by congr 1) <| ag rfl rfl <| nx <| mv rfl rfl <| L_pur rfl (p_add rfl rfl) ?_
  refine J_slot (t := 173) (v := .int .u32 ((rd + 1 : Nat) : Int)) rfl (by rw [wrap32u_of (by omega)]; congr 1) <| ag rfl rfl <| nq <| J_drawL (some 4) mixed <| ip 0 rfl rfl rfl rfl (p_move rfl) <| ip 3 rfl rfl rfl rfl (p_move rfl) <| I_ready (rs := [1, 2]) SI (by kernel_rfl) (by simp) ?_
  refine (I_cons rfl ?_ (I_cons rfl ?_ I_nil))
  refine xc fc39 (.cons rfl .nil) rfl (coMem (s := S2) PC) fun _ => ?_
  refine i1 2 rfl <| x_make (len := 4) rfl rfl Tryz.underlying73 ty5 rfl rfl (by simp) (by simp) rfl rfl <| JE ((List.replicate 4 (0 : Int)).map encU) (by rfl) fun a176 c176 hw176 hl176 hm176 hz176 => i1 4 rfl <| xc fc41 (.cons rfl (.cons rfl (.cons rfl .nil))) rfl (rput32C (a := 0) (bs := List.replicate 4 0) (n := ((rd + 1 : Nat) : Int)) (fun w H => sep_reads (xs := (List.replicate 4 (0 : Int)).map encU) HS H) (by decide) (by decide)) <| JE ((le4 ((rd + 1 : Nat) : Int)).map encU) (by rfl) fun a178 c178 hw178 hl178 hm178 hz178 => i1 5 rfl <| xc fc40 (.cons rfl (.cons rfl (.cons rfl (.cons rfl .nil)))) rfl (coMemWrZ (s := S2) (u := 5) (off := 0) (ys := le4 ((rd + 1 : Nat) : Int)) PC I2.w.fit.mem rfl rfl (by omega) (fun w H => sep_reads (xs := (le4 ((rd + 1 : Nat) : Int)).map encU) HS H) (by simp [le4])) fun _ => ?_
  refine i0 <| Q_blk_normal <| qr <| mv rfl rfl <| L_pur rfl (p_add64 rfl rfl (by omega)) <| ag rfl rfl <| nq ?_
  obtain ⟨S3, hS3⟩ : ∃ z, z = memS S2 5 0 (le4 ((rd + 1 : Nat) : Int)) := ⟨_, rfl⟩
  refine J_pick (A := coA g.p _) PC ?_
  refine J_asTo (B := coA g.p S3) (by rw [hS3]) ?_
  have N3 := N2.read (n := rd + 1) (by omega)
  have I3 : EInv pN1 S3 (40 + 100 * (i + 1)) (60 + 9 * (i + 1)) := by rw [hS3]; exact I2.memS (by omega) (by simp [le4]) (le4_bytes _)
  rw [← hS3] at N3
  exact J_again4 (i + 1) sent1 (rd + 1) S3 (by omega) (⟨by omega, by first | exact I3 | exact I2, ⟨tk2, _, N3, by omega⟩, hBJ.num, fun hq => by have := hBJ.go; omega⟩) SU KE
  refine x_make (len := 4) rfl rfl Tryz.underlying73 ty5 rfl rfl (by simp) (by simp) rfl rfl <| JE ((List.replicate 4 (0 : Int)).map encU) (by rfl) fun a176 c176 hw176 hl176 hm176 hz176 => i1 1 rfl <| xc fc39 (.cons rfl .nil) rfl (coMem (s := S2) PC) fun _ => ?_
  refine i1 4 rfl <| xc fc41 (.cons rfl (.cons rfl (.cons rfl .nil))) rfl (rput32C (a := 0) (bs := List.replicate 4 0) (n := ((rd + 1 : Nat) : Int)) (fun w H => sep_reads (xs := (List.replicate 4 (0 : Int)).map encU) HS H) (by decide) (by decide)) <| JE ((le4 ((rd + 1 : Nat) : Int)).map encU) (by rfl) fun a178 c178 hw178 hl178 hm178 hz178 => i1 5 rfl <| xc fc40 (.cons rfl (.cons rfl (.cons rfl (.cons rfl .nil)))) rfl (coMemWrZ (s := S2) (u := 5) (off := 0) (ys := le4 ((rd + 1 : Nat) : Int)) PC I2.w.fit.mem rfl rfl (by omega) (fun w H => sep_reads (xs := (le4 ((rd + 1 : Nat) : Int)).map encU) HS H) (by simp [le4])) fun _ => ?_
  refine i0 <| Q_blk_normal <| qr <| mv rfl rfl <| L_pur rfl (p_add64 rfl rfl (by omega)) <| ag rfl rfl <| nq ?_
  obtain ⟨S3, hS3⟩ : ∃ z, z = memS S2 5 0 (le4 ((rd + 1 : Nat) : Int)) := ⟨_, rfl⟩
  refine J_pick (A := coA g.p _) PC ?_
  refine J_asTo (B := coA g.p S3) (by rw [hS3]) ?_
  have N3 := N2.read (n := rd + 1) (by omega)
  have I3 : EInv pN1 S3 (40 + 100 * (i + 1)) (60 + 9 * (i + 1)) := by rw [hS3]; exact I2.memS (by omega) (by simp [le4]) (le4_bytes _)
  rw [← hS3] at N3
  exact J_again4 (i + 1) sent1 (rd + 1) S3 (by omega) (⟨by omega, by first | exact I3 | exact I2, ⟨tk2, _, N3, by omega⟩, hBJ.num, fun hq => by have := hBJ.go; omega⟩) SU KE
  have hrd : min tk2 (rd + 1) = rd := by simp at h144; omega
  refine J_skip <| Q_blk_normal <| qr <| mv rfl rfl <| L_pur rfl (p_add64 rfl rfl (by omega)) <| ag rfl rfl <| nq ?_
  
  exact J_again4 (i + 1) sent1 rd S2 (by omega) (⟨by omega, by first | exact I3 | exact I2, ⟨tk2, _, N2, by omega⟩, hBJ.num, fun hq => by have := hBJ.go; have := hBJ.pg; omega⟩) SU KE
  have hi4 : i = 400 := by simp at h48; omega
  have hgo := hB.go (by omega)
  have hq1 : sent = n := by omega
  have hq2 : rd = n := by omega
  refine J_exit <| Q_then_exit <| Q_then_exit <| Q_blk_this <| qx <| mv rfl rfl <| mv rfl rfl <| J_bool (t := 181) (c := true) rfl (rfl) ?_
  refine L_op <| G_on rfl rfl rfl <| J_pur (p_move rfl) rfl rfl rfl <| L_op <| G_on rfl rfl rfl <| J_pur (p_move rfl) rfl rfl rfl <| L_op <| G_on rfl rfl rfl ?_
  refine J_pur (p_eql rfl rfl) rfl rfl rfl <| L_pur rfl (p_pick_t rfl rfl) <| mv rfl rfl <| J_bool (t := 186) (c := true) rfl (by rw [hq1]; simp) <| L_op <| G_on rfl rfl rfl <| J_pur (p_move rfl) rfl rfl rfl <| L_op <| G_on rfl rfl rfl ?_
  refine J_pur (p_move rfl) rfl rfl rfl <| L_op <| G_on rfl rfl rfl <| J_pur (p_eql rfl rfl) rfl rfl rfl <| L_pur rfl (p_pick_t rfl rfl) <| ag rfl rfl <| nq <| J_ret ?_
  refine J_return (()) Tryz.results7 (.tmp rfl .nil) ?_ ?_
  · first | rfl | simp [one, hq1, hq2]
  · exact SU
end Go.Pse
