/-
  Own texts, merged: C100a, C100, C101, C102, C103, C104, C105, C111, C112, C113, C116, C114, C106a, C115a, C118a, C118.
-/
import Derived.Test.YtclgdnpndlognaaGreatBC4
import Derived.Test.YtclgdnpndlognaaGreatBC3
set_option linter.unusedVariables false
set_option linter.unusedSimpArgs false
namespace Go.Pse
open Go.RowKit Go.Proofs
/-! ### plain: a drain, reckoned -/
abbrev nopE (i : Nat) : Sqe := ⟨1, 0, (i : Int), 0, 0, 0, 0, 0⟩
/-! ### plain: requests of one ring, in a row -/
def pairsQ (l : List Rq) : List (ID × Rq) := l.map fun q => (q.id, q)
/-- Nobody waits anywhere; the ring 4 is somebody's. -/
structure Quiet (s : KS) (T : Th) : Prop where
  tm : s.tm = []
  ep : s.ep = []
  nt : s.nt = []
  rp : ∀ x ∈ s.rp, x.2.2.2 = false
  ow : kOwner s 4 = some T
/-- A ring with room for completions, t of them there. -/
def RM (X : List Int) (hd : Int) (RG : List (Int × Nat × Rg)) (MS : List (List Int)) (t : Nat) : Prop := ∃ b r, RG = [(4, b, r)] ∧ r.over = [] ∧ r.tail = (t : Int) ∧ r.cb = 4 ∧ r.cq = 6 ∧ RgOk r ∧ MemOk MS ∧ getN (rowAt MS 6) 0 4 = 0 ∧ r.head = hd ∧ r.sq = 5 ∧ r.sb = 3 ∧ rowAt MS 5 = X
variable {X5 : List Int} {hd5 : Int}
def At (s : KS) (rs : List Rq) (js : List Deed) (RG : List (Int × Nat × Rg)) (MS : List (List Int)) : KS := { s with rt := pairsQ rs, jn := js, rg := RG, mem := MS }
variable {RG : List (Int × Nat × Rg)} {MS : List (List Int)} {t : Nat} {d : Deed}
theorem RM.post (h : RM X5 hd5 RG MS t) (ht : t < 16) (hd : d.1.1 = 4) (s : KS) : ∃ RG' MS', RM X5 hd5 RG' MS' (t + 1) ∧ kPost { s with rg := RG, mem := MS } d = { s with rg := RG', mem := MS' } := by
  obtain ⟨b, r, rfl, h2, h3, h4, h5, h6, h7, h8, h9, h10, h11, h12⟩ := h
  have hok := rdy_ok (ms := MS) h2 h3 h4 (by rw [h5]; exact h8) ⟨by omega, by omega⟩
  have hl : look (KS.rg { s with rg := [(4, b, r)], mem := MS }) d.1.1 = some (b, r) := by rw [hd]; rfl
  refine ⟨[(4, b, postR r MS (ofD d))], postM r MS (ofD d), ⟨b, _, rfl, ?_⟩, ?_⟩
  · refine ⟨by unfold postR; rw [hok]; exact h2, ?_, by unfold postR; rw [hok]; exact h4, by unfold postR; rw [hok]; exact h5, postR_ok h6 _, postM_ok h6 h7 _, ?_, by unfold postR; rw [hok]; exact h9, by unfold postR; rw [hok]; exact h10, by unfold postR; rw [hok]; exact h11, ?_⟩
    · unfold postR; rw [hok]
      show IntKind.u32.wrap (r.tail + 1) = _
      rw [h3, wrap32u_of (by omega)]; omega
    · unfold postM; rw [hok, if_pos rfl, h5, rowAt_set (by omega) (by omega) h7.len, if_pos rfl, getN_row h6 h7, h5]; exact h8
    · unfold postM; rw [hok, if_pos rfl, h5, rowAt_set (by omega) (by omega) h7.len, if_neg (by decide)]; exact h12
  · rw [kPost_some hl, hd]
    unfold updO
    simp
variable {s : KS} {T : Th} {rs : List Rq} {js : List Deed}
theorem At.forget (h : Quiet s T) (i : ID) : kForget (At s rs js RG MS) i = At s rs js RG MS := by
 have e : allO (rpD i) s.rp = s.rp := by
  unfold allO
  conv => rhs; rw [← List.map_id s.rp]
  refine List.map_congr_left fun x hx => ?_
  obtain ⟨u, b, c⟩ := x
  have := h.rp _ hx
  show (u, b, cDrop c i) = (u, b, c)
  unfold cDrop
  rw [if_neg (fun e => by simp only at this; rw [this] at e; cases e.1)]
 show ({ At s rs js RG MS with tm := tdrop s.tm i, ep := allO (epD i) s.ep, nt := allO (ntD i) s.nt, rp := allO (rpD i) s.rp } : KS) = _
 rw [h.tm, h.ep, h.nt, e]
 unfold At
 cases s
 simp only at *
 obtain ⟨h1, h2, h3, _, _⟩ := h
 simp only at h1 h2 h3
 subst h1; subst h2; subst h3
 rfl
theorem At.tell (h : Quiet s T) {D : KS → ID → Int → Int → KS} (hm : RM X5 hd5 RG MS t) (ht : t < 16) (hd : d.1.1 = 4) : ∃ RG' MS', RM X5 hd5 RG' MS' (t + 1) ∧ kTell D (At s rs js RG MS) d = At s rs (js ++ [d]) RG' MS' := by
  obtain ⟨RG', MS', h1, h2⟩ := hm.post ht hd { s with rt := pairsQ rs, jn := js ++ [d] }
  refine ⟨RG', MS', h1, ?_⟩
  have hs : kSaid (At s rs js RG MS) d = At s rs (js ++ [d]) RG' MS' := h2
  unfold kTell
  rw [hs, show look (KS.nt (At s rs (js ++ [d]) RG' MS')) (kBell (At s rs (js ++ [d]) RG' MS') d.1.1).1 = none from by rw [show KS.nt (At s rs (js ++ [d]) RG' MS') = s.nt from rfl, h.nt]; rfl]
theorem sortF_id : ∀ {xs : List Rq}, (xs.Pairwise fun a b => a.id.2 < b.id.2) → sortF cmpQ xs = xs
  | [], _ => rfl
  | x :: xs, h => by
    obtain ⟨h1, h2⟩ := List.pairwise_cons.1 h
    show insF cmpQ x (sortF cmpQ xs) = _
    rw [sortF_id h2]
    cases xs with
    | nil => rfl
    | cons y ys =>
      unfold insF
      have := h1 y (List.mem_cons_self)
      rw [if_neg (by rw [cmpQ_lt]; simp; omega)]
/-- A row of requests of ring 4, by rising numbers. -/
structure Row (l : List Rq) : Prop where
  ring : ∀ q ∈ l, q.id.1 = 4
  up : l.Pairwise fun a b => a.id.2 < b.id.2
variable {q : Rq} {l : List Rq}
theorem Row.tail (h : Row (q :: l)) : Row l := ⟨fun x hx => h.ring x (List.mem_cons_of_mem _ hx), (List.pairwise_cons.1 h.up).2⟩
theorem Row.head {q' : Rq} (h : Row (q :: l)) (hi : q'.id = q.id) : Row (q' :: l) := ⟨fun x hx => by
  rcases List.mem_cons.1 hx with rfl | hx
  · rw [hi]; exact h.ring q (List.mem_cons_self)
  · exact h.ring x (List.mem_cons_of_mem _ hx), List.pairwise_cons.2 ⟨fun x hx => by rw [hi]; exact (List.pairwise_cons.1 h.up).1 x hx, (List.pairwise_cons.1 h.up).2⟩⟩
theorem Row.of (h : Row l) : ofQ (pairsQ l) 4 = l := by
  have e : ofRing (pairsQ l) 4 = l := by
    unfold ofRing pairsQ
    rw [List.filter_eq_self.2 fun e he => by
      obtain ⟨q, hq, rfl⟩ := List.mem_map.1 he
      simpa using h.ring q hq, List.map_map]
    conv => rhs; rw [← List.map_id l]
    rfl
  unfold ofQ
  rw [e, sortF_id h.up]
theorem pairs_look : look (pairsQ (q :: l)) q.id = some q := by
  show look ((q.id, q) :: pairsQ l) q.id = _
  rw [look_cons, if_pos rfl]
theorem pairs_none {i : ID} (h : ∀ q ∈ l, q.id ≠ i) : look (pairsQ l) i = none := by
  rw [look_none_iff]
  intro hm
  obtain ⟨e, he, h2⟩ := List.mem_map.1 hm
  obtain ⟨q, hq, rfl⟩ := List.mem_map.1 he
  exact h q hq h2
theorem Row.ne (h : Row (q :: l)) : ∀ x ∈ l, x.id ≠ q.id := fun x hx e => by
  have := (List.pairwise_cons.1 h.up).1 x hx
  rw [e] at this; omega
theorem Row.del (h : Row (q :: l)) : del (pairsQ (q :: l)) q.id = pairsQ l := by
  show List.filter (fun e => !decide (e.1 = q.id)) ((q.id, q) :: pairsQ l) = _
  rw [List.filter_cons, if_neg (by simp)]
  exact List.filter_eq_self.2 fun e he => by
    obtain ⟨x, hx, rfl⟩ := List.mem_map.1 he
    simpa using h.ne x hx
variable {X5 : List Int} {hd5 : Int}
theorem pairs_app {a b : List Rq} : pairsQ (a ++ b) = pairsQ a ++ pairsQ b := by unfold pairsQ; rw [List.map_append]
section
variable {s : KS} {T : Th} (hQ : Quiet s T)
include hQ
end
/-- All that is asked of a state in which the thread 2 enters, with t entries behind it. -/
structure Mid (S : KS) (b : Nat) (r : Rg) (t : Nat) : Prop where
  th : ∃ T, look S.th 2 = some T ∧ T.ring = 4 ∧ Quiet S T
  rg : S.rg = [(4, b, r)]
  rt : S.rt = []
  tk : S.tk = [(4, (t : Int))]
  rm : RM (rowAt S.mem 5) r.head S.rg S.mem t
  wt : rgWaitOk r S.mem = true
theorem takeF_shift {t : Nat} : ∀ (raw : List (List Int)) (p : Option Sqe) (k : Nat) (s : KS), takeF 4 (1 + (t : Int)) p k raw s = takeF 4 1 p (t + k) raw s
  | [], _, _, _ => rfl
  | bs :: raw, p, k, s => by
    have e1 : (1 : Int) + (t : Int) + (k : Int) = 1 + ((t + k : Nat) : Int) := by omega
    have e2 : reqP 4 (1 + (t : Int)) p k (entE bs) = reqP 4 1 p (t + k) (entE bs) := by
      unfold reqP
      rw [e1, show prevP (1 + (t : Int)) p k = prevP 1 p (t + k) by unfold prevP; cases p <;> simp only [e1]]
    have e3 : badD 4 (1 + (t : Int)) k bs = badD 4 1 (t + k) bs := by unfold badD; rw [e1]
    rw [takeF, takeF, e2, e3, takeF_shift raw, takeF_shift raw, show t + (k + 1) = t + k + 1 by omega]
variable {m : Nat}
/-- The ring as it stands, and how many are taken. -/
theorem Mid.look {S : KS} {b : Nat} {r : Rg} (hF : Mid S b r t) {n : Int} (hm : minI (rgWait r S.mem) (clampB n) = (m : Int)) : flushR r S.mem = (r, S.mem) ∧ flushS S 4 r = S ∧ takeN S 4 (clampB n) r = (m : Int) ∧ m ≤ (clampB n).toNat ∧ m ≤ 8 := by
  obtain ⟨b', r', hrg, h2, h3, h4, h5, h6, h7, h8, _⟩ := hF.rm
  have e := hrg.symm.trans hF.rg
  cases e
  have hov : flushR r S.mem = (r, S.mem) := by
    unfold flushR
    rw [h2]
    show ({ r with over := [] }, S.mem) = _
    cases r; simp only at h2; subst h2; rfl
  have hmw := rgWait_in (ms := S.mem) h6
  have hm8 : m ≤ 8 ∧ m ≤ (clampB n).toNat := by
    unfold minI at hm
    split at hm <;> omega
  refine ⟨hov, ?_, ?_, hm8.2, hm8.1⟩
  · unfold flushS
    rw [hF.rg, hov]
    have : updO [((4 : Int), b, r)] 4 (fun r => (flushR r S.mem).1) = [(4, b, (flushR r S.mem).1)] := rfl
    rw [this, hov]
    have h := hF.rg
    cases S; simp only at h; subst h; rfl
  · unfold takeN
    rw [hm, hF.rt, show (ofQ [] 4).length = 0 from rfl]
    unfold minI maxI
    (repeat' split) <;> omega
/-! ### plain: what stands in a ring's memory -/
variable {bs ys : List Int}
theorem get_same {a : Nat} (h : a + ys.length ≤ bs.length) : ((putB bs a ys).drop a).take ys.length = ys := by
  unfold putB
  rw [List.append_assoc, List.drop_left' (by rw [List.length_take]; omega)]
  exact List.take_left' Z
theorem get_far {a o n : Nat} (h : a + ys.length ≤ bs.length) (hf : o + n ≤ a ∨ a + ys.length ≤ o) : ((putB bs a ys).drop o).take n = (bs.drop o).take n := by
  refine List.ext_getElem? fun i => ?_
  by_cases hi : i < n
  · rw [List.getElem?_take_of_lt hi, List.getElem?_take_of_lt hi, List.getElem?_drop, List.getElem?_drop]
    unfold putB
    rcases hf with hf | hf
    · rw [List.append_assoc, List.getElem?_append_left (by rw [List.length_take]; omega), List.getElem?_take_of_lt (by omega)]
    · rw [List.getElem?_append_right (by simp; omega), List.getElem?_drop]
      congr 1
      simp
      omega
  · rw [List.getElem?_eq_none (by simp; omega), List.getElem?_eq_none (by simp; omega)]
theorem getN_of {cs : List Int} {a b : Nat} (h : (bs.drop a).take 4 = (cs.drop b).take 4) : getN bs a 4 = getN cs b 4 := by
  rw [← getN_part (bs := bs), ← getN_part (bs := cs), h]
theorem getN_le4 {n : Int} (h : 0 ≤ n ∧ n < 4294967296) : getN (le4 n) 0 4 = n := by
  simp only [getN, byteAt, le4]
  simp
  omega
theorem getN_put {a : Nat} {n : Int} (hl : a + 4 ≤ bs.length) (h : 0 ≤ n ∧ n < 4294967296) : getN (putB bs a (le4 n)) a 4 = n := by
  rw [getN_of (cs := le4 n) (b := 0) (by
    have := get_same (bs := bs) (ys := le4 n) (a := a) (by show a + 4 ≤ _; exact hl)
    rw [show (le4 n).length = 4 from rfl] at this
    rw [this]; rfl), getN_le4 h]
/-- Bytes laid where entries lie. -/
def layB : Nat → List (List Int) → KS → KS
  | _, [], s => s
  | i, ys :: yss, s => layB (i + 1) yss (memS s 4 (16 + 32 * i) ys)
theorem layE_B : ∀ (es : List Sqe) (i : Nat) (s : KS), layE i es s = layB i (es.map rawE) s
  | [], _, _ => rfl
  | e :: es, i, s => layE_B es (i + 1) _
theorem layB_is : ∀ (yss : List (List Int)) (i : Nat) (s : KS), layB i yss s = { s with mem := (layB i yss s).mem }
  | [], _, _ => rfl
  | y :: yss, i, s => by
    unfold layB
    rw [layB_is yss]
theorem EInv.layB {p : Sqe → Bool} : ∀ (yss : List (List Int)) {i : Nat} {s : KS} {N M : Nat}, EInv p s N M → (∀ ys ∈ yss, ys.length = 32 ∧ Bytes ys) → i + yss.length ≤ 8 → EInv p (layB i yss s) N M
  | [], _, _, _, _, h, _, _ => h
  | y :: yss, i, s, N, M, h, hy, hi => by
    rw [List.length_cons] at hi
    have := hy y (List.mem_cons_self)
    exact EInv.layB yss (h.memS (u := 4) (off := 16 + 32 * i) (ys := y) (by omega) (by omega) this.2) (fun z hz => hy z (List.mem_cons_of_mem _ hz)) (by omega)
def KL (g : NewG) : KS := kNew 1 4 3 4 false g
/-! ### plain: a ring told by numbers -/
theorem p2n (k : Nat) : (2 : Int) ^ ((k : Int)).toNat = ((2 ^ k : Nat) : Int) := by rw [Int.toNat_natCast]; simp
variable {j : Nat}
theorem mod_ne (h1 : j < t) (h2 : t < j + m) : j % m ≠ t % m := fun e => by
  have h := Nat.sub_mod_eq_zero_of_mod_eq e.symm
  rw [Nat.mod_eq_of_lt (by omega)] at h
  omega
theorem pw_pos (k : Nat) : 0 < 2 ^ k := Nat.pow_pos (by decide)
variable {k n : Nat}
theorem pw_le (h : k ≤ n) : 2 ^ k ≤ 2 ^ n := Nat.pow_le_pow_right (by decide) h
/-- The ring 4, told by numbers: tk taken, tl written, P posted. -/
def rgW (sb cb : Nat) (C : Nat → Cqe) (tk tl P : Nat) : Rg := ⟨5, 6, (sb : Int), (cb : Int), (tk : Int), (tl : Int), (List.range (P - tl)).map fun i => C (tl + i)⟩
/-- .. and its memory: lay laid, sent of them told, hd read; X: the entries' bytes; C: the completions. -/
structure RW (sb cb : Nat) (X : Nat → List Int) (C : Nat → Cqe) (sent lay tk hd tl P : Nat) (MS : List (List Int)) : Prop where
  sz : sb ≤ 3 ∧ cb ≤ 4
  mem : MemOk MS
  sw : getN (rowAt MS 5) 4 4 = (sent : Int)
  hw : getN (rowAt MS 6) 0 4 = (hd : Int)
  num : tk ≤ sent ∧ sent ≤ lay ∧ lay ≤ tk + 2 ^ sb ∧ hd ≤ tl ∧ tl ≤ hd + 2 ^ cb ∧ tl ≤ P ∧ lay ≤ 1000000 ∧ P ≤ 1000000
  ent : ∀ j, tk ≤ j → j < lay → ((rowAt MS 5).drop (16 + 32 * (j % 2 ^ sb))).take 32 = X j
  cmp : ∀ j, hd ≤ j → j < tl → ((rowAt MS 6).drop (16 + 16 * (j % 2 ^ cb))).take 16 = bytesX (C j)
section
variable {sb cb : Nat} {X : Nat → List Int} {C : Nat → Cqe} {sent lay tk hd tl P : Nat} {MS : List (List Int)}
theorem RW.sbP (h : RW sb cb X C sent lay tk hd tl P MS) : 2 ^ sb ≤ 8 := pw_le h.sz.1
theorem RW.cbP (h : RW sb cb X C sent lay tk hd tl P MS) : 2 ^ cb ≤ 16 := pw_le h.sz.2
theorem RW.ok (h : RW sb cb X C sent lay tk hd tl P MS) : RgOk (rgW sb cb C tk tl P) := by
  have := h.sz; have := h.num
  exact ⟨by show (1 : Int) ≤ 5 ∧ (5 : Int) ≤ 64; omega, by show (1 : Int) ≤ 6 ∧ (6 : Int) ≤ 64; omega, by show (0 : Int) ≤ (cb : Int) ∧ (cb : Int) ≤ 4; omega, by show (0 : Int) ≤ (tl : Int) ∧ (tl : Int) < _; omega, by show (0 : Int) ≤ (sb : Int) ∧ (sb : Int) ≤ 3; omega, by show (0 : Int) ≤ (tk : Int) ∧ (tk : Int) < _; omega⟩
theorem RW.near (h : RW sb cb X C sent lay tk hd tl P MS) : rgNear (rgW sb cb C tk tl P) MS = ((sent - tk : Nat) : Int) ∧ rgWaitOk (rgW sb cb C tk tl P) MS = true := by
  have hn := h.num
  have e : rgNear (rgW sb cb C tk tl P) MS = ((sent - tk : Nat) : Int) := by
    unfold rgNear
    show IntKind.u32.wrap (getN (rowAt MS 5) 4 4 - (tk : Int)) = _
    rw [h.sw, wrap32u_of (by omega)]; omega
  refine ⟨e, ?_⟩
  unfold rgWaitOk
  rw [e]
  show (!decide (_ > (2 : Int) ^ ((sb : Int)).toNat)) = true
  rw [p2n, decide_eq_false (by omega)]; rfl
theorem RW.wait (h : RW sb cb X C sent lay tk hd tl P MS) : rgWait (rgW sb cb C tk tl P) MS = ((sent - tk : Nat) : Int) := by
  unfold rgWait
  rw [h.near.2, if_pos rfl, h.near.1]
variable {P' : Nat}
theorem RW.far (h : RW sb cb X C sent lay tk hd tl P MS) {tk' : Nat} : rgFar (rgW sb cb C tk' tl P') MS = ((tl - hd : Nat) : Int) ∧ rgRoomOk (rgW sb cb C tk' tl P') MS = true ∧ rgWrOk (rgW sb cb C tk' tl P') MS = decide (tl < hd + 2 ^ cb) := by
  have hn := h.num
  have e : rgFar (rgW sb cb C tk' tl P') MS = ((tl - hd : Nat) : Int) := by
    unfold rgFar
    show IntKind.u32.wrap ((tl : Int) - getN (rowAt MS 6) 0 4) = _
    rw [h.hw, wrap32u_of (by omega)]; omega
  refine ⟨e, ?_, ?_⟩
  · unfold rgRoomOk
    rw [e]
    show (!decide (_ > (2 : Int) ^ ((cb : Int)).toNat)) = true
    rw [p2n, decide_eq_false (by omega)]; rfl
  · unfold rgWrOk
    rw [e]
    show decide (_ < (2 : Int) ^ ((cb : Int)).toNat) = _
    rw [p2n, decide_eq_decide]; omega
theorem RW.valid (h : RW sb cb X C sent lay tk hd tl P MS) : rgValid (rgW sb cb C tk tl P) MS = true := by
  unfold rgValid
  rw [h.near.2, h.far.2.1]; rfl
theorem RW.room (h : RW sb cb X C sent lay tk hd tl P MS) : rgRoom (rgW sb cb C tk tl P) MS = ((hd + 2 ^ cb - tl : Nat) : Int) := by
  have hn := h.num
  unfold rgRoom
  rw [h.far.1]
  show (if _ > (2 : Int) ^ ((cb : Int)).toNat then (0 : Int) else (2 : Int) ^ ((cb : Int)).toNat - _) = _
  rw [p2n, if_neg (by omega)]; omega
theorem RW.fetch (h : RW sb cb X C sent lay tk hd tl P MS) (hk : tk + k < lay) : fetchB (rgW sb cb C tk tl P) MS k = X (tk + k) := by
  have hn := h.num
  have hp := h.sbP
  unfold fetchB
  show ((rowAt MS 5).drop (16 + IntKind.u32.wrap ((tk : Int) + IntKind.u32.wrap (k : Int)) % (2 : Int) ^ ((sb : Int)).toNat * 32).toNat).take 32 = _
  rw [wrap32u_of (a := (k : Int)) (by omega), wrap32u_of (by omega), p2n, ← h.ent (tk + k) (by omega) hk]
  congr 2
  have : ((tk : Int) + (k : Int)) % ((2 ^ sb : Nat) : Int) = (((tk + k) % 2 ^ sb : Nat) : Int) := by rw [Int.natCast_emod]; simp
  rw [this]; omega
theorem RW.raw (h : RW sb cb X C sent lay tk hd tl P MS) (hs : s.mem = MS) (hm : tk + m ≤ lay) : takeRaw s (rgW sb cb C tk tl P) m = (List.range m).map fun k => X (tk + k) := by
  unfold takeRaw
  refine List.map_congr_left fun k hk => ?_
  rw [hs]
  exact h.fetch (by have := List.mem_range.1 hk; omega)
/-- More is posted than there is room for. -/
theorem RW.more (h : RW sb cb X C sent lay tk hd tl P MS) (hp : tl ≤ P') (hP : P' ≤ 1000000) : RW sb cb X C sent lay tk hd tl P' MS := ⟨h.sz, h.mem, h.sw, h.hw, ⟨h.num.1, h.num.2.1, h.num.2.2.1, h.num.2.2.2.1, h.num.2.2.2.2.1, hp, h.num.2.2.2.2.2.2.1, hP⟩, h.ent, h.cmp⟩
theorem RW.rows (h : RW sb cb X C sent lay tk hd tl P MS) {u : Int} (hu : 1 ≤ u ∧ u ≤ 64) {r : List Int} (c : Int) (hc : 1 ≤ c) : rowAt (MS.set (u - 1).toNat r) c = if c = u then r else rowAt MS c := rowAt_set hu hc h.mem.len
/-- A completion is written. -/
theorem RW.wr (h : RW sb cb X C sent lay tk hd tl P MS) (hr : tl < hd + 2 ^ cb) (hP : tl < P) {tk' : Nat} : RW sb cb X C sent lay tk hd (tl + 1) P (MS.set ((6 : Int) - 1).toNat (rgRow (rgW sb cb C tk' tl P') MS (C tl))) := by
  have hn := h.num
  have hp := h.cbP
  have hpp := pw_pos cb
  obtain ⟨_, r2, r3⟩ := h.mem.at (u := 6) (by omega)
  have hx : (bytesX (C tl)).length = 16 := rfl
  have ho : (16 + (tl : Int) % ((2 ^ cb : Nat) : Int) * 16).toNat = 16 + 16 * (tl % 2 ^ cb) := by
    have : (tl : Int) % ((2 ^ cb : Nat) : Int) = ((tl % 2 ^ cb : Nat) : Int) := by rw [Int.natCast_emod]
    rw [this]; omega
  have hrow : rgRow (rgW sb cb C tk' tl P') MS (C tl) = putB (putB (rowAt MS 6) (16 + 16 * (tl % 2 ^ cb)) (bytesX (C tl))) 4 (le4 ((tl : Int) + 1)) := by
    unfold rgRow
    show putB (putB (rowAt MS 6) (16 + (tl : Int) % (2 : Int) ^ ((cb : Int)).toNat * 16).toNat (bytesX (C tl))) 4 (le4 (IntKind.u32.wrap ((tl : Int) + 1))) = _
    rw [p2n, ho, wrap32u_of (by omega)]
  have hm := Nat.mod_lt tl hpp
  have hin : 16 + 16 * (tl % 2 ^ cb) + (bytesX (C tl)).length ≤ (rowAt MS 6).length := by omega
  have hl1 : (putB (rowAt MS 6) (16 + 16 * (tl % 2 ^ cb)) (bytesX (C tl))).length = 512 := by rw [putB_len hin, r2]
  have hl4 : ((le4 ((tl : Int) + 1))).length = 4 := rfl
  have R := h.rows (u := 6) (by omega) (r := rgRow (rgW sb cb C tk' tl P') MS (C tl))
  have e5 := R 5 (by omega)
  rw [if_neg (by decide)] at e5
  have e6 := (R 6 (by omega)).trans (by rw [if_pos rfl, hrow])
  refine ⟨h.sz, h.mem.put ⟨by rw [hrow, putB_len (by omega), hl1], by rw [hrow]; exact putB_bytes (putB_bytes r3 (bytesX_bytes _)) (le4_bytes _)⟩, by rw [e5]; exact h.sw, ?_, ⟨hn.1, hn.2.1, hn.2.2.1, by omega, by omega, by omega, by omega, by omega⟩, fun j h1 h2 => by rw [e5]; exact h.ent j h1 h2, fun j h1 h2 => ?_⟩
  · rw [e6, ← h.hw]
    refine getN_of ?_
    rw [get_far (by omega) (.inl (by omega)), get_far hin (.inl (by omega))]
  · have hj := Nat.mod_lt j hpp
    rw [e6, get_far (by omega) (.inr (by omega))]
    by_cases hjt : j = tl
    · subst hjt
      have := get_same hin
      rw [hx] at this
      exact this
    · have hne := mod_ne (m := 2 ^ cb) (j := j) (t := tl) (by omega) (by omega)
      rw [get_far hin (by omega), h.cmp j h1 (by omega)]
/-- One is posted. -/
theorem RW.post (h : RW sb cb X C sent lay tk hd tl P MS) (hP : P < 1000000) : ∃ tl' MS', tl' = (if P = tl ∧ tl < hd + 2 ^ cb then tl + 1 else tl) ∧ RW sb cb X C sent lay tk hd tl' (P + 1) MS' ∧ postR (rgW sb cb C tk tl P) MS (C P) = rgW sb cb C tk tl' (P + 1) ∧ postM (rgW sb cb C tk tl P) MS (C P) = MS' := by
  have hn := h.num
  have hw := (h.far (tk' := tk) (P' := P)).2.2
  have he : (rgW sb cb C tk tl P).over.isEmpty = decide (P = tl) := by
    show ((List.range (P - tl)).map fun i => C (tl + i)).isEmpty = _
    by_cases e : P = tl
    · rw [e, Nat.sub_self, decide_eq_true rfl]; rfl
    · rw [decide_eq_false e]
      obtain ⟨k, hk⟩ : ∃ k, P - tl = k + 1 := ⟨P - tl - 1, by omega⟩
      rw [hk, List.range_succ_eq_map]; rfl
  unfold postR postM postOk
  rw [he, hw]
  by_cases hc : P = tl ∧ tl < hd + 2 ^ cb
  · rw [decide_eq_true hc.1, decide_eq_true hc.2]
    obtain ⟨rfl, hr⟩ := hc
    refine ⟨P + 1, _, by rw [if_pos ⟨rfl, hr⟩], (h.more (P' := P + 1) (by omega) (by omega)).wr hr (by omega) (tk' := tk) (P' := P), ?_, rfl⟩
    show ({ rgW sb cb C tk P P with tail := IntKind.u32.wrap ((P : Int) + 1) } : Rg) = _
    rw [wrap32u_of (by omega)]
    unfold rgW
    rw [Nat.sub_self, Nat.sub_self]; rfl
  · have hf : (decide (P = tl) && decide (tl < hd + 2 ^ cb)) = false := by
      rw [Bool.and_eq_false_iff, decide_eq_false_iff_not, decide_eq_false_iff_not]
      exact Decidable.not_and_iff_or_not.1 hc
    rw [hf]
    refine ⟨tl, MS, by rw [if_neg hc], h.more (by omega) (by omega), ?_, rfl⟩
    unfold rgW
    show (⟨_, _, _, _, _, _, ((List.range (P - tl)).map fun i => C (tl + i)) ++ [C P]⟩ : Rg) = _
    rw [show P + 1 - tl = (P - tl) + 1 by omega, List.range_succ, List.map_append, List.map_singleton, show tl + (P - tl) = P by omega]
/-- Those that wait are written, as long as there is room. -/
theorem RW.flushX : ∀ (n : Nat) {tl : Nat} {MS : List (List Int)} {r : Rg}, RW sb cb X C sent lay tk hd tl (tl + n) MS → r = { rgW sb cb C tk tl (tl + n) with over := r.over } → ∃ MS', RW sb cb X C sent lay tk hd (min (tl + n) (hd + 2 ^ cb)) (tl + n) MS' ∧ flushX r MS ((List.range n).map fun i => C (tl + i)) = (rgW sb cb C tk (min (tl + n) (hd + 2 ^ cb)) (tl + n), MS')
  | 0, tl, MS, r, h, hr => by
    have hn := h.num
    refine ⟨MS, ?_, ?_⟩
    · rw [show min (tl + 0) (hd + 2 ^ cb) = tl by omega]; exact h
    · rw [hr]
      show ({ rgW sb cb C tk tl (tl + 0) with over := [] }, MS) = _
      rw [show min (tl + 0) (hd + 2 ^ cb) = tl by omega]
      unfold rgW
      rw [show tl + 0 - tl = 0 by omega]; rfl
  | n + 1, tl, MS, r, h, hr => by
    have hn := h.num
    have hw := (h.far (tk' := tk) (P' := tl + (n + 1))).2.2
    have hw2 : rgWrOk r MS = decide (tl < hd + 2 ^ cb) := by rw [hr]; exact hw
    have hl : (List.range (n + 1)).map (fun i => C (tl + i)) = C tl :: (List.range n).map fun i => C (tl + 1 + i) := by
      rw [List.range_succ_eq_map, List.map_cons, List.map_map]
      congr 1
      refine List.map_congr_left fun i _ => ?_
      show C (tl + (i + 1)) = _
      rw [show tl + (i + 1) = tl + 1 + i by omega]
    rw [hl]
    unfold Go.Pse.flushX
    rw [hw2]
    by_cases hc : tl < hd + 2 ^ cb
    · rw [decide_eq_true hc, if_pos rfl]
      have h1 := h.wr hc (by omega) (tk' := tk) (P' := tl + (n + 1))
      rw [show tl + (n + 1) = tl + 1 + n by omega] at h1 ⊢
      obtain ⟨MS', g1, g2⟩ := RW.flushX n (r := rgUp r) h1 (by
        rw [hr]
        show ({ rgW sb cb C tk tl (tl + (n + 1)) with over := r.over, tail := IntKind.u32.wrap ((tl : Int) + 1) } : Rg) = _
        rw [wrap32u_of (by omega)]; rfl)
      refine ⟨MS', g1, ?_⟩
      rw [hr] at g2 ⊢
      exact g2
    · rw [decide_eq_false hc, if_neg (by decide)]
      refine ⟨MS, ?_, ?_⟩
      · rw [show min (tl + (n + 1)) (hd + 2 ^ cb) = tl by omega]; exact h
      · rw [hr, ← hl, show min (tl + (n + 1)) (hd + 2 ^ cb) = tl by omega]
        unfold rgW
        rw [show tl + (n + 1) - tl = n + 1 by omega]
theorem RW.flush (h : RW sb cb X C sent lay tk hd tl P MS) : ∃ MS', RW sb cb X C sent lay tk hd (min P (hd + 2 ^ cb)) P MS' ∧ flushR (rgW sb cb C tk tl P) MS = (rgW sb cb C tk (min P (hd + 2 ^ cb)) P, MS') := by
  obtain ⟨n, rfl⟩ : ∃ n, P = tl + n := ⟨P - tl, by have := h.num; omega⟩
  obtain ⟨MS', g1, g2⟩ := RW.flushX n (r := rgW sb cb C tk tl (tl + n)) h rfl
  refine ⟨MS', g1, ?_⟩
  unfold flushR
  rw [show (rgW sb cb C tk tl (tl + n)).over = (List.range n).map fun i => C (tl + i) by unfold rgW; dsimp only; rw [show tl + n - tl = n by omega]]
  exact g2
/-- A row of the ring's entries, changed where no entry stands. -/
theorem RW.put5 (h : RW sb cb X C sent lay tk hd tl P MS) {o : Nat} (ho : o + ys.length ≤ 512) (hy : Bytes ys) : MemOk (MS.set ((5 : Int) - 1).toNat (putB (rowAt MS 5) o ys)) ∧ rowAt (MS.set ((5 : Int) - 1).toNat (putB (rowAt MS 5) o ys)) 5 = putB (rowAt MS 5) o ys ∧ rowAt (MS.set ((5 : Int) - 1).toNat (putB (rowAt MS 5) o ys)) 6 = rowAt MS 6 ∧ (rowAt MS 5).length = 512 := by
  obtain ⟨_, r2, r3⟩ := h.mem.at (u := 5) (by omega)
  have R := h.rows (u := 5) (by omega) (r := putB (rowAt MS 5) o ys)
  have e5 := R 5 (by omega)
  rw [if_pos rfl] at e5
  have e6 := R 6 (by omega)
  rw [if_neg (by decide)] at e6
  exact ⟨h.mem.put ⟨by rw [putB_len (by omega), r2], putB_bytes r3 hy⟩, e5, e6, r2⟩
theorem RW.adv (h : RW sb cb X C sent lay tk hd tl P MS) (hk : tk + n ≤ sent) : RW sb cb X C sent lay (tk + n) hd tl P (advM (rgW sb cb C tk tl P) MS (n : Int)) ∧ advR (rgW sb cb C tk tl P) (n : Int) = rgW sb cb C (tk + n) tl P := by
  have hn := h.num
  have ea : advR (rgW sb cb C tk tl P) (n : Int) = rgW sb cb C (tk + n) tl P := by
    unfold advR rgW
    dsimp only
    rw [wrap32u_of (a := (n : Int)) (by omega), wrap32u_of (by omega)]
    congr 1
  refine ⟨?_, ea⟩
  unfold advM
  rw [ea]
  show RW sb cb X C sent lay (tk + n) hd tl P (MS.set ((5 : Int) - 1).toNat (putB (rowAt MS 5) 0 (le4 ((tk + n : Nat) : Int))))
  obtain ⟨g1, g2, g3, g4⟩ := h.put5 (o := 0) (ys := le4 ((tk + n : Nat) : Int)) (by show 0 + 4 ≤ 512; omega) (le4_bytes _)
  have hl : (le4 ((tk + n : Nat) : Int)).length = 4 := rfl
  refine ⟨h.sz, g1, ?_, by rw [g3]; exact h.hw, ⟨hk, by omega⟩, fun j h1 h2 => ?_, fun j h1 h2 => by rw [g3]; exact h.cmp j h1 h2⟩
  · rw [g2, ← h.sw]
    exact getN_of (get_far (by omega) (.inr (by omega)))
  · rw [g2, get_far (by omega) (.inr (by omega))]
    exact h.ent j (by omega) h2
/-- An entry is laid. -/
theorem RW.layE (h : RW sb cb X C sent lay tk hd tl P MS) (hr : lay < tk + 2 ^ sb) (hl : lay < 1000000) (hy : ys = X lay) (hy2 : ys.length = 32 ∧ Bytes ys) : RW sb cb X C sent (lay + 1) tk hd tl P (MS.set ((5 : Int) - 1).toNat (putB (rowAt MS 5) (16 + 32 * (lay % 2 ^ sb)) ys)) := by
  have hn := h.num
  have hp := h.sbP
  have hpp := pw_pos sb
  have hm := Nat.mod_lt lay hpp
  obtain ⟨g1, g2, g3, g4⟩ := h.put5 (o := 16 + 32 * (lay % 2 ^ sb)) (ys := ys) (by omega) hy2.2
  refine ⟨h.sz, g1, ?_, by rw [g3]; exact h.hw, ⟨hn.1, by omega⟩, fun j h1 h2 => ?_, fun j h1 h2 => by rw [g3]; exact h.cmp j h1 h2⟩
  · rw [g2, ← h.sw]
    exact getN_of (get_far (by omega) (.inl (by omega)))
  · rw [g2]
    have hj := Nat.mod_lt j hpp
    by_cases hjl : j = lay
    · subst hjl
      have := get_same (bs := rowAt MS 5) (ys := ys) (a := 16 + 32 * (j % 2 ^ sb)) (by omega)
      rw [hy2.1] at this
      rw [this, hy]
    · have hne := mod_ne (m := 2 ^ sb) (j := j) (t := lay) (by omega) (by omega)
      rw [get_far (by omega) (by omega), h.ent j h1 (by omega)]
/-- What is laid is told. -/
theorem RW.tell (h : RW sb cb X C sent lay tk hd tl P MS) (hk : tk ≤ n ∧ n ≤ lay) : RW sb cb X C n lay tk hd tl P (MS.set ((5 : Int) - 1).toNat (putB (rowAt MS 5) 4 (le4 (n : Int)))) := by
  have hn := h.num
  obtain ⟨g1, g2, g3, g4⟩ := h.put5 (o := 4) (ys := le4 (n : Int)) (by show 4 + 4 ≤ 512; omega) (le4_bytes _)
  have hl : (le4 (n : Int)).length = 4 := rfl
  refine ⟨h.sz, g1, by rw [g2, getN_put (by omega) (by omega)], by rw [g3]; exact h.hw, ⟨hk.1, hk.2, by omega⟩, fun j h1 h2 => ?_, fun j h1 h2 => by rw [g3]; exact h.cmp j h1 h2⟩
  rw [g2, get_far (by omega) (.inr (by omega))]
  exact h.ent j h1 h2
/-- Completions are read. -/
theorem RW.read (h : RW sb cb X C sent lay tk hd tl P MS) (hk : hd ≤ n ∧ n ≤ tl) : RW sb cb X C sent lay tk n tl P (MS.set ((6 : Int) - 1).toNat (putB (rowAt MS 6) 0 (le4 (n : Int)))) := by
  have hn := h.num
  obtain ⟨_, r2, r3⟩ := h.mem.at (u := 6) (by omega)
  have R := h.rows (u := 6) (by omega) (r := putB (rowAt MS 6) 0 (le4 (n : Int)))
  have e5 := R 5 (by omega)
  rw [if_neg (by decide)] at e5
  have e6 := R 6 (by omega)
  rw [if_pos rfl] at e6
  have hl : (le4 (n : Int)).length = 4 := rfl
  refine ⟨h.sz, h.mem.put ⟨by rw [putB_len (by omega), r2], putB_bytes r3 (le4_bytes _)⟩, by rw [e5]; exact h.sw, by rw [e6, getN_put (by omega) (by omega)], ⟨hn.1, hn.2.1, hn.2.2.1, by omega⟩, fun j h1 h2 => by rw [e5]; exact h.ent j h1 h2, fun j h1 h2 => ?_⟩
  rw [e6, get_far (by omega) (.inr (by omega))]
  exact h.cmp j (by omega) h2
end
/-! ### plain: entries are read as they were laid -/
structure SqeW (e : Sqe) : Prop where
  ck : checkE e = true
  tag : 0 ≤ e.tag ∧ e.tag < 4294967296
  cap : 0 ≤ e.cap ∧ e.cap < 4294967296
  a : 0 ≤ e.a ∧ e.a < 4294967296
  b : 0 ≤ e.b ∧ e.b < 4294967296
  c : 0 ≤ e.c ∧ e.c < 4294967296
  time : 0 ≤ e.time ∧ e.time < 4294967296
theorem raw_is {e : Sqe} (h : SqeW e) : (rawE e).length = 32 ∧ goodE (rawE e) = true ∧ entE (rawE e) = e := by
 obtain ⟨hc, h1, h2, h3, h4, h5, h6⟩ := h
 have hr : rawE e = bytesE e := if_pos hc
 have hb : readE (bytesE e) = e := by
  have hc2 := hc
  unfold checkE at hc2
  simp only [Bool.and_eq_true, decide_eq_true_eq] at hc2
  have h0 : e.op % 256 = e.op ∧ e.flags % 256 = e.flags := by omega
  obtain ⟨op, fl, tg, cp, a, b, c, tm⟩ := e
  simp only at *
  unfold readE bytesE
  simp [getN, byteAt, le4]
  omega
 have hg : goodE (bytesE e) = true := by
  unfold goodE
  rw [hb, hc]; rfl
 rw [hr]
 refine ⟨rfl, hg, ?_⟩
 unfold entE
 rw [hg, if_pos rfl, hb]
/-! ### plain: requests that hang on nobody -/
def rowL : Nat → List Sqe → List Rq
  | _, [] => []
  | k, e :: es => ⟨(4, 1 + (k : Int)), e, 0, false, false⟩ :: rowL (k + 1) es
theorem rowL_mem : ∀ {es : List Sqe} {k : Nat} {q : Rq}, q ∈ rowL k es → ∃ i e, es[i]? = some e ∧ q = ⟨(4, 1 + ((k + i : Nat) : Int)), e, 0, false, false⟩
  | [], _, _, h => by cases h
  | e :: es, k, q, h => by
    rcases List.mem_cons.1 h with rfl | h
    · exact ⟨0, e, rfl, by rw [Nat.add_zero]⟩
    · obtain ⟨i, x, h1, h2⟩ := rowL_mem h
      exact ⟨i + 1, x, h1, by rw [h2, show k + 1 + i = k + (i + 1) by omega]⟩
theorem rowL_len : ∀ (es : List Sqe) (k : Nat), (rowL k es).length = es.length
  | [], _ => rfl
  | e :: es, k => by rw [rowL, List.length_cons, rowL_len es, List.length_cons]
theorem rowL_row : ∀ (es : List Sqe) (k : Nat), Row (rowL k es)
  | [], _ => ⟨fun _ h => (by cases h), List.Pairwise.nil⟩
  | e :: es, k => ⟨fun q hq => by
      obtain ⟨i, x, _, rfl⟩ := rowL_mem hq
      rfl, List.pairwise_cons.2 ⟨fun q hq => by
      obtain ⟨i, x, _, rfl⟩ := rowL_mem hq
      show 1 + (k : Int) < 1 + ((k + 1 + i : Nat) : Int)
      omega, (rowL_row es (k + 1)).up⟩⟩
theorem Row.app {a b : List Rq} (ha : Row a) (hb : Row b) (h : ∀ x ∈ a, ∀ y ∈ b, x.id.2 < y.id.2) : Row (a ++ b) := ⟨fun q hq => by
  rcases List.mem_append.1 hq with hq | hq
  · exact ha.ring q hq
  · exact hb.ring q hq, List.pairwise_append.2 ⟨ha.up, hb.up, h⟩⟩
section
variable {dn rest : List Rq} {q : Rq}
theorem Row.behind (h : Row (dn ++ q :: rest)) : Row (q :: rest) := ⟨fun x hx => h.ring x (List.mem_append_right _ hx), (List.pairwise_append.1 h.up).2.1⟩
theorem Row.drop (h : Row (dn ++ q :: rest)) : Row (dn ++ rest) := ⟨fun x hx => by
  rcases List.mem_append.1 hx with hx | hx
  · exact h.ring x (List.mem_append_left _ hx)
  · exact h.ring x (List.mem_append_right _ (List.mem_cons_of_mem _ hx)), h.up.sublist (List.Sublist.append (List.Sublist.refl _) (List.sublist_cons_self _ _))⟩
theorem Row.ahead (h : Row (dn ++ q :: rest)) : ∀ x ∈ dn, x.id ≠ q.id := fun x hx e => by
  have := (List.pairwise_append.1 h.up).2.2 x hx q (List.mem_cons_self)
  rw [e] at this; omega
theorem Row.lookM : ∀ {dn : List Rq}, Row (dn ++ q :: rest) → look (pairsQ (dn ++ q :: rest)) q.id = some q
  | [], _ => pairs_look
  | x :: dn, h => by
    show look ((x.id, x) :: pairsQ (dn ++ q :: rest)) q.id = _
    rw [look_cons, if_neg (h.ahead x (List.mem_cons_self)), Row.lookM (dn := dn) (Row.tail h)]
theorem Row.delM : ∀ {dn : List Rq}, Row (dn ++ q :: rest) → Go.Pse.del (pairsQ (dn ++ q :: rest)) q.id = pairsQ (dn ++ rest)
  | [], h => h.del
  | x :: dn, h => by
    show List.filter (fun e => !decide (e.1 = q.id)) ((x.id, x) :: pairsQ (dn ++ q :: rest)) = (x.id, x) :: pairsQ (dn ++ rest)
    rw [List.filter_cons, if_pos (by simpa using h.ahead x (List.mem_cons_self))]
    congr 1
    exact Row.delM (dn := dn) (Row.tail h)
theorem Row.startM (h : Row (dn ++ q :: rest)) : rtS (pairsQ (dn ++ q :: rest)) q.id = pairsQ (dn ++ { q with started := true } :: rest) := by
 unfold rtS
 rw [h.lookM]
 show Go.Pse.ins (pairsQ (dn ++ q :: rest)) q.id { q with started := true } = _
 unfold Go.Pse.ins
 rw [if_pos (by rw [h.lookM]; rfl), pairs_app, pairs_app, List.map_append]
 have same : ∀ l : List Rq, (∀ x ∈ l, x.id ≠ q.id) → (pairsQ l).map (fun p => if p.1 = q.id then (q.id, { q with started := true }) else p) = pairsQ l := fun l hl => by
  conv => rhs; rw [← List.map_id (pairsQ l)]
  refine List.map_congr_left fun e he => ?_
  obtain ⟨x, hx, rfl⟩ := List.mem_map.1 he
  rw [if_neg (hl x hx)]; rfl
 rw [same dn h.ahead]
 congr 1
 show List.map _ ((q.id, q) :: pairsQ rest) = (q.id, { q with started := true }) :: pairsQ rest
 rw [List.map_cons, if_pos rfl, same rest h.behind.ne]
theorem Row.mark (h : Row (dn ++ q :: rest)) {q' : Rq} (hi : q'.id = q.id) : Row (dn ++ q' :: rest) := ⟨fun x hx => by
  rcases List.mem_append.1 hx with hx | hx
  · exact h.ring x (List.mem_append_left _ hx)
  · exact (h.behind.head hi).ring x hx, List.pairwise_append.2 ⟨(List.pairwise_append.1 h.up).1, (h.behind.head hi).up, fun x hx y hy => by
  rcases List.mem_cons.1 hy with rfl | hy
  · rw [hi]; exact (List.pairwise_append.1 h.up).2.2 x hx q (List.mem_cons_self)
  · exact (List.pairwise_append.1 h.up).2.2 x hx y (List.mem_cons_of_mem _ hy)⟩⟩
theorem nextF_skip {ps : List (ID × Rq)} {g : Int} {l : List Rq} : ∀ (dn : List Rq) (k : Nat), (∀ x ∈ dn, x.started = true) → nextF ps g k (dn ++ l) = nextF ps g (k + dn.length) l
  | [], _, _ => rfl
  | x :: dn, k, h => by
    rw [List.cons_append, nextF, if_neg (by unfold goQ; rw [h x (List.mem_cons_self)]; simp), nextF_skip dn (k + 1) (fun y hy => h y (List.mem_cons_of_mem _ hy)), List.length_cons, show k + 1 + dn.length = k + (dn.length + 1) by omega]
theorem Row.nextM (h : Row (dn ++ q :: rest)) (hd : ∀ x ∈ dn, x.started = true) (hs : q.started = false) (hp : q.prev = 0) (hf : q.e.flags = 0) : nextQ (pairsQ (dn ++ q :: rest)) 4 = some q.id := by
  unfold nextQ
  rw [h.of, nextF_skip _ _ hd, nextF, if_pos (by unfold goQ freeQ; rw [hs, hp, hf]; rfl)]; rfl
theorem Row.nextE (h : Row dn) (hd : ∀ x ∈ dn, x.started = true) : nextQ (pairsQ dn) 4 = none := by
  unfold nextQ
  have := nextF_skip (ps := pairsQ dn) (g := 4) (l := []) dn 0 hd
  rw [List.append_nil] at this
  rw [h.of, this]; rfl
theorem Row.noAfter (h : Row l) {i : ID} (hi : i.1 = 4) (h0 : ∀ x ∈ l, x.prev = 0) (h1 : i.2 ≠ 0) : afterQ (pairsQ l) i = none := by
  unfold afterQ
  rw [hi, h.of]
  exact List.find?_eq_none.2 fun x hx => by rw [h0 x hx]; simpa using fun e => h1 e.symm
end
/-- Nobody waits for a signal, for an answer; the ring 4 is somebody's. -/
structure Mute (s : KS) (T : Th) : Prop where
  nt : s.nt = []
  rp : ∀ x ∈ s.rp, x.2.2.2 = false
  ow : kOwner s 4 = some T
theorem Mute.at (h : Mute s T) {x : List Tm} {y : List (Int × Nat × List Msg × List Rcv)} {z : List (Int × Int)} : Mute { s with tm := x, ep := y, tk := z } T := ⟨h.nt, h.rp, h.ow⟩
theorem Mute.forget (h : Mute s T) (i : ID) : kForget (At s rs js RG MS) i = At { s with tm := tdrop s.tm i, ep := allO (epD i) s.ep } rs js RG MS := by
 have e : allO (rpD i) s.rp = s.rp := by
  unfold allO
  conv => rhs; rw [← List.map_id s.rp]
  refine List.map_congr_left fun x hx => ?_
  obtain ⟨u, b, c⟩ := x
  have := h.rp _ hx
  show (u, b, cDrop c i) = (u, b, c)
  unfold cDrop
  rw [if_neg (fun e => by simp only at this; rw [this] at e; cases e.1)]
 show ({ At s rs js RG MS with tm := tdrop s.tm i, ep := allO (epD i) s.ep, nt := allO (ntD i) s.nt, rp := allO (rpD i) s.rp } : KS) = _
 rw [h.nt, e]
 unfold At
 have h1 := h.nt
 cases s
 simp only at h1
 subst h1
 rfl
section
variable {sb cb : Nat} {X : Nat → List Int} {C : Nat → Cqe} {sent lay tk hd tl P b : Nat} {MS : List (List Int)} {s : KS} {T : Th}
theorem RW.said (h : RW sb cb X C sent lay tk hd tl P MS) (hP : P < 1000000) (hnt : s.nt = []) {D : KS → ID → Int → Int → KS} (hd4 : d.1.1 = 4) (hc : ofD d = C P) : ∃ tl' MS', tl' = (if P = tl ∧ tl < hd + 2 ^ cb then tl + 1 else tl) ∧ RW sb cb X C sent lay tk hd tl' (P + 1) MS' ∧ kTell D (At s rs js [(4, b, rgW sb cb C tk tl P)] MS) d = At s rs (js ++ [d]) [(4, b, rgW sb cb C tk tl' (P + 1))] MS' := by
  obtain ⟨tl', MS', h1, h2, h3, h4⟩ := h.post hP
  refine ⟨tl', MS', h1, h2, ?_⟩
  have hs : kSaid (At s rs js [(4, b, rgW sb cb C tk tl P)] MS) d = At s rs (js ++ [d]) [(4, b, rgW sb cb C tk tl' (P + 1))] MS' := by
    unfold kSaid
    rw [kPost_some (b := b) (r := rgW sb cb C tk tl P) (by rw [hd4]; rfl), hd4]
    show ({ At s rs (js ++ [d]) _ _ with rg := updO [(4, b, rgW sb cb C tk tl P)] 4 (fun r => postR r MS (ofD d)), mem := postM (rgW sb cb C tk tl P) MS (ofD d) } : KS) = _
    rw [hc, h4, show updO [((4 : Int), b, rgW sb cb C tk tl P)] 4 (fun r => postR r MS (C P)) = [(4, b, postR (rgW sb cb C tk tl P) MS (C P))] from rfl, h3]; rfl
  unfold kTell
  rw [hs, show look (KS.nt (At s rs (js ++ [d]) [(4, b, rgW sb cb C tk tl' (P + 1))] MS')) (kBell (At s rs (js ++ [d]) [(4, b, rgW sb cb C tk tl' (P + 1))] MS') d.1.1).1 = none from by rw [show KS.nt (At s rs (js ++ [d]) [(4, b, rgW sb cb C tk tl' (P + 1))] MS') = s.nt from rfl, hnt]; rfl]
variable {dn rest : List Rq}
/-- One of those that hang on nobody is decided. -/
theorem dec_M (hC : Mute s T) (h : Row (dn ++ q :: rest)) (h0 : ∀ x ∈ dn ++ rest, x.prev = 0) (hi : q.id.2 ≠ 0) (hR : RW sb cb X C sent lay tk hd tl P MS) (hP : P < 1000000) {r v : Int} (hc : ofD (q.id, q.e.tag, q.e.op, r, v, false) = C P) (n : Nat) : ∃ tl' MS', tl' = (if P = tl ∧ tl < hd + 2 ^ cb then tl + 1 else tl) ∧ RW sb cb X C sent lay tk hd tl' (P + 1) MS' ∧ kDec (n + 1) (At s (dn ++ q :: rest) js [(4, b, rgW sb cb C tk tl P)] MS) q.id r v = At { s with tm := tdrop s.tm q.id, ep := allO (epD q.id) s.ep } (dn ++ rest) (js ++ [(q.id, q.e.tag, q.e.op, r, v, false)]) [(4, b, rgW sb cb C tk tl' (P + 1))] MS' := by
  have h4 : q.id.1 = 4 := h.ring q (List.mem_append_right _ (List.mem_cons_self))
  obtain ⟨tl', MS', g1, g2, g3⟩ := hR.said (b := b) (s := { s with tm := tdrop s.tm q.id, ep := allO (epD q.id) s.ep }) hP hC.nt (D := kDec n) (rs := dn ++ rest) (js := js) (d := (q.id, q.e.tag, q.e.op, r, v, false)) h4 hc
  refine ⟨tl', MS', g1, g2, ?_⟩
  have hl : look (KS.rt (At s (dn ++ q :: rest) js [(4, b, rgW sb cb C tk tl P)] MS)) q.id = some q := h.lookM
  have hdel : { At s (dn ++ q :: rest) js [(4, b, rgW sb cb C tk tl P)] MS with rt := del (KS.rt (At s (dn ++ q :: rest) js [(4, b, rgW sb cb C tk tl P)] MS)) q.id } = At s (dn ++ rest) js [(4, b, rgW sb cb C tk tl P)] MS := by
    have : del (KS.rt (At s (dn ++ q :: rest) js [(4, b, rgW sb cb C tk tl P)] MS)) q.id = pairsQ (dn ++ rest) := h.delM
    rw [this]; rfl
  rw [kDec_some hl, hdel, hC.forget, g3]
  unfold kNext
  rw [show afterQ (KS.rt (At { s with tm := tdrop s.tm q.id, ep := allO (epD q.id) s.ep } (dn ++ rest) (js ++ [(q.id, q.e.tag, q.e.op, r, v, false)]) [(4, b, rgW sb cb C tk tl' (P + 1))] MS')) q.id = none from h.drop.noAfter h4 h0 hi]
end
variable {dn rest : List Rq}
/-- What begins, of those that hang on nobody. -/
theorem start_M (h : Row (dn ++ q :: rest)) (hs : q.started = false) {b : Nat} : kStart (At s (dn ++ q :: rest) js RG MS) q.id b = match (kAct (At s (dn ++ { q with started := true } :: rest) js RG MS) q.id b).2 with
    | none => ((kAct (At s (dn ++ { q with started := true } :: rest) js RG MS) q.id b).1, true)
    | some x => (kDec (kAct (At s (dn ++ { q with started := true } :: rest) js RG MS) q.id b).1.rt.length (kAct (At s (dn ++ { q with started := true } :: rest) js RG MS) q.id b).1 q.id x.1 x.2, true) := by
  have e : { At s (dn ++ q :: rest) js RG MS with rt := rtS (KS.rt (At s (dn ++ q :: rest) js RG MS)) q.id } = At s (dn ++ { q with started := true } :: rest) js RG MS := by
    have : rtS (KS.rt (At s (dn ++ q :: rest) js RG MS)) q.id = pairsQ (dn ++ { q with started := true } :: rest) := h.startM
    rw [this]; rfl
  have hl : look (KS.rt (At s (dn ++ q :: rest) js RG MS)) q.id = some q := h.lookM
  rw [kStart_is hl hs, e]
  cases (kAct (At s (dn ++ { q with started := true } :: rest) js RG MS) q.id b).2 <;> rfl
theorem act_M (hC : Mute s T) (h : Row (dn ++ q :: rest)) {b : Nat} : kAct (At s (dn ++ q :: rest) js RG MS) q.id b = kDoes (At s (dn ++ q :: rest) js RG MS) T q q.id b := by
  have h4 : q.id.1 = 4 := h.ring q (List.mem_append_right _ (List.mem_cons_self))
  have hl : look (KS.rt (At s (dn ++ q :: rest) js RG MS)) q.id = some q := h.lookM
  have ho : kOwner (At s (dn ++ q :: rest) js RG MS) q.id.1 = some T := by rw [h4]; exact hC.ow
  unfold kAct
  rw [hl]
  dsimp only
  rw [ho]
/-! ### plain: entries are taken -/
def pushT (now : Int) : Nat → List Sqe → List Tm → List Tm
  | _, [], xs => xs
  | k, e :: es, xs => pushT now (k + 1) es (match deadE e now with
    | none => xs
    | some d => hpush xs (d, (4, 1 + (k : Int))))
theorem take_L {s : KS} : ∀ (es : List Sqe) (p : Option Sqe) (k : Nat) (dn : List Rq) (xs : List Tm) {js : List Deed} {RG : List (Int × Nat × Rg)} {MS : List (List Int)}, (∀ e ∈ es, SqeW e ∧ e.flags = 0) → (∀ e, p = some e → e.flags = 0) → (∀ q ∈ dn, q.id.2 < 1 + (k : Int)) → dn.length + es.length ≤ 16 → takeF 4 1 p k (es.map rawE) (At { s with tm := xs } dn js RG MS) = At { s with tm := pushT s.now k es xs } (dn ++ rowL k es) js RG MS
  | [], _, _, dn, xs, js, RG, MS, _, _, _, _ => by
    show At { s with tm := xs } dn js RG MS = At { s with tm := xs } (dn ++ []) js RG MS
    rw [List.append_nil]
  | e :: es, p, k, dn, xs, js, RG, MS, he, hp, hd, hl => by
    rw [List.length_cons] at hl
    obtain ⟨h1, h2⟩ := he e (List.mem_cons_self)
    obtain ⟨_, h4, h5⟩ := raw_is h1
    have hq : reqP 4 1 p k e = ⟨(4, 1 + (k : Int)), e, 0, false, false⟩ := by
      unfold reqP
      cases p with
      | none => rfl
      | some d =>
        have := hp d rfl
        unfold prevP softP
        dsimp only
        rw [this]; rfl
    have hno : look (pairsQ dn) (4, 1 + (k : Int)) = none := pairs_none fun q hq e => by
      have := hd q hq
      rw [e] at this
      simp only at this
      omega
    have hadd : addQ (pairsQ dn) ⟨(4, 1 + (k : Int)), e, 0, false, false⟩ = pairsQ (dn ++ [⟨(4, 1 + (k : Int)), e, 0, false, false⟩]) := by
      have ho : addOk (pairsQ dn) ⟨(4, 1 + (k : Int)), e, 0, false, false⟩ = true := by
        unfold addOk
        rw [hno]
        have := ofQ_len (pairsQ dn) 4
        unfold pairsQ at this
        rw [List.length_map] at this
        show (!Option.isSome none && decide ((ofQ (pairsQ dn) 4).length < 16)) = true
        simp
        unfold pairsQ
        omega
      unfold addQ
      rw [if_pos ho, pairs_app]
      unfold Go.Pse.ins
      rw [hno]; rfl
    have hat : addT (At { s with tm := xs } dn js RG MS) (reqP 4 1 p k e) = At { s with tm := (match deadE e s.now with
      | none => xs
      | some d => hpush xs (d, (4, 1 + (k : Int)))) } (dn ++ [⟨(4, 1 + (k : Int)), e, 0, false, false⟩]) js RG MS := by
      rw [hq]
      unfold addT
      rw [show deadE ((⟨(4, 1 + (k : Int)), e, 0, false, false⟩ : Rq)).e (At { s with tm := xs } dn js RG MS).now = deadE e s.now from rfl]
      cases deadE e s.now with
      | none =>
        show ({ At { s with tm := xs } dn js RG MS with rt := addQ (pairsQ dn) _ } : KS) = _
        rw [hadd]; rfl
      | some d =>
        show ({ At { s with tm := xs } dn js RG MS with rt := addQ (pairsQ dn) _, tm := hpush xs _ } : KS) = _
        rw [hadd]; rfl
    rw [List.map_cons, takeF, if_pos h4, h5, hat, take_L es (some e) (k + 1) _ _ (fun x hx => he x (List.mem_cons_of_mem _ hx)) (fun x hx => by cases hx; exact h2) (fun q hq => by
      rcases List.mem_append.1 hq with hq | hq
      · have := hd q hq; omega
      · rw [List.mem_singleton.1 hq]; show 1 + (k : Int) < _; omega) (by rw [List.length_append, List.length_singleton]; omega), List.append_assoc]; rfl
/-! ### plain: a thread enters, by numbers -/
section
variable {sb cb : Nat} {X : Nat → List Int} {C : Nat → Cqe} {sent lay tk hd tl P b : Nat} {MS : List (List Int)} {s : KS} {T : Th} {rs : List Rq} {js : List Deed}
/-- What the ring's words say, ahead of all else. -/
theorem enter_W (hT : look s.th 2 = some T) (h4 : T.ring = 4) (h : RW sb cb X C sent lay tk hd tl P MS) (n : Int) : ∃ MS', RW sb cb X C sent lay tk hd (min P (hd + 2 ^ cb)) P MS' ∧ flushS (At s rs js [(4, b, rgW sb cb C tk tl P)] MS) 4 (rgW sb cb C tk tl P) = At s rs js [(4, b, rgW sb cb C tk (min P (hd + 2 ^ cb)) P)] MS' ∧ flushR (rgW sb cb C tk tl P) MS = (rgW sb cb C tk (min P (hd + 2 ^ cb)) P, MS') ∧ ∀ β, kEnter (At s rs js [(4, b, rgW sb cb C tk tl P)] MS) 2 n β = if 8 ≤ P - min P (hd + 2 ^ cb) then (At s rs js [(4, b, rgW sb cb C tk (min P (hd + 2 ^ cb)) P)] MS', -13) else kGoOn (At s rs js [(4, b, rgW sb cb C tk (min P (hd + 2 ^ cb)) P)] MS') 4 (clampB n) β := by
 obtain ⟨MS', g1, g2⟩ := h.flush
 have hf : flushS (At s rs js [(4, b, rgW sb cb C tk tl P)] MS) 4 (rgW sb cb C tk tl P) = At s rs js [(4, b, rgW sb cb C tk (min P (hd + 2 ^ cb)) P)] MS' := by
  show ({ At s rs js _ _ with rg := updO [(4, b, rgW sb cb C tk tl P)] 4 (fun r => (flushR r MS).1), mem := (flushR (rgW sb cb C tk tl P) MS).2 } : KS) = _
  rw [g2, show updO [((4 : Int), b, rgW sb cb C tk tl P)] 4 (fun r => (flushR r MS).1) = [(4, b, (flushR (rgW sb cb C tk tl P) MS).1)] from rfl, g2]; rfl
 refine ⟨MS', g1, hf, g2, fun β => ?_⟩
 have hl : look (KS.rg (At s rs js [(4, b, rgW sb cb C tk tl P)] MS)) T.ring = some (b, rgW sb cb C tk tl P) := by rw [h4]; rfl
 have hov : (rgW sb cb C tk (min P (hd + 2 ^ cb)) P).over.length = P - min P (hd + 2 ^ cb) := by unfold rgW; simp
 unfold kEnter
 rw [show look (KS.th (At s rs js [(4, b, rgW sb cb C tk tl P)] MS)) 2 = some T from hT]
 dsimp only
 rw [hl]
 dsimp only
 rw [show (At s rs js [(4, b, rgW sb cb C tk tl P)] MS).mem = MS from rfl, if_neg (by rw [h.valid]; decide), g2, h4, hf]
 dsimp only
 rw [hov]
/-- How many are taken. -/
theorem takeN_W (hr : Row rs) (h : RW sb cb X C sent lay tk hd tl P MS) (h16 : rs.length ≤ 16) (n : Int) : ∃ m : Nat, m = min (min (sent - tk) (clampB n).toNat) (16 - rs.length) ∧ takeN (At s rs js [(4, b, rgW sb cb C tk tl P)] MS) 4 (clampB n) (rgW sb cb C tk tl P) = (m : Int) := by
  refine ⟨_, rfl, ?_⟩
  have hc := clamp_in n
  unfold takeN
  rw [show (At s rs js [(4, b, rgW sb cb C tk tl P)] MS).mem = MS from rfl, h.wait, show ofQ (KS.rt (At s rs js [(4, b, rgW sb cb C tk tl P)] MS)) 4 = rs from hr.of]
  unfold minI maxI
  (repeat' split) <;> omega
/-- Entries that hang on nobody are taken. -/
theorem takeIn_W {ent : Nat → Sqe} (hr : Row rs) (hrk : ∀ q ∈ rs, q.id.2 < 1 + (tk : Int)) (h : RW sb cb (fun j => rawE (ent j)) C sent lay tk hd tl P MS) (htk : s.tk = [(4, (tk : Int))]) (h16 : rs.length ≤ 16) {n : Int} (hm : m = min (min (sent - tk) (clampB n).toNat) (16 - rs.length)) (he : ∀ j, tk ≤ j → j < tk + m → SqeW (ent j) ∧ (ent j).flags = 0) : ∃ MS', RW sb cb (fun j => rawE (ent j)) C sent lay (tk + m) hd tl P MS' ∧ kTakeIn (At s rs js [(4, b, rgW sb cb C tk tl P)] MS) 4 (clampB n) = (At { s with tm := pushT s.now tk ((List.range m).map fun i => ent (tk + i)) s.tm, tk := [(4, ((tk + m : Nat) : Int))] } (rs ++ rowL tk ((List.range m).map fun i => ent (tk + i))) js [(4, b, rgW sb cb C (tk + m) tl P)] MS', (m : Int)) := by
 have hn := h.num
 obtain ⟨m', hm1, hm2⟩ := takeN_W (s := s) (b := b) (js := js) hr h h16 n
 obtain rfl : m' = m := by rw [hm1, hm]
 obtain ⟨a1, a2⟩ := h.adv (n := m') (by omega)
 refine ⟨_, a1, ?_⟩
 have hraw : takeRaw (At s rs js [(4, b, rgW sb cb C tk tl P)] MS) (rgW sb cb C tk tl P) m' = ((List.range m').map fun i => ent (tk + i)).map rawE := by
  rw [h.raw rfl (by omega), List.map_map]; rfl
 have hkt : kTake (kAdv (At s rs js [(4, b, rgW sb cb C tk tl P)] MS) 4 (rgW sb cb C tk tl P) (m' : Int)) 4 (m' : Int) = At { s with tm := s.tm, tk := [(4, ((tk + m' : Nat) : Int))] } rs js [(4, b, rgW sb cb C (tk + m') tl P)] (advM (rgW sb cb C tk tl P) MS (m' : Int)) := by
  unfold kAdv
  rw [show updO (KS.rg (At s rs js [(4, b, rgW sb cb C tk tl P)] MS)) 4 (fun r => advR r (m' : Int)) = [(4, b, advR (rgW sb cb C tk tl P) (m' : Int))] from rfl, a2]
  unfold kTake At
  cases s
  simp only at htk
  subst htk
  simp [Go.Pse.look, Go.Pse.ins]
 have hkv : kTakeV (kAdv (At s rs js [(4, b, rgW sb cb C tk tl P)] MS) 4 (rgW sb cb C tk tl P) (m' : Int)) 4 (m' : Int) = 1 + (tk : Int) := by
  unfold kTakeV
  show (if (Go.Pse.look s.tk 4).isSome = true then (Go.Pse.look s.tk 4).getD 0 + 1 else 0) = _
  rw [htk]
  show (tk : Int) + 1 = _
  omega
 unfold kTakeIn
 rw [show Go.Pse.look (KS.rg (At s rs js [(4, b, rgW sb cb C tk tl P)] MS)) 4 = some (b, rgW sb cb C tk tl P) from rfl]
 dsimp only
 rw [show (At s rs js [(4, b, rgW sb cb C tk tl P)] MS).mem = MS from rfl, if_pos h.valid, hm2]
 unfold kTaken
 rw [Int.toNat_natCast, hkv, hkt, hraw, takeF_shift, Nat.add_zero]
 have := take_L (s := { s with tk := [(4, ((tk + m' : Nat) : Int))] }) ((List.range m').map fun i => ent (tk + i)) none tk rs s.tm (js := js) (RG := [(4, b, rgW sb cb C (tk + m') tl P)]) (MS := advM (rgW sb cb C tk tl P) MS (m' : Int)) (fun e h1 => by
  obtain ⟨i, hi, rfl⟩ := List.mem_map.1 h1
  rw [List.mem_range] at hi
  exact he _ (by omega) (by omega)) (fun e h => by cases h) hrk (by rw [List.length_map, List.length_range]; omega)
 rw [this]
variable {p : Sqe → Bool}
/-- Which entries stand where they are taken. -/
theorem ent_W {ent : Nat → Sqe} (hT : look s.th 2 = some T) (h4 : T.ring = 4) (hr : Row rs) (h : RW sb cb (fun j => rawE (ent j)) C sent lay tk hd tl P MS) (h16 : rs.length ≤ 16) {n : Int} (he : ∀ j, tk ≤ j → j < sent → SqeW (ent j) ∧ p (ent j) = true) : entOk p (At s rs js [(4, b, rgW sb cb C tk tl P)] MS) 2 n = true := by
 obtain ⟨MS', g1, g2, g3, _⟩ := enter_W (s := s) (b := b) (rs := rs) (js := js) hT h4 h n
 obtain ⟨m, hm1, hm2⟩ := takeN_W (s := s) (b := b) (js := js) hr g1 h16 n
 unfold entOk
 rw [show look (KS.th (At s rs js [(4, b, rgW sb cb C tk tl P)] MS)) 2 = some T from hT]
 dsimp only
 rw [show look (KS.rg (At s rs js [(4, b, rgW sb cb C tk tl P)] MS)) T.ring = some (b, rgW sb cb C tk tl P) from by rw [h4]; rfl]
 dsimp only
 rw [show (At s rs js [(4, b, rgW sb cb C tk tl P)] MS).mem = MS from rfl, h4, g2, g3, hm2, Int.toNat_natCast, g1.raw rfl (by have := g1.num; omega)]
 refine List.all_eq_true.2 fun x hx => ?_
 obtain ⟨k, hk, rfl⟩ := List.mem_map.1 hx
 rw [List.mem_range] at hk
 obtain ⟨e1, e2⟩ := he (tk + k) (by omega) (by omega)
 rw [(raw_is e1).2.2, e2, Bool.or_true]
end
/-! ### plain: entries that do nothing -/
def deedN (k : Nat) (e : Sqe) : Deed := ((4, 1 + (k : Int)), e.tag, e.op, 0, 0, false)
section
variable {sb cb : Nat} {X : Nat → List Int} {C : Nat → Cqe} {sent lay tk hd tl P b : Nat} {MS : List (List Int)} {s : KS} {T : Th}
theorem Quiet.mute (h : Quiet s T) : Mute s T := ⟨h.nt, h.rp, h.ow⟩
theorem Quiet.still (h : Quiet s T) (i : ID) : { s with tm := tdrop s.tm i, ep := allO (epD i) s.ep } = s := by
  obtain ⟨h1, h2, _, _, _⟩ := h
  cases s
  simp only at h1 h2
  subst h1; subst h2
  rfl
theorem run_nops (hQ : Quiet s T) {β : Nat → Nat} : ∀ (es : List Sqe) (k : Nat) {js : List Deed} {tl P : Nat} {MS : List (List Int)} {fuel j : Nat}, (∀ e ∈ es, e.op = 1 ∧ e.flags = 0) → (∀ i e, es[i]? = some e → ofD (deedN (k + i) e) = C (P + i)) → RW sb cb X C sent lay tk hd tl P MS → tl = min P (hd + 2 ^ cb) → P + es.length ≤ 1000000 → es.length ≤ fuel → ∃ js' MS', js'.length = js.length + es.length ∧ RW sb cb X C sent lay tk hd (min (P + es.length) (hd + 2 ^ cb)) (P + es.length) MS' ∧ kRunN 4 β fuel j (At s (rowL k es) js [(4, b, rgW sb cb C tk tl P)] MS) = (At s [] js' [(4, b, rgW sb cb C tk (min (P + es.length) (hd + 2 ^ cb)) (P + es.length))] MS', es.length)
 | [], k, js, tl, P, MS, fuel, j, _, _, hR, ht, _, _ => by
  refine ⟨js, MS, by simp, by rw [List.length_nil, Nat.add_zero, ← ht]; exact hR, ?_⟩
  rw [List.length_nil, Nat.add_zero, ← ht]
  exact run_nil Z _ _ _ _
 | e :: es, k, js, tl, P, MS, fuel, j, he, hC, hR, ht, hP, hf => by
  rw [List.length_cons] at hP hf ⊢
  obtain ⟨fuel, rfl⟩ : ∃ f, fuel = f + 1 := ⟨fuel - 1, by omega⟩
  obtain ⟨h1, h2⟩ := he e (List.mem_cons_self)
  have hrow : Row (([] : List Rq) ++ ⟨(4, 1 + (k : Int)), e, 0, false, false⟩ :: rowL (k + 1) es) := rowL_row (e :: es) k
  have hnx : nextQ (pairsQ (rowL k (e :: es))) 4 = some (4, 1 + (k : Int)) := hrow.nextM (fun x hx => by cases hx) rfl rfl h2
  have hst := start_M (s := s) hrow rfl (js := js) (RG := [(4, b, rgW sb cb C tk tl P)]) (MS := MS) (b := β j)
  have hrow2 : Row (([] : List Rq) ++ ⟨(4, 1 + (k : Int)), e, 0, false, true⟩ :: rowL (k + 1) es) := hrow.mark rfl
  have hact := act_M hQ.mute hrow2 (js := js) (RG := [(4, b, rgW sb cb C tk tl P)]) (MS := MS) (b := β j)
  have hdo : kDoes (At s (([] : List Rq) ++ ⟨(4, 1 + (k : Int)), e, 0, false, true⟩ :: rowL (k + 1) es) js [(4, b, rgW sb cb C tk tl P)] MS) T ⟨(4, 1 + (k : Int)), e, 0, false, true⟩ (4, 1 + (k : Int)) (β j) = (At s (([] : List Rq) ++ ⟨(4, 1 + (k : Int)), e, 0, false, true⟩ :: rowL (k + 1) es) js [(4, b, rgW sb cb C tk tl P)] MS, some (0, 0)) := by unfold kDoes; rw [if_pos h1]
  obtain ⟨tl', MS', g1, g2, g3⟩ := dec_M (b := b) hQ.mute hrow2 (fun x hx => by obtain ⟨i, y, _, rfl⟩ := rowL_mem (show x ∈ rowL (k + 1) es from hx); rfl) (by show (1 + (k : Int)) ≠ 0; omega) hR (by omega) (js := js) (r := 0) (v := 0) (hC 0 e rfl) (rowL (k + 1) es).length
  rw [hQ.still] at g3
  have hgo : (kStart (At s (rowL k (e :: es)) js [(4, b, rgW sb cb C tk tl P)] MS) (4, 1 + (k : Int)) (β j)).1 = At s (rowL (k + 1) es) (js ++ [deedN k e]) [(4, b, rgW sb cb C tk tl' (P + 1))] MS' := by
   refine (congrArg Prod.fst hst).trans ?_
   rw [hact, hdo]
   refine Eq.trans ?_ g3
   show kDec (pairsQ _).length _ _ _ _ = _
   unfold pairsQ
   rw [List.length_map]; rfl
  have ht2 : tl' = min (P + 1) (hd + 2 ^ cb) := by rw [g1, ht]; split <;> omega
  obtain ⟨js', MS2, k1, k2, k3⟩ := run_nops hQ (β := β) es (k + 1) (js := js ++ [deedN k e]) (fuel := fuel) (j := j + 1) (fun x hx => he x (List.mem_cons_of_mem _ hx)) (fun i x hx => by
   have := hC (i + 1) x hx
   rw [show k + (i + 1) = k + 1 + i by omega, show P + (i + 1) = P + 1 + i by omega] at this
   exact this) g2 ht2 (by omega) (by omega)
  rw [show P + 1 + es.length = P + (es.length + 1) by omega] at k2 k3
  refine ⟨js', MS2, by rw [k1, List.length_append, List.length_singleton]; omega, k2, ?_⟩
  unfold kRunN
  rw [show nextQ (KS.rt (At s (rowL k (e :: es)) js [(4, b, rgW sb cb C tk tl P)] MS)) 4 = some (4, 1 + (k : Int)) from hnx]
  dsimp only
  rw [hgo, k3]
/-- A state all of whose entries do nothing. -/
structure NS (sb cb b : Nat) (ent : Nat → Sqe) (C : Nat → Cqe) (sent lay tk hd tl : Nat) (S : KS) : Prop where
  ex : ∃ s js MS T, S = At s [] js [(4, b, rgW sb cb C tk tl tk)] MS ∧ look s.th 2 = some T ∧ T.ring = 4 ∧ Quiet s T ∧ s.tk = [(4, (tk : Int))] ∧ js.length = tk ∧ RW sb cb (fun j => rawE (ent j)) C sent lay tk hd tl tk MS
/-- .. is entered. -/
theorem NS.enter {ent : Nat → Sqe} {S : KS} (h : NS sb cb b ent C sent lay tk hd tl S) (he : ∀ j, tk ≤ j → j < sent → SqeW (ent j) ∧ (ent j).flags = 0 ∧ (ent j).time = 0 ∧ (ent j).op = 1 ∧ ofD (deedN j (ent j)) = C j) (n : Int) (β : Nat → Nat) : (8 ≤ tk - min tk (hd + 2 ^ cb) ∧ (kEnter S 2 n β).2 = -13 ∧ NS sb cb b ent C sent lay tk hd (min tk (hd + 2 ^ cb)) (kEnter S 2 n β).1) ∨ (tk - min tk (hd + 2 ^ cb) < 8 ∧ ∃ m, m = min (sent - tk) (clampB n).toNat ∧ (kEnter S 2 n β).2 = (m : Int) ∧ NS sb cb b ent C sent lay (tk + m) hd (min (tk + m) (hd + 2 ^ cb)) (kEnter S 2 n β).1) := by
  obtain ⟨s, js, MS, T, rfl, hT, h4, hQ, htk, hjs, hR⟩ := h.ex
  obtain ⟨MS1, g1, _, _, g2⟩ := enter_W (s := s) (b := b) (rs := []) (js := js) hT h4 hR n
  have hn := g1.num
  rw [g2]
  by_cases hb : 8 ≤ tk - min tk (hd + 2 ^ cb)
  · rw [if_pos hb]
    exact .inl ⟨hb, rfl, ⟨s, js, MS1, T, rfl, hT, h4, hQ, htk, hjs, g1⟩⟩
  · rw [if_neg hb]
    refine .inr ⟨by omega, _, rfl, ?_⟩
    have hsz := hR.sbP
    obtain ⟨m, hm⟩ : ∃ m, m = min (min (sent - tk) (clampB n).toNat) (16 - ([] : List Rq).length) := ⟨_, rfl⟩
    have hm2 : m = min (sent - tk) (clampB n).toNat := by rw [hm, List.length_nil]; omega
    obtain ⟨MS2, k1, k2⟩ := takeIn_W (b := b) (js := js) ⟨fun _ h => (by cases h), List.Pairwise.nil⟩ (fun _ h => (by cases h)) g1 htk (by simp) hm (fun j h1 h2 => ⟨(he j h1 (by omega)).1, (he j h1 (by omega)).2.1⟩)
    rw [← hm2]
    have hps : ∀ (es : List Sqe) (k : Nat) (now : Int) (xs : List Tm), (∀ e ∈ es, e.flags = 0 ∧ e.time = 0) → pushT now k es xs = xs := by
      intro es
      induction es with
      | nil => intros; rfl
      | cons e es ih =>
        intro k now xs h
        obtain ⟨h1, h2⟩ := h e (List.mem_cons_self)
        unfold pushT
        rw [show deadE e now = none from by unfold deadE; rw [h1, h2]; rfl]
        exact ih _ _ _ (fun x hx => h x (List.mem_cons_of_mem _ hx))
    have hent : ∀ e ∈ (List.range m).map fun i => ent (tk + i), ∃ j, tk ≤ j ∧ j < sent ∧ e = ent j := fun e h1 => by
      obtain ⟨i, hi, rfl⟩ := List.mem_map.1 h1
      rw [List.mem_range] at hi
      exact ⟨tk + i, by omega, by omega, rfl⟩
    have hlen : ((List.range m).map fun i => ent (tk + i)).length = m := by rw [List.length_map, List.length_range]
    have hQ2 : Quiet { s with tm := s.tm, tk := [(4, ((tk + m : Nat) : Int))] } T := ⟨hQ.tm, hQ.ep, hQ.nt, hQ.rp, hQ.ow⟩
    obtain ⟨js', MS3, q1, q2, q3⟩ := run_nops (b := b) hQ2 (β := β) ((List.range m).map fun i => ent (tk + i)) tk (js := js) (fuel := (clampB n).toNat) (j := 0) (fun e h1 => by
      obtain ⟨j, g1, g2, rfl⟩ := hent e h1
      have := he j g1 g2
      exact ⟨this.2.2.2.1, this.2.1⟩) (fun i e h1 => by
      rw [List.getElem?_map] at h1
      by_cases hi : i < m
      · rw [List.getElem?_range hi] at h1
        cases h1
        exact (he (tk + i) (by omega) (by omega)).2.2.2.2
      · rw [List.getElem?_eq_none (by simp; omega)] at h1
        cases h1) k1 rfl (by rw [hlen]; omega) (by rw [hlen]; omega)
    rw [hlen] at q1 q2 q3
    have hgo : kGoOn (At s [] js [(4, b, rgW sb cb C tk (min tk (hd + 2 ^ cb)) tk)] MS1) 4 (clampB n) β = (At { s with tk := [(4, ((tk + m : Nat) : Int))] } [] js' [(4, b, rgW sb cb C (tk + m) (min (tk + m) (hd + 2 ^ cb)) (tk + m))] MS3, (m : Int)) := by
      unfold kGoOn
      rw [k2, hps _ _ _ _ (fun e h1 => by
        obtain ⟨j, g1, g2, rfl⟩ := hent e h1
        have := he j g1 g2
        exact ⟨this.2.1, this.2.2.1⟩)]
      dsimp only
      rw [List.nil_append, q3]
    rw [hgo]
    exact ⟨rfl, { s with tk := [(4, ((tk + m : Nat) : Int))] }, js', MS3, T, rfl, hT, h4, ⟨hQ.tm, hQ.ep, hQ.nt, hQ.rp, hQ.ow⟩, rfl, by rw [q1, hjs], q2⟩
end
/-! ### plain: deadlines of those that wait, by their numbers -/
theorem srt_head {xs : List Tm} {x : Tm} (h : Srt (x :: xs)) : ∀ c ∈ xs, x.1 ≤ c.1 := fun c hc => by
  have := (List.pairwise_cons.1 h).1 c hc
  rw [ltT_iff] at this; omega
theorem due_mem {now : Int} {c : Tm} : ∀ {xs : List Tm}, Srt xs → (c ∈ due xs now ↔ c ∈ xs ∧ c.1 ≤ now) ∧ (c ∈ late xs now ↔ c ∈ xs ∧ now < c.1)
  | [], _ => by simp [due, late]
  | x :: r, h => by
    have ih := due_mem (now := now) (c := c) (List.pairwise_cons.1 h).2
    unfold due late at ih ⊢
    rw [List.takeWhile_cons, List.dropWhile_cons]
    by_cases hx : x.1 ≤ now
    · simp only [hx, decide_true, if_true, List.mem_cons]
      constructor
      · constructor
        · rintro (rfl | hc)
          · exact ⟨.inl rfl, hx⟩
          · exact ⟨.inr (ih.1.1 hc).1, (ih.1.1 hc).2⟩
        · rintro ⟨rfl | hc, h2⟩
          · exact .inl Z
          · exact .inr (ih.1.2 ⟨hc, h2⟩)
      · constructor
        · intro hc
          exact ⟨.inr (ih.2.1 hc).1, (ih.2.1 hc).2⟩
        · rintro ⟨rfl | hc, h2⟩
          · omega
          · exact ih.2.2 ⟨hc, h2⟩
    · simp only [hx, decide_false, Bool.false_eq_true, if_false]
      constructor
      · constructor
        · intro hc; cases hc
        · rintro ⟨hc, h2⟩
          rcases List.mem_cons.1 hc with rfl | hc
          · exact absurd h2 hx
          · have := srt_head h c hc; omega
      · constructor
        · intro hc
          refine ⟨hc, ?_⟩
          rcases List.mem_cons.1 hc with rfl | hc
          · omega
          · have := srt_head h c hc; omega
        · exact fun hc => hc.1
theorem mem_putT {xs : List Tm} {x c : Tm} : c ∈ putT xs x ↔ c = x ∨ c ∈ xs := by
  unfold putT
  rw [List.mem_append, List.mem_cons]
  constructor
  · rintro (h | h | h)
    · exact .inr (List.mem_of_mem_take h)
    · exact .inl h
    · exact .inr (List.mem_of_mem_drop h)
  · rintro (h | h)
    · exact .inr (.inl h)
    · rw [← List.take_append_drop (place xs x) xs, List.mem_append] at h
      exact h.elim .inl fun h => .inr (.inr h)
/-- Who waits for time: of n entries those whose deadline is behind tn. -/
structure TM (dl : Nat → Int) (n : Nat) (tn : Int) (xs : List Tm) : Prop where
  srt : Srt xs
  is : ∀ c ∈ xs, ∃ k, k < n ∧ c = (dl k, (4, 1 + (k : Int))) ∧ tn < dl k
  all : ∀ k, k < n → tn < dl k → (dl k, ((4 : Int), 1 + (k : Int))) ∈ xs
section
variable {dl : Nat → Int} {n : Nat} {tn : Int} {xs : List Tm}
theorem TM.push (h : TM dl n tn xs) (hd : tn < dl n) : TM dl (n + 1) tn (hpush xs (dl n, (4, 1 + (n : Int)))) := by
  have hno : hdrop xs ((4 : Int), 1 + (n : Int)) = xs := List.filter_eq_self.2 fun c hc => by
    obtain ⟨k, hk, rfl, _⟩ := h.is c hc
    simp [isTm]; omega
  refine ⟨h.srt.push _, fun c hc => ?_, fun k hk hd2 => ?_⟩
  · unfold hpush at hc
    rw [hno, mem_putT] at hc
    rcases hc with rfl | hc
    · exact ⟨n, by omega, rfl, hd⟩
    · obtain ⟨k, hk, h1, h2⟩ := h.is c hc
      exact ⟨k, by omega, h1, h2⟩
  · unfold hpush
    rw [hno, mem_putT]
    by_cases e : k = n
    · subst e; exact .inl rfl
    · exact .inr (h.all k (by omega) hd2)
theorem TM.pushT {now : Int} : ∀ (es : List Sqe) {n : Nat} {xs : List Tm}, TM dl n tn xs → (∀ i e, es[i]? = some e → deadE e now = some (dl (n + i)) ∧ tn < dl (n + i)) → TM dl (n + es.length) tn (pushT now n es xs)
  | [], _, _, h, _ => h
  | e :: es, n, xs, h, he => by
    obtain ⟨h1, h2⟩ := he 0 e rfl
    unfold Go.Pse.pushT
    rw [h1, List.length_cons, show n + (es.length + 1) = n + 1 + es.length by omega]
    exact TM.pushT es (h.push h2) fun i x hx => by
      have := he (i + 1) x hx
      rw [show n + (i + 1) = n + 1 + i by omega] at this
      exact this
theorem TM.later (h : TM dl n tn xs) {now : Int} (ht : tn ≤ now) : (∀ i ∈ (due xs now).map Prod.snd, ∃ k, k < n ∧ i = (4, 1 + (k : Int)) ∧ dl k ≤ now) ∧ (∀ k, k < n → tn < dl k → dl k ≤ now → ((4 : Int), 1 + (k : Int)) ∈ (due xs now).map Prod.snd) ∧ TM dl n now (late xs now) := by
  refine ⟨fun i hi => ?_, fun k hk h1 h2 => ?_, List.Pairwise.sublist (List.dropWhile_sublist _) h.srt, fun c hc => ?_, fun k hk h1 => ?_⟩
  · obtain ⟨c, hc, rfl⟩ := List.mem_map.1 hi
    obtain ⟨h3, h4⟩ := (due_mem h.srt).1.1 hc
    obtain ⟨k, hk, rfl, _⟩ := h.is c h3
    exact ⟨k, hk, rfl, h4⟩
  · exact List.mem_map.2 ⟨_, (due_mem h.srt).1.2 ⟨h.all k hk h1, h2⟩, rfl⟩
  · obtain ⟨h3, h4⟩ := (due_mem h.srt).2.1 hc
    obtain ⟨k, hk, rfl, _⟩ := h.is c h3
    exact ⟨k, hk, rfl, h4⟩
  · exact (due_mem h.srt).2.2 ⟨h.all k hk (by omega), h1⟩
theorem TM.drop (h : TM dl n tn xs) (hk : dl k ≤ tn) : TM dl n tn (tdrop xs (4, 1 + (k : Int))) := by
  have hno : tdrop xs ((4 : Int), 1 + (k : Int)) = xs := List.filter_eq_self.2 fun c hc => by
    obtain ⟨j, hj, rfl, h2⟩ := h.is c hc
    have : j ≠ k := fun e => by subst e; omega
    simp [isTm]; omega
  rw [hno]; exact h
end
/-! ### plain: those that wait begin -/
def onQ (q : Rq) : Rq := { q with started := true }
def rowS (k : Nat) (es : List Sqe) : List Rq := (rowL k es).map onQ
theorem rowS_mem {es : List Sqe} (h : q ∈ rowS k es) : ∃ i e, es[i]? = some e ∧ q = ⟨(4, 1 + ((k + i : Nat) : Int)), e, 0, false, true⟩ := by
  obtain ⟨x, hx, rfl⟩ := List.mem_map.1 h
  obtain ⟨i, e, h1, rfl⟩ := rowL_mem hx
  exact ⟨i, e, h1, rfl⟩
theorem rowS_at : ∀ {es : List Sqe} {k i : Nat} {e : Sqe}, es[i]? = some e → (⟨(4, 1 + ((k + i : Nat) : Int)), e, 0, false, true⟩ : Rq) ∈ rowS k es
  | [], _, _, _, h => by cases h
  | x :: es, k, 0, e, h => by cases h; exact List.mem_cons_self
  | x :: es, k, i + 1, e, h => by
    rw [show k + (i + 1) = k + 1 + i by omega]
    exact List.mem_cons_of_mem _ (rowS_at (es := es) h)
abbrev EpL := List (Int × Nat × List Msg × List Rcv)
theorem run_waits {s : KS} {T : Th} (hC : Mute s T) {js : List Deed} {RG : List (Int × Nat × Rg)} {MS : List (List Int)} {β : Nat → Nat} (Iy : Nat → EpL → Prop) (st : ID → Sqe → EpL → EpL) : ∀ (es : List Sqe) (k : Nat) (dn : List Rq) (y : EpL) (fuel j : Nat), Row (dn ++ rowL k es) → (∀ x ∈ dn, x.started = true) → (∀ e ∈ es, e.flags = 0) → (∀ i e, es[i]? = some e → ∀ y, Iy (k + i) y → Iy (k + i + 1) (st (4, 1 + ((k + i : Nat) : Int)) e y) ∧ ∀ rows b, kDoes (At { s with ep := y } rows js RG MS) T ⟨(4, 1 + ((k + i : Nat) : Int)), e, 0, false, true⟩ (4, 1 + ((k + i : Nat) : Int)) b = (At { s with ep := st (4, 1 + ((k + i : Nat) : Int)) e y } rows js RG MS, none)) → es.length ≤ fuel → Iy k y → ∃ y', Iy (k + es.length) y' ∧ kRunN 4 β fuel j (At { s with ep := y } (dn ++ rowL k es) js RG MS) = (At { s with ep := y' } (dn ++ rowS k es) js RG MS, es.length)
  | [], k, dn, y, fuel, j, hr, hd, _, _, _, hy => by
    refine ⟨y, hy, ?_⟩
    have hn : nextQ (pairsQ (dn ++ rowL k [])) 4 = none := hr.nextE (fun x hx => by
      rw [show dn ++ rowL k [] = dn from List.append_nil _] at hx
      exact hd x hx)
    cases fuel with
    | zero => rfl
    | succ f =>
      unfold kRunN
      rw [show nextQ (KS.rt (At { s with ep := y } (dn ++ rowL k []) js RG MS)) 4 = none from hn]; rfl
  | e :: es, k, dn, y, fuel, j, hr, hd, hf, hW, hfu, hy => by
    rw [List.length_cons] at hfu ⊢
    obtain ⟨fuel, rfl⟩ : ∃ f, fuel = f + 1 := ⟨fuel - 1, by omega⟩
    obtain ⟨w1, w2⟩ := hW 0 e rfl y hy
    rw [Nat.add_zero] at w1 w2
    have hr0 : Row (dn ++ ⟨(4, 1 + (k : Int)), e, 0, false, false⟩ :: rowL (k + 1) es) := hr
    have hr1 : Row (dn ++ ⟨(4, 1 + (k : Int)), e, 0, false, true⟩ :: rowL (k + 1) es) := hr0.mark rfl
    have hnx : nextQ (pairsQ (dn ++ rowL k (e :: es))) 4 = some (4, 1 + (k : Int)) := hr0.nextM hd rfl rfl (hf e (List.mem_cons_self))
    have hst := start_M (s := { s with ep := y }) hr0 rfl (js := js) (RG := RG) (MS := MS) (b := β j)
    have hact := act_M (s := { s with ep := y }) (T := T) ⟨hC.nt, hC.rp, hC.ow⟩ hr1 (js := js) (RG := RG) (MS := MS) (b := β j)
    have hgo : (kStart (At { s with ep := y } (dn ++ rowL k (e :: es)) js RG MS) (4, 1 + (k : Int)) (β j)).1 = At { s with ep := st (4, 1 + (k : Int)) e y } ((dn ++ [⟨(4, 1 + (k : Int)), e, 0, false, true⟩]) ++ rowL (k + 1) es) js RG MS := by
      refine (congrArg Prod.fst hst).trans ?_
      rw [hact, w2, List.append_assoc]; rfl
    obtain ⟨y', k1, k2⟩ := run_waits hC (β := β) Iy st es (k + 1) (dn ++ [⟨(4, 1 + (k : Int)), e, 0, false, true⟩]) (st (4, 1 + (k : Int)) e y) fuel (j + 1) (by rw [List.append_assoc]; exact hr1) (fun x hx => by
      rcases List.mem_append.1 hx with hx | hx
      · exact hd x hx
      · rw [List.mem_singleton.1 hx]) (fun x hx => hf x (List.mem_cons_of_mem _ hx)) (fun i x hx => by
      have := hW (i + 1) x hx
      rw [show k + (i + 1) = k + 1 + i by omega] at this
      exact this) (by omega) w1
    refine ⟨y', by rw [show k + (es.length + 1) = k + 1 + es.length by omega]; exact k1, ?_⟩
    unfold kRunN
    rw [show nextQ (KS.rt (At { s with ep := y } (dn ++ rowL k (e :: es)) js RG MS)) 4 = some (4, 1 + (k : Int)) from hnx]
    dsimp only
    rw [hgo, k2, List.append_assoc]; rfl
/-! ### plain: a ring of which all that is there waits -/
def resW (e : Sqe) : Int := if e.op = 19 then 0 else -10
/-- n: taken; D: decided; tn: the last time at which it was looked who is due; now: the time. -/
structure WI (sb cb b : Nat) (ent : Nat → Sqe) (dl : Nat → Int) (E0 : List (Int × Nat)) (sent lay hd n : Nat) (tn now : Int) (D : Nat → Prop) (S : KS) : Prop where
  ex : ∃ s rs js C tl MS T, S = At s rs js [(4, b, rgW sb cb C n tl js.length)] MS ∧ look s.th 2 = some T ∧ T.ring = 4 ∧ Mute s T ∧ s.tk = [(4, (n : Int))] ∧ s.now = now ∧ RW sb cb (fun j => rawE (ent j)) C sent lay n hd tl js.length MS ∧ TM dl n tn s.tm ∧ Row rs ∧ (∀ q ∈ rs, ∃ k, k < n ∧ ¬ D k ∧ q = ⟨(4, 1 + (k : Int)), ent k, 0, false, true⟩) ∧ (∀ k, k < n → ¬ D k → (⟨(4, 1 + (k : Int)), ent k, 0, false, true⟩ : Rq) ∈ rs) ∧ (∀ d ∈ js, ∃ k, k < n ∧ D k ∧ d.1 = (4, 1 + (k : Int)) ∧ d.2.2.2.1 = resW (ent k)) ∧ (∀ k, k < n → D k → ∃ d ∈ js, d.1 = (4, 1 + (k : Int))) ∧ js.length + rs.length = n ∧ s.ep.map (fun x => (x.1, x.2.1)) = E0 ∧ (∀ x ∈ s.ep, x.2.2.1 = [] ∧ ∀ y ∈ x.2.2.2, ∃ k, k < n ∧ ¬ D k ∧ y.1 = (4, 1 + (k : Int)))
/-- The completions named anew, behind those that are posted. -/
theorem RW.other {sb cb : Nat} {X : Nat → List Int} {C C' : Nat → Cqe} {sent lay tk hd tl P : Nat} (h : RW sb cb X C sent lay tk hd tl P MS) (hc : ∀ j, j < P → C' j = C j) : RW sb cb X C' sent lay tk hd tl P MS ∧ rgW sb cb C' tk tl P = rgW sb cb C tk tl P := by
  have hn := h.num
  refine ⟨⟨h.sz, h.mem, h.sw, h.hw, h.num, h.ent, fun j h1 h2 => by rw [hc j (by omega)]; exact h.cmp j h1 h2⟩, ?_⟩
  unfold rgW
  congr 1
  refine List.map_congr_left fun i hi => hc _ ?_
  have := List.mem_range.1 hi
  omega
section
variable {sb cb b : Nat} {ent : Nat → Sqe} {dl : Nat → Int} {E0 : List (Int × Nat)} {sent lay hd n : Nat} {tn now : Int} {D : Nat → Prop} {S : KS}
theorem WI.iff (h : WI sb cb b ent dl E0 sent lay hd n tn now D S) {D' : Nat → Prop} (hD : ∀ k, k < n → (D k ↔ D' k)) : WI sb cb b ent dl E0 sent lay hd n tn now D' S := by
  obtain ⟨s, rs, js, C, tl, MS, T, h0, hT, h4, hC, htk, hnow, hR, hM, hrow, h1, h2, h3, h5, h6, h7, h8⟩ := h.ex
  exact ⟨s, rs, js, C, tl, MS, T, h0, hT, h4, hC, htk, hnow, hR, hM, hrow, fun q hq => by obtain ⟨k, a, c, d⟩ := h1 q hq; exact ⟨k, a, fun e => c ((hD k a).2 e), d⟩, fun k a c => h2 k a fun e => c ((hD k a).1 e), fun d hd => by obtain ⟨k, a, c, e⟩ := h3 d hd; exact ⟨k, a, (hD k a).1 c, e⟩, fun k a c => h5 k a ((hD k a).2 c), h6, h7, fun x hx => ⟨(h8 x hx).1, fun y hy => by obtain ⟨k, a, c, d⟩ := (h8 x hx).2 y hy; exact ⟨k, a, fun e => c ((hD k a).2 e), d⟩⟩⟩
/-- One of those that wait is decided, for its time has come. -/
theorem WI.one (h : WI sb cb b ent dl E0 sent lay hd n tn now D S) (hn : n ≤ 900000) (hk : k < n) (hd0 : dl k ≤ tn) : WI sb cb b ent dl E0 sent lay hd n tn now (fun j => D j ∨ j = k) (kExpL [(4, 1 + (k : Int))] S).1 ∧ (kExpL [(4, 1 + (k : Int))] S).2 + S.jn.length = (kExpL [(4, 1 + (k : Int))] S).1.jn.length := by
  obtain ⟨s, rs, js, C, tl, MS, T, rfl, hT, h4, hC, htk, hnow, hR, hM, hrow, h1, h2, h3, h5, h6, h7, h8⟩ := id h.ex
  by_cases hD : D k
  · have hno : look (pairsQ rs) ((4 : Int), 1 + (k : Int)) = none := pairs_none fun q hq e => by
      obtain ⟨j, _, hj, rfl⟩ := h1 q hq
      have := congrArg Prod.snd e
      simp only at this
      exact hj (by rw [show j = k by omega]; exact hD)
    have e : kExpL [((4 : Int), 1 + (k : Int))] (At s rs js [(4, b, rgW sb cb C n tl js.length)] MS) = (At s rs js [(4, b, rgW sb cb C n tl js.length)] MS, 0) := by
      unfold kExpL
      rw [show look (KS.rt (At s rs js [(4, b, rgW sb cb C n tl js.length)] MS)) ((4 : Int), 1 + (k : Int)) = none from hno]; rfl
    rw [e]
    exact ⟨h.iff fun j _ => ⟨.inl, fun hh => hh.elim id fun e => by rw [e]; exact hD⟩, Nat.zero_add _⟩
  · have hm := h2 k hk hD
    obtain ⟨dn, rest, rfl⟩ := List.append_of_mem hm
    obtain ⟨C', hC'⟩ : ∃ C' : Nat → Cqe, C' = fun j => if j = js.length then ofD ((4, 1 + (k : Int)), (ent k).tag, (ent k).op, resW (ent k), 0, false) else C j := ⟨_, rfl⟩
    obtain ⟨hR2, hg2⟩ := hR.other (C' := C') (fun j hj => by rw [hC']; exact if_neg (by omega))
    have hlen : js.length + (dn ++ rest).length + 1 = n := by rw [List.length_append] at h6 ⊢; rw [List.length_cons] at h6; omega
    obtain ⟨tl', MS', g1, g2, g3⟩ := dec_M (b := b) hC hrow (fun x hx => by
      obtain ⟨j, _, _, rfl⟩ := h1 x (by rcases List.mem_append.1 hx with hx | hx; exact List.mem_append_left _ hx; exact List.mem_append_right _ (List.mem_cons_of_mem _ hx))
      rfl) (by show (1 + (k : Int)) ≠ 0; omega) hR2 (by omega) (js := js) (r := resW (ent k)) (v := 0) (by rw [hC']; exact (if_pos rfl).symm) (dn ++ rest).length
    rw [hg2] at g3
    have hl : look (KS.rt (At s (dn ++ ⟨(4, 1 + (k : Int)), ent k, 0, false, true⟩ :: rest) js [(4, b, rgW sb cb C n tl js.length)] MS)) ((4 : Int), 1 + (k : Int)) = some ⟨(4, 1 + (k : Int)), ent k, 0, false, true⟩ := hrow.lookM
    have hlr : (KS.rt (At s (dn ++ ⟨(4, 1 + (k : Int)), ent k, 0, false, true⟩ :: rest) js [(4, b, rgW sb cb C n tl js.length)] MS)).length = (dn ++ rest).length + 1 := by
      show (pairsQ _).length = _
      unfold pairsQ
      rw [List.length_map, List.length_append, List.length_append, List.length_cons]; omega
    have e : kExpL [((4 : Int), 1 + (k : Int))] (At s (dn ++ ⟨(4, 1 + (k : Int)), ent k, 0, false, true⟩ :: rest) js [(4, b, rgW sb cb C n tl js.length)] MS) = (At { s with tm := tdrop s.tm (4, 1 + (k : Int)), ep := allO (epD (4, 1 + (k : Int))) s.ep } (dn ++ rest) (js ++ [((4, 1 + (k : Int)), (ent k).tag, (ent k).op, resW (ent k), 0, false)]) [(4, b, rgW sb cb C' n tl' (js.length + 1))] MS', 1) := by
      unfold kExpL
      rw [hl]
      dsimp only
      rw [hlr]
      show (kDec _ _ _ (resW (ent k)) 0, 1) = _
      rw [g3]
    rw [e]
    have hne : ∀ x ∈ dn ++ rest, x.id ≠ (4, 1 + (k : Int)) := fun x hx => by
      rcases List.mem_append.1 hx with hx | hx
      · exact hrow.ahead x hx
      · exact hrow.behind.ne x hx
    have hin : ∀ x ∈ dn ++ rest, x ∈ dn ++ ⟨(4, 1 + (k : Int)), ent k, 0, false, true⟩ :: rest := fun x hx => by
      rcases List.mem_append.1 hx with hx | hx
      · exact List.mem_append_left _ hx
      · exact List.mem_append_right _ (List.mem_cons_of_mem _ hx)
    have hjl : (js ++ [(((4 : Int), 1 + (k : Int)), (ent k).tag, (ent k).op, resW (ent k), (0 : Int), false)]).length = js.length + 1 := by rw [List.length_append, List.length_singleton]
    refine ⟨⟨{ s with tm := tdrop s.tm (4, 1 + (k : Int)), ep := allO (epD (4, 1 + (k : Int))) s.ep }, dn ++ rest, _, C', tl', MS', T, by rw [hjl], hT, h4, ⟨hC.nt, hC.rp, hC.ow⟩, htk, hnow, by rw [hjl]; exact g2, hM.drop hd0, hrow.drop, fun q hq => ?_, fun j hj hj2 => ?_, fun d hd => ?_, fun j hj hj2 => ?_, by rw [hjl]; omega, ?_, fun x hx => ?_⟩, ?_⟩
    · obtain ⟨j, a, c, rfl⟩ := h1 q (hin q hq)
      exact ⟨j, a, fun e => e.elim c fun e => hne _ hq (by rw [e]), rfl⟩
    · have := h2 j hj (fun e => hj2 (.inl e))
      rcases List.mem_append.1 this with hx | hx
      · exact List.mem_append_left _ hx
      · rcases List.mem_cons.1 hx with hx | hx
        · exact absurd (.inr (by have := congrArg (fun q : Rq => q.id.2) hx; simp only at this; omega)) hj2
        · exact List.mem_append_right _ hx
    · rcases List.mem_append.1 hd with hd | hd
      · obtain ⟨j, a, c, e⟩ := h3 d hd
        exact ⟨j, a, .inl c, e⟩
      · rw [List.mem_singleton.1 hd]
        exact ⟨k, hk, .inr rfl, rfl, rfl⟩
    · rcases hj2 with c | rfl
      · obtain ⟨d, a, e⟩ := h5 j hj c
        exact ⟨d, List.mem_append_left _ a, e⟩
      · exact ⟨_, List.mem_append_right _ (List.mem_singleton.2 rfl), rfl⟩
    · rw [← h7]
      show (allO (epD (4, 1 + (k : Int))) s.ep).map _ = _
      unfold allO
      rw [List.map_map]; rfl
    · obtain ⟨x0, hx0, rfl⟩ := List.mem_map.1 (show x ∈ s.ep.map fun x => (x.1, x.2.1, epD (4, 1 + (k : Int)) x.2.2) from hx)
      obtain ⟨e1, e2⟩ := h8 x0 hx0
      refine ⟨by show mdrop x0.2.2.1 _ = []; rw [e1]; rfl, fun y hy => ?_⟩
      obtain ⟨hy1, hy2⟩ := List.mem_filter.1 (show y ∈ rdrop x0.2.2.2 (4, 1 + (k : Int)) from hy)
      obtain ⟨j, a, c, ey⟩ := e2 y hy1
      refine ⟨j, a, fun h => h.elim c fun hjk => ?_, ey⟩
      rw [isR_eq, ey, hjk, decide_eq_true rfl] at hy2
      cases hy2
    · show 1 + js.length = _
      rw [show KS.jn (At { s with tm := tdrop s.tm (4, 1 + (k : Int)), ep := allO (epD (4, 1 + (k : Int))) s.ep } (dn ++ rest) (js ++ [((4, 1 + (k : Int)), (ent k).tag, (ent k).op, resW (ent k), 0, false)]) [(4, b, rgW sb cb C' n tl' (js.length + 1))] MS') = js ++ [((4, 1 + (k : Int)), (ent k).tag, (ent k).op, resW (ent k), 0, false)] from rfl, hjl]; omega
theorem kExpL_cons (i : ID) (l : List ID) (s : KS) : kExpL (i :: l) s = ((kExpL l (kExpL [i] s).1).1, (kExpL l (kExpL [i] s).1).2 + (kExpL [i] s).2) := by
  have e : kExpL [i] s = match look s.rt i with
    | none => (s, 0)
    | some q => (kDec s.rt.length s i (if q.e.op = 19 then 0 else -10) 0, 1) := by
    unfold kExpL
    cases look s.rt i <;> rfl
  rw [e]
  conv => lhs; unfold kExpL
  cases look s.rt i <;> rfl
theorem WI.many (hn : n ≤ 900000) : ∀ (ids : List ID) {D : Nat → Prop} {S : KS}, WI sb cb b ent dl E0 sent lay hd n tn now D S → (∀ i ∈ ids, ∃ k, k < n ∧ i = (4, 1 + (k : Int)) ∧ dl k ≤ tn) → WI sb cb b ent dl E0 sent lay hd n tn now (fun j => D j ∨ ((4 : Int), 1 + (j : Int)) ∈ ids) (kExpL ids S).1 ∧ (kExpL ids S).2 + S.jn.length = (kExpL ids S).1.jn.length
  | [], D, S, h, _ => ⟨h.iff fun j _ => by simp, Nat.zero_add _⟩
  | i :: ids, D, S, h, hi => by
    obtain ⟨k, hk, rfl, hd0⟩ := hi i (List.mem_cons_self)
    obtain ⟨g1, g2⟩ := h.one hn hk hd0
    obtain ⟨k1, k2⟩ := WI.many hn ids g1 fun x hx => hi x (List.mem_cons_of_mem _ hx)
    rw [kExpL_cons]
    refine ⟨k1.iff fun j hj => ?_, by dsimp only; omega⟩
    rw [List.mem_cons, or_assoc]
    have : j = k ↔ ((4 : Int), 1 + (j : Int)) = (4, 1 + (k : Int)) := by
      rw [Prod.mk.injEq]; omega
    rw [this]
/-- Time has come. -/
theorem WI.expire (h : WI sb cb b ent dl E0 sent lay hd n tn now D S) (hn : n ≤ 900000) (ht : tn ≤ now) (hD : ∀ k, k < n → (D k ↔ dl k ≤ tn)) : WI sb cb b ent dl E0 sent lay hd n now now (fun k => dl k ≤ now) (kExpire S).1 ∧ (kExpire S).2 + S.jn.length = (kExpire S).1.jn.length := by
  obtain ⟨s, rs, js, C, tl, MS, T, rfl, hT, h4, hC, htk, hnow, hR, hM, hrow, h1, h2, h3, h5, h6, h7, h8⟩ := id h.ex
  obtain ⟨q1, q2, q3⟩ := hM.later ht
  have hd : WI sb cb b ent dl E0 sent lay hd n now now D (dueS (At s rs js [(4, b, rgW sb cb C n tl js.length)] MS)) :=
    ⟨{ s with tm := late s.tm s.now }, rs, js, C, tl, MS, T, rfl, hT, h4, ⟨hC.nt, hC.rp, hC.ow⟩, htk, hnow, hR, by rw [hnow]; exact q3, hrow, h1, h2, h3, h5, h6, h7, h8⟩
  unfold kExpire
  rw [show (At s rs js [(4, b, rgW sb cb C n tl js.length)] MS).tm = s.tm from rfl, show (At s rs js [(4, b, rgW sb cb C n tl js.length)] MS).now = now from hnow]
  obtain ⟨g1, g2⟩ := WI.many hn ((due s.tm now).map Prod.snd) hd q1
  refine ⟨g1.iff fun k hk => ?_, g2⟩
  rw [hD k hk]
  constructor
  · rintro (h | h)
    · omega
    · obtain ⟨j, _, e, h⟩ := q1 _ h
      rw [Prod.mk.injEq] at e
      rw [show k = j by omega]; exact h
  · intro h
    by_cases hh : dl k ≤ tn
    · exact .inl hh
    · exact .inr (q2 k hk (by omega) h)
variable {p : Sqe → Bool}
/-- A thread enters: more that wait. -/
theorem WI.enter (h : WI sb cb b ent dl E0 sent lay hd n tn now D S) (hD : ∀ k, n ≤ k → ¬ D k) (hj : S.jn.length ≤ hd + 2 ^ cb) (hj2 : n ≤ 16 + S.jn.length) (x : Int) (st : ID → Sqe → EpL → EpL) (he : ∀ j, n ≤ j → j < sent → SqeW (ent j) ∧ (ent j).flags = 0 ∧ p (ent j) = true ∧ (j < 16 + S.jn.length → deadE (ent j) now = some (dl j) ∧ tn < dl j))
    (hW : ∀ (s : KS) (js : List Deed) (RG : List (Int × Nat × Rg)) (MS : List (List Int)) (T : Th), look s.th 2 = some T → s.sl = S.sl → s.th = S.th → ∀ j, n ≤ j → j < sent → ∀ y : EpL, y.map (fun x => (x.1, x.2.1)) = E0 → (∀ x ∈ y, x.2.2.1 = []) → ((st (4, 1 + (j : Int)) (ent j) y).map (fun x => (x.1, x.2.1)) = E0 ∧ ∀ x ∈ st (4, 1 + (j : Int)) (ent j) y, x.2.2.1 = [] ∧ ∀ z ∈ x.2.2.2, (∃ w ∈ y, z ∈ w.2.2.2) ∨ z.1 = (4, 1 + (j : Int))) ∧ ∀ rows b', kDoes (At { s with ep := y } rows js RG MS) T ⟨(4, 1 + (j : Int)), ent j, 0, false, true⟩ (4, 1 + (j : Int)) b' = (At { s with ep := st (4, 1 + (j : Int)) (ent j) y } rows js RG MS, none)) :
    entOk p S 2 x = true ∧ ∃ m, m = min (min (sent - n) (clampB x).toNat) (16 - (ofQ S.rt 4).length) ∧ ∀ β, (kEnter S 2 x β).2 = (m : Int) ∧ WI sb cb b ent dl E0 sent lay hd (n + m) tn now D (kEnter S 2 x β).1 ∧ (kEnter S 2 x β).1.jn = S.jn := by
  obtain ⟨s, rs, js, C, tl, MS, T, rfl, hT, h4, hC, htk, hnow, hR, hM, hrow, h1, h2, h3, h5, h6, h7, h8⟩ := id h.ex
  have hj : js.length ≤ hd + 2 ^ cb := hj
  obtain ⟨MS1, g1, _, _, g2⟩ := enter_W (s := s) (b := b) (rs := rs) (js := js) hT h4 hR x
  have hmin : min js.length (hd + 2 ^ cb) = js.length := by omega
  rw [hmin] at g1 g2
  have hof : (ofQ (KS.rt (At s rs js [(4, b, rgW sb cb C n tl js.length)] MS)) 4).length = rs.length := by rw [show ofQ (KS.rt (At s rs js [(4, b, rgW sb cb C n tl js.length)] MS)) 4 = rs from hrow.of]
  have hj2 : n ≤ 16 + js.length := hj2
  have h16 : rs.length ≤ 16 := by omega
  have hrk : ∀ q ∈ rs, q.id.2 < 1 + (n : Int) := fun q hq => by
    obtain ⟨k, a, _, rfl⟩ := h1 q hq
    show 1 + (k : Int) < _
    omega
  obtain ⟨m, hm⟩ : ∃ m, m = min (min (sent - n) (clampB x).toNat) (16 - rs.length) := ⟨_, rfl⟩
  refine ⟨ent_W hT h4 hrow hR h16 fun j a c => ⟨(he j a c).1, (he j a c).2.2.1⟩, m, by rw [hof]; exact hm, fun β => ?_⟩
  have hnum := g1.num
  obtain ⟨MS2, k1, k2⟩ := takeIn_W (s := s) (b := b) (js := js) hrow hrk g1 htk h16 hm (fun j a c => ⟨(he j a (by omega)).1, (he j a (by omega)).2.1⟩)
  obtain ⟨es, hes⟩ : ∃ es, es = (List.range m).map fun i => ent (n + i) := ⟨_, rfl⟩
  have hlen : es.length = m := by rw [hes, List.length_map, List.length_range]
  have hat : ∀ i e, es[i]? = some e → i < m ∧ e = ent (n + i) := fun i e h => by
    rw [hes, List.getElem?_map] at h
    by_cases hi : i < m
    · rw [List.getElem?_range hi] at h
      cases h; exact ⟨hi, rfl⟩
    · rw [List.getElem?_eq_none (by simp; omega)] at h
      cases h
  have hat2 : ∀ i, i < m → es[i]? = some (ent (n + i)) := fun i hi => by rw [hes, List.getElem?_map, List.getElem?_range hi]; rfl
  rw [← hes] at k2
  obtain ⟨s1, hs1⟩ : ∃ s1 : KS, s1 = { s with tm := pushT s.now n es s.tm, tk := [(4, ((n + m : Nat) : Int))] } := ⟨_, rfl⟩
  have hC1 : Mute s1 T := by rw [hs1]; exact ⟨hC.nt, hC.rp, hC.ow⟩
  have hrow1 : Row (rs ++ rowL n es) := hrow.app (rowL_row es n) fun a ha c hc => by
    obtain ⟨i, e, _, rfl⟩ := rowL_mem hc
    have := hrk a ha
    show a.id.2 < 1 + ((n + i : Nat) : Int)
    omega
  obtain ⟨y', q1, q2⟩ := run_waits hC1 (js := js) (RG := [(4, b, rgW sb cb C (n + m) js.length js.length)]) (MS := MS2) (β := β) (fun k y => y.map (fun x => (x.1, x.2.1)) = E0 ∧ ∀ x ∈ y, x.2.2.1 = [] ∧ ∀ z ∈ x.2.2.2, ∃ j, j < k ∧ ¬ D j ∧ z.1 = (4, 1 + (j : Int))) st es n rs s.ep (clampB x).toNat 0 hrow1 (fun q hq => by obtain ⟨k, _, _, rfl⟩ := h1 q hq; rfl) (fun e hem => by
    obtain ⟨i, hi⟩ := List.getElem?_of_mem hem
    obtain ⟨a, rfl⟩ := hat i e hi
    exact (he (n + i) (by omega) (by omega)).2.1) (fun i e hi y hy => by
    obtain ⟨a, rfl⟩ := hat i e hi
    obtain ⟨⟨w1, w2⟩, w3⟩ := hW s1 js [(4, b, rgW sb cb C (n + m) js.length js.length)] MS2 T (by rw [hs1]; exact hT) (by rw [hs1]; rfl) (by rw [hs1]; rfl) (n + i) (by omega) (by omega) y hy.1 (fun x hx => (hy.2 x hx).1)
    refine ⟨⟨w1, fun x hx => ⟨(w2 x hx).1, fun z hz => ?_⟩⟩, w3⟩
    rcases (w2 x hx).2 z hz with ⟨w, hw, hz2⟩ | hz2
    · obtain ⟨j, c1, c2, c3⟩ := (hy.2 w hw).2 z hz2
      exact ⟨j, by omega, c2, c3⟩
    · exact ⟨n + i, by omega, hD _ (by omega), hz2⟩) (by rw [hlen]; omega) ⟨h7, fun x hx => h8 x hx⟩
  rw [hlen] at q1 q2
  have hgo : kEnter (At s rs js [(4, b, rgW sb cb C n tl js.length)] MS) 2 x β = (At { s1 with ep := y' } (rs ++ rowS n es) js [(4, b, rgW sb cb C (n + m) js.length js.length)] MS2, (m : Int)) := by
    rw [g2, if_neg (by omega)]
    unfold kGoOn
    rw [k2, ← hs1]
    dsimp only
    rw [show s1 = { s1 with ep := s.ep } by rw [hs1], q2]
  rw [hgo]
  refine ⟨rfl, ⟨{ s1 with ep := y' }, rs ++ rowS n es, js, C, js.length, MS2, T, rfl, by rw [hs1]; exact hT, h4, ⟨hC1.nt, hC1.rp, hC1.ow⟩, by rw [hs1], by rw [hs1]; exact hnow, k1, ?_, ?_, fun q hq => ?_, fun k hk hk2 => ?_, fun d hd => ?_, fun k hk hk2 => ?_, ?_, q1.1, q1.2⟩, rfl⟩
  · have := hM.pushT (now := now) es fun i e hi => by
      obtain ⟨a, rfl⟩ := hat i e hi
      exact (he (n + i) (by omega) (by omega)).2.2.2 (by show n + i < 16 + js.length; omega)
    rw [hlen, ← hnow] at this
    rw [hs1]; exact this
  · refine hrow.app ⟨fun q hq => ?_, ?_⟩ fun a ha c hc => ?_
    · obtain ⟨i, e, _, rfl⟩ := rowS_mem hq
      rfl
    · unfold rowS
      rw [List.pairwise_map]
      exact (rowL_row es n).up
    · obtain ⟨i, e, _, rfl⟩ := rowS_mem hc
      have := hrk a ha
      show a.id.2 < 1 + ((n + i : Nat) : Int)
      omega
  · rcases List.mem_append.1 hq with hq | hq
    · obtain ⟨k, a, c, d⟩ := h1 q hq
      exact ⟨k, by omega, c, d⟩
    · obtain ⟨i, e, hi, rfl⟩ := rowS_mem hq
      obtain ⟨a, rfl⟩ := hat i e hi
      exact ⟨n + i, by omega, hD _ (by omega), rfl⟩
  · by_cases hkn : k < n
    · exact List.mem_append_left _ (h2 k hkn hk2)
    · have := rowS_at (k := n) (hat2 (k - n) (by omega))
      rw [show n + (k - n) = k by omega] at this
      exact List.mem_append_right _ this
  · obtain ⟨k, a, c⟩ := h3 d hd
    exact ⟨k, by omega, c⟩
  · by_cases hkn : k < n
    · exact h5 k hkn hk2
    · exact absurd hk2 (hD k (by omega))
  · rw [List.length_append]
    unfold rowS
    rw [List.length_map, rowL_len, hlen]; omega
theorem WI.layE (h : WI sb cb b ent dl E0 sent lay hd n tn now D S) (hr : lay < n + 2 ^ sb) (hl : lay < 1000000) (hw : SqeW (ent lay)) : WI sb cb b ent dl E0 sent (lay + 1) hd n tn now D (memS S 4 (16 + 32 * (lay % 2 ^ sb)) (rawE (ent lay))) := by
  obtain ⟨s, rs, js, C, tl, MS, T, rfl, hT, h4, hC, htk, hnow, hR, hx⟩ := h.ex
  exact ⟨s, rs, js, C, tl, _, T, rfl, hT, h4, hC, htk, hnow, hR.layE hr hl Z ⟨(raw_is hw).1, bytes_rawE _⟩, hx⟩
theorem WI.tell (h : WI sb cb b ent dl E0 sent lay hd n tn now D S) {k : Nat} (hk : n ≤ k ∧ k ≤ lay) : WI sb cb b ent dl E0 k lay hd n tn now D (memS S 4 4 (le4 (k : Int))) := by
  obtain ⟨s, rs, js, C, tl, MS, T, rfl, hT, h4, hC, htk, hnow, hR, hx⟩ := h.ex
  exact ⟨s, rs, js, C, tl, _, T, rfl, hT, h4, hC, htk, hnow, hR.tell hk, hx⟩
theorem WI.pass (h : WI sb cb b ent dl E0 sent lay hd n tn now D S) {x : Int} (h0 : 0 ≤ now ∧ now < 1000000) (hx : 0 ≤ x ∧ x ≤ 1000000) : WI sb cb b ent dl E0 sent lay hd n tn (now + x) D (kPass S x) := by
  obtain ⟨s, rs, js, C, tl, MS, T, rfl, hT, h4, hC, htk, hnow, hR, hx2⟩ := h.ex
  refine ⟨{ s with now := now + x }, rs, js, C, tl, MS, T, ?_, hT, h4, ⟨hC.nt, hC.rp, hC.ow⟩, htk, rfl, hR, hx2⟩
  show ({ At s rs js _ MS with now := IntKind.u64.wrap (s.now + IntKind.u64.wrap (cutI x 0 1048576)) } : KS) = _
  rw [cut_id (by omega), wrap64u_of (a := x) (by omega), hnow, wrap64u_of (by omega)]; rfl
theorem WI.cnt (h : WI sb cb b ent dl E0 sent lay hd n tn now D S) : S.jn.length + (ofQ S.rt 4).length = n := by
  obtain ⟨s, rs, js, C, tl, MS, T, rfl, hT, h4, hC, htk, hnow, hR, hM, hrow, h1, h2, h3, h5, h6, _⟩ := h.ex
  rw [show ofQ (KS.rt (At s rs js [(4, b, rgW sb cb C n tl js.length)] MS)) 4 = rs from hrow.of]
  exact h6
/-- All that was taken has ended. -/
theorem WI.all (h : WI sb cb b ent dl E0 sent lay hd n tn now D S) (hD : ∀ k, k < n → D k) : S.jn.length = n := by
  obtain ⟨s, rs, js, C, tl, MS, T, rfl, hT, h4, hC, htk, hnow, hR, hM, hrow, h1, h2, h3, h5, h6, _⟩ := h.ex
  have : rs = [] := by
    cases rs with
    | nil => rfl
    | cons q rs =>
      obtain ⟨k, a, c, _⟩ := h1 q (List.mem_cons_self)
      exact absurd (hD k a) c
  subst this
  exact h6
/-- The ring, and what is read. -/
theorem WI.ring (h : WI sb cb b ent dl E0 sent lay hd n tn now D S) : ∃ (r : Rg) (tl : Nat), look S.rg 4 = some (b, r) ∧ r.tail = (tl : Int) ∧ tl ≤ 1000000 ∧ WI sb cb b ent dl E0 sent lay tl n tn now D (memS S 5 0 (le4 (tl : Int))) := by
  obtain ⟨s, rs, js, C, tl, MS, T, rfl, hT, h4, hC, htk, hnow, hR, hx⟩ := h.ex
  have hn := hR.num
  exact ⟨_, tl, rfl, rfl, by omega, s, rs, js, C, tl, _, T, rfl, hT, h4, hC, htk, hnow, hR.read (n := tl) (by omega), hx⟩
end
/-! ### plain: what is put in, among what is no entry -/
/-! ### plain: the rows of the law -/
def pN1 : Sqe → Bool := fun e => decide (e.op = 1)
/-! ### plain: a ring at first; what is written into it, read out of it -/
theorem RW.zero {sb cb : Nat} (hs : sb ≤ 3 ∧ cb ≤ 4) (X : Nat → List Int) (C : Nat → Cqe) : RW sb cb X C 0 0 0 0 0 0 (List.replicate 64 zrow) := by
  have h1 : getN (rowAt (List.replicate 64 zrow) 5) 4 4 = 0 := by rw [rowAt_zero (by omega)]; decide +kernel
  have h2 : getN (rowAt (List.replicate 64 zrow) 6) 0 4 = 0 := by rw [rowAt_zero (by omega)]; decide +kernel
  exact ⟨hs, zrow_ok, h1, h2, ⟨Nat.le_refl _, Nat.le_refl _, Nat.zero_le _, Nat.le_refl _, Nat.zero_le _, Nat.le_refl _, Nat.zero_le _, Nat.zero_le _⟩, fun j _ h => by omega, fun j _ h => by omega⟩
section
variable {sb cb b : Nat} {ent : Nat → Sqe} {C : Nat → Cqe} {sent lay tk hd tl : Nat} {S : KS}
theorem NS.layE (h : NS sb cb b ent C sent lay tk hd tl S) (hr : lay < tk + 2 ^ sb) (hl : lay < 1000000) (hw : SqeW (ent lay)) : NS sb cb b ent C sent (lay + 1) tk hd tl (memS S 4 (16 + 32 * (lay % 2 ^ sb)) (rawE (ent lay))) := by
  obtain ⟨s, js, MS, T, rfl, hT, h4, hQ, htk, hjs, hR⟩ := h.ex
  exact ⟨s, js, _, T, rfl, hT, h4, hQ, htk, hjs, hR.layE hr hl Z ⟨(raw_is hw).1, bytes_rawE _⟩⟩
theorem NS.tell (h : NS sb cb b ent C sent lay tk hd tl S) {n : Nat} (hk : tk ≤ n ∧ n ≤ lay) : NS sb cb b ent C n lay tk hd tl (memS S 4 4 (le4 (n : Int))) := by
  obtain ⟨s, js, MS, T, rfl, hT, h4, hQ, htk, hjs, hR⟩ := h.ex
  exact ⟨s, js, _, T, rfl, hT, h4, hQ, htk, hjs, hR.tell hk⟩
theorem NS.read (h : NS sb cb b ent C sent lay tk hd tl S) {n : Nat} (hk : hd ≤ n ∧ n ≤ tl) : NS sb cb b ent C sent lay tk n tl (memS S 5 0 (le4 (n : Int))) := by
  obtain ⟨s, js, MS, T, rfl, hT, h4, hQ, htk, hjs, hR⟩ := h.ex
  exact ⟨s, js, _, T, rfl, hT, h4, hQ, htk, hjs, hR.read hk⟩
theorem NS.rw (h : NS sb cb b ent C sent lay tk hd tl S) : look S.rg 4 = some (b, rgW sb cb C tk tl tk) ∧ RW sb cb (fun j => rawE (ent j)) C sent lay tk hd tl tk S.mem ∧ S.jn.length = tk ∧ look S.tk 4 = some (tk : Int) := by
  obtain ⟨s, js, MS, T, rfl, hT, h4, hQ, htk, hjs, hR⟩ := h.ex
  exact ⟨rfl, hR, hjs, by show look s.tk 4 = _; rw [htk]; rfl⟩
variable {p : Sqe → Bool}
theorem NS.ok (h : NS sb cb b ent C sent lay tk hd tl S) (he : ∀ j, tk ≤ j → j < sent → SqeW (ent j) ∧ p (ent j) = true) (n : Int) : entOk p S 2 n = true := by
  obtain ⟨s, js, MS, T, rfl, hT, h4, hQ, htk, hjs, hR⟩ := h.ex
  exact ent_W hT h4 ⟨fun _ h => (by cases h), List.Pairwise.nil⟩ hR (by simp) he
end
/-! ### plain: entries that do nothing -/
abbrev cmpN (j : Nat) : Cqe := ofD (deedN j (nopE j))
theorem nopE_ok (h : j < 1000000) : SqeW (nopE j) ∧ (nopE j).flags = 0 ∧ (nopE j).time = 0 ∧ (nopE j).op = 1 ∧ ofD (deedN j (nopE j)) = cmpN j := by
  refine ⟨⟨by show (decide ((1 : Int) ≤ 1) && decide ((1 : Int) ≤ 20) && decide ((0 : Int) ≤ 0) && decide ((0 : Int) ≤ 15) && !decide (bits .and .i64 0 3 = 3)) = true; decide +kernel, ?_, ?_, ?_, ?_, ?_, ?_⟩, rfl, rfl, rfl, rfl⟩
  · show (0 : Int) ≤ (j : Int) ∧ (j : Int) < _; omega
  all_goals show (0 : Int) ≤ 0 ∧ (0 : Int) < _; omega
/-! ### plain: the law's rounds -/
/-- .. with one more entry, as long as there is room. -/
structure BJ (b n i sent tk rd tl : Nat) (S : KS) : Prop where
  inv : EInv pN1 S (40 + 100 * i) (60 + 9 * i)
  ns : NS 1 0 b nopE cmpN sent sent tk rd tl S
  num : sent ≤ n
  nx : tk ≤ tl + 9
  go : 40 ≤ i → min n (i - 40) ≤ rd
  pg : sent = n ∨ tk < sent
theorem BJ.ok {b n i sent tk rd tl : Nat} {S : KS} (h : BJ b n i sent tk rd tl S) (hn : n ≤ 59) : entOk pN1 S 2 4 = true := h.ns.ok (fun j _ h2 => ⟨(nopE_ok (by have := h.num; omega)).1, rfl⟩) 4
/-- What entering does. -/
theorem BJ.enter {b n i sent tk rd tl : Nat} {S : KS} (h : BJ b n i sent tk rd tl S) (hn : n ≤ 59) (hi : i < 400) (β : Nat → Nat) : ∃ (k : Int) (tk2 : Nat), (kEnter S 2 4 β).2 = k ∧ EInv pN1 (kEnter S 2 4 β).1 (40 + 100 * (i + 1)) (60 + 9 * (i + 1)) ∧ NS 1 0 b nopE cmpN sent sent tk2 rd (min tk2 (rd + 1)) (kEnter S 2 4 β).1 ∧ tk2 ≤ min tk2 (rd + 1) + 9 ∧ ((8 ≤ tk - min tk (rd + 1) ∧ k = -13 ∧ tk2 = tk) ∨ (tk - min tk (rd + 1) < 8 ∧ k = ((tk2 - tk : Nat) : Int) ∧ tk2 = tk + min (sent - tk) 4)) := by
  have hR := h.ns.rw.2.1.num
  have hI := h.inv.enter (h.ok hn) (by omega) (by omega) β
  have hnx := h.nx
  rcases h.ns.enter (fun j _ h2 => nopE_ok (by have := h.num; omega)) 4 β with ⟨h1, h2, h3⟩ | ⟨h1, m, h2, h3, h4⟩
  · exact ⟨_, tk, h2, hI, h3, by omega, .inl ⟨h1, rfl, rfl⟩⟩
  · rw [show (clampB 4).toNat = 4 from rfl] at h2
    exact ⟨_, tk + m, h3, hI, h4, by omega, .inr ⟨h1, by congr 1; omega, by omega⟩⟩
theorem coSlPutT {E : World} {l m : List As} {p : Nat} (hp : Pick (coA p s) l m) {a q : Place} {c : Cap} :
    Con Tryz.prog 58 #[.pointer (some ⟨p, 6, none⟩), .agg (encI a).toArray, .agg (encC c).toArray, .agg (encI q).toArray] E l (fun _ : Unit => .bool (slPutOk s.sl a c q)) (fun _ => coA p { s with sl := slPut s.sl a c q } :: m) := fun w H => by
  refine (?_ : Jk E l 0 [] fun _ w => Calls Tryz.prog 58 #[.pointer (some ⟨p, 6, none⟩), .agg (encI a).toArray, .agg (encC c).toArray, .agg (encI q).toArray] w fun e w' => ∃ x, e = .returned ((fun _ : Unit => .bool (slPutOk s.sl a c q)) x) ∧ Sep E w' ((fun _ : Unit => coA p { s with sl := slPut s.sl a c q } :: m) x)) w _ H fr0
  refine J_pick hp <| J_coO fun bn be br bg bt bs bp bl bk _ => J_con (slPutC (ps := s.sl) (p := a) (c := c) (q := q) PC) fun x => J_coS (p := p) (s := { s with sl := slPut s.sl a c q }) bn be br bg bt bs bp bl bk PX trivial ?_
  exact J_end SU
/-! ### plain: entries that sleep, or wait for a message -/
def tzA (ts : List Int) (j : Nat) : Int := ts[j]?.getD 0
def opA (ts : List Int) (j : Nat) : Int := if bits .and .i64 (tzA ts j) 1 = 1 then 11 else 19
abbrev tmE (ts : List Int) (j : Nat) : Sqe := ⟨opA ts j, 0, (j : Int), atK 11, 0, 0, 0, ((1 + num (tzA ts j) 20 : Nat) : Int)⟩
def tmD (ts : List Int) (j : Nat) : Int := ((1 + num (tzA ts j) 20 : Nat) : Int)
abbrev pT : Sqe → Bool := fun e => decide (e.op = 19) || decide (e.op = 11)
theorem tOps : ∀ (s : KS) (N M : Nat) (q : Rq) (T : Th) (i : ID), Good s N M → SqeOk q.e → pT q.e = true → DoesC s T q i := fun s N M q T i hG hE h => by
  rw [Bool.or_eq_true, decide_eq_true_eq, decide_eq_true_eq] at h
  rcases h with h | h
  · exact doesC19 hG hE h
  · exact doesC11 hG hE h
theorem tmD_in (ts : List Int) (j : Nat) : 1 ≤ tmD ts j ∧ tmD ts j ≤ 20 := by
  have := num_lt (x := tzA ts j) (b := 20) (by omega)
  unfold tmD; omega
theorem opA_or (ts : List Int) (j : Nat) : opA ts j = 19 ∨ opA ts j = 11 := by unfold opA; split <;> simp
theorem tmE_ok (ts : List Int) (h : j < 1000) : SqeW (tmE ts j) ∧ pT (tmE ts j) = true ∧ deadE (tmE ts j) 0 = some (tmD ts j) := by
  have hd := tmD_in ts j
  refine ⟨⟨?_, ?_, ?_, ?_, ?_, ?_, ?_⟩, ?_, ?_⟩
  · show (decide (1 ≤ opA ts j) && decide (opA ts j ≤ 20) && decide ((0 : Int) ≤ 0) && decide ((0 : Int) ≤ 15) && !decide (bits .and .i64 0 3 = 3)) = true
    rcases opA_or ts j with h | h <;> rw [h] <;> decide +kernel
  · show (0 : Int) ≤ (j : Int) ∧ (j : Int) < _; omega
  · show (0 : Int) ≤ atK 11 ∧ atK 11 < _; decide +kernel
  · show (0 : Int) ≤ 0 ∧ (0 : Int) < _; omega
  · show (0 : Int) ≤ 0 ∧ (0 : Int) < _; omega
  · show (0 : Int) ≤ 0 ∧ (0 : Int) < _; omega
  · show (0 : Int) ≤ tmD ts j ∧ tmD ts j < _; omega
  · show (decide (opA ts j = 19) || decide (opA ts j = 11)) = true
    rcases opA_or ts j with h | h <;> rw [h] <;> rfl
  · unfold deadE
    rw [if_neg (by show ¬ bits .and .i64 0 8 ≠ 0; decide +kernel), if_pos (by show tmD ts j ≠ 0; omega)]
    show some (IntKind.u64.wrap (0 + tmD ts j)) = _
    rw [wrap64u_of (by omega), Int.zero_add]
def stT (i : ID) (e : Sqe) (y : EpL) : EpL := if e.op = 11 then updO y 60 (recvE (i, 0)) else y
/-- The slots, with an endpoint of its own. -/
def slT : List (Place × SV) := slPut (coreN 1 4 false).2.2.1 (1, 11) ⟨4, 60, 0, 0, 7⟩ (0, 0)
def thT : Th := ⟨2, 3, 4, ⟨2, 1, 0, 0, 7⟩⟩
theorem may_T (hs : s.sl = slT) {e : Sqe} (he : e.cap = atK 11) : mayS s thT e 4 1 = (⟨4, 60, 0, 0, 7⟩, 0) := by
  have : kCap slT thT.root (atK 11) 4 = (⟨4, 60, 0, 0, 7⟩, (1, 11), 0) := by decide +kernel
  unfold mayS
  rw [hs, he, this]
  decide +kernel
variable {be : Nat} {ts : List Int}
theorem tm_does (hs : s.sl = slT) {y : EpL} (hy : y.map (fun x => (x.1, x.2.1)) = [(60, be)]) (hy2 : ∀ x ∈ y, x.2.2.1 = []) : ((stT (4, 1 + (j : Int)) (tmE ts j) y).map (fun x => (x.1, x.2.1)) = [(60, be)] ∧ ∀ x ∈ stT (4, 1 + (j : Int)) (tmE ts j) y, x.2.2.1 = [] ∧ ∀ z ∈ x.2.2.2, (∃ w ∈ y, z ∈ w.2.2.2) ∨ z.1 = ((4 : Int), 1 + (j : Int))) ∧ ∀ rows b', kDoes (At { s with ep := y } rows js RG MS) thT ⟨(4, 1 + (j : Int)), tmE ts j, 0, false, true⟩ (4, 1 + (j : Int)) b' = (At { s with ep := stT (4, 1 + (j : Int)) (tmE ts j) y } rows js RG MS, none) := by
  obtain ⟨inn, rfl⟩ : ∃ inn, y = [(60, be, [], inn)] := by
    match y, hy with
    | [(u, b, o, i)], h =>
      have h1 := (List.cons_eq_cons.1 h).1
      rw [Prod.mk.injEq] at h1
      obtain ⟨rfl, rfl⟩ := h1
      have := hy2 _ (List.mem_cons_self)
      simp only at this
      subst this
      exact ⟨i, rfl⟩
  rcases opA_or ts j with ho | ho
  · have e : stT (4, 1 + (j : Int)) (tmE ts j) [(60, be, [], inn)] = [(60, be, [], inn)] := by
      unfold stT; rw [if_neg (by show ¬ opA ts j = 11; rw [ho]; decide)]
    rw [e]
    refine ⟨⟨rfl, fun x hx => ⟨hy2 x hx, fun z hz => .inl ⟨x, hx, hz⟩⟩⟩, fun rows b' => ?_⟩
    unfold kDoes
    rw [show (⟨(4, 1 + (j : Int)), tmE ts j, 0, false, true⟩ : Rq).e.op = 19 from ho]
    rfl
  · have e : stT (4, 1 + (j : Int)) (tmE ts j) [(60, be, [], inn)] = [(60, be, [], inn ++ [((4, 1 + (j : Int)), 0)])] := by
      unfold stT; rw [if_pos (show opA ts j = 11 from ho)]; rfl
    rw [e]
    refine ⟨⟨rfl, fun x hx => ?_⟩, fun rows b' => ?_⟩
    · obtain rfl := List.mem_singleton.1 hx
      refine ⟨rfl, fun z hz => ?_⟩
      rcases List.mem_append.1 hz with hz | hz
      · exact .inl ⟨_, List.mem_singleton.2 rfl, hz⟩
      · rw [List.mem_singleton.1 hz]; exact .inr rfl
    · have hm := may_T (s := At { s with ep := [(60, be, [], inn)] } rows js RG MS) hs (e := tmE ts j) rfl
      unfold kDoes
      rw [show (⟨(4, 1 + (j : Int)), tmE ts j, 0, false, true⟩ : Rq).e.op = 11 from ho]
      show kRecvs (At { s with ep := [(60, be, [], inn)] } rows js RG MS) thT (tmE ts j) (4, 1 + (j : Int)) = _
      unfold kRecvs
      rw [hm, if_neg (by decide), if_neg (by show ¬ (0 : Int) ≠ 0; decide)]
      rfl
/-- All that the law asks of a state at a time; n entries were taken. -/
structure TT (n b be : Nat) (ts : List Int) (now : Int) (S : KS) : Prop where
  is : WI 3 4 b (tmE ts) (tmD ts) [(60, be)] n n 0 n now now (fun k => tmD ts k ≤ now) S
section
variable {n b be : Nat} {ts : List Int} {now : Int} {S : KS}
theorem TT.step (h : TT n b be ts now S) (hn : n ≤ 8) (h0 : 0 ≤ now ∧ now < 1000) {x : Int} (hx : 0 ≤ x ∧ x ≤ 100) : TT n b be ts (now + x) (kExpire (kPass S x)).1 :=
  ⟨((h.is.pass (x := x) (by omega) (by omega)).expire (by omega) (by omega) (fun k _ => Iff.rfl)).1⟩
theorem TT.at (h : TT n b be ts now S) {k : Nat} (hk : k < n) : (tmD ts k ≤ now ∧ ∃ j d, idxJ S.jn (4, (k : Int) + 1) = some j ∧ S.jn[j]? = some d ∧ d.2.2.2.1 = resW (tmE ts k)) ∨ (now < tmD ts k ∧ idxJ S.jn (4, (k : Int) + 1) = none) := by
  obtain ⟨s, rs, js, C, tl, MS, T, rfl, hT, h4, hC, htk, hnow, hR, hM, hrow, h1, h2, h3, h5, h6, h7, h8⟩ := h.is.ex
  rw [show (k : Int) + 1 = 1 + (k : Int) by omega]
  show (_ ∧ ∃ j d, idxJ js _ = some j ∧ js[j]? = some d ∧ _) ∨ (_ ∧ idxJ js _ = none)
  have inj : ∀ d ∈ js, d.1 = (4, 1 + (k : Int)) → tmD ts k ≤ now ∧ d.2.2.2.1 = resW (tmE ts k) := fun d hd e => by
    obtain ⟨j, _, a, c, f⟩ := h3 d hd
    rw [c, Prod.mk.injEq] at e
    obtain rfl : j = k := by omega
    exact ⟨a, f⟩
  by_cases hD : tmD ts k ≤ now
  · refine .inl ⟨hD, ?_⟩
    cases hx : idxJ js (4, 1 + (k : Int)) with
    | none =>
      exfalso
      obtain ⟨d, hd, e⟩ := h5 k hk hD
      unfold idxJ at hx
      rw [List.findIdx?_eq_none_iff] at hx
      have := hx d hd
      rw [decide_eq_false_iff_not] at this
      exact this e
    | some j =>
      obtain ⟨d, hd, hat⟩ := idxJ_at hx
      have hd1 : d.1 = (4, 1 + (k : Int)) := by
        unfold atJ at hat
        simpa using List.find?_some hat
      exact ⟨j, d, rfl, hd, (inj d (List.mem_of_getElem? hd) hd1).2⟩
  · exact .inr ⟨by omega, (idxJ_none fun d hd e => hD (inj d hd e).1).1⟩
theorem TT.ends (h : TT n b be ts now S) (ht : 20 ≤ now) : S.jn.length = n ∧ look S.ep 60 = some (be, [], []) ∧ S.tm = [] := by
  have ha := h.is.all (fun k _ => by have := tmD_in ts k; omega)
  obtain ⟨s, rs, js, C, tl, MS, T, rfl, hT, h4, hC, htk, hnow, hR, hM, hrow, h1, h2, h3, h5, h6, h7, h8⟩ := h.is.ex
  refine ⟨ha, ?_, ?_⟩
  · show look s.ep 60 = _
    match hy : s.ep, h7, h8 with
    | [(u, b', o, i)], h7, h8 =>
      have h9 := (List.cons_eq_cons.1 h7).1
      rw [Prod.mk.injEq] at h9
      obtain ⟨rfl, rfl⟩ := h9
      obtain ⟨e1, e2⟩ := h8 _ (List.mem_cons_self)
      simp only at e1 e2
      subst e1
      cases i with
      | nil => rfl
      | cons z i =>
        obtain ⟨k, _, a, _⟩ := e2 z (List.mem_cons_self)
        exact absurd (by have := tmD_in ts k; omega) a
  · show s.tm = []
    cases hx : s.tm with
    | nil => rfl
    | cons c r =>
      obtain ⟨k, _, _, a⟩ := hM.is c (by rw [hx]; exact List.mem_cons_self)
      have := tmD_in ts k
      omega
end
theorem WI.lays {b : Nat} {ent : Nat → Sqe} {dl : Nat → Int} {E0 : List (Int × Nat)} {tn now : Int} {D : Nat → Prop} {K : KS} (h : WI 3 4 b ent dl E0 0 0 0 0 tn now D K) (he : ∀ j, SqeW (ent j) ∨ 1000 ≤ j) : ∀ m : Nat, m ≤ 8 → WI 3 4 b ent dl E0 0 m 0 0 tn now D (Go.Pse.layE 0 ((List.range m).map ent) K)
  | 0, _ => h
  | m + 1, hm => by
    have ih := WI.lays h he m (by omega)
    have := ih.layE (by show m < 0 + 8; omega) (by omega) ((he m).elim id fun h => by omega)
    rw [List.range_succ, List.map_append, List.map_singleton, layE_snoc, List.length_map, List.length_range, Nat.zero_add]
    rw [show m % 2 ^ 3 = m by omega] at this
    exact this
/-- The law's state ahead of entering. -/
def S2T (g : NewG) (ts : List Int) (n be : Nat) : KS := { laidS g ((List.range n).map (tmE ts)) with sl := slT, ep := [(60, be, [], [])] }
theorem tm_first (g : NewG) (ts : List Int) (hn : n ≤ 8) : WI 3 4 (g.bs 0).1 (tmE ts) (tmD ts) [(60, be)] n n 0 0 0 0 (fun k => tmD ts k ≤ 0) (S2T g ts n be) := by
  have h0 : WI 3 4 (g.bs 0).1 (tmE ts) (tmD ts) [] 0 0 0 0 0 0 (fun k => tmD ts k ≤ 0) (KL g) := ⟨KL g, [], [], fun _ => (0, 0, 0, 0), 0, List.replicate 64 zrow, thT, by kernel_rfl, by kernel_rfl, rfl, ⟨by kernel_rfl, fun x hx => by obtain rfl := List.mem_singleton.1 (show x ∈ [((7 : Int), (g.bs 0).2, ((0 : Int), (0 : Int)), false)] from hx); rfl, by kernel_rfl⟩, by kernel_rfl, by kernel_rfl, RW.zero (by omega) _ _, ⟨List.Pairwise.nil, fun _ h => (by cases h), fun _ h => (by omega)⟩, ⟨fun _ h => (by cases h), List.Pairwise.nil⟩, fun _ h => (by cases h), fun _ h => (by omega), fun _ h => (by cases h), fun _ h => (by omega), rfl, rfl, fun _ h => (by cases h)⟩
  have h1 := (h0.lays (fun j => (Nat.lt_or_ge j 1000).imp (fun h => (tmE_ok ts h).1) id) n hn).tell (k := n) (by omega)
  have hlen : ((List.range n).map (tmE ts)).length = n := by rw [List.length_map, List.length_range]
  have e : laidS g ((List.range n).map (tmE ts)) = memS (layE 0 ((List.range n).map (tmE ts)) (KL g)) 4 4 (le4 (n : Int)) := by
    unfold laidS KL
    rw [List.take_of_length_le (by omega), hlen]
  rw [← e] at h1
  obtain ⟨s, rs, js, C, tl, MS, T, h9, hT, h4, hC, htk, hnow, hR, hM, hrow, q1, q2, q3, q5, q6, q7, q8⟩ := h1.ex
  refine ⟨{ s with sl := slT, ep := [(60, be, [], [])] }, rs, js, C, tl, MS, T, ?_, hT, h4, ⟨hC.nt, hC.rp, hC.ow⟩, htk, hnow, hR, hM, hrow, q1, q2, q3, q5, q6, rfl, fun x hx => ?_⟩
  · unfold S2T
    rw [h9]; rfl
  · obtain rfl := List.mem_singleton.1 hx
    exact ⟨rfl, fun y hy => by cases hy⟩
theorem laid_keep (g : NewG) (es : List Sqe) : (laidS g es).sl = (coreN 1 4 false).2.2.1 ∧ (laidS g es).th = [(2, thT)] ∧ (laidS g es).ep = [] := by
  have e : laidS g es = { KL g with mem := (laidS g es).mem } := by
    unfold laidS
    rw [show kNew 1 4 3 4 false g = KL g from rfl, layE_B, layB_is _ 0 (KL g)]
  have h1 : (KL g).sl = (coreN 1 4 false).2.2.1 := slE434 g
  have h2 : (KL g).th = [(2, thT)] := by kernel_rfl
  have h3 : (KL g).ep = [] := by kernel_rfl
  obtain ⟨K, hK⟩ : ∃ K, K = KL g := ⟨_, rfl⟩
  rw [← hK] at e h1 h2 h3
  rw [e]
  exact ⟨h1, h2, h3⟩
theorem treeT : TreeOk slT := TreeOk.flat (by decide +kernel) (by decide +kernel)
theorem inv_T (g : NewG) (ts : List Int) (n be : Nat) : EInv pT { laidS g ((List.range n).map (tmE ts)) with sl := slT } 40 60 ∧ EInv pT (S2T g ts n be) 40 60 := by
  have h := laid_inv pT g ((List.range n).map (tmE ts))
  have hw := h.w
  have hf := hw.fit
  have hl : slT.length ≤ 40 := by decide +kernel
  exact ⟨⟨⟨⟨hf.n, hf.mm, hf.ids, hf.jn, hf.tm, hf.ep, hf.nt, hf.rp, hf.rg, hf.mem⟩, hw.q, hw.mp, hl, hw.rg, treeT, hw.marks, hw.thr, hw.ent, hw.rtk⟩, h.srt, h.tks⟩, ⟨⟨⟨hf.n, hf.mm, hf.ids, hf.jn, hf.tm, fun x hx => by
    obtain rfl := List.mem_singleton.1 (show x ∈ [((60 : Int), be, ([] : List Msg), ([] : List Rcv))] from hx)
    exact ⟨by show (1 : Int) ≤ 60 ∧ (60 : Int) ≤ 64; omega, Nat.zero_le _, Nat.zero_le _⟩, hf.nt, hf.rp, hf.rg, hf.mem⟩, hw.q, hw.mp, hl, hw.rg, treeT, hw.marks, hw.thr, hw.ent, hw.rtk⟩, h.srt, h.tks⟩⟩
/-- All are taken, and wait. -/
theorem tm_enter (g : NewG) (ts : List Int) (hn : n ≤ 8) : entOk pT (S2T g ts n be) 2 20 = true ∧ ∀ β, (kEnter (S2T g ts n be) 2 20 β).2 = (n : Int) ∧ (kEnter (S2T g ts n be) 2 20 β).1.jn = [] ∧ TT n (g.bs 0).1 be ts 0 (kEnter (S2T g ts n be) 2 20 β).1 := by
 have h := tm_first g ts (be := be) hn
 have hk := laid_keep g ((List.range n).map (tmE ts))
 have hc := h.cnt
 have hj : (S2T g ts n be).jn = [] := List.length_eq_zero_iff.1 (by omega)
 obtain ⟨g1, m, g2, g3⟩ := h.enter (fun k _ hh => by have := tmD_in ts k; omega) (by rw [hj]; simp) (by omega) 20 (p := pT) stT (fun j a c => ⟨(tmE_ok ts (by omega)).1, rfl, (tmE_ok ts (by omega)).2.1, fun _ => ⟨(tmE_ok ts (by omega)).2.2, by have := tmD_in ts j; omega⟩⟩) (fun s js RG MS T h1 h2 h3 j _ _ y hy hy2 => by
  have hT : T = thT := by
   rw [h3, show (S2T g ts n be).th = [(2, thT)] from hk.2.1] at h1
   exact (Option.some.inj h1).symm
  subst hT
  exact tm_does h2 hy hy2)
 have hm : m = n := by rw [g2, show (clampB 20).toNat = 20 from rfl]; omega
 subst hm
 refine ⟨g1, fun β => ?_⟩
 obtain ⟨k1, k2, k3⟩ := g3 β
 rw [Nat.zero_add] at k2
 exact ⟨k1, by rw [k3, hj], ⟨k2⟩⟩
theorem made_T (g : NewG) (ts : List Int) (n be : Nat) : kMade { laidS g ((List.range n).map (tmE ts)) with sl := slT } ⟨4, 60, 0, 0, 0⟩ be = S2T g ts n be := by
  have h := (laid_keep g ((List.range n).map (tmE ts))).2.2
  obtain ⟨L, hL⟩ : ∃ L, L = laidS g ((List.range n).map (tmE ts)) := ⟨_, rfl⟩
  unfold S2T
  rw [← hL] at h ⊢
  unfold kMade
  rw [if_pos rfl]
  show ({ L with sl := slT, ep := ins L.ep 60 (be, [], []) } : KS) = _
  rw [h]; rfl
theorem tz_at {c : Int} (h : ts[k]? = some c) : tzA ts k = c := by unfold tzA; rw [h]; rfl
set_option maxRecDepth 100000 in
set_option maxHeartbeats 4000000 in
theorem enterTimes {E W : World} {v v' : Value} {ss : List Int} (hr : Reads W 1 v (ts.map fun z => [Value.int .i64 z])) (hr' : Reads W 1 v' (ss.map fun z => [Value.int .i64 z])) :
    Con Tryz.prog 13 #[v, v'] E [old W] (fun _ : Unit => .bool true) (fun _ => [old W]) := by
  refine Con.body (n := 180) Tryz.func13 Z Z _ (env_ok 2 Z) <| J_readsB (fun w H => hr.old HS H) fun hw a cap hv h1 h2 h3 => ?_
  subst hv
  refine J_readsB (fun w H => hr'.old HS H) fun hw' a' cap' hv' h1' h2' h3' => ?_
  subst hv'
  have hm : cap ≤ 9223372036854775807 := h2
  have hm' : cap' ≤ 9223372036854775807 := h2'
  have hml : (ts.map fun z => [Value.int .i64 z]).length = ts.length := List.length_map _
  have hml' : (ss.map fun z => [Value.int .i64 z]).length = ss.length := List.length_map _
  refine sr <| ag Z Z <| nx <| xo fc36 .nil Z (first26) fun _ => ag Z Z <| nxx <| mv Z Z <| L_pur Z (p_not Z) <| nq <| J_bool (t := 20) (c := false) Z (rfl) <| C_false Z <| J_skip <| Q_then <| J_seq <| sr <| mv Z Z <| L_pur Z (p_len Z Tryz.underlying55) <| L_pur Z (p_gtr Z Z) <| mv Z Z <| J_gsplit (t := 24) Z (fun h24 => ?_) (fun h24 => ?_)
  refine gz Z Z Z Z Z <| gz Z Z Z Z Z <| gz Z Z Z Z Z <| L_pur Z (p_pick_t Z Z) <| nq <| C_true Z <| sr <| mv Z Z <| ag Z Z <| nq <| J_ret <| Q_then_ret <| J_return (()) Tryz.results13 (.tmp Z .nil) ?_ ?_
  · first | rfl | simp [one]
  · exact SU
  refine gp Z Z Z (p_move Z) Z <| gp Z Z Z (p_len Z Tryz.underlying55) Z <| L_op <| G_on Z Z Z <| J_pur (p_gtr Z Z) Z Z Z <| L_pur Z (p_pick_f Z Z) <| nq <| C_split Z (fun h28 => ?_) (fun h28 => ?_)
  refine sr <| mv Z Z <| ag Z Z <| nq <| J_ret <| Q_then_ret <| J_return (()) Tryz.results13 (.tmp Z .nil) ?_ ?_
  · first | rfl | simp [one]
  · exact SU
  have hb : ts.length ≤ 8 ∧ ss.length ≤ 30 := by simp at h24 h28; omega
  obtain ⟨n, hn0⟩ : ∃ n, n = ts.length := ⟨_, rfl⟩
  refine J_skip <| qx <| ag Z Z <| nq <| J_seq <| J_seq <| J_nil (el := 34) (sz := 8) <| J_rowEq (ys := (((List.range 0).map (tmE ts)).map encSq)) (by rfl) <| J_region <| ag Z Z <| nq <| J_block <| J_loop2 (fun k xv => k ≤ n) (fun k xv => [row 34 8 xv (((List.range k).map (tmE ts)).map encSq), old W]) (fun k xv => [(7, .int .i64 (k : Int)), (6, xv), (0, .slice a (ts.map fun z => [Value.int .i64 z]).length cap), (1, .slice a' (ss.map fun z => [Value.int .i64 z]).length cap'), (5, .bool true)]) (fun k xv => n - k) 0 _ (by omega) SU KE ?_
  intro k xv hk
  refine J_seq <| sr <| mv Z Z <| mv Z Z <| L_pur Z (p_len Z Tryz.underlying55) <| L_pur Z (p_lss Z Z) <| nq <| C_split Z (fun h33 => ?_) (fun h33 => ?_)
  have h33a := h33
  simp at h33a
  have hlt : k < ts.length := by omega
  obtain ⟨bx, ox, rfl⟩ := h3 (by intro h; rw [h] at hml; simp at hml; omega)
  obtain ⟨c, hcc⟩ : ∃ c, ts[k]? = some c := ⟨_, List.getElem?_eq_getElem hlt⟩
  have htz := tz_at hcc
  have hnm := num_lt (x := c) (b := 20) (by omega)
  refine J_skip <| Q_then <| J_seq <| J_block <| sr <| ag Z Z <| nq <| J_cut (α := Unit) (fun _ : Unit => [row 34 8 xv (((List.range k).map (tmE ts)).map encSq), old W]) (fun _ : Unit => [(8, .int .i64 (opA ts k)), (7, .int .i64 (k : Int)), (6, xv), (0, .slice (some ⟨bx, ox, none⟩) (ts.map fun z => [Value.int .i64 z]).length cap), (1, .slice a' (ss.map fun z => [Value.int .i64 z]).length cap'), (5, .bool true)]) ?_ ?_
  refine sr <| mv Z Z <| mv Z Z <| L_pur Z (p_indexAddr Z Z Tryz.underlying55 ty3 (by omega) (by simp; omega)) <| L_val Z (by first | exact v_loadE1 Z ty3 HS (by simp only [Int.toNat_natCast, List.getElem?_map, hcc]; rfl) | exact v_loadR1 Z ty3 (fun w H => hr.old HS H) (by simp only [Int.toNat_natCast, List.getElem?_map, hcc]; rfl) | exact v_loadR1 Z ty3 (fun w H => hr'.old HS H) (by simp only [Int.toNat_natCast, List.getElem?_map, hcc]; rfl)) ?_
  refine L_pur Z (p_and Z Z) <| L_pur Z (p_eql Z Z) <| nq <| C_split Z (fun h41 => ?_) (fun h41 => ?_)
  refine J_region <| ag Z Z <| nq <| J_slot (t := 8) (v := .int .i64 (opA ts k)) Z (by unfold opA; rw [htz, if_pos (by simpa using h41)]) ?_
  exact J_at () SU KE
  refine J_skip <| Q_then <| J_slot (t := 8) (v := .int .i64 (opA ts k)) Z (by unfold opA; rw [htz, if_neg (by simpa using h41)]) ?_
  exact J_at () SU KE
  intro _
  refine J_drawL (some 14) mixed <| ip 0 Z Z Z Z (p_move Z) <| ip 1 Z Z Z Z (p_move Z) <| ip 2 Z Z Z Z (p_move Z) <| ip 3 Z Z Z Z (p_conv Z Tryz.underlying3 Tryz.underlying22) <| J_slot (t := 45) (v := .int .u32 (k : Int)) Z (by rw [wrap32u_of (by omega)]) <| ip 5 Z Z Z Z (p_move Z) <| ip 6 Z Z Z Z (p_move Z) <| ip 7 Z Z Z Z (p_indexAddr Z Z Tryz.underlying55 ty3 (by omega) (by simp; omega)) <| I_take (i := 8) Z Z Z Z (by kernel_rfl) (fun _ _ _ _ h => h) (fun _ => v_loadR1 Z ty3 (fun w H => hr.old HS H) (by simp only [Int.toNat_natCast, List.getElem?_map, hcc]; rfl)) ?_
  refine i1 4 Z <| xc fc18 (A2 Z Z) Z (joinC (k := 11) (by omega)) fun _ => i1 9 Z <| xc fc27 (A2 Z Z) Z (number (by omega) (by omega)) fun _ => ip 10 Z Z Z Z (p_add64 Z Z (by omega)) <| J_slot (t := 52) (v := .int .i64 ((1 + num c 20 : Nat) : Int)) Z (by congr 1) <| ip 11 Z Z Z Z (p_conv Z Tryz.underlying3 Tryz.underlying22) <| J_slot (t := 53) (v := .int .u32 ((1 + num c 20 : Nat) : Int)) Z (by rw [wrap32u_of (by omega)]) ?_
  refine ip 12 Z Z Z Z (bld34 (.cons Z (.cons Z (.cons Z (.cons Z .nil)))) (by repeat constructor)) <| J_slot (t := 54) (v := .agg (encSq (tmE ts k)).toArray) Z (by rw [show tmE ts k = ⟨opA ts k, 0, (k : Int), atK 11, 0, 0, 0, ((1 + num c 20 : Nat) : Int)⟩ by rw [← htz]]; rfl) <| i1 13 Z <| x_lit (vals := [_]) Tryz.underlying54 ty34 Z (.cons Z .nil) (.agg .nil) (Wf.cons Z Z Wf.nil) Z (by decide) Z Z <| JE ([encSq (tmE ts k)]) (by rfl) fun a55 c55 hw55 hl55 hm55 hz55 => i1 14 Z <| x_app Z Z Tryz.underlying54 ty34 Z Z PC (fun w H => sep_reads HS H) (by simp; omega) (by simp; omega) Z <| JE ((((List.range (k + 1)).map (tmE ts)).map encSq)) (by rw [List.range_succ]; simp) fun a56 c56 hw56 hl56 hm56 hz56 => ip 15 Z Z Z Z (p_assign Z) <| i0 <| Q_blk_normal <| qr <| mv Z Z <| L_pur Z (p_add64 Z Z (by omega)) <| ag Z Z <| nq ?_
  exact J_again2 (k + 1) _ (by omega) (by omega) SU KE
  have hkn : k = n := by simp at h33; omega
  refine J_pick (A := row 34 8 xv _) PC <| J_rowEq (ys := (((List.range n).map (tmE ts)).map encSq)) (by rw [hkn]) <| J_exit <| Q_then_exit <| Q_then_exit <| Q_blk_this <| qx <| mv Z Z <| xo fc37 (A3 Z Z Z) Z (laidC (es := (List.range n).map (tmE ts)) PC (by simp; omega)) fun g => ?_
  have hIT := inv_T g ts n
  have hmd := made_T g ts n
  have hsl : slPut (laidS g ((List.range n).map (tmE ts))).sl (1, 11) ⟨4, 60, 0, 0, 7⟩ (0, 0) = slT := by rw [(laid_keep g _).1]; rfl
  have hent := fun be => tm_enter g ts (n := n) (be := be) (by omega)
  obtain ⟨L, hL⟩ : ∃ L, L = laidS g ((List.range n).map (tmE ts)) := ⟨_, rfl⟩
  rw [← hL] at hIT hmd hsl
  refine J_pick (A := coA g.p _) PC <| J_asTo (B := coA g.p L) (by rw [hL]) <| J_pick (A := row 34 8 xv _) PC <| J_row .here fun hwv av cv hvv hlv hmv hzv => ?_
  subst hvv
  have hmcv : cv ≤ 9223372036854775807 := hmv
  refine ag Z Z <| nxx <| mv Z Z <| L_pur Z (p_eqNilPtr Tryz.underlying24 Z) <| nq <| J_bool (t := 60) (c := false) Z (rfl) <| C_false Z <| J_skip <| qx <| mv Z Z <| xo fc28 (A1 Z) Z (coSlots) fun _ => L_pur Z (bld108 (.cons Z (.cons Z .nil)) (by repeat constructor)) <| J_slot (t := 63) (v := .agg (encI (1, 11)).toArray) Z Z <| L_pur Z (bld110 (.cons Z (.cons Z (.cons Z .nil))) (by repeat constructor)) <| J_slot (t := 64) (v := .agg (encC ⟨4, 60, 0, 0, 7⟩).toArray) Z Z <| L_pur Z (bld108 .nil (by repeat constructor)) <| J_slot (t := 65) (v := .agg (encI (0, 0)).toArray) Z Z <| xo fc58 (A4 Z Z Z Z) Z (coSlPutT (s := L) (a := (1, 11)) (c := ⟨4, 60, 0, 0, 7⟩) (q := (0, 0)) PC) fun _ => ?_
  obtain ⟨L1, hL1⟩ : ∃ z : KS, z = { L with sl := slT } := ⟨_, rfl⟩
  refine J_pick (A := coA g.p _) PC <| J_asTo (B := coA g.p L1) (by rw [hsl, hL1]) ?_
  rw [← hL1] at hIT hmd
  refine nx <| mv Z Z <| L_pur Z (bld110 (.cons Z (.cons Z .nil)) (by repeat constructor)) <| J_slot (t := 68) (v := .agg (encC ⟨4, 60, 0, 0, 0⟩).toArray) Z Z <| xo fc59 (A2 Z Z) Z (coMake (s := L1) (c := ⟨4, 60, 0, 0, 0⟩) PC (by decide) (hIT 0).1.w.fit.mem) fun be => ?_
  obtain ⟨hO, hE⟩ := hent be
  obtain ⟨_, I0⟩ := hIT be
  obtain ⟨S0, hS0⟩ : ∃ z, z = S2T g ts n be := ⟨_, rfl⟩
  refine J_pick (A := coA g.p _) PC <| J_asTo (B := coA g.p S0) (by rw [hmd, hS0]) ?_
  have hep : look S0.ep 60 = some (be, [], []) := by rw [hS0]; rfl
  rw [← hS0] at hO hE I0
  refine nxx <| mv Z Z <| xo fc60 (A2 Z Z) Z (coEp (s := S0) (u := 60) PC) fun _ => J_slot (t := 71) (v := .pointer (some ⟨be, 0, none⟩)) Z (by rw [look_is hep]; rfl) <| L_pur Z (p_eqNilPtr Tryz.underlying112 Z) <| mv Z Z <| J_bool (t := 73) (c := false) Z (rfl) <| gp Z Z Z (p_move Z) Z <| L_op <| G_on Z Z Z <| xc fc42 (A3 Z Z Z) Z (coEnterP (s := S0) (p := pT) (t := 2) (n := 20) (N := 40) (M := 60) PC I0 hO (by omega) (by omega) tOps) fun b1 => ?_
  obtain ⟨hk1, hk2, hk3⟩ := hE b1
  refine J_slot (t := 75) (v := .int .i64 (n : Int)) Z (by rw [hk1]) ?_
  obtain ⟨S1, hS1⟩ : ∃ z, z = (kEnter S0 2 20 b1).1 := ⟨_, rfl⟩
  have I1 : EInv pT S1 140 69 := by rw [hS1]; exact I0.enter hO (by omega) (by omega) b1
  rw [← hS1] at hk2 hk3
  refine J_pick (A := coA g.p _) PC <| J_asTo (B := coA g.p S1) (by rw [hS1]) <| gp Z Z Z (p_move Z) Z <| gp Z Z Z (p_len Z Tryz.underlying54) Z <| J_slot (t := 77) (v := .int .i64 (n : Int)) Z (by simp) <| gp Z Z Z (p_neq Z Z) Z <| L_pur Z (p_pick_f Z Z) <| mv Z Z <| J_bool (t := 80) (c := false) Z (by simp) <| L_op <| G_on Z Z Z <| J_pur (p_move Z) Z Z Z <| L_op <| G_on Z Z Z <| xc fc17 (A1 Z) Z (coJournal) fun _ => L_op <| G_on Z Z Z <| xc fc21 (A1 Z) Z (coJAll (s := S1) PC (by have := I1.w.fit.jn; have := I1.w.fit.mm; omega)) <| JR fun a83 c83 hw83 hl83 hm83 hz83 => gp Z Z Z (p_len Z Tryz.underlying40) Z <| J_slot (t := 84) (v := .int .i64 0) Z (by rw [List.length_map, hk2]; rfl) <| gp Z Z Z (p_neq Z Z) Z <| L_pur Z (p_pick_f Z Z) <| nq <| J_bool (t := 86) (c := false) Z (rfl) <| C_false Z <| J_skip <| qx <| ag Z Z <| nxx <| ag Z Z ?_
  refine nq <| J_block <| J_loop3 (fun i now S => i ≤ ss.length + 1 ∧ 0 ≤ now ∧ now ≤ 5 * (i : Int) + 100 ∧ (i ≤ ss.length → now ≤ 5 * (i : Int)) ∧ (i = ss.length + 1 → 100 ≤ now) ∧ EInv pT S 140 69 ∧ TT n (g.bs 0).1 be ts now S) (fun i now S => [coA g.p S, row 34 8 (.slice av (((List.range n).map (tmE ts)).map encSq).length cv) (((List.range n).map (tmE ts)).map encSq), old W]) (fun i now S => [(10, .int .i64 now), (11, .int .i64 (i : Int)), (9, .pointer (some ⟨g.p, 0, none⟩)), (6, .slice av (((List.range n).map (tmE ts)).map encSq).length cv), (0, .slice a (ts.map fun z => [Value.int .i64 z]).length cap), (1, .slice a' (ss.map fun z => [Value.int .i64 z]).length cap'), (5, .bool true)]) (fun i now S => 50 - i) 0 0 S1 ⟨by omega, by omega, by omega, by omega, by omega, I1, hk3⟩ SU KE ?_
  intro i now S ⟨hi, hw0, hw1, hw2, hw3, IS, hT⟩
  refine J_seq <| sr <| mv Z Z <| mv Z Z <| L_pur Z (p_len Z Tryz.underlying55) <| L_pur Z (p_leq Z Z) <| nq <| C_split Z (fun h90 => ?_) (fun h90 => ?_)
  have hile : i ≤ ss.length := by simp at h90; omega
  refine J_skip <| Q_then <| J_seq <| J_block <| sr <| ag Z Z <| nq <| J_cut (α := Int) (fun d : Int => [As.pure (0 ≤ d ∧ d ≤ 100 ∧ (i < ss.length → d ≤ 5) ∧ (i = ss.length → d = 100)), coA g.p S, row 34 8 (.slice av (((List.range n).map (tmE ts)).map encSq).length cv) (((List.range n).map (tmE ts)).map encSq), old W]) (fun d : Int => [(12, .int .i64 d), (10, .int .i64 now), (11, .int .i64 (i : Int)), (9, .pointer (some ⟨g.p, 0, none⟩)), (6, .slice av (((List.range n).map (tmE ts)).map encSq).length cv), (0, .slice a (ts.map fun z => [Value.int .i64 z]).length cap), (1, .slice a' (ss.map fun z => [Value.int .i64 z]).length cap'), (5, .bool true)]) ?_ ?_
  refine sr <| mv Z Z <| mv Z Z <| L_pur Z (p_len Z Tryz.underlying55) <| L_pur Z (p_lss Z Z) <| nq <| C_split Z (fun h96 => ?_) (fun h96 => ?_)
  have h96a := h96
  simp at h96a
  have hlt : i < ss.length := by omega
  obtain ⟨bx, ox, rfl⟩ := h3' (by intro h; rw [h] at hml'; simp at hml'; omega)
  obtain ⟨c, hcc⟩ : ∃ c, ss[i]? = some c := ⟨_, List.getElem?_eq_getElem hlt⟩
  refine J_region <| mv Z Z <| mv Z Z <| L_pur Z (p_indexAddr Z Z Tryz.underlying55 ty3 (by omega) (by simp; omega)) <| L_val Z (by first | exact v_loadE1 Z ty3 HS (by simp only [Int.toNat_natCast, List.getElem?_map, hcc]; rfl) | exact v_loadR1 Z ty3 (fun w H => hr.old HS H) (by simp only [Int.toNat_natCast, List.getElem?_map, hcc]; rfl) | exact v_loadR1 Z ty3 (fun w H => hr'.old HS H) (by simp only [Int.toNat_natCast, List.getElem?_map, hcc]; rfl)) ?_
  refine xo fc27 (A2 Z Z) Z (number (by omega) (by omega)) fun _ => ag Z Z <| nq ?_
  have hnm := num_lt (x := c) (b := 6) (by omega)
  refine J_pure_in (p := (0 ≤ (num c 6 : Int) ∧ (num c 6 : Int) ≤ 100 ∧ (i < ss.length → (num c 6 : Int) ≤ 5) ∧ (i = ss.length → (num c 6 : Int) = 100))) ⟨by omega, by omega, by omega, by omega⟩ ?_
  exact J_at (num c 6 : Int) SU KE
  have h96a := h96
  simp at h96a
  refine J_skip <| Q_then <| J_pure_in (p := (0 ≤ (100 : Int) ∧ (100 : Int) ≤ 100 ∧ (i < ss.length → (100 : Int) ≤ 5) ∧ (i = ss.length → (100 : Int) = 100))) ⟨by omega, by omega, by omega, by omega⟩ ?_
  exact J_at (100 : Int) SU KE
  intro d
  refine J_pure fun ⟨hd0, hd1, hd2, hd3⟩ => sr <| mv Z Z <| mv Z Z <| L_pur Z (p_add64 Z Z (by omega)) <| ag Z Z <| nx <| mv Z Z <| mv Z Z <| xo fc55 (A2 Z Z) Z (coPass (s := S) (n := d) PC) fun _ => ?_
  obtain ⟨S2, hS2⟩ : ∃ z, z = kPass S d := ⟨_, rfl⟩
  refine J_pick (A := coA g.p _) PC <| J_asTo (B := coA g.p S2) (by rw [hS2]) ?_
  have I2 : EInv pT S2 140 69 := by rw [hS2]; exact IS.pass d
  refine nx <| mv Z Z <| xo fc56 (A1 Z) Z (coExpireG (s := S2) PC I2.w) fun _ => ?_
  obtain ⟨S3, hS3⟩ : ∃ z, z = (kExpire S2).1 := ⟨_, rfl⟩
  refine J_pick (A := coA g.p _) PC <| J_asTo (B := coA g.p S3) (by rw [hS3]) ?_
  have I3 : EInv pT S3 140 69 := by rw [hS3]; exact I2.expire
  have hT3 : TT n (g.bs 0).1 be ts (now + d) S3 := by rw [hS3, hS2]; exact hT.step (by omega) (by omega) (by omega)
  have hj3 := hT3.is.cnt
  refine nx <| ag Z Z <| nq <| J_block <| J_loop (α := Nat) (fun k => k ≤ n) (fun k => [coA g.p S3, row 34 8 (.slice av (((List.range n).map (tmE ts)).map encSq).length cv) (((List.range n).map (tmE ts)).map encSq), old W]) (fun k => [(13, .int .i64 (k : Int)), (10, .int .i64 (now + d)), (11, .int .i64 (i : Int)), (9, .pointer (some ⟨g.p, 0, none⟩)), (6, .slice av (((List.range n).map (tmE ts)).map encSq).length cv), (0, .slice a (ts.map fun z => [Value.int .i64 z]).length cap), (1, .slice a' (ss.map fun z => [Value.int .i64 z]).length cap'), (5, .bool true)]) (fun k => n - k) 0 (by omega) SU KE ?_
  intro k hk
  refine J_seq <| sr <| mv Z Z <| mv Z Z <| L_pur Z (p_len Z Tryz.underlying54) <| L_pur Z (p_lss Z Z) <| nq <| C_split Z (fun h113 => ?_) (fun h113 => ?_)
  have hkn : k < n := by simp at h113; omega
  obtain ⟨bv, ov, rfl⟩ := hzv (by intro h; have := congrArg List.length h; simp at this; omega)
  have hA := hT3.at hkn
  have hse : (idxJ S3.jn (4, (k : Int) + 1)).isSome = decide (tmD ts k ≤ now + d) := by
    rcases hA with ⟨e1, j, dd, e2, _⟩ | ⟨e1, e2⟩
    · rw [e2, decide_eq_true e1]; rfl
    · rw [e2, decide_eq_false (by omega)]; rfl
  have hdi := tmD_in ts k
  refine J_skip <| Q_then <| J_seq <| J_block <| sr <| mv Z Z <| xo fc17 (A1 Z) Z (coJournal) fun _ => xo fc21 (A1 Z) Z (coJAll (s := S3) PC (by have := I3.w.fit.jn; have := I3.w.fit.mm; omega)) <| JR fun a118 c118 hw118 hl118 hm118 hz118 => ?_
  have hmc118 : c118 ≤ 9223372036854775807 := hm118
  refine ag Z Z <| nx <| mv Z Z <| mv Z Z <| L_pur Z (p_add64 Z Z (by omega)) <| L_pur Z (bld36 (.cons Z (.cons Z .nil)) (by repeat constructor)) <| J_slot (t := 123) (v := .agg (encI (4, (k : Int) + 1)).toArray) Z Z <| xo fc22 (A2 Z Z) Z (atC (xs := S3.jn) (i := (4, (k : Int) + 1)) (fun w H => sep_reads (xs := S3.jn.map encD) HS H) (by omega)) fun _ => mv Z Z <| L_pur Z (p_extract Z Z) <| L_pur Z (p_extract Z Z) <| J_slot (t := 126) (v := .bool (decide (tmD ts k ≤ now + d))) Z (by rw [hse]) <| ag Z Z <| ag Z Z <| nxx <| mv Z Z <| mv Z Z <| mv Z Z <| L_pur Z (p_indexAddr Z Z Tryz.underlying54 ty34 (by omega) (by simp; omega)) <| fa Z Z fa34_7 ?_
  refine L_val Z (by first | exact v_loadF Z ty22 HS (by rw [Int.toNat_natCast, List.getElem?_map, List.getElem?_map, List.getElem?_range hkn]; rfl) (by exact rfl) | exact v_loadRF Z ty22 (fun w H => hr.old HS H) (by rw [Int.toNat_natCast, List.getElem?_map, List.getElem?_map, List.getElem?_range hkn]; rfl) (by exact rfl) | exact v_loadRF Z ty22 (fun w H => hr'.old HS H) (by rw [Int.toNat_natCast, List.getElem?_map, List.getElem?_map, List.getElem?_range hkn]; rfl) (by exact rfl)) ?_
  refine J_slot (t := 132) (v := .int .u32 (tmD ts k)) Z Z <| L_pur Z (p_conv Z Tryz.underlying22 Tryz.underlying3) <| J_slot (t := 133) (v := .int .i64 (tmD ts k)) Z (by rw [wrap64_of (by omega)]) <| mv Z Z <| L_pur Z (p_leq Z Z) <| L_pur Z (p_neb Tryz.underlying4 Z Z) <| nq <| J_bool (t := 136) (c := false) Z (by simp) <| C_false Z <| J_skip <| Q_then <| J_seq <| sr <| mv Z Z <| L_pur Z (p_not Z) <| nq <| C_split Z (fun h138 => ?_) (fun h138 => ?_)
  refine J_exit <| Q_then_exit <| Q_blk_this <| qr <| mv Z Z <| L_pur Z (p_add64 Z Z (by omega)) <| ag Z Z <| nq ?_
  exact J_again (k + 1) (by omega) (by omega) SU KE
  have hle : tmD ts k ≤ now + d := by simpa using h138
  obtain ⟨j, dd, hj1, hj2, hj3_⟩ : ∃ j dd, idxJ S3.jn (4, (k : Int) + 1) = some j ∧ S3.jn[j]? = some dd ∧ dd.2.2.2.1 = resW (tmE ts k) := by
    rcases hA with ⟨_, h⟩ | ⟨e1, _⟩
    · exact h
    · omega
  have hjl := (List.getElem?_eq_some_iff.1 hj2).1
  refine J_slot (t := 15) (v := .int .i64 (j : Int)) Z (by rw [hj1]; rfl) <| J_skip <| qx <| ag Z Z <| nq <| J_cut (α := Unit) (fun _ : Unit => [coA g.p S3, row 45 7 (.slice a118 (S3.jn.map encD).length c118) (S3.jn.map encD), row 34 8 (.slice (some ⟨bv, ov, none⟩) (((List.range n).map (tmE ts)).map encSq).length cv) (((List.range n).map (tmE ts)).map encSq), old W]) (fun _ : Unit => [(17, .int .i64 (resW (tmE ts k))), (15, .int .i64 (j : Int)), (14, .slice a118 (S3.jn.map encD).length c118), (13, .int .i64 (k : Int)), (10, .int .i64 (now + d)), (11, .int .i64 (i : Int)), (9, .pointer (some ⟨g.p, 0, none⟩)), (6, .slice (some ⟨bv, ov, none⟩) (((List.range n).map (tmE ts)).map encSq).length cv), (0, .slice a (ts.map fun z => [Value.int .i64 z]).length cap), (1, .slice a' (ss.map fun z => [Value.int .i64 z]).length cap'), (5, .bool true)]) ?_ ?_
  refine sr <| mv Z Z <| mv Z Z <| L_pur Z (p_indexAddr Z Z Tryz.underlying54 ty34 (by omega) (by simp; omega)) <| fa Z Z fa34_0 <| L_val Z (by first | exact v_loadF Z ty3 HS (by rw [Int.toNat_natCast, List.getElem?_map, List.getElem?_map, List.getElem?_range hkn]; rfl) (by exact rfl) | exact v_loadRF Z ty3 (fun w H => hr.old HS H) (by rw [Int.toNat_natCast, List.getElem?_map, List.getElem?_map, List.getElem?_range hkn]; rfl) (by exact rfl) | exact v_loadRF Z ty3 (fun w H => hr'.old HS H) (by rw [Int.toNat_natCast, List.getElem?_map, List.getElem?_map, List.getElem?_range hkn]; rfl) (by exact rfl)) ?_
  refine L_pur Z (p_eql Z Z) <| nq <| C_split Z (fun h144 => ?_) (fun h144 => ?_)
  refine J_region <| ag Z Z <| nq <| J_slot (t := 17) (v := .int .i64 (resW (tmE ts k))) Z (by unfold resW; rw [if_pos (by simpa using h144)]) ?_
  exact J_at () SU KE
  refine J_skip <| Q_then <| J_slot (t := 17) (v := .int .i64 (resW (tmE ts k))) Z (by unfold resW; rw [if_neg (by simpa using h144)]) ?_
  exact J_at () SU KE
  intro _
  refine J_seq ?_
  obtain ⟨bj, oj, rfl⟩ := hz118 (by intro h; have := congrArg List.length h; simp at this; rw [this] at hjl; simp at hjl)
  refine J_region <| mv Z Z <| mv Z Z <| L_pur Z (p_indexAddr Z Z Tryz.underlying40 ty45 (by omega) (by simp; omega)) <| fa Z Z fa45_3 <| L_val Z (by first | exact v_loadF Z ty3 HS (by rw [Int.toNat_natCast, List.getElem?_map, hj2]; rfl) (by exact rfl) | exact v_loadRF Z ty3 (fun w H => hr.old HS H) (by rw [Int.toNat_natCast, List.getElem?_map, hj2]; rfl) (by exact rfl) | exact v_loadRF Z ty3 (fun w H => hr'.old HS H) (by rw [Int.toNat_natCast, List.getElem?_map, hj2]; rfl) (by exact rfl)) ?_
  refine J_slot (t := 149) (v := .int .i64 (resW (tmE ts k))) Z (by rw [hj3_]) <| mv Z Z <| L_pur Z (p_neq Z Z) <| nq <| J_bool (t := 151) (c := false) Z (by simp) <| C_false Z <| J_skip <| Q_blk_normal <| qr <| mv Z Z <| L_pur Z (p_add64 Z Z (by omega)) <| ag Z Z <| nq ?_
  exact J_again (k + 1) (by omega) (by omega) SU KE
  refine J_exit <| Q_then_exit <| Q_then_exit <| Q_blk_this <| Q_blk_normal <| qr <| mv Z Z <| L_pur Z (p_add64 Z Z (by omega)) <| ag Z Z <| nq ?_
  exact J_again3 (i + 1) (now + d) S3 (by omega) (⟨by omega, by omega, by omega, by omega, by omega, I3, hT3⟩) SU KE
  have him : i = ss.length + 1 := by simp at h90; omega
  obtain ⟨hX1, hX2, hX3⟩ := hT.ends (by have := hw3 him; omega)
  refine J_exit <| Q_then_exit <| Q_then_exit <| Q_blk_this <| qx <| mv Z Z <| mv Z Z <| J_bool (t := 153) (c := true) Z (rfl) <| gp Z Z Z (p_move Z) Z <| L_op <| G_on Z Z Z <| xc fc17 (A1 Z) Z (coJournal) fun _ => L_op <| G_on Z Z Z <| xc fc21 (A1 Z) Z (coJAll (s := S) PC (by have := IS.w.fit.jn; have := IS.w.fit.mm; omega)) <| JR fun a156 c156 hw156 hl156 hm156 hz156 => gp Z Z Z (p_len Z Tryz.underlying40) Z <| J_slot (t := 157) (v := .int .i64 (n : Int)) Z (by rw [List.length_map, hX1]) <| L_op <| G_on Z Z Z <| J_pur (p_move Z) Z Z Z <| gp Z Z Z (p_len Z Tryz.underlying54) Z <| J_slot (t := 159) (v := .int .i64 (n : Int)) Z (by simp) <| gp Z Z Z (p_eql Z Z) Z <| L_pur Z (p_pick_t Z Z) <| mv Z Z <| J_bool (t := 162) (c := true) Z (by simp) <| gp Z Z Z (p_move Z) Z <| L_op <| G_on Z Z Z <| xc fc60 (A2 Z Z) Z (coEp (s := S) (u := 60) PC) fun _ => ?_
  refine J_slot (t := 164) (v := .pointer (some ⟨be, 0, none⟩)) Z (by rw [look_is hX2]; rfl) <| gp Z Z Z (p_neNilPtr Tryz.underlying112 Z) Z <| L_pur Z (p_pick_t Z Z) <| mv Z Z <| J_bool (t := 167) (c := true) Z (rfl) <| L_op <| G_on Z Z Z <| J_pur (p_move Z) Z Z Z <| L_op <| G_on Z Z Z <| xc fc60 (A2 Z Z) Z (coEp (s := S) (u := 60) PC) fun _ => J_slot (t := 169) (v := .pointer (some ⟨be, 0, none⟩)) Z (by rw [look_is hX2]; rfl) <| L_op <| G_on Z Z Z <| xc fc61 (A1 Z) Z (coEpReceivers (s := S) (u := 60) PC hX2 (by simp) (by simp)) <| JR fun a170 c170 hw170 hl170 hm170 hz170 => gp Z Z Z (p_len Z Tryz.underlying114) Z <| gp Z Z Z (p_eql Z Z) Z <| L_pur Z (p_pick_t Z Z) <| mv Z Z <| J_bool (t := 174) (c := true) Z (rfl) <| L_op <| G_on Z Z Z ?_
  refine J_pur (p_move Z) Z Z Z <| L_op <| G_on Z Z Z <| xc fc62 (A1 Z) Z (coTimers) fun _ => L_op <| G_on Z Z Z <| xc fc63 (A1 Z) Z (coTmLen (s := S) PC (by rw [hX3]; simp)) fun _ => J_slot (t := 177) (v := .int .i64 0) Z (by rw [hX3]; rfl) <| gp Z Z Z (p_eql Z Z) Z <| L_pur Z (p_pick_t Z Z) <| ag Z Z <| nq <| J_ret <| J_return (()) Tryz.results13 (.tmp Z .nil) ?_ ?_
  · first | rfl | simp [one]
  · exact SU
end Go.Pse
