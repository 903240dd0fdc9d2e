/-
  Own texts, merged: C90, C91a, C91, C92, C75, C94, C93, C95a, C96a, C95, C96, C97, C98, C99a, C99, C100a, C100, C101, C102, C103, C104, C105, C111, C112, C113, C116, C114, C106a, C115a, C118a, C86a, C119a, C119b, C87a, C87, C119.
-/
import Derived.Test.YtclgdnpndlognaaGreatBC2
import Derived.Test.YtclgdnpndlognaaGreatBC4
import Derived.Test.YtclgdnpndlognaaGreatBC3
set_option linter.unusedVariables false
set_option linter.unusedSimpArgs false
namespace Go.Pse
open Go.RowKit Go.Proofs
/-! ### plain: entries as bytes -/
def checkE (e : Sqe) : Bool := decide (1 ≤ e.op) && decide (e.op ≤ 20) && decide (0 ≤ e.flags) && decide (e.flags ≤ 15) && !decide (bits .and .i64 e.flags 3 = 3)
def wordE (e : Sqe) (i : Nat) : Int := if i = 0 then e.tag else if i = 1 then e.cap else if i = 2 then e.a else if i = 3 then e.b else if i = 4 then e.c else e.time
def partE (e : Sqe) : Nat → List Int
  | 0 => e.op % 256 :: e.flags % 256 :: List.replicate 30 0
  | i + 1 => putB (partE e i) (4 + 4 * i) (le4 (wordE e i))
def bytesE (e : Sqe) : List Int := e.op % 256 :: e.flags % 256 :: 0 :: 0 :: (le4 e.tag ++ (le4 e.cap ++ (le4 e.a ++ (le4 e.b ++ (le4 e.c ++ (le4 e.time ++ [0, 0, 0, 0]))))))
def rawE (e : Sqe) : List Int := if checkE e then bytesE e else []
def readE (bs : List Int) : Sqe := ⟨byteAt bs 0, byteAt bs 1, getN bs 4 4, getN bs 8 4, getN bs 12 4, getN bs 16 4, getN bs 20 4, getN bs 24 4⟩
def goodE (bs : List Int) : Bool := checkE (readE bs) && (decide (byteAt bs 2 = 0) && (decide (byteAt bs 3 = 0) && (decide (byteAt bs 28 = 0) && (decide (byteAt bs 29 = 0) && (decide (byteAt bs 30 = 0) && decide (byteAt bs 31 = 0))))))
def entE (bs : List Int) : Sqe := if goodE bs then readE bs else ⟨0, 0, 0, 0, 0, 0, 0, 0⟩
def deadE (e : Sqe) (now : Int) : Option Int := if bits .and .i64 e.flags 8 ≠ 0 then some e.time else if e.time ≠ 0 then some (IntKind.u64.wrap (now + e.time)) else none
theorem partE_len (e : Sqe) : ∀ i, i ≤ 6 → (partE e i).length = 32
  | 0, _ => rfl
  | i + 1, h => by rw [partE, putB_len (by rw [partE_len e i (by omega)]; simp [le4]; omega), partE_len e i (by omega)]
theorem rawE_len (e : Sqe) : (rawE e).length ≤ 32 := by
  unfold rawE; split
  · exact Nat.le_of_eq (partE_len e 6 (by omega))
  · simp
theorem partE_bytes (e : Sqe) : ∀ i, Bytes (partE e i)
  | 0 => fun x hx => by
    rcases List.mem_cons.1 hx with rfl | hx
    · omega
    · rcases List.mem_cons.1 hx with rfl | hx
      · omega
      · rw [(List.mem_replicate.1 hx).2]; omega
  | i + 1 => putB_bytes (partE_bytes e i) (le4_bytes _)
/-! ### plain: rings, entered -/
def rgNear (r : Rg) (ms : List (List Int)) : Int := IntKind.u32.wrap (getN (rowAt ms r.sq) 4 4 - r.head)
def rgWaitOk (r : Rg) (ms : List (List Int)) : Bool := !decide (rgNear r ms > 2 ^ r.sb.toNat)
def rgWait (r : Rg) (ms : List (List Int)) : Int := if rgWaitOk r ms then rgNear r ms else 0
def rgRoomOk (r : Rg) (ms : List (List Int)) : Bool := !decide (rgFar r ms > 2 ^ r.cb.toNat)
def rgValid (r : Rg) (ms : List (List Int)) : Bool := rgWaitOk r ms && rgRoomOk r ms
def fetchB (r : Rg) (ms : List (List Int)) (i : Nat) : List Int := ((rowAt ms r.sq).drop (16 + IntKind.u32.wrap (r.head + IntKind.u32.wrap (i : Int)) % 2 ^ r.sb.toNat * 32).toNat).take 32
def advR (r : Rg) (n : Int) : Rg := { r with head := IntKind.u32.wrap (r.head + IntKind.u32.wrap n) }
def advM (r : Rg) (ms : List (List Int)) (n : Int) : List (List Int) := ms.set (r.sq - 1).toNat (putB (rowAt ms r.sq) 0 (le4 (advR r n).head))
/-- Completions that wait are written, as long as there is room. -/
def flushX (r : Rg) (ms : List (List Int)) : List Cqe → Rg × List (List Int)
  | [] => ({ r with over := [] }, ms)
  | c :: cs => if rgWrOk r ms then flushX (rgUp r) (ms.set (r.cq - 1).toNat (rgRow r ms c)) cs else ({ r with over := c :: cs }, ms)
def flushR (r : Rg) (ms : List (List Int)) : Rg × List (List Int) := flushX r ms r.over
theorem pow_sb {k : Int} (h : 0 ≤ k ∧ k ≤ 3) : (1 : Int) ≤ 2 ^ k.toNat ∧ (2 : Int) ^ k.toNat ≤ 8 ∧ IntKind.u32.wrap (1 * 2 ^ k.toNat) = 2 ^ k.toNat := by
  have : k = 0 ∨ k = 1 ∨ k = 2 ∨ k = 3 := by omega
  rcases this with rfl | rfl | rfl | rfl <;> decide
variable {r : Rg} {ms : List (List Int)}
theorem rgWait_in (h : RgOk r) : 0 ≤ rgWait r ms ∧ rgWait r ms ≤ 8 := by
  have h1 := pow_sb h.sb
  have h2 := wrap32_in (getN (rowAt ms r.sq) 4 4 - r.head)
  unfold rgWait rgWaitOk rgNear
  split
  · rename_i h3
    simp only [Bool.not_eq_true', decide_eq_false_iff_not] at h3
    omega
  · omega
theorem advR_ok (h : RgOk r) (n : Int) : RgOk (advR r n) := ⟨h.sq, h.cq, h.cb, h.tail, h.sb, wrap32_in _⟩
theorem advM_ok (h : RgOk r) (hM : MemOk ms) (n : Int) : MemOk (advM r ms n) := by
  obtain ⟨_, h2, h3⟩ := hM.at h.sq
  exact hM.put ⟨by rw [putB_len (by simp [le4]; omega), h2], putB_bytes h3 (le4_bytes _)⟩
theorem wrM_ok (h : RgOk r) (hM : MemOk ms) (c : Cqe) : MemOk (ms.set (r.cq - 1).toNat (rgRow r ms c)) := hM.put (rgRow_ok h hM c)
theorem flush_ok : ∀ (cs : List Cqe) {r : Rg} {ms : List (List Int)}, RgOk r → MemOk ms → RgOk (flushX r ms cs).1 ∧ MemOk (flushX r ms cs).2 ∧ (flushX r ms cs).1.over.length ≤ cs.length
  | [], r, ms, h, hM => ⟨⟨h.sq, h.cq, h.cb, h.tail, h.sb, h.head⟩, hM, Nat.le_refl _⟩
  | c :: cs, r, ms, h, hM => by
    unfold flushX
    split
    · have h1 := flush_ok cs h.up (wrM_ok h hM c)
      exact ⟨h1.1, h1.2.1, Nat.le_succ_of_le h1.2.2⟩
    · exact ⟨⟨h.sq, h.cq, h.cb, h.tail, h.sb, h.head⟩, hM, Nat.le_refl _⟩
/-! ### plain: which request may begin -/
def freeQ (ps : List (ID × Rq)) (g : Int) (r : Rq) : Bool := decide (r.prev = 0) || !(look ps (g, r.prev)).isSome
def goQ (ps : List (ID × Rq)) (g : Int) (k : Nat) (r : Rq) : Bool := !r.started && (freeQ ps g r && (decide (bits .and .i64 r.e.flags 4 = 0) || decide (k = 0)))
def nextF (ps : List (ID × Rq)) (g : Int) : Nat → List Rq → Option Rq
  | _, [] => none
  | k, r :: rs => if goQ ps g k r = true then some r else nextF ps g (k + 1) rs
def nextQ (ps : List (ID × Rq)) (g : Int) : Option ID := (nextF ps g 0 (ofQ ps g)).map Rq.id
/-! ### plain: what an entry's doing leaves of deadlines, requests, the journal -/
structure Ebb (s t : KS) : Prop where
  tm : t.tm.Sublist s.tm := by exact List.Sublist.refl _
  rt : t.rt.Sublist s.rt := by exact List.Sublist.refl _
  jn : s.jn <+: t.jn := by exact List.prefix_refl _
  tk : t.tk = s.tk := by rfl
  be : t.be = s.be := by rfl
  now : t.now = s.now := by rfl
  cf : (t.ct, t.cu, t.cs, t.cc, t.sh) = (s.ct, s.cu, s.cs, s.cc, s.sh) := by rfl
theorem Ebb.refl (s : KS) : Ebb s s := {}
theorem Ebb.trans {s t u : KS} (h : Ebb s t) (g : Ebb t u) : Ebb s u := ⟨g.tm.trans h.tm, g.rt.trans h.rt, h.jn.trans g.jn, g.tk.trans h.tk, g.be.trans h.be, g.now.trans h.now, g.cf.trans h.cf⟩
theorem Ebb.said (s : KS) (d : Deed) : Ebb s (kSaid s d) := by
  unfold kSaid kPost
  split <;> exact { jn := List.prefix_append _ _ }
variable {D : KS → ID → Int → Int → KS}
theorem Ebb.tell (hD : ∀ s i r v, Ebb s (D s i r v)) (s : KS) (d : Deed) : Ebb s (kTell D s d) := by
  unfold kTell
  split
  · exact .said s d
  · split
    · exact (Ebb.said s d).trans (Ebb.trans (t := kRung (kSaid s d) d.1.1) {} (hD _ _ _ _))
    · exact (Ebb.said s d).trans {}
theorem Ebb.gone1 (s : KS) (i : ID) : Ebb s (kForget { s with rt := del s.rt i } i) := { tm := List.filter_sublist, rt := List.filter_sublist }
theorem Ebb.dec : ∀ n (s : KS) (i : ID) (r v : Int), Ebb s (kDec n s i r v)
  | 0, s, _, _, _ => .refl s
  | n + 1, s, i, r, v => by
    cases hq : look s.rt i with
    | none => rw [kDec_none hq]; exact .refl s
    | some q =>
      rw [kDec_some hq]
      have h := (Ebb.gone1 s i).trans (Ebb.tell (D := kDec n) (fun s i r v => Ebb.dec n s i r v) _ (i, q.e.tag, q.e.op, r, v, false))
      unfold kNext
      split
      · exact h
      · split
        · exact h.trans (Ebb.dec n _ _ _ _)
        · exact h
theorem Ebb.ends : ∀ (l : List ID) (s : KS), Ebb s (kEnds s l)
  | [], s => .refl s
  | i :: l, s => (Ebb.dec _ _ _ _ _).trans (Ebb.ends l _)
theorem Ebb.gone (s : KS) (k u : Int) : Ebb s (kGone s k u) := by
  unfold kGone
  (repeat' split) <;> exact {}
theorem Ebb.tearL : ∀ (l : List Rq) (s : KS), Ebb s (kTearL s l)
  | [], s => .refl s
  | q :: l, s => ((Ebb.gone1 s q.id).trans (t := kForget { s with rt := del s.rt q.id } q.id) (u := kTear1 s q) { jn := List.prefix_append _ _ }).trans (Ebb.tearL l (kTear1 s q))
theorem Ebb.tear (s : KS) (g : Int) : Ebb s (kTear s g) := by
  unfold kTear
  split
  · exact (Ebb.tearL _ s).trans (Ebb.trans (t := kCleared (kTearL s (ofQ s.rt g)) g) {} (Ebb.gone _ _ _))
  · exact .refl s
theorem Ebb.torn (u : Int) : ∀ (l : List Int) (s : KS), Ebb s (kTorn s u l)
  | [], s => .refl s
  | g :: l, s => by
    refine Ebb.trans (t := tornStep u s g) ?_ (Ebb.torn u l _)
    unfold tornStep
    split
    · exact .refl s
    · split
      · exact .tear s g
      · exact .refl s
theorem Ebb.destroy (s : KS) (o : Obj2) : Ebb s (kDestroy s o) := by
  unfold kDestroy
  refine Ebb.trans ?_ (Ebb.gone _ _ _)
  split
  · exact (Ebb.ends _ _).trans (Ebb.torn _ _ _)
  · split
    · exact (Ebb.ends _ _).trans (Ebb.tear _ _)
    · exact .ends _ _
theorem Ebb.destroyL : ∀ (l : List Obj2) (s : KS), Ebb s (kDestroyL s l)
  | [], s => .refl s
  | o :: l, s => (Ebb.destroy s o).trans (Ebb.destroyL l _)
variable {s : KS}
theorem Ebb.two {F : Place → Place → KS × Int} (hF : ∀ x y, Ebb s (F x y).1) (o : Option (Place × Place)) : Ebb s (twoS s F o).1 := by
  cases o with
  | none => exact .refl s
  | some x => exact hF _ _
theorem Ebb.kill {F : Place → (List (Place × SV) × List Obj2) × Int} (o : Option Place) : Ebb s (killS s F o).1 := by
  cases o with
  | none => exact .refl s
  | some x => exact Ebb.trans (t := { s with sl := (F x).1.1 }) {} (Ebb.destroyL _ _)
theorem Ebb.slots (s : KS) (T : Th) (e : Sqe) : Ebb s (kSlots s T e).1 := by
  unfold kSlots
  split
  · exact .two (fun _ _ => {}) _
  · split
    · exact .two (fun _ _ => {}) _
    · split
      · exact .two (fun _ _ => {}) _
      · split
        · exact .kill _
        · exact .kill _
theorem Ebb.made (s : KS) (c : Cap) (b : Nat) : Ebb s (kMade s c b) := by
  unfold kMade
  (repeat' split) <;> exact {}
theorem Ebb.ret (s : KS) (T : Th) (e : Sqe) (b : Nat) : Ebb s (kRetS s T e b) := by
  have h : Ebb s (twoS s (retF s e) (twoAt s T e)).1 := .two (fun _ _ => {}) _
  unfold kRetS
  split
  · exact h.trans (.made _ _ _)
  · exact h
theorem Ebb.maps (s : KS) (T : Th) (e : Sqe) : Ebb s (kMaps s T e).1 := by
  unfold kMaps
  (repeat' split) <;> exact {}
theorem Ebb.unmap (s : KS) (T : Th) (e : Sqe) : Ebb s (kUnmap s T e).1 := by
  unfold kUnmap
  (repeat' split) <;> exact {}
theorem Ebb.thrs (s : KS) (T : Th) (e : Sqe) : Ebb s (kThreads s T e).1 := by
  unfold kThreads
  split
  · exact {}
  · split
    · exact {}
    · show Ebb s (kThr s e _).1
      unfold kThr kStop kGo
      (repeat' split) <;> exact {}
theorem Ebb.bind (s : KS) (u : Int) (j : ID) : Ebb s (kBind s u j) := by
  unfold kBind
  split
  · exact {}
  · split
    · exact Ebb.trans (t := { s with rp := updO s.rp u (fun _ => (j, true)) }) {} (.dec _ _ _ _ _)
    · exact {}
theorem Ebb.sends (s : KS) (T : Th) (e : Sqe) (i : ID) (call : Bool) : Ebb s (kSends s T e i call).1 := by
  unfold kSends
  generalize (if call = true then (6 : Int) else 2) = r
  split
  · exact {}
  · unfold kSend1
    split
    · exact {}
    · rename_i y _
      obtain ⟨yb, yo, yi⟩ := y
      have h1 : Ebb s { s with ep := updO s.ep (mayS s T e 4 r).1.obj (sendE (i, e.a, (mayS s T e 4 r).1.badge, call)) } := {}
      cases yi with
      | nil => exact h1
      | cons z zs =>
        refine h1.trans ?_
        show Ebb _ (kSend3 _ _ _ _).1
        unfold kSend3
        split
        · exact .dec _ _ _ _ _
        · split
          · exact .dec _ _ _ _ _
          · exact (Ebb.dec _ _ _ _ _).trans (.bind _ _ _)
theorem Ebb.recv1 (s : KS) (c : Cap) (u : Int) (i : ID) : Ebb s (kRecv1 s c u i).1 := by
  unfold kRecv1
  split
  · exact {}
  · rename_i y _
    obtain ⟨yb, yo, yi⟩ := y
    have h1 : Ebb s { s with ep := updO s.ep c.obj (recvE (i, u)) } := {}
    cases yo with
    | nil => exact h1
    | cons z zs =>
      refine h1.trans ?_
      show Ebb _ (kMet _ _ _)
      unfold kMet
      split
      · split
        · exact .dec _ _ _ _ _
        · exact .bind _ _ _
      · exact .dec _ _ _ _ _
theorem Ebb.recvs (s : KS) (T : Th) (e : Sqe) (i : ID) : Ebb s (kRecvs s T e i).1 := by
  unfold kRecvs
  (repeat' split) <;> first | exact {} | exact .recv1 _ _ _ _
theorem Ebb.answers (s : KS) (T : Th) (e : Sqe) : Ebb s (kAnswers s T e).1 := by
  unfold kAnswers
  (repeat' split) <;> first | exact {} | exact Ebb.trans (t := { s with rp := _ }) {} (.dec _ _ _ _ _)
theorem Ebb.signals (s : KS) (T : Th) (e : Sqe) : Ebb s (kSignals s T e).1 := by
  unfold kSignals
  split
  · exact {}
  · split
    · exact {}
    · dsimp only
      split
      · exact Ebb.trans (t := { s with nt := _ }) {} (.dec _ _ _ _ _)
      · exact {}
theorem Ebb.nwaits (s : KS) (T : Th) (e : Sqe) (i : ID) : Ebb s (kNWaits s T e i).1 := by
  unfold kNWaits
  (repeat' split) <;> exact {}
theorem Ebb.cancels (s : KS) (e : Sqe) (i : ID) : Ebb s (kCancels s e i).1 := by
  unfold kCancels
  split
  · exact {}
  · exact .dec _ _ _ _ _
theorem eif {c : Prop} [Decidable c] {x y : KS × Out} (h1 : Ebb s x.1) (h2 : Ebb s y.1) : Ebb s (if c then x else y).1 := by
  by_cases h : c
  · rw [if_pos h]; exact h1
  · rw [if_neg h]; exact h2
theorem Ebb.does (s : KS) (T : Th) (q : Rq) (i : ID) (b : Nat) : Ebb s (kDoes s T q i b).1 :=
  eif {} <| eif (.slots _ _ _) <| eif (.ret _ _ _ _) <| eif (.maps _ _ _) <| eif (.unmap _ _ _) <| eif (.sends _ _ _ _ _) <| eif (.recvs _ _ _ _) <| eif (.answers _ _ _) <| eif (.signals _ _ _) <| eif (.nwaits _ _ _ _) <| eif (.thrs _ _ _) <| eif {} <| eif (.cancels _ _ _) {}
theorem Ebb.act (s : KS) (i : ID) (b : Nat) : Ebb s (kAct s i b).1 := by
  unfold kAct
  split
  · exact {}
  · split
    · exact {}
    · exact .does _ _ _ _ _
/-- A request's start: as an entry's doing, but that it has begun. -/
theorem Ebb.start (s : KS) (i : ID) (b : Nat) : ∃ r, (r = s.rt ∨ r = rtS s.rt i) ∧ Ebb { s with rt := r } (kStart s i b).1 := by
  unfold kStart
  split
  · exact ⟨s.rt, .inl rfl, .refl s⟩
  · split
    · exact ⟨s.rt, .inl rfl, .refl s⟩
    · refine ⟨rtS s.rt i, .inr rfl, ?_⟩
      have h1 := Ebb.act { s with rt := rtS s.rt i } i b
      cases hk : kAct { s with rt := rtS s.rt i } i b with
      | mk t o =>
        rw [hk] at h1
        cases o with
        | none => exact h1
        | some x => exact h1.trans (.dec _ _ _ _ _)
theorem start_tk (s : KS) (i : ID) (b : Nat) : (kStart s i b).1.tk = s.tk ∧ (kStart s i b).1.tm.Sublist s.tm := by
  obtain ⟨r, _, h⟩ := Ebb.start s i b
  exact ⟨h.tk, h.tm⟩
variable {Q : Sqe → Prop}
theorem WellQ.tell {s : KS} {N M : Nat} (h : WellQ Q s N M) (hM : M + 1 ≤ 90000) (n : Nat) (d : Deed) : WellQ Q (kTell (kDec n) s d) N (M + 1) := by
  have hf := h.fit
  have h2 : WellQ Q s N (M + 1) := ⟨⟨hf.n, hM, hf.ids, Nat.le_succ_of_le hf.jn, hf.tm, hf.ep, hf.nt, hf.rp, fun x hx => ⟨(hf.rg x hx).1, Nat.le_succ_of_le (hf.rg x hx).2⟩, hf.mem⟩, h.q, h.mp, h.sl, h.rg, h.tree, h.marks, h.thr, h.ent, h.rtk⟩
  have hk := Kept.tell (D := kDec n) (fun s i r v => Kept.dec n s i r v) s d
  exact h2.ended (hf.tell (D := kDec n) (fun s i r v h => Fits.dec n h) hM d).1 (by rw [hk.q]; exact Nat.le_refl _) (by rw [hk.mp]; exact Nat.le_refl _) hk.sl hk.mr (by rw [tell_th (fun s i r v => dec_th n s i r v)]; exact List.Sublist.refl _) (by rw [tell_rglen (fun s i r v => dec_rglen n s i r v)]; exact Nat.le_refl _) (Ebb.tell (fun s i r v => Ebb.dec n s i r v) s d).rt
/-! ### plain: what hangs on what -/
def encSq (e : Sqe) : List Value := [.int .i64 e.op, .int .i64 e.flags, .int .u32 e.tag, .int .u32 e.cap, .int .u32 e.a, .int .u32 e.b, .int .u32 e.c, .int .u32 e.time]
def prevP (first : Int) (p : Option Sqe) (k : Nat) : Int := match p with
  | none => 0
  | some d => if bits .and .i64 d.flags 3 ≠ 0 then first + k - 1 else 0
def softP (p : Option Sqe) : Bool := match p with
  | none => false
  | some d => decide (bits .and .i64 d.flags 1 ≠ 0)
def reqP (g first : Int) (p : Option Sqe) (k : Nat) (e : Sqe) : Rq := ⟨(g, first + k), e, prevP first p k, softP p, false⟩
/-! ### plain: entries are taken -/
def minI (a b : Int) : Int := if b < a then b else a
def maxI (a b : Int) : Int := if b > a then b else a
def addT (s : KS) (q : Rq) : KS := match deadE q.e s.now with
  | none => { s with rt := addQ s.rt q }
  | some d => { s with rt := addQ s.rt q, tm := hpush s.tm (d, q.id) }
def badD (g first : Int) (k : Nat) (bs : List Int) : Deed := ((g, first + k), getN bs 4 4, 0, -1, 0, false)
def takeF (g first : Int) : Option Sqe → Nat → List (List Int) → KS → KS
  | _, _, [], s => s
  | p, k, bs :: r, s => if goodE bs = true then takeF g first (some (entE bs)) (k + 1) r (addT s (reqP g first p k (entE bs))) else takeF g first none (k + 1) r (kTell (kDec s.rt.length) s (badD g first k bs))
def takeN (s : KS) (g most : Int) (r : Rg) : Int := maxI (minI (minI (rgWait r s.mem) most) (16 - (ofQ s.rt g).length)) 0
def takeRaw (s : KS) (r : Rg) (n : Nat) : List (List Int) := (List.range n).map (fetchB r s.mem)
def kAdv (s : KS) (g : Int) (r : Rg) (n : Int) : KS := { s with rg := updO s.rg g (fun r => advR r n), mem := advM r s.mem n }
def kTaken (s : KS) (g : Int) (r : Rg) (n : Int) : KS := takeF g (kTakeV (kAdv s g r n) g n) none 0 (takeRaw s r n.toNat) (kTake (kAdv s g r n) g n)
/-- A ring's entries are taken: how many. -/
def kTakeIn (s : KS) (g most : Int) : KS × Int := match look s.rg g with
  | none => (s, 0)
  | some x => if rgValid x.2 s.mem = true then (kTaken s g x.2 (takeN s g most x.2), takeN s g most x.2) else (s, 0)
variable {g : Int}
theorem takeN_in {most : Int} (h : RgOk r) : 0 ≤ takeN s g most r ∧ takeN s g most r ≤ 8 := by
  have := rgWait_in (ms := s.mem) h
  unfold takeN maxI minI
  (repeat' split) <;> omega
theorem fetchB_ok (h : RgOk r) (hM : MemOk ms) (i : Nat) : (fetchB r ms i).length = 32 ∧ Bytes (fetchB r ms i) := by
  obtain ⟨_, h2, h3⟩ := hM.at h.sq
  have h4 := pow_sb h.sb
  have h5 := wrap32_in (r.head + IntKind.u32.wrap (i : Int))
  have h6 := Int.emod_lt_of_pos (IntKind.u32.wrap (r.head + IntKind.u32.wrap (i : Int))) (b := 2 ^ r.sb.toNat) (by omega)
  have h7 := Int.emod_nonneg (IntKind.u32.wrap (r.head + IntKind.u32.wrap (i : Int))) (b := 2 ^ r.sb.toNat) (by omega)
  refine ⟨?_, part_bytes h3⟩
  unfold fetchB
  rw [List.length_take, List.length_drop, h2]
  omega
variable {bs : List Int}
theorem entE_ok (h : Bytes bs) : SqeOk (entE bs) := by
  have hn : ∀ a, in32 (getN bs a 4) := fun a => getN_is h a 4
  unfold entE
  split
  · exact ⟨hn _, hn _, hn _, hn _⟩
  · exact ⟨⟨by decide, by decide⟩, ⟨by decide, by decide⟩, ⟨by decide, by decide⟩, ⟨by decide, by decide⟩⟩
variable {Q : Sqe → Prop}
theorem hpush_le (xs : List Tm) (x : Tm) : (hpush xs x).length ≤ xs.length + 1 := by
  have := hdrop_len xs x.2
  unfold hpush putT
  simp only [List.length_append, List.length_cons, List.length_take, List.length_drop]
  omega
theorem WellQ.addT {s : KS} {N M : Nat} (h : WellQ Q s N M) (hN : N + 1 ≤ 90000) (hM : M + 1 ≤ 90000) {q : Rq} (hq : SqeOk q.e ∧ Q q.e) : WellQ Q (addT s q) (N + 1) (M + 1) := by
  have h1 := (h.addq hM hq).more hN
  unfold Go.Pse.addT
  split
  · exact h1
  · have hf := h1.fit
    have hl := hpush_le s.tm
    have ht := h.fit.tm
    exact ⟨⟨hf.n, hf.mm, hf.ids, hf.jn, Nat.le_trans (hl _) (Nat.succ_le_succ ht), hf.ep, hf.nt, hf.rp, hf.rg, hf.mem⟩, h1.q, h1.mp, h1.sl, h1.rg, h1.tree, h1.marks, h1.thr, h1.ent, h1.rtk⟩
variable {q : Rq}
theorem addT_srt (h : Srt s.tm) : Srt (addT s q).tm := by
  unfold addT
  split
  · exact h
  · exact h.push _
theorem WellQ.takeF {g first : Int} : ∀ (r : List (List Int)) {p : Option Sqe} {k : Nat} {s : KS} {N M : Nat}, WellQ Q s N M → N + r.length ≤ 90000 → M + r.length ≤ 90000 → Srt s.tm → (∀ bs ∈ r, Bytes bs ∧ (goodE bs = true → Q (entE bs))) → WellQ Q (takeF g first p k r s) (N + r.length) (M + r.length) ∧ Srt (takeF g first p k r s).tm
  | [], _, _, _, _, _, h, _, _, hs, _ => ⟨h, hs⟩
  | bs :: r, p, k, s, N, M, h, hN, hM, hs, hQ => by
    rw [List.length_cons] at hN hM
    have hb := hQ bs (List.mem_cons_self)
    have hr := fun b hb => hQ b (List.mem_cons_of_mem _ hb)
    rw [Go.Pse.takeF, List.length_cons, Nat.add_comm r.length 1, ← Nat.add_assoc, ← Nat.add_assoc]
    split
    · rename_i hg
      exact WellQ.takeF r (h.addT (by omega) (by omega) (q := reqP g first p k (entE bs)) ⟨entE_ok hb.1, hb.2 hg⟩) (by omega) (by omega) (addT_srt hs) hr
    · exact WellQ.takeF r ((h.tell (by omega) _ _).more (by omega)) (by omega) (by omega) (List.Pairwise.sublist (Ebb.tell (fun s i r v => Ebb.dec _ s i r v) s _).tm hs) hr
variable {N M : Nat}
theorem WellQ.adv (h : WellQ Q s N M) {b : Nat} (hl : look s.rg g = some (b, r)) (n : Int) : WellQ Q (kAdv s g r n) N M := by
  have hf := h.fit
  have hr : RgOk r := (hf.rg _ (mem_look hl)).1
  refine ⟨⟨hf.n, hf.mm, hf.ids, hf.jn, hf.tm, hf.ep, hf.nt, hf.rp, fun x hx => ?_, advM_ok hr hf.mem n⟩, h.q, h.mp, h.sl, by show (updO s.rg g (fun r => advR r n)).length ≤ 1000; unfold updO; rw [List.length_map]; exact h.rg, h.tree, h.marks, h.thr, h.ent, h.rtk⟩
  obtain ⟨y, hy, h1, h2⟩ := updO_mem (show x ∈ updO s.rg g (fun r => advR r n) from hx)
  obtain ⟨g1, g2⟩ := hf.rg y hy
  rcases h2 with h2 | h2 <;> rw [h2]
  · exact ⟨g1, g2⟩
  · exact ⟨advR_ok g1 n, g2⟩
theorem takeRaw_len (s : KS) (r : Rg) (n : Nat) : (takeRaw s r n).length = n := by unfold takeRaw; rw [List.length_map, List.length_range]
variable {n : Nat}
theorem takeRaw_mem (h : RgOk r) (hM : MemOk s.mem) : ∀ bs ∈ takeRaw s r n, bs.length = 32 ∧ Bytes bs := fun bs hb => by
  obtain ⟨i, _, rfl⟩ := List.mem_map.1 hb
  exact fetchB_ok h hM i
theorem kTake_tm (s : KS) (g n : Int) : (kTake s g n).tm = s.tm ∧ (kTake s g n).rt = s.rt := by unfold kTake; split <;> exact ⟨rfl, rfl⟩
theorem WellQ.taken (h : WellQ Q s N M) (hN : N + 8 ≤ 90000) (hM : M + 8 ≤ 90000) (hs : Srt s.tm) {most : Int} {b : Nat} (hl : look s.rg g = some (b, r)) (hQ : ∀ bs ∈ takeRaw s r (takeN s g most r).toNat, goodE bs = true → Q (entE bs)) :
  WellQ Q (kTaken s g r (takeN s g most r)) (N + (takeN s g most r).toNat) (M + (takeN s g most r).toNat) ∧ Srt (kTaken s g r (takeN s g most r)).tm := by
 have hr : RgOk r := (h.fit.rg _ (mem_look hl)).1
 have hn := takeN_in (s := s) (g := g) (most := most) hr
 have hm := takeRaw_mem (n := (takeN s g most r).toNat) hr h.fit.mem
 obtain ⟨n, hnn⟩ : ∃ n : Nat, takeN s g most r = (n : Int) := ⟨(takeN s g most r).toNat, by omega⟩
 rw [hnn] at hn hm hQ ⊢
 rw [Int.toNat_natCast] at hm hQ ⊢
 have hln := takeRaw_len s r n
 have h1 := WellQ.takeF (g := g) (first := kTakeV (kAdv s g r n) g n) (takeRaw s r n) (p := none) (k := 0) ((h.adv hl n).take g n) (by rw [hln]; omega) (by rw [hln]; omega) (by rw [(kTake_tm _ _ _).1]; exact hs) (fun bs hb => ⟨(hm bs hb).2, hQ bs hb⟩)
 rw [hln] at h1
 unfold kTaken
 rw [Int.toNat_natCast]
 exact h1
/-! ### plain: requests begin; the kernel is entered; time has come -/
variable {Q : Sqe → Prop}
/-- Requests begin, one behind the other; β: where what is made lies; j: how many began ahead. -/
def kRunN (g : Int) (β : Nat → Nat) : Nat → Nat → KS → KS × Nat
  | 0, _, s => (s, 0)
  | n + 1, j, s => match nextQ s.rt g with
    | none => (s, 0)
    | some i => ((kRunN g β n (j + 1) (kStart s i (β j)).1).1, (kRunN g β n (j + 1) (kStart s i (β j)).1).2 + 1)
def clampB (n : Int) : Int := minI (maxI n 0) 64
def flushS (s : KS) (g : Int) (r : Rg) : KS := { s with rg := updO s.rg g (fun r => (flushR r s.mem).1), mem := (flushR r s.mem).2 }
def kGoOn (s : KS) (g n : Int) (β : Nat → Nat) : KS × Int := ((kRunN g β n.toNat 0 (kTakeIn s g n).1).1, (kTakeIn s g n).2)
/-- A thread enters. -/
def kEnter (s : KS) (t n : Int) (β : Nat → Nat) : KS × Int := match look s.th t with
  | none => (s, -11)
  | some T => match look s.rg T.ring with
    | none => (s, -15)
    | some x => if rgValid x.2 s.mem = false then (s, -14) else if (flushR x.2 s.mem).1.over.length ≥ 8 then (flushS s T.ring x.2, -13) else kGoOn (flushS s T.ring x.2) T.ring (clampB n) β
def kExpL : List ID → KS → KS × Nat
  | [], s => (s, 0)
  | i :: l, s => match look s.rt i with
    | none => kExpL l s
    | some q => ((kExpL l (kDec s.rt.length s i (if q.e.op = 19 then 0 else -10) 0)).1, (kExpL l (kDec s.rt.length s i (if q.e.op = 19 then 0 else -10) 0)).2 + 1)
theorem WellQ.flush (h : WellQ Q s N M) {b : Nat} (hl : look s.rg g = some (b, r)) : WellQ Q (flushS s g r) N M := by
  have hf := h.fit
  have hr : RgOk r := (hf.rg _ (mem_look hl)).1
  refine ⟨⟨hf.n, hf.mm, hf.ids, hf.jn, hf.tm, hf.ep, hf.nt, hf.rp, fun x hx => ?_, (flush_ok r.over hr hf.mem).2.1⟩, h.q, h.mp, h.sl, by show (updO s.rg g (fun r => (flushR r s.mem).1)).length ≤ 1000; unfold updO; rw [List.length_map]; exact h.rg, h.tree, h.marks, h.thr, h.ent, h.rtk⟩
  obtain ⟨y, hy, h1, h2⟩ := updO_mem (show x ∈ updO s.rg g (fun r => (flushR r s.mem).1) from hx)
  obtain ⟨g1, g2⟩ := hf.rg y hy
  rcases h2 with h2 | h2 <;> rw [h2]
  · exact ⟨g1, g2⟩
  · have := flush_ok y.2.2.over g1 hf.mem
    exact ⟨this.1, by have h3 := this.2.2; show (flushX y.2.2 s.mem y.2.2.over).1.over.length + s.rt.length ≤ M; omega⟩
variable {Q : Sqe → Prop}
theorem WellQ.upTo {N2 M2 : Nat} (h : WellQ Q s N M) (hN : N ≤ N2) (hM : M ≤ M2) (hN2 : N2 ≤ 90000) (hM2 : M2 ≤ 90000) : WellQ Q s N2 M2 := by
  have hf := h.fit
  exact ⟨⟨hN2, hM2, hf.ids, Nat.le_trans hf.jn hM, Nat.le_trans hf.tm hN, fun x hx => ⟨(hf.ep x hx).1, Nat.le_trans (hf.ep x hx).2.1 hN, Nat.le_trans (hf.ep x hx).2.2 hN⟩, fun x hx => ⟨(hf.nt x hx).1, Nat.le_trans (hf.nt x hx).2 hN⟩, hf.rp, fun x hx => ⟨(hf.rg x hx).1, Nat.le_trans (hf.rg x hx).2 hM⟩, hf.mem⟩, Nat.le_trans h.q hN, Nat.le_trans h.mp hN, Nat.le_trans h.sl hN, h.rg, h.tree, h.marks, h.thr, h.ent, h.rtk⟩
abbrev memS (s : KS) (u off : Nat) (ys : List Int) : KS := { s with mem := s.mem.set u (putB (rowAt s.mem ((u : Int) + 1)) off ys) }
theorem MemOk.row (h : MemOk ms) {u : Nat} (hu : u < 64) : ms[u]? = some (rowAt ms ((u : Int) + 1)) ∧ (rowAt ms ((u : Int) + 1)).length = 512 ∧ Bytes (rowAt ms ((u : Int) + 1)) := by
  have := h.at (u := (u : Int) + 1) ⟨by omega, by omega⟩
  rw [show ((u : Int) + 1 - 1).toNat = u by omega] at this
  exact this
/-! ### plain: what holds, all in one; p: which entries there are -/
abbrev Pq (p : Sqe → Bool) : Sqe → Prop := fun e => p e = true
structure EInv (p : Sqe → Bool) (s : KS) (N M : Nat) : Prop where
  w : WellQ (Pq p) s N M
  srt : Srt s.tm
  tks : ∀ e ∈ s.tk, 0 ≤ e.2 ∧ e.2 ≤ (M : Int)
theorem EInv.tk {p : Sqe → Bool} {s : KS} {N M : Nat} (h : EInv p s N M) (g : Int) : 0 ≤ (look s.tk g).getD 0 ∧ (look s.tk g).getD 0 ≤ 1000000000 := by
  have hm := h.w.fit.mm
  cases hq : look s.tk g with
  | none => exact ⟨by decide, by decide⟩
  | some x =>
    have := h.tks _ (mem_look hq)
    show 0 ≤ x ∧ x ≤ _
    simp only at this
    omega
theorem EInv.upTo {p : Sqe → Bool} {s : KS} {N M N2 M2 : Nat} (h : EInv p s N M) (hN : N ≤ N2) (hM : M ≤ M2) (hN2 : N2 ≤ 90000) (hM2 : M2 ≤ 90000) : EInv p s N2 M2 :=
  ⟨h.w.upTo hN hM hN2 hM2, h.srt, fun e he => by have := h.tks e he; omega⟩
theorem EInv.started {p : Sqe → Bool} {s : KS} {N M : Nat} (h : EInv p s N M) (hN : N + 1 ≤ 90000) (i : ID) (b : Nat) : EInv p (kStart s i b).1 (N + 1) M :=
  ⟨h.w.started hN i b, List.Pairwise.sublist (start_tk s i b).2 h.srt, by rw [(start_tk s i b).1]; exact h.tks⟩
theorem EInv.flush {p : Sqe → Bool} {s : KS} {N M : Nat} (h : EInv p s N M) {g : Int} {b : Nat} {r : Rg} (hl : look s.rg g = some (b, r)) : EInv p (flushS s g r) N M := ⟨h.w.flush hl, h.srt, h.tks⟩
/-- Which entries stand where a thread's next entry would take them. -/
def entOk (p : Sqe → Bool) (s : KS) (t n : Int) : Bool := match look s.th t with
  | none => true
  | some T => match look s.rg T.ring with
    | none => true
    | some x => (takeRaw (flushS s T.ring x.2) (flushR x.2 s.mem).1 (takeN (flushS s T.ring x.2) T.ring (clampB n) (flushR x.2 s.mem).1).toNat).all fun bs => !goodE bs || p (entE bs)
theorem clamp_in (n : Int) : 0 ≤ clampB n ∧ clampB n ≤ 64 := by unfold clampB minI maxI; (repeat' split) <;> omega
variable {p : Sqe → Bool} {ys : List Int}
theorem EInv.memS (h : EInv p s N M) {u off : Nat} (hu : u < 64) (ho : off + ys.length ≤ 512) (hB : Bytes ys) : EInv p (memS s u off ys) N M := by
  have hw := h.w
  have hf := hw.fit
  obtain ⟨_, h2, h3⟩ := hf.mem.row hu
  exact ⟨⟨⟨hf.n, hf.mm, hf.ids, hf.jn, hf.tm, hf.ep, hf.nt, hf.rp, hf.rg, hf.mem.put ⟨by rw [putB_len (by omega), h2], putB_bytes h3 hB⟩⟩, hw.q, hw.mp, hw.sl, hw.rg, hw.tree, hw.marks, hw.thr, hw.ent, hw.rtk⟩, h.srt, h.tks⟩
theorem bytes_rawE (e : Sqe) : Bytes (rawE e) := by
  unfold rawE; split
  · exact partE_bytes e 6
  · exact fun x hx => by cases hx
/-! ### plain: entries laid into a ring -/
def layE : Nat → List Sqe → KS → KS
  | _, [], s => s
  | i, e :: es, s => layE (i + 1) es (memS s 4 (16 + 32 * i) (rawE e))
theorem EInv.lay {p : Sqe → Bool} : ∀ (es : List Sqe) {i : Nat} {s : KS} {N M : Nat}, EInv p s N M → i + es.length ≤ 8 → EInv p (layE i es s) N M
  | [], _, _, _, _, h, _ => h
  | e :: es, i, s, N, M, h, hi => by
    rw [List.length_cons] at hi
    exact EInv.lay es (h.memS (u := 4) (off := 16 + 32 * i) (ys := rawE e) (by omega) (by have := rawE_len e; omega) (bytes_rawE e)) (by omega)
/-! ### plain: a drain, reckoned -/
abbrev nopE (i : Nat) : Sqe := ⟨1, 0, (i : Int), 0, 0, 0, 0, 0⟩
/-! ### plain: requests of one ring, in a row -/
def pairsQ (l : List Rq) : List (ID × Rq) := l.map fun q => (q.id, q)
/-- Nobody waits anywhere; the ring 4 is somebody's. -/
structure Quiet (s : KS) (T : Th) : Prop where
  tm : s.tm = []
  ep : s.ep = []
  nt : s.nt = []
  rp : ∀ x ∈ s.rp, x.2.2.2 = false
  ow : kOwner s 4 = some T
/-- A ring with room for completions, t of them there. -/
def RM (X : List Int) (hd : Int) (RG : List (Int × Nat × Rg)) (MS : List (List Int)) (t : Nat) : Prop := ∃ b r, RG = [(4, b, r)] ∧ r.over = [] ∧ r.tail = (t : Int) ∧ r.cb = 4 ∧ r.cq = 6 ∧ RgOk r ∧ MemOk MS ∧ getN (rowAt MS 6) 0 4 = 0 ∧ r.head = hd ∧ r.sq = 5 ∧ r.sb = 3 ∧ rowAt MS 5 = X
variable {X5 : List Int} {hd5 : Int}
def At (s : KS) (rs : List Rq) (js : List Deed) (RG : List (Int × Nat × Rg)) (MS : List (List Int)) : KS := { s with rt := pairsQ rs, jn := js, rg := RG, mem := MS }
variable {RG : List (Int × Nat × Rg)} {MS : List (List Int)} {t : Nat} {d : Deed}
theorem RM.post (h : RM X5 hd5 RG MS t) (ht : t < 16) (hd : d.1.1 = 4) (s : KS) : ∃ RG' MS', RM X5 hd5 RG' MS' (t + 1) ∧ kPost { s with rg := RG, mem := MS } d = { s with rg := RG', mem := MS' } := by
  obtain ⟨b, r, rfl, h2, h3, h4, h5, h6, h7, h8, h9, h10, h11, h12⟩ := h
  have hok := rdy_ok (ms := MS) h2 h3 h4 (by rw [h5]; exact h8) ⟨by omega, by omega⟩
  have hl : look (KS.rg { s with rg := [(4, b, r)], mem := MS }) d.1.1 = some (b, r) := by rw [hd]; rfl
  refine ⟨[(4, b, postR r MS (ofD d))], postM r MS (ofD d), ⟨b, _, rfl, ?_⟩, ?_⟩
  · refine ⟨by unfold postR; rw [hok]; exact h2, ?_, by unfold postR; rw [hok]; exact h4, by unfold postR; rw [hok]; exact h5, postR_ok h6 _, postM_ok h6 h7 _, ?_, by unfold postR; rw [hok]; exact h9, by unfold postR; rw [hok]; exact h10, by unfold postR; rw [hok]; exact h11, ?_⟩
    · unfold postR; rw [hok]
      show IntKind.u32.wrap (r.tail + 1) = _
      rw [h3, wrap32u_of (by omega)]; omega
    · unfold postM; rw [hok, if_pos rfl, h5, rowAt_set (by omega) (by omega) h7.len, if_pos rfl, getN_row h6 h7, h5]; exact h8
    · unfold postM; rw [hok, if_pos rfl, h5, rowAt_set (by omega) (by omega) h7.len, if_neg (by decide)]; exact h12
  · rw [kPost_some hl, hd]
    unfold updO
    simp
variable {T : Th} {rs : List Rq} {js : List Deed}
theorem At.forget (h : Quiet s T) (i : ID) : kForget (At s rs js RG MS) i = At s rs js RG MS := by
 have e : allO (rpD i) s.rp = s.rp := by
  unfold allO
  conv => rhs; rw [← List.map_id s.rp]
  refine List.map_congr_left fun x hx => ?_
  obtain ⟨u, b, c⟩ := x
  have := h.rp _ hx
  show (u, b, cDrop c i) = (u, b, c)
  unfold cDrop
  rw [if_neg (fun e => by simp only at this; rw [this] at e; cases e.1)]
 show ({ At s rs js RG MS with tm := tdrop s.tm i, ep := allO (epD i) s.ep, nt := allO (ntD i) s.nt, rp := allO (rpD i) s.rp } : KS) = _
 rw [h.tm, h.ep, h.nt, e]
 unfold At
 cases s
 simp only at *
 obtain ⟨h1, h2, h3, _, _⟩ := h
 simp only at h1 h2 h3
 subst h1; subst h2; subst h3
 rfl
theorem At.tell (h : Quiet s T) (hm : RM X5 hd5 RG MS t) (ht : t < 16) (hd : d.1.1 = 4) : ∃ RG' MS', RM X5 hd5 RG' MS' (t + 1) ∧ kTell D (At s rs js RG MS) d = At s rs (js ++ [d]) RG' MS' := by
  obtain ⟨RG', MS', h1, h2⟩ := hm.post ht hd { s with rt := pairsQ rs, jn := js ++ [d] }
  refine ⟨RG', MS', h1, ?_⟩
  have hs : kSaid (At s rs js RG MS) d = At s rs (js ++ [d]) RG' MS' := h2
  unfold kTell
  rw [hs, show look (KS.nt (At s rs (js ++ [d]) RG' MS')) (kBell (At s rs (js ++ [d]) RG' MS') d.1.1).1 = none from by rw [show KS.nt (At s rs (js ++ [d]) RG' MS') = s.nt from rfl, h.nt]; rfl]
theorem sortF_id : ∀ {xs : List Rq}, (xs.Pairwise fun a b => a.id.2 < b.id.2) → sortF cmpQ xs = xs
  | [], _ => rfl
  | x :: xs, h => by
    obtain ⟨h1, h2⟩ := List.pairwise_cons.1 h
    show insF cmpQ x (sortF cmpQ xs) = _
    rw [sortF_id h2]
    cases xs with
    | nil => rfl
    | cons y ys =>
      unfold insF
      have := h1 y (List.mem_cons_self)
      rw [if_neg (by rw [cmpQ_lt]; simp; omega)]
/-- A row of requests of ring 4, by rising numbers. -/
structure Row (l : List Rq) : Prop where
  ring : ∀ q ∈ l, q.id.1 = 4
  up : l.Pairwise fun a b => a.id.2 < b.id.2
variable {l : List Rq}
theorem Row.tail (h : Row (q :: l)) : Row l := ⟨fun x hx => h.ring x (List.mem_cons_of_mem _ hx), (List.pairwise_cons.1 h.up).2⟩
theorem Row.head {q' : Rq} (h : Row (q :: l)) (hi : q'.id = q.id) : Row (q' :: l) := ⟨fun x hx => by
  rcases List.mem_cons.1 hx with rfl | hx
  · rw [hi]; exact h.ring q (List.mem_cons_self)
  · exact h.ring x (List.mem_cons_of_mem _ hx), List.pairwise_cons.2 ⟨fun x hx => by rw [hi]; exact (List.pairwise_cons.1 h.up).1 x hx, (List.pairwise_cons.1 h.up).2⟩⟩
theorem Row.of (h : Row l) : ofQ (pairsQ l) 4 = l := by
  have e : ofRing (pairsQ l) 4 = l := by
    unfold ofRing pairsQ
    rw [List.filter_eq_self.2 fun e he => by
      obtain ⟨q, hq, rfl⟩ := List.mem_map.1 he
      simpa using h.ring q hq, List.map_map]
    conv => rhs; rw [← List.map_id l]
    rfl
  unfold ofQ
  rw [e, sortF_id h.up]
theorem pairs_look : look (pairsQ (q :: l)) q.id = some q := by
  show look ((q.id, q) :: pairsQ l) q.id = _
  rw [look_cons, if_pos rfl]
theorem pairs_none {i : ID} (h : ∀ q ∈ l, q.id ≠ i) : look (pairsQ l) i = none := by
  rw [look_none_iff]
  intro hm
  obtain ⟨e, he, h2⟩ := List.mem_map.1 hm
  obtain ⟨q, hq, rfl⟩ := List.mem_map.1 he
  exact h q hq h2
theorem Row.ne (h : Row (q :: l)) : ∀ x ∈ l, x.id ≠ q.id := fun x hx e => by
  have := (List.pairwise_cons.1 h.up).1 x hx
  rw [e] at this; omega
theorem Row.del (h : Row (q :: l)) : del (pairsQ (q :: l)) q.id = pairsQ l := by
  show List.filter (fun e => !decide (e.1 = q.id)) ((q.id, q) :: pairsQ l) = _
  rw [List.filter_cons, if_neg (by simp)]
  exact List.filter_eq_self.2 fun e he => by
    obtain ⟨x, hx, rfl⟩ := List.mem_map.1 he
    simpa using h.ne x hx
theorem Row.start (h : Row (q :: l)) : rtS (pairsQ (q :: l)) q.id = pairsQ ({ q with started := true } :: l) := by
  unfold rtS
  rw [pairs_look]
  show Go.Pse.ins (pairsQ (q :: l)) q.id { q with started := true } = _
  unfold Go.Pse.ins
  rw [if_pos (by rw [pairs_look]; rfl)]
  show List.map _ ((q.id, q) :: pairsQ l) = (q.id, { q with started := true }) :: pairsQ l
  rw [List.map_cons, if_pos rfl]
  congr 1
  conv => rhs; rw [← List.map_id (pairsQ l)]
  refine List.map_congr_left fun e he => ?_
  obtain ⟨x, hx, rfl⟩ := List.mem_map.1 he
  rw [if_neg (h.ne x hx)]; rfl
variable {X5 : List Int} {hd5 : Int}
theorem pairs_app {a b : List Rq} : pairsQ (a ++ b) = pairsQ a ++ pairsQ b := by unfold pairsQ; rw [List.map_append]
section
variable {s : KS} {T : Th} (hQ : Quiet s T)
include hQ
end
/-- All that is asked of a state in which the thread 2 enters, with t entries behind it. -/
structure Mid (S : KS) (b : Nat) (r : Rg) (t : Nat) : Prop where
  th : ∃ T, look S.th 2 = some T ∧ T.ring = 4 ∧ Quiet S T
  rg : S.rg = [(4, b, r)]
  rt : S.rt = []
  tk : S.tk = [(4, (t : Int))]
  rm : RM (rowAt S.mem 5) r.head S.rg S.mem t
  wt : rgWaitOk r S.mem = true
variable {S : KS} {m : Nat}
/-- The ring as it stands, and how many are taken. -/
theorem Mid.look {b : Nat} (hF : Mid S b r t) {n : Int} (hm : minI (rgWait r S.mem) (clampB n) = (m : Int)) : flushR r S.mem = (r, S.mem) ∧ flushS S 4 r = S ∧ takeN S 4 (clampB n) r = (m : Int) ∧ m ≤ (clampB n).toNat ∧ m ≤ 8 := by
  obtain ⟨b', r', hrg, h2, h3, h4, h5, h6, h7, h8, _⟩ := hF.rm
  have e := hrg.symm.trans hF.rg
  cases e
  have hov : flushR r S.mem = (r, S.mem) := by
    unfold flushR
    rw [h2]
    show ({ r with over := [] }, S.mem) = _
    cases r; simp only at h2; subst h2; rfl
  have hmw := rgWait_in (ms := S.mem) h6
  have hm8 : m ≤ 8 ∧ m ≤ (clampB n).toNat := by
    unfold minI at hm
    split at hm <;> omega
  refine ⟨hov, ?_, ?_, hm8.2, hm8.1⟩
  · unfold flushS
    rw [hF.rg, hov]
    have : updO [((4 : Int), b, r)] 4 (fun r => (flushR r S.mem).1) = [(4, b, (flushR r S.mem).1)] := rfl
    rw [this, hov]
    have h := hF.rg
    cases S; simp only at h; subst h; rfl
  · unfold takeN
    rw [hm, hF.rt, show (ofQ [] 4).length = 0 from rfl]
    unfold minI maxI
    (repeat' split) <;> omega
/-! ### plain: what stands in a ring's memory -/
theorem get_same {a : Nat} (h : a + ys.length ≤ bs.length) : ((putB bs a ys).drop a).take ys.length = ys := by
  unfold putB
  rw [List.append_assoc, List.drop_left' (by rw [List.length_take]; omega)]
  exact List.take_left' Z
theorem get_far {a o n : Nat} (h : a + ys.length ≤ bs.length) (hf : o + n ≤ a ∨ a + ys.length ≤ o) : ((putB bs a ys).drop o).take n = (bs.drop o).take n := by
  refine List.ext_getElem? fun i => ?_
  by_cases hi : i < n
  · rw [List.getElem?_take_of_lt hi, List.getElem?_take_of_lt hi, List.getElem?_drop, List.getElem?_drop]
    unfold putB
    rcases hf with hf | hf
    · rw [List.append_assoc, List.getElem?_append_left (by rw [List.length_take]; omega), List.getElem?_take_of_lt (by omega)]
    · rw [List.getElem?_append_right (by simp; omega), List.getElem?_drop]
      congr 1
      simp
      omega
  · rw [List.getElem?_eq_none (by simp; omega), List.getElem?_eq_none (by simp; omega)]
theorem getN_of {cs : List Int} {a b : Nat} (h : (bs.drop a).take 4 = (cs.drop b).take 4) : getN bs a 4 = getN cs b 4 := by
  rw [← getN_part (bs := bs), ← getN_part (bs := cs), h]
theorem getN_le4 {n : Int} (h : 0 ≤ n ∧ n < 4294967296) : getN (le4 n) 0 4 = n := by
  simp only [getN, byteAt, le4]
  simp
  omega
theorem getN_put {a : Nat} {n : Int} (hl : a + 4 ≤ bs.length) (h : 0 ≤ n ∧ n < 4294967296) : getN (putB bs a (le4 n)) a 4 = n := by
  rw [getN_of (cs := le4 n) (b := 0) (by
    have := get_same (bs := bs) (ys := le4 n) (a := a) (by show a + 4 ≤ _; exact hl)
    rw [show (le4 n).length = 4 from rfl] at this
    rw [this]; rfl), getN_le4 h]
/-! ### plain: a ring told by numbers -/
theorem p2n (k : Nat) : (2 : Int) ^ ((k : Int)).toNat = ((2 ^ k : Nat) : Int) := by rw [Int.toNat_natCast]; simp
theorem mod_ne {j : Nat} (h1 : j < t) (h2 : t < j + m) : j % m ≠ t % m := fun e => by
  have h := Nat.sub_mod_eq_zero_of_mod_eq e.symm
  rw [Nat.mod_eq_of_lt (by omega)] at h
  omega
theorem pw_pos (k : Nat) : 0 < 2 ^ k := Nat.pow_pos (by decide)
variable {k : Nat}
theorem pw_le (h : k ≤ n) : 2 ^ k ≤ 2 ^ n := Nat.pow_le_pow_right (by decide) h
/-- The ring 4, told by numbers: tk taken, tl written, P posted. -/
def rgW (sb cb : Nat) (C : Nat → Cqe) (tk tl P : Nat) : Rg := ⟨5, 6, (sb : Int), (cb : Int), (tk : Int), (tl : Int), (List.range (P - tl)).map fun i => C (tl + i)⟩
/-- .. and its memory: lay laid, sent of them told, hd read; X: the entries' bytes; C: the completions. -/
structure RW (sb cb : Nat) (X : Nat → List Int) (C : Nat → Cqe) (sent lay tk hd tl P : Nat) (MS : List (List Int)) : Prop where
  sz : sb ≤ 3 ∧ cb ≤ 4
  mem : MemOk MS
  sw : getN (rowAt MS 5) 4 4 = (sent : Int)
  hw : getN (rowAt MS 6) 0 4 = (hd : Int)
  num : tk ≤ sent ∧ sent ≤ lay ∧ lay ≤ tk + 2 ^ sb ∧ hd ≤ tl ∧ tl ≤ hd + 2 ^ cb ∧ tl ≤ P ∧ lay ≤ 1000000 ∧ P ≤ 1000000
  ent : ∀ j, tk ≤ j → j < lay → ((rowAt MS 5).drop (16 + 32 * (j % 2 ^ sb))).take 32 = X j
  cmp : ∀ j, hd ≤ j → j < tl → ((rowAt MS 6).drop (16 + 16 * (j % 2 ^ cb))).take 16 = bytesX (C j)
section
variable {sb cb : Nat} {X : Nat → List Int} {C : Nat → Cqe} {sent lay tk hd tl P : Nat} {MS : List (List Int)}
theorem RW.sbP (h : RW sb cb X C sent lay tk hd tl P MS) : 2 ^ sb ≤ 8 := pw_le h.sz.1
theorem RW.cbP (h : RW sb cb X C sent lay tk hd tl P MS) : 2 ^ cb ≤ 16 := pw_le h.sz.2
theorem RW.ok (h : RW sb cb X C sent lay tk hd tl P MS) : RgOk (rgW sb cb C tk tl P) := by
  have := h.sz; have := h.num
  exact ⟨by show (1 : Int) ≤ 5 ∧ (5 : Int) ≤ 64; omega, by show (1 : Int) ≤ 6 ∧ (6 : Int) ≤ 64; omega, by show (0 : Int) ≤ (cb : Int) ∧ (cb : Int) ≤ 4; omega, by show (0 : Int) ≤ (tl : Int) ∧ (tl : Int) < _; omega, by show (0 : Int) ≤ (sb : Int) ∧ (sb : Int) ≤ 3; omega, by show (0 : Int) ≤ (tk : Int) ∧ (tk : Int) < _; omega⟩
theorem RW.near (h : RW sb cb X C sent lay tk hd tl P MS) : rgNear (rgW sb cb C tk tl P) MS = ((sent - tk : Nat) : Int) ∧ rgWaitOk (rgW sb cb C tk tl P) MS = true := by
  have hn := h.num
  have e : rgNear (rgW sb cb C tk tl P) MS = ((sent - tk : Nat) : Int) := by
    unfold rgNear
    show IntKind.u32.wrap (getN (rowAt MS 5) 4 4 - (tk : Int)) = _
    rw [h.sw, wrap32u_of (by omega)]; omega
  refine ⟨e, ?_⟩
  unfold rgWaitOk
  rw [e]
  show (!decide (_ > (2 : Int) ^ ((sb : Int)).toNat)) = true
  rw [p2n, decide_eq_false (by omega)]; rfl
theorem RW.wait (h : RW sb cb X C sent lay tk hd tl P MS) : rgWait (rgW sb cb C tk tl P) MS = ((sent - tk : Nat) : Int) := by
  unfold rgWait
  rw [h.near.2, if_pos rfl, h.near.1]
variable {P' : Nat}
theorem RW.far (h : RW sb cb X C sent lay tk hd tl P MS) {tk' : Nat} : rgFar (rgW sb cb C tk' tl P') MS = ((tl - hd : Nat) : Int) ∧ rgRoomOk (rgW sb cb C tk' tl P') MS = true ∧ rgWrOk (rgW sb cb C tk' tl P') MS = decide (tl < hd + 2 ^ cb) := by
  have hn := h.num
  have e : rgFar (rgW sb cb C tk' tl P') MS = ((tl - hd : Nat) : Int) := by
    unfold rgFar
    show IntKind.u32.wrap ((tl : Int) - getN (rowAt MS 6) 0 4) = _
    rw [h.hw, wrap32u_of (by omega)]; omega
  refine ⟨e, ?_, ?_⟩
  · unfold rgRoomOk
    rw [e]
    show (!decide (_ > (2 : Int) ^ ((cb : Int)).toNat)) = true
    rw [p2n, decide_eq_false (by omega)]; rfl
  · unfold rgWrOk
    rw [e]
    show decide (_ < (2 : Int) ^ ((cb : Int)).toNat) = _
    rw [p2n, decide_eq_decide]; omega
theorem RW.valid (h : RW sb cb X C sent lay tk hd tl P MS) : rgValid (rgW sb cb C tk tl P) MS = true := by
  unfold rgValid
  rw [h.near.2, h.far.2.1]; rfl
theorem RW.room (h : RW sb cb X C sent lay tk hd tl P MS) : rgRoom (rgW sb cb C tk tl P) MS = ((hd + 2 ^ cb - tl : Nat) : Int) := by
  have hn := h.num
  unfold rgRoom
  rw [h.far.1]
  show (if _ > (2 : Int) ^ ((cb : Int)).toNat then (0 : Int) else (2 : Int) ^ ((cb : Int)).toNat - _) = _
  rw [p2n, if_neg (by omega)]; omega
theorem RW.fetch (h : RW sb cb X C sent lay tk hd tl P MS) (hk : tk + k < lay) : fetchB (rgW sb cb C tk tl P) MS k = X (tk + k) := by
  have hn := h.num
  have hp := h.sbP
  unfold fetchB
  show ((rowAt MS 5).drop (16 + IntKind.u32.wrap ((tk : Int) + IntKind.u32.wrap (k : Int)) % (2 : Int) ^ ((sb : Int)).toNat * 32).toNat).take 32 = _
  rw [wrap32u_of (a := (k : Int)) (by omega), wrap32u_of (by omega), p2n, ← h.ent (tk + k) (by omega) hk]
  congr 2
  have : ((tk : Int) + (k : Int)) % ((2 ^ sb : Nat) : Int) = (((tk + k) % 2 ^ sb : Nat) : Int) := by rw [Int.natCast_emod]; simp
  rw [this]; omega
theorem RW.raw (h : RW sb cb X C sent lay tk hd tl P MS) (hs : s.mem = MS) (hm : tk + m ≤ lay) : takeRaw s (rgW sb cb C tk tl P) m = (List.range m).map fun k => X (tk + k) := by
  unfold takeRaw
  refine List.map_congr_left fun k hk => ?_
  rw [hs]
  exact h.fetch (by have := List.mem_range.1 hk; omega)
/-- More is posted than there is room for. -/
theorem RW.more (h : RW sb cb X C sent lay tk hd tl P MS) (hp : tl ≤ P') (hP : P' ≤ 1000000) : RW sb cb X C sent lay tk hd tl P' MS := ⟨h.sz, h.mem, h.sw, h.hw, ⟨h.num.1, h.num.2.1, h.num.2.2.1, h.num.2.2.2.1, h.num.2.2.2.2.1, hp, h.num.2.2.2.2.2.2.1, hP⟩, h.ent, h.cmp⟩
theorem RW.rows (h : RW sb cb X C sent lay tk hd tl P MS) {u : Int} (hu : 1 ≤ u ∧ u ≤ 64) {r : List Int} (c : Int) (hc : 1 ≤ c) : rowAt (MS.set (u - 1).toNat r) c = if c = u then r else rowAt MS c := rowAt_set hu hc h.mem.len
/-- A completion is written. -/
theorem RW.wr (h : RW sb cb X C sent lay tk hd tl P MS) (hr : tl < hd + 2 ^ cb) (hP : tl < P) {tk' : Nat} : RW sb cb X C sent lay tk hd (tl + 1) P (MS.set ((6 : Int) - 1).toNat (rgRow (rgW sb cb C tk' tl P') MS (C tl))) := by
  have hn := h.num
  have hp := h.cbP
  have hpp := pw_pos cb
  obtain ⟨_, r2, r3⟩ := h.mem.at (u := 6) (by omega)
  have hx : (bytesX (C tl)).length = 16 := rfl
  have ho : (16 + (tl : Int) % ((2 ^ cb : Nat) : Int) * 16).toNat = 16 + 16 * (tl % 2 ^ cb) := by
    have : (tl : Int) % ((2 ^ cb : Nat) : Int) = ((tl % 2 ^ cb : Nat) : Int) := by rw [Int.natCast_emod]
    rw [this]; omega
  have hrow : rgRow (rgW sb cb C tk' tl P') MS (C tl) = putB (putB (rowAt MS 6) (16 + 16 * (tl % 2 ^ cb)) (bytesX (C tl))) 4 (le4 ((tl : Int) + 1)) := by
    unfold rgRow
    show putB (putB (rowAt MS 6) (16 + (tl : Int) % (2 : Int) ^ ((cb : Int)).toNat * 16).toNat (bytesX (C tl))) 4 (le4 (IntKind.u32.wrap ((tl : Int) + 1))) = _
    rw [p2n, ho, wrap32u_of (by omega)]
  have hm := Nat.mod_lt tl hpp
  have hin : 16 + 16 * (tl % 2 ^ cb) + (bytesX (C tl)).length ≤ (rowAt MS 6).length := by omega
  have hl1 : (putB (rowAt MS 6) (16 + 16 * (tl % 2 ^ cb)) (bytesX (C tl))).length = 512 := by rw [putB_len hin, r2]
  have hl4 : ((le4 ((tl : Int) + 1))).length = 4 := rfl
  have R := h.rows (u := 6) (by omega) (r := rgRow (rgW sb cb C tk' tl P') MS (C tl))
  have e5 := R 5 (by omega)
  rw [if_neg (by decide)] at e5
  have e6 := (R 6 (by omega)).trans (by rw [if_pos rfl, hrow])
  refine ⟨h.sz, h.mem.put ⟨by rw [hrow, putB_len (by omega), hl1], by rw [hrow]; exact putB_bytes (putB_bytes r3 (bytesX_bytes _)) (le4_bytes _)⟩, by rw [e5]; exact h.sw, ?_, ⟨hn.1, hn.2.1, hn.2.2.1, by omega, by omega, by omega, by omega, by omega⟩, fun j h1 h2 => by rw [e5]; exact h.ent j h1 h2, fun j h1 h2 => ?_⟩
  · rw [e6, ← h.hw]
    refine getN_of ?_
    rw [get_far (by omega) (.inl (by omega)), get_far hin (.inl (by omega))]
  · have hj := Nat.mod_lt j hpp
    rw [e6, get_far (by omega) (.inr (by omega))]
    by_cases hjt : j = tl
    · subst hjt
      have := get_same hin
      rw [hx] at this
      exact this
    · have hne := mod_ne (m := 2 ^ cb) (j := j) (t := tl) (by omega) (by omega)
      rw [get_far hin (by omega), h.cmp j h1 (by omega)]
/-- One is posted. -/
theorem RW.post (h : RW sb cb X C sent lay tk hd tl P MS) (hP : P < 1000000) : ∃ tl' MS', tl' = (if P = tl ∧ tl < hd + 2 ^ cb then tl + 1 else tl) ∧ RW sb cb X C sent lay tk hd tl' (P + 1) MS' ∧ postR (rgW sb cb C tk tl P) MS (C P) = rgW sb cb C tk tl' (P + 1) ∧ postM (rgW sb cb C tk tl P) MS (C P) = MS' := by
  have hn := h.num
  have hw := (h.far (tk' := tk) (P' := P)).2.2
  have he : (rgW sb cb C tk tl P).over.isEmpty = decide (P = tl) := by
    show ((List.range (P - tl)).map fun i => C (tl + i)).isEmpty = _
    by_cases e : P = tl
    · rw [e, Nat.sub_self, decide_eq_true rfl]; rfl
    · rw [decide_eq_false e]
      obtain ⟨k, hk⟩ : ∃ k, P - tl = k + 1 := ⟨P - tl - 1, by omega⟩
      rw [hk, List.range_succ_eq_map]; rfl
  unfold postR postM postOk
  rw [he, hw]
  by_cases hc : P = tl ∧ tl < hd + 2 ^ cb
  · rw [decide_eq_true hc.1, decide_eq_true hc.2]
    obtain ⟨rfl, hr⟩ := hc
    refine ⟨P + 1, _, by rw [if_pos ⟨rfl, hr⟩], (h.more (P' := P + 1) (by omega) (by omega)).wr hr (by omega) (tk' := tk) (P' := P), ?_, rfl⟩
    show ({ rgW sb cb C tk P P with tail := IntKind.u32.wrap ((P : Int) + 1) } : Rg) = _
    rw [wrap32u_of (by omega)]
    unfold rgW
    rw [Nat.sub_self, Nat.sub_self]; rfl
  · have hf : (decide (P = tl) && decide (tl < hd + 2 ^ cb)) = false := by
      rw [Bool.and_eq_false_iff, decide_eq_false_iff_not, decide_eq_false_iff_not]
      exact Decidable.not_and_iff_or_not.1 hc
    rw [hf]
    refine ⟨tl, MS, by rw [if_neg hc], h.more (by omega) (by omega), ?_, rfl⟩
    unfold rgW
    show (⟨_, _, _, _, _, _, ((List.range (P - tl)).map fun i => C (tl + i)) ++ [C P]⟩ : Rg) = _
    rw [show P + 1 - tl = (P - tl) + 1 by omega, List.range_succ, List.map_append, List.map_singleton, show tl + (P - tl) = P by omega]
/-- Those that wait are written, as long as there is room. -/
theorem RW.flushX : ∀ (n : Nat) {tl : Nat} {MS : List (List Int)} {r : Rg}, RW sb cb X C sent lay tk hd tl (tl + n) MS → r = { rgW sb cb C tk tl (tl + n) with over := r.over } → ∃ MS', RW sb cb X C sent lay tk hd (min (tl + n) (hd + 2 ^ cb)) (tl + n) MS' ∧ flushX r MS ((List.range n).map fun i => C (tl + i)) = (rgW sb cb C tk (min (tl + n) (hd + 2 ^ cb)) (tl + n), MS')
  | 0, tl, MS, r, h, hr => by
    have hn := h.num
    refine ⟨MS, ?_, ?_⟩
    · rw [show min (tl + 0) (hd + 2 ^ cb) = tl by omega]; exact h
    · rw [hr]
      show ({ rgW sb cb C tk tl (tl + 0) with over := [] }, MS) = _
      rw [show min (tl + 0) (hd + 2 ^ cb) = tl by omega]
      unfold rgW
      rw [show tl + 0 - tl = 0 by omega]; rfl
  | n + 1, tl, MS, r, h, hr => by
    have hn := h.num
    have hw := (h.far (tk' := tk) (P' := tl + (n + 1))).2.2
    have hw2 : rgWrOk r MS = decide (tl < hd + 2 ^ cb) := by rw [hr]; exact hw
    have hl : (List.range (n + 1)).map (fun i => C (tl + i)) = C tl :: (List.range n).map fun i => C (tl + 1 + i) := by
      rw [List.range_succ_eq_map, List.map_cons, List.map_map]
      congr 1
      refine List.map_congr_left fun i _ => ?_
      show C (tl + (i + 1)) = _
      rw [show tl + (i + 1) = tl + 1 + i by omega]
    rw [hl]
    unfold Go.Pse.flushX
    rw [hw2]
    by_cases hc : tl < hd + 2 ^ cb
    · rw [decide_eq_true hc, if_pos rfl]
      have h1 := h.wr hc (by omega) (tk' := tk) (P' := tl + (n + 1))
      rw [show tl + (n + 1) = tl + 1 + n by omega] at h1 ⊢
      obtain ⟨MS', g1, g2⟩ := RW.flushX n (r := rgUp r) h1 (by
        rw [hr]
        show ({ rgW sb cb C tk tl (tl + (n + 1)) with over := r.over, tail := IntKind.u32.wrap ((tl : Int) + 1) } : Rg) = _
        rw [wrap32u_of (by omega)]; rfl)
      refine ⟨MS', g1, ?_⟩
      rw [hr] at g2 ⊢
      exact g2
    · rw [decide_eq_false hc, if_neg (by decide)]
      refine ⟨MS, ?_, ?_⟩
      · rw [show min (tl + (n + 1)) (hd + 2 ^ cb) = tl by omega]; exact h
      · rw [hr, ← hl, show min (tl + (n + 1)) (hd + 2 ^ cb) = tl by omega]
        unfold rgW
        rw [show tl + (n + 1) - tl = n + 1 by omega]
theorem RW.flush (h : RW sb cb X C sent lay tk hd tl P MS) : ∃ MS', RW sb cb X C sent lay tk hd (min P (hd + 2 ^ cb)) P MS' ∧ flushR (rgW sb cb C tk tl P) MS = (rgW sb cb C tk (min P (hd + 2 ^ cb)) P, MS') := by
  obtain ⟨n, rfl⟩ : ∃ n, P = tl + n := ⟨P - tl, by have := h.num; omega⟩
  obtain ⟨MS', g1, g2⟩ := RW.flushX n (r := rgW sb cb C tk tl (tl + n)) h rfl
  refine ⟨MS', g1, ?_⟩
  unfold flushR
  rw [show (rgW sb cb C tk tl (tl + n)).over = (List.range n).map fun i => C (tl + i) by unfold rgW; dsimp only; rw [show tl + n - tl = n by omega]]
  exact g2
/-- A row of the ring's entries, changed where no entry stands. -/
theorem RW.put5 (h : RW sb cb X C sent lay tk hd tl P MS) {o : Nat} (ho : o + ys.length ≤ 512) (hy : Bytes ys) : MemOk (MS.set ((5 : Int) - 1).toNat (putB (rowAt MS 5) o ys)) ∧ rowAt (MS.set ((5 : Int) - 1).toNat (putB (rowAt MS 5) o ys)) 5 = putB (rowAt MS 5) o ys ∧ rowAt (MS.set ((5 : Int) - 1).toNat (putB (rowAt MS 5) o ys)) 6 = rowAt MS 6 ∧ (rowAt MS 5).length = 512 := by
  obtain ⟨_, r2, r3⟩ := h.mem.at (u := 5) (by omega)
  have R := h.rows (u := 5) (by omega) (r := putB (rowAt MS 5) o ys)
  have e5 := R 5 (by omega)
  rw [if_pos rfl] at e5
  have e6 := R 6 (by omega)
  rw [if_neg (by decide)] at e6
  exact ⟨h.mem.put ⟨by rw [putB_len (by omega), r2], putB_bytes r3 hy⟩, e5, e6, r2⟩
theorem RW.adv (h : RW sb cb X C sent lay tk hd tl P MS) (hk : tk + n ≤ sent) : RW sb cb X C sent lay (tk + n) hd tl P (advM (rgW sb cb C tk tl P) MS (n : Int)) ∧ advR (rgW sb cb C tk tl P) (n : Int) = rgW sb cb C (tk + n) tl P := by
  have hn := h.num
  have ea : advR (rgW sb cb C tk tl P) (n : Int) = rgW sb cb C (tk + n) tl P := by
    unfold advR rgW
    dsimp only
    rw [wrap32u_of (a := (n : Int)) (by omega), wrap32u_of (by omega)]
    congr 1
  refine ⟨?_, ea⟩
  unfold advM
  rw [ea]
  show RW sb cb X C sent lay (tk + n) hd tl P (MS.set ((5 : Int) - 1).toNat (putB (rowAt MS 5) 0 (le4 ((tk + n : Nat) : Int))))
  obtain ⟨g1, g2, g3, g4⟩ := h.put5 (o := 0) (ys := le4 ((tk + n : Nat) : Int)) (by show 0 + 4 ≤ 512; omega) (le4_bytes _)
  have hl : (le4 ((tk + n : Nat) : Int)).length = 4 := rfl
  refine ⟨h.sz, g1, ?_, by rw [g3]; exact h.hw, ⟨hk, by omega⟩, fun j h1 h2 => ?_, fun j h1 h2 => by rw [g3]; exact h.cmp j h1 h2⟩
  · rw [g2, ← h.sw]
    exact getN_of (get_far (by omega) (.inr (by omega)))
  · rw [g2, get_far (by omega) (.inr (by omega))]
    exact h.ent j (by omega) h2
/-- An entry is laid. -/
theorem RW.layE (h : RW sb cb X C sent lay tk hd tl P MS) (hr : lay < tk + 2 ^ sb) (hl : lay < 1000000) (hy : ys = X lay) (hy2 : ys.length = 32 ∧ Bytes ys) : RW sb cb X C sent (lay + 1) tk hd tl P (MS.set ((5 : Int) - 1).toNat (putB (rowAt MS 5) (16 + 32 * (lay % 2 ^ sb)) ys)) := by
  have hn := h.num
  have hp := h.sbP
  have hpp := pw_pos sb
  have hm := Nat.mod_lt lay hpp
  obtain ⟨g1, g2, g3, g4⟩ := h.put5 (o := 16 + 32 * (lay % 2 ^ sb)) (ys := ys) (by omega) hy2.2
  refine ⟨h.sz, g1, ?_, by rw [g3]; exact h.hw, ⟨hn.1, by omega⟩, fun j h1 h2 => ?_, fun j h1 h2 => by rw [g3]; exact h.cmp j h1 h2⟩
  · rw [g2, ← h.sw]
    exact getN_of (get_far (by omega) (.inl (by omega)))
  · rw [g2]
    have hj := Nat.mod_lt j hpp
    by_cases hjl : j = lay
    · subst hjl
      have := get_same (bs := rowAt MS 5) (ys := ys) (a := 16 + 32 * (j % 2 ^ sb)) (by omega)
      rw [hy2.1] at this
      rw [this, hy]
    · have hne := mod_ne (m := 2 ^ sb) (j := j) (t := lay) (by omega) (by omega)
      rw [get_far (by omega) (by omega), h.ent j h1 (by omega)]
/-- What is laid is told. -/
theorem RW.tell (h : RW sb cb X C sent lay tk hd tl P MS) (hk : tk ≤ n ∧ n ≤ lay) : RW sb cb X C n lay tk hd tl P (MS.set ((5 : Int) - 1).toNat (putB (rowAt MS 5) 4 (le4 (n : Int)))) := by
  have hn := h.num
  obtain ⟨g1, g2, g3, g4⟩ := h.put5 (o := 4) (ys := le4 (n : Int)) (by show 4 + 4 ≤ 512; omega) (le4_bytes _)
  have hl : (le4 (n : Int)).length = 4 := rfl
  refine ⟨h.sz, g1, by rw [g2, getN_put (by omega) (by omega)], by rw [g3]; exact h.hw, ⟨hk.1, hk.2, by omega⟩, fun j h1 h2 => ?_, fun j h1 h2 => by rw [g3]; exact h.cmp j h1 h2⟩
  rw [g2, get_far (by omega) (.inr (by omega))]
  exact h.ent j h1 h2
/-- Completions are read. -/
theorem RW.read (h : RW sb cb X C sent lay tk hd tl P MS) (hk : hd ≤ n ∧ n ≤ tl) : RW sb cb X C sent lay tk n tl P (MS.set ((6 : Int) - 1).toNat (putB (rowAt MS 6) 0 (le4 (n : Int)))) := by
  have hn := h.num
  obtain ⟨_, r2, r3⟩ := h.mem.at (u := 6) (by omega)
  have R := h.rows (u := 6) (by omega) (r := putB (rowAt MS 6) 0 (le4 (n : Int)))
  have e5 := R 5 (by omega)
  rw [if_neg (by decide)] at e5
  have e6 := R 6 (by omega)
  rw [if_pos rfl] at e6
  have hl : (le4 (n : Int)).length = 4 := rfl
  refine ⟨h.sz, h.mem.put ⟨by rw [putB_len (by omega), r2], putB_bytes r3 (le4_bytes _)⟩, by rw [e5]; exact h.sw, by rw [e6, getN_put (by omega) (by omega)], ⟨hn.1, hn.2.1, hn.2.2.1, by omega⟩, fun j h1 h2 => by rw [e5]; exact h.ent j h1 h2, fun j h1 h2 => ?_⟩
  rw [e6, get_far (by omega) (.inr (by omega))]
  exact h.cmp j (by omega) h2
end
/-! ### plain: entries are read as they were laid -/
structure SqeW (e : Sqe) : Prop where
  ck : checkE e = true
  tag : 0 ≤ e.tag ∧ e.tag < 4294967296
  cap : 0 ≤ e.cap ∧ e.cap < 4294967296
  a : 0 ≤ e.a ∧ e.a < 4294967296
  b : 0 ≤ e.b ∧ e.b < 4294967296
  c : 0 ≤ e.c ∧ e.c < 4294967296
  time : 0 ≤ e.time ∧ e.time < 4294967296
variable {e : Sqe}
theorem raw_is (h : SqeW e) : (rawE e).length = 32 ∧ goodE (rawE e) = true ∧ entE (rawE e) = e := by
 obtain ⟨hc, h1, h2, h3, h4, h5, h6⟩ := h
 have hr : rawE e = bytesE e := if_pos hc
 have hb : readE (bytesE e) = e := by
  have hc2 := hc
  unfold checkE at hc2
  simp only [Bool.and_eq_true, decide_eq_true_eq] at hc2
  have h0 : e.op % 256 = e.op ∧ e.flags % 256 = e.flags := by omega
  obtain ⟨op, fl, tg, cp, a, b, c, tm⟩ := e
  simp only at *
  unfold readE bytesE
  simp [getN, byteAt, le4]
  omega
 have hg : goodE (bytesE e) = true := by
  unfold goodE
  rw [hb, hc]; rfl
 rw [hr]
 refine ⟨rfl, hg, ?_⟩
 unfold entE
 rw [hg, if_pos rfl, hb]
/-! ### plain: requests that hang on nobody -/
theorem Row.app {a b : List Rq} (ha : Row a) (hb : Row b) (h : ∀ x ∈ a, ∀ y ∈ b, x.id.2 < y.id.2) : Row (a ++ b) := ⟨fun q hq => by
  rcases List.mem_append.1 hq with hq | hq
  · exact ha.ring q hq
  · exact hb.ring q hq, List.pairwise_append.2 ⟨ha.up, hb.up, h⟩⟩
section
variable {dn rest : List Rq} {q : Rq}
theorem Row.behind (h : Row (dn ++ q :: rest)) : Row (q :: rest) := ⟨fun x hx => h.ring x (List.mem_append_right _ hx), (List.pairwise_append.1 h.up).2.1⟩
theorem Row.drop (h : Row (dn ++ q :: rest)) : Row (dn ++ rest) := ⟨fun x hx => by
  rcases List.mem_append.1 hx with hx | hx
  · exact h.ring x (List.mem_append_left _ hx)
  · exact h.ring x (List.mem_append_right _ (List.mem_cons_of_mem _ hx)), h.up.sublist (List.Sublist.append (List.Sublist.refl _) (List.sublist_cons_self _ _))⟩
theorem Row.ahead (h : Row (dn ++ q :: rest)) : ∀ x ∈ dn, x.id ≠ q.id := fun x hx e => by
  have := (List.pairwise_append.1 h.up).2.2 x hx q (List.mem_cons_self)
  rw [e] at this; omega
theorem Row.lookM : ∀ {dn : List Rq}, Row (dn ++ q :: rest) → look (pairsQ (dn ++ q :: rest)) q.id = some q
  | [], _ => pairs_look
  | x :: dn, h => by
    show look ((x.id, x) :: pairsQ (dn ++ q :: rest)) q.id = _
    rw [look_cons, if_neg (h.ahead x (List.mem_cons_self)), Row.lookM (dn := dn) (Row.tail h)]
theorem Row.delM : ∀ {dn : List Rq}, Row (dn ++ q :: rest) → Go.Pse.del (pairsQ (dn ++ q :: rest)) q.id = pairsQ (dn ++ rest)
  | [], h => h.del
  | x :: dn, h => by
    show List.filter (fun e => !decide (e.1 = q.id)) ((x.id, x) :: pairsQ (dn ++ q :: rest)) = (x.id, x) :: pairsQ (dn ++ rest)
    rw [List.filter_cons, if_pos (by simpa using h.ahead x (List.mem_cons_self))]
    congr 1
    exact Row.delM (dn := dn) (Row.tail h)
theorem Row.startM (h : Row (dn ++ q :: rest)) : rtS (pairsQ (dn ++ q :: rest)) q.id = pairsQ (dn ++ { q with started := true } :: rest) := by
 unfold rtS
 rw [h.lookM]
 show Go.Pse.ins (pairsQ (dn ++ q :: rest)) q.id { q with started := true } = _
 unfold Go.Pse.ins
 rw [if_pos (by rw [h.lookM]; rfl), pairs_app, pairs_app, List.map_append]
 have same : ∀ l : List Rq, (∀ x ∈ l, x.id ≠ q.id) → (pairsQ l).map (fun p => if p.1 = q.id then (q.id, { q with started := true }) else p) = pairsQ l := fun l hl => by
  conv => rhs; rw [← List.map_id (pairsQ l)]
  refine List.map_congr_left fun e he => ?_
  obtain ⟨x, hx, rfl⟩ := List.mem_map.1 he
  rw [if_neg (hl x hx)]; rfl
 rw [same dn h.ahead]
 congr 1
 show List.map _ ((q.id, q) :: pairsQ rest) = (q.id, { q with started := true }) :: pairsQ rest
 rw [List.map_cons, if_pos rfl, same rest h.behind.ne]
theorem Row.mark (h : Row (dn ++ q :: rest)) {q' : Rq} (hi : q'.id = q.id) : Row (dn ++ q' :: rest) := ⟨fun x hx => by
  rcases List.mem_append.1 hx with hx | hx
  · exact h.ring x (List.mem_append_left _ hx)
  · exact (h.behind.head hi).ring x hx, List.pairwise_append.2 ⟨(List.pairwise_append.1 h.up).1, (h.behind.head hi).up, fun x hx y hy => by
  rcases List.mem_cons.1 hy with rfl | hy
  · rw [hi]; exact (List.pairwise_append.1 h.up).2.2 x hx q (List.mem_cons_self)
  · exact (List.pairwise_append.1 h.up).2.2 x hx y (List.mem_cons_of_mem _ hy)⟩⟩
theorem Row.noAfter (h : Row l) {i : ID} (hi : i.1 = 4) (h0 : ∀ x ∈ l, x.prev = 0) (h1 : i.2 ≠ 0) : afterQ (pairsQ l) i = none := by
  unfold afterQ
  rw [hi, h.of]
  exact List.find?_eq_none.2 fun x hx => by rw [h0 x hx]; simpa using fun e => h1 e.symm
end
/-- Nobody waits for a signal, for an answer; the ring 4 is somebody's. -/
structure Mute (s : KS) (T : Th) : Prop where
  nt : s.nt = []
  rp : ∀ x ∈ s.rp, x.2.2.2 = false
  ow : kOwner s 4 = some T
theorem Mute.at (h : Mute s T) {x : List Tm} {y : List (Int × Nat × List Msg × List Rcv)} {z : List (Int × Int)} : Mute { s with tm := x, ep := y, tk := z } T := ⟨h.nt, h.rp, h.ow⟩
theorem Mute.forget (h : Mute s T) (i : ID) : kForget (At s rs js RG MS) i = At { s with tm := tdrop s.tm i, ep := allO (epD i) s.ep } rs js RG MS := by
 have e : allO (rpD i) s.rp = s.rp := by
  unfold allO
  conv => rhs; rw [← List.map_id s.rp]
  refine List.map_congr_left fun x hx => ?_
  obtain ⟨u, b, c⟩ := x
  have := h.rp _ hx
  show (u, b, cDrop c i) = (u, b, c)
  unfold cDrop
  rw [if_neg (fun e => by simp only at this; rw [this] at e; cases e.1)]
 show ({ At s rs js RG MS with tm := tdrop s.tm i, ep := allO (epD i) s.ep, nt := allO (ntD i) s.nt, rp := allO (rpD i) s.rp } : KS) = _
 rw [h.nt, e]
 unfold At
 have h1 := h.nt
 cases s
 simp only at h1
 subst h1
 rfl
section
variable {sb cb : Nat} {X : Nat → List Int} {C : Nat → Cqe} {sent lay tk hd tl P b : Nat} {MS : List (List Int)} {s : KS} {T : Th}
theorem RW.said (h : RW sb cb X C sent lay tk hd tl P MS) (hP : P < 1000000) (hnt : s.nt = []) (hd4 : d.1.1 = 4) (hc : ofD d = C P) : ∃ tl' MS', tl' = (if P = tl ∧ tl < hd + 2 ^ cb then tl + 1 else tl) ∧ RW sb cb X C sent lay tk hd tl' (P + 1) MS' ∧ kTell D (At s rs js [(4, b, rgW sb cb C tk tl P)] MS) d = At s rs (js ++ [d]) [(4, b, rgW sb cb C tk tl' (P + 1))] MS' := by
  obtain ⟨tl', MS', h1, h2, h3, h4⟩ := h.post hP
  refine ⟨tl', MS', h1, h2, ?_⟩
  have hs : kSaid (At s rs js [(4, b, rgW sb cb C tk tl P)] MS) d = At s rs (js ++ [d]) [(4, b, rgW sb cb C tk tl' (P + 1))] MS' := by
    unfold kSaid
    rw [kPost_some (b := b) (r := rgW sb cb C tk tl P) (by rw [hd4]; rfl), hd4]
    show ({ At s rs (js ++ [d]) _ _ with rg := updO [(4, b, rgW sb cb C tk tl P)] 4 (fun r => postR r MS (ofD d)), mem := postM (rgW sb cb C tk tl P) MS (ofD d) } : KS) = _
    rw [hc, h4, show updO [((4 : Int), b, rgW sb cb C tk tl P)] 4 (fun r => postR r MS (C P)) = [(4, b, postR (rgW sb cb C tk tl P) MS (C P))] from rfl, h3]; rfl
  unfold kTell
  rw [hs, show look (KS.nt (At s rs (js ++ [d]) [(4, b, rgW sb cb C tk tl' (P + 1))] MS')) (kBell (At s rs (js ++ [d]) [(4, b, rgW sb cb C tk tl' (P + 1))] MS') d.1.1).1 = none from by rw [show KS.nt (At s rs (js ++ [d]) [(4, b, rgW sb cb C tk tl' (P + 1))] MS') = s.nt from rfl, hnt]; rfl]
variable {v : Int}
/-- One of those that hang on nobody is decided. -/
theorem dec_M (hC : Mute s T) {dn rest : List Rq} (h : Row (dn ++ q :: rest)) (h0 : ∀ x ∈ dn ++ rest, x.prev = 0) (hi : q.id.2 ≠ 0) (hR : RW sb cb X C sent lay tk hd tl P MS) (hP : P < 1000000) {r : Int} (hc : ofD (q.id, q.e.tag, q.e.op, r, v, false) = C P) (n : Nat) : ∃ tl' MS', tl' = (if P = tl ∧ tl < hd + 2 ^ cb then tl + 1 else tl) ∧ RW sb cb X C sent lay tk hd tl' (P + 1) MS' ∧ kDec (n + 1) (At s (dn ++ q :: rest) js [(4, b, rgW sb cb C tk tl P)] MS) q.id r v = At { s with tm := tdrop s.tm q.id, ep := allO (epD q.id) s.ep } (dn ++ rest) (js ++ [(q.id, q.e.tag, q.e.op, r, v, false)]) [(4, b, rgW sb cb C tk tl' (P + 1))] MS' := by
  have h4 : q.id.1 = 4 := h.ring q (List.mem_append_right _ (List.mem_cons_self))
  obtain ⟨tl', MS', g1, g2, g3⟩ := hR.said (b := b) (s := { s with tm := tdrop s.tm q.id, ep := allO (epD q.id) s.ep }) hP hC.nt (D := kDec n) (rs := dn ++ rest) (js := js) (d := (q.id, q.e.tag, q.e.op, r, v, false)) h4 hc
  refine ⟨tl', MS', g1, g2, ?_⟩
  have hl : look (KS.rt (At s (dn ++ q :: rest) js [(4, b, rgW sb cb C tk tl P)] MS)) q.id = some q := h.lookM
  have hdel : { At s (dn ++ q :: rest) js [(4, b, rgW sb cb C tk tl P)] MS with rt := del (KS.rt (At s (dn ++ q :: rest) js [(4, b, rgW sb cb C tk tl P)] MS)) q.id } = At s (dn ++ rest) js [(4, b, rgW sb cb C tk tl P)] MS := by
    have : del (KS.rt (At s (dn ++ q :: rest) js [(4, b, rgW sb cb C tk tl P)] MS)) q.id = pairsQ (dn ++ rest) := h.delM
    rw [this]; rfl
  rw [kDec_some hl, hdel, hC.forget, g3]
  unfold kNext
  rw [show afterQ (KS.rt (At { s with tm := tdrop s.tm q.id, ep := allO (epD q.id) s.ep } (dn ++ rest) (js ++ [(q.id, q.e.tag, q.e.op, r, v, false)]) [(4, b, rgW sb cb C tk tl' (P + 1))] MS')) q.id = none from h.drop.noAfter h4 h0 hi]
end
/-! ### plain: entries are taken -/
/-! ### plain: a thread enters, by numbers -/
section
variable {sb cb : Nat} {X : Nat → List Int} {C : Nat → Cqe} {sent lay tk hd tl P b : Nat} {MS : List (List Int)} {s : KS} {T : Th} {rs : List Rq} {js : List Deed}
/-- What the ring's words say, ahead of all else. -/
theorem enter_W (hT : look s.th 2 = some T) (h4 : T.ring = 4) (h : RW sb cb X C sent lay tk hd tl P MS) (n : Int) : ∃ MS', RW sb cb X C sent lay tk hd (min P (hd + 2 ^ cb)) P MS' ∧ flushS (At s rs js [(4, b, rgW sb cb C tk tl P)] MS) 4 (rgW sb cb C tk tl P) = At s rs js [(4, b, rgW sb cb C tk (min P (hd + 2 ^ cb)) P)] MS' ∧ flushR (rgW sb cb C tk tl P) MS = (rgW sb cb C tk (min P (hd + 2 ^ cb)) P, MS') ∧ ∀ β, kEnter (At s rs js [(4, b, rgW sb cb C tk tl P)] MS) 2 n β = if 8 ≤ P - min P (hd + 2 ^ cb) then (At s rs js [(4, b, rgW sb cb C tk (min P (hd + 2 ^ cb)) P)] MS', -13) else kGoOn (At s rs js [(4, b, rgW sb cb C tk (min P (hd + 2 ^ cb)) P)] MS') 4 (clampB n) β := by
 obtain ⟨MS', g1, g2⟩ := h.flush
 have hf : flushS (At s rs js [(4, b, rgW sb cb C tk tl P)] MS) 4 (rgW sb cb C tk tl P) = At s rs js [(4, b, rgW sb cb C tk (min P (hd + 2 ^ cb)) P)] MS' := by
  show ({ At s rs js _ _ with rg := updO [(4, b, rgW sb cb C tk tl P)] 4 (fun r => (flushR r MS).1), mem := (flushR (rgW sb cb C tk tl P) MS).2 } : KS) = _
  rw [g2, show updO [((4 : Int), b, rgW sb cb C tk tl P)] 4 (fun r => (flushR r MS).1) = [(4, b, (flushR (rgW sb cb C tk tl P) MS).1)] from rfl, g2]; rfl
 refine ⟨MS', g1, hf, g2, fun β => ?_⟩
 have hl : look (KS.rg (At s rs js [(4, b, rgW sb cb C tk tl P)] MS)) T.ring = some (b, rgW sb cb C tk tl P) := by rw [h4]; rfl
 have hov : (rgW sb cb C tk (min P (hd + 2 ^ cb)) P).over.length = P - min P (hd + 2 ^ cb) := by unfold rgW; simp
 unfold kEnter
 rw [show look (KS.th (At s rs js [(4, b, rgW sb cb C tk tl P)] MS)) 2 = some T from hT]
 dsimp only
 rw [hl]
 dsimp only
 rw [show (At s rs js [(4, b, rgW sb cb C tk tl P)] MS).mem = MS from rfl, if_neg (by rw [h.valid]; decide), g2, h4, hf]
 dsimp only
 rw [hov]
/-- How many are taken. -/
theorem takeN_W (hr : Row rs) (h : RW sb cb X C sent lay tk hd tl P MS) (h16 : rs.length ≤ 16) (n : Int) : ∃ m : Nat, m = min (min (sent - tk) (clampB n).toNat) (16 - rs.length) ∧ takeN (At s rs js [(4, b, rgW sb cb C tk tl P)] MS) 4 (clampB n) (rgW sb cb C tk tl P) = (m : Int) := by
  refine ⟨_, rfl, ?_⟩
  have hc := clamp_in n
  unfold takeN
  rw [show (At s rs js [(4, b, rgW sb cb C tk tl P)] MS).mem = MS from rfl, h.wait, show ofQ (KS.rt (At s rs js [(4, b, rgW sb cb C tk tl P)] MS)) 4 = rs from hr.of]
  unfold minI maxI
  (repeat' split) <;> omega
/-- Which entries stand where they are taken. -/
theorem ent_W {ent : Nat → Sqe} (hT : look s.th 2 = some T) (h4 : T.ring = 4) (hr : Row rs) (h : RW sb cb (fun j => rawE (ent j)) C sent lay tk hd tl P MS) (h16 : rs.length ≤ 16) {n : Int} (he : ∀ j, tk ≤ j → j < sent → SqeW (ent j) ∧ p (ent j) = true) : entOk p (At s rs js [(4, b, rgW sb cb C tk tl P)] MS) 2 n = true := by
 obtain ⟨MS', g1, g2, g3, _⟩ := enter_W (s := s) (b := b) (rs := rs) (js := js) hT h4 h n
 obtain ⟨m, hm1, hm2⟩ := takeN_W (s := s) (b := b) (js := js) hr g1 h16 n
 unfold entOk
 rw [show look (KS.th (At s rs js [(4, b, rgW sb cb C tk tl P)] MS)) 2 = some T from hT]
 dsimp only
 rw [show look (KS.rg (At s rs js [(4, b, rgW sb cb C tk tl P)] MS)) T.ring = some (b, rgW sb cb C tk tl P) from by rw [h4]; rfl]
 dsimp only
 rw [show (At s rs js [(4, b, rgW sb cb C tk tl P)] MS).mem = MS from rfl, h4, g2, g3, hm2, Int.toNat_natCast, g1.raw rfl (by have := g1.num; omega)]
 refine List.all_eq_true.2 fun x hx => ?_
 obtain ⟨k, hk, rfl⟩ := List.mem_map.1 hx
 rw [List.mem_range] at hk
 obtain ⟨e1, e2⟩ := he (tk + k) (by omega) (by omega)
 rw [(raw_is e1).2.2, e2, Bool.or_true]
end
/-! ### plain: entries that do nothing -/
def deedN (k : Nat) (e : Sqe) : Deed := ((4, 1 + (k : Int)), e.tag, e.op, 0, 0, false)
section
variable {sb cb : Nat} {X : Nat → List Int} {C : Nat → Cqe} {sent lay tk hd tl P b : Nat} {MS : List (List Int)} {s : KS} {T : Th}
theorem Quiet.still (h : Quiet s T) (i : ID) : { s with tm := tdrop s.tm i, ep := allO (epD i) s.ep } = s := by
  obtain ⟨h1, h2, _, _, _⟩ := h
  cases s
  simp only at h1 h2
  subst h1; subst h2
  rfl
/-- A state all of whose entries do nothing. -/
structure NS (sb cb b : Nat) (ent : Nat → Sqe) (C : Nat → Cqe) (sent lay tk hd tl : Nat) (S : KS) : Prop where
  ex : ∃ s js MS T, S = At s [] js [(4, b, rgW sb cb C tk tl tk)] MS ∧ look s.th 2 = some T ∧ T.ring = 4 ∧ Quiet s T ∧ s.tk = [(4, (tk : Int))] ∧ js.length = tk ∧ RW sb cb (fun j => rawE (ent j)) C sent lay tk hd tl tk MS
end
/-! ### plain: deadlines of those that wait, by their numbers -/
theorem mem_putT {xs : List Tm} {x c : Tm} : c ∈ putT xs x ↔ c = x ∨ c ∈ xs := by
  unfold putT
  rw [List.mem_append, List.mem_cons]
  constructor
  · rintro (h | h | h)
    · exact .inr (List.mem_of_mem_take h)
    · exact .inl h
    · exact .inr (List.mem_of_mem_drop h)
  · rintro (h | h)
    · exact .inr (.inl h)
    · rw [← List.take_append_drop (place xs x) xs, List.mem_append] at h
      exact h.elim .inl fun h => .inr (.inr h)
/-- Who waits for time: of n entries those whose deadline is behind tn. -/
structure TM (dl : Nat → Int) (n : Nat) (tn : Int) (xs : List Tm) : Prop where
  srt : Srt xs
  is : ∀ c ∈ xs, ∃ k, k < n ∧ c = (dl k, (4, 1 + (k : Int))) ∧ tn < dl k
  all : ∀ k, k < n → tn < dl k → (dl k, ((4 : Int), 1 + (k : Int))) ∈ xs
section
variable {dl : Nat → Int} {n : Nat} {tn : Int} {xs : List Tm}
theorem TM.push (h : TM dl n tn xs) (hd : tn < dl n) : TM dl (n + 1) tn (hpush xs (dl n, (4, 1 + (n : Int)))) := by
  have hno : hdrop xs ((4 : Int), 1 + (n : Int)) = xs := List.filter_eq_self.2 fun c hc => by
    obtain ⟨k, hk, rfl, _⟩ := h.is c hc
    simp [isTm]; omega
  refine ⟨h.srt.push _, fun c hc => ?_, fun k hk hd2 => ?_⟩
  · unfold hpush at hc
    rw [hno, mem_putT] at hc
    rcases hc with rfl | hc
    · exact ⟨n, by omega, rfl, hd⟩
    · obtain ⟨k, hk, h1, h2⟩ := h.is c hc
      exact ⟨k, by omega, h1, h2⟩
  · unfold hpush
    rw [hno, mem_putT]
    by_cases e : k = n
    · subst e; exact .inl rfl
    · exact .inr (h.all k (by omega) hd2)
theorem TM.drop (h : TM dl n tn xs) (hk : dl k ≤ tn) : TM dl n tn (tdrop xs (4, 1 + (k : Int))) := by
  have hno : tdrop xs ((4 : Int), 1 + (k : Int)) = xs := List.filter_eq_self.2 fun c hc => by
    obtain ⟨j, hj, rfl, h2⟩ := h.is c hc
    have : j ≠ k := fun e => by subst e; omega
    simp [isTm]; omega
  rw [hno]; exact h
end
/-! ### plain: those that wait begin -/
/-! ### plain: a ring of which all that is there waits -/
def resW (e : Sqe) : Int := if e.op = 19 then 0 else -10
/-- n: taken; D: decided; tn: the last time at which it was looked who is due; now: the time. -/
structure WI (sb cb b : Nat) (ent : Nat → Sqe) (dl : Nat → Int) (E0 : List (Int × Nat)) (sent lay hd n : Nat) (tn now : Int) (D : Nat → Prop) (S : KS) : Prop where
  ex : ∃ s rs js C tl MS T, S = At s rs js [(4, b, rgW sb cb C n tl js.length)] MS ∧ look s.th 2 = some T ∧ T.ring = 4 ∧ Mute s T ∧ s.tk = [(4, (n : Int))] ∧ s.now = now ∧ RW sb cb (fun j => rawE (ent j)) C sent lay n hd tl js.length MS ∧ TM dl n tn s.tm ∧ Row rs ∧ (∀ q ∈ rs, ∃ k, k < n ∧ ¬ D k ∧ q = ⟨(4, 1 + (k : Int)), ent k, 0, false, true⟩) ∧ (∀ k, k < n → ¬ D k → (⟨(4, 1 + (k : Int)), ent k, 0, false, true⟩ : Rq) ∈ rs) ∧ (∀ d ∈ js, ∃ k, k < n ∧ D k ∧ d.1 = (4, 1 + (k : Int)) ∧ d.2.2.2.1 = resW (ent k)) ∧ (∀ k, k < n → D k → ∃ d ∈ js, d.1 = (4, 1 + (k : Int))) ∧ js.length + rs.length = n ∧ s.ep.map (fun x => (x.1, x.2.1)) = E0 ∧ (∀ x ∈ s.ep, x.2.2.1 = [] ∧ ∀ y ∈ x.2.2.2, ∃ k, k < n ∧ ¬ D k ∧ y.1 = (4, 1 + (k : Int)))
/-- The completions named anew, behind those that are posted. -/
theorem RW.other {sb cb : Nat} {X : Nat → List Int} {C C' : Nat → Cqe} {sent lay tk hd tl P : Nat} (h : RW sb cb X C sent lay tk hd tl P MS) (hc : ∀ j, j < P → C' j = C j) : RW sb cb X C' sent lay tk hd tl P MS ∧ rgW sb cb C' tk tl P = rgW sb cb C tk tl P := by
  have hn := h.num
  refine ⟨⟨h.sz, h.mem, h.sw, h.hw, h.num, h.ent, fun j h1 h2 => by rw [hc j (by omega)]; exact h.cmp j h1 h2⟩, ?_⟩
  unfold rgW
  congr 1
  refine List.map_congr_left fun i hi => hc _ ?_
  have := List.mem_range.1 hi
  omega
section
variable {sb cb b : Nat} {ent : Nat → Sqe} {dl : Nat → Int} {E0 : List (Int × Nat)} {sent lay hd n : Nat} {tn now : Int} {D : Nat → Prop} {S : KS}
theorem WI.iff (h : WI sb cb b ent dl E0 sent lay hd n tn now D S) {D' : Nat → Prop} (hD : ∀ k, k < n → (D k ↔ D' k)) : WI sb cb b ent dl E0 sent lay hd n tn now D' S := by
  obtain ⟨s, rs, js, C, tl, MS, T, h0, hT, h4, hC, htk, hnow, hR, hM, hrow, h1, h2, h3, h5, h6, h7, h8⟩ := h.ex
  exact ⟨s, rs, js, C, tl, MS, T, h0, hT, h4, hC, htk, hnow, hR, hM, hrow, fun q hq => by obtain ⟨k, a, c, d⟩ := h1 q hq; exact ⟨k, a, fun e => c ((hD k a).2 e), d⟩, fun k a c => h2 k a fun e => c ((hD k a).1 e), fun d hd => by obtain ⟨k, a, c, e⟩ := h3 d hd; exact ⟨k, a, (hD k a).1 c, e⟩, fun k a c => h5 k a ((hD k a).2 c), h6, h7, fun x hx => ⟨(h8 x hx).1, fun y hy => by obtain ⟨k, a, c, d⟩ := (h8 x hx).2 y hy; exact ⟨k, a, fun e => c ((hD k a).2 e), d⟩⟩⟩
/-- One of those that wait is decided, for its time has come. -/
theorem WI.one (h : WI sb cb b ent dl E0 sent lay hd n tn now D S) (hn : n ≤ 900000) (hk : k < n) (hd0 : dl k ≤ tn) : WI sb cb b ent dl E0 sent lay hd n tn now (fun j => D j ∨ j = k) (kExpL [(4, 1 + (k : Int))] S).1 ∧ (kExpL [(4, 1 + (k : Int))] S).2 + S.jn.length = (kExpL [(4, 1 + (k : Int))] S).1.jn.length := by
  obtain ⟨s, rs, js, C, tl, MS, T, rfl, hT, h4, hC, htk, hnow, hR, hM, hrow, h1, h2, h3, h5, h6, h7, h8⟩ := id h.ex
  by_cases hD : D k
  · have hno : look (pairsQ rs) ((4 : Int), 1 + (k : Int)) = none := pairs_none fun q hq e => by
      obtain ⟨j, _, hj, rfl⟩ := h1 q hq
      have := congrArg Prod.snd e
      simp only at this
      exact hj (by rw [show j = k by omega]; exact hD)
    have e : kExpL [((4 : Int), 1 + (k : Int))] (At s rs js [(4, b, rgW sb cb C n tl js.length)] MS) = (At s rs js [(4, b, rgW sb cb C n tl js.length)] MS, 0) := by
      unfold kExpL
      rw [show look (KS.rt (At s rs js [(4, b, rgW sb cb C n tl js.length)] MS)) ((4 : Int), 1 + (k : Int)) = none from hno]; rfl
    rw [e]
    exact ⟨h.iff fun j _ => ⟨.inl, fun hh => hh.elim id fun e => by rw [e]; exact hD⟩, Nat.zero_add _⟩
  · have hm := h2 k hk hD
    obtain ⟨dn, rest, rfl⟩ := List.append_of_mem hm
    obtain ⟨C', hC'⟩ : ∃ C' : Nat → Cqe, C' = fun j => if j = js.length then ofD ((4, 1 + (k : Int)), (ent k).tag, (ent k).op, resW (ent k), 0, false) else C j := ⟨_, rfl⟩
    obtain ⟨hR2, hg2⟩ := hR.other (C' := C') (fun j hj => by rw [hC']; exact if_neg (by omega))
    have hlen : js.length + (dn ++ rest).length + 1 = n := by rw [List.length_append] at h6 ⊢; rw [List.length_cons] at h6; omega
    obtain ⟨tl', MS', g1, g2, g3⟩ := dec_M (b := b) hC hrow (fun x hx => by
      obtain ⟨j, _, _, rfl⟩ := h1 x (by rcases List.mem_append.1 hx with hx | hx; exact List.mem_append_left _ hx; exact List.mem_append_right _ (List.mem_cons_of_mem _ hx))
      rfl) (by show (1 + (k : Int)) ≠ 0; omega) hR2 (by omega) (js := js) (r := resW (ent k)) (v := 0) (by rw [hC']; exact (if_pos rfl).symm) (dn ++ rest).length
    rw [hg2] at g3
    have hl : look (KS.rt (At s (dn ++ ⟨(4, 1 + (k : Int)), ent k, 0, false, true⟩ :: rest) js [(4, b, rgW sb cb C n tl js.length)] MS)) ((4 : Int), 1 + (k : Int)) = some ⟨(4, 1 + (k : Int)), ent k, 0, false, true⟩ := hrow.lookM
    have hlr : (KS.rt (At s (dn ++ ⟨(4, 1 + (k : Int)), ent k, 0, false, true⟩ :: rest) js [(4, b, rgW sb cb C n tl js.length)] MS)).length = (dn ++ rest).length + 1 := by
      show (pairsQ _).length = _
      unfold pairsQ
      rw [List.length_map, List.length_append, List.length_append, List.length_cons]; omega
    have e : kExpL [((4 : Int), 1 + (k : Int))] (At s (dn ++ ⟨(4, 1 + (k : Int)), ent k, 0, false, true⟩ :: rest) js [(4, b, rgW sb cb C n tl js.length)] MS) = (At { s with tm := tdrop s.tm (4, 1 + (k : Int)), ep := allO (epD (4, 1 + (k : Int))) s.ep } (dn ++ rest) (js ++ [((4, 1 + (k : Int)), (ent k).tag, (ent k).op, resW (ent k), 0, false)]) [(4, b, rgW sb cb C' n tl' (js.length + 1))] MS', 1) := by
      unfold kExpL
      rw [hl]
      dsimp only
      rw [hlr]
      show (kDec _ _ _ (resW (ent k)) 0, 1) = _
      rw [g3]
    rw [e]
    have hne : ∀ x ∈ dn ++ rest, x.id ≠ (4, 1 + (k : Int)) := fun x hx => by
      rcases List.mem_append.1 hx with hx | hx
      · exact hrow.ahead x hx
      · exact hrow.behind.ne x hx
    have hin : ∀ x ∈ dn ++ rest, x ∈ dn ++ ⟨(4, 1 + (k : Int)), ent k, 0, false, true⟩ :: rest := fun x hx => by
      rcases List.mem_append.1 hx with hx | hx
      · exact List.mem_append_left _ hx
      · exact List.mem_append_right _ (List.mem_cons_of_mem _ hx)
    have hjl : (js ++ [(((4 : Int), 1 + (k : Int)), (ent k).tag, (ent k).op, resW (ent k), (0 : Int), false)]).length = js.length + 1 := by rw [List.length_append, List.length_singleton]
    refine ⟨⟨{ s with tm := tdrop s.tm (4, 1 + (k : Int)), ep := allO (epD (4, 1 + (k : Int))) s.ep }, dn ++ rest, _, C', tl', MS', T, by rw [hjl], hT, h4, ⟨hC.nt, hC.rp, hC.ow⟩, htk, hnow, by rw [hjl]; exact g2, hM.drop hd0, hrow.drop, fun q hq => ?_, fun j hj hj2 => ?_, fun d hd => ?_, fun j hj hj2 => ?_, by rw [hjl]; omega, ?_, fun x hx => ?_⟩, ?_⟩
    · obtain ⟨j, a, c, rfl⟩ := h1 q (hin q hq)
      exact ⟨j, a, fun e => e.elim c fun e => hne _ hq (by rw [e]), rfl⟩
    · have := h2 j hj (fun e => hj2 (.inl e))
      rcases List.mem_append.1 this with hx | hx
      · exact List.mem_append_left _ hx
      · rcases List.mem_cons.1 hx with hx | hx
        · exact absurd (.inr (by have := congrArg (fun q : Rq => q.id.2) hx; simp only at this; omega)) hj2
        · exact List.mem_append_right _ hx
    · rcases List.mem_append.1 hd with hd | hd
      · obtain ⟨j, a, c, e⟩ := h3 d hd
        exact ⟨j, a, .inl c, e⟩
      · rw [List.mem_singleton.1 hd]
        exact ⟨k, hk, .inr rfl, rfl, rfl⟩
    · rcases hj2 with c | rfl
      · obtain ⟨d, a, e⟩ := h5 j hj c
        exact ⟨d, List.mem_append_left _ a, e⟩
      · exact ⟨_, List.mem_append_right _ (List.mem_singleton.2 rfl), rfl⟩
    · rw [← h7]
      show (allO (epD (4, 1 + (k : Int))) s.ep).map _ = _
      unfold allO
      rw [List.map_map]; rfl
    · obtain ⟨x0, hx0, rfl⟩ := List.mem_map.1 (show x ∈ s.ep.map fun x => (x.1, x.2.1, epD (4, 1 + (k : Int)) x.2.2) from hx)
      obtain ⟨e1, e2⟩ := h8 x0 hx0
      refine ⟨by show mdrop x0.2.2.1 _ = []; rw [e1]; rfl, fun y hy => ?_⟩
      obtain ⟨hy1, hy2⟩ := List.mem_filter.1 (show y ∈ rdrop x0.2.2.2 (4, 1 + (k : Int)) from hy)
      obtain ⟨j, a, c, ey⟩ := e2 y hy1
      refine ⟨j, a, fun h => h.elim c fun hjk => ?_, ey⟩
      rw [isR_eq, ey, hjk, decide_eq_true rfl] at hy2
      cases hy2
    · show 1 + js.length = _
      rw [show KS.jn (At { s with tm := tdrop s.tm (4, 1 + (k : Int)), ep := allO (epD (4, 1 + (k : Int))) s.ep } (dn ++ rest) (js ++ [((4, 1 + (k : Int)), (ent k).tag, (ent k).op, resW (ent k), 0, false)]) [(4, b, rgW sb cb C' n tl' (js.length + 1))] MS') = js ++ [((4, 1 + (k : Int)), (ent k).tag, (ent k).op, resW (ent k), 0, false)] from rfl, hjl]; omega
theorem kExpL_cons (i : ID) (l : List ID) (s : KS) : kExpL (i :: l) s = ((kExpL l (kExpL [i] s).1).1, (kExpL l (kExpL [i] s).1).2 + (kExpL [i] s).2) := by
  have e : kExpL [i] s = match look s.rt i with
    | none => (s, 0)
    | some q => (kDec s.rt.length s i (if q.e.op = 19 then 0 else -10) 0, 1) := by
    unfold kExpL
    cases look s.rt i <;> rfl
  rw [e]
  conv => lhs; unfold kExpL
  cases look s.rt i <;> rfl
theorem WI.many (hn : n ≤ 900000) : ∀ (ids : List ID) {D : Nat → Prop} {S : KS}, WI sb cb b ent dl E0 sent lay hd n tn now D S → (∀ i ∈ ids, ∃ k, k < n ∧ i = (4, 1 + (k : Int)) ∧ dl k ≤ tn) → WI sb cb b ent dl E0 sent lay hd n tn now (fun j => D j ∨ ((4 : Int), 1 + (j : Int)) ∈ ids) (kExpL ids S).1 ∧ (kExpL ids S).2 + S.jn.length = (kExpL ids S).1.jn.length
  | [], D, S, h, _ => ⟨h.iff fun j _ => by simp, Nat.zero_add _⟩
  | i :: ids, D, S, h, hi => by
    obtain ⟨k, hk, rfl, hd0⟩ := hi i (List.mem_cons_self)
    obtain ⟨g1, g2⟩ := h.one hn hk hd0
    obtain ⟨k1, k2⟩ := WI.many hn ids g1 fun x hx => hi x (List.mem_cons_of_mem _ hx)
    rw [kExpL_cons]
    refine ⟨k1.iff fun j hj => ?_, by dsimp only; omega⟩
    rw [List.mem_cons, or_assoc]
    have : j = k ↔ ((4 : Int), 1 + (j : Int)) = (4, 1 + (k : Int)) := by
      rw [Prod.mk.injEq]; omega
    rw [this]
theorem WI.layE (h : WI sb cb b ent dl E0 sent lay hd n tn now D S) (hr : lay < n + 2 ^ sb) (hl : lay < 1000000) (hw : SqeW (ent lay)) : WI sb cb b ent dl E0 sent (lay + 1) hd n tn now D (memS S 4 (16 + 32 * (lay % 2 ^ sb)) (rawE (ent lay))) := by
  obtain ⟨s, rs, js, C, tl, MS, T, rfl, hT, h4, hC, htk, hnow, hR, hx⟩ := h.ex
  exact ⟨s, rs, js, C, tl, _, T, rfl, hT, h4, hC, htk, hnow, hR.layE hr hl Z ⟨(raw_is hw).1, bytes_rawE _⟩, hx⟩
theorem WI.tell (h : WI sb cb b ent dl E0 sent lay hd n tn now D S) {k : Nat} (hk : n ≤ k ∧ k ≤ lay) : WI sb cb b ent dl E0 k lay hd n tn now D (memS S 4 4 (le4 (k : Int))) := by
  obtain ⟨s, rs, js, C, tl, MS, T, rfl, hT, h4, hC, htk, hnow, hR, hx⟩ := h.ex
  exact ⟨s, rs, js, C, tl, _, T, rfl, hT, h4, hC, htk, hnow, hR.tell hk, hx⟩
/-- All that was taken has ended. -/
theorem WI.all (h : WI sb cb b ent dl E0 sent lay hd n tn now D S) (hD : ∀ k, k < n → D k) : S.jn.length = n := by
  obtain ⟨s, rs, js, C, tl, MS, T, rfl, hT, h4, hC, htk, hnow, hR, hM, hrow, h1, h2, h3, h5, h6, _⟩ := h.ex
  have : rs = [] := by
    cases rs with
    | nil => rfl
    | cons q rs =>
      obtain ⟨k, a, c, _⟩ := h1 q (List.mem_cons_self)
      exact absurd (hD k a) c
  subst this
  exact h6
/-- The ring, and what is read. -/
theorem WI.ring (h : WI sb cb b ent dl E0 sent lay hd n tn now D S) : ∃ (r : Rg) (tl : Nat), look S.rg 4 = some (b, r) ∧ r.tail = (tl : Int) ∧ tl ≤ 1000000 ∧ WI sb cb b ent dl E0 sent lay tl n tn now D (memS S 5 0 (le4 (tl : Int))) := by
  obtain ⟨s, rs, js, C, tl, MS, T, rfl, hT, h4, hC, htk, hnow, hR, hx⟩ := h.ex
  have hn := hR.num
  exact ⟨_, tl, rfl, rfl, by omega, s, rs, js, C, tl, _, T, rfl, hT, h4, hC, htk, hnow, hR.read (n := tl) (by omega), hx⟩
end
/-! ### plain: what is put in, among what is no entry -/
/-! ### plain: the rows of the law -/
def pN1 : Sqe → Bool := fun e => decide (e.op = 1)
/-! ### plain: a ring at first; what is written into it, read out of it -/
section
variable {sb cb b : Nat} {ent : Nat → Sqe} {C : Nat → Cqe} {sent lay tk hd tl : Nat} {S : KS}
theorem NS.layE (h : NS sb cb b ent C sent lay tk hd tl S) (hr : lay < tk + 2 ^ sb) (hl : lay < 1000000) (hw : SqeW (ent lay)) : NS sb cb b ent C sent (lay + 1) tk hd tl (memS S 4 (16 + 32 * (lay % 2 ^ sb)) (rawE (ent lay))) := by
  obtain ⟨s, js, MS, T, rfl, hT, h4, hQ, htk, hjs, hR⟩ := h.ex
  exact ⟨s, js, _, T, rfl, hT, h4, hQ, htk, hjs, hR.layE hr hl Z ⟨(raw_is hw).1, bytes_rawE _⟩⟩
theorem NS.tell (h : NS sb cb b ent C sent lay tk hd tl S) {n : Nat} (hk : tk ≤ n ∧ n ≤ lay) : NS sb cb b ent C n lay tk hd tl (memS S 4 4 (le4 (n : Int))) := by
  obtain ⟨s, js, MS, T, rfl, hT, h4, hQ, htk, hjs, hR⟩ := h.ex
  exact ⟨s, js, _, T, rfl, hT, h4, hQ, htk, hjs, hR.tell hk⟩
theorem NS.read (h : NS sb cb b ent C sent lay tk hd tl S) {n : Nat} (hk : hd ≤ n ∧ n ≤ tl) : NS sb cb b ent C sent lay tk n tl (memS S 5 0 (le4 (n : Int))) := by
  obtain ⟨s, js, MS, T, rfl, hT, h4, hQ, htk, hjs, hR⟩ := h.ex
  exact ⟨s, js, _, T, rfl, hT, h4, hQ, htk, hjs, hR.read hk⟩
theorem NS.rw (h : NS sb cb b ent C sent lay tk hd tl S) : look S.rg 4 = some (b, rgW sb cb C tk tl tk) ∧ RW sb cb (fun j => rawE (ent j)) C sent lay tk hd tl tk S.mem ∧ S.jn.length = tk ∧ look S.tk 4 = some (tk : Int) := by
  obtain ⟨s, js, MS, T, rfl, hT, h4, hQ, htk, hjs, hR⟩ := h.ex
  exact ⟨rfl, hR, hjs, by show look s.tk 4 = _; rw [htk]; rfl⟩
theorem NS.ok (h : NS sb cb b ent C sent lay tk hd tl S) (he : ∀ j, tk ≤ j → j < sent → SqeW (ent j) ∧ p (ent j) = true) (n : Int) : entOk p S 2 n = true := by
  obtain ⟨s, js, MS, T, rfl, hT, h4, hQ, htk, hjs, hR⟩ := h.ex
  exact ent_W hT h4 ⟨fun _ h => (by cases h), List.Pairwise.nil⟩ hR (by simp) he
end
/-! ### plain: entries that do nothing -/
abbrev cmpN (j : Nat) : Cqe := ofD (deedN j (nopE j))
theorem nopE_ok {j : Nat} (h : j < 1000000) : SqeW (nopE j) ∧ (nopE j).flags = 0 ∧ (nopE j).time = 0 ∧ (nopE j).op = 1 ∧ ofD (deedN j (nopE j)) = cmpN j := by
  refine ⟨⟨by show (decide ((1 : Int) ≤ 1) && decide ((1 : Int) ≤ 20) && decide ((0 : Int) ≤ 0) && decide ((0 : Int) ≤ 15) && !decide (bits .and .i64 0 3 = 3)) = true; decide +kernel, ?_, ?_, ?_, ?_, ?_, ?_⟩, rfl, rfl, rfl, rfl⟩
  · show (0 : Int) ≤ (j : Int) ∧ (j : Int) < _; omega
  all_goals show (0 : Int) ≤ 0 ∧ (0 : Int) < _; omega
/-! ### plain: the law's rounds -/
/-- .. with one more entry, as long as there is room. -/
structure BJ (b n i sent tk rd tl : Nat) (S : KS) : Prop where
  inv : EInv pN1 S (40 + 100 * i) (60 + 9 * i)
  ns : NS 1 0 b nopE cmpN sent sent tk rd tl S
  num : sent ≤ n
  nx : tk ≤ tl + 9
  go : 40 ≤ i → min n (i - 40) ≤ rd
  pg : sent = n ∨ tk < sent
theorem BJ.ok {b n i sent tk rd tl : Nat} {S : KS} (h : BJ b n i sent tk rd tl S) (hn : n ≤ 59) : entOk pN1 S 2 4 = true := h.ns.ok (fun j _ h2 => ⟨(nopE_ok (by have := h.num; omega)).1, rfl⟩) 4
/-! ### plain: entries that sleep, or wait for a message -/
def tzA (ts : List Int) (j : Nat) : Int := ts[j]?.getD 0
def opA (ts : List Int) (j : Nat) : Int := if bits .and .i64 (tzA ts j) 1 = 1 then 11 else 19
abbrev tmE (ts : List Int) (j : Nat) : Sqe := ⟨opA ts j, 0, (j : Int), atK 11, 0, 0, 0, ((1 + num (tzA ts j) 20 : Nat) : Int)⟩
def tmD (ts : List Int) (j : Nat) : Int := ((1 + num (tzA ts j) 20 : Nat) : Int)
theorem tmD_in (ts : List Int) (j : Nat) : 1 ≤ tmD ts j ∧ tmD ts j ≤ 20 := by
  have := num_lt (x := tzA ts j) (b := 20) (by omega)
  unfold tmD; omega
def thT : Th := ⟨2, 3, 4, ⟨2, 1, 0, 0, 7⟩⟩
/-- All that the law asks of a state at a time; n entries were taken. -/
structure TT (n b be : Nat) (ts : List Int) (now : Int) (S : KS) : Prop where
  is : WI 3 4 b (tmE ts) (tmD ts) [(60, be)] n n 0 n now now (fun k => tmD ts k ≤ now) S
section
variable {n b be : Nat} {ts : List Int} {now : Int} {S : KS}
theorem TT.at (h : TT n b be ts now S) {k : Nat} (hk : k < n) : (tmD ts k ≤ now ∧ ∃ j d, idxJ S.jn (4, (k : Int) + 1) = some j ∧ S.jn[j]? = some d ∧ d.2.2.2.1 = resW (tmE ts k)) ∨ (now < tmD ts k ∧ idxJ S.jn (4, (k : Int) + 1) = none) := by
  obtain ⟨s, rs, js, C, tl, MS, T, rfl, hT, h4, hC, htk, hnow, hR, hM, hrow, h1, h2, h3, h5, h6, h7, h8⟩ := h.is.ex
  rw [show (k : Int) + 1 = 1 + (k : Int) by omega]
  show (_ ∧ ∃ j d, idxJ js _ = some j ∧ js[j]? = some d ∧ _) ∨ (_ ∧ idxJ js _ = none)
  have inj : ∀ d ∈ js, d.1 = (4, 1 + (k : Int)) → tmD ts k ≤ now ∧ d.2.2.2.1 = resW (tmE ts k) := fun d hd e => by
    obtain ⟨j, _, a, c, f⟩ := h3 d hd
    rw [c, Prod.mk.injEq] at e
    obtain rfl : j = k := by omega
    exact ⟨a, f⟩
  by_cases hD : tmD ts k ≤ now
  · refine .inl ⟨hD, ?_⟩
    cases hx : idxJ js (4, 1 + (k : Int)) with
    | none =>
      exfalso
      obtain ⟨d, hd, e⟩ := h5 k hk hD
      unfold idxJ at hx
      rw [List.findIdx?_eq_none_iff] at hx
      have := hx d hd
      rw [decide_eq_false_iff_not] at this
      exact this e
    | some j =>
      obtain ⟨d, hd, hat⟩ := idxJ_at hx
      have hd1 : d.1 = (4, 1 + (k : Int)) := by
        unfold atJ at hat
        simpa using List.find?_some hat
      exact ⟨j, d, rfl, hd, (inj d (List.mem_of_getElem? hd) hd1).2⟩
  · exact .inr ⟨by omega, (idxJ_none fun d hd e => hD (inj d hd e).1).1⟩
theorem TT.ends (h : TT n b be ts now S) (ht : 20 ≤ now) : S.jn.length = n ∧ look S.ep 60 = some (be, [], []) ∧ S.tm = [] := by
  have ha := h.is.all (fun k _ => by have := tmD_in ts k; omega)
  obtain ⟨s, rs, js, C, tl, MS, T, rfl, hT, h4, hC, htk, hnow, hR, hM, hrow, h1, h2, h3, h5, h6, h7, h8⟩ := h.is.ex
  refine ⟨ha, ?_, ?_⟩
  · show look s.ep 60 = _
    match hy : s.ep, h7, h8 with
    | [(u, b', o, i)], h7, h8 =>
      have h9 := (List.cons_eq_cons.1 h7).1
      rw [Prod.mk.injEq] at h9
      obtain ⟨rfl, rfl⟩ := h9
      obtain ⟨e1, e2⟩ := h8 _ (List.mem_cons_self)
      simp only at e1 e2
      subst e1
      cases i with
      | nil => rfl
      | cons z i =>
        obtain ⟨k, _, a, _⟩ := e2 z (List.mem_cons_self)
        exact absurd (by have := tmD_in ts k; omega) a
  · show s.tm = []
    cases hx : s.tm with
    | nil => rfl
    | cons c r =>
      obtain ⟨k, _, _, a⟩ := hM.is c (by rw [hx]; exact List.mem_cons_self)
      have := tmD_in ts k
      omega
end
/-! ### plain: a notification's word, who waits for it; all else as it was -/
def sgS (s : KS) (bn : Nat) (rs : List Rq) (w : Int) (ws : List ID) (sl : List (Place × SV)) (t : Nat) (js : List Deed) (RG : List (Int × Nat × Rg)) (MS : List (List Int)) : KS := { s with rt := pairsQ rs, nt := [(8, bn, (w, ws))], sl := sl, tk := [(4, (t : Int))], jn := js, rg := RG, mem := MS }
structure Sole (s : KS) : Prop where
  tm : s.tm = []
  ep : s.ep = []
  rp : ∀ x ∈ s.rp, x.2.2.2 = false
  ow : kOwner s 4 = some thT
  be : kBell s 4 = (0, 0)
section
variable {s : KS} {bn : Nat} {rs dn rest : List Rq} {q : Rq} {w : Int} {ws : List ID} {sl : List (Place × SV)} {t : Nat} {js : List Deed} {RG : List (Int × Nat × Rg)} {MS : List (List Int)} (hS : Sole s)
include hS
theorem sg_forget (i : ID) : kForget (sgS s bn rs w ws sl t js RG MS) i = sgS s bn rs w (ldrop ws i) sl t js RG MS := by
 have e : allO (rpD i) s.rp = s.rp := by
  unfold allO
  conv => rhs; rw [← List.map_id s.rp]
  refine List.map_congr_left fun x hx => ?_
  obtain ⟨u, b, c⟩ := x
  have := hS.rp _ hx
  show (u, b, cDrop c i) = (u, b, c)
  unfold cDrop
  rw [if_neg (fun e => by simp only at this; rw [this] at e; cases e.1)]
 show ({ sgS s bn rs w ws sl t js RG MS with tm := tdrop s.tm i, ep := allO (epD i) s.ep, nt := allO (ntD i) [(8, bn, (w, ws))], rp := allO (rpD i) s.rp } : KS) = _
 rw [hS.tm, hS.ep, e]
 unfold sgS
 obtain ⟨h1, h2, _, _, _⟩ := hS
 cases s
 simp only at h1 h2
 subst h1; subst h2
 rfl
theorem sg_tell (hd : d.1.1 = 4) : ∃ RG' MS', kTell D (sgS s bn rs w ws sl t js RG MS) d = sgS s bn rs w ws sl t (js ++ [d]) RG' MS' := by
 have hp : ∃ RG' MS', kSaid (sgS s bn rs w ws sl t js RG MS) d = sgS s bn rs w ws sl t (js ++ [d]) RG' MS' := by
  unfold kSaid kPost
  rw [hd]
  show ∃ RG' MS', (match look RG 4 with
   | none => sgS s bn rs w ws sl t (js ++ [d]) RG MS
   | some (_, r) => { sgS s bn rs w ws sl t (js ++ [d]) RG MS with rg := updO RG 4 (fun r => postR r MS (ofD d)), mem := postM r MS (ofD d) }) = _
  cases look RG 4 with
  | none => exact ⟨RG, MS, rfl⟩
  | some x => exact ⟨_, _, rfl⟩
 obtain ⟨RG', MS', h⟩ := hp
 refine ⟨RG', MS', ?_⟩
 unfold kTell
 rw [h, hd, show kBell (sgS s bn rs w ws sl t (js ++ [d]) RG' MS') 4 = (0, 0) from hS.be, show look (KS.nt (sgS s bn rs w ws sl t (js ++ [d]) RG' MS')) ((0 : Int), (0 : Int)).1 = none from rfl]
theorem sg_dec (h : Row (dn ++ q :: rest)) (h0 : ∀ x ∈ dn ++ rest, x.prev = 0) (hi : q.id.2 ≠ 0) (r v : Int) (n : Nat) : ∃ RG' MS', kDec (n + 1) (sgS s bn (dn ++ q :: rest) w ws sl t js RG MS) q.id r v = sgS s bn (dn ++ rest) w (ldrop ws q.id) sl t (js ++ [(q.id, q.e.tag, q.e.op, r, v, false)]) RG' MS' := by
  have h4 : q.id.1 = 4 := h.ring q (List.mem_append_right _ (List.mem_cons_self))
  obtain ⟨RG', MS', g⟩ := sg_tell hS (bn := bn) (rs := dn ++ rest) (w := w) (ws := ldrop ws q.id) (sl := sl) (t := t) (js := js) (RG := RG) (MS := MS) (D := kDec n) (d := (q.id, q.e.tag, q.e.op, r, v, false)) h4
  refine ⟨RG', MS', ?_⟩
  have hl : look (KS.rt (sgS s bn (dn ++ q :: rest) w ws sl t js RG MS)) q.id = some q := h.lookM
  have hdel : { sgS s bn (dn ++ q :: rest) w ws sl t js RG MS with rt := del (KS.rt (sgS s bn (dn ++ q :: rest) w ws sl t js RG MS)) q.id } = sgS s bn (dn ++ rest) w ws sl t js RG MS := by
    have : del (KS.rt (sgS s bn (dn ++ q :: rest) w ws sl t js RG MS)) q.id = pairsQ (dn ++ rest) := h.delM
    rw [this]; rfl
  rw [kDec_some hl, hdel, sg_forget hS, g]
  unfold kNext
  rw [show afterQ (KS.rt (sgS s bn (dn ++ rest) w (ldrop ws q.id) sl t (js ++ [(q.id, q.e.tag, q.e.op, r, v, false)]) RG' MS')) q.id = none from h.drop.noAfter h4 h0 hi]
omit hS in
/-- The request of an entry that is asked. -/
def asQ (t : Nat) (e : Sqe) (b : Bool) : Rq := ⟨(4, 1 + (t : Int)), e, 0, false, b⟩
omit hS in
theorem sg_ask (hr : Row (rs ++ [asQ t e false])) (h16 : rs.length < 16) : askId (sgS s bn rs w ws sl t js RG MS) 4 = (4, 1 + (t : Int)) ∧ addOk (kTake (sgS s bn rs w ws sl t js RG MS) 4 1).rt (rqN (askId (sgS s bn rs w ws sl t js RG MS) 4) e) = true ∧ askT1 (sgS s bn rs w ws sl t js RG MS) 4 e = sgS s bn (rs ++ [asQ t e false]) w ws sl (t + 1) js RG MS := by
  have hi : askId (sgS s bn rs w ws sl t js RG MS) 4 = (4, 1 + (t : Int)) := by
    unfold askId kTakeV
    show ((4 : Int), (if (look [((4 : Int), (t : Int))] 4).isSome = true then (look [((4 : Int), (t : Int))] 4).getD 0 + 1 else 0)) = _
    rw [show look [((4 : Int), (t : Int))] 4 = some (t : Int) from rfl]
    show ((4 : Int), (t : Int) + 1) = _
    rw [Int.add_comm]
  have hk : kTake (sgS s bn rs w ws sl t js RG MS) 4 1 = sgS s bn rs w ws sl (t + 1) js RG MS := by
    unfold kTake sgS
    simp [Go.Pse.look, Go.Pse.ins]
  have hno : look (pairsQ rs) (4, 1 + (t : Int)) = none := pairs_none fun x hx e2 => by
    have := (List.pairwise_append.1 hr.up).2.2 x hx _ (List.mem_singleton.2 rfl)
    rw [e2] at this
    exact absurd this (Int.lt_irrefl _)
  have ho : addOk (pairsQ rs) (asQ t e false) = true := by
    unfold addOk
    rw [show look (pairsQ rs) (asQ t e false).id = none from hno]
    have := ofQ_len (pairsQ rs) 4
    unfold pairsQ at this
    rw [List.length_map] at this
    show (!Option.isSome none && decide ((ofQ (pairsQ rs) 4).length < 16)) = true
    simp
    unfold pairsQ
    omega
  refine ⟨hi, ?_, ?_⟩
  · rw [hi, hk]; exact ho
  · unfold askT1
    rw [hi, hk]
    have hq : addQ (pairsQ rs) (asQ t e false) = pairsQ (rs ++ [asQ t e false]) := by
      unfold addQ
      rw [if_pos ho, pairs_app]
      unfold Go.Pse.ins
      rw [show look (pairsQ rs) (asQ t e false).id = none from hno]; rfl
    show ({ sgS s bn rs w ws sl (t + 1) js RG MS with rt := addQ (pairsQ rs) (asQ t e false) } : KS) = _
    rw [hq]; rfl
theorem sg_start (hr : Row (rs ++ [asQ t e false])) (h16 : rs.length < 16) (b : Nat) : kAskS (sgS s bn rs w ws sl t js RG MS) 4 e b = (match kDoes (sgS s bn (rs ++ [asQ t e true]) w ws sl (t + 1) js RG MS) thT (asQ t e true) (4, 1 + (t : Int)) b with
    | (S, none) => S
    | (S, some x) => kDec S.rt.length S (4, 1 + (t : Int)) x.1 x.2) ∧ kAskR (sgS s bn rs w ws sl t js RG MS) 4 e b = askR (kAskS (sgS s bn rs w ws sl t js RG MS) 4 e b).jn (4, 1 + (t : Int)) := by
  obtain ⟨h1, h2, h3⟩ := sg_ask (s := s) (bn := bn) (w := w) (ws := ws) (sl := sl) (js := js) (RG := RG) (MS := MS) hr h16
  have e0 : kAskS (sgS s bn rs w ws sl t js RG MS) 4 e b = (kStart (sgS s bn (rs ++ [asQ t e false]) w ws sl (t + 1) js RG MS) (4, 1 + (t : Int)) b).1 := by
    unfold kAskS
    rw [if_pos h2, h3, h1]
  have hst : { sgS s bn (rs ++ [asQ t e false]) w ws sl (t + 1) js RG MS with rt := rtS (KS.rt (sgS s bn (rs ++ [asQ t e false]) w ws sl (t + 1) js RG MS)) (4, 1 + (t : Int)) } = sgS s bn (rs ++ [asQ t e true]) w ws sl (t + 1) js RG MS := by
    have : rtS (KS.rt (sgS s bn (rs ++ [asQ t e false]) w ws sl (t + 1) js RG MS)) (4, 1 + (t : Int)) = pairsQ (rs ++ [asQ t e true]) := Row.startM hr
    rw [this]; rfl
  have hl : look (KS.rt (sgS s bn (rs ++ [asQ t e false]) w ws sl (t + 1) js RG MS)) (4, 1 + (t : Int)) = some (asQ t e false) := Row.lookM hr
  have hl2 : look (KS.rt (sgS s bn (rs ++ [asQ t e true]) w ws sl (t + 1) js RG MS)) (4, 1 + (t : Int)) = some (asQ t e true) := Row.lookM (Row.mark hr rfl)
  have hact : kAct (sgS s bn (rs ++ [asQ t e true]) w ws sl (t + 1) js RG MS) (4, 1 + (t : Int)) b = kDoes (sgS s bn (rs ++ [asQ t e true]) w ws sl (t + 1) js RG MS) thT (asQ t e true) (4, 1 + (t : Int)) b := by
    unfold kAct
    rw [hl2]
    dsimp only
    rw [show kOwner (sgS s bn (rs ++ [asQ t e true]) w ws sl (t + 1) js RG MS) 4 = some thT from hS.ow]
  constructor
  · rw [e0, kStart_is hl rfl, hst, hact]
    cases kDoes (sgS s bn (rs ++ [asQ t e true]) w ws sl (t + 1) js RG MS) thT (asQ t e true) (4, 1 + (t : Int)) b with
    | mk S o => cases o <;> rfl
  · rw [e0]
    unfold kAskR
    rw [if_pos h2, h3, h1]
variable {v : Int}
/-- An entry that is done at once. -/
theorem sg_done {w' : Int} {ws' : List ID} {sl' : List (Place × SV)} {rs' : List Rq} {js' : List Deed} {RG' : List (Int × Nat × Rg)} {MS' : List (List Int)} {r : Int} (hr : Row (rs ++ [asQ t e false])) (hr2 : Row (rs' ++ [asQ t e true])) (h0 : ∀ x ∈ rs', x.prev = 0) (h16 : rs.length < 16) (hj : ∀ d ∈ js', d.1 ≠ (4, 1 + (t : Int))) (b : Nat)
  (hd : kDoes (sgS s bn (rs ++ [asQ t e true]) w ws sl (t + 1) js RG MS) thT (asQ t e true) (4, 1 + (t : Int)) b = (sgS s bn (rs' ++ [asQ t e true]) w' ws' sl' (t + 1) js' RG' MS', some (r, v))) : ∃ RG2 MS2, kAskS (sgS s bn rs w ws sl t js RG MS) 4 e b = sgS s bn rs' w' (ldrop ws' (4, 1 + (t : Int))) sl' (t + 1) (js' ++ [((4, 1 + (t : Int)), e.tag, e.op, r, v, false)]) RG2 MS2 ∧ kAskR (sgS s bn rs w ws sl t js RG MS) 4 e b = (r, v, true) := by
 obtain ⟨g1, g2⟩ := sg_start hS (bn := bn) (w := w) (ws := ws) (sl := sl) (js := js) (RG := RG) (MS := MS) hr h16 b
 obtain ⟨RG2, MS2, g3⟩ := sg_dec hS (bn := bn) (w := w') (ws := ws') (sl := sl') (t := t + 1) (js := js') (RG := RG') (MS := MS') hr2 (by rw [List.append_nil]; exact h0) (by show (1 + (t : Int)) ≠ 0; omega) r v rs'.length
 rw [List.append_nil] at g3
 have e1 : kAskS (sgS s bn rs w ws sl t js RG MS) 4 e b = sgS s bn rs' w' (ldrop ws' (4, 1 + (t : Int))) sl' (t + 1) (js' ++ [((4, 1 + (t : Int)), e.tag, e.op, r, v, false)]) RG2 MS2 := by
  rw [g1, hd]
  refine Eq.trans ?_ g3
  show kDec (pairsQ _).length _ _ _ _ = _
  unfold pairsQ
  rw [List.length_map, List.length_append]; rfl
 refine ⟨RG2, MS2, e1, ?_⟩
 rw [g2, e1]
 show askR (js' ++ _) _ = _
 unfold askR
 rw [atJ_snoc rfl hj]
/-- An entry that waits. -/
theorem sg_waits {S' : KS} (hr : Row (rs ++ [asQ t e false])) (h16 : rs.length < 16) (b : Nat) (hd : kDoes (sgS s bn (rs ++ [asQ t e true]) w ws sl (t + 1) js RG MS) thT (asQ t e true) (4, 1 + (t : Int)) b = (S', none)) (hj : ∀ d ∈ S'.jn, d.1 ≠ (4, 1 + (t : Int))) : kAskS (sgS s bn rs w ws sl t js RG MS) 4 e b = S' ∧ (kAskR (sgS s bn rs w ws sl t js RG MS) 4 e b).2.2 = false := by
  obtain ⟨g1, g2⟩ := sg_start hS (bn := bn) (w := w) (ws := ws) (sl := sl) (js := js) (RG := RG) (MS := MS) hr h16 b
  rw [hd] at g1
  refine ⟨g1, ?_⟩
  rw [g2, g1]
  unfold askR
  rw [atJ_none hj]
end
/-! ### plain: the law's entries -/
abbrev eRt : Sqe := ⟨7, 0, 0, atK 7, atK 11, 5, 0, 0⟩
abbrev eMi (n : Int) : Sqe := ⟨3, 0, 0, atK 11, atK 12, n, 0, 0⟩
abbrev eWt : Sqe := ⟨15, 0, 5, atK 11, 0, 0, 0, 0⟩
abbrev eSg (f a : Int) : Sqe := ⟨14, 0, 0, f, a, 0, 0, 0⟩
def slN : List (Place × SV) := slPut (coreN 1 6 false).2.2.1 (1, 11) ⟨5, 8, 0, 0, 7⟩ (1, 7)
def slM (n : Int) : List (Place × SV) := ins slN (1, 12) (⟨5, 8, 0, n, 7⟩, (1, 11))
/-- What is found at the notification's slot, and at the one that signals. -/
structure HasN (sl : List (Place × SV)) (f x : Int) : Prop where
  at11 : (kCap sl thT.root (atK 11) 5).1 = ⟨5, 8, 0, 0, 7⟩ ∧ (kCap sl thT.root (atK 11) 5).2.2 = 0
  atF : (kCap sl thT.root f 5).1 = ⟨5, 8, 0, x, 7⟩ ∧ (kCap sl thT.root f 5).2.2 = 0
set_option maxRecDepth 100000 in
theorem hasN : HasN slN (atK 11) 0 := ⟨⟨by kernel_rfl, by kernel_rfl⟩, ⟨by kernel_rfl, by kernel_rfl⟩⟩
set_option maxRecDepth 100000 in
theorem hasM (n : Int) : HasN (slM n) (atK 12) n := ⟨⟨by kernel_rfl, by kernel_rfl⟩, ⟨by kernel_rfl, by kernel_rfl⟩⟩
/-- A state whose notification has this word, who waits for it. -/
def SG (bn t : Nat) (sl : List (Place × SV)) (rs : List Rq) (w : Int) (ws : List ID) (js : List Deed) (S : KS) : Prop := ∃ s RG MS, Sole s ∧ S = sgS s bn rs w ws sl t js RG MS
variable {bn : Nat} {sl : List (Place × SV)}
theorem SG.jn {w : Int} {ws : List ID} (h : SG bn t sl rs w ws js S) : S.jn = js := by
  obtain ⟨s, RG, MS, _, rfl⟩ := h
  rfl
theorem row_one (q : Rq) (h : q.id.1 = 4) : Row [q] := ⟨fun x hx => by rw [List.mem_singleton.1 hx]; exact h, List.pairwise_singleton _ _⟩
theorem row_two (t : Nat) (e e' : Sqe) (b b' : Bool) : Row ([asQ t e b] ++ [asQ (t + 1) e' b']) := (row_one _ rfl).app (row_one _ rfl) fun x hx y hy => by
  rw [List.mem_singleton.1 hx, List.mem_singleton.1 hy]
  show 1 + (t : Int) < 1 + ((t + 1 : Nat) : Int)
  omega
def Old (t : Nat) (js : List Deed) : Prop := ∀ d ∈ js, ∃ k : Nat, k < t ∧ d.1 = (4, 1 + (k : Int))
theorem Old.ne (h : Old t js) : ∀ d ∈ js, d.1 ≠ (4, 1 + (t : Int)) := fun d hd e => by
  obtain ⟨k, hk, h2⟩ := h d hd
  rw [h2, Prod.mk.injEq] at e
  omega
theorem Old.more (h : Old t js) (hd : ∃ k : Nat, k < t + 1 ∧ d.1 = (4, 1 + (k : Int))) : Old (t + 1) (js ++ [d]) := fun x hx => by
  rcases List.mem_append.1 hx with hx | hx
  · obtain ⟨k, a, c⟩ := h x hx
    exact ⟨k, by omega, c⟩
  · rw [List.mem_singleton.1 hx]; exact hd
variable {x : Int}
theorem may_is (hs : s.sl = sl) {r : Int} (h : (kCap sl thT.root e.cap 5).1 = ⟨5, 8, 0, x, 7⟩ ∧ (kCap sl thT.root e.cap 5).2.2 = 0) (hr : bits .and .i64 7 r = r) : mayS s thT e 5 r = (⟨5, 8, 0, x, 7⟩, 0) := by
  unfold mayS
  rw [hs, h.1, h.2, if_neg (fun hh => hh.2 hr)]
section
variable {bn t : Nat} {sl : List (Place × SV)} {rs : List Rq} {w : Int} {ws : List ID} {js : List Deed} {S : KS}
theorem SG.chk {e : Sqe} (h : SG bn t sl rs w ws js S) (hr : Row (rs ++ [asQ t e false])) (h16 : rs.length < 16) {b : Nat} {r v : Int} {d : Bool} (hk : kAskR S 4 e b = (r, v, d)) : chk S 4 e b r v d t = true := by
  obtain ⟨s, RG, MS, hS, rfl⟩ := h
  obtain ⟨_, g2, _⟩ := sg_ask (s := s) (bn := bn) (w := w) (ws := ws) (sl := sl) (js := js) (RG := RG) (MS := MS) hr h16
  unfold Go.Pse.chk
  rw [g2, hk, decide_eq_true rfl, show look (KS.tk (sgS s bn rs w ws sl t js RG MS)) 4 = some (t : Int) from rfl, decide_eq_true rfl]; rfl
variable {v : Int}
/-- Nobody waits: an entry that is done at once. -/
theorem SG.done {w' : Int} {sl' : List (Place × SV)} {r : Int} (h : SG bn t sl [] w [] js S) (ho : Old t js) (b : Nat) (hd : ∀ s RG MS, kDoes (sgS s bn [asQ t e true] w [] sl (t + 1) js RG MS) thT (asQ t e true) (4, 1 + (t : Int)) b = (sgS s bn [asQ t e true] w' [] sl' (t + 1) js RG MS, some (r, v))) : Go.Pse.chk S 4 e b r v true t = true ∧ SG bn (t + 1) sl' [] w' [] (js ++ [((4, 1 + (t : Int)), e.tag, e.op, r, v, false)]) (kAskS S 4 e b) := by
  have h0 := h
  obtain ⟨s, RG, MS, hS, rfl⟩ := h
  obtain ⟨RG2, MS2, g1, g2⟩ := sg_done hS (rs := []) (rs' := []) (row_one _ rfl) (row_one _ rfl) (fun x hx => by cases hx) (by simp) ho.ne b (hd s RG MS)
  exact ⟨h0.chk (row_one _ Z) (by simp) g2, s, RG2, MS2, hS, g1⟩
theorem SG.mint (h : SG bn 1 slN [] 0 [] js S) (ho : Old 1 js) {n : Int} (hn : 0 < n ∧ n ≤ 2147483647) (b : Nat) : Go.Pse.chk S 4 (eMi n) b 0 0 true 1 = true ∧ SG bn 2 (slM n) [] 0 [] (js ++ [((4, 2), 0, 3, 0, 0, false)]) (kAskS S 4 (eMi n) b) := by
 refine h.done ho b fun s RG MS => ?_
 have e1 : kFind slN thT.root (atK 11) = some (1, 11) := by decide +kernel
 have e2 : kFind slN thT.root (atK 12) = some (1, 12) := by decide +kernel
 have e3 : bothS slN (1, 11) (1, 12) = (⟨5, 8, 0, 0, 7⟩, 0) := by decide +kernel
 have e4 : badgeC ⟨5, 8, 0, 0, 7⟩ n = (⟨5, 8, 0, n, 7⟩, 0) := by
  unfold badgeC
  rw [if_pos (.inr rfl), if_neg (fun hh => hh.elim (fun h => h rfl) (by omega)), if_neg (by omega)]
 have e5 : slPut slN (1, 12) ⟨5, 8, 0, n, 7⟩ (1, 11) = slM n := by
  have a : canP (1, 12) = true := by decide +kernel
  have c : (look slN (1, 12)).isSome = false := by decide +kernel
  have d : (look slN (1, 11)).isSome = true := by decide +kernel
  have k : checkC ⟨5, 8, 0, n, 7⟩ = true := by
   unfold checkC inB
   simp
   omega
  unfold slPut slPutOk
  rw [a, c, d, k]; rfl
 have e6 : mintS slN (1, 11) (1, 12) n = (slM n, 0) := by
  unfold mintS
  rw [e3, if_neg (by decide), e4, if_neg (by show ¬ (0 : Int) ≠ 0; decide), e5]
 unfold kDoes
 rw [show (asQ 1 (eMi n) true).e.op = 3 from rfl, if_neg (by decide), if_pos (.inr (.inl rfl))]
 have e7 : kSlots (sgS s bn [asQ 1 (eMi n) true] 0 [] slN (1 + 1) js RG MS) thT (eMi n) = (sgS s bn [asQ 1 (eMi n) true] 0 [] (slM n) (1 + 1) js RG MS, 0) := by
  unfold kSlots
  rw [if_neg (by show ¬ (3 : Int) = 2; decide), if_pos rfl]
  unfold twoAt
  rw [show (sgS s bn [asQ 1 (eMi n) true] 0 [] slN (1 + 1) js RG MS).sl = slN from rfl, show (eMi n).cap = atK 11 from rfl, show (eMi n).a = atK 12 from rfl, e1]
  dsimp only
  rw [e2]
  dsimp only
  unfold twoS mintF
  dsimp only
  rw [show (sgS s bn [asQ 1 (eMi n) true] 0 [] slN (1 + 1) js RG MS).sl = slN from rfl, e6]; rfl
 rw [show (asQ 1 (eMi n) true).e = eMi n from rfl, e7]; rfl
theorem orb0 {z : Int} (hz : 0 ≤ z ∧ z < 4294967296) : orb 0 z = z := by
  obtain ⟨n, rfl⟩ := Int.eq_ofNat_of_zero_le hz.1
  have := u32_or_nat 0 n (by omega) (by omega)
  unfold orb
  rw [show ((0 : Int)) = ((0 : Nat) : Int) from rfl, this, Nat.zero_or]
theorem nt8 {w : Int} : look (KS.nt (sgS s bn rs w ws sl t js RG MS)) ((⟨5, 8, 0, x, 7⟩ : Cap), (0 : Int)).1.obj = some (bn, w, ws) := rfl
/-- Nobody waits: bits are signalled. -/
theorem SG.signal (h : SG bn t sl [] 0 [] js S) (ho : Old t js) {f x a z : Int} (hf : HasN sl f x) (hz : sigB ⟨5, 8, 0, x, 7⟩ (eSg f a) = z ∧ 0 ≤ z ∧ z < 4294967296) (b : Nat) : Go.Pse.chk S 4 (eSg f a) b 0 0 true t = true ∧ SG bn (t + 1) sl [] z [] (js ++ [((4, 1 + (t : Int)), 0, 14, 0, 0, false)]) (kAskS S 4 (eSg f a) b) := by
 refine h.done ho b fun s RG MS => ?_
 unfold kDoes
 rw [show (asQ t (eSg f a) true).e.op = 14 from rfl]
 show ((kSignals (sgS s bn [asQ t (eSg f a) true] 0 [] sl (t + 1) js RG MS) thT (eSg f a)).1, failO (kSignals (sgS s bn [asQ t (eSg f a) true] 0 [] sl (t + 1) js RG MS) thT (eSg f a)).2) = _
 have e : kSignals (sgS s bn [asQ t (eSg f a) true] 0 [] sl (t + 1) js RG MS) thT (eSg f a) = (sgS s bn [asQ t (eSg f a) true] z [] sl (t + 1) js RG MS, 0) := by
  unfold kSignals
  rw [may_is (s := sgS s bn [asQ t (eSg f a) true] 0 [] sl (t + 1) js RG MS) rfl (e := eSg f a) (r := 2) hf.atF (by decide +kernel), if_neg (by show ¬ (0 : Int) ≠ 0; decide), nt8]
  dsimp only
  rw [hz.1, if_neg (by unfold woke; simp)]
  show ({ sgS s bn [asQ t (eSg f a) true] 0 [] sl (t + 1) js RG MS with nt := [(8, bn, ntS z (0, []))] }, (0 : Int)) = _
  have : ntS z ((0 : Int), ([] : List ID)) = (z, []) := by
   unfold ntS sigW sigL woke
   simp [orb0 hz.2]
  rw [this]; rfl
 rw [e]; rfl
variable {f : Int}
/-- Bits are there: who asks for them has them. -/
theorem SG.takes (h : SG bn t sl [] w [] js S) (ho : Old t js) (hf : HasN sl f x) (hw : w ≠ 0) (b : Nat) : Go.Pse.chk S 4 eWt b 0 w true t = true := by
  refine (h.done (w' := 0) (sl' := sl) ho b fun s RG MS => ?_).1
  unfold kDoes
  rw [show (asQ t eWt true).e.op = 15 from rfl]
  show kNWaits (sgS s bn [asQ t eWt true] w [] sl (t + 1) js RG MS) thT eWt (4, 1 + (t : Int)) = _
  unfold kNWaits
  rw [may_is (s := sgS s bn [asQ t eWt true] w [] sl (t + 1) js RG MS) rfl (e := eWt) (r := 1) hf.at11 (by decide +kernel), if_neg (by show ¬ (0 : Int) ≠ 0; decide), nt8]
  dsimp only
  rw [if_neg hw]
  show ({ sgS s bn [asQ t eWt true] w [] sl (t + 1) js RG MS with nt := [(8, bn, ntW (4, 1 + (t : Int)) (w, []))] }, some ((0 : Int), w)) = _
  have : ntW ((4 : Int), 1 + (t : Int)) (w, []) = (0, []) := by unfold ntW waitL; rw [if_neg hw]
  rw [this]; rfl
/-- None are there: it waits. -/
theorem SG.waits (h : SG bn t sl [] 0 [] js S) (ho : Old t js) (hf : HasN sl f x) (b : Nat) : Go.Pse.chk S 4 eWt b 0 0 false t = true ∧ SG bn (t + 1) sl [asQ t eWt true] 0 [(4, 1 + (t : Int))] js (kAskS S 4 eWt b) := by
 have h0 := h
 obtain ⟨s, RG, MS, hS, rfl⟩ := h
 have hd : kDoes (sgS s bn ([] ++ [asQ t eWt true]) 0 [] sl (t + 1) js RG MS) thT (asQ t eWt true) (4, 1 + (t : Int)) b = (sgS s bn [asQ t eWt true] 0 [(4, 1 + (t : Int))] sl (t + 1) js RG MS, none) := by
  unfold kDoes
  rw [show (asQ t eWt true).e.op = 15 from rfl]
  show kNWaits (sgS s bn [asQ t eWt true] 0 [] sl (t + 1) js RG MS) thT eWt (4, 1 + (t : Int)) = _
  unfold kNWaits
  rw [may_is (s := sgS s bn [asQ t eWt true] 0 [] sl (t + 1) js RG MS) rfl (e := eWt) (r := 1) hf.at11 (by decide +kernel), if_neg (by show ¬ (0 : Int) ≠ 0; decide), nt8]
  dsimp only
  rw [if_pos rfl]; rfl
 obtain ⟨g1, g2⟩ := sg_waits hS (row_one _ rfl) (by simp) b hd ho.ne
 have g3 : kAskR (sgS s bn [] 0 [] sl t js RG MS) 4 eWt b = (0, 0, false) := by
  obtain ⟨_, q2⟩ := sg_start hS (bn := bn) (rs := []) (w := 0) (ws := []) (sl := sl) (t := t) (js := js) (RG := RG) (MS := MS) (e := eWt) (row_one _ rfl) (by simp) b
  rw [q2, g1]
  show askR js _ = _
  unfold askR
  rw [atJ_none ho.ne]
 exact ⟨h0.chk (row_one _ Z) (by simp) g3, s, RG, MS, hS, g1⟩
/-- One waits: it is woken, or not. -/
theorem SG.wakes (h : SG bn (t + 1) sl [asQ t eWt true] 0 [(4, 1 + (t : Int))] js S) (ho : Old t js) {f x a z : Int} (hf : HasN sl f x) (hz : sigB ⟨5, 8, 0, x, 7⟩ (eSg f a) = z ∧ 0 ≤ z ∧ z < 4294967296) (b : Nat) : Go.Pse.chk S 4 (eSg f a) b 0 0 true ((t + 1 : Nat) : Int) = true ∧ (kAskS S 4 (eSg f a) b).jn = js ++ (if z = 0 then [] else [((4, 1 + (t : Int)), 5, 15, 0, z, false)]) ++ [((4, 1 + ((t + 1 : Nat) : Int)), 0, 14, 0, 0, false)] := by
  have h0 := h
  obtain ⟨s, RG, MS, hS, rfl⟩ := h
  have hk : kSignals (sgS s bn ([asQ t eWt true] ++ [asQ (t + 1) (eSg f a) true]) 0 [(4, 1 + (t : Int))] sl (t + 1 + 1) js RG MS) thT (eSg f a) = (if z = 0 then sgS s bn ([asQ t eWt true] ++ [asQ (t + 1) (eSg f a) true]) 0 [(4, 1 + (t : Int))] sl (t + 1 + 1) js RG MS else kDec 2 (sgS s bn ([] ++ asQ t eWt true :: [asQ (t + 1) (eSg f a) true]) 0 [] sl (t + 1 + 1) js RG MS) (4, 1 + (t : Int)) 0 z, 0) := by
    unfold kSignals
    rw [may_is (s := sgS s bn ([asQ t eWt true] ++ [asQ (t + 1) (eSg f a) true]) 0 [(4, 1 + (t : Int))] sl (t + 1 + 1) js RG MS) rfl (e := eSg f a) (r := 2) hf.atF (by decide +kernel), if_neg (by show ¬ (0 : Int) ≠ 0; decide), nt8]
    dsimp only
    rw [hz.1]
    by_cases h1 : z = 0
    · have hw : woke 0 [((4 : Int), 1 + (t : Int))] z = false := by unfold woke; rw [orb0 hz.2, h1]; rfl
      rw [hw, if_neg (by decide), if_pos h1]
      show ({ sgS s bn ([asQ t eWt true] ++ [asQ (t + 1) (eSg f a) true]) 0 [(4, 1 + (t : Int))] sl (t + 1 + 1) js RG MS with nt := [(8, bn, ntS z (0, [(4, 1 + (t : Int))]))] }, (0 : Int)) = _
      have : ntS z ((0 : Int), [((4 : Int), 1 + (t : Int))]) = (0, [(4, 1 + (t : Int))]) := by
        unfold ntS sigW sigL
        rw [hw, orb0 hz.2, h1]; rfl
      rw [this]; rfl
    · have hw : woke 0 [((4 : Int), 1 + (t : Int))] z = true := by unfold woke; rw [orb0 hz.2, decide_eq_false h1]; rfl
      rw [hw, if_pos rfl, if_neg h1]
      have e1 : sigI 0 [((4 : Int), 1 + (t : Int))] z = (4, 1 + (t : Int)) := by unfold sigI; rw [hw]; rfl
      have e2 : sigV 0 [((4 : Int), 1 + (t : Int))] z = z := by unfold sigV; rw [hw, orb0 hz.2]; rfl
      have e3 : ntS z ((0 : Int), [((4 : Int), 1 + (t : Int))]) = (0, []) := by
        unfold ntS sigW sigL
        rw [hw]; rfl
      rw [e1, e2]
      show (kDec 2 { sgS s bn ([asQ t eWt true] ++ [asQ (t + 1) (eSg f a) true]) 0 [(4, 1 + (t : Int))] sl (t + 1 + 1) js RG MS with nt := [(8, bn, ntS z (0, [(4, 1 + (t : Int))]))] } (4, 1 + (t : Int)) 0 z, (0 : Int)) = _
      rw [e3]; rfl
  have hrow : Row ([asQ t eWt true] ++ [asQ (t + 1) (eSg f a) false]) := row_two t _ _ _ _
  have hold : ∀ d ∈ js, d.1 ≠ (4, 1 + ((t + 1 : Nat) : Int)) := fun d hd e => by
    obtain ⟨k, hk, h2⟩ := ho d hd
    rw [h2, Prod.mk.injEq] at e
    omega
  have hdo : kDoes (sgS s bn ([asQ t eWt true] ++ [asQ (t + 1) (eSg f a) true]) 0 [(4, 1 + (t : Int))] sl (t + 1 + 1) js RG MS) thT (asQ (t + 1) (eSg f a) true) (4, 1 + ((t + 1 : Nat) : Int)) b = (if z = 0 then sgS s bn ([asQ t eWt true] ++ [asQ (t + 1) (eSg f a) true]) 0 [(4, 1 + (t : Int))] sl (t + 1 + 1) js RG MS else kDec 2 (sgS s bn ([] ++ asQ t eWt true :: [asQ (t + 1) (eSg f a) true]) 0 [] sl (t + 1 + 1) js RG MS) (4, 1 + (t : Int)) 0 z, some (0, 0)) := by
    unfold kDoes
    rw [show (asQ (t + 1) (eSg f a) true).e.op = 14 from rfl]
    show ((kSignals (sgS s bn ([asQ t eWt true] ++ [asQ (t + 1) (eSg f a) true]) 0 [(4, 1 + (t : Int))] sl (t + 1 + 1) js RG MS) thT (eSg f a)).1, failO (kSignals (sgS s bn ([asQ t eWt true] ++ [asQ (t + 1) (eSg f a) true]) 0 [(4, 1 + (t : Int))] sl (t + 1 + 1) js RG MS) thT (eSg f a)).2) = _
    rw [hk]; rfl
  by_cases h1 : z = 0
  · rw [if_pos h1] at hdo
    obtain ⟨RG2, MS2, g1, g2⟩ := sg_done hS (rs := [asQ t eWt true]) (rs' := [asQ t eWt true]) hrow (row_two t _ _ _ _) (fun x hx => by rw [List.mem_singleton.1 hx]; rfl) (by simp) hold b hdo
    refine ⟨h0.chk hrow (by simp) g2, ?_⟩
    rw [g1, if_pos h1, List.append_nil]; rfl
  · rw [if_neg h1] at hdo
    obtain ⟨RG1, MS1, k1⟩ := sg_dec hS (bn := bn) (dn := []) (q := asQ t eWt true) (rest := [asQ (t + 1) (eSg f a) true]) (w := 0) (ws := []) (sl := sl) (t := t + 1 + 1) (js := js) (RG := RG) (MS := MS) (row_two t _ _ _ _) (fun x hx => by rw [List.mem_singleton.1 (show x ∈ [asQ (t + 1) (eSg f a) true] from hx)]; rfl) (by show (1 + (t : Int)) ≠ 0; omega) 0 z 1
    rw [show (asQ t eWt true).id = (4, 1 + (t : Int)) from rfl] at k1
    rw [k1] at hdo
    obtain ⟨RG2, MS2, g1, g2⟩ := sg_done hS (rs := [asQ t eWt true]) (rs' := []) hrow (row_one _ rfl) (fun x hx => by cases hx) (by simp) (fun d hd => by
      rcases List.mem_append.1 hd with hd | hd
      · exact hold d hd
      · rw [List.mem_singleton.1 hd]
        intro e
        rw [Prod.mk.injEq] at e
        have h2 : 1 + (t : Int) = 1 + ((t + 1 : Nat) : Int) := e.2
        omega) b hdo
    refine ⟨h0.chk hrow (by simp) g2, ?_⟩
    rw [g1, if_neg h1]; rfl
end
set_option maxRecDepth 100000 in
theorem retype_ok (g : NewG) (b : Nat) : chk (kNew 1 6 3 4 false g) 4 eRt b 0 8 true 0 = true := by kernel_rfl
def d1 : Deed := ((4, 1), 0, 7, 0, 8, false)
set_option maxRecDepth 100000 in
theorem retype_sg (g : NewG) (b : Nat) : SG b 1 slN [] 0 [] [d1] (kAskS (kNew 1 6 3 4 false g) 4 eRt b) := by
 have h1 : (kAskS (kNew 1 6 3 4 false g) 4 eRt b).rt = [] := by kernel_rfl
 have h2 : (kAskS (kNew 1 6 3 4 false g) 4 eRt b).nt = [(8, b, (0, []))] := by kernel_rfl
 have h3 : (kAskS (kNew 1 6 3 4 false g) 4 eRt b).sl = slN := by kernel_rfl
 have h4 : (kAskS (kNew 1 6 3 4 false g) 4 eRt b).tk = [(4, ((1 : Nat) : Int))] := by kernel_rfl
 have h5 : (kAskS (kNew 1 6 3 4 false g) 4 eRt b).jn = [d1] := by kernel_rfl
 have h6 : (kAskS (kNew 1 6 3 4 false g) 4 eRt b).tm = [] := by kernel_rfl
 have h7 : (kAskS (kNew 1 6 3 4 false g) 4 eRt b).ep = [] := by kernel_rfl
 have h8 : (kAskS (kNew 1 6 3 4 false g) 4 eRt b).rp = [(7, (g.bs 0).2, (0, 0), false)] := by kernel_rfl
 have h9 : kOwner (kAskS (kNew 1 6 3 4 false g) 4 eRt b) 4 = some thT := by kernel_rfl
 have h10 : kBell (kAskS (kNew 1 6 3 4 false g) 4 eRt b) 4 = (0, 0) := by kernel_rfl
 obtain ⟨S, hS⟩ : ∃ S, S = kAskS (kNew 1 6 3 4 false g) 4 eRt b := ⟨_, rfl⟩
 rw [← hS] at h1 h2 h3 h4 h5 h6 h7 h8 h9 h10 ⊢
 refine ⟨S, S.rg, S.mem, ⟨h6, h7, fun x hx => by rw [h8] at hx; rw [List.mem_singleton.1 hx], h9, h10⟩, ?_⟩
 unfold sgS
 cases S
 simp only at h1 h2 h3 h4 h5
 subst h1; subst h2; subst h3; subst h4; subst h5
 rfl
/-! ### plain: what the law looks for in the journal -/
def Nope (l : List Deed) : Prop := ∀ d ∈ l, ¬ (d.2.1 = 5 ∧ d.2.2.1 = 15)
/-- Those that are told: what came ahead, who was woken, the one that signalled. -/
theorem found (hj : Nope js) {z : Int} {i1 i2 : ID} {l : List Deed} (hl : l = js ++ (if z = 0 then [] else [(i1, 5, 15, 0, z, false)]) ++ [(i2, 0, 14, 0, 0, false)]) {i : Nat} (hi : Nope (l.take i)) : (∀ d, l[i]? = some d → d.2.1 = 5 → d.2.2.1 = 15 → z ≠ 0 ∧ d.2.2.2.1 = 0 ∧ d.2.2.2.2.1 = z) ∧ (l.length ≤ i → z = 0) := by
  have hm : ∀ d ∈ l, d.2.1 = 5 → d.2.2.1 = 15 → z ≠ 0 ∧ d.2.2.2.1 = 0 ∧ d.2.2.2.2.1 = z := fun d hd h1 h2 => by
    rw [hl] at hd
    rcases List.mem_append.1 hd with hd | hd
    · rcases List.mem_append.1 hd with hd | hd
      · exact absurd ⟨h1, h2⟩ (hj d hd)
      · by_cases hz : z = 0
        · rw [if_pos hz] at hd; cases hd
        · rw [if_neg hz] at hd
          rw [List.mem_singleton.1 hd]
          exact ⟨hz, rfl, rfl⟩
    · rw [List.mem_singleton.1 hd] at h1
      exact absurd h1 (by show ¬ (0 : Int) = 5; decide)
  refine ⟨fun d hd => hm d (List.mem_of_getElem? hd), fun hle => ?_⟩
  rw [List.take_of_length_le hle] at hi
  by_cases hz : z = 0
  · exact hz
  · refine absurd ⟨rfl, rfl⟩ (hi (i1, 5, 15, 0, z, false) ?_)
    rw [hl, if_neg hz]
    simp
/-! ### plain: what stands ahead of the signal -/
structure SQ (bn : Nat) (a : Int) (t : Nat) (f zz : Int) (S : KS) : Prop where
  ex : ∃ sl x js, SG bn t sl [] 0 [] js S ∧ Old t js ∧ HasN sl f x ∧ (sigB ⟨5, 8, 0, x, 7⟩ (eSg f a) = zz ∧ 0 ≤ zz ∧ zz < 4294967296) ∧ Nope js
  well : Well S 42 62
  tk : t ≤ 2
  ok : SqeOk (eSg f a)
variable {f : Int}
/-- Nobody waits. -/
theorem SQ.still {a : Int} {zz : Int} (h : SQ bn a t f zz S) : (∀ b, chk S 4 (eSg f a) b 0 0 true t = true) ∧ ∀ b c, chk (kAskS S 4 (eSg f a) b) 4 eWt c 0 zz (!decide (zz = 0)) ((t + 1 : Nat) : Int) = true := by
  obtain ⟨sl, x, js, h1, h2, h3, h4, _⟩ := h.ex
  refine ⟨fun b => (h1.signal h2 h3 h4 b).1, fun b c => ?_⟩
  have g := (h1.signal h2 h3 h4 b).2
  have ho : Old (t + 1) (js ++ [((4, 1 + (t : Int)), 0, 14, 0, 0, false)]) := Old.more (fun d hd => by obtain ⟨k, e1, e2⟩ := h2 d hd; exact ⟨k, e1, e2⟩) ⟨t, by omega, rfl⟩
  by_cases hz : zz = 0
  · subst hz
    exact (g.waits ho h3 c).1
  · rw [decide_eq_false hz]
    exact g.takes ho h3 hz c
/-- One waits. -/
theorem SQ.one {a : Int} {zz : Int} (h : SQ bn a t f zz S) : (∀ b, chk S 4 eWt b 0 0 false t = true) ∧ (∀ b c, chk (kAskS S 4 eWt b) 4 (eSg f a) c 0 0 true ((t + 1 : Nat) : Int) = true) ∧ ∀ b c i, Nope ((kAskS (kAskS S 4 eWt b) 4 (eSg f a) c).jn.take i) → (∀ d, (kAskS (kAskS S 4 eWt b) 4 (eSg f a) c).jn[i]? = some d → d.2.1 = 5 → d.2.2.1 = 15 → zz ≠ 0 ∧ d.2.2.2.1 = 0 ∧ d.2.2.2.2.1 = zz) ∧ ((kAskS (kAskS S 4 eWt b) 4 (eSg f a) c).jn.length ≤ i → zz = 0) := by
  obtain ⟨sl, x, js, h1, h2, h3, h4, h5⟩ := h.ex
  exact ⟨fun b => (h1.waits h2 h3 b).1, fun b c => ((h1.waits h2 h3 b).2.wakes h2 h3 h4 c).1, fun b c i hi => found h5 ((h1.waits h2 h3 b).2.wakes h2 h3 h4 c).2 hi⟩
theorem and31_in {d : Int} (h : 0 ≤ d ∧ d < 4294967296) : 0 ≤ bits .and .u32 d 2147483647 ∧ bits .and .u32 d 2147483647 ≤ 2147483647 := by
  rw [u32_and d 2147483647 h.1 h.2 (by omega) (by omega)]
  have := Nat.and_le_right (n := d.toNat) (m := (2147483647 : Int).toNat)
  omega
theorem at_in (k : Nat) (h : k < 16) : in32 (atK k) := by unfold in32 atK; omega
set_option maxRecDepth 100000 in
set_option maxHeartbeats 4000000 in
theorem actSignals {E W : World} {d a : Int} {fo : Bool} (hwd : (Lit.int .u32 d).wf = true) (hwa : (Lit.int .u32 a).wf = true) :
    Con Tryz.prog 4 #[.int .u32 d, .int .u32 a, .bool fo] E [old W] (fun _ : Unit => .bool true) (fun _ => [old W]) := by
  refine Con.body (n := 178) Tryz.func4 Z Z _ (env_ok 3 Z) <| sr <| ag Z Z <| nx <| xo fc14 .nil Z (firstG) fun _ => ag Z Z <| nxx <| mv Z Z <| L_pur Z (p_not Z) <| nq <| J_bool (t := 30) (c := false) Z (rfl) <| C_false Z <| J_skip <| qx <| xo fc24 (A1 Z) Z (alone1) fun g => ?_
  have hwd2 : (decide (IntKind.u32.min ≤ d) && decide (d ≤ IntKind.u32.max)) = true := hwd
  have hwa2 : (decide (IntKind.u32.min ≤ a) && decide (a ≤ IntKind.u32.max)) = true := hwa
  simp only [Bool.and_eq_true, decide_eq_true_eq] at hwd2 hwa2
  have hd : 0 ≤ d ∧ d < 4294967296 := ⟨hwd2.1, Int.lt_of_le_of_lt hwd2.2 (by decide)⟩
  have ha : 0 ≤ a ∧ a < 4294967296 := ⟨hwa2.1, Int.lt_of_le_of_lt hwa2.2 (by decide)⟩
  have W0 := well1 g
  have hck := retype_ok g
  have hsg := retype_sg g
  obtain ⟨K, hK⟩ : ∃ K, K = kNew 1 6 3 4 false g := ⟨_, rfl⟩
  rw [← hK] at W0 hck hsg
  refine J_pick (A := coA g.p _) PC <| J_asTo (B := coA g.p K) (by rw [hK]) <| ag Z Z <| nxx <| mv Z Z <| L_pur Z (p_eqNilPtr Tryz.underlying24 Z) <| nq <| J_bool (t := 33) (c := false) Z (rfl) <| C_false Z <| J_skip <| qx <| mv Z Z <| L_pur Z (p_and Z Z) ?_
  have hbd0 := and31_in hd
  obtain ⟨bd, hbd⟩ : ∃ z, z = bits .and .u32 d 2147483647 := ⟨_, rfl⟩
  rw [← hbd] at hbd0
  refine J_slot (t := 35) (v := .int .u32 bd) Z (by rw [hbd]) <| ag Z Z <| nxx <| mv Z Z <| xo fc26 (A1 Z) Z (slotC (k := 7) (by omega)) fun _ => xo fc26 (A1 Z) Z (slotC (k := 11) (by omega)) fun _ => L_pur Z (bld34 (.cons Z (.cons Z (.cons Z (.cons Z .nil)))) (by repeat constructor)) <| J_slot (t := 40) (v := .agg (encSq eRt).toArray) Z Z <| xo fc25 (A3 Z Z Z) Z (coAskG (s := K) (g := 4) (e := eRt) (N := 40) (M := 60) PC W0 (by omega) (by omega) sqeOk_mk (tk_is (chk_is (hck 0)).1 (by omega)) (chk_is (hck 0)).2.1 (fun q T hq hG hE => doesC7 hG hE (by rw [hq]))) fun b1 => J_slot (t := 41) (v := .tuple #[.int .i64 0, .int .u32 8, .bool true]) Z (by rw [(chk_is (hck b1)).2.2]) ?_
  obtain ⟨S1, hS1⟩ : ∃ z, z = kAskS K 4 eRt b1 := ⟨_, rfl⟩
  refine J_pick (A := coA g.p _) PC <| J_asTo (B := coA g.p S1) (by rw [hS1]) ?_
  have W1 : Well S1 41 61 := by rw [hS1]; exact W0.ask (by omega) (by omega) 4 sqeOk_mk b1
  
  refine mv Z Z <| L_pur Z (p_extract Z Z) <| L_pur Z (p_extract Z Z) <| L_pur Z (p_extract Z Z) <| ag Z Z <| ag Z Z <| ag Z Z <| nx <| mv Z Z <| L_pur Z (p_not Z) <| mv Z Z <| J_bool (t := 47) (c := false) Z (rfl) <| gp Z Z Z (p_move Z) Z <| L_op <| G_on Z Z Z <| J_pur (p_neq Z Z) Z Z Z <| L_pur Z (p_pick_f Z Z) <| nq <| J_bool (t := 50) (c := false) Z (rfl) <| C_false Z <| J_skip <| qx <| xo fc26 (A1 Z) Z (slotC (k := 11) (by omega)) fun _ => ag Z Z <| nx <| mv Z Z <| ag Z Z <| nq <| J_cut (α := Nat × Int × Int × KS) (fun z : Nat × Int × Int × KS => [As.pure (SQ b1 a z.1 z.2.1 z.2.2.1 z.2.2.2), coA g.p z.2.2.2, old W]) (fun z : Nat × Int × Int × KS => [(12, .int .u32 z.2.1), (13, .int .u32 z.2.2.1), (8, .pointer (some ⟨g.p, 0, none⟩)), (1, .int .u32 a), (2, .bool fo), (7, .bool true)]) ?_ ?_
  refine sr <| mv Z Z <| L_pur Z (p_neq Z Z) <| nq <| C_split Z (fun h54 => ?_) (fun h54 => ?_)
  have hb0 : 0 < bd := by simp at h54; omega
  have h1 := hsg b1
  rw [← hS1] at h1
  have hol : Old 1 [d1] := fun x hx => by rw [List.mem_singleton.1 hx]; exact ⟨0, by omega, rfl⟩
  have hmi := fun b => h1.mint hol ⟨hb0, hbd0.2⟩ b
  have hsq : SqeOk (eMi bd) := sqeOk_mk (h1 := at_in 11 (by omega)) (h2 := at_in 12 (by omega)) (h3 := by unfold in32; omega)
  refine J_seq <| sr <| mv Z Z <| xo fc26 (A1 Z) Z (slotC (k := 11) (by omega)) fun _ => xo fc26 (A1 Z) Z (slotC (k := 12) (by omega)) fun _ => mv Z Z <| L_pur Z (bld34 (.cons Z (.cons Z (.cons Z (.cons Z .nil)))) (by repeat constructor)) <| J_slot (t := 60) (v := .agg (encSq (eMi bd)).toArray) Z Z <| xo fc25 (A3 Z Z Z) Z (coAskG (s := S1) (g := 4) (e := (eMi bd)) (N := 41) (M := 61) PC W1 (by omega) (by omega) hsq (tk_is (chk_is ((fun b => (hmi b).1) 0)).1 (by omega)) (chk_is ((fun b => (hmi b).1) 0)).2.1 (fun q T hq hG hE => doesC3 hG hE (by rw [hq]))) fun b2 => J_slot (t := 61) (v := .tuple #[.int .i64 0, .int .u32 0, .bool true]) Z (by rw [(chk_is ((fun b => (hmi b).1) b2)).2.2]) ?_
  obtain ⟨S2, hS2⟩ : ∃ z, z = kAskS S1 4 (eMi bd) b2 := ⟨_, rfl⟩
  refine J_pick (A := coA g.p _) PC <| J_asTo (B := coA g.p S2) (by rw [hS2]) ?_
  have W2 : Well S2 42 62 := by rw [hS2]; exact W1.ask (by omega) (by omega) 4 hsq b2
  
  refine mv Z Z <| L_pur Z (p_extract Z Z) <| L_pur Z (p_extract Z Z) <| L_pur Z (p_extract Z Z) <| ag Z Z <| ag Z Z <| ag Z Z <| nx <| mv Z Z <| L_pur Z (p_not Z) <| mv Z Z <| J_bool (t := 67) (c := false) Z (rfl) <| gp Z Z Z (p_move Z) Z <| L_op <| G_on Z Z Z <| J_pur (p_neq Z Z) Z Z Z <| L_pur Z (p_pick_f Z Z) <| nq <| J_bool (t := 70) (c := false) Z (rfl) <| C_false Z <| J_skip <| qx <| xo fc26 (A1 Z) Z (slotC (k := 12) (by omega)) fun _ => ag Z Z <| ny <| mv Z Z <| ag Z Z <| nq ?_
  refine J_pure_in (p := SQ b1 a 2 (atK 12) bd S2) ⟨⟨slM bd, bd, _, by rw [hS2]; exact (hmi b2).2, hol.more ⟨1, by omega, rfl⟩, hasM bd, ⟨by unfold sigB; rw [if_neg (by show ¬ IntKind.u32.wrap bd = 0; rw [wrap32u_of (by omega)]; omega)]; show IntKind.u32.wrap bd = bd; exact wrap32u_of (by omega), by omega, by omega⟩, fun x hx => ?_⟩, W2, by omega, sqeOk_mk (h1 := at_in 12 (by omega)) (h2 := by unfold in32; omega)⟩ ?_
  · rcases List.mem_append.1 hx with hx | hx <;> rw [List.mem_singleton.1 hx] <;> show ¬ ((0 : Int) = 5 ∧ _) <;> exact fun q => absurd q.1 (by decide)
  exact J_at (2, atK 12, bd, S2) SU KE
  have hb0 : bd = 0 := by simpa using h54
  have h1 := hsg b1
  rw [← hS1] at h1
  have hol : Old 1 [d1] := fun x hx => by rw [List.mem_singleton.1 hx]; exact ⟨0, by omega, rfl⟩
  refine J_skip <| Q_then <| J_pure_in (p := SQ b1 a 1 (atK 11) a S1) ⟨⟨slN, 0, _, h1, hol, hasN, ⟨by unfold sigB; rw [if_pos (by show IntKind.u32.wrap 0 = 0; decide)], by omega, by omega⟩, fun x hx => ?_⟩, W1.upTo (by omega) (by omega) (by omega) (by omega), by omega, sqeOk_mk (h1 := at_in 11 (by omega)) (h2 := by unfold in32; omega)⟩ ?_
  · rw [List.mem_singleton.1 hx]; show ¬ ((0 : Int) = 5 ∧ _); exact fun q => absurd q.1 (by decide)
  exact J_at (1, atK 11, a, S1) SU KE
  intro ⟨t, f, zz, S3⟩
  refine J_pure fun hQ => ?_
  have W3 := hQ.well
  have htk := hQ.tk
  have hok := hQ.ok
  refine J_seq <| sr <| mv Z Z <| nq <| C_split Z (fun h73 => ?_) (fun h73 => ?_)
  have hO := hQ.one
  refine sr <| mv Z Z <| xo fc26 (A1 Z) Z (slotC (k := 11) (by omega)) fun _ => L_pur Z (bld34 (.cons Z (.cons Z (.cons Z .nil))) (by repeat constructor)) <| J_slot (t := 77) (v := .agg (encSq eWt).toArray) Z Z <| xo fc25 (A3 Z Z Z) Z (coAskG (s := S3) (g := 4) (e := eWt) (N := 42) (M := 62) PC W3 (by omega) (by omega) sqeOk_mk (tk_is (chk_is (hO.1 0)).1 (by omega)) (chk_is (hO.1 0)).2.1 (fun q T hq hG hE => doesC15 hG hE (by rw [hq]))) fun b3 => J_slot (t := 78) (v := .tuple #[.int .i64 0, .int .u32 0, .bool false]) Z (by rw [(chk_is (hO.1 b3)).2.2]) ?_
  obtain ⟨S4, hS4⟩ : ∃ z, z = kAskS S3 4 eWt b3 := ⟨_, rfl⟩
  refine J_pick (A := coA g.p _) PC <| J_asTo (B := coA g.p S4) (by rw [hS4]) ?_
  have W4 : Well S4 43 63 := by rw [hS4]; exact W3.ask (by omega) (by omega) 4 sqeOk_mk b3
  
  refine mv Z Z <| L_pur Z (p_extract Z Z) <| L_pur Z (p_extract Z Z) <| L_pur Z (p_extract Z Z) <| ag Z Z <| ag Z Z <| ag Z Z <| nq <| J_seq ?_
  have hcs := hO.2.1 b3
  have hfn := hO.2.2 b3
  rw [← hS4] at hcs hfn
  refine J_region <| mv Z Z <| nq <| J_bool (t := 82) (c := false) Z (rfl) <| C_false Z <| J_skip <| qx <| mv Z Z <| mv Z Z <| mv Z Z <| L_pur Z (bld34 (.cons Z (.cons Z (.cons Z .nil))) (by repeat constructor)) <| J_slot (t := 87) (v := .agg (encSq (eSg f a)).toArray) Z Z <| xo fc25 (A3 Z Z Z) Z (coAskG (s := S4) (g := 4) (e := (eSg f a)) (N := 43) (M := 63) PC W4 (by omega) (by omega) hok (tk_is (chk_is (hcs 0)).1 (by omega)) (chk_is (hcs 0)).2.1 (fun q T hq hG hE => doesC14 hG hE (by rw [hq]))) fun b4 => J_slot (t := 88) (v := .tuple #[.int .i64 0, .int .u32 0, .bool true]) Z (by rw [(chk_is (hcs b4)).2.2]) ?_
  obtain ⟨S5, hS5⟩ : ∃ z, z = kAskS S4 4 (eSg f a) b4 := ⟨_, rfl⟩
  refine J_pick (A := coA g.p _) PC <| J_asTo (B := coA g.p S5) (by rw [hS5]) ?_
  have W5 : Well S5 44 64 := by rw [hS5]; exact W4.ask (by omega) (by omega) 4 hok b4
  
  refine mv Z Z <| L_pur Z (p_extract Z Z) <| L_pur Z (p_extract Z Z) <| L_pur Z (p_extract Z Z) <| ag Z Z <| ag Z Z <| ag Z Z <| nxx <| mv Z Z <| L_pur Z (p_not Z) <| mv Z Z <| J_bool (t := 94) (c := false) Z (rfl) <| gp Z Z Z (p_move Z) Z <| L_op <| G_on Z Z Z <| J_pur (p_neq Z Z) Z Z Z <| L_pur Z (p_pick_f Z Z) <| nq <| J_bool (t := 97) (c := false) Z (rfl) <| C_false Z <| J_skip <| Q_then <| J_seq <| sr <| mv Z Z <| L_pur Z (p_not Z) <| nq <| J_bool (t := 99) (c := false) Z (by rw [h73]; rfl) <| C_false Z <| J_skip <| Q_then <| J_seq ?_
  have hfi := hfn b4
  rw [← hS5] at hfi
  refine J_region <| mv Z Z <| xo fc17 (A1 Z) Z (coJournal) fun _ => xo fc21 (A1 Z) Z (coJAll (s := S5) PC (by have := W5.fit.jn; have := W5.fit.mm; omega)) <| JR fun a130 c130 hw130 hl130 hm130 hz130 => ?_
  have hmc130 : c130 ≤ 9223372036854775807 := hm130
  have hml : (S5.jn.map encD).length = S5.jn.length := List.length_map _
  refine ag Z Z <| nxx <| ag Z Z <| nq <| J_block <| J_loop (α := Nat) (fun i => i ≤ S5.jn.length ∧ Nope (S5.jn.take i)) (fun i => [coA g.p S5, row 45 7 (.slice a130 (S5.jn.map encD).length c130) (S5.jn.map encD), old W]) (fun i => [(27, .int .i64 (i : Int)), (26, .slice a130 (S5.jn.map encD).length c130), (13, .int .u32 zz), (7, .bool true)]) (fun i => S5.jn.length - i) 0 ⟨by omega, fun x hx => by simp at hx⟩ SU KE ?_
  intro i ⟨hi, hno⟩
  obtain ⟨hf1, hf2⟩ := hfi i hno
  refine J_seq <| sr <| mv Z Z <| mv Z Z <| L_pur Z (p_len Z Tryz.underlying40) <| L_pur Z (p_lss Z Z) <| nq <| C_split Z (fun h134 => ?_) (fun h134 => ?_)
  have hlt : i < S5.jn.length := by simp at h134; omega
  obtain ⟨bj, oj, rfl⟩ := hz130 (by intro h; have := congrArg List.length h; simp at this; rw [this] at hlt; simp at hlt)
  obtain ⟨dd, hcc⟩ : ∃ c, S5.jn[i]? = some c := ⟨_, List.getElem?_eq_getElem hlt⟩
  refine J_skip <| Q_then <| J_seq <| J_block <| sr <| mv Z Z <| mv Z Z <| L_pur Z (p_indexAddr Z Z Tryz.underlying40 ty45 (by omega) (by simp; omega)) <| fa Z Z fa45_1 <| L_val Z (v_loadF Z ty22 HS (by rw [Int.toNat_natCast, List.getElem?_map, hcc]; rfl) (by exact rfl)) ?_
  refine L_pur Z (p_eql Z Z) <| mv Z Z <| J_gsplit (t := 143) Z (fun h143 => ?_) (fun h143 => ?_)
  refine gp Z Z Z (p_move Z) Z <| gp Z Z Z (p_move Z) Z <| L_op <| G_on Z Z Z <| J_pur (p_indexAddr Z Z Tryz.underlying40 ty45 (by omega) (by simp; omega)) Z Z Z <| gp Z Z Z (p_fieldAddr Z fa45_2) Z <| L_op <| G_on Z Z Z <| J_val (v_loadF Z ty3 HS (by rw [Int.toNat_natCast, List.getElem?_map, hcc]; rfl) (by exact rfl)) Z Z Z ?_
  refine gp Z Z Z (p_eql Z Z) Z <| L_pur Z (p_pick_t Z Z) <| nq <| C_split Z (fun h150 => ?_) (fun h150 => ?_)
  obtain ⟨hf3, hf4, hf5⟩ := hf1 dd hcc (by simpa using h143) (by simpa using h150)
  refine sr <| mv Z Z <| mv Z Z <| J_bool (t := 152) (c := true) Z (rfl) <| gp Z Z Z (p_move Z) Z <| L_op <| G_on Z Z Z <| J_pur (p_neq Z Z) Z Z Z <| L_pur Z (p_pick_t Z Z) <| mv Z Z <| J_bool (t := 156) (c := true) Z (by simpa using hf3) <| gp Z Z Z (p_move Z) Z <| L_op <| G_on Z Z Z <| J_pur (p_move Z) Z Z Z <| gp Z Z Z (p_indexAddr Z Z Tryz.underlying40 ty45 (by omega) (by simp; omega)) Z <| gp Z Z Z (p_fieldAddr Z fa45_3) Z <| L_op <| G_on Z Z Z <| J_val (v_loadF Z ty3 HS (by rw [Int.toNat_natCast, List.getElem?_map, hcc]; rfl) (by exact rfl)) Z Z Z ?_
  refine gp Z Z Z (p_eql Z Z) Z <| L_pur Z (p_pick_t Z Z) <| mv Z Z <| J_bool (t := 164) (c := true) Z (by rw [hf4]; rfl) <| L_op <| G_on Z Z Z <| J_pur (p_move Z) Z Z Z <| gp Z Z Z (p_move Z) Z <| gp Z Z Z (p_indexAddr Z Z Tryz.underlying40 ty45 (by omega) (by simp; omega)) Z <| L_op <| G_on Z Z Z <| J_pur (p_fieldAddr Z fa45_4) Z Z Z <| L_op <| G_on Z Z Z <| J_val (v_loadF Z ty22 HS (by rw [Int.toNat_natCast, List.getElem?_map, hcc]; rfl) (by exact rfl)) Z Z Z ?_
  refine gp Z Z Z (p_move Z) Z <| gp Z Z Z (p_eql Z Z) Z <| L_pur Z (p_pick_t Z Z) <| ag Z Z <| nq <| J_ret <| Q_blk_ret <| Q_then_ret <| Q_then_ret <| Q_blk_ret <| Q_then_ret <| J_return (()) Tryz.results4 (.tmp Z .nil) ?_ ?_
  · first | rfl | (simp [one, hf5]; done) | (simp [one, hz0]; done) | (simp [one]; done) | (simp_all [one]; done)
  · exact SU
  refine J_skip <| Q_blk_normal <| qr <| mv Z Z <| L_pur Z (p_add64 Z Z (by omega)) <| ag Z Z <| nq ?_
  exact J_again (i + 1) (by omega) (⟨by omega, fun x hx => by rw [List.take_add_one, hcc] at hx; rcases List.mem_append.1 hx with hx | hx; exact hno x hx; rw [List.mem_singleton.1 hx]; exact fun q => of_decide_eq_false h150 q.2⟩) SU KE
  refine gz Z Z Z Z Z <| gz Z Z Z Z Z <| gz Z Z Z Z Z <| gz Z Z Z Z Z <| gz Z Z Z Z Z <| gz Z Z Z Z Z <| L_pur Z (p_pick_f Z Z) <| nq <| C_false Z <| J_skip <| Q_blk_normal <| qr <| mv Z Z <| L_pur Z (p_add64 Z Z (by omega)) <| ag Z Z <| nq ?_
  exact J_again (i + 1) (by omega) (⟨by omega, fun x hx => by rw [List.take_add_one, hcc] at hx; rcases List.mem_append.1 hx with hx | hx; exact hno x hx; rw [List.mem_singleton.1 hx]; exact fun q => of_decide_eq_false h143 q.1⟩) SU KE
  have hz0 : zz = 0 := hf2 (by simp at h134; omega)
  refine J_exit <| Q_then_exit <| Q_then_exit <| Q_blk_this <| qx <| mv Z Z <| mv Z Z <| J_bool (t := 174) (c := true) Z (rfl) <| gp Z Z Z (p_move Z) Z <| gp Z Z Z (p_eql Z Z) Z <| L_pur Z (p_pick_t Z Z) <| ag Z Z <| nq <| J_ret <| J_return (()) Tryz.results4 (.tmp Z .nil) ?_ ?_
  · first | rfl | (simp [one, hf5]; done) | (simp [one, hz0]; done) | (simp [one]; done) | (simp_all [one]; done)
  · exact SU
  have hO := hQ.still
  obtain ⟨S4, hS4⟩ : ∃ z, z = S3 := ⟨_, rfl⟩
  have W4 : Well S4 43 63 := by rw [hS4]; exact W3.upTo (by omega) (by omega) (by omega) (by omega)
  have hcs := hO.1
  rw [← hS4] at hcs hO
  refine J_pick (A := coA g.p _) PC <| J_asTo (B := coA g.p S4) (by rw [hS4]) <| J_skip <| qx <| mv Z Z <| mv Z Z <| mv Z Z <| L_pur Z (bld34 (.cons Z (.cons Z (.cons Z .nil))) (by repeat constructor)) <| J_slot (t := 87) (v := .agg (encSq (eSg f a)).toArray) Z Z <| xo fc25 (A3 Z Z Z) Z (coAskG (s := S4) (g := 4) (e := (eSg f a)) (N := 43) (M := 63) PC W4 (by omega) (by omega) hok (tk_is (chk_is (hcs 0)).1 (by omega)) (chk_is (hcs 0)).2.1 (fun q T hq hG hE => doesC14 hG hE (by rw [hq]))) fun b4 => J_slot (t := 88) (v := .tuple #[.int .i64 0, .int .u32 0, .bool true]) Z (by rw [(chk_is (hcs b4)).2.2]) ?_
  obtain ⟨S5, hS5⟩ : ∃ z, z = kAskS S4 4 (eSg f a) b4 := ⟨_, rfl⟩
  refine J_pick (A := coA g.p _) PC <| J_asTo (B := coA g.p S5) (by rw [hS5]) ?_
  have W5 : Well S5 44 64 := by rw [hS5]; exact W4.ask (by omega) (by omega) 4 hok b4
  
  refine mv Z Z <| L_pur Z (p_extract Z Z) <| L_pur Z (p_extract Z Z) <| L_pur Z (p_extract Z Z) <| ag Z Z <| ag Z Z <| ag Z Z <| nxx <| mv Z Z <| L_pur Z (p_not Z) <| mv Z Z <| J_bool (t := 94) (c := false) Z (rfl) <| gp Z Z Z (p_move Z) Z <| L_op <| G_on Z Z Z <| J_pur (p_neq Z Z) Z Z Z <| L_pur Z (p_pick_f Z Z) <| nq <| J_bool (t := 97) (c := false) Z (rfl) <| C_false Z <| J_skip <| Q_then <| J_seq <| sr <| mv Z Z <| L_pur Z (p_not Z) <| nq <| J_bool (t := 99) (c := true) Z (by rw [h73]; rfl) <| C_true Z <| J_seq ?_
  have hcw := hO.2 b4
  rw [← hS5] at hcw
  refine J_region <| mv Z Z <| xo fc26 (A1 Z) Z (slotC (k := 11) (by omega)) fun _ => L_pur Z (bld34 (.cons Z (.cons Z (.cons Z .nil))) (by repeat constructor)) <| J_slot (t := 103) (v := .agg (encSq eWt).toArray) Z Z <| xo fc25 (A3 Z Z Z) Z (coAskG (s := S5) (g := 4) (e := eWt) (N := 44) (M := 64) PC W5 (by omega) (by omega) sqeOk_mk (tk_is (chk_is (hcw 0)).1 (by omega)) (chk_is (hcw 0)).2.1 (fun q T hq hG hE => doesC15 hG hE (by rw [hq]))) fun b5 => J_slot (t := 104) (v := .tuple #[.int .i64 0, .int .u32 zz, .bool (!decide (zz = 0))]) Z (by rw [(chk_is (hcw b5)).2.2]) ?_
  obtain ⟨S6, hS6⟩ : ∃ z, z = kAskS S5 4 eWt b5 := ⟨_, rfl⟩
  refine J_pick (A := coA g.p _) PC <| J_asTo (B := coA g.p S6) (by rw [hS6]) ?_
  have W6 : Well S6 45 65 := by rw [hS6]; exact W5.ask (by omega) (by omega) 4 sqeOk_mk b5
  
  refine mv Z Z <| L_pur Z (p_extract Z Z) <| L_pur Z (p_extract Z Z) <| L_pur Z (p_extract Z Z) <| ag Z Z <| ag Z Z <| ag Z Z <| nx <| mv Z Z <| mv Z Z <| J_bool (t := 109) (c := true) Z (rfl) <| gp Z Z Z (p_move Z) Z <| L_op <| G_on Z Z Z <| J_pur (p_move Z) Z Z Z <| gp Z Z Z (p_neq Z Z) Z <| gp Z Z Z (p_eqb Tryz.underlying4 Z Z) Z <| L_pur Z (p_pick_t Z Z) <| mv Z Z <| J_bool (t := 115) (c := true) Z (by simp) <| gp Z Z Z (p_move Z) Z <| gp Z Z Z (p_not Z) Z <| gp Z Z Z (p_move Z) Z <| J_gsplit (t := 118) Z (fun h118 => ?_) (fun h118 => ?_)
  refine gz Z Z Z Z Z <| gz Z Z Z Z Z <| gz Z Z Z Z Z <| L_op <| G_offU Z Z Z Z Z <| L_op <| G_offU Z Z Z Z Z <| L_op <| G_offU Z Z Z Z Z <| gz Z Z Z Z Z <| L_op <| G_on Z Z Z <| J_pur (p_pick_t Z Z) Z Z Z <| L_pur Z (p_pick_t Z Z) <| ag Z Z <| nq <| J_ret <| Q_then_ret <| J_return (()) Tryz.results4 (.tmp Z .nil) ?_ ?_
  · first | rfl | (simp [one, hf5]; done) | (simp [one, hz0]; done) | (simp [one]; done) | (simp_all [one]; done)
  · exact SU
  refine gp Z Z Z (p_move Z) Z <| gp Z Z Z (p_eql Z Z) Z <| L_op <| G_on Z Z Z <| J_pur (p_move Z) Z Z Z <| J_bool (t := 121) (c := true) Z (rfl) <| gp Z Z Z (p_move Z) Z <| gp Z Z Z (p_move Z) Z <| gp Z Z Z (p_eql Z Z) Z <| gp Z Z Z (p_pick_t Z Z) Z <| L_op <| G_on Z Z Z <| J_pur (p_pick_f Z Z) Z Z Z <| L_pur Z (p_pick_t Z Z) <| ag Z Z <| nq <| J_ret <| Q_then_ret <| J_return (()) Tryz.results4 (.tmp Z .nil) ?_ ?_
  · first | rfl | (simp [one, hf5]; done) | (simp [one, hz0]; done) | (simp [one]; done) | (simp_all [one]; done)
  · exact SU
end Go.Pse
