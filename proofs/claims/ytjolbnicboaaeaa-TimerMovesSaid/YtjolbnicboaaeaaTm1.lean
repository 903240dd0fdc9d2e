/-
  Contracts: cmp.Compare, cmp.Or, the order of deadlines, slices.BinarySearchFunc, slices.Insert.
-/
import Derived.Test.YtjolbnicboaaeaaLs1
import Derived.Test.YtjolbnicboaaeaaIns
namespace Go.Pse
open Go.RowKit Go.Proofs

/-! ### plain: deadlines -/
abbrev Tm := Int × ID
def encT (t : Tm) : List Value := [.int .u64 t.1, .int .i64 t.2.1, .int .i64 t.2.2]
theorem encT_one (c : Tm) : ones (encT c) = true := rfl
theorem encT_len (c : Tm) : (encT c).length = 3 := rfl
def encZ (z : Int) : List Value := [.int .i64 z]
def cmpI (a b : Int) : Int := if a < b then -1 else if b < a then 1 else 0
def orI (zs : List Int) : Int := (zs.find? fun z => !decide (z = 0)).getD 0
def ordT (a b : Tm) : Int := orI [cmpI a.1 b.1, cmpI a.2.1 b.2.1, cmpI a.2.2 b.2.2]
def ltI (a b : ID) : Bool := decide (a.1 < b.1) || decide (a.1 = b.1) && decide (a.2 < b.2)
def ltT (a b : Tm) : Bool := decide (a.1 < b.1) || decide (a.1 = b.1) && ltI a.2 b.2
theorem cmpI_cases (a b : Int) : (a < b ∧ cmpI a b = -1) ∨ (b < a ∧ cmpI a b = 1) ∨ (a = b ∧ cmpI a b = 0) := by
  unfold cmpI
  by_cases h1 : a < b
  · exact .inl ⟨h1, by simp [h1]⟩
  · by_cases h2 : b < a
    · exact .inr (.inl ⟨h2, by simp [h1, h2]⟩)
    · exact .inr (.inr ⟨by omega, by simp [h1, h2]⟩)
theorem ordT_neg (a b : Tm) : decide (ordT a b < 0) = ltT a b := by
  unfold ordT ltT ltI orI
  rcases cmpI_cases a.1 b.1 with ⟨h1, e1⟩ | ⟨h1, e1⟩ | ⟨h1, e1⟩ <;> rw [e1]
  · simp [h1]
  · have n1 : ¬ a.1 < b.1 := by omega
    have n2 : ¬ a.1 = b.1 := by omega
    simp [n1, n2]
  · have n1 : ¬ a.1 < b.1 := by omega
    rcases cmpI_cases a.2.1 b.2.1 with ⟨h2, e2⟩ | ⟨h2, e2⟩ | ⟨h2, e2⟩ <;> rw [e2]
    · simp [h1, h2]
    · have m1 : ¬ a.2.1 < b.2.1 := by omega
      have m2 : ¬ a.2.1 = b.2.1 := by omega
      simp [h1, m1, m2]
    · have m1 : ¬ a.2.1 < b.2.1 := by omega
      rcases cmpI_cases a.2.2 b.2.2 with ⟨h3, e3⟩ | ⟨h3, e3⟩ | ⟨h3, e3⟩ <;> rw [e3]
      · simp [h1, h2, h3]
      · have k1 : ¬ a.2.2 < b.2.2 := by omega
        simp [h1, h2, k1]
      · have k1 : ¬ a.2.2 < b.2.2 := by omega
        simp [h1, h2, k1]
theorem ltT_iff {a b : Tm} : ltT a b = true ↔ a.1 < b.1 ∨ (a.1 = b.1 ∧ (a.2.1 < b.2.1 ∨ (a.2.1 = b.2.1 ∧ a.2.2 < b.2.2))) := by
  unfold ltT ltI; simp
theorem ltT_trans {a b c : Tm} (h1 : ltT a b = true) (h2 : ltT b c = true) : ltT a c = true := by
  rw [ltT_iff] at *; omega
theorem ltT_total {a b : Tm} (h : ltT a b = false) (hne : a.2 ≠ b.2) : ltT b a = true := by
  have h' : ¬ ltT a b = true := by simp [h]
  rw [ltT_iff] at *
  have : ¬ (a.2.1 = b.2.1 ∧ a.2.2 = b.2.2) := fun e => hne (Prod.ext e.1 e.2)
  omega
def isT (i : ID) (c : Tm) : Bool := decide (c.2.1 = i.1 ∧ c.2.2 = i.2)
theorem isT_eq (i : ID) (c : Tm) : isT i c = decide (c.2 = i) := by unfold isT; rw [decide_eq_decide]; exact Prod.ext_iff.symm
abbrev hdrop (xs : List Tm) (i : ID) : List Tm := xs.filter fun c => !isT i c
def place (xs : List Tm) (x : Tm) : Nat := (xs.takeWhile fun c => ltT c x).length
def putT (xs : List Tm) (x : Tm) : List Tm := xs.take (place xs x) ++ x :: xs.drop (place xs x)
def hpush (xs : List Tm) (x : Tm) : List Tm := putT (hdrop xs x.2) x
def Srt (xs : List Tm) : Prop := xs.Pairwise fun a b => ltT a b = true
theorem place_le (xs : List Tm) (x : Tm) : place xs x ≤ xs.length := by
  unfold place
  induction xs with
  | nil => simp
  | cons c xs ih => rw [List.takeWhile_cons]; split <;> simp <;> omega
theorem place_iff {x : Tm} : ∀ {xs : List Tm}, Srt xs → ∀ {j : Nat} {c : Tm}, xs[j]? = some c → (ltT c x = true ↔ j < place xs x)
  | [], _, _, _, h => by simp at h
  | a :: xs, hs, j, c, h => by
    have hs' := List.pairwise_cons.1 hs
    unfold place
    rw [List.takeWhile_cons]
    by_cases ha : ltT a x = true
    · rw [if_pos ha]
      cases j with
      | zero => simp at h; subst h; simp [ha]
      | succ j =>
        have := place_iff (x := x) hs'.2 (j := j) (c := c) (by simpa using h)
        unfold place at this
        rw [this]
        simp
    · rw [if_neg ha]
      cases j with
      | zero => simp at h; subst h; simp [ha]
      | succ j =>
        have hc : c ∈ xs := List.mem_of_getElem? (by simpa using h : xs[j]? = some c)
        have h1 := hs'.1 c hc
        constructor
        · intro h2; exact absurd (ltT_trans h1 h2) ha
        · intro h2; simp at h2
theorem place_of {x : Tm} {xs : List Tm} {k : Nat} (hk : k ≤ xs.length) (h1 : ∀ c ∈ xs.take k, ltT c x = true) (h2 : ∀ c, xs[k]? = some c → ltT c x = false) : place xs x = k := by
  induction xs generalizing k with
  | nil => simp at hk; subst hk; rfl
  | cons a xs ih =>
    unfold place
    rw [List.takeWhile_cons]
    cases k with
    | zero => rw [if_neg (by simp [h2 a (by simp)])]; rfl
    | succ k =>
      rw [if_pos (h1 a (by simp))]
      have := ih (k := k) (by simpa using hk) (fun c hc => h1 c (by simp [hc])) (fun c hc => h2 c (by simpa using hc))
      unfold place at this
      simp [this]
theorem Srt.drop {xs : List Tm} (h : Srt xs) (i : ID) : Srt (hdrop xs i) := List.Pairwise.sublist List.filter_sublist h
theorem Srt.tail {xs : List Tm} (h : Srt xs) (j : Nat) : Srt (xs.drop j) := List.Pairwise.sublist (List.drop_sublist j xs) h
theorem hdrop_ne {xs : List Tm} {i : ID} {c : Tm} (h : c ∈ hdrop xs i) : c.2 ≠ i := by
  unfold hdrop at h
  rw [List.mem_filter, isT_eq] at h
  simpa using h.2
theorem Srt.put {xs : List Tm} {x : Tm} (h : Srt xs) (hne : ∀ c ∈ xs, c.2 ≠ x.2) : Srt (putT xs x) := by
  have hi := fun {j : Nat} {c : Tm} => place_iff (x := x) h (j := j) (c := c)
  unfold putT Srt
  have hle := place_le xs x
  have hta : ∀ a ∈ xs.take (place xs x), ltT a x = true := fun a ha => by
    obtain ⟨j, hj⟩ := List.mem_iff_getElem?.1 ha
    rw [List.getElem?_take] at hj
    split at hj
    · exact (hi hj).2 (by assumption)
    · cases hj
  have hdr : ∀ b ∈ xs.drop (place xs x), ltT x b = true := fun b hb => by
    obtain ⟨j, hj⟩ := List.mem_iff_getElem?.1 hb
    rw [List.getElem?_drop] at hj
    have hn : ¬ ltT b x = true := fun e => by have := (hi hj).1 e; omega
    exact ltT_total (by simpa using hn) (hne b (List.mem_of_getElem? hj))
  rw [List.pairwise_append]
  refine ⟨List.Pairwise.sublist (List.take_sublist _ _) h, ?_, ?_⟩
  · rw [List.pairwise_cons]
    exact ⟨hdr, List.Pairwise.sublist (List.drop_sublist _ _) h⟩
  · intro a ha b hb
    rcases List.mem_cons.1 hb with rfl | hb
    · exact hta a ha
    · exact ltT_trans (hta a ha) (hdr b hb)
theorem Srt.push {xs : List Tm} (h : Srt xs) (x : Tm) : Srt (hpush xs x) := (h.drop x.2).put fun _ hc => hdrop_ne hc
theorem hdrop_len (xs : List Tm) (i : ID) : (hdrop xs i).length ≤ xs.length := List.length_filter_le _ _
theorem putT_len (xs : List Tm) (x : Tm) : (putT xs x).length = xs.length + 1 := by
  have := place_le xs x
  unfold putT; simp; omega
theorem hpush_len (xs : List Tm) (x : Tm) : (hpush xs x).length ≤ xs.length + 1 := by unfold hpush; rw [putT_len]; have := hdrop_len xs x.2; omega
def due (xs : List Tm) (now : Int) : List Tm := xs.takeWhile fun c => decide (c.1 ≤ now)
def late (xs : List Tm) (now : Int) : List Tm := xs.dropWhile fun c => decide (c.1 ≤ now)
theorem due_len (xs : List Tm) (now : Int) : (due xs now).length + (late xs now).length = xs.length := by
  rw [← List.length_append]; unfold due late; rw [List.takeWhile_append_dropWhile]
theorem due_at {xs : List Tm} {now : Int} {k : Nat} (hk : k ≤ xs.length) (h1 : ∀ c ∈ xs.take k, c.1 ≤ now) (h2 : ∀ c, xs[k]? = some c → ¬ c.1 ≤ now) : due xs now = xs.take k ∧ late xs now = xs.drop k := by
 induction xs generalizing k with
 | nil => simp at hk; subst hk; exact ⟨rfl, rfl⟩
 | cons a xs ih =>
  unfold due late
  rw [List.takeWhile_cons, List.dropWhile_cons]
  cases k with
  | zero =>
   have := h2 a (by simp)
   simp [this]
  | succ k =>
   have ha := h1 a (by simp)
   obtain ⟨g1, g2⟩ := ih (k := k) (by simpa using hk) (fun c hc => h1 c (by simp [hc])) (fun c hc => h2 c (by simpa using hc))
   unfold due at g1
   unfold late at g2
   simp [ha, g1, g2]

set_option maxRecDepth 100000 in
set_option maxHeartbeats 4000000 in
theorem isnan121 {E : World} {l : List As} (a : Int) :
    Con Try.prog 121 #[.int .u64 a] E l (fun _ : Unit => .bool false) (fun _ => l) := by
  refine Con.body (vs := [.int .u64 a]) (n := 6) Try.func121 rfl rfl [(0, .int .u64 a)] (env_ok 1 rfl) ?_
  refine J_seq ?_
  refine J_region ?_
  refine L_pur rfl (p_assign rfl) ?_
  refine L_nil ?_
  refine Q_then ?_
  refine J_seq ?_
  refine J_region ?_
  refine L_pur rfl (p_move rfl) ?_
  refine L_pur rfl (p_move rfl) ?_
  refine L_pur rfl (p_neq rfl rfl) ?_
  refine L_pur rfl (p_assign rfl) ?_
  refine L_nil ?_
  refine Q_then ?_
  refine J_ret ?_
  refine J_return (()) Try.results121 (.tmp rfl .nil) ?_ ?_
  · simp [one]
  · exact SU

set_option maxRecDepth 100000 in
set_option maxHeartbeats 4000000 in
theorem isnan122 {E : World} {l : List As} (a : Int) :
    Con Try.prog 122 #[.int .i64 a] E l (fun _ : Unit => .bool false) (fun _ => l) := by
  refine Con.body (vs := [.int .i64 a]) (n := 6) Try.func122 rfl rfl [(0, .int .i64 a)] (env_ok 1 rfl) ?_
  refine J_seq ?_
  refine J_region ?_
  refine L_pur rfl (p_assign rfl) ?_
  refine L_nil ?_
  refine Q_then ?_
  refine J_seq ?_
  refine J_region ?_
  refine L_pur rfl (p_move rfl) ?_
  refine L_pur rfl (p_move rfl) ?_
  refine L_pur rfl (p_neq rfl rfl) ?_
  refine L_pur rfl (p_assign rfl) ?_
  refine L_nil ?_
  refine Q_then ?_
  refine J_ret ?_
  refine J_return (()) Try.results122 (.tmp rfl .nil) ?_ ?_
  · simp [one]
  · exact SU

set_option maxRecDepth 100000 in
set_option maxHeartbeats 4000000 in
theorem compare116 {E : World} {l : List As} (a b : Int) :
    Con Try.prog 116 #[.int .u64 a, .int .u64 b] E l (fun _ : Unit => .int .i64 (cmpI a b)) (fun _ => l) := by
  refine Con.body (vs := [.int .u64 a, .int .u64 b]) (n := 20) Try.func116 rfl rfl [(0, .int .u64 a), (1, .int .u64 b)] (env_ok 2 rfl) ?_
  refine J_seq ?_
  refine J_region ?_
  refine L_pur rfl (p_assign rfl) ?_
  refine L_nil ?_
  refine Q_then ?_
  refine J_seq ?_
  refine J_region ?_
  refine L_pur rfl (p_move rfl) ?_
  refine L_op (x_call Try.func121 nm121 bd121 (.cons rfl .nil) rfl (isnan121 _) fun _ => ?_)
  refine L_pur rfl (p_assign rfl) ?_
  refine L_nil ?_
  refine Q_then ?_
  refine J_seq ?_
  refine J_region ?_
  refine L_pur rfl (p_move rfl) ?_
  refine L_op (x_call Try.func121 nm121 bd121 (.cons rfl .nil) rfl (isnan121 _) fun _ => ?_)
  refine L_pur rfl (p_assign rfl) ?_
  refine L_nil ?_
  refine Q_then ?_
  refine J_seq ?_
  refine J_seq ?_
  refine J_region ?_
  refine L_pur rfl (p_move rfl) ?_
  refine L_nil ?_
  refine Q_then ?_
  refine J_bool (t := 11) (c := false) rfl (rfl) ?_
  refine C_false rfl ?_
  refine J_skip ?_
  refine Q_then ?_
  refine J_seq ?_
  refine J_seq ?_
  refine J_region ?_
  refine L_pur rfl (p_move rfl) ?_
  refine L_nil ?_
  refine Q_then ?_
  refine J_bool (t := 13) (c := false) rfl (rfl) ?_
  refine C_false rfl ?_
  refine J_skip ?_
  refine Q_then ?_
  refine J_seq ?_
  refine J_seq ?_
  refine J_region ?_
  refine L_pur rfl (p_move rfl) ?_
  refine L_pur rfl (p_move rfl) ?_
  refine L_pur rfl (p_lss rfl rfl) ?_
  refine L_nil ?_
  refine Q_then ?_
  refine C_dec rfl (fun h16 => ?_) (fun h16 => ?_)
  ·
    refine J_seq ?_
    refine J_region ?_
    refine L_pur rfl (p_assign rfl) ?_
    refine L_nil ?_
    refine Q_then ?_
    refine J_ret ?_
    refine Q_then_ret ?_
    refine J_return (()) Try.results116 (.tmp rfl .nil) ?_ ?_
    · simp [one, cmpI, h16]
    · exact SU
  ·
    refine J_skip ?_
    refine Q_then ?_
    refine J_seq ?_
    refine J_seq ?_
    refine J_region ?_
    refine L_pur rfl (p_move rfl) ?_
    refine L_pur rfl (p_move rfl) ?_
    refine L_pur rfl (p_gtr rfl rfl) ?_
    refine L_nil ?_
    refine Q_then ?_
    refine C_dec rfl (fun h19 => ?_) (fun h19 => ?_)
    ·
      refine J_seq ?_
      refine J_region ?_
      refine L_pur rfl (p_assign rfl) ?_
      refine L_nil ?_
      refine Q_then ?_
      refine J_ret ?_
      refine Q_then_ret ?_
      refine J_return (()) Try.results116 (.tmp rfl .nil) ?_ ?_
      · simp [one, cmpI, h16, h19]
      · exact SU
    ·
      refine J_skip ?_
      refine Q_then ?_
      refine J_seq ?_
      refine J_region ?_
      refine L_pur rfl (p_assign rfl) ?_
      refine L_nil ?_
      refine Q_then ?_
      refine J_ret ?_
      refine J_return (()) Try.results116 (.tmp rfl .nil) ?_ ?_
      · simp [one, cmpI, h16, h19]
      · exact SU

set_option maxRecDepth 100000 in
set_option maxHeartbeats 4000000 in
theorem compare117 {E : World} {l : List As} (a b : Int) :
    Con Try.prog 117 #[.int .i64 a, .int .i64 b] E l (fun _ : Unit => .int .i64 (cmpI a b)) (fun _ => l) := by
  refine Con.body (vs := [.int .i64 a, .int .i64 b]) (n := 20) Try.func117 rfl rfl [(0, .int .i64 a), (1, .int .i64 b)] (env_ok 2 rfl) ?_
  refine J_seq ?_
  refine J_region ?_
  refine L_pur rfl (p_assign rfl) ?_
  refine L_nil ?_
  refine Q_then ?_
  refine J_seq ?_
  refine J_region ?_
  refine L_pur rfl (p_move rfl) ?_
  refine L_op (x_call Try.func122 nm122 bd122 (.cons rfl .nil) rfl (isnan122 _) fun _ => ?_)
  refine L_pur rfl (p_assign rfl) ?_
  refine L_nil ?_
  refine Q_then ?_
  refine J_seq ?_
  refine J_region ?_
  refine L_pur rfl (p_move rfl) ?_
  refine L_op (x_call Try.func122 nm122 bd122 (.cons rfl .nil) rfl (isnan122 _) fun _ => ?_)
  refine L_pur rfl (p_assign rfl) ?_
  refine L_nil ?_
  refine Q_then ?_
  refine J_seq ?_
  refine J_seq ?_
  refine J_region ?_
  refine L_pur rfl (p_move rfl) ?_
  refine L_nil ?_
  refine Q_then ?_
  refine J_bool (t := 11) (c := false) rfl (rfl) ?_
  refine C_false rfl ?_
  refine J_skip ?_
  refine Q_then ?_
  refine J_seq ?_
  refine J_seq ?_
  refine J_region ?_
  refine L_pur rfl (p_move rfl) ?_
  refine L_nil ?_
  refine Q_then ?_
  refine J_bool (t := 13) (c := false) rfl (rfl) ?_
  refine C_false rfl ?_
  refine J_skip ?_
  refine Q_then ?_
  refine J_seq ?_
  refine J_seq ?_
  refine J_region ?_
  refine L_pur rfl (p_move rfl) ?_
  refine L_pur rfl (p_move rfl) ?_
  refine L_pur rfl (p_lss rfl rfl) ?_
  refine L_nil ?_
  refine Q_then ?_
  refine C_dec rfl (fun h16 => ?_) (fun h16 => ?_)
  ·
    refine J_seq ?_
    refine J_region ?_
    refine L_pur rfl (p_assign rfl) ?_
    refine L_nil ?_
    refine Q_then ?_
    refine J_ret ?_
    refine Q_then_ret ?_
    refine J_return (()) Try.results117 (.tmp rfl .nil) ?_ ?_
    · simp [one, cmpI, h16]
    · exact SU
  ·
    refine J_skip ?_
    refine Q_then ?_
    refine J_seq ?_
    refine J_seq ?_
    refine J_region ?_
    refine L_pur rfl (p_move rfl) ?_
    refine L_pur rfl (p_move rfl) ?_
    refine L_pur rfl (p_gtr rfl rfl) ?_
    refine L_nil ?_
    refine Q_then ?_
    refine C_dec rfl (fun h19 => ?_) (fun h19 => ?_)
    ·
      refine J_seq ?_
      refine J_region ?_
      refine L_pur rfl (p_assign rfl) ?_
      refine L_nil ?_
      refine Q_then ?_
      refine J_ret ?_
      refine Q_then_ret ?_
      refine J_return (()) Try.results117 (.tmp rfl .nil) ?_ ?_
      · simp [one, cmpI, h16, h19]
      · exact SU
    ·
      refine J_skip ?_
      refine Q_then ?_
      refine J_seq ?_
      refine J_region ?_
      refine L_pur rfl (p_assign rfl) ?_
      refine L_nil ?_
      refine Q_then ?_
      refine J_ret ?_
      refine J_return (()) Try.results117 (.tmp rfl .nil) ?_ ?_
      · simp [one, cmpI, h16, h19]
      · exact SU

set_option maxRecDepth 100000 in
set_option maxHeartbeats 4000000 in
theorem orInts {E : World} {l : List As} {v : Value} {zs : List Int} (hr : ∀ w, Sep E w l → Reads w 1 v (zs.map encZ)) (hb : zs.length ≤ 1000) :
    Con Try.prog 115 #[v] E l (fun _ : Unit => .int .i64 (orI zs)) (fun _ => l) := by
  refine Con.body (vs := [v]) (n := 18) Try.func115 rfl rfl [(0, v)] (env_ok 1 rfl) ?_
  refine J_readsB hr fun hw a cap hv h1 h2 h3 => ?_
  subst hv
  have hm : cap ≤ 9223372036854775807 := h2
  have hml : (zs.map encZ).length = zs.length := List.length_map _
  refine J_seq ?_
  refine J_region ?_
  refine L_pur rfl (p_assign rfl) ?_
  refine L_nil ?_
  refine Q_then ?_
  refine J_seq ?_
  refine J_region ?_
  refine L_pur rfl (p_assign rfl) ?_
  refine L_nil ?_
  refine Q_then ?_
  refine J_seq ?_
  refine J_seq ?_
  refine J_region ?_
  refine L_pur rfl (p_move rfl) ?_
  refine L_pur rfl (p_len rfl Try.underlying23) ?_
  refine L_pur rfl (p_move rfl) ?_
  refine L_nil ?_
  refine Q_then ?_
  refine J_block ?_
  refine J_loop (α := Nat) (fun k => k ≤ zs.length ∧ ∀ c ∈ zs.take k, (!decide (c = 0)) = false) (fun _ => l) (fun k => [(8, .int .i64 (k : Int)), (7, .int .i64 (zs.map encZ).length), (6, .slice a (zs.map encZ).length cap), (3, .int .i64 0)]) (fun k => zs.length - k) 0 ⟨by omega, by simp⟩ SU KE ?_
  intro k ⟨hk, hq⟩
  refine J_seq ?_
  refine J_region ?_
  refine L_pur rfl (p_lss rfl rfl) ?_
  refine L_nil ?_
  refine Q_then ?_
  refine J_seq ?_
  refine C_dec rfl (fun h9 => ?_) (fun h9 => ?_)
  ·
    have hlt : k < zs.length := by omega
    obtain ⟨bx, ox, rfl⟩ := h3 (by intro h; rw [h] at hml; simp at hml; omega)
    obtain ⟨c, hcc⟩ : ∃ c, zs[k]? = some c := ⟨_, List.getElem?_eq_getElem hlt⟩
    refine J_skip ?_
    refine Q_then ?_
    refine J_seq ?_
    refine J_block ?_
    refine J_seq ?_
    refine J_region ?_
    refine L_pur rfl (p_indexAddr rfl rfl Try.underlying23 ty3 (by omega) (by omega)) ?_
    refine L_val rfl (by first | exact v_loadE1 rfl ty3 HS (by first | (simp only [Int.toNat_natCast, List.getElem?_map, hcc]; rfl) | (simp only [Int.toNat_natCast, List.getElem?_map, hcd]; rfl) | simp | rfl) | exact v_loadR1 rfl ty3 (fun w H => hr w (Sub.sep SU H)) (by first | (simp only [Int.toNat_natCast, List.getElem?_map, hcc]; rfl) | (simp only [Int.toNat_natCast, List.getElem?_map, hcd]; rfl) | simp | rfl)) ?_
    refine L_pur rfl (p_assign rfl) ?_
    refine L_nil ?_
    refine Q_then ?_
    refine J_seq ?_
    refine J_region ?_
    refine L_pur rfl (p_move rfl) ?_
    refine L_pur rfl (p_move rfl) ?_
    refine L_pur rfl (p_neq rfl rfl) ?_
    refine L_nil ?_
    refine Q_then ?_
    refine C_dec rfl (fun h14 => ?_) (fun h14 => ?_)
    ·
      have hor : orI zs = c := by
        unfold orI
        have e : zs = zs.take k ++ c :: zs.drop (k + 1) := by
          conv => lhs; rw [← List.take_append_drop k zs, List.drop_eq_getElem_cons hlt, (List.getElem?_eq_some_iff.1 hcc).2]
        rw [e, List.find?_append, List.find?_eq_none.2 (fun x hx => by simpa using hq x hx), List.find?_cons]
        simp [h14]
      refine J_seq ?_
      refine J_region ?_
      refine L_pur rfl (p_move rfl) ?_
      refine L_pur rfl (p_assign rfl) ?_
      refine L_nil ?_
      refine Q_then ?_
      refine J_ret ?_
      refine Q_blk_ret ?_
      refine Q_then_ret ?_
      refine Q_then_ret ?_
      refine Q_blk_ret ?_
      refine Q_then_ret ?_
      refine J_return (()) Try.results115 (.tmp rfl .nil) ?_ ?_
      · simp [one, hor]
      · exact SU
    ·
      refine J_skip ?_
      refine Q_blk_normal ?_
      refine Q_then ?_
      refine J_region ?_
      refine L_pur rfl (p_add64 rfl rfl (by omega)) ?_
      refine L_pur rfl (p_move rfl) ?_
      refine L_nil ?_
      refine Q_then ?_
      exact J_again (k + 1) (by omega) (⟨by omega, fun c hc => by rw [List.take_add_one, hcc] at hc; rcases List.mem_append.1 hc with h | h; exact hq c h; simp at h; subst h; simpa using h14⟩) SU KE
  ·
    have hke : k = zs.length := by omega
    rw [hke, List.take_length] at hq
    have hor : orI zs = 0 := by
      unfold orI
      rw [List.find?_eq_none.2 (fun x hx => by simpa using hq x hx)]; rfl
    refine J_exit ?_
    refine Q_then_exit ?_
    refine Q_then_exit ?_
    refine Q_blk_this ?_
    refine Q_then ?_
    refine J_seq ?_
    refine J_region ?_
    refine L_pur rfl (p_move rfl) ?_
    refine L_pur rfl (p_assign rfl) ?_
    refine L_nil ?_
    refine Q_then ?_
    refine J_ret ?_
    refine J_return (()) Try.results115 (.tmp rfl .nil) ?_ ?_
    · simp [one, hor]
    · exact SU

set_option maxRecDepth 100000 in
set_option maxHeartbeats 4000000 in
theorem order {E : World} {l : List As} (a b : Tm) :
  Con Try.prog 104 #[.agg (encT a).toArray, .agg (encT b).toArray] E l (fun _ : Unit => .int .i64 (ordT a b)) (fun _ => l) := by
 refine Con.body (vs := [.agg (encT a).toArray, .agg (encT b).toArray]) (n := 26) Try.func104 rfl rfl [(0, .agg (encT a).toArray), (1, .agg (encT b).toArray)] (env_ok 2 rfl) ?_
 refine J_seq ?_
 refine J_region ?_
 refine L_op (x_box rfl rfl rfl fun b2 => ?_)
 refine L_op (x_box rfl rfl rfl fun b3 => ?_)
 refine L_pur rfl (p_assign rfl) ?_
 refine L_nil ?_
 refine Q_then ?_
 refine J_seq ?_
 refine J_drawI none [blk b2 175 (encT a), blk b3 175 (encT b)] mixed ?_
 refine I_take (i := 0) rfl rfl rfl rfl (by kernel_rfl) (fun _ _ _ _ h => h) (fun _ => Pur.vl (p_fieldAddr rfl fa175_0)) ?_
 refine I_take (i := 1) rfl rfl rfl rfl (by kernel_rfl) (fun _ _ _ _ h => h) (fun _ => v_load rfl ty136 HS (by exact rfl)) ?_
 refine I_take (i := 2) rfl rfl rfl rfl (by kernel_rfl) (fun _ _ _ _ h => h) (fun _ => Pur.vl (p_fieldAddr rfl fa175_0)) ?_
 refine I_take (i := 3) rfl rfl rfl rfl (by kernel_rfl) (fun _ _ _ _ h => h) (fun _ => v_load rfl ty136 HS (by exact rfl)) ?_
 refine I_take (i := 5) rfl rfl rfl rfl (by kernel_rfl) (fun _ _ _ _ h => h) (fun _ => Pur.vl (p_fieldAddr rfl fa175_1)) ?_
 refine I_take (i := 6) rfl rfl rfl rfl (by kernel_rfl) (fun _ _ _ _ h => h) (fun _ => Pur.vl (p_fieldAddr rfl fa36_0)) ?_
 refine I_take (i := 7) rfl rfl rfl rfl (by kernel_rfl) (fun _ _ _ _ h => h) (fun _ => v_load rfl ty3 HS (by exact rfl)) ?_
 refine I_take (i := 8) rfl rfl rfl rfl (by kernel_rfl) (fun _ _ _ _ h => h) (fun _ => Pur.vl (p_fieldAddr rfl fa175_1)) ?_
 refine I_take (i := 9) rfl rfl rfl rfl (by kernel_rfl) (fun _ _ _ _ h => h) (fun _ => Pur.vl (p_fieldAddr rfl fa36_0)) ?_
 refine I_take (i := 10) rfl rfl rfl rfl (by kernel_rfl) (fun _ _ _ _ h => h) (fun _ => v_load rfl ty3 HS (by exact rfl)) ?_
 refine I_take (i := 12) rfl rfl rfl rfl (by kernel_rfl) (fun _ _ _ _ h => h) (fun _ => Pur.vl (p_fieldAddr rfl fa175_1)) ?_
 refine I_take (i := 13) rfl rfl rfl rfl (by kernel_rfl) (fun _ _ _ _ h => h) (fun _ => Pur.vl (p_fieldAddr rfl fa36_1)) ?_
 refine I_take (i := 14) rfl rfl rfl rfl (by kernel_rfl) (fun _ _ _ _ h => h) (fun _ => v_load rfl ty3 HS (by exact rfl)) ?_
 refine I_take (i := 15) rfl rfl rfl rfl (by kernel_rfl) (fun _ _ _ _ h => h) (fun _ => Pur.vl (p_fieldAddr rfl fa175_1)) ?_
 refine I_take (i := 16) rfl rfl rfl rfl (by kernel_rfl) (fun _ _ _ _ h => h) (fun _ => Pur.vl (p_fieldAddr rfl fa36_1)) ?_
 refine I_take (i := 17) rfl rfl rfl rfl (by kernel_rfl) (fun _ _ _ _ h => h) (fun _ => v_load rfl ty3 HS (by exact rfl)) ?_
 refine I_one (i := 4) SI (by kernel_rfl) rfl ?_
 refine x_call Try.func116 nm116 bd116 (.cons rfl (.cons rfl .nil)) rfl (compare116 _ _) fun _ => ?_
 refine I_one (i := 11) SI (by kernel_rfl) rfl ?_
 refine x_call Try.func117 nm117 bd117 (.cons rfl (.cons rfl .nil)) rfl (compare117 _ _) fun _ => ?_
 refine I_one (i := 18) SI (by kernel_rfl) rfl ?_
 refine x_call Try.func117 nm117 bd117 (.cons rfl (.cons rfl .nil)) rfl (compare117 _ _) fun _ => ?_
 refine I_one (i := 19) SI (by kernel_rfl) rfl ?_
 refine x_lit (vals := [_, _, _]) Try.underlying23 ty3 rfl (.cons rfl (.cons rfl (.cons rfl .nil))) (.one rfl (.one rfl (.one rfl .nil))) (Wf.cons rfl rfl (Wf.cons rfl rfl (Wf.cons rfl rfl Wf.nil))) rfl (by decide) rfl rfl fun v24 => ?_
 refine J_rowEq (ys := [cmpI a.1 b.1, cmpI a.2.1 b.2.1, cmpI a.2.2 b.2.2].map encZ) (rfl) ?_
 refine J_row .here fun hw24 a24 c24 hv24 hl24 hm24 hz24 => ?_
 subst hv24
 refine I_one (i := 20) SI (by kernel_rfl) rfl ?_
 refine x_call Try.func115 nm115 bd115 (.cons rfl .nil) rfl (orInts (zs := [cmpI a.1 b.1, cmpI a.2.1 b.2.1, cmpI a.2.2 b.2.2]) (fun w H => sep_reads (xs := [cmpI a.1 b.1, cmpI a.2.1 b.2.1, cmpI a.2.2 b.2.2].map encZ) HS H) (by simp)) fun _ => ?_
 refine I_take (i := 21) rfl rfl rfl rfl (by kernel_rfl) (fun _ _ _ _ h => h) (fun _ => Pur.vl (p_assign rfl)) ?_
 refine I_done SI (by kernel_rfl) ?_
 refine Q_then ?_
 refine J_ret ?_
 exact J_return (()) Try.results104 (.tmp rfl .nil) rfl SU

set_option maxRecDepth 100000 in
set_option maxHeartbeats 4000000 in
theorem bsearch {E : World} {l : List As} {v : Value} {xs : List Tm} {x : Tm} {k : Nat} (hv : Has (row 175 3 v (xs.map encT)) l) (hb : xs.length ≤ 100000) (hk : k ≤ xs.length) (hi : ∀ j c, xs[j]? = some c → (ltT c x = true ↔ j < k)) :
  Con Try.prog 103 #[v, .agg (encT x).toArray, .func (.func 104) #[] #[]] E l (fun q : Bool => .tuple #[.int .i64 (k : Int), .bool q]) (fun _ => l) := by
 refine Con.body (vs := [v, .agg (encT x).toArray, .func (.func 104) #[] #[]]) (n := 49) Try.func103 rfl rfl [(0, v), (1, .agg (encT x).toArray), (2, .func (.func 104) #[] #[])] (env_ok 3 rfl) ?_
 refine J_row hv fun hw a cap hv h1 h2 h3 => ?_
 subst hv
 have hm : cap ≤ 9223372036854775807 := h2
 have hml : (xs.map encT).length = xs.length := List.length_map _
 refine J_seq ?_
 refine J_region ?_
 refine L_op (x_box rfl rfl rfl fun b4 => ?_)
 refine L_pur rfl (p_assign rfl) ?_
 refine L_pur rfl (p_assign rfl) ?_
 refine L_nil ?_
 refine Q_then ?_
 refine J_seq ?_
 refine J_region ?_
 refine L_pur rfl (p_move rfl) ?_
 refine L_pur rfl (p_len rfl Try.underlying132) ?_
 refine L_pur rfl (p_assign rfl) ?_
 refine L_nil ?_
 refine Q_then ?_
 refine J_seq ?_
 refine J_region ?_
 refine L_pur rfl (p_move rfl) ?_
 refine L_pur rfl (p_assign rfl) ?_
 refine L_pur rfl (p_assign rfl) ?_
 refine L_nil ?_
 refine Q_then ?_
 refine J_seq ?_
 refine J_block ?_
 refine J_loop2 (fun lo hi => lo ≤ k ∧ k ≤ hi ∧ hi ≤ xs.length) (fun _ _ => blk b4 175 (encT x) :: l) (fun lo hi => [(9, .int .i64 (lo : Int)), (10, .int .i64 (hi : Int)), (8, .int .i64 (xs.map encT).length), (0, .slice a (xs.map encT).length cap), (2, .func (.func 104) #[] #[]), (4, .pointer (some ⟨b4, 0, none⟩))]) (fun lo hi => hi - lo) 0 (xs.map encT).length ⟨by omega, by omega, by omega⟩ SU KE ?_
 intro lo hi2 ⟨hl1, hl2, hl3⟩
 refine J_seq ?_
 refine J_seq ?_
 refine J_region ?_
 refine L_pur rfl (p_move rfl) ?_
 refine L_pur rfl (p_move rfl) ?_
 refine L_pur rfl (p_lss rfl rfl) ?_
 refine L_nil ?_
 refine Q_then ?_
 refine C_dec rfl (fun h17 => ?_) (fun h17 => ?_)
 ·
  obtain ⟨q, hq⟩ : ∃ q, q = (lo + hi2) / 2 := ⟨_, rfl⟩
  have hlt : q < xs.length := by omega
  obtain ⟨bx, ox, rfl⟩ := h3 (by intro h; rw [h] at hml; simp at hml; omega)
  obtain ⟨c, hcc⟩ : ∃ c, xs[q]? = some c := ⟨_, List.getElem?_eq_getElem hlt⟩
  refine J_skip ?_
  refine Q_then ?_
  refine J_block ?_
  refine J_seq ?_
  refine J_region ?_
  refine L_pur rfl (p_move rfl) ?_
  refine L_pur rfl (p_move rfl) ?_
  refine L_pur rfl (p_add64 rfl rfl (by omega)) ?_
  refine L_pur rfl (p_conv rfl Try.underlying3 Try.underlying191) ?_
  refine J_slot (t := 21) (v := .int .u64 ((lo + hi2 : Nat) : Int)) rfl (by rw [wrap64u_of ⟨by omega, by omega⟩]; simp) ?_
  refine L_pur rfl (p_shr rfl rfl (by decide) (by decide)) ?_
  refine J_slot (t := 22) (v := .int .u64 (q : Int)) rfl (by rw [hq]; congr 1) ?_
  refine L_pur rfl (p_conv rfl Try.underlying191 Try.underlying3) ?_
  refine J_slot (t := 23) (v := .int .i64 (q : Int)) rfl (by rw [wrap64_of ⟨by omega, by omega⟩]) ?_
  refine L_pur rfl (p_assign rfl) ?_
  refine L_nil ?_
  refine Q_then ?_
  refine J_seq ?_
  refine J_drawT 6 mixed (by kernel_rfl) ?_
  refine S_val rfl (Pur.vl (p_move rfl)) ?_
  refine S_val rfl (Pur.vl (p_move rfl)) ?_
  refine S_val rfl (Pur.vl (p_move rfl)) ?_
  refine S_val rfl (Pur.vl (p_indexAddr rfl rfl Try.underlying132 ty175 (by omega) (by omega))) ?_
  refine S_val rfl (v_loadE rfl ty175 HS (by first | (simp only [Int.toNat_natCast, List.getElem?_map, hcc]; rfl) | (simp only [Int.toNat_natCast, List.getElem?_map, hcd]; rfl) | simp | rfl)) ?_
  refine S_val rfl (v_loadA rfl ty175 HS CT) ?_
  refine S_nil ?_
  refine L_op (x_callc rfl Try.func104 nm104 bd104 (.cons rfl (.cons rfl .nil)) rfl (order c x) fun _ => ?_)
  refine L_pur rfl (p_lss rfl rfl) ?_
  refine L_nil ?_
  refine Q_then ?_
  refine C_dec rfl (fun h31 => ?_) (fun h31 => ?_)
  ·
   have hqk := (hi q c hcc).1 (by rw [← ordT_neg]; simpa using h31)
   refine J_region ?_
   refine L_pur rfl (p_move rfl) ?_
   refine L_pur rfl (p_add64 rfl rfl (by omega)) ?_
   refine L_pur rfl (p_assign rfl) ?_
   refine L_nil ?_
   refine Q_blk_normal ?_
   refine Q_then ?_
   
   exact J_again2 (q + 1) hi2 (by omega) (⟨by omega, hl2, hl3⟩) SU KE
  ·
   have hqk : ¬ q < k := fun h => h31 (by have := (hi q c hcc).2 h; rw [← ordT_neg] at this; simpa using this)
   refine J_region ?_
   refine L_pur rfl (p_move rfl) ?_
   refine L_pur rfl (p_assign rfl) ?_
   refine L_nil ?_
   refine Q_blk_normal ?_
   refine Q_then ?_
   
   exact J_again2 lo q (by omega) (⟨hl1, by omega, by omega⟩) SU KE
 ·
  have hlk : lo = k := by omega
  subst hlk
  refine J_exit ?_
  refine Q_then_exit ?_
  refine Q_then_exit ?_
  refine Q_blk_this ?_
  refine Q_then ?_
  refine J_seq ?_
  refine J_drawI none [blk b4 175 (encT x)] mixed ?_
  refine I_take (i := 0) rfl rfl rfl rfl (by kernel_rfl) (fun _ _ _ _ h => h) (fun _ => Pur.vl (p_move rfl)) ?_
  refine I_take (i := 1) rfl rfl rfl rfl (by kernel_rfl) (fun _ _ _ _ h => h) (fun _ => Pur.vl (p_move rfl)) ?_
  refine I_take (i := 2) rfl rfl rfl rfl (by kernel_rfl) (fun _ _ _ _ h => h) (fun _ => Pur.vl (p_move rfl)) ?_
  refine I_take (i := 3) rfl rfl rfl rfl (by kernel_rfl) (fun _ _ _ _ h => h) (fun _ => Pur.vl (p_lss rfl rfl)) ?_
  refine I_take (i := 4) rfl rfl rfl rfl (by kernel_rfl) (fun _ _ _ _ h => h) (fun _ => Pur.vl (p_move rfl)) ?_
  refine J_gsplit (t := 39) rfl (fun h39 => ?_) (fun h39 => ?_)
  ·
   have hlt : lo < xs.length := by simp at h39; omega
   obtain ⟨bx, ox, rfl⟩ := h3 (by intro h; rw [h] at hml; simp at hml; omega)
   obtain ⟨c, hcc⟩ : ∃ c, xs[lo]? = some c := ⟨_, List.getElem?_eq_getElem hlt⟩
   refine I_takeOn (i := 5) rfl rfl rfl rfl rfl rfl rfl (by kernel_rfl) (fun _ _ _ _ h => h) (fun _ => Pur.vl (p_move rfl)) ?_
   refine I_takeOn (i := 6) rfl rfl rfl rfl rfl rfl rfl (by kernel_rfl) (fun _ _ _ _ h => h) (fun _ => Pur.vl (p_move rfl)) ?_
   refine I_takeOn (i := 7) rfl rfl rfl rfl rfl rfl rfl (by kernel_rfl) (fun _ _ _ _ h => h) (fun _ => Pur.vl (p_move rfl)) ?_
   refine I_takeOn (i := 8) rfl rfl rfl rfl rfl rfl rfl (by kernel_rfl) (fun _ _ _ _ h => h) (fun _ => Pur.vl (p_indexAddr rfl rfl Try.underlying132 ty175 (by omega) (by omega))) ?_
   refine I_takeOn (i := 10) rfl rfl rfl rfl rfl rfl rfl (by kernel_rfl) (fun _ _ _ _ h => h) (fun _ => v_loadA rfl ty175 HS CT) ?_
   refine I_one (i := 9) SI (by kernel_rfl) rfl ?_
   refine G_on rfl rfl rfl ?_
   refine J_val (v_loadE rfl ty175 HS (by first | (simp only [Int.toNat_natCast, List.getElem?_map, hcc]; rfl) | (simp only [Int.toNat_natCast, List.getElem?_map, hcd]; rfl) | simp | rfl)) rfl rfl rfl ?_
   refine I_one (i := 11) SI (by kernel_rfl) rfl ?_
   refine G_on rfl rfl rfl ?_
   refine x_callc rfl Try.func104 nm104 bd104 (.cons rfl (.cons rfl .nil)) rfl (order c x) fun _ => ?_
   refine I_takeOn (i := 12) rfl rfl rfl rfl rfl rfl rfl (by kernel_rfl) (fun _ _ _ _ h => h) (fun _ => Pur.vl (p_eql rfl rfl)) ?_
   refine I_take (i := 13) rfl rfl rfl rfl (by kernel_rfl) (fun _ _ _ _ h => h) (fun _ => Pur.vl (p_pick_t rfl rfl)) ?_
   refine I_take (i := 14) rfl rfl rfl rfl (by kernel_rfl) (fun _ _ _ _ h => h) (fun _ => Pur.vl (p_assign rfl)) ?_
   refine I_take (i := 15) rfl rfl rfl rfl (by kernel_rfl) (fun _ _ _ _ h => h) (fun _ => Pur.vl (p_assign rfl)) ?_
   refine I_done SI (by kernel_rfl) ?_
   refine Q_then ?_
   refine J_ret ?_
   exact J_return (_) Try.results103 (.tmp rfl (.tmp rfl .nil)) rfl SU
  ·
   refine I_takeOff (i := 5) rfl rfl rfl rfl rfl rfl rfl rfl (by kernel_rfl) (fun _ _ _ _ h => h) ?_
   refine I_takeOff (i := 6) rfl rfl rfl rfl rfl rfl rfl rfl (by kernel_rfl) (fun _ _ _ _ h => h) ?_
   refine I_takeOff (i := 7) rfl rfl rfl rfl rfl rfl rfl rfl (by kernel_rfl) (fun _ _ _ _ h => h) ?_
   refine I_takeOff (i := 8) rfl rfl rfl rfl rfl rfl rfl rfl (by kernel_rfl) (fun _ _ _ _ h => h) ?_
   refine I_takeOff (i := 9) rfl rfl rfl rfl rfl rfl rfl rfl (by kernel_rfl) (fun _ _ _ _ h => h) ?_
   refine I_takeOff (i := 10) rfl rfl rfl rfl rfl rfl rfl rfl (by kernel_rfl) (fun _ _ _ _ h => h) ?_
   refine I_takeOff (i := 11) rfl rfl rfl rfl rfl rfl rfl rfl (by kernel_rfl) (fun _ _ _ _ h => h) ?_
   refine I_takeOff (i := 12) rfl rfl rfl rfl rfl rfl rfl rfl (by kernel_rfl) (fun _ _ _ _ h => h) ?_
   refine I_take (i := 13) rfl rfl rfl rfl (by kernel_rfl) (fun _ _ _ _ h => h) (fun _ => Pur.vl (p_pick_f rfl rfl)) ?_
   refine I_take (i := 14) rfl rfl rfl rfl (by kernel_rfl) (fun _ _ _ _ h => h) (fun _ => Pur.vl (p_assign rfl)) ?_
   refine I_take (i := 15) rfl rfl rfl rfl (by kernel_rfl) (fun _ _ _ _ h => h) (fun _ => Pur.vl (p_assign rfl)) ?_
   refine I_done SI (by kernel_rfl) ?_
   refine Q_then ?_
   refine J_ret ?_
   exact J_return (_) Try.results103 (.tmp rfl (.tmp rfl .nil)) rfl SU

theorem ins_new {α : Type} {xs : List α} {c z : α} {k : Nat} (h : k < xs.length) :
    ((((xs.take k ++ List.replicate (xs.length + 1 - k) z).take k ++ [c] ++ (xs.take k ++ List.replicate (xs.length + 1 - k) z).drop (k + 1)).take (k + 1)) ++ xs.drop k ++ (((xs.take k ++ List.replicate (xs.length + 1 - k) z).take k ++ [c] ++ (xs.take k ++ List.replicate (xs.length + 1 - k) z).drop (k + 1)).drop (k + 1 + (xs.drop k).length))) = xs.take k ++ c :: xs.drop k := by
  have hl : (xs.take k).length = k := by simp; omega
  have e1 : (xs.take k ++ List.replicate (xs.length + 1 - k) z).take k = xs.take k := by
    exact List.take_left' hl
  rw [e1]
  have hl2 : (xs.take k ++ [c]).length = k + 1 := by simp; omega
  have e2 : ∀ R : List α, (xs.take k ++ [c] ++ R).take (k + 1) = xs.take k ++ [c] := fun R => List.take_left' hl2
  rw [e2, show List.drop (k + 1 + (xs.drop k).length) _ = [] from List.drop_of_length_le (by simp; omega)]
  simp
theorem ins_here {α : Type} {xs : List α} {c : α} {k : Nat} (h : k < xs.length) : (xs.take (k + 1) ++ xs.drop k).take k ++ [c] ++ (xs.take (k + 1) ++ xs.drop k).drop (k + 1) = xs.take k ++ c :: xs.drop k := by
  have hl : (xs.take (k + 1)).length = k + 1 := by simp; omega
  have e1 : (xs.take (k + 1) ++ xs.drop k).take k = xs.take k := by
    rw [List.take_append_of_le_length (by omega), List.take_take]
    congr 1; omega
  have e2 : (xs.take (k + 1) ++ xs.drop k).drop (k + 1) = xs.drop k := by
    exact List.drop_left' hl
  rw [e1, e2]; simp

set_option maxRecDepth 100000 in
set_option maxHeartbeats 4000000 in
theorem insert1 {E : World} {l m : List As}{m1 : List As} {v u : Value} {xs : List (List Value)} {c : List Value} {k : Nat} (hp1 : Pick (row 175 3 u [c]) l m1) (hp2 : Pick (row 175 3 v xs) m1 m) (hb : xs.length ≤ 100000) (hk : k ≤ xs.length) :
  Con Try.prog 105 #[v, .int .i64 (k : Int), u] E l (fun v' : Value => v') (fun v' => row 175 3 v' (xs.take k ++ c :: xs.drop k) :: m) := by
 refine Con.body (vs := [v, .int .i64 (k : Int), u]) (n := 95) Try.func105 rfl rfl [(0, v), (1, .int .i64 (k : Int)), (2, u)] (env_ok 3 rfl) ?_
 refine J_pick hp1 ?_
 refine J_pick (.there hp2) ?_
 refine J_row .here fun hw a cap hv h1 h2 h3 => ?_
 subst hv
 have hm : cap ≤ 9223372036854775807 := h2
 refine J_row (.there .here) fun hw' a' cap' hv' h1' h2' h3' => ?_
 subst hv'
 refine J_seq ?_
 refine J_region ?_
 refine L_pur rfl (p_assign rfl) ?_
 refine L_nil ?_
 refine Q_then ?_
 refine J_seq ?_
 refine J_region ?_
 refine L_pur rfl (p_move rfl) ?_
 refine L_pur rfl (p_move rfl) ?_
 refine L_pur rfl (p_slice rfl Try.underlying132 ty175 rfl rfl (by omega) (by omega) (by omega)) ?_
 refine L_nil ?_
 refine Q_then ?_
 refine J_seq ?_
 refine J_region ?_
 refine L_pur rfl (p_move rfl) ?_
 refine L_pur rfl (p_len rfl Try.underlying132) ?_
 refine J_slot (t := 14) (v := .int .i64 1) rfl rfl ?_
 refine L_pur rfl (p_assign rfl) ?_
 refine L_nil ?_
 refine Q_then ?_
 refine J_seq ?_
 refine J_seq ?_
 refine J_region ?_
 refine L_pur rfl (p_move rfl) ?_
 refine L_pur rfl (p_eql rfl rfl) ?_
 refine L_nil ?_
 refine Q_then ?_
 refine J_bool (t := 16) (c := false) rfl (by simp) ?_
 refine C_false rfl ?_
 refine J_skip ?_
 refine Q_then ?_
 refine J_seq ?_
 refine J_region ?_
 refine L_pur rfl (p_move rfl) ?_
 refine L_pur rfl (p_len rfl Try.underlying132) ?_
 refine L_pur rfl (p_assign rfl) ?_
 refine L_nil ?_
 refine Q_then ?_
 refine J_seq ?_
 refine J_seq ?_
 refine J_region ?_
 refine L_pur rfl (p_move rfl) ?_
 refine L_pur rfl (p_move rfl) ?_
 refine L_pur rfl (p_eql rfl rfl) ?_
 refine L_nil ?_
 refine Q_then ?_
 refine C_dec rfl (fun h22 => ?_) (fun h22 => ?_)
 ·
  have hkl : k = xs.length := by omega
  refine J_seq ?_
  refine J_region ?_
  refine L_pur rfl (p_move rfl) ?_
  refine L_pur rfl (p_move rfl) ?_
  refine L_op (x_app rfl rfl Try.underlying132 ty175 rfl rfl PC (fun w H => sep_reads (xs := [c]) HS H) (by first | omega | (simp <;> omega)) (by first | omega | (simp <;> omega)) rfl fun v25 => ?_)
  refine J_rowEq (ys := xs.take k ++ c :: xs.drop k) (by rw [hkl]; simp) ?_
  refine J_row .here fun hw25 a25 c25 hv25 hl25 hm25 hz25 => ?_
  subst hv25
  refine L_pur rfl (p_assign rfl) ?_
  refine L_nil ?_
  refine Q_then ?_
  refine J_ret ?_
  refine Q_then_ret ?_
  exact J_return (_) Try.results105 (.tmp rfl .nil) rfl SU
 ·
  have hkl : k < xs.length := by omega
  obtain ⟨b, o, rfl⟩ := h3 (by intro h; rw [h] at hkl; simp at hkl)
  obtain ⟨ub, uo, rfl⟩ := h3' (by simp)
  refine J_skip ?_
  refine Q_then ?_
  refine J_seq ?_
  refine J_seq ?_
  refine J_region ?_
  refine L_pur rfl (p_move rfl) ?_
  refine L_pur rfl (p_move rfl) ?_
  refine L_pur rfl (p_add64 rfl rfl (by omega)) ?_
  refine L_pur rfl (p_move rfl) ?_
  refine L_pur rfl (p_cap rfl Try.underlying132) ?_
  refine L_pur rfl (p_gtr rfl rfl) ?_
  refine L_nil ?_
  refine Q_then ?_
  refine C_dec rfl (fun h31 => ?_) (fun h31 => ?_)
  ·
   refine J_seq ?_
   refine J_region ?_
   refine L_pur rfl (p_move rfl) ?_
   refine L_pur rfl (p_move rfl) ?_
   refine L_pur rfl (p_slice rfl Try.underlying132 ty175 rfl rfl (by omega) (by omega) (by omega)) ?_
   refine J_slot (t := 34) (v := .slice (some ⟨b, o, none⟩) k cap) rfl (by simp [Addr.add]) ?_
   refine L_pur rfl (p_move rfl) ?_
   refine L_pur rfl (p_move rfl) ?_
   refine L_pur rfl (p_add64 rfl rfl (by omega)) ?_
   refine L_pur rfl (p_move rfl) ?_
   refine L_pur rfl (p_sub64 rfl rfl (by omega)) ?_
   refine J_slot (t := 39) (v := .int .i64 ((xs.length + 1 - k : Nat) : Int)) rfl (by congr 1; omega) ?_
   refine L_op (x_appMake (i := k) (z0 := xs.length + 1 - k) (xs := xs.take k) rfl rfl Try.underlying132 Try.underlying3 ty175 rfl rfl rfl (fun w H => Reads.take (i := k) (sep_reads (xs := xs) HS H) (by omega)) (by first | omega | (simp at h31; omega)) (by omega) (by omega) (by omega) rfl fun v40 => ?_)
   refine J_row .here fun hw40 a40 c40 hv40 hl40 hm40 hz40 => ?_
   subst hv40
   obtain ⟨b4, o4, rfl⟩ := hz40 (by intro h; have := congrArg List.length h; simp at this; omega)
   refine L_pur rfl (p_assign rfl) ?_
   refine L_nil ?_
   refine Q_then ?_
   refine J_seq ?_
   refine J_region ?_
   refine L_pur rfl (p_move rfl) ?_
   refine L_pur rfl (p_move rfl) ?_
   refine L_pur rfl (p_slice rfl Try.underlying132 ty175 rfl rfl (by omega) (by simp; omega) (by simp at hl40 ⊢; omega)) ?_
   refine L_pur rfl (p_move rfl) ?_
   refine L_op (x_copyTo (k0 := k) (ys := [c]) rfl rfl Try.underlying132 ty175 PC (fun w H => sep_reads (xs := [c]) HS H) (by simp; omega) (by simp; omega) rfl ?_)
   refine L_nil ?_
   refine Q_then ?_
   refine J_seq ?_
   refine J_drawT 8 mixed (by kernel_rfl) ?_
   refine S_val rfl (Pur.vl (p_move rfl)) ?_
   refine S_val rfl (Pur.vl (p_move rfl)) ?_
   refine S_val rfl (Pur.vl (p_move rfl)) ?_
   refine S_val rfl (Pur.vl (p_add64 rfl rfl (by omega))) ?_
   refine S_val rfl (Pur.vl (p_slice rfl Try.underlying132 ty175 rfl rfl (by omega) (by simp; omega) (by simp at hl40 ⊢; omega))) ?_
   refine S_val rfl (Pur.vl (p_move rfl)) ?_
   refine S_val rfl (Pur.vl (p_move rfl)) ?_
   refine S_val rfl (Pur.vl (p_slice rfl Try.underlying132 ty175 rfl rfl (by omega) (by omega) (by omega))) ?_
   refine S_nil ?_
   refine L_op (x_copyTo (k0 := k + 1) (ys := xs.drop k) rfl rfl Try.underlying132 ty175 PC (fun w H => Reads.drop (a0 := some ⟨b, o, none⟩) (len := xs.length) (cap := cap) (lo := k) (sep_reads (xs := xs) HS H) (by omega)) (by simp; omega) (by simp; omega) rfl ?_)
   refine J_rowTo (v' := .slice (some ⟨b4, o4, none⟩) (xs.take k ++ List.replicate (xs.length + 1 - k) _).length c40) (ys := xs.take k ++ c :: xs.drop k) (ins_new hkl) rfl ?_
   refine L_nil ?_
   refine Q_then ?_
   refine J_seq ?_
   refine J_region ?_
   refine L_pur rfl (p_move rfl) ?_
   refine L_pur rfl (p_assign rfl) ?_
   refine L_nil ?_
   refine Q_then ?_
   refine J_ret ?_
   refine Q_then_ret ?_
   exact J_return (_) Try.results105 (.tmp rfl .nil) rfl SU
  ·
   refine J_skip ?_
   refine Q_then ?_
   refine J_seq ?_
   refine J_region ?_
   refine L_pur rfl (p_move rfl) ?_
   refine L_pur rfl (p_move rfl) ?_
   refine L_pur rfl (p_move rfl) ?_
   refine L_pur rfl (p_add64 rfl rfl (by omega)) ?_
   refine L_pur rfl (p_slice rfl Try.underlying132 ty175 rfl rfl (by omega) (by omega) (by first | omega | (simp at h31 ⊢; omega))) ?_
   refine J_slot (t := 60) (v := .slice (some ⟨b, o, none⟩) (xs.length + 1) cap) rfl (by simp [Addr.add]) ?_
   have hroom : xs.length + 1 ≤ cap := by first | omega | (simp at h31; omega)
   refine L_pur rfl (p_assign rfl) ?_
   refine L_nil ?_
   refine Q_then ?_
   refine J_seq ?_
   refine J_seq ?_
   refine J_region ?_
   refine L_pur rfl (p_move rfl) ?_
   refine L_pur rfl (p_move rfl) ?_
   refine L_pur rfl (p_move rfl) ?_
   refine L_pur rfl (p_move rfl) ?_
   refine L_pur rfl (p_add64 rfl rfl (by omega)) ?_
   refine L_pur rfl (p_slice rfl Try.underlying132 ty175 rfl rfl (by omega) (by omega) (by omega)) ?_
   refine J_slot (t := 66) (v := .slice (some ⟨b, o + (k + 1) * 3, none⟩) (xs.length - k) (cap - (k + 1))) rfl (by have e : ((k : Int) + 1).toNat = k + 1 := by { omega }; rw [e, if_neg (by omega)]; simp [Addr.add_lit]) ?_
   refine L_op (x_overlaps (tR := 4) Try.func118 nm118 rfl (by kernel_rfl) (by kernel_rfl) rfl rfl Try.underlying132 ty175 rfl PC PC (by omega) rfl ?_)
   refine L_pur rfl (p_not rfl) ?_
   refine L_nil ?_
   refine Q_then ?_
   refine J_bool (t := 68) (c := true) rfl (rfl) ?_
   refine C_true rfl ?_
   refine J_seq ?_
   refine J_drawT 8 mixed (by kernel_rfl) ?_
   refine S_val rfl (Pur.vl (p_move rfl)) ?_
   refine S_val rfl (Pur.vl (p_move rfl)) ?_
   refine S_val rfl (Pur.vl (p_move rfl)) ?_
   refine S_val rfl (Pur.vl (p_add64 rfl rfl (by omega))) ?_
   refine S_val rfl (Pur.vl (p_slice rfl Try.underlying132 ty175 rfl rfl (by omega) (by omega) (by omega))) ?_
   refine J_slot (t := 73) (v := .slice (if cap = k + 1 then some ⟨b, o, none⟩ else (some (⟨b, o, none⟩ : Addr)).map (·.add ((k + 1) * 3))) (xs.length - k) (cap - (k + 1))) rfl (by have e : ((k : Int) + 1).toNat = k + 1 := by { omega }; rw [e]; congr 1; omega) ?_
   refine S_val rfl (Pur.vl (p_move rfl)) ?_
   refine S_val rfl (Pur.vl (p_move rfl)) ?_
   refine S_val rfl (Pur.vl (p_slice rfl Try.underlying132 ty175 rfl rfl (by omega) (by omega) (by omega))) ?_
   refine S_nil ?_
   refine L_op (x_copyUp (k0 := k) (xs := xs) rfl rfl Try.underlying132 ty175 PC (by omega) (by omega) rfl ?_)
   refine L_nil ?_
   refine Q_then ?_
   refine J_seq ?_
   refine J_region ?_
   refine L_pur rfl (p_move rfl) ?_
   refine L_pur rfl (p_move rfl) ?_
   refine L_pur rfl (p_slice rfl Try.underlying132 ty175 rfl rfl (by omega) (by omega) (by omega)) ?_
   refine L_pur rfl (p_move rfl) ?_
   refine L_op (x_copyTo (k0 := k) (ys := [c]) rfl rfl Try.underlying132 ty175 PC (fun w H => sep_reads (xs := [c]) HS H) (by simp; omega) (by simp; omega) rfl ?_)
   refine J_rowEq (ys := xs.take k ++ c :: xs.drop k) (ins_here hkl) ?_
   refine L_nil ?_
   refine Q_then ?_
   refine J_seq ?_
   refine J_region ?_
   refine L_pur rfl (p_move rfl) ?_
   refine L_pur rfl (p_assign rfl) ?_
   refine L_nil ?_
   refine Q_then ?_
   refine J_ret ?_
   refine Q_then_ret ?_
   exact J_return (_) Try.results105 (.tmp rfl .nil) rfl SU

end Go.Pse
