/-
  Deadlines put in: contracts.
-/
import Derived.Test.YthjbhkaokjdhmaaGreatC30
import Derived.Test.YthjbhkaokjdhmaaGreatIns
namespace Go.Pse
open Go.RowKit Go.Proofs

/-! ### plain: deadlines -/
def cmpI (a b : Int) : Int := if a < b then -1 else if b < a then 1 else 0
def orI (zs : List Int) : Int := (zs.find? fun z => !decide (z = 0)).getD 0
def ordT (a b : Tm) : Int := orI [cmpI a.1 b.1, cmpI a.2.1 b.2.1, cmpI a.2.2 b.2.2]
def ltI (a b : ID) : Bool := decide (a.1 < b.1) || decide (a.1 = b.1) && decide (a.2 < b.2)
def ltT (a b : Tm) : Bool := decide (a.1 < b.1) || decide (a.1 = b.1) && ltI a.2 b.2
theorem cmpI_cases (a b : Int) : (a < b ∧ cmpI a b = -1) ∨ (b < a ∧ cmpI a b = 1) ∨ (a = b ∧ cmpI a b = 0) := by
  unfold cmpI
  by_cases h1 : a < b
  · exact .inl ⟨h1, by simp [h1]⟩
  · by_cases h2 : b < a
    · exact .inr (.inl ⟨h2, by simp [h1, h2]⟩)
    · exact .inr (.inr ⟨by omega, by simp [h1, h2]⟩)
theorem ordT_neg (a b : Tm) : decide (ordT a b < 0) = ltT a b := by
  unfold ordT ltT ltI orI
  rcases cmpI_cases a.1 b.1 with ⟨h1, e1⟩ | ⟨h1, e1⟩ | ⟨h1, e1⟩ <;> rw [e1]
  · simp [h1]
  · have n1 : ¬ a.1 < b.1 := by omega
    have n2 : ¬ a.1 = b.1 := by omega
    simp [n1, n2]
  · have n1 : ¬ a.1 < b.1 := by omega
    rcases cmpI_cases a.2.1 b.2.1 with ⟨h2, e2⟩ | ⟨h2, e2⟩ | ⟨h2, e2⟩ <;> rw [e2]
    · simp [h1, h2]
    · have m1 : ¬ a.2.1 < b.2.1 := by omega
      have m2 : ¬ a.2.1 = b.2.1 := by omega
      simp [h1, m1, m2]
    · have m1 : ¬ a.2.1 < b.2.1 := by omega
      rcases cmpI_cases a.2.2 b.2.2 with ⟨h3, e3⟩ | ⟨h3, e3⟩ | ⟨h3, e3⟩ <;> rw [e3]
      · simp [h1, h2, h3]
      · have k1 : ¬ a.2.2 < b.2.2 := by omega
        simp [h1, h2, k1]
      · have k1 : ¬ a.2.2 < b.2.2 := by omega
        simp [h1, h2, k1]
theorem ltT_iff {a b : Tm} : ltT a b = true ↔ a.1 < b.1 ∨ (a.1 = b.1 ∧ (a.2.1 < b.2.1 ∨ (a.2.1 = b.2.1 ∧ a.2.2 < b.2.2))) := by
  unfold ltT ltI; simp
theorem ltT_trans {a b c : Tm} (h1 : ltT a b = true) (h2 : ltT b c = true) : ltT a c = true := by
  rw [ltT_iff] at *; omega
theorem ltT_total {a b : Tm} (h : ltT a b = false) (hne : a.2 ≠ b.2) : ltT b a = true := by
  have h' : ¬ ltT a b = true := by simp [h]
  rw [ltT_iff] at *
  have : ¬ (a.2.1 = b.2.1 ∧ a.2.2 = b.2.2) := fun e => hne (Prod.ext e.1 e.2)
  omega
abbrev hdrop (xs : List Tm) (i : ID) : List Tm := xs.filter fun c => !isTm i c
def place (xs : List Tm) (x : Tm) : Nat := (xs.takeWhile fun c => ltT c x).length
def putT (xs : List Tm) (x : Tm) : List Tm := xs.take (place xs x) ++ x :: xs.drop (place xs x)
def hpush (xs : List Tm) (x : Tm) : List Tm := putT (hdrop xs x.2) x
def Srt (xs : List Tm) : Prop := xs.Pairwise fun a b => ltT a b = true
theorem place_le (xs : List Tm) (x : Tm) : place xs x ≤ xs.length := by
  unfold place
  induction xs with
  | nil => simp
  | cons c xs ih => rw [List.takeWhile_cons]; split <;> simp <;> omega
theorem place_iff {x : Tm} : ∀ {xs : List Tm}, Srt xs → ∀ {j : Nat} {c : Tm}, xs[j]? = some c → (ltT c x = true ↔ j < place xs x)
  | [], _, _, _, h => by simp at h
  | a :: xs, hs, j, c, h => by
    have hs' := List.pairwise_cons.1 hs
    unfold place
    rw [List.takeWhile_cons]
    by_cases ha : ltT a x = true
    · rw [if_pos ha]
      cases j with
      | zero => simp at h; subst h; simp [ha]
      | succ j =>
        have := place_iff (x := x) hs'.2 (j := j) (c := c) (by simpa using h)
        unfold place at this
        rw [this]
        simp
    · rw [if_neg ha]
      cases j with
      | zero => simp at h; subst h; simp [ha]
      | succ j =>
        have hc : c ∈ xs := List.mem_of_getElem? (by simpa using h : xs[j]? = some c)
        have h1 := hs'.1 c hc
        constructor
        · intro h2; exact absurd (ltT_trans h1 h2) ha
        · intro h2; simp at h2
theorem place_of {x : Tm} {xs : List Tm} {k : Nat} (hk : k ≤ xs.length) (h1 : ∀ c ∈ xs.take k, ltT c x = true) (h2 : ∀ c, xs[k]? = some c → ltT c x = false) : place xs x = k := by
  induction xs generalizing k with
  | nil => simp at hk; subst hk; rfl
  | cons a xs ih =>
    unfold place
    rw [List.takeWhile_cons]
    cases k with
    | zero => rw [if_neg (by simp [h2 a (by simp)])]; rfl
    | succ k =>
      rw [if_pos (h1 a (by simp))]
      have := ih (k := k) (by simpa using hk) (fun c hc => h1 c (by simp [hc])) (fun c hc => h2 c (by simpa using hc))
      unfold place at this
      simp [this]
theorem Srt.drop {xs : List Tm} (h : Srt xs) (i : ID) : Srt (hdrop xs i) := List.Pairwise.sublist List.filter_sublist h
theorem Srt.tail {xs : List Tm} (h : Srt xs) (j : Nat) : Srt (xs.drop j) := List.Pairwise.sublist (List.drop_sublist j xs) h
theorem hdrop_ne {xs : List Tm} {i : ID} {c : Tm} (h : c ∈ hdrop xs i) : c.2 ≠ i := by
  unfold hdrop at h
  rw [List.mem_filter, isTm_eq] at h
  simpa using h.2
theorem Srt.put {xs : List Tm} {x : Tm} (h : Srt xs) (hne : ∀ c ∈ xs, c.2 ≠ x.2) : Srt (putT xs x) := by
  have hi := fun {j : Nat} {c : Tm} => place_iff (x := x) h (j := j) (c := c)
  unfold putT Srt
  have hle := place_le xs x
  have hta : ∀ a ∈ xs.take (place xs x), ltT a x = true := fun a ha => by
    obtain ⟨j, hj⟩ := List.mem_iff_getElem?.1 ha
    rw [List.getElem?_take] at hj
    split at hj
    · exact (hi hj).2 (by assumption)
    · cases hj
  have hdr : ∀ b ∈ xs.drop (place xs x), ltT x b = true := fun b hb => by
    obtain ⟨j, hj⟩ := List.mem_iff_getElem?.1 hb
    rw [List.getElem?_drop] at hj
    have hn : ¬ ltT b x = true := fun e => by have := (hi hj).1 e; omega
    exact ltT_total (by simpa using hn) (hne b (List.mem_of_getElem? hj))
  rw [List.pairwise_append]
  refine ⟨List.Pairwise.sublist (List.take_sublist _ _) h, ?_, ?_⟩
  · rw [List.pairwise_cons]
    exact ⟨hdr, List.Pairwise.sublist (List.drop_sublist _ _) h⟩
  · intro a ha b hb
    rcases List.mem_cons.1 hb with rfl | hb
    · exact hta a ha
    · exact ltT_trans (hta a ha) (hdr b hb)
theorem Srt.push {xs : List Tm} (h : Srt xs) (x : Tm) : Srt (hpush xs x) := (h.drop x.2).put fun _ hc => hdrop_ne hc
theorem hdrop_len (xs : List Tm) (i : ID) : (hdrop xs i).length ≤ xs.length := List.length_filter_le _ _
theorem putT_len (xs : List Tm) (x : Tm) : (putT xs x).length = xs.length + 1 := by
  have := place_le xs x
  unfold putT; simp; omega
theorem hpush_len (xs : List Tm) (x : Tm) : (hpush xs x).length ≤ xs.length + 1 := by unfold hpush; rw [putT_len]; have := hdrop_len xs x.2; omega
def due (xs : List Tm) (now : Int) : List Tm := xs.takeWhile fun c => decide (c.1 ≤ now)
def late (xs : List Tm) (now : Int) : List Tm := xs.dropWhile fun c => decide (c.1 ≤ now)
theorem due_len (xs : List Tm) (now : Int) : (due xs now).length + (late xs now).length = xs.length := by
  rw [← List.length_append]; unfold due late; rw [List.takeWhile_append_dropWhile]
theorem due_at {xs : List Tm} {now : Int} {k : Nat} (hk : k ≤ xs.length) (h1 : ∀ c ∈ xs.take k, c.1 ≤ now) (h2 : ∀ c, xs[k]? = some c → ¬ c.1 ≤ now) : due xs now = xs.take k ∧ late xs now = xs.drop k := by
 induction xs generalizing k with
 | nil => simp at hk; subst hk; exact ⟨rfl, rfl⟩
 | cons a xs ih =>
  unfold due late
  rw [List.takeWhile_cons, List.dropWhile_cons]
  cases k with
  | zero =>
   have := h2 a (by simp)
   simp [this]
  | succ k =>
   have ha := h1 a (by simp)
   obtain ⟨g1, g2⟩ := ih (k := k) (by simpa using hk) (fun c hc => h1 c (by simp [hc])) (fun c hc => h2 c (by simpa using hc))
   unfold due at g1
   unfold late at g2
   simp [ha, g1, g2]

set_option maxRecDepth 100000 in
set_option maxHeartbeats 4000000 in
theorem isnan110 {E : World} {l : List As} (a : Int) :
    Con Tryz.prog 110 #[.int .u64 a] E l (fun _ : Unit => .bool false) (fun _ => l) := by
  refine Con.body (vs := [.int .u64 a]) (n := 6) Tryz.func110 rfl rfl [(0, .int .u64 a)] (env_ok 1 rfl) <| sr <| ag rfl rfl <| nx <| mv rfl rfl <| mv rfl rfl <| L_pur rfl (p_neq rfl rfl) <| ag rfl rfl ?_
  refine nq <| J_ret ?_
  refine J_return (()) Tryz.results110 (.tmp rfl .nil) ?_ ?_
  · simp [one]
  · exact SU

set_option maxRecDepth 100000 in
set_option maxHeartbeats 4000000 in
theorem isnan71 {E : World} {l : List As} (a : Int) :
    Con Tryz.prog 71 #[.int .i64 a] E l (fun _ : Unit => .bool false) (fun _ => l) := by
  refine Con.body (vs := [.int .i64 a]) (n := 6) Tryz.func71 rfl rfl [(0, .int .i64 a)] (env_ok 1 rfl) <| sr <| ag rfl rfl <| nx <| mv rfl rfl <| mv rfl rfl <| L_pur rfl (p_neq rfl rfl) <| ag rfl rfl ?_
  refine nq <| J_ret ?_
  refine J_return (()) Tryz.results71 (.tmp rfl .nil) ?_ ?_
  · simp [one]
  · exact SU

set_option maxRecDepth 100000 in
set_option maxHeartbeats 4000000 in
theorem compare75 {E : World} {l : List As} (a b : Int) :
    Con Tryz.prog 75 #[.int .u64 a, .int .u64 b] E l (fun _ : Unit => .int .i64 (cmpI a b)) (fun _ => l) := by
  refine Con.body (vs := [.int .u64 a, .int .u64 b]) (n := 20) Tryz.func75 rfl rfl [(0, .int .u64 a), (1, .int .u64 b)] (env_ok 2 rfl) <| sr <| ag rfl rfl <| nx <| mv rfl rfl <| L_op <| x_call Tryz.func110 nm110 bd110 (.cons rfl .nil) rfl (isnan110 _) fun _ => ag rfl rfl ?_
  refine nx <| mv rfl rfl <| L_op <| x_call Tryz.func110 nm110 bd110 (.cons rfl .nil) rfl (isnan110 _) fun _ => ag rfl rfl <| nxx <| mv rfl rfl <| nq ?_
  refine J_bool (t := 11) (c := false) rfl (rfl) <| C_false rfl <| J_skip <| Q_then <| J_seq <| sr <| mv rfl rfl <| nq ?_
  refine J_bool (t := 13) (c := false) rfl (rfl) <| C_false rfl <| J_skip <| Q_then <| J_seq <| sr <| mv rfl rfl <| mv rfl rfl ?_
  refine L_pur rfl (p_lss rfl rfl) <| nq ?_
  refine C_dec rfl (fun h16 => ?_) (fun h16 => ?_)
  ·
    refine sr <| ag rfl rfl <| nq <| J_ret <| Q_then_ret ?_
    refine J_return (()) Tryz.results75 (.tmp rfl .nil) ?_ ?_
    · simp [one, cmpI, h16]
    · exact SU
  ·
    refine J_skip <| Q_then <| J_seq <| sr <| mv rfl rfl <| mv rfl rfl <| L_pur rfl (p_gtr rfl rfl) <| nq ?_
    refine C_dec rfl (fun h19 => ?_) (fun h19 => ?_)
    ·
      refine sr <| ag rfl rfl <| nq <| J_ret <| Q_then_ret ?_
      refine J_return (()) Tryz.results75 (.tmp rfl .nil) ?_ ?_
      · simp [one, cmpI, h16, h19]
      · exact SU
    ·
      refine J_skip <| qx <| ag rfl rfl <| nq <| J_ret ?_
      refine J_return (()) Tryz.results75 (.tmp rfl .nil) ?_ ?_
      · simp [one, cmpI, h16, h19]
      · exact SU

set_option maxRecDepth 100000 in
set_option maxHeartbeats 4000000 in
theorem compare45 {E : World} {l : List As} (a b : Int) :
    Con Tryz.prog 45 #[.int .i64 a, .int .i64 b] E l (fun _ : Unit => .int .i64 (cmpI a b)) (fun _ => l) := by
  refine Con.body (vs := [.int .i64 a, .int .i64 b]) (n := 20) Tryz.func45 rfl rfl [(0, .int .i64 a), (1, .int .i64 b)] (env_ok 2 rfl) <| sr <| ag rfl rfl <| nx <| mv rfl rfl <| L_op <| x_call Tryz.func71 nm71 bd71 (.cons rfl .nil) rfl (isnan71 _) fun _ => ag rfl rfl ?_
  refine nx <| mv rfl rfl <| L_op <| x_call Tryz.func71 nm71 bd71 (.cons rfl .nil) rfl (isnan71 _) fun _ => ag rfl rfl <| nxx <| mv rfl rfl <| nq ?_
  refine J_bool (t := 11) (c := false) rfl (rfl) <| C_false rfl <| J_skip <| Q_then <| J_seq <| sr <| mv rfl rfl <| nq ?_
  refine J_bool (t := 13) (c := false) rfl (rfl) <| C_false rfl <| J_skip <| Q_then <| J_seq <| sr <| mv rfl rfl <| mv rfl rfl ?_
  refine L_pur rfl (p_lss rfl rfl) <| nq ?_
  refine C_dec rfl (fun h16 => ?_) (fun h16 => ?_)
  ·
    refine sr <| ag rfl rfl <| nq <| J_ret <| Q_then_ret ?_
    refine J_return (()) Tryz.results45 (.tmp rfl .nil) ?_ ?_
    · simp [one, cmpI, h16]
    · exact SU
  ·
    refine J_skip <| Q_then <| J_seq <| sr <| mv rfl rfl <| mv rfl rfl <| L_pur rfl (p_gtr rfl rfl) <| nq ?_
    refine C_dec rfl (fun h19 => ?_) (fun h19 => ?_)
    ·
      refine sr <| ag rfl rfl <| nq <| J_ret <| Q_then_ret ?_
      refine J_return (()) Tryz.results45 (.tmp rfl .nil) ?_ ?_
      · simp [one, cmpI, h16, h19]
      · exact SU
    ·
      refine J_skip <| qx <| ag rfl rfl <| nq <| J_ret ?_
      refine J_return (()) Tryz.results45 (.tmp rfl .nil) ?_ ?_
      · simp [one, cmpI, h16, h19]
      · exact SU

set_option maxRecDepth 100000 in
set_option maxHeartbeats 4000000 in
theorem orInts {E : World} {l : List As} {v : Value} {zs : List Int} (hr : ∀ w, Sep E w l → Reads w 1 v (zs.map encZ)) (hb : zs.length ≤ 1000) :
    Con Tryz.prog 74 #[v] E l (fun _ : Unit => .int .i64 (orI zs)) (fun _ => l) := by
  refine Con.body (vs := [v]) (n := 18) Tryz.func74 rfl rfl [(0, v)] (env_ok 1 rfl) <| J_readsB hr fun hw a cap hv h1 h2 h3 => ?_
  subst hv
  have hm : cap ≤ 9223372036854775807 := h2
  have hml : (zs.map encZ).length = zs.length := List.length_map _
  refine sr <| ag rfl rfl <| nx <| ag rfl rfl <| nxx <| mv rfl rfl <| L_pur rfl (p_len rfl Tryz.underlying58) <| mv rfl rfl ?_
  refine nq <| J_block <| J_loop (α := Nat) (fun k => k ≤ zs.length ∧ ∀ c ∈ zs.take k, (!decide (c = 0)) = false) (fun _ => l) (fun k => [(8, .int .i64 (k : Int)), (7, .int .i64 (zs.map encZ).length), (6, .slice a (zs.map encZ).length cap), (3, .int .i64 0)]) (fun k => zs.length - k) 0 ⟨by omega, by simp⟩ SU KE ?_
  intro k ⟨hk, hq⟩
  refine sr <| L_pur rfl (p_lss rfl rfl) <| nq <| J_seq ?_
  refine C_dec rfl (fun h9 => ?_) (fun h9 => ?_)
  ·
    have hlt : k < zs.length := by omega
    obtain ⟨bx, ox, rfl⟩ := h3 (by intro h; rw [h] at hml; simp at hml; omega)
    obtain ⟨c, hcc⟩ : ∃ c, zs[k]? = some c := ⟨_, List.getElem?_eq_getElem hlt⟩
    refine J_skip <| Q_then <| J_seq <| J_block <| sr <| L_pur rfl (p_indexAddr rfl rfl Tryz.underlying58 ty3 (by omega) (by omega)) ?_
    refine L_val rfl (by first | exact v_loadE1 rfl ty3 HS (by first | (simp only [Int.toNat_natCast, List.getElem?_map, hcc]; rfl) | (simp only [Int.toNat_natCast, List.getElem?_map, hcd]; rfl) | simp | rfl) | exact v_loadR1 rfl ty3 (fun w H => hr w (Sub.sep SU H)) (by first | (simp only [Int.toNat_natCast, List.getElem?_map, hcc]; rfl) | (simp only [Int.toNat_natCast, List.getElem?_map, hcd]; rfl) | simp | rfl)) ?_
    refine ag rfl rfl <| nx <| mv rfl rfl <| mv rfl rfl <| L_pur rfl (p_neq rfl rfl) <| nq ?_
    refine C_dec rfl (fun h14 => ?_) (fun h14 => ?_)
    ·
      have hor : orI zs = c := by
        unfold orI
        have e : zs = zs.take k ++ c :: zs.drop (k + 1) := by
          conv => lhs; rw [← List.take_append_drop k zs, List.drop_eq_getElem_cons hlt, (List.getElem?_eq_some_iff.1 hcc).2]
        rw [e, List.find?_append, List.find?_eq_none.2 (fun x hx => by simpa using hq x hx), List.find?_cons]
        simp [h14]
      refine sr <| mv rfl rfl <| ag rfl rfl <| nq <| J_ret <| Q_blk_ret <| Q_then_ret <| Q_then_ret ?_
      refine Q_blk_ret <| Q_then_ret ?_
      refine J_return (()) Tryz.results74 (.tmp rfl .nil) ?_ ?_
      · simp [one, hor]
      · exact SU
    ·
      refine J_skip <| Q_blk_normal <| qr <| L_pur rfl (p_add64 rfl rfl (by omega)) <| mv rfl rfl <| nq ?_
      exact J_again (k + 1) (by omega) (⟨by omega, fun c hc => by rw [List.take_add_one, hcc] at hc; rcases List.mem_append.1 hc with h | h; exact hq c h; simp at h; subst h; simpa using h14⟩) SU KE
  ·
    have hke : k = zs.length := by omega
    rw [hke, List.take_length] at hq
    have hor : orI zs = 0 := by
      unfold orI
      rw [List.find?_eq_none.2 (fun x hx => by simpa using hq x hx)]; rfl
    refine J_exit <| Q_then_exit <| Q_then_exit <| Q_blk_this <| qx <| mv rfl rfl <| ag rfl rfl <| nq ?_
    refine J_ret ?_
    refine J_return (()) Tryz.results74 (.tmp rfl .nil) ?_ ?_
    · simp [one, hor]
    · exact SU

set_option maxRecDepth 100000 in
set_option maxHeartbeats 4000000 in
theorem order {E : World} {l : List As} (a b : Tm) :
  Con Tryz.prog 49 #[.agg (encT a).toArray, .agg (encT b).toArray] E l (fun _ : Unit => .int .i64 (ordT a b)) (fun _ => l) := by
 refine Con.body (vs := [.agg (encT a).toArray, .agg (encT b).toArray]) (n := 26) Tryz.func49 rfl rfl [(0, .agg (encT a).toArray), (1, .agg (encT b).toArray)] (env_ok 2 rfl) <| sr <| L_op <| x_box rfl rfl rfl fun b2 => L_op <| x_box rfl rfl rfl fun b3 => ag rfl rfl <| nq ?_
 refine J_seq <| J_drawI none [blk b2 140 (encT a), blk b3 140 (encT b)] mixed <| ip 0 rfl rfl rfl rfl (p_fieldAddr rfl fa140_0) <| iv 1 rfl rfl rfl rfl (fun _ => v_load rfl ty62 HS (by exact rfl)) ?_
 refine ip 2 rfl rfl rfl rfl (p_fieldAddr rfl fa140_0) <| iv 3 rfl rfl rfl rfl (fun _ => v_load rfl ty62 HS (by exact rfl)) ?_
 refine ip 5 rfl rfl rfl rfl (p_fieldAddr rfl fa140_1) <| ip 6 rfl rfl rfl rfl (p_fieldAddr rfl fa36_0) <| iv 7 rfl rfl rfl rfl (fun _ => v_load rfl ty3 HS (by exact rfl)) ?_
 refine ip 8 rfl rfl rfl rfl (p_fieldAddr rfl fa140_1) <| ip 9 rfl rfl rfl rfl (p_fieldAddr rfl fa36_0) <| iv 10 rfl rfl rfl rfl (fun _ => v_load rfl ty3 HS (by exact rfl)) ?_
 refine ip 12 rfl rfl rfl rfl (p_fieldAddr rfl fa140_1) <| ip 13 rfl rfl rfl rfl (p_fieldAddr rfl fa36_1) <| iv 14 rfl rfl rfl rfl (fun _ => v_load rfl ty3 HS (by exact rfl)) ?_
 refine ip 15 rfl rfl rfl rfl (p_fieldAddr rfl fa140_1) <| ip 16 rfl rfl rfl rfl (p_fieldAddr rfl fa36_1) <| iv 17 rfl rfl rfl rfl (fun _ => v_load rfl ty3 HS (by exact rfl)) ?_
 refine i1 4 rfl <| x_call Tryz.func75 nm75 bd75 (.cons rfl (.cons rfl .nil)) rfl (compare75 _ _) fun _ => i1 11 rfl <| x_call Tryz.func45 nm45 bd45 (.cons rfl (.cons rfl .nil)) rfl (compare45 _ _) fun _ => i1 18 rfl <| x_call Tryz.func45 nm45 bd45 (.cons rfl (.cons rfl .nil)) rfl (compare45 _ _) fun _ => i1 19 rfl <| x_lit (vals := [_, _, _]) Tryz.underlying58 ty3 rfl (.cons rfl (.cons rfl (.cons rfl .nil))) (.one rfl (.one rfl (.one rfl .nil))) (Wf.cons rfl rfl (Wf.cons rfl rfl (Wf.cons rfl rfl Wf.nil))) rfl (by decide) rfl rfl fun v24 => ?_
 refine J_rowEq (ys := [cmpI a.1 b.1, cmpI a.2.1 b.2.1, cmpI a.2.2 b.2.2].map encZ) (rfl) <| J_row .here fun hw24 a24 c24 hv24 hl24 hm24 hz24 => ?_
 subst hv24
 refine i1 20 rfl <| x_call Tryz.func74 nm74 bd74 (.cons rfl .nil) rfl (orInts (zs := [cmpI a.1 b.1, cmpI a.2.1 b.2.1, cmpI a.2.2 b.2.2]) (fun w H => sep_reads (xs := [cmpI a.1 b.1, cmpI a.2.1 b.2.1, cmpI a.2.2 b.2.2].map encZ) HS H) (by simp)) fun _ => ?_
 refine ip 21 rfl rfl rfl rfl (p_assign rfl) <| i0 <| Q_then <| J_ret ?_
 exact J_return (()) Tryz.results49 (.tmp rfl .nil) rfl SU

set_option maxRecDepth 100000 in
set_option maxHeartbeats 4000000 in
theorem bsearch {E : World} {l : List As} {v : Value} {xs : List Tm} {x : Tm} {k : Nat} (hv : Has (row 140 3 v (xs.map encT)) l) (hb : xs.length ≤ 100000) (hk : k ≤ xs.length) (hi : ∀ j c, xs[j]? = some c → (ltT c x = true ↔ j < k)) :
  Con Tryz.prog 48 #[v, .agg (encT x).toArray, .func (.func 49) #[] #[]] E l (fun q : Bool => .tuple #[.int .i64 (k : Int), .bool q]) (fun _ => l) := by
 refine Con.body (vs := [v, .agg (encT x).toArray, .func (.func 49) #[] #[]]) (n := 49) Tryz.func48 rfl rfl [(0, v), (1, .agg (encT x).toArray), (2, .func (.func 49) #[] #[])] (env_ok 3 rfl) <| J_row hv fun hw a cap hv h1 h2 h3 => ?_
 subst hv
 have hm : cap ≤ 9223372036854775807 := h2
 have hml : (xs.map encT).length = xs.length := List.length_map _
 refine sr <| L_op <| x_box rfl rfl rfl fun b4 => ag rfl rfl <| ag rfl rfl <| nx <| mv rfl rfl <| L_pur rfl (p_len rfl Tryz.underlying111) ?_
 refine ag rfl rfl <| nx <| mv rfl rfl <| ag rfl rfl <| ag rfl rfl <| nq <| J_seq <| J_block ?_
 refine J_loop2 (fun lo hi => lo ≤ k ∧ k ≤ hi ∧ hi ≤ xs.length) (fun _ _ => blk b4 140 (encT x) :: l) (fun lo hi => [(9, .int .i64 (lo : Int)), (10, .int .i64 (hi : Int)), (8, .int .i64 (xs.map encT).length), (0, .slice a (xs.map encT).length cap), (2, .func (.func 49) #[] #[]), (4, .pointer (some ⟨b4, 0, none⟩))]) (fun lo hi => hi - lo) 0 (xs.map encT).length ⟨by omega, by omega, by omega⟩ SU KE ?_
 intro lo hi2 ⟨hl1, hl2, hl3⟩
 refine J_seq <| sr <| mv rfl rfl <| mv rfl rfl <| L_pur rfl (p_lss rfl rfl) <| nq ?_
 refine C_dec rfl (fun h17 => ?_) (fun h17 => ?_)
 ·
  obtain ⟨q, hq⟩ : ∃ q, q = (lo + hi2) / 2 := ⟨_, rfl⟩
  have hlt : q < xs.length := by omega
  obtain ⟨bx, ox, rfl⟩ := h3 (by intro h; rw [h] at hml; simp at hml; omega)
  obtain ⟨c, hcc⟩ : ∃ c, xs[q]? = some c := ⟨_, List.getElem?_eq_getElem hlt⟩
  refine J_skip <| Q_then <| J_block <| sr <| mv rfl rfl <| mv rfl rfl <| L_pur rfl (p_add64 rfl rfl (by omega)) <| L_pur rfl (p_conv rfl Tryz.underlying3 Tryz.underlying183) ?_
  refine J_slot (t := 21) (v := .int .u64 ((lo + hi2 : Nat) : Int)) rfl (by rw [wrap64u_of ⟨by omega, by omega⟩]; simp) <| L_pur rfl (p_shr rfl rfl (by decide) (by decide)) <| J_slot (t := 22) (v := .int .u64 (q : Int)) rfl (by rw [hq]; congr 1) <| L_pur rfl (p_conv rfl Tryz.underlying183 Tryz.underlying3) <| J_slot (t := 23) (v := .int .i64 (q : Int)) rfl (by rw [wrap64_of ⟨by omega, by omega⟩]) <| ag rfl rfl <| nq <| J_seq ?_
  refine J_drawT 6 mixed (by kernel_rfl) <| sm rfl rfl <| sm rfl rfl <| sm rfl rfl <| sp rfl (p_indexAddr rfl rfl Tryz.underlying111 ty140 (by omega) (by omega)) ?_
  refine S_val rfl (v_loadE rfl ty140 HS (by first | (simp only [Int.toNat_natCast, List.getElem?_map, hcc]; rfl) | (simp only [Int.toNat_natCast, List.getElem?_map, hcd]; rfl) | simp | rfl)) ?_
  refine S_val rfl (v_loadA rfl ty140 HS CT) ?_
  refine S_nil <| L_op <| x_callc rfl Tryz.func49 nm49 bd49 (.cons rfl (.cons rfl .nil)) rfl (order c x) fun _ => L_pur rfl (p_lss rfl rfl) <| nq ?_
  refine C_dec rfl (fun h31 => ?_) (fun h31 => ?_)
  ·
   have hqk := (hi q c hcc).1 (by rw [← ordT_neg]; simpa using h31)
   refine J_region <| mv rfl rfl <| L_pur rfl (p_add64 rfl rfl (by omega)) <| ag rfl rfl <| L_nil <| Q_blk_normal <| Q_then ?_
   
   exact J_again2 (q + 1) hi2 (by omega) (⟨by omega, hl2, hl3⟩) SU KE
  ·
   have hqk : ¬ q < k := fun h => h31 (by have := (hi q c hcc).2 h; rw [← ordT_neg] at this; simpa using this)
   refine J_region <| mv rfl rfl <| ag rfl rfl <| L_nil <| Q_blk_normal <| Q_then ?_
   
   exact J_again2 lo q (by omega) (⟨hl1, by omega, by omega⟩) SU KE
 ·
  have hlk : lo = k := by omega
  subst hlk
  refine J_exit <| Q_then_exit <| Q_then_exit <| Q_blk_this <| Q_then <| J_seq <| J_drawI none [blk b4 140 (encT x)] mixed <| ip 0 rfl rfl rfl rfl (p_move rfl) ?_
  refine ip 1 rfl rfl rfl rfl (p_move rfl) <| ip 2 rfl rfl rfl rfl (p_move rfl) <| ip 3 rfl rfl rfl rfl (p_lss rfl rfl) <| ip 4 rfl rfl rfl rfl (p_move rfl) ?_
  refine J_gsplit (t := 39) rfl (fun h39 => ?_) (fun h39 => ?_)
  ·
   have hlt : lo < xs.length := by simp at h39; omega
   obtain ⟨bx, ox, rfl⟩ := h3 (by intro h; rw [h] at hml; simp at hml; omega)
   obtain ⟨c, hcc⟩ : ∃ c, xs[lo]? = some c := ⟨_, List.getElem?_eq_getElem hlt⟩
   refine I_takeOn (i := 5) rfl rfl rfl rfl rfl rfl rfl (by kernel_rfl) (fun _ _ _ _ h => h) (fun _ => Pur.vl (p_move rfl)) <| I_takeOn (i := 6) rfl rfl rfl rfl rfl rfl rfl (by kernel_rfl) (fun _ _ _ _ h => h) (fun _ => Pur.vl (p_move rfl)) <| I_takeOn (i := 7) rfl rfl rfl rfl rfl rfl rfl (by kernel_rfl) (fun _ _ _ _ h => h) (fun _ => Pur.vl (p_move rfl)) <| I_takeOn (i := 8) rfl rfl rfl rfl rfl rfl rfl (by kernel_rfl) (fun _ _ _ _ h => h) (fun _ => Pur.vl (p_indexAddr rfl rfl Tryz.underlying111 ty140 (by omega) (by omega))) <| I_takeOn (i := 10) rfl rfl rfl rfl rfl rfl rfl (by kernel_rfl) (fun _ _ _ _ h => h) (fun _ => v_loadA rfl ty140 HS CT) ?_
   refine i1 9 rfl <| G_on rfl rfl rfl ?_
   refine J_val (v_loadE rfl ty140 HS (by first | (simp only [Int.toNat_natCast, List.getElem?_map, hcc]; rfl) | (simp only [Int.toNat_natCast, List.getElem?_map, hcd]; rfl) | simp | rfl)) rfl rfl rfl ?_
   refine i1 11 rfl <| G_on rfl rfl rfl <| x_callc rfl Tryz.func49 nm49 bd49 (.cons rfl (.cons rfl .nil)) rfl (order c x) fun _ => I_takeOn (i := 12) rfl rfl rfl rfl rfl rfl rfl (by kernel_rfl) (fun _ _ _ _ h => h) (fun _ => Pur.vl (p_eql rfl rfl)) <| ip 13 rfl rfl rfl rfl (p_pick_t rfl rfl) <| ip 14 rfl rfl rfl rfl (p_assign rfl) <| ip 15 rfl rfl rfl rfl (p_assign rfl) <| i0 ?_
   refine Q_then <| J_ret ?_
   exact J_return (_) Tryz.results48 (.tmp rfl (.tmp rfl .nil)) rfl SU
  ·
   refine I_takeOff (i := 5) rfl rfl rfl rfl rfl rfl rfl rfl (by kernel_rfl) (fun _ _ _ _ h => h) <| I_takeOff (i := 6) rfl rfl rfl rfl rfl rfl rfl rfl (by kernel_rfl) (fun _ _ _ _ h => h) <| I_takeOff (i := 7) rfl rfl rfl rfl rfl rfl rfl rfl (by kernel_rfl) (fun _ _ _ _ h => h) <| I_takeOff (i := 8) rfl rfl rfl rfl rfl rfl rfl rfl (by kernel_rfl) (fun _ _ _ _ h => h) <| I_takeOff (i := 9) rfl rfl rfl rfl rfl rfl rfl rfl (by kernel_rfl) (fun _ _ _ _ h => h) <| I_takeOff (i := 10) rfl rfl rfl rfl rfl rfl rfl rfl (by kernel_rfl) (fun _ _ _ _ h => h) <| I_takeOff (i := 11) rfl rfl rfl rfl rfl rfl rfl rfl (by kernel_rfl) (fun _ _ _ _ h => h) <| I_takeOff (i := 12) rfl rfl rfl rfl rfl rfl rfl rfl (by kernel_rfl) (fun _ _ _ _ h => h) ?_
   refine ip 13 rfl rfl rfl rfl (p_pick_f rfl rfl) <| ip 14 rfl rfl rfl rfl (p_assign rfl) <| ip 15 rfl rfl rfl rfl (p_assign rfl) <| i0 <| Q_then <| J_ret ?_
   exact J_return (_) Tryz.results48 (.tmp rfl (.tmp rfl .nil)) rfl SU

theorem ins_new {α : Type} {xs : List α} {c z : α} {k : Nat} (h : k < xs.length) :
    ((((xs.take k ++ List.replicate (xs.length + 1 - k) z).take k ++ [c] ++ (xs.take k ++ List.replicate (xs.length + 1 - k) z).drop (k + 1)).take (k + 1)) ++ xs.drop k ++ (((xs.take k ++ List.replicate (xs.length + 1 - k) z).take k ++ [c] ++ (xs.take k ++ List.replicate (xs.length + 1 - k) z).drop (k + 1)).drop (k + 1 + (xs.drop k).length))) = xs.take k ++ c :: xs.drop k := by
  have hl : (xs.take k).length = k := by simp; omega
  have e1 : (xs.take k ++ List.replicate (xs.length + 1 - k) z).take k = xs.take k := by
    exact List.take_left' hl
  rw [e1]
  have hl2 : (xs.take k ++ [c]).length = k + 1 := by simp; omega
  have e2 : ∀ R : List α, (xs.take k ++ [c] ++ R).take (k + 1) = xs.take k ++ [c] := fun R => List.take_left' hl2
  rw [e2, show List.drop (k + 1 + (xs.drop k).length) _ = [] from List.drop_of_length_le (by simp; omega)]
  simp
theorem ins_here {α : Type} {xs : List α} {c : α} {k : Nat} (h : k < xs.length) : (xs.take (k + 1) ++ xs.drop k).take k ++ [c] ++ (xs.take (k + 1) ++ xs.drop k).drop (k + 1) = xs.take k ++ c :: xs.drop k := by
  have hl : (xs.take (k + 1)).length = k + 1 := by simp; omega
  have e1 : (xs.take (k + 1) ++ xs.drop k).take k = xs.take k := by
    rw [List.take_append_of_le_length (by omega), List.take_take]
    congr 1; omega
  have e2 : (xs.take (k + 1) ++ xs.drop k).drop (k + 1) = xs.drop k := by
    exact List.drop_left' hl
  rw [e1, e2]; simp

set_option maxRecDepth 100000 in
set_option maxHeartbeats 4000000 in
theorem insert1 {E : World} {l m : List As}{m1 : List As} {v u : Value} {xs : List (List Value)} {c : List Value} {k : Nat} (hp1 : Pick (row 140 3 u [c]) l m1) (hp2 : Pick (row 140 3 v xs) m1 m) (hb : xs.length ≤ 100000) (hk : k ≤ xs.length) :
  Con Tryz.prog 50 #[v, .int .i64 (k : Int), u] E l (fun v' : Value => v') (fun v' => row 140 3 v' (xs.take k ++ c :: xs.drop k) :: m) := by
 refine Con.body (vs := [v, .int .i64 (k : Int), u]) (n := 95) Tryz.func50 rfl rfl [(0, v), (1, .int .i64 (k : Int)), (2, u)] (env_ok 3 rfl) <| J_pick hp1 <| J_pick (.there hp2) <| J_row .here fun hw a cap hv h1 h2 h3 => ?_
 subst hv
 have hm : cap ≤ 9223372036854775807 := h2
 refine J_row (.there .here) fun hw' a' cap' hv' h1' h2' h3' => ?_
 subst hv'
 refine sr <| ag rfl rfl <| nx <| mv rfl rfl <| mv rfl rfl <| L_pur rfl (p_slice rfl Tryz.underlying111 ty140 rfl rfl (by omega) (by omega) (by omega)) <| nx <| mv rfl rfl ?_
 refine L_pur rfl (p_len rfl Tryz.underlying111) <| J_slot (t := 14) (v := .int .i64 1) rfl rfl <| ag rfl rfl <| nxx <| mv rfl rfl <| L_pur rfl (p_eql rfl rfl) <| nq <| J_bool (t := 16) (c := false) rfl (by simp) ?_
 refine C_false rfl <| J_skip <| qx <| mv rfl rfl <| L_pur rfl (p_len rfl Tryz.underlying111) <| ag rfl rfl <| nxx <| mv rfl rfl ?_
 refine mv rfl rfl <| L_pur rfl (p_eql rfl rfl) <| nq ?_
 refine C_dec rfl (fun h22 => ?_) (fun h22 => ?_)
 ·
  have hkl : k = xs.length := by omega
  refine sr <| mv rfl rfl <| mv rfl rfl <| L_op <| x_app rfl rfl Tryz.underlying111 ty140 rfl rfl PC (fun w H => sep_reads (xs := [c]) HS H) (OM) (OM) rfl <| JE (xs.take k ++ c :: xs.drop k) (by rw [hkl]; simp) fun a25 c25 hw25 hl25 hm25 hz25 => ag rfl rfl <| nq ?_
  refine J_ret <| Q_then_ret ?_
  exact J_return (_) Tryz.results50 (.tmp rfl .nil) rfl SU
 ·
  have hkl : k < xs.length := by omega
  obtain ⟨b, o, rfl⟩ := h3 (by intro h; rw [h] at hkl; simp at hkl)
  obtain ⟨ub, uo, rfl⟩ := h3' (by simp)
  refine J_skip <| Q_then <| J_seq <| sr <| mv rfl rfl <| mv rfl rfl <| L_pur rfl (p_add64 rfl rfl (by omega)) <| mv rfl rfl ?_
  refine L_pur rfl (p_cap rfl Tryz.underlying111) <| L_pur rfl (p_gtr rfl rfl) <| nq ?_
  refine C_dec rfl (fun h31 => ?_) (fun h31 => ?_)
  ·
   refine sr <| mv rfl rfl <| mv rfl rfl <| L_pur rfl (p_slice rfl Tryz.underlying111 ty140 rfl rfl (by omega) (by omega) (by omega)) <| J_slot (t := 34) (v := .slice (some ⟨b, o, none⟩) k cap) rfl (by simp [Addr.add]) <| mv rfl rfl <| mv rfl rfl <| L_pur rfl (p_add64 rfl rfl (by omega)) ?_
   refine mv rfl rfl <| L_pur rfl (p_sub64 rfl rfl (by omega)) <| J_slot (t := 39) (v := .int .i64 ((xs.length + 1 - k : Nat) : Int)) rfl (by congr 1; omega) <| L_op <| x_appMake (i := k) (z0 := xs.length + 1 - k) (xs := xs.take k) rfl rfl Tryz.underlying111 Tryz.underlying3 ty140 rfl rfl rfl (fun w H => Reads.take (i := k) (sep_reads (xs := xs) HS H) (by omega)) (by first | omega | (simp at h31; omega)) (by omega) (by omega) (by omega) rfl <| JR fun a40 c40 hw40 hl40 hm40 hz40 => ?_
   obtain ⟨b4, o4, rfl⟩ := hz40 (by intro h; have := congrArg List.length h; simp at this; omega)
   refine ag rfl rfl <| nx <| mv rfl rfl <| mv rfl rfl <| L_pur rfl (p_slice rfl Tryz.underlying111 ty140 rfl rfl (by omega) (by simp; omega) (by simp at hl40 ⊢; omega)) <| mv rfl rfl <| L_op <| x_copyTo (k0 := k) (ys := [c]) rfl rfl Tryz.underlying111 ty140 PC (fun w H => sep_reads (xs := [c]) HS H) (by simp; omega) (by simp; omega) rfl ?_
   refine nq <| J_seq <| J_drawT 8 mixed (by kernel_rfl) <| sm rfl rfl <| sm rfl rfl <| sm rfl rfl <| sp rfl (p_add64 rfl rfl (by omega)) <| sp rfl (p_slice rfl Tryz.underlying111 ty140 rfl rfl (by omega) (by simp; omega) (by simp at hl40 ⊢; omega)) ?_
   refine sm rfl rfl <| sm rfl rfl <| sp rfl (p_slice rfl Tryz.underlying111 ty140 rfl rfl (by omega) (by omega) (by omega)) <| S_nil <| L_op <| x_copyTo (k0 := k + 1) (ys := xs.drop k) rfl rfl Tryz.underlying111 ty140 PC (fun w H => Reads.drop (a0 := some ⟨b, o, none⟩) (len := xs.length) (cap := cap) (lo := k) (sep_reads (xs := xs) HS H) (by omega)) (by simp; omega) (by simp; omega) rfl ?_
   refine J_rowTo (v' := .slice (some ⟨b4, o4, none⟩) (xs.take k ++ List.replicate (xs.length + 1 - k) _).length c40) (ys := xs.take k ++ c :: xs.drop k) (ins_new hkl) rfl <| nx <| mv rfl rfl <| ag rfl rfl <| nq <| J_ret <| Q_then_ret ?_
   exact J_return (_) Tryz.results50 (.tmp rfl .nil) rfl SU
  ·
   refine J_skip <| qx <| mv rfl rfl <| mv rfl rfl <| mv rfl rfl <| L_pur rfl (p_add64 rfl rfl (by omega)) <| L_pur rfl (p_slice rfl Tryz.underlying111 ty140 rfl rfl (by omega) (by omega) (by first | omega | (simp at h31 ⊢; omega))) <| J_slot (t := 60) (v := .slice (some ⟨b, o, none⟩) (xs.length + 1) cap) rfl (by simp [Addr.add]) ?_
   have hroom : xs.length + 1 ≤ cap := by first | omega | (simp at h31; omega)
   refine ag rfl rfl <| nxx <| mv rfl rfl <| mv rfl rfl <| mv rfl rfl <| mv rfl rfl <| L_pur rfl (p_add64 rfl rfl (by omega)) <| L_pur rfl (p_slice rfl Tryz.underlying111 ty140 rfl rfl (by omega) (by omega) (by omega)) ?_
   refine J_slot (t := 66) (v := .slice (some ⟨b, o + (k + 1) * 3, none⟩) (xs.length - k) (cap - (k + 1))) rfl (by have e : ((k : Int) + 1).toNat = k + 1 := by { omega }; rw [e, if_neg (by omega)]; simp [Addr.add_lit]) ?_
   refine L_op <| x_overlaps (tR := 4) Tryz.func76 nm76 rfl (by kernel_rfl) (by kernel_rfl) rfl rfl Tryz.underlying111 ty140 rfl PC PC (by omega) rfl ?_
   refine L_pur rfl (p_not rfl) <| nq <| J_bool (t := 68) (c := true) rfl (rfl) <| C_true rfl <| J_seq <| J_drawT 8 mixed (by kernel_rfl) <| sm rfl rfl <| sm rfl rfl ?_
   refine sm rfl rfl <| sp rfl (p_add64 rfl rfl (by omega)) <| sp rfl (p_slice rfl Tryz.underlying111 ty140 rfl rfl (by omega) (by omega) (by omega)) ?_
   refine J_slot (t := 73) (v := .slice (if cap = k + 1 then some ⟨b, o, none⟩ else (some (⟨b, o, none⟩ : Addr)).map (·.add ((k + 1) * 3))) (xs.length - k) (cap - (k + 1))) rfl (by have e : ((k : Int) + 1).toNat = k + 1 := by { omega }; rw [e]; congr 1; omega) ?_
   refine sm rfl rfl <| sm rfl rfl <| sp rfl (p_slice rfl Tryz.underlying111 ty140 rfl rfl (by omega) (by omega) (by omega)) <| S_nil <| L_op <| x_copyUp (k0 := k) (xs := xs) rfl rfl Tryz.underlying111 ty140 PC (by omega) (by omega) rfl ?_
   refine nx <| mv rfl rfl <| mv rfl rfl <| L_pur rfl (p_slice rfl Tryz.underlying111 ty140 rfl rfl (by omega) (by omega) (by omega)) <| mv rfl rfl <| L_op <| x_copyTo (k0 := k) (ys := [c]) rfl rfl Tryz.underlying111 ty140 PC (fun w H => sep_reads (xs := [c]) HS H) (by simp; omega) (by simp; omega) rfl ?_
   refine J_rowEq (ys := xs.take k ++ c :: xs.drop k) (ins_here hkl) <| nx <| mv rfl rfl <| ag rfl rfl <| nq <| J_ret <| Q_then_ret ?_
   exact J_return (_) Tryz.results50 (.tmp rfl .nil) rfl SU

set_option maxRecDepth 100000 in
set_option maxHeartbeats 4000000 in
theorem tmrPush {E : World} {l m : List As} {b o : Nat} {xs : List Tm} (hp : Pick (tmrA b o xs) l m) (hb : xs.length ≤ 90000) {d : Int} {i : ID} (hs : Srt xs) :
  Con Tryz.prog 23 #[.pointer (some ⟨b, o, none⟩), .int .u64 d, .agg (encI i).toArray] E l (fun _ : Unit => .tuple #[]) (fun _ => tmrA b o (hpush xs (d, i)) :: m) := by
 refine Con.body (vs := [.pointer (some ⟨b, o, none⟩), .int .u64 d, .agg (encI i).toArray]) (n := 35) Tryz.func23 rfl rfl [(0, .pointer (some ⟨b, o, none⟩)), (1, .int .u64 d), (2, .agg (encI i).toArray)] (env_ok 3 rfl) <| J_pick hp <| sr <| L_op <| x_box rfl rfl rfl fun b5 => nx <| mv rfl rfl <| L_val rfl (v_loadA rfl ty36 HS CT) ?_
 refine L_op <| x_call Tryz.func47 nm47 bd47 (.cons rfl (.cons rfl .nil)) rfl (tmrDropC (xs := xs) (i := i) PC (by omega)) fun _ => ?_
 obtain ⟨ys, hys⟩ : ∃ ys, ys = hdrop xs i := ⟨_, rfl⟩
 have hyl : ys.length ≤ xs.length := by rw [hys]; exact hdrop_len xs i
 have hne : ∀ c ∈ ys, c.2 ≠ (d, i).2 := by rw [hys]; exact fun c hc => hdrop_ne hc
 have hss : Srt ys := by rw [hys]; exact hs.drop i
 refine J_asTo (B := tmrA b o ys) (by rw [hys]) <| J_tmrO fun v _ => J_row (.there .here) fun hw a cap hv h1 h2 h3 => ?_
 subst hv
 have hpi := fun j c => place_iff (x := (d, i)) hss (j := j) (c := c)
 have hpl := place_le ys (d, i)
 obtain ⟨k, hk⟩ : ∃ k, k = place ys (d, i) := ⟨_, rfl⟩
 refine nx <| mv rfl rfl <| L_val rfl (v_loadA rfl ty36 HS CT) ?_
 refine L_pur rfl (bld140 (.cons rfl (.cons rfl .nil)) (by repeat constructor)) <| L_op <| x_alloc ty140 rfl fun b6 => L_op <| x_store rfl rfl ty140 rfl SM SM RO PT ?_
 refine J_pick (A := blk b6 140 _) PC ?_
 refine J_asTo (B := blk b6 140 (encT (d, i))) (by rfl) <| nq <| J_seq <| J_drawI none [blk b6 140 (encT (d, i)), fld b o [.slice a (ys.map encT).length cap]] mixed <| ip 0 rfl rfl rfl rfl (p_move rfl) <| ip 1 rfl rfl rfl rfl (p_nilCheck rfl) <| ip 2 rfl rfl rfl rfl (p_fieldAddr rfl fa113_0) <| iv 3 rfl rfl rfl rfl (fun _ => v_loadL rfl ty111 HS rfl (by exact rfl)) ?_
 refine iv 4 rfl rfl rfl rfl (fun _ => v_loadA rfl ty140 HS CT) ?_
 refine i1 5 rfl <| x_call Tryz.func48 nm48 bd48 (.cons rfl (.cons rfl (.cons rfl .nil))) rfl (bsearch (xs := ys) (x := (d, i)) (k := k) HS (by omega) (by omega) (fun j c h => by rw [hk]; exact hpi j c h)) fun q => ?_
 refine ip 6 rfl rfl rfl rfl (p_move rfl) <| ip 7 rfl rfl rfl rfl (p_extract rfl rfl) <| ip 8 rfl rfl rfl rfl (p_extract rfl rfl) <| ip 9 rfl rfl rfl rfl (p_assign rfl) <| ip 10 rfl rfl rfl rfl (p_assign rfl) <| i0 <| Q_then <| J_drawI (some 11) [blk b6 140 (encT (d, i)), fld b o [.slice a (ys.map encT).length cap]] mixed ?_
 refine ip 0 rfl rfl rfl rfl (p_move rfl) <| ip 1 rfl rfl rfl rfl (p_move rfl) <| ip 2 rfl rfl rfl rfl (p_nilCheck rfl) <| ip 3 rfl rfl rfl rfl (p_fieldAddr rfl fa113_0) <| iv 4 rfl rfl rfl rfl (fun _ => v_loadL rfl ty111 HS rfl (by exact rfl)) ?_
 refine ip 5 rfl rfl rfl rfl (p_move rfl) <| iv 6 rfl rfl rfl rfl (fun _ => v_loadA rfl ty140 HS CT) ?_
 refine i1 7 rfl <| x_lit (vals := [_]) Tryz.underlying111 ty140 rfl (.cons rfl .nil) (.agg .nil) (Wf.cons rfl rfl Wf.nil) rfl (by decide) rfl rfl <| JR fun a31 c31 hw31 hl31 hm31 hz31 => i1 8 rfl <| x_call Tryz.func50 nm50 bd50 (.cons rfl (.cons rfl (.cons rfl .nil))) rfl (insert1 (xs := ys.map encT) (c := encT (d, i)) (k := k) PC PC (by simp; omega) (by simp; omega)) <| JE ((hpush xs (d, i)).map encT) (by unfold hpush putT; rw [← hys, ← hk]; simp [List.map_take, List.map_drop]) fun a32 c32 hw32 hl32 hm32 hz32 => ip 9 rfl rfl rfl rfl (p_nilCheck rfl) <| ip 10 rfl rfl rfl rfl (p_fieldAddr rfl fa113_0) ?_
 refine i1 11 rfl <| x_storeL rfl rfl ty111 rfl SM SM rfl RO rfl PT ?_
 refine i0 <| J_endnormal <| J_tmrS (b := b) (o := o) (xs := hpush xs (d, i)) _ PX trivial ?_
 exact J_return (()) Tryz.results23 .nil rfl SU

set_option maxRecDepth 100000 in
set_option maxHeartbeats 4000000 in
theorem tmrLen {E : World} {l m : List As} {b o : Nat} {xs : List Tm} (hp : Pick (tmrA b o xs) l m) (hb : xs.length ≤ 100000) :
    Con Tryz.prog 25 #[.pointer (some ⟨b, o, none⟩)] E l (fun _ : Unit => .int .i64 (xs.length : Int)) (fun _ => tmrA b o xs :: m) := by
  refine Con.body (vs := [.pointer (some ⟨b, o, none⟩)]) (n := 8) Tryz.func25 rfl rfl [(0, .pointer (some ⟨b, o, none⟩))] (env_ok 1 rfl) <| J_pick hp <| J_tmrO fun v _ => J_row (.there .here) fun hw a cap hv h1 h2 h3 => ?_
  subst hv
  have hm : cap ≤ 9223372036854775807 := h2
  have hml : (xs.map encT).length = xs.length := List.length_map _
  refine sr <| ag rfl rfl <| nx <| mv rfl rfl <| nc rfl rfl <| fa rfl rfl fa113_0 <| L_val rfl (v_loadL rfl ty111 HS rfl (by exact rfl)) ?_
  refine L_pur rfl (p_len rfl Tryz.underlying111) <| ag rfl rfl <| nq <| J_ret <| J_tmrS (b := b) (o := o) (xs := xs) _ PX trivial ?_
  refine J_return (()) Tryz.results25 (.tmp rfl .nil) ?_ ?_
  · simp [one]
  · exact SU

theorem coTmPush {E : World} {l m : List As} {p : Nat} {s : KS} (hp : Pick (coA p s) l m) {d : Int} {i : ID} (hb : s.tm.length ≤ 90000) (hs : Srt s.tm) :
    Con Tryz.prog 23 #[.pointer (some ⟨p, 11, none⟩), .int .u64 d, .agg (encI i).toArray] E l (fun _ : Unit => .tuple #[]) (fun _ => coA p { s with tm := hpush s.tm (d, i) } :: m) := fun w H => by
  refine (?_ : Jk E l 0 [] fun _ w => Calls Tryz.prog 23 #[.pointer (some ⟨p, 11, none⟩), .int .u64 d, .agg (encI i).toArray] w fun e w' => ∃ x, e = .returned ((fun _ : Unit => .tuple #[]) x) ∧ Sep E w' ((fun _ : Unit => coA p { s with tm := hpush s.tm (d, i) } :: m) x)) w _ H fr0
  refine J_pick hp <| J_coO fun bn be br bg bt bs bp bl bk _ => J_con (tmrPush (xs := s.tm) (d := d) (i := i) PC hb hs) fun x => ?_
  refine J_coS (p := p) (s := { s with tm := hpush s.tm (d, i) }) bn be br bg bt bs bp bl bk PX trivial ?_
  exact J_end SU
theorem coTmLen {E : World} {l m : List As} {p : Nat} {s : KS} (hp : Pick (coA p s) l m) (hb : s.tm.length ≤ 100000) :
    Con Tryz.prog 25 #[.pointer (some ⟨p, 11, none⟩)] E l (fun _ : Unit => .int .i64 (s.tm.length : Int)) (fun _ => coA p s :: m) := fun w H => by
  refine (?_ : Jk E l 0 [] fun _ w => Calls Tryz.prog 25 #[.pointer (some ⟨p, 11, none⟩)] w fun e w' => ∃ x, e = .returned ((fun _ : Unit => .int .i64 (s.tm.length : Int)) x) ∧ Sep E w' ((fun _ : Unit => coA p s :: m) x)) w _ H fr0
  refine J_pick hp <| J_coO fun bn be br bg bt bs bp bl bk _ => J_con (tmrLen (xs := s.tm) PC hb) fun x => ?_
  refine J_coS (p := p) (s := s) bn be br bg bt bs bp bl bk PX trivial ?_
  exact J_end SU
end Go.Pse
