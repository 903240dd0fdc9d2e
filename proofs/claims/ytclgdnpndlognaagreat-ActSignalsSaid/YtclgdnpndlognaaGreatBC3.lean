/-
  Own texts, merged: C52, C53, C60, C61, C62, C63, C64, C65, C66, C67, C68, C69, C70, C71.
-/
import Derived.Test.YtclgdnpndlognaaGreatBC2
set_option linter.unusedVariables false
set_option linter.unusedSimpArgs false
set_option maxRecDepth 100000
set_option maxHeartbeats 4000000
namespace Go.Pse
open Go.RowKit Go.Proofs
/-! ### plain: addresses of a node's slots -/
theorem addr_or : ∀ k : Nat, k < 16 → bits .or .u32 ((k : Int) * 256) 4 = (k : Int) * 256 + 4 := by decide
theorem addr_shl : ∀ k : Nat, k < 16 → IntKind.u32.wrap ((k : Int) * 2 ^ 8) = (k : Int) * 256 := by decide
abbrev atK (k : Nat) : Int := (k : Int) * 256 + 4
variable {E : World} {l : List As} {k : Nat}
theorem joinC (hk : k < 16) :
    Con Tryz.prog 18 #[.int .i64 (k : Int), .int .i64 4] E l (fun _ : Unit => .int .u32 (atK k)) (fun _ => l) := by
  refine Con.body (n := 12) Tryz.func18 Z Z _ (env_ok 2 Z) <| sr <| ag Z Z <| nx <| mv Z Z <| L_pur Z (p_conv Z Tryz.underlying3 Tryz.underlying22) <| J_slot (t := 6) (v := .int .u32 (k : Int)) Z (by rw [wrap32u_of (by omega)]) <| L_pur Z (p_shl Z Z (by omega) (by have : (IntKind.u32.bits : Int) = 32 := rfl; omega)) <| J_slot (t := 7) (v := .int .u32 ((k : Int) * 256)) Z (by rw [← addr_shl k hk]; rfl) <| mv Z Z <| L_pur Z (p_conv Z Tryz.underlying3 Tryz.underlying22) <| J_slot (t := 9) (v := .int .u32 4) Z Z <| L_pur Z (p_and Z Z) <| J_slot (t := 10) (v := .int .u32 4) Z Z <| L_pur Z (p_or Z Z) <| J_slot (t := 11) (v := .int .u32 (atK k)) Z (by rw [addr_or k hk]) <| ag Z Z <| nq <| J_ret <| J_return (()) Tryz.results18 (.tmp Z .nil) ?_ ?_
  · rfl
  · exact SU
theorem slotC (hk : k < 16) :
    Con Tryz.prog 26 #[.int .i64 (k : Int)] E l (fun _ : Unit => .int .u32 (atK k)) (fun _ => l) := by
  refine Con.body (n := 5) Tryz.func26 Z Z _ (env_ok 1 Z) <| sr <| ag Z Z <| nx <| mv Z Z <| xo fc18 (A2 Z Z) Z (joinC hk) fun _ => ag Z Z <| nq <| J_ret ?_
  exact J_return (()) Tryz.results26 (.tmp Z .nil) Z SU
def actA (a p : Nat) (T : Th) (q : Rq) (i : ID) : As := blk a 279 [.pointer (some ⟨p, 0, none⟩), .int .i64 T.unit, .int .i64 T.space, .int .i64 T.ring, .int .i64 T.root.kind, .int .i64 T.root.obj, .int .i64 T.root.size, .int .i64 T.root.badge, .int .i64 T.root.rights, .int .i64 q.id.1, .int .i64 q.id.2, .int .i64 q.e.op, .int .i64 q.e.flags, .int .u32 q.e.tag, .int .u32 q.e.cap, .int .u32 q.e.a, .int .u32 q.e.b, .int .u32 q.e.c, .int .u32 q.e.time, .int .i64 q.prev, .bool q.soft, .bool q.started, .int .i64 i.1, .int .i64 i.2]
variable {n : Nat} {F : Env} {K : Act → World → Prop} {T : Th} {i : ID}
theorem J_act {a p : Nat} {q : Rq} (k : Jk E (blk a 279 [.pointer (some ⟨p, 0, none⟩), .int .i64 T.unit, .int .i64 T.space, .int .i64 T.ring, .int .i64 T.root.kind, .int .i64 T.root.obj, .int .i64 T.root.size, .int .i64 T.root.badge, .int .i64 T.root.rights, .int .i64 q.id.1, .int .i64 q.id.2, .int .i64 q.e.op, .int .i64 q.e.flags, .int .u32 q.e.tag, .int .u32 q.e.cap, .int .u32 q.e.a, .int .u32 q.e.b, .int .u32 q.e.c, .int .u32 q.e.time, .int .i64 q.prev, .bool q.soft, .bool q.started, .int .i64 i.1, .int .i64 i.2] :: l) n F K) : Jk E (actA a p T q i :: l) n F K := k
theorem failsC {n : Int} (hn : 0 ≤ n ∧ n ≤ 100) :
    Con Tryz.prog 167 #[.int .i64 n] E l (fun _ : Unit => .agg #[.int .i64 (-n), .int .u32 0, .bool false]) (fun _ => l) := by
  refine Con.body (n := 6) Tryz.func167 Z Z _ (env_ok 1 Z) <| sr <| L_op <| x_alloc ty276 Z fun b2 => nx <| mv Z Z <| L_pur Z (p_neg64 Z (by omega)) <| L_pur Z (bld276 (.cons Z .nil) (by repeat constructor)) <| L_op <| x_store Z Z ty276 Z SM SM RO PT <| nq <| J_ret <| J_return (()) Tryz.results167 (.cellA Z ty276 HS CT .nil) ?_ ?_
  · rfl
  · exact SU
variable {m : List As}
theorem rtStartC  {b o : Nat} {ps : List (ID × Rq)} (hp : Pick (rtA b o ps) l m) :
    Con Tryz.prog 70 #[.pointer (some ⟨b, o, none⟩), .agg (encI i).toArray] E l (fun _ : Unit => .bool (look ps i).isSome) (fun _ => rtA b o (rtS ps i) :: m) := by
  refine Con.body (n := 25) Tryz.func70 Z Z _ (env_ok 2 Z) <| J_pick hp <| J_rtO fun ob _ => sr <| L_op <| x_box Z Z Z fun b3 => ag Z Z <| nq <| J_seq <| J_drawL none mixed <| ip 0 Z Z Z Z (p_move Z) <| ip 1 Z Z Z Z (p_nilCheck Z) <| ip 2 Z Z Z Z (p_fieldAddr Z fa138_0) <| iv 3 Z Z Z Z (fun _ => v_loadL Z ty136 HS Z (by exact rfl)) <| iv 4 Z Z Z Z (fun _ => v_loadA Z ty36 HS CT) <| iv 5 Z Z Z Z (fun _ => v_lookOk (ek := kI) (ev := evQ) (a := i) Z Z ky36 Tryz.underlying136 zv122 HS) <| J_slot (t := 13) (v := .tuple #[evQ ((look ps i).getD q00), .bool (look ps i).isSome]) Z (by cases look ps i <;> rfl) <| ip 6 Z Z Z Z (p_move Z) <| ip 7 Z Z Z Z (p_extract Z Z) <| ip 8 Z Z Z Z (p_extract Z Z) <| i1 9 Z <| x_alloc ty122 Z fun b5 => i1 10 Z <| x_store Z Z ty122 Z SM SM RO PT <| ip 11 Z Z Z Z (p_assign Z) <| i0 <| Q_then <| J_seq <| sr <| mv Z Z <| nq ?_
  refine C_split Z (fun h16 => ?_) (fun h16 => ?_)
  obtain ⟨q, hq⟩ : ∃ q, look ps i = some q := by
    cases hz : look ps i with
    | none => rw [hz] at h16; simp at h16
    | some q => exact ⟨q, rfl⟩
  rcases ob with _ | bm
  · exact J_mapNone (ps := ps) HS fun hps => by rw [hps] at hq; cases hq
  refine J_pick (A := blk b5 _ _) PC <| J_asTo (B := blk b5 122 (encQ q)) (by rw [hq]; rfl) ?_
  have hrs : rtS ps i = ins ps i { q with started := true } := by unfold rtS; rw [hq]
  refine sr <| fa Z Z fa122_4 <| L_op <| x_store Z Z ty4 Z SM SM RO PT <| J_pick (A := blk b5 _ _) PC <| J_asTo (B := blk b5 122 (encQ { q with started := true })) (by rfl) <| nq <| J_drawT 6 mixed (by kernel_rfl) <| sm Z Z <| sp Z (p_nilCheck Z) <| sp Z (p_fieldAddr Z fa138_0) <| S_val Z (v_loadL Z ty136 HS Z (by exact rfl)) <| S_val Z (v_loadA Z ty36 HS CT) <| S_val Z (v_loadA Z ty122 HS CT) <| S_nil <| L_op <| x_mapUpdate (ek := kI) (ev := evQ) (a := i) (c := { q with started := true }) Z Z Z ky36 Tryz.underlying136 PC <| nx <| mv Z Z <| ag Z Z <| nq <| J_ret <| J_pick (A := mapV kI evQ _ _) PC <| J_mapEq (qs := rtS ps i) (by rw [hrs]) <| J_rtS (b := b) (o := o) (ps := rtS ps i) _ PX trivial ?_
  exact J_return (()) Tryz.results70 (.tmp Z .nil) Z SU
  have hno : look ps i = none := by
    cases hz : look ps i with
    | none => rfl
    | some q => rw [hz] at h16; simp at h16
  have hrs : rtS ps i = ps := by unfold rtS; rw [hno]
  refine J_skip <| qx <| mv Z Z <| ag Z Z <| nq <| J_ret <| J_rtS (b := b) (o := o) (ps := ps) _ PX trivial <| J_asTo (B := rtA b o (rtS ps i)) (by rw [hrs]) ?_
  exact J_return (()) Tryz.results70 (.tmp Z .nil) Z SU
variable {p : Nat} {s : KS}
theorem coRqStart (hp : Pick (coA p s) l m) :
    Con Tryz.prog 70 #[.pointer (some ⟨p, 10, none⟩), .agg (encI i).toArray] E l (fun _ : Unit => .bool (look s.rt i).isSome) (fun _ => coA p { s with rt := rtS s.rt i } :: m) := fun w H => by
  refine (?_ : Jk E l 0 [] fun _ w => Calls Tryz.prog 70 #[.pointer (some ⟨p, 10, none⟩), .agg (encI i).toArray] w fun e w' => ∃ x, e = .returned ((fun _ : Unit => .bool (look s.rt i).isSome) x) ∧ Sep E w' ((fun _ : Unit => coA p { s with rt := rtS s.rt i } :: m) x)) w _ H fr0
  refine J_pick hp <| J_coO fun bn be br bg bt bs bp bl bk _ => J_con (rtStartC (ps := s.rt) (i := i) PC) fun x => J_coS (p := p) (s := { s with rt := rtS s.rt i }) bn be br bg bt bs bp bl bk PX trivial ?_
  exact J_end SU
def idxJ (xs : List Deed) (i : ID) : Option Nat := xs.findIdx? fun d => decide (d.1 = i)
variable {xs : List Deed}
theorem idxJ_some {d : Deed} (h : xs[k]? = some d) (hd : d.1 = i) (h0 : ∀ e ∈ xs.take k, e.1 ≠ i) : idxJ xs i = some k ∧ atJ xs i = some d := by
  obtain ⟨hk, he⟩ := List.getElem?_eq_some_iff.1 h
  have hj : ∀ j (hj : j < k), xs[j].1 ≠ i := fun j hj => h0 _ (List.mem_iff_getElem.2 ⟨j, by simp; omega, by simp⟩)
  constructor
  · unfold idxJ
    rw [List.findIdx?_eq_some_iff_getElem]
    exact ⟨hk, by rw [he]; simpa using hd, fun j hj' => by simpa using hj j hj'⟩
  · unfold atJ
    rw [List.find?_eq_some_iff_getElem]
    exact ⟨by simpa using hd, k, hk, he, fun j hj' => by simpa using hj j hj'⟩
theorem idxJ_none (h0 : ∀ e ∈ xs, e.1 ≠ i) : idxJ xs i = none ∧ atJ xs i = none := by
  constructor
  · unfold idxJ
    rw [List.findIdx?_eq_none_iff]
    intro e he
    simpa using h0 e he
  · exact atJ_none h0
theorem idxJ_at (h : idxJ xs i = some k) : ∃ d, xs[k]? = some d ∧ atJ xs i = some d := by
  unfold idxJ at h
  rw [List.findIdx?_eq_some_iff_getElem] at h
  obtain ⟨hk, h1, h2⟩ := h
  refine ⟨xs[k], List.getElem?_eq_getElem hk, ?_⟩
  unfold atJ
  rw [List.find?_eq_some_iff_getElem]
  exact ⟨h1, k, hk, rfl, fun j hj => by simpa using h2 j hj⟩
theorem idxJ_no (h : idxJ xs i = none) : atJ xs i = none := by
  unfold idxJ at h
  rw [List.findIdx?_eq_none_iff] at h
  exact atJ_none fun e he => by simpa using h e he
theorem atC {v : Value} (hr : ∀ w, Sep E w l → Reads w 7 v (xs.map encD)) (hb : xs.length ≤ 200000) :
    Con Tryz.prog 22 #[v, .agg (encI i).toArray] E l (fun _ : Unit => .tuple #[.int .i64 (((idxJ xs i).getD 0 : Nat) : Int), .bool (idxJ xs i).isSome]) (fun _ => l) := by
  refine Con.body (n := 21) Tryz.func22 Z Z _ (env_ok 2 Z) <| J_readsB hr fun hw a cap hv h1 h2 h3 => ?_
  subst hv
  have hm : cap ≤ 9223372036854775807 := h2
  have hml : (xs.map encD).length = xs.length := List.length_map _
  refine sr <| L_op <| x_box Z Z Z fun b3 => ag Z Z <| ag Z Z <| nq <| J_seq <| J_seq <| J_pick (A := blk b3 _ _) PC <| J_asTo (B := blk b3 36 (encI i)) (by rfl) <| J_region <| ag Z Z <| nq <| J_block <| J_loop (α := Nat) (fun k => k ≤ xs.length ∧ ∀ e ∈ xs.take k, e.1 ≠ i) (fun k => blk b3 36 (encI i) :: l) (fun k => [(6, .int .i64 (k : Int)), (0, .slice a (xs.map encD).length cap), (3, .pointer (some ⟨b3, 0, none⟩))]) (fun k => xs.length - k) 0 ⟨by omega, by simp⟩ SU KE ?_
  intro k hk
  obtain ⟨hk, h0⟩ := hk
  refine J_seq <| sr <| mv Z Z <| mv Z Z <| L_pur Z (p_len Z Tryz.underlying40) <| L_pur Z (p_lss Z Z) <| nq <| C_dec Z (fun h10 => ?_) (fun h10 => ?_)
  have hlt : k < xs.length := by omega
  obtain ⟨bx, ox, rfl⟩ := h3 (by intro h; rw [h] at hml; simp at hml; omega)
  obtain ⟨c, hcc⟩ : ∃ c, xs[k]? = some c := ⟨_, List.getElem?_eq_getElem hlt⟩
  refine J_skip <| Q_then <| J_seq <| J_block <| J_seq <| J_drawS mixed (by kernel_rfl) <| sm Z Z <| sm Z Z <| sp Z (p_indexAddr Z Z Tryz.underlying40 ty45 (by omega) (by omega)) <| sp Z (p_fieldAddr Z fa45_0) <| S_val Z (by first | exact v_loadFA Z ty36 HS (by first | (simp only [Int.toNat_natCast, List.getElem?_map, hcc]; rfl) | (simp only [Int.toNat_natCast, List.getElem?_map, hcd]; rfl) | simp | rfl) CT | exact v_loadRFA Z ty36 (fun w H => hr w (Sub.sep SU H)) (by first | (simp only [Int.toNat_natCast, List.getElem?_map, hcc]; rfl) | (simp only [Int.toNat_natCast, List.getElem?_map, hcd]; rfl) | simp | rfl) CT) ?_
  refine S_val Z (v_loadA Z ty36 HS CT) <| sp Z (p_eqv Z Z (fun w => eg36 _ _ _ _ _ w) (fun w => eqv36 _ _ _ _ w)) <| J_slot (t := 19) (v := .bool (decide (c.1 = i))) Z (by congr 1; simp [Prod.ext_iff]) <| sq <| C_dec Z (fun h19 => ?_) (fun h19 => ?_)
  have hix := idxJ_some hcc h19 h0
  refine sr <| mv Z Z <| ag Z Z <| ag Z Z <| nq <| J_ret <| Q_blk_ret <| Q_then_ret <| Q_then_ret <| Q_blk_ret <| Q_then_ret <| J_return (()) Tryz.results22 (.tmp Z (.tmp Z .nil)) ?_ ?_
  · simp [one, hix.1]
  · exact SU
  refine J_skip <| Q_blk_normal <| qr <| mv Z Z <| L_pur Z (p_add64 Z Z (by omega)) <| ag Z Z <| nq ?_
  exact J_again (k + 1) (by omega) (⟨by omega, fun e he => by
      rw [List.take_add_one, hcc] at he
      rcases List.mem_append.1 he with h | h
      · exact h0 e h
      · rw [List.mem_singleton.1 h]; exact h19⟩) SU KE
  have hkx : k = xs.length := by omega
  rw [hkx, List.take_length] at h0
  have hix := idxJ_none h0
  refine J_exit <| Q_then_exit <| Q_then_exit <| Q_blk_this <| qx <| ag Z Z <| ag Z Z <| nq <| J_ret <| J_return (()) Tryz.results22 (.tmp Z (.tmp Z .nil)) ?_ ?_
  · simp [one, hix.1]
  · exact SU
abbrev encE (o : Option (Int × Int)) : Value := .agg #[.int .i64 (o.getD (0, 0)).1, .int .u32 (o.getD (0, 0)).2, .bool o.isNone]
/-! ### plain: addresses; the way to a slot -/
theorem shl1_24 : ∀ k : Nat, k ≤ 24 → shl1 (k : Int) = 2 ^ k ∧ (2 : Int) ^ k ≤ 16777216 ∧ (1 : Int) ≤ 2 ^ k := by decide
theorem and_mask64 {n : Int} (hk : k ≤ 24) (hn : 0 ≤ n ∧ n < 4294967296) : bits .and .i64 n (2 ^ k - 1) = n % 2 ^ k := by
  obtain ⟨X, rfl⟩ := Int.eq_ofNat_of_zero_le hn.1
  have h2 : 1 ≤ 2 ^ k ∧ 2 ^ k ≤ 16777216 := ⟨Nat.one_le_two_pow, by have : (2 : Nat) ^ k ≤ 2 ^ 24 := Nat.pow_le_pow_right (by omega) hk; omega⟩
  have e : ((2 : Int) ^ k - 1) = ((2 ^ k - 1 : Nat) : Int) := by rw [Int.ofNat_sub h2.1]; push_cast; rfl
  have h3 : X % 2 ^ k ≤ X := Nat.mod_le _ _
  rw [e]
  show IntKind.i64.wrap ((BitVec.ofInt 64 (X : Int) &&& BitVec.ofInt 64 ((2 ^ k - 1 : Nat) : Int)).toNat : Nat) = _
  rw [BitVec.toNat_and, BitVec.ofInt_natCast, BitVec.ofInt_natCast, BitVec.toNat_ofNat, BitVec.toNat_ofNat, Nat.mod_eq_of_lt (show X < 2 ^ 64 by omega), Nat.mod_eq_of_lt (show 2 ^ k - 1 < 2 ^ 64 by omega), Nat.and_two_pow_sub_one_eq_mod, wrap64_of (by omega)]
  push_cast; rfl
theorem and15 {n : Int} (hn : 0 ≤ n ∧ n < 4294967296) : bits .and .i64 n 15 = n % 16 := and_mask64 (k := 4) (by omega) hn
def rightB (v d : Int) : Bool := decide (0 ≤ d) && decide (d ≤ 24) && decide (0 ≤ v) && decide (v < 2 ^ d.toNat)
variable {v d : Int}
theorem rightB_is (h : rightB v d = true) : (0 ≤ d ∧ d ≤ 24) ∧ (0 ≤ v ∧ v < 16777216) ∧ v < 2 ^ d.toNat := by
  unfold rightB at h
  simp only [Bool.and_eq_true, decide_eq_true_eq] at h
  obtain ⟨k, rfl⟩ : ∃ k : Nat, d = k := ⟨d.toNat, by omega⟩
  have := (shl1_24 k (by omega)).2
  rw [Int.toNat_natCast] at h ⊢
  omega
def splitA (a : Int) : Option (Int × Int) := if decide (a % 256 < 4) || !rightB (a / 256) (a % 256) then none else some (a / 256, a % 256)
def stepA (c : Cap) (v d : Int) : Option (Int × Int) :=
  if decide (c.kind ≠ 2) || !checkC c || !rightB v d || decide (d < c.size + 4) then none
  else if v / 2 ^ (d - c.size).toNat ≠ c.badge then none
  else some (v / 2 ^ (d - c.size - 4).toNat % 16, d - c.size - 4)
def findA (sl : List (Place × SV)) : Nat → Cap → Int → Int → Option Place
  | 0, _, _, _ => none
  | n + 1, c, v, d => match stepA c v d with
    | none => none
    | some (k, r) => if r = 0 then some (c.obj, k) else match look sl (c.obj, k) with
      | none => none
      | some s => findA sl n s.1 (v % 2 ^ r.toNat) r
def kFind (sl : List (Place × SV)) (root : Cap) (a : Int) : Option Place := match splitA a with
  | none => none
  | some x => findA sl 6 root x.1 x.2
def kCap (sl : List (Place × SV)) (root : Cap) (a kind : Int) : Cap × Place × Int := match kFind sl root a with
  | none => (c0, (0, 0), 2)
  | some p => match look sl p with
    | none => (c0, (0, 0), 4)
    | some v => if kind ≠ 0 ∧ v.1.kind ≠ kind then (c0, (0, 0), 5) else (v.1, p, 0)
theorem splitA_is {a v d : Int} (h : splitA a = some (v, d)) : (0 ≤ d ∧ d ≤ 24) ∧ (0 ≤ v ∧ v < 16777216) := by
  unfold splitA at h
  split at h
  · cases h
  · rename_i h1
    simp at h1 h
    obtain ⟨rfl, rfl⟩ := h
    have := rightB_is h1.2
    exact ⟨this.1, this.2.1⟩
theorem checkC_node {c : Cap} (h : checkC c = true) (hk : c.kind = 2) : (0 ≤ c.size ∧ c.size ≤ 8) ∧ (1 ≤ c.obj ∧ c.obj ≤ 64) := by
  unfold checkC inB at h
  simp [hk] at h
  omega
variable {r : Int}
theorem stepA_is {c : Cap} {k : Int} (h : stepA c v d = some (k, r)) : (0 ≤ r ∧ r ≤ 24) ∧ (0 ≤ k ∧ k < 16) := by
  unfold stepA at h
  split at h
  · cases h
  · rename_i h1
    split at h
    · cases h
    · simp at h1 h
      obtain ⟨⟨⟨h3, h4⟩, h5⟩, h6⟩ := h1
      have := checkC_node h4 h3
      have := rightB_is h5
      omega
theorem div_small (h : 0 ≤ v ∧ v < 16777216) : 0 ≤ v / 2 ^ k ∧ v / 2 ^ k < 4294967296 := by
  have h1 : (0 : Int) < 2 ^ k := Int.pow_pos (by omega)
  exact ⟨Int.ediv_nonneg h.1 (by omega), by have := Int.ediv_le_self (2 ^ k) h.1; omega⟩
theorem rightG :
    Con Tryz.prog 332 #[.int .i64 v, .int .i64 d] E l (fun _ : Unit => .bool (rightB v d)) (fun _ => l) := by
  refine Con.body (n := 21) Tryz.func332 Z Z _ (env_ok 2 Z) <| sr <| ag Z Z <| nx <| mv Z Z <| L_pur Z (p_geq Z Z) <| mv Z Z <| J_gsplit (t := 7) Z (fun h7 => ?_) (fun h7 => ?_)
  refine gp Z Z Z (p_move Z) Z <| gp Z Z Z (p_leq Z Z) Z <| L_pur Z (p_pick_t Z Z) <| mv Z Z <| J_gsplit (t := 11) Z (fun h11 => ?_) (fun h11 => ?_)
  refine gp Z Z Z (p_move Z) Z <| gp Z Z Z (p_geq Z Z) Z <| L_pur Z (p_pick_t Z Z) <| mv Z Z <| J_gsplit (t := 15) Z (fun h15 => ?_) (fun h15 => ?_)
  have hd : 0 ≤ d ∧ d ≤ 24 := ⟨by simpa using h7, by simpa using h11⟩
  obtain ⟨k, hk⟩ : ∃ k : Nat, d = k := ⟨d.toNat, by omega⟩
  obtain ⟨g1, g2, g3⟩ := shl1_24 k (by omega)
  have hdk : d.toNat = k := by omega
  refine gp Z Z Z (p_move Z) Z <| gp Z Z Z (p_move Z) Z <| L_op <| G_on Z Z Z <| J_pur (p_shl Z Z (by omega) (by have : (IntKind.i64.bits : Int) = 64 := rfl; omega)) Z Z Z <| J_slot (t := 18) (v := .int .i64 (2 ^ d.toNat)) Z (by congr 1; rw [hk]; exact g1) <| gp Z Z Z (p_lss Z Z) Z <| L_pur Z (p_pick_t Z Z) <| ag Z Z <| nq <| J_ret <| J_return (()) Tryz.results332 (.tmp Z .nil) ?_ ?_
  · first | rfl | (simp_all [one, rightB]; done) | (simp_all [one, rightB] <;> omega) | (simp_all [one, rightB] <;> grind)
  · exact SU
  refine gz Z Z Z Z Z <| gz Z Z Z Z Z <| gz Z Z Z Z Z <| gz Z Z Z Z Z <| L_pur Z (p_pick_f Z Z) <| ag Z Z <| nq <| J_ret <| J_return (()) Tryz.results332 (.tmp Z .nil) ?_ ?_
  · first | rfl | (simp_all [one, rightB]; done) | (simp_all [one, rightB] <;> omega) | (simp_all [one, rightB] <;> grind)
  · exact SU
  refine gz Z Z Z Z Z <| gz Z Z Z Z Z <| L_pur Z (p_pick_f Z Z) <| mv Z Z <| gz Z Z Z Z Z <| gz Z Z Z Z Z <| gz Z Z Z Z Z <| gz Z Z Z Z Z <| L_pur Z (p_pick_f Z Z) <| ag Z Z <| nq <| J_ret <| J_return (()) Tryz.results332 (.tmp Z .nil) ?_ ?_
  · first | rfl | (simp_all [one, rightB]; done) | (simp_all [one, rightB] <;> omega) | (simp_all [one, rightB] <;> grind)
  · exact SU
  refine gz Z Z Z Z Z <| gz Z Z Z Z Z <| L_pur Z (p_pick_f Z Z) <| mv Z Z <| gz Z Z Z Z Z <| gz Z Z Z Z Z <| L_pur Z (p_pick_f Z Z) <| mv Z Z <| gz Z Z Z Z Z <| gz Z Z Z Z Z <| gz Z Z Z Z Z <| gz Z Z Z Z Z <| L_pur Z (p_pick_f Z Z) <| ag Z Z <| nq <| J_ret <| J_return (()) Tryz.results332 (.tmp Z .nil) ?_ ?_
  · first | rfl | (simp_all [one, rightB]; done) | (simp_all [one, rightB] <;> omega) | (simp_all [one, rightB] <;> grind)
  · exact SU
theorem splitG {a : Int} (ha : 0 ≤ a ∧ a < 4294967296) :
    Con Tryz.prog 321 #[.int .u32 a] E l (fun _ : Unit => .tuple #[.int .i64 ((splitA a).getD (0, 0)).1, .int .i64 ((splitA a).getD (0, 0)).2, .bool (splitA a).isSome]) (fun _ => l) := by
  refine Con.body (n := 23) Tryz.func321 Z Z _ (env_ok 1 Z) <| sr <| ag Z Z <| ag Z Z <| ag Z Z <| nx <| mv Z Z <| L_pur Z (p_shr Z Z (by omega) (by decide)) <| J_slot (t := 8) (v := .int .u32 (a / 256)) Z (by rfl) <| L_pur Z (p_conv Z Tryz.underlying22 Tryz.underlying3) <| J_slot (t := 9) (v := .int .i64 (a / 256)) Z (by rw [wrap64_of (by omega)]) <| mv Z Z <| xo fc263 (A3 Z Z Z) Z (fieldC (n := a) (k := 8) (by omega) ha) fun _ => J_slot (t := 11) (v := .int .u32 (a % 256)) Z (by rfl) <| L_pur Z (p_conv Z Tryz.underlying22 Tryz.underlying3) <| J_slot (t := 12) (v := .int .i64 (a % 256)) Z (by rw [wrap64_of (by omega)]) <| ag Z Z <| ag Z Z <| nxx <| mv Z Z <| L_pur Z (p_lss Z Z) <| mv Z Z <| J_gsplit (t := 15) Z (fun h15 => ?_) (fun h15 => ?_)
  have e15 : decide (a % 256 < 4) = true := h15
  refine gz Z Z Z Z Z <| gz Z Z Z Z Z <| gz Z Z Z Z Z <| gz Z Z Z Z Z <| L_pur Z (p_pick_t Z Z) <| nq <| C_true Z <| sr <| ag Z Z <| ag Z Z <| ag Z Z <| nq <| J_ret <| Q_then_ret <| J_return (()) Tryz.results321 (.tmp Z (.tmp Z (.tmp Z .nil))) ?_ ?_
  · rw [show splitA a = none by unfold splitA; rw [e15]; rfl]; rfl
  · exact SU
  have e15 : decide (a % 256 < 4) = false := h15
  refine gp Z Z Z (p_move Z) Z <| gp Z Z Z (p_move Z) Z <| L_op <| G_on Z Z Z <| xc fc332 (A2 Z Z) Z (rightG) fun _ => gp Z Z Z (p_not Z) Z <| L_pur Z (p_pick_f Z Z) <| nq <| C_split Z (fun h20 => ?_) (fun h20 => ?_)
  have e20 : (!rightB (a / 256) (a % 256)) = true := h20
  refine sr <| ag Z Z <| ag Z Z <| ag Z Z <| nq <| J_ret <| Q_then_ret <| J_return (()) Tryz.results321 (.tmp Z (.tmp Z (.tmp Z .nil))) ?_ ?_
  · rw [show splitA a = none by unfold splitA; rw [e15, e20]; rfl]; rfl
  · exact SU
  have e20 : (!rightB (a / 256) (a % 256)) = false := h20
  refine J_skip <| qx <| mv Z Z <| mv Z Z <| ag Z Z <| ag Z Z <| ag Z Z <| nq <| J_ret <| J_return (()) Tryz.results321 (.tmp Z (.tmp Z (.tmp Z .nil))) ?_ ?_
  · rw [show splitA a = some (a / 256, a % 256) by unfold splitA; rw [e15, e20]; rfl]; rfl
  · exact SU
theorem stepG {c : Cap} :
    Con Tryz.prog 322 #[.agg (encC c).toArray, .int .i64 v, .int .i64 d] E l (fun _ : Unit => .tuple #[.int .i64 ((stepA c v d).getD (0, 0)).1, .int .i64 ((stepA c v d).getD (0, 0)).2, .bool (stepA c v d).isSome]) (fun _ => l) := by
  refine Con.body (n := 48) Tryz.func322 Z Z _ (env_ok 3 Z) <| sr <| L_op <| x_box Z Z Z fun b3 => ag Z Z <| ag Z Z <| ag Z Z <| nxx <| fa Z Z fa110_0 <| L_val Z (v_load Z ty3 HS (by exact rfl)) <| L_pur Z (p_neq Z Z) <| mv Z Z <| J_gsplit (t := 13) Z (fun h13 => ?_) (fun h13 => ?_)
  refine gz Z Z Z Z Z <| gz Z Z Z Z Z <| gz Z Z Z Z Z <| L_pur Z (p_pick_t Z Z) <| mv Z Z <| gz Z Z Z Z Z <| gz Z Z Z Z Z <| gz Z Z Z Z Z <| gz Z Z Z Z Z <| L_pur Z (p_pick_t Z Z) <| mv Z Z <| gz Z Z Z Z Z <| gz Z Z Z Z Z <| gz Z Z Z Z Z <| gz Z Z Z Z Z <| gz Z Z Z Z Z <| L_pur Z (p_pick_t Z Z) <| nq <| C_true Z <| sr <| ag Z Z <| ag Z Z <| ag Z Z <| nq <| J_ret <| Q_then_ret <| J_return (()) Tryz.results322 (.tmp Z (.tmp Z (.tmp Z .nil))) ?_ ?_
  · rw [show stepA c v d = none by unfold stepA; simp_all]; rfl
  · exact SU
  refine L_op <| G_on Z Z Z <| J_val (v_loadA Z ty110 HS CT) Z Z Z <| L_op <| G_on Z Z Z <| xc fc104 (A1 Z) Z (cCheck (c := c)) fun _ => gp Z Z Z (p_not Z) Z <| L_pur Z (p_pick_f Z Z) <| mv Z Z <| J_gsplit (t := 18) Z (fun h18 => ?_) (fun h18 => ?_)
  refine gz Z Z Z Z Z <| gz Z Z Z Z Z <| gz Z Z Z Z Z <| gz Z Z Z Z Z <| L_pur Z (p_pick_t Z Z) <| mv Z Z <| gz Z Z Z Z Z <| gz Z Z Z Z Z <| gz Z Z Z Z Z <| gz Z Z Z Z Z <| gz Z Z Z Z Z <| L_pur Z (p_pick_t Z Z) <| nq <| C_true Z <| sr <| ag Z Z <| ag Z Z <| ag Z Z <| nq <| J_ret <| Q_then_ret <| J_return (()) Tryz.results322 (.tmp Z (.tmp Z (.tmp Z .nil))) ?_ ?_
  · rw [show stepA c v d = none by unfold stepA; simp_all]; rfl
  · exact SU
  refine gp Z Z Z (p_move Z) Z <| gp Z Z Z (p_move Z) Z <| L_op <| G_on Z Z Z <| xc fc332 (A2 Z Z) Z (rightG) fun _ => gp Z Z Z (p_not Z) Z <| L_pur Z (p_pick_f Z Z) <| mv Z Z <| J_gsplit (t := 24) Z (fun h24 => ?_) (fun h24 => ?_)
  refine gz Z Z Z Z Z <| gz Z Z Z Z Z <| gz Z Z Z Z Z <| gz Z Z Z Z Z <| gz Z Z Z Z Z <| L_pur Z (p_pick_t Z Z) <| nq <| C_true Z <| sr <| ag Z Z <| ag Z Z <| ag Z Z <| nq <| J_ret <| Q_then_ret <| J_return (()) Tryz.results322 (.tmp Z (.tmp Z (.tmp Z .nil))) ?_ ?_
  · rw [show stepA c v d = none by unfold stepA; simp_all]; rfl
  · exact SU
  have hk2 : c.kind = 2 := by simpa using h13
  have hck : checkC c = true := by simpa using h18
  have hri : rightB v d = true := by simpa using h24
  have hcn := checkC_node hck hk2
  have hrb := rightB_is hri
  refine gp Z Z Z (p_move Z) Z <| gp Z Z Z (p_fieldAddr Z fa110_2) Z <| L_op <| G_on Z Z Z <| J_val (v_load Z ty3 HS (by exact rfl)) Z Z Z <| gp Z Z Z (p_add64 Z Z (by omega)) Z <| gp Z Z Z (p_lss Z Z) Z <| L_pur Z (p_pick_f Z Z) <| nq <| C_split Z (fun h30 => ?_) (fun h30 => ?_)
  refine sr <| ag Z Z <| ag Z Z <| ag Z Z <| nq <| J_ret <| Q_then_ret <| J_return (()) Tryz.results322 (.tmp Z (.tmp Z (.tmp Z .nil))) ?_ ?_
  · rw [show stepA c v d = none by unfold stepA; simp_all]; rfl
  · exact SU
  have hge : c.size + 4 ≤ d := by simpa using h30
  refine J_skip <| qx <| mv Z Z <| fa Z Z fa110_2 <| L_val Z (v_load Z ty3 HS (by exact rfl)) <| L_pur Z (p_sub64 Z Z (by omega)) <| ag Z Z <| nq <| J_seq <| J_seq <| J_drawS mixed (by kernel_rfl) <| sm Z Z <| sm Z Z <| sp Z (p_shr Z Z (by omega) (by have : (IntKind.i64.bits : Int) = 64 := rfl; omega)) <| sp Z (p_fieldAddr Z fa110_3) <| S_val Z (v_load Z ty3 HS (by exact rfl)) <| sp Z (p_neq Z Z) <| sq <| C_split Z (fun h40 => ?_) (fun h40 => ?_)
  refine sr <| ag Z Z <| ag Z Z <| ag Z Z <| nq <| J_ret <| Q_then_ret <| J_return (()) Tryz.results322 (.tmp Z (.tmp Z (.tmp Z .nil))) ?_ ?_
  · rw [show stepA c v d = none by unfold stepA; simp_all]; rfl
  · exact SU
  refine J_skip <| qx <| mv Z Z <| L_pur Z (p_sub64 Z Z (by omega)) <| ag Z Z <| nx <| mv Z Z <| mv Z Z <| L_pur Z (p_shr Z Z (by omega) (by have : (IntKind.i64.bits : Int) = 64 := rfl; omega)) <| L_pur Z (p_and Z Z) <| J_slot (t := 46) (v := .int .i64 (v / 2 ^ (d - c.size - 4).toNat % 16)) Z (by rw [and15 (div_small hrb.2.1)]) <| mv Z Z <| ag Z Z <| ag Z Z <| ag Z Z <| nq <| J_ret <| J_return (()) Tryz.results322 (.tmp Z (.tmp Z (.tmp Z .nil))) ?_ ?_
  · rw [show stepA c v d = some (v / 2 ^ (d - c.size - 4).toNat % 16, d - c.size - 4) by unfold stepA; simp_all]; rfl
  · exact SU
variable {ps : List (Place × SV)} {root : Cap}
theorem findG {b o : Nat} (hp : Pick (slA b o ps) l m) {a : Int} (ha : 0 ≤ a ∧ a < 4294967296) :
    Con Tryz.prog 309 #[.pointer (some ⟨b, o, none⟩), .agg (encC root).toArray, .int .u32 a] E l (fun _ : Unit => .tuple #[.agg (encI ((kFind ps root a).getD (0, 0))).toArray, .int .i64 (if (kFind ps root a).isSome then 0 else 2)]) (fun _ => slA b o ps :: m) := by
  refine Con.body (n := 63) Tryz.func309 Z Z _ (env_ok 3 Z) <| J_pick hp <| sr <| L_op <| x_box Z Z Z fun b4 => L_op <| x_alloc ty108 Z fun b6 => ag Z Z <| nx <| mv Z Z <| xo fc321 (A1 Z) Z (splitG ha) fun _ => mv Z Z <| L_pur Z (p_extract Z Z) <| L_pur Z (p_extract Z Z) <| L_pur Z (p_extract Z Z) <| ag Z Z <| ag Z Z <| ag Z Z <| nxx <| mv Z Z <| L_pur Z (p_not Z) <| nq <| C_split Z (fun h23 => ?_) (fun h23 => ?_)
  have hsp : splitA a = none := by
    cases hq : splitA a with
    | none => rfl
    | some y => rw [hq] at h23; simp at h23
  have hfk : kFind ps root a = none := by unfold kFind; rw [hsp]
  refine sr <| L_pur Z (bld108 .nil (by repeat constructor)) <| L_op <| x_store Z Z ty108 Z SM SM RO PT <| ag Z Z <| nq <| J_ret <| Q_then_ret <| J_return (()) Tryz.results309 (.cellA Z ty108 HS CT (.tmp Z .nil)) ?_ ?_
  · rw [hfk]; rfl
  · exact SU
  obtain ⟨⟨v0, d0⟩, hsp⟩ : ∃ x, splitA a = some x := by
    cases hq : splitA a with
    | none => rw [hq] at h23; simp at h23
    | some y => exact ⟨y, rfl⟩
  have hs0 := splitA_is hsp
  have hf0 : findA ps 6 root v0 d0 = kFind ps root a := by unfold kFind; rw [hsp]
  refine J_slot (t := 8) (v := .int .i64 (v0)) Z (by rw [hsp]; rfl) <| J_slot (t := 9) (v := .int .i64 (d0)) Z (by rw [hsp]; rfl) <| J_skip <| qx <| L_val Z (v_loadA Z ty110 HS CT) <| L_op <| x_alloc ty110 Z fun b11 => L_op <| x_store Z Z ty110 Z SM SM RO PT <| nq <| J_seq <| J_seq <| J_pick (A := blk b11 _ _) PC ?_
  refine J_asTo (B := blk b11 110 (encC root)) (by rfl) <| J_region <| mv Z Z <| nq <| J_block <| J_loop (α := Nat × Cap × Int × Int) (fun x => x.1 ≤ 6 ∧ ((0 ≤ x.2.2.2 ∧ x.2.2.2 ≤ 24) ∧ (0 ≤ x.2.2.1 ∧ x.2.2.1 < 16777216)) ∧ findA ps (6 - x.1) x.2.1 x.2.2.1 x.2.2.2 = kFind ps root a) (fun x => blk b11 110 (encC x.2.1) :: blk b6 108 [.int .i64 0, .int .i64 0] :: slA b o ps :: m) (fun x => [(26, .int .i64 (x.1 : Int)), (8, .int .i64 x.2.2.1), (9, .int .i64 x.2.2.2), (0, .pointer (some ⟨b, o, none⟩)), (11, .pointer (some ⟨b11, 0, none⟩)), (6, .pointer (some ⟨b6, 0, none⟩))]) (fun x => 6 - x.1) (0, root, v0, d0) ⟨by omega, hs0, hf0⟩ SU KE ?_
  intro x hx
  obtain ⟨k, c, v, d⟩ := x
  obtain ⟨hk, hv, hf⟩ := hx
  dsimp only at hk hv hf ⊢
  refine sr <| L_pur Z (p_lss Z Z) <| nq <| J_seq <| C_dec Z (fun h27 => ?_) (fun h27 => ?_)
  obtain ⟨n, hn⟩ : ∃ n, 6 - k = n + 1 := ⟨5 - k, by omega⟩
  rw [hn, findA] at hf
  refine J_skip <| Q_then <| J_seq <| J_block <| sr <| L_val Z (v_loadA Z ty110 HS CT) <| mv Z Z <| mv Z Z <| xo fc322 (A3 Z Z Z) Z (stepG (c := c) (v := v) (d := d)) fun _ => mv Z Z <| L_pur Z (p_extract Z Z) <| L_pur Z (p_extract Z Z) <| L_pur Z (p_extract Z Z) <| ag Z Z <| ag Z Z <| ag Z Z <| nxx <| mv Z Z <| L_pur Z (p_not Z) <| nq <| C_split Z (fun h37 => ?_) (fun h37 => ?_)
  have hst : stepA c v d = none := by
    cases hq : stepA c v d with
    | none => rfl
    | some y => rw [hq] at h37; simp at h37
  rw [hst] at hf
  have hfk : kFind ps root a = none := hf.symm
  refine sr <| L_pur Z (bld108 .nil (by repeat constructor)) <| L_op <| x_store Z Z ty108 Z SM SM RO PT <| ag Z Z <| nq <| J_ret <| Q_then_ret <| Q_blk_ret <| Q_then_ret <| Q_then_ret <| Q_blk_ret <| Q_then_ret <| J_return (()) Tryz.results309 (.cellA Z ty108 HS CT (.tmp Z .nil)) ?_ ?_
  · rw [hfk]; rfl
  · exact SU
  obtain ⟨⟨j, r⟩, hst⟩ : ∃ x, stepA c v d = some x := by
    cases hq : stepA c v d with
    | none => rw [hq] at h37; simp at h37
    | some y => exact ⟨y, rfl⟩
  rw [hst] at hf
  have hjr := stepA_is hst
  refine J_slot (t := 12) (v := .int .i64 (j)) Z (by rw [hst]; rfl) <| J_slot (t := 13) (v := .int .i64 (r)) Z (by rw [hst]; rfl) <| J_skip <| qx <| fa Z Z fa110_1 <| L_val Z (v_load Z ty3 HS (by exact rfl)) <| mv Z Z <| L_pur Z (bld108 (.cons Z (.cons Z .nil)) (by repeat constructor)) <| L_op <| x_alloc ty108 Z fun b15 => L_op <| x_store Z Z ty108 Z SM SM RO PT <| J_pick (A := blk b15 _ _) PC <| J_asTo (B := blk b15 108 (encI (c.obj, j))) (by rfl) <| nxx <| mv Z Z <| L_pur Z (p_eql Z Z) <| nq <| C_dec Z (fun h44 => ?_) (fun h44 => ?_)
  have hfk : kFind ps root a = some (c.obj, j) := by rw [← hf]; exact if_pos h44
  refine sr <| L_val Z (v_loadA Z ty108 HS CT) <| L_op <| x_store Z Z ty108 Z SM SM RO PT <| ag Z Z <| nq <| J_ret <| Q_then_ret <| Q_blk_ret <| Q_then_ret <| Q_then_ret <| Q_blk_ret <| Q_then_ret <| J_return (()) Tryz.results309 (.cellA Z ty108 HS CT (.tmp Z .nil)) ?_ ?_
  · rw [hfk]; rfl
  · exact SU
  dsimp only at hf
  rw [if_neg h44] at hf
  refine J_skip <| Q_then <| J_seq <| sr <| mv Z Z <| L_val Z (v_loadA Z ty108 HS CT) <| xo fc277 (A2 Z Z) Z (slGetC (ps := ps) (p := (c.obj, j)) PC) fun _ => mv Z Z <| L_pur Z (p_extract Z Z) <| L_pur Z (p_extract Z Z) <| L_op <| x_store Z Z ty110 Z SM SM RO PT <| ag Z Z <| nx <| mv Z Z <| L_pur Z (p_not Z) <| nq <| C_split Z (fun h53 => ?_) (fun h53 => ?_)
  have hsl : look ps (c.obj, j) = none := by
    cases hq : look ps (c.obj, j) with
    | none => rfl
    | some y => rw [hq] at h53; simp at h53
  rw [hsl] at hf
  have hfk : kFind ps root a = none := hf.symm
  refine sr <| L_pur Z (bld108 .nil (by repeat constructor)) <| L_op <| x_store Z Z ty108 Z SM SM RO PT <| ag Z Z <| nq <| J_ret <| Q_then_ret <| Q_blk_ret <| Q_then_ret <| Q_then_ret <| Q_blk_ret <| Q_then_ret <| J_return (()) Tryz.results309 (.cellA Z ty108 HS CT (.tmp Z .nil)) ?_ ?_
  · rw [hfk]; rfl
  · exact SU
  obtain ⟨sv, hsv⟩ : ∃ x, look ps (c.obj, j) = some x := by
    cases hq : look ps (c.obj, j) with
    | none => rw [hq] at h53; simp at h53
    | some y => exact ⟨y, rfl⟩
  rw [hsv] at hf
  refine J_pick (A := blk b11 _ _) PC <| J_asTo (B := blk b11 110 (encC sv.1)) (by rw [hsv]; rfl) ?_
  obtain ⟨rk, hrk⟩ : ∃ rk : Nat, r = rk := ⟨r.toNat, by omega⟩
  obtain ⟨g1, g2, g3⟩ := shl1_24 rk (by omega)
  have hrt : r.toNat = rk := by omega
  have hvm : 0 ≤ v % 2 ^ r.toNat ∧ v % 2 ^ r.toNat < 16777216 := by
    rw [hrt]
    exact ⟨Int.emod_nonneg _ (by omega), by have := Int.emod_lt_of_pos v (b := 2 ^ rk) (by omega); omega⟩
  refine J_skip <| qr <| mv Z Z <| mv Z Z <| L_pur Z (p_shl Z Z (by omega) (by have : (IntKind.i64.bits : Int) = 64 := rfl; omega)) <| J_slot (t := 57) (v := .int .i64 (2 ^ rk)) Z (by rw [← g1]; unfold shl1; rw [hrk]) <| L_pur Z (p_sub64 Z Z (by omega)) <| L_pur Z (p_and Z Z) <| J_slot (t := 59) (v := .int .i64 (v % 2 ^ r.toNat)) Z (by rw [hrt, and_mask64 (by omega) (by omega)]) <| mv Z Z <| ag Z Z <| ag Z Z <| L_nil <| Q_blk_normal <| qr <| L_pur Z (p_add64 Z Z (by omega)) <| mv Z Z <| nq ?_
  exact J_again ((k + 1, sv.1, v % 2 ^ r.toNat, r)) (by show 6 - (k + 1) < 6 - k; omega) (⟨by show k + 1 ≤ 6; omega, ⟨hjr.1, hvm⟩, by rw [← hf]; show findA ps (6 - (k + 1)) _ _ _ = _; rw [show 6 - (k + 1) = n by omega]⟩) SU KE
  have hfk : kFind ps root a = none := by rw [← hf, show 6 - k = 0 by omega]; rfl
  refine J_exit <| Q_then_exit <| Q_then_exit <| Q_blk_this <| qx <| L_pur Z (bld108 .nil (by repeat constructor)) <| L_op <| x_store Z Z ty108 Z SM SM RO PT <| ag Z Z <| nq <| J_ret <| J_return (()) Tryz.results309 (.cellA Z ty108 HS CT (.tmp Z .nil)) ?_ ?_
  · rw [hfk]; rfl
  · exact SU
theorem capG {b o : Nat} (hp : Pick (slA b o ps) l m) {a kind : Int} (ha : 0 ≤ a ∧ a < 4294967296) :
    Con Tryz.prog 285 #[.pointer (some ⟨b, o, none⟩), .agg (encC root).toArray, .int .u32 a, .int .i64 kind] E l (fun _ : Unit => .tuple #[.agg (encC (kCap ps root a kind).1).toArray, .agg (encI (kCap ps root a kind).2.1).toArray, .int .i64 (kCap ps root a kind).2.2]) (fun _ => slA b o ps :: m) := by
  refine Con.body (n := 51) Tryz.func285 Z Z _ (env_ok 4 Z) <| J_pick hp <| sr <| L_op <| x_box Z Z Z fun b5 => L_op <| x_alloc ty110 Z fun b8 => L_op <| x_alloc ty108 Z fun b9 => ag Z Z <| nx <| mv Z Z <| L_val Z (v_loadA Z ty110 HS CT) <| mv Z Z <| xo fc309 (A3 Z Z Z) Z (findG (ps := ps) (root := root) (a := a) PC ha) fun _ => mv Z Z <| L_pur Z (p_extract Z Z) <| L_pur Z (p_extract Z Z) <| L_op <| x_alloc ty108 Z fun b11 => L_op <| x_store Z Z ty108 Z SM SM RO PT <| ag Z Z <| nxx <| mv Z Z <| L_pur Z (p_neq Z Z) <| nq <| C_split Z (fun h23 => ?_) (fun h23 => ?_)
  have hfi : kFind ps root a = none := by
    cases hq : kFind ps root a with
    | none => rfl
    | some y => rw [hq] at h23; simp at h23
  have hca : (kCap ps root a kind) = (c0, (0, 0), 2) := by unfold kCap; rw [hfi]
  refine J_slot (t := 12) (v := .int .i64 (2)) Z (by rw [hfi]; rfl) <| sr <| L_pur Z (bld110 .nil (by repeat constructor)) <| L_pur Z (bld108 .nil (by repeat constructor)) <| mv Z Z <| L_op <| x_store Z Z ty110 Z SM SM RO PT <| L_op <| x_store Z Z ty108 Z SM SM RO PT <| ag Z Z <| nq <| J_ret <| Q_then_ret <| J_return (()) Tryz.results285 (.cellA Z ty110 HS CT (.cellA Z ty108 HS CT (.tmp Z .nil))) ?_ ?_
  · rw [hca]; rfl
  · exact SU
  obtain ⟨pl, hfi⟩ : ∃ x, kFind ps root a = some x := by
    cases hq : kFind ps root a with
    | none => rw [hq] at h23; simp at h23
    | some y => exact ⟨y, rfl⟩
  refine J_pick (A := blk b11 _ _) PC <| J_asTo (B := blk b11 108 (encI pl)) (by rw [hfi]; rfl) <| J_skip <| qx <| mv Z Z <| L_val Z (v_loadA Z ty108 HS CT) <| xo fc277 (A2 Z Z) Z (slGetC (ps := ps) (p := pl) PC) fun _ => mv Z Z <| L_pur Z (p_extract Z Z) <| L_pur Z (p_extract Z Z) <| L_op <| x_alloc ty110 Z fun b13 => L_op <| x_store Z Z ty110 Z SM SM RO PT <| ag Z Z <| nq <| J_seq <| J_block <| sr <| mv Z Z <| L_pur Z (p_not Z) <| ag Z Z <| nq <| C_split Z (fun h33 => ?_) (fun h33 => ?_)
  have hno : look ps pl = none := by
    cases hq : look ps pl with
    | none => rfl
    | some y => rw [hq] at h33; simp at h33
  have hca : (kCap ps root a kind) = (c0, (0, 0), 4) := by unfold kCap; rw [hfi]; dsimp only; rw [hno]
  refine sr <| L_pur Z (bld110 .nil (by repeat constructor)) <| L_pur Z (bld108 .nil (by repeat constructor)) <| L_op <| x_store Z Z ty110 Z SM SM RO PT <| L_op <| x_store Z Z ty108 Z SM SM RO PT <| ag Z Z <| nq <| J_ret <| Q_blk_ret <| Q_then_ret <| J_return (()) Tryz.results285 (.cellA Z ty110 HS CT (.cellA Z ty108 HS CT (.tmp Z .nil))) ?_ ?_
  · rw [hca]; rfl
  · exact SU
  obtain ⟨sv, hsv⟩ : ∃ x, look ps pl = some x := by
    cases hq : look ps pl with
    | none => rw [hq] at h33; simp at h33
    | some y => exact ⟨y, rfl⟩
  refine J_pick (A := blk b13 _ _) PC <| J_asTo (B := blk b13 110 (encC sv.1)) (by rw [hsv]; rfl) <| sr <| mv Z Z <| L_pur Z (p_neq Z Z) <| mv Z Z <| J_gsplit (t := 41) Z (fun h41 => ?_) (fun h41 => ?_)
  refine gp Z Z Z (p_fieldAddr Z fa110_0) Z <| L_op <| G_on Z Z Z <| J_val (v_load Z ty3 HS (by exact rfl)) Z Z Z <| gp Z Z Z (p_move Z) Z <| gp Z Z Z (p_neq Z Z) Z <| L_pur Z (p_pick_t Z Z) <| ag Z Z <| nq <| C_split Z (fun h38 => ?_) (fun h38 => ?_)
  have hca : (kCap ps root a kind) = (c0, (0, 0), 5) := by unfold kCap; rw [hfi]; dsimp only; rw [hsv]; simp_all
  refine sr <| L_pur Z (bld110 .nil (by repeat constructor)) <| L_pur Z (bld108 .nil (by repeat constructor)) <| L_op <| x_store Z Z ty110 Z SM SM RO PT <| L_op <| x_store Z Z ty108 Z SM SM RO PT <| ag Z Z <| nq <| J_ret <| Q_blk_ret <| Q_then_ret <| J_return (()) Tryz.results285 (.cellA Z ty110 HS CT (.cellA Z ty108 HS CT (.tmp Z .nil))) ?_ ?_
  · rw [hca]; rfl
  · exact SU
  have hca : (kCap ps root a kind) = (sv.1, pl, 0) := by unfold kCap; rw [hfi]; dsimp only; rw [hsv]; simp_all
  refine J_skip <| Q_blk_normal <| Q_then <| J_seq <| J_drawL (some 2) mixed <| iv 0 Z Z Z Z (fun _ => v_loadA Z ty110 HS CT) <| I_ready (rs := [1, 2]) SI (by kernel_rfl) (by simp) <| (I_cons Z ?_ (I_cons Z ?_ I_nil))
  refine J_val (v_loadA Z ty108 HS CT) Z Z Z <| i1 2 Z <| x_store Z Z ty110 Z SM SM RO PT <| i1 3 Z <| x_store Z Z ty108 Z SM SM RO PT <| ip 4 Z Z Z Z (p_assign Z) <| i0 <| Q_then <| J_ret <| J_return (()) Tryz.results285 (.cellA Z ty110 HS CT (.cellA Z ty108 HS CT (.tmp Z .nil))) ?_ ?_
  · rw [hca]; rfl
  · exact SU
  refine x_store Z Z ty110 Z SM SM RO PT <| i1 1 Z <| J_val (v_loadA Z ty108 HS CT) Z Z Z <| i1 3 Z <| x_store Z Z ty108 Z SM SM RO PT <| ip 4 Z Z Z Z (p_assign Z) <| i0 <| Q_then <| J_ret <| J_return (()) Tryz.results285 (.cellA Z ty110 HS CT (.cellA Z ty108 HS CT (.tmp Z .nil))) ?_ ?_
  · rw [hca]; rfl
  · exact SU
  have hca : (kCap ps root a kind) = (sv.1, pl, 0) := by unfold kCap; rw [hfi]; dsimp only; rw [hsv]; simp_all
  refine gz Z Z Z Z Z <| gz Z Z Z Z Z <| gz Z Z Z Z Z <| gz Z Z Z Z Z <| L_pur Z (p_pick_f Z Z) <| ag Z Z <| nq <| C_false Z <| J_skip <| Q_blk_normal <| Q_then <| J_seq <| J_drawL (some 2) mixed <| iv 0 Z Z Z Z (fun _ => v_loadA Z ty110 HS CT) <| I_ready (rs := [1, 2]) SI (by kernel_rfl) (by simp) <| (I_cons Z ?_ (I_cons Z ?_ I_nil))
  refine J_val (v_loadA Z ty108 HS CT) Z Z Z <| i1 2 Z <| x_store Z Z ty110 Z SM SM RO PT <| i1 3 Z <| x_store Z Z ty108 Z SM SM RO PT <| ip 4 Z Z Z Z (p_assign Z) <| i0 <| Q_then <| J_ret <| J_return (()) Tryz.results285 (.cellA Z ty110 HS CT (.cellA Z ty108 HS CT (.tmp Z .nil))) ?_ ?_
  · rw [hca]; rfl
  · exact SU
  refine x_store Z Z ty110 Z SM SM RO PT <| i1 1 Z <| J_val (v_loadA Z ty108 HS CT) Z Z Z <| i1 3 Z <| x_store Z Z ty108 Z SM SM RO PT <| ip 4 Z Z Z Z (p_assign Z) <| i0 <| Q_then <| J_ret <| J_return (()) Tryz.results285 (.cellA Z ty110 HS CT (.cellA Z ty108 HS CT (.tmp Z .nil))) ?_ ?_
  · rw [hca]; rfl
  · exact SU
/-! ### plain: slots, by what they hold; a tree of slots -/
def heirs (ps : List (Place × SV)) (q : SV → Bool) : List Place := sortP ((ps.filter fun e => q e.2).map Prod.fst)
def kids (ps : List (Place × SV)) (p : Place) : List Place := if (look ps p).isSome then heirs ps fun s => decide (s.2 = p) else []
def namesC (a b : Cap) : Bool := decide (a.kind = b.kind) && decide (a.obj = b.obj) && (decide (a.kind ≠ 1) || decide (a.size = b.size))
def named (ps : List (Place × SV)) (c : Cap) : List Place := heirs ps fun s => namesC s.1 c
theorem heirs_mem {q : SV → Bool} {a : Place} : a ∈ heirs ps q ↔ ∃ s, (a, s) ∈ ps ∧ q s = true := by
  unfold heirs sortP
  rw [sortF_mem, List.mem_map]
  constructor
  · rintro ⟨e, he, rfl⟩
    have := List.mem_filter.1 he
    exact ⟨e.2, this.1, this.2⟩
  · rintro ⟨s, h1, h2⟩
    exact ⟨(a, s), List.mem_filter.2 ⟨h1, h2⟩, rfl⟩
def turnL (ps : List (Place × SV)) (to : Place) (l : List Place) : List (Place × SV) := l.foldl (fun t k => ins t k (((look t k).getD s0).1, to)) ps
def turnS (ps : List (Place × SV)) (a to : Place) : List (Place × SV) := turnL ps to (kids ps a)
theorem turnL_some {to a : Place} : ∀ {l : List Place} {ps : List (Place × SV)}, (look ps a).isSome = true → (look (turnL ps to l) a).isSome = true
  | [], _, h => h
  | k :: l, ps, h => turnL_some (l := l) (ps := ins ps k (((look ps k).getD s0).1, to)) (by rw [look_ins]; split <;> simp [h])
def dropS (ps : List (Place × SV)) (p : Place) : List (Place × SV) := match look ps p with
  | none => ps
  | some s => del (turnS ps p s.2) p
def moveOk (ps : List (Place × SV)) (a b : Place) : Bool := (look ps a).isSome && canP b && !(look ps b).isSome
def moveS (ps : List (Place × SV)) (a b : Place) : List (Place × SV) := if moveOk ps a b then ins (del (turnS ps a b) a) b ((look ps a).getD s0) else ps
def belowL (ps : List (Place × SV)) : Nat → List Place → List Place → Option (List Place)
  | _, done, [] => some done
  | 0, _, _ :: _ => none
  | n + 1, done, p :: ts => belowL ps n (done ++ [p]) (ts ++ kids ps p)
theorem J_slKeyd {b o : Nat} (k : Keyd ps → Jk E (slA b o ps :: l) n F K) : Jk E (slA b o ps :: l) n F K :=
  J_slO fun ob _ => J_mapV (ek := kI) (ev := evS) (ps := ps) HS (fun _ h1 => by
    subst h1
    exact J_slS (b := b) (o := o) (ps := []) ob PX trivial (k Keyd.nil)) (fun bm _ hK => J_slS (b := b) (o := o) (ps := ps) ob PX trivial (k hK))
/-! ### plain: copies, moves; what a deletion takes -/
def bothS (ps : List (Place × SV)) (p q : Place) : Cap × Int := match look ps p with
  | none => (c0, 4)
  | some s => if canP q = false then (c0, 7) else if (look ps q).isSome then (c0, 3) else (s.1, 0)
def lessC (c : Cap) (r : Int) : Cap := { c with rights := bits .and .i64 c.rights (bits .and .i64 r 7) }
def badgeC (c : Cap) (n : Int) : Cap × Int :=
  if c.kind = 4 ∨ c.kind = 5 then (if c.badge ≠ 0 ∨ n = 0 then (c0, 12) else if n > 2147483647 then (c0, 7) else ({ c with badge := n }, 0))
  else if c.kind = 2 then (if checkC { c with size := n % 256, badge := n / 256 } = true then ({ c with size := n % 256, badge := n / 256 }, 0) else (c0, 7))
  else (c0, 5)
def copyS (ps : List (Place × SV)) (p q : Place) (r : Int) : List (Place × SV) × Int :=
  if (bothS ps p q).2 ≠ 0 then (ps, (bothS ps p q).2) else if r < 0 ∨ r > 7 then (ps, 7) else (slPut ps q (lessC (bothS ps p q).1 r) p, 0)
def mintS (ps : List (Place × SV)) (p q : Place) (n : Int) : List (Place × SV) × Int :=
  if (bothS ps p q).2 ≠ 0 then (ps, (bothS ps p q).2) else if (badgeC (bothS ps p q).1 n).2 ≠ 0 then (ps, (badgeC (bothS ps p q).1 n).2) else (slPut ps q (badgeC (bothS ps p q).1 n).1 p, 0)
def dmoveS (ps : List (Place × SV)) (p q : Place) : List (Place × SV) × Int := (if (bothS ps p q).2 = 0 then moveS ps p q else ps, (bothS ps p q).2)
theorem has_some {p a : Place} (h : a ∈ kids ps p) : (look ps a).isSome = true := by
  unfold kids at h
  split at h
  · obtain ⟨s, h1, _⟩ := heirs_mem.1 h
    cases hq : look ps a with
    | none => exact absurd (List.mem_map.2 ⟨(a, s), h1, rfl⟩) (look_none_iff.1 hq)
    | some y => rfl
  · cases h
theorem ins_len {a : Place} {u : SV} (h : (look ps a).isSome = true) : (ins ps a u).length = ps.length := by
  unfold Go.Pse.ins; rw [if_pos h, List.length_map]
theorem turnL_len {to : Place} : ∀ {l : List Place} {ps : List (Place × SV)}, (∀ a ∈ l, (look ps a).isSome = true) → (turnL ps to l).length = ps.length
  | [], _, _ => rfl
  | k :: l, ps, h => by
    have h1 := turnL_len (to := to) (l := l) (ps := ins ps k (((look ps k).getD s0).1, to)) fun a ha => by
      rw [look_ins]; split
      · rfl
      · exact h a (List.mem_cons_of_mem _ ha)
    show (turnL (ins ps k (((look ps k).getD s0).1, to)) to l).length = _
    rw [h1, ins_len (h k List.mem_cons_self)]
theorem turnS_len (ps : List (Place × SV)) (a to : Place) : (turnS ps a to).length = ps.length := turnL_len fun _ h => has_some h
theorem dropS_len {p : Place} {s : SV} (h : look ps p = some s) : (dropS ps p).length + 1 ≤ ps.length := by
  have e : dropS ps p = del (turnS ps p s.2) p := by unfold dropS; rw [h]
  have h1 : (look (turnS ps p s.2) p).isSome = true := turnL_some (by rw [h]; rfl)
  obtain ⟨y, hy⟩ := Option.isSome_iff_exists.1 h1
  have := del_less hy
  rw [e, turnS_len] at *
  exact this
abbrev Obj2 := Int × Int
def dropK1 (D : List (Place × SV) → Place → List (Place × SV) × List Obj2) (u : Int) (x : List (Place × SV) × List Obj2) (k : Nat) : List (Place × SV) × List Obj2 := match D x.1 (u, (k : Int)) with
  | (t, o) => (t, x.2 ++ o)
def dropK (D : List (Place × SV) → Place → List (Place × SV) × List Obj2) (u : Int) (n : Nat) (x : List (Place × SV) × List Obj2) : List (Place × SV) × List Obj2 := (List.range n).foldl (dropK1 D u) x
def kDropT : Nat → List (Place × SV) → Place → List (Place × SV) × List Obj2
  | 0, ps, _ => (ps, [])
  | n + 1, ps, p => match look ps p with
    | none => (ps, [])
    | some s => match named (dropS ps p) s.1 with
      | _ :: _ => (dropS ps p, [])
      | [] => if s.1.kind = 2 then dropK (kDropT n) s.1.obj 16 (dropS ps p, [(s.1.kind, s.1.obj)]) else (dropS ps p, [(s.1.kind, s.1.obj)])
variable {u : Int}
theorem dropK_succ {D : List (Place × SV) → Place → List (Place × SV) × List Obj2} {x : List (Place × SV) × List Obj2} : dropK D u (n + 1) x = ((D (dropK D u n x).1 (u, (n : Int))).1, (dropK D u n x).2 ++ (D (dropK D u n x).1 (u, (n : Int))).2) := by
  unfold dropK
  rw [List.range_succ, List.foldl_append]
  rfl
theorem dropK_len {D : List (Place × SV) → Place → List (Place × SV) × List Obj2} (hD : ∀ ps p, (D ps p).1.length + (D ps p).2.length ≤ ps.length) {u : Int} {x : List (Place × SV) × List Obj2} : ∀ n, (dropK D u n x).1.length + (dropK D u n x).2.length ≤ x.1.length + x.2.length
  | 0 => Nat.le_refl _
  | n + 1 => by
    rw [dropK_succ]
    have h1 := dropK_len hD (u := u) (x := x) n
    have h2 := hD (dropK D u n x).1 (u, (n : Int))
    simp only [List.length_append]
    omega
theorem kDropT_len : ∀ n ps p, (kDropT n ps p).1.length + (kDropT n ps p).2.length ≤ ps.length
  | 0, ps, p => Nat.le_refl _
  | n + 1, ps, p => by
    rw [kDropT]
    split
    · simp
    · rename_i s hs
      have h1 := dropS_len hs
      split
      · simp; omega
      · split
        · have := dropK_len (kDropT_len n) (u := s.1.obj) (x := (dropS ps p, [(s.1.kind, s.1.obj)])) 16
          simp at this ⊢
          omega
        · simp; omega
theorem dropK_le {D : List (Place × SV) → Place → List (Place × SV) × List Obj2} (hD : ∀ ps p, (D ps p).1.length + (D ps p).2.length ≤ ps.length) {x : List (Place × SV) × List Obj2} (n : Nat) : (dropK D u n x).1.length ≤ x.1.length := by
  induction n with
  | zero => exact Nat.le_refl _
  | succ n ih =>
    rw [dropK_succ]
    have h2 := hD (dropK D u n x).1 (u, (n : Int))
    show (D (dropK D u n x).1 (u, (n : Int))).1.length ≤ _
    omega
theorem kDropT_less {p : Place} {s : SV} (h : look ps p = some s) : (kDropT (n + 1) ps p).1.length < ps.length := by
  have h1 := dropS_len h
  rw [kDropT, h]
  dsimp only
  split
  · exact h1
  · split
    · have := dropK_le (kDropT_len n) (u := s.1.obj) (x := (dropS ps p, [(s.1.kind, s.1.obj)])) 16
      simp only at this
      omega
    · exact h1
def deleteS (ps : List (Place × SV)) (p : Place) : (List (Place × SV) × List Obj2) × Int := match look ps p with
  | none => ((ps, []), 4)
  | some _ => (kDropT ps.length ps p, 0)
def belowS (ps : List (Place × SV)) (p : Place) : Option (List Place) := (belowL ps ps.length [] (kids ps p)).map sortP
def revL (p : Place) : Nat → List (Place × SV) → List Obj2 → Option (List (Place × SV) × List Obj2)
  | 0, _, _ => none
  | n + 1, ps, out => match belowS ps p with
    | none => none
    | some [] => some (ps, out)
    | some (a :: _) => match kDropT ps.length ps a with
      | (t, o) => revL p n t (out ++ o)
def revokeS (ps : List (Place × SV)) (p : Place) : (List (Place × SV) × List Obj2) × Int := match look ps p with
  | none => ((ps, []), 4)
  | some _ => ((revL p (ps.length + 1) ps []).getD (ps, []), 0)
def RevOk (ps : List (Place × SV)) (p : Place) : Prop := (look ps p).isSome = true → (revL p (ps.length + 1) ps []).isSome = true
theorem revL_below {p : Place} {out : List Obj2} {r : List (Place × SV) × List Obj2} (h : revL p n ps out = some r) : ∃ L, belowS ps p = some L := by
  cases n with
  | zero => simp [revL] at h
  | succ n =>
    cases hb : belowS ps p with
    | none => rw [revL, hb] at h; cases h
    | some L => exact ⟨L, rfl⟩
theorem revL_step {p a : Place} {out : List Obj2} {ls : List Place} (hb : belowS ps p = some (a :: ls)) : revL p (n + 1) ps out = revL p n (kDropT ps.length ps a).1 (out ++ (kDropT ps.length ps a).2) := by rw [revL, hb]
theorem bothG {b o : Nat} (hp : Pick (slA b o ps) l m) {p q : Place} :
    Con Tryz.prog 272 #[.pointer (some ⟨b, o, none⟩), .agg (encI p).toArray, .agg (encI q).toArray] E l (fun _ : Unit => .tuple #[.agg (encC (bothS ps p q).1).toArray, .int .i64 (bothS ps p q).2]) (fun _ => slA b o ps :: m) := by
  refine Con.body (n := 49) Tryz.func272 Z Z _ (env_ok 3 Z) <| J_pick hp <| sr <| L_op <| x_box Z Z Z fun b4 => L_op <| x_box Z Z Z fun b5 => L_op <| x_alloc ty110 Z fun b6 => ag Z Z <| nx <| mv Z Z <| L_val Z (v_loadA Z ty108 HS CT) <| xo fc277 (A2 Z Z) Z (slGetC (ps := ps) (p := p) PC) fun _ => mv Z Z <| L_pur Z (p_extract Z Z) <| L_pur Z (p_extract Z Z) <| L_op <| x_alloc ty110 Z fun b8 => L_op <| x_store Z Z ty110 Z SM SM RO PT <| ag Z Z <| nxx <| mv Z Z <| L_pur Z (p_not Z) <| nq <| C_split Z (fun h19 => ?_) (fun h19 => ?_)
  have hno : look ps p = none := by
    cases hq : look ps p with
    | none => rfl
    | some y => rw [hq] at h19; simp at h19
  have hbs : (bothS ps p q) = (c0, 4) := by unfold bothS; rw [hno]
  refine sr <| L_pur Z (bld110 .nil (by repeat constructor)) <| L_op <| x_store Z Z ty110 Z SM SM RO PT <| ag Z Z <| nq <| J_ret <| Q_then_ret <| J_return (()) Tryz.results272 (.cellA Z ty110 HS CT (.tmp Z .nil)) ?_ ?_
  · rw [hbs]; rfl
  · exact SU
  obtain ⟨s, hs⟩ : ∃ x, look ps p = some x := by
    cases hq : look ps p with
    | none => rw [hq] at h19; simp at h19
    | some y => exact ⟨y, rfl⟩
  refine J_pick (A := blk b8 _ _) PC <| J_asTo (B := blk b8 110 (encC s.1)) (by rw [hs]; rfl) <| J_skip <| Q_then <| J_seq <| sr <| fa Z Z fa108_0 <| L_val Z (v_load Z ty3 HS (by exact rfl)) <| L_pur Z (p_lss Z Z) <| mv Z Z <| J_gsplit (t := 24) Z (fun h24 => ?_) (fun h24 => ?_)
  refine gz Z Z Z Z Z <| gz Z Z Z Z Z <| gz Z Z Z Z Z <| L_pur Z (p_pick_t Z Z) <| mv Z Z <| gz Z Z Z Z Z <| gz Z Z Z Z Z <| gz Z Z Z Z Z <| L_pur Z (p_pick_t Z Z) <| mv Z Z <| gz Z Z Z Z Z <| gz Z Z Z Z Z <| gz Z Z Z Z Z <| L_pur Z (p_pick_t Z Z) <| nq <| C_true Z <| J_seq ?_
  have hcp : canP q = false := by first | (simp_all [canP]; done) | (simp_all [canP] <;> omega)
  have hbs : (bothS ps p q) = (c0, 7) := by unfold bothS; rw [hs]; exact if_pos hcp
  refine J_region <| L_pur Z (bld110 .nil (by repeat constructor)) <| L_op <| x_store Z Z ty110 Z SM SM RO PT <| ag Z Z <| nq <| J_ret <| Q_then_ret <| J_return (()) Tryz.results272 (.cellA Z ty110 HS CT (.tmp Z .nil)) ?_ ?_
  · rw [hbs]; rfl
  · exact SU
  refine gp Z Z Z (p_fieldAddr Z fa108_0) Z <| L_op <| G_on Z Z Z <| J_val (v_load Z ty3 HS (by exact rfl)) Z Z Z <| gp Z Z Z (p_gtr Z Z) Z <| L_pur Z (p_pick_f Z Z) <| mv Z Z <| J_gsplit (t := 29) Z (fun h29 => ?_) (fun h29 => ?_)
  refine gz Z Z Z Z Z <| gz Z Z Z Z Z <| gz Z Z Z Z Z <| L_pur Z (p_pick_t Z Z) <| mv Z Z <| gz Z Z Z Z Z <| gz Z Z Z Z Z <| gz Z Z Z Z Z <| L_pur Z (p_pick_t Z Z) <| nq <| C_true Z <| J_seq ?_
  have hcp : canP q = false := by first | (simp_all [canP]; done) | (simp_all [canP] <;> omega)
  have hbs : (bothS ps p q) = (c0, 7) := by unfold bothS; rw [hs]; exact if_pos hcp
  refine J_region <| L_pur Z (bld110 .nil (by repeat constructor)) <| L_op <| x_store Z Z ty110 Z SM SM RO PT <| ag Z Z <| nq <| J_ret <| Q_then_ret <| J_return (()) Tryz.results272 (.cellA Z ty110 HS CT (.tmp Z .nil)) ?_ ?_
  · rw [hbs]; rfl
  · exact SU
  refine gp Z Z Z (p_fieldAddr Z fa108_1) Z <| L_op <| G_on Z Z Z <| J_val (v_load Z ty3 HS (by exact rfl)) Z Z Z <| gp Z Z Z (p_lss Z Z) Z <| L_pur Z (p_pick_f Z Z) <| mv Z Z <| J_gsplit (t := 34) Z (fun h34 => ?_) (fun h34 => ?_)
  refine gz Z Z Z Z Z <| gz Z Z Z Z Z <| gz Z Z Z Z Z <| L_pur Z (p_pick_t Z Z) <| nq <| C_true Z <| J_seq ?_
  have hcp : canP q = false := by first | (simp_all [canP]; done) | (simp_all [canP] <;> omega)
  have hbs : (bothS ps p q) = (c0, 7) := by unfold bothS; rw [hs]; exact if_pos hcp
  refine J_region <| L_pur Z (bld110 .nil (by repeat constructor)) <| L_op <| x_store Z Z ty110 Z SM SM RO PT <| ag Z Z <| nq <| J_ret <| Q_then_ret <| J_return (()) Tryz.results272 (.cellA Z ty110 HS CT (.tmp Z .nil)) ?_ ?_
  · rw [hbs]; rfl
  · exact SU
  refine gp Z Z Z (p_fieldAddr Z fa108_1) Z <| L_op <| G_on Z Z Z <| J_val (v_load Z ty3 HS (by exact rfl)) Z Z Z <| gp Z Z Z (p_geq Z Z) Z <| L_pur Z (p_pick_f Z Z) <| nq <| C_split Z (fun h38 => ?_) (fun h38 => ?_)
  refine J_seq ?_
  have hcp : canP q = false := by first | (simp_all [canP]; done) | (simp_all [canP] <;> omega)
  have hbs : (bothS ps p q) = (c0, 7) := by unfold bothS; rw [hs]; exact if_pos hcp
  refine J_region <| L_pur Z (bld110 .nil (by repeat constructor)) <| L_op <| x_store Z Z ty110 Z SM SM RO PT <| ag Z Z <| nq <| J_ret <| Q_then_ret <| J_return (()) Tryz.results272 (.cellA Z ty110 HS CT (.tmp Z .nil)) ?_ ?_
  · rw [hbs]; rfl
  · exact SU
  refine J_skip <| Q_then <| J_seq <| J_seq ?_
  have hcp : canP q = true := by first | (simp_all [canP]; done) | (simp_all [canP] <;> omega)
  refine J_region <| mv Z Z <| L_val Z (v_loadA Z ty108 HS CT) <| xo fc277 (A2 Z Z) Z (slGetC (ps := ps) (p := q) PC) fun _ => mv Z Z <| L_pur Z (p_extract Z Z) <| L_pur Z (p_extract Z Z) <| L_op <| x_alloc ty110 Z fun b10 => L_op <| x_store Z Z ty110 Z SM SM RO PT <| ag Z Z <| nx <| mv Z Z <| nq <| C_split Z (fun h46 => ?_) (fun h46 => ?_)
  have hbs : (bothS ps p q) = (c0, 3) := by unfold bothS; rw [hs]; dsimp only; rw [if_neg (by rw [hcp]; decide), if_pos h46]
  refine sr <| L_pur Z (bld110 .nil (by repeat constructor)) <| L_op <| x_store Z Z ty110 Z SM SM RO PT <| ag Z Z <| nq <| J_ret <| Q_then_ret <| J_return (()) Tryz.results272 (.cellA Z ty110 HS CT (.tmp Z .nil)) ?_ ?_
  · rw [hbs]; rfl
  · exact SU
  have hbs : (bothS ps p q) = (s.1, 0) := by unfold bothS; rw [hs]; dsimp only; rw [if_neg (by rw [hcp]; decide), if_neg (by rw [h46]; decide)]
  refine J_skip <| qx <| L_val Z (v_loadA Z ty110 HS CT) <| L_op <| x_store Z Z ty110 Z SM SM RO PT <| ag Z Z <| nq <| J_ret <| J_return (()) Tryz.results272 (.cellA Z ty110 HS CT (.tmp Z .nil)) ?_ ?_
  · rw [hbs]; rfl
  · exact SU
theorem badgeG {c : Cap} {n : Int} (hn : 0 ≤ n ∧ n < 4294967296) :
    Con Tryz.prog 274 #[.agg (encC c).toArray, .int .u32 n] E l (fun _ : Unit => .tuple #[.agg (encC (badgeC c n).1).toArray, .int .i64 (badgeC c n).2]) (fun _ => l) := by
  refine Con.body (n := 42) Tryz.func274 Z Z _ (env_ok 2 Z) <| sr <| L_op <| x_box Z Z Z fun b2 => L_op <| x_alloc ty110 Z fun b4 => ag Z Z <| nxx <| fa Z Z fa110_0 <| L_val Z (v_load Z ty3 HS (by exact rfl)) <| nq <| J_block <| J_seq <| sr <| L_pur Z (p_eql Z Z) <| ag Z Z <| nq <| C_split Z (fun h8 => ?_) (fun h8 => ?_)
  refine J_skip <| Q_then <| C_split Z (fun h8 => ?_) (fun h8 => ?_)
  refine J_seq <| sr <| fa Z Z fa110_3 <| L_val Z (v_load Z ty3 HS (by exact rfl)) <| L_pur Z (p_neq Z Z) <| mv Z Z <| J_gsplit (t := 14) Z (fun h14 => ?_) (fun h14 => ?_)
  refine gz Z Z Z Z Z <| gz Z Z Z Z Z <| L_pur Z (p_pick_t Z Z) <| nq <| C_true Z <| sr <| L_pur Z (bld110 .nil (by repeat constructor)) <| L_op <| x_store Z Z ty110 Z SM SM RO PT <| ag Z Z <| nq <| J_ret <| Q_then_ret <| Q_blk_ret <| Q_then_ret <| J_return (()) Tryz.results274 (.cellA Z ty110 HS CT (.tmp Z .nil)) ?_ ?_
  · first | rfl | (simp_all [one, badgeC, c0, encC]; done) | (simp_all [one, badgeC, c0, encC] <;> first | omega | (rw [if_neg (by omega)]; simp))
  · exact SU
  refine gp Z Z Z (p_move Z) Z <| gp Z Z Z (p_eql Z Z) Z <| L_pur Z (p_pick_f Z Z) <| nq <| C_split Z (fun h17 => ?_) (fun h17 => ?_)
  refine sr <| L_pur Z (bld110 .nil (by repeat constructor)) <| L_op <| x_store Z Z ty110 Z SM SM RO PT <| ag Z Z <| nq <| J_ret <| Q_then_ret <| Q_blk_ret <| Q_then_ret <| J_return (()) Tryz.results274 (.cellA Z ty110 HS CT (.tmp Z .nil)) ?_ ?_
  · first | rfl | (simp_all [one, badgeC, c0, encC]; done) | (simp_all [one, badgeC, c0, encC] <;> first | omega | (rw [if_neg (by omega)]; simp))
  · exact SU
  refine J_skip <| Q_then <| J_seq <| sr <| mv Z Z <| L_pur Z (p_gtr Z Z) <| nq <| C_split Z (fun h20 => ?_) (fun h20 => ?_)
  refine sr <| L_pur Z (bld110 .nil (by repeat constructor)) <| L_op <| x_store Z Z ty110 Z SM SM RO PT <| ag Z Z <| nq <| J_ret <| Q_then_ret <| Q_blk_ret <| Q_then_ret <| J_return (()) Tryz.results274 (.cellA Z ty110 HS CT (.tmp Z .nil)) ?_ ?_
  · first | rfl | (simp_all [one, badgeC, c0, encC]; done) | (simp_all [one, badgeC, c0, encC] <;> first | omega | (rw [if_neg (by omega)]; simp))
  · exact SU
  refine J_skip <| qx <| mv Z Z <| L_pur Z (p_conv Z Tryz.underlying22 Tryz.underlying3) <| J_slot (t := 23) (v := .int .i64 (n)) Z (by rw [wrap64_of (by omega)]) <| fa Z Z fa110_3 <| L_op <| x_store Z Z ty3 Z SM SM RO PT <| nx <| L_val Z (v_loadA Z ty110 HS CT) <| L_op <| x_store Z Z ty110 Z SM SM RO PT <| ag Z Z <| nq <| J_ret <| Q_blk_ret <| Q_then_ret <| J_return (()) Tryz.results274 (.cellA Z ty110 HS CT (.tmp Z .nil)) ?_ ?_
  · first | rfl | (simp_all [one, badgeC, c0, encC]; done) | (simp_all [one, badgeC, c0, encC] <;> first | omega | (rw [if_neg (by omega)]; simp))
  · exact SU
  refine sr <| L_pur Z (p_eql Z Z) <| ag Z Z <| nq <| C_split Z (fun h26 => ?_) (fun h26 => ?_)
  refine sr <| mv Z Z <| L_pur Z (p_and Z Z) <| J_slot (t := 29) (v := .int .u32 (n % 256)) Z (by congr 1; exact and_mask (n := n) (k := 8) (by omega) hn) <| L_pur Z (p_conv Z Tryz.underlying22 Tryz.underlying3) <| J_slot (t := 30) (v := .int .i64 (n % 256)) Z (by rw [wrap64_of (by omega)]) <| mv Z Z <| L_pur Z (p_shr Z Z (by omega) (by decide)) <| J_slot (t := 32) (v := .int .u32 (n / 256)) Z (by rfl) <| L_pur Z (p_conv Z Tryz.underlying22 Tryz.underlying3) <| J_slot (t := 33) (v := .int .i64 (n / 256)) Z (by rw [wrap64_of (by omega)]) <| fa Z Z fa110_2 <| L_op <| x_store Z Z ty3 Z SM SM RO PT <| fa Z Z fa110_3 <| L_op <| x_store Z Z ty3 Z SM SM RO PT <| nxx <| L_val Z (v_loadA Z ty110 HS CT) <| xo fc104 (A1 Z) Z (cCheck (c := { c with size := n % 256, badge := n / 256 })) fun _ => L_pur Z (p_not Z) <| nq <| C_split Z (fun h38 => ?_) (fun h38 => ?_)
  refine sr <| L_pur Z (bld110 .nil (by repeat constructor)) <| L_op <| x_store Z Z ty110 Z SM SM RO PT <| ag Z Z <| nq <| J_ret <| Q_then_ret <| Q_blk_ret <| Q_then_ret <| J_return (()) Tryz.results274 (.cellA Z ty110 HS CT (.tmp Z .nil)) ?_ ?_
  · first | rfl | (simp_all [one, badgeC, c0, encC]; done) | (simp_all [one, badgeC, c0, encC] <;> first | omega | (rw [if_neg (by omega)]; simp))
  · exact SU
  refine J_skip <| qx <| L_val Z (v_loadA Z ty110 HS CT) <| L_op <| x_store Z Z ty110 Z SM SM RO PT <| ag Z Z <| nq <| J_ret <| Q_blk_ret <| Q_then_ret <| J_return (()) Tryz.results274 (.cellA Z ty110 HS CT (.tmp Z .nil)) ?_ ?_
  · first | rfl | (simp_all [one, badgeC, c0, encC]; done) | (simp_all [one, badgeC, c0, encC] <;> first | omega | (rw [if_neg (by omega)]; simp))
  · exact SU
  refine J_skip <| Q_blk_normal <| qx <| L_pur Z (bld110 .nil (by repeat constructor)) <| L_op <| x_store Z Z ty110 Z SM SM RO PT <| ag Z Z <| nq <| J_ret <| J_return (()) Tryz.results274 (.cellA Z ty110 HS CT (.tmp Z .nil)) ?_ ?_
  · first | rfl | (simp_all [one, badgeC, c0, encC]; done) | (simp_all [one, badgeC, c0, encC] <;> first | omega | (rw [if_neg (by omega)]; simp))
  · exact SU
  refine J_region <| L_pur Z (p_eql Z Z) <| ag Z Z <| nq <| C_split Z (fun h8 => ?_) (fun h8 => ?_)
  refine J_seq <| sr <| fa Z Z fa110_3 <| L_val Z (v_load Z ty3 HS (by exact rfl)) <| L_pur Z (p_neq Z Z) <| mv Z Z <| J_gsplit (t := 14) Z (fun h14 => ?_) (fun h14 => ?_)
  refine gz Z Z Z Z Z <| gz Z Z Z Z Z <| L_pur Z (p_pick_t Z Z) <| nq <| C_true Z <| sr <| L_pur Z (bld110 .nil (by repeat constructor)) <| L_op <| x_store Z Z ty110 Z SM SM RO PT <| ag Z Z <| nq <| J_ret <| Q_then_ret <| Q_blk_ret <| Q_then_ret <| J_return (()) Tryz.results274 (.cellA Z ty110 HS CT (.tmp Z .nil)) ?_ ?_
  · first | rfl | (simp_all [one, badgeC, c0, encC]; done) | (simp_all [one, badgeC, c0, encC] <;> first | omega | (rw [if_neg (by omega)]; simp))
  · exact SU
  refine gp Z Z Z (p_move Z) Z <| gp Z Z Z (p_eql Z Z) Z <| L_pur Z (p_pick_f Z Z) <| nq <| C_split Z (fun h17 => ?_) (fun h17 => ?_)
  refine sr <| L_pur Z (bld110 .nil (by repeat constructor)) <| L_op <| x_store Z Z ty110 Z SM SM RO PT <| ag Z Z <| nq <| J_ret <| Q_then_ret <| Q_blk_ret <| Q_then_ret <| J_return (()) Tryz.results274 (.cellA Z ty110 HS CT (.tmp Z .nil)) ?_ ?_
  · first | rfl | (simp_all [one, badgeC, c0, encC]; done) | (simp_all [one, badgeC, c0, encC] <;> first | omega | (rw [if_neg (by omega)]; simp))
  · exact SU
  refine J_skip <| Q_then <| J_seq <| sr <| mv Z Z <| L_pur Z (p_gtr Z Z) <| nq <| C_split Z (fun h20 => ?_) (fun h20 => ?_)
  refine sr <| L_pur Z (bld110 .nil (by repeat constructor)) <| L_op <| x_store Z Z ty110 Z SM SM RO PT <| ag Z Z <| nq <| J_ret <| Q_then_ret <| Q_blk_ret <| Q_then_ret <| J_return (()) Tryz.results274 (.cellA Z ty110 HS CT (.tmp Z .nil)) ?_ ?_
  · first | rfl | (simp_all [one, badgeC, c0, encC]; done) | (simp_all [one, badgeC, c0, encC] <;> first | omega | (rw [if_neg (by omega)]; simp))
  · exact SU
  refine J_skip <| qx <| mv Z Z <| L_pur Z (p_conv Z Tryz.underlying22 Tryz.underlying3) <| J_slot (t := 23) (v := .int .i64 (n)) Z (by rw [wrap64_of (by omega)]) <| fa Z Z fa110_3 <| L_op <| x_store Z Z ty3 Z SM SM RO PT <| nx <| L_val Z (v_loadA Z ty110 HS CT) <| L_op <| x_store Z Z ty110 Z SM SM RO PT <| ag Z Z <| nq <| J_ret <| Q_blk_ret <| Q_then_ret <| J_return (()) Tryz.results274 (.cellA Z ty110 HS CT (.tmp Z .nil)) ?_ ?_
  · first | rfl | (simp_all [one, badgeC, c0, encC]; done) | (simp_all [one, badgeC, c0, encC] <;> first | omega | (rw [if_neg (by omega)]; simp))
  · exact SU
  refine sr <| L_pur Z (p_eql Z Z) <| ag Z Z <| nq <| C_split Z (fun h26 => ?_) (fun h26 => ?_)
  refine sr <| mv Z Z <| L_pur Z (p_and Z Z) <| J_slot (t := 29) (v := .int .u32 (n % 256)) Z (by congr 1; exact and_mask (n := n) (k := 8) (by omega) hn) <| L_pur Z (p_conv Z Tryz.underlying22 Tryz.underlying3) <| J_slot (t := 30) (v := .int .i64 (n % 256)) Z (by rw [wrap64_of (by omega)]) <| mv Z Z <| L_pur Z (p_shr Z Z (by omega) (by decide)) <| J_slot (t := 32) (v := .int .u32 (n / 256)) Z (by rfl) <| L_pur Z (p_conv Z Tryz.underlying22 Tryz.underlying3) <| J_slot (t := 33) (v := .int .i64 (n / 256)) Z (by rw [wrap64_of (by omega)]) <| fa Z Z fa110_2 <| L_op <| x_store Z Z ty3 Z SM SM RO PT <| fa Z Z fa110_3 <| L_op <| x_store Z Z ty3 Z SM SM RO PT <| nxx <| L_val Z (v_loadA Z ty110 HS CT) <| xo fc104 (A1 Z) Z (cCheck (c := { c with size := n % 256, badge := n / 256 })) fun _ => L_pur Z (p_not Z) <| nq <| C_split Z (fun h38 => ?_) (fun h38 => ?_)
  refine sr <| L_pur Z (bld110 .nil (by repeat constructor)) <| L_op <| x_store Z Z ty110 Z SM SM RO PT <| ag Z Z <| nq <| J_ret <| Q_then_ret <| Q_blk_ret <| Q_then_ret <| J_return (()) Tryz.results274 (.cellA Z ty110 HS CT (.tmp Z .nil)) ?_ ?_
  · first | rfl | (simp_all [one, badgeC, c0, encC]; done) | (simp_all [one, badgeC, c0, encC] <;> first | omega | (rw [if_neg (by omega)]; simp))
  · exact SU
  refine J_skip <| qx <| L_val Z (v_loadA Z ty110 HS CT) <| L_op <| x_store Z Z ty110 Z SM SM RO PT <| ag Z Z <| nq <| J_ret <| Q_blk_ret <| Q_then_ret <| J_return (()) Tryz.results274 (.cellA Z ty110 HS CT (.tmp Z .nil)) ?_ ?_
  · first | rfl | (simp_all [one, badgeC, c0, encC]; done) | (simp_all [one, badgeC, c0, encC] <;> first | omega | (rw [if_neg (by omega)]; simp))
  · exact SU
  refine J_skip <| Q_blk_normal <| qx <| L_pur Z (bld110 .nil (by repeat constructor)) <| L_op <| x_store Z Z ty110 Z SM SM RO PT <| ag Z Z <| nq <| J_ret <| J_return (()) Tryz.results274 (.cellA Z ty110 HS CT (.tmp Z .nil)) ?_ ?_
  · first | rfl | (simp_all [one, badgeC, c0, encC]; done) | (simp_all [one, badgeC, c0, encC] <;> first | omega | (rw [if_neg (by omega)]; simp))
  · exact SU
theorem mintG {b o : Nat} (hp : Pick (slA b o ps) l m) {p q : Place} {n : Int} (hn : 0 ≤ n ∧ n < 4294967296) :
    Con Tryz.prog 210 #[.pointer (some ⟨b, o, none⟩), .agg (encI p).toArray, .agg (encI q).toArray, .int .u32 n] E l (fun _ : Unit => .int .i64 (mintS ps p q n).2) (fun _ => slA b o (mintS ps p q n).1 :: m) := by
  refine Con.body (n := 35) Tryz.func210 Z Z _ (env_ok 4 Z) <| J_pick hp <| sr <| L_op <| x_box Z Z Z fun b5 => L_op <| x_box Z Z Z fun b6 => ag Z Z <| nx <| mv Z Z <| L_val Z (v_loadA Z ty108 HS CT) <| L_val Z (v_loadA Z ty108 HS CT) <| xo fc272 (A3 Z Z Z) Z (bothG (ps := ps) (p := p) (q := q) PC) fun _ => mv Z Z <| L_pur Z (p_extract Z Z) <| L_pur Z (p_extract Z Z) <| L_op <| x_alloc ty110 Z fun b9 => L_op <| x_store Z Z ty110 Z SM SM RO PT <| J_pick (A := blk b9 _ _) PC <| J_asTo (B := blk b9 110 (encC (bothS ps p q).1)) (by rfl) <| ag Z Z <| J_slot (t := 10) (v := .int .i64 ((bothS ps p q).2)) Z (by rfl) <| nxx <| mv Z Z <| L_pur Z (p_neq Z Z) <| nq <| C_split Z (fun h19 => ?_) (fun h19 => ?_)
  refine J_seq ?_
  have hc : mintS ps p q n = (ps, (bothS ps p q).2) := by unfold mintS; exact if_pos (by simpa using h19)
  refine J_region <| mv Z Z <| ag Z Z <| nq <| J_ret <| Q_then_ret <| J_pick (A := slA b o _) PC <| J_asTo (B := slA b o (mintS ps p q n).1) (by rw [hc]) <| J_return (()) Tryz.results210 (.tmp Z .nil) ?_ ?_
  · rw [hc]; rfl
  · exact SU
  have hz0 : ¬ (bothS ps p q).2 ≠ 0 := by simpa using h19
  refine J_skip <| Q_then <| J_seq <| sr <| L_val Z (v_loadA Z ty110 HS CT) <| mv Z Z <| xo fc274 (A2 Z Z) Z (badgeG (c := (bothS ps p q).1) (n := n) hn) fun _ => mv Z Z <| L_pur Z (p_extract Z Z) <| L_pur Z (p_extract Z Z) <| L_op <| x_store Z Z ty110 Z SM SM RO PT <| J_pick (A := blk b9 _ _) PC <| J_asTo (B := blk b9 110 (encC (badgeC (bothS ps p q).1 n).1)) (by rfl) <| ag Z Z <| J_slot (t := 10) (v := .int .i64 ((badgeC (bothS ps p q).1 n).2)) Z (by rfl) <| nx <| mv Z Z <| L_pur Z (p_neq Z Z) <| nq <| C_split Z (fun h28 => ?_) (fun h28 => ?_)
  refine J_seq ?_
  have hc : mintS ps p q n = (ps, (badgeC (bothS ps p q).1 n).2) := by unfold mintS; rw [if_neg hz0]; exact if_pos (by simpa using h28)
  refine J_region <| mv Z Z <| ag Z Z <| nq <| J_ret <| Q_then_ret <| J_pick (A := slA b o _) PC <| J_asTo (B := slA b o (mintS ps p q n).1) (by rw [hc]) <| J_return (()) Tryz.results210 (.tmp Z .nil) ?_ ?_
  · rw [hc]; rfl
  · exact SU
  refine J_skip <| Q_then <| J_seq ?_
  have hc : mintS ps p q n = (slPut ps q (badgeC (bothS ps p q).1 n).1 p, 0) := by unfold mintS; rw [if_neg hz0]; exact if_neg (by simpa using h28)
  refine J_region <| mv Z Z <| L_val Z (v_loadA Z ty108 HS CT) <| L_val Z (v_loadA Z ty110 HS CT) <| L_val Z (v_loadA Z ty108 HS CT) <| xo fc58 (A4 Z Z Z Z) Z (slPutC (ps := ps) (p := q) (c := (badgeC (bothS ps p q).1 n).1) (q := p) PC) fun _ => nx <| ag Z Z <| nq <| J_ret <| J_pick (A := slA b o _) PC <| J_asTo (B := slA b o (mintS ps p q n).1) (by rw [hc]) <| J_return (()) Tryz.results210 (.tmp Z .nil) ?_ ?_
  · rw [hc]; rfl
  · exact SU
/-! ### plain: objects are made of memory -/
def usedM (mr : List (Place × Int)) (r : Place) : Int := (look mr r).getD 0
def mtkOk (mr : List (Place × Int)) (r : Place) (n : Int) : Bool := decide (1 ≤ n) && decide (n ≤ r.2 - usedM mr r)
def mtkM (mr : List (Place × Int)) (r : Place) (n : Int) : List (Place × Int) := if mtkOk mr r n = true then ins mr r (usedM mr r + n) else mr
def mtkV (mr : List (Place × Int)) (r : Place) (n : Int) : Int := if mtkOk mr r n = true then r.1 + usedM mr r else 0
def kindsC (kind size : Int) : Int := if kind = 2 ∨ kind = 3 ∨ kind = 4 ∨ kind = 5 ∨ kind = 7 then (if size ≠ 0 then 7 else 0) else if kind = 1 then (if size < 1 ∨ size > 64 then 7 else 0) else 5
def sizeC (c : Cap) : Int := if c.kind = 1 then c.size else 1
def withinC (c u : Cap) : Bool := !(decide (c.obj ≥ u.obj + u.size) || decide (c.obj + sizeC c ≤ u.obj)) && (decide (c.kind ≠ 1) || decide (c.obj > u.obj) || decide (c.obj + sizeC c < u.obj + u.size))
def bareS (ps : List (Place × SV)) (u : Cap) : Bool := ps.all fun e => !withinC e.2.1 u
def rangeC (c : Cap) : Place := if c.kind ≠ 1 then (0, 0) else (c.obj, c.size)
def CapsOk (ps : List (Place × SV)) : Prop := ∀ e ∈ ps, checkC e.2.1 = true
def MarksOk (mr : List (Place × Int)) : Prop := ∀ e ∈ mr, 0 ≤ e.2 ∧ e.2 ≤ 64
def resetM (ps : List (Place × SV)) (mr : List (Place × Int)) (u : Cap) : List (Place × Int) := if bareS ps u = true then del mr (rangeC u) else mr
def madeC (mr : List (Place × Int)) (u : Cap) (kind size : Int) : Cap := ⟨kind, mtkV mr (rangeC u) (max size 1), size, 0, 7⟩
def makeS (ps : List (Place × SV)) (mr : List (Place × Int)) (p q : Place) (kind size : Int) : (List (Place × SV) × List (Place × Int)) × Cap × Int := match look ps p with
  | none => ((ps, mr), c0, 4)
  | some u => if u.1.kind ≠ 1 then ((ps, mr), c0, 5) else if canP q = false then ((ps, mr), c0, 7) else if (look ps q).isSome then ((ps, mr), c0, 3) else if kindsC kind size ≠ 0 then ((ps, mr), c0, kindsC kind size)
    else if mtkOk (resetM ps mr u.1) (rangeC u.1) (max size 1) = true then ((slPut ps q (madeC (resetM ps mr u.1) u.1 kind size) p, mtkM (resetM ps mr u.1) (rangeC u.1) (max size 1)), madeC (resetM ps mr u.1) u.1 kind size, 0)
    else ((ps, resetM ps mr u.1), c0, 8)
theorem checkC_is {c : Cap} (h : checkC c = true) : (1 ≤ c.obj ∧ c.obj ≤ 64) ∧ (0 ≤ c.size ∧ c.size ≤ 64) ∧ (c.kind = 1 → c.obj + c.size ≤ 65 ∧ 1 ≤ c.size) := by
  unfold checkC inB at h
  simp only [Bool.and_eq_true, decide_eq_true_eq] at h
  obtain ⟨⟨⟨h1, h2⟩, h3⟩, h4⟩ := h
  split at h4
  · simp at h4; omega
  · split at h4
    · simp at h4; omega
    · split at h4 <;> simp at h4 <;> omega
theorem usedM_is {mr : List (Place × Int)} (h : MarksOk mr) (r : Place) : 0 ≤ usedM mr r ∧ usedM mr r ≤ 64 := by
  unfold usedM
  cases hq : look mr r with
  | none => simp
  | some y => exact h _ (mem_look hq)
theorem MarksOk.del {mr : List (Place × Int)} (h : MarksOk mr) (r : Place) : MarksOk (del mr r) := fun e he => h e (List.mem_filter.1 he).1
theorem MarksOk.reset {mr : List (Place × Int)} (h : MarksOk mr) (ps : List (Place × SV)) (u : Cap) : MarksOk (resetM ps mr u) := by
  unfold resetM; split
  · exact h.del _
  · exact h
theorem mkReset {b o : Nat} {mr : List (Place × Int)} (hp : Pick (mkA b o mr) l m) {r : Place} :
    Con Tryz.prog 283 #[.pointer (some ⟨b, o, none⟩), .agg (encI r).toArray] E l (fun _ : Unit => .tuple #[]) (fun _ => mkA b o (del mr r) :: m) := by
  refine Con.body (n := 9) Tryz.func283 Z Z _ (env_ok 2 Z) <| J_pick hp <| J_mkO fun ob _ => sr <| L_op <| x_box Z Z Z fun b3 => nq <| J_drawT 5 mixed (by kernel_rfl) <| sm Z Z <| sp Z (p_nilCheck Z) <| sp Z (p_fieldAddr Z fa129_0) <| S_val Z (v_loadL Z ty127 HS Z (by exact rfl)) <| S_val Z (v_loadA Z ty422 HS CT) <| S_nil <| L_op <| x_delete (ek := kI) (ev := evZ) (a := r) Z Z ky422 Tryz.underlying127 PC <| L_nil <| J_endnormal <| J_mkS (b := b) (o := o) (ps := del mr r) _ PX trivial ?_
  exact J_return (()) Tryz.results283 .nil Z SU
theorem mkTake {b o : Nat} {mr : List (Place × Int)} (hp : Pick (mkA b o mr) l m) {r : Place} {n : Int} (hm : MarksOk mr) (hr : 0 ≤ r.1 ∧ r.1 ≤ 64 ∧ 0 ≤ r.2 ∧ r.2 ≤ 64) :
    Con Tryz.prog 284 #[.pointer (some ⟨b, o, none⟩), .agg (encI r).toArray, .int .i64 n] E l (fun _ : Unit => .tuple #[.int .i64 (mtkV mr r n), .bool (mtkOk mr r n)]) (fun _ => mkA b o (mtkM mr r n) :: m) := by
  refine Con.body (n := 46) Tryz.func284 Z Z _ (env_ok 3 Z) <| J_pick hp <| J_mkO fun ob _ => ?_
  have hus := usedM_is hm r
  refine sr <| L_op <| x_box Z Z Z fun b4 => ag Z Z <| ag Z Z <| nq <| J_seq <| J_drawS mixed (by kernel_rfl) <| sm Z Z <| sp Z (p_nilCheck Z) <| sp Z (p_fieldAddr Z fa129_0) <| S_val Z (v_loadL Z ty127 HS Z (by exact rfl)) <| S_val Z (v_loadA Z ty422 HS CT) <| S_val Z (v_look (ek := kI) (ev := evZ) (a := r) Z Z ky422 Tryz.underlying127 zv3 HS) <| J_slot (t := 14) (v := .int .i64 (usedM mr r)) Z (by unfold usedM; cases look mr r <;> rfl) <| sp Z (p_assign Z) <| sq <| J_seq <| sr <| mv Z Z <| L_pur Z (p_lss Z Z) <| mv Z Z <| J_gsplit (t := 17) Z (fun h17 => ?_) (fun h17 => ?_)
  refine gz Z Z Z Z Z <| gz Z Z Z Z Z <| gz Z Z Z Z Z <| gz Z Z Z Z Z <| gz Z Z Z Z Z <| gz Z Z Z Z Z <| L_pur Z (p_pick_t Z Z) <| nq <| C_true Z <| J_seq ?_
  have hto : mtkOk mr r n = false := by unfold mtkOk; first | (simp_all; done) | (simp_all <;> omega)
  have htm : mtkM mr r n = mr := by unfold mtkM; rw [if_neg (by rw [hto]; decide)]
  have htv : mtkV mr r n = 0 := by unfold mtkV; rw [if_neg (by rw [hto]; decide)]
  refine J_mkS (b := b) (o := o) (ps := mr) _ PX trivial <| J_asTo (B := mkA b o (mtkM mr r n)) (by rw [htm]) <| J_region <| ag Z Z <| ag Z Z <| nq <| J_ret <| Q_then_ret <| J_return (()) Tryz.results284 (.tmp Z (.tmp Z .nil)) ?_ ?_
  · rw [hto, htv]; rfl
  · exact SU
  refine gp Z Z Z (p_move Z) Z <| gp Z Z Z (p_fieldAddr Z fa422_1) Z <| L_op <| G_on Z Z Z <| J_val (v_load Z ty3 HS (by exact rfl)) Z Z Z <| gp Z Z Z (p_move Z) Z <| gp Z Z Z (p_sub64 Z Z (by omega)) Z <| L_op <| G_on Z Z Z <| J_pur (p_gtr Z Z) Z Z Z <| L_pur Z (p_pick_f Z Z) <| nq <| C_split Z (fun h24 => ?_) (fun h24 => ?_)
  refine J_seq ?_
  have hto : mtkOk mr r n = false := by unfold mtkOk; first | (simp_all; done) | (simp_all <;> omega)
  have htm : mtkM mr r n = mr := by unfold mtkM; rw [if_neg (by rw [hto]; decide)]
  have htv : mtkV mr r n = 0 := by unfold mtkV; rw [if_neg (by rw [hto]; decide)]
  refine J_mkS (b := b) (o := o) (ps := mr) _ PX trivial <| J_asTo (B := mkA b o (mtkM mr r n)) (by rw [htm]) <| J_region <| ag Z Z <| ag Z Z <| nq <| J_ret <| Q_then_ret <| J_return (()) Tryz.results284 (.tmp Z (.tmp Z .nil)) ?_ ?_
  · rw [hto, htv]; rfl
  · exact SU
  refine J_skip <| Q_then <| J_seq <| J_seq ?_
  have hto : mtkOk mr r n = true := by unfold mtkOk; simp_all
  have htm : mtkM mr r n = ins mr r (usedM mr r + n) := by unfold mtkM; rw [if_pos hto]
  have htv : mtkV mr r n = r.1 + usedM mr r := by unfold mtkV; rw [if_pos hto]
  have hn2 : 1 ≤ n ∧ n ≤ r.2 - usedM mr r := by unfold mtkOk at hto; simpa using hto
  refine J_region <| mv Z Z <| nc Z Z <| fa Z Z fa129_0 <| L_val Z (v_loadL Z ty127 HS Z (by exact rfl)) <| L_pur Z (p_eqNilMap Tryz.underlying127 Z) <| nq <| C_split Z (fun h29 => ?_) (fun h29 => ?_)
  obtain rfl : ob = none := by simpa using h29
  refine J_mapNone (ps := mr) HS fun hps => ?_
  subst hps
  refine J_region <| mv Z Z <| L_op <| x_makeMap (ek := kI) (ev := evZ) Z fun b31 => nc Z Z <| fa Z Z fa129_0 <| L_op <| x_storeL Z Z ty127 Z SM SM Z RO Z PT <| nq <| J_seq <| J_drawT 8 mixed (by kernel_rfl) <| sm Z Z <| sp Z (p_nilCheck Z) <| sp Z (p_fieldAddr Z fa129_0) <| S_val Z (v_loadL Z ty127 HS Z (by exact rfl)) <| S_val Z (v_loadA Z ty422 HS CT) <| sm Z Z <| sm Z Z <| sp Z (p_add64 Z Z (by omega)) <| S_nil <| L_op <| x_mapUpdate (ek := kI) (ev := evZ) (a := r) (c := usedM _ r + n) Z Z Z ky422 Tryz.underlying127 PC <| J_mkS (b := b) (o := o) (ps := ins [] r (usedM [] r + n)) _ PX trivial <| J_asTo (B := mkA b o (mtkM [] r n)) (by rw [htm]) <| nx <| fa Z Z fa422_0 <| L_val Z (v_load Z ty3 HS (by exact rfl)) <| mv Z Z <| L_pur Z (p_add64 Z Z (by omega)) <| ag Z Z <| ag Z Z <| nq <| J_ret <| J_return (()) Tryz.results284 (.tmp Z (.tmp Z .nil)) ?_ ?_
  · rw [hto, htv]; rfl
  · exact SU
  obtain ⟨bm, rfl⟩ : ∃ bm, ob = some bm := by cases ob with | none => simp at h29 | some x => exact ⟨x, rfl⟩
  refine J_skip <| Q_then <| J_seq <| J_drawT 8 mixed (by kernel_rfl) <| sm Z Z <| sp Z (p_nilCheck Z) <| sp Z (p_fieldAddr Z fa129_0) <| S_val Z (v_loadL Z ty127 HS Z (by exact rfl)) <| S_val Z (v_loadA Z ty422 HS CT) <| sm Z Z <| sm Z Z <| sp Z (p_add64 Z Z (by omega)) <| S_nil <| L_op <| x_mapUpdate (ek := kI) (ev := evZ) (a := r) (c := usedM _ r + n) Z Z Z ky422 Tryz.underlying127 PC <| J_mkS (b := b) (o := o) (ps := ins mr r (usedM mr r + n)) _ PX trivial <| J_asTo (B := mkA b o (mtkM mr r n)) (by rw [htm]) <| nx <| fa Z Z fa422_0 <| L_val Z (v_load Z ty3 HS (by exact rfl)) <| mv Z Z <| L_pur Z (p_add64 Z Z (by omega)) <| ag Z Z <| ag Z Z <| nq <| J_ret <| J_return (()) Tryz.results284 (.tmp Z (.tmp Z .nil)) ?_ ?_
  · rw [hto, htv]; rfl
  · exact SU
variable {z : Int}
theorem kindsG {k : Int} :
    Con Tryz.prog 280 #[.int .i64 k, .int .i64 z] E l (fun _ : Unit => .int .i64 (kindsC k z)) (fun _ => l) := by
  refine Con.body (n := 22) Tryz.func280 Z Z _ (env_ok 2 Z) <| sr <| ag Z Z <| nxx <| mv Z Z <| nq <| J_block <| J_seq <| sr <| L_pur Z (p_eql Z Z) <| ag Z Z <| nq <| C_split Z (fun h6 => ?_) (fun h6 => ?_)
  refine J_skip <| Q_then <| C_split Z (fun h6 => ?_) (fun h6 => ?_)
  refine sr <| mv Z Z <| L_pur Z (p_neq Z Z) <| nq <| C_split Z (fun h13 => ?_) (fun h13 => ?_)
  refine sr <| ag Z Z <| nq <| J_ret <| Q_blk_ret <| Q_then_ret <| J_return (()) Tryz.results280 (.tmp Z .nil) ?_ ?_
  · first | rfl | (simp_all [one, kindsC]; done) | (simp_all [one, kindsC] <;> omega)
  · exact SU
  refine J_skip <| Q_blk_normal <| qx <| ag Z Z <| nq <| J_ret <| J_return (()) Tryz.results280 (.tmp Z .nil) ?_ ?_
  · first | rfl | (simp_all [one, kindsC]; done) | (simp_all [one, kindsC] <;> omega)
  · exact SU
  refine sr <| L_pur Z (p_eql Z Z) <| ag Z Z <| nq <| C_split Z (fun h14 => ?_) (fun h14 => ?_)
  refine sr <| mv Z Z <| L_pur Z (p_lss Z Z) <| mv Z Z <| J_gsplit (t := 18) Z (fun h18 => ?_) (fun h18 => ?_)
  refine gz Z Z Z Z Z <| gz Z Z Z Z Z <| L_pur Z (p_pick_t Z Z) <| nq <| C_true Z <| sr <| ag Z Z <| nq <| J_ret <| Q_blk_ret <| Q_then_ret <| J_return (()) Tryz.results280 (.tmp Z .nil) ?_ ?_
  · first | rfl | (simp_all [one, kindsC]; done) | (simp_all [one, kindsC] <;> omega)
  · exact SU
  refine gp Z Z Z (p_move Z) Z <| gp Z Z Z (p_gtr Z Z) Z <| L_pur Z (p_pick_f Z Z) <| nq <| C_split Z (fun h21 => ?_) (fun h21 => ?_)
  refine sr <| ag Z Z <| nq <| J_ret <| Q_blk_ret <| Q_then_ret <| J_return (()) Tryz.results280 (.tmp Z .nil) ?_ ?_
  · first | rfl | (simp_all [one, kindsC]; done) | (simp_all [one, kindsC] <;> omega)
  · exact SU
  refine J_skip <| Q_blk_normal <| qx <| ag Z Z <| nq <| J_ret <| J_return (()) Tryz.results280 (.tmp Z .nil) ?_ ?_
  · first | rfl | (simp_all [one, kindsC]; done) | (simp_all [one, kindsC] <;> omega)
  · exact SU
  refine sr <| ag Z Z <| nq <| J_ret <| Q_blk_ret <| Q_then_ret <| J_return (()) Tryz.results280 (.tmp Z .nil) ?_ ?_
  · first | rfl | (simp_all [one, kindsC]; done) | (simp_all [one, kindsC] <;> omega)
  · exact SU
  refine sr <| L_pur Z (p_eql Z Z) <| ag Z Z <| nq <| C_split Z (fun h6 => ?_) (fun h6 => ?_)
  refine J_skip <| Q_then <| C_split Z (fun h6 => ?_) (fun h6 => ?_)
  refine sr <| mv Z Z <| L_pur Z (p_neq Z Z) <| nq <| C_split Z (fun h13 => ?_) (fun h13 => ?_)
  refine sr <| ag Z Z <| nq <| J_ret <| Q_blk_ret <| Q_then_ret <| J_return (()) Tryz.results280 (.tmp Z .nil) ?_ ?_
  · first | rfl | (simp_all [one, kindsC]; done) | (simp_all [one, kindsC] <;> omega)
  · exact SU
  refine J_skip <| Q_blk_normal <| qx <| ag Z Z <| nq <| J_ret <| J_return (()) Tryz.results280 (.tmp Z .nil) ?_ ?_
  · first | rfl | (simp_all [one, kindsC]; done) | (simp_all [one, kindsC] <;> omega)
  · exact SU
  refine sr <| L_pur Z (p_eql Z Z) <| ag Z Z <| nq <| C_split Z (fun h14 => ?_) (fun h14 => ?_)
  refine sr <| mv Z Z <| L_pur Z (p_lss Z Z) <| mv Z Z <| J_gsplit (t := 18) Z (fun h18 => ?_) (fun h18 => ?_)
  refine gz Z Z Z Z Z <| gz Z Z Z Z Z <| L_pur Z (p_pick_t Z Z) <| nq <| C_true Z <| sr <| ag Z Z <| nq <| J_ret <| Q_blk_ret <| Q_then_ret <| J_return (()) Tryz.results280 (.tmp Z .nil) ?_ ?_
  · first | rfl | (simp_all [one, kindsC]; done) | (simp_all [one, kindsC] <;> omega)
  · exact SU
  refine gp Z Z Z (p_move Z) Z <| gp Z Z Z (p_gtr Z Z) Z <| L_pur Z (p_pick_f Z Z) <| nq <| C_split Z (fun h21 => ?_) (fun h21 => ?_)
  refine sr <| ag Z Z <| nq <| J_ret <| Q_blk_ret <| Q_then_ret <| J_return (()) Tryz.results280 (.tmp Z .nil) ?_ ?_
  · first | rfl | (simp_all [one, kindsC]; done) | (simp_all [one, kindsC] <;> omega)
  · exact SU
  refine J_skip <| Q_blk_normal <| qx <| ag Z Z <| nq <| J_ret <| J_return (()) Tryz.results280 (.tmp Z .nil) ?_ ?_
  · first | rfl | (simp_all [one, kindsC]; done) | (simp_all [one, kindsC] <;> omega)
  · exact SU
  refine sr <| ag Z Z <| nq <| J_ret <| Q_blk_ret <| Q_then_ret <| J_return (()) Tryz.results280 (.tmp Z .nil) ?_ ?_
  · first | rfl | (simp_all [one, kindsC]; done) | (simp_all [one, kindsC] <;> omega)
  · exact SU
  refine sr <| L_pur Z (p_eql Z Z) <| ag Z Z <| nq <| C_split Z (fun h6 => ?_) (fun h6 => ?_)
  refine J_skip <| Q_then <| C_split Z (fun h6 => ?_) (fun h6 => ?_)
  refine sr <| mv Z Z <| L_pur Z (p_neq Z Z) <| nq <| C_split Z (fun h13 => ?_) (fun h13 => ?_)
  refine sr <| ag Z Z <| nq <| J_ret <| Q_blk_ret <| Q_then_ret <| J_return (()) Tryz.results280 (.tmp Z .nil) ?_ ?_
  · first | rfl | (simp_all [one, kindsC]; done) | (simp_all [one, kindsC] <;> omega)
  · exact SU
  refine J_skip <| Q_blk_normal <| qx <| ag Z Z <| nq <| J_ret <| J_return (()) Tryz.results280 (.tmp Z .nil) ?_ ?_
  · first | rfl | (simp_all [one, kindsC]; done) | (simp_all [one, kindsC] <;> omega)
  · exact SU
  refine sr <| L_pur Z (p_eql Z Z) <| ag Z Z <| nq <| C_split Z (fun h14 => ?_) (fun h14 => ?_)
  refine sr <| mv Z Z <| L_pur Z (p_lss Z Z) <| mv Z Z <| J_gsplit (t := 18) Z (fun h18 => ?_) (fun h18 => ?_)
  refine gz Z Z Z Z Z <| gz Z Z Z Z Z <| L_pur Z (p_pick_t Z Z) <| nq <| C_true Z <| sr <| ag Z Z <| nq <| J_ret <| Q_blk_ret <| Q_then_ret <| J_return (()) Tryz.results280 (.tmp Z .nil) ?_ ?_
  · first | rfl | (simp_all [one, kindsC]; done) | (simp_all [one, kindsC] <;> omega)
  · exact SU
  refine gp Z Z Z (p_move Z) Z <| gp Z Z Z (p_gtr Z Z) Z <| L_pur Z (p_pick_f Z Z) <| nq <| C_split Z (fun h21 => ?_) (fun h21 => ?_)
  refine sr <| ag Z Z <| nq <| J_ret <| Q_blk_ret <| Q_then_ret <| J_return (()) Tryz.results280 (.tmp Z .nil) ?_ ?_
  · first | rfl | (simp_all [one, kindsC]; done) | (simp_all [one, kindsC] <;> omega)
  · exact SU
  refine J_skip <| Q_blk_normal <| qx <| ag Z Z <| nq <| J_ret <| J_return (()) Tryz.results280 (.tmp Z .nil) ?_ ?_
  · first | rfl | (simp_all [one, kindsC]; done) | (simp_all [one, kindsC] <;> omega)
  · exact SU
  refine sr <| ag Z Z <| nq <| J_ret <| Q_blk_ret <| Q_then_ret <| J_return (()) Tryz.results280 (.tmp Z .nil) ?_ ?_
  · first | rfl | (simp_all [one, kindsC]; done) | (simp_all [one, kindsC] <;> omega)
  · exact SU
  refine sr <| L_pur Z (p_eql Z Z) <| ag Z Z <| nq <| C_split Z (fun h6 => ?_) (fun h6 => ?_)
  refine J_skip <| Q_then <| C_split Z (fun h6 => ?_) (fun h6 => ?_)
  refine sr <| mv Z Z <| L_pur Z (p_neq Z Z) <| nq <| C_split Z (fun h13 => ?_) (fun h13 => ?_)
  refine sr <| ag Z Z <| nq <| J_ret <| Q_blk_ret <| Q_then_ret <| J_return (()) Tryz.results280 (.tmp Z .nil) ?_ ?_
  · first | rfl | (simp_all [one, kindsC]; done) | (simp_all [one, kindsC] <;> omega)
  · exact SU
  refine J_skip <| Q_blk_normal <| qx <| ag Z Z <| nq <| J_ret <| J_return (()) Tryz.results280 (.tmp Z .nil) ?_ ?_
  · first | rfl | (simp_all [one, kindsC]; done) | (simp_all [one, kindsC] <;> omega)
  · exact SU
  refine sr <| L_pur Z (p_eql Z Z) <| ag Z Z <| nq <| C_split Z (fun h14 => ?_) (fun h14 => ?_)
  refine sr <| mv Z Z <| L_pur Z (p_lss Z Z) <| mv Z Z <| J_gsplit (t := 18) Z (fun h18 => ?_) (fun h18 => ?_)
  refine gz Z Z Z Z Z <| gz Z Z Z Z Z <| L_pur Z (p_pick_t Z Z) <| nq <| C_true Z <| sr <| ag Z Z <| nq <| J_ret <| Q_blk_ret <| Q_then_ret <| J_return (()) Tryz.results280 (.tmp Z .nil) ?_ ?_
  · first | rfl | (simp_all [one, kindsC]; done) | (simp_all [one, kindsC] <;> omega)
  · exact SU
  refine gp Z Z Z (p_move Z) Z <| gp Z Z Z (p_gtr Z Z) Z <| L_pur Z (p_pick_f Z Z) <| nq <| C_split Z (fun h21 => ?_) (fun h21 => ?_)
  refine sr <| ag Z Z <| nq <| J_ret <| Q_blk_ret <| Q_then_ret <| J_return (()) Tryz.results280 (.tmp Z .nil) ?_ ?_
  · first | rfl | (simp_all [one, kindsC]; done) | (simp_all [one, kindsC] <;> omega)
  · exact SU
  refine J_skip <| Q_blk_normal <| qx <| ag Z Z <| nq <| J_ret <| J_return (()) Tryz.results280 (.tmp Z .nil) ?_ ?_
  · first | rfl | (simp_all [one, kindsC]; done) | (simp_all [one, kindsC] <;> omega)
  · exact SU
  refine sr <| ag Z Z <| nq <| J_ret <| Q_blk_ret <| Q_then_ret <| J_return (()) Tryz.results280 (.tmp Z .nil) ?_ ?_
  · first | rfl | (simp_all [one, kindsC]; done) | (simp_all [one, kindsC] <;> omega)
  · exact SU
  refine J_region <| L_pur Z (p_eql Z Z) <| ag Z Z <| nq <| C_split Z (fun h6 => ?_) (fun h6 => ?_)
  refine sr <| mv Z Z <| L_pur Z (p_neq Z Z) <| nq <| C_split Z (fun h13 => ?_) (fun h13 => ?_)
  refine sr <| ag Z Z <| nq <| J_ret <| Q_blk_ret <| Q_then_ret <| J_return (()) Tryz.results280 (.tmp Z .nil) ?_ ?_
  · first | rfl | (simp_all [one, kindsC]; done) | (simp_all [one, kindsC] <;> omega)
  · exact SU
  refine J_skip <| Q_blk_normal <| qx <| ag Z Z <| nq <| J_ret <| J_return (()) Tryz.results280 (.tmp Z .nil) ?_ ?_
  · first | rfl | (simp_all [one, kindsC]; done) | (simp_all [one, kindsC] <;> omega)
  · exact SU
  refine sr <| L_pur Z (p_eql Z Z) <| ag Z Z <| nq <| C_split Z (fun h14 => ?_) (fun h14 => ?_)
  refine sr <| mv Z Z <| L_pur Z (p_lss Z Z) <| mv Z Z <| J_gsplit (t := 18) Z (fun h18 => ?_) (fun h18 => ?_)
  refine gz Z Z Z Z Z <| gz Z Z Z Z Z <| L_pur Z (p_pick_t Z Z) <| nq <| C_true Z <| sr <| ag Z Z <| nq <| J_ret <| Q_blk_ret <| Q_then_ret <| J_return (()) Tryz.results280 (.tmp Z .nil) ?_ ?_
  · first | rfl | (simp_all [one, kindsC]; done) | (simp_all [one, kindsC] <;> omega)
  · exact SU
  refine gp Z Z Z (p_move Z) Z <| gp Z Z Z (p_gtr Z Z) Z <| L_pur Z (p_pick_f Z Z) <| nq <| C_split Z (fun h21 => ?_) (fun h21 => ?_)
  refine sr <| ag Z Z <| nq <| J_ret <| Q_blk_ret <| Q_then_ret <| J_return (()) Tryz.results280 (.tmp Z .nil) ?_ ?_
  · first | rfl | (simp_all [one, kindsC]; done) | (simp_all [one, kindsC] <;> omega)
  · exact SU
  refine J_skip <| Q_blk_normal <| qx <| ag Z Z <| nq <| J_ret <| J_return (()) Tryz.results280 (.tmp Z .nil) ?_ ?_
  · first | rfl | (simp_all [one, kindsC]; done) | (simp_all [one, kindsC] <;> omega)
  · exact SU
  refine sr <| ag Z Z <| nq <| J_ret <| Q_blk_ret <| Q_then_ret <| J_return (()) Tryz.results280 (.tmp Z .nil) ?_ ?_
  · first | rfl | (simp_all [one, kindsC]; done) | (simp_all [one, kindsC] <;> omega)
  · exact SU
theorem rangeG {c : Cap} :
    Con Tryz.prog 281 #[.agg (encC c).toArray] E l (fun _ : Unit => .agg (encI (rangeC c)).toArray) (fun _ => l) := by
  refine Con.body (n := 12) Tryz.func281 Z Z _ (env_ok 1 Z) <| sr <| L_op <| x_box Z Z Z fun b1 => L_op <| x_alloc ty422 Z fun b2 => nxx <| fa Z Z fa110_0 <| L_val Z (v_load Z ty3 HS (by exact rfl)) <| L_pur Z (p_neq Z Z) <| nq <| C_split Z (fun h5 => ?_) (fun h5 => ?_)
  refine sr <| L_pur Z (bld422 .nil (by repeat constructor)) <| L_op <| x_store Z Z ty422 Z SM SM RO PT <| nq <| J_ret <| Q_then_ret <| J_return (()) Tryz.results281 (.cellA Z ty422 HS CT .nil) ?_ ?_
  · (simp_all [one, rangeC, encI]; done)
  · exact SU
  refine J_skip <| qx <| fa Z Z fa110_1 <| L_val Z (v_load Z ty3 HS (by exact rfl)) <| fa Z Z fa110_2 <| L_val Z (v_load Z ty3 HS (by exact rfl)) <| L_pur Z (bld422 (.cons Z (.cons Z .nil)) (by repeat constructor)) <| L_op <| x_store Z Z ty422 Z SM SM RO PT <| nq <| J_ret <| J_return (()) Tryz.results281 (.cellA Z ty422 HS CT .nil) ?_ ?_
  · (simp_all [one, rangeC, encI]; done)
  · exact SU
theorem withinG {c d : Cap} (hc : (1 ≤ c.obj ∧ c.obj ≤ 64 ∧ 0 ≤ c.size ∧ c.size ≤ 64)) (hd : (1 ≤ d.obj ∧ d.obj ≤ 64 ∧ 0 ≤ d.size ∧ d.size ≤ 64)) :
    Con Tryz.prog 315 #[.agg (encC c).toArray, .agg (encC d).toArray] E l (fun _ : Unit => .bool (withinC c d)) (fun _ => l) := by
  refine Con.body (n := 49) Tryz.func315 Z Z _ (env_ok 2 Z) <| sr <| L_op <| x_box Z Z Z fun b2 => L_op <| x_box Z Z Z fun b3 => ag Z Z <| nx <| fa Z Z fa110_1 <| L_val Z (v_load Z ty3 HS (by exact rfl)) <| ag Z Z <| ag Z Z <| nxx <| fa Z Z fa110_0 <| L_val Z (v_load Z ty3 HS (by exact rfl)) <| L_pur Z (p_eql Z Z) <| nq <| C_split Z (fun h11 => ?_) (fun h11 => ?_)
  refine J_region <| fa Z Z fa110_2 <| L_val Z (v_load Z ty3 HS (by exact rfl)) <| ag Z Z <| nq <| J_seq <| J_seq <| J_slot (t := 6) (v := .int .i64 (sizeC c)) Z (by unfold sizeC; rw [if_pos (by simpa using h11)]) ?_
  have hsz : 0 ≤ sizeC c ∧ sizeC c ≤ 64 := by unfold sizeC; split <;> omega
  refine J_region <| mv Z Z <| fa Z Z fa110_1 <| L_val Z (v_load Z ty3 HS (by exact rfl)) <| fa Z Z fa110_2 <| L_val Z (v_load Z ty3 HS (by exact rfl)) <| L_pur Z (p_add64 Z Z (by omega)) <| L_pur Z (p_geq Z Z) <| mv Z Z <| J_gsplit (t := 21) Z (fun h21 => ?_) (fun h21 => ?_)
  refine gz Z Z Z Z Z <| gz Z Z Z Z Z <| gz Z Z Z Z Z <| gz Z Z Z Z Z <| gz Z Z Z Z Z <| gz Z Z Z Z Z <| L_pur Z (p_pick_t Z Z) <| nq <| C_true Z <| sr <| ag Z Z <| nq <| J_ret <| Q_then_ret <| J_return (()) Tryz.results315 (.tmp Z .nil) ?_ ?_
  · first | (simp_all [one, withinC]; done) | (simp_all [one, withinC] <;> (rw [Bool.eq_iff_iff]; simp; omega))
  · exact SU
  refine gp Z Z Z (p_move Z) Z <| gp Z Z Z (p_move Z) Z <| L_op <| G_on Z Z Z <| J_pur (p_add64 Z Z (by omega)) Z Z Z <| gp Z Z Z (p_fieldAddr Z fa110_1) Z <| L_op <| G_on Z Z Z <| J_val (v_load Z ty3 HS (by exact rfl)) Z Z Z <| gp Z Z Z (p_leq Z Z) Z <| L_pur Z (p_pick_f Z Z) <| nq <| C_split Z (fun h28 => ?_) (fun h28 => ?_)
  refine sr <| ag Z Z <| nq <| J_ret <| Q_then_ret <| J_return (()) Tryz.results315 (.tmp Z .nil) ?_ ?_
  · first | (simp_all [one, withinC]; done) | (simp_all [one, withinC] <;> (rw [Bool.eq_iff_iff]; simp; omega))
  · exact SU
  refine J_skip <| qx <| fa Z Z fa110_0 <| L_val Z (v_load Z ty3 HS (by exact rfl)) <| L_pur Z (p_neq Z Z) <| mv Z Z <| J_gsplit (t := 32) Z (fun h32 => ?_) (fun h32 => ?_)
  refine gz Z Z Z Z Z <| gz Z Z Z Z Z <| gz Z Z Z Z Z <| gz Z Z Z Z Z <| L_pur Z (p_pick_t Z Z) <| mv Z Z <| gz Z Z Z Z Z <| gz Z Z Z Z Z <| gz Z Z Z Z Z <| gz Z Z Z Z Z <| gz Z Z Z Z Z <| gz Z Z Z Z Z <| gz Z Z Z Z Z <| gz Z Z Z Z Z <| gz Z Z Z Z Z <| L_pur Z (p_pick_t Z Z) <| ag Z Z <| nq <| J_ret <| J_return (()) Tryz.results315 (.tmp Z .nil) ?_ ?_
  · first | (simp_all [one, withinC]; done) | (simp_all [one, withinC] <;> (rw [Bool.eq_iff_iff]; simp; omega))
  · exact SU
  refine gp Z Z Z (p_move Z) Z <| gp Z Z Z (p_fieldAddr Z fa110_1) Z <| L_op <| G_on Z Z Z <| J_val (v_load Z ty3 HS (by exact rfl)) Z Z Z <| gp Z Z Z (p_gtr Z Z) Z <| L_pur Z (p_pick_f Z Z) <| mv Z Z <| J_gsplit (t := 38) Z (fun h38 => ?_) (fun h38 => ?_)
  refine gz Z Z Z Z Z <| gz Z Z Z Z Z <| gz Z Z Z Z Z <| gz Z Z Z Z Z <| gz Z Z Z Z Z <| gz Z Z Z Z Z <| gz Z Z Z Z Z <| gz Z Z Z Z Z <| gz Z Z Z Z Z <| L_pur Z (p_pick_t Z Z) <| ag Z Z <| nq <| J_ret <| J_return (()) Tryz.results315 (.tmp Z .nil) ?_ ?_
  · first | (simp_all [one, withinC]; done) | (simp_all [one, withinC] <;> (rw [Bool.eq_iff_iff]; simp; omega))
  · exact SU
  refine gp Z Z Z (p_move Z) Z <| gp Z Z Z (p_move Z) Z <| L_op <| G_on Z Z Z <| J_pur (p_add64 Z Z (by omega)) Z Z Z <| gp Z Z Z (p_fieldAddr Z fa110_1) Z <| L_op <| G_on Z Z Z <| J_val (v_load Z ty3 HS (by exact rfl)) Z Z Z <| gp Z Z Z (p_fieldAddr Z fa110_2) Z <| L_op <| G_on Z Z Z <| J_val (v_load Z ty3 HS (by exact rfl)) Z Z Z <| gp Z Z Z (p_add64 Z Z (by omega)) Z <| gp Z Z Z (p_lss Z Z) Z <| L_pur Z (p_pick_f Z Z) <| ag Z Z <| nq <| J_ret <| J_return (()) Tryz.results315 (.tmp Z .nil) ?_ ?_
  · first | (simp_all [one, withinC]; done) | (simp_all [one, withinC] <;> (rw [Bool.eq_iff_iff]; simp; omega))
  · exact SU
  refine J_skip <| Q_then <| J_seq <| J_seq <| J_slot (t := 6) (v := .int .i64 (sizeC c)) Z (by unfold sizeC; rw [if_neg (by simpa using h11)]) ?_
  have hsz : 0 ≤ sizeC c ∧ sizeC c ≤ 64 := by unfold sizeC; split <;> omega
  refine J_region <| mv Z Z <| fa Z Z fa110_1 <| L_val Z (v_load Z ty3 HS (by exact rfl)) <| fa Z Z fa110_2 <| L_val Z (v_load Z ty3 HS (by exact rfl)) <| L_pur Z (p_add64 Z Z (by omega)) <| L_pur Z (p_geq Z Z) <| mv Z Z <| J_gsplit (t := 21) Z (fun h21 => ?_) (fun h21 => ?_)
  refine gz Z Z Z Z Z <| gz Z Z Z Z Z <| gz Z Z Z Z Z <| gz Z Z Z Z Z <| gz Z Z Z Z Z <| gz Z Z Z Z Z <| L_pur Z (p_pick_t Z Z) <| nq <| C_true Z <| sr <| ag Z Z <| nq <| J_ret <| Q_then_ret <| J_return (()) Tryz.results315 (.tmp Z .nil) ?_ ?_
  · first | (simp_all [one, withinC]; done) | (simp_all [one, withinC] <;> (rw [Bool.eq_iff_iff]; simp; omega))
  · exact SU
  refine gp Z Z Z (p_move Z) Z <| gp Z Z Z (p_move Z) Z <| L_op <| G_on Z Z Z <| J_pur (p_add64 Z Z (by omega)) Z Z Z <| gp Z Z Z (p_fieldAddr Z fa110_1) Z <| L_op <| G_on Z Z Z <| J_val (v_load Z ty3 HS (by exact rfl)) Z Z Z <| gp Z Z Z (p_leq Z Z) Z <| L_pur Z (p_pick_f Z Z) <| nq <| C_split Z (fun h28 => ?_) (fun h28 => ?_)
  refine sr <| ag Z Z <| nq <| J_ret <| Q_then_ret <| J_return (()) Tryz.results315 (.tmp Z .nil) ?_ ?_
  · first | (simp_all [one, withinC]; done) | (simp_all [one, withinC] <;> (rw [Bool.eq_iff_iff]; simp; omega))
  · exact SU
  refine J_skip <| qx <| fa Z Z fa110_0 <| L_val Z (v_load Z ty3 HS (by exact rfl)) <| L_pur Z (p_neq Z Z) <| mv Z Z <| J_gsplit (t := 32) Z (fun h32 => ?_) (fun h32 => ?_)
  refine gz Z Z Z Z Z <| gz Z Z Z Z Z <| gz Z Z Z Z Z <| gz Z Z Z Z Z <| L_pur Z (p_pick_t Z Z) <| mv Z Z <| gz Z Z Z Z Z <| gz Z Z Z Z Z <| gz Z Z Z Z Z <| gz Z Z Z Z Z <| gz Z Z Z Z Z <| gz Z Z Z Z Z <| gz Z Z Z Z Z <| gz Z Z Z Z Z <| gz Z Z Z Z Z <| L_pur Z (p_pick_t Z Z) <| ag Z Z <| nq <| J_ret <| J_return (()) Tryz.results315 (.tmp Z .nil) ?_ ?_
  · first | (simp_all [one, withinC]; done) | (simp_all [one, withinC] <;> (rw [Bool.eq_iff_iff]; simp; omega))
  · exact SU
  refine gp Z Z Z (p_move Z) Z <| gp Z Z Z (p_fieldAddr Z fa110_1) Z <| L_op <| G_on Z Z Z <| J_val (v_load Z ty3 HS (by exact rfl)) Z Z Z <| gp Z Z Z (p_gtr Z Z) Z <| L_pur Z (p_pick_f Z Z) <| mv Z Z <| J_gsplit (t := 38) Z (fun h38 => ?_) (fun h38 => ?_)
  refine gz Z Z Z Z Z <| gz Z Z Z Z Z <| gz Z Z Z Z Z <| gz Z Z Z Z Z <| gz Z Z Z Z Z <| gz Z Z Z Z Z <| gz Z Z Z Z Z <| gz Z Z Z Z Z <| gz Z Z Z Z Z <| L_pur Z (p_pick_t Z Z) <| ag Z Z <| nq <| J_ret <| J_return (()) Tryz.results315 (.tmp Z .nil) ?_ ?_
  · first | (simp_all [one, withinC]; done) | (simp_all [one, withinC] <;> (rw [Bool.eq_iff_iff]; simp; omega))
  · exact SU
  refine gp Z Z Z (p_move Z) Z <| gp Z Z Z (p_move Z) Z <| L_op <| G_on Z Z Z <| J_pur (p_add64 Z Z (by omega)) Z Z Z <| gp Z Z Z (p_fieldAddr Z fa110_1) Z <| L_op <| G_on Z Z Z <| J_val (v_load Z ty3 HS (by exact rfl)) Z Z Z <| gp Z Z Z (p_fieldAddr Z fa110_2) Z <| L_op <| G_on Z Z Z <| J_val (v_load Z ty3 HS (by exact rfl)) Z Z Z <| gp Z Z Z (p_add64 Z Z (by omega)) Z <| gp Z Z Z (p_lss Z Z) Z <| L_pur Z (p_pick_f Z Z) <| ag Z Z <| nq <| J_ret <| J_return (()) Tryz.results315 (.tmp Z .nil) ?_ ?_
  · first | (simp_all [one, withinC]; done) | (simp_all [one, withinC] <;> (rw [Bool.eq_iff_iff]; simp; omega))
  · exact SU
theorem bareG {b o : Nat} (hp : Pick (slA b o ps) l m) {u : Cap} (hck : CapsOk ps) (hu : (1 ≤ u.obj ∧ u.obj ≤ 64 ∧ 0 ≤ u.size ∧ u.size ≤ 64)) (hz : ps.length ≤ 100000) :
    Con Tryz.prog 282 #[.pointer (some ⟨b, o, none⟩), .agg (encC u).toArray] E l (fun _ : Unit => .bool (bareS ps u)) (fun _ => slA b o ps :: m) := by
  refine Con.body (n := 26) Tryz.func282 Z Z _ (env_ok 2 Z) <| J_pick hp <| J_slKeyd fun hK => sr <| L_op <| x_box Z Z Z fun b3 => ag Z Z <| nxx <| mv Z Z <| xo fc29 (A1 Z) Z (slAllC (ps := ps) PC (by omega)) <| JR fun a10 c10 hw10 hl10 hm10 hz10 => ?_
  obtain ⟨xs, hxs⟩ : ∃ xs, xs = sortP (ps.map Prod.fst) := ⟨_, rfl⟩
  refine J_pick (A := row 108 2 _ _) PC <| J_rowTo (ys := xs.map encI) (v' := .slice a10 (xs.map encI).length c10) (by rw [hxs]) (by rw [hxs]) <| J_slot (t := 10) (v := .slice a10 (xs.map encI).length c10) Z (by rw [hxs]) ?_
  rw [← hxs] at hz10
  have hmc : c10 ≤ 9223372036854775807 := hm10
  have hml : (xs.map encI).length = xs.length := List.length_map _
  have hxl : xs.length ≤ 100000 := by rw [hxs, sortP_len, List.length_map]; exact hz
  have hxm : ∀ a, a ∈ xs ↔ a ∈ ps.map Prod.fst := fun a => by rw [hxs]; unfold sortP; exact sortF_mem
  refine L_pur Z (p_len Z Tryz.underlying57) <| mv Z Z <| nq <| J_block <| J_loop (α := Nat) (fun k => k ≤ xs.length ∧ ∀ c ∈ xs.take k, withinC ((look ps c).getD s0).1 u = false) (fun k => row 108 2 (.slice a10 (xs.map encI).length c10) (xs.map encI) :: blk b3 110 (encC u) :: slA b o ps :: m) (fun k => [(12, .int .i64 (k : Int)), (10, .slice a10 (xs.map encI).length c10), (11, .int .i64 ((xs.map encI).length : Int)), (0, .pointer (some ⟨b, o, none⟩)), (3, .pointer (some ⟨b3, 0, none⟩))]) (fun k => xs.length - k) 0 ⟨by omega, by simp⟩ SU KE ?_
  intro k hk
  obtain ⟨hk, h0⟩ := hk
  refine sr <| L_pur Z (p_lss Z Z) <| nq <| J_seq <| C_dec Z (fun h13 => ?_) (fun h13 => ?_)
  have hlt : k < xs.length := by omega
  obtain ⟨bx, ox, rfl⟩ := hz10 (by intro h; rw [h] at hml; simp at hml; omega)
  obtain ⟨c, hcc⟩ : ∃ c, xs[k]? = some c := ⟨_, List.getElem?_eq_getElem hlt⟩
  obtain ⟨e, he, hec⟩ := List.mem_map.1 ((hxm c).1 (List.mem_of_getElem? hcc))
  obtain ⟨s, hs⟩ : ∃ s, look ps c = some s := by
    cases hq : look ps c with
    | none => exact absurd (List.mem_map.2 ⟨e, he, hec⟩) (look_none_iff.1 hq)
    | some y => exact ⟨y, rfl⟩
  have hsc := checkC_is (hck _ (mem_look hs))
  refine J_skip <| Q_then <| J_seq <| J_block <| sr <| L_pur Z (p_indexAddr Z Z Tryz.underlying57 ty108 (by omega) (by omega)) <| L_val Z (v_loadE Z ty108 HS (by first | (simp only [Int.toNat_natCast, List.getElem?_map, hcc]; rfl) | (simp only [Int.toNat_natCast, List.getElem?_map, hcd]; rfl) | simp | rfl)) ?_
  refine L_op <| x_alloc ty108 Z fun b6 => L_op <| x_store Z Z ty108 Z SM SM RO PT <| J_pick (A := blk b6 _ _) PC <| J_asTo (B := blk b6 108 (encI c)) (by rfl) <| nx <| mv Z Z <| L_val Z (v_loadA Z ty108 HS CT) <| xo fc277 (A2 Z Z) Z (slGetC (ps := ps) (p := c) PC) fun _ => mv Z Z <| L_pur Z (p_extract Z Z) <| L_pur Z (p_extract Z Z) <| L_op <| x_alloc ty110 Z fun b7 => L_op <| x_store Z Z ty110 Z SM SM RO PT <| ag Z Z <| nx <| L_val Z (v_loadA Z ty110 HS CT) <| L_val Z (v_loadA Z ty110 HS CT) <| xo fc315 (A2 Z Z) Z (withinG (c := ((look ps c).getD s0).1) (d := u) (by rw [hs]; dsimp only [Option.getD]; dsimp only at hsc; omega) hu) fun _ => nq <| C_split Z (fun h24 => ?_) (fun h24 => ?_)
  have hba : bareS ps u = false := by
    unfold bareS
    rw [List.all_eq_false]
    exact ⟨(c, s), mem_look hs, by rw [hs] at h24; simpa using h24⟩
  refine sr <| ag Z Z <| nq <| J_ret <| Q_blk_ret <| Q_then_ret <| Q_then_ret <| Q_blk_ret <| Q_then_ret <| J_return (()) Tryz.results282 (.tmp Z .nil) ?_ ?_
  · rw [hba]; rfl
  · exact SU
  refine J_skip <| Q_blk_normal <| qr <| L_pur Z (p_add64 Z Z (by omega)) <| mv Z Z <| nq ?_
  exact J_again (k + 1) (by omega) (⟨by omega, fun e he => by
      rw [List.take_add_one, hcc] at he
      rcases List.mem_append.1 he with h | h
      · exact h0 e h
      · rw [List.mem_singleton.1 h]; exact h24⟩) SU KE
  have hba : bareS ps u = true := by
    unfold bareS
    rw [List.all_eq_true]
    intro e he
    have h1 := h0 e.1 (by rw [show k = xs.length by omega, List.take_length]; exact (hxm e.1).2 (List.mem_map.2 ⟨e, he, rfl⟩))
    rw [look_mem hK (show (e.1, e.2) ∈ ps from he)] at h1
    simpa using h1
  refine J_exit <| Q_then_exit <| Q_then_exit <| Q_blk_this <| qx <| ag Z Z <| nq <| J_ret <| J_return (()) Tryz.results282 (.tmp Z .nil) ?_ ?_
  · rw [hba]; rfl
  · exact SU
variable {kind : Int}
theorem makeG {b o b2 o2 : Nat} {mr : List (Place × Int)} (hp : Picks [slA b o ps, mkA b2 o2 mr] l m) {p q : Place} {size : Int} (hck : CapsOk ps) (hmk : MarksOk mr) (hz : ps.length ≤ 100000) :
    Con Tryz.prog 219 #[.pointer (some ⟨b, o, none⟩), .pointer (some ⟨b2, o2, none⟩), .agg (encI p).toArray, .agg (encI q).toArray, .int .i64 kind, .int .i64 size] E l (fun _ : Unit => .tuple #[.agg (encC (makeS ps mr p q kind size).2.1).toArray, .int .i64 (makeS ps mr p q kind size).2.2]) (fun _ => slA b o (makeS ps mr p q kind size).1.1 :: mkA b2 o2 (makeS ps mr p q kind size).1.2 :: m) := by
  refine Con.body (n := 101) Tryz.func219 Z Z _ (env_ok 6 Z) <| J_picks2 hp <| sr <| L_op <| x_box Z Z Z fun b8 => L_op <| x_box Z Z Z fun b9 => L_op <| x_alloc ty110 Z fun b12 => ag Z Z <| nx <| mv Z Z <| L_val Z (v_loadA Z ty108 HS CT) <| xo fc277 (A2 Z Z) Z (slGetC (ps := ps) (p := p) PC) fun _ => mv Z Z <| L_pur Z (p_extract Z Z) <| L_pur Z (p_extract Z Z) <| L_op <| x_alloc ty110 Z fun b14 => L_op <| x_store Z Z ty110 Z SM SM RO PT <| ag Z Z <| nq <| J_seq <| J_block <| sr <| mv Z Z <| L_pur Z (p_not Z) <| ag Z Z <| nq <| C_split Z (fun h28 => ?_) (fun h28 => ?_)
  have hno : look ps p = none := by
    cases hq : look ps p with
    | none => rfl
    | some y => rw [hq] at h28; simp at h28
  have hms : (makeS ps mr p q kind size) = ((ps, mr), c0, 4) := by unfold makeS; rw [hno]
  refine sr <| L_pur Z (bld110 .nil (by repeat constructor)) <| L_op <| x_store Z Z ty110 Z SM SM RO PT <| ag Z Z <| nq <| J_ret <| Q_blk_ret <| Q_then_ret <| J_pick (A := slA b o _) PC <| J_asTo (B := slA b o (makeS ps mr p q kind size).1.1) (by rw [hms]) <| J_pick (A := mkA b2 o2 _) PC <| J_asTo (B := mkA b2 o2 (makeS ps mr p q kind size).1.2) (by rw [hms]) <| J_return (()) Tryz.results219 (.cellA Z ty110 HS CT (.tmp Z .nil)) ?_ ?_
  · rw [hms]; rfl
  · exact SU
  obtain ⟨u, hu⟩ : ∃ x, look ps p = some x := by
    cases hq : look ps p with
    | none => rw [hq] at h28; simp at h28
    | some y => exact ⟨y, rfl⟩
  have hcu := hck _ (mem_look hu)
  have hcb := checkC_is hcu
  dsimp only at hcu hcb
  refine J_pick (A := blk b14 _ _) PC <| J_asTo (B := blk b14 110 (encC u.1)) (by rw [hu]; rfl) <| sr <| fa Z Z fa110_0 <| L_val Z (v_load Z ty3 HS (by exact rfl)) <| L_pur Z (p_neq Z Z) <| ag Z Z <| nq <| C_split Z (fun h32 => ?_) (fun h32 => ?_)
  have hms : (makeS ps mr p q kind size) = ((ps, mr), c0, 5) := by unfold makeS; rw [hu]; exact if_pos (by simpa using h32)
  refine sr <| L_pur Z (bld110 .nil (by repeat constructor)) <| L_op <| x_store Z Z ty110 Z SM SM RO PT <| ag Z Z <| nq <| J_ret <| Q_blk_ret <| Q_then_ret <| J_pick (A := slA b o _) PC <| J_asTo (B := slA b o (makeS ps mr p q kind size).1.1) (by rw [hms]) <| J_pick (A := mkA b2 o2 _) PC <| J_asTo (B := mkA b2 o2 (makeS ps mr p q kind size).1.2) (by rw [hms]) <| J_return (()) Tryz.results219 (.cellA Z ty110 HS CT (.tmp Z .nil)) ?_ ?_
  · rw [hms]; rfl
  · exact SU
  have hk1 : ¬ u.1.kind ≠ 1 := by simpa using h32
  refine sr <| fa Z Z fa108_0 <| L_val Z (v_load Z ty3 HS (by exact rfl)) <| L_pur Z (p_lss Z Z) <| mv Z Z <| J_gsplit (t := 41) Z (fun h41 => ?_) (fun h41 => ?_)
  refine gz Z Z Z Z Z <| gz Z Z Z Z Z <| gz Z Z Z Z Z <| L_pur Z (p_pick_t Z Z) <| mv Z Z <| gz Z Z Z Z Z <| gz Z Z Z Z Z <| gz Z Z Z Z Z <| L_pur Z (p_pick_t Z Z) <| mv Z Z <| gz Z Z Z Z Z <| gz Z Z Z Z Z <| gz Z Z Z Z Z <| L_pur Z (p_pick_t Z Z) <| ag Z Z <| nq <| C_true Z <| J_seq ?_
  have hcp : canP q = false := by first | (simp_all [canP]; done) | (simp_all [canP] <;> omega)
  have hms : (makeS ps mr p q kind size) = ((ps, mr), c0, 7) := by unfold makeS; rw [hu]; dsimp only; rw [if_neg hk1]; exact if_pos hcp
  refine J_region <| L_pur Z (bld110 .nil (by repeat constructor)) <| L_op <| x_store Z Z ty110 Z SM SM RO PT <| ag Z Z <| nq <| J_ret <| Q_blk_ret <| Q_then_ret <| J_pick (A := slA b o _) PC <| J_asTo (B := slA b o (makeS ps mr p q kind size).1.1) (by rw [hms]) <| J_pick (A := mkA b2 o2 _) PC <| J_asTo (B := mkA b2 o2 (makeS ps mr p q kind size).1.2) (by rw [hms]) <| J_return (()) Tryz.results219 (.cellA Z ty110 HS CT (.tmp Z .nil)) ?_ ?_
  · rw [hms]; rfl
  · exact SU
  refine gp Z Z Z (p_fieldAddr Z fa108_0) Z <| L_op <| G_on Z Z Z <| J_val (v_load Z ty3 HS (by exact rfl)) Z Z Z <| gp Z Z Z (p_gtr Z Z) Z <| L_pur Z (p_pick_f Z Z) <| mv Z Z <| J_gsplit (t := 46) Z (fun h46 => ?_) (fun h46 => ?_)
  refine gz Z Z Z Z Z <| gz Z Z Z Z Z <| gz Z Z Z Z Z <| L_pur Z (p_pick_t Z Z) <| mv Z Z <| gz Z Z Z Z Z <| gz Z Z Z Z Z <| gz Z Z Z Z Z <| L_pur Z (p_pick_t Z Z) <| ag Z Z <| nq <| C_true Z <| J_seq ?_
  have hcp : canP q = false := by first | (simp_all [canP]; done) | (simp_all [canP] <;> omega)
  have hms : (makeS ps mr p q kind size) = ((ps, mr), c0, 7) := by unfold makeS; rw [hu]; dsimp only; rw [if_neg hk1]; exact if_pos hcp
  refine J_region <| L_pur Z (bld110 .nil (by repeat constructor)) <| L_op <| x_store Z Z ty110 Z SM SM RO PT <| ag Z Z <| nq <| J_ret <| Q_blk_ret <| Q_then_ret <| J_pick (A := slA b o _) PC <| J_asTo (B := slA b o (makeS ps mr p q kind size).1.1) (by rw [hms]) <| J_pick (A := mkA b2 o2 _) PC <| J_asTo (B := mkA b2 o2 (makeS ps mr p q kind size).1.2) (by rw [hms]) <| J_return (()) Tryz.results219 (.cellA Z ty110 HS CT (.tmp Z .nil)) ?_ ?_
  · rw [hms]; rfl
  · exact SU
  refine gp Z Z Z (p_fieldAddr Z fa108_1) Z <| L_op <| G_on Z Z Z <| J_val (v_load Z ty3 HS (by exact rfl)) Z Z Z <| gp Z Z Z (p_lss Z Z) Z <| L_pur Z (p_pick_f Z Z) <| mv Z Z <| J_gsplit (t := 51) Z (fun h51 => ?_) (fun h51 => ?_)
  refine gz Z Z Z Z Z <| gz Z Z Z Z Z <| gz Z Z Z Z Z <| L_pur Z (p_pick_t Z Z) <| ag Z Z <| nq <| C_true Z <| J_seq ?_
  have hcp : canP q = false := by first | (simp_all [canP]; done) | (simp_all [canP] <;> omega)
  have hms : (makeS ps mr p q kind size) = ((ps, mr), c0, 7) := by unfold makeS; rw [hu]; dsimp only; rw [if_neg hk1]; exact if_pos hcp
  refine J_region <| L_pur Z (bld110 .nil (by repeat constructor)) <| L_op <| x_store Z Z ty110 Z SM SM RO PT <| ag Z Z <| nq <| J_ret <| Q_blk_ret <| Q_then_ret <| J_pick (A := slA b o _) PC <| J_asTo (B := slA b o (makeS ps mr p q kind size).1.1) (by rw [hms]) <| J_pick (A := mkA b2 o2 _) PC <| J_asTo (B := mkA b2 o2 (makeS ps mr p q kind size).1.2) (by rw [hms]) <| J_return (()) Tryz.results219 (.cellA Z ty110 HS CT (.tmp Z .nil)) ?_ ?_
  · rw [hms]; rfl
  · exact SU
  refine gp Z Z Z (p_fieldAddr Z fa108_1) Z <| L_op <| G_on Z Z Z <| J_val (v_load Z ty3 HS (by exact rfl)) Z Z Z <| gp Z Z Z (p_geq Z Z) Z <| L_pur Z (p_pick_f Z Z) <| ag Z Z <| nq <| C_split Z (fun h37 => ?_) (fun h37 => ?_)
  refine J_seq ?_
  have hcp : canP q = false := by first | (simp_all [canP]; done) | (simp_all [canP] <;> omega)
  have hms : (makeS ps mr p q kind size) = ((ps, mr), c0, 7) := by unfold makeS; rw [hu]; dsimp only; rw [if_neg hk1]; exact if_pos hcp
  refine J_region <| L_pur Z (bld110 .nil (by repeat constructor)) <| L_op <| x_store Z Z ty110 Z SM SM RO PT <| ag Z Z <| nq <| J_ret <| Q_blk_ret <| Q_then_ret <| J_pick (A := slA b o _) PC <| J_asTo (B := slA b o (makeS ps mr p q kind size).1.1) (by rw [hms]) <| J_pick (A := mkA b2 o2 _) PC <| J_asTo (B := mkA b2 o2 (makeS ps mr p q kind size).1.2) (by rw [hms]) <| J_return (()) Tryz.results219 (.cellA Z ty110 HS CT (.tmp Z .nil)) ?_ ?_
  · rw [hms]; rfl
  · exact SU
  refine J_skip <| Q_blk_normal <| Q_then <| J_seq <| J_seq ?_
  have hcp : ¬ canP q = false := by
    have : canP q = true := by first | (simp_all [canP]; done) | (simp_all [canP] <;> omega)
    rw [this]; decide
  refine J_region <| mv Z Z <| L_val Z (v_loadA Z ty108 HS CT) <| xo fc277 (A2 Z Z) Z (slGetC (ps := ps) (p := q) PC) fun _ => mv Z Z <| L_pur Z (p_extract Z Z) <| L_pur Z (p_extract Z Z) <| L_op <| x_alloc ty110 Z fun b16 => L_op <| x_store Z Z ty110 Z SM SM RO PT <| ag Z Z <| nx <| mv Z Z <| nq <| C_split Z (fun h63 => ?_) (fun h63 => ?_)
  have hms : (makeS ps mr p q kind size) = ((ps, mr), c0, 3) := by unfold makeS; rw [hu]; dsimp only; rw [if_neg hk1, if_neg hcp]; exact if_pos h63
  refine sr <| L_pur Z (bld110 .nil (by repeat constructor)) <| L_op <| x_store Z Z ty110 Z SM SM RO PT <| ag Z Z <| nq <| J_ret <| Q_then_ret <| J_pick (A := slA b o _) PC <| J_asTo (B := slA b o (makeS ps mr p q kind size).1.1) (by rw [hms]) <| J_pick (A := mkA b2 o2 _) PC <| J_asTo (B := mkA b2 o2 (makeS ps mr p q kind size).1.2) (by rw [hms]) <| J_return (()) Tryz.results219 (.cellA Z ty110 HS CT (.tmp Z .nil)) ?_ ?_
  · rw [hms]; rfl
  · exact SU
  have hq0 : ¬ (look ps q).isSome = true := by rw [h63]; decide
  refine J_skip <| Q_then <| J_seq <| sr <| mv Z Z <| mv Z Z <| xo fc280 (A2 Z Z) Z (kindsG (k := kind) (z := size)) fun _ => ag Z Z <| nx <| mv Z Z <| L_pur Z (p_neq Z Z) <| nq <| C_split Z (fun h69 => ?_) (fun h69 => ?_)
  have hms : (makeS ps mr p q kind size) = ((ps, mr), c0, kindsC kind size) := by unfold makeS; rw [hu]; dsimp only; rw [if_neg hk1, if_neg hcp, if_neg hq0]; exact if_pos (by simpa using h69)
  refine sr <| L_pur Z (bld110 .nil (by repeat constructor)) <| mv Z Z <| L_op <| x_store Z Z ty110 Z SM SM RO PT <| ag Z Z <| nq <| J_ret <| Q_then_ret <| J_pick (A := slA b o _) PC <| J_asTo (B := slA b o (makeS ps mr p q kind size).1.1) (by rw [hms]) <| J_pick (A := mkA b2 o2 _) PC <| J_asTo (B := mkA b2 o2 (makeS ps mr p q kind size).1.2) (by rw [hms]) <| J_return (()) Tryz.results219 (.cellA Z ty110 HS CT (.tmp Z .nil)) ?_ ?_
  · rw [hms]; rfl
  · exact SU
  have hkd : ¬ kindsC kind size ≠ 0 := by simpa using h69
  refine J_skip <| qx <| L_val Z (v_loadA Z ty110 HS CT) <| xo fc281 (A1 Z) Z (rangeG (c := u.1)) fun _ => L_op <| x_alloc ty422 Z fun b19 => L_op <| x_store Z Z ty422 Z SM SM RO PT ?_
  have hrc : rangeC u.1 = (u.1.obj, u.1.size) := if_neg hk1
  refine J_pick (A := blk b19 _ _) PC <| J_asTo (B := blk b19 422 (encI (rangeC u.1))) (by rfl) <| nxx <| mv Z Z <| L_val Z (v_loadA Z ty110 HS CT) <| xo fc282 (A2 Z Z) Z (bareG (ps := ps) (u := u.1) PC hck (by omega) hz) fun _ => nq <| C_split Z (fun h76 => ?_) (fun h76 => ?_)
  refine J_region <| mv Z Z <| L_val Z (v_loadA Z ty422 HS CT) <| xo fc283 (A2 Z Z) Z (mkReset (mr := mr) (r := rangeC u.1) PC) fun _ => nq <| J_seq <| J_pick (A := mkA b2 o2 _) PC <| J_asTo (B := mkA b2 o2 (resetM ps mr u.1)) (by unfold resetM; rw [if_pos h76]) <| J_region <| mv Z Z <| L_val Z (v_loadA Z ty422 HS CT) <| mv Z Z <| L_pur Z (p_max Z Z) <| J_slot (t := 84) (v := .int .i64 (max size 1)) Z (by congr 1; first | rfl | (simp; omega) | (split <;> omega)) <| xo fc284 (A3 Z Z Z) Z (mkTake (mr := (resetM ps mr u.1)) (r := rangeC u.1) (n := max size 1) PC (hmk.reset ps u.1) (by rw [hrc]; dsimp only; omega)) fun _ => mv Z Z <| L_pur Z (p_extract Z Z) <| L_pur Z (p_extract Z Z) <| ag Z Z <| ag Z Z <| nxx <| mv Z Z <| L_pur Z (p_not Z) <| nq <| C_split Z (fun h89 => ?_) (fun h89 => ?_)
  have hto : ¬ mtkOk (resetM ps mr u.1) (rangeC u.1) (max size 1) = true := by simpa using h89
  have hms : (makeS ps mr p q kind size) = ((ps, (resetM ps mr u.1)), c0, 8) := by unfold makeS; rw [hu]; dsimp only; rw [if_neg hk1, if_neg hcp, if_neg hq0, if_neg hkd]; exact if_neg hto
  refine J_pick (A := mkA b2 o2 _) PC <| J_asTo (B := mkA b2 o2 (resetM ps mr u.1)) (by unfold mtkM; rw [if_neg hto]) <| sr <| L_pur Z (bld110 .nil (by repeat constructor)) <| L_op <| x_store Z Z ty110 Z SM SM RO PT <| ag Z Z <| nq <| J_ret <| Q_then_ret <| J_pick (A := slA b o _) PC <| J_asTo (B := slA b o (makeS ps mr p q kind size).1.1) (by rw [hms]) <| J_pick (A := mkA b2 o2 _) PC <| J_asTo (B := mkA b2 o2 (makeS ps mr p q kind size).1.2) (by rw [hms]) <| J_return (()) Tryz.results219 (.cellA Z ty110 HS CT (.tmp Z .nil)) ?_ ?_
  · rw [hms]; rfl
  · exact SU
  have hto : mtkOk (resetM ps mr u.1) (rangeC u.1) (max size 1) = true := by simpa using h89
  have hms : (makeS ps mr p q kind size) = ((slPut ps q (madeC (resetM ps mr u.1) u.1 kind size) p, mtkM (resetM ps mr u.1) (rangeC u.1) (max size 1)), madeC (resetM ps mr u.1) u.1 kind size, 0) := by unfold makeS; rw [hu]; dsimp only; rw [if_neg hk1, if_neg hcp, if_neg hq0, if_neg hkd]; exact if_pos hto
  refine J_skip <| qx <| mv Z Z <| mv Z Z <| mv Z Z <| L_pur Z (bld110 (.cons Z (.cons Z (.cons Z (.cons Z .nil)))) (by repeat constructor)) <| L_op <| x_alloc ty110 Z fun b21 => L_op <| x_store Z Z ty110 Z SM SM RO PT <| J_pick (A := blk b21 _ _) PC <| J_asTo (B := blk b21 110 (encC (madeC (resetM ps mr u.1) u.1 kind size))) (by rfl) <| nx <| mv Z Z <| L_val Z (v_loadA Z ty108 HS CT) <| L_val Z (v_loadA Z ty110 HS CT) <| L_val Z (v_loadA Z ty108 HS CT) <| xo fc58 (A4 Z Z Z Z) Z (slPutC (ps := ps) (p := q) (c := madeC (resetM ps mr u.1) u.1 kind size) (q := p) PC) fun _ => nx <| L_val Z (v_loadA Z ty110 HS CT) <| L_op <| x_store Z Z ty110 Z SM SM RO PT <| ag Z Z <| nq <| J_ret <| J_pick (A := slA b o _) PC <| J_asTo (B := slA b o (makeS ps mr p q kind size).1.1) (by rw [hms]) <| J_pick (A := mkA b2 o2 _) PC ?_
  refine J_asTo (B := mkA b2 o2 (makeS ps mr p q kind size).1.2) (by rw [hms]) <| J_return (()) Tryz.results219 (.cellA Z ty110 HS CT (.tmp Z .nil)) ?_ ?_
  · rw [hms]; rfl
  · exact SU
  refine J_skip <| Q_then <| J_seq <| J_pick (A := mkA b2 o2 _) PC <| J_asTo (B := mkA b2 o2 (resetM ps mr u.1)) (by unfold resetM; rw [if_neg (by rw [h76]; decide)]) <| J_region <| mv Z Z <| L_val Z (v_loadA Z ty422 HS CT) <| mv Z Z <| L_pur Z (p_max Z Z) <| J_slot (t := 84) (v := .int .i64 (max size 1)) Z (by congr 1; first | rfl | (simp; omega) | (split <;> omega)) <| xo fc284 (A3 Z Z Z) Z (mkTake (mr := (resetM ps mr u.1)) (r := rangeC u.1) (n := max size 1) PC (hmk.reset ps u.1) (by rw [hrc]; dsimp only; omega)) fun _ => mv Z Z <| L_pur Z (p_extract Z Z) <| L_pur Z (p_extract Z Z) <| ag Z Z <| ag Z Z <| nxx <| mv Z Z <| L_pur Z (p_not Z) <| nq <| C_split Z (fun h89 => ?_) (fun h89 => ?_)
  have hto : ¬ mtkOk (resetM ps mr u.1) (rangeC u.1) (max size 1) = true := by simpa using h89
  have hms : (makeS ps mr p q kind size) = ((ps, (resetM ps mr u.1)), c0, 8) := by unfold makeS; rw [hu]; dsimp only; rw [if_neg hk1, if_neg hcp, if_neg hq0, if_neg hkd]; exact if_neg hto
  refine J_pick (A := mkA b2 o2 _) PC <| J_asTo (B := mkA b2 o2 (resetM ps mr u.1)) (by unfold mtkM; rw [if_neg hto]) <| sr <| L_pur Z (bld110 .nil (by repeat constructor)) <| L_op <| x_store Z Z ty110 Z SM SM RO PT <| ag Z Z <| nq <| J_ret <| Q_then_ret <| J_pick (A := slA b o _) PC <| J_asTo (B := slA b o (makeS ps mr p q kind size).1.1) (by rw [hms]) <| J_pick (A := mkA b2 o2 _) PC <| J_asTo (B := mkA b2 o2 (makeS ps mr p q kind size).1.2) (by rw [hms]) <| J_return (()) Tryz.results219 (.cellA Z ty110 HS CT (.tmp Z .nil)) ?_ ?_
  · rw [hms]; rfl
  · exact SU
  have hto : mtkOk (resetM ps mr u.1) (rangeC u.1) (max size 1) = true := by simpa using h89
  have hms : (makeS ps mr p q kind size) = ((slPut ps q (madeC (resetM ps mr u.1) u.1 kind size) p, mtkM (resetM ps mr u.1) (rangeC u.1) (max size 1)), madeC (resetM ps mr u.1) u.1 kind size, 0) := by unfold makeS; rw [hu]; dsimp only; rw [if_neg hk1, if_neg hcp, if_neg hq0, if_neg hkd]; exact if_pos hto
  refine J_skip <| qx <| mv Z Z <| mv Z Z <| mv Z Z <| L_pur Z (bld110 (.cons Z (.cons Z (.cons Z (.cons Z .nil)))) (by repeat constructor)) <| L_op <| x_alloc ty110 Z fun b21 => L_op <| x_store Z Z ty110 Z SM SM RO PT <| J_pick (A := blk b21 _ _) PC <| J_asTo (B := blk b21 110 (encC (madeC (resetM ps mr u.1) u.1 kind size))) (by rfl) <| nx <| mv Z Z <| L_val Z (v_loadA Z ty108 HS CT) <| L_val Z (v_loadA Z ty110 HS CT) <| L_val Z (v_loadA Z ty108 HS CT) <| xo fc58 (A4 Z Z Z Z) Z (slPutC (ps := ps) (p := q) (c := madeC (resetM ps mr u.1) u.1 kind size) (q := p) PC) fun _ => nx <| L_val Z (v_loadA Z ty110 HS CT) <| L_op <| x_store Z Z ty110 Z SM SM RO PT <| ag Z Z <| nq <| J_ret <| J_pick (A := slA b o _) PC <| J_asTo (B := slA b o (makeS ps mr p q kind size).1.1) (by rw [hms]) <| J_pick (A := mkA b2 o2 _) PC ?_
  refine J_asTo (B := mkA b2 o2 (makeS ps mr p q kind size).1.2) (by rw [hms]) <| J_return (()) Tryz.results219 (.cellA Z ty110 HS CT (.tmp Z .nil)) ?_ ?_
  · rw [hms]; rfl
  · exact SU
/-! ### an object is laid in; plain -/
theorem ptrs_ins {α : Type} {xs : List (Int × Nat × α)} {b : Nat} {a : α} : ins (ptrs xs) u b = ptrs (ins xs u (b, a)) := by
  unfold Go.Pse.ins
  rw [look_ptrs]
  cases look xs u with
  | none => simp [ptrs]
  | some y =>
    simp only [Option.map_some, Option.isSome_some, if_true]
    unfold ptrs
    rw [List.map_map, List.map_map]
    refine List.map_congr_left fun x _ => ?_
    simp only [Function.comp]
    split <;> rfl
theorem J_eachIns {α : Type} {f : Int × Nat × α → As} {xs : List (Int × Nat × α)} {x : Nat × α} (hK : Keyd (ptrs xs)) (k : Jk E (each f (ins xs u x) :: l) n F K) : Jk E (f (u, x) :: each f xs :: l) n F K := by
 have hK' : Keyd xs := by
  unfold Keyd at hK ⊢
  rw [show (ptrs xs).map Prod.fst = xs.map Prod.fst by unfold ptrs; rw [List.map_map]; rfl] at hK
  exact hK
 cases hl : look xs u with
 | none =>
  refine J_eachPush ?_
  rw [show ins xs u x = xs ++ [(u, x)] by unfold Go.Pse.ins; rw [hl]; rfl] at k
  exact k
 | some y =>
  obtain ⟨i, hi⟩ := look_ix hl
  rw [ins_at hK' hi rfl] at k
  refine J_pick (A := each f xs) (.there .here) <| J_eachOut hi <| J_sub (l' := f (u, x) :: each f (xs.eraseIdx i) :: l) (Sub.cons (.there (.there .here)) (Sub.cons (.there .here) (Sub.drop .refl))) ?_
  exact J_eachIn (u, x) (List.getElem?_eq_some_iff.1 hi).1 k
def zeroM (ms : List (List Int)) (u : Int) : List (List Int) := ms.set (u - 1).toNat zrow
def kMade (s : KS) (c : Cap) (b : Nat) : KS :=
  if c.kind = 4 then { s with ep := ins s.ep c.obj (b, [], []) } else if c.kind = 5 then { s with nt := ins s.nt c.obj (b, 0, []) } else if c.kind = 7 then { s with rp := ins s.rp c.obj (b, (0, 0), false) } else if c.kind = 3 then { s with mem := zeroM s.mem c.obj } else s
def sendE (x : Msg) (a : List Msg × List Rcv) : List Msg × List Rcv := match a.2 with
  | [] => (a.1 ++ [x], [])
  | _ :: r => (a.1, r)
def recvE (y : Rcv) (a : List Msg × List Rcv) : List Msg × List Rcv := match a.1 with
  | [] => ([], a.2 ++ [y])
  | _ :: r => (r, a.2)
def r0 : Rcv := ((0, 0), 0)
def kWaits (s : KS) (k u : Int) : List ID :=
  if k = 4 then (match look s.ep u with
    | none => []
    | some x => x.2.1.map Prod.fst ++ x.2.2.map Prod.fst)
  else if k = 5 then (match look s.nt u with
    | none => []
    | some x => x.2.2)
  else if k = 7 then (match look s.rp u with
    | none => []
    | some x => if x.2.2 = true then [x.2.1] else [])
  else []
theorem zeroC {b : Nat} {ms : List (List Int)} (hp : Pick (memA b ms) l m) (hM : MemOk ms) (hu1 : 1 ≤ u ∧ u ≤ 64) :
    Con Tryz.prog 106 #[.pointer (some ⟨b, 0, none⟩), .int .i64 u] E l (fun _ : Unit => .bool true) (fun _ => memA b (zeroM ms u) :: m) := by
  refine Con.body (n := 15) Tryz.func106 Z Z _ (env_ok 2 Z) ?_
  obtain ⟨hu, hrl, hrB⟩ := hM.at hu1
  have hms := hM.len
  obtain ⟨r, hr⟩ : ∃ r, r = rowAt ms u := ⟨_, rfl⟩
  rw [← hr] at hu hrl hrB
  refine J_pick hp <| J_memO fun v xs hxs => ?_
  have hxl : xs.length = 64 := by rw [← hms, ← show xs.map Prod.snd = ms from hxs, List.length_map]
  obtain ⟨vr, hx⟩ := snd_at hxs hu
  have hxu := (List.getElem?_eq_some_iff.1 hx).1
  refine J_pick (A := each memF xs) PC <| J_eachOut hx <| J_asTo (B := row 5 1 vr (r.map encU)) (by rfl) <| J_row .here fun hwr ar cr hvr hr1 hr2 hr3 => ?_
  have hlr : (r.map encU).length = 512 := by rw [List.length_map]; exact hrl
  obtain ⟨br, orr, rfl⟩ := hr3 (by intro h; rw [h] at hlr; simp at hlr)
  subst hvr
  have hcr : cr ≤ 9223372036854775807 := hr2
  refine sr <| ag Z Z <| nq <| J_seq <| J_slot (t := 1) (v := .int .i64 ((((u - 1).toNat : Nat) : Int) + 1)) Z (by congr 1; omega) <| J_region <| mv Z Z <| mv Z Z <| xo fc85 (A4 Z Z Z Z) Z (partC (u := (u - 1).toNat) (off := 0) (n := 512) (len := (r.map encU).length) HS HS hx (by omega) (by omega) (by omega)) fun _ => mv Z Z <| L_pur Z (p_extract Z Z) <| L_pur Z (p_extract Z Z) <| ag Z Z <| ag Z Z <| nx <| mv Z Z <| L_op <| x_clear (k0 := 0) (len := (r.map encU).length) Z Tryz.underlying73 ty5 Z Z PC (by simp; omega) <| J_rowEq (ys := zrow.map encU) (by rw [List.take_zero, List.nil_append, List.drop_eq_nil_of_le (by omega), List.append_nil]; rfl) <| nx <| mv Z Z <| ag Z Z <| nq <| J_ret <| J_pick (A := row 5 1 (.slice (some ⟨br, orr, none⟩) (r.map encU).length cr) _) PC ?_
  refine J_asTo (B := memF (.slice (some ⟨br, orr, none⟩) (r.map encU).length cr, zrow)) (by rfl) <| J_pick (A := each memF _) PC <| J_pick (A := memF _) PC <| J_eachIn (.slice (some ⟨br, orr, none⟩) (r.map encU).length cr, zrow) hxu ?_
  skip
  refine J_pick (A := row 73 1 v _) PC <| J_rowEq (ys := (xs.set (u - 1).toNat (.slice (some ⟨br, orr, none⟩) (r.map encU).length cr, zrow)).map fun x : Value × List Int => [x.1]) (fst_set hx).symm <| J_memS (b := b) (ms := (zeroM ms u)) v (xs.set (u - 1).toNat (.slice (some ⟨br, orr, none⟩) (r.map encU).length cr, zrow)) PX (by show List.map Prod.snd _ = _; rw [List.map_set, show xs.map Prod.snd = ms from hxs]; rfl) <| J_return (()) Tryz.results106 (.tmp Z .nil) ?_ ?_
  · rfl
  · exact SU
theorem coMake (hp : Pick (coA p s) l m) {c : Cap} (hc : 1 ≤ c.obj ∧ c.obj ≤ 64) (hM : MemOk s.mem) :
    Con Tryz.prog 59 #[.pointer (some ⟨p, 0, none⟩), .agg (encC c).toArray] E l (fun b : Nat => .tuple #[]) (fun b => coA p (kMade s c b) :: m) := by
  refine Con.body (n := 45) Tryz.func59 Z Z _ (env_ok 2 Z) <| J_pick hp <| J_coO fun bn be br bg bt bs bp bl bk _ => J_keyd (ps := ptrs s.ep) HS fun hKep => J_keyd (ps := ptrs s.nt) HS fun hKnt => J_keyd (ps := ptrs s.rp) HS fun hKrp => sr <| L_op <| x_box Z Z Z fun b3 => nx <| fa Z Z fa110_0 <| L_val Z (v_load Z ty3 HS (by exact rfl)) <| nq <| J_block <| sr <| L_pur Z (p_eql Z Z) <| ag Z Z <| nq <| C_dec Z (fun h6 => ?_) (fun h6 => ?_)
  refine J_drawL (some 8) mixed <| ip 0 Z Z Z Z (p_move Z) <| ip 1 Z Z Z Z (p_nilCheck Z) <| ip 2 Z Z Z Z (p_fieldAddr Z fa153_10) <| iv 3 Z Z Z Z (fun _ => v_loadL (o := 13) (i := 1) Z ty145 HS Z (by exact rfl)) <| ip 4 Z Z Z Z (p_fieldAddr Z fa110_1) <| iv 5 Z Z Z Z (fun _ => v_load Z ty3 HS (by exact rfl)) <| ip 6 Z Z Z Z (bld222 .nil (by repeat constructor)) <| i1 7 Z <| x_box Z Z Z fun b15 => i1 8 Z <| x_mapUpdate (ek := kZ) (ev := evA) (a := c.obj) (c := b15) Z Z Z ky3 Tryz.underlying145 PC <| J_pick (A := mapV kZ evA (.map (some be)) _) PC <| J_mapEq (qs := ptrs (ins s.ep c.obj (b15, [], []))) ptrs_ins <| J_pick (A := blk b15 _ _) PC <| J_asTo (B := blk b15 222 [.slice none 0 0, .slice none 0 0]) (by rfl) <| J_epNew <| J_asTo (B := epF (c.obj, b15, [], [])) (by rfl) <| J_pick (A := each epF s.ep) PC <| J_pick (A := epF (c.obj, b15, [], [])) PC ?_
  refine J_eachIns hKep <| i0 <| Q_blk_normal <| J_endnormal <| J_coS (p := p) (s := { s with ep := ins s.ep c.obj (b15, [], []) }) bn be br bg bt bs bp bl bk PX trivial <| J_asTo (B := coA p (kMade s c b15)) (by unfold kMade; rw [if_pos h6]) <| J_return (b15) Tryz.results59 .nil ?_ ?_
  · rfl
  · exact SU
  refine sr <| L_pur Z (p_eql Z Z) <| ag Z Z <| nq <| C_dec Z (fun h16 => ?_) (fun h16 => ?_)
  refine J_drawL (some 8) mixed <| ip 0 Z Z Z Z (p_move Z) <| ip 1 Z Z Z Z (p_nilCheck Z) <| ip 2 Z Z Z Z (p_fieldAddr Z fa153_9) <| iv 3 Z Z Z Z (fun _ => v_loadL (o := 13) (i := 0) Z ty144 HS Z (by exact rfl)) <| ip 4 Z Z Z Z (p_fieldAddr Z fa110_1) <| iv 5 Z Z Z Z (fun _ => v_load Z ty3 HS (by exact rfl)) <| ip 6 Z Z Z Z (bld229 .nil (by repeat constructor)) <| i1 7 Z <| x_box Z Z Z fun b25 => i1 8 Z <| x_mapUpdate (ek := kZ) (ev := evA) (a := c.obj) (c := b25) Z Z Z ky3 Tryz.underlying144 PC <| J_pick (A := mapV kZ evA (.map (some bn)) _) PC <| J_mapEq (qs := ptrs (ins s.nt c.obj (b25, 0, []))) ptrs_ins <| J_pick (A := blk b25 _ _) PC <| J_asTo (B := blk b25 229 [.int .u32 0, .slice none 0 0, .map none]) (by rfl) <| J_ntNew <| J_asTo (B := ntF (c.obj, b25, 0, [])) (by rfl) <| J_pick (A := each ntF s.nt) PC <| J_pick (A := ntF (c.obj, b25, 0, [])) PC ?_
  refine J_eachIns hKnt <| i0 <| Q_blk_normal <| J_endnormal <| J_coS (p := p) (s := { s with nt := ins s.nt c.obj (b25, 0, []) }) bn be br bg bt bs bp bl bk PX trivial <| J_asTo (B := coA p (kMade s c b25)) (by unfold kMade; rw [if_neg h6, if_pos h16]) <| J_return (b25) Tryz.results59 .nil ?_ ?_
  · rfl
  · exact SU
  refine sr <| L_pur Z (p_eql Z Z) <| ag Z Z <| nq <| C_dec Z (fun h26 => ?_) (fun h26 => ?_)
  refine J_drawL (some 8) mixed <| ip 0 Z Z Z Z (p_move Z) <| ip 1 Z Z Z Z (p_nilCheck Z) <| ip 2 Z Z Z Z (p_fieldAddr Z fa153_11) <| iv 3 Z Z Z Z (fun _ => v_loadL (o := 13) (i := 2) Z ty146 HS Z (by exact rfl)) <| ip 4 Z Z Z Z (p_fieldAddr Z fa110_1) <| iv 5 Z Z Z Z (fun _ => v_load Z ty3 HS (by exact rfl)) <| ip 6 Z Z Z Z (bld243 .nil (by repeat constructor)) <| i1 7 Z <| x_box Z Z Z fun b35 => i1 8 Z <| x_mapUpdate (ek := kZ) (ev := evA) (a := c.obj) (c := b35) Z Z Z ky3 Tryz.underlying146 PC <| J_pick (A := mapV kZ evA (.map (some br)) _) PC <| J_mapEq (qs := ptrs (ins s.rp c.obj (b35, (0, 0), false))) ptrs_ins <| J_pick (A := blk b35 _ _) PC <| J_asTo (B := rpF (c.obj, b35, (0, 0), false)) (by rfl) <| J_pick (A := each rpF s.rp) PC <| J_pick (A := rpF (c.obj, b35, (0, 0), false)) PC ?_
  refine J_eachIns hKrp <| i0 <| Q_blk_normal <| J_endnormal <| J_coS (p := p) (s := { s with rp := ins s.rp c.obj (b35, (0, 0), false) }) bn be br bg bt bs bp bl bk PX trivial <| J_asTo (B := coA p (kMade s c b35)) (by unfold kMade; rw [if_neg h6, if_neg h16, if_pos h26]) <| J_return (b35) Tryz.results59 .nil ?_ ?_
  · rfl
  · exact SU
  refine sr <| L_pur Z (p_eql Z Z) <| ag Z Z <| nq <| C_dec Z (fun h36 => ?_) (fun h36 => ?_)
  refine J_drawT 6 mixed (by kernel_rfl) <| sm Z Z <| sp Z (p_nilCheck Z) <| sp Z (p_fieldAddr Z fa153_1) <| S_val Z (v_loadL (o := 0) (i := 5) Z ty75 HS Z (by exact rfl)) <| sp Z (p_fieldAddr Z fa110_1) <| S_val Z (v_load Z ty3 HS (by exact rfl)) <| S_nil <| xo fc106 (A2 Z Z) Z (zeroC (ms := s.mem) (u := c.obj) PC hM hc) fun _ => L_nil <| Q_blk_normal <| J_endnormal <| J_coS (p := p) (s := { s with mem := zeroM s.mem c.obj }) bn be br bg bt bs bp bl bk PX trivial <| J_asTo (B := coA p (kMade s c 0)) (by unfold kMade; rw [if_neg h6, if_neg h16, if_neg h26, if_pos h36]) <| J_return (0) Tryz.results59 .nil ?_ ?_
  · rfl
  · exact SU
  refine J_skip <| Q_blk_normal <| J_endnormal <| J_coS (p := p) (s := s) bn be br bg bt bs bp bl bk PX trivial <| J_asTo (B := coA p (kMade s c 0)) (by unfold kMade; rw [if_neg h6, if_neg h16, if_neg h26, if_neg h36]) <| J_return (0) Tryz.results59 .nil ?_ ?_
  · rfl
  · exact SU
/-! ### plain: a ring is torn down, whatever it has -/
theorem look_delO {κ υ : Type} [DecidableEq κ] {ps : List (κ × υ)} {a i : κ} (h : a ≠ i) : look (del ps i) a = look ps a := by
  rw [look_del, if_neg (fun e => h e.symm)]
theorem Fits.tearOn {N M : Nat} : ∀ {l : List Rq} {s : KS}, Fits s N M → (l.map Rq.id).Nodup → (∀ q ∈ l, look s.rt q.id = some q) → Fits (kTearL s l) N M
  | [], _, h, _, _ => h
  | q :: l, s, h, hn, hm => by
    obtain ⟨M, rfl⟩ : ∃ M', M = M' + 1 := ⟨M - 1, by
      have h1 := del_less (hm q List.mem_cons_self)
      have h2 := h.jn
      omega⟩
    rw [List.map_cons, List.nodup_cons] at hn
    refine Fits.tearOn (l := l) (s := kTear1 s q) (((h.drop (hm q List.mem_cons_self)).forget q.id).jnl h.mm (deedG q)) hn.2 fun x hx => ?_
    show look (del s.rt q.id) x.id = some x
    rw [look_delO (fun e => hn.1 (List.mem_map.2 ⟨x, hx, e⟩))]
    exact hm x (List.mem_cons_of_mem _ hx)
theorem ofQ_ids {ps : List (ID × Rq)} (hK : Keyd ps) (hI : Ids ps) (g : Int) : ((ofQ ps g).map Rq.id).Nodup ∧ ∀ q ∈ ofQ ps g, look ps q.id = some q := by
  constructor
  · have h1 : (ofQ ps g).Perm (ofRing ps g) := sortF_isPerm _
    refine (h1.map Rq.id).nodup_iff.2 ?_
    unfold ofRing
    rw [List.map_map]
    have h2 : (ps.filter fun e => decide (e.1.1 = g)).map (Rq.id ∘ Prod.snd) = (ps.filter fun e => decide (e.1.1 = g)).map Prod.fst := List.map_congr_left fun e he => hI e (List.mem_filter.1 he).1
    rw [h2]
    exact List.Nodup.sublist (List.Sublist.map _ List.filter_sublist) hK
  · intro q hq
    obtain ⟨k, h1, h2⟩ := ofQ_mem.1 hq
    rw [hI _ h1]
    exact look_mem hK h1
theorem rem_mem {α : Type} {xs : List (Int × α)} {x : Int × α} (h : x ∈ rem xs u) : x ∈ xs := (List.mem_filter.1 h).1
variable {N M : Nat}
theorem Fits.gone (h : Fits s N M) (k u : Int) : Fits (kGone s k u) N M := by
  unfold kGone
  split
  · exact ⟨h.n, h.mm, h.ids, h.jn, h.tm, fun x hx => h.ep x (rem_mem hx), h.nt, h.rp, h.rg, h.mem⟩
  · split
    · exact ⟨h.n, h.mm, h.ids, h.jn, h.tm, h.ep, fun x hx => h.nt x (rem_mem hx), h.rp, h.rg, h.mem⟩
    · split
      · exact ⟨h.n, h.mm, h.ids, h.jn, h.tm, h.ep, h.nt, fun x hx => h.rp x (rem_mem hx), h.rg, h.mem⟩
      · split
        · exact ⟨h.n, h.mm, h.ids, h.jn, h.tm, h.ep, h.nt, h.rp, h.rg, h.mem⟩
        · split
          · exact ⟨h.n, h.mm, h.ids, h.jn, h.tm, h.ep, h.nt, h.rp, h.rg, h.mem⟩
          · split
            · exact ⟨h.n, h.mm, h.ids, h.jn, h.tm, h.ep, h.nt, h.rp, h.rg, h.mem⟩
            · split
              · exact ⟨h.n, h.mm, h.ids, h.jn, h.tm, h.ep, h.nt, h.rp, fun x hx => h.rg x (rem_mem hx), h.mem⟩
              · exact h
theorem Fits.cleared (h : Fits s N M) (g : Int) : Fits (kCleared s g) N M :=
  ⟨h.n, h.mm, h.ids, h.jn, h.tm, h.ep, h.nt, h.rp, fun x hx => by
    obtain ⟨y, hy, h1, h2⟩ := updO_mem (show x ∈ updO s.rg g (fun r => { r with over := [] }) from hx)
    obtain ⟨g1, g2⟩ := h.rg y hy
    rcases h2 with h2 | h2 <;> rw [h2]
    · exact ⟨g1, g2⟩
    · exact ⟨⟨g1.sq, g1.cq, g1.cb, g1.tail, g1.sb, g1.head⟩, by have := h.jn; show 0 + s.rt.length ≤ M; omega⟩, h.mem⟩
theorem Fits.tear (hK : Keyd s.rt) (h : Fits s N M) (g : Int) : Fits (kTear s g) N M := by
  unfold kTear
  split
  · have hq := ofQ_ids hK h.ids g
    exact ((h.tearOn hq.1 hq.2).cleared g).gone 9 g
  · exact h
theorem kTearL_same : ∀ {l : List Rq} {s : KS}, (kTearL s l).q = s.q ∧ (kTearL s l).mp = s.mp ∧ (kTearL s l).sl = s.sl ∧ (kTearL s l).mr = s.mr
  | [], _ => ⟨rfl, rfl, rfl, rfl⟩
  | q :: l, s => kTearL_same (l := l) (s := kTear1 s q)
theorem kTearL_rt : ∀ {l : List Rq} {s : KS}, (kTearL s l).rt.Sublist s.rt
  | [], _ => List.Sublist.refl _
  | q :: l, s => (kTearL_rt (l := l) (s := kTear1 s q)).trans (List.filter_sublist (l := s.rt))
theorem kTear_same {g : Int} : (kTear s g).q = s.q ∧ (kTear s g).mp = s.mp ∧ (kTear s g).sl = s.sl ∧ (kTear s g).mr = s.mr := by
  unfold kTear
  split
  · have h := kTearL_same (l := ofQ s.rt g) (s := s)
    exact h
  · exact ⟨rfl, rfl, rfl, rfl⟩
theorem kTear_rt {g : Int} : (kTear s g).rt.Sublist s.rt := by
  unfold kTear
  split
  · exact kTearL_rt
  · exact List.Sublist.refl _
theorem Keyd.sub {κ υ : Type} {ps qs : List (κ × υ)} (h : Keyd ps) (hs : qs.Sublist ps) : Keyd qs := List.Nodup.sublist (hs.map _) h
def tornStep (u : Int) (s : KS) (g : Int) : KS := match look s.rg g with
  | none => s
  | some x => if x.2.sq = u ∨ x.2.cq = u then kTear s g else s
def kTorn (s : KS) (u : Int) (l : List Int) : KS := l.foldl (tornStep u) s
def kDestroy (s : KS) (o : Obj2) : KS :=
  kGone (if o.1 = 3 then kTorn (kEnds s (kWaits s o.1 o.2)) o.2 (sortZ ((kEnds s (kWaits s o.1 o.2)).rg.map Prod.fst)) else if o.1 = 9 then kTear (kEnds s (kWaits s o.1 o.2)) o.2 else kEnds s (kWaits s o.1 o.2)) o.1 o.2
def kDestroyL (s : KS) (l : List Obj2) : KS := l.foldl kDestroy s
structure Kept (s t : KS) : Prop where
  q : t.q = s.q
  mp : t.mp = s.mp
  sl : t.sl = s.sl
  mr : t.mr = s.mr
theorem Kept.refl (s : KS) : Kept s s := ⟨rfl, rfl, rfl, rfl⟩
theorem Kept.trans {s t v : KS} (h : Kept s t) (g : Kept t v) : Kept s v := ⟨g.q.trans h.q, g.mp.trans h.mp, g.sl.trans h.sl, g.mr.trans h.mr⟩
theorem Kept.said (s : KS) (d : Deed) : Kept s (kSaid s d) := by unfold kSaid kPost; split <;> exact ⟨rfl, rfl, rfl, rfl⟩
theorem Kept.tell {D : KS → ID → Int → Int → KS} (hD : ∀ s i r v, Kept s (D s i r v)) (s : KS) (d : Deed) : Kept s (kTell D s d) := by
  unfold kTell
  split
  · exact Kept.said s d
  · split
    · exact (Kept.said s d).trans (Kept.trans (t := kRung (kSaid s d) d.1.1) ⟨rfl, rfl, rfl, rfl⟩ (hD _ _ _ _))
    · exact (Kept.said s d).trans ⟨rfl, rfl, rfl, rfl⟩
theorem Kept.dec : ∀ n (s : KS) (i : ID) (r v : Int), Kept s (kDec n s i r v)
  | 0, s, _, _, _ => .refl s
  | n + 1, s, i, r, v => by
    cases hq : look s.rt i with
    | none => rw [kDec_none hq]; exact .refl s
    | some q =>
      rw [kDec_some hq]
      have h0 : Kept s (kForget { s with rt := del s.rt i } i) := ⟨rfl, rfl, rfl, rfl⟩
      have h := h0.trans (Kept.tell (D := kDec n) (fun s i r v => Kept.dec n s i r v) (kForget { s with rt := del s.rt i } i) (i, q.e.tag, q.e.op, r, v, false))
      unfold kNext
      split
      · exact h
      · split
        · exact h.trans (Kept.dec n _ _ _ _)
        · exact h
theorem Kept.ends : ∀ (l : List ID) (s : KS), Kept s (kEnds s l)
  | [], s => .refl s
  | i :: l, s => (Kept.dec _ _ _ _ _).trans (Kept.ends l _)
theorem Kept.tear (s : KS) (g : Int) : Kept s (kTear s g) := ⟨kTear_same.1, kTear_same.2.1, kTear_same.2.2.1, kTear_same.2.2.2⟩
theorem Kept.tornStep (u : Int) (s : KS) (g : Int) : Kept s (tornStep u s g) := by
  unfold Go.Pse.tornStep
  split
  · exact .refl s
  · split
    · exact .tear s g
    · exact .refl s
theorem Kept.torn (u : Int) : ∀ (l : List Int) (s : KS), Kept s (kTorn s u l)
  | [], s => .refl s
  | g :: l, s => (Kept.tornStep u s g).trans (Kept.torn u l _)
theorem dec_rt : ∀ n (s : KS) (i : ID) (r v : Int), (kDec n s i r v).rt.Sublist s.rt
  | 0, s, _, _, _ => List.Sublist.refl _
  | n + 1, s, i, r, v => by
    cases hq : look s.rt i with
    | none => rw [kDec_none hq]; exact List.Sublist.refl _
    | some q =>
      rw [kDec_some hq]
      have h : (kTell (kDec n) (kForget { s with rt := del s.rt i } i) (i, q.e.tag, q.e.op, r, v, false)).rt.Sublist s.rt := by
        unfold kTell
        have h0 : (kSaid (kForget { s with rt := del s.rt i } i) (i, q.e.tag, q.e.op, r, v, false)).rt.Sublist s.rt := by
          rw [kSaid_rt]; exact List.filter_sublist (l := s.rt)
        split
        · exact h0
        · split
          · exact (dec_rt n _ _ _ _).trans h0
          · exact h0
      unfold kNext
      split
      · exact h
      · split
        · exact (dec_rt n _ _ _ _).trans h
        · exact h
theorem ends_rt : ∀ (l : List ID) (s : KS), (kEnds s l).rt.Sublist s.rt
  | [], s => List.Sublist.refl _
  | i :: l, s => (ends_rt l _).trans (dec_rt _ _ _ _ _)
theorem tornStep_rt (u : Int) (s : KS) (g : Int) : (tornStep u s g).rt.Sublist s.rt := by
  unfold tornStep
  split
  · exact List.Sublist.refl _
  · split
    · exact kTear_rt
    · exact List.Sublist.refl _
theorem torn_rt (u : Int) : ∀ (l : List Int) (s : KS), (kTorn s u l).rt.Sublist s.rt
  | [], s => List.Sublist.refl _
  | g :: l, s => (torn_rt u l _).trans (tornStep_rt u s g)
theorem Fits.tornStep {s : KS} {N M : Nat} (hK : Keyd s.rt) (h : Fits s N M) (u g : Int) : Fits (tornStep u s g) N M := by
  unfold Go.Pse.tornStep
  split
  · exact h
  · split
    · exact h.tear hK g
    · exact h
theorem Fits.torn {N M : Nat} (u : Int) : ∀ {l : List Int} {s : KS}, Keyd s.rt → Fits s N M → Fits (kTorn s u l) N M
  | [], _, _, h => h
  | g :: l, s, hK, h => Fits.torn u (l := l) (hK.sub (tornStep_rt u s g)) (h.tornStep hK u g)
theorem kDestroy_rt (s : KS) (o : Obj2) : (kDestroy s o).rt.Sublist s.rt := by
  have e : ∀ (t : KS) (k u : Int), (kGone t k u).rt = t.rt := fun t k u => by
    unfold kGone; (repeat' split) <;> rfl
  unfold kDestroy
  rw [e]
  split
  · exact (torn_rt _ _ _).trans (ends_rt _ _)
  · split
    · exact kTear_rt.trans (ends_rt _ _)
    · exact ends_rt _ _
theorem Fits.destroy (hK : Keyd s.rt) (h : Fits s N M) (o : Obj2) : Fits (kDestroy s o) N M := by
  have hE : Fits (kEnds s (kWaits s o.1 o.2)) N M := h.ends
  have hK2 := hK.sub (ends_rt (kWaits s o.1 o.2) s)
  unfold kDestroy
  refine Fits.gone ?_ _ _
  split
  · exact hE.torn _ hK2
  · split
    · exact hE.tear hK2 _
    · exact hE
theorem gone_len (s : KS) (k u : Int) : (kGone s k u).q.length ≤ s.q.length ∧ (kGone s k u).mp.length ≤ s.mp.length ∧ (kGone s k u).sl = s.sl ∧ (kGone s k u).mr = s.mr := by
  unfold kGone
  have h1 : ∀ p : (Int × Int) × (Int × Int) → Bool, (s.mp.filter p).length ≤ s.mp.length := fun p => List.length_filter_le _ _
  (repeat' split) <;> first | exact ⟨Nat.le_refl _, Nat.le_refl _, rfl, rfl⟩ | exact ⟨Nat.le_refl _, h1 _, rfl, rfl⟩ | exact ⟨qRem_len _ _, Nat.le_refl _, rfl, rfl⟩
theorem destroy_len (s : KS) (o : Obj2) : (kDestroy s o).q.length ≤ s.q.length ∧ (kDestroy s o).mp.length ≤ s.mp.length ∧ (kDestroy s o).sl = s.sl ∧ (kDestroy s o).mr = s.mr := by
  have hk : Kept s (if o.1 = 3 then kTorn (kEnds s (kWaits s o.1 o.2)) o.2 (sortZ ((kEnds s (kWaits s o.1 o.2)).rg.map Prod.fst)) else if o.1 = 9 then kTear (kEnds s (kWaits s o.1 o.2)) o.2 else kEnds s (kWaits s o.1 o.2)) := by
    split
    · exact (Kept.ends _ _).trans (Kept.torn _ _ _)
    · split
      · exact (Kept.ends _ _).trans (Kept.tear _ _)
      · exact Kept.ends _ _
  have h := gone_len (if o.1 = 3 then kTorn (kEnds s (kWaits s o.1 o.2)) o.2 (sortZ ((kEnds s (kWaits s o.1 o.2)).rg.map Prod.fst)) else if o.1 = 9 then kTear (kEnds s (kWaits s o.1 o.2)) o.2 else kEnds s (kWaits s o.1 o.2)) o.1 o.2
  rw [hk.q, hk.mp, hk.sl, hk.mr] at h
  exact h
theorem destroyL_rt : ∀ (l : List Obj2) (s : KS), (kDestroyL s l).rt.Sublist s.rt
  | [], s => List.Sublist.refl _
  | o :: l, s => (destroyL_rt l _).trans (kDestroy_rt s o)
theorem Fits.destroyL {N M : Nat} : ∀ {l : List Obj2} {s : KS}, Keyd s.rt → Fits s N M → Fits (kDestroyL s l) N M
  | [], _, _, h => h
  | o :: l, s, hK, h => Fits.destroyL (l := l) (hK.sub (kDestroy_rt s o)) (h.destroy hK o)
theorem destroyL_len : ∀ (l : List Obj2) (s : KS), (kDestroyL s l).q.length ≤ s.q.length ∧ (kDestroyL s l).mp.length ≤ s.mp.length ∧ (kDestroyL s l).sl = s.sl ∧ (kDestroyL s l).mr = s.mr
  | [], s => ⟨Nat.le_refl _, Nat.le_refl _, rfl, rfl⟩
  | o :: l, s => by
    have h1 := destroyL_len l (kDestroy s o)
    have h2 := destroy_len s o
    exact ⟨Nat.le_trans h1.1 h2.1, Nat.le_trans h1.2.1 h2.2.1, h1.2.2.1.trans h2.2.2.1, h1.2.2.2.trans h2.2.2.2⟩
theorem kSaid_rglen (s : KS) (d : Deed) : (kSaid s d).rg.length = s.rg.length := by
  unfold kSaid kPost
  split
  · rfl
  · simp [updO]
theorem tell_rglen {D : KS → ID → Int → Int → KS} (hD : ∀ s i r v, (D s i r v).rg.length = s.rg.length) (s : KS) (d : Deed) : (kTell D s d).rg.length = s.rg.length := by
  unfold kTell
  split
  · exact kSaid_rglen s d
  · split
    · exact (hD _ _ _ _).trans (kSaid_rglen s d)
    · exact kSaid_rglen s d
theorem dec_rglen : ∀ n (s : KS) (i : ID) (r v : Int), (kDec n s i r v).rg.length = s.rg.length
  | 0, s, _, _, _ => rfl
  | n + 1, s, i, r, v => by
    cases hq : look s.rt i with
    | none => rw [kDec_none hq]
    | some q =>
      rw [kDec_some hq]
      have h := tell_rglen (D := kDec n) (fun s i r v => dec_rglen n s i r v) (kForget { s with rt := del s.rt i } i) (i, q.e.tag, q.e.op, r, v, false)
      unfold kNext
      split
      · exact h
      · split
        · exact (dec_rglen n _ _ _ _).trans h
        · exact h
theorem ends_rglen : ∀ (l : List ID) (s : KS), (kEnds s l).rg.length = s.rg.length
  | [], s => rfl
  | i :: l, s => (ends_rglen l _).trans (dec_rglen _ _ _ _ _)
theorem kTear_rglen (s : KS) (g : Int) : (kTear s g).rg.length ≤ s.rg.length := by
  unfold kTear
  split
  · have e : (kGone (kCleared (kTearL s (ofQ s.rt g)) g) 9 g).rg = rem (updO (kTearL s (ofQ s.rt g)).rg g (fun r => { r with over := [] })) g := rfl
    rw [e, kTearL_rg.1]
    unfold rem
    refine Nat.le_trans (List.length_filter_le _ _) ?_
    unfold updO; rw [List.length_map]; exact Nat.le_refl _
  · exact Nat.le_refl _
theorem torn_rglen (u : Int) : ∀ (l : List Int) (s : KS), (kTorn s u l).rg.length ≤ s.rg.length
  | [], s => Nat.le_refl _
  | g :: l, s => by
    refine Nat.le_trans (torn_rglen u l (tornStep u s g)) ?_
    unfold tornStep
    split
    · exact Nat.le_refl _
    · split
      · exact kTear_rglen s g
      · exact Nat.le_refl _
theorem gone_rglen (s : KS) (k u : Int) : (kGone s k u).rg.length ≤ s.rg.length := by
  unfold kGone
  (repeat' split) <;> first | exact Nat.le_refl _ | exact List.length_filter_le _ _
theorem destroy_rglen (s : KS) (o : Obj2) : (kDestroy s o).rg.length ≤ s.rg.length := by
  unfold kDestroy
  refine Nat.le_trans (gone_rglen _ _ _) ?_
  split
  · exact Nat.le_trans (torn_rglen _ _ _) (Nat.le_of_eq (ends_rglen _ _))
  · split
    · exact Nat.le_trans (kTear_rglen _ _) (Nat.le_of_eq (ends_rglen _ _))
    · exact Nat.le_of_eq (ends_rglen _ _)
theorem destroyL_rglen : ∀ (l : List Obj2) (s : KS), (kDestroyL s l).rg.length ≤ s.rg.length
  | [], s => Nat.le_refl _
  | o :: l, s => Nat.le_trans (destroyL_rglen l _) (destroy_rglen s o)
theorem coFindG (hp : Pick (coA p s) l m) {a : Int} (ha : 0 ≤ a ∧ a < 4294967296) :
    Con Tryz.prog 309 #[.pointer (some ⟨p, 6, none⟩), .agg (encC root).toArray, .int .u32 a] E l (fun _ : Unit => .tuple #[.agg (encI ((kFind s.sl root a).getD (0, 0))).toArray, .int .i64 (if (kFind s.sl root a).isSome then 0 else 2)]) (fun _ => coA p s :: m) := fun w H => by
  refine (?_ : Jk E l 0 [] fun _ w => Calls Tryz.prog 309 #[.pointer (some ⟨p, 6, none⟩), .agg (encC root).toArray, .int .u32 a] w fun e w' => ∃ x, e = .returned ((fun _ : Unit => .tuple #[.agg (encI ((kFind s.sl root a).getD (0, 0))).toArray, .int .i64 (if (kFind s.sl root a).isSome then 0 else 2)]) x) ∧ Sep E w' ((fun _ : Unit => coA p s :: m) x)) w _ H fr0
  refine J_pick hp <| J_coO fun bn be br bg bt bs bp bl bk _ => J_con (findG (ps := s.sl) (root := root) (a := a) PC ha) fun x => J_coS (p := p) (s := s) bn be br bg bt bs bp bl bk PX trivial ?_
  exact J_end SU
theorem coCapG (hp : Pick (coA p s) l m) {a kind : Int} (ha : 0 ≤ a ∧ a < 4294967296) :
    Con Tryz.prog 285 #[.pointer (some ⟨p, 6, none⟩), .agg (encC root).toArray, .int .u32 a, .int .i64 kind] E l (fun _ : Unit => .tuple #[.agg (encC (kCap s.sl root a kind).1).toArray, .agg (encI (kCap s.sl root a kind).2.1).toArray, .int .i64 (kCap s.sl root a kind).2.2]) (fun _ => coA p s :: m) := fun w H => by
  refine (?_ : Jk E l 0 [] fun _ w => Calls Tryz.prog 285 #[.pointer (some ⟨p, 6, none⟩), .agg (encC root).toArray, .int .u32 a, .int .i64 kind] w fun e w' => ∃ x, e = .returned ((fun _ : Unit => .tuple #[.agg (encC (kCap s.sl root a kind).1).toArray, .agg (encI (kCap s.sl root a kind).2.1).toArray, .int .i64 (kCap s.sl root a kind).2.2]) x) ∧ Sep E w' ((fun _ : Unit => coA p s :: m) x)) w _ H fr0
  refine J_pick hp <| J_coO fun bn be br bg bt bs bp bl bk _ => J_con (capG (ps := s.sl) (root := root) (a := a) (kind := kind) PC ha) fun x => J_coS (p := p) (s := s) bn be br bg bt bs bp bl bk PX trivial ?_
  exact J_end SU
theorem coMintG (hp : Pick (coA p s) l m) {xp yp : Place} (hn : 0 ≤ r ∧ r < 4294967296) :
    Con Tryz.prog 210 #[.pointer (some ⟨p, 6, none⟩), .agg (encI xp).toArray, .agg (encI yp).toArray, .int .u32 r] E l (fun _ : Unit => .int .i64 (mintS s.sl xp yp r).2) (fun _ => coA p { s with sl := (mintS s.sl xp yp r).1 } :: m) := fun w H => by
  refine (?_ : Jk E l 0 [] fun _ w => Calls Tryz.prog 210 #[.pointer (some ⟨p, 6, none⟩), .agg (encI xp).toArray, .agg (encI yp).toArray, .int .u32 r] w fun e w' => ∃ x, e = .returned ((fun _ : Unit => .int .i64 (mintS s.sl xp yp r).2) x) ∧ Sep E w' ((fun _ : Unit => coA p { s with sl := (mintS s.sl xp yp r).1 } :: m) x)) w _ H fr0
  refine J_pick hp <| J_coO fun bn be br bg bt bs bp bl bk _ => J_con (mintG (ps := s.sl) (p := xp) (q := yp) (n := r) PC hn) fun x => J_coS (p := p) (s := { s with sl := (mintS s.sl xp yp r).1 }) bn be br bg bt bs bp bl bk PX trivial ?_
  exact J_end SU
theorem coMakeG (hp : Pick (coA p s) l m) {xp yp : Place} {size : Int} (hck : CapsOk s.sl) (hmk : MarksOk s.mr) (hsl : s.sl.length ≤ 100000) :
    Con Tryz.prog 219 #[.pointer (some ⟨p, 6, none⟩), .pointer (some ⟨p, 7, none⟩), .agg (encI xp).toArray, .agg (encI yp).toArray, .int .i64 kind, .int .i64 size] E l (fun _ : Unit => .tuple #[.agg (encC (makeS s.sl s.mr xp yp kind size).2.1).toArray, .int .i64 (makeS s.sl s.mr xp yp kind size).2.2]) (fun _ => coA p { s with sl := (makeS s.sl s.mr xp yp kind size).1.1, mr := (makeS s.sl s.mr xp yp kind size).1.2 } :: m) := fun w H => by
  refine (?_ : Jk E l 0 [] fun _ w => Calls Tryz.prog 219 #[.pointer (some ⟨p, 6, none⟩), .pointer (some ⟨p, 7, none⟩), .agg (encI xp).toArray, .agg (encI yp).toArray, .int .i64 kind, .int .i64 size] w fun e w' => ∃ x, e = .returned ((fun _ : Unit => .tuple #[.agg (encC (makeS s.sl s.mr xp yp kind size).2.1).toArray, .int .i64 (makeS s.sl s.mr xp yp kind size).2.2]) x) ∧ Sep E w' ((fun _ : Unit => coA p { s with sl := (makeS s.sl s.mr xp yp kind size).1.1, mr := (makeS s.sl s.mr xp yp kind size).1.2 } :: m) x)) w _ H fr0
  refine J_pick hp <| J_coO fun bn be br bg bt bs bp bl bk _ => J_con (makeG (ps := s.sl) (mr := s.mr) (p := xp) (q := yp) (kind := kind) (size := size) PX hck hmk hsl) fun x => J_coS (p := p) (s := { s with sl := (makeS s.sl s.mr xp yp kind size).1.1, mr := (makeS s.sl s.mr xp yp kind size).1.2 }) bn be br bg bt bs bp bl bk PX trivial ?_
  exact J_end SU
theorem J_picks3 {A B C : As} (hp : Picks [A, B, C] l m) (k : Jk E (A :: B :: C :: m) n F K) : Jk E l n F K := fun w a H hF => k w a (hp.sep H) hF
/-! ### plain: what an entry asks of slots -/
def in32 (n : Int) : Prop := 0 ≤ n ∧ n < 4294967296
structure SqeOk (e : Sqe) : Prop where
  cap : in32 e.cap
  a : in32 e.a
  b : in32 e.b
  c : in32 e.c
def twoAt (s : KS) (T : Th) (e : Sqe) : Option (Place × Place) := match kFind s.sl T.root e.cap with
  | none => none
  | some x => match kFind s.sl T.root e.a with
    | none => none
    | some y => some (x, y)
def twoS (s : KS) (F : Place → Place → KS × Int) : Option (Place × Place) → KS × Int
  | none => (s, 2)
  | some x => F x.1 x.2
def twoC (C : As) (D : Place → Place → As) : Option (Place × Place) → As
  | none => C
  | some x => D x.1 x.2
def killS (s : KS) (F : Place → (List (Place × SV) × List Obj2) × Int) : Option Place → KS × Int
  | none => (s, 2)
  | some x => (kDestroyL { s with sl := (F x).1.1 } (F x).1.2, (F x).2)
def mayS (s : KS) (T : Th) (e : Sqe) (kind r : Int) : Cap × Int :=
  if (kCap s.sl T.root e.cap kind).2.2 = 0 ∧ bits .and .i64 (kCap s.sl T.root e.cap kind).1.rights r ≠ r then (c0, 6) else ((kCap s.sl T.root e.cap kind).1, (kCap s.sl T.root e.cap kind).2.2)
theorem kCap_code {sl : List (Place × SV)} {a kind : Int} : 0 ≤ (kCap sl root a kind).2.2 ∧ (kCap sl root a kind).2.2 ≤ 5 := by
  unfold kCap
  split
  · simp
  · split
    · simp
    · split <;> simp
variable {e : Sqe}
theorem mayS_code : 0 ≤ (mayS s T e kind r).2 ∧ (mayS s T e kind r).2 ≤ 6 := by
  unfold mayS
  split
  · simp
  · have := kCap_code (sl := s.sl) (root := T.root) (a := e.cap) (kind := kind)
    simp only; omega
theorem bothS_code {p q : Place} : 0 ≤ (bothS ps p q).2 ∧ (bothS ps p q).2 ≤ 7 := by
  unfold bothS
  split
  · simp
  · split
    · simp
    · split <;> simp
theorem badgeC_code {c : Cap} {n : Int} : 0 ≤ (badgeC c n).2 ∧ (badgeC c n).2 ≤ 12 := by
  unfold badgeC
  (repeat' split) <;> simp
theorem mintS_code {p q : Place} : 0 ≤ (mintS ps p q r).2 ∧ (mintS ps p q r).2 ≤ 100 := by
  have := bothS_code (ps := ps) (p := p) (q := q)
  have := badgeC_code (c := (bothS ps p q).1) (n := r)
  unfold mintS
  split
  · simp only; omega
  · split
    · simp only; omega
    · simp
theorem kindsC_code {k : Int} : 0 ≤ kindsC k z ∧ kindsC k z ≤ 7 := by
  unfold kindsC
  (repeat' split) <;> simp
theorem makeS_code {mr : List (Place × Int)} {p q : Place} {k : Int} : 0 ≤ (makeS ps mr p q k z).2.2 ∧ (makeS ps mr p q k z).2.2 ≤ 100 := by
  have := kindsC_code (k := k) (z := z)
  unfold makeS
  (repeat' split) <;> first | (simp; done) | (simp only; omega)
theorem placeG {a p : Nat} {q : Rq} (hp : Picks [actA a p T q i, coA p s] l m) {a_ : Int} (ha : in32 a_) :
    Con Tryz.prog 271 #[.pointer (some ⟨a, 0, none⟩), .int .u32 a_] E l (fun _ : Unit => .tuple #[.agg (encI ((kFind s.sl T.root a_).getD (0, 0))).toArray, .int .i64 (if (kFind s.sl T.root a_).isSome then 0 else 2)]) (fun _ => actA a p T q i :: coA p s :: m) := by
  refine Con.body (n := 20) Tryz.func271 Z Z _ (env_ok 2 Z) <| J_picks2 hp <| J_act <| sr <| L_op <| x_alloc ty108 Z fun b4 => ag Z Z <| nq <| J_seq <| J_drawL (some 14) mixed <| ip 0 Z Z Z Z (p_move Z) <| ip 1 Z Z Z Z (p_nilCheck Z) <| ip 2 Z Z Z Z (p_fieldAddr Z fa279_0) <| iv 3 Z Z Z Z (fun _ => v_load Z ty24 HS (by exact rfl)) <| ip 5 Z Z Z Z (p_move Z) <| ip 6 Z Z Z Z (p_nilCheck Z) <| ip 7 Z Z Z Z (p_fieldAddr Z fa279_1) <| ip 8 Z Z Z Z (p_fieldAddr Z fa213_3) <| iv 9 Z Z Z Z (fun _ => v_loadA Z ty110 HS CT) <| J_slot (t := 15) (v := .agg (encC T.root).toArray) Z Z <| ip 10 Z Z Z Z (p_move Z) <| i1 4 Z <| xc fc28 (A1 Z) Z (coSlots) fun _ => i1 11 Z <| xc fc309 (A3 Z Z Z) Z (coFindG (s := s) (root := T.root) (a := a_) PC ha) fun _ => ip 12 Z Z Z Z (p_extract Z Z) <| ip 13 Z Z Z Z (p_extract Z Z) <| i1 14 Z <| x_store Z Z ty108 Z SM SM RO PT ?_
  refine ip 15 Z Z Z Z (p_assign Z) <| i0 <| Q_then <| J_ret <| J_pick (A := blk a _ _) PC <| J_asTo (B := actA a p T q i) (by rfl) <| J_return (()) Tryz.results271 (.cellA Z ty108 HS CT (.tmp Z .nil)) ?_ ?_
  · rfl
  · exact SU
theorem foundG {a p : Nat} {q : Rq} (hp : Picks [actA a p T q i, coA p s] l m) {a_ : Int} (ha : in32 a_) :
    Con Tryz.prog 221 #[.pointer (some ⟨a, 0, none⟩), .int .u32 a_, .int .i64 kind] E l (fun _ : Unit => .tuple #[.agg (encC (kCap s.sl T.root a_ kind).1).toArray, .int .i64 (kCap s.sl T.root a_ kind).2.2]) (fun _ => actA a p T q i :: coA p s :: m) := by
  refine Con.body (n := 30) Tryz.func221 Z Z _ (env_ok 3 Z) <| J_picks2 hp <| J_act <| sr <| L_op <| x_alloc ty110 Z fun b6 => ag Z Z <| nq <| J_seq <| J_drawL none mixed <| ip 0 Z Z Z Z (p_move Z) <| ip 1 Z Z Z Z (p_nilCheck Z) <| ip 2 Z Z Z Z (p_fieldAddr Z fa279_0) <| iv 3 Z Z Z Z (fun _ => v_load Z ty24 HS (by exact rfl)) <| ip 5 Z Z Z Z (p_move Z) <| ip 6 Z Z Z Z (p_nilCheck Z) <| ip 7 Z Z Z Z (p_fieldAddr Z fa279_1) <| ip 8 Z Z Z Z (p_fieldAddr Z fa213_3) <| iv 9 Z Z Z Z (fun _ => v_loadA Z ty110 HS CT) <| J_slot (t := 21) (v := .agg (encC T.root).toArray) Z Z <| ip 10 Z Z Z Z (p_move Z) <| ip 11 Z Z Z Z (p_move Z) <| I_ready (rs := [4, 17, 18]) SI (by kernel_rfl) (by simp) <| (I_cons Z ?_ (I_cons Z ?_ (I_cons Z ?_ I_nil)))
  refine xc fc28 (A1 Z) Z (coSlots) fun _ => I_ready (rs := [12, 17, 18]) SI (by kernel_rfl) (by simp) <| (I_cons Z ?_ (I_cons Z ?_ (I_cons Z ?_ I_nil)))
  refine xc fc285 (A4 Z Z Z Z) Z (coCapG (s := s) (root := T.root) (a := a_) (kind := kind) PC ha) fun _ => ip 13 Z Z Z Z (p_move Z) <| ip 14 Z Z Z Z (p_extract Z Z) <| ip 15 Z Z Z Z (p_extract Z Z) <| ip 16 Z Z Z Z (p_extract Z Z) <| I_ready (rs := [17, 18]) SI (by kernel_rfl) (by simp) <| (I_cons Z ?_ (I_cons Z ?_ I_nil))
  refine x_alloc ty110 Z fun b8 => i1 18 Z <| x_alloc ty108 Z fun b9 => i1 19 Z <| x_store Z Z ty110 Z SM SM RO PT <| i1 20 Z <| x_store Z Z ty108 Z SM SM RO PT <| ip 21 Z Z Z Z (p_assign Z) <| i0 <| qx <| L_val Z (v_loadA Z ty110 HS CT) <| mv Z Z <| L_op <| x_store Z Z ty110 Z SM SM RO PT <| ag Z Z <| nq <| J_ret <| J_pick (A := blk a _ _) PC <| J_asTo (B := actA a p T q i) (by rfl) <| J_return (()) Tryz.results221 (.cellA Z ty110 HS CT (.tmp Z .nil)) ?_ ?_
  · rfl
  · exact SU
  refine x_alloc ty108 Z fun b9 => i1 17 Z <| x_alloc ty110 Z fun b8 => i1 19 Z <| x_store Z Z ty110 Z SM SM RO PT <| i1 20 Z <| x_store Z Z ty108 Z SM SM RO PT <| ip 21 Z Z Z Z (p_assign Z) <| i0 <| qx <| L_val Z (v_loadA Z ty110 HS CT) <| mv Z Z <| L_op <| x_store Z Z ty110 Z SM SM RO PT <| ag Z Z <| nq <| J_ret <| J_pick (A := blk a _ _) PC <| J_asTo (B := actA a p T q i) (by rfl) <| J_return (()) Tryz.results221 (.cellA Z ty110 HS CT (.tmp Z .nil)) ?_ ?_
  · rfl
  · exact SU
  refine x_alloc ty110 Z fun b8 => I_ready (rs := [12, 18]) SI (by kernel_rfl) (by simp) <| (I_cons Z ?_ (I_cons Z ?_ I_nil))
  refine xc fc285 (A4 Z Z Z Z) Z (coCapG (s := s) (root := T.root) (a := a_) (kind := kind) PC ha) fun _ => ip 13 Z Z Z Z (p_move Z) <| ip 14 Z Z Z Z (p_extract Z Z) <| ip 15 Z Z Z Z (p_extract Z Z) <| ip 16 Z Z Z Z (p_extract Z Z) <| i1 18 Z <| x_alloc ty108 Z fun b9 => i1 19 Z <| x_store Z Z ty110 Z SM SM RO PT <| i1 20 Z <| x_store Z Z ty108 Z SM SM RO PT <| ip 21 Z Z Z Z (p_assign Z) <| i0 <| qx <| L_val Z (v_loadA Z ty110 HS CT) <| mv Z Z <| L_op <| x_store Z Z ty110 Z SM SM RO PT <| ag Z Z <| nq <| J_ret <| J_pick (A := blk a _ _) PC <| J_asTo (B := actA a p T q i) (by rfl) <| J_return (()) Tryz.results221 (.cellA Z ty110 HS CT (.tmp Z .nil)) ?_ ?_
  · rfl
  · exact SU
  refine x_alloc ty108 Z fun b9 => i1 12 Z <| xc fc285 (A4 Z Z Z Z) Z (coCapG (s := s) (root := T.root) (a := a_) (kind := kind) PC ha) fun _ => ip 13 Z Z Z Z (p_move Z) <| ip 14 Z Z Z Z (p_extract Z Z) <| ip 15 Z Z Z Z (p_extract Z Z) <| ip 16 Z Z Z Z (p_extract Z Z) <| i1 19 Z <| x_store Z Z ty110 Z SM SM RO PT <| i1 20 Z <| x_store Z Z ty108 Z SM SM RO PT <| ip 21 Z Z Z Z (p_assign Z) <| i0 <| qx <| L_val Z (v_loadA Z ty110 HS CT) <| mv Z Z <| L_op <| x_store Z Z ty110 Z SM SM RO PT <| ag Z Z <| nq <| J_ret <| J_pick (A := blk a _ _) PC <| J_asTo (B := actA a p T q i) (by rfl) <| J_return (()) Tryz.results221 (.cellA Z ty110 HS CT (.tmp Z .nil)) ?_ ?_
  · rfl
  · exact SU
  refine x_alloc ty108 Z fun b9 => I_ready (rs := [12, 17]) SI (by kernel_rfl) (by simp) <| (I_cons Z ?_ (I_cons Z ?_ I_nil))
  refine xc fc285 (A4 Z Z Z Z) Z (coCapG (s := s) (root := T.root) (a := a_) (kind := kind) PC ha) fun _ => ip 13 Z Z Z Z (p_move Z) <| ip 14 Z Z Z Z (p_extract Z Z) <| ip 15 Z Z Z Z (p_extract Z Z) <| ip 16 Z Z Z Z (p_extract Z Z) <| i1 17 Z <| x_alloc ty110 Z fun b8 => i1 19 Z <| x_store Z Z ty110 Z SM SM RO PT <| i1 20 Z <| x_store Z Z ty108 Z SM SM RO PT <| ip 21 Z Z Z Z (p_assign Z) <| i0 <| qx <| L_val Z (v_loadA Z ty110 HS CT) <| mv Z Z <| L_op <| x_store Z Z ty110 Z SM SM RO PT <| ag Z Z <| nq <| J_ret <| J_pick (A := blk a _ _) PC <| J_asTo (B := actA a p T q i) (by rfl) <| J_return (()) Tryz.results221 (.cellA Z ty110 HS CT (.tmp Z .nil)) ?_ ?_
  · rfl
  · exact SU
  refine x_alloc ty110 Z fun b8 => i1 12 Z <| xc fc285 (A4 Z Z Z Z) Z (coCapG (s := s) (root := T.root) (a := a_) (kind := kind) PC ha) fun _ => ip 13 Z Z Z Z (p_move Z) <| ip 14 Z Z Z Z (p_extract Z Z) <| ip 15 Z Z Z Z (p_extract Z Z) <| ip 16 Z Z Z Z (p_extract Z Z) <| i1 19 Z <| x_store Z Z ty110 Z SM SM RO PT <| i1 20 Z <| x_store Z Z ty108 Z SM SM RO PT <| ip 21 Z Z Z Z (p_assign Z) <| i0 <| qx <| L_val Z (v_loadA Z ty110 HS CT) <| mv Z Z <| L_op <| x_store Z Z ty110 Z SM SM RO PT <| ag Z Z <| nq <| J_ret <| J_pick (A := blk a _ _) PC <| J_asTo (B := actA a p T q i) (by rfl) <| J_return (()) Tryz.results221 (.cellA Z ty110 HS CT (.tmp Z .nil)) ?_ ?_
  · rfl
  · exact SU
  refine x_alloc ty110 Z fun b8 => I_ready (rs := [4, 18]) SI (by kernel_rfl) (by simp) <| (I_cons Z ?_ (I_cons Z ?_ I_nil))
  refine xc fc28 (A1 Z) Z (coSlots) fun _ => I_ready (rs := [12, 18]) SI (by kernel_rfl) (by simp) <| (I_cons Z ?_ (I_cons Z ?_ I_nil))
  refine xc fc285 (A4 Z Z Z Z) Z (coCapG (s := s) (root := T.root) (a := a_) (kind := kind) PC ha) fun _ => ip 13 Z Z Z Z (p_move Z) <| ip 14 Z Z Z Z (p_extract Z Z) <| ip 15 Z Z Z Z (p_extract Z Z) <| ip 16 Z Z Z Z (p_extract Z Z) <| i1 18 Z <| x_alloc ty108 Z fun b9 => i1 19 Z <| x_store Z Z ty110 Z SM SM RO PT <| i1 20 Z <| x_store Z Z ty108 Z SM SM RO PT <| ip 21 Z Z Z Z (p_assign Z) <| i0 <| qx <| L_val Z (v_loadA Z ty110 HS CT) <| mv Z Z <| L_op <| x_store Z Z ty110 Z SM SM RO PT <| ag Z Z <| nq <| J_ret <| J_pick (A := blk a _ _) PC <| J_asTo (B := actA a p T q i) (by rfl) <| J_return (()) Tryz.results221 (.cellA Z ty110 HS CT (.tmp Z .nil)) ?_ ?_
  · rfl
  · exact SU
  refine x_alloc ty108 Z fun b9 => i1 12 Z <| xc fc285 (A4 Z Z Z Z) Z (coCapG (s := s) (root := T.root) (a := a_) (kind := kind) PC ha) fun _ => ip 13 Z Z Z Z (p_move Z) <| ip 14 Z Z Z Z (p_extract Z Z) <| ip 15 Z Z Z Z (p_extract Z Z) <| ip 16 Z Z Z Z (p_extract Z Z) <| i1 19 Z <| x_store Z Z ty110 Z SM SM RO PT <| i1 20 Z <| x_store Z Z ty108 Z SM SM RO PT <| ip 21 Z Z Z Z (p_assign Z) <| i0 <| qx <| L_val Z (v_loadA Z ty110 HS CT) <| mv Z Z <| L_op <| x_store Z Z ty110 Z SM SM RO PT <| ag Z Z <| nq <| J_ret <| J_pick (A := blk a _ _) PC <| J_asTo (B := actA a p T q i) (by rfl) <| J_return (()) Tryz.results221 (.cellA Z ty110 HS CT (.tmp Z .nil)) ?_ ?_
  · rfl
  · exact SU
  refine x_alloc ty108 Z fun b9 => i1 4 Z <| xc fc28 (A1 Z) Z (coSlots) fun _ => i1 12 Z <| xc fc285 (A4 Z Z Z Z) Z (coCapG (s := s) (root := T.root) (a := a_) (kind := kind) PC ha) fun _ => ip 13 Z Z Z Z (p_move Z) <| ip 14 Z Z Z Z (p_extract Z Z) <| ip 15 Z Z Z Z (p_extract Z Z) <| ip 16 Z Z Z Z (p_extract Z Z) <| i1 19 Z <| x_store Z Z ty110 Z SM SM RO PT <| i1 20 Z <| x_store Z Z ty108 Z SM SM RO PT <| ip 21 Z Z Z Z (p_assign Z) <| i0 <| qx <| L_val Z (v_loadA Z ty110 HS CT) <| mv Z Z <| L_op <| x_store Z Z ty110 Z SM SM RO PT <| ag Z Z <| nq <| J_ret <| J_pick (A := blk a _ _) PC <| J_asTo (B := actA a p T q i) (by rfl) <| J_return (()) Tryz.results221 (.cellA Z ty110 HS CT (.tmp Z .nil)) ?_ ?_
  · rfl
  · exact SU
  refine x_alloc ty108 Z fun b9 => I_ready (rs := [4, 17]) SI (by kernel_rfl) (by simp) <| (I_cons Z ?_ (I_cons Z ?_ I_nil))
  refine xc fc28 (A1 Z) Z (coSlots) fun _ => I_ready (rs := [12, 17]) SI (by kernel_rfl) (by simp) <| (I_cons Z ?_ (I_cons Z ?_ I_nil))
  refine xc fc285 (A4 Z Z Z Z) Z (coCapG (s := s) (root := T.root) (a := a_) (kind := kind) PC ha) fun _ => ip 13 Z Z Z Z (p_move Z) <| ip 14 Z Z Z Z (p_extract Z Z) <| ip 15 Z Z Z Z (p_extract Z Z) <| ip 16 Z Z Z Z (p_extract Z Z) <| i1 17 Z <| x_alloc ty110 Z fun b8 => i1 19 Z <| x_store Z Z ty110 Z SM SM RO PT <| i1 20 Z <| x_store Z Z ty108 Z SM SM RO PT <| ip 21 Z Z Z Z (p_assign Z) <| i0 <| qx <| L_val Z (v_loadA Z ty110 HS CT) <| mv Z Z <| L_op <| x_store Z Z ty110 Z SM SM RO PT <| ag Z Z <| nq <| J_ret <| J_pick (A := blk a _ _) PC <| J_asTo (B := actA a p T q i) (by rfl) <| J_return (()) Tryz.results221 (.cellA Z ty110 HS CT (.tmp Z .nil)) ?_ ?_
  · rfl
  · exact SU
  refine x_alloc ty110 Z fun b8 => i1 12 Z <| xc fc285 (A4 Z Z Z Z) Z (coCapG (s := s) (root := T.root) (a := a_) (kind := kind) PC ha) fun _ => ip 13 Z Z Z Z (p_move Z) <| ip 14 Z Z Z Z (p_extract Z Z) <| ip 15 Z Z Z Z (p_extract Z Z) <| ip 16 Z Z Z Z (p_extract Z Z) <| i1 19 Z <| x_store Z Z ty110 Z SM SM RO PT <| i1 20 Z <| x_store Z Z ty108 Z SM SM RO PT <| ip 21 Z Z Z Z (p_assign Z) <| i0 <| qx <| L_val Z (v_loadA Z ty110 HS CT) <| mv Z Z <| L_op <| x_store Z Z ty110 Z SM SM RO PT <| ag Z Z <| nq <| J_ret <| J_pick (A := blk a _ _) PC <| J_asTo (B := actA a p T q i) (by rfl) <| J_return (()) Tryz.results221 (.cellA Z ty110 HS CT (.tmp Z .nil)) ?_ ?_
  · rfl
  · exact SU
  refine x_alloc ty110 Z fun b8 => i1 4 Z <| xc fc28 (A1 Z) Z (coSlots) fun _ => i1 12 Z <| xc fc285 (A4 Z Z Z Z) Z (coCapG (s := s) (root := T.root) (a := a_) (kind := kind) PC ha) fun _ => ip 13 Z Z Z Z (p_move Z) <| ip 14 Z Z Z Z (p_extract Z Z) <| ip 15 Z Z Z Z (p_extract Z Z) <| ip 16 Z Z Z Z (p_extract Z Z) <| i1 19 Z <| x_store Z Z ty110 Z SM SM RO PT <| i1 20 Z <| x_store Z Z ty108 Z SM SM RO PT <| ip 21 Z Z Z Z (p_assign Z) <| i0 <| qx <| L_val Z (v_loadA Z ty110 HS CT) <| mv Z Z <| L_op <| x_store Z Z ty110 Z SM SM RO PT <| ag Z Z <| nq <| J_ret <| J_pick (A := blk a _ _) PC <| J_asTo (B := actA a p T q i) (by rfl) <| J_return (()) Tryz.results221 (.cellA Z ty110 HS CT (.tmp Z .nil)) ?_ ?_
  · rfl
  · exact SU
theorem mayG {a p : Nat} {q : Rq} (hp : Picks [actA a p T q i, coA p s] l m) (hE : SqeOk q.e) :
    Con Tryz.prog 224 #[.pointer (some ⟨a, 0, none⟩), .int .i64 kind, .int .i64 r] E l (fun _ : Unit => .tuple #[.agg (encC (mayS s T q.e kind r).1).toArray, .int .i64 (mayS s T q.e kind r).2]) (fun _ => actA a p T q i :: coA p s :: m) := by
  refine Con.body (n := 35) Tryz.func224 Z Z _ (env_ok 3 Z) <| J_picks2 hp <| J_act <| sr <| L_op <| x_alloc ty110 Z fun b6 => ag Z Z <| nx <| mv Z Z <| mv Z Z <| nc Z Z <| fa Z Z fa279_2 <| fa Z Z fa122_1 <| fa Z Z fa34_3 <| L_val Z (v_load Z ty22 HS (by exact rfl)) <| J_pick (A := blk a _ _) PC <| J_asTo (B := actA a p T q i) (by rfl) <| mv Z Z <| xo fc221 (A3 Z Z Z) Z (foundG (a_ := q.e.cap) (kind := kind) PX hE.cap) fun _ => mv Z Z <| L_pur Z (p_extract Z Z) <| L_pur Z (p_extract Z Z) <| L_op <| x_alloc ty110 Z fun b8 => L_op <| x_store Z Z ty110 Z SM SM RO PT <| J_pick (A := blk b8 _ _) PC <| J_asTo (B := blk b8 110 (encC (kCap s.sl T.root q.e.cap kind).1)) (by rfl) <| ag Z Z <| nxx <| mv Z Z <| L_pur Z (p_eql Z Z) <| mv Z Z <| J_gsplit (t := 24) Z (fun h24 => ?_) (fun h24 => ?_)
  refine gp Z Z Z (p_fieldAddr Z fa110_4) Z <| L_op <| G_on Z Z Z <| J_val (v_load Z ty3 HS (by exact rfl)) Z Z Z <| gp Z Z Z (p_move Z) Z <| gp Z Z Z (p_and Z Z) Z <| L_op <| G_on Z Z Z <| J_pur (p_move Z) Z Z Z <| gp Z Z Z (p_neq Z Z) Z <| L_pur Z (p_pick_t Z Z) <| nq <| C_split Z (fun h31 => ?_) (fun h31 => ?_)
  refine J_seq ?_
  have hmy : (mayS s T q.e kind r) = (c0, 6) := by unfold mayS; exact if_pos ⟨by simpa using h24, by simpa using h31⟩
  refine J_region <| L_pur Z (bld110 .nil (by repeat constructor)) <| L_op <| x_store Z Z ty110 Z SM SM RO PT <| ag Z Z <| nq <| J_ret <| Q_then_ret <| J_return (()) Tryz.results224 (.cellA Z ty110 HS CT (.tmp Z .nil)) ?_ ?_
  · rw [hmy]; rfl
  · exact SU
  refine J_skip <| Q_then <| J_seq ?_
  have hmy : (mayS s T q.e kind r) = ((kCap s.sl T.root q.e.cap kind).1, (kCap s.sl T.root q.e.cap kind).2.2) := by unfold mayS; exact if_neg (fun e => by first | exact absurd e.1 (by simpa using h24) | exact absurd e.2 (by simpa using h31))
  refine J_region <| L_val Z (v_loadA Z ty110 HS CT) <| mv Z Z <| L_op <| x_store Z Z ty110 Z SM SM RO PT <| ag Z Z <| nq <| J_ret <| J_return (()) Tryz.results224 (.cellA Z ty110 HS CT (.tmp Z .nil)) ?_ ?_
  · rw [hmy]; rfl
  · exact SU
  refine gz Z Z Z Z Z <| gz Z Z Z Z Z <| gz Z Z Z Z Z <| gz Z Z Z Z Z <| gz Z Z Z Z Z <| gz Z Z Z Z Z <| L_pur Z (p_pick_f Z Z) <| nq <| C_false Z <| J_skip <| Q_then <| J_seq ?_
  have hmy : (mayS s T q.e kind r) = ((kCap s.sl T.root q.e.cap kind).1, (kCap s.sl T.root q.e.cap kind).2.2) := by unfold mayS; exact if_neg (fun e => by first | exact absurd e.1 (by simpa using h24) | exact absurd e.2 (by simpa using h31))
  refine J_region <| L_val Z (v_loadA Z ty110 HS CT) <| mv Z Z <| L_op <| x_store Z Z ty110 Z SM SM RO PT <| ag Z Z <| nq <| J_ret <| J_return (()) Tryz.results224 (.cellA Z ty110 HS CT (.tmp Z .nil)) ?_ ?_
  · rw [hmy]; rfl
  · exact SU
theorem twoG {a p : Nat} {q : Rq} {C : As} {D : Place → Place → As} {F : Place → Place → KS × Int} {g : FuncId} {caps : Array Value} {fn : Func} (hf : Tryz.prog.funcs[g]? = some fn) (hn : (fn.name == "runtime.NumGoroutine") = false) (hb : fn.body.isNone = false) (hg : ∀ (l m : List As) (x y : Place), Picks [actA a p T q i, C, coA p s] l m → Con Tryz.prog g (#[.agg (encI x).toArray, .agg (encI y).toArray] ++ caps) E l (fun _ : Unit => .int .i64 (F x y).2) (fun _ => actA a p T q i :: D x y :: coA p (F x y).1 :: m)) (hp : Picks [actA a p T q i, C, coA p s] l m) (hE : SqeOk q.e) (hc : ∀ x y, 0 ≤ (F x y).2 ∧ (F x y).2 ≤ 100) :
    Con Tryz.prog 206 #[.pointer (some ⟨a, 0, none⟩), .func (.func g) #[] caps] E l (fun _ : Unit => encE (some (-(twoS s F (twoAt s T q.e)).2, 0))) (fun _ => actA a p T q i :: twoC C D (twoAt s T q.e) :: coA p (twoS s F (twoAt s T q.e)).1 :: m) := by
  refine Con.body (n := 43) Tryz.func206 Z Z _ (env_ok 2 Z) <| J_picks3 hp <| J_pick (A := actA a p T q i) PC <| J_act <| sr <| L_op <| x_alloc ty276 Z fun b4 => nx <| mv Z Z <| mv Z Z <| nc Z Z <| fa Z Z fa279_2 <| fa Z Z fa122_1 <| fa Z Z fa34_3 <| L_val Z (v_load Z ty22 HS (by exact rfl)) <| J_pick (A := blk a _ _) PC <| J_asTo (B := actA a p T q i) (by rfl) <| xo fc271 (A2 Z Z) Z (placeG (a_ := q.e.cap) PX hE.cap) fun _ => mv Z Z <| L_pur Z (p_extract Z Z) <| L_pur Z (p_extract Z Z) <| L_op <| x_alloc ty108 Z fun b5 => L_op <| x_store Z Z ty108 Z SM SM RO PT <| ag Z Z <| nxx <| mv Z Z <| L_pur Z (p_neq Z Z) <| nq <| C_split Z (fun h20 => ?_) (fun h20 => ?_)
  have hf1 : (kFind s.sl T.root q.e.cap) = none := by
    cases hq : (kFind s.sl T.root q.e.cap) with
    | none => rfl
    | some y => rw [hq] at h20; simp at h20
  have htw : (twoAt s T q.e) = none := by unfold twoAt; rw [hf1]
  refine J_slot (t := 6) (v := .int .i64 (2)) Z (by rw [hf1]; rfl) <| sr <| mv Z Z <| xo fc167 (A1 Z) Z (failsC (by decide)) fun _ => L_op <| x_store Z Z ty276 Z SM SM RO PT <| nq <| J_ret <| Q_then_ret <| J_pick (A := coA p _) PC <| J_asTo (B := coA p (twoS s F (twoAt s T q.e)).1) (by rw [htw]; try rfl) <| J_pick (A := C) PC <| J_asTo (B := twoC C D (twoAt s T q.e)) (by rw [htw]; try rfl) <| J_pick (A := actA a p T q i) PC <| J_return (()) Tryz.results206 (.cellA Z ty276 HS CT .nil) ?_ ?_
  · rw [htw]; rfl
  · exact SU
  obtain ⟨x, hf1⟩ : ∃ x, (kFind s.sl T.root q.e.cap) = some x := by
    cases hq : (kFind s.sl T.root q.e.cap) with
    | none => rw [hq] at h20; simp at h20
    | some y => exact ⟨y, rfl⟩
  refine J_pick (A := blk b5 _ _) PC <| J_asTo (B := blk b5 108 (encI x)) (by rw [hf1]; rfl) <| J_skip <| Q_then <| J_seq <| J_pick (A := actA a p T q i) PC <| J_act <| J_region <| mv Z Z <| mv Z Z <| nc Z Z <| fa Z Z fa279_2 <| fa Z Z fa122_1 <| fa Z Z fa34_4 <| L_val Z (v_load Z ty22 HS (by exact rfl)) <| J_pick (A := blk a _ _) PC <| J_asTo (B := actA a p T q i) (by rfl) <| xo fc271 (A2 Z Z) Z (placeG (a_ := q.e.a) PX hE.a) fun _ => mv Z Z <| L_pur Z (p_extract Z Z) <| L_pur Z (p_extract Z Z) <| L_op <| x_alloc ty108 Z fun b7 => L_op <| x_store Z Z ty108 Z SM SM RO PT <| ag Z Z <| nxx <| mv Z Z <| L_pur Z (p_neq Z Z) <| nq <| C_split Z (fun h35 => ?_) (fun h35 => ?_)
  have hf2 : (kFind s.sl T.root q.e.a) = none := by
    cases hq : (kFind s.sl T.root q.e.a) with
    | none => rfl
    | some y => rw [hq] at h35; simp at h35
  have htw : (twoAt s T q.e) = none := by unfold twoAt; rw [hf1]; dsimp only; rw [hf2]
  refine J_slot (t := 6) (v := .int .i64 (2)) Z (by rw [hf2]; rfl) <| sr <| mv Z Z <| xo fc167 (A1 Z) Z (failsC (by decide)) fun _ => L_op <| x_store Z Z ty276 Z SM SM RO PT <| nq <| J_ret <| Q_then_ret <| J_pick (A := coA p _) PC <| J_asTo (B := coA p (twoS s F (twoAt s T q.e)).1) (by rw [htw]; try rfl) <| J_pick (A := C) PC <| J_asTo (B := twoC C D (twoAt s T q.e)) (by rw [htw]; try rfl) <| J_pick (A := actA a p T q i) PC <| J_return (()) Tryz.results206 (.cellA Z ty276 HS CT .nil) ?_ ?_
  · rw [htw]; rfl
  · exact SU
  obtain ⟨y, hf2⟩ : ∃ x, (kFind s.sl T.root q.e.a) = some x := by
    cases hq : (kFind s.sl T.root q.e.a) with
    | none => rw [hq] at h35; simp at h35
    | some y => exact ⟨y, rfl⟩
  have htw : (twoAt s T q.e) = some (x, y) := by unfold twoAt; rw [hf1]; dsimp only; rw [hf2]
  refine J_pick (A := blk b7 _ _) PC <| J_asTo (B := blk b7 108 (encI y)) (by rw [hf2]; rfl) <| J_skip <| qx <| mv Z Z <| L_val Z (v_loadA Z ty108 HS CT) <| L_val Z (v_loadA Z ty108 HS CT) <| L_op <| x_callc Z hf hn hb (.cons Z (.cons Z .nil)) Z (hg _ _ x y PX) fun _ => xo fc167 (A1 Z) Z (failsC (hc x y)) fun _ => L_op <| x_store Z Z ty276 Z SM SM RO PT <| nq <| J_ret <| J_pick (A := coA p _) PC <| J_asTo (B := coA p (twoS s F (twoAt s T q.e)).1) (by rw [htw]; try rfl) <| J_pick (A := D x y) PC <| J_asTo (B := twoC C D (twoAt s T q.e)) (by rw [htw]; try rfl) <| J_pick (A := actA a p T q i) PC <| J_return (()) Tryz.results206 (.cellA Z ty276 HS CT .nil) ?_ ?_
  · rw [htw]; rfl
  · exact SU
def scP (_ _ _ : Nat) (_ : Sqe)  : Prop := True
def scL (c3 c4 p : Nat) (e : Sqe)  : List As := [blk c3 58 [.pointer (some ⟨p, 6, none⟩)], blk c4 34 [.int .i64 e.op, .int .i64 e.flags, .int .u32 e.tag, .int .u32 e.cap, .int .u32 e.a, .int .u32 e.b, .int .u32 e.c, .int .u32 e.time]]
def scA (c3 c4 p : Nat) (e : Sqe) : As := As.ex fun g : Unit => As.all (As.pure (scP c3 c4 p e ) :: scL c3 c4 p e )
theorem J_scO {c3 c4 : Nat} (k : ∀ (_ : Unit), scP c3 c4 p e  → Jk E (blk c3 58 [.pointer (some ⟨p, 6, none⟩)] :: blk c4 34 [.int .i64 e.op, .int .i64 e.flags, .int .u32 e.tag, .int .u32 e.cap, .int .u32 e.a, .int .u32 e.b, .int .u32 e.c, .int .u32 e.time] :: l) n F K) : Jk E (scA c3 c4 p e :: l) n F K := J_unfold (f := fun g : Unit => As.all (As.pure (scP c3 c4 p e ) :: scL c3 c4 p e )) (fun _ => rfl) (fun g h => k () h)
theorem J_scS {c3 c4 : Nat}  (hs : Picks [blk c3 58 [.pointer (some ⟨p, 6, none⟩)], blk c4 34 [.int .i64 e.op, .int .i64 e.flags, .int .u32 e.tag, .int .u32 e.cap, .int .u32 e.a, .int .u32 e.b, .int .u32 e.c, .int .u32 e.time]] l m) (h : scP c3 c4 p e ) (k : Jk E (scA c3 c4 p e :: m) n F K) : Jk E l n F K := J_fold (f := fun g : Unit => As.all (As.pure (scP c3 c4 p e ) :: scL c3 c4 p e )) () rfl hs h k
def rcP (_ _ _ : Nat) (_ : Cap)  : Prop := True
def rcL (b1 b3 a : Nat) (c : Cap)  : List As := [blk b1 277 [.pointer (some ⟨a, 0, none⟩)], blk b3 110 (encC c)]
def rcA (b1 b3 a : Nat) (c : Cap) : As := As.ex fun g : Unit => As.all (As.pure (rcP b1 b3 a c ) :: rcL b1 b3 a c )
theorem J_rcO {b1 b3 a : Nat} {c : Cap} (k : ∀ (_ : Unit), rcP b1 b3 a c  → Jk E (blk b1 277 [.pointer (some ⟨a, 0, none⟩)] :: blk b3 110 (encC c) :: l) n F K) : Jk E (rcA b1 b3 a c :: l) n F K := J_unfold (f := fun g : Unit => As.all (As.pure (rcP b1 b3 a c ) :: rcL b1 b3 a c )) (fun _ => rfl) (fun g h => k () h)
theorem J_rcS {b1 b3 a : Nat} {c : Cap}  (hs : Picks [blk b1 277 [.pointer (some ⟨a, 0, none⟩)], blk b3 110 (encC c)] l m) (h : rcP b1 b3 a c ) (k : Jk E (rcA b1 b3 a c :: m) n F K) : Jk E l n F K := J_fold (f := fun g : Unit => As.all (As.pure (rcP b1 b3 a c ) :: rcL b1 b3 a c )) () rfl hs h k
def copyF (s : KS) (e : Sqe) (x y : Place) : KS × Int := ({ s with sl := (copyS s.sl x y e.b).1 }, (copyS s.sl x y e.b).2)
def mintF (s : KS) (e : Sqe) (x y : Place) : KS × Int := ({ s with sl := (mintS s.sl x y e.b).1 }, (mintS s.sl x y e.b).2)
def moveF (s : KS) (x y : Place) : KS × Int := ({ s with sl := (dmoveS s.sl x y).1 }, (dmoveS s.sl x y).2)
def retF (s : KS) (e : Sqe) (x y : Place) : KS × Int := ({ s with sl := (makeS s.sl s.mr x y e.b e.c).1.1, mr := (makeS s.sl s.mr x y e.b e.c).1.2 }, (makeS s.sl s.mr x y e.b e.c).2.2)
def kSlots (s : KS) (T : Th) (e : Sqe) : KS × Int :=
  if e.op = 2 then twoS s (copyF s e) (twoAt s T e) else if e.op = 3 then twoS s (mintF s e) (twoAt s T e) else if e.op = 4 then twoS s (moveF s) (twoAt s T e)
  else if e.op = 5 then killS s (deleteS s.sl) (kFind s.sl T.root e.cap) else killS s (revokeS s.sl) (kFind s.sl T.root e.cap)
def kRetC (s : KS) (T : Th) (e : Sqe) : Int := (twoS s (retF s e) (twoAt s T e)).2
def kRetK (s : KS) (T : Th) (e : Sqe) : Cap := match twoAt s T e with
  | none => c0
  | some x => (makeS s.sl s.mr x.1 x.2 e.b e.c).2.1
def kRetS (s : KS) (T : Th) (e : Sqe) (b : Nat) : KS := if kRetC s T e = 0 then kMade (twoS s (retF s e) (twoAt s T e)).1 (kRetK s T e) b else (twoS s (retF s e) (twoAt s T e)).1
def kRetV (s : KS) (T : Th) (e : Sqe) : Int := if kRetC s T e = 0 then (kRetK s T e).obj else 0
theorem makeS_obj {mr : List (Place × Int)} {p q : Place} {k : Int} (hc : CapsOk ps) (hm : MarksOk mr) (h : (makeS ps mr p q k z).2.2 = 0) : 1 ≤ (makeS ps mr p q k z).2.1.obj ∧ (makeS ps mr p q k z).2.1.obj ≤ 64 := by
  unfold makeS at h ⊢
  split at h
  · simp at h
  · rename_i u hu
    have hcu := checkC_is (hc _ (mem_look hu))
    dsimp only at hcu
    split at h
    · simp at h
    · rename_i h1
      split at h
      · simp at h
      · rename_i h2
        split at h
        · simp at h
        · rename_i h3
          split at h
          · rename_i h4; exact absurd h h4
          · rename_i h4
            split at h
            · rename_i h5
              rw [if_neg h1, if_neg h2, if_neg h3, if_neg h4, if_pos h5]
              have hus := usedM_is (hm.reset ps u.1) (rangeC u.1)
              have hk1 : u.1.kind = 1 := by simpa using h1
              have hr : rangeC u.1 = (u.1.obj, u.1.size) := if_neg h1
              have hto := h5
              unfold mtkOk at hto
              simp only [Bool.and_eq_true, decide_eq_true_eq, hr] at hto
              show 1 ≤ mtkV _ _ _ ∧ mtkV _ _ _ ≤ 64
              unfold mtkV
              rw [if_pos h5, hr]
              rw [hr] at hus
              have := hcu.2.2 hk1
              dsimp only
              omega
            · simp at h
theorem clo2 {a p c3 c4 : Nat} {q : Rq} {x y : Place} (hp : Picks [actA a p T q i, scA c3 c4 p q.e, coA p s] l m) (hE : in32 q.e.b) :
    Con Tryz.prog 209 #[.agg (encI x).toArray, .agg (encI y).toArray, .pointer (some ⟨c3, 0, none⟩), .pointer (some ⟨c4, 0, none⟩)] E l (fun _ : Unit => .int .i64 (mintF s q.e x y).2) (fun _ => actA a p T q i :: scA c3 c4 p q.e :: coA p (mintF s q.e x y).1 :: m) := by
  refine Con.body (n := 13) Tryz.func209 Z Z _ (env_ok 4 Z) <| J_picks3 hp <| J_pick (A := scA c3 c4 p q.e) PC <| J_scO fun _ _ => sr <| L_op <| x_box Z Z Z fun b4 => L_op <| x_box Z Z Z fun b5 => ag Z Z <| nx <| L_val Z (v_load Z ty58 HS (by exact rfl)) <| L_val Z (v_loadA Z ty108 HS CT) <| L_val Z (v_loadA Z ty108 HS CT) <| fa Z Z fa34_5 <| L_val Z (v_load Z ty22 HS (by exact rfl)) <| xo fc210 (A4 Z Z Z Z) Z (coMintG (s := s) (xp := x) (yp := y) (r := q.e.b) PC hE) fun _ => ag Z Z <| nq <| J_ret <| J_scS (c3 := c3) (c4 := c4) (p := p) (e := q.e) PX trivial <| J_pick (A := actA a p T q i) PC <| J_return (()) Tryz.results209 (.tmp Z .nil) ?_ ?_
  · rfl
  · exact SU
theorem slots3G {a p : Nat} {q : Rq} (hp : Picks [actA a p T q i, coA p s] l m) (hE : SqeOk q.e) (hop : q.e.op = 3) :
    Con Tryz.prog 156 #[.pointer (some ⟨a, 0, none⟩)] E l (fun _ : Unit => encE (some (-(kSlots s T q.e).2, 0))) (fun _ => actA a p T q i :: coA p (kSlots s T q.e).1 :: m) := by
  refine Con.body (n := 40) Tryz.func156 Z Z _ (env_ok 1 Z) <| J_picks2 hp <| J_act <| sr <| L_op <| x_alloc ty276 Z fun b2 => nq <| J_cut (α := Nat × Nat) (fun x : Nat × Nat => blk x.1 58 [.pointer (some ⟨p, 6, none⟩)] :: blk x.2 34 [.int .i64 q.e.op, .int .i64 q.e.flags, .int .u32 q.e.tag, .int .u32 q.e.cap, .int .u32 q.e.a, .int .u32 q.e.b, .int .u32 q.e.c, .int .u32 q.e.time] :: blk b2 276 [.int .i64 0, .int .u32 0, .bool false] :: actA a p T q i :: coA p s :: m) (fun x : Nat × Nat => [(0, .pointer (some ⟨a, 0, none⟩)), (2, .pointer (some ⟨b2, 0, none⟩)), (3, .pointer (some ⟨x.1, 0, none⟩)), (4, .pointer (some ⟨x.2, 0, none⟩))]) ?_ ?_
  refine J_drawL none mixed <| ip 0 Z Z Z Z (p_move Z) <| ip 1 Z Z Z Z (p_nilCheck Z) <| ip 2 Z Z Z Z (p_fieldAddr Z fa279_0) <| iv 3 Z Z Z Z (fun _ => v_load Z ty24 HS (by exact rfl)) <| ip 5 Z Z Z Z (p_move Z) <| ip 6 Z Z Z Z (p_nilCheck Z) <| ip 7 Z Z Z Z (p_fieldAddr Z fa279_2) <| ip 8 Z Z Z Z (p_fieldAddr Z fa122_1) <| iv 9 Z Z Z Z (fun _ => v_loadA Z ty34 HS CT) <| I_ready (rs := [4, 10, 11]) SI (by kernel_rfl) (by simp) <| (I_cons Z ?_ (I_cons Z ?_ (I_cons Z ?_ I_nil)))
  refine xc fc28 (A1 Z) Z (coSlots) fun _ => I_ready (rs := [10, 11]) SI (by kernel_rfl) (by simp) <| (I_cons Z ?_ (I_cons Z ?_ I_nil))
  refine x_alloc ty58 Z fun b3 => i1 11 Z <| x_alloc ty34 Z fun b4 => i1 12 Z <| x_store Z Z ty58 Z SM SM RO PT <| i1 13 Z <| x_store Z Z ty34 Z SM SM RO PT <| i0 <| Q_then <| J_pick (A := blk a _ _) PC <| J_asTo (B := actA a p T q i) (by rfl) <| J_pick (A := blk b4 _ _) PC <| J_asTo (B := blk b4 34 [.int .i64 q.e.op, .int .i64 q.e.flags, .int .u32 q.e.tag, .int .u32 q.e.cap, .int .u32 q.e.a, .int .u32 q.e.b, .int .u32 q.e.c, .int .u32 q.e.time]) (by rfl) ?_
  exact J_at (b3, b4) SU KE
  refine x_alloc ty34 Z fun b4 => i1 10 Z <| x_alloc ty58 Z fun b3 => i1 12 Z <| x_store Z Z ty58 Z SM SM RO PT <| i1 13 Z <| x_store Z Z ty34 Z SM SM RO PT <| i0 <| Q_then <| J_pick (A := blk a _ _) PC <| J_asTo (B := actA a p T q i) (by rfl) <| J_pick (A := blk b4 _ _) PC <| J_asTo (B := blk b4 34 [.int .i64 q.e.op, .int .i64 q.e.flags, .int .u32 q.e.tag, .int .u32 q.e.cap, .int .u32 q.e.a, .int .u32 q.e.b, .int .u32 q.e.c, .int .u32 q.e.time]) (by rfl) ?_
  exact J_at (b3, b4) SU KE
  refine x_alloc ty58 Z fun b3 => I_ready (rs := [4, 11]) SI (by kernel_rfl) (by simp) <| (I_cons Z ?_ (I_cons Z ?_ I_nil))
  refine xc fc28 (A1 Z) Z (coSlots) fun _ => i1 11 Z <| x_alloc ty34 Z fun b4 => i1 12 Z <| x_store Z Z ty58 Z SM SM RO PT <| i1 13 Z <| x_store Z Z ty34 Z SM SM RO PT <| i0 <| Q_then <| J_pick (A := blk a _ _) PC <| J_asTo (B := actA a p T q i) (by rfl) <| J_pick (A := blk b4 _ _) PC <| J_asTo (B := blk b4 34 [.int .i64 q.e.op, .int .i64 q.e.flags, .int .u32 q.e.tag, .int .u32 q.e.cap, .int .u32 q.e.a, .int .u32 q.e.b, .int .u32 q.e.c, .int .u32 q.e.time]) (by rfl) ?_
  exact J_at (b3, b4) SU KE
  refine x_alloc ty34 Z fun b4 => i1 4 Z <| xc fc28 (A1 Z) Z (coSlots) fun _ => i1 12 Z <| x_store Z Z ty58 Z SM SM RO PT <| i1 13 Z <| x_store Z Z ty34 Z SM SM RO PT <| i0 <| Q_then <| J_pick (A := blk a _ _) PC <| J_asTo (B := actA a p T q i) (by rfl) <| J_pick (A := blk b4 _ _) PC <| J_asTo (B := blk b4 34 [.int .i64 q.e.op, .int .i64 q.e.flags, .int .u32 q.e.tag, .int .u32 q.e.cap, .int .u32 q.e.a, .int .u32 q.e.b, .int .u32 q.e.c, .int .u32 q.e.time]) (by rfl) ?_
  exact J_at (b3, b4) SU KE
  refine x_alloc ty34 Z fun b4 => I_ready (rs := [4, 10]) SI (by kernel_rfl) (by simp) <| (I_cons Z ?_ (I_cons Z ?_ I_nil))
  refine xc fc28 (A1 Z) Z (coSlots) fun _ => i1 10 Z <| x_alloc ty58 Z fun b3 => i1 12 Z <| x_store Z Z ty58 Z SM SM RO PT <| i1 13 Z <| x_store Z Z ty34 Z SM SM RO PT <| i0 <| Q_then <| J_pick (A := blk a _ _) PC <| J_asTo (B := actA a p T q i) (by rfl) <| J_pick (A := blk b4 _ _) PC <| J_asTo (B := blk b4 34 [.int .i64 q.e.op, .int .i64 q.e.flags, .int .u32 q.e.tag, .int .u32 q.e.cap, .int .u32 q.e.a, .int .u32 q.e.b, .int .u32 q.e.c, .int .u32 q.e.time]) (by rfl) ?_
  exact J_at (b3, b4) SU KE
  refine x_alloc ty58 Z fun b3 => i1 4 Z <| xc fc28 (A1 Z) Z (coSlots) fun _ => i1 12 Z <| x_store Z Z ty58 Z SM SM RO PT <| i1 13 Z <| x_store Z Z ty34 Z SM SM RO PT <| i0 <| Q_then <| J_pick (A := blk a _ _) PC <| J_asTo (B := actA a p T q i) (by rfl) <| J_pick (A := blk b4 _ _) PC <| J_asTo (B := blk b4 34 [.int .i64 q.e.op, .int .i64 q.e.flags, .int .u32 q.e.tag, .int .u32 q.e.cap, .int .u32 q.e.a, .int .u32 q.e.b, .int .u32 q.e.c, .int .u32 q.e.time]) (by rfl) ?_
  exact J_at (b3, b4) SU KE
  intro x
  obtain ⟨b3, b4⟩ := x
  dsimp only
  refine J_seq <| J_seq ?_
  have hks : (kSlots s T q.e) = twoS s (mintF s q.e) (twoAt s T q.e) := by unfold kSlots; rw [if_neg (by omega), if_pos hop]
  refine J_region <| fa Z Z fa34_0 <| L_val Z (v_load Z ty3 HS (by exact rfl)) <| nq <| J_block <| sr <| L_pur Z (p_eql Z Z) <| ag Z Z <| nq <| J_bool (t := 17) (c := false) Z (by simp [hop]) <| C_false Z <| sr <| L_pur Z (p_eql Z Z) <| ag Z Z <| nq <| J_bool (t := 22) (c := true) Z (by simp [hop]) <| C_true Z <| J_seq <| J_scS (c3 := b3) (c4 := b4) (p := p) (e := q.e) PX trivial <| J_region <| mv Z Z <| L_pur Z (p_makeFunc (.cons Z (.cons Z .nil))) <| xo fc206 (A2 Z Z) Z (twoG (C := scA b3 b4 p q.e) (D := fun _ _ => scA b3 b4 p q.e) (F := mintF s q.e) Tryz.func209 nm209 bd209 (fun l m x y hp => clo2 hp hE.b) PX hE (fun x y => mintS_code)) fun _ => L_op <| x_store Z Z ty276 Z SM SM RO PT <| nq <| J_ret <| Q_blk_ret <| Q_then_ret <| J_pick (A := coA p _) PC <| J_asTo (B := coA p (kSlots s T q.e).1) (by rw [hks]) <| J_pick (A := actA a p T q i) PC ?_
  refine J_return (()) Tryz.results156 (.cellA Z ty276 HS CT .nil) ?_ ?_
  · rw [hks]; rfl
  · exact SU
theorem cloR {a p b1 b3 : Nat} {q : Rq} {x y : Place} {c : Cap} (hp : Picks [actA a p T q i, rcA b1 b3 a c, coA p s] l m) (hE : SqeOk q.e) (hck : CapsOk s.sl) (hmk : MarksOk s.mr) (hsl : s.sl.length ≤ 100000) :
    Con Tryz.prog 218 #[.agg (encI x).toArray, .agg (encI y).toArray, .pointer (some ⟨b1, 0, none⟩), .pointer (some ⟨b3, 0, none⟩)] E l (fun _ : Unit => .int .i64 (retF s q.e x y).2) (fun _ => actA a p T q i :: rcA b1 b3 a (makeS s.sl s.mr x y q.e.b q.e.c).2.1 :: coA p (retF s q.e x y).1 :: m) := by
  refine Con.body (n := 41) Tryz.func218 Z Z _ (env_ok 4 Z) <| J_picks3 hp <| J_pick (A := rcA b1 b3 a c) PC <| J_rcO fun _ _ => J_pick (A := actA a p T q i) PC <| J_act <| sr <| L_op <| x_box Z Z Z fun b4 => L_op <| x_box Z Z Z fun b5 => ag Z Z <| nq <| J_seq <| J_drawL (some 26) mixed <| iv 0 Z Z Z Z (fun _ => v_load Z ty277 HS (by exact rfl)) <| ip 1 Z Z Z Z (p_nilCheck Z) <| ip 2 Z Z Z Z (p_fieldAddr Z fa279_0) <| iv 3 Z Z Z Z (fun _ => v_load Z ty24 HS (by exact rfl)) <| iv 5 Z Z Z Z (fun _ => v_load Z ty277 HS (by exact rfl)) <| ip 6 Z Z Z Z (p_nilCheck Z) <| ip 7 Z Z Z Z (p_fieldAddr Z fa279_0) <| iv 8 Z Z Z Z (fun _ => v_load Z ty24 HS (by exact rfl)) <| iv 10 Z Z Z Z (fun _ => v_loadA Z ty108 HS CT) <| iv 11 Z Z Z Z (fun _ => v_loadA Z ty108 HS CT) <| iv 12 Z Z Z Z (fun _ => v_load Z ty277 HS (by exact rfl)) ?_
  refine ip 13 Z Z Z Z (p_nilCheck Z) <| ip 14 Z Z Z Z (p_fieldAddr Z fa279_2) <| ip 15 Z Z Z Z (p_fieldAddr Z fa122_1) <| ip 16 Z Z Z Z (p_fieldAddr Z fa34_5) <| iv 17 Z Z Z Z (fun _ => v_load Z ty22 HS (by exact rfl)) <| ip 18 Z Z Z Z (p_conv Z Tryz.underlying22 Tryz.underlying3) <| J_slot (t := 28) (v := .int .i64 (q.e.b)) Z (by rw [wrap64_of (by have := hE.b.1; have := hE.b.2; omega)]) <| iv 19 Z Z Z Z (fun _ => v_load Z ty277 HS (by exact rfl)) <| ip 20 Z Z Z Z (p_nilCheck Z) <| ip 21 Z Z Z Z (p_fieldAddr Z fa279_2) <| ip 22 Z Z Z Z (p_fieldAddr Z fa122_1) <| ip 23 Z Z Z Z (p_fieldAddr Z fa34_6) <| iv 24 Z Z Z Z (fun _ => v_load Z ty22 HS (by exact rfl)) ?_
  refine ip 25 Z Z Z Z (p_conv Z Tryz.underlying22 Tryz.underlying3) <| J_slot (t := 35) (v := .int .i64 (q.e.c)) Z (by rw [wrap64_of (by have := hE.c.1; have := hE.c.2; omega)]) <| I_ready (rs := [4, 30]) SI (by kernel_rfl) (by simp) <| (I_cons Z ?_ (I_cons Z ?_ I_nil))
  refine xc fc28 (A1 Z) Z (coSlots) fun _ => I_ready (rs := [9, 30]) SI (by kernel_rfl) (by simp) <| (I_cons Z ?_ (I_cons Z ?_ I_nil))
  refine xc fc220 (A1 Z) Z (coMarks) fun _ => I_ready (rs := [26, 30]) SI (by kernel_rfl) (by simp) <| (I_cons Z ?_ (I_cons Z ?_ I_nil))
  refine xc fc219 (.cons Z (.cons Z (.cons Z (.cons Z (.cons Z (.cons Z .nil)))))) Z (coMakeG (s := s) (xp := x) (yp := y) (kind := q.e.b) (size := q.e.c) PC hck hmk hsl) fun _ => ip 27 Z Z Z Z (p_move Z) <| ip 28 Z Z Z Z (p_extract Z Z) <| ip 29 Z Z Z Z (p_extract Z Z) <| i1 30 Z <| x_alloc ty110 Z fun b7 => i1 31 Z <| x_store Z Z ty110 Z SM SM RO PT <| ip 32 Z Z Z Z (p_assign Z) <| i0 <| qx <| L_val Z (v_loadA Z ty110 HS CT) <| L_op <| x_store Z Z ty110 Z SM SM RO PT <| nx <| mv Z Z <| ag Z Z <| nq <| J_ret <| J_pick (A := blk b3 _ _) PC <| J_asTo (B := blk b3 110 (encC (makeS s.sl s.mr x y q.e.b q.e.c).2.1)) (by rfl) <| J_rcS (b1 := b1) (b3 := b3) (a := a) (c := (makeS s.sl s.mr x y q.e.b q.e.c).2.1) PX trivial <| J_pick (A := blk a _ _) PC <| J_asTo (B := actA a p T q i) (by rfl) <| J_pick (A := coA p _) PC ?_
  refine J_asTo (B := coA p (retF s q.e x y).1) (by rfl) <| J_pick (A := actA a p T q i) PC <| J_return (()) Tryz.results218 (.tmp Z .nil) ?_ ?_
  · rfl
  · exact SU
  refine x_alloc ty110 Z fun b7 => i1 26 Z <| xc fc219 (.cons Z (.cons Z (.cons Z (.cons Z (.cons Z (.cons Z .nil)))))) Z (coMakeG (s := s) (xp := x) (yp := y) (kind := q.e.b) (size := q.e.c) PC hck hmk hsl) fun _ => ip 27 Z Z Z Z (p_move Z) <| ip 28 Z Z Z Z (p_extract Z Z) <| ip 29 Z Z Z Z (p_extract Z Z) <| i1 31 Z <| x_store Z Z ty110 Z SM SM RO PT <| ip 32 Z Z Z Z (p_assign Z) <| i0 <| qx <| L_val Z (v_loadA Z ty110 HS CT) <| L_op <| x_store Z Z ty110 Z SM SM RO PT <| nx <| mv Z Z <| ag Z Z <| nq <| J_ret <| J_pick (A := blk b3 _ _) PC <| J_asTo (B := blk b3 110 (encC (makeS s.sl s.mr x y q.e.b q.e.c).2.1)) (by rfl) <| J_rcS (b1 := b1) (b3 := b3) (a := a) (c := (makeS s.sl s.mr x y q.e.b q.e.c).2.1) PX trivial <| J_pick (A := blk a _ _) PC <| J_asTo (B := actA a p T q i) (by rfl) <| J_pick (A := coA p _) PC ?_
  refine J_asTo (B := coA p (retF s q.e x y).1) (by rfl) <| J_pick (A := actA a p T q i) PC <| J_return (()) Tryz.results218 (.tmp Z .nil) ?_ ?_
  · rfl
  · exact SU
  refine x_alloc ty110 Z fun b7 => i1 9 Z <| xc fc220 (A1 Z) Z (coMarks) fun _ => i1 26 Z <| xc fc219 (.cons Z (.cons Z (.cons Z (.cons Z (.cons Z (.cons Z .nil)))))) Z (coMakeG (s := s) (xp := x) (yp := y) (kind := q.e.b) (size := q.e.c) PC hck hmk hsl) fun _ => ip 27 Z Z Z Z (p_move Z) <| ip 28 Z Z Z Z (p_extract Z Z) <| ip 29 Z Z Z Z (p_extract Z Z) <| i1 31 Z <| x_store Z Z ty110 Z SM SM RO PT <| ip 32 Z Z Z Z (p_assign Z) <| i0 <| qx <| L_val Z (v_loadA Z ty110 HS CT) <| L_op <| x_store Z Z ty110 Z SM SM RO PT <| nx <| mv Z Z <| ag Z Z <| nq <| J_ret <| J_pick (A := blk b3 _ _) PC <| J_asTo (B := blk b3 110 (encC (makeS s.sl s.mr x y q.e.b q.e.c).2.1)) (by rfl) <| J_rcS (b1 := b1) (b3 := b3) (a := a) (c := (makeS s.sl s.mr x y q.e.b q.e.c).2.1) PX trivial <| J_pick (A := blk a _ _) PC <| J_asTo (B := actA a p T q i) (by rfl) <| J_pick (A := coA p _) PC ?_
  refine J_asTo (B := coA p (retF s q.e x y).1) (by rfl) <| J_pick (A := actA a p T q i) PC <| J_return (()) Tryz.results218 (.tmp Z .nil) ?_ ?_
  · rfl
  · exact SU
  refine x_alloc ty110 Z fun b7 => i1 4 Z <| xc fc28 (A1 Z) Z (coSlots) fun _ => i1 9 Z <| xc fc220 (A1 Z) Z (coMarks) fun _ => i1 26 Z <| xc fc219 (.cons Z (.cons Z (.cons Z (.cons Z (.cons Z (.cons Z .nil)))))) Z (coMakeG (s := s) (xp := x) (yp := y) (kind := q.e.b) (size := q.e.c) PC hck hmk hsl) fun _ => ip 27 Z Z Z Z (p_move Z) <| ip 28 Z Z Z Z (p_extract Z Z) <| ip 29 Z Z Z Z (p_extract Z Z) <| i1 31 Z <| x_store Z Z ty110 Z SM SM RO PT <| ip 32 Z Z Z Z (p_assign Z) <| i0 <| qx <| L_val Z (v_loadA Z ty110 HS CT) <| L_op <| x_store Z Z ty110 Z SM SM RO PT <| nx <| mv Z Z <| ag Z Z <| nq <| J_ret <| J_pick (A := blk b3 _ _) PC <| J_asTo (B := blk b3 110 (encC (makeS s.sl s.mr x y q.e.b q.e.c).2.1)) (by rfl) <| J_rcS (b1 := b1) (b3 := b3) (a := a) (c := (makeS s.sl s.mr x y q.e.b q.e.c).2.1) PX trivial <| J_pick (A := blk a _ _) PC ?_
  refine J_asTo (B := actA a p T q i) (by rfl) <| J_pick (A := coA p _) PC <| J_asTo (B := coA p (retF s q.e x y).1) (by rfl) <| J_pick (A := actA a p T q i) PC <| J_return (()) Tryz.results218 (.tmp Z .nil) ?_ ?_
  · rfl
  · exact SU
theorem retypeG {a p : Nat} {q : Rq} (hp : Picks [actA a p T q i, coA p s] l m) (hE : SqeOk q.e) (hck : CapsOk s.sl) (hmk : MarksOk s.mr) (hMem : MemOk s.mem) (hsl : s.sl.length ≤ 100000) :
    Con Tryz.prog 157 #[.pointer (some ⟨a, 0, none⟩)] E l (fun b : Nat => encE (some (-(kRetC s T q.e), kRetV s T q.e))) (fun b => actA a p T q i :: coA p (kRetS s T q.e b) :: m) := by
  refine Con.body (n := 22) Tryz.func157 Z Z _ (env_ok 1 Z) <| J_picks2 hp <| sr <| L_op <| x_box Z Z Z fun b1 => L_op <| x_alloc ty276 Z fun b2 => nx <| L_op <| x_alloc ty110 Z fun b3 => nx <| L_val Z (v_load Z ty277 HS (by exact rfl)) <| L_pur Z (p_makeFunc (.cons Z (.cons Z .nil))) <| J_pick (A := blk b3 _ _) PC <| J_asTo (B := blk b3 110 (encC c0)) (by rfl) <| J_rcS (b1 := b1) (b3 := b3) (a := a) (c := c0) PX trivial <| xo fc206 (A2 Z Z) Z (twoG (C := rcA b1 b3 a c0) (D := fun x y => rcA b1 b3 a (makeS s.sl s.mr x y q.e.b q.e.c).2.1) (F := retF s q.e) Tryz.func218 nm218 bd218 (fun l m x y hp => cloR hp hE hck hmk hsl) PX hE (fun x y => makeS_code)) fun _ => L_op <| x_alloc ty276 Z fun b4 => L_op <| x_store Z Z ty276 Z SM SM RO PT <| nxx <| fa Z Z fa276_0 <| L_val Z (v_load Z ty3 HS (by exact rfl)) <| L_pur Z (p_eql Z Z) <| nq <| C_dec Z (fun h10 => ?_) (fun h10 => ?_)
  have hh10 : -(twoS s (retF s q.e) (twoAt s T q.e)).2 = 0 := h10
  have hc0 : kRetC s T q.e = 0 := by unfold kRetC; omega
  obtain ⟨xy, hxy⟩ : ∃ x, (twoAt s T q.e) = some x := by
    cases hq : (twoAt s T q.e) with
    | none => unfold kRetC at hc0; rw [hq] at hc0; simp [twoS] at hc0
    | some y => exact ⟨y, rfl⟩
  have hco : (makeS s.sl s.mr xy.1 xy.2 q.e.b q.e.c).2.2 = 0 := by
    have h := hc0
    unfold kRetC at h
    rw [hxy] at h
    exact h
  have hkk : kRetK s T q.e = (makeS s.sl s.mr xy.1 xy.2 q.e.b q.e.c).2.1 := by unfold kRetK; rw [hxy]
  have hob := makeS_obj hck hmk hco
  rw [← hkk] at hob
  refine J_pick (A := twoC _ _ _) PC <| J_asTo (B := rcA b1 b3 a (kRetK s T q.e)) (by rw [hxy, hkk]; rfl) <| J_rcO fun _ _ => J_pick (A := actA a p T q i) PC <| J_act <| J_seq <| J_drawT 5 mixed (by kernel_rfl) <| S_val Z (v_load Z ty277 HS (by exact rfl)) <| sp Z (p_nilCheck Z) <| sp Z (p_fieldAddr Z fa279_0) <| S_val Z (v_load Z ty24 HS (by exact rfl)) <| S_val Z (v_loadA Z ty110 HS CT) <| S_nil <| xo fc59 (A2 Z Z) Z (coMake (s := (twoS s (retF s q.e) (twoAt s T q.e)).1) (c := kRetK s T q.e) PC hob (by rw [hxy]; exact hMem)) fun x16 => ny <| fa Z Z fa110_1 <| L_val Z (v_load Z ty3 HS (by exact rfl)) <| L_pur Z (p_conv Z Tryz.underlying3 Tryz.underlying22) <| J_slot (t := 19) (v := .int .u32 ((kRetK s T q.e).obj)) Z (by rw [wrap32u_of (by omega)]) <| fa Z Z fa276_1 <| L_op <| x_store Z Z ty22 Z SM SM RO PT <| nx <| L_val Z (v_loadA Z ty276 HS CT) ?_
  refine L_op <| x_store Z Z ty276 Z SM SM RO PT <| nq <| J_ret <| J_pick (A := coA p _) PC <| J_asTo (B := coA p (kRetS s T q.e x16)) (by unfold kRetS; rw [if_pos hc0]) <| J_pick (A := blk a _ _) PC <| J_asTo (B := actA a p T q i) (by rfl) <| J_return (x16) Tryz.results157 (.cellA Z ty276 HS CT .nil) ?_ ?_
  · unfold kRetV; rw [if_pos hc0]; rfl
  · exact SU
  have hh10 : ¬ -(twoS s (retF s q.e) (twoAt s T q.e)).2 = 0 := h10
  have hc0 : ¬ kRetC s T q.e = 0 := by unfold kRetC; omega
  refine J_skip <| qx <| L_val Z (v_loadA Z ty276 HS CT) <| L_op <| x_store Z Z ty276 Z SM SM RO PT <| nq <| J_ret <| J_pick (A := coA p _) PC <| J_asTo (B := coA p (kRetS s T q.e 0)) (by unfold kRetS; rw [if_neg hc0]) <| J_pick (A := actA a p T q i) PC <| J_return (0) Tryz.results157 (.cellA Z ty276 HS CT .nil) ?_ ?_
  · unfold kRetV; rw [if_neg hc0]; rfl
  · exact SU
/-! ### plain: what an entry asks of pages, threads, whoever waits -/
abbrev Out := Option (Int × Int)
def failO (c : Int) : Out := some (-c, 0)
def kMaps (s : KS) (T : Th) (e : Sqe) : KS × Int :=
  if (kCap s.sl T.root e.cap 3).2.2 ≠ 0 then (s, (kCap s.sl T.root e.cap 3).2.2)
  else if e.a ≥ 8 ∨ e.b < 1 ∨ e.b > 3 then (s, 7)
  else if bits .and .i64 (kCap s.sl T.root e.cap 3).1.rights e.b ≠ e.b then (s, 6)
  else if (look s.sp T.space).getD false = false then (s, 11)
  else if spSetOk s.mp (T.space, e.a) ((kCap s.sl T.root e.cap 3).1.obj, e.b) = false then (s, 3)
  else ({ s with mp := spSet s.mp (T.space, e.a) ((kCap s.sl T.root e.cap 3).1.obj, e.b) }, 0)
def kUnmap (s : KS) (T : Th) (e : Sqe) : KS × Int :=
  if e.a ≥ 8 then (s, 7) else if (look s.mp (T.space, e.a)).isSome = false then ({ s with mp := del s.mp (T.space, e.a) }, 11) else ({ s with mp := del s.mp (T.space, e.a) }, 0)
def kThr (s : KS) (e : Sqe) (u : Int) : KS × Bool :=
  if e.op = 16 then ({ s with q := qSet s.q u e.a }, qSetOk s.q u e.a) else if e.op = 17 then (kStop s u, kStopOk s u) else (kGo s u, kGoOk s u)
def kThreads (s : KS) (T : Th) (e : Sqe) : KS × Int :=
  if (kCap s.sl T.root e.cap 6).2.2 ≠ 0 then (s, (kCap s.sl T.root e.cap 6).2.2)
  else if e.op = 16 ∧ e.a ≥ 8 then (s, 7)
  else ((kThr s e (kCap s.sl T.root e.cap 6).1.obj).1, if (kThr s e (kCap s.sl T.root e.cap 6).1.obj).2 = true then 0 else 11)
def tagQ (ps : List (ID × Rq)) (g tag but : Int) : Option ID := ((ofQ ps g).find? fun r => decide (r.e.tag = tag) && !decide (r.id.2 = but)).map Rq.id
def kCancels (s : KS) (e : Sqe) (i : ID) : KS × Int := match tagQ s.rt i.1 e.a i.2 with
  | none => (s, 11)
  | some j => (kDec s.rt.length s j (-9) 0, 0)
def kBind (s : KS) (u : Int) (j : ID) : KS := match look s.rp u with
  | none => s
  | some x => if x.2.2 = true then kDec s.rt.length { s with rp := updO s.rp u (fun _ => (j, true)) } x.2.1 (-9) 0 else { s with rp := updO s.rp u (fun _ => (j, true)) }
def kSend3 (s : KS) (u : Int) (i : ID) (call : Bool) : KS × Out := if call = false then (s, some (0, 0)) else match look s.rp u with
  | none => (s, failO 11)
  | some _ => (kBind s u i, none)
def kSend2 (s : KS) (c : Cap) (e : Sqe) (i : ID) (call : Bool) : List Rcv → KS × Out
  | [] => (s, none)
  | y :: _ => kSend3 (kDec s.rt.length s y.1 c.badge e.a) y.2 i call
def kSend1 (s : KS) (c : Cap) (e : Sqe) (i : ID) (call : Bool) : KS × Out := match look s.ep c.obj with
  | none => (s, failO 11)
  | some y => kSend2 { s with ep := updO s.ep c.obj (sendE (i, e.a, c.badge, call)) } c e i call y.2.2
def kSends (s : KS) (T : Th) (e : Sqe) (i : ID) (call : Bool) : KS × Out :=
  if (mayS s T e 4 (if call = true then 6 else 2)).2 ≠ 0 then (s, failO (mayS s T e 4 (if call = true then 6 else 2)).2) else kSend1 s (mayS s T e 4 (if call = true then 6 else 2)).1 e i call
def kMet (s : KS) (u : Int) (x : Msg) : KS :=
  if x.2.2.2 = true then (match look s.rp u with
    | none => kDec s.rt.length s x.1 (-11) 0
    | some _ => kBind s u x.1)
  else kDec s.rt.length s x.1 0 0
def kRecv2 (s : KS) (u : Int) : List Msg → KS × Out
  | [] => (s, none)
  | x :: _ => (kMet s u x, some (x.2.2.1, x.2.1))
def kRecv1 (s : KS) (c : Cap) (u : Int) (i : ID) : KS × Out := match look s.ep c.obj with
  | none => (s, failO 11)
  | some y => kRecv2 { s with ep := updO s.ep c.obj (recvE (i, u)) } u y.2.1
def kRecvs (s : KS) (T : Th) (e : Sqe) (i : ID) : KS × Out :=
  if (mayS s T e 4 1).2 ≠ 0 then (s, failO (mayS s T e 4 1).2)
  else if e.b ≠ 0 then (if (kCap s.sl T.root e.b 7).2.2 ≠ 0 then (s, failO (kCap s.sl T.root e.b 7).2.2) else kRecv1 s (mayS s T e 4 1).1 (kCap s.sl T.root e.b 7).1.obj i)
  else kRecv1 s (mayS s T e 4 1).1 0 i
def kAnswers (s : KS) (T : Th) (e : Sqe) : KS × Int :=
  if (kCap s.sl T.root e.cap 7).2.2 ≠ 0 then (s, (kCap s.sl T.root e.cap 7).2.2)
  else match look s.rp (kCap s.sl T.root e.cap 7).1.obj with
    | none => (s, 11)
    | some x => if x.2.2 = false then ({ s with rp := updO s.rp (kCap s.sl T.root e.cap 7).1.obj (fun _ => ((0, 0), false)) }, 11)
      else (kDec s.rt.length { s with rp := updO s.rp (kCap s.sl T.root e.cap 7).1.obj (fun _ => ((0, 0), false)) } x.2.1 0 e.a, 0)
def sigB (c : Cap) (e : Sqe) : Int := if IntKind.u32.wrap c.badge = 0 then e.a else IntKind.u32.wrap c.badge
def kSignals (s : KS) (T : Th) (e : Sqe) : KS × Int :=
  if (mayS s T e 5 2).2 ≠ 0 then (s, (mayS s T e 5 2).2)
  else match look s.nt (mayS s T e 5 2).1.obj with
    | none => (s, 11)
    | some x => (if woke x.2.1 x.2.2 (sigB (mayS s T e 5 2).1 e) = true then kDec s.rt.length { s with nt := updO s.nt (mayS s T e 5 2).1.obj (ntS (sigB (mayS s T e 5 2).1 e)) } (sigI x.2.1 x.2.2 (sigB (mayS s T e 5 2).1 e)) 0 (sigV x.2.1 x.2.2 (sigB (mayS s T e 5 2).1 e)) else { s with nt := updO s.nt (mayS s T e 5 2).1.obj (ntS (sigB (mayS s T e 5 2).1 e)) }, 0)
def kNWaits (s : KS) (T : Th) (e : Sqe) (i : ID) : KS × Out :=
  if (mayS s T e 5 1).2 ≠ 0 then (s, failO (mayS s T e 5 1).2)
  else match look s.nt (mayS s T e 5 1).1.obj with
    | none => (s, failO 11)
    | some x => ({ s with nt := updO s.nt (mayS s T e 5 1).1.obj (ntW i) }, if x.2.1 = 0 then none else some (0, x.2.1))
theorem Fits.rpF (h : Fits s N M) (u : Int) (f : ID × Bool → ID × Bool) : Fits { s with rp := updO s.rp u f } N M :=
  ⟨h.n, h.mm, h.ids, h.jn, h.tm, h.ep, h.nt, fun x hx => by
    obtain ⟨y, hy, h1, _⟩ := updO_mem (show x ∈ updO s.rp u f from hx)
    rw [h1]; exact h.rp y hy, h.rg, h.mem⟩
theorem Fits.more (h : Fits s N M) (hN : N + 1 ≤ 90000) : Fits s (N + 1) M :=
  ⟨hN, h.mm, h.ids, h.jn, by have := h.tm; omega, fun x hx => by have := h.ep x hx; exact ⟨this.1, by omega, by omega⟩, fun x hx => by have := h.nt x hx; exact ⟨this.1, by omega⟩, h.rp, h.rg, h.mem⟩
theorem sendE_len (z : Msg) (a : List Msg × List Rcv) : (sendE z a).1.length ≤ a.1.length + 1 ∧ (sendE z a).2.length ≤ a.2.length := by
  unfold sendE
  split
  · simp
  · rename_i h; simp [h]
theorem recvE_len (z : Rcv) (a : List Msg × List Rcv) : (recvE z a).1.length ≤ a.1.length ∧ (recvE z a).2.length ≤ a.2.length + 1 := by
  unfold recvE
  split
  · simp
  · rename_i h; simp [h]
theorem Fits.epF (h : Fits s N M) (hN : N + 1 ≤ 90000) (u : Int) {f : List Msg × List Rcv → List Msg × List Rcv} (hf : ∀ a, (f a).1.length ≤ a.1.length + 1 ∧ (f a).2.length ≤ a.2.length + 1) : Fits { s with ep := updO s.ep u f } (N + 1) M :=
  ⟨hN, h.mm, h.ids, h.jn, by have := h.tm; show s.tm.length ≤ _; omega, fun x hx => by
    obtain ⟨y, hy, h1, h2⟩ := updO_mem (show x ∈ updO s.ep u f from hx)
    have h3 := h.ep y hy
    rw [h1]
    rcases h2 with h2 | h2 <;> rw [h2]
    · exact ⟨h3.1, by omega, by omega⟩
    · have := hf y.2.2; exact ⟨h3.1, by omega, by omega⟩, fun x hx => by have := h.nt x hx; exact ⟨this.1, by omega⟩, h.rp, h.rg, h.mem⟩
theorem Fits.ntF (h : Fits s N M) (hN : N + 1 ≤ 90000) (u : Int) {f : Int × List ID → Int × List ID} (hf : ∀ a, (f a).2.length ≤ a.2.length + 1) : Fits { s with nt := updO s.nt u f } (N + 1) M :=
  ⟨hN, h.mm, h.ids, h.jn, by have := h.tm; show s.tm.length ≤ _; omega, fun x hx => by have := h.ep x hx; exact ⟨this.1, by omega, by omega⟩, fun x hx => by
    obtain ⟨y, hy, h1, h2⟩ := updO_mem (show x ∈ updO s.nt u f from hx)
    have h3 := h.nt y hy
    rw [h1]
    rcases h2 with h2 | h2 <;> rw [h2]
    · exact ⟨h3.1, by omega⟩
    · have := hf y.2.2; exact ⟨h3.1, by omega⟩, h.rp, h.rg, h.mem⟩
theorem signalsG {a p : Nat} {q : Rq} (hp : Picks [actA a p T q i, coA p s] l m) (hE : SqeOk q.e) (hF : Fits s N M) :
    Con Tryz.prog 163 #[.pointer (some ⟨a, 0, none⟩)] E l (fun _ : Unit => encE (some (-(kSignals s T q.e).2, 0))) (fun _ => actA a p T q i :: coA p (kSignals s T q.e).1 :: m) := by
  refine Con.body (n := 58) Tryz.func163 Z Z _ (env_ok 1 Z) <| J_picks2 hp <| sr <| L_op <| x_alloc ty276 Z fun b2 => nx <| mv Z Z <| xo fc224 (A3 Z Z Z) Z (mayG (kind := 5) (r := 2) PX hE) fun _ => mv Z Z <| L_pur Z (p_extract Z Z) <| L_pur Z (p_extract Z Z) <| L_op <| x_alloc ty110 Z fun b3 => L_op <| x_store Z Z ty110 Z SM SM RO PT <| ag Z Z <| nq <| J_seq <| J_pick (A := blk b3 _ _) PC <| J_asTo (B := blk b3 110 (encC (mayS s T q.e 5 2).1)) (by rfl) <| J_pick (A := actA a p T q i) PC <| J_act <| J_drawT 6 mixed (by kernel_rfl) <| sm Z Z <| sp Z (p_nilCheck Z) <| sp Z (p_fieldAddr Z fa279_0) <| S_val Z (v_load Z ty24 HS (by exact rfl)) <| sp Z (p_fieldAddr Z fa110_1) <| S_val Z (v_load Z ty3 HS (by exact rfl)) <| S_nil <| xo fc170 (A2 Z Z) Z (coNotif (s := s) (u := (mayS s T q.e 5 2).1.obj) PC) fun _ => ?_
  refine J_slot (t := 21) (v := .pointer ((look (ptrs (KS.nt s)) (mayS s T q.e 5 2).1.obj).map fun b => ⟨b, 0, none⟩)) Z Z <| ag Z Z <| nq <| J_seq <| J_block <| sr <| mv Z Z <| L_pur Z (p_neq Z Z) <| ag Z Z <| nq <| C_split Z (fun h22 => ?_) (fun h22 => ?_)
  have hkm : (kSignals s T q.e) = (s, (mayS s T q.e 5 2).2) := if_pos (by simpa using h22)
  refine sr <| mv Z Z <| xo fc167 (A1 Z) Z (failsC (n := (mayS s T q.e 5 2).2) (by have := mayS_code (s := s) (T := T) (e := q.e) (kind := 5) (r := 2); omega)) fun _ => L_op <| x_store Z Z ty276 Z SM SM RO PT <| nq <| J_ret <| Q_blk_ret <| Q_then_ret <| J_pick (A := coA p _) PC <| J_asTo (B := coA p (kSignals s T q.e).1) (by rw [hkm]; try rfl) <| J_pick (A := blk a _ _) PC <| J_asTo (B := actA a p T q i) (by rfl) <| J_return (()) Tryz.results163 (.cellA Z ty276 HS CT .nil) ?_ ?_
  · rw [hkm]; rfl
  · exact SU
  have n1 : ¬ (mayS s T q.e 5 2).2 ≠ 0 := by simpa using h22
  refine sr <| mv Z Z <| L_pur Z (p_eqNilPtr Tryz.underlying223 Z) <| ag Z Z <| nq <| C_split Z (fun h27 => ?_) (fun h27 => ?_)
  have hno : look (KS.nt s) (mayS s T q.e 5 2).1.obj = none := by
    cases hq : look (KS.nt s) (mayS s T q.e 5 2).1.obj with
    | none => rfl
    | some y => rw [look_ptrs, hq] at h27; simp at h27
  have hkm : (kSignals s T q.e) = (s, 11) := by unfold kSignals; rw [if_neg n1, hno]
  refine sr <| xo fc167 (A1 Z) Z (failsC (by decide)) fun _ => L_op <| x_store Z Z ty276 Z SM SM RO PT <| nq <| J_ret <| Q_blk_ret <| Q_then_ret <| J_pick (A := coA p _) PC <| J_asTo (B := coA p (kSignals s T q.e).1) (by rw [hkm]; try rfl) <| J_pick (A := blk a _ _) PC <| J_asTo (B := actA a p T q i) (by rfl) <| J_return (()) Tryz.results163 (.cellA Z ty276 HS CT .nil) ?_ ?_
  · rw [hkm]; rfl
  · exact SU
  obtain ⟨⟨bb, w0, xs⟩, hl⟩ : ∃ x, look (KS.nt s) (mayS s T q.e 5 2).1.obj = some x := by
    cases hq : look (KS.nt s) (mayS s T q.e 5 2).1.obj with
    | none => rw [look_ptrs, hq] at h27; simp at h27
    | some y => exact ⟨y, rfl⟩
  refine J_slot (t := 5) (v := .pointer (some ⟨bb, 0, none⟩)) Z (by rw [look_ptrs, hl]; rfl) ?_
  have hxl : xs.length ≤ N := (hF.nt _ (mem_look hl)).2
  have hNN := hF.n
  refine J_skip <| Q_blk_normal <| qx <| fa Z Z fa110_3 <| L_val Z (v_load Z ty3 HS (by exact rfl)) <| L_pur Z (p_conv Z Tryz.underlying3 Tryz.underlying22) <| J_slot (t := 33) (v := .int .u32 (IntKind.u32.wrap (mayS s T q.e 5 2).1.badge)) Z Z <| ag Z Z <| nxx <| mv Z Z <| L_pur Z (p_eql Z Z) <| nq <| C_dec Z (fun h35 => ?_) (fun h35 => ?_)
  refine J_region <| mv Z Z <| nc Z Z <| fa Z Z fa279_2 <| fa Z Z fa122_1 <| fa Z Z fa34_4 <| L_val Z (v_load Z ty22 HS (by exact rfl)) <| ag Z Z <| nq <| J_seq <| J_seq ?_
  have hsb : (sigB (mayS s T q.e 5 2).1 q.e) = q.e.a := by unfold sigB; rw [if_pos h35]
  refine J_slot (t := 6) (v := .int .u32 (sigB (mayS s T q.e 5 2).1 q.e)) Z (by rw [hsb]) <| J_region <| mv Z Z <| mv Z Z <| xo fc178 (A2 Z Z) Z (coNtSignal (s := s) (u := (mayS s T q.e 5 2).1.obj) (w0 := w0) (xs := xs) (z := (sigB (mayS s T q.e 5 2).1 q.e)) PC hl (by omega)) fun _ => mv Z Z <| L_pur Z (p_extract Z Z) <| L_pur Z (p_extract Z Z) <| L_pur Z (p_extract Z Z) <| L_op <| x_alloc ty36 Z fun b7 => L_op <| x_store Z Z ty36 Z SM SM RO PT <| J_pick (A := blk b7 _ _) PC <| J_asTo (B := blk b7 36 (encI (sigI w0 xs (sigB (mayS s T q.e 5 2).1 q.e)))) (by rfl) <| ag Z Z <| ag Z Z <| nx <| mv Z Z <| nq <| C_split Z (fun h49 => ?_) (fun h49 => ?_)
  have hkm : (kSignals s T q.e) = (kDec s.rt.length { s with nt := updO s.nt (mayS s T q.e 5 2).1.obj (ntS (sigB (mayS s T q.e 5 2).1 q.e)) } (sigI w0 xs (sigB (mayS s T q.e 5 2).1 q.e)) 0 (sigV w0 xs (sigB (mayS s T q.e 5 2).1 q.e)), 0) := by unfold kSignals; rw [if_neg n1, hl]; dsimp only; rw [if_pos h49]
  refine J_drawT 6 mixed (by kernel_rfl) <| sm Z Z <| sp Z (p_nilCheck Z) <| sp Z (p_fieldAddr Z fa279_0) <| S_val Z (v_load Z ty24 HS (by exact rfl)) <| S_val Z (v_loadA Z ty36 HS CT) <| sm Z Z <| S_nil <| xo fc72 (A4 Z Z Z Z) Z (coDecide (s := { s with nt := updO s.nt (mayS s T q.e 5 2).1.obj (ntS (sigB (mayS s T q.e 5 2).1 q.e)) }) (i := sigI w0 xs (sigB (mayS s T q.e 5 2).1 q.e)) (r := 0) (v := sigV w0 xs (sigB (mayS s T q.e 5 2).1 q.e)) PC (hF.sig _ _)) fun _ => nx <| L_pur Z (bld276 .nil (by repeat constructor)) <| L_op <| x_store Z Z ty276 Z SM SM RO PT <| nq <| J_ret <| J_pick (A := coA p _) PC <| J_asTo (B := coA p (kSignals s T q.e).1) (by rw [hkm]; try rfl) <| J_pick (A := blk a _ _) PC <| J_asTo (B := actA a p T q i) (by rfl) <| J_return (()) Tryz.results163 (.cellA Z ty276 HS CT .nil) ?_ ?_
  · rw [hkm]; rfl
  · exact SU
  have hkm : (kSignals s T q.e) = ({ s with nt := updO s.nt (mayS s T q.e 5 2).1.obj (ntS (sigB (mayS s T q.e 5 2).1 q.e)) }, 0) := by unfold kSignals; rw [if_neg n1, hl]; dsimp only; rw [if_neg (by rw [h49]; decide)]
  refine J_skip <| qx <| L_pur Z (bld276 .nil (by repeat constructor)) <| L_op <| x_store Z Z ty276 Z SM SM RO PT <| nq <| J_ret <| J_pick (A := coA p _) PC <| J_asTo (B := coA p (kSignals s T q.e).1) (by rw [hkm]; try rfl) <| J_pick (A := blk a _ _) PC <| J_asTo (B := actA a p T q i) (by rfl) <| J_return (()) Tryz.results163 (.cellA Z ty276 HS CT .nil) ?_ ?_
  · rw [hkm]; rfl
  · exact SU
  refine J_skip <| Q_then <| J_seq <| J_seq ?_
  have hsb : (sigB (mayS s T q.e 5 2).1 q.e) = IntKind.u32.wrap (mayS s T q.e 5 2).1.badge := by unfold sigB; rw [if_neg h35]
  refine J_slot (t := 6) (v := .int .u32 (sigB (mayS s T q.e 5 2).1 q.e)) Z (by rw [hsb]) <| J_region <| mv Z Z <| mv Z Z <| xo fc178 (A2 Z Z) Z (coNtSignal (s := s) (u := (mayS s T q.e 5 2).1.obj) (w0 := w0) (xs := xs) (z := (sigB (mayS s T q.e 5 2).1 q.e)) PC hl (by omega)) fun _ => mv Z Z <| L_pur Z (p_extract Z Z) <| L_pur Z (p_extract Z Z) <| L_pur Z (p_extract Z Z) <| L_op <| x_alloc ty36 Z fun b7 => L_op <| x_store Z Z ty36 Z SM SM RO PT <| J_pick (A := blk b7 _ _) PC <| J_asTo (B := blk b7 36 (encI (sigI w0 xs (sigB (mayS s T q.e 5 2).1 q.e)))) (by rfl) <| ag Z Z <| ag Z Z <| nx <| mv Z Z <| nq <| C_split Z (fun h49 => ?_) (fun h49 => ?_)
  have hkm : (kSignals s T q.e) = (kDec s.rt.length { s with nt := updO s.nt (mayS s T q.e 5 2).1.obj (ntS (sigB (mayS s T q.e 5 2).1 q.e)) } (sigI w0 xs (sigB (mayS s T q.e 5 2).1 q.e)) 0 (sigV w0 xs (sigB (mayS s T q.e 5 2).1 q.e)), 0) := by unfold kSignals; rw [if_neg n1, hl]; dsimp only; rw [if_pos h49]
  refine J_drawT 6 mixed (by kernel_rfl) <| sm Z Z <| sp Z (p_nilCheck Z) <| sp Z (p_fieldAddr Z fa279_0) <| S_val Z (v_load Z ty24 HS (by exact rfl)) <| S_val Z (v_loadA Z ty36 HS CT) <| sm Z Z <| S_nil <| xo fc72 (A4 Z Z Z Z) Z (coDecide (s := { s with nt := updO s.nt (mayS s T q.e 5 2).1.obj (ntS (sigB (mayS s T q.e 5 2).1 q.e)) }) (i := sigI w0 xs (sigB (mayS s T q.e 5 2).1 q.e)) (r := 0) (v := sigV w0 xs (sigB (mayS s T q.e 5 2).1 q.e)) PC (hF.sig _ _)) fun _ => nx <| L_pur Z (bld276 .nil (by repeat constructor)) <| L_op <| x_store Z Z ty276 Z SM SM RO PT <| nq <| J_ret <| J_pick (A := coA p _) PC <| J_asTo (B := coA p (kSignals s T q.e).1) (by rw [hkm]; try rfl) <| J_pick (A := blk a _ _) PC <| J_asTo (B := actA a p T q i) (by rfl) <| J_return (()) Tryz.results163 (.cellA Z ty276 HS CT .nil) ?_ ?_
  · rw [hkm]; rfl
  · exact SU
  have hkm : (kSignals s T q.e) = ({ s with nt := updO s.nt (mayS s T q.e 5 2).1.obj (ntS (sigB (mayS s T q.e 5 2).1 q.e)) }, 0) := by unfold kSignals; rw [if_neg n1, hl]; dsimp only; rw [if_neg (by rw [h49]; decide)]
  refine J_skip <| qx <| L_pur Z (bld276 .nil (by repeat constructor)) <| L_op <| x_store Z Z ty276 Z SM SM RO PT <| nq <| J_ret <| J_pick (A := coA p _) PC <| J_asTo (B := coA p (kSignals s T q.e).1) (by rw [hkm]; try rfl) <| J_pick (A := blk a _ _) PC <| J_asTo (B := actA a p T q i) (by rfl) <| J_return (()) Tryz.results163 (.cellA Z ty276 HS CT .nil) ?_ ?_
  · rw [hkm]; rfl
  · exact SU
theorem nwaitsG {a p : Nat} {q : Rq} (hp : Picks [actA a p T q i, coA p s] l m) (hE : SqeOk q.e) (hF : Fits s N M) :
    Con Tryz.prog 164 #[.pointer (some ⟨a, 0, none⟩)] E l (fun _ : Unit => encE (kNWaits s T q.e i).2) (fun _ => actA a p T q i :: coA p (kNWaits s T q.e i).1 :: m) := by
  refine Con.body (n := 42) Tryz.func164 Z Z _ (env_ok 1 Z) <| J_picks2 hp <| sr <| L_op <| x_alloc ty276 Z fun b2 => nx <| mv Z Z <| xo fc224 (A3 Z Z Z) Z (mayG (kind := 5) (r := 1) PX hE) fun _ => mv Z Z <| L_pur Z (p_extract Z Z) <| L_pur Z (p_extract Z Z) <| L_op <| x_alloc ty110 Z fun b3 => L_op <| x_store Z Z ty110 Z SM SM RO PT <| ag Z Z <| nq <| J_seq <| J_pick (A := blk b3 _ _) PC <| J_asTo (B := blk b3 110 (encC (mayS s T q.e 5 1).1)) (by rfl) <| J_pick (A := actA a p T q i) PC <| J_act <| J_drawT 6 mixed (by kernel_rfl) <| sm Z Z <| sp Z (p_nilCheck Z) <| sp Z (p_fieldAddr Z fa279_0) <| S_val Z (v_load Z ty24 HS (by exact rfl)) <| sp Z (p_fieldAddr Z fa110_1) <| S_val Z (v_load Z ty3 HS (by exact rfl)) <| S_nil <| xo fc170 (A2 Z Z) Z (coNotif (s := s) (u := (mayS s T q.e 5 1).1.obj) PC) fun _ => ?_
  refine J_slot (t := 19) (v := .pointer ((look (ptrs (KS.nt s)) (mayS s T q.e 5 1).1.obj).map fun b => ⟨b, 0, none⟩)) Z Z <| ag Z Z <| nq <| J_seq <| J_block <| sr <| mv Z Z <| L_pur Z (p_neq Z Z) <| ag Z Z <| nq <| C_split Z (fun h20 => ?_) (fun h20 => ?_)
  have hkm : (kNWaits s T q.e i) = (s, failO (mayS s T q.e 5 1).2) := if_pos (by simpa using h20)
  refine sr <| mv Z Z <| xo fc167 (A1 Z) Z (failsC (n := (mayS s T q.e 5 1).2) (by have := mayS_code (s := s) (T := T) (e := q.e) (kind := 5) (r := 1); omega)) fun _ => L_op <| x_store Z Z ty276 Z SM SM RO PT <| nq <| J_ret <| Q_blk_ret <| Q_then_ret <| J_pick (A := coA p _) PC <| J_asTo (B := coA p (kNWaits s T q.e i).1) (by rw [hkm]; try rfl) <| J_pick (A := blk a _ _) PC <| J_asTo (B := actA a p T q i) (by rfl) <| J_return (()) Tryz.results164 (.cellA Z ty276 HS CT .nil) ?_ ?_
  · rw [hkm]; rfl
  · exact SU
  have n1 : ¬ (mayS s T q.e 5 1).2 ≠ 0 := by simpa using h20
  refine sr <| mv Z Z <| L_pur Z (p_eqNilPtr Tryz.underlying223 Z) <| ag Z Z <| nq <| C_split Z (fun h25 => ?_) (fun h25 => ?_)
  have hno : look (KS.nt s) (mayS s T q.e 5 1).1.obj = none := by
    cases hq : look (KS.nt s) (mayS s T q.e 5 1).1.obj with
    | none => rfl
    | some y => rw [look_ptrs, hq] at h25; simp at h25
  have hkm : (kNWaits s T q.e i) = (s, failO 11) := by unfold kNWaits; rw [if_neg n1, hno]
  refine sr <| xo fc167 (A1 Z) Z (failsC (by decide)) fun _ => L_op <| x_store Z Z ty276 Z SM SM RO PT <| nq <| J_ret <| Q_blk_ret <| Q_then_ret <| J_pick (A := coA p _) PC <| J_asTo (B := coA p (kNWaits s T q.e i).1) (by rw [hkm]; try rfl) <| J_pick (A := blk a _ _) PC <| J_asTo (B := actA a p T q i) (by rfl) <| J_return (()) Tryz.results164 (.cellA Z ty276 HS CT .nil) ?_ ?_
  · rw [hkm]; rfl
  · exact SU
  obtain ⟨⟨bb, w0, xs⟩, hl⟩ : ∃ x, look (KS.nt s) (mayS s T q.e 5 1).1.obj = some x := by
    cases hq : look (KS.nt s) (mayS s T q.e 5 1).1.obj with
    | none => rw [look_ptrs, hq] at h25; simp at h25
    | some y => exact ⟨y, rfl⟩
  refine J_slot (t := 5) (v := .pointer (some ⟨bb, 0, none⟩)) Z (by rw [look_ptrs, hl]; rfl) ?_
  have hxl : xs.length ≤ N := (hF.nt _ (mem_look hl)).2
  have hNN := hF.n
  have hkm : (kNWaits s T q.e i) = ({ s with nt := updO s.nt (mayS s T q.e 5 1).1.obj (ntW i) }, if w0 = 0 then none else some (0, w0)) := by unfold kNWaits; rw [if_neg n1, hl]
  refine J_skip <| Q_blk_normal <| qx <| mv Z Z <| mv Z Z <| nc Z Z <| fa Z Z fa279_3 <| L_val Z (v_loadA Z ty36 HS CT) <| xo fc229 (A2 Z Z) Z (coNtWait (s := s) (u := (mayS s T q.e 5 1).1.obj) (w0 := w0) (xs := xs) (i := i) PC hl (by omega)) fun _ => mv Z Z <| L_pur Z (p_extract Z Z) <| L_pur Z (p_extract Z Z) <| ag Z Z <| ag Z Z <| nx <| mv Z Z <| mv Z Z <| L_pur Z (p_not Z) <| L_pur Z (bld276 (.cons Z (.cons Z .nil)) (by repeat constructor)) <| L_op <| x_store Z Z ty276 Z SM SM RO PT <| nq <| J_ret <| J_pick (A := coA p _) PC <| J_asTo (B := coA p (kNWaits s T q.e i).1) (by rw [hkm]; try rfl) <| J_pick (A := blk a _ _) PC <| J_asTo (B := actA a p T q i) (by rfl) <| J_return (()) Tryz.results164 (.cellA Z ty276 HS CT .nil) ?_ ?_
  · rw [hkm]; dsimp only; by_cases hw : w0 = 0 <;> simp [one, encE, hw]
  · exact SU
/-! ### plain: what an entry does -/
def kDoes (s : KS) (T : Th) (q : Rq) (i : ID) (b : Nat) : KS × Out :=
 if q.e.op = 1 then (s, some (0, 0))
 else if q.e.op = 2 ∨ q.e.op = 3 ∨ q.e.op = 4 ∨ q.e.op = 5 ∨ q.e.op = 6 then ((kSlots s T q.e).1, failO (kSlots s T q.e).2)
 else if q.e.op = 7 then (kRetS s T q.e b, some (-(kRetC s T q.e), kRetV s T q.e))
 else if q.e.op = 8 then ((kMaps s T q.e).1, failO (kMaps s T q.e).2)
 else if q.e.op = 9 then ((kUnmap s T q.e).1, failO (kUnmap s T q.e).2)
 else if q.e.op = 10 ∨ q.e.op = 12 then kSends s T q.e i (decide (q.e.op = 12))
 else if q.e.op = 11 then kRecvs s T q.e i
 else if q.e.op = 13 then ((kAnswers s T q.e).1, failO (kAnswers s T q.e).2)
 else if q.e.op = 14 then ((kSignals s T q.e).1, failO (kSignals s T q.e).2)
 else if q.e.op = 15 then kNWaits s T q.e i
 else if q.e.op = 16 ∨ q.e.op = 17 ∨ q.e.op = 18 then ((kThreads s T q.e).1, failO (kThreads s T q.e).2)
 else if q.e.op = 19 then (s, none)
 else if q.e.op = 20 then ((kCancels s q.e i).1, failO (kCancels s q.e i).2)
 else (s, failO 11)
def kOwner (s : KS) (r : Int) : Option Th := (s.th.find? fun e => decide (e.2.ring = r)).map Prod.snd
structure Good (s : KS) (N M : Nat) : Prop where
  fit : Fits s N M
  n1 : N + 1 ≤ 90000
  m2 : M ≤ 45000
  q : s.q.length ≤ N
  mp : s.mp.length ≤ N
  sl : s.sl.length ≤ N
  rg : s.rg.length ≤ 1000
  caps : CapsOk s.sl
  marks : MarksOk s.mr
  rev : ∀ p, RevOk s.sl p
  own : ∀ r x, Owns s r x → x = kOwner s r
  ent : ∀ e ∈ s.rt, SqeOk e.2.e
def DoesC (s : KS) (T : Th) (q : Rq) (i : ID) : Prop := ∀ (E : World) (l m : List As) (a p : Nat), Picks [actA a p T q i, coA p s] l m →
  Con Tryz.prog 118 #[.pointer (some ⟨a, 0, none⟩)] E l (fun b : Nat => encE (kDoes s T q i b).2) (fun b => actA a p T q i :: coA p (kDoes s T q i b).1 :: m)
theorem does1G {a p : Nat} {q : Rq} (hp : Picks [actA a p T q i, coA p s] l m) (hG : Good s N M) (hE : SqeOk q.e) (hop : q.e.op = 1) :
    Con Tryz.prog 118 #[.pointer (some ⟨a, 0, none⟩)] E l (fun b : Nat => encE (kDoes s T q i b).2) (fun b => actA a p T q i :: coA p (kDoes s T q i b).1 :: m) := by
  refine Con.body (n := 71) Tryz.func118 Z Z _ (env_ok 1 Z) <| J_picks2 hp <| J_act <| sr <| L_op <| x_alloc ty276 Z fun b2 => nxx <| mv Z Z <| nc Z Z <| fa Z Z fa279_2 <| fa Z Z fa122_1 <| fa Z Z fa34_0 <| L_val Z (v_load Z ty3 HS (by exact rfl)) <| J_pick (A := blk a _ _) PC <| J_asTo (B := actA a p T q i) (by rfl) <| ag Z Z <| nx <| mv Z Z <| nq <| J_block <| sr <| L_pur Z (p_eql Z Z) <| ag Z Z <| nq <| J_bool (t := 11) (c := true) Z (by simp [hop]) <| C_true Z <| sr <| L_pur Z (bld276 .nil (by repeat constructor)) <| L_op <| x_store Z Z ty276 Z SM SM RO PT <| nq <| J_ret <| Q_blk_ret <| Q_then_ret ?_
  have hks : ∀ b, kDoes s T q i b = (s, some (0, 0)) := fun b => by unfold kDoes; simp only [hop]; rfl
  refine J_pick (A := coA p _) PC <| J_asTo (B := coA p (kDoes s T q i 0).1) (by rw [hks]; try rfl) <| J_pick (A := actA a p T q i) PC <| J_return (0) Tryz.results118 (.cellA Z ty276 HS CT .nil) ?_ ?_
  · rw [hks]; rfl
  · exact SU
theorem doesC1 {q : Rq} (hG : Good s N M) (hE : SqeOk q.e) (hop : q.e.op = 1) : DoesC s T q i := fun _ _ _ _ _ hp => does1G hp hG hE hop
theorem does3G {a p : Nat} {q : Rq} (hp : Picks [actA a p T q i, coA p s] l m) (hG : Good s N M) (hE : SqeOk q.e) (hop : q.e.op = 3) :
    Con Tryz.prog 118 #[.pointer (some ⟨a, 0, none⟩)] E l (fun b : Nat => encE (kDoes s T q i b).2) (fun b => actA a p T q i :: coA p (kDoes s T q i b).1 :: m) := by
  refine Con.body (n := 71) Tryz.func118 Z Z _ (env_ok 1 Z) <| J_picks2 hp <| J_act <| sr <| L_op <| x_alloc ty276 Z fun b2 => nxx <| mv Z Z <| nc Z Z <| fa Z Z fa279_2 <| fa Z Z fa122_1 <| fa Z Z fa34_0 <| L_val Z (v_load Z ty3 HS (by exact rfl)) <| J_pick (A := blk a _ _) PC <| J_asTo (B := actA a p T q i) (by rfl) <| ag Z Z <| nx <| mv Z Z <| nq <| J_block <| sr <| L_pur Z (p_eql Z Z) <| ag Z Z <| nq <| J_bool (t := 11) (c := false) Z (by simp [hop]) <| C_false Z <| J_seq <| sr <| L_pur Z (p_eql Z Z) <| ag Z Z <| nq <| J_bool (t := 14) (c := false) Z (by simp [hop]) <| C_false Z <| sr <| L_pur Z (p_eql Z Z) <| ag Z Z <| nq <| J_bool (t := 14) (c := true) Z (by simp [hop]) <| C_true Z <| J_skip <| Q_then <| J_bool (t := 14) (c := true) Z (by simp [hop]) <| C_true Z <| sr <| mv Z Z <| xo fc156 (A1 Z) Z (slots3G PX hE hop) fun _ => L_op <| x_store Z Z ty276 Z SM SM RO PT ?_
  refine nq <| J_ret <| Q_blk_ret <| Q_then_ret ?_
  have hks : ∀ b, kDoes s T q i b = ((kSlots s T q.e).1, failO (kSlots s T q.e).2) := fun b => by unfold kDoes; simp only [hop]; rfl
  refine J_pick (A := coA p _) PC <| J_asTo (B := coA p (kDoes s T q i 0).1) (by rw [hks]; try rfl) <| J_pick (A := actA a p T q i) PC <| J_return (0) Tryz.results118 (.cellA Z ty276 HS CT .nil) ?_ ?_
  · rw [hks]; rfl
  · exact SU
theorem doesC3 {q : Rq} (hG : Good s N M) (hE : SqeOk q.e) (hop : q.e.op = 3) : DoesC s T q i := fun _ _ _ _ _ hp => does3G hp hG hE hop
theorem does7G {a p : Nat} {q : Rq} (hp : Picks [actA a p T q i, coA p s] l m) (hG : Good s N M) (hE : SqeOk q.e) (hop : q.e.op = 7) :
    Con Tryz.prog 118 #[.pointer (some ⟨a, 0, none⟩)] E l (fun b : Nat => encE (kDoes s T q i b).2) (fun b => actA a p T q i :: coA p (kDoes s T q i b).1 :: m) := by
  refine Con.body (n := 71) Tryz.func118 Z Z _ (env_ok 1 Z) <| J_picks2 hp <| J_act <| sr <| L_op <| x_alloc ty276 Z fun b2 => nxx <| mv Z Z <| nc Z Z <| fa Z Z fa279_2 <| fa Z Z fa122_1 <| fa Z Z fa34_0 <| L_val Z (v_load Z ty3 HS (by exact rfl)) <| J_pick (A := blk a _ _) PC <| J_asTo (B := actA a p T q i) (by rfl) <| ag Z Z <| nx <| mv Z Z <| nq <| J_block <| sr <| L_pur Z (p_eql Z Z) <| ag Z Z <| nq <| J_bool (t := 11) (c := false) Z (by simp [hop]) <| C_false Z <| J_seq <| sr <| L_pur Z (p_eql Z Z) <| ag Z Z <| nq <| J_bool (t := 14) (c := false) Z (by simp [hop]) <| C_false Z <| sr <| L_pur Z (p_eql Z Z) <| ag Z Z <| nq <| J_bool (t := 14) (c := false) Z (by simp [hop]) <| C_false Z <| sr <| L_pur Z (p_eql Z Z) <| ag Z Z <| nq <| J_bool (t := 14) (c := false) Z (by simp [hop]) <| C_false Z <| sr ?_
  refine L_pur Z (p_eql Z Z) <| ag Z Z <| nq <| J_bool (t := 14) (c := false) Z (by simp [hop]) <| C_false Z <| J_region <| L_pur Z (p_eql Z Z) <| ag Z Z <| nq <| J_bool (t := 14) (c := false) Z (by simp [hop]) <| C_false Z <| sr <| L_pur Z (p_eql Z Z) <| ag Z Z <| nq <| J_bool (t := 22) (c := true) Z (by simp [hop]) <| C_true Z <| sr <| mv Z Z <| xo fc157 (A1 Z) Z (retypeG PX hE hG.caps hG.marks hG.fit.mem (by have := hG.sl; have := hG.n1; omega)) fun x25 => L_op <| x_store Z Z ty276 Z SM SM RO PT <| nq <| J_ret <| Q_blk_ret <| Q_then_ret ?_
  have hks : ∀ b, kDoes s T q i b = (kRetS s T q.e b, some (-(kRetC s T q.e), kRetV s T q.e)) := fun b => by unfold kDoes; simp only [hop]; rfl
  refine J_pick (A := coA p _) PC <| J_asTo (B := coA p (kDoes s T q i x25).1) (by rw [hks]; try rfl) <| J_pick (A := actA a p T q i) PC <| J_return (x25) Tryz.results118 (.cellA Z ty276 HS CT .nil) ?_ ?_
  · rw [hks]; rfl
  · exact SU
theorem doesC7 {q : Rq} (hG : Good s N M) (hE : SqeOk q.e) (hop : q.e.op = 7) : DoesC s T q i := fun _ _ _ _ _ hp => does7G hp hG hE hop
theorem does14G {a p : Nat} {q : Rq} (hp : Picks [actA a p T q i, coA p s] l m) (hG : Good s N M) (hE : SqeOk q.e) (hop : q.e.op = 14) :
    Con Tryz.prog 118 #[.pointer (some ⟨a, 0, none⟩)] E l (fun b : Nat => encE (kDoes s T q i b).2) (fun b => actA a p T q i :: coA p (kDoes s T q i b).1 :: m) := by
  refine Con.body (n := 71) Tryz.func118 Z Z _ (env_ok 1 Z) <| J_picks2 hp <| J_act <| sr <| L_op <| x_alloc ty276 Z fun b2 => nxx <| mv Z Z <| nc Z Z <| fa Z Z fa279_2 <| fa Z Z fa122_1 <| fa Z Z fa34_0 <| L_val Z (v_load Z ty3 HS (by exact rfl)) <| J_pick (A := blk a _ _) PC <| J_asTo (B := actA a p T q i) (by rfl) <| ag Z Z <| nx <| mv Z Z <| nq <| J_block <| sr <| L_pur Z (p_eql Z Z) <| ag Z Z <| nq <| J_bool (t := 11) (c := false) Z (by simp [hop]) <| C_false Z <| J_seq <| sr <| L_pur Z (p_eql Z Z) <| ag Z Z <| nq <| J_bool (t := 14) (c := false) Z (by simp [hop]) <| C_false Z <| sr <| L_pur Z (p_eql Z Z) <| ag Z Z <| nq <| J_bool (t := 14) (c := false) Z (by simp [hop]) <| C_false Z <| sr <| L_pur Z (p_eql Z Z) <| ag Z Z <| nq <| J_bool (t := 14) (c := false) Z (by simp [hop]) <| C_false Z <| sr ?_
  refine L_pur Z (p_eql Z Z) <| ag Z Z <| nq <| J_bool (t := 14) (c := false) Z (by simp [hop]) <| C_false Z <| J_region <| L_pur Z (p_eql Z Z) <| ag Z Z <| nq <| J_bool (t := 14) (c := false) Z (by simp [hop]) <| C_false Z <| sr <| L_pur Z (p_eql Z Z) <| ag Z Z <| nq <| J_bool (t := 22) (c := false) Z (by simp [hop]) <| C_false Z <| sr <| L_pur Z (p_eql Z Z) <| ag Z Z <| nq <| J_bool (t := 26) (c := false) Z (by simp [hop]) <| C_false Z <| sr <| L_pur Z (p_eql Z Z) <| ag Z Z <| nq <| J_bool (t := 30) (c := false) Z (by simp [hop]) <| C_false Z <| J_seq <| sr <| L_pur Z (p_eql Z Z) <| ag Z Z <| nq <| J_bool (t := 34) (c := false) Z (by simp [hop]) <| C_false Z <| J_region <| L_pur Z (p_eql Z Z) <| ag Z Z <| nq ?_
  refine J_bool (t := 34) (c := false) Z (by simp [hop]) <| C_false Z <| sr <| L_pur Z (p_eql Z Z) <| ag Z Z <| nq <| J_bool (t := 41) (c := false) Z (by simp [hop]) <| C_false Z <| sr <| L_pur Z (p_eql Z Z) <| ag Z Z <| nq <| J_bool (t := 45) (c := false) Z (by simp [hop]) <| C_false Z <| sr <| L_pur Z (p_eql Z Z) <| ag Z Z <| nq <| J_bool (t := 49) (c := true) Z (by simp [hop]) <| C_true Z <| sr <| mv Z Z <| xo fc163 (A1 Z) Z (signalsG PX hE hG.fit) fun _ => L_op <| x_store Z Z ty276 Z SM SM RO PT <| nq <| J_ret <| Q_blk_ret <| Q_then_ret ?_
  have hks : ∀ b, kDoes s T q i b = ((kSignals s T q.e).1, failO (kSignals s T q.e).2) := fun b => by unfold kDoes; simp only [hop]; rfl
  refine J_pick (A := coA p _) PC <| J_asTo (B := coA p (kDoes s T q i 0).1) (by rw [hks]; try rfl) <| J_pick (A := actA a p T q i) PC <| J_return (0) Tryz.results118 (.cellA Z ty276 HS CT .nil) ?_ ?_
  · rw [hks]; rfl
  · exact SU
theorem doesC14 {q : Rq} (hG : Good s N M) (hE : SqeOk q.e) (hop : q.e.op = 14) : DoesC s T q i := fun _ _ _ _ _ hp => does14G hp hG hE hop
theorem does15G {a p : Nat} {q : Rq} (hp : Picks [actA a p T q i, coA p s] l m) (hG : Good s N M) (hE : SqeOk q.e) (hop : q.e.op = 15) :
    Con Tryz.prog 118 #[.pointer (some ⟨a, 0, none⟩)] E l (fun b : Nat => encE (kDoes s T q i b).2) (fun b => actA a p T q i :: coA p (kDoes s T q i b).1 :: m) := by
  refine Con.body (n := 71) Tryz.func118 Z Z _ (env_ok 1 Z) <| J_picks2 hp <| J_act <| sr <| L_op <| x_alloc ty276 Z fun b2 => nxx <| mv Z Z <| nc Z Z <| fa Z Z fa279_2 <| fa Z Z fa122_1 <| fa Z Z fa34_0 <| L_val Z (v_load Z ty3 HS (by exact rfl)) <| J_pick (A := blk a _ _) PC <| J_asTo (B := actA a p T q i) (by rfl) <| ag Z Z <| nx <| mv Z Z <| nq <| J_block <| sr <| L_pur Z (p_eql Z Z) <| ag Z Z <| nq <| J_bool (t := 11) (c := false) Z (by simp [hop]) <| C_false Z <| J_seq <| sr <| L_pur Z (p_eql Z Z) <| ag Z Z <| nq <| J_bool (t := 14) (c := false) Z (by simp [hop]) <| C_false Z <| sr <| L_pur Z (p_eql Z Z) <| ag Z Z <| nq <| J_bool (t := 14) (c := false) Z (by simp [hop]) <| C_false Z <| sr <| L_pur Z (p_eql Z Z) <| ag Z Z <| nq <| J_bool (t := 14) (c := false) Z (by simp [hop]) <| C_false Z <| sr ?_
  refine L_pur Z (p_eql Z Z) <| ag Z Z <| nq <| J_bool (t := 14) (c := false) Z (by simp [hop]) <| C_false Z <| J_region <| L_pur Z (p_eql Z Z) <| ag Z Z <| nq <| J_bool (t := 14) (c := false) Z (by simp [hop]) <| C_false Z <| sr <| L_pur Z (p_eql Z Z) <| ag Z Z <| nq <| J_bool (t := 22) (c := false) Z (by simp [hop]) <| C_false Z <| sr <| L_pur Z (p_eql Z Z) <| ag Z Z <| nq <| J_bool (t := 26) (c := false) Z (by simp [hop]) <| C_false Z <| sr <| L_pur Z (p_eql Z Z) <| ag Z Z <| nq <| J_bool (t := 30) (c := false) Z (by simp [hop]) <| C_false Z <| J_seq <| sr <| L_pur Z (p_eql Z Z) <| ag Z Z <| nq <| J_bool (t := 34) (c := false) Z (by simp [hop]) <| C_false Z <| J_region <| L_pur Z (p_eql Z Z) <| ag Z Z <| nq ?_
  refine J_bool (t := 34) (c := false) Z (by simp [hop]) <| C_false Z <| sr <| L_pur Z (p_eql Z Z) <| ag Z Z <| nq <| J_bool (t := 41) (c := false) Z (by simp [hop]) <| C_false Z <| sr <| L_pur Z (p_eql Z Z) <| ag Z Z <| nq <| J_bool (t := 45) (c := false) Z (by simp [hop]) <| C_false Z <| sr <| L_pur Z (p_eql Z Z) <| ag Z Z <| nq <| J_bool (t := 49) (c := false) Z (by simp [hop]) <| C_false Z <| sr <| L_pur Z (p_eql Z Z) <| ag Z Z <| nq <| J_bool (t := 53) (c := true) Z (by simp [hop]) <| C_true Z <| sr <| mv Z Z <| xo fc164 (A1 Z) Z (nwaitsG PX hE hG.fit) fun _ => L_op <| x_store Z Z ty276 Z SM SM RO PT <| nq <| J_ret <| Q_blk_ret <| Q_then_ret ?_
  have hks : ∀ b, kDoes s T q i b = kNWaits s T q.e i := fun b => by unfold kDoes; simp only [hop]; rfl
  refine J_pick (A := coA p _) PC <| J_asTo (B := coA p (kDoes s T q i 0).1) (by rw [hks]; try rfl) <| J_pick (A := actA a p T q i) PC <| J_return (0) Tryz.results118 (.cellA Z ty276 HS CT .nil) ?_ ?_
  · rw [hks]; rfl
  · exact SU
theorem doesC15 {q : Rq} (hG : Good s N M) (hE : SqeOk q.e) (hop : q.e.op = 15) : DoesC s T q i := fun _ _ _ _ _ hp => does15G hp hG hE hop
def kAct (s : KS) (i : ID) (b : Nat) : KS × Out := match look s.rt i with
  | none => (s, none)
  | some q => match kOwner s i.1 with
    | none => (s, failO 11)
    | some T => kDoes s T q i b
def kStart (s : KS) (i : ID) (b : Nat) : KS × Bool := match look s.rt i with
  | none => (s, false)
  | some q => if q.started = true then (s, false) else match kAct { s with rt := rtS s.rt i } i b with
    | (t, none) => (t, true)
    | (t, some x) => (kDec t.rt.length t i x.1 x.2, true)
theorem coActG (hp : Pick (coA p s) l m) (hG : Good s N M) (hD : ∀ (q : Rq) (T : Th), look s.rt i = some q → DoesC s T q i) :
    Con Tryz.prog 71 #[.pointer (some ⟨p, 0, none⟩), .agg (encI i).toArray] E l (fun b : Nat => .tuple #[.int .i64 (((kAct s i b).2.getD (0, 0)).1), .int .u32 (((kAct s i b).2.getD (0, 0)).2), .bool (kAct s i b).2.isSome]) (fun b => coA p (kAct s i b).1 :: m) := by
  refine Con.body (n := 42) Tryz.func71 Z Z _ (env_ok 2 Z) <| J_pick hp <| sr <| L_op <| x_box Z Z Z fun b3 => ag Z Z <| ag Z Z <| ag Z Z <| nq <| J_seq <| J_drawL none mixed <| ip 0 Z Z Z Z (p_move Z) <| iv 2 Z Z Z Z (fun _ => v_loadA Z ty36 HS CT) <| I_ready (rs := [1, 7]) SI (by kernel_rfl) (by simp) <| (I_cons Z ?_ (I_cons Z ?_ I_nil))
  refine xc fc16 (A1 Z) Z (coReqs) fun _ => I_ready (rs := [3, 7]) SI (by kernel_rfl) (by simp) <| (I_cons Z ?_ (I_cons Z ?_ I_nil))
  refine xc fc69 (A2 Z Z) Z (coRqGet (s := s) (i := i) PC) fun _ => ip 4 Z Z Z Z (p_move Z) <| ip 5 Z Z Z Z (p_extract Z Z) <| ip 6 Z Z Z Z (p_extract Z Z) <| i1 7 Z <| x_alloc ty122 Z fun b7 => i1 8 Z <| x_store Z Z ty122 Z SM SM RO PT <| ip 9 Z Z Z Z (p_assign Z) <| i0 <| Q_then <| J_seq <| sr <| mv Z Z <| L_pur Z (p_not Z) <| nq <| C_split Z (fun h19 => ?_) (fun h19 => ?_)
  have hq : look s.rt i = none := by
    cases hq : look s.rt i with
    | none => rfl
    | some y => rw [hq] at h19; simp at h19
  have hka : ∀ b, kAct s i b = (s, none) := fun b => by unfold kAct; rw [hq]
  refine sr <| ag Z Z <| ag Z Z <| ag Z Z <| nq <| J_ret <| Q_then_ret <| J_pick (A := coA p _) PC <| J_asTo (B := coA p (kAct s i 0).1) (by rw [hka]) <| J_return (0) Tryz.results71 (.tmp Z (.tmp Z (.tmp Z .nil))) ?_ ?_
  · rw [hka]; rfl
  · exact SU
  obtain ⟨q, hq⟩ : ∃ x, look s.rt i = some x := by
    cases hq : look s.rt i with
    | none => rw [hq] at h19; simp at h19
    | some y => exact ⟨y, rfl⟩
  refine J_pick (A := blk b7 _ _) PC <| J_asTo (B := blk b7 122 (encQ q)) (by rw [hq]; rfl) <| J_skip <| qx <| mv Z Z <| fa Z Z fa36_0 <| L_val Z (v_load Z ty3 HS (by exact rfl)) <| xo fc117 (A2 Z Z) Z (coOwner (s := s) (r := i.1) PC) fun x24 => J_pure fun hO => ?_
  obtain rfl := hG.own _ _ hO
  refine mv Z Z <| L_pur Z (p_extract Z Z) <| L_pur Z (p_extract Z Z) <| L_op <| x_alloc ty213 Z fun b9 => L_op <| x_store Z Z ty213 Z SM SM RO PT <| ag Z Z <| nxx <| mv Z Z <| L_pur Z (p_not Z) <| nq <| C_split Z (fun h28 => ?_) (fun h28 => ?_)
  have hT : kOwner s i.1 = none := by
    cases hq : kOwner s i.1 with
    | none => rfl
    | some y => rw [hq] at h28; simp at h28
  have hka : ∀ b, kAct s i b = (s, failO 11) := fun b => by unfold kAct; rw [hq]; dsimp only; rw [hT]
  refine sr <| ag Z Z <| ag Z Z <| ag Z Z <| nq <| J_ret <| Q_then_ret <| J_pick (A := coA p _) PC <| J_asTo (B := coA p (kAct s i 0).1) (by rw [hka]) <| J_return (0) Tryz.results71 (.tmp Z (.tmp Z (.tmp Z .nil))) ?_ ?_
  · rw [hka]; rfl
  · exact SU
  obtain ⟨T, hT⟩ : ∃ x, kOwner s i.1 = some x := by
    cases hq : kOwner s i.1 with
    | none => rw [hq] at h28; simp at h28
    | some y => exact ⟨y, rfl⟩
  have hka : ∀ b, kAct s i b = kDoes s T q i b := fun b => by unfold kAct; rw [hq]; dsimp only; rw [hT]
  refine J_skip <| qx <| mv Z Z <| L_val Z (v_loadA Z ty213 HS CT) <| L_val Z (v_loadA Z ty122 HS CT) <| L_val Z (v_loadA Z ty36 HS CT) <| L_pur Z (bld279 (.cons Z (.cons Z (.cons Z (.cons Z .nil)))) (by repeat constructor)) <| L_op <| x_box Z Z Z fun b34 => J_pick (A := blk b34 _ _) PC <| J_asTo (B := actA b34 p T q i) (by rw [hT]; rfl) <| xo fc118 (A1 Z) Z (hD q T hq _ _ _ b34 p PX) fun x36 => L_op <| x_alloc ty276 Z fun b10 => L_op <| x_store Z Z ty276 Z SM SM RO PT <| nxx <| fa Z Z fa276_2 <| L_val Z (v_load Z ty4 HS (by exact rfl)) <| nq <| C_split Z (fun h37 => ?_) (fun h37 => ?_)
  refine sr <| ag Z Z <| ag Z Z <| ag Z Z <| nq <| J_ret <| Q_then_ret <| J_pick (A := coA p _) PC <| J_asTo (B := coA p (kAct s i x36).1) (by rw [hka]) <| J_return (x36) Tryz.results71 (.tmp Z (.tmp Z (.tmp Z .nil))) ?_ ?_
  · rw [hka]; cases ho : (kDoes s T q i x36).2 with
    | none => rfl
    | some y => rw [ho] at h37; cases h37
  · exact SU
  refine J_skip <| Q_then <| J_seq <| J_drawS mixed (by kernel_rfl) <| sp Z (p_fieldAddr Z fa276_0) <| S_val Z (v_load Z ty3 HS (by exact rfl)) <| sp Z (p_fieldAddr Z fa276_1) <| S_val Z (v_load Z ty22 HS (by exact rfl)) <| sp Z (p_assign Z) <| sp Z (p_assign Z) <| sp Z (p_assign Z) <| sq <| J_ret <| J_pick (A := coA p _) PC <| J_asTo (B := coA p (kAct s i x36).1) (by rw [hka]) <| J_return (x36) Tryz.results71 (.tmp Z (.tmp Z (.tmp Z .nil))) ?_ ?_
  · rw [hka]; cases ho : (kDoes s T q i x36).2 with
    | none => rw [ho] at h37; cases h37
    | some y => rfl
  · exact SU
  refine x_alloc ty122 Z fun b7 => i1 3 Z <| xc fc69 (A2 Z Z) Z (coRqGet (s := s) (i := i) PC) fun _ => ip 4 Z Z Z Z (p_move Z) <| ip 5 Z Z Z Z (p_extract Z Z) <| ip 6 Z Z Z Z (p_extract Z Z) <| i1 8 Z <| x_store Z Z ty122 Z SM SM RO PT <| ip 9 Z Z Z Z (p_assign Z) <| i0 <| Q_then <| J_seq <| sr <| mv Z Z <| L_pur Z (p_not Z) <| nq <| C_split Z (fun h19 => ?_) (fun h19 => ?_)
  have hq : look s.rt i = none := by
    cases hq : look s.rt i with
    | none => rfl
    | some y => rw [hq] at h19; simp at h19
  have hka : ∀ b, kAct s i b = (s, none) := fun b => by unfold kAct; rw [hq]
  refine sr <| ag Z Z <| ag Z Z <| ag Z Z <| nq <| J_ret <| Q_then_ret <| J_pick (A := coA p _) PC <| J_asTo (B := coA p (kAct s i 0).1) (by rw [hka]) <| J_return (0) Tryz.results71 (.tmp Z (.tmp Z (.tmp Z .nil))) ?_ ?_
  · rw [hka]; rfl
  · exact SU
  obtain ⟨q, hq⟩ : ∃ x, look s.rt i = some x := by
    cases hq : look s.rt i with
    | none => rw [hq] at h19; simp at h19
    | some y => exact ⟨y, rfl⟩
  refine J_pick (A := blk b7 _ _) PC <| J_asTo (B := blk b7 122 (encQ q)) (by rw [hq]; rfl) <| J_skip <| qx <| mv Z Z <| fa Z Z fa36_0 <| L_val Z (v_load Z ty3 HS (by exact rfl)) <| xo fc117 (A2 Z Z) Z (coOwner (s := s) (r := i.1) PC) fun x24 => J_pure fun hO => ?_
  obtain rfl := hG.own _ _ hO
  refine mv Z Z <| L_pur Z (p_extract Z Z) <| L_pur Z (p_extract Z Z) <| L_op <| x_alloc ty213 Z fun b9 => L_op <| x_store Z Z ty213 Z SM SM RO PT <| ag Z Z <| nxx <| mv Z Z <| L_pur Z (p_not Z) <| nq <| C_split Z (fun h28 => ?_) (fun h28 => ?_)
  have hT : kOwner s i.1 = none := by
    cases hq : kOwner s i.1 with
    | none => rfl
    | some y => rw [hq] at h28; simp at h28
  have hka : ∀ b, kAct s i b = (s, failO 11) := fun b => by unfold kAct; rw [hq]; dsimp only; rw [hT]
  refine sr <| ag Z Z <| ag Z Z <| ag Z Z <| nq <| J_ret <| Q_then_ret <| J_pick (A := coA p _) PC <| J_asTo (B := coA p (kAct s i 0).1) (by rw [hka]) <| J_return (0) Tryz.results71 (.tmp Z (.tmp Z (.tmp Z .nil))) ?_ ?_
  · rw [hka]; rfl
  · exact SU
  obtain ⟨T, hT⟩ : ∃ x, kOwner s i.1 = some x := by
    cases hq : kOwner s i.1 with
    | none => rw [hq] at h28; simp at h28
    | some y => exact ⟨y, rfl⟩
  have hka : ∀ b, kAct s i b = kDoes s T q i b := fun b => by unfold kAct; rw [hq]; dsimp only; rw [hT]
  refine J_skip <| qx <| mv Z Z <| L_val Z (v_loadA Z ty213 HS CT) <| L_val Z (v_loadA Z ty122 HS CT) <| L_val Z (v_loadA Z ty36 HS CT) <| L_pur Z (bld279 (.cons Z (.cons Z (.cons Z (.cons Z .nil)))) (by repeat constructor)) <| L_op <| x_box Z Z Z fun b34 => J_pick (A := blk b34 _ _) PC <| J_asTo (B := actA b34 p T q i) (by rw [hT]; rfl) <| xo fc118 (A1 Z) Z (hD q T hq _ _ _ b34 p PX) fun x36 => L_op <| x_alloc ty276 Z fun b10 => L_op <| x_store Z Z ty276 Z SM SM RO PT <| nxx <| fa Z Z fa276_2 <| L_val Z (v_load Z ty4 HS (by exact rfl)) <| nq <| C_split Z (fun h37 => ?_) (fun h37 => ?_)
  refine sr <| ag Z Z <| ag Z Z <| ag Z Z <| nq <| J_ret <| Q_then_ret <| J_pick (A := coA p _) PC <| J_asTo (B := coA p (kAct s i x36).1) (by rw [hka]) <| J_return (x36) Tryz.results71 (.tmp Z (.tmp Z (.tmp Z .nil))) ?_ ?_
  · rw [hka]; cases ho : (kDoes s T q i x36).2 with
    | none => rfl
    | some y => rw [ho] at h37; cases h37
  · exact SU
  refine J_skip <| Q_then <| J_seq <| J_drawS mixed (by kernel_rfl) <| sp Z (p_fieldAddr Z fa276_0) <| S_val Z (v_load Z ty3 HS (by exact rfl)) <| sp Z (p_fieldAddr Z fa276_1) <| S_val Z (v_load Z ty22 HS (by exact rfl)) <| sp Z (p_assign Z) <| sp Z (p_assign Z) <| sp Z (p_assign Z) <| sq <| J_ret <| J_pick (A := coA p _) PC <| J_asTo (B := coA p (kAct s i x36).1) (by rw [hka]) <| J_return (x36) Tryz.results71 (.tmp Z (.tmp Z (.tmp Z .nil))) ?_ ?_
  · rw [hka]; cases ho : (kDoes s T q i x36).2 with
    | none => rw [ho] at h37; cases h37
    | some y => rfl
  · exact SU
  refine x_alloc ty122 Z fun b7 => i1 1 Z <| xc fc16 (A1 Z) Z (coReqs) fun _ => i1 3 Z <| xc fc69 (A2 Z Z) Z (coRqGet (s := s) (i := i) PC) fun _ => ip 4 Z Z Z Z (p_move Z) <| ip 5 Z Z Z Z (p_extract Z Z) <| ip 6 Z Z Z Z (p_extract Z Z) <| i1 8 Z <| x_store Z Z ty122 Z SM SM RO PT <| ip 9 Z Z Z Z (p_assign Z) <| i0 <| Q_then <| J_seq <| sr <| mv Z Z <| L_pur Z (p_not Z) <| nq <| C_split Z (fun h19 => ?_) (fun h19 => ?_)
  have hq : look s.rt i = none := by
    cases hq : look s.rt i with
    | none => rfl
    | some y => rw [hq] at h19; simp at h19
  have hka : ∀ b, kAct s i b = (s, none) := fun b => by unfold kAct; rw [hq]
  refine sr <| ag Z Z <| ag Z Z <| ag Z Z <| nq <| J_ret <| Q_then_ret <| J_pick (A := coA p _) PC <| J_asTo (B := coA p (kAct s i 0).1) (by rw [hka]) <| J_return (0) Tryz.results71 (.tmp Z (.tmp Z (.tmp Z .nil))) ?_ ?_
  · rw [hka]; rfl
  · exact SU
  obtain ⟨q, hq⟩ : ∃ x, look s.rt i = some x := by
    cases hq : look s.rt i with
    | none => rw [hq] at h19; simp at h19
    | some y => exact ⟨y, rfl⟩
  refine J_pick (A := blk b7 _ _) PC <| J_asTo (B := blk b7 122 (encQ q)) (by rw [hq]; rfl) <| J_skip <| qx <| mv Z Z <| fa Z Z fa36_0 <| L_val Z (v_load Z ty3 HS (by exact rfl)) <| xo fc117 (A2 Z Z) Z (coOwner (s := s) (r := i.1) PC) fun x24 => J_pure fun hO => ?_
  obtain rfl := hG.own _ _ hO
  refine mv Z Z <| L_pur Z (p_extract Z Z) <| L_pur Z (p_extract Z Z) <| L_op <| x_alloc ty213 Z fun b9 => L_op <| x_store Z Z ty213 Z SM SM RO PT <| ag Z Z <| nxx <| mv Z Z <| L_pur Z (p_not Z) <| nq <| C_split Z (fun h28 => ?_) (fun h28 => ?_)
  have hT : kOwner s i.1 = none := by
    cases hq : kOwner s i.1 with
    | none => rfl
    | some y => rw [hq] at h28; simp at h28
  have hka : ∀ b, kAct s i b = (s, failO 11) := fun b => by unfold kAct; rw [hq]; dsimp only; rw [hT]
  refine sr <| ag Z Z <| ag Z Z <| ag Z Z <| nq <| J_ret <| Q_then_ret <| J_pick (A := coA p _) PC <| J_asTo (B := coA p (kAct s i 0).1) (by rw [hka]) <| J_return (0) Tryz.results71 (.tmp Z (.tmp Z (.tmp Z .nil))) ?_ ?_
  · rw [hka]; rfl
  · exact SU
  obtain ⟨T, hT⟩ : ∃ x, kOwner s i.1 = some x := by
    cases hq : kOwner s i.1 with
    | none => rw [hq] at h28; simp at h28
    | some y => exact ⟨y, rfl⟩
  have hka : ∀ b, kAct s i b = kDoes s T q i b := fun b => by unfold kAct; rw [hq]; dsimp only; rw [hT]
  refine J_skip <| qx <| mv Z Z <| L_val Z (v_loadA Z ty213 HS CT) <| L_val Z (v_loadA Z ty122 HS CT) <| L_val Z (v_loadA Z ty36 HS CT) <| L_pur Z (bld279 (.cons Z (.cons Z (.cons Z (.cons Z .nil)))) (by repeat constructor)) <| L_op <| x_box Z Z Z fun b34 => J_pick (A := blk b34 _ _) PC <| J_asTo (B := actA b34 p T q i) (by rw [hT]; rfl) <| xo fc118 (A1 Z) Z (hD q T hq _ _ _ b34 p PX) fun x36 => L_op <| x_alloc ty276 Z fun b10 => L_op <| x_store Z Z ty276 Z SM SM RO PT <| nxx <| fa Z Z fa276_2 <| L_val Z (v_load Z ty4 HS (by exact rfl)) <| nq <| C_split Z (fun h37 => ?_) (fun h37 => ?_)
  refine sr <| ag Z Z <| ag Z Z <| ag Z Z <| nq <| J_ret <| Q_then_ret <| J_pick (A := coA p _) PC <| J_asTo (B := coA p (kAct s i x36).1) (by rw [hka]) <| J_return (x36) Tryz.results71 (.tmp Z (.tmp Z (.tmp Z .nil))) ?_ ?_
  · rw [hka]; cases ho : (kDoes s T q i x36).2 with
    | none => rfl
    | some y => rw [ho] at h37; cases h37
  · exact SU
  refine J_skip <| Q_then <| J_seq <| J_drawS mixed (by kernel_rfl) <| sp Z (p_fieldAddr Z fa276_0) <| S_val Z (v_load Z ty3 HS (by exact rfl)) <| sp Z (p_fieldAddr Z fa276_1) <| S_val Z (v_load Z ty22 HS (by exact rfl)) <| sp Z (p_assign Z) <| sp Z (p_assign Z) <| sp Z (p_assign Z) <| sq <| J_ret <| J_pick (A := coA p _) PC <| J_asTo (B := coA p (kAct s i x36).1) (by rw [hka]) <| J_return (x36) Tryz.results71 (.tmp Z (.tmp Z (.tmp Z .nil))) ?_ ?_
  · rw [hka]; cases ho : (kDoes s T q i x36).2 with
    | none => rw [ho] at h37; cases h37
    | some y => rfl
  · exact SU
end Go.Pse
