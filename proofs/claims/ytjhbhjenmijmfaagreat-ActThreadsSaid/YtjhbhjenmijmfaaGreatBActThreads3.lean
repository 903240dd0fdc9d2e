/-
  Own texts, merged: C24, C25, C26, C27, C28, C29, C30, C31, C32, C33, C34, InvP, C50, C14, C51, C52, C53, C54, C55, C56, C57.
-/
import Derived.Test.YtjhbhjenmijmfaaGreatBActThreads2
import Derived.Test.YtjhbhjenmijmfaaGreatBActThreads0
namespace Go.Pse
open Go.RowKit Go.Proofs
/-! ### plain: one object of the state is changed, all of them, those below a unit -/
section
variable {α : Type}
def updO (xs : List (Int × Nat × α)) (u : Int) (f : α → α) : List (Int × Nat × α) := xs.map fun x => if x.1 = u then (x.1, x.2.1, f x.2.2) else x
def mapTo (f : α → α) (k : Int) (xs : List (Int × Nat × α)) : List (Int × Nat × α) := xs.map fun x => if x.1 < k then (x.1, x.2.1, f x.2.2) else x
def allO (f : α → α) (xs : List (Int × Nat × α)) : List (Int × Nat × α) := xs.map fun x => (x.1, x.2.1, f x.2.2)
variable {xs : List (Int × Nat × α)} {u k : Int} {f : α → α}
theorem ptrs_updO : ptrs (updO xs u f) = ptrs xs := by
  unfold ptrs updO; rw [List.map_map]; refine List.map_congr_left fun x _ => ?_
  simp only [Function.comp]; split <;> rfl
theorem ptrs_mapTo : ptrs (mapTo f k xs) = ptrs xs := by
  unfold ptrs mapTo; rw [List.map_map]; refine List.map_congr_left fun x _ => ?_
  simp only [Function.comp]; split <;> rfl
theorem look_ptrs : ∀ {xs : List (Int × Nat × α)}, look (ptrs xs) u = (look xs u).map Prod.fst
  | [] => rfl
  | x :: xs => by
    show look ((x.1, x.2.1) :: ptrs xs) u = _
    rw [look_cons, look_cons, look_ptrs (xs := xs)]
    split <;> rfl
theorem look_got {b : Nat} (h : look (ptrs xs) u = some b) : ∃ a, look xs u = some (b, a) := by
  rw [look_ptrs] at h
  obtain ⟨⟨b', a⟩, h1, rfl⟩ := Option.map_eq_some_iff.1 h
  exact ⟨a, h1⟩
theorem look_ix {v : Nat × α} (h : look xs u = some v) : ∃ i : Nat, xs[i]? = some (u, v) := List.getElem?_of_mem (mem_look h)
theorem updO_set {i b : Nat} {a : α} (hK : Keyd (ptrs xs)) (hi : xs[i]? = some (u, b, a)) : updO xs u f = xs.set i (u, b, f a) := by
  have hl := (List.getElem?_eq_some_iff.1 hi).1
  refine List.ext_getElem? fun j => ?_
  unfold updO
  rw [List.getElem?_map, List.getElem?_set]
  by_cases hij : i = j
  · subst hij
    rw [hi, if_pos rfl, if_pos hl]; simp
  · rw [if_neg hij]
    cases hj : xs[j]? with
    | none => rfl
    | some x =>
      have : x.1 ≠ u := fun e => hij (by
        have hn : (xs.map Prod.fst).Nodup := by
          have e2 : (ptrs xs).map Prod.fst = xs.map Prod.fst := by unfold ptrs; rw [List.map_map]; rfl
          have hK' := hK
          unfold Keyd at hK'
          rw [e2] at hK'
          exact hK'
        exact nodup_idx hn (by rw [List.getElem?_map, hi]; rfl) (by rw [List.getElem?_map, hj]; exact congrArg some e))
      simp [this]
theorem mapTo_up : updO (mapTo f k xs) k f = mapTo f (k + 1) xs := by
  unfold updO mapTo
  rw [List.map_map]
  refine List.map_congr_left fun x _ => ?_
  simp only [Function.comp]
  by_cases h1 : x.1 < k
  · rw [if_pos h1, if_neg (by show ¬ x.1 = k; omega), if_pos (by omega)]
  · rw [if_neg h1]
    by_cases h2 : x.1 = k
    · rw [if_pos h2, if_pos (by omega)]
    · rw [if_neg h2, if_neg (by omega)]
theorem mapTo_no (h : look (ptrs xs) k = none) : mapTo f k xs = mapTo f (k + 1) xs := by
  unfold mapTo
  refine List.map_congr_left fun x hx => ?_
  have : x.1 ≠ k := fun e => look_none_iff.1 h (List.mem_map.2 ⟨(x.1, x.2.1), List.mem_map.2 ⟨x, hx, rfl⟩, e⟩)
  by_cases h1 : x.1 < k
  · rw [if_pos h1, if_pos (by omega)]
  · rw [if_neg h1, if_neg (by omega)]
theorem mapTo_one (h : ∀ x ∈ xs, 1 ≤ x.1 ∧ x.1 ≤ 64) : mapTo f 1 xs = xs := by
  unfold mapTo
  conv => rhs; rw [← List.map_id xs]
  refine List.map_congr_left fun x hx => ?_
  rw [if_neg (by have := h x hx; omega)]; rfl
theorem mapTo_all (h : ∀ x ∈ xs, 1 ≤ x.1 ∧ x.1 ≤ 64) : mapTo f 65 xs = allO f xs := by
  unfold mapTo allO
  refine List.map_congr_left fun x hx => ?_
  rw [if_pos (by have := h x hx; omega)]
theorem updO_mem {x : Int × Nat × α} (h : x ∈ updO xs u f) : ∃ y ∈ xs, x.1 = y.1 ∧ (x.2.2 = y.2.2 ∨ x.2.2 = f y.2.2) := by
  obtain ⟨y, hy, rfl⟩ := List.mem_map.1 h
  refine ⟨y, hy, ?_⟩
  split
  · exact ⟨rfl, .inr rfl⟩
  · exact ⟨rfl, .inl rfl⟩
theorem mapTo_mem {x : Int × Nat × α} (h : x ∈ mapTo f k xs) : ∃ y ∈ xs, x.1 = y.1 ∧ (x.2.2 = y.2.2 ∨ x.2.2 = f y.2.2) := by
  obtain ⟨y, hy, rfl⟩ := List.mem_map.1 h
  refine ⟨y, hy, ?_⟩
  split
  · exact ⟨rfl, .inr rfl⟩
  · exact ⟨rfl, .inl rfl⟩
end
def epD (i : ID) (a : List Msg × List Rcv) : List Msg × List Rcv := (mdrop a.1 i, rdrop a.2 i)
def ntD (i : ID) (a : Int × List ID) : Int × List ID := (a.1, ldrop a.2 i)
def rpD (i : ID) (a : ID × Bool) : ID × Bool := cDrop a i
def ntS (x : Int) (a : Int × List ID) : Int × List ID := (sigW a.1 a.2 x, sigL a.1 a.2 x)
/-- What holds of every state: how long lists are, where objects lie; N for those that wait, M for what is decided. -/
structure Fits (s : KS) (N M : Nat) : Prop where
  n : N ≤ 90000
  mm : M ≤ 90000
  ids : Ids s.rt
  jn : s.jn.length + s.rt.length ≤ M
  tm : s.tm.length ≤ N
  ep : ∀ x ∈ s.ep, (1 ≤ x.1 ∧ x.1 ≤ 64) ∧ x.2.2.1.length ≤ N ∧ x.2.2.2.length ≤ N
  nt : ∀ x ∈ s.nt, (1 ≤ x.1 ∧ x.1 ≤ 64) ∧ x.2.2.2.length ≤ N
  rp : ∀ x ∈ s.rp, 1 ≤ x.1 ∧ x.1 ≤ 64
  rg : ∀ x ∈ s.rg, RgOk x.2.2 ∧ x.2.2.over.length + s.rt.length ≤ M
  mem : MemOk s.mem
def forTo (s : KS) (i : ID) (k : Int) : KS := { s with tm := tdrop s.tm i, ep := mapTo (epD i) k s.ep, nt := mapTo (ntD i) k s.nt, rp := mapTo (rpD i) k s.rp }
/-- A request waits nowhere any more. -/
def kForget (s : KS) (i : ID) : KS := { s with tm := tdrop s.tm i, ep := allO (epD i) s.ep, nt := allO (ntD i) s.nt, rp := allO (rpD i) s.rp }
theorem forTo_one {s : KS} {N M : Nat} (h : Fits s N M) (i : ID) : forTo s i 1 = { s with tm := tdrop s.tm i } := by
  unfold forTo
  rw [mapTo_one fun x hx => (h.ep x hx).1, mapTo_one fun x hx => (h.nt x hx).1, mapTo_one h.rp]
theorem forTo_all {s : KS} {N M : Nat} (h : Fits s N M) (i : ID) : forTo s i 65 = kForget s i := by
  unfold forTo kForget
  rw [mapTo_all fun x hx => (h.ep x hx).1, mapTo_all fun x hx => (h.nt x hx).1, mapTo_all h.rp]
theorem Fits.forTo {s : KS} {N M : Nat} (h : Fits s N M) (i : ID) (k : Int) : Fits (forTo s i k) N M where
  n := h.n
  mm := h.mm
  ids := h.ids
  jn := h.jn
  tm := Nat.le_trans (List.length_filter_le _ _) h.tm
  ep := fun x hx => by
    obtain ⟨y, hy, h1, h2⟩ := mapTo_mem hx
    obtain ⟨g1, g2, g3⟩ := h.ep y hy
    rw [h1]
    rcases h2 with h2 | h2 <;> rw [h2]
    · exact ⟨g1, g2, g3⟩
    · exact ⟨g1, Nat.le_trans (List.length_filter_le _ _) g2, Nat.le_trans (List.length_filter_le _ _) g3⟩
  nt := fun x hx => by
    obtain ⟨y, hy, h1, h2⟩ := mapTo_mem hx
    obtain ⟨g1, g2⟩ := h.nt y hy
    rw [h1]
    rcases h2 with h2 | h2 <;> rw [h2]
    · exact ⟨g1, g2⟩
    · exact ⟨g1, Nat.le_trans (ldrop_len _ _) g2⟩
  rp := fun x hx => by
    obtain ⟨y, hy, h1, h2⟩ := mapTo_mem hx
    rw [h1]; exact h.rp y hy
  rg := h.rg
  mem := h.mem
theorem Fits.forget {s : KS} {N M : Nat} (h : Fits s N M) (i : ID) : Fits (kForget s i) N M := by rw [← forTo_all h]; exact h.forTo i 65
theorem Fits.jnl {s : KS} {N M : Nat} (h : Fits s N M) (hm : M + 1 ≤ 90000) (d : Deed) : Fits { s with jn := s.jn ++ [d] } N (M + 1) :=
  ⟨h.n, hm, h.ids, by have := h.jn; simp; omega, h.tm, h.ep, h.nt, h.rp, fun x hx => by have := h.rg x hx; exact ⟨this.1, by have := this.2; show _ + s.rt.length ≤ _; omega⟩, h.mem⟩
theorem del_less {κ υ : Type} [DecidableEq κ] {ps : List (κ × υ)} {i : κ} {q : υ} (h : look ps i = some q) : (del ps i).length + 1 ≤ ps.length := by
  have := List.length_filter_lt_length_iff_exists (p := fun p : κ × υ => !decide (p.1 = i)) (l := ps) |>.2 ⟨(i, q), mem_look h, by simp⟩
  unfold del; omega
theorem Fits.drop {s : KS} {N M : Nat} (h : Fits s N (M + 1)) {i : ID} {q : Rq} (hq : look s.rt i = some q) : Fits { s with rt := del s.rt i } N M := by
  have hl := del_less hq
  exact ⟨h.n, by have := h.mm; omega, h.ids.del i, by have := h.jn; show s.jn.length + (del s.rt i).length ≤ M; omega, h.tm, h.ep, h.nt, h.rp, fun x hx => ⟨(h.rg x hx).1, by have := (h.rg x hx).2; show _ + (del s.rt i).length ≤ M; omega⟩, h.mem⟩
theorem Fits.rgUp {s : KS} {N M : Nat} (h : Fits s N M) (hm : M + 1 ≤ 90000) (u : Int) (r0 : Rg) (h0 : RgOk r0) (c : Cqe) : Fits { s with rg := updO s.rg u (fun r => postR r s.mem c), mem := postM r0 s.mem c } N (M + 1) :=
  ⟨h.n, hm, h.ids, by have := h.jn; show s.jn.length + s.rt.length ≤ _; omega, h.tm, h.ep, h.nt, h.rp, fun x hx => by
    obtain ⟨y, hy, h1, h2⟩ := updO_mem (show x ∈ updO s.rg u (fun r => postR r s.mem c) from hx)
    obtain ⟨g1, g2⟩ := h.rg y hy
    rcases h2 with h2 | h2 <;> rw [h2]
    · exact ⟨g1, by show _ + s.rt.length ≤ _; omega⟩
    · refine ⟨postR_ok g1 c, ?_⟩
      have : (postR y.2.2 s.mem c).over.length ≤ y.2.2.over.length + 1 := by unfold postR; split <;> simp [Go.Pse.rgUp]
      show _ + s.rt.length ≤ _
      omega, postM_ok h0 h.mem c⟩
theorem Fits.sig {s : KS} {N M : Nat} (h : Fits s N M) (u x : Int) : Fits { s with nt := updO s.nt u (ntS x) } N M :=
  ⟨h.n, h.mm, h.ids, h.jn, h.tm, h.ep, fun z hz => by
    obtain ⟨y, hy, h1, h2⟩ := updO_mem (show z ∈ updO s.nt u (ntS x) from hz)
    obtain ⟨g1, g2⟩ := h.nt y hy
    rw [h1]
    rcases h2 with h2 | h2 <;> rw [h2]
    · exact ⟨g1, g2⟩
    · exact ⟨g1, Nat.le_trans (sigL_len _ _ _) g2⟩, h.rp, h.rg, h.mem⟩
theorem J_keyd {κ υ : Type} [DecidableEq κ] {ek : κ → Value} {ev : υ → Value} {E : World} {l : List As} {n : Nat} {F : Env} {K : Act → World → Prop} {b : Nat} {ps : List (κ × υ)} (hh : Has (mapV ek ev (.map (some b)) ps) l) (k : Keyd ps → Jk E l n F K) : Jk E l n F K :=
  J_mapV hh (fun h _ => by cases h) (fun _ _ hk => k hk)
theorem coRqGet {E : World} {l m : List As} {p : Nat} {s : KS} (hp : Pick (coA p s) l m) {i : ID} :
    Con Tryz.prog 51 #[.pointer (some ⟨p, 10, none⟩), .agg (encI i).toArray] E l (fun _ : Unit => .tuple #[evQ ((look s.rt i).getD q00), .bool (look s.rt i).isSome]) (fun _ => coA p s :: m) := fun w H => by
  refine (?_ : Jk E l 0 [] fun _ w => Calls Tryz.prog 51 #[.pointer (some ⟨p, 10, none⟩), .agg (encI i).toArray] w fun e w' => ∃ x, e = .returned ((fun _ : Unit => .tuple #[evQ ((look s.rt i).getD q00), .bool (look s.rt i).isSome]) x) ∧ Sep E w' ((fun _ : Unit => coA p s :: m) x)) w _ H fr0
  refine J_pick hp <| J_coO fun bn be br bg bt bs bp bl bk _ => J_con (rtGetC (ps := s.rt) (i := i) PC) fun x => ?_
  refine J_coS (p := p) (s := s) bn be br bg bt bs bp bl bk PX trivial ?_
  exact J_end SU
theorem coRqDrop {E : World} {l m : List As} {p : Nat} {s : KS} (hp : Pick (coA p s) l m) {i : ID} :
    Con Tryz.prog 87 #[.pointer (some ⟨p, 10, none⟩), .agg (encI i).toArray] E l (fun _ : Unit => .bool (look s.rt i).isSome) (fun _ => coA p { s with rt := del s.rt i } :: m) := fun w H => by
  refine (?_ : Jk E l 0 [] fun _ w => Calls Tryz.prog 87 #[.pointer (some ⟨p, 10, none⟩), .agg (encI i).toArray] w fun e w' => ∃ x, e = .returned ((fun _ : Unit => .bool (look s.rt i).isSome) x) ∧ Sep E w' ((fun _ : Unit => coA p { s with rt := del s.rt i } :: m) x)) w _ H fr0
  refine J_pick hp <| J_coO fun bn be br bg bt bs bp bl bk _ => J_con (rtDropC (ps := s.rt) (i := i) PC) fun x => ?_
  refine J_coS (p := p) (s := { s with rt := del s.rt i }) bn be br bg bt bs bp bl bk PX trivial ?_
  exact J_end SU
theorem coRqAfter {E : World} {l m : List As} {p : Nat} {s : KS} (hp : Pick (coA p s) l m) {i : ID} (hI : Ids s.rt) (hb : s.rt.length ≤ 100000) :
    Con Tryz.prog 90 #[.pointer (some ⟨p, 10, none⟩), .agg (encI i).toArray] E l (fun _ : Unit => .tuple #[evQ ((afterQ s.rt i).getD q00), .bool (afterQ s.rt i).isSome]) (fun _ => coA p s :: m) := fun w H => by
  refine (?_ : Jk E l 0 [] fun _ w => Calls Tryz.prog 90 #[.pointer (some ⟨p, 10, none⟩), .agg (encI i).toArray] w fun e w' => ∃ x, e = .returned ((fun _ : Unit => .tuple #[evQ ((afterQ s.rt i).getD q00), .bool (afterQ s.rt i).isSome]) x) ∧ Sep E w' ((fun _ : Unit => coA p s :: m) x)) w _ H fr0
  refine J_pick hp <| J_coO fun bn be br bg bt bs bp bl bk _ => J_con (rtAfterC (ps := s.rt) (i := i) PC hI hb) fun x => ?_
  refine J_coS (p := p) (s := s) bn be br bg bt bs bp bl bk PX trivial ?_
  exact J_end SU
theorem coRqOf {E : World} {l m : List As} {p : Nat} {s : KS} (hp : Pick (coA p s) l m) {g : Int} (hI : Ids s.rt) (hb : s.rt.length ≤ 100000) :
    Con Tryz.prog 26 #[.pointer (some ⟨p, 10, none⟩), .int .i64 g] E l (fun x : Value => x) (fun x => row 104 13 x ((ofQ s.rt g).map encQ) :: coA p s :: m) := fun w H => by
  refine (?_ : Jk E l 0 [] fun _ w => Calls Tryz.prog 26 #[.pointer (some ⟨p, 10, none⟩), .int .i64 g] w fun e w' => ∃ x, e = .returned ((fun x : Value => x) x) ∧ Sep E w' ((fun x : Value => row 104 13 x ((ofQ s.rt g).map encQ) :: coA p s :: m) x)) w _ H fr0
  refine J_pick hp <| J_coO fun bn be br bg bt bs bp bl bk _ => J_con (rtOf (ps := s.rt) (g := g) PC hI hb) fun x => ?_
  refine J_coS (p := p) (s := s) bn be br bg bt bs bp bl bk PX trivial ?_
  exact J_end SU
theorem coRqAdd {E : World} {l m : List As} {p : Nat} {s : KS} (hp : Pick (coA p s) l m) {q : Rq} (hI : Ids s.rt) (hb : s.rt.length ≤ 100000) :
    Con Tryz.prog 45 #[.pointer (some ⟨p, 10, none⟩), .agg (encQ q).toArray] E l (fun _ : Unit => .bool (addOk s.rt q)) (fun _ => coA p { s with rt := addQ s.rt q } :: m) := fun w H => by
  refine (?_ : Jk E l 0 [] fun _ w => Calls Tryz.prog 45 #[.pointer (some ⟨p, 10, none⟩), .agg (encQ q).toArray] w fun e w' => ∃ x, e = .returned ((fun _ : Unit => .bool (addOk s.rt q)) x) ∧ Sep E w' ((fun _ : Unit => coA p { s with rt := addQ s.rt q } :: m) x)) w _ H fr0
  refine J_pick hp <| J_coO fun bn be br bg bt bs bp bl bk _ => J_con (rtAddC (ps := s.rt) (q := q) PC hI hb) fun x => ?_
  refine J_coS (p := p) (s := { s with rt := addQ s.rt q }) bn be br bg bt bs bp bl bk PX trivial ?_
  exact J_end SU
theorem coJAdd {E : World} {l m : List As} {p : Nat} {s : KS} (hp : Pick (coA p s) l m) {d : Deed} (hb : s.jn.length ≤ 200000) :
    Con Tryz.prog 134 #[.pointer (some ⟨p, 12, none⟩), .agg (encD d).toArray] E l (fun _ : Unit => .tuple #[]) (fun _ => coA p { s with jn := s.jn ++ [d] } :: m) := fun w H => by
  refine (?_ : Jk E l 0 [] fun _ w => Calls Tryz.prog 134 #[.pointer (some ⟨p, 12, none⟩), .agg (encD d).toArray] w fun e w' => ∃ x, e = .returned ((fun _ : Unit => .tuple #[]) x) ∧ Sep E w' ((fun _ : Unit => coA p { s with jn := s.jn ++ [d] } :: m) x)) w _ H fr0
  refine J_pick hp <| J_coO fun bn be br bg bt bs bp bl bk _ => J_con (jnlAdd (xs := s.jn) (d := d) PC hb) fun x => ?_
  refine J_coS (p := p) (s := { s with jn := s.jn ++ [d] }) bn be br bg bt bs bp bl bk PX trivial ?_
  exact J_end SU
theorem coJAll {E : World} {l m : List As} {p : Nat} {s : KS} (hp : Pick (coA p s) l m) (hb : s.jn.length ≤ 200000) :
    Con Tryz.prog 18 #[.pointer (some ⟨p, 12, none⟩)] E l (fun x : Value => x) (fun x => row 41 7 x (s.jn.map encD) :: coA p s :: m) := fun w H => by
  refine (?_ : Jk E l 0 [] fun _ w => Calls Tryz.prog 18 #[.pointer (some ⟨p, 12, none⟩)] w fun e w' => ∃ x, e = .returned ((fun x : Value => x) x) ∧ Sep E w' ((fun x : Value => row 41 7 x (s.jn.map encD) :: coA p s :: m) x)) w _ H fr0
  refine J_pick hp <| J_coO fun bn be br bg bt bs bp bl bk _ => J_con (jnlAll (xs := s.jn) PC hb) fun x => ?_
  refine J_coS (p := p) (s := s) bn be br bg bt bs bp bl bk PX trivial ?_
  exact J_end SU
theorem coTmDrop {E : World} {l m : List As} {p : Nat} {s : KS} (hp : Pick (coA p s) l m) {i : ID} (hb : s.tm.length ≤ 100000) :
    Con Tryz.prog 130 #[.pointer (some ⟨p, 11, none⟩), .agg (encI i).toArray] E l (fun _ : Unit => .bool (decide ((tdrop s.tm i).length < s.tm.length))) (fun _ => coA p { s with tm := tdrop s.tm i } :: m) := fun w H => by
  refine (?_ : Jk E l 0 [] fun _ w => Calls Tryz.prog 130 #[.pointer (some ⟨p, 11, none⟩), .agg (encI i).toArray] w fun e w' => ∃ x, e = .returned ((fun _ : Unit => .bool (decide ((tdrop s.tm i).length < s.tm.length))) x) ∧ Sep E w' ((fun _ : Unit => coA p { s with tm := tdrop s.tm i } :: m) x)) w _ H fr0
  refine J_pick hp <| J_coO fun bn be br bg bt bs bp bl bk _ => J_con (tmrDropC (xs := s.tm) (i := i) PC hb) fun x => ?_
  refine J_coS (p := p) (s := { s with tm := tdrop s.tm i }) bn be br bg bt bs bp bl bk PX trivial ?_
  exact J_end SU
set_option maxHeartbeats 4000000 in
theorem coEpDrop {E : World} {l m : List As} {p : Nat} {s : KS} (hp : Pick (coA p s) l m) {u : Int} {b : Nat} {out : List Msg} {inn : List Rcv} (hl : look s.ep u = some (b, out, inn)) (hbo : out.length ≤ 100000) (hbi : inn.length ≤ 100000) {i : ID} :
  Con Tryz.prog 131 #[.pointer (some ⟨b, 0, none⟩), .agg (encI i).toArray] E l (fun _ : Unit => .bool (decide ((mdrop out i).length + (rdrop inn i).length < out.length + inn.length))) (fun _ => coA p { s with ep := updO s.ep u (epD i) } :: m) := fun w H => by
 refine (?_ : Jk E l 0 [] fun _ w => Calls Tryz.prog 131 #[.pointer (some ⟨b, 0, none⟩), .agg (encI i).toArray] w fun e w' => ∃ x, e = .returned ((fun _ : Unit => .bool (decide ((mdrop out i).length + (rdrop inn i).length < out.length + inn.length))) x) ∧ Sep E w' ((fun _ : Unit => coA p { s with ep := updO s.ep u (epD i) } :: m) x)) w _ H fr0
 obtain ⟨j, hj⟩ := look_ix hl
 have hjl := (List.getElem?_eq_some_iff.1 hj).1
 refine J_pick hp <| J_coO fun bn be br bg bt bs bp bl bk _ => J_keyd (ps := ptrs s.ep) HS fun hK => ?_
 refine J_pick (A := each epF s.ep) PC ?_
 refine J_eachOut hj ?_
 skip
 refine J_asTo (B := epA b out inn) (by rfl) <| J_con (epDropC (out := out) (inn := inn) (i := i) PC hbo hbi) fun x => ?_
 refine J_pick (A := epA b (mdrop out i) (rdrop inn i)) PC ?_
 refine J_asTo (B := epF (u, b, ((epD i)) (out, inn))) (by rfl) <| J_pick (A := each epF _) PC ?_
 refine J_pick (A := epF (u, b, _)) PC ?_
 refine J_eachIn (u, b, ((epD i)) (out, inn)) hjl ?_
 skip
 refine J_asTo (B := each epF (updO s.ep u (epD i))) (by rw [updO_set hK hj]) <| J_pick (A := mapV kZ evA (.map (some be)) (ptrs s.ep)) PC ?_
 refine J_mapEq (qs := ptrs (updO s.ep u (epD i))) ptrs_updO.symm <| J_coS (p := p) (s := { s with ep := updO s.ep u (epD i) }) bn be br bg bt bs bp bl bk PX trivial ?_
 exact J_end SU
set_option maxHeartbeats 4000000 in
theorem coNtDrop {E : World} {l m : List As} {p : Nat} {s : KS} (hp : Pick (coA p s) l m) {u : Int} {b : Nat} {w0 : Int} {xs : List ID} (hl : look s.nt u = some (b, w0, xs)) (hb : xs.length ≤ 100000) {i : ID} :
  Con Tryz.prog 132 #[.pointer (some ⟨b, 0, none⟩), .agg (encI i).toArray] E l (fun _ : Unit => .bool (decide (i ∈ xs))) (fun _ => coA p { s with nt := updO s.nt u (ntD i) } :: m) := fun w H => by
 refine (?_ : Jk E l 0 [] fun _ w => Calls Tryz.prog 132 #[.pointer (some ⟨b, 0, none⟩), .agg (encI i).toArray] w fun e w' => ∃ x, e = .returned ((fun _ : Unit => .bool (decide (i ∈ xs))) x) ∧ Sep E w' ((fun _ : Unit => coA p { s with nt := updO s.nt u (ntD i) } :: m) x)) w _ H fr0
 obtain ⟨j, hj⟩ := look_ix hl
 have hjl := (List.getElem?_eq_some_iff.1 hj).1
 refine J_pick hp <| J_coO fun bn be br bg bt bs bp bl bk _ => J_keyd (ps := ptrs s.nt) HS fun hK => ?_
 refine J_pick (A := each ntF s.nt) PC ?_
 refine J_eachOut hj ?_
 skip
 refine J_asTo (B := ntA b 0 w0 xs) (by rfl) <| J_con (ntDropC (w := w0) (xs := xs) (i := i) PC hb) fun x => ?_
 refine J_pick (A := ntA b 0 w0 (ldrop xs i)) PC ?_
 refine J_asTo (B := ntF (u, b, ((ntD i)) (w0, xs))) (by rfl) <| J_pick (A := each ntF _) PC ?_
 refine J_pick (A := ntF (u, b, _)) PC ?_
 refine J_eachIn (u, b, ((ntD i)) (w0, xs)) hjl ?_
 skip
 refine J_asTo (B := each ntF (updO s.nt u (ntD i))) (by rw [updO_set hK hj]) <| J_pick (A := mapV kZ evA (.map (some bn)) (ptrs s.nt)) PC ?_
 refine J_mapEq (qs := ptrs (updO s.nt u (ntD i))) ptrs_updO.symm <| J_coS (p := p) (s := { s with nt := updO s.nt u (ntD i) }) bn be br bg bt bs bp bl bk PX trivial ?_
 exact J_end SU
set_option maxHeartbeats 4000000 in
theorem coNtSignal {E : World} {l m : List As} {p : Nat} {s : KS} (hp : Pick (coA p s) l m) {u : Int} {b : Nat} {w0 : Int} {xs : List ID} (hl : look s.nt u = some (b, w0, xs)) (hb : xs.length ≤ 100000) {z : Int} :
  Con Tryz.prog 139 #[.pointer (some ⟨b, 0, none⟩), .int .u32 z] E l (fun _ : Unit => .tuple #[.agg (encI (sigI w0 xs z)).toArray, .int .u32 (sigV w0 xs z), .bool (woke w0 xs z)]) (fun _ => coA p { s with nt := updO s.nt u (ntS z) } :: m) := fun w H => by
 refine (?_ : Jk E l 0 [] fun _ w => Calls Tryz.prog 139 #[.pointer (some ⟨b, 0, none⟩), .int .u32 z] w fun e w' => ∃ x, e = .returned ((fun _ : Unit => .tuple #[.agg (encI (sigI w0 xs z)).toArray, .int .u32 (sigV w0 xs z), .bool (woke w0 xs z)]) x) ∧ Sep E w' ((fun _ : Unit => coA p { s with nt := updO s.nt u (ntS z) } :: m) x)) w _ H fr0
 obtain ⟨j, hj⟩ := look_ix hl
 have hjl := (List.getElem?_eq_some_iff.1 hj).1
 refine J_pick hp <| J_coO fun bn be br bg bt bs bp bl bk _ => J_keyd (ps := ptrs s.nt) HS fun hK => ?_
 refine J_pick (A := each ntF s.nt) PC ?_
 refine J_eachOut hj ?_
 skip
 refine J_asTo (B := ntA b 0 w0 xs) (by rfl) <| J_con (ntSignal (w := w0) (xs := xs) (x := z) PC hb) fun x => ?_
 refine J_pick (A := ntA b 0 (sigW w0 xs z) (sigL w0 xs z)) PC ?_
 refine J_asTo (B := ntF (u, b, ((ntS z)) (w0, xs))) (by rfl) <| J_pick (A := each ntF _) PC ?_
 refine J_pick (A := ntF (u, b, _)) PC ?_
 refine J_eachIn (u, b, ((ntS z)) (w0, xs)) hjl ?_
 skip
 refine J_asTo (B := each ntF (updO s.nt u (ntS z))) (by rw [updO_set hK hj]) <| J_pick (A := mapV kZ evA (.map (some bn)) (ptrs s.nt)) PC ?_
 refine J_mapEq (qs := ptrs (updO s.nt u (ntS z))) ptrs_updO.symm <| J_coS (p := p) (s := { s with nt := updO s.nt u (ntS z) }) bn be br bg bt bs bp bl bk PX trivial ?_
 exact J_end SU
set_option maxHeartbeats 4000000 in
theorem coRpDrop {E : World} {l m : List As} {p : Nat} {s : KS} (hp : Pick (coA p s) l m) {u : Int} {b : Nat} {c : ID × Bool} (hl : look s.rp u = some (b, c)) {i : ID} :
  Con Tryz.prog 133 #[.pointer (some ⟨b, 0, none⟩), .agg (encI i).toArray] E l (fun _ : Unit => .bool (decide (c.2 = true ∧ c.1 = i))) (fun _ => coA p { s with rp := updO s.rp u (rpD i) } :: m) := fun w H => by
 refine (?_ : Jk E l 0 [] fun _ w => Calls Tryz.prog 133 #[.pointer (some ⟨b, 0, none⟩), .agg (encI i).toArray] w fun e w' => ∃ x, e = .returned ((fun _ : Unit => .bool (decide (c.2 = true ∧ c.1 = i))) x) ∧ Sep E w' ((fun _ : Unit => coA p { s with rp := updO s.rp u (rpD i) } :: m) x)) w _ H fr0
 obtain ⟨j, hj⟩ := look_ix hl
 have hjl := (List.getElem?_eq_some_iff.1 hj).1
 refine J_pick hp <| J_coO fun bn be br bg bt bs bp bl bk _ => J_keyd (ps := ptrs s.rp) HS fun hK => ?_
 refine J_pick (A := each rpF s.rp) PC ?_
 refine J_eachOut hj ?_
 skip
 refine J_asTo (B := rpA b c) (by rfl) <| J_con (rpDropC (c := c) (i := i) PC) fun x => ?_
 refine J_pick (A := rpA b (cDrop c i)) PC ?_
 refine J_asTo (B := rpF (u, b, ((rpD i)) (c))) (by rfl) <| J_pick (A := each rpF _) PC ?_
 refine J_pick (A := rpF (u, b, _)) PC ?_
 refine J_eachIn (u, b, ((rpD i)) (c)) hjl ?_
 skip
 refine J_asTo (B := each rpF (updO s.rp u (rpD i))) (by rw [updO_set hK hj]) <| J_pick (A := mapV kZ evA (.map (some br)) (ptrs s.rp)) PC ?_
 refine J_mapEq (qs := ptrs (updO s.rp u (rpD i))) ptrs_updO.symm <| J_coS (p := p) (s := { s with rp := updO s.rp u (rpD i) }) bn be br bg bt bs bp bl bk PX trivial ?_
 exact J_end SU
set_option maxHeartbeats 4000000 in
theorem coPost {E : World} {l m : List As} {p : Nat} {s : KS} (hp : Pick (coA p s) l m) {u : Int} {b : Nat} {r : Rg} {c : Cqe} (hl : look s.rg u = some (b, r)) (hb : r.over.length ≤ 100000) (hR : RgOk r) (hM : MemOk s.mem) :
  Con Tryz.prog 136 #[.pointer (some ⟨b, 0, none⟩), .agg (encX c).toArray] E l (fun _ : Unit => .bool (postOk r s.mem)) (fun _ => coA p { s with rg := updO s.rg u (fun r => postR r s.mem c), mem := postM r s.mem c } :: m) := fun w H => by
 refine (?_ : Jk E l 0 [] fun _ w => Calls Tryz.prog 136 #[.pointer (some ⟨b, 0, none⟩), .agg (encX c).toArray] w fun e w' => ∃ x, e = .returned ((fun _ : Unit => .bool (postOk r s.mem)) x) ∧ Sep E w' ((fun _ : Unit => coA p { s with rg := updO s.rg u (fun r => postR r s.mem c), mem := postM r s.mem c } :: m) x)) w _ H fr0
 obtain ⟨j, hj⟩ := look_ix hl
 have hjl := (List.getElem?_eq_some_iff.1 hj).1
 refine J_pick hp <| J_coO fun bn be br bg bt bs bp bl bk _ => J_keyd (ps := ptrs s.rg) HS fun hK => ?_
 refine J_pick (A := each (rgF s.mb) s.rg) PC ?_
 refine J_eachOut hj ?_
 skip
 refine J_asTo (B := rgA b s.mb r) (by rfl) <| J_con (ringPost (r := r) (ms := s.mem) (c := c) PX hb hR hM) fun x => ?_
 refine J_pick (A := rgA b s.mb (postR r s.mem c)) PC ?_
 refine J_asTo (B := (rgF s.mb) (u, b, ((fun r => postR r s.mem c)) (r))) (by rfl) <| J_pick (A := each (rgF s.mb) _) PC ?_
 refine J_pick (A := (rgF s.mb) (u, b, _)) PC ?_
 refine J_eachIn (u, b, ((fun r => postR r s.mem c)) (r)) hjl ?_
 skip
 refine J_asTo (B := each (rgF s.mb) (updO s.rg u (fun r => postR r s.mem c))) (by rw [updO_set hK hj]) <| J_pick (A := mapV kZ evA (.map (some bg)) (ptrs s.rg)) PC ?_
 refine J_mapEq (qs := ptrs (updO s.rg u (fun r => postR r s.mem c))) ptrs_updO.symm <| J_coS (p := p) (s := { s with rg := updO s.rg u (fun r => postR r s.mem c), mem := postM r s.mem c }) bn be br bg bt bs bp bl bk PX trivial ?_
 exact J_end SU
end Go.Pse
namespace Go.Pse
open Go.RowKit Go.Proofs
set_option maxRecDepth 100000 in
set_option maxHeartbeats 4000000 in
theorem coForget {E : World} {l m : List As}{p : Nat} {s : KS} (hp : Pick (coA p s) l m) {i : ID} {N M : Nat} (hF : Fits s N M) :
  Con Tryz.prog 88 #[.pointer (some ⟨p, 0, none⟩), .agg (encI i).toArray] E l (fun _ : Unit => .tuple #[]) (fun _ => coA p (kForget s i) :: m) := by
 refine Con.body (vs := [.pointer (some ⟨p, 0, none⟩), .agg (encI i).toArray]) (n := 40) Tryz.func88 rfl rfl [(0, .pointer (some ⟨p, 0, none⟩)), (1, .agg (encI i).toArray)] (env_ok 2 rfl) <| J_pick hp <| sr <| L_op <| x_box rfl rfl rfl fun b3 => nq <| J_seq <| J_drawL (some 3) mixed ?_
 refine ip 0 rfl rfl rfl rfl (p_move rfl) <| iv 2 rfl rfl rfl rfl (fun _ => v_loadA rfl ty39 HS CT) ?_
 refine i1 1 rfl <| x_call Tryz.func129 nm129 bd129 (.cons rfl .nil) rfl (coTimers) fun _ => i1 3 rfl <| x_call Tryz.func130 nm130 bd130 (.cons rfl (.cons rfl .nil)) rfl (coTmDrop (s := s) (i := i) PC (by have := hF.tm; have := hF.n; omega)) fun _ => ?_
 refine J_pick (A := coA p _) PC ?_
 refine J_asTo (B := coA p (forTo s i ((1 : Nat) : Int))) (by rw [show ((1 : Nat) : Int) = 1 from rfl, forTo_one hF]) <| i0 <| qx <| ag rfl rfl <| nq <| J_block <| J_loop (α := Nat) (fun k => 1 ≤ k ∧ k ≤ 65) (fun k => coA p (forTo s i (k : Int)) :: blk b3 39 (encI i) :: m) (fun k => [(4, .int .i64 (k : Int)), (0, .pointer (some ⟨p, 0, none⟩)), (3, .pointer (some ⟨b3, 0, none⟩))]) (fun k => 65 - k) 1 (by omega) SU KE ?_
 intro k hk
 refine J_seq <| sr <| mv rfl rfl <| L_pur rfl (p_leq rfl rfl) <| nq ?_
 refine C_dec rfl (fun h13 => ?_) (fun h13 => ?_)
 ·
  have hF2 := hF.forTo i (k : Int)
  have hNN := hF.n
  refine J_skip <| Q_then <| J_seq <| J_block ?_
  refine J_cut (α := Unit) (fun _ : Unit => coA p { forTo s i (k : Int) with ep := mapTo (epD i) ((k : Int) + 1) s.ep } :: blk b3 39 (encI i) :: m) (fun _ : Unit => [(4, .int .i64 (k : Int)), (0, .pointer (some ⟨p, 0, none⟩)), (3, .pointer (some ⟨b3, 0, none⟩))]) ?_ ?_
  ·
   refine sr <| mv rfl rfl <| mv rfl rfl <| L_op <| x_call Tryz.func27 nm27 bd27 (.cons rfl (.cons rfl .nil)) rfl (coEp (s := (forTo s i (k : Int))) (u := (k : Int)) PC) fun _ => ?_
   refine J_slot (t := 18) (v := .pointer ((look (ptrs (KS.ep (forTo s i (k : Int)))) (k : Int)).map fun b => ⟨b, 0, none⟩)) rfl rfl <| ag rfl rfl <| nx <| mv rfl rfl <| L_pur rfl (p_neNilPtr Tryz.underlying57 rfl) <| nq ?_
   refine C_split rfl (fun h20 => ?_) (fun h20 => ?_)
   ·
    obtain ⟨b, hb⟩ : ∃ b, look (ptrs (KS.ep (forTo s i (k : Int)))) (k : Int) = some b := by
     cases hq : look (ptrs (KS.ep (forTo s i (k : Int)))) (k : Int) with
     | none => rw [hq] at h20; simp at h20
     | some b => exact ⟨b, rfl⟩
    obtain ⟨⟨ob1, ob2⟩, hob⟩ := look_got hb
    have hb1 : ob1.length ≤ N := (hF2.ep _ (mem_look hob)).2.1
    have hb2 : ob2.length ≤ N := (hF2.ep _ (mem_look hob)).2.2
    refine J_region <| mv rfl rfl <| J_slot (t := 21) (v := .pointer (some ⟨b, 0, none⟩)) rfl (by rw [hb]; rfl) <| L_val rfl (v_loadA rfl ty39 HS CT) ?_
    refine L_op <| x_call Tryz.func131 nm131 bd131 (.cons rfl (.cons rfl .nil)) rfl (coEpDrop (s := (forTo s i (k : Int))) (u := (k : Int)) PC hob (by omega) (by omega)) fun _ => ?_
    refine nq <| J_pick (A := coA p _) PC ?_
    refine J_asTo (B := coA p { forTo s i (k : Int) with ep := mapTo (epD i) ((k : Int) + 1) s.ep }) (by unfold forTo; simp only [mapTo_up]) ?_
    exact J_at (L := (fun _ : Unit => coA p { forTo s i (k : Int) with ep := mapTo (epD i) ((k : Int) + 1) s.ep } :: blk b3 39 (encI i) :: m)) (G := (fun _ : Unit => [(4, .int .i64 (k : Int)), (0, .pointer (some ⟨p, 0, none⟩)), (3, .pointer (some ⟨b3, 0, none⟩))])) () SU KE
   ·
    have hno : look (ptrs s.ep) (k : Int) = none := by
     rw [← ptrs_mapTo (f := epD i) (k := (k : Int))]
     cases hq : look (ptrs (mapTo (epD i) (k : Int) s.ep)) (k : Int) with
     | none => rfl
     | some b => rw [show look (ptrs (KS.ep (forTo s i (k : Int)))) (k : Int) = _ from hq] at h20; simp at h20
    refine J_skip <| Q_then <| J_pick (A := coA p _) PC ?_
    refine J_asTo (B := coA p { forTo s i (k : Int) with ep := mapTo (epD i) ((k : Int) + 1) s.ep }) (by unfold forTo; simp only [mapTo_no (f := epD i) hno]) ?_
    exact J_at (L := (fun _ : Unit => coA p { forTo s i (k : Int) with ep := mapTo (epD i) ((k : Int) + 1) s.ep } :: blk b3 39 (encI i) :: m)) (G := (fun _ : Unit => [(4, .int .i64 (k : Int)), (0, .pointer (some ⟨p, 0, none⟩)), (3, .pointer (some ⟨b3, 0, none⟩))])) () SU KE
  ·
   intro _
   refine J_cut (α := Unit) (fun _ : Unit => coA p { forTo s i (k : Int) with ep := mapTo (epD i) ((k : Int) + 1) s.ep, nt := mapTo (ntD i) ((k : Int) + 1) s.nt } :: blk b3 39 (encI i) :: m) (fun _ : Unit => [(4, .int .i64 (k : Int)), (0, .pointer (some ⟨p, 0, none⟩)), (3, .pointer (some ⟨b3, 0, none⟩))]) ?_ ?_
   ·
    refine sr <| mv rfl rfl <| mv rfl rfl <| L_op <| x_call Tryz.func36 nm36 bd36 (.cons rfl (.cons rfl .nil)) rfl (coNotif (s := { forTo s i (k : Int) with ep := mapTo (epD i) ((k : Int) + 1) s.ep }) (u := (k : Int)) PC) fun _ => ?_
    refine J_slot (t := 26) (v := .pointer ((look (ptrs (KS.nt { forTo s i (k : Int) with ep := mapTo (epD i) ((k : Int) + 1) s.ep })) (k : Int)).map fun b => ⟨b, 0, none⟩)) rfl rfl <| ag rfl rfl <| nx <| mv rfl rfl <| L_pur rfl (p_neNilPtr Tryz.underlying79 rfl) <| nq ?_
    refine C_split rfl (fun h28 => ?_) (fun h28 => ?_)
    ·
     obtain ⟨b, hb⟩ : ∃ b, look (ptrs (KS.nt { forTo s i (k : Int) with ep := mapTo (epD i) ((k : Int) + 1) s.ep })) (k : Int) = some b := by
      cases hq : look (ptrs (KS.nt { forTo s i (k : Int) with ep := mapTo (epD i) ((k : Int) + 1) s.ep })) (k : Int) with
      | none => rw [hq] at h28; simp at h28
      | some b => exact ⟨b, rfl⟩
     obtain ⟨⟨ob1, ob2⟩, hob⟩ := look_got hb
     have hb2 : ob2.length ≤ N := (hF2.nt _ (mem_look hob)).2
     refine J_region <| mv rfl rfl <| J_slot (t := 29) (v := .pointer (some ⟨b, 0, none⟩)) rfl (by rw [hb]; rfl) <| L_val rfl (v_loadA rfl ty39 HS CT) ?_
     refine L_op <| x_call Tryz.func132 nm132 bd132 (.cons rfl (.cons rfl .nil)) rfl (coNtDrop (s := { forTo s i (k : Int) with ep := mapTo (epD i) ((k : Int) + 1) s.ep }) (u := (k : Int)) PC hob (by omega)) fun _ => ?_
     refine nq <| J_pick (A := coA p _) PC ?_
     refine J_asTo (B := coA p { forTo s i (k : Int) with ep := mapTo (epD i) ((k : Int) + 1) s.ep, nt := mapTo (ntD i) ((k : Int) + 1) s.nt }) (by unfold forTo; simp only [mapTo_up]) ?_
     exact J_at (L := (fun _ : Unit => coA p { forTo s i (k : Int) with ep := mapTo (epD i) ((k : Int) + 1) s.ep, nt := mapTo (ntD i) ((k : Int) + 1) s.nt } :: blk b3 39 (encI i) :: m)) (G := (fun _ : Unit => [(4, .int .i64 (k : Int)), (0, .pointer (some ⟨p, 0, none⟩)), (3, .pointer (some ⟨b3, 0, none⟩))])) () SU KE
    ·
     have hno : look (ptrs s.nt) (k : Int) = none := by
      rw [← ptrs_mapTo (f := ntD i) (k := (k : Int))]
      cases hq : look (ptrs (mapTo (ntD i) (k : Int) s.nt)) (k : Int) with
      | none => rfl
      | some b => rw [show look (ptrs (KS.nt { forTo s i (k : Int) with ep := mapTo (epD i) ((k : Int) + 1) s.ep })) (k : Int) = _ from hq] at h28; simp at h28
     refine J_skip <| Q_then <| J_pick (A := coA p _) PC ?_
     refine J_asTo (B := coA p { forTo s i (k : Int) with ep := mapTo (epD i) ((k : Int) + 1) s.ep, nt := mapTo (ntD i) ((k : Int) + 1) s.nt }) (by unfold forTo; simp only [mapTo_no (f := ntD i) hno]) ?_
     exact J_at (L := (fun _ : Unit => coA p { forTo s i (k : Int) with ep := mapTo (epD i) ((k : Int) + 1) s.ep, nt := mapTo (ntD i) ((k : Int) + 1) s.nt } :: blk b3 39 (encI i) :: m)) (G := (fun _ : Unit => [(4, .int .i64 (k : Int)), (0, .pointer (some ⟨p, 0, none⟩)), (3, .pointer (some ⟨b3, 0, none⟩))])) () SU KE
   ·
    intro _
    refine sr <| mv rfl rfl <| mv rfl rfl <| L_op <| x_call Tryz.func20 nm20 bd20 (.cons rfl (.cons rfl .nil)) rfl (coReply (s := { forTo s i (k : Int) with ep := mapTo (epD i) ((k : Int) + 1) s.ep, nt := mapTo (ntD i) ((k : Int) + 1) s.nt }) (u := (k : Int)) PC) fun _ => ?_
    refine J_slot (t := 34) (v := .pointer ((look (ptrs (KS.rp { forTo s i (k : Int) with ep := mapTo (epD i) ((k : Int) + 1) s.ep, nt := mapTo (ntD i) ((k : Int) + 1) s.nt })) (k : Int)).map fun b => ⟨b, 0, none⟩)) rfl rfl <| ag rfl rfl <| nx <| mv rfl rfl <| L_pur rfl (p_neNilPtr Tryz.underlying42 rfl) <| nq ?_
    refine C_split rfl (fun h36 => ?_) (fun h36 => ?_)
    ·
     obtain ⟨b, hb⟩ : ∃ b, look (ptrs (KS.rp { forTo s i (k : Int) with ep := mapTo (epD i) ((k : Int) + 1) s.ep, nt := mapTo (ntD i) ((k : Int) + 1) s.nt })) (k : Int) = some b := by
      cases hq : look (ptrs (KS.rp { forTo s i (k : Int) with ep := mapTo (epD i) ((k : Int) + 1) s.ep, nt := mapTo (ntD i) ((k : Int) + 1) s.nt })) (k : Int) with
      | none => rw [hq] at h36; simp at h36
      | some b => exact ⟨b, rfl⟩
     obtain ⟨ob, hob⟩ := look_got hb
     refine J_region <| mv rfl rfl <| J_slot (t := 37) (v := .pointer (some ⟨b, 0, none⟩)) rfl (by rw [hb]; rfl) <| L_val rfl (v_loadA rfl ty39 HS CT) ?_
     refine L_op <| x_call Tryz.func133 nm133 bd133 (.cons rfl (.cons rfl .nil)) rfl (coRpDrop (s := { forTo s i (k : Int) with ep := mapTo (epD i) ((k : Int) + 1) s.ep, nt := mapTo (ntD i) ((k : Int) + 1) s.nt }) (u := (k : Int)) PC hob) fun _ => ?_
     refine L_nil <| Q_blk_normal <| qr <| mv rfl rfl <| L_pur rfl (p_add64 rfl rfl (by omega)) <| ag rfl rfl <| nq <| J_pick (A := coA p _) PC ?_
     refine J_asTo (B := coA p (forTo s i ((k + 1 : Nat) : Int))) (by unfold forTo; simp only [mapTo_up]; push_cast; rfl) ?_
     exact J_again (k + 1) (by omega) (by omega) SU KE
    ·
     have hno : look (ptrs s.rp) (k : Int) = none := by
      rw [← ptrs_mapTo (f := rpD i) (k := (k : Int))]
      cases hq : look (ptrs (mapTo (rpD i) (k : Int) s.rp)) (k : Int) with
      | none => rfl
      | some b => rw [show look (ptrs (KS.rp { forTo s i (k : Int) with ep := mapTo (epD i) ((k : Int) + 1) s.ep, nt := mapTo (ntD i) ((k : Int) + 1) s.nt })) (k : Int) = _ from hq] at h36; simp at h36
     refine J_skip <| Q_blk_normal <| qr <| mv rfl rfl <| L_pur rfl (p_add64 rfl rfl (by omega)) <| ag rfl rfl <| nq <| J_pick (A := coA p _) PC ?_
     refine J_asTo (B := coA p (forTo s i ((k + 1 : Nat) : Int))) (by unfold forTo; simp only [mapTo_no (f := rpD i) hno]; push_cast; rfl) ?_
     exact J_again (k + 1) (by omega) (by omega) SU KE
 ·
  have hk65 : k = 65 := by omega
  subst hk65
  refine J_pick (A := coA p _) PC ?_
  refine J_asTo (B := coA p (kForget s i)) (by rw [show ((65 : Nat) : Int) = 65 from rfl, forTo_all hF]) <| J_exit <| Q_then_exit <| Q_then_exit <| Q_blk_this <| J_endnormal ?_
  exact J_return (()) Tryz.results88 .nil rfl SU
end Go.Pse
namespace Go.Pse
open Go.RowKit Go.Proofs
/-! ### plain: an end is told; a request ends -/
def kBell (s : KS) (g : Int) : Int × Int := (look s.be g).getD (0, 0)
def kPost (s : KS) (d : Deed) : KS := match look s.rg d.1.1 with
  | none => s
  | some (_, r) => { s with rg := updO s.rg d.1.1 (fun r => postR r s.mem (ofD d)), mem := postM r s.mem (ofD d) }
def kSaid (s : KS) (d : Deed) : KS := kPost { s with jn := s.jn ++ [d] } d
def kRung (s : KS) (g : Int) : KS := { s with nt := updO s.nt (kBell s g).1 (ntS (kBell s g).2) }
def kTell (D : KS → ID → Int → Int → KS) (s : KS) (d : Deed) : KS := match look (kSaid s d).nt (kBell (kSaid s d) d.1.1).1 with
  | none => kSaid s d
  | some (_, w, xs) => if woke w xs (kBell (kSaid s d) d.1.1).2 then D (kRung (kSaid s d) d.1.1) (sigI w xs (kBell (kSaid s d) d.1.1).2) 0 (sigV w xs (kBell (kSaid s d) d.1.1).2) else kRung (kSaid s d) d.1.1
/-- How a request ends; n: how deep it may go. -/
def kDec : Nat → KS → ID → Int → Int → KS
  | 0, s, _, _, _ => s
  | n + 1, s, i, r, v => match look s.rt i with
    | none => s
    | some q => match afterQ (kTell (kDec n) (kForget { s with rt := del s.rt i } i) (i, q.e.tag, q.e.op, r, v, false)).rt i with
      | none => kTell (kDec n) (kForget { s with rt := del s.rt i } i) (i, q.e.tag, q.e.op, r, v, false)
      | some x => if x.soft = true ∧ r < 0 then kDec n (kTell (kDec n) (kForget { s with rt := del s.rt i } i) (i, q.e.tag, q.e.op, r, v, false)) x.id (-9) 0 else kTell (kDec n) (kForget { s with rt := del s.rt i } i) (i, q.e.tag, q.e.op, r, v, false)
theorem kDec_none {n : Nat} {s : KS} {i : ID} {r v : Int} (h : look s.rt i = none) : kDec n s i r v = s := by
  cases n with
  | zero => rfl
  | succ n => rw [kDec, h]
theorem kPost_rt {s : KS} {d : Deed} : (kPost s d).rt = s.rt := by unfold kPost; split <;> rfl
theorem kSaid_rt {s : KS} {d : Deed} : (kSaid s d).rt = s.rt := by unfold kSaid; rw [kPost_rt]
theorem Fits.said {s : KS} {N M : Nat} (h : Fits s N M) (hm : M + 1 ≤ 90000) (d : Deed) : Fits (kSaid s d) N (M + 1) := by
  unfold kSaid kPost
  split
  · exact h.jnl hm d
  · rename_i b r hl
    have hr := h.rg _ (mem_look hl)
    refine ⟨h.n, hm, h.ids, ?_, h.tm, h.ep, h.nt, h.rp, fun x hx => ?_, postM_ok hr.1 h.mem _⟩
    · have := h.jn
      show (s.jn ++ [d]).length + s.rt.length ≤ M + 1
      simp; omega
    · obtain ⟨y, hy, h1, h2⟩ := updO_mem (show x ∈ updO s.rg d.1.1 (fun r => postR r s.mem (ofD d)) from hx)
      obtain ⟨g1, g2⟩ := h.rg y hy
      rcases h2 with h2 | h2 <;> rw [h2]
      · exact ⟨g1, by show _ + s.rt.length ≤ _; omega⟩
      · refine ⟨postR_ok g1 _, ?_⟩
        have : (postR y.2.2 s.mem (ofD d)).over.length ≤ y.2.2.over.length + 1 := by unfold postR; split <;> simp [Go.Pse.rgUp]
        show _ + s.rt.length ≤ _
        omega
theorem Fits.tell {D : KS → ID → Int → Int → KS} {N M : Nat} (hD : ∀ s i r v, Fits s N (M + 1) → Fits (D s i r v) N (M + 1) ∧ (D s i r v).rt.length ≤ s.rt.length) {s : KS} (h : Fits s N M) (hm : M + 1 ≤ 90000) (d : Deed) : Fits (kTell D s d) N (M + 1) ∧ (kTell D s d).rt.length ≤ s.rt.length := by
  have h1 := h.said hm d
  unfold kTell
  split
  · exact ⟨h1, by rw [kSaid_rt]; exact Nat.le_refl _⟩
  · split
    · exact ⟨(hD _ _ _ _ (h1.sig _ _)).1, Nat.le_trans (hD _ _ _ _ (h1.sig _ _)).2 (by show (kSaid s d).rt.length ≤ _; rw [kSaid_rt]; exact Nat.le_refl _)⟩
    · exact ⟨h1.sig _ _, by show (kSaid s d).rt.length ≤ _; rw [kSaid_rt]; exact Nat.le_refl _⟩
theorem Fits.dec {N : Nat} : ∀ n {M : Nat} {s : KS} {i : ID} {r v : Int}, Fits s N M → Fits (kDec n s i r v) N M ∧ (kDec n s i r v).rt.length ≤ s.rt.length
  | 0, _, _, _, _, _, h => ⟨h, Nat.le_refl _⟩
  | n + 1, M, s, i, r, v, h => by
    rw [kDec]
    split
    · exact ⟨h, Nat.le_refl _⟩
    · rename_i q hq
      have hl := del_less hq
      obtain ⟨M, rfl⟩ : ∃ M', M = M' + 1 := ⟨M - 1, by have := h.jn; omega⟩
      have h1 := ((h.drop hq).forget i).tell (D := kDec n) (fun s i r v h => Fits.dec n h) h.mm (i, q.e.tag, q.e.op, r, v, false)
      have h2 : (kTell (kDec n) (kForget { s with rt := del s.rt i } i) (i, q.e.tag, q.e.op, r, v, false)).rt.length ≤ s.rt.length := Nat.le_trans h1.2 (by show (del s.rt i).length ≤ _; omega)
      split
      · exact ⟨h1.1, h2⟩
      · split
        · exact ⟨(Fits.dec n h1.1).1, Nat.le_trans (Fits.dec n h1.1).2 h2⟩
        · exact ⟨h1.1, h2⟩
/-- What is proved of Decide, where no more than n requests are there. -/
def DecC (n N M : Nat) : Prop := ∀ (E : World) (l m : List As) (p : Nat) (s : KS) (i : ID) (r v : Int), Pick (coA p s) l m → s.rt.length ≤ n → Fits s N M →
  Con Tryz.prog 54 #[.pointer (some ⟨p, 0, none⟩), .agg (encI i).toArray, .int .i64 r, .int .u32 v] E l (fun _ : Unit => .bool (look s.rt i).isSome) (fun _ => coA p (kDec n s i r v) :: m)
set_option maxRecDepth 100000 in
set_option maxHeartbeats 4000000 in
theorem coTell {E : World} {l m : List As}{p : Nat} {s : KS} (hp : Pick (coA p s) l m) {n N M : Nat} (hD : DecC n N (M + 1)) {d : Deed} (hn : s.rt.length ≤ n) (hF : Fits s N M) (hm : M + 1 ≤ 90000) :
  Con Tryz.prog 89 #[.pointer (some ⟨p, 0, none⟩), .agg (encD d).toArray] E l (fun _ : Unit => .tuple #[]) (fun _ => coA p (kTell (kDec n) s d) :: m) := by
 refine Con.body (vs := [.pointer (some ⟨p, 0, none⟩), .agg (encD d).toArray]) (n := 51) Tryz.func89 rfl rfl [(0, .pointer (some ⟨p, 0, none⟩)), (1, .agg (encD d).toArray)] (env_ok 2 rfl) <| J_pick hp <| sr <| L_op <| x_box rfl rfl rfl fun b3 => nq <| J_seq <| J_drawL (some 3) mixed ?_
 refine ip 0 rfl rfl rfl rfl (p_move rfl) <| iv 2 rfl rfl rfl rfl (fun _ => v_loadA rfl ty41 HS CT) ?_
 refine i1 1 rfl <| x_call Tryz.func17 nm17 bd17 (.cons rfl .nil) rfl (coJournal) fun _ => i1 3 rfl <| x_call Tryz.func134 nm134 bd134 (.cons rfl (.cons rfl .nil)) rfl (coJAdd (s := s) (d := d) PC (by have := hF.jn; omega)) fun _ => ?_
 refine i0 <| Q_then ?_
 refine J_cut (α := Unit) (fun _ : Unit => coA p (kSaid s d) :: blk b3 41 (encD d) :: m) (fun _ : Unit => [(0, .pointer (some ⟨p, 0, none⟩)), (3, .pointer (some ⟨b3, 0, none⟩))]) ?_ ?_
 ·
  refine sr <| mv rfl rfl <| fa rfl rfl fa41_0 <| fa rfl rfl fa39_0 <| L_val rfl (v_load rfl ty3 HS (by exact rfl)) ?_
  refine L_op <| x_call Tryz.func135 nm135 bd135 (.cons rfl (.cons rfl .nil)) rfl (coRing (s := { s with jn := s.jn ++ [d] }) (u := d.1.1) PC) fun _ => ?_
  refine J_slot (t := 19) (v := .pointer ((look (ptrs s.rg) d.1.1).map fun b => ⟨b, 0, none⟩)) rfl rfl <| ag rfl rfl <| nx <| mv rfl rfl <| L_pur rfl (p_neNilPtr Tryz.underlying274 rfl) <| nq ?_
  refine C_split rfl (fun h21 => ?_) (fun h21 => ?_)
  ·
   obtain ⟨b, hb⟩ : ∃ b, look (ptrs s.rg) d.1.1 = some b := by
    cases hq : look (ptrs s.rg) d.1.1 with
    | none => rw [hq] at h21; simp at h21
    | some b => exact ⟨b, rfl⟩
   obtain ⟨r, hr⟩ := look_got hb
   obtain ⟨hro, hrl⟩ : RgOk r ∧ r.over.length + s.rt.length ≤ M := hF.rg _ (mem_look hr)
   refine J_region <| mv rfl rfl <| J_slot (t := 22) (v := .pointer (some ⟨b, 0, none⟩)) rfl (by rw [hb]; rfl) <| L_val rfl (v_loadA rfl ty41 HS CT) ?_
   refine L_op <| x_call Tryz.func137 nm137 bd137 (.cons rfl .nil) rfl (compOfC (d := d)) fun _ => L_op <| x_call Tryz.func136 nm136 bd136 (.cons rfl (.cons rfl .nil)) rfl (coPost (s := { s with jn := s.jn ++ [d] }) (u := d.1.1) (r := r) (c := ofD d) PC hr (by omega) hro hF.mem) fun _ => ?_
   refine nq <| J_pick (A := coA p _) PC ?_
   refine J_asTo (B := coA p (kSaid s d)) (by unfold kSaid kPost; rw [show look (KS.rg { s with jn := s.jn ++ [d] }) d.1.1 = _ from hr]) ?_
   exact J_at (L := (fun _ : Unit => coA p (kSaid s d) :: blk b3 41 (encD d) :: m)) (G := (fun _ : Unit => [(0, .pointer (some ⟨p, 0, none⟩)), (3, .pointer (some ⟨b3, 0, none⟩))])) () SU KE
  ·
   have hrn : look s.rg d.1.1 = none := by
    cases hq : look s.rg d.1.1 with
    | none => rfl
    | some y => rw [look_ptrs, hq] at h21; simp at h21
   refine J_skip <| Q_then <| J_pick (A := coA p _) PC ?_
   refine J_asTo (B := coA p (kSaid s d)) (by unfold kSaid kPost; rw [show look (KS.rg { s with jn := s.jn ++ [d] }) d.1.1 = _ from hrn]) ?_
   exact J_at (L := (fun _ : Unit => coA p (kSaid s d) :: blk b3 41 (encD d) :: m)) (G := (fun _ : Unit => [(0, .pointer (some ⟨p, 0, none⟩)), (3, .pointer (some ⟨b3, 0, none⟩))])) () SU KE
 ·
  intro _
  have hF2 := hF.said hm d
  refine sr <| mv rfl rfl <| fa rfl rfl fa41_0 <| fa rfl rfl fa39_0 <| L_val rfl (v_load rfl ty3 HS (by exact rfl)) ?_
  refine L_op <| x_call Tryz.func138 nm138 bd138 (.cons rfl (.cons rfl .nil)) rfl (coBell (s := kSaid s d) (u := d.1.1) PC) fun _ => ?_
  refine J_slot (t := 31) (v := .tuple #[.int .i64 (kBell (kSaid s d) d.1.1).1, .int .u32 (kBell (kSaid s d) d.1.1).2]) rfl rfl <| mv rfl rfl <| L_pur rfl (p_extract rfl rfl) <| L_pur rfl (p_extract rfl rfl) <| ag rfl rfl <| ag rfl rfl <| nx <| mv rfl rfl ?_
  refine mv rfl rfl <| L_op <| x_call Tryz.func36 nm36 bd36 (.cons rfl (.cons rfl .nil)) rfl (coNotif (s := kSaid s d) (u := (kBell (kSaid s d) d.1.1).1) PC) fun _ => ?_
  refine J_slot (t := 36) (v := .pointer ((look (ptrs (kSaid s d).nt) (kBell (kSaid s d) d.1.1).1).map fun b => ⟨b, 0, none⟩)) rfl rfl <| ag rfl rfl <| nx <| mv rfl rfl <| L_pur rfl (p_neNilPtr Tryz.underlying79 rfl) <| nq ?_
  refine C_split rfl (fun h38 => ?_) (fun h38 => ?_)
  ·
   obtain ⟨b, hb⟩ : ∃ b, look (ptrs (kSaid s d).nt) (kBell (kSaid s d) d.1.1).1 = some b := by
    cases hq : look (ptrs (kSaid s d).nt) (kBell (kSaid s d) d.1.1).1 with
    | none => rw [hq] at h38; simp at h38
    | some b => exact ⟨b, rfl⟩
   obtain ⟨⟨w0, xs⟩, hob⟩ := look_got hb
   have hxl : xs.length ≤ N := (hF2.nt _ (mem_look hob)).2
   have hNN := hF.n
   refine sr <| mv rfl rfl <| J_slot (t := 40) (v := .pointer (some ⟨b, 0, none⟩)) rfl (by rw [hb]; rfl) <| mv rfl rfl <| L_op <| x_call Tryz.func139 nm139 bd139 (.cons rfl (.cons rfl .nil)) rfl (coNtSignal (s := kSaid s d) (u := (kBell (kSaid s d) d.1.1).1) (z := (kBell (kSaid s d) d.1.1).2) PC hob (by omega)) fun _ => ?_
   refine J_pick (A := coA p _) PC ?_
   refine J_asTo (B := coA p (kRung (kSaid s d) d.1.1)) (by rfl) <| mv rfl rfl <| L_pur rfl (p_extract rfl rfl) <| L_pur rfl (p_extract rfl rfl) <| L_pur rfl (p_extract rfl rfl) <| L_op <| x_alloc ty39 rfl fun b8 => L_op <| x_store rfl rfl ty39 rfl SM SM RO PT ?_
   refine ag rfl rfl <| ag rfl rfl <| nx <| mv rfl rfl <| nq ?_
   refine C_split rfl (fun h46 => ?_) (fun h46 => ?_)
   ·
    refine J_region <| mv rfl rfl <| L_val rfl (v_loadA rfl ty39 HS CT) ?_
    refine mv rfl rfl <| L_op <| x_call Tryz.func54 nm54 bd54 (.cons rfl (.cons rfl (.cons rfl (.cons rfl .nil)))) rfl (hD _ _ _ p (kRung (kSaid s d) d.1.1) (sigI w0 xs (kBell (kSaid s d) d.1.1).2) 0 (sigV w0 xs (kBell (kSaid s d) d.1.1).2) PC (by show (kSaid s d).rt.length ≤ n; rw [kSaid_rt]; exact hn) (hF2.sig _ _)) fun _ => ?_
    refine L_nil <| J_endnormal <| J_pick (A := coA p _) PC ?_
    refine J_asTo (B := coA p (kTell (kDec n) s d)) (by unfold kTell; rw [hob]; simp only [h46, if_true]) ?_
    exact J_return (()) Tryz.results89 .nil rfl SU
   ·
    refine J_skip <| J_endnormal <| J_pick (A := coA p _) PC ?_
    refine J_asTo (B := coA p (kTell (kDec n) s d)) (by unfold kTell; rw [hob]; simp only [h46]; rfl) ?_
    exact J_return (()) Tryz.results89 .nil rfl SU
  ·
   have hno : look (kSaid s d).nt (kBell (kSaid s d) d.1.1).1 = none := by
    cases hq : look (kSaid s d).nt (kBell (kSaid s d) d.1.1).1 with
    | none => rfl
    | some y => rw [look_ptrs, hq] at h38; simp at h38
   refine J_skip <| J_endnormal <| J_pick (A := coA p _) PC ?_
   refine J_asTo (B := coA p (kTell (kDec n) s d)) (by unfold kTell; rw [hno]) ?_
   exact J_return (()) Tryz.results89 .nil rfl SU
set_option maxRecDepth 100000 in
set_option maxHeartbeats 4000000 in
theorem coDecStep {E : World} {l m : List As}{p : Nat} {s : KS} (hp : Pick (coA p s) l m) {n N M : Nat} (hD : ∀ k, n = k + 1 → DecC k N M) {i : ID} {r v : Int} (hn : s.rt.length ≤ n) (hF : Fits s N M) :
  Con Tryz.prog 54 #[.pointer (some ⟨p, 0, none⟩), .agg (encI i).toArray, .int .i64 r, .int .u32 v] E l (fun _ : Unit => .bool (look s.rt i).isSome) (fun _ => coA p (kDec n s i r v) :: m) := by
 rcases hq : look s.rt i with _ | q
 ·
  refine Con.body (vs := [.pointer (some ⟨p, 0, none⟩), .agg (encI i).toArray, .int .i64 r, .int .u32 v]) (n := 61) Tryz.func54 rfl rfl [(0, .pointer (some ⟨p, 0, none⟩)), (1, .agg (encI i).toArray), (2, .int .i64 r), (3, .int .u32 v)] (env_ok 4 rfl) <| J_pick hp <| sr <| L_op <| x_box rfl rfl rfl fun b5 => ag rfl rfl <| nq <| J_seq ?_
  refine J_drawL none mixed <| ip 0 rfl rfl rfl rfl (p_move rfl) <| iv 2 rfl rfl rfl rfl (fun _ => v_loadA rfl ty39 HS CT) ?_
  refine I_ready (rs := [1, 7]) SI (by kernel_rfl) (by simp) ?_
  refine (I_cons rfl ?_ (I_cons rfl ?_ I_nil))
  ·
   refine x_call Tryz.func22 nm22 bd22 (.cons rfl .nil) rfl (coReqs) fun _ => I_ready (rs := [3, 7]) SI (by kernel_rfl) (by simp) ?_
   refine (I_cons rfl ?_ (I_cons rfl ?_ I_nil))
   ·
    refine x_call Tryz.func51 nm51 bd51 (.cons rfl (.cons rfl .nil)) rfl (coRqGet (s := s) (i := i) PC) fun _ => ?_
    refine ip 4 rfl rfl rfl rfl (p_move rfl) <| ip 5 rfl rfl rfl rfl (p_extract rfl rfl) <| ip 6 rfl rfl rfl rfl (p_extract rfl rfl) <| J_bool (t := 19) (c := false) rfl (by rw [hq]; rfl) <| i1 7 rfl <| x_alloc ty104 rfl fun b9 => i1 8 rfl <| x_store rfl rfl ty104 rfl SM SM RO PT ?_
    refine ip 9 rfl rfl rfl rfl (p_assign rfl) <| i0 <| Q_then <| J_seq <| sr <| mv rfl rfl <| L_pur rfl (p_not rfl) <| nq ?_
    refine J_bool (t := 21) (c := true) rfl (rfl) <| C_true rfl <| sr <| ag rfl rfl <| nq <| J_ret <| Q_then_ret <| J_pick (A := coA p _) PC ?_
    refine J_asTo (B := coA p (kDec n s i r v)) (by rw [kDec_none hq]) ?_
    exact J_return (()) Tryz.results54 (.tmp rfl .nil) rfl SU
   ·
    refine x_alloc ty104 rfl fun b9 => i1 3 rfl <| x_call Tryz.func51 nm51 bd51 (.cons rfl (.cons rfl .nil)) rfl (coRqGet (s := s) (i := i) PC) fun _ => ?_
    refine ip 4 rfl rfl rfl rfl (p_move rfl) <| ip 5 rfl rfl rfl rfl (p_extract rfl rfl) <| ip 6 rfl rfl rfl rfl (p_extract rfl rfl) <| J_bool (t := 19) (c := false) rfl (by rw [hq]; rfl) <| i1 8 rfl <| x_store rfl rfl ty104 rfl SM SM RO PT ?_
    refine ip 9 rfl rfl rfl rfl (p_assign rfl) <| i0 <| Q_then <| J_seq <| sr <| mv rfl rfl <| L_pur rfl (p_not rfl) <| nq ?_
    refine J_bool (t := 21) (c := true) rfl (rfl) <| C_true rfl <| sr <| ag rfl rfl <| nq <| J_ret <| Q_then_ret <| J_pick (A := coA p _) PC ?_
    refine J_asTo (B := coA p (kDec n s i r v)) (by rw [kDec_none hq]) ?_
    exact J_return (()) Tryz.results54 (.tmp rfl .nil) rfl SU
  ·
   refine x_alloc ty104 rfl fun b9 => i1 1 rfl <| x_call Tryz.func22 nm22 bd22 (.cons rfl .nil) rfl (coReqs) fun _ => i1 3 rfl <| x_call Tryz.func51 nm51 bd51 (.cons rfl (.cons rfl .nil)) rfl (coRqGet (s := s) (i := i) PC) fun _ => ?_
   refine ip 4 rfl rfl rfl rfl (p_move rfl) <| ip 5 rfl rfl rfl rfl (p_extract rfl rfl) <| ip 6 rfl rfl rfl rfl (p_extract rfl rfl) <| J_bool (t := 19) (c := false) rfl (by rw [hq]; rfl) <| i1 8 rfl <| x_store rfl rfl ty104 rfl SM SM RO PT ?_
   refine ip 9 rfl rfl rfl rfl (p_assign rfl) <| i0 <| Q_then <| J_seq <| sr <| mv rfl rfl <| L_pur rfl (p_not rfl) <| nq ?_
   refine J_bool (t := 21) (c := true) rfl (rfl) <| C_true rfl <| sr <| ag rfl rfl <| nq <| J_ret <| Q_then_ret <| J_pick (A := coA p _) PC ?_
   refine J_asTo (B := coA p (kDec n s i r v)) (by rw [kDec_none hq]) ?_
   exact J_return (()) Tryz.results54 (.tmp rfl .nil) rfl SU
 ·
  refine Con.body (vs := [.pointer (some ⟨p, 0, none⟩), .agg (encI i).toArray, .int .i64 r, .int .u32 v]) (n := 61) Tryz.func54 rfl rfl [(0, .pointer (some ⟨p, 0, none⟩)), (1, .agg (encI i).toArray), (2, .int .i64 r), (3, .int .u32 v)] (env_ok 4 rfl) ?_
  have hl := del_less hq
  obtain ⟨k, rfl⟩ : ∃ k, n = k + 1 := ⟨n - 1, by omega⟩
  obtain ⟨M, rfl⟩ : ∃ M', M = M' + 1 := ⟨M - 1, by have := hF.jn; omega⟩
  have hF1 := hF.drop hq
  have hn2 : (kForget { s with rt := del s.rt i } i).rt.length ≤ k := by show (del s.rt i).length ≤ k; omega
  have hF3 := (hF1.forget i).tell (D := kDec k) (fun s i r v h => Fits.dec k h) hF.mm (i, q.e.tag, q.e.op, r, v, false)
  refine J_pick hp <| sr <| L_op <| x_box rfl rfl rfl fun b5 => ag rfl rfl <| nq <| J_seq <| J_drawL none mixed ?_
  refine ip 0 rfl rfl rfl rfl (p_move rfl) <| iv 2 rfl rfl rfl rfl (fun _ => v_loadA rfl ty39 HS CT) ?_
  refine I_ready (rs := [1, 7]) SI (by kernel_rfl) (by simp) ?_
  refine (I_cons rfl ?_ (I_cons rfl ?_ I_nil))
  ·
   refine x_call Tryz.func22 nm22 bd22 (.cons rfl .nil) rfl (coReqs) fun _ => I_ready (rs := [3, 7]) SI (by kernel_rfl) (by simp) ?_
   refine (I_cons rfl ?_ (I_cons rfl ?_ I_nil))
   ·
    refine x_call Tryz.func51 nm51 bd51 (.cons rfl (.cons rfl .nil)) rfl (coRqGet (s := s) (i := i) PC) fun _ => ?_
    refine ip 4 rfl rfl rfl rfl (p_move rfl) <| ip 5 rfl rfl rfl rfl (p_extract rfl rfl) <| ip 6 rfl rfl rfl rfl (p_extract rfl rfl) <| i1 7 rfl <| x_alloc ty104 rfl fun b9 => i1 8 rfl <| x_store rfl rfl ty104 rfl SM SM RO PT ?_
    refine ip 9 rfl rfl rfl rfl (p_assign rfl) <| i0 <| Q_then <| J_seq <| sr <| mv rfl rfl <| L_pur rfl (p_not rfl) <| nq ?_
    refine J_bool (t := 21) (c := false) rfl (by rw [hq]; rfl) <| C_false rfl <| J_skip <| Q_then <| J_seq <| J_drawL (some 3) mixed <| ip 0 rfl rfl rfl rfl (p_move rfl) <| iv 2 rfl rfl rfl rfl (fun _ => v_loadA rfl ty39 HS CT) ?_
    refine i1 1 rfl <| x_call Tryz.func22 nm22 bd22 (.cons rfl .nil) rfl (coReqs) fun _ => i1 3 rfl <| x_call Tryz.func87 nm87 bd87 (.cons rfl (.cons rfl .nil)) rfl (coRqDrop (s := s) (i := i) PC) fun _ => ?_
    refine i0 <| qx <| mv rfl rfl <| L_val rfl (v_loadA rfl ty39 HS CT) ?_
    refine L_op <| x_call Tryz.func88 nm88 bd88 (.cons rfl (.cons rfl .nil)) rfl (coForget (s := { s with rt := del s.rt i }) (i := i) PC hF1) fun _ => ?_
    refine nx <| mv rfl rfl <| L_val rfl (v_loadA rfl ty39 HS CT) ?_
    refine fa rfl rfl fa104_1 <| fa rfl rfl fa31_2 <| L_val rfl (v_load rfl ty22 HS (by exact rfl)) ?_
    refine fa rfl rfl fa104_1 <| fa rfl rfl fa31_0 <| L_val rfl (v_load rfl ty3 HS (by exact rfl)) ?_
    refine mv rfl rfl <| mv rfl rfl <| L_pur rfl (bld41 (.cons rfl (.cons rfl (.cons rfl (.cons rfl (.cons rfl .nil))))) (by repeat constructor)) <| J_slot (t := 39) (v := .agg (encD (i, q.e.tag, q.e.op, r, v, false)).toArray) rfl (by rw [hq]; rfl) <| L_op <| x_call Tryz.func89 nm89 bd89 (.cons rfl (.cons rfl .nil)) rfl (coTell (s := (kForget { s with rt := del s.rt i } i)) (d := (i, q.e.tag, q.e.op, r, v, false)) PC (hD k rfl) hn2 (hF1.forget i) hF.mm) fun _ => ?_
    refine nq <| J_seq <| J_seq <| J_drawL none mixed <| ip 0 rfl rfl rfl rfl (p_move rfl) <| iv 2 rfl rfl rfl rfl (fun _ => v_loadA rfl ty39 HS CT) ?_
    refine I_ready (rs := [1, 7]) SI (by kernel_rfl) (by simp) ?_
    refine (I_cons rfl ?_ (I_cons rfl ?_ I_nil))
    ·
     refine x_call Tryz.func22 nm22 bd22 (.cons rfl .nil) rfl (coReqs) fun _ => I_ready (rs := [3, 7]) SI (by kernel_rfl) (by simp) ?_
     refine (I_cons rfl ?_ (I_cons rfl ?_ I_nil))
     ·
      refine x_call Tryz.func90 nm90 bd90 (.cons rfl (.cons rfl .nil)) rfl (coRqAfter (s := (kTell (kDec k) (kForget { s with rt := del s.rt i } i) (i, q.e.tag, q.e.op, r, v, false))) (i := i) PC hF3.1.ids (by have := hF3.1.jn; have := hF3.1.mm; omega)) fun _ => ?_
      refine ip 4 rfl rfl rfl rfl (p_move rfl) <| ip 5 rfl rfl rfl rfl (p_extract rfl rfl) <| ip 6 rfl rfl rfl rfl (p_extract rfl rfl) <| i1 7 rfl <| x_alloc ty104 rfl fun b11 => i1 8 rfl <| x_store rfl rfl ty104 rfl SM SM RO PT ?_
      refine ip 9 rfl rfl rfl rfl (p_assign rfl) <| i0 <| qx <| mv rfl rfl <| mv rfl rfl ?_
      refine J_gsplit (t := 49) rfl (fun h49 => ?_) (fun h49 => ?_)
      ·
       obtain ⟨x, haf⟩ : ∃ x, afterQ (kTell (kDec k) (kForget { s with rt := del s.rt i } i) (i, q.e.tag, q.e.op, r, v, false)).rt i = some x := by
        cases hz : afterQ (kTell (kDec k) (kForget { s with rt := del s.rt i } i) (i, q.e.tag, q.e.op, r, v, false)).rt i with
        | none => rw [hz] at h49; simp at h49
        | some x => exact ⟨x, rfl⟩
       refine J_pick (A := blk b11 _ _) PC ?_
       refine J_asTo (B := blk b11 104 (encQ x)) (by rw [haf]; rfl) <| L_op <| G_on rfl rfl rfl <| J_pur (p_fieldAddr rfl fa104_3) rfl rfl rfl <| L_op <| G_on rfl rfl rfl <| J_val (v_load rfl ty4 HS (by exact rfl)) rfl rfl rfl ?_
       refine L_pur rfl (p_pick_t rfl rfl) <| mv rfl rfl ?_
       refine J_gsplit (t := 53) rfl (fun h53 => ?_) (fun h53 => ?_)
       ·
        refine L_op <| G_on rfl rfl rfl <| J_pur (p_move rfl) rfl rfl rfl <| L_op <| G_on rfl rfl rfl <| J_pur (p_lss rfl rfl) rfl rfl rfl <| L_pur rfl (p_pick_t rfl rfl) <| nq ?_
        refine C_dec rfl (fun h56 => ?_) (fun h56 => ?_)
        ·
         refine J_region <| mv rfl rfl <| fa rfl rfl fa104_0 <| L_val rfl (v_loadA rfl ty39 HS CT) ?_
         refine L_op <| x_call Tryz.func54 nm54 bd54 (.cons rfl (.cons rfl (.cons rfl (.cons rfl .nil)))) rfl (hD k rfl _ _ _ p (kTell (kDec k) (kForget { s with rt := del s.rt i } i) (i, q.e.tag, q.e.op, r, v, false)) x.id (-9) 0 PC (Nat.le_trans hF3.2 hn2) hF3.1) fun _ => ?_
         refine nx <| ag rfl rfl <| nq <| J_ret <| J_pick (A := coA p _) PC ?_
         refine J_asTo (B := coA p (kDec (k + 1) s i r v)) (by rw [kDec, hq]; simp only [haf]; rw [if_pos ⟨h53, h56⟩]) ?_
         exact J_return (()) Tryz.results54 (.tmp rfl .nil) rfl SU
        ·
         refine J_skip <| qx <| ag rfl rfl <| nq <| J_ret <| J_pick (A := coA p _) PC ?_
         refine J_asTo (B := coA p (kDec (k + 1) s i r v)) (by rw [kDec, hq]; simp only [haf]; rw [if_neg (by intro hc; simp_all)]) ?_
         exact J_return (()) Tryz.results54 (.tmp rfl .nil) rfl SU
       ·
        refine L_op <| G_off rfl rfl rfl rfl rfl rfl <| L_op <| G_off rfl rfl rfl rfl rfl rfl <| L_pur rfl (p_pick_f rfl rfl) <| nq <| C_false rfl <| J_skip ?_
        refine qx <| ag rfl rfl <| nq <| J_ret <| J_pick (A := coA p _) PC ?_
        refine J_asTo (B := coA p (kDec (k + 1) s i r v)) (by rw [kDec, hq]; simp only [haf]; rw [if_neg (by intro hc; simp_all)]) ?_
        exact J_return (()) Tryz.results54 (.tmp rfl .nil) rfl SU
      ·
       have haf : afterQ (kTell (kDec k) (kForget { s with rt := del s.rt i } i) (i, q.e.tag, q.e.op, r, v, false)).rt i = none := by
        cases hz : afterQ (kTell (kDec k) (kForget { s with rt := del s.rt i } i) (i, q.e.tag, q.e.op, r, v, false)).rt i with
        | none => rfl
        | some x => rw [hz] at h49; simp at h49
       refine L_op <| G_off rfl rfl rfl rfl rfl rfl <| L_op <| G_off rfl rfl rfl rfl rfl rfl <| L_pur rfl (p_pick_f rfl rfl) <| mv rfl rfl <| L_op <| G_off rfl rfl rfl rfl rfl rfl ?_
       refine L_op <| G_off rfl rfl rfl rfl rfl rfl <| L_pur rfl (p_pick_f rfl rfl) <| nq <| C_false rfl <| J_skip <| qx <| ag rfl rfl ?_
       refine nq <| J_ret <| J_pick (A := coA p _) PC ?_
       refine J_asTo (B := coA p (kDec (k + 1) s i r v)) (by rw [kDec, hq]; simp only [haf]) ?_
       exact J_return (()) Tryz.results54 (.tmp rfl .nil) rfl SU
     ·
      refine x_alloc ty104 rfl fun b11 => i1 3 rfl <| x_call Tryz.func90 nm90 bd90 (.cons rfl (.cons rfl .nil)) rfl (coRqAfter (s := (kTell (kDec k) (kForget { s with rt := del s.rt i } i) (i, q.e.tag, q.e.op, r, v, false))) (i := i) PC hF3.1.ids (by have := hF3.1.jn; have := hF3.1.mm; omega)) fun _ => ?_
      refine ip 4 rfl rfl rfl rfl (p_move rfl) <| ip 5 rfl rfl rfl rfl (p_extract rfl rfl) <| ip 6 rfl rfl rfl rfl (p_extract rfl rfl) <| i1 8 rfl <| x_store rfl rfl ty104 rfl SM SM RO PT ?_
      refine ip 9 rfl rfl rfl rfl (p_assign rfl) <| i0 <| qx <| mv rfl rfl <| mv rfl rfl ?_
      refine J_gsplit (t := 49) rfl (fun h49 => ?_) (fun h49 => ?_)
      ·
       obtain ⟨x, haf⟩ : ∃ x, afterQ (kTell (kDec k) (kForget { s with rt := del s.rt i } i) (i, q.e.tag, q.e.op, r, v, false)).rt i = some x := by
        cases hz : afterQ (kTell (kDec k) (kForget { s with rt := del s.rt i } i) (i, q.e.tag, q.e.op, r, v, false)).rt i with
        | none => rw [hz] at h49; simp at h49
        | some x => exact ⟨x, rfl⟩
       refine J_pick (A := blk b11 _ _) PC ?_
       refine J_asTo (B := blk b11 104 (encQ x)) (by rw [haf]; rfl) <| L_op <| G_on rfl rfl rfl <| J_pur (p_fieldAddr rfl fa104_3) rfl rfl rfl <| L_op <| G_on rfl rfl rfl <| J_val (v_load rfl ty4 HS (by exact rfl)) rfl rfl rfl ?_
       refine L_pur rfl (p_pick_t rfl rfl) <| mv rfl rfl ?_
       refine J_gsplit (t := 53) rfl (fun h53 => ?_) (fun h53 => ?_)
       ·
        refine L_op <| G_on rfl rfl rfl <| J_pur (p_move rfl) rfl rfl rfl <| L_op <| G_on rfl rfl rfl <| J_pur (p_lss rfl rfl) rfl rfl rfl <| L_pur rfl (p_pick_t rfl rfl) <| nq ?_
        refine C_dec rfl (fun h56 => ?_) (fun h56 => ?_)
        ·
         refine J_region <| mv rfl rfl <| fa rfl rfl fa104_0 <| L_val rfl (v_loadA rfl ty39 HS CT) ?_
         refine L_op <| x_call Tryz.func54 nm54 bd54 (.cons rfl (.cons rfl (.cons rfl (.cons rfl .nil)))) rfl (hD k rfl _ _ _ p (kTell (kDec k) (kForget { s with rt := del s.rt i } i) (i, q.e.tag, q.e.op, r, v, false)) x.id (-9) 0 PC (Nat.le_trans hF3.2 hn2) hF3.1) fun _ => ?_
         refine nx <| ag rfl rfl <| nq <| J_ret <| J_pick (A := coA p _) PC ?_
         refine J_asTo (B := coA p (kDec (k + 1) s i r v)) (by rw [kDec, hq]; simp only [haf]; rw [if_pos ⟨h53, h56⟩]) ?_
         exact J_return (()) Tryz.results54 (.tmp rfl .nil) rfl SU
        ·
         refine J_skip <| qx <| ag rfl rfl <| nq <| J_ret <| J_pick (A := coA p _) PC ?_
         refine J_asTo (B := coA p (kDec (k + 1) s i r v)) (by rw [kDec, hq]; simp only [haf]; rw [if_neg (by intro hc; simp_all)]) ?_
         exact J_return (()) Tryz.results54 (.tmp rfl .nil) rfl SU
       ·
        refine L_op <| G_off rfl rfl rfl rfl rfl rfl <| L_op <| G_off rfl rfl rfl rfl rfl rfl <| L_pur rfl (p_pick_f rfl rfl) <| nq <| C_false rfl <| J_skip ?_
        refine qx <| ag rfl rfl <| nq <| J_ret <| J_pick (A := coA p _) PC ?_
        refine J_asTo (B := coA p (kDec (k + 1) s i r v)) (by rw [kDec, hq]; simp only [haf]; rw [if_neg (by intro hc; simp_all)]) ?_
        exact J_return (()) Tryz.results54 (.tmp rfl .nil) rfl SU
      ·
       have haf : afterQ (kTell (kDec k) (kForget { s with rt := del s.rt i } i) (i, q.e.tag, q.e.op, r, v, false)).rt i = none := by
        cases hz : afterQ (kTell (kDec k) (kForget { s with rt := del s.rt i } i) (i, q.e.tag, q.e.op, r, v, false)).rt i with
        | none => rfl
        | some x => rw [hz] at h49; simp at h49
       refine L_op <| G_off rfl rfl rfl rfl rfl rfl <| L_op <| G_off rfl rfl rfl rfl rfl rfl <| L_pur rfl (p_pick_f rfl rfl) <| mv rfl rfl <| L_op <| G_off rfl rfl rfl rfl rfl rfl ?_
       refine L_op <| G_off rfl rfl rfl rfl rfl rfl <| L_pur rfl (p_pick_f rfl rfl) <| nq <| C_false rfl <| J_skip <| qx <| ag rfl rfl ?_
       refine nq <| J_ret <| J_pick (A := coA p _) PC ?_
       refine J_asTo (B := coA p (kDec (k + 1) s i r v)) (by rw [kDec, hq]; simp only [haf]) ?_
       exact J_return (()) Tryz.results54 (.tmp rfl .nil) rfl SU
    ·
     refine x_alloc ty104 rfl fun b11 => i1 1 rfl <| x_call Tryz.func22 nm22 bd22 (.cons rfl .nil) rfl (coReqs) fun _ => i1 3 rfl <| x_call Tryz.func90 nm90 bd90 (.cons rfl (.cons rfl .nil)) rfl (coRqAfter (s := (kTell (kDec k) (kForget { s with rt := del s.rt i } i) (i, q.e.tag, q.e.op, r, v, false))) (i := i) PC hF3.1.ids (by have := hF3.1.jn; have := hF3.1.mm; omega)) fun _ => ?_
     refine ip 4 rfl rfl rfl rfl (p_move rfl) <| ip 5 rfl rfl rfl rfl (p_extract rfl rfl) <| ip 6 rfl rfl rfl rfl (p_extract rfl rfl) <| i1 8 rfl <| x_store rfl rfl ty104 rfl SM SM RO PT ?_
     refine ip 9 rfl rfl rfl rfl (p_assign rfl) <| i0 <| qx <| mv rfl rfl <| mv rfl rfl ?_
     refine J_gsplit (t := 49) rfl (fun h49 => ?_) (fun h49 => ?_)
     ·
      obtain ⟨x, haf⟩ : ∃ x, afterQ (kTell (kDec k) (kForget { s with rt := del s.rt i } i) (i, q.e.tag, q.e.op, r, v, false)).rt i = some x := by
       cases hz : afterQ (kTell (kDec k) (kForget { s with rt := del s.rt i } i) (i, q.e.tag, q.e.op, r, v, false)).rt i with
       | none => rw [hz] at h49; simp at h49
       | some x => exact ⟨x, rfl⟩
      refine J_pick (A := blk b11 _ _) PC ?_
      refine J_asTo (B := blk b11 104 (encQ x)) (by rw [haf]; rfl) <| L_op <| G_on rfl rfl rfl <| J_pur (p_fieldAddr rfl fa104_3) rfl rfl rfl <| L_op <| G_on rfl rfl rfl <| J_val (v_load rfl ty4 HS (by exact rfl)) rfl rfl rfl ?_
      refine L_pur rfl (p_pick_t rfl rfl) <| mv rfl rfl ?_
      refine J_gsplit (t := 53) rfl (fun h53 => ?_) (fun h53 => ?_)
      ·
       refine L_op <| G_on rfl rfl rfl <| J_pur (p_move rfl) rfl rfl rfl <| L_op <| G_on rfl rfl rfl <| J_pur (p_lss rfl rfl) rfl rfl rfl <| L_pur rfl (p_pick_t rfl rfl) <| nq ?_
       refine C_dec rfl (fun h56 => ?_) (fun h56 => ?_)
       ·
        refine J_region <| mv rfl rfl <| fa rfl rfl fa104_0 <| L_val rfl (v_loadA rfl ty39 HS CT) ?_
        refine L_op <| x_call Tryz.func54 nm54 bd54 (.cons rfl (.cons rfl (.cons rfl (.cons rfl .nil)))) rfl (hD k rfl _ _ _ p (kTell (kDec k) (kForget { s with rt := del s.rt i } i) (i, q.e.tag, q.e.op, r, v, false)) x.id (-9) 0 PC (Nat.le_trans hF3.2 hn2) hF3.1) fun _ => ?_
        refine nx <| ag rfl rfl <| nq <| J_ret <| J_pick (A := coA p _) PC ?_
        refine J_asTo (B := coA p (kDec (k + 1) s i r v)) (by rw [kDec, hq]; simp only [haf]; rw [if_pos ⟨h53, h56⟩]) ?_
        exact J_return (()) Tryz.results54 (.tmp rfl .nil) rfl SU
       ·
        refine J_skip <| qx <| ag rfl rfl <| nq <| J_ret <| J_pick (A := coA p _) PC ?_
        refine J_asTo (B := coA p (kDec (k + 1) s i r v)) (by rw [kDec, hq]; simp only [haf]; rw [if_neg (by intro hc; simp_all)]) ?_
        exact J_return (()) Tryz.results54 (.tmp rfl .nil) rfl SU
      ·
       refine L_op <| G_off rfl rfl rfl rfl rfl rfl <| L_op <| G_off rfl rfl rfl rfl rfl rfl <| L_pur rfl (p_pick_f rfl rfl) <| nq <| C_false rfl <| J_skip ?_
       refine qx <| ag rfl rfl <| nq <| J_ret <| J_pick (A := coA p _) PC ?_
       refine J_asTo (B := coA p (kDec (k + 1) s i r v)) (by rw [kDec, hq]; simp only [haf]; rw [if_neg (by intro hc; simp_all)]) ?_
       exact J_return (()) Tryz.results54 (.tmp rfl .nil) rfl SU
     ·
      have haf : afterQ (kTell (kDec k) (kForget { s with rt := del s.rt i } i) (i, q.e.tag, q.e.op, r, v, false)).rt i = none := by
       cases hz : afterQ (kTell (kDec k) (kForget { s with rt := del s.rt i } i) (i, q.e.tag, q.e.op, r, v, false)).rt i with
       | none => rfl
       | some x => rw [hz] at h49; simp at h49
      refine L_op <| G_off rfl rfl rfl rfl rfl rfl <| L_op <| G_off rfl rfl rfl rfl rfl rfl <| L_pur rfl (p_pick_f rfl rfl) <| mv rfl rfl <| L_op <| G_off rfl rfl rfl rfl rfl rfl ?_
      refine L_op <| G_off rfl rfl rfl rfl rfl rfl <| L_pur rfl (p_pick_f rfl rfl) <| nq <| C_false rfl <| J_skip <| qx <| ag rfl rfl ?_
      refine nq <| J_ret <| J_pick (A := coA p _) PC ?_
      refine J_asTo (B := coA p (kDec (k + 1) s i r v)) (by rw [kDec, hq]; simp only [haf]) ?_
      exact J_return (()) Tryz.results54 (.tmp rfl .nil) rfl SU
   ·
    refine x_alloc ty104 rfl fun b9 => i1 3 rfl <| x_call Tryz.func51 nm51 bd51 (.cons rfl (.cons rfl .nil)) rfl (coRqGet (s := s) (i := i) PC) fun _ => ?_
    refine ip 4 rfl rfl rfl rfl (p_move rfl) <| ip 5 rfl rfl rfl rfl (p_extract rfl rfl) <| ip 6 rfl rfl rfl rfl (p_extract rfl rfl) <| i1 8 rfl <| x_store rfl rfl ty104 rfl SM SM RO PT ?_
    refine ip 9 rfl rfl rfl rfl (p_assign rfl) <| i0 <| Q_then <| J_seq <| sr <| mv rfl rfl <| L_pur rfl (p_not rfl) <| nq ?_
    refine J_bool (t := 21) (c := false) rfl (by rw [hq]; rfl) <| C_false rfl <| J_skip <| Q_then <| J_seq <| J_drawL (some 3) mixed <| ip 0 rfl rfl rfl rfl (p_move rfl) <| iv 2 rfl rfl rfl rfl (fun _ => v_loadA rfl ty39 HS CT) ?_
    refine i1 1 rfl <| x_call Tryz.func22 nm22 bd22 (.cons rfl .nil) rfl (coReqs) fun _ => i1 3 rfl <| x_call Tryz.func87 nm87 bd87 (.cons rfl (.cons rfl .nil)) rfl (coRqDrop (s := s) (i := i) PC) fun _ => ?_
    refine i0 <| qx <| mv rfl rfl <| L_val rfl (v_loadA rfl ty39 HS CT) ?_
    refine L_op <| x_call Tryz.func88 nm88 bd88 (.cons rfl (.cons rfl .nil)) rfl (coForget (s := { s with rt := del s.rt i }) (i := i) PC hF1) fun _ => ?_
    refine nx <| mv rfl rfl <| L_val rfl (v_loadA rfl ty39 HS CT) ?_
    refine fa rfl rfl fa104_1 <| fa rfl rfl fa31_2 <| L_val rfl (v_load rfl ty22 HS (by exact rfl)) ?_
    refine fa rfl rfl fa104_1 <| fa rfl rfl fa31_0 <| L_val rfl (v_load rfl ty3 HS (by exact rfl)) ?_
    refine mv rfl rfl <| mv rfl rfl <| L_pur rfl (bld41 (.cons rfl (.cons rfl (.cons rfl (.cons rfl (.cons rfl .nil))))) (by repeat constructor)) <| J_slot (t := 39) (v := .agg (encD (i, q.e.tag, q.e.op, r, v, false)).toArray) rfl (by rw [hq]; rfl) <| L_op <| x_call Tryz.func89 nm89 bd89 (.cons rfl (.cons rfl .nil)) rfl (coTell (s := (kForget { s with rt := del s.rt i } i)) (d := (i, q.e.tag, q.e.op, r, v, false)) PC (hD k rfl) hn2 (hF1.forget i) hF.mm) fun _ => ?_
    refine nq <| J_seq <| J_seq <| J_drawL none mixed <| ip 0 rfl rfl rfl rfl (p_move rfl) <| iv 2 rfl rfl rfl rfl (fun _ => v_loadA rfl ty39 HS CT) ?_
    refine I_ready (rs := [1, 7]) SI (by kernel_rfl) (by simp) ?_
    refine (I_cons rfl ?_ (I_cons rfl ?_ I_nil))
    ·
     refine x_call Tryz.func22 nm22 bd22 (.cons rfl .nil) rfl (coReqs) fun _ => I_ready (rs := [3, 7]) SI (by kernel_rfl) (by simp) ?_
     refine (I_cons rfl ?_ (I_cons rfl ?_ I_nil))
     ·
      refine x_call Tryz.func90 nm90 bd90 (.cons rfl (.cons rfl .nil)) rfl (coRqAfter (s := (kTell (kDec k) (kForget { s with rt := del s.rt i } i) (i, q.e.tag, q.e.op, r, v, false))) (i := i) PC hF3.1.ids (by have := hF3.1.jn; have := hF3.1.mm; omega)) fun _ => ?_
      refine ip 4 rfl rfl rfl rfl (p_move rfl) <| ip 5 rfl rfl rfl rfl (p_extract rfl rfl) <| ip 6 rfl rfl rfl rfl (p_extract rfl rfl) <| i1 7 rfl <| x_alloc ty104 rfl fun b11 => i1 8 rfl <| x_store rfl rfl ty104 rfl SM SM RO PT ?_
      refine ip 9 rfl rfl rfl rfl (p_assign rfl) <| i0 <| qx <| mv rfl rfl <| mv rfl rfl ?_
      refine J_gsplit (t := 49) rfl (fun h49 => ?_) (fun h49 => ?_)
      ·
       obtain ⟨x, haf⟩ : ∃ x, afterQ (kTell (kDec k) (kForget { s with rt := del s.rt i } i) (i, q.e.tag, q.e.op, r, v, false)).rt i = some x := by
        cases hz : afterQ (kTell (kDec k) (kForget { s with rt := del s.rt i } i) (i, q.e.tag, q.e.op, r, v, false)).rt i with
        | none => rw [hz] at h49; simp at h49
        | some x => exact ⟨x, rfl⟩
       refine J_pick (A := blk b11 _ _) PC ?_
       refine J_asTo (B := blk b11 104 (encQ x)) (by rw [haf]; rfl) <| L_op <| G_on rfl rfl rfl <| J_pur (p_fieldAddr rfl fa104_3) rfl rfl rfl <| L_op <| G_on rfl rfl rfl <| J_val (v_load rfl ty4 HS (by exact rfl)) rfl rfl rfl ?_
       refine L_pur rfl (p_pick_t rfl rfl) <| mv rfl rfl ?_
       refine J_gsplit (t := 53) rfl (fun h53 => ?_) (fun h53 => ?_)
       ·
        refine L_op <| G_on rfl rfl rfl <| J_pur (p_move rfl) rfl rfl rfl <| L_op <| G_on rfl rfl rfl <| J_pur (p_lss rfl rfl) rfl rfl rfl <| L_pur rfl (p_pick_t rfl rfl) <| nq ?_
        refine C_dec rfl (fun h56 => ?_) (fun h56 => ?_)
        ·
         refine J_region <| mv rfl rfl <| fa rfl rfl fa104_0 <| L_val rfl (v_loadA rfl ty39 HS CT) ?_
         refine L_op <| x_call Tryz.func54 nm54 bd54 (.cons rfl (.cons rfl (.cons rfl (.cons rfl .nil)))) rfl (hD k rfl _ _ _ p (kTell (kDec k) (kForget { s with rt := del s.rt i } i) (i, q.e.tag, q.e.op, r, v, false)) x.id (-9) 0 PC (Nat.le_trans hF3.2 hn2) hF3.1) fun _ => ?_
         refine nx <| ag rfl rfl <| nq <| J_ret <| J_pick (A := coA p _) PC ?_
         refine J_asTo (B := coA p (kDec (k + 1) s i r v)) (by rw [kDec, hq]; simp only [haf]; rw [if_pos ⟨h53, h56⟩]) ?_
         exact J_return (()) Tryz.results54 (.tmp rfl .nil) rfl SU
        ·
         refine J_skip <| qx <| ag rfl rfl <| nq <| J_ret <| J_pick (A := coA p _) PC ?_
         refine J_asTo (B := coA p (kDec (k + 1) s i r v)) (by rw [kDec, hq]; simp only [haf]; rw [if_neg (by intro hc; simp_all)]) ?_
         exact J_return (()) Tryz.results54 (.tmp rfl .nil) rfl SU
       ·
        refine L_op <| G_off rfl rfl rfl rfl rfl rfl <| L_op <| G_off rfl rfl rfl rfl rfl rfl <| L_pur rfl (p_pick_f rfl rfl) <| nq <| C_false rfl <| J_skip ?_
        refine qx <| ag rfl rfl <| nq <| J_ret <| J_pick (A := coA p _) PC ?_
        refine J_asTo (B := coA p (kDec (k + 1) s i r v)) (by rw [kDec, hq]; simp only [haf]; rw [if_neg (by intro hc; simp_all)]) ?_
        exact J_return (()) Tryz.results54 (.tmp rfl .nil) rfl SU
      ·
       have haf : afterQ (kTell (kDec k) (kForget { s with rt := del s.rt i } i) (i, q.e.tag, q.e.op, r, v, false)).rt i = none := by
        cases hz : afterQ (kTell (kDec k) (kForget { s with rt := del s.rt i } i) (i, q.e.tag, q.e.op, r, v, false)).rt i with
        | none => rfl
        | some x => rw [hz] at h49; simp at h49
       refine L_op <| G_off rfl rfl rfl rfl rfl rfl <| L_op <| G_off rfl rfl rfl rfl rfl rfl <| L_pur rfl (p_pick_f rfl rfl) <| mv rfl rfl <| L_op <| G_off rfl rfl rfl rfl rfl rfl ?_
       refine L_op <| G_off rfl rfl rfl rfl rfl rfl <| L_pur rfl (p_pick_f rfl rfl) <| nq <| C_false rfl <| J_skip <| qx <| ag rfl rfl ?_
       refine nq <| J_ret <| J_pick (A := coA p _) PC ?_
       refine J_asTo (B := coA p (kDec (k + 1) s i r v)) (by rw [kDec, hq]; simp only [haf]) ?_
       exact J_return (()) Tryz.results54 (.tmp rfl .nil) rfl SU
     ·
      refine x_alloc ty104 rfl fun b11 => i1 3 rfl <| x_call Tryz.func90 nm90 bd90 (.cons rfl (.cons rfl .nil)) rfl (coRqAfter (s := (kTell (kDec k) (kForget { s with rt := del s.rt i } i) (i, q.e.tag, q.e.op, r, v, false))) (i := i) PC hF3.1.ids (by have := hF3.1.jn; have := hF3.1.mm; omega)) fun _ => ?_
      refine ip 4 rfl rfl rfl rfl (p_move rfl) <| ip 5 rfl rfl rfl rfl (p_extract rfl rfl) <| ip 6 rfl rfl rfl rfl (p_extract rfl rfl) <| i1 8 rfl <| x_store rfl rfl ty104 rfl SM SM RO PT ?_
      refine ip 9 rfl rfl rfl rfl (p_assign rfl) <| i0 <| qx <| mv rfl rfl <| mv rfl rfl ?_
      refine J_gsplit (t := 49) rfl (fun h49 => ?_) (fun h49 => ?_)
      ·
       obtain ⟨x, haf⟩ : ∃ x, afterQ (kTell (kDec k) (kForget { s with rt := del s.rt i } i) (i, q.e.tag, q.e.op, r, v, false)).rt i = some x := by
        cases hz : afterQ (kTell (kDec k) (kForget { s with rt := del s.rt i } i) (i, q.e.tag, q.e.op, r, v, false)).rt i with
        | none => rw [hz] at h49; simp at h49
        | some x => exact ⟨x, rfl⟩
       refine J_pick (A := blk b11 _ _) PC ?_
       refine J_asTo (B := blk b11 104 (encQ x)) (by rw [haf]; rfl) <| L_op <| G_on rfl rfl rfl <| J_pur (p_fieldAddr rfl fa104_3) rfl rfl rfl <| L_op <| G_on rfl rfl rfl <| J_val (v_load rfl ty4 HS (by exact rfl)) rfl rfl rfl ?_
       refine L_pur rfl (p_pick_t rfl rfl) <| mv rfl rfl ?_
       refine J_gsplit (t := 53) rfl (fun h53 => ?_) (fun h53 => ?_)
       ·
        refine L_op <| G_on rfl rfl rfl <| J_pur (p_move rfl) rfl rfl rfl <| L_op <| G_on rfl rfl rfl <| J_pur (p_lss rfl rfl) rfl rfl rfl <| L_pur rfl (p_pick_t rfl rfl) <| nq ?_
        refine C_dec rfl (fun h56 => ?_) (fun h56 => ?_)
        ·
         refine J_region <| mv rfl rfl <| fa rfl rfl fa104_0 <| L_val rfl (v_loadA rfl ty39 HS CT) ?_
         refine L_op <| x_call Tryz.func54 nm54 bd54 (.cons rfl (.cons rfl (.cons rfl (.cons rfl .nil)))) rfl (hD k rfl _ _ _ p (kTell (kDec k) (kForget { s with rt := del s.rt i } i) (i, q.e.tag, q.e.op, r, v, false)) x.id (-9) 0 PC (Nat.le_trans hF3.2 hn2) hF3.1) fun _ => ?_
         refine nx <| ag rfl rfl <| nq <| J_ret <| J_pick (A := coA p _) PC ?_
         refine J_asTo (B := coA p (kDec (k + 1) s i r v)) (by rw [kDec, hq]; simp only [haf]; rw [if_pos ⟨h53, h56⟩]) ?_
         exact J_return (()) Tryz.results54 (.tmp rfl .nil) rfl SU
        ·
         refine J_skip <| qx <| ag rfl rfl <| nq <| J_ret <| J_pick (A := coA p _) PC ?_
         refine J_asTo (B := coA p (kDec (k + 1) s i r v)) (by rw [kDec, hq]; simp only [haf]; rw [if_neg (by intro hc; simp_all)]) ?_
         exact J_return (()) Tryz.results54 (.tmp rfl .nil) rfl SU
       ·
        refine L_op <| G_off rfl rfl rfl rfl rfl rfl <| L_op <| G_off rfl rfl rfl rfl rfl rfl <| L_pur rfl (p_pick_f rfl rfl) <| nq <| C_false rfl <| J_skip ?_
        refine qx <| ag rfl rfl <| nq <| J_ret <| J_pick (A := coA p _) PC ?_
        refine J_asTo (B := coA p (kDec (k + 1) s i r v)) (by rw [kDec, hq]; simp only [haf]; rw [if_neg (by intro hc; simp_all)]) ?_
        exact J_return (()) Tryz.results54 (.tmp rfl .nil) rfl SU
      ·
       have haf : afterQ (kTell (kDec k) (kForget { s with rt := del s.rt i } i) (i, q.e.tag, q.e.op, r, v, false)).rt i = none := by
        cases hz : afterQ (kTell (kDec k) (kForget { s with rt := del s.rt i } i) (i, q.e.tag, q.e.op, r, v, false)).rt i with
        | none => rfl
        | some x => rw [hz] at h49; simp at h49
       refine L_op <| G_off rfl rfl rfl rfl rfl rfl <| L_op <| G_off rfl rfl rfl rfl rfl rfl <| L_pur rfl (p_pick_f rfl rfl) <| mv rfl rfl <| L_op <| G_off rfl rfl rfl rfl rfl rfl ?_
       refine L_op <| G_off rfl rfl rfl rfl rfl rfl <| L_pur rfl (p_pick_f rfl rfl) <| nq <| C_false rfl <| J_skip <| qx <| ag rfl rfl ?_
       refine nq <| J_ret <| J_pick (A := coA p _) PC ?_
       refine J_asTo (B := coA p (kDec (k + 1) s i r v)) (by rw [kDec, hq]; simp only [haf]) ?_
       exact J_return (()) Tryz.results54 (.tmp rfl .nil) rfl SU
    ·
     refine x_alloc ty104 rfl fun b11 => i1 1 rfl <| x_call Tryz.func22 nm22 bd22 (.cons rfl .nil) rfl (coReqs) fun _ => i1 3 rfl <| x_call Tryz.func90 nm90 bd90 (.cons rfl (.cons rfl .nil)) rfl (coRqAfter (s := (kTell (kDec k) (kForget { s with rt := del s.rt i } i) (i, q.e.tag, q.e.op, r, v, false))) (i := i) PC hF3.1.ids (by have := hF3.1.jn; have := hF3.1.mm; omega)) fun _ => ?_
     refine ip 4 rfl rfl rfl rfl (p_move rfl) <| ip 5 rfl rfl rfl rfl (p_extract rfl rfl) <| ip 6 rfl rfl rfl rfl (p_extract rfl rfl) <| i1 8 rfl <| x_store rfl rfl ty104 rfl SM SM RO PT ?_
     refine ip 9 rfl rfl rfl rfl (p_assign rfl) <| i0 <| qx <| mv rfl rfl <| mv rfl rfl ?_
     refine J_gsplit (t := 49) rfl (fun h49 => ?_) (fun h49 => ?_)
     ·
      obtain ⟨x, haf⟩ : ∃ x, afterQ (kTell (kDec k) (kForget { s with rt := del s.rt i } i) (i, q.e.tag, q.e.op, r, v, false)).rt i = some x := by
       cases hz : afterQ (kTell (kDec k) (kForget { s with rt := del s.rt i } i) (i, q.e.tag, q.e.op, r, v, false)).rt i with
       | none => rw [hz] at h49; simp at h49
       | some x => exact ⟨x, rfl⟩
      refine J_pick (A := blk b11 _ _) PC ?_
      refine J_asTo (B := blk b11 104 (encQ x)) (by rw [haf]; rfl) <| L_op <| G_on rfl rfl rfl <| J_pur (p_fieldAddr rfl fa104_3) rfl rfl rfl <| L_op <| G_on rfl rfl rfl <| J_val (v_load rfl ty4 HS (by exact rfl)) rfl rfl rfl ?_
      refine L_pur rfl (p_pick_t rfl rfl) <| mv rfl rfl ?_
      refine J_gsplit (t := 53) rfl (fun h53 => ?_) (fun h53 => ?_)
      ·
       refine L_op <| G_on rfl rfl rfl <| J_pur (p_move rfl) rfl rfl rfl <| L_op <| G_on rfl rfl rfl <| J_pur (p_lss rfl rfl) rfl rfl rfl <| L_pur rfl (p_pick_t rfl rfl) <| nq ?_
       refine C_dec rfl (fun h56 => ?_) (fun h56 => ?_)
       ·
        refine J_region <| mv rfl rfl <| fa rfl rfl fa104_0 <| L_val rfl (v_loadA rfl ty39 HS CT) ?_
        refine L_op <| x_call Tryz.func54 nm54 bd54 (.cons rfl (.cons rfl (.cons rfl (.cons rfl .nil)))) rfl (hD k rfl _ _ _ p (kTell (kDec k) (kForget { s with rt := del s.rt i } i) (i, q.e.tag, q.e.op, r, v, false)) x.id (-9) 0 PC (Nat.le_trans hF3.2 hn2) hF3.1) fun _ => ?_
        refine nx <| ag rfl rfl <| nq <| J_ret <| J_pick (A := coA p _) PC ?_
        refine J_asTo (B := coA p (kDec (k + 1) s i r v)) (by rw [kDec, hq]; simp only [haf]; rw [if_pos ⟨h53, h56⟩]) ?_
        exact J_return (()) Tryz.results54 (.tmp rfl .nil) rfl SU
       ·
        refine J_skip <| qx <| ag rfl rfl <| nq <| J_ret <| J_pick (A := coA p _) PC ?_
        refine J_asTo (B := coA p (kDec (k + 1) s i r v)) (by rw [kDec, hq]; simp only [haf]; rw [if_neg (by intro hc; simp_all)]) ?_
        exact J_return (()) Tryz.results54 (.tmp rfl .nil) rfl SU
      ·
       refine L_op <| G_off rfl rfl rfl rfl rfl rfl <| L_op <| G_off rfl rfl rfl rfl rfl rfl <| L_pur rfl (p_pick_f rfl rfl) <| nq <| C_false rfl <| J_skip ?_
       refine qx <| ag rfl rfl <| nq <| J_ret <| J_pick (A := coA p _) PC ?_
       refine J_asTo (B := coA p (kDec (k + 1) s i r v)) (by rw [kDec, hq]; simp only [haf]; rw [if_neg (by intro hc; simp_all)]) ?_
       exact J_return (()) Tryz.results54 (.tmp rfl .nil) rfl SU
     ·
      have haf : afterQ (kTell (kDec k) (kForget { s with rt := del s.rt i } i) (i, q.e.tag, q.e.op, r, v, false)).rt i = none := by
       cases hz : afterQ (kTell (kDec k) (kForget { s with rt := del s.rt i } i) (i, q.e.tag, q.e.op, r, v, false)).rt i with
       | none => rfl
       | some x => rw [hz] at h49; simp at h49
      refine L_op <| G_off rfl rfl rfl rfl rfl rfl <| L_op <| G_off rfl rfl rfl rfl rfl rfl <| L_pur rfl (p_pick_f rfl rfl) <| mv rfl rfl <| L_op <| G_off rfl rfl rfl rfl rfl rfl ?_
      refine L_op <| G_off rfl rfl rfl rfl rfl rfl <| L_pur rfl (p_pick_f rfl rfl) <| nq <| C_false rfl <| J_skip <| qx <| ag rfl rfl ?_
      refine nq <| J_ret <| J_pick (A := coA p _) PC ?_
      refine J_asTo (B := coA p (kDec (k + 1) s i r v)) (by rw [kDec, hq]; simp only [haf]) ?_
      exact J_return (()) Tryz.results54 (.tmp rfl .nil) rfl SU
  ·
   refine x_alloc ty104 rfl fun b9 => i1 1 rfl <| x_call Tryz.func22 nm22 bd22 (.cons rfl .nil) rfl (coReqs) fun _ => i1 3 rfl <| x_call Tryz.func51 nm51 bd51 (.cons rfl (.cons rfl .nil)) rfl (coRqGet (s := s) (i := i) PC) fun _ => ?_
   refine ip 4 rfl rfl rfl rfl (p_move rfl) <| ip 5 rfl rfl rfl rfl (p_extract rfl rfl) <| ip 6 rfl rfl rfl rfl (p_extract rfl rfl) <| i1 8 rfl <| x_store rfl rfl ty104 rfl SM SM RO PT ?_
   refine ip 9 rfl rfl rfl rfl (p_assign rfl) <| i0 <| Q_then <| J_seq <| sr <| mv rfl rfl <| L_pur rfl (p_not rfl) <| nq ?_
   refine J_bool (t := 21) (c := false) rfl (by rw [hq]; rfl) <| C_false rfl <| J_skip <| Q_then <| J_seq <| J_drawL (some 3) mixed <| ip 0 rfl rfl rfl rfl (p_move rfl) <| iv 2 rfl rfl rfl rfl (fun _ => v_loadA rfl ty39 HS CT) ?_
   refine i1 1 rfl <| x_call Tryz.func22 nm22 bd22 (.cons rfl .nil) rfl (coReqs) fun _ => i1 3 rfl <| x_call Tryz.func87 nm87 bd87 (.cons rfl (.cons rfl .nil)) rfl (coRqDrop (s := s) (i := i) PC) fun _ => ?_
   refine i0 <| qx <| mv rfl rfl <| L_val rfl (v_loadA rfl ty39 HS CT) ?_
   refine L_op <| x_call Tryz.func88 nm88 bd88 (.cons rfl (.cons rfl .nil)) rfl (coForget (s := { s with rt := del s.rt i }) (i := i) PC hF1) fun _ => ?_
   refine nx <| mv rfl rfl <| L_val rfl (v_loadA rfl ty39 HS CT) ?_
   refine fa rfl rfl fa104_1 <| fa rfl rfl fa31_2 <| L_val rfl (v_load rfl ty22 HS (by exact rfl)) ?_
   refine fa rfl rfl fa104_1 <| fa rfl rfl fa31_0 <| L_val rfl (v_load rfl ty3 HS (by exact rfl)) ?_
   refine mv rfl rfl <| mv rfl rfl <| L_pur rfl (bld41 (.cons rfl (.cons rfl (.cons rfl (.cons rfl (.cons rfl .nil))))) (by repeat constructor)) <| J_slot (t := 39) (v := .agg (encD (i, q.e.tag, q.e.op, r, v, false)).toArray) rfl (by rw [hq]; rfl) <| L_op <| x_call Tryz.func89 nm89 bd89 (.cons rfl (.cons rfl .nil)) rfl (coTell (s := (kForget { s with rt := del s.rt i } i)) (d := (i, q.e.tag, q.e.op, r, v, false)) PC (hD k rfl) hn2 (hF1.forget i) hF.mm) fun _ => ?_
   refine nq <| J_seq <| J_seq <| J_drawL none mixed <| ip 0 rfl rfl rfl rfl (p_move rfl) <| iv 2 rfl rfl rfl rfl (fun _ => v_loadA rfl ty39 HS CT) ?_
   refine I_ready (rs := [1, 7]) SI (by kernel_rfl) (by simp) ?_
   refine (I_cons rfl ?_ (I_cons rfl ?_ I_nil))
   ·
    refine x_call Tryz.func22 nm22 bd22 (.cons rfl .nil) rfl (coReqs) fun _ => I_ready (rs := [3, 7]) SI (by kernel_rfl) (by simp) ?_
    refine (I_cons rfl ?_ (I_cons rfl ?_ I_nil))
    ·
     refine x_call Tryz.func90 nm90 bd90 (.cons rfl (.cons rfl .nil)) rfl (coRqAfter (s := (kTell (kDec k) (kForget { s with rt := del s.rt i } i) (i, q.e.tag, q.e.op, r, v, false))) (i := i) PC hF3.1.ids (by have := hF3.1.jn; have := hF3.1.mm; omega)) fun _ => ?_
     refine ip 4 rfl rfl rfl rfl (p_move rfl) <| ip 5 rfl rfl rfl rfl (p_extract rfl rfl) <| ip 6 rfl rfl rfl rfl (p_extract rfl rfl) <| i1 7 rfl <| x_alloc ty104 rfl fun b11 => i1 8 rfl <| x_store rfl rfl ty104 rfl SM SM RO PT ?_
     refine ip 9 rfl rfl rfl rfl (p_assign rfl) <| i0 <| qx <| mv rfl rfl <| mv rfl rfl ?_
     refine J_gsplit (t := 49) rfl (fun h49 => ?_) (fun h49 => ?_)
     ·
      obtain ⟨x, haf⟩ : ∃ x, afterQ (kTell (kDec k) (kForget { s with rt := del s.rt i } i) (i, q.e.tag, q.e.op, r, v, false)).rt i = some x := by
       cases hz : afterQ (kTell (kDec k) (kForget { s with rt := del s.rt i } i) (i, q.e.tag, q.e.op, r, v, false)).rt i with
       | none => rw [hz] at h49; simp at h49
       | some x => exact ⟨x, rfl⟩
      refine J_pick (A := blk b11 _ _) PC ?_
      refine J_asTo (B := blk b11 104 (encQ x)) (by rw [haf]; rfl) <| L_op <| G_on rfl rfl rfl <| J_pur (p_fieldAddr rfl fa104_3) rfl rfl rfl <| L_op <| G_on rfl rfl rfl <| J_val (v_load rfl ty4 HS (by exact rfl)) rfl rfl rfl ?_
      refine L_pur rfl (p_pick_t rfl rfl) <| mv rfl rfl ?_
      refine J_gsplit (t := 53) rfl (fun h53 => ?_) (fun h53 => ?_)
      ·
       refine L_op <| G_on rfl rfl rfl <| J_pur (p_move rfl) rfl rfl rfl <| L_op <| G_on rfl rfl rfl <| J_pur (p_lss rfl rfl) rfl rfl rfl <| L_pur rfl (p_pick_t rfl rfl) <| nq ?_
       refine C_dec rfl (fun h56 => ?_) (fun h56 => ?_)
       ·
        refine J_region <| mv rfl rfl <| fa rfl rfl fa104_0 <| L_val rfl (v_loadA rfl ty39 HS CT) ?_
        refine L_op <| x_call Tryz.func54 nm54 bd54 (.cons rfl (.cons rfl (.cons rfl (.cons rfl .nil)))) rfl (hD k rfl _ _ _ p (kTell (kDec k) (kForget { s with rt := del s.rt i } i) (i, q.e.tag, q.e.op, r, v, false)) x.id (-9) 0 PC (Nat.le_trans hF3.2 hn2) hF3.1) fun _ => ?_
        refine nx <| ag rfl rfl <| nq <| J_ret <| J_pick (A := coA p _) PC ?_
        refine J_asTo (B := coA p (kDec (k + 1) s i r v)) (by rw [kDec, hq]; simp only [haf]; rw [if_pos ⟨h53, h56⟩]) ?_
        exact J_return (()) Tryz.results54 (.tmp rfl .nil) rfl SU
       ·
        refine J_skip <| qx <| ag rfl rfl <| nq <| J_ret <| J_pick (A := coA p _) PC ?_
        refine J_asTo (B := coA p (kDec (k + 1) s i r v)) (by rw [kDec, hq]; simp only [haf]; rw [if_neg (by intro hc; simp_all)]) ?_
        exact J_return (()) Tryz.results54 (.tmp rfl .nil) rfl SU
      ·
       refine L_op <| G_off rfl rfl rfl rfl rfl rfl <| L_op <| G_off rfl rfl rfl rfl rfl rfl <| L_pur rfl (p_pick_f rfl rfl) <| nq <| C_false rfl <| J_skip ?_
       refine qx <| ag rfl rfl <| nq <| J_ret <| J_pick (A := coA p _) PC ?_
       refine J_asTo (B := coA p (kDec (k + 1) s i r v)) (by rw [kDec, hq]; simp only [haf]; rw [if_neg (by intro hc; simp_all)]) ?_
       exact J_return (()) Tryz.results54 (.tmp rfl .nil) rfl SU
     ·
      have haf : afterQ (kTell (kDec k) (kForget { s with rt := del s.rt i } i) (i, q.e.tag, q.e.op, r, v, false)).rt i = none := by
       cases hz : afterQ (kTell (kDec k) (kForget { s with rt := del s.rt i } i) (i, q.e.tag, q.e.op, r, v, false)).rt i with
       | none => rfl
       | some x => rw [hz] at h49; simp at h49
      refine L_op <| G_off rfl rfl rfl rfl rfl rfl <| L_op <| G_off rfl rfl rfl rfl rfl rfl <| L_pur rfl (p_pick_f rfl rfl) <| mv rfl rfl <| L_op <| G_off rfl rfl rfl rfl rfl rfl ?_
      refine L_op <| G_off rfl rfl rfl rfl rfl rfl <| L_pur rfl (p_pick_f rfl rfl) <| nq <| C_false rfl <| J_skip <| qx <| ag rfl rfl ?_
      refine nq <| J_ret <| J_pick (A := coA p _) PC ?_
      refine J_asTo (B := coA p (kDec (k + 1) s i r v)) (by rw [kDec, hq]; simp only [haf]) ?_
      exact J_return (()) Tryz.results54 (.tmp rfl .nil) rfl SU
    ·
     refine x_alloc ty104 rfl fun b11 => i1 3 rfl <| x_call Tryz.func90 nm90 bd90 (.cons rfl (.cons rfl .nil)) rfl (coRqAfter (s := (kTell (kDec k) (kForget { s with rt := del s.rt i } i) (i, q.e.tag, q.e.op, r, v, false))) (i := i) PC hF3.1.ids (by have := hF3.1.jn; have := hF3.1.mm; omega)) fun _ => ?_
     refine ip 4 rfl rfl rfl rfl (p_move rfl) <| ip 5 rfl rfl rfl rfl (p_extract rfl rfl) <| ip 6 rfl rfl rfl rfl (p_extract rfl rfl) <| i1 8 rfl <| x_store rfl rfl ty104 rfl SM SM RO PT ?_
     refine ip 9 rfl rfl rfl rfl (p_assign rfl) <| i0 <| qx <| mv rfl rfl <| mv rfl rfl ?_
     refine J_gsplit (t := 49) rfl (fun h49 => ?_) (fun h49 => ?_)
     ·
      obtain ⟨x, haf⟩ : ∃ x, afterQ (kTell (kDec k) (kForget { s with rt := del s.rt i } i) (i, q.e.tag, q.e.op, r, v, false)).rt i = some x := by
       cases hz : afterQ (kTell (kDec k) (kForget { s with rt := del s.rt i } i) (i, q.e.tag, q.e.op, r, v, false)).rt i with
       | none => rw [hz] at h49; simp at h49
       | some x => exact ⟨x, rfl⟩
      refine J_pick (A := blk b11 _ _) PC ?_
      refine J_asTo (B := blk b11 104 (encQ x)) (by rw [haf]; rfl) <| L_op <| G_on rfl rfl rfl <| J_pur (p_fieldAddr rfl fa104_3) rfl rfl rfl <| L_op <| G_on rfl rfl rfl <| J_val (v_load rfl ty4 HS (by exact rfl)) rfl rfl rfl ?_
      refine L_pur rfl (p_pick_t rfl rfl) <| mv rfl rfl ?_
      refine J_gsplit (t := 53) rfl (fun h53 => ?_) (fun h53 => ?_)
      ·
       refine L_op <| G_on rfl rfl rfl <| J_pur (p_move rfl) rfl rfl rfl <| L_op <| G_on rfl rfl rfl <| J_pur (p_lss rfl rfl) rfl rfl rfl <| L_pur rfl (p_pick_t rfl rfl) <| nq ?_
       refine C_dec rfl (fun h56 => ?_) (fun h56 => ?_)
       ·
        refine J_region <| mv rfl rfl <| fa rfl rfl fa104_0 <| L_val rfl (v_loadA rfl ty39 HS CT) ?_
        refine L_op <| x_call Tryz.func54 nm54 bd54 (.cons rfl (.cons rfl (.cons rfl (.cons rfl .nil)))) rfl (hD k rfl _ _ _ p (kTell (kDec k) (kForget { s with rt := del s.rt i } i) (i, q.e.tag, q.e.op, r, v, false)) x.id (-9) 0 PC (Nat.le_trans hF3.2 hn2) hF3.1) fun _ => ?_
        refine nx <| ag rfl rfl <| nq <| J_ret <| J_pick (A := coA p _) PC ?_
        refine J_asTo (B := coA p (kDec (k + 1) s i r v)) (by rw [kDec, hq]; simp only [haf]; rw [if_pos ⟨h53, h56⟩]) ?_
        exact J_return (()) Tryz.results54 (.tmp rfl .nil) rfl SU
       ·
        refine J_skip <| qx <| ag rfl rfl <| nq <| J_ret <| J_pick (A := coA p _) PC ?_
        refine J_asTo (B := coA p (kDec (k + 1) s i r v)) (by rw [kDec, hq]; simp only [haf]; rw [if_neg (by intro hc; simp_all)]) ?_
        exact J_return (()) Tryz.results54 (.tmp rfl .nil) rfl SU
      ·
       refine L_op <| G_off rfl rfl rfl rfl rfl rfl <| L_op <| G_off rfl rfl rfl rfl rfl rfl <| L_pur rfl (p_pick_f rfl rfl) <| nq <| C_false rfl <| J_skip ?_
       refine qx <| ag rfl rfl <| nq <| J_ret <| J_pick (A := coA p _) PC ?_
       refine J_asTo (B := coA p (kDec (k + 1) s i r v)) (by rw [kDec, hq]; simp only [haf]; rw [if_neg (by intro hc; simp_all)]) ?_
       exact J_return (()) Tryz.results54 (.tmp rfl .nil) rfl SU
     ·
      have haf : afterQ (kTell (kDec k) (kForget { s with rt := del s.rt i } i) (i, q.e.tag, q.e.op, r, v, false)).rt i = none := by
       cases hz : afterQ (kTell (kDec k) (kForget { s with rt := del s.rt i } i) (i, q.e.tag, q.e.op, r, v, false)).rt i with
       | none => rfl
       | some x => rw [hz] at h49; simp at h49
      refine L_op <| G_off rfl rfl rfl rfl rfl rfl <| L_op <| G_off rfl rfl rfl rfl rfl rfl <| L_pur rfl (p_pick_f rfl rfl) <| mv rfl rfl <| L_op <| G_off rfl rfl rfl rfl rfl rfl ?_
      refine L_op <| G_off rfl rfl rfl rfl rfl rfl <| L_pur rfl (p_pick_f rfl rfl) <| nq <| C_false rfl <| J_skip <| qx <| ag rfl rfl ?_
      refine nq <| J_ret <| J_pick (A := coA p _) PC ?_
      refine J_asTo (B := coA p (kDec (k + 1) s i r v)) (by rw [kDec, hq]; simp only [haf]) ?_
      exact J_return (()) Tryz.results54 (.tmp rfl .nil) rfl SU
   ·
    refine x_alloc ty104 rfl fun b11 => i1 1 rfl <| x_call Tryz.func22 nm22 bd22 (.cons rfl .nil) rfl (coReqs) fun _ => i1 3 rfl <| x_call Tryz.func90 nm90 bd90 (.cons rfl (.cons rfl .nil)) rfl (coRqAfter (s := (kTell (kDec k) (kForget { s with rt := del s.rt i } i) (i, q.e.tag, q.e.op, r, v, false))) (i := i) PC hF3.1.ids (by have := hF3.1.jn; have := hF3.1.mm; omega)) fun _ => ?_
    refine ip 4 rfl rfl rfl rfl (p_move rfl) <| ip 5 rfl rfl rfl rfl (p_extract rfl rfl) <| ip 6 rfl rfl rfl rfl (p_extract rfl rfl) <| i1 8 rfl <| x_store rfl rfl ty104 rfl SM SM RO PT ?_
    refine ip 9 rfl rfl rfl rfl (p_assign rfl) <| i0 <| qx <| mv rfl rfl <| mv rfl rfl ?_
    refine J_gsplit (t := 49) rfl (fun h49 => ?_) (fun h49 => ?_)
    ·
     obtain ⟨x, haf⟩ : ∃ x, afterQ (kTell (kDec k) (kForget { s with rt := del s.rt i } i) (i, q.e.tag, q.e.op, r, v, false)).rt i = some x := by
      cases hz : afterQ (kTell (kDec k) (kForget { s with rt := del s.rt i } i) (i, q.e.tag, q.e.op, r, v, false)).rt i with
      | none => rw [hz] at h49; simp at h49
      | some x => exact ⟨x, rfl⟩
     refine J_pick (A := blk b11 _ _) PC ?_
     refine J_asTo (B := blk b11 104 (encQ x)) (by rw [haf]; rfl) <| L_op <| G_on rfl rfl rfl <| J_pur (p_fieldAddr rfl fa104_3) rfl rfl rfl <| L_op <| G_on rfl rfl rfl <| J_val (v_load rfl ty4 HS (by exact rfl)) rfl rfl rfl ?_
     refine L_pur rfl (p_pick_t rfl rfl) <| mv rfl rfl ?_
     refine J_gsplit (t := 53) rfl (fun h53 => ?_) (fun h53 => ?_)
     ·
      refine L_op <| G_on rfl rfl rfl <| J_pur (p_move rfl) rfl rfl rfl <| L_op <| G_on rfl rfl rfl <| J_pur (p_lss rfl rfl) rfl rfl rfl <| L_pur rfl (p_pick_t rfl rfl) <| nq ?_
      refine C_dec rfl (fun h56 => ?_) (fun h56 => ?_)
      ·
       refine J_region <| mv rfl rfl <| fa rfl rfl fa104_0 <| L_val rfl (v_loadA rfl ty39 HS CT) ?_
       refine L_op <| x_call Tryz.func54 nm54 bd54 (.cons rfl (.cons rfl (.cons rfl (.cons rfl .nil)))) rfl (hD k rfl _ _ _ p (kTell (kDec k) (kForget { s with rt := del s.rt i } i) (i, q.e.tag, q.e.op, r, v, false)) x.id (-9) 0 PC (Nat.le_trans hF3.2 hn2) hF3.1) fun _ => ?_
       refine nx <| ag rfl rfl <| nq <| J_ret <| J_pick (A := coA p _) PC ?_
       refine J_asTo (B := coA p (kDec (k + 1) s i r v)) (by rw [kDec, hq]; simp only [haf]; rw [if_pos ⟨h53, h56⟩]) ?_
       exact J_return (()) Tryz.results54 (.tmp rfl .nil) rfl SU
      ·
       refine J_skip <| qx <| ag rfl rfl <| nq <| J_ret <| J_pick (A := coA p _) PC ?_
       refine J_asTo (B := coA p (kDec (k + 1) s i r v)) (by rw [kDec, hq]; simp only [haf]; rw [if_neg (by intro hc; simp_all)]) ?_
       exact J_return (()) Tryz.results54 (.tmp rfl .nil) rfl SU
     ·
      refine L_op <| G_off rfl rfl rfl rfl rfl rfl <| L_op <| G_off rfl rfl rfl rfl rfl rfl <| L_pur rfl (p_pick_f rfl rfl) <| nq <| C_false rfl <| J_skip ?_
      refine qx <| ag rfl rfl <| nq <| J_ret <| J_pick (A := coA p _) PC ?_
      refine J_asTo (B := coA p (kDec (k + 1) s i r v)) (by rw [kDec, hq]; simp only [haf]; rw [if_neg (by intro hc; simp_all)]) ?_
      exact J_return (()) Tryz.results54 (.tmp rfl .nil) rfl SU
    ·
     have haf : afterQ (kTell (kDec k) (kForget { s with rt := del s.rt i } i) (i, q.e.tag, q.e.op, r, v, false)).rt i = none := by
      cases hz : afterQ (kTell (kDec k) (kForget { s with rt := del s.rt i } i) (i, q.e.tag, q.e.op, r, v, false)).rt i with
      | none => rfl
      | some x => rw [hz] at h49; simp at h49
     refine L_op <| G_off rfl rfl rfl rfl rfl rfl <| L_op <| G_off rfl rfl rfl rfl rfl rfl <| L_pur rfl (p_pick_f rfl rfl) <| mv rfl rfl <| L_op <| G_off rfl rfl rfl rfl rfl rfl ?_
     refine L_op <| G_off rfl rfl rfl rfl rfl rfl <| L_pur rfl (p_pick_f rfl rfl) <| nq <| C_false rfl <| J_skip <| qx <| ag rfl rfl ?_
     refine nq <| J_ret <| J_pick (A := coA p _) PC ?_
     refine J_asTo (B := coA p (kDec (k + 1) s i r v)) (by rw [kDec, hq]; simp only [haf]) ?_
     exact J_return (()) Tryz.results54 (.tmp rfl .nil) rfl SU
theorem decC : ∀ n N M, DecC n N M
  | 0, N, M => fun E l m p s i r v hp hn hF => coDecStep hp (fun k h => by cases h) hn hF
  | n + 1, N, M => fun E l m p s i r v hp hn hF => coDecStep hp (fun k h => by cases h; exact decC n N M) hn hF
/-- Decide. -/
theorem coDecide {E : World} {l m : List As} {p : Nat} {s : KS} (hp : Pick (coA p s) l m) {N M : Nat} {i : ID} {r v : Int} (hF : Fits s N M) : Con Tryz.prog 54 #[.pointer (some ⟨p, 0, none⟩), .agg (encI i).toArray, .int .i64 r, .int .u32 v] E l (fun _ : Unit => .bool (look s.rt i).isSome) (fun _ => coA p (kDec s.rt.length s i r v) :: m) := decC s.rt.length N M E l m p s i r v hp (Nat.le_refl _) hF
end Go.Pse
namespace Go.Pse
open Go.RowKit Go.Proofs
/-! ### plain: a ring that has room -/
/-- Ring g: its completions' unit is c, its tail t; none waits; the head that stands in memory is 0. -/
def Rdy (s : KS) (g c t : Int) : Prop := ∃ b r, look s.rg g = some (b, r) ∧ r.over = [] ∧ r.tail = t ∧ r.cb = 4 ∧ r.cq = c ∧ getN (rowAt s.mem c) 0 4 = 0
theorem getN_far {bs ys : List Int} {a : Nat} (h : 4 ≤ a) (hl : a ≤ bs.length) : getN (putB bs a ys) 0 4 = getN bs 0 4 := by
  have e : ∀ k, k < 4 → byteAt (putB bs a ys) (0 + k) = byteAt bs (0 + k) := fun k hk => by
    unfold byteAt putB
    rw [List.append_assoc, List.getElem?_append_left (by simp; omega), List.getElem?_take_of_lt (by omega)]
  simp only [getN, e 0 (by omega), e 1 (by omega), e 2 (by omega), e 3 (by omega)]
theorem getN_row {r : Rg} {ms : List (List Int)} (hr : RgOk r) (hM : MemOk ms) (c : Cqe) : getN (rgRow r ms c) 0 4 = getN (rowAt ms r.cq) 0 4 := by
  obtain ⟨h1, h2, h3⟩ := hM.at hr.cq
  have h4 := place_in hr
  unfold rgRow
  rw [getN_far (by omega) (by rw [putB_len (by rw [bytesX_len]; omega), h2]; omega), getN_far (by omega) (by rw [h2]; omega)]
theorem rowAt_set {ms : List (List Int)} {u c : Int} {x : List Int} (hu : 1 ≤ u ∧ u ≤ 64) (hc : 1 ≤ c) (hl : ms.length = 64) : rowAt (ms.set (u - 1).toNat x) c = if c = u then x else rowAt ms c := by
  unfold rowAt
  by_cases h : c = u
  · subst h; rw [if_pos rfl, List.getElem?_set_self (by omega)]; rfl
  · rw [if_neg h, List.getElem?_set_ne (by omega)]
theorem rdy_ok {r : Rg} {ms : List (List Int)} {t : Int} (h1 : r.over = []) (h2 : r.tail = t) (h3 : r.cb = 4) (h4 : getN (rowAt ms r.cq) 0 4 = 0) (ht : 0 ≤ t ∧ t < 16) : postOk r ms = true := by
  unfold postOk rgWrOk rgFar
  rw [h1, h2, h3, h4, Int.sub_zero, wrap32u_of (by omega)]
  simp only [List.isEmpty_nil, Bool.true_and, decide_eq_true_eq]
  show t < 2 ^ 4
  omega
theorem look_updO {α : Type} {u g : Int} {f : α → α} : ∀ {xs : List (Int × Nat × α)}, look (updO xs u f) g = (look xs g).map fun x => if g = u then (x.1, f x.2) else x
  | [] => rfl
  | x :: xs => by
    unfold updO
    rw [List.map_cons, look_cons, look_cons, show List.map _ xs = updO xs u f from rfl, look_updO]
    by_cases hx : x.1 = u
    · rw [if_pos hx]
      by_cases hg : x.1 = g
      · simp [hg, hg ▸ hx]
      · simp [hg]
    · rw [if_neg hx]
      by_cases hg : x.1 = g
      · have : ¬ g = u := fun e => hx (hg.trans e)
        simp [hg, this]
      · simp [hg]
theorem kPost_some {s : KS} {d : Deed} {b : Nat} {r : Rg} (h : look s.rg d.1.1 = some (b, r)) : kPost s d = { s with rg := updO s.rg d.1.1 (fun r => postR r s.mem (ofD d)), mem := postM r s.mem (ofD d) } := by
  unfold kPost; rw [h]
theorem kPost_rg {s : KS} {d : Deed} {b : Nat} {r : Rg} (h : look s.rg d.1.1 = some (b, r)) : (kPost s d).rg = updO s.rg d.1.1 (fun r => postR r s.mem (ofD d)) := by rw [kPost_some h]
theorem Rdy.post {s : KS} {N M : Nat} (hF : Fits s N M) {g c t : Int} (h : Rdy s g c t) (ht : 0 ≤ t ∧ t < 16) {d : Deed} (hd : d.1.1 = g) : Rdy (kPost s d) g c (t + 1) := by
  subst hd
  obtain ⟨b, r, h1, h2, h3, h4, h5, h6⟩ := h
  have hro := (hF.rg _ (mem_look h1)).1
  have hr : RgOk r := hro
  have hok := rdy_ok (ms := s.mem) h2 h3 h4 (by rw [h5]; exact h6) ht
  refine ⟨b, rgUp r, ?_, h2, ?_, h4, h5, ?_⟩
  · rw [kPost_rg h1, look_updO, h1]
    simp [postR, hok]
  · show IntKind.u32.wrap (r.tail + 1) = _
    rw [h3, wrap32u_of (by omega)]
  · rw [kPost_some h1]
    show getN (rowAt (postM r s.mem (ofD d)) c) 0 4 = 0
    unfold postM
    rw [hok, if_pos rfl, ← h5, rowAt_set hr.cq hr.cq.1 hF.mem.len, if_pos rfl, getN_row hr hF.mem, h5, h6]
theorem Rdy.other {s : KS} {N M : Nat} (hF : Fits s N M) {g c t g2 c2 t2 : Int} (h : Rdy s g c t) (h2 : Rdy s g2 c2 t2) (hg : g ≠ g2) (hc : c ≠ c2) {d : Deed} (hd : d.1.1 = g2) : Rdy (kPost s d) g c t := by
  subst hd
  obtain ⟨b, r, h1, e2, e3, e4, e5, e6⟩ := h
  obtain ⟨b2, r2, k1, _, _, _, k5, _⟩ := h2
  have hr : RgOk r := (hF.rg _ (mem_look h1)).1
  have hr2 : RgOk r2 := (hF.rg _ (mem_look k1)).1
  refine ⟨b, r, ?_, e2, e3, e4, e5, ?_⟩
  · rw [kPost_rg k1, look_updO, h1]
    simp [hg]
  · rw [kPost_some k1]
    show getN (rowAt (postM r2 s.mem (ofD d)) c) 0 4 = 0
    unfold postM
    split
    · rw [rowAt_set hr2.cq (by have := hr.cq; omega) hF.mem.len, if_neg (by rw [k5]; exact hc)]; exact e6
    · exact e6
theorem kPost_be {s : KS} {d : Deed} : (kPost s d).be = s.be := by unfold kPost; split <;> rfl
theorem kPost_nt {s : KS} {d : Deed} : (kPost s d).nt = s.nt := by unfold kPost; split <;> rfl
theorem kSaid_nt {s : KS} {d : Deed} : (kSaid s d).nt = s.nt := by unfold kSaid; rw [kPost_nt]
theorem kSaid_be {s : KS} {d : Deed} : (kSaid s d).be = s.be := by unfold kSaid; rw [kPost_be]
theorem kTell_quiet {D : KS → ID → Int → Int → KS} {s : KS} {d : Deed} (h : s.nt = []) : kTell D s d = kSaid s d := by
  unfold kTell; rw [kSaid_nt, h]; rfl
/-- What follows a request that has ended: the one that hangs on it. -/
def kNext (D : KS → ID → Int → Int → KS) (s : KS) (i : ID) (r : Int) : KS := match afterQ s.rt i with
  | none => s
  | some x => if x.soft = true ∧ r < 0 then D s x.id (-9) 0 else s
theorem kDec_some {n : Nat} {s : KS} {i : ID} {r v : Int} {q : Rq} (hq : look s.rt i = some q) : kDec (n + 1) s i r v = kNext (kDec n) (kTell (kDec n) (kForget { s with rt := del s.rt i } i) (i, q.e.tag, q.e.op, r, v, false)) i r := by
  rw [kDec, hq]
  simp only []
  generalize kTell (kDec n) (kForget { s with rt := del s.rt i } i) (i, q.e.tag, q.e.op, r, v, false) = t
  unfold kNext
  cases afterQ t.rt i <;> rfl
theorem afterQ_no {ps : List (ID × Rq)} {i : ID} (hu : ∀ e ∈ ps, e.2.prev ≠ i.2) : afterQ ps i = none :=
  find_gone fun y hy => by
    obtain ⟨k2, h2, _⟩ := ofQ_mem.1 hy
    simpa using hu _ h2
/-! ### plain: a row of requests, each on the one ahead -/
section
variable {soft : List Bool} {a j n : Nat}
end
end Go.Pse
namespace Go.Pse
open Go.RowKit Go.Proofs
theorem zrow_ok : MemOk (List.replicate 64 zrow) := ⟨List.length_replicate, fun r hr => by
  rw [List.eq_of_mem_replicate hr]
  exact ⟨List.length_replicate, fun x hx => by rw [List.eq_of_mem_replicate hx]; omega⟩⟩
theorem getN_zero : getN zrow 0 4 = 0 := by
  have h : ∀ k, byteAt zrow k = 0 := fun k => by
    unfold byteAt zrow
    rw [List.getElem?_replicate]
    split <;> rfl
  simp [getN, h]
theorem rowAt_zero {u : Int} (hu : 1 ≤ u ∧ u ≤ 64) : rowAt (List.replicate 64 zrow) u = zrow := by
  unfold rowAt
  rw [List.getElem?_replicate, if_pos (by omega)]; rfl
/-- How all begins with one thread: what Decide asks. -/
structure One (K : KS) (cs cc : Int) (g : NewG) : Prop where
  rt : K.rt = []
  jn : K.jn = []
  nt : K.nt = []
  rg : K.rg = [(4, (g.bs 0).1, rgNew 5 6 cs cc)]
  mem : K.mem = List.replicate 64 zrow
  fit : Fits K 20 40
theorem one_is (g : NewG) : One (kNew 1 1 0 0 false g) 0 0 g ∧ One (kNew 1 1 3 4 false g) 3 4 g := by
  have hrg : ∀ cs cc : Int, 0 ≤ cc ∧ cc ≤ 4 → RgOk (rgNew 5 6 cs cc) := fun cs cc h => ⟨⟨by show (1 : Int) ≤ 5; omega, by show (5 : Int) ≤ 64; omega⟩, ⟨by show (1 : Int) ≤ 6; omega, by show (6 : Int) ≤ 64; omega⟩, ⟨by show 0 ≤ cutI cc 0 4; unfold cutI; split <;> split <;> omega, by show cutI cc 0 4 ≤ 4; unfold cutI; split <;> split <;> omega⟩, ⟨by show (0 : Int) ≤ 0; omega, by show (0 : Int) < _; omega⟩⟩
  constructor
  · exact ⟨rfl, rfl, rfl, rfl, rfl, ⟨by omega, by omega, Ids.nil, by show 0 ≤ 40; omega, by show 0 ≤ 20; omega, fun x hx => (by cases hx), fun x hx => (by cases hx), fun x hx => by
      obtain rfl := List.mem_singleton.1 (show x ∈ [(7, (g.bs 0).2, (0, 0), false)] from hx)
      exact ⟨by show (1 : Int) ≤ 7; omega, by show (7 : Int) ≤ 64; omega⟩, fun x hx => by
      obtain rfl := List.mem_singleton.1 (show x ∈ [(4, (g.bs 0).1, rgNew 5 6 0 0)] from hx)
      exact ⟨hrg 0 0 (by omega), by show 0 ≤ 40; omega⟩, zrow_ok⟩⟩
  · exact ⟨rfl, rfl, rfl, rfl, rfl, ⟨by omega, by omega, Ids.nil, by show 0 ≤ 40; omega, by show 0 ≤ 20; omega, fun x hx => (by cases hx), fun x hx => (by cases hx), fun x hx => by
      obtain rfl := List.mem_singleton.1 (show x ∈ [(7, (g.bs 0).2, (0, 0), false)] from hx)
      exact ⟨by show (1 : Int) ≤ 7; omega, by show (7 : Int) ≤ 64; omega⟩, fun x hx => by
      obtain rfl := List.mem_singleton.1 (show x ∈ [(4, (g.bs 0).1, rgNew 5 6 3 4)] from hx)
      exact ⟨hrg 3 4 (by omega), by show 0 ≤ 40; omega⟩, zrow_ok⟩⟩
theorem One.fits {K : KS} {cs cc : Int} {g : NewG} (h : One K cs cc g) {ps : List (ID × Rq)} (hI : Ids ps) (hl : ps.length ≤ 12) : Fits { K with rt := ps } 20 60 :=
  ⟨h.fit.n, by omega, hI, by show K.jn.length + ps.length ≤ 60; rw [h.jn]; simp; omega, h.fit.tm, h.fit.ep, h.fit.nt, h.fit.rp, fun x hx => by
    have := h.fit.rg x hx
    exact ⟨this.1, by have := this.2; rw [h.rt] at this; simp at this; show _ + ps.length ≤ 60; omega⟩, h.fit.mem⟩
theorem ofQ_nil (g : Int) : ofQ [] g = [] := List.length_eq_zero_iff.1 (Nat.le_zero.1 (ofQ_len [] g))
end Go.Pse
namespace Go.Pse
open Go.RowKit Go.Proofs
/-! ### plain: two threads that share; the first ring's requests -/
structure Duo (K : KS) (g : NewG) : Prop where
  rt : K.rt = []
  jn : K.jn = []
  tm : K.tm = []
  nt : K.nt = [(22, g.bn, 0, [])]
  ep : K.ep = [(21, g.be, [], [])]
  rp : K.rp = [(7, (g.bs 0).2, (0, 0), false), (17, (g.bs 1).2, (0, 0), false)]
  rg : K.rg = [(4, (g.bs 0).1, rgNew 5 6 3 4), (14, (g.bs 1).1, rgNew 15 16 3 4)]
  be4 : look K.be 4 = some (22, 1)
  be14 : look K.be 14 = some (22, 2)
  mem : K.mem = List.replicate 64 zrow
  fit : Fits K 20 40
theorem rgNew_ok {a : Int} (h : 1 ≤ a ∧ a ≤ 63) : RgOk (rgNew a (a + 1) 3 4) := ⟨⟨by show 1 ≤ a; omega, by show a ≤ 64; omega⟩, ⟨by show 1 ≤ a + 1; omega, by show a + 1 ≤ 64; omega⟩, ⟨by show 0 ≤ cutI 4 0 4; decide, by show cutI 4 0 4 ≤ 4; decide⟩, ⟨by show (0 : Int) ≤ 0; omega, by show (0 : Int) < _; omega⟩⟩
theorem Duo.fits {K : KS} {g : NewG} (h : Duo K g) {ps : List (ID × Rq)} (hI : Ids ps) (hl : ps.length ≤ 13) : Fits { K with rt := ps } 20 60 :=
  ⟨h.fit.n, by omega, hI, by show K.jn.length + ps.length ≤ 60; rw [h.jn]; simp; omega, h.fit.tm, h.fit.ep, h.fit.nt, h.fit.rp, fun x hx => by
    have := h.fit.rg x hx
    exact ⟨this.1, by have := this.2; rw [h.rt] at this; simp at this; show _ + ps.length ≤ 60; omega⟩, h.fit.mem⟩
end Go.Pse
namespace Go.Pse
open Go.RowKit Go.Proofs
/-- Those that wait end, one by one. -/
def kEnds (s : KS) (l : List ID) : KS := l.foldl (fun s i => kDec s.rt.length s i (-9) 0) s
theorem Fits.ends {N M : Nat} : ∀ {l : List ID} {s : KS}, Fits s N M → Fits (kEnds s l) N M
  | [], _, h => h
  | i :: l, s, h => Fits.ends (l := l) (Fits.dec _ (i := i) (r := -9) (v := 0) h).1
end Go.Pse
namespace Go.Pse
open Go.RowKit
section
variable {P : Program} {ops : Array Oper} {Q : Exit → Act → World → Prop} {E : World} {l L : List As} {n : Nat} {F : Env}
theorem I_takeOnP {i : Nat} {o : Oper} {v : Value} {d : Nat} {g : Option Nat} {fuel : Nat} {listed : Array Bool} (ho : ops[i]? = some o) (hd : o.dst = some d) (hdn : Nat.blt d n = true) {j t : Nat} {c : Bool} {og : Oper} (hg : o.guard = some (j, c)) (hj : ops[j]? = some og) (ht : og.dst = some t) (hb : get F t = some (.bool c))
    (hok : takeOkP g ops listed i = true)
    (hQ : ∀ c a v w, Q (.panic c) (a.put (some d) v) w → Q (.panic c) a w) (hv : Pur P o F n v)
    (k : Jk E l n ((d, v) :: F) (wpI P .any ops Q (Inv L) g fuel (listed.setIfInBounds i true))) : Jk E l n F (wpI P .any ops Q (Inv L) g (fuel + 1) listed) := fun w a H hF => by
  simp only [takeOkP, Bool.and_eq_true] at hok
  obtain ⟨⟨⟨h1, h2⟩, h3⟩, h4⟩ := hok
  have h0 : yielded ops a.tmps j = some c := by simp [yielded, hj, ht, hF.get t _ hb]
  exact wpI_firstP ho (Region.noSelect_spec h1) (by rw [hd]; exact fun c a w => hQ c a v w) (fun e => by subst e; simp at h4) fuel listed a w (Region.free_spec ho h2) (by simpa using h3) (Or.inl ⟨by simp [Region.wanted, hg, h0], fun w _ => hv a hF w⟩) (by rw [hd]; exact k w _ H (hF.put hdn))
end
end Go.Pse
namespace Go.Pse
open Go.RowKit Go.Proofs
/-! ### plain: what is decided, one thing at a time; all but rings, memory, the journal stays -/
/-- A ring's bell in the notification's word. -/
def rungNt (s : KS) (g : Int) : List (Int × Nat × Int × List ID) := match look s.nt (kBell s g).1 with
  | none => s.nt
  | some _ => updO s.nt (kBell s g).1 (ntS (kBell s g).2)
/-- Nobody is woken by a ring's bell. -/
def Calm (s : KS) (g : Int) : Prop := ∀ x, look s.nt (kBell s g).1 = some x → woke x.2.1 x.2.2 (kBell s g).2 = false
theorem kTell_calm {D : KS → ID → Int → Int → KS} {s : KS} {d : Deed} (h : Calm s d.1.1) : kTell D s d = { kSaid s d with nt := rungNt s d.1.1 } := by
 have e : kBell (kSaid s d) d.1.1 = kBell s d.1.1 := by unfold kBell; rw [kSaid_be]
 have ht : (kSaid s d).nt = s.nt := kSaid_nt
 unfold kTell rungNt kRung
 rw [e]
 generalize kSaid s d = t at ht e ⊢
 rw [ht]
 cases hn : look s.nt (kBell s d.1.1).1 with
 | none =>
  dsimp only
  rw [← ht]
 | some x =>
  obtain ⟨b, w, xs⟩ := x
  have hw : woke w xs (kBell s d.1.1).2 = false := h (b, w, xs) hn
  dsimp only
  rw [hw, if_neg (by decide)]
def deedQ (i : ID) (q : Rq) (r v : Int) : Deed := (i, q.e.tag, q.e.op, r, v, false)
/-- What a request's end leaves: RG, MS: rings, memory. -/
def decS (s : KS) (i : ID) (q : Rq) (r v : Int) (RG : List (Int × Nat × Rg)) (MS : List (List Int)) : KS :=
  { s with rt := del s.rt i, tm := tdrop s.tm i, ep := allO (epD i) s.ep, rp := allO (rpD i) s.rp, nt := rungNt (kForget s i) i.1, jn := s.jn ++ [deedQ i q r v], rg := RG, mem := MS }
theorem kSaid_parts (s : KS) (d : Deed) : kSaid s d = { s with jn := s.jn ++ [d], rg := (kSaid s d).rg, mem := (kSaid s d).mem } := by
  unfold kSaid kPost; split <;> rfl
theorem afterQ_none {ps : List (ID × Rq)} {i : ID} (h : ∀ e ∈ ps, e.2.prev ≠ i.2) : afterQ (del ps i) i = none := afterQ_no fun e he => h e (List.mem_filter.1 he).1
theorem dec_one {s : KS} {N M : Nat} {i : ID} {q : Rq} {r v c t : Int} (hq : look s.rt i = some q) (ha : ∀ e ∈ s.rt, e.2.prev ≠ i.2) (hF : Fits s N M) (hC : Calm (kForget s i) i.1) (hR : Rdy s i.1 c t) (ht : 0 ≤ t ∧ t < 16) :
    ∃ RG MS, kDec s.rt.length s i r v = decS s i q r v RG MS ∧ Rdy (decS s i q r v RG MS) i.1 c (t + 1) ∧ (∀ g2 c2 t2, g2 ≠ i.1 → c2 ≠ c → Rdy s g2 c2 t2 → Rdy (decS s i q r v RG MS) g2 c2 t2) ∧ Fits (decS s i q r v RG MS) N M := by
  have hl := del_less hq
  obtain ⟨n, hn⟩ : ∃ n, s.rt.length = n + 1 := ⟨s.rt.length - 1, by omega⟩
  obtain ⟨M, rfl⟩ : ∃ M', M = M' + 1 := ⟨M - 1, by have := hF.jn; omega⟩
  have hF1 := (hF.drop hq).forget i
  obtain ⟨s1, hs1⟩ : ∃ s1, s1 = kForget { s with rt := del s.rt i } i := ⟨_, rfl⟩
  have hC1 : Calm s1 (deedQ i q r v).1.1 := by rw [hs1]; exact hC
  have hk : kDec s.rt.length s i r v = { kSaid s1 (deedQ i q r v) with nt := rungNt s1 i.1 } := by
    rw [hn, kDec_some hq, ← hs1, show (i, q.e.tag, q.e.op, r, v, false) = deedQ i q r v from rfl, kTell_calm hC1]
    unfold kNext
    rw [show (KS.rt { kSaid s1 (deedQ i q r v) with nt := rungNt s1 (deedQ i q r v).1.1 }) = del s.rt i by show (kSaid s1 _).rt = _; rw [kSaid_rt, hs1]; rfl, afterQ_none ha]
    rfl
  rw [← hs1] at hF1
  have hR1 : Rdy s1 i.1 c t := by rw [hs1]; exact hR
  have hJ := hF1.jnl hF.mm (deedQ i q r v)
  refine ⟨(kSaid s1 (deedQ i q r v)).rg, (kSaid s1 (deedQ i q r v)).mem, ?_, ?_, fun g2 c2 t2 hg hc h2 => ?_, ?_⟩
  · rw [hk, kSaid_parts, hs1]; rfl
  · exact Rdy.post hJ (g := i.1) (c := c) (t := t) hR1 ht (d := deedQ i q r v) rfl
  · have h3 : Rdy s1 g2 c2 t2 := by rw [hs1]; exact h2
    exact Rdy.other hJ (g := g2) (c := c2) (t := t2) h3 hR1 hg hc (d := deedQ i q r v) rfl
  · have h4 := (Fits.dec s.rt.length (i := i) (r := r) (v := v) hF).1
    rw [hk, kSaid_parts, hs1] at h4
    rw [hs1]; exact h4
/-- Where a deed of an ID stands. -/
def atJ (jn : List Deed) (i : ID) : Option Deed := jn.find? fun d => decide (d.1 = i)
theorem atJ_snoc {jn : List Deed} {d : Deed} {i : ID} (h : d.1 = i) (h0 : ∀ e ∈ jn, e.1 ≠ i) : atJ (jn ++ [d]) i = some d := by
  unfold atJ
  rw [List.find?_append, List.find?_eq_none.2 (fun e he => by simpa using h0 e he)]
  simp [h]
theorem atJ_none {jn : List Deed} {i : ID} (h0 : ∀ e ∈ jn, e.1 ≠ i) : atJ jn i = none := List.find?_eq_none.2 fun e he => by simpa using h0 e he
/-- What an ask tells: the result, the value, whether it is decided. -/
def askR (jn : List Deed) (i : ID) : Int × Int × Bool := match atJ jn i with
  | none => (0, 0, false)
  | some d => (d.2.2.2.1, d.2.2.2.2.1, true)
def rqN (i : ID) (e : Sqe) : Rq := ⟨i, e, 0, false, false⟩
/-- A request has begun. -/
def rtS (ps : List (ID × Rq)) (i : ID) : List (ID × Rq) := match look ps i with
  | none => ps
  | some q => ins ps i { q with started := true }
/-- An entry is taken in, begun: what is there when it is at work; c: how many were taken. -/
def askS (s : KS) (g c : Int) (e : Sqe) : KS := { s with tk := ins s.tk g (c + 1), rt := rtS (addQ s.rt (rqN (g, c + 1) e)) (g, c + 1) }
/-- What is there behind it: o: what came of it, if anything did. -/
def askE (s : KS) (i : ID) (o : Option (Int × Int)) : KS := match o with
  | none => s
  | some x => kDec s.rt.length s i x.1 x.2
/-- What an act does to a state, and tells. -/
def ActC (s : KS) (i : ID) (s3 : KS) (o : Option (Int × Int)) : Prop := ∀ (E : World) (l m : List As) (p : Nat), Pick (coA p s) l m →
  Con Tryz.prog 53 #[.pointer (some ⟨p, 0, none⟩), .agg (encI i).toArray] E l (fun _ : Unit => .tuple #[.int .i64 ((o.getD (0, 0)).1), .int .u32 ((o.getD (0, 0)).2), .bool o.isSome]) (fun _ => coA p s3 :: m)
end Go.Pse
namespace Go.Pse
open Go.RowKit Go.Proofs
/-! ### How all begins: what hangs on the number of threads, of units, on what is shared, and on nothing else -/
abbrev Core := Int × Bool × List (Place × SV) × List (Place × M1) × List (Int × Th) × List (Int × Int)
def kCore (s : KS) : Core := (s.cu, s.sh, s.sl, s.mp, s.th, s.q)
def kStep (k : Core) (b t h : Int) : Core := (k.1, k.2.1, tput b k.2.2.1 0 (tcap8 b k.1 ++ if k.2.1 then tcap2 t h else []), tmap b k.2.2.2.1 2, ins k.2.2.2.2.1 (b + 1) (thOf b), qAdd k.2.2.2.2.2 (b + 1) 4)
def cTh (k : Core) (u h : Int) : Nat → Core
  | 0 => k
  | i + 1 => kStep (cTh k u h i) (bOf u i) (i : Int) h
theorem kThread_core {s : KS} {b t h : Int} {r c : Nat} : kCore (kThread s b t h r c) = kStep (kCore s) b t h := by
  simp only [kCore, kStep, kThread, tcaps]
  congr 1
theorem kTh_core {s : KS} {h : Int} {bs : Nat → Nat × Nat} : ∀ i, kCore (kTh s h bs i) = cTh (kCore s) s.cu h i
  | 0 => rfl
  | i + 1 => by
    rw [kTh, kThread_core, kTh_core i, cTh]
def coreN (ct cu : Nat) (sh : Bool) : Core := cTh ((cu : Int), sh, [], [], [], []) (cu : Int) (hOf (ct : Int) (cu : Int)) ct
theorem cut_id {n lo hi : Int} (h : lo ≤ n ∧ n ≤ hi) : cutI n lo hi = n := by unfold cutI; split <;> split <;> omega
section
variable {ct cu : Nat} {cs cc : Int} {sh : Bool} {g : NewG} (h1 : 1 ≤ ct ∧ ct ≤ 3) (h2 : 1 ≤ cu ∧ cu ≤ 12)
include h1 h2 in
theorem kNew_is : kNew (ct : Int) (cu : Int) cs cc sh g = kTh (kBase (ct : Int) (cu : Int) (cutI cs 0 3) (cutI cc 0 4) sh g.mb g.be g.bn) (hOf (ct : Int) (cu : Int)) g.bs ct := by
  unfold kNew
  rw [cut_id (show (1 : Int) ≤ (ct : Int) ∧ (ct : Int) ≤ 3 by omega), cut_id (show (1 : Int) ≤ (cu : Int) ∧ (cu : Int) ≤ 12 by omega), Int.toNat_natCast]
include h1 h2 in
theorem kNew_core : kCore (kNew (ct : Int) (cu : Int) cs cc sh g) = coreN ct cu sh := by
  rw [kNew_is h1 h2, kTh_core]
  cases sh <;> rfl
include h1 h2 in
include h1 h2 in
end
end Go.Pse
namespace Go.Pse
open Go.RowKit Go.Proofs
/-! ### plain: one thread alone, two that share: how they begin -/
structure Al2 (K : KS) (g : NewG) : Prop where
 rt : K.rt = []
 jn : K.jn = []
 tm : K.tm = []
 nt : K.nt = [(28, g.bn, 0, [])]
 ep : K.ep = [(27, g.be, [], [])]
 rp : K.rp = [(7, (g.bs 0).2, (0, 0), false), (20, (g.bs 1).2, (0, 0), false)]
 rg : K.rg = [(4, (g.bs 0).1, rgNew 5 6 3 4), (17, (g.bs 1).1, rgNew 18 19 3 4)]
 be4 : look K.be 4 = some (28, 1)
 be17 : look K.be 17 = some (28, 2)
 mem : K.mem = List.replicate 64 zrow
 tk : K.tk = [(4, 0), (17, 0)]
 th : K.th = [(2, thOf 1), (15, thOf 14)]
 q : K.q = [(2, 4), (15, 4)]
 pr : K.pr = []
 mr : K.mr = []
 sp : K.sp = [(3, true), (16, true)]
 mp : K.mp = [((3, 0), (5, 3)), ((3, 1), (6, 3)), ((16, 0), (18, 3)), ((16, 1), (19, 3))]
 sl : K.sl = (coreN 2 6 true).2.2.1
 fit : Fits K 40 60
theorem al2_sl (g : NewG) : (kNew 2 6 3 4 true g).sl = (coreN 2 6 true).2.2.1 := by
  have hc : kCore (kNew ((2 : Nat) : Int) ((6 : Nat) : Int) 3 4 true g) = coreN 2 6 true := kNew_core (by omega) (by omega)
  rw [show ((2 : Nat) : Int) = 2 from rfl, show ((6 : Nat) : Int) = 6 from rfl] at hc
  unfold kCore at hc
  rw [← hc]
set_option maxRecDepth 100000 in
theorem al2_fit (g : NewG) : Fits (kNew 2 6 3 4 true g) 40 60 := by
  refine ⟨by omega, by omega, Ids.nil, by show 0 ≤ 60; omega, by show 0 ≤ 40; omega, fun x hx => ?_, fun x hx => ?_, fun x hx => ?_, fun x hx => ?_, zrow_ok⟩
  · obtain rfl := List.mem_singleton.1 (show x ∈ [(27, g.be, [], [])] from hx)
    exact ⟨⟨by show (1 : Int) ≤ 27; omega, by show (27 : Int) ≤ 64; omega⟩, by show 0 ≤ 40; omega, by show 0 ≤ 40; omega⟩
  · obtain rfl := List.mem_singleton.1 (show x ∈ [(28, g.bn, 0, [])] from hx)
    exact ⟨⟨by show (1 : Int) ≤ 28; omega, by show (28 : Int) ≤ 64; omega⟩, by show 0 ≤ 40; omega⟩
  · have h : x ∈ [(7, (g.bs 0).2, (0, 0), false), (20, (g.bs 1).2, (0, 0), false)] := hx
    rcases List.mem_cons.1 h with rfl | h
    · exact ⟨by show (1 : Int) ≤ 7; omega, by show (7 : Int) ≤ 64; omega⟩
    · obtain rfl := List.mem_singleton.1 h
      exact ⟨by show (1 : Int) ≤ 20; omega, by show (20 : Int) ≤ 64; omega⟩
  · have h : x ∈ [(4, (g.bs 0).1, rgNew 5 6 3 4), (17, (g.bs 1).1, rgNew 18 19 3 4)] := hx
    rcases List.mem_cons.1 h with rfl | h
    · exact ⟨rgNew_ok (a := 5) (by omega), by show 0 ≤ 60; omega⟩
    · obtain rfl := List.mem_singleton.1 h
      exact ⟨rgNew_ok (a := 18) (by omega), by show 0 ≤ 60; omega⟩
set_option maxRecDepth 100000 in
theorem al2_is (g : NewG) : Al2 (kNew 2 6 3 4 true g) g := ⟨rfl, rfl, rfl, rfl, rfl, rfl, rfl, rfl, rfl, rfl, rfl, rfl, rfl, rfl, rfl, rfl, rfl, al2_sl g, al2_fit g⟩
theorem Al2.rdy4 {K : KS} {g : NewG} (h : Al2 K g) : Rdy K 4 6 0 := ⟨(g.bs 0).1, rgNew 5 6 3 4, by rw [h.rg]; rfl, rfl, rfl, rfl, rfl, by rw [h.mem, rowAt_zero (by omega), getN_zero]⟩
/-- Whose ring it is. -/
theorem owns_is {s : KS} {r : Int} {x : Option Th} {k : Int} {T : Th} (hk : look s.th k = some T) (hr : T.ring = r) (hu : ∀ k t, look s.th k = some t → t.ring = r → t = T) (h : Owns s r x) : x = some T := by
  cases x with
  | none => exact absurd hr (h _ (mem_look hk))
  | some t =>
    obtain ⟨k2, h2, h3⟩ := h
    rw [hu k2 t h2 h3]
theorem calm_nil {s : KS} {g u x w : Int} {b : Nat} (hb : look s.be g = some (u, x)) (hn : look s.nt u = some (b, w, [])) : Calm s g := fun y hy => by
  have e : kBell s g = (u, x) := by unfold kBell; rw [hb]; rfl
  rw [e] at hy ⊢
  rw [hn] at hy; cases hy
  simp [woke]
theorem rung_nil {s : KS} {g u x w : Int} {b : Nat} (hb : look s.be g = some (u, x)) (hn : look s.nt u = some (b, w, [])) : rungNt s g = updO s.nt u (ntS x) := by
  have e : kBell s g = (u, x) := by unfold kBell; rw [hb]; rfl
  unfold rungNt
  rw [e]; dsimp only; rw [hn]
theorem Fits.req {s : KS} {N M : Nat} (h : Fits s N M) (hm : M + 1 ≤ 90000) {i : ID} {q : Rq} (hq : q.id = i) : Fits { s with rt := s.rt ++ [(i, q)] } N (M + 1) :=
  ⟨h.n, hm, fun e he => by
    rcases List.mem_append.1 he with h1 | h1
    · exact h.ids e h1
    · rw [List.mem_singleton.1 h1]; exact hq, by have := h.jn; show s.jn.length + (s.rt ++ [(i, q)]).length ≤ _; simp; omega, h.tm, h.ep, h.nt, h.rp, fun x hx => by
    have := h.rg x hx
    exact ⟨this.1, by have := this.2; show _ + (s.rt ++ [(i, q)]).length ≤ _; simp; omega⟩, h.mem⟩
/-- Two threads that share; nobody waits; L: slots; c: how many the first has asked. -/
def TS (K : KS) (g : NewG) (L : List (Place × SV)) (q pr : List (Int × Int)) (c w : Int) (jn : List Deed) (RG : List (Int × Nat × Rg)) (MS : List (List Int)) : KS :=
  { K with rt := [], tm := [], ep := [(27, g.be, [], [])], rp := [(7, (g.bs 0).2, (0, 0), false), (20, (g.bs 1).2, (0, 0), false)], sl := L, q := q, pr := pr, tk := [(4, c), (17, 0)], nt := [(28, g.bn, w, [])], jn := jn, rg := RG, mem := MS }
theorem TS_is {K : KS} {g : NewG} (h : Al2 K g) : K = TS K g K.sl [(2, 4), (15, 4)] [] 0 0 [] K.rg K.mem := by
  have e : ∀ a1 a2 a3 a4 a5 a6 a7 a8 a9, K.rt = a1 → K.tm = a2 → K.ep = a3 → K.rp = a4 → K.q = a5 → K.pr = a6 → K.tk = a7 → K.nt = a8 → K.jn = a9 → K = { K with rt := a1, tm := a2, ep := a3, rp := a4, q := a5, pr := a6, tk := a7, nt := a8, jn := a9 } := by
    intro a1 a2 a3 a4 a5 a6 a7 a8 a9 h1 h2 h3 h4 h5 h6 h7 h8 h9
    subst h1 h2 h3 h4 h5 h6 h7 h8 h9; rfl
  exact e _ _ _ _ _ _ _ _ _ h.rt h.tm h.ep h.rp h.q h.pr h.tk h.nt h.jn
def rqB (c : Int) (e : Sqe) : Rq := ⟨(4, c + 1), e, 0, false, true⟩
section
variable {K : KS} {g : NewG} {L : List (Place × SV)} {q pr : List (Int × Int)} {c w : Int} {jn : List Deed} {RG : List (Int × Nat × Rg)} {MS : List (List Int)} {e : Sqe}
theorem TS_ask : askS (TS K g L q pr c w jn RG MS) 4 c e = { TS K g L q pr (c + 1) w jn RG MS with rt := [((4, c + 1), rqB c e)] } := by
 have h2 : addQ [] (rqN (4, c + 1) e) = [((4, c + 1), rqN (4, c + 1) e)] := by
  have h : addOk [] (rqN (4, c + 1) e) = true := by unfold addOk; rw [ofQ_nil]; rfl
  unfold addQ; rw [if_pos h]; rfl
 unfold askS
 rw [show (TS K g L q pr c w jn RG MS).rt = [] from rfl, h2]
 have h3 : rtS [((4, c + 1), rqN (4, c + 1) e)] (4, c + 1) = [((4, c + 1), rqB c e)] := by
  unfold rtS
  rw [look_cons, if_pos rfl]
  dsimp only
  unfold Go.Pse.ins
  rw [look_cons, if_pos rfl]
  simp [rqN, rqB]
 rw [h3]; rfl
theorem TS_end {M : Nat} {r v t : Int} (hT : Al2 K g) (hc : 0 ≤ c) (hF : Fits (TS K g L q pr c w jn RG MS) 40 M) (hm : M + 1 ≤ 90000) (hR : Rdy (TS K g L q pr c w jn RG MS) 4 6 t) (ht : 0 ≤ t ∧ t < 16) {q' pr' : List (Int × Int)} :
  ∃ RG2 MS2, askE { TS K g L q' pr' (c + 1) w jn RG MS with rt := [((4, c + 1), rqB c e)] } (4, c + 1) (some (r, v)) = TS K g L q' pr' (c + 1) (orb w 1) (jn ++ [deedQ (4, c + 1) (rqB c e) r v]) RG2 MS2 ∧ Rdy (TS K g L q' pr' (c + 1) (orb w 1) (jn ++ [deedQ (4, c + 1) (rqB c e) r v]) RG2 MS2) 4 6 (t + 1) ∧ Fits (TS K g L q' pr' (c + 1) (orb w 1) (jn ++ [deedQ (4, c + 1) (rqB c e) r v]) RG2 MS2) 40 (M + 1) := by
 obtain ⟨s, hs⟩ : ∃ s : KS, s = { TS K g L q' pr' (c + 1) w jn RG MS with rt := [((4, c + 1), rqB c e)] } := ⟨_, rfl⟩
 have hF2 := hF.req hm (i := (4, c + 1)) (q := rqB c e) rfl
 have hF3 : Fits s 40 (M + 1) := by rw [hs]; exact ⟨hF2.n, hF2.mm, hF2.ids, hF2.jn, hF2.tm, hF2.ep, hF2.nt, hF2.rp, hF2.rg, hF2.mem⟩
 have hb : look (kForget s (4, c + 1)).be 4 = some (28, 1) := by rw [hs]; exact hT.be4
 have hn : look (kForget s (4, c + 1)).nt 28 = some (g.bn, w, []) := by rw [hs]; rfl
 have hq : look s.rt (4, c + 1) = some (rqB c e) := by rw [hs]; show look [((4, c + 1), rqB c e)] (4, c + 1) = _; rw [look_cons, if_pos rfl]
 obtain ⟨RG2, MS2, h1, h2, _, h4⟩ := dec_one (s := s) (i := (4, c + 1)) (q := rqB c e) (r := r) (v := v) (c := 6) (t := t) hq (fun x hx => by
  rw [hs] at hx
  rw [List.mem_singleton.1 hx]
  show (0 : Int) ≠ c + 1
  omega) hF3 (calm_nil hb hn) (by rw [hs]; exact hR) ht
 have he : decS s (4, c + 1) (rqB c e) r v RG2 MS2 = TS K g L q' pr' (c + 1) (orb w 1) (jn ++ [deedQ (4, c + 1) (rqB c e) r v]) RG2 MS2 := by
  unfold decS
  rw [rung_nil hb hn]
  have g1 : del s.rt (4, c + 1) = [] := by rw [hs]; show del [((4, c + 1), rqB c e)] (4, c + 1) = []; unfold del; simp
  have g2 : tdrop s.tm (4, c + 1) = [] := by rw [hs]; rfl
  have g3 : allO (epD (4, c + 1)) s.ep = [(27, g.be, [], [])] := by rw [hs]; rfl
  have g4 : allO (rpD (4, c + 1)) s.rp = [(7, (g.bs 0).2, (0, 0), false), (20, (g.bs 1).2, (0, 0), false)] := by
   rw [hs]
   simp [allO, TS, rpD, cDrop]
  have g5 : updO (kForget s (4, c + 1)).nt 28 (ntS 1) = [(28, g.bn, orb w 1, [])] := by
   rw [hs]
   show updO [(28, g.bn, w, [])] 28 (ntS 1) = _
   simp [updO, ntS, sigW, sigL, woke]
  rw [g1, g2, g3, g4, g5, hs]
  rfl
 rw [he] at h1 h2 h4
 exact ⟨RG2, MS2, by rw [← hs]; exact h1, h2, h4⟩
end
end Go.Pse
namespace Go.Pse
open Go.RowKit Go.Proofs
/-! ### plain: addresses of a node's slots -/
theorem addr_or : ∀ k : Nat, k < 16 → bits .or .u32 ((k : Int) * 256) 4 = (k : Int) * 256 + 4 := by decide
theorem addr_and : ∀ k : Nat, k < 16 → bits .and .i64 (k : Int) 15 = (k : Int) := by decide
theorem addr_shl : ∀ k : Nat, k < 16 → IntKind.u32.wrap ((k : Int) * 2 ^ 8) = (k : Int) * 256 := by decide
abbrev atK (k : Nat) : Int := (k : Int) * 256 + 4
def rootC (b : Int) : Cap := ⟨2, b, 0, 0, 7⟩
/-- What an address's slot has, of a kind: the capability, the place, the code. -/
def capAt (sl : List (Place × SV)) (p : Place) (kind : Int) : Cap × Place × Int := match look sl p with
  | none => (c0, (0, 0), 4)
  | some v => if kind ≠ 0 ∧ v.1.kind ≠ kind then (c0, (0, 0), 5) else (v.1, p, 0)
set_option maxRecDepth 100000 in
set_option maxHeartbeats 4000000 in
theorem joinC {E : World} {l : List As} {k : Nat} (hk : k < 16) :
    Con Tryz.prog 23 #[.int .i64 (k : Int), .int .i64 4] E l (fun _ : Unit => .int .u32 (atK k)) (fun _ => l) := by
  refine Con.body (vs := [.int .i64 (k : Int), .int .i64 4]) (n := 12) Tryz.func23 rfl rfl [(0, .int .i64 (k : Int)), (1, .int .i64 4)] (env_ok 2 rfl) <| sr <| ag rfl rfl <| nx <| mv rfl rfl <| L_pur rfl (p_conv rfl Tryz.underlying3 Tryz.underlying22) <| J_slot (t := 6) (v := .int .u32 (k : Int)) rfl (by rw [wrap32u_of (by omega)]) <| L_pur rfl (p_shl rfl rfl (by omega) (by have : (IntKind.u32.bits : Int) = 32 := rfl; omega)) ?_
  refine J_slot (t := 7) (v := .int .u32 ((k : Int) * 256)) rfl (by rw [← addr_shl k hk]; rfl) <| mv rfl rfl <| L_pur rfl (p_conv rfl Tryz.underlying3 Tryz.underlying22) <| J_slot (t := 9) (v := .int .u32 4) rfl rfl <| L_pur rfl (p_and rfl rfl) <| J_slot (t := 10) (v := .int .u32 4) rfl rfl <| L_pur rfl (p_or rfl rfl) <| J_slot (t := 11) (v := .int .u32 (atK k)) rfl (by rw [addr_or k hk]) ?_
  refine ag rfl rfl <| nq <| J_ret ?_
  refine J_return (()) Tryz.results23 (.tmp rfl .nil) ?_ ?_
  · rfl
  · exact SU
set_option maxRecDepth 100000 in
set_option maxHeartbeats 4000000 in
theorem slotC {E : World} {l : List As} {k : Nat} (hk : k < 16) :
    Con Tryz.prog 16 #[.int .i64 (k : Int)] E l (fun _ : Unit => .int .u32 (atK k)) (fun _ => l) := by
  refine Con.body (vs := [.int .i64 (k : Int)]) (n := 5) Tryz.func16 rfl rfl [(0, .int .i64 (k : Int))] (env_ok 1 rfl) <| sr <| ag rfl rfl <| nx <| mv rfl rfl <| L_op <| x_call Tryz.func23 nm23 bd23 (.cons rfl (.cons rfl .nil)) rfl (joinC hk) fun _ => ag rfl rfl ?_
  refine nq <| J_ret ?_
  exact J_return (()) Tryz.results16 (.tmp rfl .nil) rfl SU
set_option maxRecDepth 100000 in
set_option maxHeartbeats 4000000 in
theorem rightC {E : World} {l : List As} {k : Nat} (hk : k < 16) :
    Con Tryz.prog 299 #[.int .i64 (k : Int), .int .i64 4] E l (fun _ : Unit => .bool true) (fun _ => l) := by
  refine Con.body (vs := [.int .i64 (k : Int), .int .i64 4]) (n := 21) Tryz.func299 rfl rfl [(0, .int .i64 (k : Int)), (1, .int .i64 4)] (env_ok 2 rfl) <| sr <| ag rfl rfl <| nx <| mv rfl rfl <| L_pur rfl (p_geq rfl rfl) <| J_bool (t := 6) (c := true) rfl (by decide) <| mv rfl rfl ?_
  refine J_bool (t := 7) (c := true) rfl (rfl) <| L_op <| G_on rfl rfl rfl <| J_pur (p_move rfl) rfl rfl rfl <| L_op <| G_on rfl rfl rfl <| J_pur (p_leq rfl rfl) rfl rfl rfl <| J_bool (t := 9) (c := true) rfl (by decide) ?_
  refine L_pur rfl (p_pick_t rfl rfl) <| mv rfl rfl <| J_bool (t := 11) (c := true) rfl (rfl) <| L_op <| G_on rfl rfl rfl <| J_pur (p_move rfl) rfl rfl rfl <| L_op <| G_on rfl rfl rfl ?_
  refine J_pur (p_geq rfl rfl) rfl rfl rfl <| J_bool (t := 13) (c := true) rfl (by simp) <| L_pur rfl (p_pick_t rfl rfl) <| mv rfl rfl <| J_bool (t := 15) (c := true) rfl (rfl) <| L_op <| G_on rfl rfl rfl <| J_pur (p_move rfl) rfl rfl rfl ?_
  refine L_op <| G_on rfl rfl rfl <| J_pur (p_move rfl) rfl rfl rfl <| L_op <| G_on rfl rfl rfl <| J_pur (p_shl rfl rfl (by omega) (by decide)) rfl rfl rfl <| J_slot (t := 18) (v := .int .i64 16) rfl rfl <| L_op <| G_on rfl rfl rfl ?_
  refine J_pur (p_lss rfl rfl) rfl rfl rfl <| J_bool (t := 19) (c := true) rfl (by simp; omega) <| L_pur rfl (p_pick_t rfl rfl) <| ag rfl rfl <| nq <| J_ret ?_
  exact J_return (()) Tryz.results299 (.tmp rfl .nil) rfl SU
set_option maxRecDepth 100000 in
set_option maxHeartbeats 4000000 in
theorem splitC {E : World} {l : List As} {k : Nat} (hk : k < 16) :
    Con Tryz.prog 284 #[.int .u32 (atK k)] E l (fun _ : Unit => .tuple #[.int .i64 (k : Int), .int .i64 4, .bool true]) (fun _ => l) := by
  refine Con.body (vs := [.int .u32 (atK k)]) (n := 23) Tryz.func284 rfl rfl [(0, .int .u32 (atK k))] (env_ok 1 rfl) <| sr <| ag rfl rfl <| ag rfl rfl <| ag rfl rfl <| nx <| mv rfl rfl <| L_pur rfl (p_shr rfl rfl (by omega) (by decide)) ?_
  refine J_slot (t := 8) (v := .int .u32 (k : Int)) rfl (by congr 1; show ((k : Int) * 256 + 4) / 256 = (k : Int); omega) <| L_pur rfl (p_conv rfl Tryz.underlying22 Tryz.underlying3) <| J_slot (t := 9) (v := .int .i64 (k : Int)) rfl (by rw [wrap64_of (by omega)]) <| mv rfl rfl <| L_op <| x_call Tryz.func279 nm279 bd279 (.cons rfl (.cons rfl (.cons rfl .nil))) rfl (fieldC (n := atK k) (k := 8) (by omega) (by unfold atK; omega)) fun _ => J_slot (t := 11) (v := .int .u32 4) rfl (by congr 1; show ((k : Int) * 256 + 4) % 256 = 4; omega) <| L_pur rfl (p_conv rfl Tryz.underlying22 Tryz.underlying3) ?_
  refine J_slot (t := 12) (v := .int .i64 4) rfl rfl <| ag rfl rfl <| ag rfl rfl <| nxx <| mv rfl rfl <| L_pur rfl (p_lss rfl rfl) <| J_bool (t := 14) (c := false) rfl (by decide) <| mv rfl rfl ?_
  refine J_bool (t := 15) (c := false) rfl (rfl) <| L_op <| G_on rfl rfl rfl <| J_pur (p_move rfl) rfl rfl rfl <| L_op <| G_on rfl rfl rfl <| J_pur (p_move rfl) rfl rfl rfl <| L_op <| G_on rfl rfl rfl ?_
  refine x_call Tryz.func299 nm299 bd299 (.cons rfl (.cons rfl .nil)) rfl (rightC hk) fun _ => L_op <| G_on rfl rfl rfl <| J_pur (p_not rfl) rfl rfl rfl <| L_pur rfl (p_pick_f rfl rfl) <| nq <| J_bool (t := 20) (c := false) rfl (rfl) <| C_false rfl ?_
  refine J_skip <| qx <| mv rfl rfl <| mv rfl rfl <| ag rfl rfl <| ag rfl rfl <| ag rfl rfl <| nq ?_
  refine J_ret ?_
  exact J_return (()) Tryz.results284 (.tmp rfl (.tmp rfl (.tmp rfl .nil))) rfl SU
set_option maxRecDepth 100000 in
set_option maxHeartbeats 4000000 in
theorem stepC {E : World} {l : List As} {b : Int} {k : Nat} (hk : k < 16) (hb : checkC (rootC b) = true) :
  Con Tryz.prog 285 #[.agg (encC (rootC b)).toArray, .int .i64 (k : Int), .int .i64 4] E l (fun _ : Unit => .tuple #[.int .i64 (k : Int), .int .i64 0, .bool true]) (fun _ => l) := by
 refine Con.body (vs := [.agg (encC (rootC b)).toArray, .int .i64 (k : Int), .int .i64 4]) (n := 48) Tryz.func285 rfl rfl [(0, .agg (encC (rootC b)).toArray), (1, .int .i64 (k : Int)), (2, .int .i64 4)] (env_ok 3 rfl) <| sr <| L_op <| x_box rfl rfl rfl fun b3 => ag rfl rfl <| ag rfl rfl <| ag rfl rfl <| nxx ?_
 refine fa rfl rfl fa69_0 <| L_val rfl (v_load rfl ty3 HS (by exact rfl)) ?_
 refine L_pur rfl (p_neq rfl rfl) <| J_bool (t := 12) (c := false) rfl (by simp [rootC]) <| mv rfl rfl <| J_bool (t := 13) (c := false) rfl (rfl) <| L_op <| G_on rfl rfl rfl <| J_val (v_loadA rfl ty69 HS CT) rfl rfl rfl ?_
 refine L_op <| G_on rfl rfl rfl <| x_call Tryz.func61 nm61 bd61 (.cons rfl .nil) rfl (cCheck (c := rootC b)) fun _ => J_bool (t := 15) (c := true) rfl (by rw [hb]) <| L_op <| G_on rfl rfl rfl <| J_pur (p_not rfl) rfl rfl rfl <| L_pur rfl (p_pick_f rfl rfl) ?_
 refine mv rfl rfl <| J_bool (t := 18) (c := false) rfl (rfl) <| L_op <| G_on rfl rfl rfl <| J_pur (p_move rfl) rfl rfl rfl <| L_op <| G_on rfl rfl rfl <| J_pur (p_move rfl) rfl rfl rfl ?_
 refine L_op <| G_on rfl rfl rfl <| x_call Tryz.func299 nm299 bd299 (.cons rfl (.cons rfl .nil)) rfl (rightC hk) fun _ => L_op <| G_on rfl rfl rfl <| J_pur (p_not rfl) rfl rfl rfl <| L_pur rfl (p_pick_f rfl rfl) <| mv rfl rfl ?_
 refine J_bool (t := 24) (c := false) rfl (rfl) <| L_op <| G_on rfl rfl rfl <| J_pur (p_move rfl) rfl rfl rfl <| L_op <| G_on rfl rfl rfl <| J_pur (p_fieldAddr rfl fa69_2) rfl rfl rfl <| L_op <| G_on rfl rfl rfl ?_
 refine J_val (v_load rfl ty3 HS (by exact rfl)) rfl rfl rfl ?_
 refine J_slot (t := 27) (v := .int .i64 0) rfl rfl <| L_op <| G_on rfl rfl rfl <| J_pur (p_add64 rfl rfl (by omega)) rfl rfl rfl <| L_op <| G_on rfl rfl rfl <| J_pur (p_lss rfl rfl) rfl rfl rfl <| J_bool (t := 29) (c := false) rfl (by decide) ?_
 refine L_pur rfl (p_pick_f rfl rfl) <| nq <| J_bool (t := 30) (c := false) rfl (rfl) <| C_false rfl <| J_skip <| qx <| mv rfl rfl <| fa rfl rfl fa69_2 ?_
 refine L_val rfl (v_load rfl ty3 HS (by exact rfl)) ?_
 refine J_slot (t := 33) (v := .int .i64 0) rfl rfl <| L_pur rfl (p_sub64 rfl rfl (by omega)) <| J_slot (t := 34) (v := .int .i64 4) rfl rfl <| ag rfl rfl <| nq <| J_seq <| J_seq <| J_drawS mixed (by kernel_rfl) ?_
 refine sm rfl rfl <| sm rfl rfl <| sp rfl (p_shr rfl rfl (by omega) (by decide)) <| J_slot (t := 37) (v := .int .i64 0) rfl (by congr 1; show (k : Int) / 16 = 0; omega) <| sp rfl (p_fieldAddr rfl fa69_3) <| S_val rfl (v_load rfl ty3 HS (by exact rfl)) ?_
 refine J_slot (t := 39) (v := .int .i64 0) rfl rfl <| sp rfl (p_neq rfl rfl) <| sq <| J_bool (t := 40) (c := false) rfl (by simp) <| C_false rfl <| J_skip <| qx <| mv rfl rfl ?_
 refine L_pur rfl (p_sub64 rfl rfl (by omega)) <| J_slot (t := 42) (v := .int .i64 0) rfl rfl <| ag rfl rfl <| nx <| mv rfl rfl <| mv rfl rfl <| L_pur rfl (p_shr rfl rfl (by omega) (by decide)) <| J_slot (t := 45) (v := .int .i64 (k : Int)) rfl (by simp) ?_
 refine L_pur rfl (p_and rfl rfl) <| J_slot (t := 46) (v := .int .i64 (k : Int)) rfl (by rw [addr_and k hk]) <| mv rfl rfl <| ag rfl rfl <| ag rfl rfl <| ag rfl rfl <| nq <| J_ret ?_
 exact J_return (()) Tryz.results285 (.tmp rfl (.tmp rfl (.tmp rfl .nil))) rfl SU
set_option maxRecDepth 100000 in
set_option maxHeartbeats 4000000 in
theorem findC {E : World} {l : List As} {v : Value} {b : Int} {k : Nat} (hk : k < 16) (hb : checkC (rootC b) = true) :
    Con Tryz.prog 267 #[v, .agg (encC (rootC b)).toArray, .int .u32 (atK k)] E l (fun _ : Unit => .tuple #[.agg (encI (b, (k : Int))).toArray, .int .i64 0]) (fun _ => l) := by
  refine Con.body (vs := [v, .agg (encC (rootC b)).toArray, .int .u32 (atK k)]) (n := 63) Tryz.func267 rfl rfl [(0, v), (1, .agg (encC (rootC b)).toArray), (2, .int .u32 (atK k))] (env_ok 3 rfl) <| sr <| L_op <| x_box rfl rfl rfl fun b4 => L_op <| x_alloc ty67 rfl fun b6 => ag rfl rfl <| nx ?_
  refine mv rfl rfl <| L_op <| x_call Tryz.func284 nm284 bd284 (.cons rfl .nil) rfl (splitC hk) fun _ => mv rfl rfl <| L_pur rfl (p_extract rfl rfl) <| L_pur rfl (p_extract rfl rfl) <| L_pur rfl (p_extract rfl rfl) <| ag rfl rfl ?_
  refine ag rfl rfl <| ag rfl rfl <| nxx <| mv rfl rfl <| L_pur rfl (p_not rfl) <| nq <| J_bool (t := 23) (c := false) rfl (rfl) <| C_false rfl ?_
  refine J_skip <| qx <| L_val rfl (v_loadA rfl ty69 HS CT) ?_
  refine L_op <| x_alloc ty69 rfl fun b11 => L_op <| x_store rfl rfl ty69 rfl SM SM RO PT ?_
  refine nq <| J_seq <| J_seq <| J_pick (A := blk b11 _ _) PC ?_
  refine J_asTo (B := blk b11 69 (encC (rootC b))) (by rfl) <| J_region <| mv rfl rfl <| nq <| J_block <| J_loop (α := Unit) (fun _ => True) (fun _ => blk b11 69 (encC (rootC b)) :: blk b6 67 [.int .i64 0, .int .i64 0] :: l) (fun _ => [(26, .int .i64 0), (8, .int .i64 (k : Int)), (9, .int .i64 4), (0, v), (11, .pointer (some ⟨b11, 0, none⟩)), (6, .pointer (some ⟨b6, 0, none⟩))]) (fun _ => 0) () trivial SU KE ?_
  intro _ _
  refine sr <| L_pur rfl (p_lss rfl rfl) <| nq <| J_seq <| J_bool (t := 27) (c := true) rfl (by decide) <| C_true rfl <| J_skip <| Q_then ?_
  refine J_seq <| J_block <| sr <| L_val rfl (v_loadA rfl ty69 HS CT) ?_
  refine mv rfl rfl <| mv rfl rfl <| L_op <| x_call Tryz.func285 nm285 bd285 (.cons rfl (.cons rfl (.cons rfl .nil))) rfl (stepC hk hb) fun _ => mv rfl rfl <| L_pur rfl (p_extract rfl rfl) <| L_pur rfl (p_extract rfl rfl) <| L_pur rfl (p_extract rfl rfl) ?_
  refine ag rfl rfl <| ag rfl rfl <| ag rfl rfl <| nxx <| mv rfl rfl <| L_pur rfl (p_not rfl) <| nq <| J_bool (t := 37) (c := false) rfl (rfl) ?_
  refine C_false rfl <| J_skip <| qx <| fa rfl rfl fa69_1 <| L_val rfl (v_load rfl ty3 HS (by exact rfl)) ?_
  refine mv rfl rfl <| L_pur rfl (bld67 (.cons rfl (.cons rfl .nil)) (by repeat constructor)) <| L_op <| x_alloc ty67 rfl fun b15 => L_op <| x_store rfl rfl ty67 rfl SM SM RO PT ?_
  refine nxx <| mv rfl rfl <| L_pur rfl (p_eql rfl rfl) <| nq <| J_bool (t := 44) (c := true) rfl (by decide) <| C_true rfl <| sr <| L_val rfl (v_loadA rfl ty67 HS CT) ?_
  refine L_op <| x_store rfl rfl ty67 rfl SM SM RO PT ?_
  refine ag rfl rfl <| nq <| J_ret <| Q_then_ret <| Q_blk_ret <| Q_then_ret <| Q_then_ret <| Q_blk_ret ?_
  refine Q_then_ret ?_
  refine J_return (()) Tryz.results267 (.cellA rfl ty67 HS CT (.tmp rfl .nil)) ?_ ?_
  · rfl
  · exact SU
set_option maxRecDepth 100000 in
set_option maxHeartbeats 4000000 in
theorem lookCapC {E : World} {l m : List As} {p : Nat} {s : KS} (hp : Pick (coA p s) l m) {b kind : Int} {k : Nat} (hk : k < 16) (hb : checkC (rootC b) = true) :
    Con Tryz.prog 240 #[.pointer (some ⟨p, 6, none⟩), .agg (encC (rootC b)).toArray, .int .u32 (atK k), .int .i64 kind] E l (fun _ : Unit => .tuple #[.agg (encC (capAt s.sl (b, (k : Int)) kind).1).toArray, .agg (encI (capAt s.sl (b, (k : Int)) kind).2.1).toArray, .int .i64 (capAt s.sl (b, (k : Int)) kind).2.2]) (fun _ => coA p s :: m) := by
  refine Con.body (vs := [.pointer (some ⟨p, 6, none⟩), .agg (encC (rootC b)).toArray, .int .u32 (atK k), .int .i64 kind]) (n := 51) Tryz.func240 rfl rfl [(0, .pointer (some ⟨p, 6, none⟩)), (1, .agg (encC (rootC b)).toArray), (2, .int .u32 (atK k)), (3, .int .i64 kind)] (env_ok 4 rfl) <| J_pick hp <| sr <| L_op <| x_box rfl rfl rfl fun b5 => L_op <| x_alloc ty69 rfl fun b8 => L_op <| x_alloc ty67 rfl fun b9 => ?_
  refine ag rfl rfl <| nx <| mv rfl rfl <| L_val rfl (v_loadA rfl ty69 HS CT) ?_
  refine mv rfl rfl <| L_op <| x_call Tryz.func267 nm267 bd267 (.cons rfl (.cons rfl (.cons rfl .nil))) rfl (findC hk hb) fun _ => mv rfl rfl <| L_pur rfl (p_extract rfl rfl) <| L_pur rfl (p_extract rfl rfl) <| L_op <| x_alloc ty67 rfl fun b11 => ?_
  refine L_op <| x_store rfl rfl ty67 rfl SM SM RO PT ?_
  refine J_pick (A := blk b11 _ _) PC ?_
  refine J_asTo (B := blk b11 67 (encI (b, (k : Int)))) (by rfl) <| ag rfl rfl <| nxx <| mv rfl rfl <| L_pur rfl (p_neq rfl rfl) <| nq <| J_bool (t := 23) (c := false) rfl (by decide) <| C_false rfl ?_
  refine J_skip <| qx <| mv rfl rfl <| L_val rfl (v_loadA rfl ty67 HS CT) ?_
  refine L_op <| x_call Tryz.func34 nm34 bd34 (.cons rfl (.cons rfl .nil)) rfl (coSlGet (s := s) (a := (b, (k : Int))) PC) fun _ => ?_
  refine mv rfl rfl <| L_pur rfl (p_extract rfl rfl) <| L_pur rfl (p_extract rfl rfl) <| L_op <| x_alloc ty69 rfl fun b13 => L_op <| x_store rfl rfl ty69 rfl SM SM RO PT ?_
  refine ag rfl rfl <| nq <| J_seq <| J_block <| sr <| mv rfl rfl <| L_pur rfl (p_not rfl) <| ag rfl rfl ?_
  refine nq ?_
  refine C_split rfl (fun h33 => ?_) (fun h33 => ?_)
  ·
    have hno : look s.sl (b, (k : Int)) = none := by
      cases hq : look s.sl (b, (k : Int)) with
      | none => rfl
      | some y => rw [hq] at h33; simp at h33
    have hca : (capAt s.sl (b, (k : Int)) kind) = (c0, (0, 0), 4) := by unfold capAt; rw [hno]
    refine sr <| L_pur rfl (bld69 .nil (by repeat constructor)) <| L_pur rfl (bld67 .nil (by repeat constructor)) <| L_op <| x_store rfl rfl ty69 rfl SM SM RO PT ?_
    refine L_op <| x_store rfl rfl ty67 rfl SM SM RO PT ?_
    refine ag rfl rfl <| nq <| J_ret <| Q_blk_ret <| Q_then_ret ?_
    refine J_return (()) Tryz.results240 (.cellA rfl ty69 HS CT (.cellA rfl ty67 HS CT (.tmp rfl .nil))) ?_ ?_
    · rw [hca]; rfl
    · exact SU
  ·
    obtain ⟨sv, hsv⟩ : ∃ sv, look s.sl (b, (k : Int)) = some sv := by
      cases hq : look s.sl (b, (k : Int)) with
      | none => rw [hq] at h33; simp at h33
      | some y => exact ⟨y, rfl⟩
    refine J_pick (A := blk b13 _ _) PC ?_
    refine J_asTo (B := blk b13 69 (encC sv.1)) (by rw [hsv]; rfl) <| sr <| mv rfl rfl <| L_pur rfl (p_neq rfl rfl) <| mv rfl rfl ?_
    refine J_gsplit (t := 41) rfl (fun h41 => ?_) (fun h41 => ?_)
    ·
      refine L_op <| G_on rfl rfl rfl <| J_pur (p_fieldAddr rfl fa69_0) rfl rfl rfl <| L_op <| G_on rfl rfl rfl <| J_val (v_load rfl ty3 HS (by exact rfl)) rfl rfl rfl ?_
      refine L_op <| G_on rfl rfl rfl <| J_pur (p_move rfl) rfl rfl rfl <| L_op <| G_on rfl rfl rfl <| J_pur (p_neq rfl rfl) rfl rfl rfl <| L_pur rfl (p_pick_t rfl rfl) <| ag rfl rfl ?_
      refine nq ?_
      refine C_split rfl (fun h38 => ?_) (fun h38 => ?_)
      ·
        have hca : (capAt s.sl (b, (k : Int)) kind) = (c0, (0, 0), 5) := by unfold capAt; rw [hsv]; simp_all
        refine sr <| L_pur rfl (bld69 .nil (by repeat constructor)) <| L_pur rfl (bld67 .nil (by repeat constructor)) <| L_op <| x_store rfl rfl ty69 rfl SM SM RO PT ?_
        refine L_op <| x_store rfl rfl ty67 rfl SM SM RO PT ?_
        refine ag rfl rfl <| nq <| J_ret <| Q_blk_ret <| Q_then_ret ?_
        refine J_return (()) Tryz.results240 (.cellA rfl ty69 HS CT (.cellA rfl ty67 HS CT (.tmp rfl .nil))) ?_ ?_
        · rw [hca]; rfl
        · exact SU
      ·
        have hca : (capAt s.sl (b, (k : Int)) kind) = (sv.1, (b, (k : Int)), 0) := by unfold capAt; rw [hsv]; simp_all
        refine J_skip <| Q_blk_normal <| Q_then <| J_seq <| J_drawL (some 2) mixed <| iv 0 rfl rfl rfl rfl (fun _ => v_loadA rfl ty69 HS CT) ?_
        refine I_ready (rs := [1, 2]) SI (by kernel_rfl) (by simp) ?_
        refine (I_cons rfl ?_ (I_cons rfl ?_ I_nil))
        ·
          refine J_val (v_loadA rfl ty67 HS CT) rfl rfl rfl ?_
          refine i1 2 rfl <| x_store rfl rfl ty69 rfl SM SM RO PT ?_
          refine i1 3 rfl <| x_store rfl rfl ty67 rfl SM SM RO PT ?_
          refine ip 4 rfl rfl rfl rfl (p_assign rfl) <| i0 <| Q_then <| J_ret ?_
          refine J_return (()) Tryz.results240 (.cellA rfl ty69 HS CT (.cellA rfl ty67 HS CT (.tmp rfl .nil))) ?_ ?_
          · rw [hca]; rfl
          · exact SU
        ·
          refine x_store rfl rfl ty69 rfl SM SM RO PT ?_
          refine i1 1 rfl <| J_val (v_loadA rfl ty67 HS CT) rfl rfl rfl ?_
          refine i1 3 rfl <| x_store rfl rfl ty67 rfl SM SM RO PT ?_
          refine ip 4 rfl rfl rfl rfl (p_assign rfl) <| i0 <| Q_then <| J_ret ?_
          refine J_return (()) Tryz.results240 (.cellA rfl ty69 HS CT (.cellA rfl ty67 HS CT (.tmp rfl .nil))) ?_ ?_
          · rw [hca]; rfl
          · exact SU
    ·
      have hca : (capAt s.sl (b, (k : Int)) kind) = (sv.1, (b, (k : Int)), 0) := by unfold capAt; rw [hsv]; simp_all
      refine L_op <| G_off rfl rfl rfl rfl rfl rfl <| L_op <| G_off rfl rfl rfl rfl rfl rfl <| L_op <| G_off rfl rfl rfl rfl rfl rfl <| L_op <| G_off rfl rfl rfl rfl rfl rfl ?_
      refine L_pur rfl (p_pick_f rfl rfl) <| ag rfl rfl <| nq <| C_false rfl <| J_skip <| Q_blk_normal <| Q_then <| J_seq ?_
      refine J_drawL (some 2) mixed <| iv 0 rfl rfl rfl rfl (fun _ => v_loadA rfl ty69 HS CT) ?_
      refine I_ready (rs := [1, 2]) SI (by kernel_rfl) (by simp) ?_
      refine (I_cons rfl ?_ (I_cons rfl ?_ I_nil))
      ·
        refine J_val (v_loadA rfl ty67 HS CT) rfl rfl rfl ?_
        refine i1 2 rfl <| x_store rfl rfl ty69 rfl SM SM RO PT ?_
        refine i1 3 rfl <| x_store rfl rfl ty67 rfl SM SM RO PT ?_
        refine ip 4 rfl rfl rfl rfl (p_assign rfl) <| i0 <| Q_then <| J_ret ?_
        refine J_return (()) Tryz.results240 (.cellA rfl ty69 HS CT (.cellA rfl ty67 HS CT (.tmp rfl .nil))) ?_ ?_
        · rw [hca]; rfl
        · exact SU
      ·
        refine x_store rfl rfl ty69 rfl SM SM RO PT ?_
        refine i1 1 rfl <| J_val (v_loadA rfl ty67 HS CT) rfl rfl rfl ?_
        refine i1 3 rfl <| x_store rfl rfl ty67 rfl SM SM RO PT ?_
        refine ip 4 rfl rfl rfl rfl (p_assign rfl) <| i0 <| Q_then <| J_ret ?_
        refine J_return (()) Tryz.results240 (.cellA rfl ty69 HS CT (.cellA rfl ty67 HS CT (.tmp rfl .nil))) ?_ ?_
        · rw [hca]; rfl
        · exact SU
def actA (a p : Nat) (T : Th) (q : Rq) (i : ID) : As := blk a 250 [.pointer (some ⟨p, 0, none⟩), .int .i64 T.unit, .int .i64 T.space, .int .i64 T.ring, .int .i64 T.root.kind, .int .i64 T.root.obj, .int .i64 T.root.size, .int .i64 T.root.badge, .int .i64 T.root.rights, .int .i64 q.id.1, .int .i64 q.id.2, .int .i64 q.e.op, .int .i64 q.e.flags, .int .u32 q.e.tag, .int .u32 q.e.cap, .int .u32 q.e.a, .int .u32 q.e.b, .int .u32 q.e.c, .int .u32 q.e.time, .int .i64 q.prev, .bool q.soft, .bool q.started, .int .i64 i.1, .int .i64 i.2]
set_option maxRecDepth 100000 in
set_option maxHeartbeats 4000000 in
theorem failsC {E : World} {l : List As} {n : Int} (hn : 0 ≤ n ∧ n ≤ 100) :
    Con Tryz.prog 128 #[.int .i64 n] E l (fun _ : Unit => .agg #[.int .i64 (-n), .int .u32 0, .bool false]) (fun _ => l) := by
  refine Con.body (vs := [.int .i64 n]) (n := 6) Tryz.func128 rfl rfl [(0, .int .i64 n)] (env_ok 1 rfl) <| sr <| L_op <| x_alloc ty247 rfl fun b2 => nx <| mv rfl rfl <| L_pur rfl (p_neg64 rfl (by omega)) <| L_pur rfl (bld247 (.cons rfl .nil) (by repeat constructor)) ?_
  refine L_op <| x_store rfl rfl ty247 rfl SM SM RO PT ?_
  refine nq <| J_ret ?_
  refine J_return (()) Tryz.results128 (.cellA rfl ty247 HS CT .nil) ?_ ?_
  · rfl
  · exact SU
set_option maxRecDepth 100000 in
set_option maxHeartbeats 4000000 in
theorem foundC {E : World} {l m : List As} {a p : Nat} {s : KS} {T : Th} {q : Rq} {i : ID} (hp : Picks [actA a p T q i, coA p s] l m) {b kind : Int} {k : Nat} (hk : k < 16) (hb : checkC (rootC b) = true) (hT : T.root = rootC b) :
    Con Tryz.prog 174 #[.pointer (some ⟨a, 0, none⟩), .int .u32 (atK k), .int .i64 kind] E l (fun _ : Unit => .tuple #[.agg (encC (capAt s.sl (b, (k : Int)) kind).1).toArray, .int .i64 (capAt s.sl (b, (k : Int)) kind).2.2]) (fun _ => actA a p T q i :: coA p s :: m) := by
  refine Con.body (vs := [.pointer (some ⟨a, 0, none⟩), .int .u32 (atK k), .int .i64 kind]) (n := 30) Tryz.func174 rfl rfl [(0, .pointer (some ⟨a, 0, none⟩)), (1, .int .u32 (atK k)), (2, .int .i64 kind)] (env_ok 3 rfl) <| J_picks2 hp <| J_asTo (B := blk a 250 [.pointer (some ⟨p, 0, none⟩), .int .i64 T.unit, .int .i64 T.space, .int .i64 T.ring, .int .i64 T.root.kind, .int .i64 T.root.obj, .int .i64 T.root.size, .int .i64 T.root.badge, .int .i64 T.root.rights, .int .i64 q.id.1, .int .i64 q.id.2, .int .i64 q.e.op, .int .i64 q.e.flags, .int .u32 q.e.tag, .int .u32 q.e.cap, .int .u32 q.e.a, .int .u32 q.e.b, .int .u32 q.e.c, .int .u32 q.e.time, .int .i64 q.prev, .bool q.soft, .bool q.started, .int .i64 i.1, .int .i64 i.2]) (by rfl) <| sr <| L_op <| x_alloc ty69 rfl fun b6 => ag rfl rfl <| nq ?_
  refine J_seq <| J_drawL none mixed <| ip 0 rfl rfl rfl rfl (p_move rfl) <| ip 1 rfl rfl rfl rfl (p_nilCheck rfl) <| ip 2 rfl rfl rfl rfl (p_fieldAddr rfl fa250_0) <| iv 3 rfl rfl rfl rfl (fun _ => v_load rfl ty25 HS (by exact rfl)) ?_
  refine ip 5 rfl rfl rfl rfl (p_move rfl) <| ip 6 rfl rfl rfl rfl (p_nilCheck rfl) <| ip 7 rfl rfl rfl rfl (p_fieldAddr rfl fa250_1) <| ip 8 rfl rfl rfl rfl (p_fieldAddr rfl fa193_3) <| iv 9 rfl rfl rfl rfl (fun _ => v_loadA rfl ty69 HS CT) ?_
  refine J_slot (t := 21) (v := .agg (encC (rootC b)).toArray) rfl (by rw [hT]; rfl) <| ip 10 rfl rfl rfl rfl (p_move rfl) <| ip 11 rfl rfl rfl rfl (p_move rfl) <| I_ready (rs := [4, 17, 18]) SI (by kernel_rfl) (by simp) ?_
  refine (I_cons rfl ?_ (I_cons rfl ?_ (I_cons rfl ?_ I_nil)))
  ·
    refine x_call Tryz.func29 nm29 bd29 (.cons rfl .nil) rfl (coSlots) fun _ => I_ready (rs := [12, 17, 18]) SI (by kernel_rfl) (by simp) ?_
    refine (I_cons rfl ?_ (I_cons rfl ?_ (I_cons rfl ?_ I_nil)))
    ·
      refine x_call Tryz.func240 nm240 bd240 (.cons rfl (.cons rfl (.cons rfl (.cons rfl .nil)))) rfl (lookCapC (s := s) (b := b) (k := k) (kind := kind) PC hk hb) fun _ => ?_
      refine ip 13 rfl rfl rfl rfl (p_move rfl) <| ip 14 rfl rfl rfl rfl (p_extract rfl rfl) <| ip 15 rfl rfl rfl rfl (p_extract rfl rfl) <| ip 16 rfl rfl rfl rfl (p_extract rfl rfl) <| I_ready (rs := [17, 18]) SI (by kernel_rfl) (by simp) ?_
      refine (I_cons rfl ?_ (I_cons rfl ?_ I_nil))
      ·
        refine x_alloc ty69 rfl fun b8 => i1 18 rfl <| x_alloc ty67 rfl fun b9 => i1 19 rfl <| x_store rfl rfl ty69 rfl SM SM RO PT ?_
        refine i1 20 rfl <| x_store rfl rfl ty67 rfl SM SM RO PT ?_
        refine ip 21 rfl rfl rfl rfl (p_assign rfl) <| i0 <| qx <| L_val rfl (v_loadA rfl ty69 HS CT) ?_
        refine mv rfl rfl <| L_op <| x_store rfl rfl ty69 rfl SM SM RO PT ?_
        refine ag rfl rfl <| nq <| J_ret <| J_pick (A := blk a _ _) PC ?_
        refine J_asTo (B := actA a p T q i) (by rfl) ?_
        refine J_return (()) Tryz.results174 (.cellA rfl ty69 HS CT (.tmp rfl .nil)) ?_ ?_
        · rfl
        · exact SU
      ·
        refine x_alloc ty67 rfl fun b9 => i1 17 rfl <| x_alloc ty69 rfl fun b8 => i1 19 rfl <| x_store rfl rfl ty69 rfl SM SM RO PT ?_
        refine i1 20 rfl <| x_store rfl rfl ty67 rfl SM SM RO PT ?_
        refine ip 21 rfl rfl rfl rfl (p_assign rfl) <| i0 <| qx <| L_val rfl (v_loadA rfl ty69 HS CT) ?_
        refine mv rfl rfl <| L_op <| x_store rfl rfl ty69 rfl SM SM RO PT ?_
        refine ag rfl rfl <| nq <| J_ret <| J_pick (A := blk a _ _) PC ?_
        refine J_asTo (B := actA a p T q i) (by rfl) ?_
        refine J_return (()) Tryz.results174 (.cellA rfl ty69 HS CT (.tmp rfl .nil)) ?_ ?_
        · rfl
        · exact SU
    ·
      refine x_alloc ty69 rfl fun b8 => I_ready (rs := [12, 18]) SI (by kernel_rfl) (by simp) ?_
      refine (I_cons rfl ?_ (I_cons rfl ?_ I_nil))
      ·
        refine x_call Tryz.func240 nm240 bd240 (.cons rfl (.cons rfl (.cons rfl (.cons rfl .nil)))) rfl (lookCapC (s := s) (b := b) (k := k) (kind := kind) PC hk hb) fun _ => ?_
        refine ip 13 rfl rfl rfl rfl (p_move rfl) <| ip 14 rfl rfl rfl rfl (p_extract rfl rfl) <| ip 15 rfl rfl rfl rfl (p_extract rfl rfl) <| ip 16 rfl rfl rfl rfl (p_extract rfl rfl) <| i1 18 rfl <| x_alloc ty67 rfl fun b9 => i1 19 rfl <| x_store rfl rfl ty69 rfl SM SM RO PT ?_
        refine i1 20 rfl <| x_store rfl rfl ty67 rfl SM SM RO PT ?_
        refine ip 21 rfl rfl rfl rfl (p_assign rfl) <| i0 <| qx <| L_val rfl (v_loadA rfl ty69 HS CT) ?_
        refine mv rfl rfl <| L_op <| x_store rfl rfl ty69 rfl SM SM RO PT ?_
        refine ag rfl rfl <| nq <| J_ret <| J_pick (A := blk a _ _) PC ?_
        refine J_asTo (B := actA a p T q i) (by rfl) ?_
        refine J_return (()) Tryz.results174 (.cellA rfl ty69 HS CT (.tmp rfl .nil)) ?_ ?_
        · rfl
        · exact SU
      ·
        refine x_alloc ty67 rfl fun b9 => i1 12 rfl <| x_call Tryz.func240 nm240 bd240 (.cons rfl (.cons rfl (.cons rfl (.cons rfl .nil)))) rfl (lookCapC (s := s) (b := b) (k := k) (kind := kind) PC hk hb) fun _ => ?_
        refine ip 13 rfl rfl rfl rfl (p_move rfl) <| ip 14 rfl rfl rfl rfl (p_extract rfl rfl) <| ip 15 rfl rfl rfl rfl (p_extract rfl rfl) <| ip 16 rfl rfl rfl rfl (p_extract rfl rfl) <| i1 19 rfl <| x_store rfl rfl ty69 rfl SM SM RO PT ?_
        refine i1 20 rfl <| x_store rfl rfl ty67 rfl SM SM RO PT ?_
        refine ip 21 rfl rfl rfl rfl (p_assign rfl) <| i0 <| qx <| L_val rfl (v_loadA rfl ty69 HS CT) ?_
        refine mv rfl rfl <| L_op <| x_store rfl rfl ty69 rfl SM SM RO PT ?_
        refine ag rfl rfl <| nq <| J_ret <| J_pick (A := blk a _ _) PC ?_
        refine J_asTo (B := actA a p T q i) (by rfl) ?_
        refine J_return (()) Tryz.results174 (.cellA rfl ty69 HS CT (.tmp rfl .nil)) ?_ ?_
        · rfl
        · exact SU
    ·
      refine x_alloc ty67 rfl fun b9 => I_ready (rs := [12, 17]) SI (by kernel_rfl) (by simp) ?_
      refine (I_cons rfl ?_ (I_cons rfl ?_ I_nil))
      ·
        refine x_call Tryz.func240 nm240 bd240 (.cons rfl (.cons rfl (.cons rfl (.cons rfl .nil)))) rfl (lookCapC (s := s) (b := b) (k := k) (kind := kind) PC hk hb) fun _ => ?_
        refine ip 13 rfl rfl rfl rfl (p_move rfl) <| ip 14 rfl rfl rfl rfl (p_extract rfl rfl) <| ip 15 rfl rfl rfl rfl (p_extract rfl rfl) <| ip 16 rfl rfl rfl rfl (p_extract rfl rfl) <| i1 17 rfl <| x_alloc ty69 rfl fun b8 => i1 19 rfl <| x_store rfl rfl ty69 rfl SM SM RO PT ?_
        refine i1 20 rfl <| x_store rfl rfl ty67 rfl SM SM RO PT ?_
        refine ip 21 rfl rfl rfl rfl (p_assign rfl) <| i0 <| qx <| L_val rfl (v_loadA rfl ty69 HS CT) ?_
        refine mv rfl rfl <| L_op <| x_store rfl rfl ty69 rfl SM SM RO PT ?_
        refine ag rfl rfl <| nq <| J_ret <| J_pick (A := blk a _ _) PC ?_
        refine J_asTo (B := actA a p T q i) (by rfl) ?_
        refine J_return (()) Tryz.results174 (.cellA rfl ty69 HS CT (.tmp rfl .nil)) ?_ ?_
        · rfl
        · exact SU
      ·
        refine x_alloc ty69 rfl fun b8 => i1 12 rfl <| x_call Tryz.func240 nm240 bd240 (.cons rfl (.cons rfl (.cons rfl (.cons rfl .nil)))) rfl (lookCapC (s := s) (b := b) (k := k) (kind := kind) PC hk hb) fun _ => ?_
        refine ip 13 rfl rfl rfl rfl (p_move rfl) <| ip 14 rfl rfl rfl rfl (p_extract rfl rfl) <| ip 15 rfl rfl rfl rfl (p_extract rfl rfl) <| ip 16 rfl rfl rfl rfl (p_extract rfl rfl) <| i1 19 rfl <| x_store rfl rfl ty69 rfl SM SM RO PT ?_
        refine i1 20 rfl <| x_store rfl rfl ty67 rfl SM SM RO PT ?_
        refine ip 21 rfl rfl rfl rfl (p_assign rfl) <| i0 <| qx <| L_val rfl (v_loadA rfl ty69 HS CT) ?_
        refine mv rfl rfl <| L_op <| x_store rfl rfl ty69 rfl SM SM RO PT ?_
        refine ag rfl rfl <| nq <| J_ret <| J_pick (A := blk a _ _) PC ?_
        refine J_asTo (B := actA a p T q i) (by rfl) ?_
        refine J_return (()) Tryz.results174 (.cellA rfl ty69 HS CT (.tmp rfl .nil)) ?_ ?_
        · rfl
        · exact SU
  ·
    refine x_alloc ty69 rfl fun b8 => I_ready (rs := [4, 18]) SI (by kernel_rfl) (by simp) ?_
    refine (I_cons rfl ?_ (I_cons rfl ?_ I_nil))
    ·
      refine x_call Tryz.func29 nm29 bd29 (.cons rfl .nil) rfl (coSlots) fun _ => I_ready (rs := [12, 18]) SI (by kernel_rfl) (by simp) ?_
      refine (I_cons rfl ?_ (I_cons rfl ?_ I_nil))
      ·
        refine x_call Tryz.func240 nm240 bd240 (.cons rfl (.cons rfl (.cons rfl (.cons rfl .nil)))) rfl (lookCapC (s := s) (b := b) (k := k) (kind := kind) PC hk hb) fun _ => ?_
        refine ip 13 rfl rfl rfl rfl (p_move rfl) <| ip 14 rfl rfl rfl rfl (p_extract rfl rfl) <| ip 15 rfl rfl rfl rfl (p_extract rfl rfl) <| ip 16 rfl rfl rfl rfl (p_extract rfl rfl) <| i1 18 rfl <| x_alloc ty67 rfl fun b9 => i1 19 rfl <| x_store rfl rfl ty69 rfl SM SM RO PT ?_
        refine i1 20 rfl <| x_store rfl rfl ty67 rfl SM SM RO PT ?_
        refine ip 21 rfl rfl rfl rfl (p_assign rfl) <| i0 <| qx <| L_val rfl (v_loadA rfl ty69 HS CT) ?_
        refine mv rfl rfl <| L_op <| x_store rfl rfl ty69 rfl SM SM RO PT ?_
        refine ag rfl rfl <| nq <| J_ret <| J_pick (A := blk a _ _) PC ?_
        refine J_asTo (B := actA a p T q i) (by rfl) ?_
        refine J_return (()) Tryz.results174 (.cellA rfl ty69 HS CT (.tmp rfl .nil)) ?_ ?_
        · rfl
        · exact SU
      ·
        refine x_alloc ty67 rfl fun b9 => i1 12 rfl <| x_call Tryz.func240 nm240 bd240 (.cons rfl (.cons rfl (.cons rfl (.cons rfl .nil)))) rfl (lookCapC (s := s) (b := b) (k := k) (kind := kind) PC hk hb) fun _ => ?_
        refine ip 13 rfl rfl rfl rfl (p_move rfl) <| ip 14 rfl rfl rfl rfl (p_extract rfl rfl) <| ip 15 rfl rfl rfl rfl (p_extract rfl rfl) <| ip 16 rfl rfl rfl rfl (p_extract rfl rfl) <| i1 19 rfl <| x_store rfl rfl ty69 rfl SM SM RO PT ?_
        refine i1 20 rfl <| x_store rfl rfl ty67 rfl SM SM RO PT ?_
        refine ip 21 rfl rfl rfl rfl (p_assign rfl) <| i0 <| qx <| L_val rfl (v_loadA rfl ty69 HS CT) ?_
        refine mv rfl rfl <| L_op <| x_store rfl rfl ty69 rfl SM SM RO PT ?_
        refine ag rfl rfl <| nq <| J_ret <| J_pick (A := blk a _ _) PC ?_
        refine J_asTo (B := actA a p T q i) (by rfl) ?_
        refine J_return (()) Tryz.results174 (.cellA rfl ty69 HS CT (.tmp rfl .nil)) ?_ ?_
        · rfl
        · exact SU
    ·
      refine x_alloc ty67 rfl fun b9 => i1 4 rfl <| x_call Tryz.func29 nm29 bd29 (.cons rfl .nil) rfl (coSlots) fun _ => i1 12 rfl <| x_call Tryz.func240 nm240 bd240 (.cons rfl (.cons rfl (.cons rfl (.cons rfl .nil)))) rfl (lookCapC (s := s) (b := b) (k := k) (kind := kind) PC hk hb) fun _ => ?_
      refine ip 13 rfl rfl rfl rfl (p_move rfl) <| ip 14 rfl rfl rfl rfl (p_extract rfl rfl) <| ip 15 rfl rfl rfl rfl (p_extract rfl rfl) <| ip 16 rfl rfl rfl rfl (p_extract rfl rfl) <| i1 19 rfl <| x_store rfl rfl ty69 rfl SM SM RO PT ?_
      refine i1 20 rfl <| x_store rfl rfl ty67 rfl SM SM RO PT ?_
      refine ip 21 rfl rfl rfl rfl (p_assign rfl) <| i0 <| qx <| L_val rfl (v_loadA rfl ty69 HS CT) ?_
      refine mv rfl rfl <| L_op <| x_store rfl rfl ty69 rfl SM SM RO PT ?_
      refine ag rfl rfl <| nq <| J_ret <| J_pick (A := blk a _ _) PC ?_
      refine J_asTo (B := actA a p T q i) (by rfl) ?_
      refine J_return (()) Tryz.results174 (.cellA rfl ty69 HS CT (.tmp rfl .nil)) ?_ ?_
      · rfl
      · exact SU
  ·
    refine x_alloc ty67 rfl fun b9 => I_ready (rs := [4, 17]) SI (by kernel_rfl) (by simp) ?_
    refine (I_cons rfl ?_ (I_cons rfl ?_ I_nil))
    ·
      refine x_call Tryz.func29 nm29 bd29 (.cons rfl .nil) rfl (coSlots) fun _ => I_ready (rs := [12, 17]) SI (by kernel_rfl) (by simp) ?_
      refine (I_cons rfl ?_ (I_cons rfl ?_ I_nil))
      ·
        refine x_call Tryz.func240 nm240 bd240 (.cons rfl (.cons rfl (.cons rfl (.cons rfl .nil)))) rfl (lookCapC (s := s) (b := b) (k := k) (kind := kind) PC hk hb) fun _ => ?_
        refine ip 13 rfl rfl rfl rfl (p_move rfl) <| ip 14 rfl rfl rfl rfl (p_extract rfl rfl) <| ip 15 rfl rfl rfl rfl (p_extract rfl rfl) <| ip 16 rfl rfl rfl rfl (p_extract rfl rfl) <| i1 17 rfl <| x_alloc ty69 rfl fun b8 => i1 19 rfl <| x_store rfl rfl ty69 rfl SM SM RO PT ?_
        refine i1 20 rfl <| x_store rfl rfl ty67 rfl SM SM RO PT ?_
        refine ip 21 rfl rfl rfl rfl (p_assign rfl) <| i0 <| qx <| L_val rfl (v_loadA rfl ty69 HS CT) ?_
        refine mv rfl rfl <| L_op <| x_store rfl rfl ty69 rfl SM SM RO PT ?_
        refine ag rfl rfl <| nq <| J_ret <| J_pick (A := blk a _ _) PC ?_
        refine J_asTo (B := actA a p T q i) (by rfl) ?_
        refine J_return (()) Tryz.results174 (.cellA rfl ty69 HS CT (.tmp rfl .nil)) ?_ ?_
        · rfl
        · exact SU
      ·
        refine x_alloc ty69 rfl fun b8 => i1 12 rfl <| x_call Tryz.func240 nm240 bd240 (.cons rfl (.cons rfl (.cons rfl (.cons rfl .nil)))) rfl (lookCapC (s := s) (b := b) (k := k) (kind := kind) PC hk hb) fun _ => ?_
        refine ip 13 rfl rfl rfl rfl (p_move rfl) <| ip 14 rfl rfl rfl rfl (p_extract rfl rfl) <| ip 15 rfl rfl rfl rfl (p_extract rfl rfl) <| ip 16 rfl rfl rfl rfl (p_extract rfl rfl) <| i1 19 rfl <| x_store rfl rfl ty69 rfl SM SM RO PT ?_
        refine i1 20 rfl <| x_store rfl rfl ty67 rfl SM SM RO PT ?_
        refine ip 21 rfl rfl rfl rfl (p_assign rfl) <| i0 <| qx <| L_val rfl (v_loadA rfl ty69 HS CT) ?_
        refine mv rfl rfl <| L_op <| x_store rfl rfl ty69 rfl SM SM RO PT ?_
        refine ag rfl rfl <| nq <| J_ret <| J_pick (A := blk a _ _) PC ?_
        refine J_asTo (B := actA a p T q i) (by rfl) ?_
        refine J_return (()) Tryz.results174 (.cellA rfl ty69 HS CT (.tmp rfl .nil)) ?_ ?_
        · rfl
        · exact SU
    ·
      refine x_alloc ty69 rfl fun b8 => i1 4 rfl <| x_call Tryz.func29 nm29 bd29 (.cons rfl .nil) rfl (coSlots) fun _ => i1 12 rfl <| x_call Tryz.func240 nm240 bd240 (.cons rfl (.cons rfl (.cons rfl (.cons rfl .nil)))) rfl (lookCapC (s := s) (b := b) (k := k) (kind := kind) PC hk hb) fun _ => ?_
      refine ip 13 rfl rfl rfl rfl (p_move rfl) <| ip 14 rfl rfl rfl rfl (p_extract rfl rfl) <| ip 15 rfl rfl rfl rfl (p_extract rfl rfl) <| ip 16 rfl rfl rfl rfl (p_extract rfl rfl) <| i1 19 rfl <| x_store rfl rfl ty69 rfl SM SM RO PT ?_
      refine i1 20 rfl <| x_store rfl rfl ty67 rfl SM SM RO PT ?_
      refine ip 21 rfl rfl rfl rfl (p_assign rfl) <| i0 <| qx <| L_val rfl (v_loadA rfl ty69 HS CT) ?_
      refine mv rfl rfl <| L_op <| x_store rfl rfl ty69 rfl SM SM RO PT ?_
      refine ag rfl rfl <| nq <| J_ret <| J_pick (A := blk a _ _) PC ?_
      refine J_asTo (B := actA a p T q i) (by rfl) ?_
      refine J_return (()) Tryz.results174 (.cellA rfl ty69 HS CT (.tmp rfl .nil)) ?_ ?_
      · rfl
      · exact SU
end Go.Pse
namespace Go.Pse
open Go.RowKit Go.Proofs
set_option maxRecDepth 100000 in
set_option maxHeartbeats 4000000 in
theorem rtStartC {E : World} {l m : List As}  {b o : Nat} {ps : List (ID × Rq)} (hp : Pick (rtA b o ps) l m) {i : ID} :
    Con Tryz.prog 52 #[.pointer (some ⟨b, o, none⟩), .agg (encI i).toArray] E l (fun _ : Unit => .bool (look ps i).isSome) (fun _ => rtA b o (rtS ps i) :: m) := by
  refine Con.body (vs := [.pointer (some ⟨b, o, none⟩), .agg (encI i).toArray]) (n := 25) Tryz.func52 rfl rfl [(0, .pointer (some ⟨b, o, none⟩)), (1, .agg (encI i).toArray)] (env_ok 2 rfl) <| J_pick hp <| J_rtO fun ob _ => sr <| L_op <| x_box rfl rfl rfl fun b3 => ag rfl rfl <| nq ?_
  refine J_seq <| J_drawL none mixed <| ip 0 rfl rfl rfl rfl (p_move rfl) <| ip 1 rfl rfl rfl rfl (p_nilCheck rfl) <| ip 2 rfl rfl rfl rfl (p_fieldAddr rfl fa120_0) <| iv 3 rfl rfl rfl rfl (fun _ => v_loadL rfl ty118 HS rfl (by exact rfl)) ?_
  refine iv 4 rfl rfl rfl rfl (fun _ => v_loadA rfl ty39 HS CT) ?_
  refine iv 5 rfl rfl rfl rfl (fun _ => v_lookOk (ek := kI) (ev := evQ) (a := i) rfl rfl ky39 Tryz.underlying118 zv104 HS) ?_
  refine J_slot (t := 13) (v := .tuple #[evQ ((look ps i).getD q00), .bool (look ps i).isSome]) rfl (by cases look ps i <;> rfl) <| ip 6 rfl rfl rfl rfl (p_move rfl) <| ip 7 rfl rfl rfl rfl (p_extract rfl rfl) <| ip 8 rfl rfl rfl rfl (p_extract rfl rfl) <| i1 9 rfl <| x_alloc ty104 rfl fun b5 => i1 10 rfl <| x_store rfl rfl ty104 rfl SM SM RO PT ?_
  refine ip 11 rfl rfl rfl rfl (p_assign rfl) <| i0 <| Q_then <| J_seq <| sr <| mv rfl rfl <| nq ?_
  refine C_split rfl (fun h16 => ?_) (fun h16 => ?_)
  ·
    obtain ⟨q, hq⟩ : ∃ q, look ps i = some q := by
      cases hz : look ps i with
      | none => rw [hz] at h16; simp at h16
      | some q => exact ⟨q, rfl⟩
    rcases ob with _ | bm
    · exact J_mapNone (ps := ps) HS fun hps => by rw [hps] at hq; cases hq
    refine J_pick (A := blk b5 _ _) PC ?_
    refine J_asTo (B := blk b5 104 (encQ q)) (by rw [hq]; rfl) ?_
    have hrs : rtS ps i = ins ps i { q with started := true } := by unfold rtS; rw [hq]
    refine sr <| fa rfl rfl fa104_4 <| L_op <| x_store rfl rfl ty4 rfl SM SM RO PT ?_
    refine J_pick (A := blk b5 _ _) PC ?_
    refine J_asTo (B := blk b5 104 (encQ { q with started := true })) (by rfl) <| nq <| J_drawT 6 mixed (by kernel_rfl) <| sm rfl rfl <| sp rfl (p_nilCheck rfl) <| sp rfl (p_fieldAddr rfl fa120_0) <| S_val rfl (v_loadL rfl ty118 HS rfl (by exact rfl)) ?_
    refine S_val rfl (v_loadA rfl ty39 HS CT) ?_
    refine S_val rfl (v_loadA rfl ty104 HS CT) ?_
    refine S_nil <| L_op <| x_mapUpdate (ek := kI) (ev := evQ) (a := i) (c := { q with started := true }) rfl rfl rfl ky39 Tryz.underlying118 PC ?_
    refine nx <| mv rfl rfl <| ag rfl rfl <| nq <| J_ret <| J_pick (A := mapV kI evQ _ _) PC ?_
    refine J_mapEq (qs := rtS ps i) (by rw [hrs]) <| J_rtS (b := b) (o := o) (ps := rtS ps i) _ PX trivial ?_
    exact J_return (()) Tryz.results52 (.tmp rfl .nil) rfl SU
  ·
    have hno : look ps i = none := by
      cases hz : look ps i with
      | none => rfl
      | some q => rw [hz] at h16; simp at h16
    have hrs : rtS ps i = ps := by unfold rtS; rw [hno]
    refine J_skip <| qx <| mv rfl rfl <| ag rfl rfl <| nq <| J_ret <| J_rtS (b := b) (o := o) (ps := ps) _ PX trivial ?_
    refine J_asTo (B := rtA b o (rtS ps i)) (by rw [hrs]) ?_
    exact J_return (()) Tryz.results52 (.tmp rfl .nil) rfl SU
theorem coRqStart {E : World} {l m : List As} {p : Nat} {s : KS} (hp : Pick (coA p s) l m) {i : ID} :
    Con Tryz.prog 52 #[.pointer (some ⟨p, 10, none⟩), .agg (encI i).toArray] E l (fun _ : Unit => .bool (look s.rt i).isSome) (fun _ => coA p { s with rt := rtS s.rt i } :: m) := fun w H => by
  refine (?_ : Jk E l 0 [] fun _ w => Calls Tryz.prog 52 #[.pointer (some ⟨p, 10, none⟩), .agg (encI i).toArray] w fun e w' => ∃ x, e = .returned ((fun _ : Unit => .bool (look s.rt i).isSome) x) ∧ Sep E w' ((fun _ : Unit => coA p { s with rt := rtS s.rt i } :: m) x)) w _ H fr0
  refine J_pick hp <| J_coO fun bn be br bg bt bs bp bl bk _ => J_con (rtStartC (ps := s.rt) (i := i) PC) fun x => ?_
  refine J_coS (p := p) (s := { s with rt := rtS s.rt i }) bn be br bg bt bs bp bl bk PX trivial ?_
  exact J_end SU
/-- Where the first deed of an ID stands. -/
def idxJ (xs : List Deed) (i : ID) : Option Nat := xs.findIdx? fun d => decide (d.1 = i)
theorem idxJ_some {xs : List Deed} {i : ID} {k : Nat} {d : Deed} (h : xs[k]? = some d) (hd : d.1 = i) (h0 : ∀ e ∈ xs.take k, e.1 ≠ i) : idxJ xs i = some k ∧ atJ xs i = some d := by
  obtain ⟨hk, he⟩ := List.getElem?_eq_some_iff.1 h
  have hj : ∀ j (hj : j < k), xs[j].1 ≠ i := fun j hj => h0 _ (List.mem_iff_getElem.2 ⟨j, by simp; omega, by simp⟩)
  constructor
  · unfold idxJ
    rw [List.findIdx?_eq_some_iff_getElem]
    exact ⟨hk, by rw [he]; simpa using hd, fun j hj' => by simpa using hj j hj'⟩
  · unfold atJ
    rw [List.find?_eq_some_iff_getElem]
    exact ⟨by simpa using hd, k, hk, he, fun j hj' => by simpa using hj j hj'⟩
theorem idxJ_none {xs : List Deed} {i : ID} (h0 : ∀ e ∈ xs, e.1 ≠ i) : idxJ xs i = none ∧ atJ xs i = none := by
  constructor
  · unfold idxJ
    rw [List.findIdx?_eq_none_iff]
    intro e he
    simpa using h0 e he
  · exact atJ_none h0
theorem idxJ_at {xs : List Deed} {i : ID} {k : Nat} (h : idxJ xs i = some k) : ∃ d, xs[k]? = some d ∧ atJ xs i = some d := by
  unfold idxJ at h
  rw [List.findIdx?_eq_some_iff_getElem] at h
  obtain ⟨hk, h1, h2⟩ := h
  refine ⟨xs[k], List.getElem?_eq_getElem hk, ?_⟩
  unfold atJ
  rw [List.find?_eq_some_iff_getElem]
  exact ⟨h1, k, hk, rfl, fun j hj => by simpa using h2 j hj⟩
theorem idxJ_no {xs : List Deed} {i : ID} (h : idxJ xs i = none) : atJ xs i = none := by
  unfold idxJ at h
  rw [List.findIdx?_eq_none_iff] at h
  exact atJ_none fun e he => by simpa using h e he
set_option maxRecDepth 100000 in
set_option maxHeartbeats 4000000 in
theorem atC {E : World} {l : List As} {v : Value} {xs : List Deed} {i : ID} (hr : ∀ w, Sep E w l → Reads w 7 v (xs.map encD)) (hb : xs.length ≤ 200000) :
    Con Tryz.prog 19 #[v, .agg (encI i).toArray] E l (fun _ : Unit => .tuple #[.int .i64 (((idxJ xs i).getD 0 : Nat) : Int), .bool (idxJ xs i).isSome]) (fun _ => l) := by
  refine Con.body (vs := [v, .agg (encI i).toArray]) (n := 21) Tryz.func19 rfl rfl [(0, v), (1, .agg (encI i).toArray)] (env_ok 2 rfl) <| J_readsB hr fun hw a cap hv h1 h2 h3 => ?_
  subst hv
  have hm : cap ≤ 9223372036854775807 := h2
  have hml : (xs.map encD).length = xs.length := List.length_map _
  refine sr <| L_op <| x_box rfl rfl rfl fun b3 => ag rfl rfl <| ag rfl rfl <| nq <| J_seq <| J_seq ?_
  refine J_pick (A := blk b3 _ _) PC ?_
  refine J_asTo (B := blk b3 39 (encI i)) (by rfl) <| J_region <| ag rfl rfl <| nq <| J_block <| J_loop (α := Nat) (fun k => k ≤ xs.length ∧ ∀ e ∈ xs.take k, e.1 ≠ i) (fun k => blk b3 39 (encI i) :: l) (fun k => [(6, .int .i64 (k : Int)), (0, .slice a (xs.map encD).length cap), (3, .pointer (some ⟨b3, 0, none⟩))]) (fun k => xs.length - k) 0 ⟨by omega, by simp⟩ SU KE ?_
  intro k hk
  obtain ⟨hk, h0⟩ := hk
  refine J_seq <| sr <| mv rfl rfl <| mv rfl rfl <| L_pur rfl (p_len rfl Tryz.underlying32) <| L_pur rfl (p_lss rfl rfl) <| nq ?_
  refine C_dec rfl (fun h10 => ?_) (fun h10 => ?_)
  ·
    have hlt : k < xs.length := by omega
    obtain ⟨bx, ox, rfl⟩ := h3 (by intro h; rw [h] at hml; simp at hml; omega)
    obtain ⟨c, hcc⟩ : ∃ c, xs[k]? = some c := ⟨_, List.getElem?_eq_getElem hlt⟩
    refine J_skip <| Q_then <| J_seq <| J_block <| J_seq <| J_drawS mixed (by kernel_rfl) <| sm rfl rfl <| sm rfl rfl ?_
    refine sp rfl (p_indexAddr rfl rfl Tryz.underlying32 ty41 (by omega) (by omega)) <| sp rfl (p_fieldAddr rfl fa41_0) ?_
    refine S_val rfl (by first | exact v_loadFA rfl ty39 HS (by first | (simp only [Int.toNat_natCast, List.getElem?_map, hcc]; rfl) | (simp only [Int.toNat_natCast, List.getElem?_map, hcd]; rfl) | simp | rfl) CT | exact v_loadRFA rfl ty39 (fun w H => hr w (Sub.sep SU H)) (by first | (simp only [Int.toNat_natCast, List.getElem?_map, hcc]; rfl) | (simp only [Int.toNat_natCast, List.getElem?_map, hcd]; rfl) | simp | rfl) CT) ?_
    refine S_val rfl (v_loadA rfl ty39 HS CT) ?_
    refine sp rfl (p_eqv rfl rfl (fun w => eg39 _ _ _ _ _ w) (fun w => eqv39 _ _ _ _ w)) <| J_slot (t := 19) (v := .bool (decide (c.1 = i))) rfl (by congr 1; simp [Prod.ext_iff]) <| sq ?_
    refine C_dec rfl (fun h19 => ?_) (fun h19 => ?_)
    ·
      have hix := idxJ_some hcc h19 h0
      refine sr <| mv rfl rfl <| ag rfl rfl <| ag rfl rfl <| nq <| J_ret <| Q_blk_ret <| Q_then_ret ?_
      refine Q_then_ret <| Q_blk_ret <| Q_then_ret ?_
      refine J_return (()) Tryz.results19 (.tmp rfl (.tmp rfl .nil)) ?_ ?_
      · simp [one, hix.1]
      · exact SU
    ·
      refine J_skip <| Q_blk_normal <| qr <| mv rfl rfl <| L_pur rfl (p_add64 rfl rfl (by omega)) <| ag rfl rfl <| nq ?_
      exact J_again (k + 1) (by omega) (⟨by omega, fun e he => by
          rw [List.take_add_one, hcc] at he
          rcases List.mem_append.1 he with h | h
          · exact h0 e h
          · rw [List.mem_singleton.1 h]; exact h19⟩) SU KE
  ·
    have hkx : k = xs.length := by omega
    rw [hkx, List.take_length] at h0
    have hix := idxJ_none h0
    refine J_exit <| Q_then_exit <| Q_then_exit <| Q_blk_this <| qx <| ag rfl rfl <| ag rfl rfl <| nq ?_
    refine J_ret ?_
    refine J_return (()) Tryz.results19 (.tmp rfl (.tmp rfl .nil)) ?_ ?_
    · simp [one, hix.1]
    · exact SU
abbrev encE (o : Option (Int × Int)) : Value := .agg #[.int .i64 (o.getD (0, 0)).1, .int .u32 (o.getD (0, 0)).2, .bool o.isNone]
/-- What one of the actor's methods does, and tells. -/
def ActorC (f : FuncId) (s : KS) (T : Th) (q : Rq) (i : ID) (s3 : KS) (o : Option (Int × Int)) : Prop := ∀ (E : World) (l m : List As) (a p : Nat), Picks [actA a p T q i, coA p s] l m → Con Tryz.prog f #[.pointer (some ⟨a, 0, none⟩)] E l (fun _ : Unit => encE o) (fun _ => actA a p T q i :: coA p s3 :: m)
set_option maxRecDepth 100000 in
set_option maxHeartbeats 4000000 in
theorem does1 {E : World} {l m : List As} {a p : Nat} {s : KS} {T : Th} {q : Rq} {i : ID} (hp : Picks [actA a p T q i, coA p s] l m) (hop : q.e.op = 1) :
    Con Tryz.prog 86 #[.pointer (some ⟨a, 0, none⟩)] E l (fun _ : Unit => encE (some (0, 0))) (fun _ => actA a p T q i :: coA p s :: m) := by
  refine Con.body (vs := [.pointer (some ⟨a, 0, none⟩)]) (n := 71) Tryz.func86 rfl rfl [(0, .pointer (some ⟨a, 0, none⟩))] (env_ok 1 rfl) <| J_picks2 hp <| J_asTo (B := blk a 250 [.pointer (some ⟨p, 0, none⟩), .int .i64 T.unit, .int .i64 T.space, .int .i64 T.ring, .int .i64 T.root.kind, .int .i64 T.root.obj, .int .i64 T.root.size, .int .i64 T.root.badge, .int .i64 T.root.rights, .int .i64 q.id.1, .int .i64 q.id.2, .int .i64 q.e.op, .int .i64 q.e.flags, .int .u32 q.e.tag, .int .u32 q.e.cap, .int .u32 q.e.a, .int .u32 q.e.b, .int .u32 q.e.c, .int .u32 q.e.time, .int .i64 q.prev, .bool q.soft, .bool q.started, .int .i64 i.1, .int .i64 i.2]) (by rfl) <| sr <| L_op <| x_alloc ty247 rfl fun b2 => nxx <| mv rfl rfl ?_
  refine nc rfl rfl <| fa rfl rfl fa250_2 <| fa rfl rfl fa104_1 <| fa rfl rfl fa31_0 <| L_val rfl (v_load rfl ty3 HS (by exact rfl)) ?_
  refine ag rfl rfl <| nx <| mv rfl rfl <| nq <| J_block <| sr <| L_pur rfl (p_eql rfl rfl) <| ag rfl rfl ?_
  refine nq <| J_bool (t := 11) (c := true) rfl (by simp [hop]) <| C_true rfl <| sr <| L_pur rfl (bld247 .nil (by repeat constructor)) <| L_op <| x_store rfl rfl ty247 rfl SM SM RO PT ?_
  refine nq <| J_ret <| Q_blk_ret <| Q_then_ret <| J_pick (A := blk a _ _) PC ?_
  refine J_asTo (B := actA a p T q i) (by rfl) ?_
  refine J_return (()) Tryz.results86 (.cellA rfl ty247 HS CT .nil) ?_ ?_
  · rfl
  · exact SU
set_option maxRecDepth 100000 in
set_option maxHeartbeats 4000000 in
theorem does16 {E : World} {l m : List As} {a p : Nat} {s : KS} {T : Th} {q : Rq} {i : ID} (hp : Picks [actA a p T q i, coA p s] l m) (hop : q.e.op = 16) {s3 : KS} {o : Option (Int × Int)} (hD : ActorC 126 s T q i s3 o) :
    Con Tryz.prog 86 #[.pointer (some ⟨a, 0, none⟩)] E l (fun _ : Unit => encE o) (fun _ => actA a p T q i :: coA p s3 :: m) := by
  refine Con.body (vs := [.pointer (some ⟨a, 0, none⟩)]) (n := 71) Tryz.func86 rfl rfl [(0, .pointer (some ⟨a, 0, none⟩))] (env_ok 1 rfl) <| J_picks2 hp <| J_asTo (B := blk a 250 [.pointer (some ⟨p, 0, none⟩), .int .i64 T.unit, .int .i64 T.space, .int .i64 T.ring, .int .i64 T.root.kind, .int .i64 T.root.obj, .int .i64 T.root.size, .int .i64 T.root.badge, .int .i64 T.root.rights, .int .i64 q.id.1, .int .i64 q.id.2, .int .i64 q.e.op, .int .i64 q.e.flags, .int .u32 q.e.tag, .int .u32 q.e.cap, .int .u32 q.e.a, .int .u32 q.e.b, .int .u32 q.e.c, .int .u32 q.e.time, .int .i64 q.prev, .bool q.soft, .bool q.started, .int .i64 i.1, .int .i64 i.2]) (by rfl) <| sr <| L_op <| x_alloc ty247 rfl fun b2 => nxx <| mv rfl rfl ?_
  refine nc rfl rfl <| fa rfl rfl fa250_2 <| fa rfl rfl fa104_1 <| fa rfl rfl fa31_0 <| L_val rfl (v_load rfl ty3 HS (by exact rfl)) ?_
  refine J_pick (A := blk a _ _) PC ?_
  refine J_asTo (B := actA a p T q i) (by rfl) <| ag rfl rfl <| nx <| mv rfl rfl <| nq <| J_block <| sr <| L_pur rfl (p_eql rfl rfl) ?_
  refine ag rfl rfl <| nq <| J_bool (t := 11) (c := false) rfl (by simp [hop]) <| C_false rfl <| J_seq <| sr <| L_pur rfl (p_eql rfl rfl) <| ag rfl rfl ?_
  refine nq <| J_bool (t := 14) (c := false) rfl (by simp [hop]) <| C_false rfl <| sr <| L_pur rfl (p_eql rfl rfl) <| ag rfl rfl <| nq <| J_bool (t := 14) (c := false) rfl (by simp [hop]) ?_
  refine C_false rfl <| sr <| L_pur rfl (p_eql rfl rfl) <| ag rfl rfl <| nq <| J_bool (t := 14) (c := false) rfl (by simp [hop]) <| C_false rfl <| sr ?_
  refine L_pur rfl (p_eql rfl rfl) <| ag rfl rfl <| nq <| J_bool (t := 14) (c := false) rfl (by simp [hop]) <| C_false rfl <| J_region <| L_pur rfl (p_eql rfl rfl) <| ag rfl rfl ?_
  refine nq <| J_bool (t := 14) (c := false) rfl (by simp [hop]) <| C_false rfl <| sr <| L_pur rfl (p_eql rfl rfl) <| ag rfl rfl <| nq <| J_bool (t := 22) (c := false) rfl (by simp [hop]) ?_
  refine C_false rfl <| sr <| L_pur rfl (p_eql rfl rfl) <| ag rfl rfl <| nq <| J_bool (t := 26) (c := false) rfl (by simp [hop]) <| C_false rfl <| sr ?_
  refine L_pur rfl (p_eql rfl rfl) <| ag rfl rfl <| nq <| J_bool (t := 30) (c := false) rfl (by simp [hop]) <| C_false rfl <| J_seq <| sr <| L_pur rfl (p_eql rfl rfl) ?_
  refine ag rfl rfl <| nq <| J_bool (t := 34) (c := false) rfl (by simp [hop]) <| C_false rfl <| J_region <| L_pur rfl (p_eql rfl rfl) <| ag rfl rfl <| nq ?_
  refine J_bool (t := 34) (c := false) rfl (by simp [hop]) <| C_false rfl <| sr <| L_pur rfl (p_eql rfl rfl) <| ag rfl rfl <| nq <| J_bool (t := 41) (c := false) rfl (by simp [hop]) <| C_false rfl ?_
  refine sr <| L_pur rfl (p_eql rfl rfl) <| ag rfl rfl <| nq <| J_bool (t := 45) (c := false) rfl (by simp [hop]) <| C_false rfl <| sr <| L_pur rfl (p_eql rfl rfl) ?_
  refine ag rfl rfl <| nq <| J_bool (t := 49) (c := false) rfl (by simp [hop]) <| C_false rfl <| sr <| L_pur rfl (p_eql rfl rfl) <| ag rfl rfl <| nq ?_
  refine J_bool (t := 53) (c := false) rfl (by simp [hop]) <| C_false rfl <| J_seq <| sr <| L_pur rfl (p_eql rfl rfl) <| ag rfl rfl <| nq <| J_bool (t := 57) (c := true) rfl (by simp [hop]) ?_
  refine C_true rfl <| J_skip <| Q_then <| J_bool (t := 57) (c := true) rfl (by simp [hop]) <| C_true rfl <| sr <| mv rfl rfl <| L_op <| x_call Tryz.func126 nm126 bd126 (.cons rfl .nil) rfl (hD _ _ _ a p PX) fun _ => ?_
  refine L_op <| x_store rfl rfl ty247 rfl SM SM RO PT ?_
  refine nq <| J_ret <| Q_blk_ret <| Q_then_ret <| J_pick (A := actA a p T q i) PC ?_
  refine J_return (()) Tryz.results86 (.cellA rfl ty247 HS CT .nil) ?_ ?_
  · rfl
  · exact SU
set_option maxRecDepth 100000 in
set_option maxHeartbeats 4000000 in
theorem does17 {E : World} {l m : List As} {a p : Nat} {s : KS} {T : Th} {q : Rq} {i : ID} (hp : Picks [actA a p T q i, coA p s] l m) (hop : q.e.op = 17) {s3 : KS} {o : Option (Int × Int)} (hD : ActorC 126 s T q i s3 o) :
    Con Tryz.prog 86 #[.pointer (some ⟨a, 0, none⟩)] E l (fun _ : Unit => encE o) (fun _ => actA a p T q i :: coA p s3 :: m) := by
  refine Con.body (vs := [.pointer (some ⟨a, 0, none⟩)]) (n := 71) Tryz.func86 rfl rfl [(0, .pointer (some ⟨a, 0, none⟩))] (env_ok 1 rfl) <| J_picks2 hp <| J_asTo (B := blk a 250 [.pointer (some ⟨p, 0, none⟩), .int .i64 T.unit, .int .i64 T.space, .int .i64 T.ring, .int .i64 T.root.kind, .int .i64 T.root.obj, .int .i64 T.root.size, .int .i64 T.root.badge, .int .i64 T.root.rights, .int .i64 q.id.1, .int .i64 q.id.2, .int .i64 q.e.op, .int .i64 q.e.flags, .int .u32 q.e.tag, .int .u32 q.e.cap, .int .u32 q.e.a, .int .u32 q.e.b, .int .u32 q.e.c, .int .u32 q.e.time, .int .i64 q.prev, .bool q.soft, .bool q.started, .int .i64 i.1, .int .i64 i.2]) (by rfl) <| sr <| L_op <| x_alloc ty247 rfl fun b2 => nxx <| mv rfl rfl ?_
  refine nc rfl rfl <| fa rfl rfl fa250_2 <| fa rfl rfl fa104_1 <| fa rfl rfl fa31_0 <| L_val rfl (v_load rfl ty3 HS (by exact rfl)) ?_
  refine J_pick (A := blk a _ _) PC ?_
  refine J_asTo (B := actA a p T q i) (by rfl) <| ag rfl rfl <| nx <| mv rfl rfl <| nq <| J_block <| sr <| L_pur rfl (p_eql rfl rfl) ?_
  refine ag rfl rfl <| nq <| J_bool (t := 11) (c := false) rfl (by simp [hop]) <| C_false rfl <| J_seq <| sr <| L_pur rfl (p_eql rfl rfl) <| ag rfl rfl ?_
  refine nq <| J_bool (t := 14) (c := false) rfl (by simp [hop]) <| C_false rfl <| sr <| L_pur rfl (p_eql rfl rfl) <| ag rfl rfl <| nq <| J_bool (t := 14) (c := false) rfl (by simp [hop]) ?_
  refine C_false rfl <| sr <| L_pur rfl (p_eql rfl rfl) <| ag rfl rfl <| nq <| J_bool (t := 14) (c := false) rfl (by simp [hop]) <| C_false rfl <| sr ?_
  refine L_pur rfl (p_eql rfl rfl) <| ag rfl rfl <| nq <| J_bool (t := 14) (c := false) rfl (by simp [hop]) <| C_false rfl <| J_region <| L_pur rfl (p_eql rfl rfl) <| ag rfl rfl ?_
  refine nq <| J_bool (t := 14) (c := false) rfl (by simp [hop]) <| C_false rfl <| sr <| L_pur rfl (p_eql rfl rfl) <| ag rfl rfl <| nq <| J_bool (t := 22) (c := false) rfl (by simp [hop]) ?_
  refine C_false rfl <| sr <| L_pur rfl (p_eql rfl rfl) <| ag rfl rfl <| nq <| J_bool (t := 26) (c := false) rfl (by simp [hop]) <| C_false rfl <| sr ?_
  refine L_pur rfl (p_eql rfl rfl) <| ag rfl rfl <| nq <| J_bool (t := 30) (c := false) rfl (by simp [hop]) <| C_false rfl <| J_seq <| sr <| L_pur rfl (p_eql rfl rfl) ?_
  refine ag rfl rfl <| nq <| J_bool (t := 34) (c := false) rfl (by simp [hop]) <| C_false rfl <| J_region <| L_pur rfl (p_eql rfl rfl) <| ag rfl rfl <| nq ?_
  refine J_bool (t := 34) (c := false) rfl (by simp [hop]) <| C_false rfl <| sr <| L_pur rfl (p_eql rfl rfl) <| ag rfl rfl <| nq <| J_bool (t := 41) (c := false) rfl (by simp [hop]) <| C_false rfl ?_
  refine sr <| L_pur rfl (p_eql rfl rfl) <| ag rfl rfl <| nq <| J_bool (t := 45) (c := false) rfl (by simp [hop]) <| C_false rfl <| sr <| L_pur rfl (p_eql rfl rfl) ?_
  refine ag rfl rfl <| nq <| J_bool (t := 49) (c := false) rfl (by simp [hop]) <| C_false rfl <| sr <| L_pur rfl (p_eql rfl rfl) <| ag rfl rfl <| nq ?_
  refine J_bool (t := 53) (c := false) rfl (by simp [hop]) <| C_false rfl <| J_seq <| sr <| L_pur rfl (p_eql rfl rfl) <| ag rfl rfl <| nq <| J_bool (t := 57) (c := false) rfl (by simp [hop]) ?_
  refine C_false rfl <| sr <| L_pur rfl (p_eql rfl rfl) <| ag rfl rfl <| nq <| J_bool (t := 57) (c := true) rfl (by simp [hop]) <| C_true rfl <| J_skip ?_
  refine Q_then <| J_bool (t := 57) (c := true) rfl (by simp [hop]) <| C_true rfl <| sr <| mv rfl rfl <| L_op <| x_call Tryz.func126 nm126 bd126 (.cons rfl .nil) rfl (hD _ _ _ a p PX) fun _ => ?_
  refine L_op <| x_store rfl rfl ty247 rfl SM SM RO PT ?_
  refine nq <| J_ret <| Q_blk_ret <| Q_then_ret <| J_pick (A := actA a p T q i) PC ?_
  refine J_return (()) Tryz.results86 (.cellA rfl ty247 HS CT .nil) ?_ ?_
  · rfl
  · exact SU
set_option maxRecDepth 100000 in
set_option maxHeartbeats 4000000 in
theorem does18 {E : World} {l m : List As} {a p : Nat} {s : KS} {T : Th} {q : Rq} {i : ID} (hp : Picks [actA a p T q i, coA p s] l m) (hop : q.e.op = 18) {s3 : KS} {o : Option (Int × Int)} (hD : ActorC 126 s T q i s3 o) :
    Con Tryz.prog 86 #[.pointer (some ⟨a, 0, none⟩)] E l (fun _ : Unit => encE o) (fun _ => actA a p T q i :: coA p s3 :: m) := by
  refine Con.body (vs := [.pointer (some ⟨a, 0, none⟩)]) (n := 71) Tryz.func86 rfl rfl [(0, .pointer (some ⟨a, 0, none⟩))] (env_ok 1 rfl) <| J_picks2 hp <| J_asTo (B := blk a 250 [.pointer (some ⟨p, 0, none⟩), .int .i64 T.unit, .int .i64 T.space, .int .i64 T.ring, .int .i64 T.root.kind, .int .i64 T.root.obj, .int .i64 T.root.size, .int .i64 T.root.badge, .int .i64 T.root.rights, .int .i64 q.id.1, .int .i64 q.id.2, .int .i64 q.e.op, .int .i64 q.e.flags, .int .u32 q.e.tag, .int .u32 q.e.cap, .int .u32 q.e.a, .int .u32 q.e.b, .int .u32 q.e.c, .int .u32 q.e.time, .int .i64 q.prev, .bool q.soft, .bool q.started, .int .i64 i.1, .int .i64 i.2]) (by rfl) <| sr <| L_op <| x_alloc ty247 rfl fun b2 => nxx <| mv rfl rfl ?_
  refine nc rfl rfl <| fa rfl rfl fa250_2 <| fa rfl rfl fa104_1 <| fa rfl rfl fa31_0 <| L_val rfl (v_load rfl ty3 HS (by exact rfl)) ?_
  refine J_pick (A := blk a _ _) PC ?_
  refine J_asTo (B := actA a p T q i) (by rfl) <| ag rfl rfl <| nx <| mv rfl rfl <| nq <| J_block <| sr <| L_pur rfl (p_eql rfl rfl) ?_
  refine ag rfl rfl <| nq <| J_bool (t := 11) (c := false) rfl (by simp [hop]) <| C_false rfl <| J_seq <| sr <| L_pur rfl (p_eql rfl rfl) <| ag rfl rfl ?_
  refine nq <| J_bool (t := 14) (c := false) rfl (by simp [hop]) <| C_false rfl <| sr <| L_pur rfl (p_eql rfl rfl) <| ag rfl rfl <| nq <| J_bool (t := 14) (c := false) rfl (by simp [hop]) ?_
  refine C_false rfl <| sr <| L_pur rfl (p_eql rfl rfl) <| ag rfl rfl <| nq <| J_bool (t := 14) (c := false) rfl (by simp [hop]) <| C_false rfl <| sr ?_
  refine L_pur rfl (p_eql rfl rfl) <| ag rfl rfl <| nq <| J_bool (t := 14) (c := false) rfl (by simp [hop]) <| C_false rfl <| J_region <| L_pur rfl (p_eql rfl rfl) <| ag rfl rfl ?_
  refine nq <| J_bool (t := 14) (c := false) rfl (by simp [hop]) <| C_false rfl <| sr <| L_pur rfl (p_eql rfl rfl) <| ag rfl rfl <| nq <| J_bool (t := 22) (c := false) rfl (by simp [hop]) ?_
  refine C_false rfl <| sr <| L_pur rfl (p_eql rfl rfl) <| ag rfl rfl <| nq <| J_bool (t := 26) (c := false) rfl (by simp [hop]) <| C_false rfl <| sr ?_
  refine L_pur rfl (p_eql rfl rfl) <| ag rfl rfl <| nq <| J_bool (t := 30) (c := false) rfl (by simp [hop]) <| C_false rfl <| J_seq <| sr <| L_pur rfl (p_eql rfl rfl) ?_
  refine ag rfl rfl <| nq <| J_bool (t := 34) (c := false) rfl (by simp [hop]) <| C_false rfl <| J_region <| L_pur rfl (p_eql rfl rfl) <| ag rfl rfl <| nq ?_
  refine J_bool (t := 34) (c := false) rfl (by simp [hop]) <| C_false rfl <| sr <| L_pur rfl (p_eql rfl rfl) <| ag rfl rfl <| nq <| J_bool (t := 41) (c := false) rfl (by simp [hop]) <| C_false rfl ?_
  refine sr <| L_pur rfl (p_eql rfl rfl) <| ag rfl rfl <| nq <| J_bool (t := 45) (c := false) rfl (by simp [hop]) <| C_false rfl <| sr <| L_pur rfl (p_eql rfl rfl) ?_
  refine ag rfl rfl <| nq <| J_bool (t := 49) (c := false) rfl (by simp [hop]) <| C_false rfl <| sr <| L_pur rfl (p_eql rfl rfl) <| ag rfl rfl <| nq ?_
  refine J_bool (t := 53) (c := false) rfl (by simp [hop]) <| C_false rfl <| J_seq <| sr <| L_pur rfl (p_eql rfl rfl) <| ag rfl rfl <| nq <| J_bool (t := 57) (c := false) rfl (by simp [hop]) ?_
  refine C_false rfl <| sr <| L_pur rfl (p_eql rfl rfl) <| ag rfl rfl <| nq <| J_bool (t := 57) (c := false) rfl (by simp [hop]) <| C_false rfl <| J_region ?_
  refine L_pur rfl (p_eql rfl rfl) <| ag rfl rfl <| nq <| J_bool (t := 57) (c := true) rfl (by simp [hop]) <| C_true rfl <| sr <| mv rfl rfl <| L_op <| x_call Tryz.func126 nm126 bd126 (.cons rfl .nil) rfl (hD _ _ _ a p PX) fun _ => ?_
  refine L_op <| x_store rfl rfl ty247 rfl SM SM RO PT ?_
  refine nq <| J_ret <| Q_blk_ret <| Q_then_ret <| J_pick (A := actA a p T q i) PC ?_
  refine J_return (()) Tryz.results86 (.cellA rfl ty247 HS CT .nil) ?_ ?_
  · rfl
  · exact SU
set_option maxRecDepth 100000 in
set_option maxHeartbeats 4000000 in
theorem coActC {E : World} {l m : List As} {p : Nat} {s : KS} (hp : Pick (coA p s) l m) {i : ID} {q : Rq} {T : Th} {s3 : KS} {o : Option (Int × Int)} (hq : look s.rt i = some q) (hT : ∀ x, Owns s i.1 x → x = some T) (hD : ActorC 86 s T q i s3 o) :
    Con Tryz.prog 53 #[.pointer (some ⟨p, 0, none⟩), .agg (encI i).toArray] E l (fun _ : Unit => .tuple #[.int .i64 ((o.getD (0, 0)).1), .int .u32 ((o.getD (0, 0)).2), .bool o.isSome]) (fun _ => coA p s3 :: m) := by
  refine Con.body (vs := [.pointer (some ⟨p, 0, none⟩), .agg (encI i).toArray]) (n := 42) Tryz.func53 rfl rfl [(0, .pointer (some ⟨p, 0, none⟩)), (1, .agg (encI i).toArray)] (env_ok 2 rfl) <| J_pick hp <| sr <| L_op <| x_box rfl rfl rfl fun b3 => ag rfl rfl <| ag rfl rfl <| ag rfl rfl ?_
  refine nq <| J_seq <| J_drawL none mixed <| ip 0 rfl rfl rfl rfl (p_move rfl) <| iv 2 rfl rfl rfl rfl (fun _ => v_loadA rfl ty39 HS CT) ?_
  refine I_ready (rs := [1, 7]) SI (by kernel_rfl) (by simp) ?_
  refine (I_cons rfl ?_ (I_cons rfl ?_ I_nil))
  ·
    refine x_call Tryz.func22 nm22 bd22 (.cons rfl .nil) rfl (coReqs) fun _ => I_ready (rs := [3, 7]) SI (by kernel_rfl) (by simp) ?_
    refine (I_cons rfl ?_ (I_cons rfl ?_ I_nil))
    ·
      refine x_call Tryz.func51 nm51 bd51 (.cons rfl (.cons rfl .nil)) rfl (coRqGet (s := s) (i := i) PC) fun _ => ?_
      refine J_slot (t := 15) (v := .tuple #[evQ q, .bool true]) rfl (by rw [hq]; rfl) <| ip 4 rfl rfl rfl rfl (p_move rfl) <| ip 5 rfl rfl rfl rfl (p_extract rfl rfl) <| ip 6 rfl rfl rfl rfl (p_extract rfl rfl) <| i1 7 rfl <| x_alloc ty104 rfl fun b7 => i1 8 rfl <| x_store rfl rfl ty104 rfl SM SM RO PT ?_
      refine ip 9 rfl rfl rfl rfl (p_assign rfl) <| i0 <| Q_then <| J_seq <| sr <| mv rfl rfl <| L_pur rfl (p_not rfl) <| nq ?_
      refine J_bool (t := 19) (c := false) rfl (rfl) <| C_false rfl <| J_skip <| qx <| mv rfl rfl <| fa rfl rfl fa39_0 <| L_val rfl (v_load rfl ty3 HS (by exact rfl)) ?_
      refine L_op <| x_call Tryz.func85 nm85 bd85 (.cons rfl (.cons rfl .nil)) rfl (coOwner (s := s) (r := i.1) PC) fun x24 => ?_
      refine J_pure fun hO => ?_
      obtain rfl := hT x24 hO
      refine J_slot (t := 24) (v := .tuple #[evT T, .bool true]) rfl rfl <| mv rfl rfl <| L_pur rfl (p_extract rfl rfl) <| L_pur rfl (p_extract rfl rfl) <| L_op <| x_alloc ty193 rfl fun b9 => L_op <| x_store rfl rfl ty193 rfl SM SM RO PT ?_
      refine ag rfl rfl <| nxx <| mv rfl rfl <| L_pur rfl (p_not rfl) <| nq <| J_bool (t := 28) (c := false) rfl (rfl) <| C_false rfl <| J_skip ?_
      refine qx <| mv rfl rfl <| L_val rfl (v_loadA rfl ty193 HS CT) ?_
      refine L_val rfl (v_loadA rfl ty104 HS CT) ?_
      refine L_val rfl (v_loadA rfl ty39 HS CT) ?_
      refine L_pur rfl (bld250 (.cons rfl (.cons rfl (.cons rfl (.cons rfl .nil)))) (by repeat constructor)) <| L_op <| x_box rfl rfl rfl fun b34 => J_pick (A := blk b34 _ _) PC ?_
      refine J_asTo (B := actA b34 p T q i) (by rfl) <| L_op <| x_call Tryz.func86 nm86 bd86 (.cons rfl .nil) rfl (hD _ _ _ b34 p PX) fun _ => ?_
      refine L_op <| x_alloc ty247 rfl fun b10 => L_op <| x_store rfl rfl ty247 rfl SM SM RO PT ?_
      refine nxx <| fa rfl rfl fa247_2 <| L_val rfl (v_load rfl ty4 HS (by exact rfl)) ?_
      refine nq ?_
      refine C_split rfl (fun h37 => ?_) (fun h37 => ?_)
      ·
        refine sr <| ag rfl rfl <| ag rfl rfl <| ag rfl rfl <| nq <| J_ret <| Q_then_ret ?_
        refine J_return (()) Tryz.results53 (.tmp rfl (.tmp rfl (.tmp rfl .nil))) ?_ ?_
        · rw [show o = none by cases o <;> simp_all]; rfl
        · exact SU
      ·
        refine J_skip <| Q_then <| J_seq <| J_drawS mixed (by kernel_rfl) <| sp rfl (p_fieldAddr rfl fa247_0) <| S_val rfl (v_load rfl ty3 HS (by exact rfl)) ?_
        refine sp rfl (p_fieldAddr rfl fa247_1) <| S_val rfl (v_load rfl ty22 HS (by exact rfl)) ?_
        refine sp rfl (p_assign rfl) <| sp rfl (p_assign rfl) <| sp rfl (p_assign rfl) <| sq <| J_ret ?_
        refine J_return (()) Tryz.results53 (.tmp rfl (.tmp rfl (.tmp rfl .nil))) ?_ ?_
        · obtain ⟨x, rfl⟩ : ∃ x, o = some x := by
            cases o with
            | none => simp at h37
            | some x => exact ⟨x, rfl⟩
          rfl
        · exact SU
    ·
      refine x_alloc ty104 rfl fun b7 => i1 3 rfl <| x_call Tryz.func51 nm51 bd51 (.cons rfl (.cons rfl .nil)) rfl (coRqGet (s := s) (i := i) PC) fun _ => ?_
      refine J_slot (t := 15) (v := .tuple #[evQ q, .bool true]) rfl (by rw [hq]; rfl) <| ip 4 rfl rfl rfl rfl (p_move rfl) <| ip 5 rfl rfl rfl rfl (p_extract rfl rfl) <| ip 6 rfl rfl rfl rfl (p_extract rfl rfl) <| i1 8 rfl <| x_store rfl rfl ty104 rfl SM SM RO PT ?_
      refine ip 9 rfl rfl rfl rfl (p_assign rfl) <| i0 <| Q_then <| J_seq <| sr <| mv rfl rfl <| L_pur rfl (p_not rfl) <| nq ?_
      refine J_bool (t := 19) (c := false) rfl (rfl) <| C_false rfl <| J_skip <| qx <| mv rfl rfl <| fa rfl rfl fa39_0 <| L_val rfl (v_load rfl ty3 HS (by exact rfl)) ?_
      refine L_op <| x_call Tryz.func85 nm85 bd85 (.cons rfl (.cons rfl .nil)) rfl (coOwner (s := s) (r := i.1) PC) fun x24 => ?_
      refine J_pure fun hO => ?_
      obtain rfl := hT x24 hO
      refine J_slot (t := 24) (v := .tuple #[evT T, .bool true]) rfl rfl <| mv rfl rfl <| L_pur rfl (p_extract rfl rfl) <| L_pur rfl (p_extract rfl rfl) <| L_op <| x_alloc ty193 rfl fun b9 => L_op <| x_store rfl rfl ty193 rfl SM SM RO PT ?_
      refine ag rfl rfl <| nxx <| mv rfl rfl <| L_pur rfl (p_not rfl) <| nq <| J_bool (t := 28) (c := false) rfl (rfl) <| C_false rfl <| J_skip ?_
      refine qx <| mv rfl rfl <| L_val rfl (v_loadA rfl ty193 HS CT) ?_
      refine L_val rfl (v_loadA rfl ty104 HS CT) ?_
      refine L_val rfl (v_loadA rfl ty39 HS CT) ?_
      refine L_pur rfl (bld250 (.cons rfl (.cons rfl (.cons rfl (.cons rfl .nil)))) (by repeat constructor)) <| L_op <| x_box rfl rfl rfl fun b34 => J_pick (A := blk b34 _ _) PC ?_
      refine J_asTo (B := actA b34 p T q i) (by rfl) <| L_op <| x_call Tryz.func86 nm86 bd86 (.cons rfl .nil) rfl (hD _ _ _ b34 p PX) fun _ => ?_
      refine L_op <| x_alloc ty247 rfl fun b10 => L_op <| x_store rfl rfl ty247 rfl SM SM RO PT ?_
      refine nxx <| fa rfl rfl fa247_2 <| L_val rfl (v_load rfl ty4 HS (by exact rfl)) ?_
      refine nq ?_
      refine C_split rfl (fun h37 => ?_) (fun h37 => ?_)
      ·
        refine sr <| ag rfl rfl <| ag rfl rfl <| ag rfl rfl <| nq <| J_ret <| Q_then_ret ?_
        refine J_return (()) Tryz.results53 (.tmp rfl (.tmp rfl (.tmp rfl .nil))) ?_ ?_
        · rw [show o = none by cases o <;> simp_all]; rfl
        · exact SU
      ·
        refine J_skip <| Q_then <| J_seq <| J_drawS mixed (by kernel_rfl) <| sp rfl (p_fieldAddr rfl fa247_0) <| S_val rfl (v_load rfl ty3 HS (by exact rfl)) ?_
        refine sp rfl (p_fieldAddr rfl fa247_1) <| S_val rfl (v_load rfl ty22 HS (by exact rfl)) ?_
        refine sp rfl (p_assign rfl) <| sp rfl (p_assign rfl) <| sp rfl (p_assign rfl) <| sq <| J_ret ?_
        refine J_return (()) Tryz.results53 (.tmp rfl (.tmp rfl (.tmp rfl .nil))) ?_ ?_
        · obtain ⟨x, rfl⟩ : ∃ x, o = some x := by
            cases o with
            | none => simp at h37
            | some x => exact ⟨x, rfl⟩
          rfl
        · exact SU
  ·
    refine x_alloc ty104 rfl fun b7 => i1 1 rfl <| x_call Tryz.func22 nm22 bd22 (.cons rfl .nil) rfl (coReqs) fun _ => i1 3 rfl <| x_call Tryz.func51 nm51 bd51 (.cons rfl (.cons rfl .nil)) rfl (coRqGet (s := s) (i := i) PC) fun _ => ?_
    refine J_slot (t := 15) (v := .tuple #[evQ q, .bool true]) rfl (by rw [hq]; rfl) <| ip 4 rfl rfl rfl rfl (p_move rfl) <| ip 5 rfl rfl rfl rfl (p_extract rfl rfl) <| ip 6 rfl rfl rfl rfl (p_extract rfl rfl) <| i1 8 rfl <| x_store rfl rfl ty104 rfl SM SM RO PT ?_
    refine ip 9 rfl rfl rfl rfl (p_assign rfl) <| i0 <| Q_then <| J_seq <| sr <| mv rfl rfl <| L_pur rfl (p_not rfl) <| nq ?_
    refine J_bool (t := 19) (c := false) rfl (rfl) <| C_false rfl <| J_skip <| qx <| mv rfl rfl <| fa rfl rfl fa39_0 <| L_val rfl (v_load rfl ty3 HS (by exact rfl)) ?_
    refine L_op <| x_call Tryz.func85 nm85 bd85 (.cons rfl (.cons rfl .nil)) rfl (coOwner (s := s) (r := i.1) PC) fun x24 => ?_
    refine J_pure fun hO => ?_
    obtain rfl := hT x24 hO
    refine J_slot (t := 24) (v := .tuple #[evT T, .bool true]) rfl rfl <| mv rfl rfl <| L_pur rfl (p_extract rfl rfl) <| L_pur rfl (p_extract rfl rfl) <| L_op <| x_alloc ty193 rfl fun b9 => L_op <| x_store rfl rfl ty193 rfl SM SM RO PT ?_
    refine ag rfl rfl <| nxx <| mv rfl rfl <| L_pur rfl (p_not rfl) <| nq <| J_bool (t := 28) (c := false) rfl (rfl) <| C_false rfl <| J_skip ?_
    refine qx <| mv rfl rfl <| L_val rfl (v_loadA rfl ty193 HS CT) ?_
    refine L_val rfl (v_loadA rfl ty104 HS CT) ?_
    refine L_val rfl (v_loadA rfl ty39 HS CT) ?_
    refine L_pur rfl (bld250 (.cons rfl (.cons rfl (.cons rfl (.cons rfl .nil)))) (by repeat constructor)) <| L_op <| x_box rfl rfl rfl fun b34 => J_pick (A := blk b34 _ _) PC ?_
    refine J_asTo (B := actA b34 p T q i) (by rfl) <| L_op <| x_call Tryz.func86 nm86 bd86 (.cons rfl .nil) rfl (hD _ _ _ b34 p PX) fun _ => ?_
    refine L_op <| x_alloc ty247 rfl fun b10 => L_op <| x_store rfl rfl ty247 rfl SM SM RO PT ?_
    refine nxx <| fa rfl rfl fa247_2 <| L_val rfl (v_load rfl ty4 HS (by exact rfl)) ?_
    refine nq ?_
    refine C_split rfl (fun h37 => ?_) (fun h37 => ?_)
    ·
      refine sr <| ag rfl rfl <| ag rfl rfl <| ag rfl rfl <| nq <| J_ret <| Q_then_ret ?_
      refine J_return (()) Tryz.results53 (.tmp rfl (.tmp rfl (.tmp rfl .nil))) ?_ ?_
      · rw [show o = none by cases o <;> simp_all]; rfl
      · exact SU
    ·
      refine J_skip <| Q_then <| J_seq <| J_drawS mixed (by kernel_rfl) <| sp rfl (p_fieldAddr rfl fa247_0) <| S_val rfl (v_load rfl ty3 HS (by exact rfl)) ?_
      refine sp rfl (p_fieldAddr rfl fa247_1) <| S_val rfl (v_load rfl ty22 HS (by exact rfl)) ?_
      refine sp rfl (p_assign rfl) <| sp rfl (p_assign rfl) <| sp rfl (p_assign rfl) <| sq <| J_ret ?_
      refine J_return (()) Tryz.results53 (.tmp rfl (.tmp rfl (.tmp rfl .nil))) ?_ ?_
      · obtain ⟨x, rfl⟩ : ∃ x, o = some x := by
          cases o with
          | none => simp at h37
          | some x => exact ⟨x, rfl⟩
        rfl
      · exact SU
theorem actC_of {s : KS} {i : ID} {q : Rq} {T : Th} {s3 : KS} {o : Option (Int × Int)} (hq : look s.rt i = some q) (hT : ∀ x, Owns s i.1 x → x = some T) (hD : ActorC 86 s T q i s3 o) : ActC s i s3 o := fun _ _ _ _ hp => coActC hp hq hT hD
set_option maxRecDepth 100000 in
set_option maxHeartbeats 4000000 in
theorem coStart0 {E : World} {l m : List As} {p : Nat} {s : KS} (hp : Pick (coA p s) l m) {i : ID} (hq : look s.rt i = none) :
  Con Tryz.prog 25 #[.pointer (some ⟨p, 0, none⟩), .agg (encI i).toArray] E l (fun _ : Unit => .bool false) (fun _ => coA p s :: m) := by
 refine Con.body (vs := [.pointer (some ⟨p, 0, none⟩), .agg (encI i).toArray]) (n := 40) Tryz.func25 rfl rfl [(0, .pointer (some ⟨p, 0, none⟩)), (1, .agg (encI i).toArray)] (env_ok 2 rfl) <| J_pick hp <| sr <| L_op <| x_box rfl rfl rfl fun b3 => ag rfl rfl <| nq <| J_seq ?_
 refine J_drawL none mixed <| ip 0 rfl rfl rfl rfl (p_move rfl) <| iv 2 rfl rfl rfl rfl (fun _ => v_loadA rfl ty39 HS CT) ?_
 refine I_ready (rs := [1, 7]) SI (by kernel_rfl) (by simp) ?_
 refine (I_cons rfl ?_ (I_cons rfl ?_ I_nil))
 ·
  refine x_call Tryz.func22 nm22 bd22 (.cons rfl .nil) rfl (coReqs) fun _ => I_ready (rs := [3, 7]) SI (by kernel_rfl) (by simp) ?_
  refine (I_cons rfl ?_ (I_cons rfl ?_ I_nil))
  ·
   refine x_call Tryz.func51 nm51 bd51 (.cons rfl (.cons rfl .nil)) rfl (coRqGet (s := s) (i := i) PC) fun _ => ?_
   refine ip 4 rfl rfl rfl rfl (p_move rfl) <| ip 5 rfl rfl rfl rfl (p_extract rfl rfl) <| ip 6 rfl rfl rfl rfl (p_extract rfl rfl) <| i1 7 rfl <| x_alloc ty104 rfl fun b5 => i1 8 rfl <| x_store rfl rfl ty104 rfl SM SM RO PT ?_
   refine ip 9 rfl rfl rfl rfl (p_assign rfl) <| i0 <| Q_then <| J_seq <| sr <| mv rfl rfl <| L_pur rfl (p_not rfl) <| mv rfl rfl ?_
   refine J_bool (t := 19) (c := true) rfl (by rw [hq]; rfl) <| L_op <| G_off rfl rfl rfl rfl rfl rfl <| L_op <| G_off rfl rfl rfl rfl rfl rfl <| L_pur rfl (p_pick_t rfl rfl) <| nq <| C_true rfl ?_
   refine sr <| ag rfl rfl <| nq <| J_ret <| Q_then_ret ?_
   exact J_return (()) Tryz.results25 (.tmp rfl .nil) rfl SU
  ·
   refine x_alloc ty104 rfl fun b5 => i1 3 rfl <| x_call Tryz.func51 nm51 bd51 (.cons rfl (.cons rfl .nil)) rfl (coRqGet (s := s) (i := i) PC) fun _ => ?_
   refine ip 4 rfl rfl rfl rfl (p_move rfl) <| ip 5 rfl rfl rfl rfl (p_extract rfl rfl) <| ip 6 rfl rfl rfl rfl (p_extract rfl rfl) <| i1 8 rfl <| x_store rfl rfl ty104 rfl SM SM RO PT ?_
   refine ip 9 rfl rfl rfl rfl (p_assign rfl) <| i0 <| Q_then <| J_seq <| sr <| mv rfl rfl <| L_pur rfl (p_not rfl) <| mv rfl rfl ?_
   refine J_bool (t := 19) (c := true) rfl (by rw [hq]; rfl) <| L_op <| G_off rfl rfl rfl rfl rfl rfl <| L_op <| G_off rfl rfl rfl rfl rfl rfl <| L_pur rfl (p_pick_t rfl rfl) <| nq <| C_true rfl ?_
   refine sr <| ag rfl rfl <| nq <| J_ret <| Q_then_ret ?_
   exact J_return (()) Tryz.results25 (.tmp rfl .nil) rfl SU
 ·
  refine x_alloc ty104 rfl fun b5 => i1 1 rfl <| x_call Tryz.func22 nm22 bd22 (.cons rfl .nil) rfl (coReqs) fun _ => i1 3 rfl <| x_call Tryz.func51 nm51 bd51 (.cons rfl (.cons rfl .nil)) rfl (coRqGet (s := s) (i := i) PC) fun _ => ?_
  refine ip 4 rfl rfl rfl rfl (p_move rfl) <| ip 5 rfl rfl rfl rfl (p_extract rfl rfl) <| ip 6 rfl rfl rfl rfl (p_extract rfl rfl) <| i1 8 rfl <| x_store rfl rfl ty104 rfl SM SM RO PT ?_
  refine ip 9 rfl rfl rfl rfl (p_assign rfl) <| i0 <| Q_then <| J_seq <| sr <| mv rfl rfl <| L_pur rfl (p_not rfl) <| mv rfl rfl ?_
  refine J_bool (t := 19) (c := true) rfl (by rw [hq]; rfl) <| L_op <| G_off rfl rfl rfl rfl rfl rfl <| L_op <| G_off rfl rfl rfl rfl rfl rfl <| L_pur rfl (p_pick_t rfl rfl) <| nq <| C_true rfl ?_
  refine sr <| ag rfl rfl <| nq <| J_ret <| Q_then_ret ?_
  exact J_return (()) Tryz.results25 (.tmp rfl .nil) rfl SU
set_option maxRecDepth 100000 in
set_option maxHeartbeats 4000000 in
theorem coStart {E : World} {l m : List As} {p : Nat} {s : KS} (hp : Pick (coA p s) l m) {i : ID} {q : Rq} {s3 : KS} {o : Option (Int × Int)} {N M : Nat} (hq : look s.rt i = some q) (hns : q.started = false) (hact : ActC { s with rt := rtS s.rt i } i s3 o) (hF : Fits s3 N M) :
  Con Tryz.prog 25 #[.pointer (some ⟨p, 0, none⟩), .agg (encI i).toArray] E l (fun _ : Unit => .bool true) (fun _ => coA p (askE s3 i o) :: m) := by
 refine Con.body (vs := [.pointer (some ⟨p, 0, none⟩), .agg (encI i).toArray]) (n := 40) Tryz.func25 rfl rfl [(0, .pointer (some ⟨p, 0, none⟩)), (1, .agg (encI i).toArray)] (env_ok 2 rfl) <| J_pick hp <| sr <| L_op <| x_box rfl rfl rfl fun b3 => ag rfl rfl <| nq <| J_seq ?_
 refine J_drawL none mixed <| ip 0 rfl rfl rfl rfl (p_move rfl) <| iv 2 rfl rfl rfl rfl (fun _ => v_loadA rfl ty39 HS CT) ?_
 refine I_ready (rs := [1, 7]) SI (by kernel_rfl) (by simp) ?_
 refine (I_cons rfl ?_ (I_cons rfl ?_ I_nil))
 ·
  refine x_call Tryz.func22 nm22 bd22 (.cons rfl .nil) rfl (coReqs) fun _ => I_ready (rs := [3, 7]) SI (by kernel_rfl) (by simp) ?_
  refine (I_cons rfl ?_ (I_cons rfl ?_ I_nil))
  ·
   refine x_call Tryz.func51 nm51 bd51 (.cons rfl (.cons rfl .nil)) rfl (coRqGet (s := s) (i := i) PC) fun _ => ?_
   refine J_slot (t := 14) (v := .tuple #[evQ q, .bool true]) rfl (by rw [hq]; rfl) <| ip 4 rfl rfl rfl rfl (p_move rfl) <| ip 5 rfl rfl rfl rfl (p_extract rfl rfl) <| ip 6 rfl rfl rfl rfl (p_extract rfl rfl) <| i1 7 rfl <| x_alloc ty104 rfl fun b5 => i1 8 rfl <| x_store rfl rfl ty104 rfl SM SM RO PT ?_
   refine ip 9 rfl rfl rfl rfl (p_assign rfl) <| i0 <| Q_then <| J_seq <| sr <| mv rfl rfl <| L_pur rfl (p_not rfl) <| mv rfl rfl ?_
   refine J_bool (t := 19) (c := false) rfl (rfl) <| L_op <| G_on rfl rfl rfl <| J_pur (p_fieldAddr rfl fa104_4) rfl rfl rfl <| L_op <| G_on rfl rfl rfl <| J_val (v_load rfl ty4 HS (by exact rfl)) rfl rfl rfl ?_
   refine L_pur rfl (p_pick_f rfl rfl) <| nq <| J_bool (t := 22) (c := false) rfl (by first | exact hns | simp [hns]) <| C_false rfl <| J_skip <| Q_then <| J_seq <| J_drawL (some 3) mixed ?_
   refine ip 0 rfl rfl rfl rfl (p_move rfl) <| iv 2 rfl rfl rfl rfl (fun _ => v_loadA rfl ty39 HS CT) ?_
   refine i1 1 rfl <| x_call Tryz.func22 nm22 bd22 (.cons rfl .nil) rfl (coReqs) fun _ => i1 3 rfl <| x_call Tryz.func52 nm52 bd52 (.cons rfl (.cons rfl .nil)) rfl (coRqStart (s := s) (i := i) PC) fun _ => ?_
   refine i0 <| Q_then <| J_seq <| sr <| mv rfl rfl <| L_val rfl (v_loadA rfl ty39 HS CT) ?_
   refine L_op <| x_call Tryz.func53 nm53 bd53 (.cons rfl (.cons rfl .nil)) rfl (hact _ _ _ p PC) fun _ => ?_
   refine mv rfl rfl <| L_pur rfl (p_extract rfl rfl) <| L_pur rfl (p_extract rfl rfl) <| L_pur rfl (p_extract rfl rfl) <| ag rfl rfl <| ag rfl rfl <| ag rfl rfl <| nx ?_
   refine mv rfl rfl <| nq ?_
   refine C_split rfl (fun h34 => ?_) (fun h34 => ?_)
   ·
    obtain ⟨x, rfl⟩ : ∃ x, o = some x := by
     cases o with
     | none => simp at h34
     | some x => exact ⟨x, rfl⟩
    refine J_region <| mv rfl rfl <| L_val rfl (v_loadA rfl ty39 HS CT) ?_
    refine mv rfl rfl <| mv rfl rfl <| L_op <| x_call Tryz.func54 nm54 bd54 (.cons rfl (.cons rfl (.cons rfl (.cons rfl .nil)))) rfl (coDecide (s := s3) (i := i) (r := x.1) (v := x.2) PC hF) fun _ => ?_
    refine nx <| ag rfl rfl <| nq <| J_ret <| J_pick (A := coA p _) PC ?_
    refine J_asTo (B := coA p (askE s3 i (some x))) (by rfl) ?_
    exact J_return (()) Tryz.results25 (.tmp rfl .nil) rfl SU
   ·
    obtain rfl : o = none := by cases o <;> simp_all
    refine J_skip <| qx <| ag rfl rfl <| nq <| J_ret <| J_pick (A := coA p _) PC ?_
    refine J_asTo (B := coA p (askE s3 i none)) (by rfl) ?_
    exact J_return (()) Tryz.results25 (.tmp rfl .nil) rfl SU
  ·
   refine x_alloc ty104 rfl fun b5 => i1 3 rfl <| x_call Tryz.func51 nm51 bd51 (.cons rfl (.cons rfl .nil)) rfl (coRqGet (s := s) (i := i) PC) fun _ => ?_
   refine J_slot (t := 14) (v := .tuple #[evQ q, .bool true]) rfl (by rw [hq]; rfl) <| ip 4 rfl rfl rfl rfl (p_move rfl) <| ip 5 rfl rfl rfl rfl (p_extract rfl rfl) <| ip 6 rfl rfl rfl rfl (p_extract rfl rfl) <| i1 8 rfl <| x_store rfl rfl ty104 rfl SM SM RO PT ?_
   refine ip 9 rfl rfl rfl rfl (p_assign rfl) <| i0 <| Q_then <| J_seq <| sr <| mv rfl rfl <| L_pur rfl (p_not rfl) <| mv rfl rfl ?_
   refine J_bool (t := 19) (c := false) rfl (rfl) <| L_op <| G_on rfl rfl rfl <| J_pur (p_fieldAddr rfl fa104_4) rfl rfl rfl <| L_op <| G_on rfl rfl rfl <| J_val (v_load rfl ty4 HS (by exact rfl)) rfl rfl rfl ?_
   refine L_pur rfl (p_pick_f rfl rfl) <| nq <| J_bool (t := 22) (c := false) rfl (by first | exact hns | simp [hns]) <| C_false rfl <| J_skip <| Q_then <| J_seq <| J_drawL (some 3) mixed ?_
   refine ip 0 rfl rfl rfl rfl (p_move rfl) <| iv 2 rfl rfl rfl rfl (fun _ => v_loadA rfl ty39 HS CT) ?_
   refine i1 1 rfl <| x_call Tryz.func22 nm22 bd22 (.cons rfl .nil) rfl (coReqs) fun _ => i1 3 rfl <| x_call Tryz.func52 nm52 bd52 (.cons rfl (.cons rfl .nil)) rfl (coRqStart (s := s) (i := i) PC) fun _ => ?_
   refine i0 <| Q_then <| J_seq <| sr <| mv rfl rfl <| L_val rfl (v_loadA rfl ty39 HS CT) ?_
   refine L_op <| x_call Tryz.func53 nm53 bd53 (.cons rfl (.cons rfl .nil)) rfl (hact _ _ _ p PC) fun _ => ?_
   refine mv rfl rfl <| L_pur rfl (p_extract rfl rfl) <| L_pur rfl (p_extract rfl rfl) <| L_pur rfl (p_extract rfl rfl) <| ag rfl rfl <| ag rfl rfl <| ag rfl rfl <| nx ?_
   refine mv rfl rfl <| nq ?_
   refine C_split rfl (fun h34 => ?_) (fun h34 => ?_)
   ·
    obtain ⟨x, rfl⟩ : ∃ x, o = some x := by
     cases o with
     | none => simp at h34
     | some x => exact ⟨x, rfl⟩
    refine J_region <| mv rfl rfl <| L_val rfl (v_loadA rfl ty39 HS CT) ?_
    refine mv rfl rfl <| mv rfl rfl <| L_op <| x_call Tryz.func54 nm54 bd54 (.cons rfl (.cons rfl (.cons rfl (.cons rfl .nil)))) rfl (coDecide (s := s3) (i := i) (r := x.1) (v := x.2) PC hF) fun _ => ?_
    refine nx <| ag rfl rfl <| nq <| J_ret <| J_pick (A := coA p _) PC ?_
    refine J_asTo (B := coA p (askE s3 i (some x))) (by rfl) ?_
    exact J_return (()) Tryz.results25 (.tmp rfl .nil) rfl SU
   ·
    obtain rfl : o = none := by cases o <;> simp_all
    refine J_skip <| qx <| ag rfl rfl <| nq <| J_ret <| J_pick (A := coA p _) PC ?_
    refine J_asTo (B := coA p (askE s3 i none)) (by rfl) ?_
    exact J_return (()) Tryz.results25 (.tmp rfl .nil) rfl SU
 ·
  refine x_alloc ty104 rfl fun b5 => i1 1 rfl <| x_call Tryz.func22 nm22 bd22 (.cons rfl .nil) rfl (coReqs) fun _ => i1 3 rfl <| x_call Tryz.func51 nm51 bd51 (.cons rfl (.cons rfl .nil)) rfl (coRqGet (s := s) (i := i) PC) fun _ => ?_
  refine J_slot (t := 14) (v := .tuple #[evQ q, .bool true]) rfl (by rw [hq]; rfl) <| ip 4 rfl rfl rfl rfl (p_move rfl) <| ip 5 rfl rfl rfl rfl (p_extract rfl rfl) <| ip 6 rfl rfl rfl rfl (p_extract rfl rfl) <| i1 8 rfl <| x_store rfl rfl ty104 rfl SM SM RO PT ?_
  refine ip 9 rfl rfl rfl rfl (p_assign rfl) <| i0 <| Q_then <| J_seq <| sr <| mv rfl rfl <| L_pur rfl (p_not rfl) <| mv rfl rfl ?_
  refine J_bool (t := 19) (c := false) rfl (rfl) <| L_op <| G_on rfl rfl rfl <| J_pur (p_fieldAddr rfl fa104_4) rfl rfl rfl <| L_op <| G_on rfl rfl rfl <| J_val (v_load rfl ty4 HS (by exact rfl)) rfl rfl rfl ?_
  refine L_pur rfl (p_pick_f rfl rfl) <| nq <| J_bool (t := 22) (c := false) rfl (by first | exact hns | simp [hns]) <| C_false rfl <| J_skip <| Q_then <| J_seq <| J_drawL (some 3) mixed ?_
  refine ip 0 rfl rfl rfl rfl (p_move rfl) <| iv 2 rfl rfl rfl rfl (fun _ => v_loadA rfl ty39 HS CT) ?_
  refine i1 1 rfl <| x_call Tryz.func22 nm22 bd22 (.cons rfl .nil) rfl (coReqs) fun _ => i1 3 rfl <| x_call Tryz.func52 nm52 bd52 (.cons rfl (.cons rfl .nil)) rfl (coRqStart (s := s) (i := i) PC) fun _ => ?_
  refine i0 <| Q_then <| J_seq <| sr <| mv rfl rfl <| L_val rfl (v_loadA rfl ty39 HS CT) ?_
  refine L_op <| x_call Tryz.func53 nm53 bd53 (.cons rfl (.cons rfl .nil)) rfl (hact _ _ _ p PC) fun _ => ?_
  refine mv rfl rfl <| L_pur rfl (p_extract rfl rfl) <| L_pur rfl (p_extract rfl rfl) <| L_pur rfl (p_extract rfl rfl) <| ag rfl rfl <| ag rfl rfl <| ag rfl rfl <| nx ?_
  refine mv rfl rfl <| nq ?_
  refine C_split rfl (fun h34 => ?_) (fun h34 => ?_)
  ·
   obtain ⟨x, rfl⟩ : ∃ x, o = some x := by
    cases o with
    | none => simp at h34
    | some x => exact ⟨x, rfl⟩
   refine J_region <| mv rfl rfl <| L_val rfl (v_loadA rfl ty39 HS CT) ?_
   refine mv rfl rfl <| mv rfl rfl <| L_op <| x_call Tryz.func54 nm54 bd54 (.cons rfl (.cons rfl (.cons rfl (.cons rfl .nil)))) rfl (coDecide (s := s3) (i := i) (r := x.1) (v := x.2) PC hF) fun _ => ?_
   refine nx <| ag rfl rfl <| nq <| J_ret <| J_pick (A := coA p _) PC ?_
   refine J_asTo (B := coA p (askE s3 i (some x))) (by rfl) ?_
   exact J_return (()) Tryz.results25 (.tmp rfl .nil) rfl SU
  ·
   obtain rfl : o = none := by cases o <;> simp_all
   refine J_skip <| qx <| ag rfl rfl <| nq <| J_ret <| J_pick (A := coA p _) PC ?_
   refine J_asTo (B := coA p (askE s3 i none)) (by rfl) ?_
   exact J_return (()) Tryz.results25 (.tmp rfl .nil) rfl SU
end Go.Pse
namespace Go.Pse
open Go.RowKit Go.Proofs
theorem kTake_is {s : KS} {g c : Int} (h : look s.tk g = some c) : kTake s g 1 = { s with tk := ins s.tk g (c + 1) } ∧ kTakeV s g 1 = c + 1 := by
  unfold kTake kTakeV
  rw [h]; exact ⟨rfl, rfl⟩
theorem addQ_look {ps : List (ID × Rq)} {q : Rq} (h : addOk ps q = true) : look (addQ ps q) q.id = some q := by
  unfold addQ
  rw [if_pos h, look_ins, if_pos rfl]
set_option maxRecDepth 100000 in
set_option maxHeartbeats 4000000 in
theorem coAsk {E : World} {l m : List As} {p : Nat} {s : KS} (hp : Pick (coA p s) l m) {g c : Int} {e : Sqe} {s3 : KS} {o : Option (Int × Int)} {N M : Nat} (hk : look s.tk g = some c) (hc : 0 ≤ c ∧ c ≤ 1000) (hI : Ids s.rt) (hl : s.rt.length ≤ 1000) (hadd : addOk s.rt (rqN (g, c + 1) e) = true) (hact : ActC (askS s g c e) (g, c + 1) s3 o) (hF : Fits s3 N M) :
    Con Tryz.prog 15 #[.pointer (some ⟨p, 0, none⟩), .int .i64 g, .agg #[.int .i64 e.op, .int .i64 e.flags, .int .u32 e.tag, .int .u32 e.cap, .int .u32 e.a, .int .u32 e.b, .int .u32 e.c, .int .u32 e.time]] E l (fun _ : Unit => .tuple #[.int .i64 (askR (askE s3 (g, c + 1) o).jn (g, c + 1)).1, .int .u32 (askR (askE s3 (g, c + 1) o).jn (g, c + 1)).2.1, .bool (askR (askE s3 (g, c + 1) o).jn (g, c + 1)).2.2]) (fun _ => coA p (askE s3 (g, c + 1) o) :: m) := by
  refine Con.body (vs := [.pointer (some ⟨p, 0, none⟩), .int .i64 g, .agg #[.int .i64 e.op, .int .i64 e.flags, .int .u32 e.tag, .int .u32 e.cap, .int .u32 e.a, .int .u32 e.b, .int .u32 e.c, .int .u32 e.time]]) (n := 52) Tryz.func15 rfl rfl [(0, .pointer (some ⟨p, 0, none⟩)), (1, .int .i64 g), (2, .agg #[.int .i64 e.op, .int .i64 e.flags, .int .u32 e.tag, .int .u32 e.cap, .int .u32 e.a, .int .u32 e.b, .int .u32 e.c, .int .u32 e.time])] (env_ok 3 rfl) <| J_pick hp <| sr <| L_op <| x_box rfl rfl rfl fun b5 => ag rfl rfl <| ag rfl rfl <| ag rfl rfl ?_
  refine nx <| mv rfl rfl <| mv rfl rfl <| mv rfl rfl <| L_op <| x_call Tryz.func46 nm46 bd46 (.cons rfl (.cons rfl (.cons rfl .nil))) rfl (coTake (s := s) (r := g) (n := 1) PC (by rw [hk]; show _ ≤ c ∧ c ≤ _; omega) (by omega)) fun _ => ?_
  refine J_slot (t := 16) (v := .int .i64 (c + 1)) rfl (by rw [(kTake_is hk).2]) <| J_pick (A := coA p _) PC ?_
  refine J_asTo (B := coA p { s with tk := ins s.tk g (c + 1) }) (by rw [(kTake_is hk).1]) <| L_pur rfl (bld39 (.cons rfl (.cons rfl .nil)) (by repeat constructor)) <| L_op <| x_alloc ty39 rfl fun b9 => L_op <| x_store rfl rfl ty39 rfl SM SM RO PT ?_
  refine J_pick (A := blk b9 _ _) PC ?_
  refine J_asTo (B := blk b9 39 (encI (g, c + 1))) (by rfl) <| nq <| J_seq <| J_seq <| J_drawL (some 5) mixed <| ip 0 rfl rfl rfl rfl (p_move rfl) <| iv 2 rfl rfl rfl rfl (fun _ => v_loadA rfl ty39 HS CT) ?_
  refine iv 3 rfl rfl rfl rfl (fun _ => v_loadA rfl ty31 HS CT) ?_
  refine ip 4 rfl rfl rfl rfl (bld104 (.cons rfl (.cons rfl .nil)) (by repeat constructor)) <| J_slot (t := 22) (v := .agg (encQ (rqN (g, c + 1) e)).toArray) rfl rfl <| i1 1 rfl <| x_call Tryz.func22 nm22 bd22 (.cons rfl .nil) rfl (coReqs) fun _ => i1 5 rfl <| x_call Tryz.func45 nm45 bd45 (.cons rfl (.cons rfl .nil)) rfl (coRqAdd (s := { s with tk := ins s.tk g (c + 1) }) (q := rqN (g, c + 1) e) PC hI (by show s.rt.length ≤ 100000; omega)) fun _ => ?_
  refine J_bool (t := 23) (c := true) rfl (by rw [hadd]) <| ip 6 rfl rfl rfl rfl (p_not rfl) <| ip 7 rfl rfl rfl rfl (p_move rfl) <| J_bool (t := 25) (c := false) rfl (rfl) <| I_takeOnP (i := 8) rfl rfl rfl rfl rfl rfl rfl (by kernel_rfl) (fun _ _ _ _ h => h) (p_move rfl) <| i1 9 rfl <| G_on rfl rfl rfl <| J_val (v_loadA rfl ty39 HS CT) rfl rfl rfl ?_
  refine i1 10 rfl <| G_on rfl rfl rfl <| x_call Tryz.func25 nm25 bd25 (.cons rfl (.cons rfl .nil)) rfl (coStart (s := { s with tk := ins s.tk g (c + 1), rt := addQ s.rt (rqN (g, c + 1) e) }) (i := (g, c + 1)) (q := rqN (g, c + 1) e) PC (addQ_look hadd) rfl hact hF) fun _ => ?_
  refine I_takeOnP (i := 11) rfl rfl rfl rfl rfl rfl rfl (by kernel_rfl) (fun _ _ _ _ h => h) (p_not rfl) <| ip 12 rfl rfl rfl rfl (p_pick_f rfl rfl) ?_
  obtain ⟨S4, hS4⟩ : ∃ S4, S4 = (askE s3 (g, c + 1) o) := ⟨_, rfl⟩
  refine J_pick (A := coA p _) PC ?_
  refine J_asTo (B := coA p S4) (by rw [hS4]) ?_
  have hF4 : Fits S4 N M := by
    rw [hS4]
    cases o with
    | none => exact hF
    | some x => exact (Fits.dec _ hF).1
  have hj4 : S4.jn.length ≤ 200000 := by have := hF4.jn; have := hF4.mm; omega
  refine i0 <| Q_then <| J_bool (t := 30) (c := false) rfl (rfl) <| C_false rfl <| J_skip <| qx <| mv rfl rfl <| L_op <| x_call Tryz.func17 nm17 bd17 (.cons rfl .nil) rfl (coJournal) fun _ => ?_
  refine L_op <| x_call Tryz.func18 nm18 bd18 (.cons rfl .nil) rfl (coJAll (s := S4) PC hj4) <| JR fun a33 c33 hw33 hl33 hm33 hz33 => ?_
  have hml : (S4.jn.map encD).length = S4.jn.length := List.length_map _
  have hmcap : c33 ≤ 9223372036854775807 := hm33
  refine ag rfl rfl <| nx <| mv rfl rfl <| L_val rfl (v_loadA rfl ty39 HS CT) ?_
  refine L_op <| x_call Tryz.func19 nm19 bd19 (.cons rfl (.cons rfl .nil)) rfl (atC (xs := S4.jn) (i := (g, c + 1)) (fun w H => sep_reads (xs := S4.jn.map encD) HS H) hj4) fun _ => ?_
  refine mv rfl rfl <| L_pur rfl (p_extract rfl rfl) <| L_pur rfl (p_extract rfl rfl) <| ag rfl rfl <| ag rfl rfl <| nxx <| mv rfl rfl <| L_pur rfl (p_not rfl) ?_
  refine nq ?_
  refine C_split rfl (fun h41 => ?_) (fun h41 => ?_)
  ·
    have hno : idxJ S4.jn (g, c + 1) = none := by
      cases hq : idxJ S4.jn (g, c + 1) with
      | none => rfl
      | some y => rw [hq] at h41; simp at h41
    have hat := idxJ_no hno
    refine sr <| ag rfl rfl <| ag rfl rfl <| ag rfl rfl <| nq <| J_ret <| Q_then_ret <| J_pick (A := coA p S4) PC ?_
    refine J_asTo (B := coA p (askE s3 (g, c + 1) o)) (by rw [hS4]) ?_
    refine J_return (()) Tryz.results15 (.tmp rfl (.tmp rfl (.tmp rfl .nil))) ?_ ?_
    · rw [← hS4]; unfold askR; rw [hat]; rfl
    · exact SU
  ·
    obtain ⟨k, hk0⟩ : ∃ k, idxJ S4.jn (g, c + 1) = some k := by
      cases hq : idxJ S4.jn (g, c + 1) with
      | none => rw [hq] at h41; simp at h41
      | some y => exact ⟨y, rfl⟩
    obtain ⟨d, hcc, hat⟩ := idxJ_at hk0
    have hlt : k < S4.jn.length := (List.getElem?_eq_some_iff.1 hcc).1
    obtain ⟨bx, ox, rfl⟩ := hz33 (by intro h; rw [h] at hml; simp at hml; omega)
    refine J_slot (t := 11) (v := .int .i64 (k : Int)) rfl (by rw [hk0]; rfl) <| J_skip <| Q_then <| J_seq <| J_drawS mixed (by kernel_rfl) <| sm rfl rfl <| sm rfl rfl <| sp rfl (p_indexAddr rfl rfl Tryz.underlying32 ty41 (by omega) (by omega)) ?_
    refine sp rfl (p_fieldAddr rfl fa41_3) ?_
    refine S_val rfl (v_loadF rfl ty3 HS (by first | (simp only [Int.toNat_natCast, List.getElem?_map, hcc]; rfl) | (simp only [Int.toNat_natCast, List.getElem?_map, hcd]; rfl) | simp | rfl) (by exact rfl)) ?_
    refine sm rfl rfl <| sm rfl rfl <| sp rfl (p_indexAddr rfl rfl Tryz.underlying32 ty41 (by omega) (by omega)) <| sp rfl (p_fieldAddr rfl fa41_4) ?_
    refine S_val rfl (v_loadF rfl ty22 HS (by first | (simp only [Int.toNat_natCast, List.getElem?_map, hcc]; rfl) | (simp only [Int.toNat_natCast, List.getElem?_map, hcd]; rfl) | simp | rfl) (by exact rfl)) ?_
    refine sp rfl (p_assign rfl) <| sp rfl (p_assign rfl) <| sp rfl (p_assign rfl) <| sq <| J_ret <| J_pick (A := coA p S4) PC ?_
    refine J_asTo (B := coA p (askE s3 (g, c + 1) o)) (by rw [hS4]) ?_
    refine J_return (()) Tryz.results15 (.tmp rfl (.tmp rfl (.tmp rfl .nil))) ?_ ?_
    · rw [← hS4]; unfold askR; rw [hat]; rfl
    · exact SU
set_option maxRecDepth 100000 in
set_option maxHeartbeats 4000000 in
theorem alone2 {E : World} {l : List As} :
    Con Tryz.prog 14 #[.int .i64 2] E l (fun g : NewG => .pointer (some ⟨g.p, 0, none⟩)) (fun g => coA g.p (kNew 2 6 3 4 true g) :: l) := by
  refine Con.body (vs := [.int .i64 2]) (n := 37) Tryz.func14 rfl rfl [(0, .int .i64 2)] (env_ok 1 rfl) <| sr <| ag rfl rfl <| nx <| mv rfl rfl <| mv rfl rfl <| L_pur rfl (p_gtr rfl rfl) <| J_bool (t := 6) (c := true) rfl (by decide) ?_
  refine L_pur rfl (bld101 (.cons rfl (.cons rfl (.cons rfl (.cons rfl (.cons rfl .nil))))) (by repeat constructor)) <| J_slot (t := 7) (v := .agg (encG 2 6 3 4 true).toArray) rfl rfl <| L_op <| x_call Tryz.func44 nm44 bd44 (.cons rfl .nil) rfl (coNew (ct := 2) (cu := 6) (cs := 3) (cc := 4) (sh := true)) fun g => ag rfl rfl <| nxx <| mv rfl rfl <| L_pur rfl (p_eqNilPtr Tryz.underlying25 rfl) ?_
  refine mv rfl rfl <| J_bool (t := 11) (c := false) rfl (rfl) <| L_op <| G_on rfl rfl rfl <| J_pur (p_move rfl) rfl rfl rfl <| L_op <| G_on rfl rfl rfl <| x_call Tryz.func22 nm22 bd22 (.cons rfl .nil) rfl (coReqs) fun _ => ?_
  refine L_op <| G_on rfl rfl rfl <| J_pur (p_eqNilPtr Tryz.underlying48 rfl) rfl rfl rfl <| L_pur rfl (p_pick_f rfl rfl) <| mv rfl rfl <| J_bool (t := 16) (c := false) rfl (rfl) <| L_op <| G_on rfl rfl rfl ?_
  refine J_pur (p_move rfl) rfl rfl rfl <| L_op <| G_on rfl rfl rfl <| x_call Tryz.func17 nm17 bd17 (.cons rfl .nil) rfl (coJournal) fun _ => L_op <| G_on rfl rfl rfl <| J_pur (p_eqNilPtr Tryz.underlying33 rfl) rfl rfl rfl <| L_pur rfl (p_pick_f rfl rfl) ?_
  refine mv rfl rfl <| J_bool (t := 21) (c := false) rfl (rfl) <| L_op <| G_on rfl rfl rfl <| J_pur (p_move rfl) rfl rfl rfl <| L_op <| G_on rfl rfl rfl <| x_call Tryz.func29 nm29 bd29 (.cons rfl .nil) rfl (coSlots) fun _ => ?_
  refine L_op <| G_on rfl rfl rfl <| J_pur (p_eqNilPtr Tryz.underlying63 rfl) rfl rfl rfl <| L_pur rfl (p_pick_f rfl rfl) <| mv rfl rfl <| J_bool (t := 26) (c := false) rfl (rfl) <| L_op <| G_on rfl rfl rfl ?_
  refine J_pur (p_move rfl) rfl rfl rfl <| L_op <| G_on rfl rfl rfl <| x_call Tryz.func38 nm38 bd38 (.cons rfl .nil) rfl (coMaps) fun _ => L_op <| G_on rfl rfl rfl <| J_pur (p_eqNilPtr Tryz.underlying87 rfl) rfl rfl rfl <| L_pur rfl (p_pick_f rfl rfl) ?_
  refine mv rfl rfl <| J_bool (t := 31) (c := false) rfl (rfl) <| L_op <| G_on rfl rfl rfl <| J_pur (p_move rfl) rfl rfl rfl <| L_op <| G_on rfl rfl rfl <| x_call Tryz.func31 nm31 bd31 (.cons rfl .nil) rfl (coQueue) fun _ => ?_
  refine L_op <| G_on rfl rfl rfl <| J_pur (p_eqNilPtr Tryz.underlying70 rfl) rfl rfl rfl <| L_pur rfl (p_pick_f rfl rfl) <| nq <| J_bool (t := 35) (c := false) rfl (rfl) <| C_false rfl <| J_skip ?_
  refine qx <| mv rfl rfl <| ag rfl rfl <| nq <| J_ret ?_
  refine J_return (g) Tryz.results14 (.tmp rfl .nil) ?_ ?_
  · rfl
  · exact SU
theorem first_add {i : ID} {e : Sqe} : addOk [] (rqN i e) = true ∧ addQ [] (rqN i e) = [(i, rqN i e)] := by
  have h : addOk [] (rqN i e) = true := by
    unfold addOk; rw [ofQ_nil]; rfl
  exact ⟨h, by unfold addQ; rw [if_pos h]; rfl⟩
theorem rtS_one {i : ID} {e : Sqe} : rtS [(i, rqN i e)] i = [(i, ⟨i, e, 0, false, true⟩)] := by
  unfold rtS
  rw [look_cons, if_pos rfl]
  dsimp only
  unfold Go.Pse.ins
  rw [look_cons, if_pos rfl]
  simp [rqN]
theorem one_th (g : NewG) : (kNew 1 1 0 0 false g).th = [(2, thOf 1)] := rfl
theorem th_one {s : KS} (h : s.th = [(2, thOf 1)]) (x : Option Th) (ho : Owns s 4 x) : x = some (thOf 1) :=
  owns_is (k := 2) (T := thOf 1) (by rw [h]; rfl) rfl (fun k t hk _ => by
    have := mem_look hk
    rw [h] at this
    cases List.mem_singleton.1 this; rfl) ho
theorem kForget_rt (s : KS) (i : ID) : (kForget s i).rt = s.rt := rfl
theorem first_rt {K : KS} {cs cc : Int} {g : NewG} (h : One K cs cc g) {q : Rq} {r v : Int} : (kDec 1 { K with rt := [((4, 1), q)] } (4, 1) r v).rt = [] := by
  rw [kDec_some (q := q) (by show look [((4, 1), q)] (4, 1) = _; rw [look_cons, if_pos rfl]), kTell_quiet (by show allO _ K.nt = []; rw [h.nt]; rfl)]
  unfold kNext
  have e : (kSaid (kForget { { K with rt := [((4, 1), q)] } with rt := del (KS.rt { K with rt := [((4, 1), q)] }) (4, 1) } (4, 1)) ((4, 1), q.e.tag, q.e.op, r, v, false)).rt = [] := by
    rw [kSaid_rt, kForget_rt]
    show del [(((4, 1) : ID), q)] ((4, 1) : ID) = []
    unfold del; simp
  rw [afterQ_no (fun x hx => by rw [e] at hx; cases hx)]
  exact e
set_option maxRecDepth 100000 in
set_option maxHeartbeats 4000000 in
theorem first25 {E : World} {l : List As} :
  Con Tryz.prog 12 #[] E l (fun _ : Unit => .bool true) (fun _ => l) := by
 refine Con.body (vs := []) (n := 32) Tryz.func12 rfl rfl [] (env_ok 0 rfl) <| sr <| ag rfl rfl <| nx <| L_pur rfl (bld101 (.cons rfl (.cons rfl .nil)) (by repeat constructor)) <| J_slot (t := 2) (v := .agg (encG 1 1 0 0 false).toArray) rfl rfl <| L_op <| x_call Tryz.func44 nm44 bd44 (.cons rfl .nil) rfl (coNew (ct := 1) (cu := 1) (cs := 0) (cc := 0) (sh := false)) fun g => ?_
 have hT := (one_is g).1
 have hth := one_th g
 obtain ⟨K, hK⟩ : ∃ K, K = kNew 1 1 0 0 false g := ⟨_, rfl⟩
 rw [← hK] at hT hth
 refine J_pick (A := coA g.p _) PC ?_
 refine J_asTo (B := coA g.p K) (by rw [hK]) <| ag rfl rfl <| nxx <| mv rfl rfl <| L_pur rfl (p_eqNilPtr Tryz.underlying25 rfl) <| mv rfl rfl <| J_bool (t := 6) (c := false) rfl (rfl) <| L_op <| G_on rfl rfl rfl ?_
 refine J_pur (p_move rfl) rfl rfl rfl <| L_op <| G_on rfl rfl rfl <| x_call Tryz.func22 nm22 bd22 (.cons rfl .nil) rfl (coReqs) fun _ => L_op <| G_on rfl rfl rfl <| J_pur (p_eqNilPtr Tryz.underlying48 rfl) rfl rfl rfl <| L_pur rfl (p_pick_f rfl rfl) ?_
 refine mv rfl rfl <| J_bool (t := 11) (c := false) rfl (rfl) <| L_op <| G_on rfl rfl rfl <| J_pur (p_move rfl) rfl rfl rfl <| L_op <| G_on rfl rfl rfl <| J_pur (bld39 (.cons rfl (.cons rfl .nil)) (by repeat constructor)) rfl rfl rfl ?_
 refine J_slot (t := 13) (v := .agg (encI (4, 1)).toArray) rfl rfl <| L_op <| G_on rfl rfl rfl <| x_call Tryz.func25 nm25 bd25 (.cons rfl (.cons rfl .nil)) rfl (coStart0 (s := K) (i := (4, 1)) PC (by rw [hT.rt]; rfl)) fun _ => ?_
 refine L_pur rfl (p_pick_f rfl rfl) <| nq <| J_bool (t := 15) (c := false) rfl (rfl) <| C_false rfl <| J_skip <| qx <| mv rfl rfl <| L_op <| x_call Tryz.func22 nm22 bd22 (.cons rfl .nil) rfl (coReqs) fun _ => ?_
 refine L_pur rfl (bld39 (.cons rfl (.cons rfl .nil)) (by repeat constructor)) <| J_slot (t := 18) (v := .agg (encI (4, 1)).toArray) rfl rfl <| L_pur rfl (bld31 (.cons rfl .nil) (by repeat constructor)) <| L_pur rfl (bld104 (.cons rfl (.cons rfl .nil)) (by repeat constructor)) <| J_slot (t := 20) (v := .agg (encQ (rqN (4, 1) ⟨1, 0, 0, 0, 0, 0, 0, 0⟩)).toArray) rfl rfl <| L_op <| x_call Tryz.func45 nm45 bd45 (.cons rfl (.cons rfl .nil)) rfl (coRqAdd (s := K) (q := (rqN (4, 1) ⟨1, 0, 0, 0, 0, 0, 0, 0⟩)) PC (by rw [hT.rt]; exact Ids.nil) (by rw [hT.rt]; decide)) fun _ => ?_
 refine J_pick (A := coA g.p _) PC ?_
 refine J_asTo (B := coA g.p { K with rt := [((4, 1), (rqN (4, 1) ⟨1, 0, 0, 0, 0, 0, 0, 0⟩))] }) (by rw [hT.rt, first_add.2]) ?_
 have hact : ActC { K with rt := rtS (KS.rt { K with rt := [((4, 1), (rqN (4, 1) ⟨1, 0, 0, 0, 0, 0, 0, 0⟩))] }) (4, 1) } (4, 1) { K with rt := [((4, 1), (⟨(4, 1), ⟨1, 0, 0, 0, 0, 0, 0, 0⟩, 0, false, true⟩ : Rq))] } (some (0, 0)) := by
  rw [show rtS (KS.rt { K with rt := [((4, 1), (rqN (4, 1) ⟨1, 0, 0, 0, 0, 0, 0, 0⟩))] }) (4, 1) = [((4, 1), (⟨(4, 1), ⟨1, 0, 0, 0, 0, 0, 0, 0⟩, 0, false, true⟩ : Rq))] from rtS_one]
  exact actC_of (q := (⟨(4, 1), ⟨1, 0, 0, 0, 0, 0, 0, 0⟩, 0, false, true⟩ : Rq)) (T := thOf 1) (by show look [((4, 1), (⟨(4, 1), ⟨1, 0, 0, 0, 0, 0, 0, 0⟩, 0, false, true⟩ : Rq))] (4, 1) = _; rw [look_cons, if_pos rfl]) (th_one hth) (fun E l m a p hp => does1 hp rfl)
 have hF3 : Fits { K with rt := [((4, 1), (⟨(4, 1), ⟨1, 0, 0, 0, 0, 0, 0, 0⟩, 0, false, true⟩ : Rq))] } 20 60 := hT.fits (ps := [((4, 1), (⟨(4, 1), ⟨1, 0, 0, 0, 0, 0, 0, 0⟩, 0, false, true⟩ : Rq))]) (fun e he => by rw [List.mem_singleton.1 he]) (by decide)
 refine nx <| mv rfl rfl <| L_pur rfl (bld39 (.cons rfl (.cons rfl .nil)) (by repeat constructor)) <| J_slot (t := 23) (v := .agg (encI (4, 1)).toArray) rfl rfl <| L_op <| x_call Tryz.func25 nm25 bd25 (.cons rfl (.cons rfl .nil)) rfl (coStart (s := { K with rt := [((4, 1), (rqN (4, 1) ⟨1, 0, 0, 0, 0, 0, 0, 0⟩))] }) (i := (4, 1)) (q := (rqN (4, 1) ⟨1, 0, 0, 0, 0, 0, 0, 0⟩)) PC (by show look [((4, 1), (rqN (4, 1) ⟨1, 0, 0, 0, 0, 0, 0, 0⟩))] (4, 1) = _; rw [look_cons, if_pos rfl]) rfl hact hF3) fun _ => ?_
 obtain ⟨S1, hS1⟩ : ∃ S1, S1 = askE { K with rt := [((4, 1), (⟨(4, 1), ⟨1, 0, 0, 0, 0, 0, 0, 0⟩, 0, false, true⟩ : Rq))] } (4, 1) (some (0, 0)) := ⟨_, rfl⟩
 refine J_pick (A := coA g.p _) PC ?_
 refine J_asTo (B := coA g.p S1) (by rw [hS1]) ?_
 have hr : S1.rt = [] := by rw [hS1]; exact first_rt hT
 refine mv rfl rfl <| J_bool (t := 25) (c := true) rfl (rfl) <| L_op <| G_on rfl rfl rfl <| J_pur (p_move rfl) rfl rfl rfl <| L_op <| G_on rfl rfl rfl <| x_call Tryz.func22 nm22 bd22 (.cons rfl .nil) rfl (coReqs) fun _ => ?_
 refine L_op <| G_on rfl rfl rfl <| x_call Tryz.func26 nm26 bd26 (.cons rfl (.cons rfl .nil)) rfl (coRqOf (s := S1) (g := 4) PC (by rw [hr]; exact Ids.nil) (by rw [hr]; decide)) <| JR fun a28 c28 hw28 hl28 hm28 hz28 => L_op <| G_on rfl rfl rfl <| J_pur (p_len rfl Tryz.underlying54) rfl rfl rfl <| L_op <| G_on rfl rfl rfl ?_
 refine J_pur (p_eql rfl rfl) rfl rfl rfl <| J_bool (t := 30) (c := true) rfl (by rw [List.length_map, hr, ofQ_nil]; rfl) <| L_pur rfl (p_pick_t rfl rfl) <| ag rfl rfl <| nq <| J_ret ?_
 exact J_return (()) Tryz.results12 (.tmp rfl .nil) rfl SU
end Go.Pse
namespace Go.Pse
open Go.RowKit Go.Proofs
theorem coQSet {E : World} {l m : List As} {p : Nat} {s : KS} (hp : Pick (coA p s) l m) {i P : Int} (hb : s.q.length ≤ 90000) :
    Con Tryz.prog 183 #[.pointer (some ⟨p, 9, none⟩), .int .i64 i, .int .i64 P] E l (fun _ : Unit => .bool (qSetOk s.q i P)) (fun _ => coA p { s with q := qSet s.q i P } :: m) := fun w H => by
  refine (?_ : Jk E l 0 [] fun _ w => Calls Tryz.prog 183 #[.pointer (some ⟨p, 9, none⟩), .int .i64 i, .int .i64 P] w fun e w' => ∃ x, e = .returned ((fun _ : Unit => .bool (qSetOk s.q i P)) x) ∧ Sep E w' ((fun _ : Unit => coA p { s with q := qSet s.q i P } :: m) x)) w _ H fr0
  refine J_pick hp <| J_coO fun bn be br bg bt bs bp bl bk _ => J_con (qSetC (q := s.q) (i := i) (p := P) PC (by omega)) fun x => ?_
  refine J_coS (p := p) (s := { s with q := qSet s.q i P }) bn be br bg bt bs bp bl bk PX trivial ?_
  exact J_end SU
theorem coSlPut {E : World} {l m : List As} {p : Nat} {s : KS} (hp : Pick (coA p s) l m) {a q : Place} {c : Cap} :
    Con Tryz.prog 30 #[.pointer (some ⟨p, 6, none⟩), .agg (encI a).toArray, .agg (encC c).toArray, .agg (encI q).toArray] E l (fun _ : Unit => .bool (slPutOk s.sl a c q)) (fun _ => coA p { s with sl := slPut s.sl a c q } :: m) := fun w H => by
  refine (?_ : Jk E l 0 [] fun _ w => Calls Tryz.prog 30 #[.pointer (some ⟨p, 6, none⟩), .agg (encI a).toArray, .agg (encC c).toArray, .agg (encI q).toArray] w fun e w' => ∃ x, e = .returned ((fun _ : Unit => .bool (slPutOk s.sl a c q)) x) ∧ Sep E w' ((fun _ : Unit => coA p { s with sl := slPut s.sl a c q } :: m) x)) w _ H fr0
  refine J_pick hp <| J_coO fun bn be br bg bt bs bp bl bk _ => J_con (slPutC (ps := s.sl) (p := a) (c := c) (q := q) PC) fun x => ?_
  refine J_coS (p := p) (s := { s with sl := slPut s.sl a c q }) bn be br bg bt bs bp bl bk PX trivial ?_
  exact J_end SU
set_option maxRecDepth 100000 in
set_option maxHeartbeats 4000000 in
theorem threadsSet {E : World} {l m : List As} {a p : Nat} {s : KS} {T : Th} {q : Rq} {i : ID} (hp : Picks [actA a p T q i, coA p s] l m) {b : Int} {k : Nat} {c : Cap} (hk : k < 16) (hb : checkC (rootC b) = true) (hT : T.root = rootC b) (hcap : q.e.cap = atK k) (hop : q.e.op = 16) (hca : capAt s.sl (b, (k : Int)) 6 = (c, (b, (k : Int)), 0)) (hq : s.q.length ≤ 90000) {P : Int} (hP : q.e.a = P) (hP8 : 0 ≤ P ∧ P < 8) :
    Con Tryz.prog 126 #[.pointer (some ⟨a, 0, none⟩)] E l (fun _ : Unit => encE (some (if qSetOk s.q c.obj P = true then 0 else -11, 0))) (fun _ => actA a p T q i :: coA p { s with q := qSet s.q c.obj P } :: m) := by
  refine Con.body (vs := [.pointer (some ⟨a, 0, none⟩)]) (n := 69) Tryz.func126 rfl rfl [(0, .pointer (some ⟨a, 0, none⟩))] (env_ok 1 rfl) <| J_picks2 hp <| J_asTo (B := blk a 250 [.pointer (some ⟨p, 0, none⟩), .int .i64 T.unit, .int .i64 T.space, .int .i64 T.ring, .int .i64 T.root.kind, .int .i64 T.root.obj, .int .i64 T.root.size, .int .i64 T.root.badge, .int .i64 T.root.rights, .int .i64 q.id.1, .int .i64 q.id.2, .int .i64 q.e.op, .int .i64 q.e.flags, .int .u32 q.e.tag, .int .u32 q.e.cap, .int .u32 q.e.a, .int .u32 q.e.b, .int .u32 q.e.c, .int .u32 q.e.time, .int .i64 q.prev, .bool q.soft, .bool q.started, .int .i64 i.1, .int .i64 i.2]) (by rfl) <| sr <| L_op <| x_alloc ty247 rfl fun b2 => nx <| mv rfl rfl ?_
  refine nc rfl rfl <| fa rfl rfl fa250_2 <| fa rfl rfl fa104_1 <| L_val rfl (v_loadA rfl ty31 HS CT) ?_
  refine L_op <| x_alloc ty31 rfl fun b3 => L_op <| x_store rfl rfl ty31 rfl SM SM RO PT ?_
  refine J_pick (A := blk b3 _ _) PC ?_
  refine J_asTo (B := blk b3 31 [.int .i64 q.e.op, .int .i64 q.e.flags, .int .u32 q.e.tag, .int .u32 q.e.cap, .int .u32 q.e.a, .int .u32 q.e.b, .int .u32 q.e.c, .int .u32 q.e.time]) (by rfl) <| nx <| mv rfl rfl <| fa rfl rfl fa31_3 <| L_val rfl (v_load rfl ty22 HS (by exact rfl)) ?_
  refine J_slot (t := 15) (v := .int .u32 (atK k)) rfl (by rw [hcap]) <| J_pick (A := blk a _ _) PC ?_
  refine J_asTo (B := actA a p T q i) (by rfl) <| L_op <| x_call Tryz.func174 nm174 bd174 (.cons rfl (.cons rfl (.cons rfl .nil))) rfl (foundC (k := k) (b := b) (kind := 6) PX hk hb hT) fun _ => ?_
  refine J_slot (t := 16) (v := .tuple #[.agg (encC c).toArray, .int .i64 0]) rfl (by rw [hca]) <| J_pick (A := actA a p T q i) PC ?_
  refine J_asTo (B := blk a 250 [.pointer (some ⟨p, 0, none⟩), .int .i64 T.unit, .int .i64 T.space, .int .i64 T.ring, .int .i64 T.root.kind, .int .i64 T.root.obj, .int .i64 T.root.size, .int .i64 T.root.badge, .int .i64 T.root.rights, .int .i64 q.id.1, .int .i64 q.id.2, .int .i64 q.e.op, .int .i64 q.e.flags, .int .u32 q.e.tag, .int .u32 q.e.cap, .int .u32 q.e.a, .int .u32 q.e.b, .int .u32 q.e.c, .int .u32 q.e.time, .int .i64 q.prev, .bool q.soft, .bool q.started, .int .i64 i.1, .int .i64 i.2]) (by rfl) <| mv rfl rfl <| L_pur rfl (p_extract rfl rfl) <| L_pur rfl (p_extract rfl rfl) <| L_op <| x_alloc ty69 rfl fun b4 => L_op <| x_store rfl rfl ty69 rfl SM SM RO PT ?_
  refine J_pick (A := blk b4 _ _) PC ?_
  refine J_asTo (B := blk b4 69 (encC c)) (by rfl) <| ag rfl rfl <| nq <| J_seq <| J_block <| sr <| mv rfl rfl <| L_pur rfl (p_neq rfl rfl) ?_
  refine ag rfl rfl <| nq <| J_bool (t := 19) (c := false) rfl (by decide) <| C_false rfl <| sr <| fa rfl rfl fa31_0 <| L_val rfl (v_load rfl ty3 HS (by exact rfl)) ?_
  refine L_pur rfl (p_eql rfl rfl) <| mv rfl rfl <| J_bool (t := 28) (c := true) rfl (by simp [hop]) <| L_op <| G_on rfl rfl rfl <| J_pur (p_fieldAddr rfl fa31_4) rfl rfl rfl <| L_op <| G_on rfl rfl rfl ?_
  refine J_val (v_load rfl ty22 HS (by exact rfl)) rfl rfl rfl ?_
  refine J_slot (t := 30) (v := .int .u32 P) rfl (by rw [hP]) <| L_op <| G_on rfl rfl rfl <| J_pur (p_geq rfl rfl) rfl rfl rfl <| L_pur rfl (p_pick_t rfl rfl) <| ag rfl rfl <| nq <| J_bool (t := 24) (c := false) rfl (by first | (simp; omega) | simp) ?_
  refine C_false rfl <| J_skip <| Q_blk_normal <| qx <| ag rfl rfl <| nxx <| fa rfl rfl fa31_0 <| L_val rfl (v_load rfl ty3 HS (by exact rfl)) ?_
  refine nq <| J_block <| sr <| L_pur rfl (p_eql rfl rfl) <| ag rfl rfl <| nq <| J_bool (t := 43) (c := true) rfl (by simp [hop]) <| C_true rfl ?_
  refine J_drawL (some 10) mixed <| ip 0 rfl rfl rfl rfl (p_move rfl) <| ip 1 rfl rfl rfl rfl (p_nilCheck rfl) <| ip 2 rfl rfl rfl rfl (p_fieldAddr rfl fa250_0) <| iv 3 rfl rfl rfl rfl (fun _ => v_load rfl ty25 HS (by exact rfl)) ?_
  refine ip 5 rfl rfl rfl rfl (p_fieldAddr rfl fa69_1) <| iv 6 rfl rfl rfl rfl (fun _ => v_load rfl ty3 HS (by exact rfl)) ?_
  refine ip 7 rfl rfl rfl rfl (p_fieldAddr rfl fa31_4) <| iv 8 rfl rfl rfl rfl (fun _ => v_load rfl ty22 HS (by exact rfl)) ?_
  refine J_slot (t := 53) (v := .int .u32 P) rfl (by rw [hP]) <| ip 9 rfl rfl rfl rfl (p_conv rfl Tryz.underlying22 Tryz.underlying3) <| J_slot (t := 54) (v := .int .i64 P) rfl (by rw [wrap64_of (by omega)]) <| i1 4 rfl <| x_call Tryz.func31 nm31 bd31 (.cons rfl .nil) rfl (coQueue) fun _ => i1 10 rfl <| x_call Tryz.func183 nm183 bd183 (.cons rfl (.cons rfl (.cons rfl .nil))) rfl (coQSet (s := s) (i := c.obj) (P := P) PC hq) fun _ => ?_
  refine ip 11 rfl rfl rfl rfl (p_assign rfl) <| i0 <| Q_blk_normal <| Q_then <| J_seq <| sr <| mv rfl rfl <| L_pur rfl (p_not rfl) ?_
  refine nq ?_
  refine C_split rfl (fun h66 => ?_) (fun h66 => ?_)
  ·
    have hok : qSetOk s.q c.obj P = false := by simpa using h66
    refine sr <| L_op <| x_call Tryz.func128 nm128 bd128 (.cons rfl .nil) rfl (failsC (by decide)) fun _ => L_op <| x_store rfl rfl ty247 rfl SM SM RO PT ?_
    refine nq <| J_ret <| Q_then_ret <| J_pick (A := blk a _ _) PC ?_
    refine J_asTo (B := actA a p T q i) (by rfl) ?_
    refine J_return (()) Tryz.results126 (.cellA rfl ty247 HS CT .nil) ?_ ?_
    · rw [hok]; rfl
    · exact SU
  ·
    have hok : qSetOk s.q c.obj P = true := by simpa using h66
    refine J_skip <| qx <| L_pur rfl (bld247 .nil (by repeat constructor)) <| L_op <| x_store rfl rfl ty247 rfl SM SM RO PT ?_
    refine nq <| J_ret <| J_pick (A := blk a _ _) PC ?_
    refine J_asTo (B := actA a p T q i) (by rfl) ?_
    refine J_return (()) Tryz.results126 (.cellA rfl ty247 HS CT .nil) ?_ ?_
    · rw [hok]; rfl
    · exact SU
set_option maxRecDepth 100000 in
set_option maxHeartbeats 4000000 in
theorem threadsStop {E : World} {l m : List As} {a p : Nat} {s : KS} {T : Th} {q : Rq} {i : ID} (hp : Picks [actA a p T q i, coA p s] l m) {b : Int} {k : Nat} {c : Cap} (hk : k < 16) (hb : checkC (rootC b) = true) (hT : T.root = rootC b) (hcap : q.e.cap = atK k) (hop : q.e.op = 17) (hca : capAt s.sl (b, (k : Int)) 6 = (c, (b, (k : Int)), 0)) (hq : s.q.length ≤ 90000) :
    Con Tryz.prog 126 #[.pointer (some ⟨a, 0, none⟩)] E l (fun _ : Unit => encE (some (if kStopOk s c.obj = true then 0 else -11, 0))) (fun _ => actA a p T q i :: coA p (kStop s c.obj) :: m) := by
  refine Con.body (vs := [.pointer (some ⟨a, 0, none⟩)]) (n := 69) Tryz.func126 rfl rfl [(0, .pointer (some ⟨a, 0, none⟩))] (env_ok 1 rfl) <| J_picks2 hp <| J_asTo (B := blk a 250 [.pointer (some ⟨p, 0, none⟩), .int .i64 T.unit, .int .i64 T.space, .int .i64 T.ring, .int .i64 T.root.kind, .int .i64 T.root.obj, .int .i64 T.root.size, .int .i64 T.root.badge, .int .i64 T.root.rights, .int .i64 q.id.1, .int .i64 q.id.2, .int .i64 q.e.op, .int .i64 q.e.flags, .int .u32 q.e.tag, .int .u32 q.e.cap, .int .u32 q.e.a, .int .u32 q.e.b, .int .u32 q.e.c, .int .u32 q.e.time, .int .i64 q.prev, .bool q.soft, .bool q.started, .int .i64 i.1, .int .i64 i.2]) (by rfl) <| sr <| L_op <| x_alloc ty247 rfl fun b2 => nx <| mv rfl rfl ?_
  refine nc rfl rfl <| fa rfl rfl fa250_2 <| fa rfl rfl fa104_1 <| L_val rfl (v_loadA rfl ty31 HS CT) ?_
  refine L_op <| x_alloc ty31 rfl fun b3 => L_op <| x_store rfl rfl ty31 rfl SM SM RO PT ?_
  refine J_pick (A := blk b3 _ _) PC ?_
  refine J_asTo (B := blk b3 31 [.int .i64 q.e.op, .int .i64 q.e.flags, .int .u32 q.e.tag, .int .u32 q.e.cap, .int .u32 q.e.a, .int .u32 q.e.b, .int .u32 q.e.c, .int .u32 q.e.time]) (by rfl) <| nx <| mv rfl rfl <| fa rfl rfl fa31_3 <| L_val rfl (v_load rfl ty22 HS (by exact rfl)) ?_
  refine J_slot (t := 15) (v := .int .u32 (atK k)) rfl (by rw [hcap]) <| J_pick (A := blk a _ _) PC ?_
  refine J_asTo (B := actA a p T q i) (by rfl) <| L_op <| x_call Tryz.func174 nm174 bd174 (.cons rfl (.cons rfl (.cons rfl .nil))) rfl (foundC (k := k) (b := b) (kind := 6) PX hk hb hT) fun _ => ?_
  refine J_slot (t := 16) (v := .tuple #[.agg (encC c).toArray, .int .i64 0]) rfl (by rw [hca]) <| J_pick (A := actA a p T q i) PC ?_
  refine J_asTo (B := blk a 250 [.pointer (some ⟨p, 0, none⟩), .int .i64 T.unit, .int .i64 T.space, .int .i64 T.ring, .int .i64 T.root.kind, .int .i64 T.root.obj, .int .i64 T.root.size, .int .i64 T.root.badge, .int .i64 T.root.rights, .int .i64 q.id.1, .int .i64 q.id.2, .int .i64 q.e.op, .int .i64 q.e.flags, .int .u32 q.e.tag, .int .u32 q.e.cap, .int .u32 q.e.a, .int .u32 q.e.b, .int .u32 q.e.c, .int .u32 q.e.time, .int .i64 q.prev, .bool q.soft, .bool q.started, .int .i64 i.1, .int .i64 i.2]) (by rfl) <| mv rfl rfl <| L_pur rfl (p_extract rfl rfl) <| L_pur rfl (p_extract rfl rfl) <| L_op <| x_alloc ty69 rfl fun b4 => L_op <| x_store rfl rfl ty69 rfl SM SM RO PT ?_
  refine J_pick (A := blk b4 _ _) PC ?_
  refine J_asTo (B := blk b4 69 (encC c)) (by rfl) <| ag rfl rfl <| nq <| J_seq <| J_block <| sr <| mv rfl rfl <| L_pur rfl (p_neq rfl rfl) ?_
  refine ag rfl rfl <| nq <| J_bool (t := 19) (c := false) rfl (by decide) <| C_false rfl <| sr <| fa rfl rfl fa31_0 <| L_val rfl (v_load rfl ty3 HS (by exact rfl)) ?_
  refine L_pur rfl (p_eql rfl rfl) <| mv rfl rfl <| J_bool (t := 28) (c := false) rfl (by simp [hop]) <| L_op <| G_off rfl rfl rfl rfl rfl rfl <| L_op <| G_off rfl rfl rfl rfl rfl rfl <| L_op <| G_off rfl rfl rfl rfl rfl rfl ?_
  refine L_pur rfl (p_pick_f rfl rfl) <| ag rfl rfl <| nq <| C_false rfl <| J_skip <| Q_blk_normal <| qx <| ag rfl rfl ?_
  refine nxx <| fa rfl rfl fa31_0 <| L_val rfl (v_load rfl ty3 HS (by exact rfl)) ?_
  refine nq <| J_block <| sr <| L_pur rfl (p_eql rfl rfl) <| ag rfl rfl <| nq <| J_bool (t := 43) (c := false) rfl (by simp [hop]) <| C_false rfl ?_
  refine sr <| L_pur rfl (p_eql rfl rfl) <| ag rfl rfl <| nq <| J_bool (t := 56) (c := true) rfl (by simp [hop]) <| C_true rfl <| J_drawT 6 mixed (by kernel_rfl) <| sm rfl rfl ?_
  refine sp rfl (p_nilCheck rfl) <| sp rfl (p_fieldAddr rfl fa250_0) <| S_val rfl (v_load rfl ty25 HS (by exact rfl)) ?_
  refine sp rfl (p_fieldAddr rfl fa69_1) <| S_val rfl (v_load rfl ty3 HS (by exact rfl)) ?_
  refine S_nil <| L_op <| x_call Tryz.func184 nm184 bd184 (.cons rfl (.cons rfl .nil)) rfl (coStop (s := s) (t := c.obj) PC hq) fun _ => ?_
  refine ag rfl rfl <| L_nil <| Q_blk_normal <| Q_then <| J_seq <| sr <| mv rfl rfl <| L_pur rfl (p_not rfl) ?_
  refine nq ?_
  refine C_split rfl (fun h66 => ?_) (fun h66 => ?_)
  ·
    have hok : kStopOk s c.obj = false := by simpa using h66
    refine sr <| L_op <| x_call Tryz.func128 nm128 bd128 (.cons rfl .nil) rfl (failsC (by decide)) fun _ => L_op <| x_store rfl rfl ty247 rfl SM SM RO PT ?_
    refine nq <| J_ret <| Q_then_ret <| J_pick (A := blk a _ _) PC ?_
    refine J_asTo (B := actA a p T q i) (by rfl) ?_
    refine J_return (()) Tryz.results126 (.cellA rfl ty247 HS CT .nil) ?_ ?_
    · rw [hok]; rfl
    · exact SU
  ·
    have hok : kStopOk s c.obj = true := by simpa using h66
    refine J_skip <| qx <| L_pur rfl (bld247 .nil (by repeat constructor)) <| L_op <| x_store rfl rfl ty247 rfl SM SM RO PT ?_
    refine nq <| J_ret <| J_pick (A := blk a _ _) PC ?_
    refine J_asTo (B := actA a p T q i) (by rfl) ?_
    refine J_return (()) Tryz.results126 (.cellA rfl ty247 HS CT .nil) ?_ ?_
    · rw [hok]; rfl
    · exact SU
set_option maxRecDepth 100000 in
set_option maxHeartbeats 4000000 in
theorem threadsGo {E : World} {l m : List As} {a p : Nat} {s : KS} {T : Th} {q : Rq} {i : ID} (hp : Picks [actA a p T q i, coA p s] l m) {b : Int} {k : Nat} {c : Cap} (hk : k < 16) (hb : checkC (rootC b) = true) (hT : T.root = rootC b) (hcap : q.e.cap = atK k) (hop : q.e.op = 18) (hca : capAt s.sl (b, (k : Int)) 6 = (c, (b, (k : Int)), 0)) (hq : s.q.length ≤ 90000) :
    Con Tryz.prog 126 #[.pointer (some ⟨a, 0, none⟩)] E l (fun _ : Unit => encE (some (if kGoOk s c.obj = true then 0 else -11, 0))) (fun _ => actA a p T q i :: coA p (kGo s c.obj) :: m) := by
  refine Con.body (vs := [.pointer (some ⟨a, 0, none⟩)]) (n := 69) Tryz.func126 rfl rfl [(0, .pointer (some ⟨a, 0, none⟩))] (env_ok 1 rfl) <| J_picks2 hp <| J_asTo (B := blk a 250 [.pointer (some ⟨p, 0, none⟩), .int .i64 T.unit, .int .i64 T.space, .int .i64 T.ring, .int .i64 T.root.kind, .int .i64 T.root.obj, .int .i64 T.root.size, .int .i64 T.root.badge, .int .i64 T.root.rights, .int .i64 q.id.1, .int .i64 q.id.2, .int .i64 q.e.op, .int .i64 q.e.flags, .int .u32 q.e.tag, .int .u32 q.e.cap, .int .u32 q.e.a, .int .u32 q.e.b, .int .u32 q.e.c, .int .u32 q.e.time, .int .i64 q.prev, .bool q.soft, .bool q.started, .int .i64 i.1, .int .i64 i.2]) (by rfl) <| sr <| L_op <| x_alloc ty247 rfl fun b2 => nx <| mv rfl rfl ?_
  refine nc rfl rfl <| fa rfl rfl fa250_2 <| fa rfl rfl fa104_1 <| L_val rfl (v_loadA rfl ty31 HS CT) ?_
  refine L_op <| x_alloc ty31 rfl fun b3 => L_op <| x_store rfl rfl ty31 rfl SM SM RO PT ?_
  refine J_pick (A := blk b3 _ _) PC ?_
  refine J_asTo (B := blk b3 31 [.int .i64 q.e.op, .int .i64 q.e.flags, .int .u32 q.e.tag, .int .u32 q.e.cap, .int .u32 q.e.a, .int .u32 q.e.b, .int .u32 q.e.c, .int .u32 q.e.time]) (by rfl) <| nx <| mv rfl rfl <| fa rfl rfl fa31_3 <| L_val rfl (v_load rfl ty22 HS (by exact rfl)) ?_
  refine J_slot (t := 15) (v := .int .u32 (atK k)) rfl (by rw [hcap]) <| J_pick (A := blk a _ _) PC ?_
  refine J_asTo (B := actA a p T q i) (by rfl) <| L_op <| x_call Tryz.func174 nm174 bd174 (.cons rfl (.cons rfl (.cons rfl .nil))) rfl (foundC (k := k) (b := b) (kind := 6) PX hk hb hT) fun _ => ?_
  refine J_slot (t := 16) (v := .tuple #[.agg (encC c).toArray, .int .i64 0]) rfl (by rw [hca]) <| J_pick (A := actA a p T q i) PC ?_
  refine J_asTo (B := blk a 250 [.pointer (some ⟨p, 0, none⟩), .int .i64 T.unit, .int .i64 T.space, .int .i64 T.ring, .int .i64 T.root.kind, .int .i64 T.root.obj, .int .i64 T.root.size, .int .i64 T.root.badge, .int .i64 T.root.rights, .int .i64 q.id.1, .int .i64 q.id.2, .int .i64 q.e.op, .int .i64 q.e.flags, .int .u32 q.e.tag, .int .u32 q.e.cap, .int .u32 q.e.a, .int .u32 q.e.b, .int .u32 q.e.c, .int .u32 q.e.time, .int .i64 q.prev, .bool q.soft, .bool q.started, .int .i64 i.1, .int .i64 i.2]) (by rfl) <| mv rfl rfl <| L_pur rfl (p_extract rfl rfl) <| L_pur rfl (p_extract rfl rfl) <| L_op <| x_alloc ty69 rfl fun b4 => L_op <| x_store rfl rfl ty69 rfl SM SM RO PT ?_
  refine J_pick (A := blk b4 _ _) PC ?_
  refine J_asTo (B := blk b4 69 (encC c)) (by rfl) <| ag rfl rfl <| nq <| J_seq <| J_block <| sr <| mv rfl rfl <| L_pur rfl (p_neq rfl rfl) ?_
  refine ag rfl rfl <| nq <| J_bool (t := 19) (c := false) rfl (by decide) <| C_false rfl <| sr <| fa rfl rfl fa31_0 <| L_val rfl (v_load rfl ty3 HS (by exact rfl)) ?_
  refine L_pur rfl (p_eql rfl rfl) <| mv rfl rfl <| J_bool (t := 28) (c := false) rfl (by simp [hop]) <| L_op <| G_off rfl rfl rfl rfl rfl rfl <| L_op <| G_off rfl rfl rfl rfl rfl rfl <| L_op <| G_off rfl rfl rfl rfl rfl rfl ?_
  refine L_pur rfl (p_pick_f rfl rfl) <| ag rfl rfl <| nq <| C_false rfl <| J_skip <| Q_blk_normal <| qx <| ag rfl rfl ?_
  refine nxx <| fa rfl rfl fa31_0 <| L_val rfl (v_load rfl ty3 HS (by exact rfl)) ?_
  refine nq <| J_block <| sr <| L_pur rfl (p_eql rfl rfl) <| ag rfl rfl <| nq <| J_bool (t := 43) (c := false) rfl (by simp [hop]) <| C_false rfl ?_
  refine sr <| L_pur rfl (p_eql rfl rfl) <| ag rfl rfl <| nq <| J_bool (t := 56) (c := false) rfl (by simp [hop]) <| C_false rfl <| J_drawT 6 mixed (by kernel_rfl) <| sm rfl rfl ?_
  refine sp rfl (p_nilCheck rfl) <| sp rfl (p_fieldAddr rfl fa250_0) <| S_val rfl (v_load rfl ty25 HS (by exact rfl)) ?_
  refine sp rfl (p_fieldAddr rfl fa69_1) <| S_val rfl (v_load rfl ty3 HS (by exact rfl)) ?_
  refine S_nil <| L_op <| x_call Tryz.func185 nm185 bd185 (.cons rfl (.cons rfl .nil)) rfl (coGo (s := s) (t := c.obj) PC hq) fun _ => ?_
  refine ag rfl rfl <| L_nil <| Q_blk_normal <| Q_then <| J_seq <| sr <| mv rfl rfl <| L_pur rfl (p_not rfl) ?_
  refine nq ?_
  refine C_split rfl (fun h66 => ?_) (fun h66 => ?_)
  ·
    have hok : kGoOk s c.obj = false := by simpa using h66
    refine sr <| L_op <| x_call Tryz.func128 nm128 bd128 (.cons rfl .nil) rfl (failsC (by decide)) fun _ => L_op <| x_store rfl rfl ty247 rfl SM SM RO PT ?_
    refine nq <| J_ret <| Q_then_ret <| J_pick (A := blk a _ _) PC ?_
    refine J_asTo (B := actA a p T q i) (by rfl) ?_
    refine J_return (()) Tryz.results126 (.cellA rfl ty247 HS CT .nil) ?_ ?_
    · rw [hok]; rfl
    · exact SU
  ·
    have hok : kGoOk s c.obj = true := by simpa using h66
    refine J_skip <| qx <| L_pur rfl (bld247 .nil (by repeat constructor)) <| L_op <| x_store rfl rfl ty247 rfl SM SM RO PT ?_
    refine nq <| J_ret <| J_pick (A := blk a _ _) PC ?_
    refine J_asTo (B := actA a p T q i) (by rfl) ?_
    refine J_return (()) Tryz.results126 (.cellA rfl ty247 HS CT .nil) ?_ ?_
    · rw [hok]; rfl
    · exact SU
end Go.Pse
namespace Go.Pse
open Go.RowKit Go.Proofs
/-! ### plain: a thread's priority, its stops -/
theorem askR_last {jn : List Deed} {i : ID} {q : Rq} {r v : Int} (h0 : ∀ d ∈ jn, d.1 ≠ i) : askR (jn ++ [deedQ i q r v]) i = (r, v, true) := by
  unfold askR
  rw [show atJ (jn ++ [deedQ i q r v]) i = some (deedQ i q r v) from atJ_snoc rfl h0]; rfl
theorem th_two {s : KS} (h : s.th = [(2, thOf 1), (15, thOf 14)]) (x : Option Th) (ho : Owns s 4 x) : x = some (thOf 1) :=
  owns_is (k := 2) (T := thOf 1) (by rw [h]; rfl) rfl (fun k t hk hr => by
    have := mem_look hk
    rw [h] at this
    rcases List.mem_cons.1 this with h1 | h1
    · cases h1; rfl
    · cases List.mem_singleton.1 h1
      exact absurd hr (by decide)) ho
theorem root_ok : checkC (rootC 1) = true ∧ checkC (rootC 14) = true := by decide
/-- Something is asked by the first of two: what it is told, what is there then. -/
theorem askT {E : World} {l m : List As} {p : Nat} {K : KS} {g : NewG} {L : List (Place × SV)} {q pr q' pr' : List (Int × Int)} {c w r v t : Int} {jn : List Deed} {RG : List (Int × Nat × Rg)} {MS : List (List Int)} {e : Sqe} {M : Nat}
    (hp : Pick (coA p (TS K g L q pr c w jn RG MS)) l m) (hT : Al2 K g) (hc : 0 ≤ c ∧ c ≤ 1000) (hj : ∀ d ∈ jn, d.1 ≠ (4, c + 1)) (hD : ActorC 86 { TS K g L q pr (c + 1) w jn RG MS with rt := [((4, c + 1), rqB c e)] } (thOf 1) (rqB c e) (4, c + 1) { TS K g L q' pr' (c + 1) w jn RG MS with rt := [((4, c + 1), rqB c e)] } (some (r, v))) (hF : Fits (TS K g L q pr c w jn RG MS) 40 M) (hm : M + 1 ≤ 90000) (hR : Rdy (TS K g L q pr c w jn RG MS) 4 6 t) (ht : 0 ≤ t ∧ t < 16) :
    Con Tryz.prog 15 #[.pointer (some ⟨p, 0, none⟩), .int .i64 4, .agg #[.int .i64 e.op, .int .i64 e.flags, .int .u32 e.tag, .int .u32 e.cap, .int .u32 e.a, .int .u32 e.b, .int .u32 e.c, .int .u32 e.time]] E l (fun _ : List (Int × Nat × Rg) × List (List Int) => .tuple #[.int .i64 r, .int .u32 v, .bool true]) (fun x => As.pure (Rdy (TS K g L q' pr' (c + 1) (orb w 1) (jn ++ [deedQ (4, c + 1) (rqB c e) r v]) x.1 x.2) 4 6 (t + 1) ∧ Fits (TS K g L q' pr' (c + 1) (orb w 1) (jn ++ [deedQ (4, c + 1) (rqB c e) r v]) x.1 x.2) 40 (M + 1)) :: coA p (TS K g L q' pr' (c + 1) (orb w 1) (jn ++ [deedQ (4, c + 1) (rqB c e) r v]) x.1 x.2) :: m) := fun w0 H => by
  obtain ⟨RG2, MS2, h1, h2, h3⟩ := TS_end (r := r) (v := v) (q' := q') (pr' := pr') (e := e) hT hc.1 hF hm hR ht
  have hask := TS_ask (K := K) (g := g) (L := L) (q := q) (pr := pr) (c := c) (w := w) (jn := jn) (RG := RG) (MS := MS) (e := e)
  have hF2 := hF.req hm (i := (4, c + 1)) (q := rqB c e) rfl
  have hF3 : Fits { TS K g L q' pr' (c + 1) w jn RG MS with rt := [((4, c + 1), rqB c e)] } 40 (M + 1) := ⟨hF2.n, hF2.mm, hF2.ids, hF2.jn, hF2.tm, hF2.ep, hF2.nt, hF2.rp, hF2.rg, hF2.mem⟩
  have hact : ActC (askS (TS K g L q pr c w jn RG MS) 4 c e) (4, c + 1) { TS K g L q' pr' (c + 1) w jn RG MS with rt := [((4, c + 1), rqB c e)] } (some (r, v)) := by
    rw [hask]
    exact actC_of (q := rqB c e) (T := thOf 1) (by show look [((4, c + 1), rqB c e)] (4, c + 1) = _; rw [look_cons, if_pos rfl]) (th_two hT.th) hD
  refine ((coAsk (s := (TS K g L q pr c w jn RG MS)) (g := 4) (c := c) (e := e) (o := some (r, v)) hp rfl hc Ids.nil (Nat.zero_le _) first_add.1 hact hF3) w0 H).mono fun x w1 ⟨_, he, H1⟩ => ⟨(RG2, MS2), ?_, ?_⟩
  · rw [he, h1, show (KS.jn (TS K g L q' pr' (c + 1) (orb w 1) (jn ++ [deedQ (4, c + 1) (rqB c e) r v]) RG2 MS2)) = jn ++ [deedQ (4, c + 1) (rqB c e) r v] from rfl, askR_last hj]
  · rw [h1] at H1
    exact H1.pure_in ⟨h2, h3⟩
structure WT (L : List (Place × SV)) (n : Nat) (who : Int) : Prop where
  n16 : n < 16
  sl : look L (1, (n : Int)) = some (⟨6, who, 0, 0, 7⟩, (0, 0))
  two : who = 2 ∨ who = 15
def qz : List (Int × Int) := [(2, 4), (15, 4)]
def thrOk (P who : Int) : Bool := qSetOk qz who P && qHas (qSet qz who P) who && decide (qGet (qSet qz who P) who = some P) && decide ((qSet qz who P).length ≤ 3) && !qHas (qRem (qSet qz who P) who) who && !qSetOk (qRem (qSet qz who P) who) who 1 && decide ((qRem (qSet qz who P) who).length ≤ 3) && qAddOk (qRem (qSet qz who P) who) who P && qHas (qAdd (qRem (qSet qz who P) who) who P) who && decide (qGet (qAdd (qRem (qSet qz who P) who) who P) who = some P) && decide ((qAdd (qRem (qSet qz who P) who) who P).length ≤ 3)
theorem thrOk_all : ∀ n : Nat, n < 8 → (thrOk (n : Int) 2 && thrOk (n : Int) 15) = true := by decide +kernel
theorem wt_2 : look (coreN 2 6 true).2.2.1 (1, ((2 : Nat) : Int)) = some (⟨6, 2, 0, 0, 7⟩, (0, 0)) ∧ slPutOk (coreN 2 6 true).2.2.1 (1, 12) ⟨6, 15, 0, 0, 7⟩ (0, 0) = true ∧ look (slPut (coreN 2 6 true).2.2.1 (1, 12) ⟨6, 15, 0, 0, 7⟩ (0, 0)) (1, ((12 : Nat) : Int)) = some (⟨6, 15, 0, 0, 7⟩, (0, 0)) := by decide +kernel
theorem capAt_some {sl : List (Place × SV)} {p : Place} {kind : Int} {v : SV} (h : look sl p = some v) (hk : v.1.kind = kind) : capAt sl p kind = (v.1, p, 0) := by
  unfold capAt
  rw [h]; simp [hk]
end Go.Pse
namespace Go.Pse
open Go.RowKit Go.Proofs
/-- The same, where what the journal has is of no concern but for its numbers. -/
theorem askU {E : World} {l m : List As} {p : Nat} {K : KS} {g : NewG} {L : List (Place × SV)} {q pr q' pr' : List (Int × Int)} {c w r v t : Int} {jn : List Deed} {RG : List (Int × Nat × Rg)} {MS : List (List Int)} {e : Sqe} {M : Nat}
    (hp : Pick (coA p (TS K g L q pr c w jn RG MS)) l m) (hT : Al2 K g) (hc : 0 ≤ c ∧ c ≤ 1000) (hj : ∀ d ∈ jn, d.1.2 ≤ c) (hD : ActorC 86 { TS K g L q pr (c + 1) w jn RG MS with rt := [((4, c + 1), rqB c e)] } (thOf 1) (rqB c e) (4, c + 1) { TS K g L q' pr' (c + 1) w jn RG MS with rt := [((4, c + 1), rqB c e)] } (some (r, v))) (hF : Fits (TS K g L q pr c w jn RG MS) 40 M) (hm : M + 1 ≤ 90000) (hR : Rdy (TS K g L q pr c w jn RG MS) 4 6 t) (ht : 0 ≤ t ∧ t < 16) :
    Con Tryz.prog 15 #[.pointer (some ⟨p, 0, none⟩), .int .i64 4, .agg #[.int .i64 e.op, .int .i64 e.flags, .int .u32 e.tag, .int .u32 e.cap, .int .u32 e.a, .int .u32 e.b, .int .u32 e.c, .int .u32 e.time]] E l (fun _ : List (Int × Nat × Rg) × List (List Int) × List Deed × Int => .tuple #[.int .i64 r, .int .u32 v, .bool true]) (fun x => As.pure (Rdy (TS K g L q' pr' (c + 1) x.2.2.2 x.2.2.1 x.1 x.2.1) 4 6 (t + 1) ∧ Fits (TS K g L q' pr' (c + 1) x.2.2.2 x.2.2.1 x.1 x.2.1) 40 (M + 1) ∧ ∀ d ∈ x.2.2.1, d.1.2 ≤ c + 1) :: coA p (TS K g L q' pr' (c + 1) x.2.2.2 x.2.2.1 x.1 x.2.1) :: m) := fun w0 H =>
  (askT hp hT hc (fun d hd e => by have := hj d hd; rw [e] at this; simp at this; omega) hD hF hm hR ht w0 H).mono fun e w1 ⟨x, he, H1⟩ => ⟨(x.1, x.2, _, _), he, by
    obtain ⟨⟨h1, h2⟩, H2⟩ := H1.pure_out
    refine H2.pure_in ⟨h1, h2, fun d hd => ?_⟩
    rcases List.mem_append.1 hd with h | h
    · have := hj d h; omega
    · rw [List.mem_singleton.1 h]; exact Int.le_refl _⟩
def sqe (op : Int) (n : Nat) (P : Int) : Sqe := ⟨op, 0, 0, atK n, P, 0, 0, 0⟩
theorem whoTh {K : KS} {g : NewG} {L : List (Place × SV)} {n : Nat} {who : Int} (hT : Al2 K g) (hW : WT L n who) : (look K.th who).isSome = true := by
  rw [hT.th]
  rcases hW.two with h | h <;> rw [h] <;> rfl
theorem act_set {K : KS} {g : NewG} {L : List (Place × SV)} {q pr : List (Int × Int)} {c w : Int} {jn : List Deed} {RG : List (Int × Nat × Rg)} {MS : List (List Int)} {n : Nat} {who : Int} (hT : Al2 K g) (hW : WT L n who) (hq : q.length ≤ 3) {P : Int} (hP : 0 ≤ P ∧ P < 8) : ActorC 86 { TS K g L q pr (c + 1) w jn RG MS with rt := [((4, c + 1), rqB c (sqe 16 n P))] } (thOf 1) (rqB c (sqe 16 n P)) (4, c + 1) { TS K g L (qSet q who P) pr (c + 1) w jn RG MS with rt := [((4, c + 1), rqB c (sqe 16 n P))] } (some (if qSetOk q who P = true then 0 else -11, 0)) := fun E l m a p hp => does16 hp rfl (fun E l m a p hp => by
  have hca : capAt (KS.sl { TS K g L q pr (c + 1) w jn RG MS with rt := [((4, c + 1), rqB c (sqe 16 n P))] }) (1, (n : Int)) 6 = (⟨6, who, 0, 0, 7⟩, (1, (n : Int)), 0) := capAt_some (v := (⟨6, who, 0, 0, 7⟩, (0, 0))) hW.sl rfl
  exact threadsSet hp hW.n16 root_ok.1 rfl rfl rfl hca (by show q.length ≤ 90000; omega) rfl hP)
theorem act_stop {K : KS} {g : NewG} {L : List (Place × SV)} {q pr : List (Int × Int)} {c w : Int} {jn : List Deed} {RG : List (Int × Nat × Rg)} {MS : List (List Int)} {n : Nat} {who : Int} (hT : Al2 K g) (hW : WT L n who) (hq : q.length ≤ 3) (hq1 : qHas q who = true) : ActorC 86 { TS K g L q pr (c + 1) w jn RG MS with rt := [((4, c + 1), rqB c (sqe 17 n 0))] } (thOf 1) (rqB c (sqe 17 n 0)) (4, c + 1) { TS K g L (qRem q who) (ins pr who ((qGet q who).getD 0)) (c + 1) w jn RG MS with rt := [((4, c + 1), rqB c (sqe 17 n 0))] } (some (0, 0)) := fun E l m a p hp => does17 hp rfl (fun E l m a p hp => by
  have hca : capAt (KS.sl { TS K g L q pr (c + 1) w jn RG MS with rt := [((4, c + 1), rqB c (sqe 17 n 0))] }) (1, (n : Int)) 6 = (⟨6, who, 0, 0, 7⟩, (1, (n : Int)), 0) := capAt_some (v := (⟨6, who, 0, 0, 7⟩, (0, 0))) hW.sl rfl
  have hok : kStopOk { TS K g L q pr (c + 1) w jn RG MS with rt := [((4, c + 1), rqB c (sqe 17 n 0))] } who = true := by
    unfold kStopOk
    rw [show (KS.th { TS K g L q pr (c + 1) w jn RG MS with rt := [((4, c + 1), rqB c (sqe 17 n 0))] }) = K.th from rfl, whoTh hT hW, show (KS.q { TS K g L q pr (c + 1) w jn RG MS with rt := [((4, c + 1), rqB c (sqe 17 n 0))] }) = q from rfl, hq1]; rfl
  have h := threadsStop (E := E) hp hW.n16 root_ok.1 rfl rfl rfl hca (by show q.length ≤ 90000; omega)
  rw [hok, if_pos rfl, show kStop { TS K g L q pr (c + 1) w jn RG MS with rt := [((4, c + 1), rqB c (sqe 17 n 0))] } who = { TS K g L (qRem q who) (ins pr who ((qGet q who).getD 0)) (c + 1) w jn RG MS with rt := [((4, c + 1), rqB c (sqe 17 n 0))] } by unfold kStop; rw [hok]; rfl] at h
  exact h)
theorem act_stop0 {K : KS} {g : NewG} {L : List (Place × SV)} {q pr : List (Int × Int)} {c w : Int} {jn : List Deed} {RG : List (Int × Nat × Rg)} {MS : List (List Int)} {n : Nat} {who : Int} (hT : Al2 K g) (hW : WT L n who) (hq : q.length ≤ 3) (hq1 : qHas q who = false) : ActorC 86 { TS K g L q pr (c + 1) w jn RG MS with rt := [((4, c + 1), rqB c (sqe 17 n 0))] } (thOf 1) (rqB c (sqe 17 n 0)) (4, c + 1) { TS K g L q pr (c + 1) w jn RG MS with rt := [((4, c + 1), rqB c (sqe 17 n 0))] } (some (-11, 0)) := fun E l m a p hp => does17 hp rfl (fun E l m a p hp => by
  have hca : capAt (KS.sl { TS K g L q pr (c + 1) w jn RG MS with rt := [((4, c + 1), rqB c (sqe 17 n 0))] }) (1, (n : Int)) 6 = (⟨6, who, 0, 0, 7⟩, (1, (n : Int)), 0) := capAt_some (v := (⟨6, who, 0, 0, 7⟩, (0, 0))) hW.sl rfl
  have hok : kStopOk { TS K g L q pr (c + 1) w jn RG MS with rt := [((4, c + 1), rqB c (sqe 17 n 0))] } who = false := by
    unfold kStopOk
    rw [show (KS.q { TS K g L q pr (c + 1) w jn RG MS with rt := [((4, c + 1), rqB c (sqe 17 n 0))] }) = q from rfl, hq1, Bool.and_false]
  have h := threadsStop (E := E) hp hW.n16 root_ok.1 rfl rfl rfl hca (by show q.length ≤ 90000; omega)
  rw [hok, if_neg (by decide), show kStop { TS K g L q pr (c + 1) w jn RG MS with rt := [((4, c + 1), rqB c (sqe 17 n 0))] } who = { TS K g L q pr (c + 1) w jn RG MS with rt := [((4, c + 1), rqB c (sqe 17 n 0))] } by unfold kStop; rw [hok]; rfl] at h
  exact h)
theorem act_go {K : KS} {g : NewG} {L : List (Place × SV)} {q pr : List (Int × Int)} {c w : Int} {jn : List Deed} {RG : List (Int × Nat × Rg)} {MS : List (List Int)} {n : Nat} {who : Int} (hT : Al2 K g) (hW : WT L n who) (hq : q.length ≤ 3) {P : Int} (hpr : (look pr who).getD 4 = P) (hq1 : qAddOk q who P = true) : ActorC 86 { TS K g L q pr (c + 1) w jn RG MS with rt := [((4, c + 1), rqB c (sqe 18 n 0))] } (thOf 1) (rqB c (sqe 18 n 0)) (4, c + 1) { TS K g L (qAdd q who P) pr (c + 1) w jn RG MS with rt := [((4, c + 1), rqB c (sqe 18 n 0))] } (some (0, 0)) := fun E l m a p hp => does18 hp rfl (fun E l m a p hp => by
  have hca : capAt (KS.sl { TS K g L q pr (c + 1) w jn RG MS with rt := [((4, c + 1), rqB c (sqe 18 n 0))] }) (1, (n : Int)) 6 = (⟨6, who, 0, 0, 7⟩, (1, (n : Int)), 0) := capAt_some (v := (⟨6, who, 0, 0, 7⟩, (0, 0))) hW.sl rfl
  have hpo : kPrio { TS K g L q pr (c + 1) w jn RG MS with rt := [((4, c + 1), rqB c (sqe 18 n 0))] } who = P := hpr
  have hok : kGoOk { TS K g L q pr (c + 1) w jn RG MS with rt := [((4, c + 1), rqB c (sqe 18 n 0))] } who = true := by
    unfold kGoOk
    rw [hpo, show (KS.th { TS K g L q pr (c + 1) w jn RG MS with rt := [((4, c + 1), rqB c (sqe 18 n 0))] }) = K.th from rfl, whoTh hT hW, show (KS.q { TS K g L q pr (c + 1) w jn RG MS with rt := [((4, c + 1), rqB c (sqe 18 n 0))] }) = q from rfl, hq1]; rfl
  have h := threadsGo (E := E) hp hW.n16 root_ok.1 rfl rfl rfl hca (by show q.length ≤ 90000; omega)
  rw [hok, if_pos rfl, show kGo { TS K g L q pr (c + 1) w jn RG MS with rt := [((4, c + 1), rqB c (sqe 18 n 0))] } who = { TS K g L (qAdd q who P) pr (c + 1) w jn RG MS with rt := [((4, c + 1), rqB c (sqe 18 n 0))] } by unfold kGo; rw [show (KS.th { TS K g L q pr (c + 1) w jn RG MS with rt := [((4, c + 1), rqB c (sqe 18 n 0))] }) = K.th from rfl, whoTh hT hW, hpo]; rfl] at h
  exact h)
structure ThrF (P who : Int) : Prop where
  f1 : qSetOk qz who P = true
  f2 : qHas (qSet qz who P) who = true
  f3 : qGet (qSet qz who P) who = some P
  f4 : (qSet qz who P).length ≤ 3
  f5 : qHas (qRem (qSet qz who P) who) who = false
  f6 : qSetOk (qRem (qSet qz who P) who) who 1 = false
  f7 : (qRem (qSet qz who P) who).length ≤ 3
  f8 : qAddOk (qRem (qSet qz who P) who) who P = true
  f9 : qHas (qAdd (qRem (qSet qz who P) who) who P) who = true
  f10 : qGet (qAdd (qRem (qSet qz who P) who) who P) who = some P
  f11 : (qAdd (qRem (qSet qz who P) who) who P).length ≤ 3
theorem thrF {n : Nat} {who : Int} (hn : n < 8) (hw : who = 2 ∨ who = 15) : ThrF (n : Int) who := by
  have h := thrOk_all n hn
  rw [Bool.and_eq_true] at h
  have h2 : thrOk (n : Int) who = true := by
    rcases hw with rfl | rfl
    · exact h.1
    · exact h.2
  unfold thrOk at h2
  simp only [Bool.and_eq_true, decide_eq_true_eq, Bool.not_eq_true'] at h2
  obtain ⟨⟨⟨⟨⟨⟨⟨⟨⟨⟨h1, h2⟩, h3⟩, h4⟩, h5⟩, h6⟩, h7⟩, h8⟩, h9⟩, h10⟩, h11⟩ := h2
  exact ⟨h1, h2, h3, h4, h5, h6, h7, h8, h9, h10, h11⟩
set_option maxRecDepth 100000 in
set_option maxHeartbeats 4000000 in
theorem actThreads {E W : World} {d : Int} {other : Bool} :
  Con Tryz.prog 7 #[.int .i64 d, .bool other] E [old W] (fun _ : Unit => .bool true) (fun _ => [old W]) := by
 refine Con.body (vs := [.int .i64 d, .bool other]) (n := 171) Tryz.func7 rfl rfl [(0, .int .i64 d), (1, .bool other)] (env_ok 2 rfl) <| sr <| ag rfl rfl <| nx <| L_op <| x_call Tryz.func12 nm12 bd12 .nil rfl (first25) fun _ => ag rfl rfl <| nxx ?_
 refine mv rfl rfl <| L_pur rfl (p_not rfl) <| nq <| J_bool (t := 30) (c := false) rfl (rfl) <| C_false rfl <| J_skip <| qx <| mv rfl rfl ?_
 refine L_op <| x_call Tryz.func13 nm13 bd13 (.cons rfl (.cons rfl .nil)) rfl (number (by omega) (by omega)) fun _ => ?_
 obtain ⟨k8, hk8⟩ : ∃ k8, k8 = num d (8 : Nat) := ⟨_, rfl⟩
 have h8 : k8 < 8 := by rw [hk8]; exact num_lt' (by omega)
 refine J_slot (t := 32) (v := .int .i64 (k8 : Int)) rfl (by rw [hk8]; rfl) <| ag rfl rfl <| nx <| L_op <| x_call Tryz.func14 nm14 bd14 (.cons rfl .nil) rfl (alone2) fun g => ?_
 have hT := al2_is g
 obtain ⟨K, hK⟩ : ∃ K, K = kNew 2 6 3 4 true g := ⟨_, rfl⟩
 rw [← hK] at hT
 refine J_pick (A := coA g.p _) PC ?_
 refine J_asTo (B := coA g.p K) (by rw [hK]) <| ag rfl rfl <| nxx <| mv rfl rfl <| L_pur rfl (p_eqNilPtr Tryz.underlying25 rfl) <| nq <| J_bool (t := 35) (c := false) rfl (rfl) <| C_false rfl ?_
 refine J_skip <| qx <| L_op <| x_call Tryz.func16 nm16 bd16 (.cons rfl .nil) rfl (slotC (k := 2) (by omega)) fun _ => ag rfl rfl <| nx <| ag rfl rfl <| nq ?_
 refine J_cut (α := List (Place × SV) × Nat × Int) (fun x : List (Place × SV) × Nat × Int => [As.pure (WT x.1 x.2.1 x.2.2), coA g.p (TS K g x.1 qz [] 0 0 [] K.rg K.mem), old W]) (fun x : List (Place × SV) × Nat × Int => [(7, .int .u32 (atK x.2.1)), (8, .int .i64 x.2.2), (6, .pointer (some ⟨g.p, 0, none⟩)), (0, .int .i64 (k8 : Int)), (5, .bool true)]) ?_ ?_
 ·
  refine sr <| mv rfl rfl <| nq ?_
  refine C_split rfl (fun h37 => ?_) (fun h37 => ?_)
  ·
   refine J_seq <| sr <| mv rfl rfl <| L_op <| x_call Tryz.func29 nm29 bd29 (.cons rfl .nil) rfl (coSlots) fun _ => L_pur rfl (bld67 (.cons rfl (.cons rfl .nil)) (by repeat constructor)) <| J_slot (t := 40) (v := .agg (encI (1, 12)).toArray) rfl rfl <| L_pur rfl (bld69 (.cons rfl (.cons rfl (.cons rfl .nil))) (by repeat constructor)) ?_
   refine J_slot (t := 41) (v := .agg (encC ⟨6, 15, 0, 0, 7⟩).toArray) rfl rfl <| L_pur rfl (bld67 .nil (by repeat constructor)) <| J_slot (t := 42) (v := .agg (encI (0, 0)).toArray) rfl rfl <| L_op <| x_call Tryz.func30 nm30 bd30 (.cons rfl (.cons rfl (.cons rfl (.cons rfl .nil)))) rfl (coSlPut (s := K) (a := (1, 12)) (c := ⟨6, 15, 0, 0, 7⟩) (q := (0, 0)) PC) fun _ => ?_
   refine J_bool (t := 43) (c := true) rfl (by rw [hT.sl, wt_2.2.1]) <| J_pick (A := coA g.p _) PC ?_
   refine J_asTo (B := coA g.p { K with sl := slPut (coreN 2 6 true).2.2.1 (1, 12) ⟨6, 15, 0, 0, 7⟩ (0, 0) }) (by rw [hT.sl]) <| L_pur rfl (p_not rfl) <| nq <| J_bool (t := 44) (c := false) rfl (rfl) <| C_false rfl <| J_skip <| qx <| L_op <| x_call Tryz.func16 nm16 bd16 (.cons rfl .nil) rfl (slotC (k := 12) (by omega)) fun _ => ?_
   refine ag rfl rfl <| ny <| ag rfl rfl <| nq <| J_pick (A := coA g.p _) PC ?_
   refine J_asTo (B := coA g.p (TS K g (slPut (coreN 2 6 true).2.2.1 (1, 12) ⟨6, 15, 0, 0, 7⟩ (0, 0)) qz [] 0 0 [] K.rg K.mem)) (by rw [show qz = [(2, 4), (15, 4)] from rfl]; exact congrArg (fun k : KS => coA g.p { k with sl := slPut (coreN 2 6 true).2.2.1 (1, 12) ⟨6, 15, 0, 0, 7⟩ (0, 0) }) (TS_is hT)) <| J_pure_in (p := WT (slPut (coreN 2 6 true).2.2.1 (1, 12) ⟨6, 15, 0, 0, 7⟩ (0, 0)) 12 15) ⟨by omega, wt_2.2.2, .inr rfl⟩ ?_
   exact J_at (L := (fun x : List (Place × SV) × Nat × Int => [As.pure (WT x.1 x.2.1 x.2.2), coA g.p (TS K g x.1 qz [] 0 0 [] K.rg K.mem), old W])) (G := (fun x : List (Place × SV) × Nat × Int => [(7, .int .u32 (atK x.2.1)), (8, .int .i64 x.2.2), (6, .pointer (some ⟨g.p, 0, none⟩)), (0, .int .i64 (k8 : Int)), (5, .bool true)])) (slPut (coreN 2 6 true).2.2.1 (1, 12) ⟨6, 15, 0, 0, 7⟩ (0, 0), 12, 15) SU KE
  ·
   refine J_skip <| Q_then <| J_pick (A := coA g.p _) PC ?_
   refine J_asTo (B := coA g.p (TS K g K.sl qz [] 0 0 [] K.rg K.mem)) (by rw [show qz = [(2, 4), (15, 4)] from rfl, ← TS_is hT]) <| J_pure_in (p := WT K.sl 2 2) ⟨by omega, by rw [hT.sl]; exact wt_2.1, .inl rfl⟩ ?_
   exact J_at (L := (fun x : List (Place × SV) × Nat × Int => [As.pure (WT x.1 x.2.1 x.2.2), coA g.p (TS K g x.1 qz [] 0 0 [] K.rg K.mem), old W])) (G := (fun x : List (Place × SV) × Nat × Int => [(7, .int .u32 (atK x.2.1)), (8, .int .i64 x.2.2), (6, .pointer (some ⟨g.p, 0, none⟩)), (0, .int .i64 (k8 : Int)), (5, .bool true)])) (K.sl, 2, 2) SU KE
 ·
  intro x
  obtain ⟨L, n, who⟩ := x
  dsimp only
  refine J_pure fun hW => ?_
  have hf := thrF h8 hW.two
  obtain ⟨P, hP⟩ : ∃ P : Int, P = (k8 : Int) := ⟨_, rfl⟩
  rw [← hP] at hf
  have hP8 : 0 ≤ P ∧ P < 8 := by omega
  obtain ⟨q1, hq1⟩ : ∃ q1, q1 = qSet qz who P := ⟨_, rfl⟩
  obtain ⟨q2, hq2⟩ : ∃ q2, q2 = qRem (qSet qz who P) who := ⟨_, rfl⟩
  obtain ⟨q3, hq3⟩ : ∃ q3, q3 = qAdd (qRem (qSet qz who P) who) who P := ⟨_, rfl⟩
  obtain ⟨f1, f2, f3, f4, f5, f6, f7, f8, f9, f10, f11⟩ := hf
  rw [← hq3] at f9 f10 f11
  rw [← hq2] at f5 f6 f7 f8 hq3
  rw [← hq1] at f2 f3 f4 hq2
  have hj0 : ∀ d ∈ ([] : List Deed), d.1.2 ≤ 0 := fun _ h => by cases h
  have hF0 : Fits (TS K g L qz [] 0 0 [] K.rg K.mem) 40 60 := by
   have h := hT.fit
   rw [TS_is hT] at h
   exact ⟨h.n, h.mm, h.ids, h.jn, h.tm, h.ep, h.nt, h.rp, h.rg, h.mem⟩
  have hR0 : Rdy (TS K g L qz [] 0 0 [] K.rg K.mem) 4 6 0 := hT.rdy4
  refine J_slot (t := 0) (v := .int .i64 P) rfl (by rw [hP]) <| sr <| mv rfl rfl <| mv rfl rfl <| mv rfl rfl <| L_pur rfl (p_conv rfl Tryz.underlying3 Tryz.underlying22) <| J_slot (t := 50) (v := .int .u32 P) rfl (by rw [wrap32u_of (by omega)]) <| L_pur rfl (bld31 (.cons rfl (.cons rfl (.cons rfl .nil))) (by repeat constructor)) ?_
  refine J_slot (t := 51) (v := .agg #[.int .i64 16, .int .i64 0, .int .u32 0, .int .u32 (atK n), .int .u32 P, .int .u32 0, .int .u32 0, .int .u32 0]) rfl rfl ?_
  have hD1 := act_set (K := K) (g := g) (L := L) (c := 0) (w := 0) (jn := []) (RG := K.rg) (MS := K.mem) (n := n) (who := who) hT hW (q := qz) (pr := []) (by decide) hP8
  rw [f1, if_pos rfl, ← hq1] at hD1
  refine L_op <| x_call Tryz.func15 nm15 bd15 (.cons rfl (.cons rfl (.cons rfl .nil))) rfl (askU (K := K) (g := g) (L := L) (q := qz) (pr := []) (q' := q1) (pr' := []) (c := 0) (w := 0) (r := 0) (v := 0) (t := 0) (jn := []) (RG := K.rg) (MS := K.mem) (e := (sqe 16 n P)) (M := 60) PC hT (by omega) hj0 hD1 hF0 (by omega) hR0 (by omega)) fun x52 => ?_
  refine J_pure fun hx => ?_
  obtain ⟨R1, M1, j1, w1⟩ := x52
  dsimp only at hx ⊢
  obtain ⟨hR1, hF1, hj1⟩ := hx
  refine mv rfl rfl <| L_pur rfl (p_extract rfl rfl) <| L_pur rfl (p_extract rfl rfl) <| L_pur rfl (p_extract rfl rfl) <| ag rfl rfl <| ag rfl rfl <| ag rfl rfl <| nx ?_
  refine mv rfl rfl <| L_op <| x_call Tryz.func31 nm31 bd31 (.cons rfl .nil) rfl (coQueue) fun _ => mv rfl rfl <| L_op <| x_call Tryz.func32 nm32 bd32 (.cons rfl (.cons rfl .nil)) rfl (coPrio (s := (TS K g L q1 [] (0 + 1) w1 j1 R1 M1)) (i := who) PC (by show q1.length ≤ 100000; omega)) fun _ => ?_
  refine J_slot (t := 60) (v := .tuple #[.int .i64 P, .bool true]) rfl (by rw [show (KS.q (TS K g L q1 [] (0 + 1) w1 j1 R1 M1)) = q1 from rfl, f2, f3]; rfl) <| mv rfl rfl <| L_pur rfl (p_extract rfl rfl) <| L_pur rfl (p_extract rfl rfl) <| ag rfl rfl <| ag rfl rfl <| nxx <| mv rfl rfl ?_
  refine L_pur rfl (p_not rfl) <| mv rfl rfl <| J_bool (t := 65) (c := false) rfl (rfl) <| L_op <| G_on rfl rfl rfl <| J_pur (p_move rfl) rfl rfl rfl <| L_op <| G_on rfl rfl rfl ?_
  refine J_pur (p_neq rfl rfl) rfl rfl rfl <| J_bool (t := 67) (c := false) rfl (by decide) <| L_pur rfl (p_pick_f rfl rfl) <| mv rfl rfl <| J_bool (t := 69) (c := false) rfl (rfl) <| L_op <| G_on rfl rfl rfl <| J_pur (p_move rfl) rfl rfl rfl ?_
  refine L_op <| G_on rfl rfl rfl <| J_pur (p_not rfl) rfl rfl rfl <| L_pur rfl (p_pick_f rfl rfl) <| mv rfl rfl <| J_bool (t := 73) (c := false) rfl (rfl) <| L_op <| G_on rfl rfl rfl ?_
  refine J_pur (p_move rfl) rfl rfl rfl <| L_op <| G_on rfl rfl rfl <| J_pur (p_move rfl) rfl rfl rfl <| L_op <| G_on rfl rfl rfl <| J_pur (p_neq rfl rfl) rfl rfl rfl <| J_bool (t := 76) (c := false) rfl (by simp) ?_
  refine L_pur rfl (p_pick_f rfl rfl) <| nq <| J_bool (t := 77) (c := false) rfl (rfl) <| C_false rfl <| J_skip <| qx <| mv rfl rfl <| mv rfl rfl ?_
  refine L_pur rfl (bld31 (.cons rfl (.cons rfl .nil)) (by repeat constructor)) <| J_slot (t := 81) (v := .agg #[.int .i64 17, .int .i64 0, .int .u32 0, .int .u32 (atK n), .int .u32 0, .int .u32 0, .int .u32 0, .int .u32 0]) rfl rfl ?_
  have hD2 := act_stop (K := K) (g := g) (L := L) (c := (0 + 1)) (w := w1) (jn := j1) (RG := R1) (MS := M1) (n := n) (who := who) hT hW (q := q1) (pr := []) f4 f2
  rw [← hq2, f3, show ins ([] : List (Int × Int)) who ((some P).getD 0) = [(who, P)] from rfl] at hD2
  refine L_op <| x_call Tryz.func15 nm15 bd15 (.cons rfl (.cons rfl (.cons rfl .nil))) rfl (askU (K := K) (g := g) (L := L) (q := q1) (pr := []) (q' := q2) (pr' := [(who, P)]) (c := (0 + 1)) (w := w1) (r := 0) (v := 0) (t := (0 + 1)) (jn := j1) (RG := R1) (MS := M1) (e := (sqe 17 n 0)) (M := (60 + 1)) PC hT (by omega) hj1 hD2 hF1 (by omega) hR1 (by omega)) fun x82 => ?_
  refine J_pure fun hx => ?_
  obtain ⟨R2, M2, j2, w2⟩ := x82
  dsimp only at hx ⊢
  obtain ⟨hR2, hF2, hj2⟩ := hx
  refine mv rfl rfl <| L_pur rfl (p_extract rfl rfl) <| L_pur rfl (p_extract rfl rfl) <| L_pur rfl (p_extract rfl rfl) <| ag rfl rfl <| ag rfl rfl <| ag rfl rfl <| nx ?_
  refine mv rfl rfl <| L_op <| x_call Tryz.func31 nm31 bd31 (.cons rfl .nil) rfl (coQueue) fun _ => mv rfl rfl <| L_op <| x_call Tryz.func32 nm32 bd32 (.cons rfl (.cons rfl .nil)) rfl (coPrio (s := (TS K g L q2 [(who, P)] ((0 + 1) + 1) w2 j2 R2 M2)) (i := who) PC (by show q2.length ≤ 100000; omega)) fun _ => ?_
  refine J_slot (t := 90) (v := .tuple #[.int .i64 ((qGet q2 who).getD 0), .bool false]) rfl (by rw [show (KS.q (TS K g L q2 [(who, P)] ((0 + 1) + 1) w2 j2 R2 M2)) = q2 from rfl, f5]) <| mv rfl rfl <| L_pur rfl (p_extract rfl rfl) <| L_pur rfl (p_extract rfl rfl) <| ag rfl rfl <| ag rfl rfl <| nx <| mv rfl rfl ?_
  refine mv rfl rfl <| L_pur rfl (bld31 (.cons rfl (.cons rfl .nil)) (by repeat constructor)) <| J_slot (t := 96) (v := .agg #[.int .i64 17, .int .i64 0, .int .u32 0, .int .u32 (atK n), .int .u32 0, .int .u32 0, .int .u32 0, .int .u32 0]) rfl rfl ?_
  have hD3 := act_stop0 (K := K) (g := g) (L := L) (c := ((0 + 1) + 1)) (w := w2) (jn := j2) (RG := R2) (MS := M2) (n := n) (who := who) hT hW (q := q2) (pr := [(who, P)]) f7 f5
  refine L_op <| x_call Tryz.func15 nm15 bd15 (.cons rfl (.cons rfl (.cons rfl .nil))) rfl (askU (K := K) (g := g) (L := L) (q := q2) (pr := [(who, P)]) (q' := q2) (pr' := [(who, P)]) (c := ((0 + 1) + 1)) (w := w2) (r := -11) (v := 0) (t := ((0 + 1) + 1)) (jn := j2) (RG := R2) (MS := M2) (e := (sqe 17 n 0)) (M := ((60 + 1) + 1)) PC hT (by omega) hj2 hD3 hF2 (by omega) hR2 (by omega)) fun x97 => ?_
  refine J_pure fun hx => ?_
  obtain ⟨R3, M3, j3, w3⟩ := x97
  dsimp only at hx ⊢
  obtain ⟨hR3, hF3, hj3⟩ := hx
  refine mv rfl rfl <| L_pur rfl (p_extract rfl rfl) <| L_pur rfl (p_extract rfl rfl) <| L_pur rfl (p_extract rfl rfl) <| ag rfl rfl <| ag rfl rfl <| ag rfl rfl <| nx ?_
  refine mv rfl rfl <| mv rfl rfl <| L_pur rfl (bld31 (.cons rfl (.cons rfl (.cons rfl .nil))) (by repeat constructor)) <| J_slot (t := 104) (v := .agg #[.int .i64 16, .int .i64 0, .int .u32 0, .int .u32 (atK n), .int .u32 1, .int .u32 0, .int .u32 0, .int .u32 0]) rfl rfl ?_
  have hD4 := act_set (K := K) (g := g) (L := L) (c := (((0 + 1) + 1) + 1)) (w := w3) (jn := j3) (RG := R3) (MS := M3) (n := n) (who := who) hT hW (q := q2) (pr := [(who, P)]) (P := 1) f7 (by omega)
  rw [f6, if_neg (by decide), show qSet q2 who 1 = q2 by unfold qSet; rw [f6, if_neg (by decide)]] at hD4
  refine L_op <| x_call Tryz.func15 nm15 bd15 (.cons rfl (.cons rfl (.cons rfl .nil))) rfl (askU (K := K) (g := g) (L := L) (q := q2) (pr := [(who, P)]) (q' := q2) (pr' := [(who, P)]) (c := (((0 + 1) + 1) + 1)) (w := w3) (r := -11) (v := 0) (t := (((0 + 1) + 1) + 1)) (jn := j3) (RG := R3) (MS := M3) (e := (sqe 16 n 1)) (M := (((60 + 1) + 1) + 1)) PC hT (by omega) hj3 hD4 hF3 (by omega) hR3 (by omega)) fun x105 => ?_
  refine J_pure fun hx => ?_
  obtain ⟨R4, M4, j4, w4⟩ := x105
  dsimp only at hx ⊢
  obtain ⟨hR4, hF4, hj4⟩ := hx
  refine mv rfl rfl <| L_pur rfl (p_extract rfl rfl) <| L_pur rfl (p_extract rfl rfl) <| L_pur rfl (p_extract rfl rfl) <| ag rfl rfl <| ag rfl rfl <| ag rfl rfl <| nxx ?_
  refine mv rfl rfl <| L_pur rfl (p_not rfl) <| mv rfl rfl <| J_bool (t := 111) (c := false) rfl (rfl) <| L_op <| G_on rfl rfl rfl <| J_pur (p_move rfl) rfl rfl rfl <| L_op <| G_on rfl rfl rfl ?_
  refine J_pur (p_neq rfl rfl) rfl rfl rfl <| J_bool (t := 113) (c := false) rfl (by decide) <| L_pur rfl (p_pick_f rfl rfl) <| mv rfl rfl <| J_bool (t := 115) (c := false) rfl (rfl) <| L_op <| G_on rfl rfl rfl <| J_pur (p_move rfl) rfl rfl rfl ?_
  refine L_pur rfl (p_pick_f rfl rfl) <| mv rfl rfl <| J_bool (t := 118) (c := false) rfl (rfl) <| L_op <| G_on rfl rfl rfl <| J_pur (p_move rfl) rfl rfl rfl <| L_op <| G_on rfl rfl rfl ?_
  refine J_pur (p_not rfl) rfl rfl rfl <| L_pur rfl (p_pick_f rfl rfl) <| mv rfl rfl <| J_bool (t := 122) (c := false) rfl (rfl) <| L_op <| G_on rfl rfl rfl <| J_pur (p_move rfl) rfl rfl rfl <| L_op <| G_on rfl rfl rfl ?_
  refine J_pur (p_neq rfl rfl) rfl rfl rfl <| J_bool (t := 124) (c := false) rfl (by decide) <| L_pur rfl (p_pick_f rfl rfl) <| mv rfl rfl <| J_bool (t := 126) (c := false) rfl (rfl) <| L_op <| G_on rfl rfl rfl <| J_pur (p_move rfl) rfl rfl rfl ?_
  refine L_op <| G_on rfl rfl rfl <| J_pur (p_not rfl) rfl rfl rfl <| L_pur rfl (p_pick_f rfl rfl) <| mv rfl rfl <| J_bool (t := 130) (c := false) rfl (rfl) <| L_op <| G_on rfl rfl rfl ?_
  refine J_pur (p_move rfl) rfl rfl rfl <| L_op <| G_on rfl rfl rfl <| J_pur (p_neq rfl rfl) rfl rfl rfl <| J_bool (t := 132) (c := false) rfl (by decide) <| L_pur rfl (p_pick_f rfl rfl) <| nq <| J_bool (t := 133) (c := false) rfl (rfl) ?_
  refine C_false rfl <| J_skip <| qx <| mv rfl rfl <| mv rfl rfl <| L_pur rfl (bld31 (.cons rfl (.cons rfl .nil)) (by repeat constructor)) <| J_slot (t := 137) (v := .agg #[.int .i64 18, .int .i64 0, .int .u32 0, .int .u32 (atK n), .int .u32 0, .int .u32 0, .int .u32 0, .int .u32 0]) rfl rfl ?_
  have hD5 := act_go (K := K) (g := g) (L := L) (c := ((((0 + 1) + 1) + 1) + 1)) (w := w4) (jn := j4) (RG := R4) (MS := M4) (n := n) (who := who) hT hW (q := q2) (pr := [(who, P)]) f7 (P := P) (by rw [look_cons, if_pos rfl]; rfl) f8
  rw [← hq3] at hD5
  refine L_op <| x_call Tryz.func15 nm15 bd15 (.cons rfl (.cons rfl (.cons rfl .nil))) rfl (askU (K := K) (g := g) (L := L) (q := q2) (pr := [(who, P)]) (q' := q3) (pr' := [(who, P)]) (c := ((((0 + 1) + 1) + 1) + 1)) (w := w4) (r := 0) (v := 0) (t := ((((0 + 1) + 1) + 1) + 1)) (jn := j4) (RG := R4) (MS := M4) (e := (sqe 18 n 0)) (M := ((((60 + 1) + 1) + 1) + 1)) PC hT (by omega) hj4 hD5 hF4 (by omega) hR4 (by omega)) fun x138 => ?_
  refine J_pure fun hx => ?_
  obtain ⟨R5, M5, j5, w5⟩ := x138
  dsimp only at hx ⊢
  obtain ⟨hR5, hF5, hj5⟩ := hx
  refine mv rfl rfl <| L_pur rfl (p_extract rfl rfl) <| L_pur rfl (p_extract rfl rfl) <| L_pur rfl (p_extract rfl rfl) <| ag rfl rfl <| ag rfl rfl <| ag rfl rfl <| nx ?_
  refine mv rfl rfl <| L_op <| x_call Tryz.func31 nm31 bd31 (.cons rfl .nil) rfl (coQueue) fun _ => mv rfl rfl <| L_op <| x_call Tryz.func32 nm32 bd32 (.cons rfl (.cons rfl .nil)) rfl (coPrio (s := (TS K g L q3 [(who, P)] (((((0 + 1) + 1) + 1) + 1) + 1) w5 j5 R5 M5)) (i := who) PC (by show q3.length ≤ 100000; omega)) fun _ => ?_
  refine J_slot (t := 146) (v := .tuple #[.int .i64 P, .bool true]) rfl (by rw [show (KS.q (TS K g L q3 [(who, P)] (((((0 + 1) + 1) + 1) + 1) + 1) w5 j5 R5 M5)) = q3 from rfl, f9, f10]; rfl) <| mv rfl rfl <| L_pur rfl (p_extract rfl rfl) <| L_pur rfl (p_extract rfl rfl) <| ag rfl rfl <| ag rfl rfl <| nx <| mv rfl rfl ?_
  refine mv rfl rfl <| J_bool (t := 150) (c := true) rfl (rfl) <| L_op <| G_on rfl rfl rfl <| J_pur (p_move rfl) rfl rfl rfl <| L_pur rfl (p_pick_t rfl rfl) <| mv rfl rfl <| J_bool (t := 153) (c := true) rfl (rfl) ?_
  refine L_op <| G_on rfl rfl rfl <| J_pur (p_move rfl) rfl rfl rfl <| L_op <| G_on rfl rfl rfl <| J_pur (p_eql rfl rfl) rfl rfl rfl <| J_bool (t := 155) (c := true) rfl (by decide) <| L_pur rfl (p_pick_t rfl rfl) ?_
  refine mv rfl rfl <| J_bool (t := 157) (c := true) rfl (rfl) <| L_op <| G_on rfl rfl rfl <| J_pur (p_move rfl) rfl rfl rfl <| L_pur rfl (p_pick_t rfl rfl) <| mv rfl rfl <| J_bool (t := 160) (c := true) rfl (rfl) ?_
  refine L_op <| G_on rfl rfl rfl <| J_pur (p_move rfl) rfl rfl rfl <| L_op <| G_on rfl rfl rfl <| J_pur (p_move rfl) rfl rfl rfl <| L_op <| G_on rfl rfl rfl ?_
  refine J_pur (p_eql rfl rfl) rfl rfl rfl <| J_bool (t := 163) (c := true) rfl (by simp) <| L_pur rfl (p_pick_t rfl rfl) <| mv rfl rfl <| J_bool (t := 165) (c := true) rfl (rfl) <| L_op <| G_on rfl rfl rfl <| J_pur (p_move rfl) rfl rfl rfl ?_
  refine L_op <| G_on rfl rfl rfl <| x_call Tryz.func33 nm33 bd33 (.cons rfl .nil) rfl (coThreads (s := (TS K g L q3 [(who, P)] (((((0 + 1) + 1) + 1) + 1) + 1) w5 j5 R5 M5)) PC (by show K.th.length ≤ 1000; rw [hT.th]; decide)) <| JR fun a167 c167 hw167 hl167 hm167 hz167 => L_op <| G_on rfl rfl rfl <| J_pur (p_len rfl Tryz.underlying73) rfl rfl rfl <| J_slot (t := 168) (v := .int .i64 2) rfl (by rw [List.length_map, sortZ_len, List.length_map, show (KS.th (TS K g L q3 [(who, P)] (((((0 + 1) + 1) + 1) + 1) + 1) w5 j5 R5 M5)) = K.th from rfl, hT.th]; rfl) ?_
  refine L_op <| G_on rfl rfl rfl <| J_pur (p_eql rfl rfl) rfl rfl rfl <| L_pur rfl (p_pick_t rfl rfl) <| ag rfl rfl <| nq <| J_ret ?_
  exact J_return (()) Tryz.results7 (.tmp rfl .nil) rfl SU
end Go.Pse
