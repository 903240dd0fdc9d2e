/-
  Own texts, merged: C24, C25, C26, C27, Arg, C28, C29, C30, C31, C32, C33, C34, InvP, C50, C14, C51, C52, C53, C60, C61, C62, C63, C64, C65.
-/
import Derived.Test.YtjhbhjenmijmfaaGreatBC2
import Derived.Test.YtjhbhjenmijmfaaGreatBC0
import Derived.Deep.Slices
import Derived.ChangeSame
import Derived.Carry
set_option linter.unusedVariables false
set_option linter.unusedSimpArgs false
set_option maxRecDepth 100000
set_option maxHeartbeats 4000000
namespace Go.Pse
open Go.RowKit Go.Proofs
/-! ### plain: one object of the state is changed, all of them, those below a unit -/
section
variable {α : Type}
def updO (xs : List (Int × Nat × α)) (u : Int) (f : α → α) : List (Int × Nat × α) := xs.map fun x => if x.1 = u then (x.1, x.2.1, f x.2.2) else x
def mapTo (f : α → α) (k : Int) (xs : List (Int × Nat × α)) : List (Int × Nat × α) := xs.map fun x => if x.1 < k then (x.1, x.2.1, f x.2.2) else x
def allO (f : α → α) (xs : List (Int × Nat × α)) : List (Int × Nat × α) := xs.map fun x => (x.1, x.2.1, f x.2.2)
variable {xs : List (Int × Nat × α)} {u k : Int} {f : α → α}
theorem ptrs_updO : ptrs (updO xs u f) = ptrs xs := by
  unfold ptrs updO; rw [List.map_map]; refine List.map_congr_left fun x _ => ?_
  simp only [Function.comp]; split <;> rfl
theorem ptrs_mapTo : ptrs (mapTo f k xs) = ptrs xs := by
  unfold ptrs mapTo; rw [List.map_map]; refine List.map_congr_left fun x _ => ?_
  simp only [Function.comp]; split <;> rfl
theorem look_ptrs : ∀ {xs : List (Int × Nat × α)}, look (ptrs xs) u = (look xs u).map Prod.fst
  | [] => rfl
  | x :: xs => by
    show look ((x.1, x.2.1) :: ptrs xs) u = _
    rw [look_cons, look_cons, look_ptrs (xs := xs)]
    split <;> rfl
theorem look_got {b : Nat} (h : look (ptrs xs) u = some b) : ∃ a, look xs u = some (b, a) := by
  rw [look_ptrs] at h
  obtain ⟨⟨b', a⟩, h1, rfl⟩ := Option.map_eq_some_iff.1 h
  exact ⟨a, h1⟩
theorem look_is {b : Nat} {a : α} (h : look xs u = some (b, a)) : look (ptrs xs) u = some b := by rw [look_ptrs, h]; rfl
theorem look_ix {v : Nat × α} (h : look xs u = some v) : ∃ i : Nat, xs[i]? = some (u, v) := List.getElem?_of_mem (mem_look h)
theorem updO_set {i b : Nat} {a : α} (hK : Keyd (ptrs xs)) (hi : xs[i]? = some (u, b, a)) : updO xs u f = xs.set i (u, b, f a) := by
  have hl := (List.getElem?_eq_some_iff.1 hi).1
  refine List.ext_getElem? fun j => ?_
  unfold updO
  rw [List.getElem?_map, List.getElem?_set]
  by_cases hij : i = j
  · subst hij
    rw [hi, if_pos rfl, if_pos hl]; simp
  · rw [if_neg hij]
    cases hj : xs[j]? with
    | none => rfl
    | some x =>
      have : x.1 ≠ u := fun e => hij (by
        have hn : (xs.map Prod.fst).Nodup := by
          have e2 : (ptrs xs).map Prod.fst = xs.map Prod.fst := by unfold ptrs; rw [List.map_map]; rfl
          have hK' := hK
          unfold Keyd at hK'
          rw [e2] at hK'
          exact hK'
        exact nodup_idx hn (by rw [List.getElem?_map, hi]; rfl) (by rw [List.getElem?_map, hj]; exact congrArg some e))
      simp [this]
theorem mapTo_up : updO (mapTo f k xs) k f = mapTo f (k + 1) xs := by
  unfold updO mapTo
  rw [List.map_map]
  refine List.map_congr_left fun x _ => ?_
  simp only [Function.comp]
  by_cases h1 : x.1 < k
  · rw [if_pos h1, if_neg (by show ¬ x.1 = k; omega), if_pos (by omega)]
  · rw [if_neg h1]
    by_cases h2 : x.1 = k
    · rw [if_pos h2, if_pos (by omega)]
    · rw [if_neg h2, if_neg (by omega)]
theorem mapTo_no (h : look (ptrs xs) k = none) : mapTo f k xs = mapTo f (k + 1) xs := by
  unfold mapTo
  refine List.map_congr_left fun x hx => ?_
  have : x.1 ≠ k := fun e => look_none_iff.1 h (List.mem_map.2 ⟨(x.1, x.2.1), List.mem_map.2 ⟨x, hx, rfl⟩, e⟩)
  by_cases h1 : x.1 < k
  · rw [if_pos h1, if_pos (by omega)]
  · rw [if_neg h1, if_neg (by omega)]
theorem mapTo_one (h : ∀ x ∈ xs, 1 ≤ x.1 ∧ x.1 ≤ 64) : mapTo f 1 xs = xs := by
  unfold mapTo
  conv => rhs; rw [← List.map_id xs]
  refine List.map_congr_left fun x hx => ?_
  rw [if_neg (by have := h x hx; omega)]; rfl
theorem mapTo_all (h : ∀ x ∈ xs, 1 ≤ x.1 ∧ x.1 ≤ 64) : mapTo f 65 xs = allO f xs := by
  unfold mapTo allO
  refine List.map_congr_left fun x hx => ?_
  rw [if_pos (by have := h x hx; omega)]
theorem updO_mem {x : Int × Nat × α} (h : x ∈ updO xs u f) : ∃ y ∈ xs, x.1 = y.1 ∧ (x.2.2 = y.2.2 ∨ x.2.2 = f y.2.2) := by
  obtain ⟨y, hy, rfl⟩ := List.mem_map.1 h
  refine ⟨y, hy, ?_⟩
  split
  · exact ⟨rfl, .inr rfl⟩
  · exact ⟨rfl, .inl rfl⟩
theorem mapTo_mem {x : Int × Nat × α} (h : x ∈ mapTo f k xs) : ∃ y ∈ xs, x.1 = y.1 ∧ (x.2.2 = y.2.2 ∨ x.2.2 = f y.2.2) := by
  obtain ⟨y, hy, rfl⟩ := List.mem_map.1 h
  refine ⟨y, hy, ?_⟩
  split
  · exact ⟨rfl, .inr rfl⟩
  · exact ⟨rfl, .inl rfl⟩
end
def epD (i : ID) (a : List Msg × List Rcv) : List Msg × List Rcv := (mdrop a.1 i, rdrop a.2 i)
def ntD (i : ID) (a : Int × List ID) : Int × List ID := (a.1, ldrop a.2 i)
def rpD (i : ID) (a : ID × Bool) : ID × Bool := cDrop a i
def ntS (x : Int) (a : Int × List ID) : Int × List ID := (sigW a.1 a.2 x, sigL a.1 a.2 x)
structure Fits (s : KS) (N M : Nat) : Prop where
  n : N ≤ 90000
  mm : M ≤ 90000
  ids : Ids s.rt
  jn : s.jn.length + s.rt.length ≤ M
  tm : s.tm.length ≤ N
  ep : ∀ x ∈ s.ep, (1 ≤ x.1 ∧ x.1 ≤ 64) ∧ x.2.2.1.length ≤ N ∧ x.2.2.2.length ≤ N
  nt : ∀ x ∈ s.nt, (1 ≤ x.1 ∧ x.1 ≤ 64) ∧ x.2.2.2.length ≤ N
  rp : ∀ x ∈ s.rp, 1 ≤ x.1 ∧ x.1 ≤ 64
  rg : ∀ x ∈ s.rg, RgOk x.2.2 ∧ x.2.2.over.length + s.rt.length ≤ M
  mem : MemOk s.mem
def forTo (s : KS) (i : ID) (k : Int) : KS := { s with tm := tdrop s.tm i, ep := mapTo (epD i) k s.ep, nt := mapTo (ntD i) k s.nt, rp := mapTo (rpD i) k s.rp }
def kForget (s : KS) (i : ID) : KS := { s with tm := tdrop s.tm i, ep := allO (epD i) s.ep, nt := allO (ntD i) s.nt, rp := allO (rpD i) s.rp }
theorem forTo_one {s : KS} {N M : Nat} (h : Fits s N M) (i : ID) : forTo s i 1 = { s with tm := tdrop s.tm i } := by
  unfold forTo
  rw [mapTo_one fun x hx => (h.ep x hx).1, mapTo_one fun x hx => (h.nt x hx).1, mapTo_one h.rp]
theorem forTo_all {s : KS} {N M : Nat} (h : Fits s N M) (i : ID) : forTo s i 65 = kForget s i := by
  unfold forTo kForget
  rw [mapTo_all fun x hx => (h.ep x hx).1, mapTo_all fun x hx => (h.nt x hx).1, mapTo_all h.rp]
theorem Fits.forTo {s : KS} {N M : Nat} (h : Fits s N M) (i : ID) (k : Int) : Fits (forTo s i k) N M where
  n := h.n
  mm := h.mm
  ids := h.ids
  jn := h.jn
  tm := Nat.le_trans (List.length_filter_le _ _) h.tm
  ep := fun x hx => by
    obtain ⟨y, hy, h1, h2⟩ := mapTo_mem hx
    obtain ⟨g1, g2, g3⟩ := h.ep y hy
    rw [h1]
    rcases h2 with h2 | h2 <;> rw [h2]
    · exact ⟨g1, g2, g3⟩
    · exact ⟨g1, Nat.le_trans (List.length_filter_le _ _) g2, Nat.le_trans (List.length_filter_le _ _) g3⟩
  nt := fun x hx => by
    obtain ⟨y, hy, h1, h2⟩ := mapTo_mem hx
    obtain ⟨g1, g2⟩ := h.nt y hy
    rw [h1]
    rcases h2 with h2 | h2 <;> rw [h2]
    · exact ⟨g1, g2⟩
    · exact ⟨g1, Nat.le_trans (ldrop_len _ _) g2⟩
  rp := fun x hx => by
    obtain ⟨y, hy, h1, h2⟩ := mapTo_mem hx
    rw [h1]; exact h.rp y hy
  rg := h.rg
  mem := h.mem
theorem Fits.forget {s : KS} {N M : Nat} (h : Fits s N M) (i : ID) : Fits (kForget s i) N M := by rw [← forTo_all h]; exact h.forTo i 65
theorem Fits.jnl {s : KS} {N M : Nat} (h : Fits s N M) (hm : M + 1 ≤ 90000) (d : Deed) : Fits { s with jn := s.jn ++ [d] } N (M + 1) :=
  ⟨h.n, hm, h.ids, by have := h.jn; simp; omega, h.tm, h.ep, h.nt, h.rp, fun x hx => by have := h.rg x hx; exact ⟨this.1, by have := this.2; show _ + s.rt.length ≤ _; omega⟩, h.mem⟩
theorem del_less {κ υ : Type} [DecidableEq κ] {ps : List (κ × υ)} {i : κ} {q : υ} (h : look ps i = some q) : (del ps i).length + 1 ≤ ps.length := by
  have := List.length_filter_lt_length_iff_exists (p := fun p : κ × υ => !decide (p.1 = i)) (l := ps) |>.2 ⟨(i, q), mem_look h, by simp⟩
  unfold del; omega
theorem del_le {κ υ : Type} [DecidableEq κ] {ps : List (κ × υ)} {i : κ} : (del ps i).length ≤ ps.length := List.length_filter_le _ _
theorem Fits.drop {s : KS} {N M : Nat} (h : Fits s N (M + 1)) {i : ID} {q : Rq} (hq : look s.rt i = some q) : Fits { s with rt := del s.rt i } N M := by
  have hl := del_less hq
  exact ⟨h.n, by have := h.mm; omega, h.ids.del i, by have := h.jn; show s.jn.length + (del s.rt i).length ≤ M; omega, h.tm, h.ep, h.nt, h.rp, fun x hx => ⟨(h.rg x hx).1, by have := (h.rg x hx).2; show _ + (del s.rt i).length ≤ M; omega⟩, h.mem⟩
theorem Fits.rgUp {s : KS} {N M : Nat} (h : Fits s N M) (hm : M + 1 ≤ 90000) (u : Int) (r0 : Rg) (h0 : RgOk r0) (c : Cqe) : Fits { s with rg := updO s.rg u (fun r => postR r s.mem c), mem := postM r0 s.mem c } N (M + 1) :=
  ⟨h.n, hm, h.ids, by have := h.jn; show s.jn.length + s.rt.length ≤ _; omega, h.tm, h.ep, h.nt, h.rp, fun x hx => by
    obtain ⟨y, hy, h1, h2⟩ := updO_mem (show x ∈ updO s.rg u (fun r => postR r s.mem c) from hx)
    obtain ⟨g1, g2⟩ := h.rg y hy
    rcases h2 with h2 | h2 <;> rw [h2]
    · exact ⟨g1, by show _ + s.rt.length ≤ _; omega⟩
    · refine ⟨postR_ok g1 c, ?_⟩
      have : (postR y.2.2 s.mem c).over.length ≤ y.2.2.over.length + 1 := by unfold postR; split <;> simp [Go.Pse.rgUp]
      show _ + s.rt.length ≤ _
      omega, postM_ok h0 h.mem c⟩
theorem Fits.sig {s : KS} {N M : Nat} (h : Fits s N M) (u x : Int) : Fits { s with nt := updO s.nt u (ntS x) } N M :=
  ⟨h.n, h.mm, h.ids, h.jn, h.tm, h.ep, fun z hz => by
    obtain ⟨y, hy, h1, h2⟩ := updO_mem (show z ∈ updO s.nt u (ntS x) from hz)
    obtain ⟨g1, g2⟩ := h.nt y hy
    rw [h1]
    rcases h2 with h2 | h2 <;> rw [h2]
    · exact ⟨g1, g2⟩
    · exact ⟨g1, Nat.le_trans (sigL_len _ _ _) g2⟩, h.rp, h.rg, h.mem⟩
theorem J_keyd {κ υ : Type} [DecidableEq κ] {ek : κ → Value} {ev : υ → Value} {E : World} {l : List As} {n : Nat} {F : Env} {K : Act → World → Prop} {b : Nat} {ps : List (κ × υ)} (hh : Has (mapV ek ev (.map (some b)) ps) l) (k : Keyd ps → Jk E l n F K) : Jk E l n F K :=
  J_mapV hh (fun h _ => by cases h) (fun _ _ hk => k hk)
theorem coRqGet {E : World} {l m : List As} {p : Nat} {s : KS} (hp : Pick (coA p s) l m) {i : ID} :
    Con Tryz.prog 51 #[.pointer (some ⟨p, 10, none⟩), .agg (encI i).toArray] E l (fun _ : Unit => .tuple #[evQ ((look s.rt i).getD q00), .bool (look s.rt i).isSome]) (fun _ => coA p s :: m) := fun w H => by
  refine (?_ : Jk E l 0 [] fun _ w => Calls Tryz.prog 51 #[.pointer (some ⟨p, 10, none⟩), .agg (encI i).toArray] w fun e w' => ∃ x, e = .returned ((fun _ : Unit => .tuple #[evQ ((look s.rt i).getD q00), .bool (look s.rt i).isSome]) x) ∧ Sep E w' ((fun _ : Unit => coA p s :: m) x)) w _ H fr0
  refine J_pick hp <| J_coO fun bn be br bg bt bs bp bl bk _ => J_con (rtGetC (ps := s.rt) (i := i) PC) fun x => ?_
  refine J_coS (p := p) (s := s) bn be br bg bt bs bp bl bk PX trivial ?_
  exact J_end SU
theorem coRqDrop {E : World} {l m : List As} {p : Nat} {s : KS} (hp : Pick (coA p s) l m) {i : ID} :
    Con Tryz.prog 87 #[.pointer (some ⟨p, 10, none⟩), .agg (encI i).toArray] E l (fun _ : Unit => .bool (look s.rt i).isSome) (fun _ => coA p { s with rt := del s.rt i } :: m) := fun w H => by
  refine (?_ : Jk E l 0 [] fun _ w => Calls Tryz.prog 87 #[.pointer (some ⟨p, 10, none⟩), .agg (encI i).toArray] w fun e w' => ∃ x, e = .returned ((fun _ : Unit => .bool (look s.rt i).isSome) x) ∧ Sep E w' ((fun _ : Unit => coA p { s with rt := del s.rt i } :: m) x)) w _ H fr0
  refine J_pick hp <| J_coO fun bn be br bg bt bs bp bl bk _ => J_con (rtDropC (ps := s.rt) (i := i) PC) fun x => ?_
  refine J_coS (p := p) (s := { s with rt := del s.rt i }) bn be br bg bt bs bp bl bk PX trivial ?_
  exact J_end SU
theorem coRqAfter {E : World} {l m : List As} {p : Nat} {s : KS} (hp : Pick (coA p s) l m) {i : ID} (hI : Ids s.rt) (hb : s.rt.length ≤ 100000) :
    Con Tryz.prog 90 #[.pointer (some ⟨p, 10, none⟩), .agg (encI i).toArray] E l (fun _ : Unit => .tuple #[evQ ((afterQ s.rt i).getD q00), .bool (afterQ s.rt i).isSome]) (fun _ => coA p s :: m) := fun w H => by
  refine (?_ : Jk E l 0 [] fun _ w => Calls Tryz.prog 90 #[.pointer (some ⟨p, 10, none⟩), .agg (encI i).toArray] w fun e w' => ∃ x, e = .returned ((fun _ : Unit => .tuple #[evQ ((afterQ s.rt i).getD q00), .bool (afterQ s.rt i).isSome]) x) ∧ Sep E w' ((fun _ : Unit => coA p s :: m) x)) w _ H fr0
  refine J_pick hp <| J_coO fun bn be br bg bt bs bp bl bk _ => J_con (rtAfterC (ps := s.rt) (i := i) PC hI hb) fun x => ?_
  refine J_coS (p := p) (s := s) bn be br bg bt bs bp bl bk PX trivial ?_
  exact J_end SU
theorem coRqOf {E : World} {l m : List As} {p : Nat} {s : KS} (hp : Pick (coA p s) l m) {g : Int} (hI : Ids s.rt) (hb : s.rt.length ≤ 100000) :
    Con Tryz.prog 26 #[.pointer (some ⟨p, 10, none⟩), .int .i64 g] E l (fun x : Value => x) (fun x => row 104 13 x ((ofQ s.rt g).map encQ) :: coA p s :: m) := fun w H => by
  refine (?_ : Jk E l 0 [] fun _ w => Calls Tryz.prog 26 #[.pointer (some ⟨p, 10, none⟩), .int .i64 g] w fun e w' => ∃ x, e = .returned ((fun x : Value => x) x) ∧ Sep E w' ((fun x : Value => row 104 13 x ((ofQ s.rt g).map encQ) :: coA p s :: m) x)) w _ H fr0
  refine J_pick hp <| J_coO fun bn be br bg bt bs bp bl bk _ => J_con (rtOf (ps := s.rt) (g := g) PC hI hb) fun x => ?_
  refine J_coS (p := p) (s := s) bn be br bg bt bs bp bl bk PX trivial ?_
  exact J_end SU
theorem coRqAdd {E : World} {l m : List As} {p : Nat} {s : KS} (hp : Pick (coA p s) l m) {q : Rq} (hI : Ids s.rt) (hb : s.rt.length ≤ 100000) :
    Con Tryz.prog 45 #[.pointer (some ⟨p, 10, none⟩), .agg (encQ q).toArray] E l (fun _ : Unit => .bool (addOk s.rt q)) (fun _ => coA p { s with rt := addQ s.rt q } :: m) := fun w H => by
  refine (?_ : Jk E l 0 [] fun _ w => Calls Tryz.prog 45 #[.pointer (some ⟨p, 10, none⟩), .agg (encQ q).toArray] w fun e w' => ∃ x, e = .returned ((fun _ : Unit => .bool (addOk s.rt q)) x) ∧ Sep E w' ((fun _ : Unit => coA p { s with rt := addQ s.rt q } :: m) x)) w _ H fr0
  refine J_pick hp <| J_coO fun bn be br bg bt bs bp bl bk _ => J_con (rtAddC (ps := s.rt) (q := q) PC hI hb) fun x => ?_
  refine J_coS (p := p) (s := { s with rt := addQ s.rt q }) bn be br bg bt bs bp bl bk PX trivial ?_
  exact J_end SU
theorem coJAdd {E : World} {l m : List As} {p : Nat} {s : KS} (hp : Pick (coA p s) l m) {d : Deed} (hb : s.jn.length ≤ 200000) :
    Con Tryz.prog 134 #[.pointer (some ⟨p, 12, none⟩), .agg (encD d).toArray] E l (fun _ : Unit => .tuple #[]) (fun _ => coA p { s with jn := s.jn ++ [d] } :: m) := fun w H => by
  refine (?_ : Jk E l 0 [] fun _ w => Calls Tryz.prog 134 #[.pointer (some ⟨p, 12, none⟩), .agg (encD d).toArray] w fun e w' => ∃ x, e = .returned ((fun _ : Unit => .tuple #[]) x) ∧ Sep E w' ((fun _ : Unit => coA p { s with jn := s.jn ++ [d] } :: m) x)) w _ H fr0
  refine J_pick hp <| J_coO fun bn be br bg bt bs bp bl bk _ => J_con (jnlAdd (xs := s.jn) (d := d) PC hb) fun x => ?_
  refine J_coS (p := p) (s := { s with jn := s.jn ++ [d] }) bn be br bg bt bs bp bl bk PX trivial ?_
  exact J_end SU
theorem coJAll {E : World} {l m : List As} {p : Nat} {s : KS} (hp : Pick (coA p s) l m) (hb : s.jn.length ≤ 200000) :
    Con Tryz.prog 18 #[.pointer (some ⟨p, 12, none⟩)] E l (fun x : Value => x) (fun x => row 41 7 x (s.jn.map encD) :: coA p s :: m) := fun w H => by
  refine (?_ : Jk E l 0 [] fun _ w => Calls Tryz.prog 18 #[.pointer (some ⟨p, 12, none⟩)] w fun e w' => ∃ x, e = .returned ((fun x : Value => x) x) ∧ Sep E w' ((fun x : Value => row 41 7 x (s.jn.map encD) :: coA p s :: m) x)) w _ H fr0
  refine J_pick hp <| J_coO fun bn be br bg bt bs bp bl bk _ => J_con (jnlAll (xs := s.jn) PC hb) fun x => ?_
  refine J_coS (p := p) (s := s) bn be br bg bt bs bp bl bk PX trivial ?_
  exact J_end SU
theorem coTmDrop {E : World} {l m : List As} {p : Nat} {s : KS} (hp : Pick (coA p s) l m) {i : ID} (hb : s.tm.length ≤ 100000) :
    Con Tryz.prog 130 #[.pointer (some ⟨p, 11, none⟩), .agg (encI i).toArray] E l (fun _ : Unit => .bool (decide ((tdrop s.tm i).length < s.tm.length))) (fun _ => coA p { s with tm := tdrop s.tm i } :: m) := fun w H => by
  refine (?_ : Jk E l 0 [] fun _ w => Calls Tryz.prog 130 #[.pointer (some ⟨p, 11, none⟩), .agg (encI i).toArray] w fun e w' => ∃ x, e = .returned ((fun _ : Unit => .bool (decide ((tdrop s.tm i).length < s.tm.length))) x) ∧ Sep E w' ((fun _ : Unit => coA p { s with tm := tdrop s.tm i } :: m) x)) w _ H fr0
  refine J_pick hp <| J_coO fun bn be br bg bt bs bp bl bk _ => J_con (tmrDropC (xs := s.tm) (i := i) PC hb) fun x => ?_
  refine J_coS (p := p) (s := { s with tm := tdrop s.tm i }) bn be br bg bt bs bp bl bk PX trivial ?_
  exact J_end SU
theorem coEpDrop {E : World} {l m : List As} {p : Nat} {s : KS} (hp : Pick (coA p s) l m) {u : Int} {b : Nat} {out : List Msg} {inn : List Rcv} (hl : look s.ep u = some (b, out, inn)) (hbo : out.length ≤ 100000) (hbi : inn.length ≤ 100000) {i : ID} :
  Con Tryz.prog 131 #[.pointer (some ⟨b, 0, none⟩), .agg (encI i).toArray] E l (fun _ : Unit => .bool (decide ((mdrop out i).length + (rdrop inn i).length < out.length + inn.length))) (fun _ => coA p { s with ep := updO s.ep u (epD i) } :: m) := fun w H => by
 refine (?_ : Jk E l 0 [] fun _ w => Calls Tryz.prog 131 #[.pointer (some ⟨b, 0, none⟩), .agg (encI i).toArray] w fun e w' => ∃ x, e = .returned ((fun _ : Unit => .bool (decide ((mdrop out i).length + (rdrop inn i).length < out.length + inn.length))) x) ∧ Sep E w' ((fun _ : Unit => coA p { s with ep := updO s.ep u (epD i) } :: m) x)) w _ H fr0
 obtain ⟨j, hj⟩ := look_ix hl
 have hjl := (List.getElem?_eq_some_iff.1 hj).1
 refine J_pick hp <| J_coO fun bn be br bg bt bs bp bl bk _ => J_keyd (ps := ptrs s.ep) HS fun hK => ?_
 refine J_pick (A := each epF s.ep) PC ?_
 refine J_eachOut hj ?_
 skip
 refine J_asTo (B := epA b out inn) (by rfl) <| J_con (epDropC (out := out) (inn := inn) (i := i) PC hbo hbi) fun x => ?_
 refine J_pick (A := epA b (mdrop out i) (rdrop inn i)) PC ?_
 refine J_asTo (B := epF (u, b, ((epD i)) (out, inn))) (by rfl) <| J_pick (A := each epF _) PC ?_
 refine J_pick (A := epF (u, b, _)) PC ?_
 refine J_eachIn (u, b, ((epD i)) (out, inn)) hjl ?_
 skip
 refine J_asTo (B := each epF (updO s.ep u (epD i))) (by rw [updO_set hK hj]) <| J_pick (A := mapV kZ evA (.map (some be)) (ptrs s.ep)) PC ?_
 refine J_mapEq (qs := ptrs (updO s.ep u (epD i))) ptrs_updO.symm <| J_coS (p := p) (s := { s with ep := updO s.ep u (epD i) }) bn be br bg bt bs bp bl bk PX trivial ?_
 exact J_end SU
theorem coNtDrop {E : World} {l m : List As} {p : Nat} {s : KS} (hp : Pick (coA p s) l m) {u : Int} {b : Nat} {w0 : Int} {xs : List ID} (hl : look s.nt u = some (b, w0, xs)) (hb : xs.length ≤ 100000) {i : ID} :
  Con Tryz.prog 132 #[.pointer (some ⟨b, 0, none⟩), .agg (encI i).toArray] E l (fun _ : Unit => .bool (decide (i ∈ xs))) (fun _ => coA p { s with nt := updO s.nt u (ntD i) } :: m) := fun w H => by
 refine (?_ : Jk E l 0 [] fun _ w => Calls Tryz.prog 132 #[.pointer (some ⟨b, 0, none⟩), .agg (encI i).toArray] w fun e w' => ∃ x, e = .returned ((fun _ : Unit => .bool (decide (i ∈ xs))) x) ∧ Sep E w' ((fun _ : Unit => coA p { s with nt := updO s.nt u (ntD i) } :: m) x)) w _ H fr0
 obtain ⟨j, hj⟩ := look_ix hl
 have hjl := (List.getElem?_eq_some_iff.1 hj).1
 refine J_pick hp <| J_coO fun bn be br bg bt bs bp bl bk _ => J_keyd (ps := ptrs s.nt) HS fun hK => ?_
 refine J_pick (A := each ntF s.nt) PC ?_
 refine J_eachOut hj ?_
 skip
 refine J_asTo (B := ntA b 0 w0 xs) (by rfl) <| J_con (ntDropC (w := w0) (xs := xs) (i := i) PC hb) fun x => ?_
 refine J_pick (A := ntA b 0 w0 (ldrop xs i)) PC ?_
 refine J_asTo (B := ntF (u, b, ((ntD i)) (w0, xs))) (by rfl) <| J_pick (A := each ntF _) PC ?_
 refine J_pick (A := ntF (u, b, _)) PC ?_
 refine J_eachIn (u, b, ((ntD i)) (w0, xs)) hjl ?_
 skip
 refine J_asTo (B := each ntF (updO s.nt u (ntD i))) (by rw [updO_set hK hj]) <| J_pick (A := mapV kZ evA (.map (some bn)) (ptrs s.nt)) PC ?_
 refine J_mapEq (qs := ptrs (updO s.nt u (ntD i))) ptrs_updO.symm <| J_coS (p := p) (s := { s with nt := updO s.nt u (ntD i) }) bn be br bg bt bs bp bl bk PX trivial ?_
 exact J_end SU
theorem coNtSignal {E : World} {l m : List As} {p : Nat} {s : KS} (hp : Pick (coA p s) l m) {u : Int} {b : Nat} {w0 : Int} {xs : List ID} (hl : look s.nt u = some (b, w0, xs)) (hb : xs.length ≤ 100000) {z : Int} :
  Con Tryz.prog 139 #[.pointer (some ⟨b, 0, none⟩), .int .u32 z] E l (fun _ : Unit => .tuple #[.agg (encI (sigI w0 xs z)).toArray, .int .u32 (sigV w0 xs z), .bool (woke w0 xs z)]) (fun _ => coA p { s with nt := updO s.nt u (ntS z) } :: m) := fun w H => by
 refine (?_ : Jk E l 0 [] fun _ w => Calls Tryz.prog 139 #[.pointer (some ⟨b, 0, none⟩), .int .u32 z] w fun e w' => ∃ x, e = .returned ((fun _ : Unit => .tuple #[.agg (encI (sigI w0 xs z)).toArray, .int .u32 (sigV w0 xs z), .bool (woke w0 xs z)]) x) ∧ Sep E w' ((fun _ : Unit => coA p { s with nt := updO s.nt u (ntS z) } :: m) x)) w _ H fr0
 obtain ⟨j, hj⟩ := look_ix hl
 have hjl := (List.getElem?_eq_some_iff.1 hj).1
 refine J_pick hp <| J_coO fun bn be br bg bt bs bp bl bk _ => J_keyd (ps := ptrs s.nt) HS fun hK => ?_
 refine J_pick (A := each ntF s.nt) PC ?_
 refine J_eachOut hj ?_
 skip
 refine J_asTo (B := ntA b 0 w0 xs) (by rfl) <| J_con (ntSignal (w := w0) (xs := xs) (x := z) PC hb) fun x => ?_
 refine J_pick (A := ntA b 0 (sigW w0 xs z) (sigL w0 xs z)) PC ?_
 refine J_asTo (B := ntF (u, b, ((ntS z)) (w0, xs))) (by rfl) <| J_pick (A := each ntF _) PC ?_
 refine J_pick (A := ntF (u, b, _)) PC ?_
 refine J_eachIn (u, b, ((ntS z)) (w0, xs)) hjl ?_
 skip
 refine J_asTo (B := each ntF (updO s.nt u (ntS z))) (by rw [updO_set hK hj]) <| J_pick (A := mapV kZ evA (.map (some bn)) (ptrs s.nt)) PC ?_
 refine J_mapEq (qs := ptrs (updO s.nt u (ntS z))) ptrs_updO.symm <| J_coS (p := p) (s := { s with nt := updO s.nt u (ntS z) }) bn be br bg bt bs bp bl bk PX trivial ?_
 exact J_end SU
theorem coRpDrop {E : World} {l m : List As} {p : Nat} {s : KS} (hp : Pick (coA p s) l m) {u : Int} {b : Nat} {c : ID × Bool} (hl : look s.rp u = some (b, c)) {i : ID} :
  Con Tryz.prog 133 #[.pointer (some ⟨b, 0, none⟩), .agg (encI i).toArray] E l (fun _ : Unit => .bool (decide (c.2 = true ∧ c.1 = i))) (fun _ => coA p { s with rp := updO s.rp u (rpD i) } :: m) := fun w H => by
 refine (?_ : Jk E l 0 [] fun _ w => Calls Tryz.prog 133 #[.pointer (some ⟨b, 0, none⟩), .agg (encI i).toArray] w fun e w' => ∃ x, e = .returned ((fun _ : Unit => .bool (decide (c.2 = true ∧ c.1 = i))) x) ∧ Sep E w' ((fun _ : Unit => coA p { s with rp := updO s.rp u (rpD i) } :: m) x)) w _ H fr0
 obtain ⟨j, hj⟩ := look_ix hl
 have hjl := (List.getElem?_eq_some_iff.1 hj).1
 refine J_pick hp <| J_coO fun bn be br bg bt bs bp bl bk _ => J_keyd (ps := ptrs s.rp) HS fun hK => ?_
 refine J_pick (A := each rpF s.rp) PC ?_
 refine J_eachOut hj ?_
 skip
 refine J_asTo (B := rpA b c) (by rfl) <| J_con (rpDropC (c := c) (i := i) PC) fun x => ?_
 refine J_pick (A := rpA b (cDrop c i)) PC ?_
 refine J_asTo (B := rpF (u, b, ((rpD i)) (c))) (by rfl) <| J_pick (A := each rpF _) PC ?_
 refine J_pick (A := rpF (u, b, _)) PC ?_
 refine J_eachIn (u, b, ((rpD i)) (c)) hjl ?_
 skip
 refine J_asTo (B := each rpF (updO s.rp u (rpD i))) (by rw [updO_set hK hj]) <| J_pick (A := mapV kZ evA (.map (some br)) (ptrs s.rp)) PC ?_
 refine J_mapEq (qs := ptrs (updO s.rp u (rpD i))) ptrs_updO.symm <| J_coS (p := p) (s := { s with rp := updO s.rp u (rpD i) }) bn be br bg bt bs bp bl bk PX trivial ?_
 exact J_end SU
theorem coPost {E : World} {l m : List As} {p : Nat} {s : KS} (hp : Pick (coA p s) l m) {u : Int} {b : Nat} {r : Rg} {c : Cqe} (hl : look s.rg u = some (b, r)) (hb : r.over.length ≤ 100000) (hR : RgOk r) (hM : MemOk s.mem) :
  Con Tryz.prog 136 #[.pointer (some ⟨b, 0, none⟩), .agg (encX c).toArray] E l (fun _ : Unit => .bool (postOk r s.mem)) (fun _ => coA p { s with rg := updO s.rg u (fun r => postR r s.mem c), mem := postM r s.mem c } :: m) := fun w H => by
 refine (?_ : Jk E l 0 [] fun _ w => Calls Tryz.prog 136 #[.pointer (some ⟨b, 0, none⟩), .agg (encX c).toArray] w fun e w' => ∃ x, e = .returned ((fun _ : Unit => .bool (postOk r s.mem)) x) ∧ Sep E w' ((fun _ : Unit => coA p { s with rg := updO s.rg u (fun r => postR r s.mem c), mem := postM r s.mem c } :: m) x)) w _ H fr0
 obtain ⟨j, hj⟩ := look_ix hl
 have hjl := (List.getElem?_eq_some_iff.1 hj).1
 refine J_pick hp <| J_coO fun bn be br bg bt bs bp bl bk _ => J_keyd (ps := ptrs s.rg) HS fun hK => ?_
 refine J_pick (A := each (rgF s.mb) s.rg) PC ?_
 refine J_eachOut hj ?_
 skip
 refine J_asTo (B := rgA b s.mb r) (by rfl) <| J_con (ringPost (r := r) (ms := s.mem) (c := c) PX hb hR hM) fun x => ?_
 refine J_pick (A := rgA b s.mb (postR r s.mem c)) PC ?_
 refine J_asTo (B := (rgF s.mb) (u, b, ((fun r => postR r s.mem c)) (r))) (by rfl) <| J_pick (A := each (rgF s.mb) _) PC ?_
 refine J_pick (A := (rgF s.mb) (u, b, _)) PC ?_
 refine J_eachIn (u, b, ((fun r => postR r s.mem c)) (r)) hjl ?_
 skip
 refine J_asTo (B := each (rgF s.mb) (updO s.rg u (fun r => postR r s.mem c))) (by rw [updO_set hK hj]) <| J_pick (A := mapV kZ evA (.map (some bg)) (ptrs s.rg)) PC ?_
 refine J_mapEq (qs := ptrs (updO s.rg u (fun r => postR r s.mem c))) ptrs_updO.symm <| J_coS (p := p) (s := { s with rg := updO s.rg u (fun r => postR r s.mem c), mem := postM r s.mem c }) bn be br bg bt bs bp bl bk PX trivial ?_
 exact J_end SU
end Go.Pse
namespace Go.Pse
open Go.RowKit Go.Proofs
theorem coForget {E : World} {l m : List As}{p : Nat} {s : KS} (hp : Pick (coA p s) l m) {i : ID} {N M : Nat} (hF : Fits s N M) :
  Con Tryz.prog 88 #[.pointer (some ⟨p, 0, none⟩), .agg (encI i).toArray] E l (fun _ : Unit => .tuple #[]) (fun _ => coA p (kForget s i) :: m) := by
 refine Con.body (vs := [.pointer (some ⟨p, 0, none⟩), .agg (encI i).toArray]) (n := 40) Tryz.func88 rfl rfl [(0, .pointer (some ⟨p, 0, none⟩)), (1, .agg (encI i).toArray)] (env_ok 2 rfl) <| J_pick hp <| sr <| L_op <| x_box rfl rfl rfl fun b3 => nq <| J_seq <| J_drawL (some 3) mixed ?_
 refine ip 0 rfl rfl rfl rfl (p_move rfl) <| iv 2 rfl rfl rfl rfl (fun _ => v_loadA rfl ty39 HS CT) ?_
 refine i1 1 rfl <| xc fc129 (.cons rfl .nil) rfl (coTimers) fun _ => i1 3 rfl <| xc fc130 (.cons rfl (.cons rfl .nil)) rfl (coTmDrop (s := s) (i := i) PC (by have := hF.tm; have := hF.n; omega)) fun _ => ?_
 refine J_pick (A := coA p _) PC ?_
 refine J_asTo (B := coA p (forTo s i ((1 : Nat) : Int))) (by rw [show ((1 : Nat) : Int) = 1 from rfl, forTo_one hF]) <| i0 <| qx <| ag rfl rfl <| nq <| J_block <| J_loop (α := Nat) (fun k => 1 ≤ k ∧ k ≤ 65) (fun k => coA p (forTo s i (k : Int)) :: blk b3 39 (encI i) :: m) (fun k => [(4, .int .i64 (k : Int)), (0, .pointer (some ⟨p, 0, none⟩)), (3, .pointer (some ⟨b3, 0, none⟩))]) (fun k => 65 - k) 1 (by omega) SU KE ?_
 intro k hk
 refine J_seq <| sr <| mv rfl rfl <| L_pur rfl (p_leq rfl rfl) <| nq ?_
 refine C_dec rfl (fun h13 => ?_) (fun h13 => ?_)
 have hF2 := hF.forTo i (k : Int)
 have hNN := hF.n
 refine J_skip <| Q_then <| J_seq <| J_block ?_
 refine J_cut (α := Unit) (fun _ : Unit => coA p { forTo s i (k : Int) with ep := mapTo (epD i) ((k : Int) + 1) s.ep } :: blk b3 39 (encI i) :: m) (fun _ : Unit => [(4, .int .i64 (k : Int)), (0, .pointer (some ⟨p, 0, none⟩)), (3, .pointer (some ⟨b3, 0, none⟩))]) ?_ ?_
 refine sr <| mv rfl rfl <| mv rfl rfl <| L_op <| xc fc27 (.cons rfl (.cons rfl .nil)) rfl (coEp (s := (forTo s i (k : Int))) (u := (k : Int)) PC) fun _ => ?_
 refine J_slot (t := 18) (v := .pointer ((look (ptrs (KS.ep (forTo s i (k : Int)))) (k : Int)).map fun b => ⟨b, 0, none⟩)) rfl rfl <| ag rfl rfl <| nx <| mv rfl rfl <| L_pur rfl (p_neNilPtr Tryz.underlying57 rfl) <| nq ?_
 refine C_split rfl (fun h20 => ?_) (fun h20 => ?_)
 obtain ⟨b, hb⟩ : ∃ b, look (ptrs (KS.ep (forTo s i (k : Int)))) (k : Int) = some b := by
  cases hq : look (ptrs (KS.ep (forTo s i (k : Int)))) (k : Int) with
  | none => rw [hq] at h20; simp at h20
  | some b => exact ⟨b, rfl⟩
 obtain ⟨⟨ob1, ob2⟩, hob⟩ := look_got hb
 have hb1 : ob1.length ≤ N := (hF2.ep _ (mem_look hob)).2.1
 have hb2 : ob2.length ≤ N := (hF2.ep _ (mem_look hob)).2.2
 refine J_region <| mv rfl rfl <| J_slot (t := 21) (v := .pointer (some ⟨b, 0, none⟩)) rfl (by rw [hb]; rfl) <| L_val rfl (v_loadA rfl ty39 HS CT) ?_
 refine L_op <| xc fc131 (.cons rfl (.cons rfl .nil)) rfl (coEpDrop (s := (forTo s i (k : Int))) (u := (k : Int)) PC hob (by omega) (by omega)) fun _ => ?_
 refine nq <| J_pick (A := coA p _) PC ?_
 refine J_asTo (B := coA p { forTo s i (k : Int) with ep := mapTo (epD i) ((k : Int) + 1) s.ep }) (by unfold forTo; simp only [mapTo_up]) ?_
 exact J_at (L := (fun _ : Unit => coA p { forTo s i (k : Int) with ep := mapTo (epD i) ((k : Int) + 1) s.ep } :: blk b3 39 (encI i) :: m)) (G := (fun _ : Unit => [(4, .int .i64 (k : Int)), (0, .pointer (some ⟨p, 0, none⟩)), (3, .pointer (some ⟨b3, 0, none⟩))])) () SU KE
 have hno : look (ptrs s.ep) (k : Int) = none := by
  rw [← ptrs_mapTo (f := epD i) (k := (k : Int))]
  cases hq : look (ptrs (mapTo (epD i) (k : Int) s.ep)) (k : Int) with
  | none => rfl
  | some b => rw [show look (ptrs (KS.ep (forTo s i (k : Int)))) (k : Int) = _ from hq] at h20; simp at h20
 refine J_skip <| Q_then <| J_pick (A := coA p _) PC ?_
 refine J_asTo (B := coA p { forTo s i (k : Int) with ep := mapTo (epD i) ((k : Int) + 1) s.ep }) (by unfold forTo; simp only [mapTo_no (f := epD i) hno]) ?_
 exact J_at (L := (fun _ : Unit => coA p { forTo s i (k : Int) with ep := mapTo (epD i) ((k : Int) + 1) s.ep } :: blk b3 39 (encI i) :: m)) (G := (fun _ : Unit => [(4, .int .i64 (k : Int)), (0, .pointer (some ⟨p, 0, none⟩)), (3, .pointer (some ⟨b3, 0, none⟩))])) () SU KE
 intro _
 refine J_cut (α := Unit) (fun _ : Unit => coA p { forTo s i (k : Int) with ep := mapTo (epD i) ((k : Int) + 1) s.ep, nt := mapTo (ntD i) ((k : Int) + 1) s.nt } :: blk b3 39 (encI i) :: m) (fun _ : Unit => [(4, .int .i64 (k : Int)), (0, .pointer (some ⟨p, 0, none⟩)), (3, .pointer (some ⟨b3, 0, none⟩))]) ?_ ?_
 refine sr <| mv rfl rfl <| mv rfl rfl <| L_op <| xc fc36 (.cons rfl (.cons rfl .nil)) rfl (coNotif (s := { forTo s i (k : Int) with ep := mapTo (epD i) ((k : Int) + 1) s.ep }) (u := (k : Int)) PC) fun _ => ?_
 refine J_slot (t := 26) (v := .pointer ((look (ptrs (KS.nt { forTo s i (k : Int) with ep := mapTo (epD i) ((k : Int) + 1) s.ep })) (k : Int)).map fun b => ⟨b, 0, none⟩)) rfl rfl <| ag rfl rfl <| nx <| mv rfl rfl <| L_pur rfl (p_neNilPtr Tryz.underlying79 rfl) <| nq ?_
 refine C_split rfl (fun h28 => ?_) (fun h28 => ?_)
 obtain ⟨b, hb⟩ : ∃ b, look (ptrs (KS.nt { forTo s i (k : Int) with ep := mapTo (epD i) ((k : Int) + 1) s.ep })) (k : Int) = some b := by
  cases hq : look (ptrs (KS.nt { forTo s i (k : Int) with ep := mapTo (epD i) ((k : Int) + 1) s.ep })) (k : Int) with
  | none => rw [hq] at h28; simp at h28
  | some b => exact ⟨b, rfl⟩
 obtain ⟨⟨ob1, ob2⟩, hob⟩ := look_got hb
 have hb2 : ob2.length ≤ N := (hF2.nt _ (mem_look hob)).2
 refine J_region <| mv rfl rfl <| J_slot (t := 29) (v := .pointer (some ⟨b, 0, none⟩)) rfl (by rw [hb]; rfl) <| L_val rfl (v_loadA rfl ty39 HS CT) ?_
 refine L_op <| xc fc132 (.cons rfl (.cons rfl .nil)) rfl (coNtDrop (s := { forTo s i (k : Int) with ep := mapTo (epD i) ((k : Int) + 1) s.ep }) (u := (k : Int)) PC hob (by omega)) fun _ => ?_
 refine nq <| J_pick (A := coA p _) PC ?_
 refine J_asTo (B := coA p { forTo s i (k : Int) with ep := mapTo (epD i) ((k : Int) + 1) s.ep, nt := mapTo (ntD i) ((k : Int) + 1) s.nt }) (by unfold forTo; simp only [mapTo_up]) ?_
 exact J_at (L := (fun _ : Unit => coA p { forTo s i (k : Int) with ep := mapTo (epD i) ((k : Int) + 1) s.ep, nt := mapTo (ntD i) ((k : Int) + 1) s.nt } :: blk b3 39 (encI i) :: m)) (G := (fun _ : Unit => [(4, .int .i64 (k : Int)), (0, .pointer (some ⟨p, 0, none⟩)), (3, .pointer (some ⟨b3, 0, none⟩))])) () SU KE
 have hno : look (ptrs s.nt) (k : Int) = none := by
  rw [← ptrs_mapTo (f := ntD i) (k := (k : Int))]
  cases hq : look (ptrs (mapTo (ntD i) (k : Int) s.nt)) (k : Int) with
  | none => rfl
  | some b => rw [show look (ptrs (KS.nt { forTo s i (k : Int) with ep := mapTo (epD i) ((k : Int) + 1) s.ep })) (k : Int) = _ from hq] at h28; simp at h28
 refine J_skip <| Q_then <| J_pick (A := coA p _) PC ?_
 refine J_asTo (B := coA p { forTo s i (k : Int) with ep := mapTo (epD i) ((k : Int) + 1) s.ep, nt := mapTo (ntD i) ((k : Int) + 1) s.nt }) (by unfold forTo; simp only [mapTo_no (f := ntD i) hno]) ?_
 exact J_at (L := (fun _ : Unit => coA p { forTo s i (k : Int) with ep := mapTo (epD i) ((k : Int) + 1) s.ep, nt := mapTo (ntD i) ((k : Int) + 1) s.nt } :: blk b3 39 (encI i) :: m)) (G := (fun _ : Unit => [(4, .int .i64 (k : Int)), (0, .pointer (some ⟨p, 0, none⟩)), (3, .pointer (some ⟨b3, 0, none⟩))])) () SU KE
 intro _
 refine sr <| mv rfl rfl <| mv rfl rfl <| L_op <| xc fc20 (.cons rfl (.cons rfl .nil)) rfl (coReply (s := { forTo s i (k : Int) with ep := mapTo (epD i) ((k : Int) + 1) s.ep, nt := mapTo (ntD i) ((k : Int) + 1) s.nt }) (u := (k : Int)) PC) fun _ => ?_
 refine J_slot (t := 34) (v := .pointer ((look (ptrs (KS.rp { forTo s i (k : Int) with ep := mapTo (epD i) ((k : Int) + 1) s.ep, nt := mapTo (ntD i) ((k : Int) + 1) s.nt })) (k : Int)).map fun b => ⟨b, 0, none⟩)) rfl rfl <| ag rfl rfl <| nx <| mv rfl rfl <| L_pur rfl (p_neNilPtr Tryz.underlying42 rfl) <| nq ?_
 refine C_split rfl (fun h36 => ?_) (fun h36 => ?_)
 obtain ⟨b, hb⟩ : ∃ b, look (ptrs (KS.rp { forTo s i (k : Int) with ep := mapTo (epD i) ((k : Int) + 1) s.ep, nt := mapTo (ntD i) ((k : Int) + 1) s.nt })) (k : Int) = some b := by
  cases hq : look (ptrs (KS.rp { forTo s i (k : Int) with ep := mapTo (epD i) ((k : Int) + 1) s.ep, nt := mapTo (ntD i) ((k : Int) + 1) s.nt })) (k : Int) with
  | none => rw [hq] at h36; simp at h36
  | some b => exact ⟨b, rfl⟩
 obtain ⟨ob, hob⟩ := look_got hb
 refine J_region <| mv rfl rfl <| J_slot (t := 37) (v := .pointer (some ⟨b, 0, none⟩)) rfl (by rw [hb]; rfl) <| L_val rfl (v_loadA rfl ty39 HS CT) ?_
 refine L_op <| xc fc133 (.cons rfl (.cons rfl .nil)) rfl (coRpDrop (s := { forTo s i (k : Int) with ep := mapTo (epD i) ((k : Int) + 1) s.ep, nt := mapTo (ntD i) ((k : Int) + 1) s.nt }) (u := (k : Int)) PC hob) fun _ => ?_
 refine L_nil <| Q_blk_normal <| qr <| mv rfl rfl <| L_pur rfl (p_add64 rfl rfl (by omega)) <| ag rfl rfl <| nq <| J_pick (A := coA p _) PC ?_
 refine J_asTo (B := coA p (forTo s i ((k + 1 : Nat) : Int))) (by unfold forTo; simp only [mapTo_up]; push_cast; rfl) ?_
 exact J_again (k + 1) (by omega) (by omega) SU KE
 have hno : look (ptrs s.rp) (k : Int) = none := by
  rw [← ptrs_mapTo (f := rpD i) (k := (k : Int))]
  cases hq : look (ptrs (mapTo (rpD i) (k : Int) s.rp)) (k : Int) with
  | none => rfl
  | some b => rw [show look (ptrs (KS.rp { forTo s i (k : Int) with ep := mapTo (epD i) ((k : Int) + 1) s.ep, nt := mapTo (ntD i) ((k : Int) + 1) s.nt })) (k : Int) = _ from hq] at h36; simp at h36
 refine J_skip <| Q_blk_normal <| qr <| mv rfl rfl <| L_pur rfl (p_add64 rfl rfl (by omega)) <| ag rfl rfl <| nq <| J_pick (A := coA p _) PC ?_
 refine J_asTo (B := coA p (forTo s i ((k + 1 : Nat) : Int))) (by unfold forTo; simp only [mapTo_no (f := rpD i) hno]; push_cast; rfl) ?_
 exact J_again (k + 1) (by omega) (by omega) SU KE
 have hk65 : k = 65 := by omega
 subst hk65
 refine J_pick (A := coA p _) PC ?_
 refine J_asTo (B := coA p (kForget s i)) (by rw [show ((65 : Nat) : Int) = 65 from rfl, forTo_all hF]) <| J_exit <| Q_then_exit <| Q_then_exit <| Q_blk_this <| J_endnormal ?_
 exact J_return (()) Tryz.results88 .nil rfl SU
end Go.Pse
namespace Go.Pse
open Go.RowKit Go.Proofs
/-! ### plain: an end is told; a request ends -/
def kBell (s : KS) (g : Int) : Int × Int := (look s.be g).getD (0, 0)
def kPost (s : KS) (d : Deed) : KS := match look s.rg d.1.1 with
  | none => s
  | some (_, r) => { s with rg := updO s.rg d.1.1 (fun r => postR r s.mem (ofD d)), mem := postM r s.mem (ofD d) }
def kSaid (s : KS) (d : Deed) : KS := kPost { s with jn := s.jn ++ [d] } d
def kRung (s : KS) (g : Int) : KS := { s with nt := updO s.nt (kBell s g).1 (ntS (kBell s g).2) }
def kTell (D : KS → ID → Int → Int → KS) (s : KS) (d : Deed) : KS := match look (kSaid s d).nt (kBell (kSaid s d) d.1.1).1 with
  | none => kSaid s d
  | some (_, w, xs) => if woke w xs (kBell (kSaid s d) d.1.1).2 then D (kRung (kSaid s d) d.1.1) (sigI w xs (kBell (kSaid s d) d.1.1).2) 0 (sigV w xs (kBell (kSaid s d) d.1.1).2) else kRung (kSaid s d) d.1.1
def kDec : Nat → KS → ID → Int → Int → KS
  | 0, s, _, _, _ => s
  | n + 1, s, i, r, v => match look s.rt i with
    | none => s
    | some q => match afterQ (kTell (kDec n) (kForget { s with rt := del s.rt i } i) (i, q.e.tag, q.e.op, r, v, false)).rt i with
      | none => kTell (kDec n) (kForget { s with rt := del s.rt i } i) (i, q.e.tag, q.e.op, r, v, false)
      | some x => if x.soft = true ∧ r < 0 then kDec n (kTell (kDec n) (kForget { s with rt := del s.rt i } i) (i, q.e.tag, q.e.op, r, v, false)) x.id (-9) 0 else kTell (kDec n) (kForget { s with rt := del s.rt i } i) (i, q.e.tag, q.e.op, r, v, false)
theorem kDec_none {n : Nat} {s : KS} {i : ID} {r v : Int} (h : look s.rt i = none) : kDec n s i r v = s := by
  cases n with
  | zero => rfl
  | succ n => rw [kDec, h]
theorem kPost_rt {s : KS} {d : Deed} : (kPost s d).rt = s.rt := by unfold kPost; split <;> rfl
theorem kSaid_rt {s : KS} {d : Deed} : (kSaid s d).rt = s.rt := by unfold kSaid; rw [kPost_rt]
theorem Fits.said {s : KS} {N M : Nat} (h : Fits s N M) (hm : M + 1 ≤ 90000) (d : Deed) : Fits (kSaid s d) N (M + 1) := by
  unfold kSaid kPost
  split
  · exact h.jnl hm d
  · rename_i b r hl
    have hr := h.rg _ (mem_look hl)
    refine ⟨h.n, hm, h.ids, ?_, h.tm, h.ep, h.nt, h.rp, fun x hx => ?_, postM_ok hr.1 h.mem _⟩
    · have := h.jn
      show (s.jn ++ [d]).length + s.rt.length ≤ M + 1
      simp; omega
    · obtain ⟨y, hy, h1, h2⟩ := updO_mem (show x ∈ updO s.rg d.1.1 (fun r => postR r s.mem (ofD d)) from hx)
      obtain ⟨g1, g2⟩ := h.rg y hy
      rcases h2 with h2 | h2 <;> rw [h2]
      · exact ⟨g1, by show _ + s.rt.length ≤ _; omega⟩
      · refine ⟨postR_ok g1 _, ?_⟩
        have : (postR y.2.2 s.mem (ofD d)).over.length ≤ y.2.2.over.length + 1 := by unfold postR; split <;> simp [Go.Pse.rgUp]
        show _ + s.rt.length ≤ _
        omega
theorem Fits.tell {D : KS → ID → Int → Int → KS} {N M : Nat} (hD : ∀ s i r v, Fits s N (M + 1) → Fits (D s i r v) N (M + 1) ∧ (D s i r v).rt.length ≤ s.rt.length) {s : KS} (h : Fits s N M) (hm : M + 1 ≤ 90000) (d : Deed) : Fits (kTell D s d) N (M + 1) ∧ (kTell D s d).rt.length ≤ s.rt.length := by
  have h1 := h.said hm d
  unfold kTell
  split
  · exact ⟨h1, by rw [kSaid_rt]; exact Nat.le_refl _⟩
  · split
    · exact ⟨(hD _ _ _ _ (h1.sig _ _)).1, Nat.le_trans (hD _ _ _ _ (h1.sig _ _)).2 (by show (kSaid s d).rt.length ≤ _; rw [kSaid_rt]; exact Nat.le_refl _)⟩
    · exact ⟨h1.sig _ _, by show (kSaid s d).rt.length ≤ _; rw [kSaid_rt]; exact Nat.le_refl _⟩
theorem Fits.dec {N : Nat} : ∀ n {M : Nat} {s : KS} {i : ID} {r v : Int}, Fits s N M → Fits (kDec n s i r v) N M ∧ (kDec n s i r v).rt.length ≤ s.rt.length
  | 0, _, _, _, _, _, h => ⟨h, Nat.le_refl _⟩
  | n + 1, M, s, i, r, v, h => by
    rw [kDec]
    split
    · exact ⟨h, Nat.le_refl _⟩
    · rename_i q hq
      have hl := del_less hq
      obtain ⟨M, rfl⟩ : ∃ M', M = M' + 1 := ⟨M - 1, by have := h.jn; omega⟩
      have h1 := ((h.drop hq).forget i).tell (D := kDec n) (fun s i r v h => Fits.dec n h) h.mm (i, q.e.tag, q.e.op, r, v, false)
      have h2 : (kTell (kDec n) (kForget { s with rt := del s.rt i } i) (i, q.e.tag, q.e.op, r, v, false)).rt.length ≤ s.rt.length := Nat.le_trans h1.2 (by show (del s.rt i).length ≤ _; omega)
      split
      · exact ⟨h1.1, h2⟩
      · split
        · exact ⟨(Fits.dec n h1.1).1, Nat.le_trans (Fits.dec n h1.1).2 h2⟩
        · exact ⟨h1.1, h2⟩
def DecC (n N M : Nat) : Prop := ∀ (E : World) (l m : List As) (p : Nat) (s : KS) (i : ID) (r v : Int), Pick (coA p s) l m → s.rt.length ≤ n → Fits s N M →
  Con Tryz.prog 54 #[.pointer (some ⟨p, 0, none⟩), .agg (encI i).toArray, .int .i64 r, .int .u32 v] E l (fun _ : Unit => .bool (look s.rt i).isSome) (fun _ => coA p (kDec n s i r v) :: m)
theorem coTell {E : World} {l m : List As}{p : Nat} {s : KS} (hp : Pick (coA p s) l m) {n N M : Nat} (hD : DecC n N (M + 1)) {d : Deed} (hn : s.rt.length ≤ n) (hF : Fits s N M) (hm : M + 1 ≤ 90000) :
  Con Tryz.prog 89 #[.pointer (some ⟨p, 0, none⟩), .agg (encD d).toArray] E l (fun _ : Unit => .tuple #[]) (fun _ => coA p (kTell (kDec n) s d) :: m) := by
 refine Con.body (vs := [.pointer (some ⟨p, 0, none⟩), .agg (encD d).toArray]) (n := 51) Tryz.func89 rfl rfl [(0, .pointer (some ⟨p, 0, none⟩)), (1, .agg (encD d).toArray)] (env_ok 2 rfl) <| J_pick hp <| sr <| L_op <| x_box rfl rfl rfl fun b3 => nq <| J_seq <| J_drawL (some 3) mixed ?_
 refine ip 0 rfl rfl rfl rfl (p_move rfl) <| iv 2 rfl rfl rfl rfl (fun _ => v_loadA rfl ty41 HS CT) ?_
 refine i1 1 rfl <| xc fc17 (.cons rfl .nil) rfl (coJournal) fun _ => i1 3 rfl <| xc fc134 (.cons rfl (.cons rfl .nil)) rfl (coJAdd (s := s) (d := d) PC (by have := hF.jn; omega)) fun _ => ?_
 refine i0 <| Q_then ?_
 refine J_cut (α := Unit) (fun _ : Unit => coA p (kSaid s d) :: blk b3 41 (encD d) :: m) (fun _ : Unit => [(0, .pointer (some ⟨p, 0, none⟩)), (3, .pointer (some ⟨b3, 0, none⟩))]) ?_ ?_
 refine sr <| mv rfl rfl <| fa rfl rfl fa41_0 <| fa rfl rfl fa39_0 <| L_val rfl (v_load rfl ty3 HS (by exact rfl)) ?_
 refine L_op <| xc fc135 (.cons rfl (.cons rfl .nil)) rfl (coRing (s := { s with jn := s.jn ++ [d] }) (u := d.1.1) PC) fun _ => ?_
 refine J_slot (t := 19) (v := .pointer ((look (ptrs s.rg) d.1.1).map fun b => ⟨b, 0, none⟩)) rfl rfl <| ag rfl rfl <| nx <| mv rfl rfl <| L_pur rfl (p_neNilPtr Tryz.underlying274 rfl) <| nq ?_
 refine C_split rfl (fun h21 => ?_) (fun h21 => ?_)
 obtain ⟨b, hb⟩ : ∃ b, look (ptrs s.rg) d.1.1 = some b := by
  cases hq : look (ptrs s.rg) d.1.1 with
  | none => rw [hq] at h21; simp at h21
  | some b => exact ⟨b, rfl⟩
 obtain ⟨r, hr⟩ := look_got hb
 obtain ⟨hro, hrl⟩ : RgOk r ∧ r.over.length + s.rt.length ≤ M := hF.rg _ (mem_look hr)
 refine J_region <| mv rfl rfl <| J_slot (t := 22) (v := .pointer (some ⟨b, 0, none⟩)) rfl (by rw [hb]; rfl) <| L_val rfl (v_loadA rfl ty41 HS CT) ?_
 refine L_op <| xc fc137 (.cons rfl .nil) rfl (compOfC (d := d)) fun _ => L_op <| xc fc136 (.cons rfl (.cons rfl .nil)) rfl (coPost (s := { s with jn := s.jn ++ [d] }) (u := d.1.1) (r := r) (c := ofD d) PC hr (by omega) hro hF.mem) fun _ => ?_
 refine nq <| J_pick (A := coA p _) PC ?_
 refine J_asTo (B := coA p (kSaid s d)) (by unfold kSaid kPost; rw [show look (KS.rg { s with jn := s.jn ++ [d] }) d.1.1 = _ from hr]) ?_
 exact J_at (L := (fun _ : Unit => coA p (kSaid s d) :: blk b3 41 (encD d) :: m)) (G := (fun _ : Unit => [(0, .pointer (some ⟨p, 0, none⟩)), (3, .pointer (some ⟨b3, 0, none⟩))])) () SU KE
 have hrn : look s.rg d.1.1 = none := by
  cases hq : look s.rg d.1.1 with
  | none => rfl
  | some y => rw [look_ptrs, hq] at h21; simp at h21
 refine J_skip <| Q_then <| J_pick (A := coA p _) PC ?_
 refine J_asTo (B := coA p (kSaid s d)) (by unfold kSaid kPost; rw [show look (KS.rg { s with jn := s.jn ++ [d] }) d.1.1 = _ from hrn]) ?_
 exact J_at (L := (fun _ : Unit => coA p (kSaid s d) :: blk b3 41 (encD d) :: m)) (G := (fun _ : Unit => [(0, .pointer (some ⟨p, 0, none⟩)), (3, .pointer (some ⟨b3, 0, none⟩))])) () SU KE
 intro _
 have hF2 := hF.said hm d
 refine sr <| mv rfl rfl <| fa rfl rfl fa41_0 <| fa rfl rfl fa39_0 <| L_val rfl (v_load rfl ty3 HS (by exact rfl)) ?_
 refine L_op <| xc fc138 (.cons rfl (.cons rfl .nil)) rfl (coBell (s := kSaid s d) (u := d.1.1) PC) fun _ => ?_
 refine J_slot (t := 31) (v := .tuple #[.int .i64 (kBell (kSaid s d) d.1.1).1, .int .u32 (kBell (kSaid s d) d.1.1).2]) rfl rfl <| mv rfl rfl <| L_pur rfl (p_extract rfl rfl) <| L_pur rfl (p_extract rfl rfl) <| ag rfl rfl <| ag rfl rfl <| nx <| mv rfl rfl ?_
 refine mv rfl rfl <| L_op <| xc fc36 (.cons rfl (.cons rfl .nil)) rfl (coNotif (s := kSaid s d) (u := (kBell (kSaid s d) d.1.1).1) PC) fun _ => ?_
 refine J_slot (t := 36) (v := .pointer ((look (ptrs (kSaid s d).nt) (kBell (kSaid s d) d.1.1).1).map fun b => ⟨b, 0, none⟩)) rfl rfl <| ag rfl rfl <| nx <| mv rfl rfl <| L_pur rfl (p_neNilPtr Tryz.underlying79 rfl) <| nq ?_
 refine C_split rfl (fun h38 => ?_) (fun h38 => ?_)
 obtain ⟨b, hb⟩ : ∃ b, look (ptrs (kSaid s d).nt) (kBell (kSaid s d) d.1.1).1 = some b := by
  cases hq : look (ptrs (kSaid s d).nt) (kBell (kSaid s d) d.1.1).1 with
  | none => rw [hq] at h38; simp at h38
  | some b => exact ⟨b, rfl⟩
 obtain ⟨⟨w0, xs⟩, hob⟩ := look_got hb
 have hxl : xs.length ≤ N := (hF2.nt _ (mem_look hob)).2
 have hNN := hF.n
 refine sr <| mv rfl rfl <| J_slot (t := 40) (v := .pointer (some ⟨b, 0, none⟩)) rfl (by rw [hb]; rfl) <| mv rfl rfl <| L_op <| xc fc139 (.cons rfl (.cons rfl .nil)) rfl (coNtSignal (s := kSaid s d) (u := (kBell (kSaid s d) d.1.1).1) (z := (kBell (kSaid s d) d.1.1).2) PC hob (by omega)) fun _ => ?_
 refine J_pick (A := coA p _) PC ?_
 refine J_asTo (B := coA p (kRung (kSaid s d) d.1.1)) (by rfl) <| mv rfl rfl <| L_pur rfl (p_extract rfl rfl) <| L_pur rfl (p_extract rfl rfl) <| L_pur rfl (p_extract rfl rfl) <| L_op <| x_alloc ty39 rfl fun b8 => L_op <| x_store rfl rfl ty39 rfl SM SM RO PT ?_
 refine ag rfl rfl <| ag rfl rfl <| nx <| mv rfl rfl <| nq ?_
 refine C_split rfl (fun h46 => ?_) (fun h46 => ?_)
 refine J_region <| mv rfl rfl <| L_val rfl (v_loadA rfl ty39 HS CT) ?_
 refine mv rfl rfl <| L_op <| xc fc54 (.cons rfl (.cons rfl (.cons rfl (.cons rfl .nil)))) rfl (hD _ _ _ p (kRung (kSaid s d) d.1.1) (sigI w0 xs (kBell (kSaid s d) d.1.1).2) 0 (sigV w0 xs (kBell (kSaid s d) d.1.1).2) PC (by show (kSaid s d).rt.length ≤ n; rw [kSaid_rt]; exact hn) (hF2.sig _ _)) fun _ => ?_
 refine L_nil <| J_endnormal <| J_pick (A := coA p _) PC ?_
 refine J_asTo (B := coA p (kTell (kDec n) s d)) (by unfold kTell; rw [hob]; simp only [h46, if_true]) ?_
 exact J_return (()) Tryz.results89 .nil rfl SU
 refine J_skip <| J_endnormal <| J_pick (A := coA p _) PC ?_
 refine J_asTo (B := coA p (kTell (kDec n) s d)) (by unfold kTell; rw [hob]; simp only [h46]; rfl) ?_
 exact J_return (()) Tryz.results89 .nil rfl SU
 have hno : look (kSaid s d).nt (kBell (kSaid s d) d.1.1).1 = none := by
  cases hq : look (kSaid s d).nt (kBell (kSaid s d) d.1.1).1 with
  | none => rfl
  | some y => rw [look_ptrs, hq] at h38; simp at h38
 refine J_skip <| J_endnormal <| J_pick (A := coA p _) PC ?_
 refine J_asTo (B := coA p (kTell (kDec n) s d)) (by unfold kTell; rw [hno]) ?_
 exact J_return (()) Tryz.results89 .nil rfl SU
theorem coDecStep {E : World} {l m : List As}{p : Nat} {s : KS} (hp : Pick (coA p s) l m) {n N M : Nat} (hD : ∀ k, n = k + 1 → DecC k N M) {i : ID} {r v : Int} (hn : s.rt.length ≤ n) (hF : Fits s N M) :
  Con Tryz.prog 54 #[.pointer (some ⟨p, 0, none⟩), .agg (encI i).toArray, .int .i64 r, .int .u32 v] E l (fun _ : Unit => .bool (look s.rt i).isSome) (fun _ => coA p (kDec n s i r v) :: m) := by
 rcases hq : look s.rt i with _ | q
 ·
  refine Con.body (vs := [.pointer (some ⟨p, 0, none⟩), .agg (encI i).toArray, .int .i64 r, .int .u32 v]) (n := 61) Tryz.func54 rfl rfl [(0, .pointer (some ⟨p, 0, none⟩)), (1, .agg (encI i).toArray), (2, .int .i64 r), (3, .int .u32 v)] (env_ok 4 rfl) <| J_pick hp <| sr <| L_op <| x_box rfl rfl rfl fun b5 => ag rfl rfl <| nq <| J_seq ?_
  refine J_drawL none mixed <| ip 0 rfl rfl rfl rfl (p_move rfl) <| iv 2 rfl rfl rfl rfl (fun _ => v_loadA rfl ty39 HS CT) ?_
  refine I_ready (rs := [1, 7]) SI (by kernel_rfl) (by simp) ?_
  refine (I_cons rfl ?_ (I_cons rfl ?_ I_nil))
  refine xc fc22 (.cons rfl .nil) rfl (coReqs) fun _ => I_ready (rs := [3, 7]) SI (by kernel_rfl) (by simp) ?_
  refine (I_cons rfl ?_ (I_cons rfl ?_ I_nil))
  refine xc fc51 (.cons rfl (.cons rfl .nil)) rfl (coRqGet (s := s) (i := i) PC) fun _ => ?_
  refine ip 4 rfl rfl rfl rfl (p_move rfl) <| ip 5 rfl rfl rfl rfl (p_extract rfl rfl) <| ip 6 rfl rfl rfl rfl (p_extract rfl rfl) <| J_bool (t := 19) (c := false) rfl (by rw [hq]; rfl) <| i1 7 rfl <| x_alloc ty104 rfl fun b9 => i1 8 rfl <| x_store rfl rfl ty104 rfl SM SM RO PT ?_
  refine ip 9 rfl rfl rfl rfl (p_assign rfl) <| i0 <| Q_then <| J_seq <| sr <| mv rfl rfl <| L_pur rfl (p_not rfl) <| nq ?_
  refine J_bool (t := 21) (c := true) rfl (rfl) <| C_true rfl <| sr <| ag rfl rfl <| nq <| J_ret <| Q_then_ret <| J_pick (A := coA p _) PC ?_
  refine J_asTo (B := coA p (kDec n s i r v)) (by rw [kDec_none hq]) ?_
  exact J_return (()) Tryz.results54 (.tmp rfl .nil) rfl SU
  refine x_alloc ty104 rfl fun b9 => i1 3 rfl <| xc fc51 (.cons rfl (.cons rfl .nil)) rfl (coRqGet (s := s) (i := i) PC) fun _ => ?_
  refine ip 4 rfl rfl rfl rfl (p_move rfl) <| ip 5 rfl rfl rfl rfl (p_extract rfl rfl) <| ip 6 rfl rfl rfl rfl (p_extract rfl rfl) <| J_bool (t := 19) (c := false) rfl (by rw [hq]; rfl) <| i1 8 rfl <| x_store rfl rfl ty104 rfl SM SM RO PT ?_
  refine ip 9 rfl rfl rfl rfl (p_assign rfl) <| i0 <| Q_then <| J_seq <| sr <| mv rfl rfl <| L_pur rfl (p_not rfl) <| nq ?_
  refine J_bool (t := 21) (c := true) rfl (rfl) <| C_true rfl <| sr <| ag rfl rfl <| nq <| J_ret <| Q_then_ret <| J_pick (A := coA p _) PC ?_
  refine J_asTo (B := coA p (kDec n s i r v)) (by rw [kDec_none hq]) ?_
  exact J_return (()) Tryz.results54 (.tmp rfl .nil) rfl SU
  refine x_alloc ty104 rfl fun b9 => i1 1 rfl <| xc fc22 (.cons rfl .nil) rfl (coReqs) fun _ => i1 3 rfl <| xc fc51 (.cons rfl (.cons rfl .nil)) rfl (coRqGet (s := s) (i := i) PC) fun _ => ?_
  refine ip 4 rfl rfl rfl rfl (p_move rfl) <| ip 5 rfl rfl rfl rfl (p_extract rfl rfl) <| ip 6 rfl rfl rfl rfl (p_extract rfl rfl) <| J_bool (t := 19) (c := false) rfl (by rw [hq]; rfl) <| i1 8 rfl <| x_store rfl rfl ty104 rfl SM SM RO PT ?_
  refine ip 9 rfl rfl rfl rfl (p_assign rfl) <| i0 <| Q_then <| J_seq <| sr <| mv rfl rfl <| L_pur rfl (p_not rfl) <| nq ?_
  refine J_bool (t := 21) (c := true) rfl (rfl) <| C_true rfl <| sr <| ag rfl rfl <| nq <| J_ret <| Q_then_ret <| J_pick (A := coA p _) PC ?_
  refine J_asTo (B := coA p (kDec n s i r v)) (by rw [kDec_none hq]) ?_
  exact J_return (()) Tryz.results54 (.tmp rfl .nil) rfl SU
 ·
  refine Con.body (vs := [.pointer (some ⟨p, 0, none⟩), .agg (encI i).toArray, .int .i64 r, .int .u32 v]) (n := 61) Tryz.func54 rfl rfl [(0, .pointer (some ⟨p, 0, none⟩)), (1, .agg (encI i).toArray), (2, .int .i64 r), (3, .int .u32 v)] (env_ok 4 rfl) ?_
  have hl := del_less hq
  obtain ⟨k, rfl⟩ : ∃ k, n = k + 1 := ⟨n - 1, by omega⟩
  obtain ⟨M, rfl⟩ : ∃ M', M = M' + 1 := ⟨M - 1, by have := hF.jn; omega⟩
  have hF1 := hF.drop hq
  have hn2 : (kForget { s with rt := del s.rt i } i).rt.length ≤ k := by show (del s.rt i).length ≤ k; omega
  have hF3 := (hF1.forget i).tell (D := kDec k) (fun s i r v h => Fits.dec k h) hF.mm (i, q.e.tag, q.e.op, r, v, false)
  refine J_pick hp <| sr <| L_op <| x_box rfl rfl rfl fun b5 => ag rfl rfl <| nq <| J_seq <| J_drawL none mixed ?_
  refine ip 0 rfl rfl rfl rfl (p_move rfl) <| iv 2 rfl rfl rfl rfl (fun _ => v_loadA rfl ty39 HS CT) ?_
  refine I_ready (rs := [1, 7]) SI (by kernel_rfl) (by simp) ?_
  refine (I_cons rfl ?_ (I_cons rfl ?_ I_nil))
  refine xc fc22 (.cons rfl .nil) rfl (coReqs) fun _ => I_ready (rs := [3, 7]) SI (by kernel_rfl) (by simp) ?_
  refine (I_cons rfl ?_ (I_cons rfl ?_ I_nil))
  refine xc fc51 (.cons rfl (.cons rfl .nil)) rfl (coRqGet (s := s) (i := i) PC) fun _ => ?_
  refine ip 4 rfl rfl rfl rfl (p_move rfl) <| ip 5 rfl rfl rfl rfl (p_extract rfl rfl) <| ip 6 rfl rfl rfl rfl (p_extract rfl rfl) <| i1 7 rfl <| x_alloc ty104 rfl fun b9 => i1 8 rfl <| x_store rfl rfl ty104 rfl SM SM RO PT ?_
  refine ip 9 rfl rfl rfl rfl (p_assign rfl) <| i0 <| Q_then <| J_seq <| sr <| mv rfl rfl <| L_pur rfl (p_not rfl) <| nq ?_
  refine J_bool (t := 21) (c := false) rfl (by rw [hq]; rfl) <| C_false rfl <| J_skip <| Q_then <| J_seq <| J_drawL (some 3) mixed <| ip 0 rfl rfl rfl rfl (p_move rfl) <| iv 2 rfl rfl rfl rfl (fun _ => v_loadA rfl ty39 HS CT) ?_
  refine i1 1 rfl <| xc fc22 (.cons rfl .nil) rfl (coReqs) fun _ => i1 3 rfl <| xc fc87 (.cons rfl (.cons rfl .nil)) rfl (coRqDrop (s := s) (i := i) PC) fun _ => ?_
  refine i0 <| qx <| mv rfl rfl <| L_val rfl (v_loadA rfl ty39 HS CT) ?_
  refine L_op <| xc fc88 (.cons rfl (.cons rfl .nil)) rfl (coForget (s := { s with rt := del s.rt i }) (i := i) PC hF1) fun _ => ?_
  refine nx <| mv rfl rfl <| L_val rfl (v_loadA rfl ty39 HS CT) ?_
  refine fa rfl rfl fa104_1 <| fa rfl rfl fa31_2 <| L_val rfl (v_load rfl ty22 HS (by exact rfl)) ?_
  refine fa rfl rfl fa104_1 <| fa rfl rfl fa31_0 <| L_val rfl (v_load rfl ty3 HS (by exact rfl)) ?_
  refine mv rfl rfl <| mv rfl rfl <| L_pur rfl (bld41 (.cons rfl (.cons rfl (.cons rfl (.cons rfl (.cons rfl .nil))))) (by repeat constructor)) <| J_slot (t := 39) (v := .agg (encD (i, q.e.tag, q.e.op, r, v, false)).toArray) rfl (by rw [hq]; rfl) <| L_op <| xc fc89 (.cons rfl (.cons rfl .nil)) rfl (coTell (s := (kForget { s with rt := del s.rt i } i)) (d := (i, q.e.tag, q.e.op, r, v, false)) PC (hD k rfl) hn2 (hF1.forget i) hF.mm) fun _ => ?_
  refine nq <| J_seq <| J_seq <| J_drawL none mixed <| ip 0 rfl rfl rfl rfl (p_move rfl) <| iv 2 rfl rfl rfl rfl (fun _ => v_loadA rfl ty39 HS CT) ?_
  refine I_ready (rs := [1, 7]) SI (by kernel_rfl) (by simp) ?_
  refine (I_cons rfl ?_ (I_cons rfl ?_ I_nil))
  refine xc fc22 (.cons rfl .nil) rfl (coReqs) fun _ => I_ready (rs := [3, 7]) SI (by kernel_rfl) (by simp) ?_
  refine (I_cons rfl ?_ (I_cons rfl ?_ I_nil))
  refine xc fc90 (.cons rfl (.cons rfl .nil)) rfl (coRqAfter (s := (kTell (kDec k) (kForget { s with rt := del s.rt i } i) (i, q.e.tag, q.e.op, r, v, false))) (i := i) PC hF3.1.ids (by have := hF3.1.jn; have := hF3.1.mm; omega)) fun _ => ?_
  refine ip 4 rfl rfl rfl rfl (p_move rfl) <| ip 5 rfl rfl rfl rfl (p_extract rfl rfl) <| ip 6 rfl rfl rfl rfl (p_extract rfl rfl) <| i1 7 rfl <| x_alloc ty104 rfl fun b11 => i1 8 rfl <| x_store rfl rfl ty104 rfl SM SM RO PT ?_
  refine ip 9 rfl rfl rfl rfl (p_assign rfl) <| i0 <| qx <| mv rfl rfl <| mv rfl rfl ?_
  refine J_gsplit (t := 49) rfl (fun h49 => ?_) (fun h49 => ?_)
  obtain ⟨x, haf⟩ : ∃ x, afterQ (kTell (kDec k) (kForget { s with rt := del s.rt i } i) (i, q.e.tag, q.e.op, r, v, false)).rt i = some x := by
   cases hz : afterQ (kTell (kDec k) (kForget { s with rt := del s.rt i } i) (i, q.e.tag, q.e.op, r, v, false)).rt i with
   | none => rw [hz] at h49; simp at h49
   | some x => exact ⟨x, rfl⟩
  refine J_pick (A := blk b11 _ _) PC ?_
  refine J_asTo (B := blk b11 104 (encQ x)) (by rw [haf]; rfl) <| L_op <| G_on rfl rfl rfl <| J_pur (p_fieldAddr rfl fa104_3) rfl rfl rfl <| L_op <| G_on rfl rfl rfl <| J_val (v_load rfl ty4 HS (by exact rfl)) rfl rfl rfl ?_
  refine L_pur rfl (p_pick_t rfl rfl) <| mv rfl rfl ?_
  refine J_gsplit (t := 53) rfl (fun h53 => ?_) (fun h53 => ?_)
  refine L_op <| G_on rfl rfl rfl <| J_pur (p_move rfl) rfl rfl rfl <| L_op <| G_on rfl rfl rfl <| J_pur (p_lss rfl rfl) rfl rfl rfl <| L_pur rfl (p_pick_t rfl rfl) <| nq ?_
  refine C_dec rfl (fun h56 => ?_) (fun h56 => ?_)
  refine J_region <| mv rfl rfl <| fa rfl rfl fa104_0 <| L_val rfl (v_loadA rfl ty39 HS CT) ?_
  refine L_op <| xc fc54 (.cons rfl (.cons rfl (.cons rfl (.cons rfl .nil)))) rfl (hD k rfl _ _ _ p (kTell (kDec k) (kForget { s with rt := del s.rt i } i) (i, q.e.tag, q.e.op, r, v, false)) x.id (-9) 0 PC (Nat.le_trans hF3.2 hn2) hF3.1) fun _ => ?_
  refine nx <| ag rfl rfl <| nq <| J_ret <| J_pick (A := coA p _) PC ?_
  refine J_asTo (B := coA p (kDec (k + 1) s i r v)) (by rw [kDec, hq]; simp only [haf]; rw [if_pos ⟨h53, h56⟩]) ?_
  exact J_return (()) Tryz.results54 (.tmp rfl .nil) rfl SU
  refine J_skip <| qx <| ag rfl rfl <| nq <| J_ret <| J_pick (A := coA p _) PC ?_
  refine J_asTo (B := coA p (kDec (k + 1) s i r v)) (by rw [kDec, hq]; simp only [haf]; rw [if_neg (by intro hc; simp_all)]) ?_
  exact J_return (()) Tryz.results54 (.tmp rfl .nil) rfl SU
  refine L_op <| G_off rfl rfl rfl rfl rfl rfl <| L_op <| G_off rfl rfl rfl rfl rfl rfl <| L_pur rfl (p_pick_f rfl rfl) <| nq <| C_false rfl <| J_skip ?_
  refine qx <| ag rfl rfl <| nq <| J_ret <| J_pick (A := coA p _) PC ?_
  refine J_asTo (B := coA p (kDec (k + 1) s i r v)) (by rw [kDec, hq]; simp only [haf]; rw [if_neg (by intro hc; simp_all)]) ?_
  exact J_return (()) Tryz.results54 (.tmp rfl .nil) rfl SU
  have haf : afterQ (kTell (kDec k) (kForget { s with rt := del s.rt i } i) (i, q.e.tag, q.e.op, r, v, false)).rt i = none := by
   cases hz : afterQ (kTell (kDec k) (kForget { s with rt := del s.rt i } i) (i, q.e.tag, q.e.op, r, v, false)).rt i with
   | none => rfl
   | some x => rw [hz] at h49; simp at h49
  refine L_op <| G_off rfl rfl rfl rfl rfl rfl <| L_op <| G_off rfl rfl rfl rfl rfl rfl <| L_pur rfl (p_pick_f rfl rfl) <| mv rfl rfl <| L_op <| G_off rfl rfl rfl rfl rfl rfl ?_
  refine L_op <| G_off rfl rfl rfl rfl rfl rfl <| L_pur rfl (p_pick_f rfl rfl) <| nq <| C_false rfl <| J_skip <| qx <| ag rfl rfl ?_
  refine nq <| J_ret <| J_pick (A := coA p _) PC ?_
  refine J_asTo (B := coA p (kDec (k + 1) s i r v)) (by rw [kDec, hq]; simp only [haf]) ?_
  exact J_return (()) Tryz.results54 (.tmp rfl .nil) rfl SU
  refine x_alloc ty104 rfl fun b11 => i1 3 rfl <| xc fc90 (.cons rfl (.cons rfl .nil)) rfl (coRqAfter (s := (kTell (kDec k) (kForget { s with rt := del s.rt i } i) (i, q.e.tag, q.e.op, r, v, false))) (i := i) PC hF3.1.ids (by have := hF3.1.jn; have := hF3.1.mm; omega)) fun _ => ?_
  refine ip 4 rfl rfl rfl rfl (p_move rfl) <| ip 5 rfl rfl rfl rfl (p_extract rfl rfl) <| ip 6 rfl rfl rfl rfl (p_extract rfl rfl) <| i1 8 rfl <| x_store rfl rfl ty104 rfl SM SM RO PT ?_
  refine ip 9 rfl rfl rfl rfl (p_assign rfl) <| i0 <| qx <| mv rfl rfl <| mv rfl rfl ?_
  refine J_gsplit (t := 49) rfl (fun h49 => ?_) (fun h49 => ?_)
  obtain ⟨x, haf⟩ : ∃ x, afterQ (kTell (kDec k) (kForget { s with rt := del s.rt i } i) (i, q.e.tag, q.e.op, r, v, false)).rt i = some x := by
   cases hz : afterQ (kTell (kDec k) (kForget { s with rt := del s.rt i } i) (i, q.e.tag, q.e.op, r, v, false)).rt i with
   | none => rw [hz] at h49; simp at h49
   | some x => exact ⟨x, rfl⟩
  refine J_pick (A := blk b11 _ _) PC ?_
  refine J_asTo (B := blk b11 104 (encQ x)) (by rw [haf]; rfl) <| L_op <| G_on rfl rfl rfl <| J_pur (p_fieldAddr rfl fa104_3) rfl rfl rfl <| L_op <| G_on rfl rfl rfl <| J_val (v_load rfl ty4 HS (by exact rfl)) rfl rfl rfl ?_
  refine L_pur rfl (p_pick_t rfl rfl) <| mv rfl rfl ?_
  refine J_gsplit (t := 53) rfl (fun h53 => ?_) (fun h53 => ?_)
  refine L_op <| G_on rfl rfl rfl <| J_pur (p_move rfl) rfl rfl rfl <| L_op <| G_on rfl rfl rfl <| J_pur (p_lss rfl rfl) rfl rfl rfl <| L_pur rfl (p_pick_t rfl rfl) <| nq ?_
  refine C_dec rfl (fun h56 => ?_) (fun h56 => ?_)
  refine J_region <| mv rfl rfl <| fa rfl rfl fa104_0 <| L_val rfl (v_loadA rfl ty39 HS CT) ?_
  refine L_op <| xc fc54 (.cons rfl (.cons rfl (.cons rfl (.cons rfl .nil)))) rfl (hD k rfl _ _ _ p (kTell (kDec k) (kForget { s with rt := del s.rt i } i) (i, q.e.tag, q.e.op, r, v, false)) x.id (-9) 0 PC (Nat.le_trans hF3.2 hn2) hF3.1) fun _ => ?_
  refine nx <| ag rfl rfl <| nq <| J_ret <| J_pick (A := coA p _) PC ?_
  refine J_asTo (B := coA p (kDec (k + 1) s i r v)) (by rw [kDec, hq]; simp only [haf]; rw [if_pos ⟨h53, h56⟩]) ?_
  exact J_return (()) Tryz.results54 (.tmp rfl .nil) rfl SU
  refine J_skip <| qx <| ag rfl rfl <| nq <| J_ret <| J_pick (A := coA p _) PC ?_
  refine J_asTo (B := coA p (kDec (k + 1) s i r v)) (by rw [kDec, hq]; simp only [haf]; rw [if_neg (by intro hc; simp_all)]) ?_
  exact J_return (()) Tryz.results54 (.tmp rfl .nil) rfl SU
  refine L_op <| G_off rfl rfl rfl rfl rfl rfl <| L_op <| G_off rfl rfl rfl rfl rfl rfl <| L_pur rfl (p_pick_f rfl rfl) <| nq <| C_false rfl <| J_skip ?_
  refine qx <| ag rfl rfl <| nq <| J_ret <| J_pick (A := coA p _) PC ?_
  refine J_asTo (B := coA p (kDec (k + 1) s i r v)) (by rw [kDec, hq]; simp only [haf]; rw [if_neg (by intro hc; simp_all)]) ?_
  exact J_return (()) Tryz.results54 (.tmp rfl .nil) rfl SU
  have haf : afterQ (kTell (kDec k) (kForget { s with rt := del s.rt i } i) (i, q.e.tag, q.e.op, r, v, false)).rt i = none := by
   cases hz : afterQ (kTell (kDec k) (kForget { s with rt := del s.rt i } i) (i, q.e.tag, q.e.op, r, v, false)).rt i with
   | none => rfl
   | some x => rw [hz] at h49; simp at h49
  refine L_op <| G_off rfl rfl rfl rfl rfl rfl <| L_op <| G_off rfl rfl rfl rfl rfl rfl <| L_pur rfl (p_pick_f rfl rfl) <| mv rfl rfl <| L_op <| G_off rfl rfl rfl rfl rfl rfl ?_
  refine L_op <| G_off rfl rfl rfl rfl rfl rfl <| L_pur rfl (p_pick_f rfl rfl) <| nq <| C_false rfl <| J_skip <| qx <| ag rfl rfl ?_
  refine nq <| J_ret <| J_pick (A := coA p _) PC ?_
  refine J_asTo (B := coA p (kDec (k + 1) s i r v)) (by rw [kDec, hq]; simp only [haf]) ?_
  exact J_return (()) Tryz.results54 (.tmp rfl .nil) rfl SU
  refine x_alloc ty104 rfl fun b11 => i1 1 rfl <| xc fc22 (.cons rfl .nil) rfl (coReqs) fun _ => i1 3 rfl <| xc fc90 (.cons rfl (.cons rfl .nil)) rfl (coRqAfter (s := (kTell (kDec k) (kForget { s with rt := del s.rt i } i) (i, q.e.tag, q.e.op, r, v, false))) (i := i) PC hF3.1.ids (by have := hF3.1.jn; have := hF3.1.mm; omega)) fun _ => ?_
  refine ip 4 rfl rfl rfl rfl (p_move rfl) <| ip 5 rfl rfl rfl rfl (p_extract rfl rfl) <| ip 6 rfl rfl rfl rfl (p_extract rfl rfl) <| i1 8 rfl <| x_store rfl rfl ty104 rfl SM SM RO PT ?_
  refine ip 9 rfl rfl rfl rfl (p_assign rfl) <| i0 <| qx <| mv rfl rfl <| mv rfl rfl ?_
  refine J_gsplit (t := 49) rfl (fun h49 => ?_) (fun h49 => ?_)
  obtain ⟨x, haf⟩ : ∃ x, afterQ (kTell (kDec k) (kForget { s with rt := del s.rt i } i) (i, q.e.tag, q.e.op, r, v, false)).rt i = some x := by
   cases hz : afterQ (kTell (kDec k) (kForget { s with rt := del s.rt i } i) (i, q.e.tag, q.e.op, r, v, false)).rt i with
   | none => rw [hz] at h49; simp at h49
   | some x => exact ⟨x, rfl⟩
  refine J_pick (A := blk b11 _ _) PC ?_
  refine J_asTo (B := blk b11 104 (encQ x)) (by rw [haf]; rfl) <| L_op <| G_on rfl rfl rfl <| J_pur (p_fieldAddr rfl fa104_3) rfl rfl rfl <| L_op <| G_on rfl rfl rfl <| J_val (v_load rfl ty4 HS (by exact rfl)) rfl rfl rfl ?_
  refine L_pur rfl (p_pick_t rfl rfl) <| mv rfl rfl ?_
  refine J_gsplit (t := 53) rfl (fun h53 => ?_) (fun h53 => ?_)
  refine L_op <| G_on rfl rfl rfl <| J_pur (p_move rfl) rfl rfl rfl <| L_op <| G_on rfl rfl rfl <| J_pur (p_lss rfl rfl) rfl rfl rfl <| L_pur rfl (p_pick_t rfl rfl) <| nq ?_
  refine C_dec rfl (fun h56 => ?_) (fun h56 => ?_)
  refine J_region <| mv rfl rfl <| fa rfl rfl fa104_0 <| L_val rfl (v_loadA rfl ty39 HS CT) ?_
  refine L_op <| xc fc54 (.cons rfl (.cons rfl (.cons rfl (.cons rfl .nil)))) rfl (hD k rfl _ _ _ p (kTell (kDec k) (kForget { s with rt := del s.rt i } i) (i, q.e.tag, q.e.op, r, v, false)) x.id (-9) 0 PC (Nat.le_trans hF3.2 hn2) hF3.1) fun _ => ?_
  refine nx <| ag rfl rfl <| nq <| J_ret <| J_pick (A := coA p _) PC ?_
  refine J_asTo (B := coA p (kDec (k + 1) s i r v)) (by rw [kDec, hq]; simp only [haf]; rw [if_pos ⟨h53, h56⟩]) ?_
  exact J_return (()) Tryz.results54 (.tmp rfl .nil) rfl SU
  refine J_skip <| qx <| ag rfl rfl <| nq <| J_ret <| J_pick (A := coA p _) PC ?_
  refine J_asTo (B := coA p (kDec (k + 1) s i r v)) (by rw [kDec, hq]; simp only [haf]; rw [if_neg (by intro hc; simp_all)]) ?_
  exact J_return (()) Tryz.results54 (.tmp rfl .nil) rfl SU
  refine L_op <| G_off rfl rfl rfl rfl rfl rfl <| L_op <| G_off rfl rfl rfl rfl rfl rfl <| L_pur rfl (p_pick_f rfl rfl) <| nq <| C_false rfl <| J_skip ?_
  refine qx <| ag rfl rfl <| nq <| J_ret <| J_pick (A := coA p _) PC ?_
  refine J_asTo (B := coA p (kDec (k + 1) s i r v)) (by rw [kDec, hq]; simp only [haf]; rw [if_neg (by intro hc; simp_all)]) ?_
  exact J_return (()) Tryz.results54 (.tmp rfl .nil) rfl SU
  have haf : afterQ (kTell (kDec k) (kForget { s with rt := del s.rt i } i) (i, q.e.tag, q.e.op, r, v, false)).rt i = none := by
   cases hz : afterQ (kTell (kDec k) (kForget { s with rt := del s.rt i } i) (i, q.e.tag, q.e.op, r, v, false)).rt i with
   | none => rfl
   | some x => rw [hz] at h49; simp at h49
  refine L_op <| G_off rfl rfl rfl rfl rfl rfl <| L_op <| G_off rfl rfl rfl rfl rfl rfl <| L_pur rfl (p_pick_f rfl rfl) <| mv rfl rfl <| L_op <| G_off rfl rfl rfl rfl rfl rfl ?_
  refine L_op <| G_off rfl rfl rfl rfl rfl rfl <| L_pur rfl (p_pick_f rfl rfl) <| nq <| C_false rfl <| J_skip <| qx <| ag rfl rfl ?_
  refine nq <| J_ret <| J_pick (A := coA p _) PC ?_
  refine J_asTo (B := coA p (kDec (k + 1) s i r v)) (by rw [kDec, hq]; simp only [haf]) ?_
  exact J_return (()) Tryz.results54 (.tmp rfl .nil) rfl SU
  refine x_alloc ty104 rfl fun b9 => i1 3 rfl <| xc fc51 (.cons rfl (.cons rfl .nil)) rfl (coRqGet (s := s) (i := i) PC) fun _ => ?_
  refine ip 4 rfl rfl rfl rfl (p_move rfl) <| ip 5 rfl rfl rfl rfl (p_extract rfl rfl) <| ip 6 rfl rfl rfl rfl (p_extract rfl rfl) <| i1 8 rfl <| x_store rfl rfl ty104 rfl SM SM RO PT ?_
  refine ip 9 rfl rfl rfl rfl (p_assign rfl) <| i0 <| Q_then <| J_seq <| sr <| mv rfl rfl <| L_pur rfl (p_not rfl) <| nq ?_
  refine J_bool (t := 21) (c := false) rfl (by rw [hq]; rfl) <| C_false rfl <| J_skip <| Q_then <| J_seq <| J_drawL (some 3) mixed <| ip 0 rfl rfl rfl rfl (p_move rfl) <| iv 2 rfl rfl rfl rfl (fun _ => v_loadA rfl ty39 HS CT) ?_
  refine i1 1 rfl <| xc fc22 (.cons rfl .nil) rfl (coReqs) fun _ => i1 3 rfl <| xc fc87 (.cons rfl (.cons rfl .nil)) rfl (coRqDrop (s := s) (i := i) PC) fun _ => ?_
  refine i0 <| qx <| mv rfl rfl <| L_val rfl (v_loadA rfl ty39 HS CT) ?_
  refine L_op <| xc fc88 (.cons rfl (.cons rfl .nil)) rfl (coForget (s := { s with rt := del s.rt i }) (i := i) PC hF1) fun _ => ?_
  refine nx <| mv rfl rfl <| L_val rfl (v_loadA rfl ty39 HS CT) ?_
  refine fa rfl rfl fa104_1 <| fa rfl rfl fa31_2 <| L_val rfl (v_load rfl ty22 HS (by exact rfl)) ?_
  refine fa rfl rfl fa104_1 <| fa rfl rfl fa31_0 <| L_val rfl (v_load rfl ty3 HS (by exact rfl)) ?_
  refine mv rfl rfl <| mv rfl rfl <| L_pur rfl (bld41 (.cons rfl (.cons rfl (.cons rfl (.cons rfl (.cons rfl .nil))))) (by repeat constructor)) <| J_slot (t := 39) (v := .agg (encD (i, q.e.tag, q.e.op, r, v, false)).toArray) rfl (by rw [hq]; rfl) <| L_op <| xc fc89 (.cons rfl (.cons rfl .nil)) rfl (coTell (s := (kForget { s with rt := del s.rt i } i)) (d := (i, q.e.tag, q.e.op, r, v, false)) PC (hD k rfl) hn2 (hF1.forget i) hF.mm) fun _ => ?_
  refine nq <| J_seq <| J_seq <| J_drawL none mixed <| ip 0 rfl rfl rfl rfl (p_move rfl) <| iv 2 rfl rfl rfl rfl (fun _ => v_loadA rfl ty39 HS CT) ?_
  refine I_ready (rs := [1, 7]) SI (by kernel_rfl) (by simp) ?_
  refine (I_cons rfl ?_ (I_cons rfl ?_ I_nil))
  refine xc fc22 (.cons rfl .nil) rfl (coReqs) fun _ => I_ready (rs := [3, 7]) SI (by kernel_rfl) (by simp) ?_
  refine (I_cons rfl ?_ (I_cons rfl ?_ I_nil))
  refine xc fc90 (.cons rfl (.cons rfl .nil)) rfl (coRqAfter (s := (kTell (kDec k) (kForget { s with rt := del s.rt i } i) (i, q.e.tag, q.e.op, r, v, false))) (i := i) PC hF3.1.ids (by have := hF3.1.jn; have := hF3.1.mm; omega)) fun _ => ?_
  refine ip 4 rfl rfl rfl rfl (p_move rfl) <| ip 5 rfl rfl rfl rfl (p_extract rfl rfl) <| ip 6 rfl rfl rfl rfl (p_extract rfl rfl) <| i1 7 rfl <| x_alloc ty104 rfl fun b11 => i1 8 rfl <| x_store rfl rfl ty104 rfl SM SM RO PT ?_
  refine ip 9 rfl rfl rfl rfl (p_assign rfl) <| i0 <| qx <| mv rfl rfl <| mv rfl rfl ?_
  refine J_gsplit (t := 49) rfl (fun h49 => ?_) (fun h49 => ?_)
  obtain ⟨x, haf⟩ : ∃ x, afterQ (kTell (kDec k) (kForget { s with rt := del s.rt i } i) (i, q.e.tag, q.e.op, r, v, false)).rt i = some x := by
   cases hz : afterQ (kTell (kDec k) (kForget { s with rt := del s.rt i } i) (i, q.e.tag, q.e.op, r, v, false)).rt i with
   | none => rw [hz] at h49; simp at h49
   | some x => exact ⟨x, rfl⟩
  refine J_pick (A := blk b11 _ _) PC ?_
  refine J_asTo (B := blk b11 104 (encQ x)) (by rw [haf]; rfl) <| L_op <| G_on rfl rfl rfl <| J_pur (p_fieldAddr rfl fa104_3) rfl rfl rfl <| L_op <| G_on rfl rfl rfl <| J_val (v_load rfl ty4 HS (by exact rfl)) rfl rfl rfl ?_
  refine L_pur rfl (p_pick_t rfl rfl) <| mv rfl rfl ?_
  refine J_gsplit (t := 53) rfl (fun h53 => ?_) (fun h53 => ?_)
  refine L_op <| G_on rfl rfl rfl <| J_pur (p_move rfl) rfl rfl rfl <| L_op <| G_on rfl rfl rfl <| J_pur (p_lss rfl rfl) rfl rfl rfl <| L_pur rfl (p_pick_t rfl rfl) <| nq ?_
  refine C_dec rfl (fun h56 => ?_) (fun h56 => ?_)
  refine J_region <| mv rfl rfl <| fa rfl rfl fa104_0 <| L_val rfl (v_loadA rfl ty39 HS CT) ?_
  refine L_op <| xc fc54 (.cons rfl (.cons rfl (.cons rfl (.cons rfl .nil)))) rfl (hD k rfl _ _ _ p (kTell (kDec k) (kForget { s with rt := del s.rt i } i) (i, q.e.tag, q.e.op, r, v, false)) x.id (-9) 0 PC (Nat.le_trans hF3.2 hn2) hF3.1) fun _ => ?_
  refine nx <| ag rfl rfl <| nq <| J_ret <| J_pick (A := coA p _) PC ?_
  refine J_asTo (B := coA p (kDec (k + 1) s i r v)) (by rw [kDec, hq]; simp only [haf]; rw [if_pos ⟨h53, h56⟩]) ?_
  exact J_return (()) Tryz.results54 (.tmp rfl .nil) rfl SU
  refine J_skip <| qx <| ag rfl rfl <| nq <| J_ret <| J_pick (A := coA p _) PC ?_
  refine J_asTo (B := coA p (kDec (k + 1) s i r v)) (by rw [kDec, hq]; simp only [haf]; rw [if_neg (by intro hc; simp_all)]) ?_
  exact J_return (()) Tryz.results54 (.tmp rfl .nil) rfl SU
  refine L_op <| G_off rfl rfl rfl rfl rfl rfl <| L_op <| G_off rfl rfl rfl rfl rfl rfl <| L_pur rfl (p_pick_f rfl rfl) <| nq <| C_false rfl <| J_skip ?_
  refine qx <| ag rfl rfl <| nq <| J_ret <| J_pick (A := coA p _) PC ?_
  refine J_asTo (B := coA p (kDec (k + 1) s i r v)) (by rw [kDec, hq]; simp only [haf]; rw [if_neg (by intro hc; simp_all)]) ?_
  exact J_return (()) Tryz.results54 (.tmp rfl .nil) rfl SU
  have haf : afterQ (kTell (kDec k) (kForget { s with rt := del s.rt i } i) (i, q.e.tag, q.e.op, r, v, false)).rt i = none := by
   cases hz : afterQ (kTell (kDec k) (kForget { s with rt := del s.rt i } i) (i, q.e.tag, q.e.op, r, v, false)).rt i with
   | none => rfl
   | some x => rw [hz] at h49; simp at h49
  refine L_op <| G_off rfl rfl rfl rfl rfl rfl <| L_op <| G_off rfl rfl rfl rfl rfl rfl <| L_pur rfl (p_pick_f rfl rfl) <| mv rfl rfl <| L_op <| G_off rfl rfl rfl rfl rfl rfl ?_
  refine L_op <| G_off rfl rfl rfl rfl rfl rfl <| L_pur rfl (p_pick_f rfl rfl) <| nq <| C_false rfl <| J_skip <| qx <| ag rfl rfl ?_
  refine nq <| J_ret <| J_pick (A := coA p _) PC ?_
  refine J_asTo (B := coA p (kDec (k + 1) s i r v)) (by rw [kDec, hq]; simp only [haf]) ?_
  exact J_return (()) Tryz.results54 (.tmp rfl .nil) rfl SU
  refine x_alloc ty104 rfl fun b11 => i1 3 rfl <| xc fc90 (.cons rfl (.cons rfl .nil)) rfl (coRqAfter (s := (kTell (kDec k) (kForget { s with rt := del s.rt i } i) (i, q.e.tag, q.e.op, r, v, false))) (i := i) PC hF3.1.ids (by have := hF3.1.jn; have := hF3.1.mm; omega)) fun _ => ?_
  refine ip 4 rfl rfl rfl rfl (p_move rfl) <| ip 5 rfl rfl rfl rfl (p_extract rfl rfl) <| ip 6 rfl rfl rfl rfl (p_extract rfl rfl) <| i1 8 rfl <| x_store rfl rfl ty104 rfl SM SM RO PT ?_
  refine ip 9 rfl rfl rfl rfl (p_assign rfl) <| i0 <| qx <| mv rfl rfl <| mv rfl rfl ?_
  refine J_gsplit (t := 49) rfl (fun h49 => ?_) (fun h49 => ?_)
  obtain ⟨x, haf⟩ : ∃ x, afterQ (kTell (kDec k) (kForget { s with rt := del s.rt i } i) (i, q.e.tag, q.e.op, r, v, false)).rt i = some x := by
   cases hz : afterQ (kTell (kDec k) (kForget { s with rt := del s.rt i } i) (i, q.e.tag, q.e.op, r, v, false)).rt i with
   | none => rw [hz] at h49; simp at h49
   | some x => exact ⟨x, rfl⟩
  refine J_pick (A := blk b11 _ _) PC ?_
  refine J_asTo (B := blk b11 104 (encQ x)) (by rw [haf]; rfl) <| L_op <| G_on rfl rfl rfl <| J_pur (p_fieldAddr rfl fa104_3) rfl rfl rfl <| L_op <| G_on rfl rfl rfl <| J_val (v_load rfl ty4 HS (by exact rfl)) rfl rfl rfl ?_
  refine L_pur rfl (p_pick_t rfl rfl) <| mv rfl rfl ?_
  refine J_gsplit (t := 53) rfl (fun h53 => ?_) (fun h53 => ?_)
  refine L_op <| G_on rfl rfl rfl <| J_pur (p_move rfl) rfl rfl rfl <| L_op <| G_on rfl rfl rfl <| J_pur (p_lss rfl rfl) rfl rfl rfl <| L_pur rfl (p_pick_t rfl rfl) <| nq ?_
  refine C_dec rfl (fun h56 => ?_) (fun h56 => ?_)
  refine J_region <| mv rfl rfl <| fa rfl rfl fa104_0 <| L_val rfl (v_loadA rfl ty39 HS CT) ?_
  refine L_op <| xc fc54 (.cons rfl (.cons rfl (.cons rfl (.cons rfl .nil)))) rfl (hD k rfl _ _ _ p (kTell (kDec k) (kForget { s with rt := del s.rt i } i) (i, q.e.tag, q.e.op, r, v, false)) x.id (-9) 0 PC (Nat.le_trans hF3.2 hn2) hF3.1) fun _ => ?_
  refine nx <| ag rfl rfl <| nq <| J_ret <| J_pick (A := coA p _) PC ?_
  refine J_asTo (B := coA p (kDec (k + 1) s i r v)) (by rw [kDec, hq]; simp only [haf]; rw [if_pos ⟨h53, h56⟩]) ?_
  exact J_return (()) Tryz.results54 (.tmp rfl .nil) rfl SU
  refine J_skip <| qx <| ag rfl rfl <| nq <| J_ret <| J_pick (A := coA p _) PC ?_
  refine J_asTo (B := coA p (kDec (k + 1) s i r v)) (by rw [kDec, hq]; simp only [haf]; rw [if_neg (by intro hc; simp_all)]) ?_
  exact J_return (()) Tryz.results54 (.tmp rfl .nil) rfl SU
  refine L_op <| G_off rfl rfl rfl rfl rfl rfl <| L_op <| G_off rfl rfl rfl rfl rfl rfl <| L_pur rfl (p_pick_f rfl rfl) <| nq <| C_false rfl <| J_skip ?_
  refine qx <| ag rfl rfl <| nq <| J_ret <| J_pick (A := coA p _) PC ?_
  refine J_asTo (B := coA p (kDec (k + 1) s i r v)) (by rw [kDec, hq]; simp only [haf]; rw [if_neg (by intro hc; simp_all)]) ?_
  exact J_return (()) Tryz.results54 (.tmp rfl .nil) rfl SU
  have haf : afterQ (kTell (kDec k) (kForget { s with rt := del s.rt i } i) (i, q.e.tag, q.e.op, r, v, false)).rt i = none := by
   cases hz : afterQ (kTell (kDec k) (kForget { s with rt := del s.rt i } i) (i, q.e.tag, q.e.op, r, v, false)).rt i with
   | none => rfl
   | some x => rw [hz] at h49; simp at h49
  refine L_op <| G_off rfl rfl rfl rfl rfl rfl <| L_op <| G_off rfl rfl rfl rfl rfl rfl <| L_pur rfl (p_pick_f rfl rfl) <| mv rfl rfl <| L_op <| G_off rfl rfl rfl rfl rfl rfl ?_
  refine L_op <| G_off rfl rfl rfl rfl rfl rfl <| L_pur rfl (p_pick_f rfl rfl) <| nq <| C_false rfl <| J_skip <| qx <| ag rfl rfl ?_
  refine nq <| J_ret <| J_pick (A := coA p _) PC ?_
  refine J_asTo (B := coA p (kDec (k + 1) s i r v)) (by rw [kDec, hq]; simp only [haf]) ?_
  exact J_return (()) Tryz.results54 (.tmp rfl .nil) rfl SU
  refine x_alloc ty104 rfl fun b11 => i1 1 rfl <| xc fc22 (.cons rfl .nil) rfl (coReqs) fun _ => i1 3 rfl <| xc fc90 (.cons rfl (.cons rfl .nil)) rfl (coRqAfter (s := (kTell (kDec k) (kForget { s with rt := del s.rt i } i) (i, q.e.tag, q.e.op, r, v, false))) (i := i) PC hF3.1.ids (by have := hF3.1.jn; have := hF3.1.mm; omega)) fun _ => ?_
  refine ip 4 rfl rfl rfl rfl (p_move rfl) <| ip 5 rfl rfl rfl rfl (p_extract rfl rfl) <| ip 6 rfl rfl rfl rfl (p_extract rfl rfl) <| i1 8 rfl <| x_store rfl rfl ty104 rfl SM SM RO PT ?_
  refine ip 9 rfl rfl rfl rfl (p_assign rfl) <| i0 <| qx <| mv rfl rfl <| mv rfl rfl ?_
  refine J_gsplit (t := 49) rfl (fun h49 => ?_) (fun h49 => ?_)
  obtain ⟨x, haf⟩ : ∃ x, afterQ (kTell (kDec k) (kForget { s with rt := del s.rt i } i) (i, q.e.tag, q.e.op, r, v, false)).rt i = some x := by
   cases hz : afterQ (kTell (kDec k) (kForget { s with rt := del s.rt i } i) (i, q.e.tag, q.e.op, r, v, false)).rt i with
   | none => rw [hz] at h49; simp at h49
   | some x => exact ⟨x, rfl⟩
  refine J_pick (A := blk b11 _ _) PC ?_
  refine J_asTo (B := blk b11 104 (encQ x)) (by rw [haf]; rfl) <| L_op <| G_on rfl rfl rfl <| J_pur (p_fieldAddr rfl fa104_3) rfl rfl rfl <| L_op <| G_on rfl rfl rfl <| J_val (v_load rfl ty4 HS (by exact rfl)) rfl rfl rfl ?_
  refine L_pur rfl (p_pick_t rfl rfl) <| mv rfl rfl ?_
  refine J_gsplit (t := 53) rfl (fun h53 => ?_) (fun h53 => ?_)
  refine L_op <| G_on rfl rfl rfl <| J_pur (p_move rfl) rfl rfl rfl <| L_op <| G_on rfl rfl rfl <| J_pur (p_lss rfl rfl) rfl rfl rfl <| L_pur rfl (p_pick_t rfl rfl) <| nq ?_
  refine C_dec rfl (fun h56 => ?_) (fun h56 => ?_)
  refine J_region <| mv rfl rfl <| fa rfl rfl fa104_0 <| L_val rfl (v_loadA rfl ty39 HS CT) ?_
  refine L_op <| xc fc54 (.cons rfl (.cons rfl (.cons rfl (.cons rfl .nil)))) rfl (hD k rfl _ _ _ p (kTell (kDec k) (kForget { s with rt := del s.rt i } i) (i, q.e.tag, q.e.op, r, v, false)) x.id (-9) 0 PC (Nat.le_trans hF3.2 hn2) hF3.1) fun _ => ?_
  refine nx <| ag rfl rfl <| nq <| J_ret <| J_pick (A := coA p _) PC ?_
  refine J_asTo (B := coA p (kDec (k + 1) s i r v)) (by rw [kDec, hq]; simp only [haf]; rw [if_pos ⟨h53, h56⟩]) ?_
  exact J_return (()) Tryz.results54 (.tmp rfl .nil) rfl SU
  refine J_skip <| qx <| ag rfl rfl <| nq <| J_ret <| J_pick (A := coA p _) PC ?_
  refine J_asTo (B := coA p (kDec (k + 1) s i r v)) (by rw [kDec, hq]; simp only [haf]; rw [if_neg (by intro hc; simp_all)]) ?_
  exact J_return (()) Tryz.results54 (.tmp rfl .nil) rfl SU
  refine L_op <| G_off rfl rfl rfl rfl rfl rfl <| L_op <| G_off rfl rfl rfl rfl rfl rfl <| L_pur rfl (p_pick_f rfl rfl) <| nq <| C_false rfl <| J_skip ?_
  refine qx <| ag rfl rfl <| nq <| J_ret <| J_pick (A := coA p _) PC ?_
  refine J_asTo (B := coA p (kDec (k + 1) s i r v)) (by rw [kDec, hq]; simp only [haf]; rw [if_neg (by intro hc; simp_all)]) ?_
  exact J_return (()) Tryz.results54 (.tmp rfl .nil) rfl SU
  have haf : afterQ (kTell (kDec k) (kForget { s with rt := del s.rt i } i) (i, q.e.tag, q.e.op, r, v, false)).rt i = none := by
   cases hz : afterQ (kTell (kDec k) (kForget { s with rt := del s.rt i } i) (i, q.e.tag, q.e.op, r, v, false)).rt i with
   | none => rfl
   | some x => rw [hz] at h49; simp at h49
  refine L_op <| G_off rfl rfl rfl rfl rfl rfl <| L_op <| G_off rfl rfl rfl rfl rfl rfl <| L_pur rfl (p_pick_f rfl rfl) <| mv rfl rfl <| L_op <| G_off rfl rfl rfl rfl rfl rfl ?_
  refine L_op <| G_off rfl rfl rfl rfl rfl rfl <| L_pur rfl (p_pick_f rfl rfl) <| nq <| C_false rfl <| J_skip <| qx <| ag rfl rfl ?_
  refine nq <| J_ret <| J_pick (A := coA p _) PC ?_
  refine J_asTo (B := coA p (kDec (k + 1) s i r v)) (by rw [kDec, hq]; simp only [haf]) ?_
  exact J_return (()) Tryz.results54 (.tmp rfl .nil) rfl SU
  refine x_alloc ty104 rfl fun b9 => i1 1 rfl <| xc fc22 (.cons rfl .nil) rfl (coReqs) fun _ => i1 3 rfl <| xc fc51 (.cons rfl (.cons rfl .nil)) rfl (coRqGet (s := s) (i := i) PC) fun _ => ?_
  refine ip 4 rfl rfl rfl rfl (p_move rfl) <| ip 5 rfl rfl rfl rfl (p_extract rfl rfl) <| ip 6 rfl rfl rfl rfl (p_extract rfl rfl) <| i1 8 rfl <| x_store rfl rfl ty104 rfl SM SM RO PT ?_
  refine ip 9 rfl rfl rfl rfl (p_assign rfl) <| i0 <| Q_then <| J_seq <| sr <| mv rfl rfl <| L_pur rfl (p_not rfl) <| nq ?_
  refine J_bool (t := 21) (c := false) rfl (by rw [hq]; rfl) <| C_false rfl <| J_skip <| Q_then <| J_seq <| J_drawL (some 3) mixed <| ip 0 rfl rfl rfl rfl (p_move rfl) <| iv 2 rfl rfl rfl rfl (fun _ => v_loadA rfl ty39 HS CT) ?_
  refine i1 1 rfl <| xc fc22 (.cons rfl .nil) rfl (coReqs) fun _ => i1 3 rfl <| xc fc87 (.cons rfl (.cons rfl .nil)) rfl (coRqDrop (s := s) (i := i) PC) fun _ => ?_
  refine i0 <| qx <| mv rfl rfl <| L_val rfl (v_loadA rfl ty39 HS CT) ?_
  refine L_op <| xc fc88 (.cons rfl (.cons rfl .nil)) rfl (coForget (s := { s with rt := del s.rt i }) (i := i) PC hF1) fun _ => ?_
  refine nx <| mv rfl rfl <| L_val rfl (v_loadA rfl ty39 HS CT) ?_
  refine fa rfl rfl fa104_1 <| fa rfl rfl fa31_2 <| L_val rfl (v_load rfl ty22 HS (by exact rfl)) ?_
  refine fa rfl rfl fa104_1 <| fa rfl rfl fa31_0 <| L_val rfl (v_load rfl ty3 HS (by exact rfl)) ?_
  refine mv rfl rfl <| mv rfl rfl <| L_pur rfl (bld41 (.cons rfl (.cons rfl (.cons rfl (.cons rfl (.cons rfl .nil))))) (by repeat constructor)) <| J_slot (t := 39) (v := .agg (encD (i, q.e.tag, q.e.op, r, v, false)).toArray) rfl (by rw [hq]; rfl) <| L_op <| xc fc89 (.cons rfl (.cons rfl .nil)) rfl (coTell (s := (kForget { s with rt := del s.rt i } i)) (d := (i, q.e.tag, q.e.op, r, v, false)) PC (hD k rfl) hn2 (hF1.forget i) hF.mm) fun _ => ?_
  refine nq <| J_seq <| J_seq <| J_drawL none mixed <| ip 0 rfl rfl rfl rfl (p_move rfl) <| iv 2 rfl rfl rfl rfl (fun _ => v_loadA rfl ty39 HS CT) ?_
  refine I_ready (rs := [1, 7]) SI (by kernel_rfl) (by simp) ?_
  refine (I_cons rfl ?_ (I_cons rfl ?_ I_nil))
  refine xc fc22 (.cons rfl .nil) rfl (coReqs) fun _ => I_ready (rs := [3, 7]) SI (by kernel_rfl) (by simp) ?_
  refine (I_cons rfl ?_ (I_cons rfl ?_ I_nil))
  refine xc fc90 (.cons rfl (.cons rfl .nil)) rfl (coRqAfter (s := (kTell (kDec k) (kForget { s with rt := del s.rt i } i) (i, q.e.tag, q.e.op, r, v, false))) (i := i) PC hF3.1.ids (by have := hF3.1.jn; have := hF3.1.mm; omega)) fun _ => ?_
  refine ip 4 rfl rfl rfl rfl (p_move rfl) <| ip 5 rfl rfl rfl rfl (p_extract rfl rfl) <| ip 6 rfl rfl rfl rfl (p_extract rfl rfl) <| i1 7 rfl <| x_alloc ty104 rfl fun b11 => i1 8 rfl <| x_store rfl rfl ty104 rfl SM SM RO PT ?_
  refine ip 9 rfl rfl rfl rfl (p_assign rfl) <| i0 <| qx <| mv rfl rfl <| mv rfl rfl ?_
  refine J_gsplit (t := 49) rfl (fun h49 => ?_) (fun h49 => ?_)
  obtain ⟨x, haf⟩ : ∃ x, afterQ (kTell (kDec k) (kForget { s with rt := del s.rt i } i) (i, q.e.tag, q.e.op, r, v, false)).rt i = some x := by
   cases hz : afterQ (kTell (kDec k) (kForget { s with rt := del s.rt i } i) (i, q.e.tag, q.e.op, r, v, false)).rt i with
   | none => rw [hz] at h49; simp at h49
   | some x => exact ⟨x, rfl⟩
  refine J_pick (A := blk b11 _ _) PC ?_
  refine J_asTo (B := blk b11 104 (encQ x)) (by rw [haf]; rfl) <| L_op <| G_on rfl rfl rfl <| J_pur (p_fieldAddr rfl fa104_3) rfl rfl rfl <| L_op <| G_on rfl rfl rfl <| J_val (v_load rfl ty4 HS (by exact rfl)) rfl rfl rfl ?_
  refine L_pur rfl (p_pick_t rfl rfl) <| mv rfl rfl ?_
  refine J_gsplit (t := 53) rfl (fun h53 => ?_) (fun h53 => ?_)
  refine L_op <| G_on rfl rfl rfl <| J_pur (p_move rfl) rfl rfl rfl <| L_op <| G_on rfl rfl rfl <| J_pur (p_lss rfl rfl) rfl rfl rfl <| L_pur rfl (p_pick_t rfl rfl) <| nq ?_
  refine C_dec rfl (fun h56 => ?_) (fun h56 => ?_)
  refine J_region <| mv rfl rfl <| fa rfl rfl fa104_0 <| L_val rfl (v_loadA rfl ty39 HS CT) ?_
  refine L_op <| xc fc54 (.cons rfl (.cons rfl (.cons rfl (.cons rfl .nil)))) rfl (hD k rfl _ _ _ p (kTell (kDec k) (kForget { s with rt := del s.rt i } i) (i, q.e.tag, q.e.op, r, v, false)) x.id (-9) 0 PC (Nat.le_trans hF3.2 hn2) hF3.1) fun _ => ?_
  refine nx <| ag rfl rfl <| nq <| J_ret <| J_pick (A := coA p _) PC ?_
  refine J_asTo (B := coA p (kDec (k + 1) s i r v)) (by rw [kDec, hq]; simp only [haf]; rw [if_pos ⟨h53, h56⟩]) ?_
  exact J_return (()) Tryz.results54 (.tmp rfl .nil) rfl SU
  refine J_skip <| qx <| ag rfl rfl <| nq <| J_ret <| J_pick (A := coA p _) PC ?_
  refine J_asTo (B := coA p (kDec (k + 1) s i r v)) (by rw [kDec, hq]; simp only [haf]; rw [if_neg (by intro hc; simp_all)]) ?_
  exact J_return (()) Tryz.results54 (.tmp rfl .nil) rfl SU
  refine L_op <| G_off rfl rfl rfl rfl rfl rfl <| L_op <| G_off rfl rfl rfl rfl rfl rfl <| L_pur rfl (p_pick_f rfl rfl) <| nq <| C_false rfl <| J_skip ?_
  refine qx <| ag rfl rfl <| nq <| J_ret <| J_pick (A := coA p _) PC ?_
  refine J_asTo (B := coA p (kDec (k + 1) s i r v)) (by rw [kDec, hq]; simp only [haf]; rw [if_neg (by intro hc; simp_all)]) ?_
  exact J_return (()) Tryz.results54 (.tmp rfl .nil) rfl SU
  have haf : afterQ (kTell (kDec k) (kForget { s with rt := del s.rt i } i) (i, q.e.tag, q.e.op, r, v, false)).rt i = none := by
   cases hz : afterQ (kTell (kDec k) (kForget { s with rt := del s.rt i } i) (i, q.e.tag, q.e.op, r, v, false)).rt i with
   | none => rfl
   | some x => rw [hz] at h49; simp at h49
  refine L_op <| G_off rfl rfl rfl rfl rfl rfl <| L_op <| G_off rfl rfl rfl rfl rfl rfl <| L_pur rfl (p_pick_f rfl rfl) <| mv rfl rfl <| L_op <| G_off rfl rfl rfl rfl rfl rfl ?_
  refine L_op <| G_off rfl rfl rfl rfl rfl rfl <| L_pur rfl (p_pick_f rfl rfl) <| nq <| C_false rfl <| J_skip <| qx <| ag rfl rfl ?_
  refine nq <| J_ret <| J_pick (A := coA p _) PC ?_
  refine J_asTo (B := coA p (kDec (k + 1) s i r v)) (by rw [kDec, hq]; simp only [haf]) ?_
  exact J_return (()) Tryz.results54 (.tmp rfl .nil) rfl SU
  refine x_alloc ty104 rfl fun b11 => i1 3 rfl <| xc fc90 (.cons rfl (.cons rfl .nil)) rfl (coRqAfter (s := (kTell (kDec k) (kForget { s with rt := del s.rt i } i) (i, q.e.tag, q.e.op, r, v, false))) (i := i) PC hF3.1.ids (by have := hF3.1.jn; have := hF3.1.mm; omega)) fun _ => ?_
  refine ip 4 rfl rfl rfl rfl (p_move rfl) <| ip 5 rfl rfl rfl rfl (p_extract rfl rfl) <| ip 6 rfl rfl rfl rfl (p_extract rfl rfl) <| i1 8 rfl <| x_store rfl rfl ty104 rfl SM SM RO PT ?_
  refine ip 9 rfl rfl rfl rfl (p_assign rfl) <| i0 <| qx <| mv rfl rfl <| mv rfl rfl ?_
  refine J_gsplit (t := 49) rfl (fun h49 => ?_) (fun h49 => ?_)
  obtain ⟨x, haf⟩ : ∃ x, afterQ (kTell (kDec k) (kForget { s with rt := del s.rt i } i) (i, q.e.tag, q.e.op, r, v, false)).rt i = some x := by
   cases hz : afterQ (kTell (kDec k) (kForget { s with rt := del s.rt i } i) (i, q.e.tag, q.e.op, r, v, false)).rt i with
   | none => rw [hz] at h49; simp at h49
   | some x => exact ⟨x, rfl⟩
  refine J_pick (A := blk b11 _ _) PC ?_
  refine J_asTo (B := blk b11 104 (encQ x)) (by rw [haf]; rfl) <| L_op <| G_on rfl rfl rfl <| J_pur (p_fieldAddr rfl fa104_3) rfl rfl rfl <| L_op <| G_on rfl rfl rfl <| J_val (v_load rfl ty4 HS (by exact rfl)) rfl rfl rfl ?_
  refine L_pur rfl (p_pick_t rfl rfl) <| mv rfl rfl ?_
  refine J_gsplit (t := 53) rfl (fun h53 => ?_) (fun h53 => ?_)
  refine L_op <| G_on rfl rfl rfl <| J_pur (p_move rfl) rfl rfl rfl <| L_op <| G_on rfl rfl rfl <| J_pur (p_lss rfl rfl) rfl rfl rfl <| L_pur rfl (p_pick_t rfl rfl) <| nq ?_
  refine C_dec rfl (fun h56 => ?_) (fun h56 => ?_)
  refine J_region <| mv rfl rfl <| fa rfl rfl fa104_0 <| L_val rfl (v_loadA rfl ty39 HS CT) ?_
  refine L_op <| xc fc54 (.cons rfl (.cons rfl (.cons rfl (.cons rfl .nil)))) rfl (hD k rfl _ _ _ p (kTell (kDec k) (kForget { s with rt := del s.rt i } i) (i, q.e.tag, q.e.op, r, v, false)) x.id (-9) 0 PC (Nat.le_trans hF3.2 hn2) hF3.1) fun _ => ?_
  refine nx <| ag rfl rfl <| nq <| J_ret <| J_pick (A := coA p _) PC ?_
  refine J_asTo (B := coA p (kDec (k + 1) s i r v)) (by rw [kDec, hq]; simp only [haf]; rw [if_pos ⟨h53, h56⟩]) ?_
  exact J_return (()) Tryz.results54 (.tmp rfl .nil) rfl SU
  refine J_skip <| qx <| ag rfl rfl <| nq <| J_ret <| J_pick (A := coA p _) PC ?_
  refine J_asTo (B := coA p (kDec (k + 1) s i r v)) (by rw [kDec, hq]; simp only [haf]; rw [if_neg (by intro hc; simp_all)]) ?_
  exact J_return (()) Tryz.results54 (.tmp rfl .nil) rfl SU
  refine L_op <| G_off rfl rfl rfl rfl rfl rfl <| L_op <| G_off rfl rfl rfl rfl rfl rfl <| L_pur rfl (p_pick_f rfl rfl) <| nq <| C_false rfl <| J_skip ?_
  refine qx <| ag rfl rfl <| nq <| J_ret <| J_pick (A := coA p _) PC ?_
  refine J_asTo (B := coA p (kDec (k + 1) s i r v)) (by rw [kDec, hq]; simp only [haf]; rw [if_neg (by intro hc; simp_all)]) ?_
  exact J_return (()) Tryz.results54 (.tmp rfl .nil) rfl SU
  have haf : afterQ (kTell (kDec k) (kForget { s with rt := del s.rt i } i) (i, q.e.tag, q.e.op, r, v, false)).rt i = none := by
   cases hz : afterQ (kTell (kDec k) (kForget { s with rt := del s.rt i } i) (i, q.e.tag, q.e.op, r, v, false)).rt i with
   | none => rfl
   | some x => rw [hz] at h49; simp at h49
  refine L_op <| G_off rfl rfl rfl rfl rfl rfl <| L_op <| G_off rfl rfl rfl rfl rfl rfl <| L_pur rfl (p_pick_f rfl rfl) <| mv rfl rfl <| L_op <| G_off rfl rfl rfl rfl rfl rfl ?_
  refine L_op <| G_off rfl rfl rfl rfl rfl rfl <| L_pur rfl (p_pick_f rfl rfl) <| nq <| C_false rfl <| J_skip <| qx <| ag rfl rfl ?_
  refine nq <| J_ret <| J_pick (A := coA p _) PC ?_
  refine J_asTo (B := coA p (kDec (k + 1) s i r v)) (by rw [kDec, hq]; simp only [haf]) ?_
  exact J_return (()) Tryz.results54 (.tmp rfl .nil) rfl SU
  refine x_alloc ty104 rfl fun b11 => i1 1 rfl <| xc fc22 (.cons rfl .nil) rfl (coReqs) fun _ => i1 3 rfl <| xc fc90 (.cons rfl (.cons rfl .nil)) rfl (coRqAfter (s := (kTell (kDec k) (kForget { s with rt := del s.rt i } i) (i, q.e.tag, q.e.op, r, v, false))) (i := i) PC hF3.1.ids (by have := hF3.1.jn; have := hF3.1.mm; omega)) fun _ => ?_
  refine ip 4 rfl rfl rfl rfl (p_move rfl) <| ip 5 rfl rfl rfl rfl (p_extract rfl rfl) <| ip 6 rfl rfl rfl rfl (p_extract rfl rfl) <| i1 8 rfl <| x_store rfl rfl ty104 rfl SM SM RO PT ?_
  refine ip 9 rfl rfl rfl rfl (p_assign rfl) <| i0 <| qx <| mv rfl rfl <| mv rfl rfl ?_
  refine J_gsplit (t := 49) rfl (fun h49 => ?_) (fun h49 => ?_)
  obtain ⟨x, haf⟩ : ∃ x, afterQ (kTell (kDec k) (kForget { s with rt := del s.rt i } i) (i, q.e.tag, q.e.op, r, v, false)).rt i = some x := by
   cases hz : afterQ (kTell (kDec k) (kForget { s with rt := del s.rt i } i) (i, q.e.tag, q.e.op, r, v, false)).rt i with
   | none => rw [hz] at h49; simp at h49
   | some x => exact ⟨x, rfl⟩
  refine J_pick (A := blk b11 _ _) PC ?_
  refine J_asTo (B := blk b11 104 (encQ x)) (by rw [haf]; rfl) <| L_op <| G_on rfl rfl rfl <| J_pur (p_fieldAddr rfl fa104_3) rfl rfl rfl <| L_op <| G_on rfl rfl rfl <| J_val (v_load rfl ty4 HS (by exact rfl)) rfl rfl rfl ?_
  refine L_pur rfl (p_pick_t rfl rfl) <| mv rfl rfl ?_
  refine J_gsplit (t := 53) rfl (fun h53 => ?_) (fun h53 => ?_)
  refine L_op <| G_on rfl rfl rfl <| J_pur (p_move rfl) rfl rfl rfl <| L_op <| G_on rfl rfl rfl <| J_pur (p_lss rfl rfl) rfl rfl rfl <| L_pur rfl (p_pick_t rfl rfl) <| nq ?_
  refine C_dec rfl (fun h56 => ?_) (fun h56 => ?_)
  refine J_region <| mv rfl rfl <| fa rfl rfl fa104_0 <| L_val rfl (v_loadA rfl ty39 HS CT) ?_
  refine L_op <| xc fc54 (.cons rfl (.cons rfl (.cons rfl (.cons rfl .nil)))) rfl (hD k rfl _ _ _ p (kTell (kDec k) (kForget { s with rt := del s.rt i } i) (i, q.e.tag, q.e.op, r, v, false)) x.id (-9) 0 PC (Nat.le_trans hF3.2 hn2) hF3.1) fun _ => ?_
  refine nx <| ag rfl rfl <| nq <| J_ret <| J_pick (A := coA p _) PC ?_
  refine J_asTo (B := coA p (kDec (k + 1) s i r v)) (by rw [kDec, hq]; simp only [haf]; rw [if_pos ⟨h53, h56⟩]) ?_
  exact J_return (()) Tryz.results54 (.tmp rfl .nil) rfl SU
  refine J_skip <| qx <| ag rfl rfl <| nq <| J_ret <| J_pick (A := coA p _) PC ?_
  refine J_asTo (B := coA p (kDec (k + 1) s i r v)) (by rw [kDec, hq]; simp only [haf]; rw [if_neg (by intro hc; simp_all)]) ?_
  exact J_return (()) Tryz.results54 (.tmp rfl .nil) rfl SU
  refine L_op <| G_off rfl rfl rfl rfl rfl rfl <| L_op <| G_off rfl rfl rfl rfl rfl rfl <| L_pur rfl (p_pick_f rfl rfl) <| nq <| C_false rfl <| J_skip ?_
  refine qx <| ag rfl rfl <| nq <| J_ret <| J_pick (A := coA p _) PC ?_
  refine J_asTo (B := coA p (kDec (k + 1) s i r v)) (by rw [kDec, hq]; simp only [haf]; rw [if_neg (by intro hc; simp_all)]) ?_
  exact J_return (()) Tryz.results54 (.tmp rfl .nil) rfl SU
  have haf : afterQ (kTell (kDec k) (kForget { s with rt := del s.rt i } i) (i, q.e.tag, q.e.op, r, v, false)).rt i = none := by
   cases hz : afterQ (kTell (kDec k) (kForget { s with rt := del s.rt i } i) (i, q.e.tag, q.e.op, r, v, false)).rt i with
   | none => rfl
   | some x => rw [hz] at h49; simp at h49
  refine L_op <| G_off rfl rfl rfl rfl rfl rfl <| L_op <| G_off rfl rfl rfl rfl rfl rfl <| L_pur rfl (p_pick_f rfl rfl) <| mv rfl rfl <| L_op <| G_off rfl rfl rfl rfl rfl rfl ?_
  refine L_op <| G_off rfl rfl rfl rfl rfl rfl <| L_pur rfl (p_pick_f rfl rfl) <| nq <| C_false rfl <| J_skip <| qx <| ag rfl rfl ?_
  refine nq <| J_ret <| J_pick (A := coA p _) PC ?_
  refine J_asTo (B := coA p (kDec (k + 1) s i r v)) (by rw [kDec, hq]; simp only [haf]) ?_
  exact J_return (()) Tryz.results54 (.tmp rfl .nil) rfl SU
theorem decC : ∀ n N M, DecC n N M
  | 0, N, M => fun E l m p s i r v hp hn hF => coDecStep hp (fun k h => by cases h) hn hF
  | n + 1, N, M => fun E l m p s i r v hp hn hF => coDecStep hp (fun k h => by cases h; exact decC n N M) hn hF
theorem coDecide {E : World} {l m : List As} {p : Nat} {s : KS} (hp : Pick (coA p s) l m) {N M : Nat} {i : ID} {r v : Int} (hF : Fits s N M) : Con Tryz.prog 54 #[.pointer (some ⟨p, 0, none⟩), .agg (encI i).toArray, .int .i64 r, .int .u32 v] E l (fun _ : Unit => .bool (look s.rt i).isSome) (fun _ => coA p (kDec s.rt.length s i r v) :: m) := decC s.rt.length N M E l m p s i r v hp (Nat.le_refl _) hF
end Go.Pse
namespace Go.Pse
open Go.RowKit Go.Proofs
/-! ### plain: a ring that has room -/
def Rdy (s : KS) (g c t : Int) : Prop := ∃ b r, look s.rg g = some (b, r) ∧ r.over = [] ∧ r.tail = t ∧ r.cb = 4 ∧ r.cq = c ∧ getN (rowAt s.mem c) 0 4 = 0
theorem getN_far {bs ys : List Int} {a : Nat} (h : 4 ≤ a) (hl : a ≤ bs.length) : getN (putB bs a ys) 0 4 = getN bs 0 4 := by
  have e : ∀ k, k < 4 → byteAt (putB bs a ys) (0 + k) = byteAt bs (0 + k) := fun k hk => by
    unfold byteAt putB
    rw [List.append_assoc, List.getElem?_append_left (by simp; omega), List.getElem?_take_of_lt (by omega)]
  simp only [getN, e 0 (by omega), e 1 (by omega), e 2 (by omega), e 3 (by omega)]
theorem getN_row {r : Rg} {ms : List (List Int)} (hr : RgOk r) (hM : MemOk ms) (c : Cqe) : getN (rgRow r ms c) 0 4 = getN (rowAt ms r.cq) 0 4 := by
  obtain ⟨h1, h2, h3⟩ := hM.at hr.cq
  have h4 := place_in hr
  unfold rgRow
  rw [getN_far (by omega) (by rw [putB_len (by rw [bytesX_len]; omega), h2]; omega), getN_far (by omega) (by rw [h2]; omega)]
theorem rowAt_set {ms : List (List Int)} {u c : Int} {x : List Int} (hu : 1 ≤ u ∧ u ≤ 64) (hc : 1 ≤ c) (hl : ms.length = 64) : rowAt (ms.set (u - 1).toNat x) c = if c = u then x else rowAt ms c := by
  unfold rowAt
  by_cases h : c = u
  · subst h; rw [if_pos rfl, List.getElem?_set_self (by omega)]; rfl
  · rw [if_neg h, List.getElem?_set_ne (by omega)]
theorem rdy_ok {r : Rg} {ms : List (List Int)} {t : Int} (h1 : r.over = []) (h2 : r.tail = t) (h3 : r.cb = 4) (h4 : getN (rowAt ms r.cq) 0 4 = 0) (ht : 0 ≤ t ∧ t < 16) : postOk r ms = true := by
  unfold postOk rgWrOk rgFar
  rw [h1, h2, h3, h4, Int.sub_zero, wrap32u_of (by omega)]
  simp only [List.isEmpty_nil, Bool.true_and, decide_eq_true_eq]
  show t < 2 ^ 4
  omega
theorem look_updO {α : Type} {u g : Int} {f : α → α} : ∀ {xs : List (Int × Nat × α)}, look (updO xs u f) g = (look xs g).map fun x => if g = u then (x.1, f x.2) else x
  | [] => rfl
  | x :: xs => by
    unfold updO
    rw [List.map_cons, look_cons, look_cons, show List.map _ xs = updO xs u f from rfl, look_updO]
    by_cases hx : x.1 = u
    · rw [if_pos hx]
      by_cases hg : x.1 = g
      · simp [hg, hg ▸ hx]
      · simp [hg]
    · rw [if_neg hx]
      by_cases hg : x.1 = g
      · have : ¬ g = u := fun e => hx (hg.trans e)
        simp [hg, this]
      · simp [hg]
theorem kPost_some {s : KS} {d : Deed} {b : Nat} {r : Rg} (h : look s.rg d.1.1 = some (b, r)) : kPost s d = { s with rg := updO s.rg d.1.1 (fun r => postR r s.mem (ofD d)), mem := postM r s.mem (ofD d) } := by
  unfold kPost; rw [h]
theorem kPost_rg {s : KS} {d : Deed} {b : Nat} {r : Rg} (h : look s.rg d.1.1 = some (b, r)) : (kPost s d).rg = updO s.rg d.1.1 (fun r => postR r s.mem (ofD d)) := by rw [kPost_some h]
theorem Rdy.post {s : KS} {N M : Nat} (hF : Fits s N M) {g c t : Int} (h : Rdy s g c t) (ht : 0 ≤ t ∧ t < 16) {d : Deed} (hd : d.1.1 = g) : Rdy (kPost s d) g c (t + 1) := by
  subst hd
  obtain ⟨b, r, h1, h2, h3, h4, h5, h6⟩ := h
  have hro := (hF.rg _ (mem_look h1)).1
  have hr : RgOk r := hro
  have hok := rdy_ok (ms := s.mem) h2 h3 h4 (by rw [h5]; exact h6) ht
  refine ⟨b, rgUp r, ?_, h2, ?_, h4, h5, ?_⟩
  · rw [kPost_rg h1, look_updO, h1]
    simp [postR, hok]
  · show IntKind.u32.wrap (r.tail + 1) = _
    rw [h3, wrap32u_of (by omega)]
  · rw [kPost_some h1]
    show getN (rowAt (postM r s.mem (ofD d)) c) 0 4 = 0
    unfold postM
    rw [hok, if_pos rfl, ← h5, rowAt_set hr.cq hr.cq.1 hF.mem.len, if_pos rfl, getN_row hr hF.mem, h5, h6]
theorem Rdy.other {s : KS} {N M : Nat} (hF : Fits s N M) {g c t g2 c2 t2 : Int} (h : Rdy s g c t) (h2 : Rdy s g2 c2 t2) (hg : g ≠ g2) (hc : c ≠ c2) {d : Deed} (hd : d.1.1 = g2) : Rdy (kPost s d) g c t := by
  subst hd
  obtain ⟨b, r, h1, e2, e3, e4, e5, e6⟩ := h
  obtain ⟨b2, r2, k1, _, _, _, k5, _⟩ := h2
  have hr : RgOk r := (hF.rg _ (mem_look h1)).1
  have hr2 : RgOk r2 := (hF.rg _ (mem_look k1)).1
  refine ⟨b, r, ?_, e2, e3, e4, e5, ?_⟩
  · rw [kPost_rg k1, look_updO, h1]
    simp [hg]
  · rw [kPost_some k1]
    show getN (rowAt (postM r2 s.mem (ofD d)) c) 0 4 = 0
    unfold postM
    split
    · rw [rowAt_set hr2.cq (by have := hr.cq; omega) hF.mem.len, if_neg (by rw [k5]; exact hc)]; exact e6
    · exact e6
def kNext (D : KS → ID → Int → Int → KS) (s : KS) (i : ID) (r : Int) : KS := match afterQ s.rt i with
  | none => s
  | some x => if x.soft = true ∧ r < 0 then D s x.id (-9) 0 else s
theorem kDec_some {n : Nat} {s : KS} {i : ID} {r v : Int} {q : Rq} (hq : look s.rt i = some q) : kDec (n + 1) s i r v = kNext (kDec n) (kTell (kDec n) (kForget { s with rt := del s.rt i } i) (i, q.e.tag, q.e.op, r, v, false)) i r := by
  rw [kDec, hq]
  simp only []
  generalize kTell (kDec n) (kForget { s with rt := del s.rt i } i) (i, q.e.tag, q.e.op, r, v, false) = t
  unfold kNext
  cases afterQ t.rt i <;> rfl
/-! ### plain: a row of requests, each on the one ahead -/
section
variable {soft : List Bool} {a j n : Nat}
end
end Go.Pse
namespace Go.Pse
open Go.RowKit Go.ChangeShapes Go.WideShapes Go.Deep
inductive Leaf where
  | int (k : IntKind)
  | bool
def Leaf.ok : Leaf → Value → Prop
  | .int k, v => ∃ n, v = .int k n ∧ k.min ≤ n ∧ n ≤ k.max
  | .bool, v => ∃ b, v = .bool b
def Shape : List Leaf → List Value → Prop
  | [], [] => True
  | k :: ks, v :: vs => k.ok v ∧ Shape ks vs
  | _, _ => False
def leafFs (P : Program) (lv : TypeId → Option (List Leaf)) : List Field → Nat → Option (List Leaf)
  | [], _ => some []
  | f :: fs, o => match lv f.type with
    | some ks => if f.offset = o ∧ P.cellsOf f.type = ks.length then (match leafFs P lv fs (o + ks.length) with
      | some r => some (ks ++ r)
      | none => none) else none
    | none => none
def leaves (P : Program) : Nat → TypeId → Option (List Leaf)
  | 0, _ => none
  | n + 1, t => match P.underlying t with
    | some (.int k) => some [.int k]
    | some .bool => some [.bool]
    | some (.struct fs) => leafFs P (leaves P n) fs.toList 0
    | _ => none
theorem Shape.nil_inv {vs : List Value} (h : Shape [] vs) : vs = [] := by
  cases vs with
  | nil => rfl
  | cons v vs => exact h.elim
theorem Shape.cons_inv {k : Leaf} {ks : List Leaf} {vs : List Value} (h : Shape (k :: ks) vs) : ∃ v vs', vs = v :: vs' ∧ k.ok v ∧ Shape ks vs' := by
  cases vs with
  | nil => exact h.elim
  | cons v vs => exact ⟨v, vs, rfl, h.1, h.2⟩
theorem Shape.length : ∀ {ks : List Leaf} {vs : List Value}, Shape ks vs → vs.length = ks.length
  | [], vs, h => by rw [h.nil_inv]; rfl
  | _ :: _, _, h => by obtain ⟨v, vs', rfl, _, h'⟩ := h.cons_inv; simp [h'.length]
theorem Shape.append : ∀ {ks ks' : List Leaf} {vs vs' : List Value}, Shape ks vs → Shape ks' vs' → Shape (ks ++ ks') (vs ++ vs')
  | [], _, vs, _, h, h' => by rw [h.nil_inv]; exact h'
  | _ :: _, _, _, _, h, h' => by obtain ⟨v, ws, rfl, hv, h2⟩ := h.cons_inv; exact ⟨hv, h2.append h'⟩
theorem Shape.ones : ∀ {ks : List Leaf} {vs : List Value}, Shape ks vs → ones vs = true
  | [], vs, h => by rw [h.nil_inv]; rfl
  | k :: _, _, h => by
    obtain ⟨v, ws, rfl, hv, h2⟩ := h.cons_inv
    have h3 : v.oneCell' = true := by
      cases k with
      | int k => obtain ⟨n, rfl, _⟩ := hv; rfl
      | bool => obtain ⟨b, rfl⟩ := hv; rfl
    have h4 := h2.ones
    unfold Pse.ones at h4 ⊢
    simp [h3, h4]
section
variable {H : Type} {enc : TypeId × Value → H} {P : Program} {W : World} {base b0 : Nat} {spare : Nat → Bool} {held : Bool}
end
end Go.Pse
namespace Go.Pse
open Go.RowKit Go.Proofs
theorem zrow_ok : MemOk (List.replicate 64 zrow) := ⟨List.length_replicate, fun r hr => by
  rw [List.eq_of_mem_replicate hr]
  exact ⟨List.length_replicate, fun x hx => by rw [List.eq_of_mem_replicate hx]; omega⟩⟩
structure One (K : KS) (cs cc : Int) (g : NewG) : Prop where
  rt : K.rt = []
  jn : K.jn = []
  nt : K.nt = []
  rg : K.rg = [(4, (g.bs 0).1, rgNew 5 6 cs cc)]
  mem : K.mem = List.replicate 64 zrow
  fit : Fits K 20 40
theorem one_is (g : NewG) : One (kNew 1 1 0 0 false g) 0 0 g ∧ One (kNew 1 1 3 4 false g) 3 4 g := by
  have hrg : ∀ cs cc : Int, 0 ≤ cc ∧ cc ≤ 4 → RgOk (rgNew 5 6 cs cc) := fun cs cc h => ⟨⟨by show (1 : Int) ≤ 5; omega, by show (5 : Int) ≤ 64; omega⟩, ⟨by show (1 : Int) ≤ 6; omega, by show (6 : Int) ≤ 64; omega⟩, ⟨by show 0 ≤ cutI cc 0 4; unfold cutI; split <;> split <;> omega, by show cutI cc 0 4 ≤ 4; unfold cutI; split <;> split <;> omega⟩, ⟨by show (0 : Int) ≤ 0; omega, by show (0 : Int) < _; omega⟩⟩
  constructor
  · exact ⟨rfl, rfl, rfl, rfl, rfl, ⟨by omega, by omega, Ids.nil, by show 0 ≤ 40; omega, by show 0 ≤ 20; omega, fun x hx => (by cases hx), fun x hx => (by cases hx), fun x hx => by
      obtain rfl := List.mem_singleton.1 (show x ∈ [(7, (g.bs 0).2, (0, 0), false)] from hx)
      exact ⟨by show (1 : Int) ≤ 7; omega, by show (7 : Int) ≤ 64; omega⟩, fun x hx => by
      obtain rfl := List.mem_singleton.1 (show x ∈ [(4, (g.bs 0).1, rgNew 5 6 0 0)] from hx)
      exact ⟨hrg 0 0 (by omega), by show 0 ≤ 40; omega⟩, zrow_ok⟩⟩
  · exact ⟨rfl, rfl, rfl, rfl, rfl, ⟨by omega, by omega, Ids.nil, by show 0 ≤ 40; omega, by show 0 ≤ 20; omega, fun x hx => (by cases hx), fun x hx => (by cases hx), fun x hx => by
      obtain rfl := List.mem_singleton.1 (show x ∈ [(7, (g.bs 0).2, (0, 0), false)] from hx)
      exact ⟨by show (1 : Int) ≤ 7; omega, by show (7 : Int) ≤ 64; omega⟩, fun x hx => by
      obtain rfl := List.mem_singleton.1 (show x ∈ [(4, (g.bs 0).1, rgNew 5 6 3 4)] from hx)
      exact ⟨hrg 3 4 (by omega), by show 0 ≤ 40; omega⟩, zrow_ok⟩⟩
theorem One.fits {K : KS} {cs cc : Int} {g : NewG} (h : One K cs cc g) {ps : List (ID × Rq)} (hI : Ids ps) (hl : ps.length ≤ 12) : Fits { K with rt := ps } 20 60 :=
  ⟨h.fit.n, by omega, hI, by show K.jn.length + ps.length ≤ 60; rw [h.jn]; simp; omega, h.fit.tm, h.fit.ep, h.fit.nt, h.fit.rp, fun x hx => by
    have := h.fit.rg x hx
    exact ⟨this.1, by have := this.2; rw [h.rt] at this; simp at this; show _ + ps.length ≤ 60; omega⟩, h.fit.mem⟩
theorem ofQ_nil (g : Int) : ofQ [] g = [] := List.length_eq_zero_iff.1 (Nat.le_zero.1 (ofQ_len [] g))
end Go.Pse
namespace Go.Pse
open Go.RowKit Go.Proofs
theorem coNtWaits {E : World} {l m : List As} {p : Nat} {s : KS} (hp : Pick (coA p s) l m) {u : Int} {b : Nat} {w0 : Int} {xs : List ID} (hl : look s.nt u = some (b, w0, xs)) (hb : xs.length ≤ 100000) :
  Con Tryz.prog 301 #[.pointer (some ⟨b, 0, none⟩)] E l (fun x : Value => x) (fun x => row 39 2 x (xs.map encI) :: coA p s :: m) := fun w H => by
 refine (?_ : Jk E l 0 [] fun _ w => Calls Tryz.prog 301 #[.pointer (some ⟨b, 0, none⟩)] w fun e w' => ∃ x, e = .returned ((fun x : Value => x) x) ∧ Sep E w' ((fun x : Value => row 39 2 x (xs.map encI) :: coA p s :: m) x)) w _ H fr0
 obtain ⟨j, hj⟩ := look_ix hl
 have hjl := (List.getElem?_eq_some_iff.1 hj).1
 refine J_pick hp <| J_coO fun bn be br bg bt bs bp bl bk _ => J_keyd (ps := ptrs s.nt) HS fun hK => ?_
 refine J_pick (A := each ntF s.nt) PC ?_
 refine J_eachOut hj ?_
 skip
 refine J_asTo (B := ntA b 0 w0 xs) (by rfl) <| J_con (ntWaits (w := w0) (xs := xs) PC hb) fun x => ?_
 refine J_pick (A := ntA b 0 w0 xs) PC ?_
 refine J_asTo (B := ntF (u, b, w0, xs)) (by rfl) <| J_pick (A := each ntF _) PC ?_
 refine J_pick (A := ntF (u, b, _)) PC ?_
 refine J_eachIn (u, b, w0, xs) hjl ?_
 skip
 refine J_asTo (B := each ntF s.nt) (by rw [lset_same hj]) <| J_coS (p := p) (s := s) bn be br bg bt bs bp bl bk PX trivial ?_
 exact J_end SU
def ntW (i : ID) (a : Int × List ID) : Int × List ID := (0, waitL a.1 a.2 i)
/-! ### plain: two threads that share; the first ring's requests -/
structure Duo (K : KS) (g : NewG) : Prop where
  rt : K.rt = []
  jn : K.jn = []
  tm : K.tm = []
  nt : K.nt = [(22, g.bn, 0, [])]
  ep : K.ep = [(21, g.be, [], [])]
  rp : K.rp = [(7, (g.bs 0).2, (0, 0), false), (17, (g.bs 1).2, (0, 0), false)]
  rg : K.rg = [(4, (g.bs 0).1, rgNew 5 6 3 4), (14, (g.bs 1).1, rgNew 15 16 3 4)]
  be4 : look K.be 4 = some (22, 1)
  be14 : look K.be 14 = some (22, 2)
  mem : K.mem = List.replicate 64 zrow
  fit : Fits K 20 40
theorem rgNew_ok {a : Int} (h : 1 ≤ a ∧ a ≤ 63) : RgOk (rgNew a (a + 1) 3 4) := ⟨⟨by show 1 ≤ a; omega, by show a ≤ 64; omega⟩, ⟨by show 1 ≤ a + 1; omega, by show a + 1 ≤ 64; omega⟩, ⟨by show 0 ≤ cutI 4 0 4; decide, by show cutI 4 0 4 ≤ 4; decide⟩, ⟨by show (0 : Int) ≤ 0; omega, by show (0 : Int) < _; omega⟩⟩
theorem Duo.fits {K : KS} {g : NewG} (h : Duo K g) {ps : List (ID × Rq)} (hI : Ids ps) (hl : ps.length ≤ 13) : Fits { K with rt := ps } 20 60 :=
  ⟨h.fit.n, by omega, hI, by show K.jn.length + ps.length ≤ 60; rw [h.jn]; simp; omega, h.fit.tm, h.fit.ep, h.fit.nt, h.fit.rp, fun x hx => by
    have := h.fit.rg x hx
    exact ⟨this.1, by have := this.2; rw [h.rt] at this; simp at this; show _ + ps.length ≤ 60; omega⟩, h.fit.mem⟩
end Go.Pse
namespace Go.Pse
open Go.RowKit Go.Proofs
theorem coClear {E : World} {l m : List As} {p : Nat} {s : KS} (hp : Pick (coA p s) l m) {u : Int} {b : Nat} {r : Rg} (hl : look s.rg u = some (b, r)) :
  Con Tryz.prog 303 #[.pointer (some ⟨b, 0, none⟩)] E l (fun _ : Unit => .int .i64 (r.over.length : Int)) (fun _ => coA p { s with rg := updO s.rg u (fun r => { r with over := [] }) } :: m) := fun w H => by
 refine (?_ : Jk E l 0 [] fun _ w => Calls Tryz.prog 303 #[.pointer (some ⟨b, 0, none⟩)] w fun e w' => ∃ x, e = .returned ((fun _ : Unit => .int .i64 (r.over.length : Int)) x) ∧ Sep E w' ((fun _ : Unit => coA p { s with rg := updO s.rg u (fun r => { r with over := [] }) } :: m) x)) w _ H fr0
 obtain ⟨j, hj⟩ := look_ix hl
 have hjl := (List.getElem?_eq_some_iff.1 hj).1
 refine J_pick hp <| J_coO fun bn be br bg bt bs bp bl bk _ => J_keyd (ps := ptrs s.rg) HS fun hK => ?_
 refine J_pick (A := each (rgF s.mb) s.rg) PC ?_
 refine J_eachOut hj ?_
 skip
 refine J_asTo (B := rgA b s.mb r) (by rfl) <| J_con (ringClear (r := r) PC) fun x => ?_
 refine J_pick (A := rgA b s.mb { r with over := [] }) PC ?_
 refine J_asTo (B := (rgF s.mb) (u, b, ((fun r => { r with over := [] })) (r))) (by rfl) <| J_pick (A := each (rgF s.mb) _) PC ?_
 refine J_pick (A := (rgF s.mb) (u, b, _)) PC ?_
 refine J_eachIn (u, b, ((fun r => { r with over := [] })) (r)) hjl ?_
 skip
 refine J_asTo (B := each (rgF s.mb) (updO s.rg u (fun r => { r with over := [] }))) (by rw [updO_set hK hj]) <| J_pick (A := mapV kZ evA (.map (some bg)) (ptrs s.rg)) PC ?_
 refine J_mapEq (qs := ptrs (updO s.rg u (fun r => { r with over := [] }))) ptrs_updO.symm <| J_coS (p := p) (s := { s with rg := updO s.rg u (fun r => { r with over := [] }) }) bn be br bg bt bs bp bl bk PX trivial ?_
 exact J_end SU
theorem rem_erase {α : Type} {xs : List (Int × Nat × α)} {u : Int} {i b : Nat} {a : α} (hK : Keyd (ptrs xs)) (hi : xs[i]? = some (u, b, a)) : rem xs u = xs.eraseIdx i := by
  have hK' : Keyd xs := by
    unfold Keyd at hK ⊢
    rw [show (ptrs xs).map Prod.fst = xs.map Prod.fst by unfold ptrs; rw [List.map_map]; rfl] at hK
    exact hK
  exact del_at (ps := xs) hK' hi rfl
/-! ### plain: a ring is torn down -/
def deedG (q : Rq) : Deed := (q.id, q.e.tag, q.e.op, 0, 0, true)
def kTear1 (s : KS) (q : Rq) : KS := { kForget { s with rt := del s.rt q.id } q.id with jn := s.jn ++ [deedG q] }
def kTearL (s : KS) (l : List Rq) : KS := l.foldl kTear1 s
def kCleared (s : KS) (g : Int) : KS := { s with rg := updO s.rg g (fun r => { r with over := [] }) }
def kTear (s : KS) (g : Int) : KS := if (look s.rg g).isSome then kGone (kCleared (kTearL s (ofQ s.rt g)) g) 9 g else s
theorem kTearL_snoc {s : KS} {l : List Rq} {q : Rq} : kTearL s (l ++ [q]) = kTear1 (kTearL s l) q := by unfold kTearL; rw [List.foldl_append]; rfl
theorem kTearL_rg : ∀ {l : List Rq} {s : KS}, (kTearL s l).rg = s.rg ∧ (kTearL s l).mb = s.mb ∧ (kTearL s l).ep = (kTearL s l).ep
  | [], s => ⟨rfl, rfl, rfl⟩
  | q :: l, s => by
    have h := kTearL_rg (l := l) (s := kTear1 s q)
    exact ⟨h.1, h.2.1, rfl⟩
theorem Fits.delAny {s : KS} {N M : Nat} (h : Fits s N M) (i : ID) : Fits { s with rt := del s.rt i } N M := by
  have hl := del_le (ps := s.rt) (i := i)
  exact ⟨h.n, h.mm, h.ids.del i, by have := h.jn; show s.jn.length + (del s.rt i).length ≤ M; omega, h.tm, h.ep, h.nt, h.rp, fun x hx => ⟨(h.rg x hx).1, by have := (h.rg x hx).2; show _ + (del s.rt i).length ≤ M; omega⟩, h.mem⟩
theorem cleared_look {s : KS} {g : Int} {b : Nat} {r : Rg} (h : look s.rg g = some (b, r)) : look (kCleared s g).rg g = some (b, { r with over := [] }) := by
  have e : (kCleared s g).rg = updO s.rg g (fun r => { r with over := [] }) := rfl
  rw [e, look_updO, h]; simp
theorem Fits.tear1 {s : KS} {N M : Nat} (h : Fits s N M) (hm : M + 1 ≤ 90000) (q : Rq) : Fits (kTear1 s q) N (M + 1) := by
  have h1 := h.delAny q.id
  exact (h1.forget q.id).jnl hm (deedG q)
theorem Fits.tearL {N : Nat} : ∀ {l : List Rq} {s : KS} {M : Nat}, Fits s N M → M + l.length ≤ 90000 → Fits (kTearL s l) N (M + l.length)
  | [], s, M, h, _ => h
  | q :: l, s, M, h, hm => by
    have := Fits.tearL (l := l) (h.tear1 (by simp at hm; omega) q) (by simp at hm; omega)
    rw [List.length_cons, show M + (l.length + 1) = M + 1 + l.length by omega]
    exact this
theorem coGoneRing {E : World} {l m : List As} {p : Nat} {s : KS} (hp : Pick (coA p s) l m) {u : Int} {b : Nat} {r : Rg} (hl : look s.rg u = some (b, r)) :
  Con Tryz.prog 290 #[.pointer (some ⟨p, 0, none⟩), .agg (encI (9, u)).toArray] E l (fun _ : Unit => .tuple #[]) (fun _ => coA p (kGone s 9 u) :: rgA b s.mb r :: m) := by
 refine Con.body (vs := [.pointer (some ⟨p, 0, none⟩), .agg (encI (9, u)).toArray]) (n := 74) Tryz.func290 rfl rfl [(0, .pointer (some ⟨p, 0, none⟩)), (1, .agg (encI (9, u)).toArray)] (env_ok 2 rfl) <| J_pick hp <| J_coO fun bn be br bg bt bs bp bl bk _ => ?_
 obtain ⟨j, hj⟩ := look_ix hl
 refine J_keyd (ps := ptrs s.rg) HS fun hK => ?_
 refine J_pick (A := each (rgF s.mb) s.rg) PC ?_
 refine J_eachOut hj ?_
 skip
 refine J_asTo (B := rgA b s.mb r) (by rfl) <| sr <| L_op <| x_box rfl rfl rfl fun b3 => nx <| fa rfl rfl fa418_0 <| L_val rfl (v_load rfl ty3 HS (by exact rfl)) ?_
 refine nq <| J_block <| sr <| L_pur rfl (p_eql rfl rfl) <| ag rfl rfl <| nq <| J_bool (t := 6) (c := false) rfl (rfl) <| C_false rfl ?_
 refine sr <| L_pur rfl (p_eql rfl rfl) <| ag rfl rfl <| nq <| J_bool (t := 14) (c := false) rfl (rfl) <| C_false rfl <| sr <| L_pur rfl (p_eql rfl rfl) ?_
 refine ag rfl rfl <| nq <| J_bool (t := 22) (c := false) rfl (rfl) <| C_false rfl <| sr <| L_pur rfl (p_eql rfl rfl) <| ag rfl rfl <| nq ?_
 refine J_bool (t := 30) (c := false) rfl (rfl) <| C_false rfl <| sr <| L_pur rfl (p_eql rfl rfl) <| ag rfl rfl <| nq <| J_bool (t := 38) (c := false) rfl (rfl) <| C_false rfl ?_
 refine sr <| L_pur rfl (p_eql rfl rfl) <| ag rfl rfl <| nq <| J_bool (t := 52) (c := false) rfl (rfl) <| C_false rfl <| sr <| L_pur rfl (p_eql rfl rfl) ?_
 refine ag rfl rfl <| nq <| J_bool (t := 66) (c := true) rfl (rfl) <| C_true rfl <| J_drawT 6 mixed (by kernel_rfl) <| sm rfl rfl <| sp rfl (p_nilCheck rfl) <| sp rfl (p_fieldAddr rfl fa136_12) ?_
 refine S_val rfl (v_loadL (o := 13) (i := 3) rfl ty129 HS rfl (by exact rfl)) ?_
 refine sp rfl (p_fieldAddr rfl fa418_1) <| S_val rfl (v_load rfl ty3 HS (by exact rfl)) ?_
 refine S_nil <| L_op <| x_delete (ek := kZ) (ev := evA) (a := u) rfl rfl ky3 Tryz.underlying129 PC ?_
 refine L_nil <| Q_blk_normal <| J_endnormal <| J_pick (A := each (rgF s.mb) (s.rg.eraseIdx j)) PC ?_
 refine J_asTo (B := each (rgF s.mb) (rem s.rg u)) (by rw [rem_erase hK hj]) <| J_pick (A := mapV kZ evA (.map (some bg)) _) PC ?_
 refine J_mapEq (qs := ptrs (rem s.rg u)) ptrs_rem <| J_coS (p := p) (s := { s with rg := rem s.rg u }) bn be br bg bt bs bp bl bk PX trivial ?_
 refine J_asTo (B := coA p (kGone s 9 u)) (by rfl) ?_
 exact J_return (()) Tryz.results290 .nil rfl SU
theorem coTearNo {E : World} {l m : List As} {p : Nat} {s : KS} (hp : Pick (coA p s) l m) {g : Int} (hl : look s.rg g = none) :
    Con Tryz.prog 289 #[.pointer (some ⟨p, 0, none⟩), .int .i64 g] E l (fun _ : Unit => .bool false) (fun _ => coA p s :: m) := by
  refine Con.body (vs := [.pointer (some ⟨p, 0, none⟩), .int .i64 g]) (n := 50) Tryz.func289 rfl rfl [(0, .pointer (some ⟨p, 0, none⟩)), (1, .int .i64 g)] (env_ok 2 rfl) <| J_pick hp <| sr <| ag rfl rfl <| nx <| mv rfl rfl <| mv rfl rfl <| L_op <| xc fc135 (.cons rfl (.cons rfl .nil)) rfl (coRing (s := s) (u := g) PC) fun _ => ?_
  refine J_slot (t := 10) (v := .pointer none) rfl (by rw [look_ptrs, hl]; rfl) <| ag rfl rfl <| nxx <| mv rfl rfl <| L_pur rfl (p_eqNilPtr Tryz.underlying274 rfl) <| nq <| J_bool (t := 12) (c := true) rfl (rfl) <| C_true rfl ?_
  refine sr <| ag rfl rfl <| nq <| J_ret <| Q_then_ret ?_
  exact J_return (()) Tryz.results289 (.tmp rfl .nil) rfl SU
theorem coTear {E : World} {l m : List As} {p : Nat} {s : KS} (hp : Pick (coA p s) l m) {g : Int} {b : Nat} {r : Rg} {N M : Nat} (hl : look s.rg g = some (b, r)) (hF : Fits s N M) (hm : M + s.rt.length ≤ 90000) :
  Con Tryz.prog 289 #[.pointer (some ⟨p, 0, none⟩), .int .i64 g] E l (fun _ : Unit => .bool true) (fun _ => coA p (kTear s g) :: rgA b s.mb { r with over := [] } :: m) := by
 refine Con.body (vs := [.pointer (some ⟨p, 0, none⟩), .int .i64 g]) (n := 50) Tryz.func289 rfl rfl [(0, .pointer (some ⟨p, 0, none⟩)), (1, .int .i64 g)] (env_ok 2 rfl) <| J_pick hp <| sr <| ag rfl rfl <| nx <| mv rfl rfl <| mv rfl rfl <| L_op <| xc fc135 (.cons rfl (.cons rfl .nil)) rfl (coRing (s := s) (u := g) PC) fun _ => ?_
 refine J_slot (t := 10) (v := .pointer (some ⟨b, 0, none⟩)) rfl (by rw [look_is hl]; rfl) <| ag rfl rfl <| nxx <| mv rfl rfl <| L_pur rfl (p_eqNilPtr Tryz.underlying274 rfl) <| nq <| J_bool (t := 12) (c := false) rfl (rfl) <| C_false rfl ?_
 refine J_skip <| Q_then <| J_seq <| sr <| mv rfl rfl <| L_op <| xc fc22 (.cons rfl .nil) rfl (coReqs) fun _ => mv rfl rfl ?_
 refine L_op <| xc fc26 (.cons rfl (.cons rfl .nil)) rfl (coRqOf (s := s) (g := g) PC hF.ids (by have := hF.jn; have := hF.mm; omega)) <| JR fun a16 c16 hw16 hl16 hm16 hz16 => ?_
 have hol := ofQ_len s.rt g
 obtain ⟨xs, hxs⟩ : ∃ xs, xs = ofQ s.rt g := ⟨_, rfl⟩
 refine J_pick (A := row 104 13 _ _) PC ?_
 refine J_rowTo (ys := xs.map encQ) (v' := .slice a16 (xs.map encQ).length c16) (by rw [hxs]) (by rw [hxs]) <| J_slot (t := 16) (v := .slice a16 (xs.map encQ).length c16) rfl (by rw [hxs]) ?_
 rw [← hxs] at hol hz16
 have hmcap : c16 ≤ 9223372036854775807 := hm16
 have hml : (xs.map encQ).length = xs.length := List.length_map _
 refine J_pick (A := coA p s) PC ?_
 refine J_asTo (B := coA p (kTearL s (xs.take 0))) (by rw [List.take_zero]; rfl) <| L_pur rfl (p_len rfl Tryz.underlying54) <| mv rfl rfl <| nq <| J_block <| J_loop (α := Nat) (fun k => k ≤ xs.length) (fun k => row 104 13 (.slice a16 (xs.map encQ).length c16) (xs.map encQ) :: coA p (kTearL s (xs.take k)) :: m) (fun k => [(18, .int .i64 (k : Int)), (16, .slice a16 (xs.map encQ).length c16), (17, .int .i64 ((xs.map encQ).length : Int)), (0, .pointer (some ⟨p, 0, none⟩)), (1, .int .i64 g), (5, .pointer (some ⟨b, 0, none⟩))]) (fun k => xs.length - k) 0 (by omega) SU KE ?_
 intro k hk
 refine sr <| L_pur rfl (p_lss rfl rfl) <| nq <| J_seq ?_
 refine C_dec rfl (fun h19 => ?_) (fun h19 => ?_)
 have hlt : k < xs.length := by omega
 obtain ⟨bx, ox, rfl⟩ := hz16 (by intro h; rw [h] at hml; simp at hml; omega)
 obtain ⟨c, hcc⟩ : ∃ c, xs[k]? = some c := ⟨_, List.getElem?_eq_getElem hlt⟩
 have hFk : Fits (kTearL s (xs.take k)) N (M + k) := by have := hF.tearL (l := xs.take k) (by simp; omega); rwa [List.length_take, Nat.min_eq_left (by omega)] at this
 have hFd : Fits { (kTearL s (xs.take k)) with rt := del (kTearL s (xs.take k)).rt c.id } N (M + k) := hFk.delAny c.id
 refine J_skip <| Q_then <| J_seq <| J_block <| sr <| L_pur rfl (p_indexAddr rfl rfl Tryz.underlying54 ty104 (by omega) (by omega)) ?_
 refine L_val rfl (v_loadE rfl ty104 HS (by first | (simp only [Int.toNat_natCast, List.getElem?_map, hcc]; rfl) | (simp only [Int.toNat_natCast, List.getElem?_map, hcd]; rfl) | simp | rfl)) ?_
 refine L_op <| x_alloc ty104 rfl fun b7 => L_op <| x_store rfl rfl ty104 rfl SM SM RO PT ?_
 refine J_pick (A := blk b7 _ _) PC ?_
 refine J_asTo (B := blk b7 104 (encQ c)) (by rfl) <| nq <| J_seq <| J_drawL (some 4) mixed <| ip 0 rfl rfl rfl rfl (p_move rfl) <| ip 2 rfl rfl rfl rfl (p_fieldAddr rfl fa104_0) <| iv 3 rfl rfl rfl rfl (fun _ => v_loadA rfl ty39 HS CT) ?_
 refine i1 1 rfl <| xc fc22 (.cons rfl .nil) rfl (coReqs) fun _ => i1 4 rfl <| xc fc87 (.cons rfl (.cons rfl .nil)) rfl (coRqDrop (s := (kTearL s (xs.take k))) (i := c.id) PC) fun _ => ?_
 refine i0 <| qx <| mv rfl rfl <| fa rfl rfl fa104_0 <| L_val rfl (v_loadA rfl ty39 HS CT) ?_
 refine L_op <| xc fc88 (.cons rfl (.cons rfl .nil)) rfl (coForget (s := { (kTearL s (xs.take k)) with rt := del (kTearL s (xs.take k)).rt c.id }) (i := c.id) PC hFd) fun _ => ?_
 refine nq <| J_drawL (some 11) mixed <| ip 0 rfl rfl rfl rfl (p_move rfl) <| ip 2 rfl rfl rfl rfl (p_fieldAddr rfl fa104_0) <| iv 3 rfl rfl rfl rfl (fun _ => v_loadA rfl ty39 HS CT) ?_
 refine ip 4 rfl rfl rfl rfl (p_fieldAddr rfl fa104_1) <| ip 5 rfl rfl rfl rfl (p_fieldAddr rfl fa31_2) <| iv 6 rfl rfl rfl rfl (fun _ => v_load rfl ty22 HS (by exact rfl)) ?_
 refine ip 7 rfl rfl rfl rfl (p_fieldAddr rfl fa104_1) <| ip 8 rfl rfl rfl rfl (p_fieldAddr rfl fa31_0) <| iv 9 rfl rfl rfl rfl (fun _ => v_load rfl ty3 HS (by exact rfl)) ?_
 refine ip 10 rfl rfl rfl rfl (bld41 (.cons rfl (.cons rfl (.cons rfl (.cons rfl .nil)))) (by repeat constructor)) <| J_slot (t := 41) (v := .agg (encD (deedG c)).toArray) rfl rfl <| i1 1 rfl <| xc fc17 (.cons rfl .nil) rfl (coJournal) fun _ => i1 11 rfl <| xc fc134 (.cons rfl (.cons rfl .nil)) rfl (coJAdd (s := kForget { (kTearL s (xs.take k)) with rt := del (kTearL s (xs.take k)).rt c.id } c.id) (d := deedG c) PC (by have := hFk.jn; have := hFk.mm; show (kTearL s (xs.take k)).jn.length ≤ 200000; omega)) fun _ => ?_
 refine J_pick (A := coA p _) PC ?_
 refine J_asTo (B := coA p (kTearL s (xs.take (k + 1)))) (by rw [List.take_add_one, hcc, Option.toList_some, kTearL_snoc]; rfl) <| i0 <| Q_blk_normal <| qr <| L_pur rfl (p_add64 rfl rfl (by omega)) <| mv rfl rfl <| nq ?_
 exact J_again (k + 1) (by omega) (by omega) SU KE
 have hkx : k = xs.length := by omega
 subst hkx
 rw [List.take_length]
 have hl2 : look (kTearL s xs).rg g = some (b, r) := by rw [kTearL_rg.1]; exact hl
 refine J_exit <| Q_then_exit <| Q_then_exit <| Q_blk_this <| qx <| mv rfl rfl <| L_op <| xc fc303 (.cons rfl .nil) rfl (coClear (s := kTearL s xs) (u := g) (r := r) PC hl2) fun _ => ?_
 refine J_pick (A := coA p _) PC ?_
 refine J_asTo (B := coA p (kCleared (kTearL s xs) g)) (by rfl) <| nx <| mv rfl rfl <| mv rfl rfl <| L_pur rfl (bld418 (.cons rfl (.cons rfl .nil)) (by repeat constructor)) <| J_slot (t := 48) (v := .agg (encI (9, g)).toArray) rfl rfl <| L_op <| xc fc290 (.cons rfl (.cons rfl .nil)) rfl (coGoneRing (s := kCleared (kTearL s xs) g) (u := g) (b := b) (r := { r with over := [] }) PC (cleared_look hl2)) fun _ => ?_
 refine nx <| ag rfl rfl <| nq <| J_ret <| J_pick (A := coA p _) PC ?_
 refine J_asTo (B := coA p (kTear s g)) (by unfold kTear; rw [hl, ← hxs]; rfl) <| J_pick (A := rgA b _ _) PC ?_
 refine J_asTo (B := rgA b s.mb { r with over := [] }) (by rw [show (kCleared (kTearL s xs) g).mb = s.mb from kTearL_rg.2.1]) ?_
 exact J_return (()) Tryz.results289 (.tmp rfl .nil) rfl SU
end Go.Pse
namespace Go.Pse
open Go.RowKit Go.Proofs
theorem rpBindC {E : World} {l m : List As} {b : Nat} {c : ID × Bool} (hp : Pick (rpA b c) l m) {i : ID} :
    Con Tryz.prog 242 #[.pointer (some ⟨b, 0, none⟩), .agg (encI i).toArray] E l (fun _ : Unit => .tuple #[.agg (encI c.1).toArray, .bool c.2]) (fun _ => rpA b (i, true) :: m) := by
  refine Con.body (vs := [.pointer (some ⟨b, 0, none⟩), .agg (encI i).toArray]) (n := 22) Tryz.func242 rfl rfl [(0, .pointer (some ⟨b, 0, none⟩)), (1, .agg (encI i).toArray)] (env_ok 2 rfl) <| J_pick hp <| sr <| L_op <| x_box rfl rfl rfl fun b3 => L_op <| x_alloc ty39 rfl fun b4 => ag rfl rfl ?_
  refine nx <| mv rfl rfl <| L_op <| xc fc244 (.cons rfl .nil) rfl (rpCaller (c := c) PC) fun _ => ?_
  refine J_pick (A := rpA b c) PC ?_
  refine J_asTo (B := blk b 273 [.int .i64 c.1.1, .int .i64 c.1.2, .bool c.2]) (by rfl) <| mv rfl rfl <| L_pur rfl (p_extract rfl rfl) <| L_pur rfl (p_extract rfl rfl) <| L_op <| x_alloc ty39 rfl fun b6 => L_op <| x_store rfl rfl ty39 rfl SM SM RO PT ?_
  refine J_pick (A := blk b6 _ _) PC ?_
  refine J_asTo (B := blk b6 39 (encI c.1)) (by rfl) <| ag rfl rfl <| nx <| mv rfl rfl <| mv rfl rfl <| L_val rfl (v_loadA rfl ty39 HS CT) ?_
  refine nc rfl rfl <| fa rfl rfl fa273_0 <| L_op <| x_store rfl rfl ty39 rfl SM SM RO PT ?_
  refine nc rfl rfl <| fa rfl rfl fa273_1 <| L_op <| x_store rfl rfl ty4 rfl SM SM RO PT ?_
  refine nx <| L_val rfl (v_loadA rfl ty39 HS CT) ?_
  refine mv rfl rfl <| L_op <| x_store rfl rfl ty39 rfl SM SM RO PT ?_
  refine ag rfl rfl <| nq <| J_ret <| J_pick (A := blk b _ _) PC ?_
  refine J_asTo (B := rpA b (i, true)) (by rfl) ?_
  refine J_return (()) Tryz.results242 (.cellA rfl ty39 HS CT (.tmp rfl .nil)) ?_ ?_
  · rfl
  · exact SU
theorem coRpBind {E : World} {l m : List As} {p : Nat} {s : KS} (hp : Pick (coA p s) l m) {u : Int} {b : Nat} {c : ID × Bool} (hl : look s.rp u = some (b, c)) {i : ID} :
  Con Tryz.prog 242 #[.pointer (some ⟨b, 0, none⟩), .agg (encI i).toArray] E l (fun _ : Unit => .tuple #[.agg (encI c.1).toArray, .bool c.2]) (fun _ => coA p { s with rp := updO s.rp u (fun _ => (i, true)) } :: m) := fun w H => by
 refine (?_ : Jk E l 0 [] fun _ w => Calls Tryz.prog 242 #[.pointer (some ⟨b, 0, none⟩), .agg (encI i).toArray] w fun e w' => ∃ x, e = .returned ((fun _ : Unit => .tuple #[.agg (encI c.1).toArray, .bool c.2]) x) ∧ Sep E w' ((fun _ : Unit => coA p { s with rp := updO s.rp u (fun _ => (i, true)) } :: m) x)) w _ H fr0
 obtain ⟨j, hj⟩ := look_ix hl
 have hjl := (List.getElem?_eq_some_iff.1 hj).1
 refine J_pick hp <| J_coO fun bn be br bg bt bs bp bl bk _ => J_keyd (ps := ptrs s.rp) HS fun hK => ?_
 refine J_pick (A := each rpF s.rp) PC ?_
 refine J_eachOut hj ?_
 skip
 refine J_asTo (B := rpA b c) (by rfl) <| J_con (rpBindC (c := c) (i := i) PC) fun x => ?_
 refine J_pick (A := rpA b (i, true)) PC ?_
 refine J_asTo (B := rpF (u, b, ((fun _ => (i, true))) (c))) (by rfl) <| J_pick (A := each rpF _) PC ?_
 refine J_pick (A := rpF (u, b, _)) PC ?_
 refine J_eachIn (u, b, ((fun _ => (i, true))) (c)) hjl ?_
 skip
 refine J_asTo (B := each rpF (updO s.rp u (fun _ => (i, true)))) (by rw [updO_set hK hj]) <| J_pick (A := mapV kZ evA (.map (some br)) (ptrs s.rp)) PC ?_
 refine J_mapEq (qs := ptrs (updO s.rp u (fun _ => (i, true)))) ptrs_updO.symm <| J_coS (p := p) (s := { s with rp := updO s.rp u (fun _ => (i, true)) }) bn be br bg bt bs bp bl bk PX trivial ?_
 exact J_end SU
theorem coRpCaller {E : World} {l m : List As} {p : Nat} {s : KS} (hp : Pick (coA p s) l m) {u : Int} {b : Nat} {c : ID × Bool} (hl : look s.rp u = some (b, c)) :
  Con Tryz.prog 244 #[.pointer (some ⟨b, 0, none⟩)] E l (fun _ : Unit => .tuple #[.agg (encI c.1).toArray, .bool c.2]) (fun _ => coA p s :: m) := fun w H => by
 refine (?_ : Jk E l 0 [] fun _ w => Calls Tryz.prog 244 #[.pointer (some ⟨b, 0, none⟩)] w fun e w' => ∃ x, e = .returned ((fun _ : Unit => .tuple #[.agg (encI c.1).toArray, .bool c.2]) x) ∧ Sep E w' ((fun _ : Unit => coA p s :: m) x)) w _ H fr0
 obtain ⟨j, hj⟩ := look_ix hl
 have hjl := (List.getElem?_eq_some_iff.1 hj).1
 refine J_pick hp <| J_coO fun bn be br bg bt bs bp bl bk _ => J_keyd (ps := ptrs s.rp) HS fun hK => ?_
 refine J_pick (A := each rpF s.rp) PC ?_
 refine J_eachOut hj ?_
 skip
 refine J_asTo (B := rpA b c) (by rfl) <| J_con (rpCaller (c := c) PC) fun x => ?_
 refine J_pick (A := rpA b c) PC ?_
 refine J_asTo (B := rpF (u, b, c)) (by rfl) <| J_pick (A := each rpF _) PC ?_
 refine J_pick (A := rpF (u, b, _)) PC ?_
 refine J_eachIn (u, b, c) hjl ?_
 skip
 refine J_asTo (B := each rpF s.rp) (by rw [lset_same hj]) <| J_coS (p := p) (s := s) bn be br bg bt bs bp bl bk PX trivial ?_
 exact J_end SU
theorem coEpSenders {E : World} {l m : List As} {p : Nat} {s : KS} (hp : Pick (coA p s) l m) {u : Int} {b : Nat} {out : List Msg} {inn : List Rcv} (hl : look s.ep u = some (b, out, inn)) (hbo : out.length ≤ 100000) (hbi : inn.length ≤ 100000) :
  Con Tryz.prog 300 #[.pointer (some ⟨b, 0, none⟩)] E l (fun x : Value => x) (fun x => row 340 5 x (out.map encM) :: coA p s :: m) := fun w H => by
 refine (?_ : Jk E l 0 [] fun _ w => Calls Tryz.prog 300 #[.pointer (some ⟨b, 0, none⟩)] w fun e w' => ∃ x, e = .returned ((fun x : Value => x) x) ∧ Sep E w' ((fun x : Value => row 340 5 x (out.map encM) :: coA p s :: m) x)) w _ H fr0
 obtain ⟨j, hj⟩ := look_ix hl
 have hjl := (List.getElem?_eq_some_iff.1 hj).1
 refine J_pick hp <| J_coO fun bn be br bg bt bs bp bl bk _ => J_keyd (ps := ptrs s.ep) HS fun hK => ?_
 refine J_pick (A := each epF s.ep) PC ?_
 refine J_eachOut hj ?_
 skip
 refine J_asTo (B := epA b out inn) (by rfl) <| J_con (epSenders (out := out) (inn := inn) PC hbo hbi) fun x => ?_
 refine J_pick (A := epA b out inn) PC ?_
 refine J_asTo (B := epF (u, b, out, inn)) (by rfl) <| J_pick (A := each epF _) PC ?_
 refine J_pick (A := epF (u, b, _)) PC ?_
 refine J_eachIn (u, b, out, inn) hjl ?_
 skip
 refine J_asTo (B := each epF s.ep) (by rw [lset_same hj]) <| J_coS (p := p) (s := s) bn be br bg bt bs bp bl bk PX trivial ?_
 exact J_end SU
theorem coEpReceivers {E : World} {l m : List As} {p : Nat} {s : KS} (hp : Pick (coA p s) l m) {u : Int} {b : Nat} {out : List Msg} {inn : List Rcv} (hl : look s.ep u = some (b, out, inn)) (hbo : out.length ≤ 100000) (hbi : inn.length ≤ 100000) :
  Con Tryz.prog 28 #[.pointer (some ⟨b, 0, none⟩)] E l (fun x : Value => x) (fun x => row 176 3 x (inn.map encR) :: coA p s :: m) := fun w H => by
 refine (?_ : Jk E l 0 [] fun _ w => Calls Tryz.prog 28 #[.pointer (some ⟨b, 0, none⟩)] w fun e w' => ∃ x, e = .returned ((fun x : Value => x) x) ∧ Sep E w' ((fun x : Value => row 176 3 x (inn.map encR) :: coA p s :: m) x)) w _ H fr0
 obtain ⟨j, hj⟩ := look_ix hl
 have hjl := (List.getElem?_eq_some_iff.1 hj).1
 refine J_pick hp <| J_coO fun bn be br bg bt bs bp bl bk _ => J_keyd (ps := ptrs s.ep) HS fun hK => ?_
 refine J_pick (A := each epF s.ep) PC ?_
 refine J_eachOut hj ?_
 skip
 refine J_asTo (B := epA b out inn) (by rfl) <| J_con (epReceivers (out := out) (inn := inn) PC hbo hbi) fun x => ?_
 refine J_pick (A := epA b out inn) PC ?_
 refine J_asTo (B := epF (u, b, out, inn)) (by rfl) <| J_pick (A := each epF _) PC ?_
 refine J_pick (A := epF (u, b, _)) PC ?_
 refine J_eachIn (u, b, out, inn) hjl ?_
 skip
 refine J_asTo (B := each epF s.ep) (by rw [lset_same hj]) <| J_coS (p := p) (s := s) bn be br bg bt bs bp bl bk PX trivial ?_
 exact J_end SU
theorem coWaitsEp {E : World} {l m : List As} {p : Nat} {s : KS} (hp : Pick (coA p s) l m) {u : Int} {b : Nat} {out : List Msg} {inn : List Rcv} (hl : look s.ep u = some (b, out, inn)) (hbo : out.length ≤ 100000) (hbi : inn.length ≤ 100000) :
  Con Tryz.prog 286 #[.pointer (some ⟨p, 0, none⟩), .agg (encI (4, u)).toArray] E l (fun v : Value => v) (fun v => row 39 2 v ((out.map Prod.fst ++ inn.map Prod.fst).map encI) :: coA p s :: m) := by
 refine Con.body (vs := [.pointer (some ⟨p, 0, none⟩), .agg (encI (4, u)).toArray]) (n := 80) Tryz.func286 rfl rfl [(0, .pointer (some ⟨p, 0, none⟩)), (1, .agg (encI (4, u)).toArray)] (env_ok 2 rfl) <| J_pick hp <| sr <| L_op <| x_box rfl rfl rfl fun b3 => ag rfl rfl <| nx <| ag rfl rfl ?_
 refine J_nil (el := 39) (sz := 2) <| nxx <| fa rfl rfl fa418_0 <| L_val rfl (v_load rfl ty3 HS (by exact rfl)) ?_
 refine nq <| J_block <| sr <| L_pur rfl (p_eql rfl rfl) <| ag rfl rfl <| nq <| J_bool (t := 17) (c := true) rfl (rfl) <| C_true rfl ?_
 refine sr <| mv rfl rfl <| fa rfl rfl fa418_1 <| L_val rfl (v_load rfl ty3 HS (by exact rfl)) ?_
 refine L_op <| xc fc27 (.cons rfl (.cons rfl .nil)) rfl (coEp (s := s) (u := u) PC) fun _ => ?_
 refine J_slot (t := 22) (v := .pointer (some ⟨b, 0, none⟩)) rfl (by rw [look_is hl]; rfl) <| ag rfl rfl <| nx <| mv rfl rfl <| L_pur rfl (p_neNilPtr Tryz.underlying57 rfl) <| nq <| J_bool (t := 24) (c := true) rfl (rfl) <| C_true rfl ?_
 refine J_seq <| sr <| mv rfl rfl <| L_op <| xc fc300 (.cons rfl .nil) rfl (coEpSenders (s := s) (u := u) PC hl hbo hbi) <| JR fun a26 c26 hw26 hl26 hm26 hz26 => ?_
 have hmo : (out.map encM).length = out.length := List.length_map _
 refine L_pur rfl (p_len rfl Tryz.underlying177) <| mv rfl rfl <| nq <| J_block <| J_loop2 (fun k v5 => k ≤ out.length) (fun k v5 => row 39 2 v5 (((out.take k).map Prod.fst).map encI) :: row 340 5 (.slice a26 (out.map encM).length c26) (out.map encM) :: blk b3 418 [.int .i64 4, .int .i64 u] :: coA p s :: m) (fun k v5 => [(28, .int .i64 (k : Int)), (5, v5), (26, .slice a26 (out.map encM).length c26), (27, .int .i64 ((out.map encM).length : Int)), (6, .pointer (some ⟨b, 0, none⟩)), (3, .pointer (some ⟨b3, 0, none⟩)), (0, .pointer (some ⟨p, 0, none⟩))]) (fun k v5 => out.length - k) 0 _ (by omega) SU KE ?_
 intro k v5 hk
 refine sr <| L_pur rfl (p_lss rfl rfl) <| nq <| J_seq ?_
 refine C_dec rfl (fun h29 => ?_) (fun h29 => ?_)
 have hlt : k < out.length := by omega
 obtain ⟨bx, ox, rfl⟩ := hz26 (by intro h; rw [h] at hmo; simp at hmo; omega)
 obtain ⟨c, hcc⟩ : ∃ c, out[k]? = some c := ⟨_, List.getElem?_eq_getElem hlt⟩
 refine J_skip <| Q_then <| J_seq <| J_block <| sr <| L_pur rfl (p_indexAddr rfl rfl Tryz.underlying177 ty340 (by omega) (by omega)) ?_
 refine L_val rfl (v_loadE rfl ty340 HS (by first | (simp only [Int.toNat_natCast, List.getElem?_map, hcc]; rfl) | (simp only [Int.toNat_natCast, List.getElem?_map, hcd]; rfl) | simp | rfl)) ?_
 refine L_op <| x_alloc ty340 rfl fun b8 => L_op <| x_store rfl rfl ty340 rfl SM SM RO PT ?_
 refine ny <| mv rfl rfl <| fa rfl rfl fa340_0 <| L_val rfl (v_loadA rfl ty39 HS CT) ?_
 refine L_op <| x_lit (vals := [_]) Tryz.underlying208 ty39 rfl (.cons rfl .nil) (.agg .nil) (Wf.cons rfl rfl Wf.nil) rfl (by decide) rfl rfl <| JR fun a35 c35 hw35 hl35 hm35 hz35 => L_op <| x_app rfl rfl Tryz.underlying208 ty39 rfl rfl PC (fun w H => sep_reads HS H) (by simp; omega) (by simp; omega) rfl <| JE (((out.take (k + 1)).map Prod.fst).map encI) (by rw [List.take_add_one, hcc]; simp [encI]) fun a36 c36 hw36 hl36 hm36 hz36 => ag rfl rfl <| L_nil ?_
 refine Q_blk_normal <| qr <| L_pur rfl (p_add64 rfl rfl (by omega)) <| mv rfl rfl <| nq ?_
 exact J_again2 (k + 1) _ (by omega) (by omega) SU KE
 have hko : k = out.length := by omega
 subst hko
 refine J_pick (A := row 39 2 v5 _) PC ?_
 refine J_rowEq (ys := (out.map Prod.fst ++ (inn.take 0).map Prod.fst).map encI) (by rw [List.take_length, List.take_zero]; simp) <| J_exit <| Q_then_exit <| Q_then_exit <| Q_blk_this <| qx <| mv rfl rfl <| L_op <| xc fc28 (.cons rfl .nil) rfl (coEpReceivers (s := s) (u := u) PC hl hbo hbi) ?_
 refine JR fun a39 c39 hw39 hl39 hm39 hz39 => ?_
 have hmi : (inn.map encR).length = inn.length := List.length_map _
 refine L_pur rfl (p_len rfl Tryz.underlying59) <| mv rfl rfl <| nq <| J_block <| J_loop2 (fun k v5 => k ≤ inn.length) (fun k v5 => row 39 2 v5 ((out.map Prod.fst ++ (inn.take k).map Prod.fst).map encI) :: row 176 3 (.slice a39 (inn.map encR).length c39) (inn.map encR) :: coA p s :: m) (fun k v5 => [(41, .int .i64 (k : Int)), (5, v5), (39, .slice a39 (inn.map encR).length c39), (40, .int .i64 ((inn.map encR).length : Int)), (0, .pointer (some ⟨p, 0, none⟩))]) (fun k v5 => inn.length - k) 0 _ (by omega) SU KE ?_
 intro k v5 hk
 refine sr <| L_pur rfl (p_lss rfl rfl) <| nq <| J_seq ?_
 refine C_dec rfl (fun h42 => ?_) (fun h42 => ?_)
 have hlt : k < inn.length := by omega
 obtain ⟨bx, ox, rfl⟩ := hz39 (by intro h; rw [h] at hmi; simp at hmi; omega)
 obtain ⟨c, hcc⟩ : ∃ c, inn[k]? = some c := ⟨_, List.getElem?_eq_getElem hlt⟩
 refine J_skip <| Q_then <| J_seq <| J_block <| sr <| L_pur rfl (p_indexAddr rfl rfl Tryz.underlying59 ty176 (by omega) (by omega)) ?_
 refine L_val rfl (v_loadE rfl ty176 HS (by first | (simp only [Int.toNat_natCast, List.getElem?_map, hcc]; rfl) | (simp only [Int.toNat_natCast, List.getElem?_map, hcd]; rfl) | simp | rfl)) ?_
 refine L_op <| x_alloc ty176 rfl fun b10 => L_op <| x_store rfl rfl ty176 rfl SM SM RO PT ?_
 refine ny <| mv rfl rfl <| fa rfl rfl fa176_0 <| L_val rfl (v_loadA rfl ty39 HS CT) ?_
 refine L_op <| x_lit (vals := [_]) Tryz.underlying208 ty39 rfl (.cons rfl .nil) (.agg .nil) (Wf.cons rfl rfl Wf.nil) rfl (by decide) rfl rfl <| JR fun a48 c48 hw48 hl48 hm48 hz48 => L_op <| x_app rfl rfl Tryz.underlying208 ty39 rfl rfl PC (fun w H => sep_reads HS H) (by simp; omega) (by simp; omega) rfl <| JE ((out.map Prod.fst ++ (inn.take (k + 1)).map Prod.fst).map encI) (by rw [List.take_add_one, hcc]; simp [encI]) fun a49 c49 hw49 hl49 hm49 hz49 => ag rfl rfl <| L_nil ?_
 refine Q_blk_normal <| qr <| L_pur rfl (p_add64 rfl rfl (by omega)) <| mv rfl rfl <| nq ?_
 exact J_again2 (k + 1) _ (by omega) (by omega) SU KE
 have hko : k = inn.length := by omega
 subst hko
 refine J_pick (A := row 39 2 v5 _) PC ?_
 refine J_rowEq (ys := (out.map Prod.fst ++ inn.map Prod.fst).map encI) (by rw [List.take_length]) <| J_exit <| Q_then_exit <| Q_then_exit <| Q_blk_this <| Q_blk_normal <| qx <| mv rfl rfl ?_
 refine ag rfl rfl <| nq <| J_ret ?_
 exact J_return (_) Tryz.results286 (.tmp rfl .nil) rfl SU
theorem coWaitsNt {E : World} {l m : List As} {p : Nat} {s : KS} (hp : Pick (coA p s) l m) {u : Int} {b : Nat} {w0 : Int} {xs : List ID} (hl : look s.nt u = some (b, w0, xs)) (hb : xs.length ≤ 100000) :
    Con Tryz.prog 286 #[.pointer (some ⟨p, 0, none⟩), .agg (encI (5, u)).toArray] E l (fun v : Value => v) (fun v => row 39 2 v (xs.map encI) :: coA p s :: m) := by
  refine Con.body (vs := [.pointer (some ⟨p, 0, none⟩), .agg (encI (5, u)).toArray]) (n := 80) Tryz.func286 rfl rfl [(0, .pointer (some ⟨p, 0, none⟩)), (1, .agg (encI (5, u)).toArray)] (env_ok 2 rfl) <| J_pick hp <| sr <| L_op <| x_box rfl rfl rfl fun b3 => ag rfl rfl <| nx <| ag rfl rfl ?_
  refine nxx <| fa rfl rfl fa418_0 <| L_val rfl (v_load rfl ty3 HS (by exact rfl)) ?_
  refine nq <| J_block <| sr <| L_pur rfl (p_eql rfl rfl) <| ag rfl rfl <| nq <| J_bool (t := 17) (c := false) rfl (rfl) <| C_false rfl ?_
  refine sr <| L_pur rfl (p_eql rfl rfl) <| ag rfl rfl <| nq <| J_bool (t := 51) (c := true) rfl (rfl) <| C_true rfl <| sr <| mv rfl rfl ?_
  refine fa rfl rfl fa418_1 <| L_val rfl (v_load rfl ty3 HS (by exact rfl)) ?_
  refine L_op <| xc fc36 (.cons rfl (.cons rfl .nil)) rfl (coNotif (s := s) (u := u) PC) fun _ => ?_
  refine J_slot (t := 56) (v := .pointer (some ⟨b, 0, none⟩)) rfl (by rw [look_is hl]; rfl) <| ag rfl rfl <| nx <| mv rfl rfl <| L_pur rfl (p_neNilPtr Tryz.underlying79 rfl) <| nq <| J_bool (t := 58) (c := true) rfl (rfl) <| C_true rfl ?_
  refine J_region <| mv rfl rfl <| L_op <| xc fc301 (.cons rfl .nil) rfl (coNtWaits (s := s) (u := u) PC hl hb) <| JR fun a60 c60 hw60 hl60 hm60 hz60 => ag rfl rfl <| L_nil <| Q_blk_normal ?_
  refine qx <| mv rfl rfl <| ag rfl rfl <| nq <| J_ret ?_
  exact J_return (_) Tryz.results286 (.tmp rfl .nil) rfl SU
theorem coWaitsRp {E : World} {l m : List As} {p : Nat} {s : KS} (hp : Pick (coA p s) l m) {u : Int} {b : Nat} {c : ID × Bool} (hl : look s.rp u = some (b, c)) :
  Con Tryz.prog 286 #[.pointer (some ⟨p, 0, none⟩), .agg (encI (7, u)).toArray] E l (fun v : Value => v) (fun v => row 39 2 v ((if c.2 = true then [c.1] else []).map encI) :: coA p s :: m) := by
 refine Con.body (vs := [.pointer (some ⟨p, 0, none⟩), .agg (encI (7, u)).toArray]) (n := 80) Tryz.func286 rfl rfl [(0, .pointer (some ⟨p, 0, none⟩)), (1, .agg (encI (7, u)).toArray)] (env_ok 2 rfl) <| J_pick hp <| sr <| L_op <| x_box rfl rfl rfl fun b3 => ag rfl rfl <| nx <| ag rfl rfl ?_
 refine J_nil (el := 39) (sz := 2) <| nxx <| fa rfl rfl fa418_0 <| L_val rfl (v_load rfl ty3 HS (by exact rfl)) ?_
 refine nq <| J_block <| sr <| L_pur rfl (p_eql rfl rfl) <| ag rfl rfl <| nq <| J_bool (t := 17) (c := false) rfl (rfl) <| C_false rfl ?_
 refine sr <| L_pur rfl (p_eql rfl rfl) <| ag rfl rfl <| nq <| J_bool (t := 51) (c := false) rfl (rfl) <| C_false rfl <| sr <| L_pur rfl (p_eql rfl rfl) ?_
 refine ag rfl rfl <| nq <| J_bool (t := 61) (c := true) rfl (rfl) <| C_true rfl <| sr <| mv rfl rfl <| fa rfl rfl fa418_1 <| L_val rfl (v_load rfl ty3 HS (by exact rfl)) ?_
 refine L_op <| xc fc20 (.cons rfl (.cons rfl .nil)) rfl (coReply (s := s) (u := u) PC) fun _ => ?_
 refine J_slot (t := 66) (v := .pointer (some ⟨b, 0, none⟩)) rfl (by rw [look_is hl]; rfl) <| ag rfl rfl <| nx <| mv rfl rfl <| L_pur rfl (p_neNilPtr Tryz.underlying42 rfl) <| nq <| J_bool (t := 68) (c := true) rfl (rfl) <| C_true rfl ?_
 refine sr <| mv rfl rfl <| L_op <| xc fc244 (.cons rfl .nil) rfl (coRpCaller (s := s) (u := u) (c := c) PC hl) fun _ => ?_
 refine mv rfl rfl <| L_pur rfl (p_extract rfl rfl) <| L_pur rfl (p_extract rfl rfl) <| L_op <| x_alloc ty39 rfl fun b13 => L_op <| x_store rfl rfl ty39 rfl SM SM RO PT ?_
 refine J_pick (A := blk b13 _ _) PC ?_
 refine J_asTo (B := blk b13 39 (encI c.1)) (by rfl) <| ag rfl rfl <| nx <| mv rfl rfl <| nq ?_
 refine C_split rfl (fun h74 => ?_) (fun h74 => ?_)
 refine J_region <| mv rfl rfl <| L_val rfl (v_loadA rfl ty39 HS CT) ?_
 refine L_op <| x_lit (vals := [_]) Tryz.underlying208 ty39 rfl (.cons rfl .nil) (.agg .nil) (Wf.cons rfl rfl Wf.nil) rfl (by decide) rfl rfl <| JR fun a77 c77 hw77 hl77 hm77 hz77 => L_op <| x_app rfl rfl Tryz.underlying208 ty39 rfl rfl PC (fun w H => sep_reads HS H) (by simp) (by simp) rfl <| JE ((if c.2 = true then [c.1] else []).map encI) (by rw [if_pos h74]; rfl) fun a78 c78 hw78 hl78 hm78 hz78 => ag rfl rfl <| L_nil ?_
 refine Q_blk_normal <| qx <| mv rfl rfl <| ag rfl rfl <| nq <| J_ret ?_
 exact J_return (_) Tryz.results286 (.tmp rfl .nil) rfl SU
 refine J_pick (A := row 39 2 (.slice none 0 0) []) PC ?_
 refine J_rowEq (ys := (if c.2 = true then [c.1] else []).map encI) (by rw [h74]; rfl) <| J_skip <| Q_blk_normal <| qx <| mv rfl rfl <| ag rfl rfl <| nq <| J_ret ?_
 exact J_return (_) Tryz.results286 (.tmp rfl .nil) rfl SU
def kEnds (s : KS) (l : List ID) : KS := l.foldl (fun s i => kDec s.rt.length s i (-9) 0) s
theorem kEnds_snoc {s : KS} {l : List ID} {i : ID} : kEnds s (l ++ [i]) = kDec (kEnds s l).rt.length (kEnds s l) i (-9) 0 := by unfold kEnds; rw [List.foldl_append]; rfl
theorem Fits.ends {N M : Nat} : ∀ {l : List ID} {s : KS}, Fits s N M → Fits (kEnds s l) N M
  | [], _, h => h
  | i :: l, s, h => Fits.ends (l := l) (Fits.dec _ (i := i) (r := -9) (v := 0) h).1
end Go.Pse
namespace Go.Pse
open Go.RowKit
section
variable {P : Program} {ops : Array Oper} {Q : Exit → Act → World → Prop} {E : World} {l L : List As} {n : Nat} {F : Env}
theorem I_takeOnP {i : Nat} {o : Oper} {v : Value} {d : Nat} {g : Option Nat} {fuel : Nat} {listed : Array Bool} (ho : ops[i]? = some o) (hd : o.dst = some d) (hdn : Nat.blt d n = true) {j t : Nat} {c : Bool} {og : Oper} (hg : o.guard = some (j, c)) (hj : ops[j]? = some og) (ht : og.dst = some t) (hb : get F t = some (.bool c))
    (hok : takeOkP g ops listed i = true)
    (hQ : ∀ c a v w, Q (.panic c) (a.put (some d) v) w → Q (.panic c) a w) (hv : Pur P o F n v)
    (k : Jk E l n ((d, v) :: F) (wpI P .any ops Q (Inv L) g fuel (listed.setIfInBounds i true))) : Jk E l n F (wpI P .any ops Q (Inv L) g (fuel + 1) listed) := fun w a H hF => by
  simp only [takeOkP, Bool.and_eq_true] at hok
  obtain ⟨⟨⟨h1, h2⟩, h3⟩, h4⟩ := hok
  have h0 : yielded ops a.tmps j = some c := by simp [yielded, hj, ht, hF.get t _ hb]
  exact wpI_firstP ho (Region.noSelect_spec h1) (by rw [hd]; exact fun c a w => hQ c a v w) (fun e => by subst e; simp at h4) fuel listed a w (Region.free_spec ho h2) (by simpa using h3) (Or.inl ⟨by simp [Region.wanted, hg, h0], fun w _ => hv a hF w⟩) (by rw [hd]; exact k w _ H (hF.put hdn))
end
end Go.Pse
namespace Go.Pse
open Go.RowKit Go.Proofs
/-! ### plain: what is decided, one thing at a time; all but rings, memory, the journal stays -/
def atJ (jn : List Deed) (i : ID) : Option Deed := jn.find? fun d => decide (d.1 = i)
theorem atJ_none {jn : List Deed} {i : ID} (h0 : ∀ e ∈ jn, e.1 ≠ i) : atJ jn i = none := List.find?_eq_none.2 fun e he => by simpa using h0 e he
def askR (jn : List Deed) (i : ID) : Int × Int × Bool := match atJ jn i with
  | none => (0, 0, false)
  | some d => (d.2.2.2.1, d.2.2.2.2.1, true)
def rqN (i : ID) (e : Sqe) : Rq := ⟨i, e, 0, false, false⟩
def rtS (ps : List (ID × Rq)) (i : ID) : List (ID × Rq) := match look ps i with
  | none => ps
  | some q => ins ps i { q with started := true }
end Go.Pse
namespace Go.Pse
open Go.RowKit Go.Proofs
/-! ### How all begins: what hangs on the number of threads, of units, on what is shared, and on nothing else -/
abbrev Core := Int × Bool × List (Place × SV) × List (Place × M1) × List (Int × Th) × List (Int × Int)
def kCore (s : KS) : Core := (s.cu, s.sh, s.sl, s.mp, s.th, s.q)
def kStep (k : Core) (b t h : Int) : Core := (k.1, k.2.1, tput b k.2.2.1 0 (tcap8 b k.1 ++ if k.2.1 then tcap2 t h else []), tmap b k.2.2.2.1 2, ins k.2.2.2.2.1 (b + 1) (thOf b), qAdd k.2.2.2.2.2 (b + 1) 4)
def cTh (k : Core) (u h : Int) : Nat → Core
  | 0 => k
  | i + 1 => kStep (cTh k u h i) (bOf u i) (i : Int) h
theorem kThread_core {s : KS} {b t h : Int} {r c : Nat} : kCore (kThread s b t h r c) = kStep (kCore s) b t h := by
  simp only [kCore, kStep, kThread, tcaps]
  congr 1
theorem kTh_core {s : KS} {h : Int} {bs : Nat → Nat × Nat} : ∀ i, kCore (kTh s h bs i) = cTh (kCore s) s.cu h i
  | 0 => rfl
  | i + 1 => by
    rw [kTh, kThread_core, kTh_core i, cTh]
def coreN (ct cu : Nat) (sh : Bool) : Core := cTh ((cu : Int), sh, [], [], [], []) (cu : Int) (hOf (ct : Int) (cu : Int)) ct
theorem cut_id {n lo hi : Int} (h : lo ≤ n ∧ n ≤ hi) : cutI n lo hi = n := by unfold cutI; split <;> split <;> omega
section
variable {ct cu : Nat} {cs cc : Int} {sh : Bool} {g : NewG} (h1 : 1 ≤ ct ∧ ct ≤ 3) (h2 : 1 ≤ cu ∧ cu ≤ 12)
include h1 h2 in
theorem kNew_is : kNew (ct : Int) (cu : Int) cs cc sh g = kTh (kBase (ct : Int) (cu : Int) (cutI cs 0 3) (cutI cc 0 4) sh g.mb g.be g.bn) (hOf (ct : Int) (cu : Int)) g.bs ct := by
  unfold kNew
  rw [cut_id (show (1 : Int) ≤ (ct : Int) ∧ (ct : Int) ≤ 3 by omega), cut_id (show (1 : Int) ≤ (cu : Int) ∧ (cu : Int) ≤ 12 by omega), Int.toNat_natCast]
include h1 h2 in
theorem kNew_core : kCore (kNew (ct : Int) (cu : Int) cs cc sh g) = coreN ct cu sh := by
  rw [kNew_is h1 h2, kTh_core]
  cases sh <;> rfl
include h1 h2 in
include h1 h2 in
end
end Go.Pse
namespace Go.Pse
open Go.RowKit Go.Proofs
/-! ### plain: one thread alone, two that share: how they begin -/
structure Al2 (K : KS) (g : NewG) : Prop where
 rt : K.rt = []
 jn : K.jn = []
 tm : K.tm = []
 nt : K.nt = [(28, g.bn, 0, [])]
 ep : K.ep = [(27, g.be, [], [])]
 rp : K.rp = [(7, (g.bs 0).2, (0, 0), false), (20, (g.bs 1).2, (0, 0), false)]
 rg : K.rg = [(4, (g.bs 0).1, rgNew 5 6 3 4), (17, (g.bs 1).1, rgNew 18 19 3 4)]
 be4 : look K.be 4 = some (28, 1)
 be17 : look K.be 17 = some (28, 2)
 mem : K.mem = List.replicate 64 zrow
 tk : K.tk = [(4, 0), (17, 0)]
 th : K.th = [(2, thOf 1), (15, thOf 14)]
 q : K.q = [(2, 4), (15, 4)]
 pr : K.pr = []
 mr : K.mr = []
 sp : K.sp = [(3, true), (16, true)]
 mp : K.mp = [((3, 0), (5, 3)), ((3, 1), (6, 3)), ((16, 0), (18, 3)), ((16, 1), (19, 3))]
 sl : K.sl = (coreN 2 6 true).2.2.1
 fit : Fits K 40 60
theorem al2_sl (g : NewG) : (kNew 2 6 3 4 true g).sl = (coreN 2 6 true).2.2.1 := by
  have hc : kCore (kNew ((2 : Nat) : Int) ((6 : Nat) : Int) 3 4 true g) = coreN 2 6 true := kNew_core (by omega) (by omega)
  rw [show ((2 : Nat) : Int) = 2 from rfl, show ((6 : Nat) : Int) = 6 from rfl] at hc
  unfold kCore at hc
  rw [← hc]
theorem al2_fit (g : NewG) : Fits (kNew 2 6 3 4 true g) 40 60 := by
  refine ⟨by omega, by omega, Ids.nil, by show 0 ≤ 60; omega, by show 0 ≤ 40; omega, fun x hx => ?_, fun x hx => ?_, fun x hx => ?_, fun x hx => ?_, zrow_ok⟩
  · obtain rfl := List.mem_singleton.1 (show x ∈ [(27, g.be, [], [])] from hx)
    exact ⟨⟨by show (1 : Int) ≤ 27; omega, by show (27 : Int) ≤ 64; omega⟩, by show 0 ≤ 40; omega, by show 0 ≤ 40; omega⟩
  · obtain rfl := List.mem_singleton.1 (show x ∈ [(28, g.bn, 0, [])] from hx)
    exact ⟨⟨by show (1 : Int) ≤ 28; omega, by show (28 : Int) ≤ 64; omega⟩, by show 0 ≤ 40; omega⟩
  · have h : x ∈ [(7, (g.bs 0).2, (0, 0), false), (20, (g.bs 1).2, (0, 0), false)] := hx
    rcases List.mem_cons.1 h with rfl | h
    · exact ⟨by show (1 : Int) ≤ 7; omega, by show (7 : Int) ≤ 64; omega⟩
    · obtain rfl := List.mem_singleton.1 h
      exact ⟨by show (1 : Int) ≤ 20; omega, by show (20 : Int) ≤ 64; omega⟩
  · have h : x ∈ [(4, (g.bs 0).1, rgNew 5 6 3 4), (17, (g.bs 1).1, rgNew 18 19 3 4)] := hx
    rcases List.mem_cons.1 h with rfl | h
    · exact ⟨rgNew_ok (a := 5) (by omega), by show 0 ≤ 60; omega⟩
    · obtain rfl := List.mem_singleton.1 h
      exact ⟨rgNew_ok (a := 18) (by omega), by show 0 ≤ 60; omega⟩
theorem al2_is (g : NewG) : Al2 (kNew 2 6 3 4 true g) g := ⟨rfl, rfl, rfl, rfl, rfl, rfl, rfl, rfl, rfl, rfl, rfl, rfl, rfl, rfl, rfl, rfl, rfl, al2_sl g, al2_fit g⟩
section
variable {K : KS} {g : NewG} {L : List (Place × SV)} {q pr : List (Int × Int)} {c w : Int} {jn : List Deed} {RG : List (Int × Nat × Rg)} {MS : List (List Int)} {e : Sqe}
end
end Go.Pse
namespace Go.Pse
open Go.RowKit Go.Proofs
/-! ### plain: addresses of a node's slots -/
theorem addr_or : ∀ k : Nat, k < 16 → bits .or .u32 ((k : Int) * 256) 4 = (k : Int) * 256 + 4 := by decide
theorem addr_shl : ∀ k : Nat, k < 16 → IntKind.u32.wrap ((k : Int) * 2 ^ 8) = (k : Int) * 256 := by decide
abbrev atK (k : Nat) : Int := (k : Int) * 256 + 4
theorem joinC {E : World} {l : List As} {k : Nat} (hk : k < 16) :
    Con Tryz.prog 23 #[.int .i64 (k : Int), .int .i64 4] E l (fun _ : Unit => .int .u32 (atK k)) (fun _ => l) := by
  refine Con.body (vs := [.int .i64 (k : Int), .int .i64 4]) (n := 12) Tryz.func23 rfl rfl [(0, .int .i64 (k : Int)), (1, .int .i64 4)] (env_ok 2 rfl) <| sr <| ag rfl rfl <| nx <| mv rfl rfl <| L_pur rfl (p_conv rfl Tryz.underlying3 Tryz.underlying22) <| J_slot (t := 6) (v := .int .u32 (k : Int)) rfl (by rw [wrap32u_of (by omega)]) <| L_pur rfl (p_shl rfl rfl (by omega) (by have : (IntKind.u32.bits : Int) = 32 := rfl; omega)) ?_
  refine J_slot (t := 7) (v := .int .u32 ((k : Int) * 256)) rfl (by rw [← addr_shl k hk]; rfl) <| mv rfl rfl <| L_pur rfl (p_conv rfl Tryz.underlying3 Tryz.underlying22) <| J_slot (t := 9) (v := .int .u32 4) rfl rfl <| L_pur rfl (p_and rfl rfl) <| J_slot (t := 10) (v := .int .u32 4) rfl rfl <| L_pur rfl (p_or rfl rfl) <| J_slot (t := 11) (v := .int .u32 (atK k)) rfl (by rw [addr_or k hk]) ?_
  refine ag rfl rfl <| nq <| J_ret ?_
  refine J_return (()) Tryz.results23 (.tmp rfl .nil) ?_ ?_
  · rfl
  · exact SU
theorem slotC {E : World} {l : List As} {k : Nat} (hk : k < 16) :
    Con Tryz.prog 16 #[.int .i64 (k : Int)] E l (fun _ : Unit => .int .u32 (atK k)) (fun _ => l) := by
  refine Con.body (vs := [.int .i64 (k : Int)]) (n := 5) Tryz.func16 rfl rfl [(0, .int .i64 (k : Int))] (env_ok 1 rfl) <| sr <| ag rfl rfl <| nx <| mv rfl rfl <| L_op <| xc fc23 (.cons rfl (.cons rfl .nil)) rfl (joinC hk) fun _ => ag rfl rfl ?_
  refine nq <| J_ret ?_
  exact J_return (()) Tryz.results16 (.tmp rfl .nil) rfl SU
def actA (a p : Nat) (T : Th) (q : Rq) (i : ID) : As := blk a 250 [.pointer (some ⟨p, 0, none⟩), .int .i64 T.unit, .int .i64 T.space, .int .i64 T.ring, .int .i64 T.root.kind, .int .i64 T.root.obj, .int .i64 T.root.size, .int .i64 T.root.badge, .int .i64 T.root.rights, .int .i64 q.id.1, .int .i64 q.id.2, .int .i64 q.e.op, .int .i64 q.e.flags, .int .u32 q.e.tag, .int .u32 q.e.cap, .int .u32 q.e.a, .int .u32 q.e.b, .int .u32 q.e.c, .int .u32 q.e.time, .int .i64 q.prev, .bool q.soft, .bool q.started, .int .i64 i.1, .int .i64 i.2]
theorem failsC {E : World} {l : List As} {n : Int} (hn : 0 ≤ n ∧ n ≤ 100) :
    Con Tryz.prog 128 #[.int .i64 n] E l (fun _ : Unit => .agg #[.int .i64 (-n), .int .u32 0, .bool false]) (fun _ => l) := by
  refine Con.body (vs := [.int .i64 n]) (n := 6) Tryz.func128 rfl rfl [(0, .int .i64 n)] (env_ok 1 rfl) <| sr <| L_op <| x_alloc ty247 rfl fun b2 => nx <| mv rfl rfl <| L_pur rfl (p_neg64 rfl (by omega)) <| L_pur rfl (bld247 (.cons rfl .nil) (by repeat constructor)) ?_
  refine L_op <| x_store rfl rfl ty247 rfl SM SM RO PT ?_
  refine nq <| J_ret ?_
  refine J_return (()) Tryz.results128 (.cellA rfl ty247 HS CT .nil) ?_ ?_
  · rfl
  · exact SU
end Go.Pse
namespace Go.Pse
open Go.RowKit Go.Proofs
theorem rtStartC {E : World} {l m : List As}  {b o : Nat} {ps : List (ID × Rq)} (hp : Pick (rtA b o ps) l m) {i : ID} :
    Con Tryz.prog 52 #[.pointer (some ⟨b, o, none⟩), .agg (encI i).toArray] E l (fun _ : Unit => .bool (look ps i).isSome) (fun _ => rtA b o (rtS ps i) :: m) := by
  refine Con.body (vs := [.pointer (some ⟨b, o, none⟩), .agg (encI i).toArray]) (n := 25) Tryz.func52 rfl rfl [(0, .pointer (some ⟨b, o, none⟩)), (1, .agg (encI i).toArray)] (env_ok 2 rfl) <| J_pick hp <| J_rtO fun ob _ => sr <| L_op <| x_box rfl rfl rfl fun b3 => ag rfl rfl <| nq ?_
  refine J_seq <| J_drawL none mixed <| ip 0 rfl rfl rfl rfl (p_move rfl) <| ip 1 rfl rfl rfl rfl (p_nilCheck rfl) <| ip 2 rfl rfl rfl rfl (p_fieldAddr rfl fa120_0) <| iv 3 rfl rfl rfl rfl (fun _ => v_loadL rfl ty118 HS rfl (by exact rfl)) ?_
  refine iv 4 rfl rfl rfl rfl (fun _ => v_loadA rfl ty39 HS CT) ?_
  refine iv 5 rfl rfl rfl rfl (fun _ => v_lookOk (ek := kI) (ev := evQ) (a := i) rfl rfl ky39 Tryz.underlying118 zv104 HS) ?_
  refine J_slot (t := 13) (v := .tuple #[evQ ((look ps i).getD q00), .bool (look ps i).isSome]) rfl (by cases look ps i <;> rfl) <| ip 6 rfl rfl rfl rfl (p_move rfl) <| ip 7 rfl rfl rfl rfl (p_extract rfl rfl) <| ip 8 rfl rfl rfl rfl (p_extract rfl rfl) <| i1 9 rfl <| x_alloc ty104 rfl fun b5 => i1 10 rfl <| x_store rfl rfl ty104 rfl SM SM RO PT ?_
  refine ip 11 rfl rfl rfl rfl (p_assign rfl) <| i0 <| Q_then <| J_seq <| sr <| mv rfl rfl <| nq ?_
  refine C_split rfl (fun h16 => ?_) (fun h16 => ?_)
  obtain ⟨q, hq⟩ : ∃ q, look ps i = some q := by
    cases hz : look ps i with
    | none => rw [hz] at h16; simp at h16
    | some q => exact ⟨q, rfl⟩
  rcases ob with _ | bm
  · exact J_mapNone (ps := ps) HS fun hps => by rw [hps] at hq; cases hq
  refine J_pick (A := blk b5 _ _) PC ?_
  refine J_asTo (B := blk b5 104 (encQ q)) (by rw [hq]; rfl) ?_
  have hrs : rtS ps i = ins ps i { q with started := true } := by unfold rtS; rw [hq]
  refine sr <| fa rfl rfl fa104_4 <| L_op <| x_store rfl rfl ty4 rfl SM SM RO PT ?_
  refine J_pick (A := blk b5 _ _) PC ?_
  refine J_asTo (B := blk b5 104 (encQ { q with started := true })) (by rfl) <| nq <| J_drawT 6 mixed (by kernel_rfl) <| sm rfl rfl <| sp rfl (p_nilCheck rfl) <| sp rfl (p_fieldAddr rfl fa120_0) <| S_val rfl (v_loadL rfl ty118 HS rfl (by exact rfl)) ?_
  refine S_val rfl (v_loadA rfl ty39 HS CT) ?_
  refine S_val rfl (v_loadA rfl ty104 HS CT) ?_
  refine S_nil <| L_op <| x_mapUpdate (ek := kI) (ev := evQ) (a := i) (c := { q with started := true }) rfl rfl rfl ky39 Tryz.underlying118 PC ?_
  refine nx <| mv rfl rfl <| ag rfl rfl <| nq <| J_ret <| J_pick (A := mapV kI evQ _ _) PC ?_
  refine J_mapEq (qs := rtS ps i) (by rw [hrs]) <| J_rtS (b := b) (o := o) (ps := rtS ps i) _ PX trivial ?_
  exact J_return (()) Tryz.results52 (.tmp rfl .nil) rfl SU
  have hno : look ps i = none := by
    cases hz : look ps i with
    | none => rfl
    | some q => rw [hz] at h16; simp at h16
  have hrs : rtS ps i = ps := by unfold rtS; rw [hno]
  refine J_skip <| qx <| mv rfl rfl <| ag rfl rfl <| nq <| J_ret <| J_rtS (b := b) (o := o) (ps := ps) _ PX trivial ?_
  refine J_asTo (B := rtA b o (rtS ps i)) (by rw [hrs]) ?_
  exact J_return (()) Tryz.results52 (.tmp rfl .nil) rfl SU
theorem coRqStart {E : World} {l m : List As} {p : Nat} {s : KS} (hp : Pick (coA p s) l m) {i : ID} :
    Con Tryz.prog 52 #[.pointer (some ⟨p, 10, none⟩), .agg (encI i).toArray] E l (fun _ : Unit => .bool (look s.rt i).isSome) (fun _ => coA p { s with rt := rtS s.rt i } :: m) := fun w H => by
  refine (?_ : Jk E l 0 [] fun _ w => Calls Tryz.prog 52 #[.pointer (some ⟨p, 10, none⟩), .agg (encI i).toArray] w fun e w' => ∃ x, e = .returned ((fun _ : Unit => .bool (look s.rt i).isSome) x) ∧ Sep E w' ((fun _ : Unit => coA p { s with rt := rtS s.rt i } :: m) x)) w _ H fr0
  refine J_pick hp <| J_coO fun bn be br bg bt bs bp bl bk _ => J_con (rtStartC (ps := s.rt) (i := i) PC) fun x => ?_
  refine J_coS (p := p) (s := { s with rt := rtS s.rt i }) bn be br bg bt bs bp bl bk PX trivial ?_
  exact J_end SU
def idxJ (xs : List Deed) (i : ID) : Option Nat := xs.findIdx? fun d => decide (d.1 = i)
theorem idxJ_some {xs : List Deed} {i : ID} {k : Nat} {d : Deed} (h : xs[k]? = some d) (hd : d.1 = i) (h0 : ∀ e ∈ xs.take k, e.1 ≠ i) : idxJ xs i = some k ∧ atJ xs i = some d := by
  obtain ⟨hk, he⟩ := List.getElem?_eq_some_iff.1 h
  have hj : ∀ j (hj : j < k), xs[j].1 ≠ i := fun j hj => h0 _ (List.mem_iff_getElem.2 ⟨j, by simp; omega, by simp⟩)
  constructor
  · unfold idxJ
    rw [List.findIdx?_eq_some_iff_getElem]
    exact ⟨hk, by rw [he]; simpa using hd, fun j hj' => by simpa using hj j hj'⟩
  · unfold atJ
    rw [List.find?_eq_some_iff_getElem]
    exact ⟨by simpa using hd, k, hk, he, fun j hj' => by simpa using hj j hj'⟩
theorem idxJ_none {xs : List Deed} {i : ID} (h0 : ∀ e ∈ xs, e.1 ≠ i) : idxJ xs i = none ∧ atJ xs i = none := by
  constructor
  · unfold idxJ
    rw [List.findIdx?_eq_none_iff]
    intro e he
    simpa using h0 e he
  · exact atJ_none h0
theorem idxJ_at {xs : List Deed} {i : ID} {k : Nat} (h : idxJ xs i = some k) : ∃ d, xs[k]? = some d ∧ atJ xs i = some d := by
  unfold idxJ at h
  rw [List.findIdx?_eq_some_iff_getElem] at h
  obtain ⟨hk, h1, h2⟩ := h
  refine ⟨xs[k], List.getElem?_eq_getElem hk, ?_⟩
  unfold atJ
  rw [List.find?_eq_some_iff_getElem]
  exact ⟨h1, k, hk, rfl, fun j hj => by simpa using h2 j hj⟩
theorem idxJ_no {xs : List Deed} {i : ID} (h : idxJ xs i = none) : atJ xs i = none := by
  unfold idxJ at h
  rw [List.findIdx?_eq_none_iff] at h
  exact atJ_none fun e he => by simpa using h e he
theorem atC {E : World} {l : List As} {v : Value} {xs : List Deed} {i : ID} (hr : ∀ w, Sep E w l → Reads w 7 v (xs.map encD)) (hb : xs.length ≤ 200000) :
    Con Tryz.prog 19 #[v, .agg (encI i).toArray] E l (fun _ : Unit => .tuple #[.int .i64 (((idxJ xs i).getD 0 : Nat) : Int), .bool (idxJ xs i).isSome]) (fun _ => l) := by
  refine Con.body (vs := [v, .agg (encI i).toArray]) (n := 21) Tryz.func19 rfl rfl [(0, v), (1, .agg (encI i).toArray)] (env_ok 2 rfl) <| J_readsB hr fun hw a cap hv h1 h2 h3 => ?_
  subst hv
  have hm : cap ≤ 9223372036854775807 := h2
  have hml : (xs.map encD).length = xs.length := List.length_map _
  refine sr <| L_op <| x_box rfl rfl rfl fun b3 => ag rfl rfl <| ag rfl rfl <| nq <| J_seq <| J_seq ?_
  refine J_pick (A := blk b3 _ _) PC ?_
  refine J_asTo (B := blk b3 39 (encI i)) (by rfl) <| J_region <| ag rfl rfl <| nq <| J_block <| J_loop (α := Nat) (fun k => k ≤ xs.length ∧ ∀ e ∈ xs.take k, e.1 ≠ i) (fun k => blk b3 39 (encI i) :: l) (fun k => [(6, .int .i64 (k : Int)), (0, .slice a (xs.map encD).length cap), (3, .pointer (some ⟨b3, 0, none⟩))]) (fun k => xs.length - k) 0 ⟨by omega, by simp⟩ SU KE ?_
  intro k hk
  obtain ⟨hk, h0⟩ := hk
  refine J_seq <| sr <| mv rfl rfl <| mv rfl rfl <| L_pur rfl (p_len rfl Tryz.underlying32) <| L_pur rfl (p_lss rfl rfl) <| nq ?_
  refine C_dec rfl (fun h10 => ?_) (fun h10 => ?_)
  have hlt : k < xs.length := by omega
  obtain ⟨bx, ox, rfl⟩ := h3 (by intro h; rw [h] at hml; simp at hml; omega)
  obtain ⟨c, hcc⟩ : ∃ c, xs[k]? = some c := ⟨_, List.getElem?_eq_getElem hlt⟩
  refine J_skip <| Q_then <| J_seq <| J_block <| J_seq <| J_drawS mixed (by kernel_rfl) <| sm rfl rfl <| sm rfl rfl ?_
  refine sp rfl (p_indexAddr rfl rfl Tryz.underlying32 ty41 (by omega) (by omega)) <| sp rfl (p_fieldAddr rfl fa41_0) ?_
  refine S_val rfl (by first | exact v_loadFA rfl ty39 HS (by first | (simp only [Int.toNat_natCast, List.getElem?_map, hcc]; rfl) | (simp only [Int.toNat_natCast, List.getElem?_map, hcd]; rfl) | simp | rfl) CT | exact v_loadRFA rfl ty39 (fun w H => hr w (Sub.sep SU H)) (by first | (simp only [Int.toNat_natCast, List.getElem?_map, hcc]; rfl) | (simp only [Int.toNat_natCast, List.getElem?_map, hcd]; rfl) | simp | rfl) CT) ?_
  refine S_val rfl (v_loadA rfl ty39 HS CT) ?_
  refine sp rfl (p_eqv rfl rfl (fun w => eg39 _ _ _ _ _ w) (fun w => eqv39 _ _ _ _ w)) <| J_slot (t := 19) (v := .bool (decide (c.1 = i))) rfl (by congr 1; simp [Prod.ext_iff]) <| sq ?_
  refine C_dec rfl (fun h19 => ?_) (fun h19 => ?_)
  have hix := idxJ_some hcc h19 h0
  refine sr <| mv rfl rfl <| ag rfl rfl <| ag rfl rfl <| nq <| J_ret <| Q_blk_ret <| Q_then_ret ?_
  refine Q_then_ret <| Q_blk_ret <| Q_then_ret ?_
  refine J_return (()) Tryz.results19 (.tmp rfl (.tmp rfl .nil)) ?_ ?_
  · simp [one, hix.1]
  · exact SU
  refine J_skip <| Q_blk_normal <| qr <| mv rfl rfl <| L_pur rfl (p_add64 rfl rfl (by omega)) <| ag rfl rfl <| nq ?_
  exact J_again (k + 1) (by omega) (⟨by omega, fun e he => by
      rw [List.take_add_one, hcc] at he
      rcases List.mem_append.1 he with h | h
      · exact h0 e h
      · rw [List.mem_singleton.1 h]; exact h19⟩) SU KE
  have hkx : k = xs.length := by omega
  rw [hkx, List.take_length] at h0
  have hix := idxJ_none h0
  refine J_exit <| Q_then_exit <| Q_then_exit <| Q_blk_this <| qx <| ag rfl rfl <| ag rfl rfl <| nq ?_
  refine J_ret ?_
  refine J_return (()) Tryz.results19 (.tmp rfl (.tmp rfl .nil)) ?_ ?_
  · simp [one, hix.1]
  · exact SU
abbrev encE (o : Option (Int × Int)) : Value := .agg #[.int .i64 (o.getD (0, 0)).1, .int .u32 (o.getD (0, 0)).2, .bool o.isNone]
end Go.Pse
namespace Go.Pse
open Go.RowKit Go.Proofs
/-! ### plain: addresses; the way to a slot -/
theorem shl1_24 : ∀ k : Nat, k ≤ 24 → shl1 (k : Int) = 2 ^ k ∧ (2 : Int) ^ k ≤ 16777216 ∧ (1 : Int) ≤ 2 ^ k := by decide
theorem and_mask64 {n : Int} {k : Nat} (hk : k ≤ 24) (hn : 0 ≤ n ∧ n < 4294967296) : bits .and .i64 n (2 ^ k - 1) = n % 2 ^ k := by
  obtain ⟨X, rfl⟩ := Int.eq_ofNat_of_zero_le hn.1
  have h2 : 1 ≤ 2 ^ k ∧ 2 ^ k ≤ 16777216 := ⟨Nat.one_le_two_pow, by have : (2 : Nat) ^ k ≤ 2 ^ 24 := Nat.pow_le_pow_right (by omega) hk; omega⟩
  have e : ((2 : Int) ^ k - 1) = ((2 ^ k - 1 : Nat) : Int) := by rw [Int.ofNat_sub h2.1]; push_cast; rfl
  have h3 : X % 2 ^ k ≤ X := Nat.mod_le _ _
  rw [e]
  show IntKind.i64.wrap ((BitVec.ofInt 64 (X : Int) &&& BitVec.ofInt 64 ((2 ^ k - 1 : Nat) : Int)).toNat : Nat) = _
  rw [BitVec.toNat_and, BitVec.ofInt_natCast, BitVec.ofInt_natCast, BitVec.toNat_ofNat, BitVec.toNat_ofNat, Nat.mod_eq_of_lt (show X < 2 ^ 64 by omega), Nat.mod_eq_of_lt (show 2 ^ k - 1 < 2 ^ 64 by omega), Nat.and_two_pow_sub_one_eq_mod, wrap64_of (by omega)]
  push_cast; rfl
theorem and15 {n : Int} (hn : 0 ≤ n ∧ n < 4294967296) : bits .and .i64 n 15 = n % 16 := and_mask64 (k := 4) (by omega) hn
def rightB (v d : Int) : Bool := decide (0 ≤ d) && decide (d ≤ 24) && decide (0 ≤ v) && decide (v < 2 ^ d.toNat)
theorem rightB_is {v d : Int} (h : rightB v d = true) : (0 ≤ d ∧ d ≤ 24) ∧ (0 ≤ v ∧ v < 16777216) ∧ v < 2 ^ d.toNat := by
  unfold rightB at h
  simp only [Bool.and_eq_true, decide_eq_true_eq] at h
  obtain ⟨k, rfl⟩ : ∃ k : Nat, d = k := ⟨d.toNat, by omega⟩
  have := (shl1_24 k (by omega)).2
  rw [Int.toNat_natCast] at h ⊢
  omega
def splitA (a : Int) : Option (Int × Int) := if decide (a % 256 < 4) || !rightB (a / 256) (a % 256) then none else some (a / 256, a % 256)
def stepA (c : Cap) (v d : Int) : Option (Int × Int) :=
  if decide (c.kind ≠ 2) || !checkC c || !rightB v d || decide (d < c.size + 4) then none
  else if v / 2 ^ (d - c.size).toNat ≠ c.badge then none
  else some (v / 2 ^ (d - c.size - 4).toNat % 16, d - c.size - 4)
def findA (sl : List (Place × SV)) : Nat → Cap → Int → Int → Option Place
  | 0, _, _, _ => none
  | n + 1, c, v, d => match stepA c v d with
    | none => none
    | some (k, r) => if r = 0 then some (c.obj, k) else match look sl (c.obj, k) with
      | none => none
      | some s => findA sl n s.1 (v % 2 ^ r.toNat) r
def kFind (sl : List (Place × SV)) (root : Cap) (a : Int) : Option Place := match splitA a with
  | none => none
  | some x => findA sl 6 root x.1 x.2
def kCap (sl : List (Place × SV)) (root : Cap) (a kind : Int) : Cap × Place × Int := match kFind sl root a with
  | none => (c0, (0, 0), 2)
  | some p => match look sl p with
    | none => (c0, (0, 0), 4)
    | some v => if kind ≠ 0 ∧ v.1.kind ≠ kind then (c0, (0, 0), 5) else (v.1, p, 0)
theorem splitA_is {a v d : Int} (h : splitA a = some (v, d)) : (0 ≤ d ∧ d ≤ 24) ∧ (0 ≤ v ∧ v < 16777216) := by
  unfold splitA at h
  split at h
  · cases h
  · rename_i h1
    simp at h1 h
    obtain ⟨rfl, rfl⟩ := h
    have := rightB_is h1.2
    exact ⟨this.1, this.2.1⟩
theorem checkC_node {c : Cap} (h : checkC c = true) (hk : c.kind = 2) : (0 ≤ c.size ∧ c.size ≤ 8) ∧ (1 ≤ c.obj ∧ c.obj ≤ 64) := by
  unfold checkC inB at h
  simp [hk] at h
  omega
theorem stepA_is {c : Cap} {v d k r : Int} (h : stepA c v d = some (k, r)) : (0 ≤ r ∧ r ≤ 24) ∧ (0 ≤ k ∧ k < 16) := by
  unfold stepA at h
  split at h
  · cases h
  · rename_i h1
    split at h
    · cases h
    · simp at h1 h
      obtain ⟨⟨⟨h3, h4⟩, h5⟩, h6⟩ := h1
      have := checkC_node h4 h3
      have := rightB_is h5
      omega
theorem div_small {v : Int} {k : Nat} (h : 0 ≤ v ∧ v < 16777216) : 0 ≤ v / 2 ^ k ∧ v / 2 ^ k < 4294967296 := by
  have h1 : (0 : Int) < 2 ^ k := Int.pow_pos (by omega)
  exact ⟨Int.ediv_nonneg h.1 (by omega), by have := Int.ediv_le_self (2 ^ k) h.1; omega⟩
theorem rightG {E : World} {l : List As} {v d : Int} :
    Con Tryz.prog 299 #[.int .i64 v, .int .i64 d] E l (fun _ : Unit => .bool (rightB v d)) (fun _ => l) := by
  refine Con.body (vs := [.int .i64 v, .int .i64 d]) (n := 21) Tryz.func299 rfl rfl [(0, .int .i64 v), (1, .int .i64 d)] (env_ok 2 rfl) <| sr <| ag rfl rfl <| nx <| mv rfl rfl <| L_pur rfl (p_geq rfl rfl) <| mv rfl rfl ?_
  refine J_gsplit (t := 7) rfl (fun h7 => ?_) (fun h7 => ?_)
  refine L_op <| G_on rfl rfl rfl <| J_pur (p_move rfl) rfl rfl rfl <| L_op <| G_on rfl rfl rfl <| J_pur (p_leq rfl rfl) rfl rfl rfl <| L_pur rfl (p_pick_t rfl rfl) <| mv rfl rfl ?_
  refine J_gsplit (t := 11) rfl (fun h11 => ?_) (fun h11 => ?_)
  refine L_op <| G_on rfl rfl rfl <| J_pur (p_move rfl) rfl rfl rfl <| L_op <| G_on rfl rfl rfl <| J_pur (p_geq rfl rfl) rfl rfl rfl <| L_pur rfl (p_pick_t rfl rfl) <| mv rfl rfl ?_
  refine J_gsplit (t := 15) rfl (fun h15 => ?_) (fun h15 => ?_)
  have hd : 0 ≤ d ∧ d ≤ 24 := ⟨by simpa using h7, by simpa using h11⟩
  obtain ⟨k, hk⟩ : ∃ k : Nat, d = k := ⟨d.toNat, by omega⟩
  obtain ⟨g1, g2, g3⟩ := shl1_24 k (by omega)
  have hdk : d.toNat = k := by omega
  refine L_op <| G_on rfl rfl rfl <| J_pur (p_move rfl) rfl rfl rfl <| L_op <| G_on rfl rfl rfl <| J_pur (p_move rfl) rfl rfl rfl <| L_op <| G_on rfl rfl rfl ?_
  refine J_pur (p_shl rfl rfl (by omega) (by have : (IntKind.i64.bits : Int) = 64 := rfl; omega)) rfl rfl rfl <| J_slot (t := 18) (v := .int .i64 (2 ^ d.toNat)) rfl (by congr 1; rw [hk]; exact g1) <| L_op <| G_on rfl rfl rfl <| J_pur (p_lss rfl rfl) rfl rfl rfl <| L_pur rfl (p_pick_t rfl rfl) <| ag rfl rfl <| nq ?_
  refine J_ret ?_
  refine J_return (()) Tryz.results299 (.tmp rfl .nil) ?_ ?_
  · first | rfl | (simp_all [one, rightB]; done) | (simp_all [one, rightB] <;> omega) | (simp_all [one, rightB] <;> grind)
  · exact SU
  refine L_op <| G_off rfl rfl rfl rfl rfl rfl <| L_op <| G_off rfl rfl rfl rfl rfl rfl <| L_op <| G_off rfl rfl rfl rfl rfl rfl <| L_op <| G_off rfl rfl rfl rfl rfl rfl ?_
  refine L_pur rfl (p_pick_f rfl rfl) <| ag rfl rfl <| nq <| J_ret ?_
  refine J_return (()) Tryz.results299 (.tmp rfl .nil) ?_ ?_
  · first | rfl | (simp_all [one, rightB]; done) | (simp_all [one, rightB] <;> omega) | (simp_all [one, rightB] <;> grind)
  · exact SU
  refine L_op <| G_off rfl rfl rfl rfl rfl rfl <| L_op <| G_off rfl rfl rfl rfl rfl rfl <| L_pur rfl (p_pick_f rfl rfl) <| mv rfl rfl <| L_op <| G_off rfl rfl rfl rfl rfl rfl ?_
  refine L_op <| G_off rfl rfl rfl rfl rfl rfl <| L_op <| G_off rfl rfl rfl rfl rfl rfl <| L_op <| G_off rfl rfl rfl rfl rfl rfl <| L_pur rfl (p_pick_f rfl rfl) <| ag rfl rfl ?_
  refine nq <| J_ret ?_
  refine J_return (()) Tryz.results299 (.tmp rfl .nil) ?_ ?_
  · first | rfl | (simp_all [one, rightB]; done) | (simp_all [one, rightB] <;> omega) | (simp_all [one, rightB] <;> grind)
  · exact SU
  refine L_op <| G_off rfl rfl rfl rfl rfl rfl <| L_op <| G_off rfl rfl rfl rfl rfl rfl <| L_pur rfl (p_pick_f rfl rfl) <| mv rfl rfl <| L_op <| G_off rfl rfl rfl rfl rfl rfl ?_
  refine L_op <| G_off rfl rfl rfl rfl rfl rfl <| L_pur rfl (p_pick_f rfl rfl) <| mv rfl rfl <| L_op <| G_off rfl rfl rfl rfl rfl rfl <| L_op <| G_off rfl rfl rfl rfl rfl rfl ?_
  refine L_op <| G_off rfl rfl rfl rfl rfl rfl <| L_op <| G_off rfl rfl rfl rfl rfl rfl <| L_pur rfl (p_pick_f rfl rfl) <| ag rfl rfl <| nq <| J_ret ?_
  refine J_return (()) Tryz.results299 (.tmp rfl .nil) ?_ ?_
  · first | rfl | (simp_all [one, rightB]; done) | (simp_all [one, rightB] <;> omega) | (simp_all [one, rightB] <;> grind)
  · exact SU
theorem splitG {E : World} {l : List As} {a : Int} (ha : 0 ≤ a ∧ a < 4294967296) :
    Con Tryz.prog 284 #[.int .u32 a] E l (fun _ : Unit => .tuple #[.int .i64 ((splitA a).getD (0, 0)).1, .int .i64 ((splitA a).getD (0, 0)).2, .bool (splitA a).isSome]) (fun _ => l) := by
  refine Con.body (vs := [.int .u32 a]) (n := 23) Tryz.func284 rfl rfl [(0, .int .u32 a)] (env_ok 1 rfl) <| sr <| ag rfl rfl <| ag rfl rfl <| ag rfl rfl <| nx <| mv rfl rfl <| L_pur rfl (p_shr rfl rfl (by omega) (by decide)) ?_
  refine J_slot (t := 8) (v := .int .u32 (a / 256)) rfl (by rfl) <| L_pur rfl (p_conv rfl Tryz.underlying22 Tryz.underlying3) <| J_slot (t := 9) (v := .int .i64 (a / 256)) rfl (by rw [wrap64_of (by omega)]) <| mv rfl rfl <| L_op <| xc fc279 (.cons rfl (.cons rfl (.cons rfl .nil))) rfl (fieldC (n := a) (k := 8) (by omega) ha) fun _ => J_slot (t := 11) (v := .int .u32 (a % 256)) rfl (by rfl) <| L_pur rfl (p_conv rfl Tryz.underlying22 Tryz.underlying3) ?_
  refine J_slot (t := 12) (v := .int .i64 (a % 256)) rfl (by rw [wrap64_of (by omega)]) <| ag rfl rfl <| ag rfl rfl <| nxx <| mv rfl rfl <| L_pur rfl (p_lss rfl rfl) <| mv rfl rfl ?_
  refine J_gsplit (t := 15) rfl (fun h15 => ?_) (fun h15 => ?_)
  have e15 : decide (a % 256 < 4) = true := h15
  refine L_op <| G_off rfl rfl rfl rfl rfl rfl <| L_op <| G_off rfl rfl rfl rfl rfl rfl <| L_op <| G_off rfl rfl rfl rfl rfl rfl <| L_op <| G_off rfl rfl rfl rfl rfl rfl ?_
  refine L_pur rfl (p_pick_t rfl rfl) <| nq <| C_true rfl <| sr <| ag rfl rfl <| ag rfl rfl <| ag rfl rfl <| nq ?_
  refine J_ret <| Q_then_ret ?_
  refine J_return (()) Tryz.results284 (.tmp rfl (.tmp rfl (.tmp rfl .nil))) ?_ ?_
  · rw [show splitA a = none by unfold splitA; rw [e15]; rfl]; rfl
  · exact SU
  have e15 : decide (a % 256 < 4) = false := h15
  refine L_op <| G_on rfl rfl rfl <| J_pur (p_move rfl) rfl rfl rfl <| L_op <| G_on rfl rfl rfl <| J_pur (p_move rfl) rfl rfl rfl <| L_op <| G_on rfl rfl rfl ?_
  refine xc fc299 (.cons rfl (.cons rfl .nil)) rfl (rightG) fun _ => L_op <| G_on rfl rfl rfl <| J_pur (p_not rfl) rfl rfl rfl <| L_pur rfl (p_pick_f rfl rfl) <| nq ?_
  refine C_split rfl (fun h20 => ?_) (fun h20 => ?_)
  have e20 : (!rightB (a / 256) (a % 256)) = true := h20
  refine sr <| ag rfl rfl <| ag rfl rfl <| ag rfl rfl <| nq <| J_ret <| Q_then_ret ?_
  refine J_return (()) Tryz.results284 (.tmp rfl (.tmp rfl (.tmp rfl .nil))) ?_ ?_
  · rw [show splitA a = none by unfold splitA; rw [e15, e20]; rfl]; rfl
  · exact SU
  have e20 : (!rightB (a / 256) (a % 256)) = false := h20
  refine J_skip <| qx <| mv rfl rfl <| mv rfl rfl <| ag rfl rfl <| ag rfl rfl <| ag rfl rfl <| nq ?_
  refine J_ret ?_
  refine J_return (()) Tryz.results284 (.tmp rfl (.tmp rfl (.tmp rfl .nil))) ?_ ?_
  · rw [show splitA a = some (a / 256, a % 256) by unfold splitA; rw [e15, e20]; rfl]; rfl
  · exact SU
theorem stepG {E : World} {l : List As} {c : Cap} {v d : Int} :
    Con Tryz.prog 285 #[.agg (encC c).toArray, .int .i64 v, .int .i64 d] E l (fun _ : Unit => .tuple #[.int .i64 ((stepA c v d).getD (0, 0)).1, .int .i64 ((stepA c v d).getD (0, 0)).2, .bool (stepA c v d).isSome]) (fun _ => l) := by
  refine Con.body (vs := [.agg (encC c).toArray, .int .i64 v, .int .i64 d]) (n := 48) Tryz.func285 rfl rfl [(0, .agg (encC c).toArray), (1, .int .i64 v), (2, .int .i64 d)] (env_ok 3 rfl) <| sr <| L_op <| x_box rfl rfl rfl fun b3 => ag rfl rfl <| ag rfl rfl <| ag rfl rfl <| nxx ?_
  refine fa rfl rfl fa69_0 <| L_val rfl (v_load rfl ty3 HS (by exact rfl)) ?_
  refine L_pur rfl (p_neq rfl rfl) <| mv rfl rfl ?_
  refine J_gsplit (t := 13) rfl (fun h13 => ?_) (fun h13 => ?_)
  refine L_op <| G_off rfl rfl rfl rfl rfl rfl <| L_op <| G_off rfl rfl rfl rfl rfl rfl <| L_op <| G_off rfl rfl rfl rfl rfl rfl <| L_pur rfl (p_pick_t rfl rfl) <| mv rfl rfl ?_
  refine L_op <| G_off rfl rfl rfl rfl rfl rfl <| L_op <| G_off rfl rfl rfl rfl rfl rfl <| L_op <| G_off rfl rfl rfl rfl rfl rfl <| L_op <| G_off rfl rfl rfl rfl rfl rfl ?_
  refine L_pur rfl (p_pick_t rfl rfl) <| mv rfl rfl <| L_op <| G_off rfl rfl rfl rfl rfl rfl <| L_op <| G_off rfl rfl rfl rfl rfl rfl <| L_op <| G_off rfl rfl rfl rfl rfl rfl ?_
  refine L_op <| G_off rfl rfl rfl rfl rfl rfl <| L_op <| G_off rfl rfl rfl rfl rfl rfl <| L_pur rfl (p_pick_t rfl rfl) <| nq <| C_true rfl <| sr ?_
  refine ag rfl rfl <| ag rfl rfl <| ag rfl rfl <| nq <| J_ret <| Q_then_ret ?_
  refine J_return (()) Tryz.results285 (.tmp rfl (.tmp rfl (.tmp rfl .nil))) ?_ ?_
  · rw [show stepA c v d = none by unfold stepA; simp_all]; rfl
  · exact SU
  refine L_op <| G_on rfl rfl rfl <| J_val (v_loadA rfl ty69 HS CT) rfl rfl rfl ?_
  refine L_op <| G_on rfl rfl rfl <| xc fc61 (.cons rfl .nil) rfl (cCheck (c := c)) fun _ => L_op <| G_on rfl rfl rfl <| J_pur (p_not rfl) rfl rfl rfl <| L_pur rfl (p_pick_f rfl rfl) <| mv rfl rfl ?_
  refine J_gsplit (t := 18) rfl (fun h18 => ?_) (fun h18 => ?_)
  refine L_op <| G_off rfl rfl rfl rfl rfl rfl <| L_op <| G_off rfl rfl rfl rfl rfl rfl <| L_op <| G_off rfl rfl rfl rfl rfl rfl <| L_op <| G_off rfl rfl rfl rfl rfl rfl ?_
  refine L_pur rfl (p_pick_t rfl rfl) <| mv rfl rfl <| L_op <| G_off rfl rfl rfl rfl rfl rfl <| L_op <| G_off rfl rfl rfl rfl rfl rfl <| L_op <| G_off rfl rfl rfl rfl rfl rfl ?_
  refine L_op <| G_off rfl rfl rfl rfl rfl rfl <| L_op <| G_off rfl rfl rfl rfl rfl rfl <| L_pur rfl (p_pick_t rfl rfl) <| nq <| C_true rfl <| sr ?_
  refine ag rfl rfl <| ag rfl rfl <| ag rfl rfl <| nq <| J_ret <| Q_then_ret ?_
  refine J_return (()) Tryz.results285 (.tmp rfl (.tmp rfl (.tmp rfl .nil))) ?_ ?_
  · rw [show stepA c v d = none by unfold stepA; simp_all]; rfl
  · exact SU
  refine L_op <| G_on rfl rfl rfl <| J_pur (p_move rfl) rfl rfl rfl <| L_op <| G_on rfl rfl rfl <| J_pur (p_move rfl) rfl rfl rfl <| L_op <| G_on rfl rfl rfl ?_
  refine xc fc299 (.cons rfl (.cons rfl .nil)) rfl (rightG) fun _ => L_op <| G_on rfl rfl rfl <| J_pur (p_not rfl) rfl rfl rfl <| L_pur rfl (p_pick_f rfl rfl) <| mv rfl rfl ?_
  refine J_gsplit (t := 24) rfl (fun h24 => ?_) (fun h24 => ?_)
  refine L_op <| G_off rfl rfl rfl rfl rfl rfl <| L_op <| G_off rfl rfl rfl rfl rfl rfl <| L_op <| G_off rfl rfl rfl rfl rfl rfl <| L_op <| G_off rfl rfl rfl rfl rfl rfl ?_
  refine L_op <| G_off rfl rfl rfl rfl rfl rfl <| L_pur rfl (p_pick_t rfl rfl) <| nq <| C_true rfl <| sr <| ag rfl rfl <| ag rfl rfl ?_
  refine ag rfl rfl <| nq <| J_ret <| Q_then_ret ?_
  refine J_return (()) Tryz.results285 (.tmp rfl (.tmp rfl (.tmp rfl .nil))) ?_ ?_
  · rw [show stepA c v d = none by unfold stepA; simp_all]; rfl
  · exact SU
  have hk2 : c.kind = 2 := by simpa using h13
  have hck : checkC c = true := by simpa using h18
  have hri : rightB v d = true := by simpa using h24
  have hcn := checkC_node hck hk2
  have hrb := rightB_is hri
  refine L_op <| G_on rfl rfl rfl <| J_pur (p_move rfl) rfl rfl rfl <| L_op <| G_on rfl rfl rfl <| J_pur (p_fieldAddr rfl fa69_2) rfl rfl rfl <| L_op <| G_on rfl rfl rfl ?_
  refine J_val (v_load rfl ty3 HS (by exact rfl)) rfl rfl rfl ?_
  refine L_op <| G_on rfl rfl rfl <| J_pur (p_add64 rfl rfl (by omega)) rfl rfl rfl <| L_op <| G_on rfl rfl rfl <| J_pur (p_lss rfl rfl) rfl rfl rfl <| L_pur rfl (p_pick_f rfl rfl) <| nq ?_
  refine C_split rfl (fun h30 => ?_) (fun h30 => ?_)
  refine sr <| ag rfl rfl <| ag rfl rfl <| ag rfl rfl <| nq <| J_ret <| Q_then_ret ?_
  refine J_return (()) Tryz.results285 (.tmp rfl (.tmp rfl (.tmp rfl .nil))) ?_ ?_
  · rw [show stepA c v d = none by unfold stepA; simp_all]; rfl
  · exact SU
  have hge : c.size + 4 ≤ d := by simpa using h30
  refine J_skip <| qx <| mv rfl rfl <| fa rfl rfl fa69_2 <| L_val rfl (v_load rfl ty3 HS (by exact rfl)) ?_
  refine L_pur rfl (p_sub64 rfl rfl (by omega)) <| ag rfl rfl <| nq <| J_seq <| J_seq <| J_drawS mixed (by kernel_rfl) <| sm rfl rfl <| sm rfl rfl ?_
  refine sp rfl (p_shr rfl rfl (by omega) (by have : (IntKind.i64.bits : Int) = 64 := rfl; omega)) <| sp rfl (p_fieldAddr rfl fa69_3) <| S_val rfl (v_load rfl ty3 HS (by exact rfl)) ?_
  refine sp rfl (p_neq rfl rfl) <| sq ?_
  refine C_split rfl (fun h40 => ?_) (fun h40 => ?_)
  refine sr <| ag rfl rfl <| ag rfl rfl <| ag rfl rfl <| nq <| J_ret <| Q_then_ret ?_
  refine J_return (()) Tryz.results285 (.tmp rfl (.tmp rfl (.tmp rfl .nil))) ?_ ?_
  · rw [show stepA c v d = none by unfold stepA; simp_all]; rfl
  · exact SU
  refine J_skip <| qx <| mv rfl rfl <| L_pur rfl (p_sub64 rfl rfl (by omega)) <| ag rfl rfl <| nx <| mv rfl rfl <| mv rfl rfl ?_
  refine L_pur rfl (p_shr rfl rfl (by omega) (by have : (IntKind.i64.bits : Int) = 64 := rfl; omega)) <| L_pur rfl (p_and rfl rfl) <| J_slot (t := 46) (v := .int .i64 (v / 2 ^ (d - c.size - 4).toNat % 16)) rfl (by rw [and15 (div_small hrb.2.1)]) <| mv rfl rfl <| ag rfl rfl <| ag rfl rfl <| ag rfl rfl <| nq ?_
  refine J_ret ?_
  refine J_return (()) Tryz.results285 (.tmp rfl (.tmp rfl (.tmp rfl .nil))) ?_ ?_
  · rw [show stepA c v d = some (v / 2 ^ (d - c.size - 4).toNat % 16, d - c.size - 4) by unfold stepA; simp_all]; rfl
  · exact SU
theorem findG {E : World} {l m : List As} {b o : Nat} {ps : List (Place × SV)} (hp : Pick (slA b o ps) l m) {root : Cap} {a : Int} (ha : 0 ≤ a ∧ a < 4294967296) :
    Con Tryz.prog 267 #[.pointer (some ⟨b, o, none⟩), .agg (encC root).toArray, .int .u32 a] E l (fun _ : Unit => .tuple #[.agg (encI ((kFind ps root a).getD (0, 0))).toArray, .int .i64 (if (kFind ps root a).isSome then 0 else 2)]) (fun _ => slA b o ps :: m) := by
  refine Con.body (vs := [.pointer (some ⟨b, o, none⟩), .agg (encC root).toArray, .int .u32 a]) (n := 63) Tryz.func267 rfl rfl [(0, .pointer (some ⟨b, o, none⟩)), (1, .agg (encC root).toArray), (2, .int .u32 a)] (env_ok 3 rfl) <| J_pick hp <| sr <| L_op <| x_box rfl rfl rfl fun b4 => L_op <| x_alloc ty67 rfl fun b6 => ag rfl rfl ?_
  refine nx <| mv rfl rfl <| L_op <| xc fc284 (.cons rfl .nil) rfl (splitG ha) fun _ => mv rfl rfl <| L_pur rfl (p_extract rfl rfl) <| L_pur rfl (p_extract rfl rfl) <| L_pur rfl (p_extract rfl rfl) ?_
  refine ag rfl rfl <| ag rfl rfl <| ag rfl rfl <| nxx <| mv rfl rfl <| L_pur rfl (p_not rfl) <| nq ?_
  refine C_split rfl (fun h23 => ?_) (fun h23 => ?_)
  have hsp : splitA a = none := by
    cases hq : splitA a with
    | none => rfl
    | some y => rw [hq] at h23; simp at h23
  have hfk : kFind ps root a = none := by unfold kFind; rw [hsp]
  refine sr <| L_pur rfl (bld67 .nil (by repeat constructor)) <| L_op <| x_store rfl rfl ty67 rfl SM SM RO PT ?_
  refine ag rfl rfl <| nq <| J_ret <| Q_then_ret ?_
  refine J_return (()) Tryz.results267 (.cellA rfl ty67 HS CT (.tmp rfl .nil)) ?_ ?_
  · rw [hfk]; rfl
  · exact SU
  obtain ⟨⟨v0, d0⟩, hsp⟩ : ∃ x, splitA a = some x := by
    cases hq : splitA a with
    | none => rw [hq] at h23; simp at h23
    | some y => exact ⟨y, rfl⟩
  have hs0 := splitA_is hsp
  have hf0 : findA ps 6 root v0 d0 = kFind ps root a := by unfold kFind; rw [hsp]
  refine J_slot (t := 8) (v := .int .i64 (v0)) rfl (by rw [hsp]; rfl) <| J_slot (t := 9) (v := .int .i64 (d0)) rfl (by rw [hsp]; rfl) <| J_skip <| qx <| L_val rfl (v_loadA rfl ty69 HS CT) ?_
  refine L_op <| x_alloc ty69 rfl fun b11 => L_op <| x_store rfl rfl ty69 rfl SM SM RO PT ?_
  refine nq <| J_seq <| J_seq <| J_pick (A := blk b11 _ _) PC ?_
  refine J_asTo (B := blk b11 69 (encC root)) (by rfl) <| J_region <| mv rfl rfl <| nq <| J_block <| J_loop (α := Nat × Cap × Int × Int) (fun x => x.1 ≤ 6 ∧ ((0 ≤ x.2.2.2 ∧ x.2.2.2 ≤ 24) ∧ (0 ≤ x.2.2.1 ∧ x.2.2.1 < 16777216)) ∧ findA ps (6 - x.1) x.2.1 x.2.2.1 x.2.2.2 = kFind ps root a) (fun x => blk b11 69 (encC x.2.1) :: blk b6 67 [.int .i64 0, .int .i64 0] :: slA b o ps :: m) (fun x => [(26, .int .i64 (x.1 : Int)), (8, .int .i64 x.2.2.1), (9, .int .i64 x.2.2.2), (0, .pointer (some ⟨b, o, none⟩)), (11, .pointer (some ⟨b11, 0, none⟩)), (6, .pointer (some ⟨b6, 0, none⟩))]) (fun x => 6 - x.1) (0, root, v0, d0) ⟨by omega, hs0, hf0⟩ SU KE ?_
  intro x hx
  obtain ⟨k, c, v, d⟩ := x
  obtain ⟨hk, hv, hf⟩ := hx
  dsimp only at hk hv hf ⊢
  refine sr <| L_pur rfl (p_lss rfl rfl) <| nq <| J_seq ?_
  refine C_dec rfl (fun h27 => ?_) (fun h27 => ?_)
  obtain ⟨n, hn⟩ : ∃ n, 6 - k = n + 1 := ⟨5 - k, by omega⟩
  rw [hn, findA] at hf
  refine J_skip <| Q_then <| J_seq <| J_block <| sr <| L_val rfl (v_loadA rfl ty69 HS CT) ?_
  refine mv rfl rfl <| mv rfl rfl <| L_op <| xc fc285 (.cons rfl (.cons rfl (.cons rfl .nil))) rfl (stepG (c := c) (v := v) (d := d)) fun _ => mv rfl rfl <| L_pur rfl (p_extract rfl rfl) <| L_pur rfl (p_extract rfl rfl) <| L_pur rfl (p_extract rfl rfl) ?_
  refine ag rfl rfl <| ag rfl rfl <| ag rfl rfl <| nxx <| mv rfl rfl <| L_pur rfl (p_not rfl) <| nq ?_
  refine C_split rfl (fun h37 => ?_) (fun h37 => ?_)
  have hst : stepA c v d = none := by
    cases hq : stepA c v d with
    | none => rfl
    | some y => rw [hq] at h37; simp at h37
  rw [hst] at hf
  have hfk : kFind ps root a = none := hf.symm
  refine sr <| L_pur rfl (bld67 .nil (by repeat constructor)) <| L_op <| x_store rfl rfl ty67 rfl SM SM RO PT ?_
  refine ag rfl rfl <| nq <| J_ret <| Q_then_ret <| Q_blk_ret <| Q_then_ret <| Q_then_ret <| Q_blk_ret ?_
  refine Q_then_ret ?_
  refine J_return (()) Tryz.results267 (.cellA rfl ty67 HS CT (.tmp rfl .nil)) ?_ ?_
  · rw [hfk]; rfl
  · exact SU
  obtain ⟨⟨j, r⟩, hst⟩ : ∃ x, stepA c v d = some x := by
    cases hq : stepA c v d with
    | none => rw [hq] at h37; simp at h37
    | some y => exact ⟨y, rfl⟩
  rw [hst] at hf
  have hjr := stepA_is hst
  refine J_slot (t := 12) (v := .int .i64 (j)) rfl (by rw [hst]; rfl) <| J_slot (t := 13) (v := .int .i64 (r)) rfl (by rw [hst]; rfl) <| J_skip <| qx <| fa rfl rfl fa69_1 <| L_val rfl (v_load rfl ty3 HS (by exact rfl)) ?_
  refine mv rfl rfl <| L_pur rfl (bld67 (.cons rfl (.cons rfl .nil)) (by repeat constructor)) <| L_op <| x_alloc ty67 rfl fun b15 => L_op <| x_store rfl rfl ty67 rfl SM SM RO PT ?_
  refine J_pick (A := blk b15 _ _) PC ?_
  refine J_asTo (B := blk b15 67 (encI (c.obj, j))) (by rfl) <| nxx <| mv rfl rfl <| L_pur rfl (p_eql rfl rfl) <| nq ?_
  refine C_dec rfl (fun h44 => ?_) (fun h44 => ?_)
  have hfk : kFind ps root a = some (c.obj, j) := by rw [← hf]; exact if_pos h44
  refine sr <| L_val rfl (v_loadA rfl ty67 HS CT) ?_
  refine L_op <| x_store rfl rfl ty67 rfl SM SM RO PT ?_
  refine ag rfl rfl <| nq <| J_ret <| Q_then_ret <| Q_blk_ret <| Q_then_ret <| Q_then_ret <| Q_blk_ret ?_
  refine Q_then_ret ?_
  refine J_return (()) Tryz.results267 (.cellA rfl ty67 HS CT (.tmp rfl .nil)) ?_ ?_
  · rw [hfk]; rfl
  · exact SU
  dsimp only at hf
  rw [if_neg h44] at hf
  refine J_skip <| Q_then <| J_seq <| sr <| mv rfl rfl <| L_val rfl (v_loadA rfl ty67 HS CT) ?_
  refine L_op <| xc fc34 (.cons rfl (.cons rfl .nil)) rfl (slGetC (ps := ps) (p := (c.obj, j)) PC) fun _ => ?_
  refine mv rfl rfl <| L_pur rfl (p_extract rfl rfl) <| L_pur rfl (p_extract rfl rfl) <| L_op <| x_store rfl rfl ty69 rfl SM SM RO PT ?_
  refine ag rfl rfl <| nx <| mv rfl rfl <| L_pur rfl (p_not rfl) <| nq ?_
  refine C_split rfl (fun h53 => ?_) (fun h53 => ?_)
  have hsl : look ps (c.obj, j) = none := by
    cases hq : look ps (c.obj, j) with
    | none => rfl
    | some y => rw [hq] at h53; simp at h53
  rw [hsl] at hf
  have hfk : kFind ps root a = none := hf.symm
  refine sr <| L_pur rfl (bld67 .nil (by repeat constructor)) <| L_op <| x_store rfl rfl ty67 rfl SM SM RO PT ?_
  refine ag rfl rfl <| nq <| J_ret <| Q_then_ret <| Q_blk_ret <| Q_then_ret <| Q_then_ret <| Q_blk_ret ?_
  refine Q_then_ret ?_
  refine J_return (()) Tryz.results267 (.cellA rfl ty67 HS CT (.tmp rfl .nil)) ?_ ?_
  · rw [hfk]; rfl
  · exact SU
  obtain ⟨sv, hsv⟩ : ∃ x, look ps (c.obj, j) = some x := by
    cases hq : look ps (c.obj, j) with
    | none => rw [hq] at h53; simp at h53
    | some y => exact ⟨y, rfl⟩
  rw [hsv] at hf
  refine J_pick (A := blk b11 _ _) PC ?_
  refine J_asTo (B := blk b11 69 (encC sv.1)) (by rw [hsv]; rfl) ?_
  obtain ⟨rk, hrk⟩ : ∃ rk : Nat, r = rk := ⟨r.toNat, by omega⟩
  obtain ⟨g1, g2, g3⟩ := shl1_24 rk (by omega)
  have hrt : r.toNat = rk := by omega
  have hvm : 0 ≤ v % 2 ^ r.toNat ∧ v % 2 ^ r.toNat < 16777216 := by
    rw [hrt]
    exact ⟨Int.emod_nonneg _ (by omega), by have := Int.emod_lt_of_pos v (b := 2 ^ rk) (by omega); omega⟩
  refine J_skip <| qr <| mv rfl rfl <| mv rfl rfl <| L_pur rfl (p_shl rfl rfl (by omega) (by have : (IntKind.i64.bits : Int) = 64 := rfl; omega)) <| J_slot (t := 57) (v := .int .i64 (2 ^ rk)) rfl (by rw [← g1]; unfold shl1; rw [hrk]) <| L_pur rfl (p_sub64 rfl rfl (by omega)) <| L_pur rfl (p_and rfl rfl) ?_
  refine J_slot (t := 59) (v := .int .i64 (v % 2 ^ r.toNat)) rfl (by rw [hrt, and_mask64 (by omega) (by omega)]) <| mv rfl rfl <| ag rfl rfl <| ag rfl rfl <| L_nil <| Q_blk_normal <| qr <| L_pur rfl (p_add64 rfl rfl (by omega)) ?_
  refine mv rfl rfl <| nq ?_
  exact J_again ((k + 1, sv.1, v % 2 ^ r.toNat, r)) (by show 6 - (k + 1) < 6 - k; omega) (⟨by show k + 1 ≤ 6; omega, ⟨hjr.1, hvm⟩, by rw [← hf]; show findA ps (6 - (k + 1)) _ _ _ = _; rw [show 6 - (k + 1) = n by omega]⟩) SU KE
  have hfk : kFind ps root a = none := by rw [← hf, show 6 - k = 0 by omega]; rfl
  refine J_exit <| Q_then_exit <| Q_then_exit <| Q_blk_this <| qx <| L_pur rfl (bld67 .nil (by repeat constructor)) <| L_op <| x_store rfl rfl ty67 rfl SM SM RO PT ?_
  refine ag rfl rfl <| nq <| J_ret ?_
  refine J_return (()) Tryz.results267 (.cellA rfl ty67 HS CT (.tmp rfl .nil)) ?_ ?_
  · rw [hfk]; rfl
  · exact SU
theorem capG {E : World} {l m : List As} {b o : Nat} {ps : List (Place × SV)} (hp : Pick (slA b o ps) l m) {root : Cap} {a kind : Int} (ha : 0 ≤ a ∧ a < 4294967296) :
    Con Tryz.prog 240 #[.pointer (some ⟨b, o, none⟩), .agg (encC root).toArray, .int .u32 a, .int .i64 kind] E l (fun _ : Unit => .tuple #[.agg (encC (kCap ps root a kind).1).toArray, .agg (encI (kCap ps root a kind).2.1).toArray, .int .i64 (kCap ps root a kind).2.2]) (fun _ => slA b o ps :: m) := by
  refine Con.body (vs := [.pointer (some ⟨b, o, none⟩), .agg (encC root).toArray, .int .u32 a, .int .i64 kind]) (n := 51) Tryz.func240 rfl rfl [(0, .pointer (some ⟨b, o, none⟩)), (1, .agg (encC root).toArray), (2, .int .u32 a), (3, .int .i64 kind)] (env_ok 4 rfl) <| J_pick hp <| sr <| L_op <| x_box rfl rfl rfl fun b5 => L_op <| x_alloc ty69 rfl fun b8 => L_op <| x_alloc ty67 rfl fun b9 => ?_
  refine ag rfl rfl <| nx <| mv rfl rfl <| L_val rfl (v_loadA rfl ty69 HS CT) ?_
  refine mv rfl rfl <| L_op <| xc fc267 (.cons rfl (.cons rfl (.cons rfl .nil))) rfl (findG (ps := ps) (root := root) (a := a) PC ha) fun _ => ?_
  refine mv rfl rfl <| L_pur rfl (p_extract rfl rfl) <| L_pur rfl (p_extract rfl rfl) <| L_op <| x_alloc ty67 rfl fun b11 => L_op <| x_store rfl rfl ty67 rfl SM SM RO PT ?_
  refine ag rfl rfl <| nxx <| mv rfl rfl <| L_pur rfl (p_neq rfl rfl) <| nq ?_
  refine C_split rfl (fun h23 => ?_) (fun h23 => ?_)
  have hfi : kFind ps root a = none := by
    cases hq : kFind ps root a with
    | none => rfl
    | some y => rw [hq] at h23; simp at h23
  have hca : (kCap ps root a kind) = (c0, (0, 0), 2) := by unfold kCap; rw [hfi]
  refine J_slot (t := 12) (v := .int .i64 (2)) rfl (by rw [hfi]; rfl) <| sr <| L_pur rfl (bld69 .nil (by repeat constructor)) <| L_pur rfl (bld67 .nil (by repeat constructor)) <| mv rfl rfl <| L_op <| x_store rfl rfl ty69 rfl SM SM RO PT ?_
  refine L_op <| x_store rfl rfl ty67 rfl SM SM RO PT ?_
  refine ag rfl rfl <| nq <| J_ret <| Q_then_ret ?_
  refine J_return (()) Tryz.results240 (.cellA rfl ty69 HS CT (.cellA rfl ty67 HS CT (.tmp rfl .nil))) ?_ ?_
  · rw [hca]; rfl
  · exact SU
  obtain ⟨pl, hfi⟩ : ∃ x, kFind ps root a = some x := by
    cases hq : kFind ps root a with
    | none => rw [hq] at h23; simp at h23
    | some y => exact ⟨y, rfl⟩
  refine J_pick (A := blk b11 _ _) PC ?_
  refine J_asTo (B := blk b11 67 (encI pl)) (by rw [hfi]; rfl) <| J_skip <| qx <| mv rfl rfl <| L_val rfl (v_loadA rfl ty67 HS CT) ?_
  refine L_op <| xc fc34 (.cons rfl (.cons rfl .nil)) rfl (slGetC (ps := ps) (p := pl) PC) fun _ => ?_
  refine mv rfl rfl <| L_pur rfl (p_extract rfl rfl) <| L_pur rfl (p_extract rfl rfl) <| L_op <| x_alloc ty69 rfl fun b13 => L_op <| x_store rfl rfl ty69 rfl SM SM RO PT ?_
  refine ag rfl rfl <| nq <| J_seq <| J_block <| sr <| mv rfl rfl <| L_pur rfl (p_not rfl) <| ag rfl rfl ?_
  refine nq ?_
  refine C_split rfl (fun h33 => ?_) (fun h33 => ?_)
  have hno : look ps pl = none := by
    cases hq : look ps pl with
    | none => rfl
    | some y => rw [hq] at h33; simp at h33
  have hca : (kCap ps root a kind) = (c0, (0, 0), 4) := by unfold kCap; rw [hfi]; dsimp only; rw [hno]
  refine sr <| L_pur rfl (bld69 .nil (by repeat constructor)) <| L_pur rfl (bld67 .nil (by repeat constructor)) <| L_op <| x_store rfl rfl ty69 rfl SM SM RO PT ?_
  refine L_op <| x_store rfl rfl ty67 rfl SM SM RO PT ?_
  refine ag rfl rfl <| nq <| J_ret <| Q_blk_ret <| Q_then_ret ?_
  refine J_return (()) Tryz.results240 (.cellA rfl ty69 HS CT (.cellA rfl ty67 HS CT (.tmp rfl .nil))) ?_ ?_
  · rw [hca]; rfl
  · exact SU
  obtain ⟨sv, hsv⟩ : ∃ x, look ps pl = some x := by
    cases hq : look ps pl with
    | none => rw [hq] at h33; simp at h33
    | some y => exact ⟨y, rfl⟩
  refine J_pick (A := blk b13 _ _) PC ?_
  refine J_asTo (B := blk b13 69 (encC sv.1)) (by rw [hsv]; rfl) <| sr <| mv rfl rfl <| L_pur rfl (p_neq rfl rfl) <| mv rfl rfl ?_
  refine J_gsplit (t := 41) rfl (fun h41 => ?_) (fun h41 => ?_)
  refine L_op <| G_on rfl rfl rfl <| J_pur (p_fieldAddr rfl fa69_0) rfl rfl rfl <| L_op <| G_on rfl rfl rfl <| J_val (v_load rfl ty3 HS (by exact rfl)) rfl rfl rfl ?_
  refine L_op <| G_on rfl rfl rfl <| J_pur (p_move rfl) rfl rfl rfl <| L_op <| G_on rfl rfl rfl <| J_pur (p_neq rfl rfl) rfl rfl rfl <| L_pur rfl (p_pick_t rfl rfl) <| ag rfl rfl ?_
  refine nq ?_
  refine C_split rfl (fun h38 => ?_) (fun h38 => ?_)
  have hca : (kCap ps root a kind) = (c0, (0, 0), 5) := by unfold kCap; rw [hfi]; dsimp only; rw [hsv]; simp_all
  refine sr <| L_pur rfl (bld69 .nil (by repeat constructor)) <| L_pur rfl (bld67 .nil (by repeat constructor)) <| L_op <| x_store rfl rfl ty69 rfl SM SM RO PT ?_
  refine L_op <| x_store rfl rfl ty67 rfl SM SM RO PT ?_
  refine ag rfl rfl <| nq <| J_ret <| Q_blk_ret <| Q_then_ret ?_
  refine J_return (()) Tryz.results240 (.cellA rfl ty69 HS CT (.cellA rfl ty67 HS CT (.tmp rfl .nil))) ?_ ?_
  · rw [hca]; rfl
  · exact SU
  have hca : (kCap ps root a kind) = (sv.1, pl, 0) := by unfold kCap; rw [hfi]; dsimp only; rw [hsv]; simp_all
  refine J_skip <| Q_blk_normal <| Q_then <| J_seq <| J_drawL (some 2) mixed <| iv 0 rfl rfl rfl rfl (fun _ => v_loadA rfl ty69 HS CT) ?_
  refine I_ready (rs := [1, 2]) SI (by kernel_rfl) (by simp) ?_
  refine (I_cons rfl ?_ (I_cons rfl ?_ I_nil))
  refine J_val (v_loadA rfl ty67 HS CT) rfl rfl rfl ?_
  refine i1 2 rfl <| x_store rfl rfl ty69 rfl SM SM RO PT ?_
  refine i1 3 rfl <| x_store rfl rfl ty67 rfl SM SM RO PT ?_
  refine ip 4 rfl rfl rfl rfl (p_assign rfl) <| i0 <| Q_then <| J_ret ?_
  refine J_return (()) Tryz.results240 (.cellA rfl ty69 HS CT (.cellA rfl ty67 HS CT (.tmp rfl .nil))) ?_ ?_
  · rw [hca]; rfl
  · exact SU
  refine x_store rfl rfl ty69 rfl SM SM RO PT ?_
  refine i1 1 rfl <| J_val (v_loadA rfl ty67 HS CT) rfl rfl rfl ?_
  refine i1 3 rfl <| x_store rfl rfl ty67 rfl SM SM RO PT ?_
  refine ip 4 rfl rfl rfl rfl (p_assign rfl) <| i0 <| Q_then <| J_ret ?_
  refine J_return (()) Tryz.results240 (.cellA rfl ty69 HS CT (.cellA rfl ty67 HS CT (.tmp rfl .nil))) ?_ ?_
  · rw [hca]; rfl
  · exact SU
  have hca : (kCap ps root a kind) = (sv.1, pl, 0) := by unfold kCap; rw [hfi]; dsimp only; rw [hsv]; simp_all
  refine L_op <| G_off rfl rfl rfl rfl rfl rfl <| L_op <| G_off rfl rfl rfl rfl rfl rfl <| L_op <| G_off rfl rfl rfl rfl rfl rfl <| L_op <| G_off rfl rfl rfl rfl rfl rfl ?_
  refine L_pur rfl (p_pick_f rfl rfl) <| ag rfl rfl <| nq <| C_false rfl <| J_skip <| Q_blk_normal <| Q_then <| J_seq ?_
  refine J_drawL (some 2) mixed <| iv 0 rfl rfl rfl rfl (fun _ => v_loadA rfl ty69 HS CT) ?_
  refine I_ready (rs := [1, 2]) SI (by kernel_rfl) (by simp) ?_
  refine (I_cons rfl ?_ (I_cons rfl ?_ I_nil))
  refine J_val (v_loadA rfl ty67 HS CT) rfl rfl rfl ?_
  refine i1 2 rfl <| x_store rfl rfl ty69 rfl SM SM RO PT ?_
  refine i1 3 rfl <| x_store rfl rfl ty67 rfl SM SM RO PT ?_
  refine ip 4 rfl rfl rfl rfl (p_assign rfl) <| i0 <| Q_then <| J_ret ?_
  refine J_return (()) Tryz.results240 (.cellA rfl ty69 HS CT (.cellA rfl ty67 HS CT (.tmp rfl .nil))) ?_ ?_
  · rw [hca]; rfl
  · exact SU
  refine x_store rfl rfl ty69 rfl SM SM RO PT ?_
  refine i1 1 rfl <| J_val (v_loadA rfl ty67 HS CT) rfl rfl rfl ?_
  refine i1 3 rfl <| x_store rfl rfl ty67 rfl SM SM RO PT ?_
  refine ip 4 rfl rfl rfl rfl (p_assign rfl) <| i0 <| Q_then <| J_ret ?_
  refine J_return (()) Tryz.results240 (.cellA rfl ty69 HS CT (.cellA rfl ty67 HS CT (.tmp rfl .nil))) ?_ ?_
  · rw [hca]; rfl
  · exact SU
end Go.Pse
namespace Go.Pse
open Go.RowKit Go.Proofs
/-! ### plain: slots, by what they hold; a tree of slots -/
def heirs (ps : List (Place × SV)) (q : SV → Bool) : List Place := sortP ((ps.filter fun e => q e.2).map Prod.fst)
def kids (ps : List (Place × SV)) (p : Place) : List Place := if (look ps p).isSome then heirs ps fun s => decide (s.2 = p) else []
def namesC (a b : Cap) : Bool := decide (a.kind = b.kind) && decide (a.obj = b.obj) && (decide (a.kind ≠ 1) || decide (a.size = b.size))
def named (ps : List (Place × SV)) (c : Cap) : List Place := heirs ps fun s => namesC s.1 c
theorem heirs_len (ps : List (Place × SV)) (q : SV → Bool) : (heirs ps q).length ≤ ps.length := by
  unfold heirs; rw [sortP_len, List.length_map]; exact List.length_filter_le _ _
theorem kids_len (ps : List (Place × SV)) (p : Place) : (kids ps p).length ≤ ps.length := by
  unfold kids; split
  · exact heirs_len _ _
  · exact Nat.zero_le _
theorem heirs_mem {ps : List (Place × SV)} {q : SV → Bool} {a : Place} : a ∈ heirs ps q ↔ ∃ s, (a, s) ∈ ps ∧ q s = true := by
  unfold heirs sortP
  rw [sortF_mem, List.mem_map]
  constructor
  · rintro ⟨e, he, rfl⟩
    have := List.mem_filter.1 he
    exact ⟨e.2, this.1, this.2⟩
  · rintro ⟨s, h1, h2⟩
    exact ⟨(a, s), List.mem_filter.2 ⟨h1, h2⟩, rfl⟩
def comeS (ps : List (Place × SV)) (q : SV → Bool) (done : List Place) : List Place := done.filter fun k => q ((look ps k).getD s0)
theorem comeS_on {ps : List (Place × SV)} {q : SV → Bool} {done : List Place} {k : Place} {u : SV} (hK : Keyd ps) (hm : (k, u) ∈ ps) (h : q u = true) : comeS ps q (done ++ [k]) = comeS ps q done ++ [k] := by
  unfold comeS
  rw [List.filter_append]
  congr 1
  simp [look_mem hK hm, h]
theorem comeS_off {ps : List (Place × SV)} {q : SV → Bool} {done : List Place} {k : Place} {u : SV} (hK : Keyd ps) (hm : (k, u) ∈ ps) (h : q u = false) : comeS ps q (done ++ [k]) = comeS ps q done := by
  unfold comeS
  rw [List.filter_append]
  simp [look_mem hK hm, h]
theorem comeS_len (ps : List (Place × SV)) (q : SV → Bool) (done : List Place) : (comeS ps q done).length ≤ done.length := List.length_filter_le _ _
theorem comeS_perm {ps : List (Place × SV)} {q : SV → Bool} {done : List Place} (hK : Keyd ps) (h : done.Perm (ps.map Prod.fst)) : (comeS ps q done).Perm ((ps.filter fun e => q e.2).map Prod.fst) := by
  unfold comeS
  have h1 := h.filter fun k => q ((look ps k).getD s0)
  rw [List.filter_map] at h1
  have h2 : (ps.filter ((fun k => q ((look ps k).getD s0)) ∘ Prod.fst)) = ps.filter fun e => q e.2 := List.filter_congr fun e he => by
    simp only [Function.comp]
    rw [look_mem hK (show (e.1, e.2) ∈ ps from he)]; rfl
  rw [h2] at h1
  exact h1
def turnL (ps : List (Place × SV)) (to : Place) (l : List Place) : List (Place × SV) := l.foldl (fun t k => ins t k (((look t k).getD s0).1, to)) ps
def turnS (ps : List (Place × SV)) (a to : Place) : List (Place × SV) := turnL ps to (kids ps a)
theorem turnL_snoc {ps : List (Place × SV)} {to k : Place} {l : List Place} : turnL ps to (l ++ [k]) = ins (turnL ps to l) k (((look (turnL ps to l) k).getD s0).1, to) := by unfold turnL; rw [List.foldl_append]; rfl
theorem turnL_some {to a : Place} : ∀ {l : List Place} {ps : List (Place × SV)}, (look ps a).isSome = true → (look (turnL ps to l) a).isSome = true
  | [], _, h => h
  | k :: l, ps, h => turnL_some (l := l) (ps := ins ps k (((look ps k).getD s0).1, to)) (by rw [look_ins]; split <;> simp [h])
theorem kids_some {ps : List (Place × SV)} {p a : Place} (hK : Keyd ps) (h : a ∈ kids ps p) : (look ps a).isSome = true := by
  unfold kids at h
  split at h
  · obtain ⟨s, h1, _⟩ := heirs_mem.1 h
    rw [look_mem hK h1]; rfl
  · cases h
def dropS (ps : List (Place × SV)) (p : Place) : List (Place × SV) := match look ps p with
  | none => ps
  | some s => del (turnS ps p s.2) p
def moveOk (ps : List (Place × SV)) (a b : Place) : Bool := (look ps a).isSome && canP b && !(look ps b).isSome
def moveS (ps : List (Place × SV)) (a b : Place) : List (Place × SV) := if moveOk ps a b then ins (del (turnS ps a b) a) b ((look ps a).getD s0) else ps
def belowL (ps : List (Place × SV)) : Nat → List Place → List Place → Option (List Place)
  | _, done, [] => some done
  | 0, _, _ :: _ => none
  | n + 1, done, p :: ts => belowL ps n (done ++ [p]) (ts ++ kids ps p)
theorem J_slKeyd {E : World} {l : List As} {n : Nat} {F : Env} {K : Act → World → Prop} {b o : Nat} {ps : List (Place × SV)} (k : Keyd ps → Jk E (slA b o ps :: l) n F K) : Jk E (slA b o ps :: l) n F K :=
  J_slO fun ob _ => J_mapV (ek := kI) (ev := evS) (ps := ps) HS (fun _ h1 => by
    subst h1
    exact J_slS (b := b) (o := o) (ps := []) ob PX trivial (k Keyd.nil)) (fun bm _ hK => J_slS (b := b) (o := o) (ps := ps) ob PX trivial (k hK))
theorem whichC {E : World} {l m : List As} {b o : Nat} {ps : List (Place × SV)} {g : FuncId} {caps : Array Value} {fn : Func} (hf : Tryz.prog.funcs[g]? = some fn) (hn : (fn.name == "runtime.NumGoroutine") = false) (hb : fn.body.isNone = false) {q : SV → Bool} {C : As} (hg : ∀ (l' : List As) (s : SV), Has C l' → Con Tryz.prog g (#[evS s] ++ caps) E l' (fun _ : Unit => .bool (q s)) (fun _ => l')) (hp : Picks [C, slA b o ps] l m) (hz : ps.length ≤ 100000) :
  Con Tryz.prog 291 #[.pointer (some ⟨b, o, none⟩), .func (.func g) #[] caps] E l (fun v : Value => v) (fun v => row 67 2 v ((heirs ps q).map encI) :: C :: slA b o ps :: m) := by
 refine Con.body (vs := [.pointer (some ⟨b, o, none⟩), .func (.func g) #[] caps]) (n := 28) Tryz.func291 rfl rfl [(0, .pointer (some ⟨b, o, none⟩)), (1, .func (.func g) #[] caps)] (env_ok 2 rfl) <| J_picks2 hp <| J_pick (A := slA b o ps) PC ?_
 refine J_slO fun ob _ => sr <| ag rfl rfl <| nx <| ag rfl rfl <| J_nil (el := 67) (sz := 2) <| nxx <| mv rfl rfl ?_
 refine nc rfl rfl <| fa rfl rfl fa108_0 <| L_val rfl (v_loadL rfl ty106 HS rfl (by exact rfl)) ?_
 refine L_op <| x_range (ek := kI) (ev := evS) rfl Tryz.underlying106 PC rfl fun r12 => ?_
 refine nq <| J_block <| J_rangeKeyd (ek := kI) (ev := evS) (ps := ps) HS fun hK => ?_
 refine J_loop2 (fun done v => Come ps done) (fun done v => rangeA kI evS (.map ob) r12 ps done :: row 67 2 v ((comeS ps q done).map encI) :: C :: fld b o [.map ob] :: m) (fun done v => [(12, .pointer (some ⟨r12, 0, none⟩)), (5, v), (0, .pointer (some ⟨b, o, none⟩)), (1, .func (.func g) #[] caps)]) (fun done v => ps.length - done.length) [] _ Come.nil SU KE ?_
 intro done v hC
 refine sr ?_
 refine L_op (x_next (ek := kI) (ev := evS) rfl PC rfl (fun k13 u13 hm13 hn13 => ?_) (fun hd13 => ?_))
 have hlt := hC.lt hK hm13 hn13
 have hcl := comeS_len ps q done
 refine L_pur rfl (p_extract rfl rfl) <| nq <| J_seq <| C_true rfl <| J_skip <| Q_then <| J_block <| sr ?_
 refine L_val rfl (v_entry (ek := kI) (ev := evS) rfl HS (by simp) hm13) ?_
 refine L_pur rfl (p_extract rfl rfl) <| L_pur rfl (p_extract rfl rfl) <| L_op <| x_alloc ty67 rfl fun b6 => L_op <| x_alloc ty184 rfl fun b7 => L_op <| x_store rfl rfl ty67 rfl SM SM RO PT ?_
 refine L_op <| x_store rfl rfl ty184 rfl SM SM RO PT ?_
 refine nx <| mv rfl rfl <| L_val rfl (v_loadA rfl ty184 HS CT) ?_
 refine L_op <| x_callc rfl hf hn hb (.cons rfl .nil) rfl (hg _ u13 HS) fun _ => ?_
 refine nq ?_
 refine C_split rfl (fun h20 => ?_) (fun h20 => ?_)
 refine J_region <| mv rfl rfl <| L_val rfl (v_loadA rfl ty67 HS CT) ?_
 refine L_op <| x_lit (vals := [_]) Tryz.underlying81 ty67 rfl (.cons rfl .nil) (.agg .nil) (Wf.cons rfl rfl Wf.nil) rfl (by decide) rfl rfl <| JR fun a23 c23 hw23 hl23 hm23 hz23 => L_op <| x_app rfl rfl Tryz.underlying81 ty67 rfl rfl PC (fun w H => sep_reads HS H) (by simp; omega) (by simp; omega) rfl <| JE ((comeS ps q (done ++ [k13])).map encI) (by rw [comeS_on hK hm13 h20]; simp [encI]) fun a24 c24 hw24 hl24 hm24 hz24 => ag rfl rfl <| J_nil (el := 67) (sz := 2) ?_
 refine L_nil <| Q_blk_normal <| Q_then ?_
 
 exact J_again2 (done ++ [k13]) _ (by have := hC.lt hK hm13 hn13; simp; omega) (hC.step hm13 hn13) SU KE
 refine J_skip <| Q_blk_normal <| Q_then <| J_pick (A := row 67 2 v _) PC ?_
 refine J_rowEq (ys := (comeS ps q (done ++ [k13])).map encI) (by rw [comeS_off hK hm13 h20]) ?_
 exact J_again2 (done ++ [k13]) _ (by have := hC.lt hK hm13 hn13; simp; omega) (hC.step hm13 hn13) SU KE
 have hperm := comeS_perm (q := q) hK (hC.perm hK hd13)
 have hlen : (comeS ps q done).length ≤ 1000000 := by
  rw [hperm.length_eq, List.length_map]
  have := List.length_filter_le (fun e : Place × SV => q e.2) ps
  omega
 refine L_pur rfl (p_extract rfl rfl) <| nq <| J_seq <| C_false rfl <| J_exit <| Q_then_exit <| Q_then_exit <| Q_blk_this ?_
 refine qx <| mv rfl rfl <| L_op <| xc fc101 (.cons rfl (.cons rfl .nil)) rfl (slSort (xs := comeS ps q done) PC hlen) fun _ => ?_
 refine nx <| mv rfl rfl <| ag rfl rfl <| nq <| J_ret <| J_pick (A := row 67 2 v _) PC ?_
 refine J_rowEq (ys := (heirs ps q).map encI) (by rw [sortP_perm hperm]; rfl) <| J_pick (A := rangeA kI evS _ _ _ _) PC ?_
 refine J_rangeEnd <| J_slS (b := b) (o := o) (ps := ps) _ PX trivial ?_
 exact J_return (v) Tryz.results291 (.tmp rfl .nil) rfl SU
theorem childClo {E : World} {l : List As} {bc : Nat} {i : Place} {s : SV} (hc : Has (blk bc 67 (encI i)) l) :
    Con Tryz.prog 294 #[evS s, .pointer (some ⟨bc, 0, none⟩)] E l (fun _ : Unit => .bool (decide (s.2 = i))) (fun _ => l) := by
  refine Con.body (vs := [evS s, .pointer (some ⟨bc, 0, none⟩)]) (n := 8) Tryz.func294 rfl rfl [(0, evS s), (1, .pointer (some ⟨bc, 0, none⟩))] (env_ok 2 rfl) <| sr <| L_op <| x_box rfl rfl rfl fun b2 => ag rfl rfl <| nx <| fa rfl rfl fa184_1 <| L_val rfl (v_loadA rfl ty67 HS CT) ?_
  refine L_val rfl (v_loadA rfl ty67 HS CT) ?_
  refine L_pur rfl (p_eqv rfl rfl (fun w => eg67 _ _ _ _ _ w) (fun w => eqv67 _ _ _ _ w)) <| J_slot (t := 7) (v := .bool (decide (s.2 = i))) rfl (by congr 1; simp [Prod.ext_iff]) <| ag rfl rfl <| nq <| J_ret ?_
  refine J_return (()) Tryz.results294 (.tmp rfl .nil) ?_ ?_
  · rfl
  · exact SU
theorem namesG {E : World} {l : List As} {c d : Cap} :
    Con Tryz.prog 293 #[.agg (encC c).toArray, .agg (encC d).toArray] E l (fun _ : Unit => .bool (namesC c d)) (fun _ => l) := by
  refine Con.body (vs := [.agg (encC c).toArray, .agg (encC d).toArray]) (n := 29) Tryz.func293 rfl rfl [(0, .agg (encC c).toArray), (1, .agg (encC d).toArray)] (env_ok 2 rfl) <| sr <| L_op <| x_box rfl rfl rfl fun b2 => L_op <| x_box rfl rfl rfl fun b3 => ag rfl rfl <| nx ?_
  refine fa rfl rfl fa69_0 <| L_val rfl (v_load rfl ty3 HS (by exact rfl)) ?_
  refine fa rfl rfl fa69_0 <| L_val rfl (v_load rfl ty3 HS (by exact rfl)) ?_
  refine L_pur rfl (p_eql rfl rfl) <| mv rfl rfl ?_
  refine J_gsplit (t := 10) rfl (fun h10 => ?_) (fun h10 => ?_)
  refine L_op <| G_on rfl rfl rfl <| J_pur (p_fieldAddr rfl fa69_1) rfl rfl rfl <| L_op <| G_on rfl rfl rfl <| J_val (v_load rfl ty3 HS (by exact rfl)) rfl rfl rfl ?_
  refine L_op <| G_on rfl rfl rfl <| J_pur (p_fieldAddr rfl fa69_1) rfl rfl rfl <| L_op <| G_on rfl rfl rfl <| J_val (v_load rfl ty3 HS (by exact rfl)) rfl rfl rfl ?_
  refine L_op <| G_on rfl rfl rfl <| J_pur (p_eql rfl rfl) rfl rfl rfl <| L_pur rfl (p_pick_t rfl rfl) <| mv rfl rfl ?_
  refine J_gsplit (t := 17) rfl (fun h17 => ?_) (fun h17 => ?_)
  refine L_op <| G_on rfl rfl rfl <| J_pur (p_fieldAddr rfl fa69_0) rfl rfl rfl <| L_op <| G_on rfl rfl rfl <| J_val (v_load rfl ty3 HS (by exact rfl)) rfl rfl rfl ?_
  refine L_op <| G_on rfl rfl rfl <| J_pur (p_neq rfl rfl) rfl rfl rfl <| L_op <| G_on rfl rfl rfl <| J_pur (p_move rfl) rfl rfl rfl ?_
  refine J_gsplit (t := 21) rfl (fun h21 => ?_) (fun h21 => ?_)
  refine L_op <| G_off rfl rfl rfl rfl rfl rfl <| L_op <| G_off rfl rfl rfl rfl rfl rfl <| L_op <| G_off rfl rfl rfl rfl rfl rfl <| L_op <| G_off rfl rfl rfl rfl rfl rfl ?_
  refine L_op <| G_off rfl rfl rfl rfl rfl rfl <| L_op <| G_on rfl rfl rfl <| J_pur (p_pick_t rfl rfl) rfl rfl rfl <| L_pur rfl (p_pick_t rfl rfl) <| ag rfl rfl <| nq ?_
  refine J_ret ?_
  refine J_return (()) Tryz.results293 (.tmp rfl .nil) ?_ ?_
  · first | rfl | (simp_all [one, namesC]; done) | (simp_all [one, namesC] <;> omega) | (simp_all [one, namesC] <;> grind)
  · exact SU
  refine L_op <| G_on rfl rfl rfl <| J_pur (p_fieldAddr rfl fa69_2) rfl rfl rfl <| L_op <| G_on rfl rfl rfl <| J_val (v_load rfl ty3 HS (by exact rfl)) rfl rfl rfl ?_
  refine L_op <| G_on rfl rfl rfl <| J_pur (p_fieldAddr rfl fa69_2) rfl rfl rfl <| L_op <| G_on rfl rfl rfl <| J_val (v_load rfl ty3 HS (by exact rfl)) rfl rfl rfl ?_
  refine L_op <| G_on rfl rfl rfl <| J_pur (p_eql rfl rfl) rfl rfl rfl <| L_op <| G_on rfl rfl rfl <| J_pur (p_pick_f rfl rfl) rfl rfl rfl <| L_pur rfl (p_pick_t rfl rfl) <| ag rfl rfl ?_
  refine nq <| J_ret ?_
  refine J_return (()) Tryz.results293 (.tmp rfl .nil) ?_ ?_
  · first | rfl | (simp_all [one, namesC]; done) | (simp_all [one, namesC] <;> omega) | (simp_all [one, namesC] <;> grind)
  · exact SU
  refine L_op <| G_off rfl rfl rfl rfl rfl rfl <| L_op <| G_off rfl rfl rfl rfl rfl rfl <| L_op <| G_off rfl rfl rfl rfl rfl rfl <| L_op <| G_off rfl rfl rfl rfl rfl rfl ?_
  refine L_op <| G_offU rfl rfl rfl rfl rfl <| L_op <| G_offU rfl rfl rfl rfl rfl <| L_op <| G_offU rfl rfl rfl rfl rfl <| L_op <| G_offU rfl rfl rfl rfl rfl ?_
  refine L_op <| G_offU rfl rfl rfl rfl rfl <| L_op <| G_off rfl rfl rfl rfl rfl rfl <| L_pur rfl (p_pick_f rfl rfl) <| ag rfl rfl <| nq <| J_ret ?_
  refine J_return (()) Tryz.results293 (.tmp rfl .nil) ?_ ?_
  · first | rfl | (simp_all [one, namesC]; done) | (simp_all [one, namesC] <;> omega) | (simp_all [one, namesC] <;> grind)
  · exact SU
  refine L_op <| G_off rfl rfl rfl rfl rfl rfl <| L_op <| G_off rfl rfl rfl rfl rfl rfl <| L_op <| G_off rfl rfl rfl rfl rfl rfl <| L_op <| G_off rfl rfl rfl rfl rfl rfl ?_
  refine L_op <| G_off rfl rfl rfl rfl rfl rfl <| L_pur rfl (p_pick_f rfl rfl) <| mv rfl rfl <| L_op <| G_off rfl rfl rfl rfl rfl rfl <| L_op <| G_off rfl rfl rfl rfl rfl rfl ?_
  refine L_op <| G_off rfl rfl rfl rfl rfl rfl <| L_op <| G_off rfl rfl rfl rfl rfl rfl <| L_op <| G_offU rfl rfl rfl rfl rfl <| L_op <| G_offU rfl rfl rfl rfl rfl ?_
  refine L_op <| G_offU rfl rfl rfl rfl rfl <| L_op <| G_offU rfl rfl rfl rfl rfl <| L_op <| G_offU rfl rfl rfl rfl rfl <| L_op <| G_off rfl rfl rfl rfl rfl rfl ?_
  refine L_pur rfl (p_pick_f rfl rfl) <| ag rfl rfl <| nq <| J_ret ?_
  refine J_return (()) Tryz.results293 (.tmp rfl .nil) ?_ ?_
  · first | rfl | (simp_all [one, namesC]; done) | (simp_all [one, namesC] <;> omega) | (simp_all [one, namesC] <;> grind)
  · exact SU
theorem namedClo {E : World} {l : List As} {bc : Nat} {c : Cap} {s : SV} (hc : Has (blk bc 69 (encC c)) l) :
    Con Tryz.prog 292 #[evS s, .pointer (some ⟨bc, 0, none⟩)] E l (fun _ : Unit => .bool (namesC s.1 c)) (fun _ => l) := by
  refine Con.body (vs := [evS s, .pointer (some ⟨bc, 0, none⟩)]) (n := 8) Tryz.func292 rfl rfl [(0, evS s), (1, .pointer (some ⟨bc, 0, none⟩))] (env_ok 2 rfl) <| sr <| L_op <| x_box rfl rfl rfl fun b2 => ag rfl rfl <| nx <| fa rfl rfl fa184_0 <| L_val rfl (v_loadA rfl ty69 HS CT) ?_
  refine L_val rfl (v_loadA rfl ty69 HS CT) ?_
  refine L_op <| xc fc293 (.cons rfl (.cons rfl .nil)) rfl (namesG (c := s.1) (d := c)) fun _ => ag rfl rfl <| nq <| J_ret ?_
  refine J_return (()) Tryz.results292 (.tmp rfl .nil) ?_ ?_
  · rfl
  · exact SU
theorem childC {E : World} {l m : List As} {b o : Nat} {ps : List (Place × SV)} (hp : Pick (slA b o ps) l m) {p : Place} (hz : ps.length ≤ 100000) :
  Con Tryz.prog 272 #[.pointer (some ⟨b, o, none⟩), .agg (encI p).toArray] E l (fun v : Value => v) (fun v => row 67 2 v ((kids ps p).map encI) :: slA b o ps :: m) := by
 refine Con.body (vs := [.pointer (some ⟨b, o, none⟩), .agg (encI p).toArray]) (n := 12) Tryz.func272 rfl rfl [(0, .pointer (some ⟨b, o, none⟩)), (1, .agg (encI p).toArray)] (env_ok 2 rfl) <| J_pick hp <| sr <| L_op <| x_box rfl rfl rfl fun b3 => ag rfl rfl <| nxx <| mv rfl rfl ?_
 refine L_val rfl (v_loadA rfl ty67 HS CT) ?_
 refine L_op <| xc fc60 (.cons rfl (.cons rfl .nil)) rfl (slHas (ps := ps) (p := p) PC) fun _ => ?_
 refine L_pur rfl (p_not rfl) <| nq ?_
 refine C_split rfl (fun h8 => ?_) (fun h8 => ?_)
 have hkd : kids ps p = [] := by
  unfold kids
  rw [if_neg (by simpa using h8)]
 refine J_nil (el := 67) (sz := 2) <| sr <| ag rfl rfl <| nq <| J_ret <| Q_then_ret <| J_pick (A := row 67 2 _ _) PC ?_
 refine J_rowEq (ys := (kids ps p).map encI) (by first | (rw [hkd]; done) | (rw [hkd]; rfl)) ?_
 exact J_return (_) Tryz.results272 (.tmp rfl .nil) rfl SU
 have hkd : kids ps p = heirs ps fun s => decide (s.2 = p) := by
  unfold kids
  rw [if_pos (by simpa using h8)]
 refine J_skip <| qx <| mv rfl rfl <| L_pur rfl (p_makeFunc (.cons rfl .nil)) <| L_op <| xc fc291 (.cons rfl (.cons rfl .nil)) rfl (whichC (ps := ps) (q := fun s => decide (s.2 = p)) (C := blk b3 67 (encI p)) Tryz.func294 nm294 bd294 (fun l' s h => childClo h) PX hz) <| JR fun a11 c11 hw11 hl11 hm11 hz11 => ag rfl rfl ?_
 refine nq <| J_ret <| J_pick (A := row 67 2 _ _) PC ?_
 refine J_rowEq (ys := (kids ps p).map encI) (by first | (rw [hkd]; done) | (rw [hkd]; rfl)) ?_
 exact J_return (_) Tryz.results272 (.tmp rfl .nil) rfl SU
theorem namedG {E : World} {l m : List As} {b o : Nat} {ps : List (Place × SV)} (hp : Pick (slA b o ps) l m) {c : Cap} (hz : ps.length ≤ 100000) :
    Con Tryz.prog 271 #[.pointer (some ⟨b, o, none⟩), .agg (encC c).toArray] E l (fun v : Value => v) (fun v => row 67 2 v ((named ps c).map encI) :: slA b o ps :: m) := by
  refine Con.body (vs := [.pointer (some ⟨b, o, none⟩), .agg (encC c).toArray]) (n := 8) Tryz.func271 rfl rfl [(0, .pointer (some ⟨b, o, none⟩)), (1, .agg (encC c).toArray)] (env_ok 2 rfl) <| J_pick hp <| sr <| L_op <| x_box rfl rfl rfl fun b3 => ag rfl rfl <| nx <| mv rfl rfl ?_
  refine L_pur rfl (p_makeFunc (.cons rfl .nil)) <| L_op <| xc fc291 (.cons rfl (.cons rfl .nil)) rfl (whichC (ps := ps) (q := fun s => namesC s.1 c) (C := blk b3 69 (encC c)) Tryz.func292 nm292 bd292 (fun l' s h => namedClo h) PX hz) <| JR fun a7 c7 hw7 hl7 hm7 hz7 => ag rfl rfl <| nq <| J_ret <| J_pick (A := row 67 2 _ _) PC ?_
  refine J_rowEq (ys := (named ps c).map encI) (by rfl) ?_
  exact J_return (_) Tryz.results271 (.tmp rfl .nil) rfl SU
theorem turnsC {E : World} {l m : List As} {b o : Nat} {ps : List (Place × SV)} (hp : Pick (slA b o ps) l m) {a to : Place} (hz : ps.length ≤ 100000) :
    Con Tryz.prog 268 #[.pointer (some ⟨b, o, none⟩), .agg (encI a).toArray, .agg (encI to).toArray] E l (fun _ : Unit => .tuple #[]) (fun _ => slA b o (turnS ps a to) :: m) := by
  refine Con.body (vs := [.pointer (some ⟨b, o, none⟩), .agg (encI a).toArray, .agg (encI to).toArray]) (n := 31) Tryz.func268 rfl rfl [(0, .pointer (some ⟨b, o, none⟩)), (1, .agg (encI a).toArray), (2, .agg (encI to).toArray)] (env_ok 3 rfl) <| J_pick hp <| sr <| L_op <| x_box rfl rfl rfl fun b4 => L_op <| x_box rfl rfl rfl fun b5 => nx ?_
  refine mv rfl rfl <| L_val rfl (v_loadA rfl ty67 HS CT) ?_
  refine L_op <| xc fc272 (.cons rfl (.cons rfl .nil)) rfl (childC (ps := ps) (p := a) PC hz) <| JR fun a10 c10 hw10 hl10 hm10 hz10 => J_pick (A := slA b o ps) PC ?_
  refine J_slKeyd fun hK => ?_
  have hkl := kids_len ps a
  obtain ⟨xs, hxs⟩ : ∃ xs, xs = kids ps a := ⟨_, rfl⟩
  refine J_pick (A := row 67 2 _ _) PC ?_
  refine J_rowTo (ys := xs.map encI) (v' := .slice a10 (xs.map encI).length c10) (by rw [hxs]) (by rw [hxs]) <| J_slot (t := 10) (v := .slice a10 (xs.map encI).length c10) rfl (by rw [hxs]) ?_
  rw [← hxs] at hkl hz10
  have hmc : c10 ≤ 9223372036854775807 := hm10
  have hml : (xs.map encI).length = xs.length := List.length_map _
  refine J_pick (A := slA b o ps) PC ?_
  refine J_asTo (B := slA b o (turnL ps to (xs.take 0))) (by rfl) <| L_pur rfl (p_len rfl Tryz.underlying81) <| mv rfl rfl <| nq <| J_block <| J_loop (α := Nat) (fun k => k ≤ xs.length) (fun k => slA b o (turnL ps to (xs.take k)) :: row 67 2 (.slice a10 (xs.map encI).length c10) (xs.map encI) :: blk b5 67 (encI to) :: m) (fun k => [(12, .int .i64 (k : Int)), (10, .slice a10 (xs.map encI).length c10), (11, .int .i64 ((xs.map encI).length : Int)), (0, .pointer (some ⟨b, o, none⟩)), (5, .pointer (some ⟨b5, 0, none⟩))]) (fun k => xs.length - k) 0 (by omega) SU KE ?_
  intro k hk
  refine sr <| L_pur rfl (p_lss rfl rfl) <| nq <| J_seq ?_
  refine C_dec rfl (fun h13 => ?_) (fun h13 => ?_)
  have hlt : k < xs.length := by omega
  obtain ⟨bx, ox, rfl⟩ := hz10 (by intro h; rw [h] at hml; simp at hml; omega)
  obtain ⟨c, hcc⟩ : ∃ c, xs[k]? = some c := ⟨_, List.getElem?_eq_getElem hlt⟩
  have hsm : (look (turnL ps to (xs.take k)) c).isSome = true := turnL_some (kids_some hK (by rw [← hxs]; exact List.mem_of_getElem? hcc))
  refine J_skip <| Q_then <| J_seq <| J_block <| sr <| L_pur rfl (p_indexAddr rfl rfl Tryz.underlying81 ty67 (by omega) (by omega)) ?_
  refine L_val rfl (v_loadE rfl ty67 HS (by first | (simp only [Int.toNat_natCast, List.getElem?_map, hcc]; rfl) | (simp only [Int.toNat_natCast, List.getElem?_map, hcd]; rfl) | simp | rfl)) ?_
  refine L_op <| x_alloc ty67 rfl fun b7 => L_op <| x_store rfl rfl ty67 rfl SM SM RO PT ?_
  refine nq <| J_pick (A := blk b7 _ _) PC ?_
  refine J_asTo (B := blk b7 67 (encI c)) (by rfl) <| J_pick (A := slA b o _) PC ?_
  refine J_slO fun ob _ => ?_
  obtain rfl | ⟨bm, rfl⟩ : ob = none ∨ ∃ bm, ob = some bm := by
    cases ob with
    | none => exact .inl rfl
    | some x => exact .inr ⟨x, rfl⟩
  · exact J_mapNone (ps := (turnL ps to (xs.take k))) HS fun hps => by rw [hps] at hsm; cases hsm
  refine J_drawT 14 mixed (by kernel_rfl) <| sm rfl rfl <| sp rfl (p_nilCheck rfl) <| sp rfl (p_fieldAddr rfl fa108_0) <| S_val rfl (v_loadL rfl ty106 HS rfl (by exact rfl)) ?_
  refine S_val rfl (v_loadA rfl ty67 HS CT) ?_
  refine sm rfl rfl <| sp rfl (p_nilCheck rfl) <| sp rfl (p_fieldAddr rfl fa108_0) <| S_val rfl (v_loadL rfl ty106 HS rfl (by exact rfl)) ?_
  refine S_val rfl (v_loadA rfl ty67 HS CT) ?_
  refine S_val rfl (v_look (ek := kI) (ev := evS) (a := c) rfl rfl ky67 Tryz.underlying106 zv184 HS) ?_
  refine J_slot (t := 26) (v := evS ((look (turnL ps to (xs.take k)) c).getD s0)) rfl (by cases look (turnL ps to (xs.take k)) c <;> rfl) <| sp rfl (p_field rfl fd184_0) <| S_val rfl (v_loadA rfl ty67 HS CT) ?_
  refine sp rfl (bld184 (.cons rfl (.cons rfl .nil)) (by repeat constructor)) <| S_nil <| L_op <| x_mapUpdate (ek := kI) (ev := evS) (a := c) (c := (((look (turnL ps to (xs.take k)) c).getD s0).1, to)) rfl rfl rfl ky67 Tryz.underlying106 PC ?_
  refine J_pick (A := mapV kI evS _ _) PC ?_
  refine J_mapEq (qs := turnL ps to (xs.take (k + 1))) (by rw [List.take_add_one, hcc, Option.toList_some, turnL_snoc]) <| J_slS (b := b) (o := o) (ps := turnL ps to (xs.take (k + 1))) _ PX trivial ?_
  refine L_nil <| Q_blk_normal <| qr <| L_pur rfl (p_add64 rfl rfl (by omega)) <| mv rfl rfl <| nq ?_
  exact J_again (k + 1) (by omega) (by omega) SU KE
  have hkx : k = xs.length := by omega
  subst hkx
  refine J_pick (A := slA b o _) PC ?_
  refine J_asTo (B := slA b o (turnS ps a to)) (by rw [List.take_length, hxs]; rfl) <| J_exit <| Q_then_exit <| Q_then_exit <| Q_blk_this <| J_endnormal ?_
  exact J_return (()) Tryz.results268 .nil rfl SU
theorem dropG {E : World} {l m : List As} {b o : Nat} {ps : List (Place × SV)} (hp : Pick (slA b o ps) l m) {p : Place} (hz : ps.length ≤ 100000) :
    Con Tryz.prog 270 #[.pointer (some ⟨b, o, none⟩), .agg (encI p).toArray] E l (fun _ : Unit => .bool (look ps p).isSome) (fun _ => slA b o (dropS ps p) :: m) := by
  refine Con.body (vs := [.pointer (some ⟨b, o, none⟩), .agg (encI p).toArray]) (n := 28) Tryz.func270 rfl rfl [(0, .pointer (some ⟨b, o, none⟩)), (1, .agg (encI p).toArray)] (env_ok 2 rfl) <| J_pick hp <| sr <| L_op <| x_box rfl rfl rfl fun b3 => ag rfl rfl <| nq <| J_seq ?_
  refine J_pick (A := slA b o ps) PC ?_
  refine J_slO fun ob _ => J_drawL none mixed <| ip 0 rfl rfl rfl rfl (p_move rfl) <| ip 1 rfl rfl rfl rfl (p_nilCheck rfl) <| ip 2 rfl rfl rfl rfl (p_fieldAddr rfl fa108_0) <| iv 3 rfl rfl rfl rfl (fun _ => v_loadL rfl ty106 HS rfl (by exact rfl)) ?_
  refine iv 4 rfl rfl rfl rfl (fun _ => v_loadA rfl ty67 HS CT) ?_
  refine iv 5 rfl rfl rfl rfl (fun _ => v_lookOk (ek := kI) (ev := evS) (a := p) rfl rfl ky67 Tryz.underlying106 zv184 HS) ?_
  refine J_slot (t := 13) (v := .tuple #[evS ((look ps p).getD s0), .bool (look ps p).isSome]) rfl (by cases look ps p <;> rfl) <| ip 6 rfl rfl rfl rfl (p_move rfl) <| ip 7 rfl rfl rfl rfl (p_extract rfl rfl) <| ip 8 rfl rfl rfl rfl (p_extract rfl rfl) <| i1 9 rfl <| x_alloc ty184 rfl fun b5 => i1 10 rfl <| x_store rfl rfl ty184 rfl SM SM RO PT ?_
  refine ip 11 rfl rfl rfl rfl (p_assign rfl) <| i0 <| Q_then <| J_seq <| sr <| mv rfl rfl <| L_pur rfl (p_not rfl) <| nq ?_
  refine C_split rfl (fun h17 => ?_) (fun h17 => ?_)
  have hno : look ps p = none := by
    cases hq : look ps p with
    | none => rfl
    | some y => rw [hq] at h17; simp at h17
  have hds : dropS ps p = ps := by unfold dropS; rw [hno]
  refine J_slS (b := b) (o := o) (ps := ps) ob PX trivial ?_
  refine J_asTo (B := slA b o (dropS ps p)) (by rw [hds]) <| sr <| ag rfl rfl <| nq <| J_ret <| Q_then_ret ?_
  refine J_return (()) Tryz.results270 (.tmp rfl .nil) ?_ ?_
  · simp_all [one]
  · exact SU
  obtain ⟨s, hs⟩ : ∃ x, look ps p = some x := by
    cases hq : look ps p with
    | none => rw [hq] at h17; simp at h17
    | some y => exact ⟨y, rfl⟩
  have hds : dropS ps p = del (turnS ps p s.2) p := by unfold dropS; rw [hs]
  refine J_slS (b := b) (o := o) (ps := ps) ob PX trivial ?_
  refine J_pick (A := blk b5 _ _) PC ?_
  refine J_asTo (B := blk b5 184 (encC s.1 ++ encI s.2)) (by rw [hs]; rfl) <| J_skip <| qx <| mv rfl rfl <| L_val rfl (v_loadA rfl ty67 HS CT) ?_
  refine fa rfl rfl fa184_1 <| L_val rfl (v_loadA rfl ty67 HS CT) ?_
  refine L_op <| xc fc268 (.cons rfl (.cons rfl (.cons rfl .nil))) rfl (turnsC (ps := ps) (a := p) (to := s.2) PC hz) fun _ => ?_
  refine nq <| J_seq <| J_pick (A := slA b o (turnS ps p s.2)) PC ?_
  refine J_slO fun ob _ => J_drawT 5 mixed (by kernel_rfl) <| sm rfl rfl <| sp rfl (p_nilCheck rfl) <| sp rfl (p_fieldAddr rfl fa108_0) <| S_val rfl (v_loadL rfl ty106 HS rfl (by exact rfl)) ?_
  refine S_val rfl (v_loadA rfl ty67 HS CT) ?_
  refine S_nil <| L_op <| x_delete (ek := kI) (ev := evS) (a := p) rfl rfl ky67 Tryz.underlying106 PC ?_
  refine J_slS (b := b) (o := o) (ps := del (turnS ps p s.2) p) _ PX trivial ?_
  refine J_asTo (B := slA b o (dropS ps p)) (by rw [hds]) <| nx <| ag rfl rfl <| nq <| J_ret ?_
  refine J_return (()) Tryz.results270 (.tmp rfl .nil) ?_ ?_
  · simp_all [one]
  · exact SU
end Go.Pse
namespace Go.Pse
open Go.RowKit Go.Proofs
/-! ### plain: copies, moves; what a deletion takes -/
def bothS (ps : List (Place × SV)) (p q : Place) : Cap × Int := match look ps p with
  | none => (c0, 4)
  | some s => if canP q = false then (c0, 7) else if (look ps q).isSome then (c0, 3) else (s.1, 0)
def lessC (c : Cap) (r : Int) : Cap := { c with rights := bits .and .i64 c.rights (bits .and .i64 r 7) }
def badgeC (c : Cap) (n : Int) : Cap × Int :=
  if c.kind = 4 ∨ c.kind = 5 then (if c.badge ≠ 0 ∨ n = 0 then (c0, 12) else if n > 2147483647 then (c0, 7) else ({ c with badge := n }, 0))
  else if c.kind = 2 then (if checkC { c with size := n % 256, badge := n / 256 } = true then ({ c with size := n % 256, badge := n / 256 }, 0) else (c0, 7))
  else (c0, 5)
def copyS (ps : List (Place × SV)) (p q : Place) (r : Int) : List (Place × SV) × Int :=
  if (bothS ps p q).2 ≠ 0 then (ps, (bothS ps p q).2) else if r < 0 ∨ r > 7 then (ps, 7) else (slPut ps q (lessC (bothS ps p q).1 r) p, 0)
def mintS (ps : List (Place × SV)) (p q : Place) (n : Int) : List (Place × SV) × Int :=
  if (bothS ps p q).2 ≠ 0 then (ps, (bothS ps p q).2) else if (badgeC (bothS ps p q).1 n).2 ≠ 0 then (ps, (badgeC (bothS ps p q).1 n).2) else (slPut ps q (badgeC (bothS ps p q).1 n).1 p, 0)
def dmoveS (ps : List (Place × SV)) (p q : Place) : List (Place × SV) × Int := (if (bothS ps p q).2 = 0 then moveS ps p q else ps, (bothS ps p q).2)
theorem has_some {ps : List (Place × SV)} {p a : Place} (h : a ∈ kids ps p) : (look ps a).isSome = true := by
  unfold kids at h
  split at h
  · obtain ⟨s, h1, _⟩ := heirs_mem.1 h
    cases hq : look ps a with
    | none => exact absurd (List.mem_map.2 ⟨(a, s), h1, rfl⟩) (look_none_iff.1 hq)
    | some y => rfl
  · cases h
theorem ins_len {ps : List (Place × SV)} {a : Place} {u : SV} (h : (look ps a).isSome = true) : (ins ps a u).length = ps.length := by
  unfold Go.Pse.ins; rw [if_pos h, List.length_map]
theorem turnL_len {to : Place} : ∀ {l : List Place} {ps : List (Place × SV)}, (∀ a ∈ l, (look ps a).isSome = true) → (turnL ps to l).length = ps.length
  | [], _, _ => rfl
  | k :: l, ps, h => by
    have h1 := turnL_len (to := to) (l := l) (ps := ins ps k (((look ps k).getD s0).1, to)) fun a ha => by
      rw [look_ins]; split
      · rfl
      · exact h a (List.mem_cons_of_mem _ ha)
    show (turnL (ins ps k (((look ps k).getD s0).1, to)) to l).length = _
    rw [h1, ins_len (h k List.mem_cons_self)]
theorem turnS_len (ps : List (Place × SV)) (a to : Place) : (turnS ps a to).length = ps.length := turnL_len fun _ h => has_some h
theorem dropS_len {ps : List (Place × SV)} {p : Place} {s : SV} (h : look ps p = some s) : (dropS ps p).length + 1 ≤ ps.length := by
  have e : dropS ps p = del (turnS ps p s.2) p := by unfold dropS; rw [h]
  have h1 : (look (turnS ps p s.2) p).isSome = true := turnL_some (by rw [h]; rfl)
  obtain ⟨y, hy⟩ := Option.isSome_iff_exists.1 h1
  have := del_less hy
  rw [e, turnS_len] at *
  exact this
abbrev Obj2 := Int × Int
def dropK1 (D : List (Place × SV) → Place → List (Place × SV) × List Obj2) (u : Int) (x : List (Place × SV) × List Obj2) (k : Nat) : List (Place × SV) × List Obj2 := match D x.1 (u, (k : Int)) with
  | (t, o) => (t, x.2 ++ o)
def dropK (D : List (Place × SV) → Place → List (Place × SV) × List Obj2) (u : Int) (n : Nat) (x : List (Place × SV) × List Obj2) : List (Place × SV) × List Obj2 := (List.range n).foldl (dropK1 D u) x
def kDropT : Nat → List (Place × SV) → Place → List (Place × SV) × List Obj2
  | 0, ps, _ => (ps, [])
  | n + 1, ps, p => match look ps p with
    | none => (ps, [])
    | some s => match named (dropS ps p) s.1 with
      | _ :: _ => (dropS ps p, [])
      | [] => if s.1.kind = 2 then dropK (kDropT n) s.1.obj 16 (dropS ps p, [(s.1.kind, s.1.obj)]) else (dropS ps p, [(s.1.kind, s.1.obj)])
theorem dropK_succ {D : List (Place × SV) → Place → List (Place × SV) × List Obj2} {u : Int} {n : Nat} {x : List (Place × SV) × List Obj2} : dropK D u (n + 1) x = ((D (dropK D u n x).1 (u, (n : Int))).1, (dropK D u n x).2 ++ (D (dropK D u n x).1 (u, (n : Int))).2) := by
  unfold dropK
  rw [List.range_succ, List.foldl_append]
  rfl
theorem dropK_len {D : List (Place × SV) → Place → List (Place × SV) × List Obj2} (hD : ∀ ps p, (D ps p).1.length + (D ps p).2.length ≤ ps.length) {u : Int} {x : List (Place × SV) × List Obj2} : ∀ n, (dropK D u n x).1.length + (dropK D u n x).2.length ≤ x.1.length + x.2.length
  | 0 => Nat.le_refl _
  | n + 1 => by
    rw [dropK_succ]
    have h1 := dropK_len hD (u := u) (x := x) n
    have h2 := hD (dropK D u n x).1 (u, (n : Int))
    simp only [List.length_append]
    omega
theorem kDropT_len : ∀ n ps p, (kDropT n ps p).1.length + (kDropT n ps p).2.length ≤ ps.length
  | 0, ps, p => Nat.le_refl _
  | n + 1, ps, p => by
    rw [kDropT]
    split
    · simp
    · rename_i s hs
      have h1 := dropS_len hs
      split
      · simp; omega
      · split
        · have := dropK_len (kDropT_len n) (u := s.1.obj) (x := (dropS ps p, [(s.1.kind, s.1.obj)])) 16
          simp at this ⊢
          omega
        · simp; omega
theorem dropK_le {D : List (Place × SV) → Place → List (Place × SV) × List Obj2} (hD : ∀ ps p, (D ps p).1.length + (D ps p).2.length ≤ ps.length) {u : Int} {x : List (Place × SV) × List Obj2} (n : Nat) : (dropK D u n x).1.length ≤ x.1.length := by
  induction n with
  | zero => exact Nat.le_refl _
  | succ n ih =>
    rw [dropK_succ]
    have h2 := hD (dropK D u n x).1 (u, (n : Int))
    show (D (dropK D u n x).1 (u, (n : Int))).1.length ≤ _
    omega
theorem kDropT_less {n : Nat} {ps : List (Place × SV)} {p : Place} {s : SV} (h : look ps p = some s) : (kDropT (n + 1) ps p).1.length < ps.length := by
  have h1 := dropS_len h
  rw [kDropT, h]
  dsimp only
  split
  · exact h1
  · split
    · have := dropK_le (kDropT_len n) (u := s.1.obj) (x := (dropS ps p, [(s.1.kind, s.1.obj)])) 16
      simp only at this
      omega
    · exact h1
def deleteS (ps : List (Place × SV)) (p : Place) : (List (Place × SV) × List Obj2) × Int := match look ps p with
  | none => ((ps, []), 4)
  | some _ => (kDropT ps.length ps p, 0)
def belowS (ps : List (Place × SV)) (p : Place) : Option (List Place) := (belowL ps ps.length [] (kids ps p)).map sortP
def revL (p : Place) : Nat → List (Place × SV) → List Obj2 → Option (List (Place × SV) × List Obj2)
  | 0, _, _ => none
  | n + 1, ps, out => match belowS ps p with
    | none => none
    | some [] => some (ps, out)
    | some (a :: _) => match kDropT ps.length ps a with
      | (t, o) => revL p n t (out ++ o)
def revokeS (ps : List (Place × SV)) (p : Place) : (List (Place × SV) × List Obj2) × Int := match look ps p with
  | none => ((ps, []), 4)
  | some _ => ((revL p (ps.length + 1) ps []).getD (ps, []), 0)
def RevOk (ps : List (Place × SV)) (p : Place) : Prop := (look ps p).isSome = true → (revL p (ps.length + 1) ps []).isSome = true
theorem revL_below {p : Place} {n : Nat} {ps : List (Place × SV)} {out : List Obj2} {r : List (Place × SV) × List Obj2} (h : revL p n ps out = some r) : ∃ L, belowS ps p = some L := by
  cases n with
  | zero => simp [revL] at h
  | succ n =>
    cases hb : belowS ps p with
    | none => rw [revL, hb] at h; cases h
    | some L => exact ⟨L, rfl⟩
theorem revL_step {p a : Place} {n : Nat} {ps : List (Place × SV)} {out : List Obj2} {ls : List Place} (hb : belowS ps p = some (a :: ls)) : revL p (n + 1) ps out = revL p n (kDropT ps.length ps a).1 (out ++ (kDropT ps.length ps a).2) := by rw [revL, hb]
def DropC (n : Nat) : Prop := ∀ (E : World) (l m : List As) (b o : Nat) (ps : List (Place × SV)) (p : Place), Pick (slA b o ps) l m → ps.length ≤ n → n ≤ 100000 →
  Con Tryz.prog 232 #[.pointer (some ⟨b, o, none⟩), .agg (encI p).toArray] E l (fun v : Value => v) (fun v => row 418 2 v (((kDropT n ps p).2).map encI) :: slA b o (kDropT n ps p).1 :: m)
theorem dropStep {E : World} {l m : List As} {b o : Nat} {ps : List (Place × SV)} (hp : Pick (slA b o ps) l m) {p : Place} {n : Nat} (hD : ∀ k, n = k + 1 → DropC k) (hn : ps.length ≤ n) (hn1 : n ≤ 100000) :
    Con Tryz.prog 232 #[.pointer (some ⟨b, o, none⟩), .agg (encI p).toArray] E l (fun v : Value => v) (fun v => row 418 2 v (((kDropT n ps p).2).map encI) :: slA b o (kDropT n ps p).1 :: m) := by
  refine Con.body (vs := [.pointer (some ⟨b, o, none⟩), .agg (encI p).toArray]) (n := 48) Tryz.func232 rfl rfl [(0, .pointer (some ⟨b, o, none⟩)), (1, .agg (encI p).toArray)] (env_ok 2 rfl) <| J_pick hp <| sr <| L_op <| x_box rfl rfl rfl fun b3 => ag rfl rfl <| nx <| mv rfl rfl ?_
  refine L_val rfl (v_loadA rfl ty67 HS CT) ?_
  refine L_op <| xc fc34 (.cons rfl (.cons rfl .nil)) rfl (slGetC (ps := ps) (p := p) PC) fun _ => ?_
  refine mv rfl rfl <| L_pur rfl (p_extract rfl rfl) <| L_pur rfl (p_extract rfl rfl) <| L_op <| x_alloc ty69 rfl fun b5 => L_op <| x_store rfl rfl ty69 rfl SM SM RO PT ?_
  refine ag rfl rfl <| nxx <| mv rfl rfl <| L_pur rfl (p_not rfl) <| nq ?_
  refine C_split rfl (fun h16 => ?_) (fun h16 => ?_)
  have hno : look ps p = none := by
    cases hq : look ps p with
    | none => rfl
    | some y => rw [hq] at h16; simp at h16
  have hkd : (kDropT n ps p) = (ps, []) := by
    cases n with
    | zero => rfl
    | succ n => rw [kDropT, hno]
  refine J_nil (el := 418) (sz := 2) <| sr <| ag rfl rfl <| nq <| J_ret <| Q_then_ret <| J_pick (A := slA b o _) PC ?_
  refine J_asTo (B := slA b o (kDropT n ps p).1) (by rw [hkd]) <| J_pick (A := row 418 2 _ _) PC ?_
  refine J_rowEq (ys := (kDropT n ps p).2.map encI) (by rw [hkd]; try rfl) ?_
  exact J_return (_) Tryz.results232 (.tmp rfl .nil) rfl SU
  obtain ⟨s, hs⟩ : ∃ x, look ps p = some x := by
    cases hq : look ps p with
    | none => rw [hq] at h16; simp at h16
    | some y => exact ⟨y, rfl⟩
  have hsl := dropS_len hs
  obtain ⟨k, rfl⟩ : ∃ k, n = k + 1 := ⟨n - 1, by omega⟩
  refine J_pick (A := blk b5 _ _) PC ?_
  refine J_asTo (B := blk b5 69 (encC s.1)) (by rw [hs]; rfl) <| J_skip <| qx <| mv rfl rfl <| L_val rfl (v_loadA rfl ty67 HS CT) ?_
  refine L_op <| xc fc270 (.cons rfl (.cons rfl .nil)) rfl (dropG (ps := ps) (p := p) PC (by omega)) fun _ => ?_
  refine nxx <| mv rfl rfl <| L_val rfl (v_loadA rfl ty69 HS CT) ?_
  refine L_op <| xc fc271 (.cons rfl (.cons rfl .nil)) rfl (namedG (ps := dropS ps p) (c := s.1) PC (by omega)) <| JR fun a22 c22 hw22 hl22 hm22 hz22 => L_pur rfl (p_len rfl Tryz.underlying81) <| J_slot (t := 23) (v := .int .i64 ((named (dropS ps p) s.1).length : Int)) rfl (by rw [List.length_map]) <| L_pur rfl (p_gtr rfl rfl) <| nq ?_
  refine C_dec rfl (fun h24 => ?_) (fun h24 => ?_)
  have hkd : (kDropT (k + 1) ps p) = (dropS ps p, []) := by
    rw [kDropT, hs]
    dsimp only
    split
    · rfl
    · rename_i hq
      rw [hq] at h24; simp at h24
  refine J_nil (el := 418) (sz := 2) <| sr <| ag rfl rfl <| nq <| J_ret <| Q_then_ret <| J_pick (A := slA b o _) PC ?_
  refine J_asTo (B := slA b o (kDropT (k + 1) ps p).1) (by rw [hkd]) <| J_pick (A := row 418 2 _ _) PC ?_
  refine J_rowEq (ys := (kDropT (k + 1) ps p).2.map encI) (by rw [hkd]; try rfl) ?_
  exact J_return (_) Tryz.results232 (.tmp rfl .nil) rfl SU
  have hnm : named (dropS ps p) s.1 = [] := by
    cases hq : named (dropS ps p) s.1 with
    | nil => rfl
    | cons x xs => rw [hq] at h24; simp at h24 <;> omega
  refine J_skip <| qx <| fa rfl rfl fa69_0 <| L_val rfl (v_load rfl ty3 HS (by exact rfl)) ?_
  refine fa rfl rfl fa69_1 <| L_val rfl (v_load rfl ty3 HS (by exact rfl)) ?_
  refine L_pur rfl (bld418 (.cons rfl (.cons rfl .nil)) (by repeat constructor)) <| L_op <| x_lit (vals := [_]) Tryz.underlying326 ty418 rfl (.cons rfl .nil) (.agg .nil) (Wf.cons rfl rfl Wf.nil) rfl (by decide) rfl rfl <| JE ([(s.1.kind, s.1.obj)].map encI) (by rfl) fun a30 c30 hw30 hl30 hm30 hz30 => ag rfl rfl <| nxx <| fa rfl rfl fa69_0 <| L_val rfl (v_load rfl ty3 HS (by exact rfl)) ?_
  refine L_pur rfl (p_neq rfl rfl) <| nq ?_
  refine C_dec rfl (fun h33 => ?_) (fun h33 => ?_)
  have hkd : (kDropT (k + 1) ps p) = (dropS ps p, [(s.1.kind, s.1.obj)]) := by
    rw [kDropT, hs]
    dsimp only
    rw [hnm]
    exact if_neg h33
  refine sr <| mv rfl rfl <| ag rfl rfl <| nq <| J_ret <| Q_then_ret <| J_pick (A := slA b o _) PC ?_
  refine J_asTo (B := slA b o (kDropT (k + 1) ps p).1) (by rw [hkd]) <| J_pick (A := row 418 2 _ _) PC ?_
  refine J_rowEq (ys := (kDropT (k + 1) ps p).2.map encI) (by rw [hkd]; try rfl) ?_
  exact J_return (_) Tryz.results232 (.tmp rfl .nil) rfl SU
  have hkd : (kDropT (k + 1) ps p) = (dropK (kDropT k) s.1.obj 16 (dropS ps p, [(s.1.kind, s.1.obj)])) := by
    rw [kDropT, hs]
    dsimp only
    rw [hnm]
    exact if_pos (by simpa using h33)
  refine J_skip <| Q_then <| J_seq <| sr <| mv rfl rfl <| J_pick (A := slA b o _) PC ?_
  refine J_asTo (B := slA b o (dropK (kDropT k) s.1.obj 0 (dropS ps p, [(s.1.kind, s.1.obj)])).1) (by rfl) <| J_pick (A := row 418 2 _ _) PC ?_
  refine J_rowEq (ys := (dropK (kDropT k) s.1.obj 0 (dropS ps p, [(s.1.kind, s.1.obj)])).2.map encI) (by rfl) <| nq <| J_block <| J_loop2 (fun (j : Nat) v => j ≤ 16) (fun j v => row 418 2 v (((dropK (kDropT k) s.1.obj j (dropS ps p, [(s.1.kind, s.1.obj)])).2).map encI) :: blk b5 69 (encC s.1) :: slA b o (dropK (kDropT k) s.1.obj j (dropS ps p, [(s.1.kind, s.1.obj)])).1 :: m) (fun j v => [(35, .int .i64 (j : Int)), (7, v), (0, .pointer (some ⟨b, o, none⟩)), (5, .pointer (some ⟨b5, 0, none⟩))]) (fun j v => 16 - j) 0 _ (by omega) SU KE ?_
  intro j v hj
  have hlen := dropK_len (kDropT_len k) (u := s.1.obj) (x := (dropS ps p, [(s.1.kind, s.1.obj)])) j
  have hlen1 := dropK_len (kDropT_len k) (u := s.1.obj) (x := (dropS ps p, [(s.1.kind, s.1.obj)])) (j + 1)
  simp only [List.length_cons, List.length_nil] at hlen hlen1
  rw [dropK_succ] at hlen1
  simp only [List.length_append] at hlen1
  have hle := dropK_le (kDropT_len k) (u := s.1.obj) (x := (dropS ps p, [(s.1.kind, s.1.obj)])) j
  simp only at hle
  refine sr <| L_pur rfl (p_lss rfl rfl) <| nq <| J_seq ?_
  refine C_dec rfl (fun h36 => ?_) (fun h36 => ?_)
  refine J_skip <| Q_then <| J_seq <| J_block <| sr <| mv rfl rfl <| ag rfl rfl <| ny ?_
  refine mv rfl rfl <| mv rfl rfl <| fa rfl rfl fa69_1 <| L_val rfl (v_load rfl ty3 HS (by exact rfl)) ?_
  refine mv rfl rfl <| L_pur rfl (bld67 (.cons rfl (.cons rfl .nil)) (by repeat constructor)) <| L_op <| xc fc232 (.cons rfl (.cons rfl .nil)) rfl (hD k rfl _ _ _ b o (dropK (kDropT k) s.1.obj j (dropS ps p, [(s.1.kind, s.1.obj)])).1 (s.1.obj, (j : Int)) PC (by omega) (by omega)) <| JR fun a44 c44 hw44 hl44 hm44 hz44 => L_op <| x_app rfl rfl Tryz.underlying326 ty418 rfl rfl PC (fun w H => sep_reads HS H) (by simp; omega) (by simp; omega) rfl <| JE ((dropK (kDropT k) s.1.obj (j + 1) (dropS ps p, [(s.1.kind, s.1.obj)])).2.map encI) (by rw [dropK_succ]; simp) fun a45 c45 hw45 hl45 hm45 hz45 => ?_
  refine J_pick (A := slA b o _) PC ?_
  refine J_asTo (B := slA b o (dropK (kDropT k) s.1.obj (j + 1) (dropS ps p, [(s.1.kind, s.1.obj)])).1) (by rw [dropK_succ]) <| ag rfl rfl <| L_nil <| Q_blk_normal <| qr <| L_pur rfl (p_add64 rfl rfl (by omega)) <| mv rfl rfl <| nq ?_
  exact J_again2 (j + 1) _ (by omega) (by omega) SU KE
  have hj16 : j = 16 := by omega
  subst hj16
  refine J_exit <| Q_then_exit <| Q_then_exit <| Q_blk_this <| qx <| mv rfl rfl <| ag rfl rfl <| nq ?_
  refine J_ret <| J_pick (A := slA b o _) PC ?_
  refine J_asTo (B := slA b o (kDropT (k + 1) ps p).1) (by rw [hkd]) <| J_pick (A := row 418 2 _ _) PC ?_
  refine J_rowEq (ys := (kDropT (k + 1) ps p).2.map encI) (by rw [hkd]; try rfl) ?_
  exact J_return (_) Tryz.results232 (.tmp rfl .nil) rfl SU
theorem dropAll : ∀ n, DropC n
  | 0 => fun _ _ _ _ _ _ _ hp hn h1 => dropStep hp (fun _ h => by cases h) hn h1
  | n + 1 => fun _ _ _ _ _ _ _ hp hn h1 => dropStep hp (fun k h => by cases h; exact dropAll n) hn h1
theorem deleteG {E : World} {l m : List As} {b o : Nat} {ps : List (Place × SV)} (hp : Pick (slA b o ps) l m) {p : Place} (hz : ps.length ≤ 100000) :
    Con Tryz.prog 167 #[.pointer (some ⟨b, o, none⟩), .agg (encI p).toArray] E l (fun v : Value => .tuple #[v, .int .i64 (deleteS ps p).2]) (fun v => row 418 2 v (((deleteS ps p).1.2).map encI) :: slA b o (deleteS ps p).1.1 :: m) := by
  refine Con.body (vs := [.pointer (some ⟨b, o, none⟩), .agg (encI p).toArray]) (n := 19) Tryz.func167 rfl rfl [(0, .pointer (some ⟨b, o, none⟩)), (1, .agg (encI p).toArray)] (env_ok 2 rfl) <| J_pick hp <| sr <| L_op <| x_box rfl rfl rfl fun b3 => ag rfl rfl <| ag rfl rfl <| nxx ?_
  refine mv rfl rfl <| L_val rfl (v_loadA rfl ty67 HS CT) ?_
  refine L_op <| xc fc34 (.cons rfl (.cons rfl .nil)) rfl (slGetC (ps := ps) (p := p) PC) fun _ => ?_
  refine mv rfl rfl <| L_pur rfl (p_extract rfl rfl) <| L_pur rfl (p_extract rfl rfl) <| L_op <| x_alloc ty69 rfl fun b6 => L_op <| x_store rfl rfl ty69 rfl SM SM RO PT ?_
  refine ag rfl rfl <| nx <| mv rfl rfl <| L_pur rfl (p_not rfl) <| nq ?_
  refine C_split rfl (fun h15 => ?_) (fun h15 => ?_)
  have hno : look ps p = none := by
    cases hq : look ps p with
    | none => rfl
    | some y => rw [hq] at h15; simp at h15
  have hkd : (deleteS ps p) = ((ps, []), 4) := by unfold deleteS; rw [hno]
  refine J_nil (el := 418) (sz := 2) <| sr <| ag rfl rfl <| ag rfl rfl <| nq <| J_ret <| Q_then_ret <| J_pick (A := slA b o _) PC ?_
  refine J_asTo (B := slA b o (deleteS ps p).1.1) (by rw [hkd]) <| J_pick (A := row 418 2 _ _) PC ?_
  refine J_rowEq (ys := (deleteS ps p).1.2.map encI) (by rw [hkd]; try rfl) ?_
  refine J_return (.slice none 0 0) Tryz.results167 (.tmp rfl (.tmp rfl .nil)) ?_ ?_
  · rw [hkd]; rfl
  · exact SU
  obtain ⟨s, hs⟩ : ∃ x, look ps p = some x := by
    cases hq : look ps p with
    | none => rw [hq] at h15; simp at h15
    | some y => exact ⟨y, rfl⟩
  have hkd : (deleteS ps p) = (kDropT ps.length ps p, 0) := by unfold deleteS; rw [hs]
  refine J_skip <| qx <| mv rfl rfl <| L_val rfl (v_loadA rfl ty67 HS CT) ?_
  refine L_op <| xc fc232 (.cons rfl (.cons rfl .nil)) rfl (dropAll ps.length _ _ _ b o ps p PC (Nat.le_refl _) hz) <| JR fun a18 c18 hw18 hl18 hm18 hz18 => ag rfl rfl <| ag rfl rfl <| nq <| J_ret <| J_pick (A := slA b o _) PC ?_
  refine J_asTo (B := slA b o (deleteS ps p).1.1) (by rw [hkd]) <| J_pick (A := row 418 2 _ _) PC ?_
  refine J_rowEq (ys := (deleteS ps p).1.2.map encI) (by rw [hkd]; try rfl) ?_
  refine J_return (.slice a18 ((kDropT ps.length ps p).2.map encI).length c18) Tryz.results167 (.tmp rfl (.tmp rfl .nil)) ?_ ?_
  · rw [hkd]; rfl
  · exact SU
end Go.Pse
namespace Go.Pse
open Go.RowKit Go.Proofs
/-! ### plain: objects are made of memory -/
def usedM (mr : List (Place × Int)) (r : Place) : Int := (look mr r).getD 0
def mtkOk (mr : List (Place × Int)) (r : Place) (n : Int) : Bool := decide (1 ≤ n) && decide (n ≤ r.2 - usedM mr r)
def mtkM (mr : List (Place × Int)) (r : Place) (n : Int) : List (Place × Int) := if mtkOk mr r n = true then ins mr r (usedM mr r + n) else mr
def mtkV (mr : List (Place × Int)) (r : Place) (n : Int) : Int := if mtkOk mr r n = true then r.1 + usedM mr r else 0
def kindsC (kind size : Int) : Int := if kind = 2 ∨ kind = 3 ∨ kind = 4 ∨ kind = 5 ∨ kind = 7 then (if size ≠ 0 then 7 else 0) else if kind = 1 then (if size < 1 ∨ size > 64 then 7 else 0) else 5
def sizeC (c : Cap) : Int := if c.kind = 1 then c.size else 1
def withinC (c u : Cap) : Bool := !(decide (c.obj ≥ u.obj + u.size) || decide (c.obj + sizeC c ≤ u.obj)) && (decide (c.kind ≠ 1) || decide (c.obj > u.obj) || decide (c.obj + sizeC c < u.obj + u.size))
def bareS (ps : List (Place × SV)) (u : Cap) : Bool := ps.all fun e => !withinC e.2.1 u
def rangeC (c : Cap) : Place := if c.kind ≠ 1 then (0, 0) else (c.obj, c.size)
def CapsOk (ps : List (Place × SV)) : Prop := ∀ e ∈ ps, checkC e.2.1 = true
def MarksOk (mr : List (Place × Int)) : Prop := ∀ e ∈ mr, 0 ≤ e.2 ∧ e.2 ≤ 64
def resetM (ps : List (Place × SV)) (mr : List (Place × Int)) (u : Cap) : List (Place × Int) := if bareS ps u = true then del mr (rangeC u) else mr
def madeC (mr : List (Place × Int)) (u : Cap) (kind size : Int) : Cap := ⟨kind, mtkV mr (rangeC u) (max size 1), size, 0, 7⟩
def makeS (ps : List (Place × SV)) (mr : List (Place × Int)) (p q : Place) (kind size : Int) : (List (Place × SV) × List (Place × Int)) × Cap × Int := match look ps p with
  | none => ((ps, mr), c0, 4)
  | some u => if u.1.kind ≠ 1 then ((ps, mr), c0, 5) else if canP q = false then ((ps, mr), c0, 7) else if (look ps q).isSome then ((ps, mr), c0, 3) else if kindsC kind size ≠ 0 then ((ps, mr), c0, kindsC kind size)
    else if mtkOk (resetM ps mr u.1) (rangeC u.1) (max size 1) = true then ((slPut ps q (madeC (resetM ps mr u.1) u.1 kind size) p, mtkM (resetM ps mr u.1) (rangeC u.1) (max size 1)), madeC (resetM ps mr u.1) u.1 kind size, 0)
    else ((ps, resetM ps mr u.1), c0, 8)
theorem checkC_is {c : Cap} (h : checkC c = true) : (1 ≤ c.obj ∧ c.obj ≤ 64) ∧ (0 ≤ c.size ∧ c.size ≤ 64) ∧ (c.kind = 1 → c.obj + c.size ≤ 65 ∧ 1 ≤ c.size) := by
  unfold checkC inB at h
  simp only [Bool.and_eq_true, decide_eq_true_eq] at h
  obtain ⟨⟨⟨h1, h2⟩, h3⟩, h4⟩ := h
  split at h4
  · simp at h4; omega
  · split at h4
    · simp at h4; omega
    · split at h4 <;> simp at h4 <;> omega
theorem usedM_is {mr : List (Place × Int)} (h : MarksOk mr) (r : Place) : 0 ≤ usedM mr r ∧ usedM mr r ≤ 64 := by
  unfold usedM
  cases hq : look mr r with
  | none => simp
  | some y => exact h _ (mem_look hq)
theorem MarksOk.del {mr : List (Place × Int)} (h : MarksOk mr) (r : Place) : MarksOk (del mr r) := fun e he => h e (List.mem_filter.1 he).1
theorem MarksOk.reset {mr : List (Place × Int)} (h : MarksOk mr) (ps : List (Place × SV)) (u : Cap) : MarksOk (resetM ps mr u) := by
  unfold resetM; split
  · exact h.del _
  · exact h
end Go.Pse
namespace Go.Pse
open Go.RowKit Go.Proofs
/-! ### an object is laid in; plain -/
def zeroM (ms : List (List Int)) (u : Int) : List (List Int) := ms.set (u - 1).toNat zrow
def kMade (s : KS) (c : Cap) (b : Nat) : KS :=
  if c.kind = 4 then { s with ep := ins s.ep c.obj (b, [], []) } else if c.kind = 5 then { s with nt := ins s.nt c.obj (b, 0, []) } else if c.kind = 7 then { s with rp := ins s.rp c.obj (b, (0, 0), false) } else if c.kind = 3 then { s with mem := zeroM s.mem c.obj } else s
def sendE (x : Msg) (a : List Msg × List Rcv) : List Msg × List Rcv := match a.2 with
  | [] => (a.1 ++ [x], [])
  | _ :: r => (a.1, r)
def recvE (y : Rcv) (a : List Msg × List Rcv) : List Msg × List Rcv := match a.1 with
  | [] => ([], a.2 ++ [y])
  | _ :: r => (r, a.2)
def m0 : Msg := ((0, 0), 0, 0, false)
def r0 : Rcv := ((0, 0), 0)
def kWaits (s : KS) (k u : Int) : List ID :=
  if k = 4 then (match look s.ep u with
    | none => []
    | some x => x.2.1.map Prod.fst ++ x.2.2.map Prod.fst)
  else if k = 5 then (match look s.nt u with
    | none => []
    | some x => x.2.2)
  else if k = 7 then (match look s.rp u with
    | none => []
    | some x => if x.2.2 = true then [x.2.1] else [])
  else []
theorem delete241 {E : World} {l m : List As} {v : Value} {c : List Value} {xs : List (List Value)} (hp : Pick (row 176 3 v (c :: xs)) l m) :
  Con Tryz.prog 241 #[v, .int .i64 0, .int .i64 1] E l (fun v' : Value => v') (fun v' => row 176 3 v' xs :: m) := by
 refine Con.body (vs := [v, .int .i64 0, .int .i64 1]) (n := 33) Tryz.func241 rfl rfl [(0, v), (1, .int .i64 0), (2, .int .i64 1)] (env_ok 3 rfl) <| J_pick hp <| J_row .here fun hw a cap hv h1 h2 h3 => ?_
 obtain ⟨b, o, rfl⟩ := h3 (by simp)
 subst hv
 have hl : (c :: xs).length = xs.length + 1 := rfl
 have hm : cap ≤ 9223372036854775807 := h2
 refine sr <| ag rfl rfl <| nx <| mv rfl rfl <| mv rfl rfl <| mv rfl rfl <| mv rfl rfl <| L_pur rfl (p_len rfl Tryz.underlying59) ?_
 refine L_pur rfl (p_slice3 rfl Tryz.underlying59 ty176 rfl rfl rfl (by omega) (by omega) (by omega) (by omega)) <| nxx <| mv rfl rfl <| mv rfl rfl <| L_pur rfl (p_eql rfl rfl) <| nq <| J_bool (t := 16) (c := false) rfl (by decide) <| C_false rfl ?_
 refine J_skip <| qx <| mv rfl rfl <| L_pur rfl (p_len rfl Tryz.underlying59) <| ag rfl rfl <| nq <| J_seq <| J_drawT 6 mixed (by kernel_rfl) ?_
 refine sm rfl rfl <| sm rfl rfl <| sp rfl (p_slice rfl Tryz.underlying59 ty176 rfl rfl (by omega) (by omega) (by omega)) <| J_slot (t := 22) (v := .slice (some ⟨b, o, none⟩) 0 cap) rfl (by simp [Addr.add]) <| sm rfl rfl <| sm rfl rfl <| sp rfl (p_slice rfl Tryz.underlying59 ty176 rfl rfl (by omega) (by omega) (by omega)) <| S_nil ?_
 refine L_op <| x_appIn (ys := xs) (len := (c :: xs).length) rfl rfl Tryz.underlying59 ty176 PC (fun w H => (sep_reads HS H).drop (lo := 1) (by omega)) (by omega) rfl ?_
 refine ag rfl rfl <| nx <| mv rfl rfl <| mv rfl rfl <| L_pur rfl (p_len rfl Tryz.underlying59) <| mv rfl rfl <| L_pur rfl (p_slice rfl Tryz.underlying59 ty176 rfl rfl (by omega) (by omega) (by omega)) <| L_op <| x_clear (len := (c :: xs).length) rfl Tryz.underlying59 ty176 rfl rfl PC (by simp) ?_
 refine J_take (k := 0 + xs.length) (by simp) <| J_rowEq (ys := xs) (by simp) <| nx <| mv rfl rfl <| ag rfl rfl <| nq <| J_ret ?_
 exact J_return (_) Tryz.results241 (.tmp rfl .nil) rfl SU
theorem delete243 {E : World} {l m : List As} {v : Value} {c : List Value} {xs : List (List Value)} (hp : Pick (row 340 5 v (c :: xs)) l m) :
  Con Tryz.prog 243 #[v, .int .i64 0, .int .i64 1] E l (fun v' : Value => v') (fun v' => row 340 5 v' xs :: m) := by
 refine Con.body (vs := [v, .int .i64 0, .int .i64 1]) (n := 33) Tryz.func243 rfl rfl [(0, v), (1, .int .i64 0), (2, .int .i64 1)] (env_ok 3 rfl) <| J_pick hp <| J_row .here fun hw a cap hv h1 h2 h3 => ?_
 obtain ⟨b, o, rfl⟩ := h3 (by simp)
 subst hv
 have hl : (c :: xs).length = xs.length + 1 := rfl
 have hm : cap ≤ 9223372036854775807 := h2
 refine sr <| ag rfl rfl <| nx <| mv rfl rfl <| mv rfl rfl <| mv rfl rfl <| mv rfl rfl <| L_pur rfl (p_len rfl Tryz.underlying177) ?_
 refine L_pur rfl (p_slice3 rfl Tryz.underlying177 ty340 rfl rfl rfl (by omega) (by omega) (by omega) (by omega)) <| nxx <| mv rfl rfl <| mv rfl rfl <| L_pur rfl (p_eql rfl rfl) <| nq <| J_bool (t := 16) (c := false) rfl (by decide) <| C_false rfl ?_
 refine J_skip <| qx <| mv rfl rfl <| L_pur rfl (p_len rfl Tryz.underlying177) <| ag rfl rfl <| nq <| J_seq <| J_drawT 6 mixed (by kernel_rfl) ?_
 refine sm rfl rfl <| sm rfl rfl <| sp rfl (p_slice rfl Tryz.underlying177 ty340 rfl rfl (by omega) (by omega) (by omega)) <| J_slot (t := 22) (v := .slice (some ⟨b, o, none⟩) 0 cap) rfl (by simp [Addr.add]) <| sm rfl rfl <| sm rfl rfl <| sp rfl (p_slice rfl Tryz.underlying177 ty340 rfl rfl (by omega) (by omega) (by omega)) <| S_nil ?_
 refine L_op <| x_appIn (ys := xs) (len := (c :: xs).length) rfl rfl Tryz.underlying177 ty340 PC (fun w H => (sep_reads HS H).drop (lo := 1) (by omega)) (by omega) rfl ?_
 refine ag rfl rfl <| nx <| mv rfl rfl <| mv rfl rfl <| L_pur rfl (p_len rfl Tryz.underlying177) <| mv rfl rfl <| L_pur rfl (p_slice rfl Tryz.underlying177 ty340 rfl rfl (by omega) (by omega) (by omega)) <| L_op <| x_clear (len := (c :: xs).length) rfl Tryz.underlying177 ty340 rfl rfl PC (by simp) ?_
 refine J_take (k := 0 + xs.length) (by simp) <| J_rowEq (ys := xs) (by simp) <| nx <| mv rfl rfl <| ag rfl rfl <| nq <| J_ret ?_
 exact J_return (_) Tryz.results243 (.tmp rfl .nil) rfl SU
theorem epSendG {E : World} {l m : List As}{b : Nat} {out : List Msg} {inn : List Rcv} (hp : Pick (epA b out inn) l m) (hbo : out.length ≤ 100000) (hbi : inn.length ≤ 100000) {x : Msg} :
    Con Tryz.prog 178 #[.pointer (some ⟨b, 0, none⟩), .agg (encM x).toArray] E l (fun _ : Unit => .tuple #[.agg (encR (inn.headD r0)).toArray, .bool (!inn.isEmpty)]) (fun _ => epA b (sendE x (out, inn)).1 (sendE x (out, inn)).2 :: m) := by
  rcases inn with _ | ⟨y, r⟩
  ·
    refine Con.body (vs := [.pointer (some ⟨b, 0, none⟩), .agg (encM x).toArray]) (n := 39) Tryz.func178 rfl rfl [(0, .pointer (some ⟨b, 0, none⟩)), (1, .agg (encM x).toArray)] (env_ok 2 rfl) <| J_pick hp <| J_epO fun vo vi _ => J_row (.there .here) fun hw a cap hv h1 h2 h3 => ?_
    subst hv
    refine J_row (.there (.there .here)) fun hw' a' cap' hv h1' h2' h3' => ?_
    subst hv
    have hmm : cap ≤ 9223372036854775807 := h2
    have hmm' : cap' ≤ 9223372036854775807 := h2'
    refine sr <| L_op <| x_box rfl rfl rfl fun b3 => L_op <| x_alloc ty176 rfl fun b4 => ag rfl rfl <| nxx <| mv rfl rfl ?_
    refine nc rfl rfl <| fa rfl rfl fa179_1 <| L_val rfl (v_load rfl ty59 HS (by exact rfl)) ?_
    refine L_pur rfl (p_len rfl Tryz.underlying59) <| L_pur rfl (p_eql rfl rfl) <| nq <| J_bool (t := 12) (c := true) rfl (by simp) <| C_true rfl <| J_seq <| J_drawL (some 7) mixed <| ip 0 rfl rfl rfl rfl (p_move rfl) ?_
    refine ip 1 rfl rfl rfl rfl (p_move rfl) <| ip 2 rfl rfl rfl rfl (p_nilCheck rfl) <| ip 3 rfl rfl rfl rfl (p_fieldAddr rfl fa179_0) <| iv 4 rfl rfl rfl rfl (fun _ => v_load rfl ty177 HS (by exact rfl)) ?_
    refine iv 5 rfl rfl rfl rfl (fun _ => v_loadA rfl ty340 HS CT) ?_
    refine i1 6 rfl <| x_lit (vals := [_]) Tryz.underlying177 ty340 rfl (.cons rfl .nil) (.agg .nil) (Wf.cons rfl rfl Wf.nil) rfl (by decide) rfl rfl <| JR fun a19 c19 hw19 hl19 hm19 hz19 => i1 7 rfl <| x_app rfl rfl Tryz.underlying177 ty340 rfl rfl PC (fun w H => sep_reads HS H) (by simp; omega) (by simp; omega) rfl <| JE ((out ++ [x]).map encM) (by simp) fun a20 c20 hw20 hl20 hm20 hz20 => ip 8 rfl rfl rfl rfl (p_nilCheck rfl) <| ip 9 rfl rfl rfl rfl (p_fieldAddr rfl fa179_0) ?_
    refine i1 10 rfl <| x_store rfl rfl ty177 rfl SM SM RO PT ?_
    refine i0 <| qx <| L_pur rfl (bld176 .nil (by repeat constructor)) <| L_op <| x_store rfl rfl ty176 rfl SM SM RO PT ?_
    refine ag rfl rfl <| nq <| J_ret <| Q_then_ret <| J_epS (b := b) (out := (out ++ [x])) (inn := []) _ _ PX trivial ?_
    refine J_return (()) Tryz.results178 (.cellA rfl ty176 HS CT (.tmp rfl .nil)) ?_ ?_
    · rfl
    · exact SU
  ·
    refine Con.body (vs := [.pointer (some ⟨b, 0, none⟩), .agg (encM x).toArray]) (n := 39) Tryz.func178 rfl rfl [(0, .pointer (some ⟨b, 0, none⟩)), (1, .agg (encM x).toArray)] (env_ok 2 rfl) <| J_pick hp <| J_epO fun vo vi _ => J_row (.there .here) fun hw a cap hv h1 h2 h3 => ?_
    subst hv
    refine J_row (.there (.there .here)) fun hw' a' cap' hv h1' h2' h3' => ?_
    subst hv
    have hmm : cap ≤ 9223372036854775807 := h2
    have hmm' : cap' ≤ 9223372036854775807 := h2'
    obtain ⟨bq, oq, rfl⟩ := h3' (by simp)
    refine sr <| L_op <| x_box rfl rfl rfl fun b3 => L_op <| x_alloc ty176 rfl fun b4 => ag rfl rfl <| nxx <| mv rfl rfl ?_
    refine nc rfl rfl <| fa rfl rfl fa179_1 <| L_val rfl (v_load rfl ty59 HS (by exact rfl)) ?_
    refine L_pur rfl (p_len rfl Tryz.underlying59) <| L_pur rfl (p_eql rfl rfl) <| nq <| J_bool (t := 12) (c := false) rfl (by simp; omega) <| C_false rfl <| J_skip <| qx <| mv rfl rfl ?_
    refine nc rfl rfl <| fa rfl rfl fa179_1 <| L_val rfl (v_load rfl ty59 HS (by exact rfl)) ?_
    refine L_pur rfl (p_indexAddr rfl rfl Tryz.underlying59 ty176 (by simp) (by simp)) <| L_val rfl (v_loadE rfl ty176 HS (by rfl)) ?_
    refine L_op <| x_alloc ty176 rfl fun b6 => L_op <| x_store rfl rfl ty176 rfl SM SM RO PT ?_
    refine nq <| J_seq <| J_pick (A := row 176 3 _ _) PC ?_
    refine J_rowEq (ys := encR y :: r.map encR) (by rfl) <| J_region <| mv rfl rfl <| mv rfl rfl <| nc rfl rfl <| fa rfl rfl fa179_1 <| L_val rfl (v_load rfl ty59 HS (by exact rfl)) ?_
    refine L_op <| xc fc241 (.cons rfl (.cons rfl (.cons rfl .nil))) rfl (delete241 (c := encR y) (xs := r.map encR) PC) <| JR fun a35 c35 hw35 hl35 hm35 hz35 => nc rfl rfl <| fa rfl rfl fa179_1 <| L_op <| x_store rfl rfl ty59 rfl SM SM RO PT ?_
    refine nx <| L_val rfl (v_loadA rfl ty176 HS CT) ?_
    refine L_op <| x_store rfl rfl ty176 rfl SM SM RO PT ?_
    refine ag rfl rfl <| nq <| J_ret <| J_epS (b := b) (out := out) (inn := r) _ _ PX trivial ?_
    refine J_return (()) Tryz.results178 (.cellA rfl ty176 HS CT (.tmp rfl .nil)) ?_ ?_
    · rfl
    · exact SU
theorem epRecvG {E : World} {l m : List As}{b : Nat} {out : List Msg} {inn : List Rcv} (hp : Pick (epA b out inn) l m) (hbo : out.length ≤ 100000) (hbi : inn.length ≤ 100000) {x : Rcv} :
    Con Tryz.prog 180 #[.pointer (some ⟨b, 0, none⟩), .agg (encR x).toArray] E l (fun _ : Unit => .tuple #[.agg (encM (out.headD m0)).toArray, .bool (!out.isEmpty)]) (fun _ => epA b (recvE x (out, inn)).1 (recvE x (out, inn)).2 :: m) := by
  rcases out with _ | ⟨y, r⟩
  ·
    refine Con.body (vs := [.pointer (some ⟨b, 0, none⟩), .agg (encR x).toArray]) (n := 39) Tryz.func180 rfl rfl [(0, .pointer (some ⟨b, 0, none⟩)), (1, .agg (encR x).toArray)] (env_ok 2 rfl) <| J_pick hp <| J_epO fun vo vi _ => J_row (.there .here) fun hw a cap hv h1 h2 h3 => ?_
    subst hv
    refine J_row (.there (.there .here)) fun hw' a' cap' hv h1' h2' h3' => ?_
    subst hv
    have hmm : cap ≤ 9223372036854775807 := h2
    have hmm' : cap' ≤ 9223372036854775807 := h2'
    refine sr <| L_op <| x_box rfl rfl rfl fun b3 => L_op <| x_alloc ty340 rfl fun b4 => ag rfl rfl <| nxx <| mv rfl rfl ?_
    refine nc rfl rfl <| fa rfl rfl fa179_0 <| L_val rfl (v_load rfl ty177 HS (by exact rfl)) ?_
    refine L_pur rfl (p_len rfl Tryz.underlying177) <| L_pur rfl (p_eql rfl rfl) <| nq <| J_bool (t := 12) (c := true) rfl (by simp) <| C_true rfl <| J_seq <| J_drawL (some 7) mixed <| ip 0 rfl rfl rfl rfl (p_move rfl) ?_
    refine ip 1 rfl rfl rfl rfl (p_move rfl) <| ip 2 rfl rfl rfl rfl (p_nilCheck rfl) <| ip 3 rfl rfl rfl rfl (p_fieldAddr rfl fa179_1) <| iv 4 rfl rfl rfl rfl (fun _ => v_load rfl ty59 HS (by exact rfl)) ?_
    refine iv 5 rfl rfl rfl rfl (fun _ => v_loadA rfl ty176 HS CT) ?_
    refine i1 6 rfl <| x_lit (vals := [_]) Tryz.underlying59 ty176 rfl (.cons rfl .nil) (.agg .nil) (Wf.cons rfl rfl Wf.nil) rfl (by decide) rfl rfl <| JR fun a19 c19 hw19 hl19 hm19 hz19 => i1 7 rfl <| x_app rfl rfl Tryz.underlying59 ty176 rfl rfl PC (fun w H => sep_reads HS H) (by simp; omega) (by simp; omega) rfl <| JE ((inn ++ [x]).map encR) (by simp) fun a20 c20 hw20 hl20 hm20 hz20 => ip 8 rfl rfl rfl rfl (p_nilCheck rfl) <| ip 9 rfl rfl rfl rfl (p_fieldAddr rfl fa179_1) ?_
    refine i1 10 rfl <| x_store rfl rfl ty59 rfl SM SM RO PT ?_
    refine i0 <| qx <| L_pur rfl (bld340 .nil (by repeat constructor)) <| L_op <| x_store rfl rfl ty340 rfl SM SM RO PT ?_
    refine ag rfl rfl <| nq <| J_ret <| Q_then_ret <| J_epS (b := b) (out := []) (inn := (inn ++ [x])) _ _ PX trivial ?_
    refine J_return (()) Tryz.results180 (.cellA rfl ty340 HS CT (.tmp rfl .nil)) ?_ ?_
    · rfl
    · exact SU
  ·
    refine Con.body (vs := [.pointer (some ⟨b, 0, none⟩), .agg (encR x).toArray]) (n := 39) Tryz.func180 rfl rfl [(0, .pointer (some ⟨b, 0, none⟩)), (1, .agg (encR x).toArray)] (env_ok 2 rfl) <| J_pick hp <| J_epO fun vo vi _ => J_row (.there .here) fun hw a cap hv h1 h2 h3 => ?_
    subst hv
    refine J_row (.there (.there .here)) fun hw' a' cap' hv h1' h2' h3' => ?_
    subst hv
    have hmm : cap ≤ 9223372036854775807 := h2
    have hmm' : cap' ≤ 9223372036854775807 := h2'
    obtain ⟨bq, oq, rfl⟩ := h3 (by simp)
    refine sr <| L_op <| x_box rfl rfl rfl fun b3 => L_op <| x_alloc ty340 rfl fun b4 => ag rfl rfl <| nxx <| mv rfl rfl ?_
    refine nc rfl rfl <| fa rfl rfl fa179_0 <| L_val rfl (v_load rfl ty177 HS (by exact rfl)) ?_
    refine L_pur rfl (p_len rfl Tryz.underlying177) <| L_pur rfl (p_eql rfl rfl) <| nq <| J_bool (t := 12) (c := false) rfl (by simp; omega) <| C_false rfl <| J_skip <| qx <| mv rfl rfl ?_
    refine nc rfl rfl <| fa rfl rfl fa179_0 <| L_val rfl (v_load rfl ty177 HS (by exact rfl)) ?_
    refine L_pur rfl (p_indexAddr rfl rfl Tryz.underlying177 ty340 (by simp) (by simp)) <| L_val rfl (v_loadE rfl ty340 HS (by rfl)) ?_
    refine L_op <| x_alloc ty340 rfl fun b6 => L_op <| x_store rfl rfl ty340 rfl SM SM RO PT ?_
    refine nq <| J_seq <| J_pick (A := row 340 5 _ _) PC ?_
    refine J_rowEq (ys := encM y :: r.map encM) (by rfl) <| J_region <| mv rfl rfl <| mv rfl rfl <| nc rfl rfl <| fa rfl rfl fa179_0 <| L_val rfl (v_load rfl ty177 HS (by exact rfl)) ?_
    refine L_op <| xc fc243 (.cons rfl (.cons rfl (.cons rfl .nil))) rfl (delete243 (c := encM y) (xs := r.map encM) PC) <| JR fun a35 c35 hw35 hl35 hm35 hz35 => nc rfl rfl <| fa rfl rfl fa179_0 <| L_op <| x_store rfl rfl ty177 rfl SM SM RO PT ?_
    refine nx <| L_val rfl (v_loadA rfl ty340 HS CT) ?_
    refine L_op <| x_store rfl rfl ty340 rfl SM SM RO PT ?_
    refine ag rfl rfl <| nq <| J_ret <| J_epS (b := b) (out := r) (inn := inn) _ _ PX trivial ?_
    refine J_return (()) Tryz.results180 (.cellA rfl ty340 HS CT (.tmp rfl .nil)) ?_ ?_
    · rfl
    · exact SU
theorem rpTakeC {E : World} {l m : List As} {b : Nat} {c : ID × Bool} (hp : Pick (rpA b c) l m) :
    Con Tryz.prog 181 #[.pointer (some ⟨b, 0, none⟩)] E l (fun _ : Unit => .tuple #[.agg (encI c.1).toArray, .bool c.2]) (fun _ => rpA b ((0, 0), false) :: m) := by
  refine Con.body (vs := [.pointer (some ⟨b, 0, none⟩)]) (n := 16) Tryz.func181 rfl rfl [(0, .pointer (some ⟨b, 0, none⟩))] (env_ok 1 rfl) <| J_pick hp <| sr <| L_op <| x_alloc ty39 rfl fun b2 => ag rfl rfl <| nx <| mv rfl rfl ?_
  refine L_op <| xc fc244 (.cons rfl .nil) rfl (rpCaller (c := c) PC) fun _ => ?_
  refine mv rfl rfl <| L_pur rfl (p_extract rfl rfl) <| L_pur rfl (p_extract rfl rfl) <| L_op <| x_alloc ty39 rfl fun b4 => L_op <| x_store rfl rfl ty39 rfl SM SM RO PT ?_
  refine J_pick (A := blk b4 _ _) PC ?_
  refine J_asTo (B := blk b4 39 (encI c.1)) (by rfl) <| ag rfl rfl <| nq <| J_seq <| J_pick (A := rpA b c) PC ?_
  refine J_asTo (B := blk b 273 [.int .i64 c.1.1, .int .i64 c.1.2, .bool c.2]) (by rfl) <| J_region <| mv rfl rfl <| L_pur rfl (bld273 .nil (by repeat constructor)) <| nc rfl rfl <| L_op <| x_store rfl rfl ty273 rfl SM SM RO PT ?_
  refine nx <| L_val rfl (v_loadA rfl ty39 HS CT) ?_
  refine mv rfl rfl <| L_op <| x_store rfl rfl ty39 rfl SM SM RO PT ?_
  refine ag rfl rfl <| nq <| J_ret <| J_pick (A := blk b _ _) PC ?_
  refine J_asTo (B := rpA b ((0, 0), false)) (by rfl) ?_
  refine J_return (()) Tryz.results181 (.cellA rfl ty39 HS CT (.tmp rfl .nil)) ?_ ?_
  · rfl
  · exact SU
theorem coEpSendG {E : World} {l m : List As} {p : Nat} {s : KS} (hp : Pick (coA p s) l m) {u : Int} {b : Nat} {out : List Msg} {inn : List Rcv} (hl : look s.ep u = some (b, out, inn)) (hbo : out.length ≤ 100000) (hbi : inn.length ≤ 100000) {z : Msg} :
  Con Tryz.prog 178 #[.pointer (some ⟨b, 0, none⟩), .agg (encM z).toArray] E l (fun _ : Unit => .tuple #[.agg (encR (inn.headD r0)).toArray, .bool (!inn.isEmpty)]) (fun _ => coA p { s with ep := updO s.ep u (sendE z) } :: m) := fun w H => by
 refine (?_ : Jk E l 0 [] fun _ w => Calls Tryz.prog 178 #[.pointer (some ⟨b, 0, none⟩), .agg (encM z).toArray] w fun e w' => ∃ x, e = .returned ((fun _ : Unit => .tuple #[.agg (encR (inn.headD r0)).toArray, .bool (!inn.isEmpty)]) x) ∧ Sep E w' ((fun _ : Unit => coA p { s with ep := updO s.ep u (sendE z) } :: m) x)) w _ H fr0
 obtain ⟨j, hj⟩ := look_ix hl
 have hjl := (List.getElem?_eq_some_iff.1 hj).1
 refine J_pick hp <| J_coO fun bn be br bg bt bs bp bl bk _ => J_keyd (ps := ptrs s.ep) HS fun hK => ?_
 refine J_pick (A := each epF s.ep) PC ?_
 refine J_eachOut hj ?_
 skip
 refine J_asTo (B := epA b out inn) (by rfl) <| J_con (epSendG (out := out) (inn := inn) (x := z) PC hbo hbi) fun x => ?_
 refine J_pick (A := epA b (sendE z (out, inn)).1 (sendE z (out, inn)).2) PC ?_
 refine J_asTo (B := epF (u, b, ((sendE z)) (out, inn))) (by rfl) <| J_pick (A := each epF _) PC ?_
 refine J_pick (A := epF (u, b, _)) PC ?_
 refine J_eachIn (u, b, ((sendE z)) (out, inn)) hjl ?_
 skip
 refine J_asTo (B := each epF (updO s.ep u (sendE z))) (by rw [updO_set hK hj]) <| J_pick (A := mapV kZ evA (.map (some be)) (ptrs s.ep)) PC ?_
 refine J_mapEq (qs := ptrs (updO s.ep u (sendE z))) ptrs_updO.symm <| J_coS (p := p) (s := { s with ep := updO s.ep u (sendE z) }) bn be br bg bt bs bp bl bk PX trivial ?_
 exact J_end SU
theorem coEpRecvG {E : World} {l m : List As} {p : Nat} {s : KS} (hp : Pick (coA p s) l m) {u : Int} {b : Nat} {out : List Msg} {inn : List Rcv} (hl : look s.ep u = some (b, out, inn)) (hbo : out.length ≤ 100000) (hbi : inn.length ≤ 100000) {y : Rcv} :
  Con Tryz.prog 180 #[.pointer (some ⟨b, 0, none⟩), .agg (encR y).toArray] E l (fun _ : Unit => .tuple #[.agg (encM (out.headD m0)).toArray, .bool (!out.isEmpty)]) (fun _ => coA p { s with ep := updO s.ep u (recvE y) } :: m) := fun w H => by
 refine (?_ : Jk E l 0 [] fun _ w => Calls Tryz.prog 180 #[.pointer (some ⟨b, 0, none⟩), .agg (encR y).toArray] w fun e w' => ∃ x, e = .returned ((fun _ : Unit => .tuple #[.agg (encM (out.headD m0)).toArray, .bool (!out.isEmpty)]) x) ∧ Sep E w' ((fun _ : Unit => coA p { s with ep := updO s.ep u (recvE y) } :: m) x)) w _ H fr0
 obtain ⟨j, hj⟩ := look_ix hl
 have hjl := (List.getElem?_eq_some_iff.1 hj).1
 refine J_pick hp <| J_coO fun bn be br bg bt bs bp bl bk _ => J_keyd (ps := ptrs s.ep) HS fun hK => ?_
 refine J_pick (A := each epF s.ep) PC ?_
 refine J_eachOut hj ?_
 skip
 refine J_asTo (B := epA b out inn) (by rfl) <| J_con (epRecvG (out := out) (inn := inn) (x := y) PC hbo hbi) fun x => ?_
 refine J_pick (A := epA b (recvE y (out, inn)).1 (recvE y (out, inn)).2) PC ?_
 refine J_asTo (B := epF (u, b, ((recvE y)) (out, inn))) (by rfl) <| J_pick (A := each epF _) PC ?_
 refine J_pick (A := epF (u, b, _)) PC ?_
 refine J_eachIn (u, b, ((recvE y)) (out, inn)) hjl ?_
 skip
 refine J_asTo (B := each epF (updO s.ep u (recvE y))) (by rw [updO_set hK hj]) <| J_pick (A := mapV kZ evA (.map (some be)) (ptrs s.ep)) PC ?_
 refine J_mapEq (qs := ptrs (updO s.ep u (recvE y))) ptrs_updO.symm <| J_coS (p := p) (s := { s with ep := updO s.ep u (recvE y) }) bn be br bg bt bs bp bl bk PX trivial ?_
 exact J_end SU
theorem coRpTake {E : World} {l m : List As} {p : Nat} {s : KS} (hp : Pick (coA p s) l m) {u : Int} {b : Nat} {c : ID × Bool} (hl : look s.rp u = some (b, c)) :
  Con Tryz.prog 181 #[.pointer (some ⟨b, 0, none⟩)] E l (fun _ : Unit => .tuple #[.agg (encI c.1).toArray, .bool c.2]) (fun _ => coA p { s with rp := updO s.rp u (fun _ => ((0, 0), false)) } :: m) := fun w H => by
 refine (?_ : Jk E l 0 [] fun _ w => Calls Tryz.prog 181 #[.pointer (some ⟨b, 0, none⟩)] w fun e w' => ∃ x, e = .returned ((fun _ : Unit => .tuple #[.agg (encI c.1).toArray, .bool c.2]) x) ∧ Sep E w' ((fun _ : Unit => coA p { s with rp := updO s.rp u (fun _ => ((0, 0), false)) } :: m) x)) w _ H fr0
 obtain ⟨j, hj⟩ := look_ix hl
 have hjl := (List.getElem?_eq_some_iff.1 hj).1
 refine J_pick hp <| J_coO fun bn be br bg bt bs bp bl bk _ => J_keyd (ps := ptrs s.rp) HS fun hK => ?_
 refine J_pick (A := each rpF s.rp) PC ?_
 refine J_eachOut hj ?_
 skip
 refine J_asTo (B := rpA b c) (by rfl) <| J_con (rpTakeC (c := c) PC) fun x => ?_
 refine J_pick (A := rpA b ((0, 0), false)) PC ?_
 refine J_asTo (B := rpF (u, b, ((fun _ => ((0, 0), false))) (c))) (by rfl) <| J_pick (A := each rpF _) PC ?_
 refine J_pick (A := rpF (u, b, _)) PC ?_
 refine J_eachIn (u, b, ((fun _ => ((0, 0), false))) (c)) hjl ?_
 skip
 refine J_asTo (B := each rpF (updO s.rp u (fun _ => ((0, 0), false)))) (by rw [updO_set hK hj]) <| J_pick (A := mapV kZ evA (.map (some br)) (ptrs s.rp)) PC ?_
 refine J_mapEq (qs := ptrs (updO s.rp u (fun _ => ((0, 0), false)))) ptrs_updO.symm <| J_coS (p := p) (s := { s with rp := updO s.rp u (fun _ => ((0, 0), false)) }) bn be br bg bt bs bp bl bk PX trivial ?_
 exact J_end SU
end Go.Pse
namespace Go.Pse
open Go.RowKit Go.Proofs
theorem coWaitsNo {E : World} {l m : List As} {p : Nat} {s : KS} (hp : Pick (coA p s) l m) {k u : Int} (h4 : k = 4 → look s.ep u = none) (h5 : k = 5 → look s.nt u = none) (h7 : k = 7 → look s.rp u = none) :
  Con Tryz.prog 286 #[.pointer (some ⟨p, 0, none⟩), .agg (encI (k, u)).toArray] E l (fun v : Value => v) (fun v => row 39 2 v (([] : List ID).map encI) :: coA p s :: m) := by
 refine Con.body (vs := [.pointer (some ⟨p, 0, none⟩), .agg (encI (k, u)).toArray]) (n := 80) Tryz.func286 rfl rfl [(0, .pointer (some ⟨p, 0, none⟩)), (1, .agg (encI (k, u)).toArray)] (env_ok 2 rfl) <| J_pick hp <| sr <| L_op <| x_box rfl rfl rfl fun b3 => ag rfl rfl <| nx <| ag rfl rfl ?_
 refine J_nil (el := 39) (sz := 2) <| nxx <| fa rfl rfl fa418_0 <| L_val rfl (v_load rfl ty3 HS (by exact rfl)) ?_
 refine nq <| J_block <| sr <| L_pur rfl (p_eql rfl rfl) <| ag rfl rfl <| nq ?_
 refine C_dec rfl (fun h17 => ?_) (fun h17 => ?_)
 refine sr <| mv rfl rfl <| fa rfl rfl fa418_1 <| L_val rfl (v_load rfl ty3 HS (by exact rfl)) ?_
 refine L_op <| xc fc27 (.cons rfl (.cons rfl .nil)) rfl (coEp (s := s) (u := u) PC) fun _ => ?_
 refine J_slot (t := 22) (v := .pointer none) rfl (by rw [look_ptrs, h4 h17]; rfl) <| ag rfl rfl <| nx <| mv rfl rfl <| L_pur rfl (p_neNilPtr Tryz.underlying57 rfl) <| nq <| J_bool (t := 24) (c := false) rfl (rfl) <| C_false rfl ?_
 refine J_skip <| Q_blk_normal <| qx <| mv rfl rfl <| ag rfl rfl <| nq <| J_ret <| J_pick (A := row 39 2 _ _) PC ?_
 refine J_rowEq (ys := ([] : List ID).map encI) (by rfl) ?_
 exact J_return (_) Tryz.results286 (.tmp rfl .nil) rfl SU
 refine sr <| L_pur rfl (p_eql rfl rfl) <| ag rfl rfl <| nq ?_
 refine C_dec rfl (fun h51 => ?_) (fun h51 => ?_)
 refine sr <| mv rfl rfl <| fa rfl rfl fa418_1 <| L_val rfl (v_load rfl ty3 HS (by exact rfl)) ?_
 refine L_op <| xc fc36 (.cons rfl (.cons rfl .nil)) rfl (coNotif (s := s) (u := u) PC) fun _ => ?_
 refine J_slot (t := 56) (v := .pointer none) rfl (by rw [look_ptrs, h5 h51]; rfl) <| ag rfl rfl <| nx <| mv rfl rfl <| L_pur rfl (p_neNilPtr Tryz.underlying79 rfl) <| nq <| J_bool (t := 58) (c := false) rfl (rfl) <| C_false rfl ?_
 refine J_skip <| Q_blk_normal <| qx <| mv rfl rfl <| ag rfl rfl <| nq <| J_ret <| J_pick (A := row 39 2 _ _) PC ?_
 refine J_rowEq (ys := ([] : List ID).map encI) (by rfl) ?_
 exact J_return (_) Tryz.results286 (.tmp rfl .nil) rfl SU
 refine sr <| L_pur rfl (p_eql rfl rfl) <| ag rfl rfl <| nq ?_
 refine C_dec rfl (fun h61 => ?_) (fun h61 => ?_)
 refine sr <| mv rfl rfl <| fa rfl rfl fa418_1 <| L_val rfl (v_load rfl ty3 HS (by exact rfl)) ?_
 refine L_op <| xc fc20 (.cons rfl (.cons rfl .nil)) rfl (coReply (s := s) (u := u) PC) fun _ => ?_
 refine J_slot (t := 66) (v := .pointer none) rfl (by rw [look_ptrs, h7 h61]; rfl) <| ag rfl rfl <| nx <| mv rfl rfl <| L_pur rfl (p_neNilPtr Tryz.underlying42 rfl) <| nq <| J_bool (t := 68) (c := false) rfl (rfl) <| C_false rfl ?_
 refine J_skip <| Q_blk_normal <| qx <| mv rfl rfl <| ag rfl rfl <| nq <| J_ret <| J_pick (A := row 39 2 _ _) PC ?_
 refine J_rowEq (ys := ([] : List ID).map encI) (by rfl) ?_
 exact J_return (_) Tryz.results286 (.tmp rfl .nil) rfl SU
 refine J_skip <| Q_blk_normal <| qx <| mv rfl rfl <| ag rfl rfl <| nq <| J_ret <| J_pick (A := row 39 2 _ _) PC ?_
 refine J_rowEq (ys := ([] : List ID).map encI) (by rfl) ?_
 exact J_return (_) Tryz.results286 (.tmp rfl .nil) rfl SU
theorem kWaits_ep {s : KS} {u : Int} {b : Nat} {o : List Msg} {i : List Rcv} (h : look s.ep u = some (b, o, i)) : kWaits s 4 u = o.map Prod.fst ++ i.map Prod.fst := by unfold kWaits; rw [if_pos rfl, h]
theorem kWaits_nt {s : KS} {u : Int} {b : Nat} {w : Int} {xs : List ID} (h : look s.nt u = some (b, w, xs)) : kWaits s 5 u = xs := by unfold kWaits; rw [if_neg (by decide), if_pos rfl, h]
theorem kWaits_rp {s : KS} {u : Int} {b : Nat} {c : ID × Bool} (h : look s.rp u = some (b, c)) : kWaits s 7 u = if c.2 = true then [c.1] else [] := by unfold kWaits; rw [if_neg (by decide), if_neg (by decide), if_pos rfl, h]
theorem kWaits_no {s : KS} {k u : Int} (h4 : k = 4 → look s.ep u = none) (h5 : k = 5 → look s.nt u = none) (h7 : k = 7 → look s.rp u = none) : kWaits s k u = [] := by
  unfold kWaits
  split
  · rename_i h; rw [h4 h]
  · split
    · rename_i h; rw [h5 h]
    · split
      · rename_i h; rw [h7 h]
      · rfl
theorem coWaits {E : World} {l m : List As} {p : Nat} {s : KS} (hp : Pick (coA p s) l m) {k u : Int} {N M : Nat} (hF : Fits s N M) : Con Tryz.prog 286 #[.pointer (some ⟨p, 0, none⟩), .agg (encI (k, u)).toArray] E l (fun v : Value => v) (fun v => row 39 2 v ((kWaits s k u).map encI) :: coA p s :: m) := by
  have hN := hF.n
  by_cases h4 : k = 4
  · subst h4
    cases hl : look s.ep u with
    | none => rw [kWaits_no (fun _ => hl) (fun h => by cases h) (fun h => by cases h)]; exact coWaitsNo hp (fun _ => hl) (fun h => by cases h) (fun h => by cases h)
    | some x =>
      obtain ⟨b, o, i⟩ := x
      have h := hF.ep _ (mem_look hl)
      rw [kWaits_ep hl]
      exact coWaitsEp hp hl (by have := h.2.1; dsimp only at this; omega) (by have := h.2.2; dsimp only at this; omega)
  by_cases h5 : k = 5
  · subst h5
    cases hl : look s.nt u with
    | none => rw [kWaits_no (fun h => by cases h) (fun _ => hl) (fun h => by cases h)]; exact coWaitsNo hp (fun h => by cases h) (fun _ => hl) (fun h => by cases h)
    | some x =>
      obtain ⟨b, w, xs⟩ := x
      have h := hF.nt _ (mem_look hl)
      rw [kWaits_nt hl]
      exact coWaitsNt hp hl (by have := h.2; dsimp only at this; omega)
  by_cases h7 : k = 7
  · subst h7
    cases hl : look s.rp u with
    | none => rw [kWaits_no (fun h => by cases h) (fun h => by cases h) (fun _ => hl)]; exact coWaitsNo hp (fun h => by cases h) (fun h => by cases h) (fun _ => hl)
    | some x =>
      obtain ⟨b, c⟩ := x
      rw [kWaits_rp hl]
      exact coWaitsRp hp hl
  · rw [kWaits_no (fun h => absurd h h4) (fun h => absurd h h5) (fun h => absurd h h7)]
    exact coWaitsNo hp (fun h => absurd h h4) (fun h => absurd h h5) (fun h => absurd h h7)
/-! ### plain: a ring is torn down, whatever it has -/
theorem look_delO {κ υ : Type} [DecidableEq κ] {ps : List (κ × υ)} {a i : κ} (h : a ≠ i) : look (del ps i) a = look ps a := by
  rw [look_del, if_neg (fun e => h e.symm)]
theorem Fits.tearOn {N M : Nat} : ∀ {l : List Rq} {s : KS}, Fits s N M → (l.map Rq.id).Nodup → (∀ q ∈ l, look s.rt q.id = some q) → Fits (kTearL s l) N M
  | [], _, h, _, _ => h
  | q :: l, s, h, hn, hm => by
    obtain ⟨M, rfl⟩ : ∃ M', M = M' + 1 := ⟨M - 1, by
      have h1 := del_less (hm q List.mem_cons_self)
      have h2 := h.jn
      omega⟩
    rw [List.map_cons, List.nodup_cons] at hn
    refine Fits.tearOn (l := l) (s := kTear1 s q) (((h.drop (hm q List.mem_cons_self)).forget q.id).jnl h.mm (deedG q)) hn.2 fun x hx => ?_
    show look (del s.rt q.id) x.id = some x
    rw [look_delO (fun e => hn.1 (List.mem_map.2 ⟨x, hx, e⟩))]
    exact hm x (List.mem_cons_of_mem _ hx)
theorem ofQ_ids {ps : List (ID × Rq)} (hK : Keyd ps) (hI : Ids ps) (g : Int) : ((ofQ ps g).map Rq.id).Nodup ∧ ∀ q ∈ ofQ ps g, look ps q.id = some q := by
  constructor
  · have h1 : (ofQ ps g).Perm (ofRing ps g) := sortF_isPerm _
    refine (h1.map Rq.id).nodup_iff.2 ?_
    unfold ofRing
    rw [List.map_map]
    have h2 : (ps.filter fun e => decide (e.1.1 = g)).map (Rq.id ∘ Prod.snd) = (ps.filter fun e => decide (e.1.1 = g)).map Prod.fst := List.map_congr_left fun e he => hI e (List.mem_filter.1 he).1
    rw [h2]
    exact List.Nodup.sublist (List.Sublist.map _ List.filter_sublist) hK
  · intro q hq
    obtain ⟨k, h1, h2⟩ := ofQ_mem.1 hq
    rw [hI _ h1]
    exact look_mem hK h1
theorem rem_mem {α : Type} {xs : List (Int × α)} {u : Int} {x : Int × α} (h : x ∈ rem xs u) : x ∈ xs := (List.mem_filter.1 h).1
theorem Fits.gone {s : KS} {N M : Nat} (h : Fits s N M) (k u : Int) : Fits (kGone s k u) N M := by
  unfold kGone
  split
  · exact ⟨h.n, h.mm, h.ids, h.jn, h.tm, fun x hx => h.ep x (rem_mem hx), h.nt, h.rp, h.rg, h.mem⟩
  · split
    · exact ⟨h.n, h.mm, h.ids, h.jn, h.tm, h.ep, fun x hx => h.nt x (rem_mem hx), h.rp, h.rg, h.mem⟩
    · split
      · exact ⟨h.n, h.mm, h.ids, h.jn, h.tm, h.ep, h.nt, fun x hx => h.rp x (rem_mem hx), h.rg, h.mem⟩
      · split
        · exact ⟨h.n, h.mm, h.ids, h.jn, h.tm, h.ep, h.nt, h.rp, h.rg, h.mem⟩
        · split
          · exact ⟨h.n, h.mm, h.ids, h.jn, h.tm, h.ep, h.nt, h.rp, h.rg, h.mem⟩
          · split
            · exact ⟨h.n, h.mm, h.ids, h.jn, h.tm, h.ep, h.nt, h.rp, h.rg, h.mem⟩
            · split
              · exact ⟨h.n, h.mm, h.ids, h.jn, h.tm, h.ep, h.nt, h.rp, fun x hx => h.rg x (rem_mem hx), h.mem⟩
              · exact h
theorem Fits.cleared {s : KS} {N M : Nat} (h : Fits s N M) (g : Int) : Fits (kCleared s g) N M :=
  ⟨h.n, h.mm, h.ids, h.jn, h.tm, h.ep, h.nt, h.rp, fun x hx => by
    obtain ⟨y, hy, h1, h2⟩ := updO_mem (show x ∈ updO s.rg g (fun r => { r with over := [] }) from hx)
    obtain ⟨g1, g2⟩ := h.rg y hy
    rcases h2 with h2 | h2 <;> rw [h2]
    · exact ⟨g1, g2⟩
    · exact ⟨⟨g1.sq, g1.cq, g1.cb, g1.tail⟩, by have := h.jn; show 0 + s.rt.length ≤ M; omega⟩, h.mem⟩
theorem Fits.tear {s : KS} {N M : Nat} (hK : Keyd s.rt) (h : Fits s N M) (g : Int) : Fits (kTear s g) N M := by
  unfold kTear
  split
  · have hq := ofQ_ids hK h.ids g
    exact ((h.tearOn hq.1 hq.2).cleared g).gone 9 g
  · exact h
theorem kTearL_same : ∀ {l : List Rq} {s : KS}, (kTearL s l).q = s.q ∧ (kTearL s l).mp = s.mp ∧ (kTearL s l).sl = s.sl ∧ (kTearL s l).mr = s.mr
  | [], _ => ⟨rfl, rfl, rfl, rfl⟩
  | q :: l, s => kTearL_same (l := l) (s := kTear1 s q)
theorem kTearL_rt : ∀ {l : List Rq} {s : KS}, (kTearL s l).rt.Sublist s.rt
  | [], _ => List.Sublist.refl _
  | q :: l, s => (kTearL_rt (l := l) (s := kTear1 s q)).trans (List.filter_sublist (l := s.rt))
theorem kTear_same {s : KS} {g : Int} : (kTear s g).q = s.q ∧ (kTear s g).mp = s.mp ∧ (kTear s g).sl = s.sl ∧ (kTear s g).mr = s.mr := by
  unfold kTear
  split
  · have h := kTearL_same (l := ofQ s.rt g) (s := s)
    exact h
  · exact ⟨rfl, rfl, rfl, rfl⟩
theorem kTear_rt {s : KS} {g : Int} : (kTear s g).rt.Sublist s.rt := by
  unfold kTear
  split
  · exact kTearL_rt
  · exact List.Sublist.refl _
theorem Keyd.sub {κ υ : Type} {ps qs : List (κ × υ)} (h : Keyd ps) (hs : qs.Sublist ps) : Keyd qs := List.Nodup.sublist (hs.map _) h
theorem look_remO {α : Type} {xs : List (Int × α)} {u a : Int} (h : a ≠ u) : look (rem xs u) a = look xs a := by
  unfold rem
  exact look_delO (ps := xs) h
theorem look_updN {α : Type} {xs : List (Int × Nat × α)} {u a : Int} {f : α → α} (h : a ≠ u) : look (updO xs u f) a = look xs a := by
  rw [look_updO]
  cases look xs a with
  | none => rfl
  | some y => simp [h]
theorem kTear_rg {s : KS} {g a : Int} (h : a ≠ g) : look (kTear s g).rg a = look s.rg a := by
  unfold kTear
  split
  · have e : (kGone (kCleared (kTearL s (ofQ s.rt g)) g) 9 g).rg = rem (updO (kTearL s (ofQ s.rt g)).rg g (fun r => { r with over := [] })) g := rfl
    rw [e, look_remO h, look_updN h, kTearL_rg.1]
  · rfl
theorem kTear_no {s : KS} {g : Int} (h : look s.rg g = none) : kTear s g = s := by unfold kTear; rw [h]; rfl
theorem coTearG {E : World} {l m : List As} {p : Nat} {s : KS} (hp : Pick (coA p s) l m) {g : Int} {N M : Nat} (hF : Fits s N M) (hm : M ≤ 45000) : Con Tryz.prog 289 #[.pointer (some ⟨p, 0, none⟩), .int .i64 g] E l (fun _ : Unit => .bool (look s.rg g).isSome) (fun _ => coA p (kTear s g) :: m) := by
  cases hl : look s.rg g with
  | none => rw [kTear_no hl]; exact coTearNo hp hl
  | some x =>
    obtain ⟨b, r⟩ := x
    exact fun w H => ((coTear hp hl hF (by have := hF.jn; omega)) w H).mono fun e w' ⟨x, he, H'⟩ => ⟨x, he, Sub.sep (Sub.cons .here (Sub.drop .refl)) H'⟩
def tornStep (u : Int) (s : KS) (g : Int) : KS := match look s.rg g with
  | none => s
  | some x => if x.2.sq = u ∨ x.2.cq = u then kTear s g else s
def kTorn (s : KS) (u : Int) (l : List Int) : KS := l.foldl (tornStep u) s
def kDestroy (s : KS) (o : Obj2) : KS :=
  kGone (if o.1 = 3 then kTorn (kEnds s (kWaits s o.1 o.2)) o.2 (sortZ ((kEnds s (kWaits s o.1 o.2)).rg.map Prod.fst)) else if o.1 = 9 then kTear (kEnds s (kWaits s o.1 o.2)) o.2 else kEnds s (kWaits s o.1 o.2)) o.1 o.2
def kDestroyL (s : KS) (l : List Obj2) : KS := l.foldl kDestroy s
theorem kTorn_snoc {s : KS} {u g : Int} {l : List Int} : kTorn s u (l ++ [g]) = tornStep u (kTorn s u l) g := by unfold kTorn; rw [List.foldl_append]; rfl
theorem kDestroyL_snoc {s : KS} {o : Obj2} {l : List Obj2} : kDestroyL s (l ++ [o]) = kDestroy (kDestroyL s l) o := by unfold kDestroyL; rw [List.foldl_append]; rfl
structure Kept (s t : KS) : Prop where
  q : t.q = s.q
  mp : t.mp = s.mp
  sl : t.sl = s.sl
  mr : t.mr = s.mr
theorem Kept.refl (s : KS) : Kept s s := ⟨rfl, rfl, rfl, rfl⟩
theorem Kept.trans {s t v : KS} (h : Kept s t) (g : Kept t v) : Kept s v := ⟨g.q.trans h.q, g.mp.trans h.mp, g.sl.trans h.sl, g.mr.trans h.mr⟩
theorem Kept.said (s : KS) (d : Deed) : Kept s (kSaid s d) := by unfold kSaid kPost; split <;> exact ⟨rfl, rfl, rfl, rfl⟩
theorem Kept.tell {D : KS → ID → Int → Int → KS} (hD : ∀ s i r v, Kept s (D s i r v)) (s : KS) (d : Deed) : Kept s (kTell D s d) := by
  unfold kTell
  split
  · exact Kept.said s d
  · split
    · exact (Kept.said s d).trans (Kept.trans (t := kRung (kSaid s d) d.1.1) ⟨rfl, rfl, rfl, rfl⟩ (hD _ _ _ _))
    · exact (Kept.said s d).trans ⟨rfl, rfl, rfl, rfl⟩
theorem Kept.dec : ∀ n (s : KS) (i : ID) (r v : Int), Kept s (kDec n s i r v)
  | 0, s, _, _, _ => .refl s
  | n + 1, s, i, r, v => by
    cases hq : look s.rt i with
    | none => rw [kDec_none hq]; exact .refl s
    | some q =>
      rw [kDec_some hq]
      have h0 : Kept s (kForget { s with rt := del s.rt i } i) := ⟨rfl, rfl, rfl, rfl⟩
      have h := h0.trans (Kept.tell (D := kDec n) (fun s i r v => Kept.dec n s i r v) (kForget { s with rt := del s.rt i } i) (i, q.e.tag, q.e.op, r, v, false))
      unfold kNext
      split
      · exact h
      · split
        · exact h.trans (Kept.dec n _ _ _ _)
        · exact h
theorem Kept.ends : ∀ (l : List ID) (s : KS), Kept s (kEnds s l)
  | [], s => .refl s
  | i :: l, s => (Kept.dec _ _ _ _ _).trans (Kept.ends l _)
theorem Kept.tear (s : KS) (g : Int) : Kept s (kTear s g) := ⟨kTear_same.1, kTear_same.2.1, kTear_same.2.2.1, kTear_same.2.2.2⟩
theorem Kept.tornStep (u : Int) (s : KS) (g : Int) : Kept s (tornStep u s g) := by
  unfold Go.Pse.tornStep
  split
  · exact .refl s
  · split
    · exact .tear s g
    · exact .refl s
theorem Kept.torn (u : Int) : ∀ (l : List Int) (s : KS), Kept s (kTorn s u l)
  | [], s => .refl s
  | g :: l, s => (Kept.tornStep u s g).trans (Kept.torn u l _)
theorem dec_rt : ∀ n (s : KS) (i : ID) (r v : Int), (kDec n s i r v).rt.Sublist s.rt
  | 0, s, _, _, _ => List.Sublist.refl _
  | n + 1, s, i, r, v => by
    cases hq : look s.rt i with
    | none => rw [kDec_none hq]; exact List.Sublist.refl _
    | some q =>
      rw [kDec_some hq]
      have h : (kTell (kDec n) (kForget { s with rt := del s.rt i } i) (i, q.e.tag, q.e.op, r, v, false)).rt.Sublist s.rt := by
        unfold kTell
        have h0 : (kSaid (kForget { s with rt := del s.rt i } i) (i, q.e.tag, q.e.op, r, v, false)).rt.Sublist s.rt := by
          rw [kSaid_rt]; exact List.filter_sublist (l := s.rt)
        split
        · exact h0
        · split
          · exact (dec_rt n _ _ _ _).trans h0
          · exact h0
      unfold kNext
      split
      · exact h
      · split
        · exact (dec_rt n _ _ _ _).trans h
        · exact h
theorem ends_rt : ∀ (l : List ID) (s : KS), (kEnds s l).rt.Sublist s.rt
  | [], s => List.Sublist.refl _
  | i :: l, s => (ends_rt l _).trans (dec_rt _ _ _ _ _)
theorem tornStep_rt (u : Int) (s : KS) (g : Int) : (tornStep u s g).rt.Sublist s.rt := by
  unfold tornStep
  split
  · exact List.Sublist.refl _
  · split
    · exact kTear_rt
    · exact List.Sublist.refl _
theorem torn_rt (u : Int) : ∀ (l : List Int) (s : KS), (kTorn s u l).rt.Sublist s.rt
  | [], s => List.Sublist.refl _
  | g :: l, s => (torn_rt u l _).trans (tornStep_rt u s g)
theorem Fits.tornStep {s : KS} {N M : Nat} (hK : Keyd s.rt) (h : Fits s N M) (u g : Int) : Fits (tornStep u s g) N M := by
  unfold Go.Pse.tornStep
  split
  · exact h
  · split
    · exact h.tear hK g
    · exact h
theorem Fits.torn {N M : Nat} (u : Int) : ∀ {l : List Int} {s : KS}, Keyd s.rt → Fits s N M → Fits (kTorn s u l) N M
  | [], _, _, h => h
  | g :: l, s, hK, h => Fits.torn u (l := l) (hK.sub (tornStep_rt u s g)) (h.tornStep hK u g)
theorem torn_rg (u : Int) {a : Int} : ∀ {l : List Int} {s : KS}, a ∉ l → look (kTorn s u l).rg a = look s.rg a
  | [], _, _ => rfl
  | g :: l, s, h => by
    have h1 := torn_rg u (l := l) (s := tornStep u s g) (fun e => h (List.mem_cons_of_mem _ e))
    show look (kTorn (tornStep u s g) u l).rg a = _
    rw [h1]
    have hne : a ≠ g := fun e => h (e ▸ List.mem_cons_self)
    unfold tornStep
    split
    · rfl
    · split
      · exact kTear_rg hne
      · rfl
theorem kDestroy_rt (s : KS) (o : Obj2) : (kDestroy s o).rt.Sublist s.rt := by
  have e : ∀ (t : KS) (k u : Int), (kGone t k u).rt = t.rt := fun t k u => by
    unfold kGone; (repeat' split) <;> rfl
  unfold kDestroy
  rw [e]
  split
  · exact (torn_rt _ _ _).trans (ends_rt _ _)
  · split
    · exact kTear_rt.trans (ends_rt _ _)
    · exact ends_rt _ _
theorem Fits.destroy {s : KS} {N M : Nat} (hK : Keyd s.rt) (h : Fits s N M) (o : Obj2) : Fits (kDestroy s o) N M := by
  have hE : Fits (kEnds s (kWaits s o.1 o.2)) N M := h.ends
  have hK2 := hK.sub (ends_rt (kWaits s o.1 o.2) s)
  unfold kDestroy
  refine Fits.gone ?_ _ _
  split
  · exact hE.torn _ hK2
  · split
    · exact hE.tear hK2 _
    · exact hE
theorem gone_len (s : KS) (k u : Int) : (kGone s k u).q.length ≤ s.q.length ∧ (kGone s k u).mp.length ≤ s.mp.length ∧ (kGone s k u).sl = s.sl ∧ (kGone s k u).mr = s.mr := by
  unfold kGone
  have h1 : ∀ p : (Int × Int) × (Int × Int) → Bool, (s.mp.filter p).length ≤ s.mp.length := fun p => List.length_filter_le _ _
  (repeat' split) <;> first | exact ⟨Nat.le_refl _, Nat.le_refl _, rfl, rfl⟩ | exact ⟨Nat.le_refl _, h1 _, rfl, rfl⟩ | exact ⟨qRem_len _ _, Nat.le_refl _, rfl, rfl⟩
theorem destroy_len (s : KS) (o : Obj2) : (kDestroy s o).q.length ≤ s.q.length ∧ (kDestroy s o).mp.length ≤ s.mp.length ∧ (kDestroy s o).sl = s.sl ∧ (kDestroy s o).mr = s.mr := by
  have hk : Kept s (if o.1 = 3 then kTorn (kEnds s (kWaits s o.1 o.2)) o.2 (sortZ ((kEnds s (kWaits s o.1 o.2)).rg.map Prod.fst)) else if o.1 = 9 then kTear (kEnds s (kWaits s o.1 o.2)) o.2 else kEnds s (kWaits s o.1 o.2)) := by
    split
    · exact (Kept.ends _ _).trans (Kept.torn _ _ _)
    · split
      · exact (Kept.ends _ _).trans (Kept.tear _ _)
      · exact Kept.ends _ _
  have h := gone_len (if o.1 = 3 then kTorn (kEnds s (kWaits s o.1 o.2)) o.2 (sortZ ((kEnds s (kWaits s o.1 o.2)).rg.map Prod.fst)) else if o.1 = 9 then kTear (kEnds s (kWaits s o.1 o.2)) o.2 else kEnds s (kWaits s o.1 o.2)) o.1 o.2
  rw [hk.q, hk.mp, hk.sl, hk.mr] at h
  exact h
theorem destroyL_rt : ∀ (l : List Obj2) (s : KS), (kDestroyL s l).rt.Sublist s.rt
  | [], s => List.Sublist.refl _
  | o :: l, s => (destroyL_rt l _).trans (kDestroy_rt s o)
theorem Fits.destroyL {N M : Nat} : ∀ {l : List Obj2} {s : KS}, Keyd s.rt → Fits s N M → Fits (kDestroyL s l) N M
  | [], _, _, h => h
  | o :: l, s, hK, h => Fits.destroyL (l := l) (hK.sub (kDestroy_rt s o)) (h.destroy hK o)
theorem destroyL_len : ∀ (l : List Obj2) (s : KS), (kDestroyL s l).q.length ≤ s.q.length ∧ (kDestroyL s l).mp.length ≤ s.mp.length ∧ (kDestroyL s l).sl = s.sl ∧ (kDestroyL s l).mr = s.mr
  | [], s => ⟨Nat.le_refl _, Nat.le_refl _, rfl, rfl⟩
  | o :: l, s => by
    have h1 := destroyL_len l (kDestroy s o)
    have h2 := destroy_len s o
    exact ⟨Nat.le_trans h1.1 h2.1, Nat.le_trans h1.2.1 h2.2.1, h1.2.2.1.trans h2.2.2.1, h1.2.2.2.trans h2.2.2.2⟩
theorem J_coRgKeyd {E : World} {l : List As} {n : Nat} {F : Env} {K : Act → World → Prop} {p : Nat} {s : KS} (k : Keyd (ptrs s.rg) → Jk E (coA p s :: l) n F K) : Jk E (coA p s :: l) n F K :=
  J_coO fun bn be br bg bt bs bp bl bk _ => J_keyd (ps := ptrs s.rg) HS fun hK => J_coS (p := p) (s := s) bn be br bg bt bs bp bl bk PX trivial (k hK)
theorem J_coRtKeyd {E : World} {l : List As} {n : Nat} {F : Env} {K : Act → World → Prop} {p : Nat} {s : KS} (k : Keyd s.rt → Jk E (coA p s :: l) n F K) : Jk E (coA p s :: l) n F K :=
  J_coO fun bn be br bg bt bs bp bl bk _ => J_pick (A := rtA p 10 s.rt) PC <| J_rtO fun ob _ => J_mapV (ek := kI) (ev := evQ) (ps := s.rt) HS (fun _ h1 => J_rtS (b := p) (o := 10) (ps := s.rt) ob PX trivial <| J_coS (p := p) (s := s) bn be br bg bt bs bp bl bk PX trivial <| k (by rw [h1]; exact Keyd.nil)) (fun _ _ hK => J_rtS (b := p) (o := 10) (ps := s.rt) ob PX trivial <| J_coS (p := p) (s := s) bn be br bg bt bs bp bl bk PX trivial <| k hK)
end Go.Pse
