/-
  The law on what a thread comes to, walked.
-/
import Derived.Test.YthjgdlhkdjgjpaaGreatC43
import Derived.Test.YthjgdlhkdjgjpaaGreatC44
namespace Go.Pse
open Go.RowKit Go.Proofs

/-! ### plain: what a thread comes to at first -/
def insP (a : Int × Int) : List (Int × Int) → List (Int × Int)
  | [] => [a]
  | b :: bs => if Go.Proofs.ltOf cmpP b a = true then b :: insP a bs else a :: b :: bs
def isP (xs : List (Int × Int)) : List (Int × Int) := xs.foldr insP []
theorem insP_perm (a : Int × Int) : ∀ xs, (insP a xs).Perm (a :: xs)
  | [] => List.Perm.refl _
  | b :: bs => by
    unfold insP
    split
    · exact ((insP_perm a bs).cons b).trans (List.Perm.swap a b bs)
    · exact List.Perm.refl _
theorem isP_perm : ∀ xs, (isP xs).Perm xs
  | [] => List.Perm.refl _
  | x :: xs => (insP_perm x (isP xs)).trans ((isP_perm xs).cons x)
theorem insP_sorted (a : Int × Int) : ∀ xs : List (Int × Int), (xs.Pairwise fun a b => Go.Proofs.ltOf cmpP b a = false) → (insP a xs).Pairwise fun a b => Go.Proofs.ltOf cmpP b a = false
  | [], _ => List.pairwise_singleton _ _
  | b :: bs, h => by
    obtain ⟨h1, h2⟩ := List.pairwise_cons.1 h
    unfold insP
    split
    · rename_i hb
      refine List.pairwise_cons.2 ⟨fun c hc => ?_, insP_sorted a bs h2⟩
      rcases List.mem_cons.1 ((insP_perm a bs).mem_iff.1 hc) with rfl | hc
      · rw [cmpP_lt] at *; simp at *; omega
      · exact h1 c hc
    · rename_i hb
      refine List.pairwise_cons.2 ⟨fun c hc => ?_, h⟩
      rcases List.mem_cons.1 hc with rfl | hc
      · simpa using hb
      · have := h1 c hc
        rw [cmpP_lt] at *; simp at *; omega
theorem isP_sorted : ∀ xs, (isP xs).Pairwise fun a b => Go.Proofs.ltOf cmpP b a = false
  | [] => List.Pairwise.nil
  | x :: xs => insP_sorted x _ (isP_sorted xs)
theorem sortP_is (xs : List (Int × Int)) : sortP xs = isP xs := by rw [sortP_perm (isP_perm xs).symm, sortP_id (isP_sorted xs)]
def reachC (sl : List (Place × SV)) (mp : List (Place × M1)) (th : List (Int × Th)) (sp : List (Int × Bool)) (ru : Option (Int × Int)) (u : Int) (N : Nat) : List Obj := match look th u with
  | none => []
  | some t => isP (((((6, t.unit) :: if (look sp t.space).getD false = true then (8, t.space) :: frs mp t.space (isP (mp.map Prod.fst)) else []) ++ own2 t.ring ru).foldl insT (RL sl (objOf t.root) N).2).map Prod.fst)
theorem kReach_is {s : KS} {u : Int} {N : Nat} {ru : Option (Int × Int)} (h : ∀ t, look s.th u = some t → rgU s t.ring = ru) : kReach s u N = reachC s.sl s.mp s.th s.sp ru u N := by
  unfold kReach reachC
  cases hq : look s.th u with
  | none => rfl
  | some t =>
    dsimp only
    rw [sortP_is]
    unfold metN own own1
    rw [sortP_is, h t hq]
def walksB (sl : List (Place × SV)) (o0 : Obj) (N : Nat) : Bool := decide ((RL sl o0 N).1.length = N) && (List.range N).all (fun j => decide (j < (RL sl o0 j).1.length)) && decide (N ≤ 1000)
theorem walks_of {sl : List (Place × SV)} {o0 : Obj} {N : Nat} (h : walksB sl o0 N = true) : Walks sl o0 N := by
  unfold walksB at h
  simp only [Bool.and_eq_true, decide_eq_true_eq, List.all_eq_true, List.mem_range] at h
  exact ⟨h.1.1, h.1.2, h.2⟩
def wantR (b h : Int) (sh : Bool) : List Obj := [(1, b + 7), (2, b), (3, b + 4), (3, b + 5)] ++ (if sh then [(4, h), (5, h + 1)] else []) ++ [(6, b + 1), (7, b + 6), (8, b + 2), (9, b + 3)]
def nR (sh : Bool) : Nat := if sh then 11 else 9
def spN (ct : Nat) : List (Int × Bool) := (List.range ct).map fun j => (bOf 3 j + 2, true)
def mp2 (mp : List (Place × M1)) (b : Int) : List (Place × M1) := spSet mp (b + 2, 6) (64, 1)
def rcOk (k : Core) (ct t : Nat) (sh : Bool) : Bool :=
  let b := bOf 3 t
  let ru := some (b + 4, b + 5)
  walksB k.2.2.1 (2, b) (nR sh) && decide (look k.2.2.2.2.1 (b + 1) = some (thOf b)) && !(look k.2.2.2.2.1 b).isSome && !(look k.2.2.2.2.1 0).isSome && decide (reachC k.2.2.1 k.2.2.2.1 k.2.2.2.2.1 (spN ct) ru (b + 1) (nR sh) = wantR b (hOf ct 3) sh) && spSetOk k.2.2.2.1 (b + 2, 6) (64, 1) && decide ((reachC k.2.2.1 (mp2 k.2.2.2.1 b) k.2.2.2.2.1 (spN ct) ru (b + 1) (nR sh)).length = (wantR b (hOf ct 3) sh).length + 1) && decide (k.2.2.2.1.length ≤ 100)
set_option maxRecDepth 100000 in
theorem rcOk_all : ∀ ct : Nat, ct < 3 → ∀ t : Nat, t < ct + 1 → (rcOk (coreN (ct + 1) 3 true) (ct + 1) t true && rcOk (coreN (ct + 1) 3 false) (ct + 1) t false) = true := by decide +kernel
theorem rcOk_is {ct t : Nat} {sh : Bool} (h1 : 1 ≤ ct ∧ ct ≤ 3) (h2 : t < ct) : rcOk (coreN ct 3 sh) ct t sh = true := by
  have h := rcOk_all (ct - 1) (by omega) t (by omega)
  rw [show ct - 1 + 1 = ct by omega, Bool.and_eq_true] at h
  cases sh
  · exact h.2
  · exact h.1
structure Rc (K : KS) (b h : Int) (sh : Bool) : Prop where
  wk : ∀ u, u = b + 1 ∨ u = b ∨ u = 0 → ∀ t, look K.th u = some t → Walks K.sl (objOf t.root) (nR sh)
  re : kReach K (b + 1) (nR sh) = wantR b h sh
  set : spSetOk K.mp (b + 2, 6) (64, 1) = true
  re2 : (kReach { K with mp := mp2 K.mp b } (b + 1) (nR sh)).length = (wantR b h sh).length + 1
  rb : kReach { K with mp := mp2 K.mp b } b (nR sh) = []
  r0 : kReach { K with mp := mp2 K.mp b } 0 (nR sh) = []
  nmp : K.mp.length ≤ 100
theorem isSome_none {α : Type} {o : Option α} (h : o.isSome = false) : o = none := by cases o <;> simp_all
theorem rc_core {K : KS} {ct t : Nat} {sh : Bool} (hc : kCore K = coreN ct 3 sh) (hs : K.sp = spN ct) (hr : rgU K (bOf 3 t + 3) = some (bOf 3 t + 4, bOf 3 t + 5)) (hk : rcOk (coreN ct 3 sh) ct t sh = true) : Rc K (bOf 3 t) (hOf ct 3) sh := by
  rw [← hc] at hk
  unfold rcOk kCore at hk
  rw [← hs] at hk
  generalize bOf 3 t = b at *
  simp only [Bool.and_eq_true, decide_eq_true_eq, Bool.not_eq_true'] at hk
  obtain ⟨⟨⟨⟨⟨⟨⟨hw, h1⟩, h2⟩, h3⟩, h4⟩, h5⟩, h6⟩, h7⟩ := hk
  have h2 := isSome_none h2
  have h3 := isSome_none h3
  have hu : ∀ T, look K.th (b + 1) = some T → rgU K T.ring = some (b + 4, b + 5) := fun T hT => by
    rw [h1] at hT; cases hT; exact hr
  refine ⟨fun u hu T hT => ?_, ?_, h5, ?_, ?_, ?_, h7⟩
  · rcases hu with rfl | rfl | rfl
    · rw [h1] at hT; cases hT; exact walks_of hw
    · rw [h2] at hT; cases hT
    · rw [h3] at hT; cases hT
  · rw [kReach_is hu]; exact h4
  · rw [kReach_is (s := { K with mp := mp2 K.mp b }) (ru := some (b + 4, b + 5)) hu]; exact h6
  · unfold kReach; dsimp only; rw [h2]
  · unfold kReach; dsimp only; rw [h3]
set_option maxRecDepth 100000 in
theorem kNew_sp {ct : Nat} {sh : Bool} {g : NewG} (h1 : 1 ≤ ct ∧ ct ≤ 3) : (kNew (ct : Int) 3 0 0 sh g).sp = spN ct := by
  have : ct = 1 ∨ ct = 2 ∨ ct = 3 := by omega
  rcases this with rfl | rfl | rfl <;> cases sh <;> rfl
theorem rgU_new {ct t : Nat} {sh : Bool} {g : NewG} (h1 : 1 ≤ ct ∧ ct ≤ 3) (h2 : t < ct) : rgU (kNew (ct : Int) 3 0 0 sh g) (bOf 3 t + 3) = some (bOf 3 t + 4, bOf 3 t + 5) := by
  have h := kNew_rg (ct := ct) (cu := 3) (cs := 0) (cc := 0) (sh := sh) (g := g) h1 (by omega)
  rw [show ((3 : Nat) : Int) = 3 from rfl] at h
  generalize kNew (ct : Int) 3 0 0 sh g = K at h
  unfold rgU
  rw [h]
  have : (ct = 1 ∧ t = 0) ∨ (ct = 2 ∧ t = 0) ∨ (ct = 2 ∧ t = 1) ∨ (ct = 3 ∧ t = 0) ∨ (ct = 3 ∧ t = 1) ∨ (ct = 3 ∧ t = 2) := by omega
  rcases this with ⟨rfl, rfl⟩ | ⟨rfl, rfl⟩ | ⟨rfl, rfl⟩ | ⟨rfl, rfl⟩ | ⟨rfl, rfl⟩ | ⟨rfl, rfl⟩ <;> rfl
theorem rc_of {ct t : Nat} {sh : Bool} {g : NewG} (h1 : 1 ≤ ct ∧ ct ≤ 3) (h2 : t < ct) : Rc (kNew (ct : Int) 3 0 0 sh g) (bOf 3 t) (hOf ct 3) sh := by
  have hc := kNew_core (ct := ct) (cu := 3) (cs := 0) (cc := 0) (sh := sh) (g := g) h1 (by omega)
  rw [show ((3 : Nat) : Int) = 3 from rfl] at hc
  exact rc_core hc (kNew_sp h1) (rgU_new h1 h2) (rcOk_is h1 h2)
theorem wantR_len (b h : Int) (sh : Bool) : (wantR b h sh).length ≤ 20 := by unfold wantR; cases sh <;> simp
theorem coSpSet {E : World} {l m : List As} {p : Nat} {s : KS} (hp : Pick (coA p s) l m) {a : Place} {f : M1} :
    Con Tryz.prog 18 #[.pointer (some ⟨p, 8, none⟩), .agg (encI a).toArray, .agg (encI f).toArray] E l (fun _ : Unit => .bool (spSetOk s.mp a f)) (fun _ => coA p { s with mp := spSet s.mp a f } :: m) := fun w H => by
  refine (?_ : Jk E l 0 [] fun _ w => Calls Tryz.prog 18 #[.pointer (some ⟨p, 8, none⟩), .agg (encI a).toArray, .agg (encI f).toArray] w fun e w' => ∃ x, e = .returned ((fun _ : Unit => .bool (spSetOk s.mp a f)) x) ∧ Sep E w' ((fun _ : Unit => coA p { s with mp := spSet s.mp a f } :: m) x)) w _ H fr0
  refine J_pick hp <| J_coO fun bn be br bg bt bs bp bl bk _ => J_con (spSetC (ps := s.mp) (p := a) (f := f) PC) fun x => ?_
  refine J_coS (p := p) (s := { s with mp := spSet s.mp a f }) bn be br bg bt bs bp bl bk PX trivial ?_
  exact J_end SU
set_option maxRecDepth 100000 in
set_option maxHeartbeats 4000000 in
theorem auditReaches {E W : World} {z d : Int} {sh : Bool} :
    Con Tryz.prog 4 #[.int .i64 z, .int .i64 d, .bool sh] E [old W] (fun _ : Unit => .bool true) (fun _ => [old W]) := by
  refine Con.body (vs := [.int .i64 z, .int .i64 d, .bool sh]) (n := 121) Tryz.func4 rfl rfl [(0, .int .i64 z), (1, .int .i64 d), (2, .bool sh)] (env_ok 3 rfl) <| sr <| ag rfl rfl <| nx <| L_op <| x_call Tryz.func5 nm5 bd5 .nil rfl (first28) fun _ => ag rfl rfl <| nxx ?_
  refine mv rfl rfl <| L_pur rfl (p_not rfl) <| nq <| J_bool (t := 15) (c := false) rfl (rfl) <| C_false rfl <| J_skip <| qx <| mv rfl rfl ?_
  refine L_op <| x_call Tryz.func9 nm9 bd9 (.cons rfl (.cons rfl .nil)) rfl (number (by omega) (by omega)) fun _ => ?_
  obtain ⟨cn, hcn⟩ : ∃ cn, cn = num z (3 : Nat) := ⟨_, rfl⟩
  have hc3 : cn < 3 := by rw [hcn]; exact num_lt' (by omega)
  refine J_slot (t := 17) (v := .int .i64 (cn : Int)) rfl (by rw [hcn]; rfl) ?_
  obtain ⟨ct, hct⟩ : ∃ ct, ct = cn + 1 := ⟨_, rfl⟩
  have h13 : 1 ≤ ct ∧ ct ≤ 3 := by omega
  refine L_pur rfl (p_add64 rfl rfl (by omega)) <| J_slot (t := 18) (v := .int .i64 (ct : Int)) rfl (by rw [hct]; congr 1; omega) <| ag rfl rfl <| nx <| mv rfl rfl <| mv rfl rfl <| L_pur rfl (bld27 (.cons rfl (.cons rfl (.cons rfl .nil))) (by repeat constructor)) <| J_slot (t := 21) (v := .agg (encG (ct : Int) 3 0 0 sh).toArray) rfl rfl ?_
  refine L_op <| x_call Tryz.func6 nm6 bd6 (.cons rfl .nil) rfl (coNew (ct := (ct : Int)) (cu := 3) (cs := 0) (cc := 0) (sh := sh)) fun g => ag rfl rfl <| nxx <| mv rfl rfl <| L_pur rfl (p_eqNilPtr Tryz.underlying24 rfl) <| mv rfl rfl <| J_bool (t := 25) (c := false) rfl (rfl) ?_
  refine L_op <| G_on rfl rfl rfl <| J_pur (p_move rfl) rfl rfl rfl <| L_op <| G_on rfl rfl rfl <| x_call Tryz.func14 nm14 bd14 (.cons rfl .nil) rfl (coSlots) fun _ => L_op <| G_on rfl rfl rfl ?_
  refine J_pur (p_eqNilPtr Tryz.underlying43 rfl) rfl rfl rfl <| L_pur rfl (p_pick_f rfl rfl) <| mv rfl rfl <| J_bool (t := 30) (c := false) rfl (rfl) <| L_op <| G_on rfl rfl rfl <| J_pur (p_move rfl) rfl rfl rfl <| L_op <| G_on rfl rfl rfl ?_
  refine x_call Tryz.func15 nm15 bd15 (.cons rfl .nil) rfl (coMaps) fun _ => L_op <| G_on rfl rfl rfl <| J_pur (p_eqNilPtr Tryz.underlying45 rfl) rfl rfl rfl <| L_pur rfl (p_pick_f rfl rfl) <| nq <| J_bool (t := 34) (c := false) rfl (rfl) <| C_false rfl ?_
  refine J_skip <| qx <| mv rfl rfl <| mv rfl rfl <| L_op <| x_call Tryz.func9 nm9 bd9 (.cons rfl (.cons rfl .nil)) rfl (number (by omega) (by omega)) fun _ => ?_
  obtain ⟨t, ht⟩ : ∃ t, t = num d (ct : Nat) := ⟨_, rfl⟩
  have htc : t < ct := by rw [ht]; exact num_lt' (by omega)
  refine J_slot (t := 37) (v := .int .i64 (t : Int)) rfl (by rw [ht]) ?_
  have hR : Rc (kNew (ct : Int) 3 0 0 sh g) (bOf 3 t) (hOf ct 3) sh := rc_of h13 htc
  obtain ⟨K, hK⟩ : ∃ K, K = kNew (ct : Int) 3 0 0 sh g := ⟨_, rfl⟩
  rw [← hK] at hR
  refine J_pick (A := coA g.p _) PC ?_
  refine J_asTo (B := coA g.p K) (by rw [hK]) ?_
  obtain ⟨b, hb⟩ : ∃ b, b = bOf 3 t := ⟨_, rfl⟩
  obtain ⟨h, hh⟩ : ∃ h, h = hOf ct 3 := ⟨_, rfl⟩
  rw [← hb, ← hh] at hR
  have hbt : b = 1 + t * 10 := by rw [hb]; rfl
  have hhc : h = 1 + ct * 10 := by rw [hh]; rfl
  have hmp := hR.nmp
  have hwl := wantR_len b h sh
  have hmp2 : (mp2 K.mp b).length ≤ 100000 := by
    unfold mp2 spSet
    rw [if_pos hR.set]
    unfold ins
    split
    · rw [List.length_map]; omega
    · rw [List.length_append]; simp; omega
  have hmp1 : K.mp.length ≤ 100000 := by omega
  have hW1 := hR.wk (b + 1) (.inl rfl)
  have hW2 := hR.wk b (.inr (.inl rfl))
  have hW3 := hR.wk 0 (.inr (.inr rfl))
  refine ag rfl rfl <| nx <| mv rfl rfl <| L_pur rfl (p_mul64 rfl rfl (by omega)) <| L_pur rfl (p_add64 rfl rfl (by omega)) <| J_slot (t := 40) (v := .int .i64 b) rfl (by rw [hbt]; congr 1; omega) <| ag rfl rfl <| nx ?_
  refine mv rfl rfl <| L_pur rfl (p_add64 rfl rfl (by omega)) <| L_pur rfl (bld48 (.cons rfl (.cons rfl .nil)) (by repeat constructor)) <| mv rfl rfl <| L_pur rfl (bld48 (.cons rfl (.cons rfl .nil)) (by repeat constructor)) <| mv rfl rfl <| L_pur rfl (p_add64 rfl rfl (by omega)) <| L_pur rfl (bld48 (.cons rfl (.cons rfl .nil)) (by repeat constructor)) ?_
  refine mv rfl rfl <| L_pur rfl (p_add64 rfl rfl (by omega)) <| L_pur rfl (bld48 (.cons rfl (.cons rfl .nil)) (by repeat constructor)) <| L_op <| x_lit (vals := [_, _, _, _]) Tryz.underlying49 ty48 rfl (.cons rfl (.cons rfl (.cons rfl (.cons rfl .nil)))) (.agg (.agg (.agg (.agg .nil)))) (Wf.cons rfl rfl (Wf.cons rfl rfl (Wf.cons rfl rfl (Wf.cons rfl rfl Wf.nil)))) rfl (by decide) rfl rfl <| JE ([((1 : Int), b + 7), (2, b), (3, b + 4), (3, b + 5)].map encI) (by rfl) fun a52 c52 hw52 hl52 hm52 hz52 => ag rfl rfl <| nxx ?_
  refine mv rfl rfl <| nq ?_
  refine C_split rfl (fun h53 => ?_) (fun h53 => ?_)
  ·
    refine J_region <| mv rfl rfl <| mv rfl rfl <| L_pur rfl (p_mul64 rfl rfl (by omega)) <| L_pur rfl (p_add64 rfl rfl (by omega)) <| J_slot (t := 57) (v := .int .i64 h) rfl (by rw [hhc]; congr 1; omega) <| L_pur rfl (bld48 (.cons rfl (.cons rfl .nil)) (by repeat constructor)) <| mv rfl rfl ?_
    refine L_pur rfl (p_mul64 rfl rfl (by omega)) <| L_pur rfl (p_add64 rfl rfl (by omega)) <| J_slot (t := 61) (v := .int .i64 (h + 1)) rfl (by rw [hhc]; congr 1; omega) <| L_pur rfl (bld48 (.cons rfl (.cons rfl .nil)) (by repeat constructor)) <| L_op <| x_lit (vals := [_, _]) Tryz.underlying49 ty48 rfl (.cons rfl (.cons rfl .nil)) (.agg (.agg .nil)) (Wf.cons rfl rfl (Wf.cons rfl rfl Wf.nil)) rfl (by decide) rfl rfl <| JE ([(4, h), (5, h + 1)].map encI) (by rfl) fun a63 c63 hw63 hl63 hm63 hz63 => L_op <| x_app rfl rfl Tryz.underlying49 ty48 rfl rfl PC (fun w H => sep_reads HS H) (OM) (OM) rfl ?_
    refine JE (([((1 : Int), b + 7), (2, b), (3, b + 4), (3, b + 5)] ++ [(4, h), (5, h + 1)]).map encI) (by rfl) fun a64 c64 hw64 hl64 hm64 hz64 => ag rfl rfl <| nx <| mv rfl rfl <| mv rfl rfl <| L_pur rfl (p_add64 rfl rfl (by omega)) <| L_pur rfl (bld48 (.cons rfl (.cons rfl .nil)) (by repeat constructor)) <| mv rfl rfl ?_
    refine L_pur rfl (p_add64 rfl rfl (by omega)) <| L_pur rfl (bld48 (.cons rfl (.cons rfl .nil)) (by repeat constructor)) <| mv rfl rfl <| L_pur rfl (p_add64 rfl rfl (by omega)) <| L_pur rfl (bld48 (.cons rfl (.cons rfl .nil)) (by repeat constructor)) <| mv rfl rfl <| L_pur rfl (p_add64 rfl rfl (by omega)) <| L_pur rfl (bld48 (.cons rfl (.cons rfl .nil)) (by repeat constructor)) ?_
    refine L_op <| x_lit (vals := [_, _, _, _]) Tryz.underlying49 ty48 rfl (.cons rfl (.cons rfl (.cons rfl (.cons rfl .nil)))) (.agg (.agg (.agg (.agg .nil)))) (Wf.cons rfl rfl (Wf.cons rfl rfl (Wf.cons rfl rfl (Wf.cons rfl rfl Wf.nil)))) rfl (by decide) rfl rfl <| JE ([((6 : Int), b + 1), (7, b + 6), (8, b + 2), (9, b + 3)].map encI) (by rfl) fun a78 c78 hw78 hl78 hm78 hz78 => L_op <| x_app rfl rfl Tryz.underlying49 ty48 rfl rfl PC (fun w H => sep_reads HS H) (OM) (OM) rfl <| JE ((wantR b h sh).map encI) (by unfold wantR; rw [h53]; rfl) fun a79 c79 hw79 hl79 hm79 hz79 => ag rfl rfl <| nxx ?_
    refine mv rfl rfl <| mv rfl rfl <| L_pur rfl (p_add64 rfl rfl (by omega)) <| L_op <| x_call Tryz.func17 nm17 bd17 (.cons rfl (.cons rfl .nil)) rfl (coReach (s := K) (u := b + 1) (N := nR sh) PC hmp1 hW1) <| JE ((wantR b h sh).map encI) (by rw [hR.re]) fun a83 c83 hw83 hl83 hm83 hz83 => mv rfl rfl <| L_op <| x_call Tryz.func16 nm16 bd16 (.cons rfl (.cons rfl .nil)) rfl (sameObjs (xs := (wantR b h sh)) (fun w H => sep_reads (xs := (wantR b h sh).map encI) HS H) (fun w H => sep_reads (xs := (wantR b h sh).map encI) HS H) (by omega)) fun _ => ?_
    refine L_pur rfl (p_not rfl) <| nq <| J_bool (t := 86) (c := false) rfl (rfl) <| C_false rfl <| J_skip <| Q_then <| J_seq <| sr ?_
    refine mv rfl rfl <| L_op <| x_call Tryz.func15 nm15 bd15 (.cons rfl .nil) rfl (coMaps) fun _ => mv rfl rfl <| L_pur rfl (p_add64 rfl rfl (by omega)) <| L_pur rfl (bld54 (.cons rfl (.cons rfl .nil)) (by repeat constructor)) <| J_slot (t := 91) (v := .agg (encI (b + 2, 6)).toArray) rfl rfl <| L_pur rfl (bld56 (.cons rfl (.cons rfl .nil)) (by repeat constructor)) ?_
    refine J_slot (t := 92) (v := .agg (encI (64, 1)).toArray) rfl rfl <| L_op <| x_call Tryz.func18 nm18 bd18 (.cons rfl (.cons rfl (.cons rfl .nil))) rfl (coSpSet (s := K) (a := (b + 2, 6)) (f := (64, 1)) PC) fun _ => ?_
    refine J_bool (t := 93) (c := true) rfl (by rw [hR.set]) <| J_pick (A := coA g.p _) PC ?_
    refine J_asTo (B := coA g.p { K with mp := mp2 K.mp b }) (by rfl) <| L_pur rfl (p_not rfl) <| nq <| J_bool (t := 94) (c := false) rfl (rfl) <| C_false rfl <| J_skip <| qx <| mv rfl rfl ?_
    refine mv rfl rfl <| L_pur rfl (p_add64 rfl rfl (by omega)) <| L_op <| x_call Tryz.func17 nm17 bd17 (.cons rfl (.cons rfl .nil)) rfl (coReach (s := { K with mp := mp2 K.mp b }) (u := b + 1) (N := nR sh) PC hmp2 hW1) <| JR fun a98 c98 hw98 hl98 hm98 hz98 => ag rfl rfl <| nx <| mv rfl rfl ?_
    refine mv rfl rfl <| J_bool (t := 100) (c := true) rfl (rfl) <| L_op <| G_on rfl rfl rfl <| J_pur (p_move rfl) rfl rfl rfl <| L_op <| G_on rfl rfl rfl <| J_pur (p_len rfl Tryz.underlying49) rfl rfl rfl ?_
    refine J_slot (t := 102) (v := .int .i64 (((wantR b h sh).length : Int) + 1)) rfl (by rw [List.length_map, hR.re2]; rfl) <| L_op <| G_on rfl rfl rfl <| J_pur (p_move rfl) rfl rfl rfl <| L_op <| G_on rfl rfl rfl <| J_pur (p_len rfl Tryz.underlying49) rfl rfl rfl <| J_slot (t := 104) (v := .int .i64 ((wantR b h sh).length : Int)) rfl (by rw [List.length_map]) ?_
    refine L_op <| G_on rfl rfl rfl <| J_pur (p_add64 rfl rfl (by omega)) rfl rfl rfl <| L_op <| G_on rfl rfl rfl <| J_pur (p_eql rfl rfl) rfl rfl rfl <| J_bool (t := 106) (c := true) rfl (by simp) <| L_pur rfl (p_pick_t rfl rfl) ?_
    refine mv rfl rfl <| J_bool (t := 108) (c := true) rfl (rfl) <| L_op <| G_on rfl rfl rfl <| J_pur (p_move rfl) rfl rfl rfl <| L_op <| G_on rfl rfl rfl <| J_pur (p_move rfl) rfl rfl rfl ?_
    refine L_op <| G_on rfl rfl rfl <| x_call Tryz.func17 nm17 bd17 (.cons rfl (.cons rfl .nil)) rfl (coReach (s := { K with mp := mp2 K.mp b }) (u := b) (N := nR sh) PC hmp2 hW2) <| JE (([] : List Obj).map encI) (by rw [hR.rb]) fun a111 c111 hw111 hl111 hm111 hz111 => L_op <| G_on rfl rfl rfl <| J_pur (p_len rfl Tryz.underlying49) rfl rfl rfl <| L_op <| G_on rfl rfl rfl ?_
    refine J_pur (p_eql rfl rfl) rfl rfl rfl <| L_pur rfl (p_pick_t rfl rfl) <| mv rfl rfl <| J_bool (t := 115) (c := true) rfl (rfl) <| L_op <| G_on rfl rfl rfl <| J_pur (p_move rfl) rfl rfl rfl <| L_op <| G_on rfl rfl rfl ?_
    refine x_call Tryz.func17 nm17 bd17 (.cons rfl (.cons rfl .nil)) rfl (coReach (s := { K with mp := mp2 K.mp b }) (u := 0) (N := nR sh) PC hmp2 hW3) <| JE (([] : List Obj).map encI) (by rw [hR.r0]) fun a117 c117 hw117 hl117 hm117 hz117 => L_op <| G_on rfl rfl rfl <| J_pur (p_len rfl Tryz.underlying49) rfl rfl rfl <| L_op <| G_on rfl rfl rfl <| J_pur (p_eql rfl rfl) rfl rfl rfl ?_
    refine L_pur rfl (p_pick_t rfl rfl) <| ag rfl rfl <| nq <| J_ret ?_
    exact J_return (()) Tryz.results4 (.tmp rfl .nil) rfl SU
  ·
    refine J_skip <| qx <| mv rfl rfl <| mv rfl rfl <| L_pur rfl (p_add64 rfl rfl (by omega)) <| L_pur rfl (bld48 (.cons rfl (.cons rfl .nil)) (by repeat constructor)) <| mv rfl rfl <| L_pur rfl (p_add64 rfl rfl (by omega)) ?_
    refine L_pur rfl (bld48 (.cons rfl (.cons rfl .nil)) (by repeat constructor)) <| mv rfl rfl <| L_pur rfl (p_add64 rfl rfl (by omega)) <| L_pur rfl (bld48 (.cons rfl (.cons rfl .nil)) (by repeat constructor)) <| mv rfl rfl <| L_pur rfl (p_add64 rfl rfl (by omega)) <| L_pur rfl (bld48 (.cons rfl (.cons rfl .nil)) (by repeat constructor)) <| L_op <| x_lit (vals := [_, _, _, _]) Tryz.underlying49 ty48 rfl (.cons rfl (.cons rfl (.cons rfl (.cons rfl .nil)))) (.agg (.agg (.agg (.agg .nil)))) (Wf.cons rfl rfl (Wf.cons rfl rfl (Wf.cons rfl rfl (Wf.cons rfl rfl Wf.nil)))) rfl (by decide) rfl rfl ?_
    refine JE ([((6 : Int), b + 1), (7, b + 6), (8, b + 2), (9, b + 3)].map encI) (by rfl) fun a78 c78 hw78 hl78 hm78 hz78 => L_op <| x_app rfl rfl Tryz.underlying49 ty48 rfl rfl PC (fun w H => sep_reads HS H) (OM) (OM) rfl <| JE ((wantR b h sh).map encI) (by unfold wantR; rw [h53]; rfl) fun a79 c79 hw79 hl79 hm79 hz79 => ag rfl rfl <| nxx <| mv rfl rfl <| mv rfl rfl ?_
    refine L_pur rfl (p_add64 rfl rfl (by omega)) <| L_op <| x_call Tryz.func17 nm17 bd17 (.cons rfl (.cons rfl .nil)) rfl (coReach (s := K) (u := b + 1) (N := nR sh) PC hmp1 hW1) <| JE ((wantR b h sh).map encI) (by rw [hR.re]) fun a83 c83 hw83 hl83 hm83 hz83 => mv rfl rfl <| L_op <| x_call Tryz.func16 nm16 bd16 (.cons rfl (.cons rfl .nil)) rfl (sameObjs (xs := (wantR b h sh)) (fun w H => sep_reads (xs := (wantR b h sh).map encI) HS H) (fun w H => sep_reads (xs := (wantR b h sh).map encI) HS H) (by omega)) fun _ => ?_
    refine L_pur rfl (p_not rfl) <| nq <| J_bool (t := 86) (c := false) rfl (rfl) <| C_false rfl <| J_skip <| Q_then <| J_seq <| sr ?_
    refine mv rfl rfl <| L_op <| x_call Tryz.func15 nm15 bd15 (.cons rfl .nil) rfl (coMaps) fun _ => mv rfl rfl <| L_pur rfl (p_add64 rfl rfl (by omega)) <| L_pur rfl (bld54 (.cons rfl (.cons rfl .nil)) (by repeat constructor)) <| J_slot (t := 91) (v := .agg (encI (b + 2, 6)).toArray) rfl rfl <| L_pur rfl (bld56 (.cons rfl (.cons rfl .nil)) (by repeat constructor)) ?_
    refine J_slot (t := 92) (v := .agg (encI (64, 1)).toArray) rfl rfl <| L_op <| x_call Tryz.func18 nm18 bd18 (.cons rfl (.cons rfl (.cons rfl .nil))) rfl (coSpSet (s := K) (a := (b + 2, 6)) (f := (64, 1)) PC) fun _ => ?_
    refine J_bool (t := 93) (c := true) rfl (by rw [hR.set]) <| J_pick (A := coA g.p _) PC ?_
    refine J_asTo (B := coA g.p { K with mp := mp2 K.mp b }) (by rfl) <| L_pur rfl (p_not rfl) <| nq <| J_bool (t := 94) (c := false) rfl (rfl) <| C_false rfl <| J_skip <| qx <| mv rfl rfl ?_
    refine mv rfl rfl <| L_pur rfl (p_add64 rfl rfl (by omega)) <| L_op <| x_call Tryz.func17 nm17 bd17 (.cons rfl (.cons rfl .nil)) rfl (coReach (s := { K with mp := mp2 K.mp b }) (u := b + 1) (N := nR sh) PC hmp2 hW1) <| JR fun a98 c98 hw98 hl98 hm98 hz98 => ag rfl rfl <| nx <| mv rfl rfl ?_
    refine mv rfl rfl <| J_bool (t := 100) (c := true) rfl (rfl) <| L_op <| G_on rfl rfl rfl <| J_pur (p_move rfl) rfl rfl rfl <| L_op <| G_on rfl rfl rfl <| J_pur (p_len rfl Tryz.underlying49) rfl rfl rfl ?_
    refine J_slot (t := 102) (v := .int .i64 (((wantR b h sh).length : Int) + 1)) rfl (by rw [List.length_map, hR.re2]; rfl) <| L_op <| G_on rfl rfl rfl <| J_pur (p_move rfl) rfl rfl rfl <| L_op <| G_on rfl rfl rfl <| J_pur (p_len rfl Tryz.underlying49) rfl rfl rfl <| J_slot (t := 104) (v := .int .i64 ((wantR b h sh).length : Int)) rfl (by rw [List.length_map]) ?_
    refine L_op <| G_on rfl rfl rfl <| J_pur (p_add64 rfl rfl (by omega)) rfl rfl rfl <| L_op <| G_on rfl rfl rfl <| J_pur (p_eql rfl rfl) rfl rfl rfl <| J_bool (t := 106) (c := true) rfl (by simp) <| L_pur rfl (p_pick_t rfl rfl) ?_
    refine mv rfl rfl <| J_bool (t := 108) (c := true) rfl (rfl) <| L_op <| G_on rfl rfl rfl <| J_pur (p_move rfl) rfl rfl rfl <| L_op <| G_on rfl rfl rfl <| J_pur (p_move rfl) rfl rfl rfl ?_
    refine L_op <| G_on rfl rfl rfl <| x_call Tryz.func17 nm17 bd17 (.cons rfl (.cons rfl .nil)) rfl (coReach (s := { K with mp := mp2 K.mp b }) (u := b) (N := nR sh) PC hmp2 hW2) <| JE (([] : List Obj).map encI) (by rw [hR.rb]) fun a111 c111 hw111 hl111 hm111 hz111 => L_op <| G_on rfl rfl rfl <| J_pur (p_len rfl Tryz.underlying49) rfl rfl rfl <| L_op <| G_on rfl rfl rfl ?_
    refine J_pur (p_eql rfl rfl) rfl rfl rfl <| L_pur rfl (p_pick_t rfl rfl) <| mv rfl rfl <| J_bool (t := 115) (c := true) rfl (rfl) <| L_op <| G_on rfl rfl rfl <| J_pur (p_move rfl) rfl rfl rfl <| L_op <| G_on rfl rfl rfl ?_
    refine x_call Tryz.func17 nm17 bd17 (.cons rfl (.cons rfl .nil)) rfl (coReach (s := { K with mp := mp2 K.mp b }) (u := 0) (N := nR sh) PC hmp2 hW3) <| JE (([] : List Obj).map encI) (by rw [hR.r0]) fun a117 c117 hw117 hl117 hm117 hz117 => L_op <| G_on rfl rfl rfl <| J_pur (p_len rfl Tryz.underlying49) rfl rfl rfl <| L_op <| G_on rfl rfl rfl <| J_pur (p_eql rfl rfl) rfl rfl rfl ?_
    refine L_pur rfl (p_pick_t rfl rfl) <| ag rfl rfl <| nq <| J_ret ?_
    exact J_return (()) Tryz.results4 (.tmp rfl .nil) rfl SU

end Go.Pse
