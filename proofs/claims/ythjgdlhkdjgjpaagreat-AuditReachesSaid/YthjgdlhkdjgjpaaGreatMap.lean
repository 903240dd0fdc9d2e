/-
  Own layer, part 7: maps whose keys are told by plain data: lookups, updates, deletions.
-/
import Derived.Test.YthjgdlhkdjgjpaaGreatMore
import Derived.Test.YthjgdlhkdjgjpaaGreatFld
import Derived.MapKept
import Derived.StillTail
namespace Go.Pse
open Go.RowKit

/-! ### plain: pairs, at most one a key -/
def Keyd {κ υ : Type} (ps : List (κ × υ)) : Prop := (ps.map Prod.fst).Nodup
theorem Keyd.nil {κ υ : Type} : Keyd ([] : List (κ × υ)) := List.nodup_nil
section
variable {κ υ : Type} [DecidableEq κ]
def look (ps : List (κ × υ)) (a : κ) : Option υ := (ps.find? fun p => decide (p.1 = a)).map Prod.snd
def ins (ps : List (κ × υ)) (a : κ) (u : υ) : List (κ × υ) := if (look ps a).isSome then ps.map fun p => if p.1 = a then (a, u) else p else ps ++ [(a, u)]
def del (ps : List (κ × υ)) (a : κ) : List (κ × υ) := ps.filter fun p => !decide (p.1 = a)
theorem look_nil (a : κ) : look ([] : List (κ × υ)) a = none := rfl
theorem look_cons (p : κ × υ) (ps : List (κ × υ)) (a : κ) : look (p :: ps) a = if p.1 = a then some p.2 else look ps a := by
  unfold look
  rw [List.find?_cons]
  by_cases h : p.1 = a <;> simp [h]
theorem look_append (ps qs : List (κ × υ)) (a : κ) : look (ps ++ qs) a = (look ps a).or (look qs a) := by
  induction ps with
  | nil => simp [look_nil]
  | cons p ps ih => rw [List.cons_append, look_cons, look_cons, ih]; split <;> simp
theorem look_none_iff {ps : List (κ × υ)} {a : κ} : look ps a = none ↔ a ∉ ps.map Prod.fst := by
  induction ps with
  | nil => simp [look_nil]
  | cons p ps ih =>
    rw [look_cons]
    by_cases h : p.1 = a
    · simp [h]
    · have : ¬ a = p.1 := fun e => h e.symm
      simp [h, ih, this]
theorem look_ins (ps : List (κ × υ)) (a : κ) (u : υ) (c : κ) : look (ins ps a u) c = if a = c then some u else look ps c := by
  unfold ins
  split
  · rename_i hs
    induction ps with
    | nil => simp [look_nil] at hs
    | cons p ps ih =>
      rw [List.map_cons, look_cons, look_cons]
      rw [look_cons] at hs
      by_cases h : p.1 = a
      · rw [if_pos h]
        by_cases hc : a = c
        · simp [hc]
        · have h2 : ¬ p.1 = c := fun e => hc (h ▸ e)
          simp only [hc, h2, if_false]
          clear ih hs
          induction ps with
          | nil => rfl
          | cons q ps ih =>
            rw [List.map_cons, look_cons, look_cons, ih]
            by_cases hq : q.1 = a
            · have : ¬ q.1 = c := fun e => hc (hq ▸ e)
              simp [hq, hc]
            · simp [hq]
      · rw [if_neg h]
        rw [if_neg h] at hs
        rw [ih hs]
        by_cases hc : a = c
        · have : ¬ p.1 = c := fun e => h (hc ▸ e)
          simp [this, hc]
        · simp [hc]
  · rename_i hs
    have hn : look ps a = none := by simpa using hs
    rw [look_append, look_cons]
    by_cases hc : a = c
    · subst hc; simp [hn]
    · simp [hc, look_nil]
theorem look_del (ps : List (κ × υ)) (a c : κ) : look (del ps a) c = if a = c then none else look ps c := by
  unfold del
  induction ps with
  | nil => simp [look_nil]
  | cons p ps ih =>
    rw [List.filter_cons]
    by_cases h : p.1 = a
    · simp only [h, decide_true, Bool.not_true, Bool.false_eq_true, if_false, ih, look_cons]
      split <;> rfl
    · simp only [h, decide_false, Bool.not_false, if_true, look_cons, ih]
      by_cases hc : a = c
      · have : ¬ p.1 = c := fun e => h (hc ▸ e)
        simp [hc, this]
      · simp [hc]
theorem Keyd.ins {ps : List (κ × υ)} (h : Keyd ps) (a : κ) (u : υ) : Keyd (ins ps a u) := by
  unfold Keyd Pse.ins at *
  split
  · have : (ps.map fun p => if p.1 = a then (a, u) else p).map Prod.fst = ps.map Prod.fst := by
      rw [List.map_map]; apply List.map_congr_left; intro p _; simp only [Function.comp]; split <;> simp [*]
    rw [this]; exact h
  · rename_i hs
    have hn : look ps a = none := by simpa using hs
    rw [List.map_append, List.nodup_append]
    refine ⟨h, by simp, fun x hx y hy => ?_⟩
    simp at hy
    subst hy
    exact fun e => look_none_iff.1 hn (e ▸ hx)
theorem Keyd.del {ps : List (κ × υ)} (h : Keyd ps) (a : κ) : Keyd (del ps a) := List.Nodup.sublist (List.Sublist.map _ List.filter_sublist) h
theorem look_idx {ps : List (κ × υ)} {a : κ} : (ps.map Prod.fst).findIdx? (fun k => decide (k = a)) = none → look ps a = none := fun h => by
  rw [look_none_iff]; intro hm
  rw [List.findIdx?_eq_none_iff] at h
  simpa using h a hm
theorem look_at {ps : List (κ × υ)} {a : κ} {i : Nat} (h : (ps.map Prod.fst).findIdx? (fun k => decide (k = a)) = some i) : ∃ p, ps[i]? = some p ∧ p.1 = a ∧ look ps a = some p.2 := by
  induction ps generalizing i with
  | nil => simp at h
  | cons p ps ih =>
    rw [List.map_cons, List.findIdx?_cons] at h
    by_cases hp : p.1 = a
    · simp [hp] at h
      subst h
      exact ⟨p, rfl, hp, by rw [look_cons, if_pos hp]⟩
    · simp only [hp, decide_false, Bool.false_eq_true, if_false] at h
      cases hf : (ps.map Prod.fst).findIdx? (fun k => decide (k = a)) with
      | none => rw [hf] at h; cases h
      | some j =>
        rw [hf] at h
        simp at h
        subst h
        obtain ⟨q, h1, h2, h3⟩ := ih hf
        exact ⟨q, by simpa using h1, h2, by rw [look_cons, if_neg hp, h3]⟩
theorem nodup_idx {α : Type} [DecidableEq α] {l : List α} (h : l.Nodup) {i j : Nat} {x : α} (hi : l[i]? = some x) (hj : l[j]? = some x) : i = j := by
  have h1 := (List.getElem?_eq_some_iff.1 hi).1
  exact (List.getElem?_inj h1 h).1 (hi.trans hj.symm)
theorem ins_at {ps : List (κ × υ)} {a : κ} {u : υ} {i : Nat} {p : κ × υ} (hk : Keyd ps) (hi : ps[i]? = some p) (hp : p.1 = a) : ins ps a u = ps.set i (a, u) := by
  have hl : (look ps a).isSome = true := by
    cases h : look ps a with
    | some _ => rfl
    | none => exact absurd (List.mem_map.2 ⟨p, List.mem_of_getElem? hi, hp⟩) (look_none_iff.1 h)
  unfold ins
  rw [if_pos hl]
  apply List.ext_getElem?
  intro j
  rw [List.getElem?_map, List.getElem?_set]
  by_cases hij : i = j
  · subst hij
    have := (List.getElem?_eq_some_iff.1 hi).1
    rw [hi, Option.map_some, if_pos hp, if_pos rfl, if_pos this]
  · rw [if_neg hij]
    cases hj : ps[j]? with
    | none => rfl
    | some q =>
      have hq : ¬ q.1 = a := fun hq => hij (nodup_idx hk (by rw [List.getElem?_map, hi]; rfl) (by rw [List.getElem?_map, hj, Option.map_some, hq, hp]))
      simp [hq]
theorem del_at {ps : List (κ × υ)} {a : κ} {i : Nat} {p : κ × υ} (hk : Keyd ps) (hi : ps[i]? = some p) (hp : p.1 = a) : del ps a = ps.eraseIdx i := by
  induction ps generalizing i with
  | nil => simp at hi
  | cons q ps ih =>
    have hk' : Keyd ps := (List.nodup_cons.1 hk).2
    have hq := (List.nodup_cons.1 hk).1
    unfold del
    rw [List.filter_cons]
    cases i with
    | zero =>
      simp at hi
      subst hi
      simp only [hp, decide_true, Bool.not_true, Bool.false_eq_true, if_false, List.eraseIdx_cons_zero]
      rw [List.filter_eq_self]
      intro r hr
      have : ¬ r.1 = a := fun e => hq (List.mem_map.2 ⟨r, hr, by rw [e, hp]⟩)
      simp [this]
    | succ i =>
      have hi' : ps[i]? = some p := by simpa using hi
      have : ¬ q.1 = a := fun e => hq (List.mem_map.2 ⟨p, List.mem_of_getElem? hi', by rw [hp, e]⟩)
      simp only [this, decide_false, Bool.not_false, if_true, List.eraseIdx_cons_succ]
      rw [← ih hk' hi']
      rfl
theorem del_no {ps : List (κ × υ)} {a : κ} (h : look ps a = none) : del ps a = ps := by
  unfold del
  rw [List.filter_eq_self]
  intro p hp
  have : ¬ p.1 = a := fun e => look_none_iff.1 h (List.mem_map.2 ⟨p, hp, e⟩)
  simp [this]
end

/-! ### several taken at once -/
inductive Picks : List As → List As → List As → Prop where
  | nil {l : List As} : Picks [] l l
  | cons {A : As} {L l l1 m : List As} (h : Pick A l l1) (hs : Picks L l1 m) : Picks (A :: L) l m
theorem Picks.sep {E w : World} {L l m : List As} (h : Picks L l m) : Sep E w l → Sep E w (L ++ m) := by
  induction h with
  | nil => exact id
  | cons hp _ ih =>
    intro H
    have H1 := H.pick hp
    refine ⟨H1.os, H1.tape, H1.output, ?_⟩
    obtain ⟨S, S1, S2, h1, h2, hd, he⟩ := H1.own
    have H2 : ∀ {l1 L m : List As} {S2 : Loc → Prop}, Picks L l1 m → sepL l1 w S2 → sepL (L ++ m) w S2 := by
      intro l1 L m S2 hp
      induction hp generalizing S2 with
      | nil => exact id
      | cons hp _ ih =>
        intro h
        obtain ⟨T1, T2, g1, g2, gd, ge⟩ := pick_sep hp h
        exact ⟨T1, T2, g1, ih g2, gd, ge⟩
    exact ⟨S, S1, S2, h1, H2 (by assumption) h2, hd, he⟩
theorem J_shutN {E : World} {l m L : List As} {n : Nat} {F : Env} {K : Act → World → Prop} (hs : Picks L l m) (k : Jk E (As.all L :: m) n F K) : Jk E l n F K := fun w a H hF => k w a (Sep.all_in (hs.sep H)) hF

theorem J_fold {E : World} {l m L : List As} {n : Nat} {F : Env} {K : Act → World → Prop} {α : Type} {f : α → As} {p : Prop} (x : α) (hf : f x = As.all (As.pure p :: L)) (hs : Picks L l m) (h : p) (k : Jk E (As.ex f :: m) n F K) : Jk E l n F K :=
  J_to (fun _ H => Sep.ex_in x (by rw [hf]; exact Sep.all_in (m := As.pure p :: L) (Sep.pure_in h (hs.sep H)))) k
theorem J_unfold {E : World} {l : List As} {n : Nat} {F : Env} {K : Act → World → Prop} {α : Type} {f : α → As} {p : α → Prop} {L : α → List As} (hf : ∀ x, f x = As.all (As.pure (p x) :: L x)) (k : ∀ x, p x → Jk E (L x ++ l) n F K) : Jk E (As.ex f :: l) n F K :=
  J_ex fun x => by rw [hf]; exact J_all (m := As.pure (p x) :: L x) (J_pure fun h => k x h)

/-! ### regions in a drawn order whose first operations leave the world -/
theorem J_drawT {P : Program} {Q : Exit → Act → World → Prop} {E : World} {l : List As} {n : Nat} {F : Env} {id : Nat} {os : List Oper} (k0 : Nat) (hm : P.follows .mixedOrders = true) (hB : Region.lexTailB .any os.toArray k0 = true)
    (k : Jk E l n F (stl P os.toArray (wpList P os.toArray Q (os.drop k0)) (os.take k0))) : Jk E l n F ((Code.region id os.toArray true).wp P Q) :=
  fun w a H hF => wp_region_still_tail k0 hm hB (k _ a H.drew hF)

/-! ### the model's maps -/
/-- Keys of a type, told by data: how one is found among others. -/
structure Ky (P : Program) (k : TypeId) {κ : Type} [DecidableEq κ] (ek : κ → Value) : Prop where
  check : ∀ a em w, (Instr.checkKey em 10000 k (ek a)).run P w = .ok () w
  same : ∀ a, Instr.sameBits 10000 (ek a) (ek a) = true
  find : ∀ (a : κ) (es : List MapEntry) (ks : List κ) (w : World), es.map (·.key) = ks.map ek → (Instr.findKey k (ek a) es).run P w = .ok (match ks.findIdx? (fun c => decide (c = a)) with | some i => (es[i]?).map fun e => (i, e.val) | none => none) w

section
variable {κ υ : Type} {ek : κ → Value} {ev : υ → Value}
def enP (ek : κ → Value) (ev : υ → Value) (p : κ × υ) : Value × Value := (ek p.1, ev p.2)
/-- The map that v leads to. -/
def mapV (ek : κ → Value) (ev : υ → Value) (v : Value) (ps : List (κ × υ)) : As where
  h w S := Keyd ps ∧ ((v = .map none ∧ ps = [] ∧ ∀ k, ¬ S k) ∨
    ∃ b es c, v = .map (some b) ∧ w.heap[b]? = some (.map es c) ∧ es.toList.map (fun e => (e.key, e.val)) = ps.map (enP ek ev) ∧ (es.toList.map (·.born)).Nodup ∧ (∀ e ∈ es.toList, e.born < c) ∧ ∀ k, S k ↔ k.1 = b)
  loc := fun ⟨hk, h⟩ hs => ⟨hk, by
    rcases h with h | ⟨b, es, c, h1, h2, h3, h4, h5, h6⟩
    · exact .inl h
    · exact .inr ⟨b, es, c, h1, (heap_of_lk fun i => hs (b, i) ((h6 (b, i)).2 rfl)).trans h2, h3, h4, h5, h6⟩⟩
  lt := fun ⟨_, h⟩ hb => by
    rcases h with h | ⟨b, es, c, h1, h2, h3, h4, h5, h6⟩
    · exact (h.2.2 _ hb).elim
    · rw [(h6 _).1 hb]; exact (Array.getElem?_eq_some_iff.1 h2).1

variable {P : Program} {ops : Array Oper} {Q : Exit → Act → World → Prop} {E : World} {l l' m : List As} {n : Nat} {F : Env} {K : Act → World → Prop}
variable {d : Nat} {T : TypeId} {p : String} {e : Array Edge} {g : Option (Nat × Bool)} {dst : Option Tmp} {t : TypeId} {x y z : Operand} {u v : Value}

theorem J_mapNil (k : Jk E (mapV ek ev (.map none) [] :: l) n F K) : Jk E l n F K := fun w a H hF =>
  k w a (H.add (Same.refl w) (fun _ _ => rfl) (S1 := fun _ => False) ⟨Keyd.nil, .inl ⟨rfl, rfl, fun _ h => h⟩⟩ (fun _ h => h.elim)) hF
/-- A map's value, laid open. -/
theorem J_mapV {ps : List (κ × υ)} (hh : Has (mapV ek ev v ps) l) (k0 : v = .map none → ps = [] → Jk E l n F K) (k1 : ∀ b, v = .map (some b) → Keyd ps → Jk E l n F K) : Jk E l n F K := fun w a H hF => by
  obtain ⟨S, hk, h⟩ := H.has hh
  rcases h with ⟨h1, h2, _⟩ | ⟨b, es, c, h1, _⟩
  · exact k0 h1 h2 w a H hF
  · exact k1 b h1 hk w a H hF
theorem J_mapNone {ps : List (κ × υ)} (hh : Has (mapV ek ev (.map none) ps) l) (k : ps = [] → Jk E l n F K) : Jk E l n F K :=
  J_mapV hh (fun _ h => k h) (fun b h _ => by cases h)
theorem J_mapEq {ps qs : List (κ × υ)} (h : ps = qs) (k : Jk E (mapV ek ev v qs :: l) n F K) : Jk E (mapV ek ev v ps :: l) n F K := h ▸ k
theorem keys_of {es : Array MapEntry} {ps : List (κ × υ)} (h : es.toList.map (fun e => (e.key, e.val)) = ps.map (enP ek ev)) : es.toList.map (·.key) = (ps.map Prod.fst).map ek := by
  have := congrArg (List.map Prod.fst) h
  simpa [enP, Function.comp_def] using this
theorem entry_at {es : Array MapEntry} {ps : List (κ × υ)} {i : Nat} {q : κ × υ} (h : es.toList.map (fun e => (e.key, e.val)) = ps.map (enP ek ev)) (hi : ps[i]? = some q) : ∃ en, es.toList[i]? = some en ∧ en.key = ek q.1 ∧ en.val = ev q.2 := by
  have := congrArg (fun (l : List (Value × Value)) => l[i]?) h
  simp only [List.getElem?_map, hi, Option.map_some] at this
  cases he : es.toList[i]? with
  | none => rw [he] at this; cases this
  | some en =>
    rw [he] at this
    simp only [Option.map_some, Option.some.injEq, enP, Prod.mk.injEq] at this
    exact ⟨en, rfl, this.1, this.2⟩
theorem map_len {es : Array MapEntry} {ps : List (κ × υ)} (h : es.toList.map (fun e => (e.key, e.val)) = ps.map (enP ek ev)) : es.size = ps.length := by
  have := congrArg List.length h
  simpa using this

theorem x_makeMap (hd : Nat.blt d n = true) (k : ∀ b, Jk E (mapV ek ev (.map (some b)) [] :: l) n ((d, .map (some b)) :: F) K) : Jop P ops Q ⟨some d, .makeMap t none, T, p, e, none⟩ E l n F K := fun w a H hF => by
  have hw : Region.wanted (⟨some d, .makeMap t none, T, p, e, none⟩ : Oper) (yielded ops a.tmps) = true := rfl
  rw [if_pos hw]
  unfold Oper.wp
  have hrun : (execOp a.eval ⟨some d, .makeMap t none, T, p, e, none⟩).run P w = .ok (.value (.map (some w.heap.size))) (w.alloc (.map #[] 0)) := by
    simp [execOp, Instr.makeMap]
  rw [hrun]
  exact k _ _ _ (H.add alloc_same (fun _ hb => alloc_old hb) (B := mapV ek ev (.map (some w.heap.size)) []) (S1 := fun q => q.1 = w.heap.size) ⟨Keyd.nil, .inr ⟨_, #[], 0, rfl, heap_alloc_new w _, rfl, by simp, by simp, fun _ => Iff.rfl⟩⟩ (fun b hb => by omega)) (hF.put hd)
theorem v_mapLen {kt et : TypeId} {ps : List (κ × υ)} (hx : evl F x = some v) (ht : P.underlying t = some (.map kt et)) (hh : Has (mapV ek ev v ps) l) :
    Vl P ⟨dst, .call { callee := .builtin .len, args := #[x], argTypes := #[t] }, T, p, e, g⟩ E l F n (.int .i64 ps.length) := fun w A H hF => by
  obtain ⟨S, hk, h⟩ := H.has hh
  rcases h with ⟨rfl, rfl, _⟩ | ⟨b, es, ck, rfl, h2, h3, h4, h5, h6⟩
  · simp [execOp, resolve, invoke, builtin, hF.evl hx, Builtin.len_, run_underlying ht, goInt]
  · have hg : (getObj b).run P w = .ok (.map es ck) w := by simp [getObj, Sem.run, h2]
    have := map_len h3
    simp [execOp, resolve, invoke, builtin, hF.evl hx, Builtin.len_, run_underlying ht, hg, goInt, this]
end
section
variable {κ υ : Type} [DecidableEq κ] {ek : κ → Value} {ev : υ → Value}
variable {P : Program} {ops : Array Oper} {Q : Exit → Act → World → Prop} {E : World} {l l' m : List As} {n : Nat} {F : Env} {K : Act → World → Prop}
variable {d : Nat} {T : TypeId} {p : String} {e : Array Edge} {g : Option (Nat × Bool)} {dst : Option Tmp} {t : TypeId} {x y z : Operand} {u v : Value}
def zof {υ : Type} (ev : υ → Value) (zv : Value) : Option υ → Value
  | some u => ev u
  | none => zv
theorem run_look {kt et : TypeId} {ps : List (κ × υ)} {a : κ} {zv : Value} {w : World} {S : Loc → Prop} {ok : Bool} (K : Ky P kt ek) (ht : P.underlying t = some (.map kt et)) (hz : ((P.info? et).bind (·.zero)) = some zv)
    (h : (mapV ek ev v ps).h w S) : (Instr.lookup t v (ek a) ok).run P w = .ok (if ok then .tuple #[zof ev zv (look ps a), .bool (look ps a).isSome] else zof ev zv (look ps a)) w := by
  have hz' : (zeroValue et).run P w = .ok zv w := by
    cases hi : P.info? et with
    | none => rw [hi] at hz; cases hz
    | some i =>
      rw [hi] at hz
      simp only [Option.bind_some] at hz
      simp [zeroValue, typeInfo, hi, hz]
  obtain ⟨hk, h⟩ := h
  rcases h with ⟨rfl, rfl, _⟩ | ⟨b, es, c, rfl, h2, h3, _⟩
  · have hf := K.find a [] [] w rfl
    simp only [List.findIdx?_nil] at hf
    cases ok <;> simp [Instr.lookup, run_underlying ht, K.check, hf, hz', zof, look_nil]
  · have hg : (getObj b).run P w = .ok (.map es c) w := by simp [getObj, Sem.run, h2]
    have hf := K.find a es.toList (ps.map Prod.fst) w (keys_of h3)
    cases hx : (ps.map Prod.fst).findIdx? (fun c => decide (c = a)) with
    | none =>
      rw [hx] at hf
      cases ok <;> simp [Instr.lookup, run_underlying ht, hg, K.check, hf, hz', zof, look_idx hx]
    | some i =>
      rw [hx] at hf
      obtain ⟨q, g1, g2, g3⟩ := look_at hx
      obtain ⟨en, e1, e2, e3⟩ := entry_at h3 g1
      simp only [e1, Option.map_some] at hf
      cases ok <;> simp [Instr.lookup, run_underlying ht, hg, K.check, hf, zof, g3, e3]
theorem v_look {kt et : TypeId} {ps : List (κ × υ)} {a : κ} {zv : Value} (hx : evl F x = some v) (hy : evl F y = some (ek a)) (K : Ky P kt ek) (ht : P.underlying t = some (.map kt et)) (hz : ((P.info? et).bind (·.zero)) = some zv)
    (hh : Has (mapV ek ev v ps) l) : Vl P ⟨dst, .lookup t x y false, T, p, e, g⟩ E l F n (zof ev zv (look ps a)) := fun w A H hF => by
  obtain ⟨S, hS⟩ := H.has hh
  simp [execOp, hF.evl hx, hF.evl hy, run_look K ht hz hS]
theorem v_lookOk {kt et : TypeId} {ps : List (κ × υ)} {a : κ} {zv : Value} (hx : evl F x = some v) (hy : evl F y = some (ek a)) (K : Ky P kt ek) (ht : P.underlying t = some (.map kt et)) (hz : ((P.info? et).bind (·.zero)) = some zv)
    (hh : Has (mapV ek ev v ps) l) : Vl P ⟨dst, .lookup t x y true, T, p, e, g⟩ E l F n (.tuple #[zof ev zv (look ps a), .bool (look ps a).isSome]) := fun w A H hF => by
  obtain ⟨S, hS⟩ := H.has hh
  simp [execOp, hF.evl hx, hF.evl hy, run_look K ht hz hS]
omit [DecidableEq κ] in
theorem v_lenMap {kt et : TypeId} {ps : List (κ × υ)} (hx : evl F x = some v) (ht : P.underlying t = some (.map kt et)) (hh : Has (mapV ek ev v ps) l) :
    Vl P ⟨dst, .call { callee := .builtin .len, args := #[x], argTypes := #[t] }, T, p, e, g⟩ E l F n (.int .i64 (ps.length : Int)) := fun w A H hF => by
  obtain ⟨S, hk, h⟩ := H.has hh
  rcases h with ⟨rfl, rfl, _⟩ | ⟨b, es, c, rfl, h2, h3, _⟩
  · simp [execOp, resolve, invoke, builtin, hF.evl hx, Builtin.len_, run_underlying ht, goInt]
  · have hg : (getObj b).run P w = .ok (.map es c) w := by simp [getObj, Sem.run, h2]
    have hl : es.size = ps.length := by have := congrArg List.length h3; simpa using this
    simp [execOp, resolve, invoke, builtin, hF.evl hx, Builtin.len_, run_underlying ht, goInt, hg, hl]
theorem put_out {w : World} {b : Nat} {o : Obj} {k : Loc} (h : k.1 ≠ b) : lk { w with heap := w.heap.setIfInBounds b o } k = lk w k := lk_of_heap <| by
  show (w.heap.setIfInBounds b o)[k.1]? = _
  rw [Array.getElem?_setIfInBounds_ne (fun e => h e.symm)]
theorem put_in {w : World} {b : Nat} {o o' : Obj} (h : w.heap[b]? = some o') : ({ w with heap := w.heap.setIfInBounds b o } : World).heap[b]? = some o := by
  show (w.heap.setIfInBounds b o)[b]? = _
  rw [Array.getElem?_setIfInBounds_self_of_lt (Array.getElem?_eq_some_iff.1 h).1]
theorem put_same {w : World} {b : Nat} {o : Obj} : Same w { w with heap := w.heap.setIfInBounds b o } := ⟨rfl, rfl, ⟨rfl, Nat.le_refl _⟩, by simp⟩
theorem x_mapUpdate {kt et : TypeId} {b : Nat} {ps : List (κ × υ)} {a : κ} {c : υ} (hx : evl F x = some (.map (some b))) (hy : evl F y = some (ek a)) (hz : evl F z = some (ev c)) (Ke : Ky P kt ek) (ht : P.underlying t = some (.map kt et))
    (hp : Pick (mapV ek ev (.map (some b)) ps) l m) (k : Jk E (mapV ek ev (.map (some b)) (ins ps a c) :: m) n F K) : Jop P ops Q ⟨none, .mapUpdate t x y z, T, p, e, none⟩ E l n F K := fun w A H hF => by
  have hw : Region.wanted (⟨none, .mapUpdate t x y z, T, p, e, none⟩ : Oper) (yielded ops A.tmps) = true := rfl
  rw [if_pos hw]
  unfold Oper.wp
  have H' := H.pick hp
  obtain ⟨S, hk, h⟩ := H'.head
  rcases h with ⟨h, _⟩ | ⟨b', es, ck, h1, h2, h3, h4, h5, h6⟩
  · cases h
  · cases h1
    have hg : (getObj b).run P w = .ok (.map es ck) w := by simp [getObj, Sem.run, h2]
    have hs : ∀ o, (setObj b o).run P w = .ok () { w with heap := w.heap.setIfInBounds b o } := fun o => by simp [setObj, Sem.run, h2]
    have hf := Ke.find a es.toList (ps.map Prod.fst) w (keys_of h3)
    have upd : ∀ (es' : Array MapEntry) (ck' : Nat), es'.toList.map (fun e => (e.key, e.val)) = (ins ps a c).map (enP ek ev) → (es'.toList.map (·.born)).Nodup → (∀ e ∈ es'.toList, e.born < ck') →
        Sep E { w with heap := w.heap.setIfInBounds b (.map es' ck') } (mapV ek ev (.map (some b)) (ins ps a c) :: m) := fun es' ck' g1 g2 g3 => by
      refine H'.rep .here put_same fun S' hS' => ?_
      obtain ⟨_, hS'⟩ := hS'
      have hSb : ∀ k, S' k ↔ k.1 = b := by
        rcases hS' with ⟨h, _⟩ | ⟨b', _, _, h, _, _, _, _, h8⟩
        · cases h
        · cases h; exact h8
      exact ⟨⟨S', ⟨hk.ins a c, .inr ⟨b, es', ck', rfl, put_in h2, g1, g2, g3, hSb⟩⟩, fun _ h => .inl h⟩, fun k _ hk => put_out fun h => hk ((hSb k).2 h)⟩
    cases hxi : (ps.map Prod.fst).findIdx? (fun c => decide (c = a)) with
    | none =>
      rw [hxi] at hf
      have hn := look_idx hxi
      have hrun : (execOp A.eval ⟨none, .mapUpdate t x y z, T, p, e, none⟩).run P w = .ok .skip { w with heap := w.heap.setIfInBounds b (.map (es.push { key := ek a, val := ev c, born := ck }) (ck + 1)) } := by
        simp [execOp, hF.evl hx, hF.evl hy, hF.evl hz, Instr.mapUpdate, run_underlying ht, hg, Ke.check, hf, hs]
      rw [hrun]
      refine k _ _ (upd _ _ ?_ ?_ ?_) hF
      · unfold ins
        rw [if_neg (by simp [hn])]
        simp [h3, enP]
      · simp only [Array.toList_push, List.map_append, List.map_cons, List.map_nil]
        rw [List.nodup_append]
        refine ⟨h4, by simp, fun q hq r hr => ?_⟩
        obtain ⟨en, hen, rfl⟩ := List.mem_map.1 hq
        have := h5 en hen
        simp at hr
        subst hr
        omega
      · intro en hen
        simp only [Array.toList_push, List.mem_append, List.mem_singleton] at hen
        rcases hen with hen | rfl
        · have := h5 en hen; omega
        · simp
    | some i =>
      rw [hxi] at hf
      obtain ⟨q, g1, g2, g3⟩ := look_at hxi
      obtain ⟨en, e1, e2, e3⟩ := entry_at h3 g1
      simp only [e1, Option.map_some] at hf
      have e1' : es[i]? = some en := by simpa using e1
      have hil := (Array.getElem?_eq_some_iff.1 e1').1
      have hrun : (execOp A.eval ⟨none, .mapUpdate t x y z, T, p, e, none⟩).run P w = .ok .skip { w with heap := w.heap.setIfInBounds b (.map (es.modify i fun e => { e with key := ek a, val := ev c }) ck) } := by
        simp [execOp, hF.evl hx, hF.evl hy, hF.evl hz, Instr.mapUpdate, run_underlying ht, hg, Ke.check, hf, hs, e1', e2, g2, Instr.keyThatStays, Ke.same]
      rw [hrun]
      have hmod : (es.modify i fun e => { e with key := ek a, val := ev c }).toList = es.toList.set i { en with key := ek a, val := ev c } := by
        have hl2 : i < es.toList.length := by simpa using hil
        rw [Array.toList_modify]
        apply List.ext_getElem?
        intro j
        rw [List.getElem?_set, List.getElem?_modify]
        by_cases hij : i = j
        · subst hij; rw [if_pos rfl, if_pos hl2, e1]; simp
        · simp [hij]
      refine k _ _ (upd _ _ ?_ ?_ ?_) hF
      · rw [hmod, ins_at hk g1 g2, List.map_set, List.map_set, h3]; rfl
      · rw [hmod, List.map_set]
        have : (es.toList.map (·.born)).set i en.born = es.toList.map (·.born) := by
          apply List.ext_getElem?
          intro j
          rw [List.getElem?_set]
          by_cases hij : i = j
          · subst hij
            have := (Array.getElem?_eq_some_iff.1 e1').2
            simp [hil, this]
          · simp [hij]
        rw [this]; exact h4
      · intro f hf'
        rw [hmod] at hf'
        rcases List.mem_or_eq_of_mem_set hf' with hf' | rfl
        · exact h5 f hf'
        · exact h5 en (List.mem_of_getElem? e1)
theorem x_delete {kt et kt' : TypeId} {ps : List (κ × υ)} {a : κ} (hx : evl F x = some v) (hy : evl F y = some (ek a)) (Ke : Ky P kt ek) (ht : P.underlying t = some (.map kt et))
    (hp : Pick (mapV ek ev v ps) l m) (k : Jk E (mapV ek ev v (del ps a) :: m) n F K) : Jop P ops Q ⟨none, .call { callee := .builtin .delete, args := #[x, y], argTypes := #[t, kt'] }, T, p, e, none⟩ E l n F K := fun w A H hF => by
  have hw : Region.wanted (⟨none, .call { callee := .builtin .delete, args := #[x, y], argTypes := #[t, kt'] }, T, p, e, none⟩ : Oper) (yielded ops A.tmps) = true := rfl
  rw [if_pos hw]
  unfold Oper.wp
  have H' := H.pick hp
  obtain ⟨S, hk, h⟩ := H'.head
  rcases h with ⟨rfl, rfl, _⟩ | ⟨b, es, ck, rfl, h2, h3, h4, h5, h6⟩
  · have hrun : (execOp A.eval ⟨none, .call { callee := .builtin .delete, args := #[x, y], argTypes := #[t, kt'] }, T, p, e, none⟩).run P w = .ok (.value (.tuple #[])) w := by
      simp [execOp, resolve, invoke, builtin, hF.evl hx, hF.evl hy, Builtin.delete_, run_underlying ht, Ke.check]
    rw [hrun]
    exact k _ _ H' hF
  · have hg : (getObj b).run P w = .ok (.map es ck) w := by simp [getObj, Sem.run, h2]
    have hs : ∀ o, (setObj b o).run P w = .ok () { w with heap := w.heap.setIfInBounds b o } := fun o => by simp [setObj, Sem.run, h2]
    have hf := Ke.find a es.toList (ps.map Prod.fst) w (keys_of h3)
    have upd : ∀ (es' : Array MapEntry), es'.toList.map (fun e => (e.key, e.val)) = (del ps a).map (enP ek ev) → (es'.toList.map (·.born)).Nodup → (∀ e ∈ es'.toList, e.born < ck) →
        Sep E { w with heap := w.heap.setIfInBounds b (.map es' ck) } (mapV ek ev (.map (some b)) (del ps a) :: m) := fun es' g1 g2 g3 => by
      refine H'.rep .here put_same fun S' hS' => ?_
      obtain ⟨_, hS'⟩ := hS'
      have hSb : ∀ k, S' k ↔ k.1 = b := by
        rcases hS' with ⟨h, _⟩ | ⟨b', _, _, h, _, _, _, _, h8⟩
        · cases h
        · cases h; exact h8
      exact ⟨⟨S', ⟨hk.del a, .inr ⟨b, es', ck, rfl, put_in h2, g1, g2, g3, hSb⟩⟩, fun _ h => .inl h⟩, fun k _ hk => put_out fun h => hk ((hSb k).2 h)⟩
    cases hxi : (ps.map Prod.fst).findIdx? (fun c => decide (c = a)) with
    | none =>
      rw [hxi] at hf
      have hrun : (execOp A.eval ⟨none, .call { callee := .builtin .delete, args := #[x, y], argTypes := #[t, kt'] }, T, p, e, none⟩).run P w = .ok (.value (.tuple #[])) { w with heap := w.heap.setIfInBounds b (.map es ck) } := by
        simp [execOp, resolve, invoke, builtin, hF.evl hx, hF.evl hy, Builtin.delete_, run_underlying ht, hg, Ke.check, hf, hs]
      rw [hrun]
      exact k _ _ (upd _ (by rw [del_no (look_idx hxi)]; exact h3) h4 h5) hF
    | some i =>
      rw [hxi] at hf
      obtain ⟨q, g1, g2, g3⟩ := look_at hxi
      obtain ⟨en, e1, e2, e3⟩ := entry_at h3 g1
      simp only [e1, Option.map_some] at hf
      have hrun : (execOp A.eval ⟨none, .call { callee := .builtin .delete, args := #[x, y], argTypes := #[t, kt'] }, T, p, e, none⟩).run P w = .ok (.value (.tuple #[])) { w with heap := w.heap.setIfInBounds b (.map (es.eraseIdxIfInBounds i) ck) } := by
        simp [execOp, resolve, invoke, builtin, hF.evl hx, hF.evl hy, Builtin.delete_, run_underlying ht, hg, Ke.check, hf, hs]
      rw [hrun]
      have hsub : (es.toList.eraseIdx i).Sublist es.toList := List.eraseIdx_sublist es.toList i
      refine k _ _ (upd _ ?_ ?_ ?_) hF
      · rw [del_at hk g1 g2, Array.toList_eraseIdxIfInBounds, List.eraseIdx_eq_take_drop_succ, List.eraseIdx_eq_take_drop_succ, List.map_append, List.map_append, List.map_take, List.map_drop, List.map_take, List.map_drop, h3]
      · rw [Array.toList_eraseIdxIfInBounds]
        exact List.Nodup.sublist (hsub.map _) h4
      · intro f hf'
        rw [Array.toList_eraseIdxIfInBounds] at hf'
        exact h5 f (hsub.mem hf')
theorem p_eqNilMap {b : Option Nat} {kt et ty : TypeId} (ht : P.underlying t = some (.map kt et)) (hx : evl F x = some (.map b)) : Pur P ⟨dst, .binOp .eql t x (.const (.map none)) ty, T, p, e, g⟩ F n (.bool b.isNone) :=
  p_eqv hx rfl (fun w => by rw [eqGuard_at_map]; rfl) (fun w => by
    have h0 : ∀ D, (Op.equalIn (D + 1) t (.map b) (.map none)).run P w = .ok b.isNone w := fun D => by
      cases b <;> simp [Op.equalIn, run_underlying ht]
    have h : (Op.equalIn 10000 t (.map b) (.map none)).run P w = .ok b.isNone w := h0 9999
    simp only [binOp, Op.equal, Op.maxDepth, Sem.run_bind, h]
    rfl)
end

/-! ### keys of structs of two whole numbers; of whole numbers -/
theorem ky_int {P : Program} {k : TypeId} (hk : P.underlying k = some (.int .i64)) : Ky P k (fun a : Int => Value.int .i64 a) where
  check a em w := by
    have : ∀ n, (Instr.checkKey em (n + 1) k (.int .i64 a)).run P w = .ok () w := fun n => by simp [Instr.checkKey, run_underlying hk]
    exact this 9999
  same a := by
    have : ∀ n, Instr.sameBits (n + 1) (.int .i64 a) (.int .i64 a) = true := fun n => by simp [Instr.sameBits]
    exact this 9999
  find a es ks w h := by
    have : ∀ (es : List MapEntry) (ks : List Int) (i : Nat), es.map (·.key) = ks.map (fun a : Int => Value.int .i64 a) → Instr.findNow (.int .i64) (.int .i64 a) es i = some (match ks.findIdx? (fun c => decide (c = a)) with | some j => (es[j]?).map fun e => (i + j, e.val) | none => none) := by
      intro es
      induction es with
      | nil => intro ks i h; cases ks with
        | nil => rfl
        | cons _ _ => cases h
      | cons en es ih =>
        intro ks i h
        cases ks with
        | nil => cases h
        | cons c ks =>
          simp only [List.map_cons, List.cons.injEq] at h
          obtain ⟨h1, h2⟩ := h
          rw [Instr.findNow, h1, List.findIdx?_cons]
          by_cases hc : c = a
          · subst hc; simp [Instr.sameNow]
          · have hc' : ¬ a = c := fun e => hc e.symm
            have hb : (a == c) = false := by simpa using hc'
            simp only [Instr.sameNow, if_true, hb, hc, decide_false, Bool.false_eq_true, if_false]
            rw [ih ks (i + 1) h2]
            cases hf : ks.findIdx? (fun c => decide (c = a)) with
            | none => rfl
            | some j => simp [Nat.add_assoc, Nat.add_comm 1]
    have h1 := this es ks 0 h
    simp only [Nat.zero_add] at h1
    simp [Instr.findKey, run_underlying hk, h1]
theorem ky_struct {P : Program} {k : TypeId} {fs : Array Field} {κ : Type} [DecidableEq κ] {ek : κ → Value} (hk : P.underlying k = some (.struct fs)) (hs : ∀ a, Instr.sameBits 10000 (ek a) (ek a) = true)
    (hc : ∀ a em w, (Instr.checkKey em 10000 k (ek a)).run P w = .ok () w) (he : ∀ a b w, (Op.equal k (ek a) (ek b)).run P w = .ok (decide (a = b)) w) : Ky P k ek where
  check := hc
  same := hs
  find a es ks w h := by
    have ask : ∀ (es : List MapEntry) (ks : List κ) (i : Nat), es.map (·.key) = ks.map ek → (Instr.findAsking k (ek a) es i).run P w = .ok (match ks.findIdx? (fun c => decide (c = a)) with | some j => (es[j]?).map fun e => (i + j, e.val) | none => none) w := by
      intro es
      induction es with
      | nil => intro ks i h; cases ks with
        | nil => rfl
        | cons _ _ => cases h
      | cons en es ih =>
        intro ks i h
        cases ks with
        | nil => cases h
        | cons c ks =>
          simp only [List.map_cons, List.cons.injEq] at h
          obtain ⟨h1, h2⟩ := h
          rw [Instr.findAsking, h1, List.findIdx?_cons]
          simp only [Sem.run_bind, he, Result.andThen_ok]
          by_cases hc : c = a
          · subst hc; simp
          · have hc' : ¬ a = c := fun e => hc e.symm
            simp only [hc, hc', decide_false, Bool.false_eq_true, if_false]
            rw [ih ks (i + 1) h2]
            cases hf : ks.findIdx? (fun c => decide (c = a)) with
            | none => rfl
            | some j => simp [Nat.add_assoc, Nat.add_comm 1]
    have h1 := ask es ks 0 h
    simp only [Nat.zero_add] at h1
    cases es with
    | nil => cases ks with
      | nil => simp [Instr.findKey, run_underlying hk, Instr.findNow]
      | cons _ _ => cases h
    | cons en es =>
      have : Instr.findNow (.struct fs) (ek a) (en :: es) 0 = none := by rw [Instr.findNow]; rfl
      simp [Instr.findKey, run_underlying hk, this, h1]
theorem PX {L l m : List As} (h : Picks L l m := by repeat (first | exact Picks.nil | apply Picks.cons; (repeat (first | with_reducible exact Pick.here | with_reducible assumption | with_reducible apply Pick.there)))) : Picks L l m := h

end Go.Pse
