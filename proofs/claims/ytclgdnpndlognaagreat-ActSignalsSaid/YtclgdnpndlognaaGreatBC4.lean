/-
  Own texts, merged: C72, C73, C54, C74a, C74, C80, C81, Facts.
-/
import Derived.Test.YtclgdnpndlognaaGreatBC3
import Derived.Test.YtclgdnpndlognaaGreatBC2
import Derived.Test.YtclgdnpndlognaaGreatRows
import Derived.ProofKit
import Derived.WalkKit
set_option linter.unusedVariables false
set_option linter.unusedSimpArgs false
set_option maxRecDepth 100000
set_option maxHeartbeats 4000000
namespace Go.Pse
open Go.RowKit Go.Proofs
theorem nodup_length_le {α : Type} [DecidableEq α] : ∀ {l m : List α}, l.Nodup → (∀ x ∈ l, x ∈ m) → l.length ≤ m.length
  | [], _, _, _ => Nat.zero_le _
  | x :: l, m, hn, hm => by
    rw [List.nodup_cons] at hn
    have hx := hm x List.mem_cons_self
    have h1 := nodup_length_le (l := l) (m := m.erase x) hn.2 fun y hy => by
      rw [List.mem_erase_of_ne (fun e => hn.1 (by rw [← e]; exact hy))]
      exact hm y (List.mem_cons_of_mem _ hy)
    rw [List.length_erase_of_mem hx] at h1
    have := List.length_pos_of_mem hx
    simp only [List.length_cons]
    omega
/-! ### plain: the slots are a tree, whatever is asked -/
variable {ps : List (Place × SV)} {p : Place}
theorem kids_mem {a : Place} (hK : Keyd ps) : a ∈ kids ps p ↔ (look ps p).isSome = true ∧ ∃ s, look ps a = some s ∧ s.2 = p := by
  unfold kids
  split
  · rename_i h
    rw [heirs_mem]
    constructor
    · rintro ⟨s, h1, h2⟩
      exact ⟨h, s, look_mem hK h1, by simpa using h2⟩
    · rintro ⟨_, s, h1, h2⟩
      exact ⟨s, mem_look h1, by simpa using h2⟩
  · rename_i h
    constructor
    · intro e; cases e
    · rintro ⟨e, _⟩; exact absurd e h
theorem turnL_keyd {to : Place} : ∀ {l : List Place} {ps : List (Place × SV)}, Keyd ps → Keyd (turnL ps to l)
  | [], _, h => h
  | _ :: l, _, h => turnL_keyd (l := l) (h.ins _ _)
theorem turnL_look {to x : Place} : ∀ {l : List Place} {ps : List (Place × SV)}, look (turnL ps to l) x = if x ∈ l then some (((look ps x).getD s0).1, to) else look ps x
  | [], _ => rfl
  | k :: l, ps => by
    have h := turnL_look (to := to) (x := x) (l := l) (ps := ins ps k (((look ps k).getD s0).1, to))
    show look (turnL (ins ps k (((look ps k).getD s0).1, to)) to l) x = _
    rw [h, look_ins]
    by_cases h1 : k = x
    · subst h1
      simp
    · have h2 : (x ∈ k :: l) ↔ x ∈ l := by simp [Ne.symm h1]
      simp [h1, h2]
structure TreeOk (ps : List (Place × SV)) : Prop where
  keyd : Keyd ps
  can : ∀ x s, look ps x = some s → canP x = true
  par : ∀ x s, look ps x = some s → s.2 = (0, 0) ∨ (look ps s.2).isSome = true
  caps : ∀ x s, look ps x = some s → checkC s.1 = true
  rank : ∃ rk : Place → Nat, ∀ x s, look ps x = some s → s.2 ≠ (0, 0) → rk s.2 < rk x
theorem TreeOk.capsOk (h : TreeOk ps) : CapsOk ps := fun e he => h.caps e.1 e.2 (look_mem h.keyd he)
theorem canP_zero : canP (0, 0) = false := by decide
theorem TreeOk.nz (h : TreeOk ps) {x : Place} (hx : (look ps x).isSome = true) : x ≠ (0, 0) := fun e => by
  obtain ⟨s, hs⟩ := Option.isSome_iff_exists.1 hx
  have := h.can x s hs
  rw [e, canP_zero] at this; cases this
def maxRk (rk : Place → Nat) (ps : List (Place × SV)) : Nat := ps.foldr (fun e n => max (rk e.1) n) 0
theorem TreeOk.put (h : TreeOk ps) (p : Place) (c : Cap) (q : Place) : TreeOk (slPut ps p c q) := by
  unfold slPut
  split
  · rename_i hok
    unfold slPutOk at hok
    simp only [Bool.and_eq_true, Bool.not_eq_true', Bool.or_eq_true, decide_eq_true_eq] at hok
    obtain ⟨⟨⟨h1, h2⟩, h3⟩, h4⟩ := hok
    have hnone : look ps p = none := by cases hq : look ps p with
      | none => rfl
      | some y => rw [hq] at h2; cases h2
    obtain ⟨rk, hrk⟩ := h.rank
    have hold : ∀ x s, look ps x = some s → x ≠ p := fun x s hx e => by rw [e, hnone] at hx; cases hx
    refine ⟨h.keyd.ins _ _, fun x s hx => ?_, fun x s hx => ?_, fun x s hx => ?_, ⟨fun x => if x = p then maxRk rk ps + rk q + 1 else rk x, fun x s hx hs => ?_⟩⟩
    · rw [look_ins] at hx
      split at hx
      · rename_i e; rw [← e]; exact h1
      · exact h.can x s hx
    · rw [look_ins] at hx ⊢
      split at hx
      · cases hx
        rcases h4 with h4 | h4
        · exact .inl h4
        · right; split
          · rfl
          · exact h4
      · rcases h.par x s hx with h5 | h5
        · exact .inl h5
        · right; split
          · rfl
          · exact h5
    · rw [look_ins] at hx
      split at hx
      · cases hx; exact h3
      · exact h.caps x s hx
    · rw [look_ins] at hx
      split at hx
      · rename_i e
        cases hx
        rcases h4 with h4 | h4
        · exact absurd h4 hs
        · have hqp : q ≠ p := fun e2 => by rw [e2, hnone] at h4; cases h4
          dsimp only
          rw [if_neg hqp, if_pos e.symm]; omega
      · have hsp : s.2 ≠ p := fun e => by
          rcases h.par x s hx with h5 | h5
          · exact hs h5
          · rw [e, hnone] at h5; cases h5
        dsimp only
        rw [if_neg hsp, if_neg (hold x s hx)]
        exact hrk x s hx hs
  · exact h
theorem TreeOk.drop (h : TreeOk ps) (p : Place) : TreeOk (dropS ps p) := by
  unfold dropS
  cases hp : look ps p with
  | none => exact h
  | some s0' =>
    obtain ⟨rk, hrk⟩ := h.rank
    have hsp : s0'.2 ≠ p := fun e => by
      have h1 := h.nz (x := p) (by rw [hp]; rfl)
      have := hrk p s0' hp (by rw [e]; exact h1)
      rw [e] at this; omega
    have hlk : ∀ x s, look (del (turnS ps p s0'.2) p) x = some s → x ≠ p ∧ ∃ t, look ps x = some t ∧ ((t.2 = p ∧ s = (t.1, s0'.2)) ∨ (t.2 ≠ p ∧ s = t)) := fun x s hx => by
      rw [look_del] at hx
      split at hx
      · cases hx
      · rename_i hne
        refine ⟨fun e => hne e.symm, ?_⟩
        unfold turnS at hx
        rw [turnL_look] at hx
        split at hx
        · rename_i hk
          obtain ⟨_, t, h1, h2⟩ := (kids_mem h.keyd).1 hk
          refine ⟨t, h1, .inl ⟨h2, ?_⟩⟩
          rw [h1] at hx; exact (Option.some.inj hx).symm
        · rename_i hk
          refine ⟨s, hx, .inr ⟨fun e => hk ((kids_mem h.keyd).2 ⟨by rw [hp]; rfl, s, hx, e⟩), rfl⟩⟩
    have hsome : ∀ x, x ≠ p → (look ps x).isSome = true → (look (del (turnS ps p s0'.2) p) x).isSome = true := fun x hx h1 => by
      rw [look_del, if_neg (fun e => hx e.symm)]
      unfold turnS
      exact turnL_some h1
    refine ⟨(turnL_keyd h.keyd).del _, fun x s hx => ?_, fun x s hx => ?_, fun x s hx => ?_, ⟨rk, fun x s hx hs => ?_⟩⟩
    · obtain ⟨_, t, h1, _⟩ := hlk x s hx
      exact h.can x t h1
    · obtain ⟨_, t, h1, h2⟩ := hlk x s hx
      rcases h2 with ⟨_, rfl⟩ | ⟨h2, rfl⟩
      · rcases h.par p s0' hp with h3 | h3
        · exact .inl h3
        · exact .inr (hsome _ hsp h3)
      · rcases h.par x s h1 with h3 | h3
        · exact .inl h3
        · exact .inr (hsome _ h2 h3)
    · obtain ⟨_, t, h1, h2⟩ := hlk x s hx
      rcases h2 with ⟨_, rfl⟩ | ⟨_, rfl⟩
      · exact h.caps x t h1
      · exact h.caps x s h1
    · obtain ⟨_, t, h1, h2⟩ := hlk x s hx
      rcases h2 with ⟨h2, rfl⟩ | ⟨_, rfl⟩
      · have h3 := hrk p s0' hp hs
        have h4 := hrk x t h1 (by rw [h2]; exact h.nz (by rw [hp]; rfl))
        rw [h2] at h4
        show rk s0'.2 < rk x
        omega
      · exact hrk x s h1 hs
theorem TreeOk.move (h : TreeOk ps) (a b : Place) : TreeOk (moveS ps a b) := by
  unfold moveS
  split
  · rename_i hok
    unfold moveOk at hok
    simp only [Bool.and_eq_true, Bool.not_eq_true'] at hok
    obtain ⟨⟨h1, h2⟩, h3⟩ := hok
    obtain ⟨sa, ha⟩ := Option.isSome_iff_exists.1 h1
    have hnb : look ps b = none := by cases hq : look ps b with
      | none => rfl
      | some y => rw [hq] at h3; cases h3
    have hab : a ≠ b := fun e => by rw [e, hnb] at ha; cases ha
    rw [ha]
    show TreeOk (ins (del (turnS ps a b) a) b sa)
    obtain ⟨rk, hrk⟩ := h.rank
    have hsa : sa.2 ≠ a := fun e => by
      have := hrk a sa ha (by rw [e]; exact h.nz h1)
      rw [e] at this; omega
    have hsb : sa.2 ≠ b := fun e => by
      rcases h.par a sa ha with h4 | h4
      · rw [e] at h4; rw [h4, canP_zero] at h2; cases h2
      · rw [e, hnb] at h4; cases h4
    have hlk : ∀ x s, look (ins (del (turnS ps a b) a) b sa) x = some s → (x = b ∧ s = sa) ∨ (x ≠ b ∧ x ≠ a ∧ ∃ t, look ps x = some t ∧ ((t.2 = a ∧ s = (t.1, b)) ∨ (t.2 ≠ a ∧ s = t))) := fun x s hx => by
      rw [look_ins] at hx
      split at hx
      · rename_i e; exact .inl ⟨e.symm, (Option.some.inj hx).symm⟩
      · rename_i hne
        rw [look_del] at hx
        split at hx
        · cases hx
        · rename_i hne2
          refine .inr ⟨fun e => hne e.symm, fun e => hne2 e.symm, ?_⟩
          unfold turnS at hx
          rw [turnL_look] at hx
          split at hx
          · rename_i hk
            obtain ⟨_, t, g1, g2⟩ := (kids_mem h.keyd).1 hk
            refine ⟨t, g1, .inl ⟨g2, ?_⟩⟩
            rw [g1] at hx; exact (Option.some.inj hx).symm
          · rename_i hk
            exact ⟨s, hx, .inr ⟨fun e => hk ((kids_mem h.keyd).2 ⟨h1, s, hx, e⟩), rfl⟩⟩
    have hsome : ∀ x, x ≠ a → (look ps x).isSome = true → (look (ins (del (turnS ps a b) a) b sa) x).isSome = true := fun x hx g => by
      rw [look_ins]; split
      · rfl
      · rw [look_del, if_neg (fun e => hx e.symm)]
        unfold turnS
        exact turnL_some g
    have hb : (look (ins (del (turnS ps a b) a) b sa) b).isSome = true := by rw [look_ins, if_pos rfl]; rfl
    refine ⟨((turnL_keyd h.keyd).del _).ins _ _, fun x s hx => ?_, fun x s hx => ?_, fun x s hx => ?_, ⟨fun x => if x = b then rk a else rk x, fun x s hx hs => ?_⟩⟩
    · rcases hlk x s hx with ⟨rfl, _⟩ | ⟨_, _, t, g1, _⟩
      · exact h2
      · exact h.can x t g1
    · rcases hlk x s hx with ⟨rfl, rfl⟩ | ⟨_, _, t, g1, g2⟩
      · rcases h.par a s ha with g | g
        · exact .inl g
        · exact .inr (hsome _ hsa g)
      · rcases g2 with ⟨_, rfl⟩ | ⟨g2, rfl⟩
        · exact .inr hb
        · rcases h.par x s g1 with g | g
          · exact .inl g
          · exact .inr (hsome _ g2 g)
    · rcases hlk x s hx with ⟨rfl, rfl⟩ | ⟨_, _, t, g1, g2⟩
      · exact h.caps a s ha
      · rcases g2 with ⟨_, rfl⟩ | ⟨_, rfl⟩
        · exact h.caps x t g1
        · exact h.caps x s g1
    · rcases hlk x s hx with ⟨rfl, rfl⟩ | ⟨gx, gy, t, g1, g2⟩
      · dsimp only
        rw [if_neg hsb, if_pos rfl]
        exact hrk a s ha hs
      · rcases g2 with ⟨g2, rfl⟩ | ⟨g2, rfl⟩
        · dsimp only
          rw [if_pos rfl, if_neg gx]
          have := hrk x t g1 (by rw [g2]; exact h.nz h1)
          rw [g2] at this; exact this
        · have g3 : s.2 ≠ b := fun e => by
            rcases h.par x s g1 with g | g
            · exact hs g
            · rw [e, hnb] at g; cases g
          dsimp only
          rw [if_neg g3, if_neg gx]
          exact hrk x s g1 hs
  · exact h
theorem dropK_ind {D : List (Place × SV) → Place → List (Place × SV) × List Obj2} {Q : List (Place × SV) → Prop} (hD : ∀ ps p, Q ps → Q (D ps p).1) {u : Int} {x : List (Place × SV) × List Obj2} (hx : Q x.1) : ∀ n, Q (dropK D u n x).1
  | 0 => hx
  | n + 1 => by rw [dropK_succ]; exact hD _ _ (dropK_ind hD hx n)
theorem TreeOk.dropT : ∀ n {ps : List (Place × SV)} (p : Place), TreeOk ps → TreeOk (kDropT n ps p).1
  | 0, _, _, h => h
  | n + 1, ps, p, h => by
    rw [kDropT]
    split
    · exact h
    · split
      · exact h.drop p
      · split
        · exact dropK_ind (Q := TreeOk) (fun ps p h => TreeOk.dropT n p h) (x := (dropS ps p, _)) (h.drop p) 16
        · exact h.drop p
theorem TreeOk.belowL {ps : List (Place × SV)} (h : TreeOk ps) {p : Place} {rk : Place → Nat} (hrk : ∀ x s, look ps x = some s → s.2 ≠ (0, 0) → rk s.2 < rk x) (hp : (look ps p).isSome = true) : ∀ (n : Nat) (done todo : List Place), (done ++ todo).Nodup → (∀ x ∈ done ++ todo, rk p < rk x ∧ ∃ s, look ps x = some s ∧ (s.2 = p ∨ s.2 ∈ done)) → ps.length ≤ n + done.length → ∃ L, belowL ps n done todo = some L ∧ ∀ x ∈ L, (look ps x).isSome = true
  | n, done, [], _, hm, _ => ⟨done, by unfold Go.Pse.belowL; rfl, fun x hx => by
    obtain ⟨_, s, hs, _⟩ := hm x (by simpa using hx)
    rw [hs]; rfl⟩
  | 0, done, a :: ts, hn, hm, hl => by
    exfalso
    have h1 : (done ++ a :: ts).length ≤ (ps.map Prod.fst).length := nodup_length_le hn fun x hx => by
      obtain ⟨_, s, hs, _⟩ := hm x hx
      exact List.mem_map.2 ⟨(x, s), mem_look hs, rfl⟩
    rw [List.length_map] at h1
    simp at h1; omega
  | n + 1, done, a :: ts, hn, hm, hl => by
    rw [Go.Pse.belowL]
    have ha := hm a (by simp)
    obtain ⟨hra, sa, hsa, hpa⟩ := ha
    refine TreeOk.belowL h hrk hp n (done ++ [a]) (ts ++ kids ps a) ?_ ?_ (by simp; omega)
    · have e : done ++ [a] ++ (ts ++ kids ps a) = (done ++ a :: ts) ++ kids ps a := by simp
      rw [e, List.nodup_append]
      refine ⟨hn, ?_, ?_⟩
      · unfold kids
        split
        · unfold heirs
          refine ((sortF_isPerm _).nodup_iff).2 ?_
          exact List.Nodup.sublist (List.Sublist.map _ List.filter_sublist) h.keyd
        · exact List.nodup_nil
      · intro x hx y hy hxy
        subst hxy
        obtain ⟨_, s, hs, h2⟩ := (kids_mem h.keyd).1 hy
        obtain ⟨_, s', hs', h3⟩ := hm x hx
        rw [hs] at hs'
        cases hs'
        rw [h2] at h3
        rcases h3 with h3 | h3
        · rw [h3] at hra; omega
        · have := (List.nodup_append.1 hn).2.2 a h3 a (by simp)
          exact this Z
    · intro x hx
      rw [show done ++ [a] ++ (ts ++ kids ps a) = (done ++ a :: ts) ++ kids ps a by simp] at hx
      rcases List.mem_append.1 hx with hx | hx
      · obtain ⟨h1, s, h2, h3⟩ := hm x hx
        exact ⟨h1, s, h2, h3.imp id fun h => by simp [h]⟩
      · obtain ⟨_, s, h1, h2⟩ := (kids_mem h.keyd).1 hx
        have h3 := hrk x s h1 (by rw [h2]; exact h.nz (by rw [hsa]; rfl))
        rw [h2] at h3
        exact ⟨by omega, s, h1, .inr (by simp [h2])⟩
theorem TreeOk.below (h : TreeOk ps) (hp : (look ps p).isSome = true) : ∃ L, belowS ps p = some L ∧ ∀ x ∈ L, (look ps x).isSome = true := by
 obtain ⟨rk, hrk⟩ := h.rank
 obtain ⟨L, h1, h2⟩ := h.belowL hrk hp ps.length [] (kids ps p) (by
  rw [List.nil_append]
  unfold kids
  rw [if_pos hp]
  unfold heirs
  refine ((sortF_isPerm _).nodup_iff).2 ?_
  exact List.Nodup.sublist (List.Sublist.map _ List.filter_sublist) h.keyd) (fun x hx => by
   rw [List.nil_append] at hx
   obtain ⟨_, s, h1, h2⟩ := (kids_mem h.keyd).1 hx
   have h3 := hrk x s h1 (by rw [h2]; exact h.nz hp)
   rw [h2] at h3
   exact ⟨h3, s, h1, .inl h2⟩) (by simp)
 exact ⟨sortP L, by unfold belowS; rw [h1]; rfl, fun x hx => h2 x (by unfold sortP at hx; exact sortF_mem.1 hx)⟩
theorem belowS_none (hp : look ps p = none) : belowS ps p = some [] := by
  have : kids ps p = [] := by unfold kids; rw [hp]; rfl
  unfold belowS
  rw [this]
  unfold Go.Pse.belowL
  rfl
theorem TreeOk.revL : ∀ {n : Nat} {ps : List (Place × SV)} {p : Place} {out : List Obj2}, TreeOk ps → ps.length < n → (revL p n ps out).isSome = true
 | 0, _, _, _, _, hl => by omega
 | n + 1, ps, p, out, h, hl => by
  have hb : ∃ L, belowS ps p = some L ∧ ∀ x ∈ L, (look ps x).isSome = true := by
   cases hp : look ps p with
   | none => exact ⟨[], belowS_none hp, fun _ hx => by cases hx⟩
   | some s => exact h.below (by rw [hp]; rfl)
  obtain ⟨L, h1, h2⟩ := hb
  cases L with
  | nil => rw [Go.Pse.revL, h1]; rfl
  | cons a ls =>
   rw [revL_step h1]
   obtain ⟨s, hs⟩ := Option.isSome_iff_exists.1 (h2 a List.mem_cons_self)
   obtain ⟨k, hk⟩ : ∃ k, ps.length = k + 1 := ⟨ps.length - 1, by have := del_less hs; omega⟩
   have hless := kDropT_less (n := k) hs
   rw [← hk] at hless
   exact TreeOk.revL (h.dropT _ a) (by omega)
theorem TreeOk.revOk (h : TreeOk ps) (p : Place) : RevOk ps p := fun _ => h.revL (by omega)
theorem TreeOk.revT {p : Place} : ∀ {n : Nat} {ps : List (Place × SV)} {out : List Obj2} {r : List (Place × SV) × List Obj2}, TreeOk ps → Go.Pse.revL p n ps out = some r → TreeOk r.1 ∧ r.1.length ≤ ps.length
  | 0, _, _, _, _, hr => by simp [Go.Pse.revL] at hr
  | n + 1, ps, out, r, h, hr => by
    obtain ⟨L, hb⟩ := revL_below hr
    cases L with
    | nil => rw [Go.Pse.revL, hb] at hr; cases hr; exact ⟨h, Nat.le_refl _⟩
    | cons a ls =>
      rw [revL_step hb] at hr
      have h1 := TreeOk.revT (h.dropT _ a) hr
      exact ⟨h1.1, Nat.le_trans h1.2 (by have := kDropT_len ps.length ps a; omega)⟩
/-! ### plain: what holds of every state, whatever is asked -/
structure WellQ (Q : Sqe → Prop) (s : KS) (N M : Nat) : Prop where
  fit : Fits s N M
  q : s.q.length ≤ N
  mp : s.mp.length ≤ N
  sl : s.sl.length ≤ N
  rg : s.rg.length ≤ 1000
  tree : TreeOk s.sl
  marks : MarksOk s.mr
  thr : (s.th.map fun e => e.2.ring).Nodup
  ent : ∀ e ∈ s.rt, SqeOk e.2.e ∧ Q e.2.e
  rtk : Keyd s.rt
abbrev Well := WellQ fun _ => True
variable {Q : Sqe → Prop}
variable {s : KS}
theorem own_of (h : (s.th.map fun e => e.2.ring).Nodup) {r : Int} {x : Option Th} (ho : Owns s r x) : x = kOwner s r := by
 unfold kOwner
 cases x with
 | none =>
  rw [List.find?_eq_none.2 (fun e he => by simpa using ho e he)]; rfl
 | some t =>
  obtain ⟨k, hk, hr⟩ := ho
  have hm := mem_look hk
  cases hf : s.th.find? (fun e => decide (e.2.ring = r)) with
  | none =>
   have := List.find?_eq_none.1 hf (k, t) hm
   simp [hr] at this
  | some e =>
   have he := List.mem_of_find?_eq_some hf
   have hr2 : e.2.ring = r := by have := List.find?_some hf; simpa using this
   obtain ⟨i, hi⟩ := List.getElem?_of_mem hm
   obtain ⟨j, hj⟩ := List.getElem?_of_mem he
   have hij : i = j := nodup_idx h (x := r) (by rw [List.getElem?_map, hi]; simp [hr]) (by rw [List.getElem?_map, hj]; simp [hr2])
   subst hij
   rw [hi] at hj
   cases hj
   rfl
variable {N M : Nat}
theorem WellQ.good (h : WellQ Q s N M) (hN : N + 1 ≤ 90000) (hM : M ≤ 45000) : Good s N M :=
  ⟨h.fit, hN, hM, h.q, h.mp, h.sl, h.rg, h.tree.capsOk, h.marks, h.tree.revOk, fun _ _ => own_of h.thr, fun e he => (h.ent e he).1⟩
theorem WellQ.more {s : KS} {N M : Nat} (h : WellQ Q s N M) (hN : N + 1 ≤ 90000) : WellQ Q s (N + 1) M :=
  ⟨h.fit.more hN, Nat.le_succ_of_le h.q, Nat.le_succ_of_le h.mp, Nat.le_succ_of_le h.sl, h.rg, h.tree, h.marks, h.thr, h.ent, h.rtk⟩
theorem WellQ.ended {t : KS} (h : WellQ Q s N M) (hf : Fits t N M) (hq : t.q.length ≤ s.q.length) (hmp : t.mp.length ≤ s.mp.length) (hsl : t.sl = s.sl) (hmr : t.mr = s.mr) (hth : t.th.Sublist s.th) (hrg : t.rg.length ≤ s.rg.length) (hrt : t.rt.Sublist s.rt) : WellQ Q t N M :=
  ⟨hf, Nat.le_trans hq h.q, Nat.le_trans hmp h.mp, by rw [hsl]; exact h.sl, Nat.le_trans hrg h.rg, by rw [hsl]; exact h.tree, by rw [hmr]; exact h.marks, List.Nodup.sublist (hth.map _) h.thr, fun e he => h.ent e (hrt.subset he), h.rtk.sub hrt⟩
theorem kSaid_th (s : KS) (d : Deed) : (kSaid s d).th = s.th := by unfold kSaid kPost; split <;> rfl
theorem tell_th {D : KS → ID → Int → Int → KS} (hD : ∀ s i r v, (D s i r v).th = s.th) (s : KS) (d : Deed) : (kTell D s d).th = s.th := by
  unfold kTell
  split
  · exact kSaid_th s d
  · split
    · exact (hD _ _ _ _).trans (kSaid_th s d)
    · exact kSaid_th s d
theorem dec_th : ∀ n (s : KS) (i : ID) (r v : Int), (kDec n s i r v).th = s.th
  | 0, s, _, _, _ => rfl
  | n + 1, s, i, r, v => by
    cases hq : look s.rt i with
    | none => rw [kDec_none hq]
    | some q =>
      rw [kDec_some hq]
      have h := tell_th (D := kDec n) (fun s i r v => dec_th n s i r v) (kForget { s with rt := del s.rt i } i) (i, q.e.tag, q.e.op, r, v, false)
      unfold kNext
      split
      · exact h
      · split
        · exact (dec_th n _ _ _ _).trans h
        · exact h
theorem ends_th : ∀ (l : List ID) (s : KS), (kEnds s l).th = s.th
  | [], s => rfl
  | i :: l, s => (ends_th l _).trans (dec_th _ _ _ _ _)
theorem kTearL_th : ∀ (l : List Rq) (s : KS), (kTearL s l).th = s.th
  | [], _ => rfl
  | q :: l, s => kTearL_th l (kTear1 s q)
theorem kTear_th (s : KS) (g : Int) : (kTear s g).th = s.th := by
  unfold kTear
  split
  · exact kTearL_th (ofQ s.rt g) s
  · rfl
theorem torn_th (u : Int) : ∀ (l : List Int) (s : KS), (kTorn s u l).th = s.th
  | [], s => rfl
  | g :: l, s => by
    refine (torn_th u l (tornStep u s g)).trans ?_
    unfold tornStep
    split
    · rfl
    · split
      · exact kTear_th s g
      · rfl
theorem gone_th (s : KS) (k u : Int) : (kGone s k u).th.Sublist s.th := by
  unfold kGone
  (repeat' split) <;> first | exact List.Sublist.refl _ | exact List.filter_sublist (l := s.th)
theorem destroy_th (s : KS) (o : Obj2) : (kDestroy s o).th.Sublist s.th := by
  unfold kDestroy
  refine (gone_th _ _ _).trans ?_
  split
  · rw [torn_th, ends_th]; exact List.Sublist.refl _
  · split
    · rw [kTear_th, ends_th]; exact List.Sublist.refl _
    · rw [ends_th]; exact List.Sublist.refl _
theorem destroyL_th : ∀ (l : List Obj2) (s : KS), (kDestroyL s l).th.Sublist s.th
  | [], _ => List.Sublist.refl _
  | o :: l, s => (destroyL_th l _).trans (destroy_th s o)
theorem WellQ.dec {s : KS} {N M : Nat} (h : WellQ Q s N M) (n : Nat) (i : ID) (r v : Int) : WellQ Q (kDec n s i r v) N M := by
  have hk := Kept.dec n s i r v
  exact h.ended (Fits.dec n h.fit).1 (by rw [hk.q]; exact Nat.le_refl _) (by rw [hk.mp]; exact Nat.le_refl _) hk.sl hk.mr (by rw [dec_th]; exact List.Sublist.refl _) (by rw [dec_rglen]; exact Nat.le_refl _) (dec_rt n s i r v)
theorem WellQ.destroyL {s : KS} {N M : Nat} (h : WellQ Q s N M) (l : List Obj2) : WellQ Q (kDestroyL s l) N M := by
  have hl := destroyL_len l s
  exact h.ended (h.fit.destroyL h.rtk) hl.1 hl.2.1 hl.2.2.1 hl.2.2.2 (destroyL_th l s) (destroyL_rglen l s) (destroyL_rt l s)
theorem WellQ.rpU (h : WellQ Q s N M) (u : Int) (f : ID × Bool → ID × Bool) : WellQ Q { s with rp := updO s.rp u f } N M :=
  ⟨h.fit.rpF u f, h.q, h.mp, h.sl, h.rg, h.tree, h.marks, h.thr, h.ent, h.rtk⟩
theorem WellQ.epU (h : WellQ Q s N M) (hN : N + 1 ≤ 90000) (u : Int) {f : List Msg × List Rcv → List Msg × List Rcv} (hf : ∀ a, (f a).1.length ≤ a.1.length + 1 ∧ (f a).2.length ≤ a.2.length + 1) : WellQ Q { s with ep := updO s.ep u f } (N + 1) M :=
  ⟨h.fit.epF hN u hf, Nat.le_succ_of_le h.q, Nat.le_succ_of_le h.mp, Nat.le_succ_of_le h.sl, h.rg, h.tree, h.marks, h.thr, h.ent, h.rtk⟩
theorem WellQ.ntU (h : WellQ Q s N M) (hN : N + 1 ≤ 90000) (u : Int) {f : Int × List ID → Int × List ID} (hf : ∀ a, (f a).2.length ≤ a.2.length + 1) : WellQ Q { s with nt := updO s.nt u f } (N + 1) M :=
  ⟨h.fit.ntF hN u hf, Nat.le_succ_of_le h.q, Nat.le_succ_of_le h.mp, Nat.le_succ_of_le h.sl, h.rg, h.tree, h.marks, h.thr, h.ent, h.rtk⟩
theorem WellQ.slU (h : WellQ Q s N M) (hN : N + 1 ≤ 90000) (ht : TreeOk ps) (hl : ps.length ≤ s.sl.length + 1) : WellQ Q { s with sl := ps } (N + 1) M := by
  have h2 := h.more hN
  have := h.sl
  exact ⟨⟨h2.fit.n, h2.fit.mm, h2.fit.ids, h2.fit.jn, h2.fit.tm, h2.fit.ep, h2.fit.nt, h2.fit.rp, h2.fit.rg, h2.fit.mem⟩, h2.q, h2.mp, (show ps.length ≤ N + 1 by omega), h2.rg, ht, h2.marks, h2.thr, h2.ent, h2.rtk⟩
theorem WellQ.mrU (h : WellQ Q s N M) {mr : List (Place × Int)} (hm : MarksOk mr) : WellQ Q { s with mr := mr } N M :=
  ⟨⟨h.fit.n, h.fit.mm, h.fit.ids, h.fit.jn, h.fit.tm, h.fit.ep, h.fit.nt, h.fit.rp, h.fit.rg, h.fit.mem⟩, h.q, h.mp, h.sl, h.rg, h.tree, hm, h.thr, h.ent, h.rtk⟩
theorem WellQ.mpU (h : WellQ Q s N M) (hN : N + 1 ≤ 90000) {ps : List (Place × M1)} (hl : ps.length ≤ s.mp.length + 1) : WellQ Q { s with mp := ps } (N + 1) M := by
  have h2 := h.more hN
  have := h.mp
  exact ⟨⟨h2.fit.n, h2.fit.mm, h2.fit.ids, h2.fit.jn, h2.fit.tm, h2.fit.ep, h2.fit.nt, h2.fit.rp, h2.fit.rg, h2.fit.mem⟩, h2.q, (show ps.length ≤ N + 1 by omega), h2.sl, h2.rg, h2.tree, h2.marks, h2.thr, h2.ent, h2.rtk⟩
theorem WellQ.qU (h : WellQ Q s N M) (hN : N + 1 ≤ 90000) {q : List (Int × Int)} {pr : List (Int × Int)} (hl : q.length ≤ s.q.length + 1) : WellQ Q { s with q := q, pr := pr } (N + 1) M := by
  have h2 := h.more hN
  have := h.q
  exact ⟨⟨h2.fit.n, h2.fit.mm, h2.fit.ids, h2.fit.jn, h2.fit.tm, h2.fit.ep, h2.fit.nt, h2.fit.rp, h2.fit.rg, h2.fit.mem⟩, (show q.length ≤ N + 1 by omega), h2.mp, h2.sl, h2.rg, h2.tree, h2.marks, h2.thr, h2.ent, h2.rtk⟩
theorem ins_le {κ υ : Type} [DecidableEq κ] (ps : List (κ × υ)) (a : κ) (u : υ) : (ins ps a u).length ≤ ps.length + 1 := by
  unfold Go.Pse.ins; split <;> simp
theorem slPut_le (ps : List (Place × SV)) (p : Place) (c : Cap) (q : Place) : (slPut ps p c q).length ≤ ps.length + 1 := by
  unfold slPut; split
  · exact ins_le _ _ _
  · omega
theorem copyS_tree (h : TreeOk ps) (p q : Place) (r : Int) : TreeOk (copyS ps p q r).1 ∧ (copyS ps p q r).1.length ≤ ps.length + 1 := by
  unfold copyS
  (repeat' split) <;> first | exact ⟨h, Nat.le_succ _⟩ | exact ⟨h.put _ _ _, slPut_le _ _ _ _⟩
theorem mintS_tree (h : TreeOk ps) (p q : Place) (r : Int) : TreeOk (mintS ps p q r).1 ∧ (mintS ps p q r).1.length ≤ ps.length + 1 := by
  unfold mintS
  (repeat' split) <;> first | exact ⟨h, Nat.le_succ _⟩ | exact ⟨h.put _ _ _, slPut_le _ _ _ _⟩
theorem moveS_le (ps : List (Place × SV)) (a b : Place) : (moveS ps a b).length ≤ ps.length + 1 := by
  unfold moveS; split
  · refine Nat.le_trans (ins_le _ _ _) ?_
    have := del_le (ps := turnS ps a b) (i := a)
    rw [turnS_len] at this
    omega
  · omega
theorem dmoveS_tree (h : TreeOk ps) (p q : Place) : TreeOk (dmoveS ps p q).1 ∧ (dmoveS ps p q).1.length ≤ ps.length + 1 := by
  unfold dmoveS
  dsimp only
  split
  · exact ⟨h.move _ _, moveS_le _ _ _⟩
  · exact ⟨h, Nat.le_succ _⟩
theorem deleteS_tree (h : TreeOk ps) (p : Place) : TreeOk (deleteS ps p).1.1 ∧ (deleteS ps p).1.1.length ≤ ps.length + 1 := by
  unfold deleteS
  split
  · exact ⟨h, Nat.le_succ _⟩
  · exact ⟨h.dropT _ _, by have := kDropT_len ps.length ps p; show (kDropT ps.length ps p).1.length ≤ _; omega⟩
theorem revokeS_tree (h : TreeOk ps) (p : Place) : TreeOk (revokeS ps p).1.1 ∧ (revokeS ps p).1.1.length ≤ ps.length + 1 := by
  unfold revokeS
  split
  · exact ⟨h, Nat.le_succ _⟩
  · dsimp only
    cases hr : revL p (ps.length + 1) ps [] with
    | none => exact ⟨h, Nat.le_succ _⟩
    | some r =>
      have := h.revT hr
      exact ⟨this.1, Nat.le_succ_of_le this.2⟩
theorem makeS_tree {mr : List (Place × Int)} (h : TreeOk ps) (hm : MarksOk mr) (p q : Place) (k z : Int) : TreeOk (makeS ps mr p q k z).1.1 ∧ (makeS ps mr p q k z).1.1.length ≤ ps.length + 1 ∧ MarksOk (makeS ps mr p q k z).1.2 := by
  unfold makeS
  split
  · exact ⟨h, Nat.le_succ _, hm⟩
  · rename_i u hu
    have hcu := checkC_is (h.caps p u hu)
    split
    · exact ⟨h, Nat.le_succ _, hm⟩
    · rename_i h1
      split
      · exact ⟨h, Nat.le_succ _, hm⟩
      · split
        · exact ⟨h, Nat.le_succ _, hm⟩
        · split
          · exact ⟨h, Nat.le_succ _, hm⟩
          · split
            · rename_i hto
              refine ⟨h.put _ _ _, slPut_le _ _ _ _, ?_⟩
              show MarksOk (mtkM _ _ _)
              unfold mtkM
              rw [if_pos hto]
              have hr : rangeC u.1 = (u.1.obj, u.1.size) := if_neg h1
              have hus := usedM_is (hm.reset ps u.1) (rangeC u.1)
              unfold mtkOk at hto
              simp only [Bool.and_eq_true, decide_eq_true_eq] at hto
              rw [hr] at hto hus ⊢
              intro e he
              unfold Go.Pse.ins at he
              split at he
              · obtain ⟨x, hx, rfl⟩ := List.mem_map.1 he
                split
                · dsimp only at hto ⊢; omega
                · exact hm.reset ps u.1 x hx
              · rcases List.mem_append.1 he with he | he
                · exact hm.reset ps u.1 e he
                · rw [List.mem_singleton.1 he]; dsimp only at hto ⊢; omega
            · exact ⟨h, Nat.le_succ _, hm.reset _ _⟩
theorem WellQ.two (h : WellQ Q s N M) (hN : N + 1 ≤ 90000) {F : Place → Place → KS × Int} (hF : ∀ x y, WellQ Q (F x y).1 (N + 1) M) (o : Option (Place × Place)) : WellQ Q (twoS s F o).1 (N + 1) M := by
  cases o with
  | none => exact h.more hN
  | some x => exact hF _ _
theorem WellQ.kill (h : WellQ Q s N M) (hN : N + 1 ≤ 90000) {F : Place → (List (Place × SV) × List Obj2) × Int} (hF : ∀ x, TreeOk (F x).1.1 ∧ (F x).1.1.length ≤ s.sl.length + 1) (o : Option Place) : WellQ Q (killS s F o).1 (N + 1) M := by
  cases o with
  | none => exact h.more hN
  | some x => exact (h.slU hN (hF x).1 (hF x).2).destroyL _
theorem WellQ.slots (h : WellQ Q s N M) (hN : N + 1 ≤ 90000) (T : Th) (e : Sqe) : WellQ Q (kSlots s T e).1 (N + 1) M := by
  unfold kSlots
  split
  · exact h.two hN (fun x y => h.slU hN (copyS_tree h.tree x y e.b).1 (copyS_tree h.tree x y e.b).2) _
  · split
    · exact h.two hN (fun x y => h.slU hN (mintS_tree h.tree x y e.b).1 (mintS_tree h.tree x y e.b).2) _
    · split
      · exact h.two hN (fun x y => h.slU hN (dmoveS_tree h.tree x y).1 (dmoveS_tree h.tree x y).2) _
      · split
        · exact h.kill hN (fun x => deleteS_tree h.tree x) _
        · exact h.kill hN (fun x => revokeS_tree h.tree x) _
theorem zrow_len : zrow.length = 512 ∧ Bytes zrow := ⟨List.length_replicate, fun x hx => by
  have := (List.mem_replicate.1 hx).2
  omega⟩
theorem ins_memO {α : Type} {xs : List (Int × α)} {u : Int} {a : α} {x : Int × α} (h : x ∈ ins xs u a) : x ∈ xs ∨ x = (u, a) := by
  unfold Go.Pse.ins at h
  split at h
  · obtain ⟨y, hy, rfl⟩ := List.mem_map.1 h
    split
    · exact .inr Z
    · exact .inl hy
  · rcases List.mem_append.1 h with h | h
    · exact .inl h
    · exact .inr (List.mem_singleton.1 h)
theorem WellQ.made (h : WellQ Q s N M) {c : Cap} (hc : 1 ≤ c.obj ∧ c.obj ≤ 64) (b : Nat) : WellQ Q (kMade s c b) N M := by
  have hf := h.fit
  unfold kMade
  split
  · exact ⟨⟨hf.n, hf.mm, hf.ids, hf.jn, hf.tm, fun x hx => by
      rcases ins_memO hx with hx | rfl
      · exact hf.ep x hx
      · exact ⟨hc, Nat.zero_le _, Nat.zero_le _⟩, hf.nt, hf.rp, hf.rg, hf.mem⟩, h.q, h.mp, h.sl, h.rg, h.tree, h.marks, h.thr, h.ent, h.rtk⟩
  · split
    · exact ⟨⟨hf.n, hf.mm, hf.ids, hf.jn, hf.tm, hf.ep, fun x hx => by
        rcases ins_memO hx with hx | rfl
        · exact hf.nt x hx
        · exact ⟨hc, Nat.zero_le _⟩, hf.rp, hf.rg, hf.mem⟩, h.q, h.mp, h.sl, h.rg, h.tree, h.marks, h.thr, h.ent, h.rtk⟩
    · split
      · exact ⟨⟨hf.n, hf.mm, hf.ids, hf.jn, hf.tm, hf.ep, hf.nt, fun x hx => by
          rcases ins_memO hx with hx | rfl
          · exact hf.rp x hx
          · exact hc, hf.rg, hf.mem⟩, h.q, h.mp, h.sl, h.rg, h.tree, h.marks, h.thr, h.ent, h.rtk⟩
      · split
        · exact ⟨⟨hf.n, hf.mm, hf.ids, hf.jn, hf.tm, hf.ep, hf.nt, hf.rp, hf.rg, hf.mem.put zrow_len⟩, h.q, h.mp, h.sl, h.rg, h.tree, h.marks, h.thr, h.ent, h.rtk⟩
        · exact h
theorem WellQ.ret (h : WellQ Q s N M) (hN : N + 1 ≤ 90000) (T : Th) (e : Sqe) (b : Nat) : WellQ Q (kRetS s T e b) (N + 1) M := by
  have h2 : WellQ Q (twoS s (retF s e) (twoAt s T e)).1 (N + 1) M := h.two hN (fun x y => by
    have := makeS_tree h.tree h.marks x y e.b e.c
    exact (h.slU hN this.1 this.2.1).mrU this.2.2) _
  unfold kRetS
  split
  · rename_i hc
    refine h2.made ?_ b
    unfold kRetC at hc
    unfold kRetK
    cases hq : twoAt s T e with
    | none => rw [hq] at hc; simp [twoS] at hc
    | some x => rw [hq] at hc; exact makeS_obj h.tree.capsOk h.marks hc
  · exact h2
theorem spSet_le (ps : List (Place × M1)) (p : Place) (f : M1) : (spSet ps p f).length ≤ ps.length + 1 := by
  unfold spSet; split
  · exact ins_le _ _ _
  · omega
theorem WellQ.maps (h : WellQ Q s N M) (hN : N + 1 ≤ 90000) (T : Th) (e : Sqe) : WellQ Q (kMaps s T e).1 (N + 1) M := by
  unfold kMaps
  (repeat' split) <;> first | exact h.more hN | exact h.mpU hN (spSet_le _ _ _)
theorem WellQ.unmap (h : WellQ Q s N M) (hN : N + 1 ≤ 90000) (T : Th) (e : Sqe) : WellQ Q (kUnmap s T e).1 (N + 1) M := by
  have hd : (del s.mp (T.space, e.a)).length ≤ s.mp.length + 1 := Nat.le_succ_of_le del_le
  unfold kUnmap
  (repeat' split) <;> first | exact h.more hN | exact h.mpU hN hd
theorem qSet_le (q : List (Int × Int)) (i p : Int) : (qSet q i p).length ≤ q.length + 1 := by
  unfold qSet
  split
  · split
    · omega
    · exact Nat.le_trans (qAdd_len _ _ _) (Nat.succ_le_succ (qRem_len _ _))
  · omega
theorem WellQ.thrS (h : WellQ Q s N M) (hN : N + 1 ≤ 90000) (T : Th) (e : Sqe) : WellQ Q (kThreads s T e).1 (N + 1) M := by
  unfold kThreads
  split
  · exact h.more hN
  · split
    · exact h.more hN
    · show WellQ Q (kThr s e _).1 (N + 1) M
      unfold kThr
      split
      · exact h.qU hN (pr := s.pr) (qSet_le _ _ _)
      · split
        · show WellQ Q (kStop s _) (N + 1) M
          unfold kStop
          split
          · exact h.qU hN (Nat.le_succ_of_le (qRem_len _ _))
          · exact h.more hN
        · show WellQ Q (kGo s _) (N + 1) M
          unfold kGo
          split
          · exact h.qU hN (pr := s.pr) (qAdd_len _ _ _)
          · exact h.more hN
theorem WellQ.bind (h : WellQ Q s N M) (u : Int) (j : ID) : WellQ Q (kBind s u j) N M := by
  unfold kBind
  split
  · exact h
  · split
    · exact (h.rpU _ _).dec _ _ _ _
    · exact h.rpU _ _
theorem WellQ.send1 (h : WellQ Q s N M) (hN : N + 1 ≤ 90000) (c : Cap) (e : Sqe) (i : ID) (call : Bool) : WellQ Q (kSend1 s c e i call).1 (N + 1) M := by
  unfold kSend1
  split
  · exact h.more hN
  · rename_i y _
    obtain ⟨yb, yo, yi⟩ := y
    have h1 := h.epU hN c.obj (f := sendE (i, e.a, c.badge, call)) fun a => by have := sendE_len (i, e.a, c.badge, call) a; omega
    cases yi with
    | nil => exact h1
    | cons z zs =>
      show WellQ Q (kSend3 _ _ _ _).1 (N + 1) M
      unfold kSend3
      split
      · exact h1.dec _ _ _ _
      · split
        · exact h1.dec _ _ _ _
        · exact (h1.dec _ _ _ _).bind _ _
theorem WellQ.sends (h : WellQ Q s N M) (hN : N + 1 ≤ 90000) (T : Th) (e : Sqe) (i : ID) (call : Bool) : WellQ Q (kSends s T e i call).1 (N + 1) M := by
  unfold kSends
  generalize (if call = true then (6 : Int) else 2) = r
  split
  · exact h.more hN
  · exact h.send1 hN _ _ _ _
theorem WellQ.met (h : WellQ Q s N M) (u : Int) (x : Msg) : WellQ Q (kMet s u x) N M := by
  unfold kMet
  split
  · split
    · exact h.dec _ _ _ _
    · exact h.bind _ _
  · exact h.dec _ _ _ _
theorem WellQ.recv1 (h : WellQ Q s N M) (hN : N + 1 ≤ 90000) (c : Cap) (u : Int) (i : ID) : WellQ Q (kRecv1 s c u i).1 (N + 1) M := by
  unfold kRecv1
  split
  · exact h.more hN
  · rename_i y _
    obtain ⟨yb, yo, yi⟩ := y
    have h1 := h.epU hN c.obj (f := recvE (i, u)) fun a => by have := recvE_len (i, u) a; omega
    cases yo with
    | nil => exact h1
    | cons z zs => exact h1.met _ _
theorem WellQ.recvs (h : WellQ Q s N M) (hN : N + 1 ≤ 90000) (T : Th) (e : Sqe) (i : ID) : WellQ Q (kRecvs s T e i).1 (N + 1) M := by
  unfold kRecvs
  (repeat' split) <;> first | exact h.more hN | exact h.recv1 hN _ _ _
theorem WellQ.answers (h : WellQ Q s N M) (hN : N + 1 ≤ 90000) (T : Th) (e : Sqe) : WellQ Q (kAnswers s T e).1 (N + 1) M := by
  unfold kAnswers
  (repeat' split) <;> first | exact h.more hN | exact (h.rpU _ _).more hN | exact ((h.rpU _ _).dec _ _ _ _).more hN
theorem WellQ.sig (h : WellQ Q s N M) (hN : N + 1 ≤ 90000) (u x : Int) : WellQ Q { s with nt := updO s.nt u (ntS x) } (N + 1) M :=
  h.ntU hN u fun a => by have := sigL_len a.1 a.2 x; show (sigL a.1 a.2 x).length ≤ _; omega
theorem WellQ.signals (h : WellQ Q s N M) (hN : N + 1 ≤ 90000) (T : Th) (e : Sqe) : WellQ Q (kSignals s T e).1 (N + 1) M := by
  unfold kSignals
  split
  · exact h.more hN
  · split
    · exact h.more hN
    · dsimp only
      split
      · exact (h.sig hN _ _).dec _ _ _ _
      · exact h.sig hN _ _
theorem WellQ.nwaits (h : WellQ Q s N M) (hN : N + 1 ≤ 90000) (T : Th) (e : Sqe) (i : ID) : WellQ Q (kNWaits s T e i).1 (N + 1) M := by
  unfold kNWaits
  split
  · exact h.more hN
  · split
    · exact h.more hN
    · exact h.ntU hN _ fun a => waitL_len a.1 a.2 i
theorem WellQ.cancels (h : WellQ Q s N M) (hN : N + 1 ≤ 90000) (e : Sqe) (i : ID) : WellQ Q (kCancels s e i).1 (N + 1) M := by
  unfold kCancels
  split
  · exact h.more hN
  · exact (h.dec _ _ _ _).more hN
theorem wif {c : Prop} [Decidable c] {x y : KS × Out} (h1 : WellQ Q x.1 N M) (h2 : WellQ Q y.1 N M) : WellQ Q (if c then x else y).1 N M := by
  by_cases h : c
  · rw [if_pos h]; exact h1
  · rw [if_neg h]; exact h2
theorem WellQ.does (h : WellQ Q s N M) (hN : N + 1 ≤ 90000) (T : Th) (q : Rq) (i : ID) (b : Nat) : WellQ Q (kDoes s T q i b).1 (N + 1) M :=
  wif (h.more hN) <| wif (h.slots hN _ _) <| wif (h.ret hN _ _ _) <| wif (h.maps hN _ _) <| wif (h.unmap hN _ _) <| wif (h.sends hN _ _ _ _) <| wif (h.recvs hN _ _ _) <| wif (h.answers hN _ _) <| wif (h.signals hN _ _) <| wif (h.nwaits hN _ _ _) <| wif (h.thrS hN _ _) <| wif (h.more hN) <| wif (h.cancels hN _ _) <| h.more hN
theorem WellQ.act (h : WellQ Q s N M) (hN : N + 1 ≤ 90000) (i : ID) (b : Nat) : WellQ Q (kAct s i b).1 (N + 1) M := by
  unfold kAct
  split
  · exact h.more hN
  · split
    · exact h.more hN
    · exact h.does hN _ _ _ _
theorem addQ_look {ps : List (ID × Rq)} {q : Rq} (h : addOk ps q = true) : look (addQ ps q) q.id = some q := by
  unfold addQ
  rw [if_pos h, look_ins, if_pos rfl]
theorem addQ_ids {ps : List (ID × Rq)} {q : Rq} (h : Ids ps) : Ids (addQ ps q) := fun e he => by
  unfold addQ at he
  split at he
  · rename_i h1
    have hn : look ps q.id = none := by
      unfold addOk at h1
      simp at h1
      cases hq : look ps q.id with
      | none => rfl
      | some y => rw [hq] at h1; simp at h1
    unfold Go.Pse.ins at he
    rw [hn] at he
    simp at he
    rcases he with h2 | rfl
    · exact h e h2
    · rfl
  · exact h e he
variable {E : World} {l : List As}
theorem alone1 :
    Con Tryz.prog 24 #[.int .i64 1] E l (fun g : NewG => .pointer (some ⟨g.p, 0, none⟩)) (fun g => coA g.p (kNew 1 6 3 4 false g) :: l) := by
  refine Con.body (n := 37) Tryz.func24 Z Z _ (env_ok 1 Z) <| sr <| ag Z Z <| nx <| mv Z Z <| mv Z Z <| L_pur Z (p_gtr Z Z) <| J_bool (t := 6) (c := false) Z (by decide) <| L_pur Z (bld86 (.cons Z (.cons Z (.cons Z (.cons Z (.cons Z .nil))))) (by repeat constructor)) <| J_slot (t := 7) (v := .agg (encG 1 6 3 4 false).toArray) Z Z <| xo fc45 (A1 Z) Z (coNew (ct := 1) (cu := 6) (cs := 3) (cc := 4) (sh := false)) fun g => ag Z Z <| nxx <| mv Z Z <| L_pur Z (p_eqNilPtr Tryz.underlying24 Z) <| mv Z Z <| J_bool (t := 11) (c := false) Z (rfl) <| gp Z Z Z (p_move Z) Z <| L_op <| G_on Z Z Z <| xc fc16 (A1 Z) Z (coReqs) fun _ => gp Z Z Z (p_eqNilPtr Tryz.underlying28 Z) Z <| L_pur Z (p_pick_f Z Z) <| mv Z Z <| J_bool (t := 16) (c := false) Z (rfl) <| L_op <| G_on Z Z Z ?_
  refine J_pur (p_move Z) Z Z Z <| L_op <| G_on Z Z Z <| xc fc17 (A1 Z) Z (coJournal) fun _ => gp Z Z Z (p_eqNilPtr Tryz.underlying30 Z) Z <| L_pur Z (p_pick_f Z Z) <| mv Z Z <| J_bool (t := 21) (c := false) Z (rfl) <| gp Z Z Z (p_move Z) Z <| L_op <| G_on Z Z Z <| xc fc28 (A1 Z) Z (coSlots) fun _ => gp Z Z Z (p_eqNilPtr Tryz.underlying58 Z) Z <| L_pur Z (p_pick_f Z Z) <| mv Z Z <| J_bool (t := 26) (c := false) Z (rfl) <| L_op <| G_on Z Z Z <| J_pur (p_move Z) Z Z Z <| L_op <| G_on Z Z Z <| xc fc30 (A1 Z) Z (coMaps) fun _ => gp Z Z Z (p_eqNilPtr Tryz.underlying62 Z) Z <| L_pur Z (p_pick_f Z Z) <| mv Z Z <| J_bool (t := 31) (c := false) Z (rfl) <| gp Z Z Z (p_move Z) Z <| L_op <| G_on Z Z Z <| xc fc34 (A1 Z) Z (coQueue) fun _ => gp Z Z Z (p_eqNilPtr Tryz.underlying67 Z) Z <| L_pur Z (p_pick_f Z Z) <| nq <| J_bool (t := 35) (c := false) Z (rfl) <| C_false Z <| J_skip ?_
  refine qx <| mv Z Z <| ag Z Z <| nq <| J_ret <| J_return (g) Tryz.results24 (.tmp Z .nil) ?_ ?_
  · rfl
  · exact SU
variable {i : ID} {e : Sqe}
theorem first_add : addOk [] (rqN i e) = true ∧ addQ [] (rqN i e) = [(i, rqN i e)] := by
  have h : addOk [] (rqN i e) = true := by
    unfold addOk; rw [ofQ_nil]; rfl
  exact ⟨h, by unfold addQ; rw [if_pos h]; rfl⟩
theorem ins_memK {κ υ : Type} [DecidableEq κ] {xs : List (κ × υ)} {u : κ} {a : υ} {x : κ × υ} (h : x ∈ ins xs u a) : x ∈ xs ∨ x = (u, a) := by
  unfold Go.Pse.ins at h
  split at h
  · obtain ⟨y, hy, rfl⟩ := List.mem_map.1 h
    split
    · exact .inr Z
    · exact .inl hy
  · rcases List.mem_append.1 h with h | h
    · exact .inl h
    · exact .inr (List.mem_singleton.1 h)
variable {Q : Sqe → Prop}
theorem rtS_len {ps : List (ID × Rq)} : (rtS ps i).length = ps.length := by
  unfold rtS
  split
  · rfl
  · rename_i q hq
    unfold Go.Pse.ins
    rw [if_pos (by rw [hq]; rfl), List.length_map]
theorem rtS_mem {ps : List (ID × Rq)} {e : ID × Rq} (h : e ∈ rtS ps i) : ∃ x ∈ ps, e.1 = x.1 ∧ e.2.id = x.2.id ∧ e.2.e = x.2.e := by
  unfold rtS at h
  split at h
  · exact ⟨e, h, rfl, rfl, rfl⟩
  · rename_i q hq
    unfold Go.Pse.ins at h
    rw [if_pos (by rw [hq]; rfl)] at h
    obtain ⟨x, hx, rfl⟩ := List.mem_map.1 h
    split
    · rename_i hi
      exact ⟨(i, q), mem_look hq, rfl, rfl, rfl⟩
    · exact ⟨x, hx, rfl, rfl, rfl⟩
theorem WellQ.start (h : WellQ Q s N M) (i : ID) : WellQ Q { s with rt := rtS s.rt i } N M := by
  have hf := h.fit
  refine ⟨⟨hf.n, hf.mm, fun e he => ?_, by show s.jn.length + (rtS s.rt i).length ≤ M; rw [rtS_len]; exact hf.jn, hf.tm, hf.ep, hf.nt, hf.rp, fun x hx => ⟨(hf.rg x hx).1, by show _ + (rtS s.rt i).length ≤ M; rw [rtS_len]; exact (hf.rg x hx).2⟩, hf.mem⟩, h.q, h.mp, h.sl, h.rg, h.tree, h.marks, h.thr, fun e he => ?_, ?_⟩
  · obtain ⟨x, hx, h1, h2, _⟩ := rtS_mem he
    rw [h2, h1]; exact hf.ids x hx
  · obtain ⟨x, hx, _, _, h3⟩ := rtS_mem he
    rw [h3]; exact h.ent x hx
  · show Keyd (rtS s.rt i)
    unfold rtS
    split
    · exact h.rtk
    · exact h.rtk.ins _ _
theorem WellQ.take (h : WellQ Q s N M) (r n : Int) : WellQ Q (kTake s r n) N M := by
  have hf := h.fit
  unfold kTake
  split
  · exact ⟨⟨hf.n, hf.mm, hf.ids, hf.jn, hf.tm, hf.ep, hf.nt, hf.rp, hf.rg, hf.mem⟩, h.q, h.mp, h.sl, h.rg, h.tree, h.marks, h.thr, h.ent, h.rtk⟩
  · exact h
theorem WellQ.addq (h : WellQ Q s N M) (hM : M + 1 ≤ 90000) {q : Rq} (hq : SqeOk q.e ∧ Q q.e) : WellQ Q { s with rt := addQ s.rt q } N (M + 1) := by
  have hf := h.fit
  have hl : (addQ s.rt q).length ≤ s.rt.length + 1 := by
    unfold addQ; split
    · exact ins_le _ _ _
    · omega
  have hj := hf.jn
  refine ⟨⟨hf.n, hM, addQ_ids hf.ids, by show s.jn.length + (addQ s.rt q).length ≤ M + 1; omega, hf.tm, hf.ep, hf.nt, hf.rp, fun x hx => ⟨(hf.rg x hx).1, by have := (hf.rg x hx).2; show _ + (addQ s.rt q).length ≤ M + 1; omega⟩, hf.mem⟩, h.q, h.mp, h.sl, h.rg, h.tree, h.marks, h.thr, fun e he => ?_, ?_⟩
  · have he2 : e ∈ addQ s.rt q := he
    unfold addQ at he2
    split at he2
    · rcases ins_memK he2 with h1 | rfl
      · exact h.ent e h1
      · exact hq
    · exact h.ent e he2
  · show Keyd (addQ s.rt q)
    unfold addQ; split
    · exact h.rtk.ins _ _
    · exact h.rtk
theorem Well.add (h : Well s N M) (hM : M + 1 ≤ 90000) {q : Rq} (hq : SqeOk q.e) : Well { s with rt := addQ s.rt q } N (M + 1) := WellQ.addq h hM ⟨hq, trivial⟩
variable {b : Nat}
theorem kStart_is {q : Rq} (hq : look s.rt i = some q) (hs : q.started = false) : kStart s i b = match (kAct { s with rt := rtS s.rt i } i b).2 with
    | none => ((kAct { s with rt := rtS s.rt i } i b).1, true)
    | some x => (kDec (kAct { s with rt := rtS s.rt i } i b).1.rt.length (kAct { s with rt := rtS s.rt i } i b).1 i x.1 x.2, true) := by
  unfold kStart
  rw [hq]
  dsimp only
  rw [if_neg (by rw [hs]; decide)]
  cases h : kAct { s with rt := rtS s.rt i } i b with
  | mk t o => cases o <;> rfl
theorem WellQ.started (h : WellQ Q s N M) (hN : N + 1 ≤ 90000) (i : ID) (b : Nat) : WellQ Q (kStart s i b).1 (N + 1) M := by
  unfold kStart
  split
  · exact h.more hN
  · split
    · exact h.more hN
    · have h1 := (h.start i).act hN i b
      cases hk : kAct { s with rt := rtS s.rt i } i b with
      | mk t o =>
        rw [hk] at h1
        cases o with
        | none => exact h1
        | some x => exact h1.dec _ _ _ _
def askId (s : KS) (g : Int) : ID := (g, kTakeV s g 1)
def askT1 (s : KS) (g : Int) (e : Sqe) : KS := { kTake s g 1 with rt := addQ (kTake s g 1).rt (rqN (askId s g) e) }
def askT2 (s : KS) (g : Int) (e : Sqe) : KS := { askT1 s g e with rt := rtS (askT1 s g e).rt (askId s g) }
def kAskS (s : KS) (g : Int) (e : Sqe) (b : Nat) : KS := if addOk (kTake s g 1).rt (rqN (askId s g) e) = true then (kStart (askT1 s g e) (askId s g) b).1 else kTake s g 1
def kAskR (s : KS) (g : Int) (e : Sqe) (b : Nat) : Int × Int × Bool := if addOk (kTake s g 1).rt (rqN (askId s g) e) = true then askR (kStart (askT1 s g e) (askId s g) b).1.jn (askId s g) else (-999, 0, false)
theorem WellQ.askq (h : WellQ Q s N M) (hN : N + 1 ≤ 90000) (hM : M + 1 ≤ 90000) (g : Int) (he : SqeOk e ∧ Q e) (b : Nat) : WellQ Q (kAskS s g e b) (N + 1) (M + 1) := by
  unfold kAskS
  split
  · exact ((h.take g 1).addq hM (q := rqN (askId s g) e) he).started hN _ _
  · have h2 := (h.take g 1).more hN
    have hf := h2.fit
    exact ⟨⟨hf.n, hM, hf.ids, Nat.le_succ_of_le hf.jn, hf.tm, hf.ep, hf.nt, hf.rp, fun x hx => ⟨(hf.rg x hx).1, Nat.le_succ_of_le (hf.rg x hx).2⟩, hf.mem⟩, h2.q, h2.mp, h2.sl, h2.rg, h2.tree, h2.marks, h2.thr, h2.ent, h2.rtk⟩
theorem Well.ask (h : Well s N M) (hN : N + 1 ≤ 90000) (hM : M + 1 ≤ 90000) (g : Int) (he : SqeOk e) (b : Nat) : Well (kAskS s g e b) (N + 1) (M + 1) := WellQ.askq h hN hM g ⟨he, trivial⟩ b
theorem coStartG {m : List As} {p : Nat} (hp : Pick (coA p s) l m) (hW : WellQ Q s N M) (hN : N + 2 ≤ 90000) (hM : M ≤ 45000) (hD : ∀ (q : Rq) (T : Th), look (rtS s.rt i) i = some q → DoesC { s with rt := rtS s.rt i } T q i) :
    Con Tryz.prog 20 #[.pointer (some ⟨p, 0, none⟩), .agg (encI i).toArray] E l (fun b : Nat => .bool (kStart s i b).2) (fun b => coA p (kStart s i b).1 :: m) := by
  refine Con.body (n := 40) Tryz.func20 Z Z _ (env_ok 2 Z) <| J_pick hp <| sr <| L_op <| x_box Z Z Z fun b3 => ag Z Z <| nq <| J_seq <| J_drawL none mixed <| ip 0 Z Z Z Z (p_move Z) <| iv 2 Z Z Z Z (fun _ => v_loadA Z ty36 HS CT) <| I_ready (rs := [1, 7]) SI (by kernel_rfl) (by simp) <| (I_cons Z ?_ (I_cons Z ?_ I_nil))
  refine xc fc16 (A1 Z) Z (coReqs) fun _ => I_ready (rs := [3, 7]) SI (by kernel_rfl) (by simp) <| (I_cons Z ?_ (I_cons Z ?_ I_nil))
  refine xc fc69 (A2 Z Z) Z (coRqGet (s := s) (i := i) PC) fun _ => ip 4 Z Z Z Z (p_move Z) <| ip 5 Z Z Z Z (p_extract Z Z) <| ip 6 Z Z Z Z (p_extract Z Z) <| i1 7 Z <| x_alloc ty122 Z fun b5 => i1 8 Z <| x_store Z Z ty122 Z SM SM RO PT <| ip 9 Z Z Z Z (p_assign Z) <| i0 <| Q_then <| J_seq <| sr <| mv Z Z <| L_pur Z (p_not Z) <| mv Z Z <| J_gsplit (t := 19) Z (fun h19 => ?_) (fun h19 => ?_)
  have hq : look s.rt i = none := by
    cases hq : look s.rt i with
    | none => rfl
    | some y => rw [hq] at h19; simp at h19
  have hks : ∀ b, kStart s i b = (s, false) := fun b => by unfold kStart; rw [hq]
  refine gz Z Z Z Z Z <| gz Z Z Z Z Z <| L_pur Z (p_pick_t Z Z) <| nq <| C_true Z <| sr <| ag Z Z <| nq <| J_ret <| Q_then_ret <| J_pick (A := coA p _) PC <| J_asTo (B := coA p (kStart s i 0).1) (by rw [hks]) <| J_return (0) Tryz.results20 (.tmp Z .nil) ?_ ?_
  · rw [hks]; rfl
  · exact SU
  obtain ⟨q, hq⟩ : ∃ x, look s.rt i = some x := by
    cases hq : look s.rt i with
    | none => rw [hq] at h19; simp at h19
    | some y => exact ⟨y, rfl⟩
  refine J_pick (A := blk b5 _ _) PC <| J_asTo (B := blk b5 122 (encQ q)) (by rw [hq]; rfl) <| gp Z Z Z (p_fieldAddr Z fa122_4) Z <| L_op <| G_on Z Z Z <| J_val (v_load Z ty4 HS (by exact rfl)) Z Z Z <| L_pur Z (p_pick_f Z Z) <| nq <| C_split Z (fun h22 => ?_) (fun h22 => ?_)
  have hks : ∀ b, kStart s i b = (s, false) := fun b => by unfold kStart; rw [hq]; exact if_pos h22
  refine sr <| ag Z Z <| nq <| J_ret <| Q_then_ret <| J_pick (A := coA p _) PC <| J_asTo (B := coA p (kStart s i 0).1) (by rw [hks]) <| J_return (0) Tryz.results20 (.tmp Z .nil) ?_ ?_
  · rw [hks]; rfl
  · exact SU
  have hst : q.started = false := by simpa using h22
  have hW1 := hW.start i
  refine J_skip <| Q_then <| J_seq <| J_drawL (some 3) mixed <| ip 0 Z Z Z Z (p_move Z) <| iv 2 Z Z Z Z (fun _ => v_loadA Z ty36 HS CT) <| i1 1 Z <| xc fc16 (A1 Z) Z (coReqs) fun _ => i1 3 Z <| xc fc70 (A2 Z Z) Z (coRqStart (s := s) (i := i) PC) fun _ => i0 <| Q_then <| J_seq <| sr <| mv Z Z <| L_val Z (v_loadA Z ty36 HS CT) <| xo fc71 (A2 Z Z) Z (coActG (s := { s with rt := rtS s.rt i }) (i := i) PC (hW1.good (by omega) hM) hD) fun x30 => ?_
  have hF2 : Fits (kAct { s with rt := rtS s.rt i } i x30).1 (N + 1) M := (hW1.act (by omega) i x30).fit
  have hki := kStart_is (b := x30) hq hst
  refine mv Z Z <| L_pur Z (p_extract Z Z) <| L_pur Z (p_extract Z Z) <| L_pur Z (p_extract Z Z) <| ag Z Z <| ag Z Z <| ag Z Z <| nx <| mv Z Z <| nq <| C_split Z (fun h34 => ?_) (fun h34 => ?_)
  obtain ⟨o, ho⟩ : ∃ o, (kAct { s with rt := rtS s.rt i } i x30).2 = some o := Option.isSome_iff_exists.1 h34
  rw [ho] at hki
  refine J_slot (t := 7) (v := .int .i64 o.1) Z (by rw [ho]; rfl) <| J_slot (t := 8) (v := .int .u32 o.2) Z (by rw [ho]; rfl) <| J_region <| mv Z Z <| L_val Z (v_loadA Z ty36 HS CT) <| mv Z Z <| mv Z Z <| xo fc72 (A4 Z Z Z Z) Z (coDecide (s := (kAct { s with rt := rtS s.rt i } i x30).1) (i := i) (r := o.1) (v := o.2) PC hF2) fun _ => nx <| ag Z Z <| nq <| J_ret <| J_pick (A := coA p _) PC <| J_asTo (B := coA p (kStart s i x30).1) (by rw [hki]) <| J_return (x30) Tryz.results20 (.tmp Z .nil) ?_ ?_
  · rw [hki]; rfl
  · exact SU
  have ho : (kAct { s with rt := rtS s.rt i } i x30).2 = none := by
    cases ho : (kAct { s with rt := rtS s.rt i } i x30).2 with
    | none => rfl
    | some y => rw [ho] at h34; cases h34
  rw [ho] at hki
  refine J_skip <| qx <| ag Z Z <| nq <| J_ret <| J_pick (A := coA p _) PC <| J_asTo (B := coA p (kStart s i x30).1) (by rw [hki]) <| J_return (x30) Tryz.results20 (.tmp Z .nil) ?_ ?_
  · rw [hki]; rfl
  · exact SU
  refine x_alloc ty122 Z fun b5 => i1 3 Z <| xc fc69 (A2 Z Z) Z (coRqGet (s := s) (i := i) PC) fun _ => ip 4 Z Z Z Z (p_move Z) <| ip 5 Z Z Z Z (p_extract Z Z) <| ip 6 Z Z Z Z (p_extract Z Z) <| i1 8 Z <| x_store Z Z ty122 Z SM SM RO PT <| ip 9 Z Z Z Z (p_assign Z) <| i0 <| Q_then <| J_seq <| sr <| mv Z Z <| L_pur Z (p_not Z) <| mv Z Z <| J_gsplit (t := 19) Z (fun h19 => ?_) (fun h19 => ?_)
  have hq : look s.rt i = none := by
    cases hq : look s.rt i with
    | none => rfl
    | some y => rw [hq] at h19; simp at h19
  have hks : ∀ b, kStart s i b = (s, false) := fun b => by unfold kStart; rw [hq]
  refine gz Z Z Z Z Z <| gz Z Z Z Z Z <| L_pur Z (p_pick_t Z Z) <| nq <| C_true Z <| sr <| ag Z Z <| nq <| J_ret <| Q_then_ret <| J_pick (A := coA p _) PC <| J_asTo (B := coA p (kStart s i 0).1) (by rw [hks]) <| J_return (0) Tryz.results20 (.tmp Z .nil) ?_ ?_
  · rw [hks]; rfl
  · exact SU
  obtain ⟨q, hq⟩ : ∃ x, look s.rt i = some x := by
    cases hq : look s.rt i with
    | none => rw [hq] at h19; simp at h19
    | some y => exact ⟨y, rfl⟩
  refine J_pick (A := blk b5 _ _) PC <| J_asTo (B := blk b5 122 (encQ q)) (by rw [hq]; rfl) <| gp Z Z Z (p_fieldAddr Z fa122_4) Z <| L_op <| G_on Z Z Z <| J_val (v_load Z ty4 HS (by exact rfl)) Z Z Z <| L_pur Z (p_pick_f Z Z) <| nq <| C_split Z (fun h22 => ?_) (fun h22 => ?_)
  have hks : ∀ b, kStart s i b = (s, false) := fun b => by unfold kStart; rw [hq]; exact if_pos h22
  refine sr <| ag Z Z <| nq <| J_ret <| Q_then_ret <| J_pick (A := coA p _) PC <| J_asTo (B := coA p (kStart s i 0).1) (by rw [hks]) <| J_return (0) Tryz.results20 (.tmp Z .nil) ?_ ?_
  · rw [hks]; rfl
  · exact SU
  have hst : q.started = false := by simpa using h22
  have hW1 := hW.start i
  refine J_skip <| Q_then <| J_seq <| J_drawL (some 3) mixed <| ip 0 Z Z Z Z (p_move Z) <| iv 2 Z Z Z Z (fun _ => v_loadA Z ty36 HS CT) <| i1 1 Z <| xc fc16 (A1 Z) Z (coReqs) fun _ => i1 3 Z <| xc fc70 (A2 Z Z) Z (coRqStart (s := s) (i := i) PC) fun _ => i0 <| Q_then <| J_seq <| sr <| mv Z Z <| L_val Z (v_loadA Z ty36 HS CT) <| xo fc71 (A2 Z Z) Z (coActG (s := { s with rt := rtS s.rt i }) (i := i) PC (hW1.good (by omega) hM) hD) fun x30 => ?_
  have hF2 : Fits (kAct { s with rt := rtS s.rt i } i x30).1 (N + 1) M := (hW1.act (by omega) i x30).fit
  have hki := kStart_is (b := x30) hq hst
  refine mv Z Z <| L_pur Z (p_extract Z Z) <| L_pur Z (p_extract Z Z) <| L_pur Z (p_extract Z Z) <| ag Z Z <| ag Z Z <| ag Z Z <| nx <| mv Z Z <| nq <| C_split Z (fun h34 => ?_) (fun h34 => ?_)
  obtain ⟨o, ho⟩ : ∃ o, (kAct { s with rt := rtS s.rt i } i x30).2 = some o := Option.isSome_iff_exists.1 h34
  rw [ho] at hki
  refine J_slot (t := 7) (v := .int .i64 o.1) Z (by rw [ho]; rfl) <| J_slot (t := 8) (v := .int .u32 o.2) Z (by rw [ho]; rfl) <| J_region <| mv Z Z <| L_val Z (v_loadA Z ty36 HS CT) <| mv Z Z <| mv Z Z <| xo fc72 (A4 Z Z Z Z) Z (coDecide (s := (kAct { s with rt := rtS s.rt i } i x30).1) (i := i) (r := o.1) (v := o.2) PC hF2) fun _ => nx <| ag Z Z <| nq <| J_ret <| J_pick (A := coA p _) PC <| J_asTo (B := coA p (kStart s i x30).1) (by rw [hki]) <| J_return (x30) Tryz.results20 (.tmp Z .nil) ?_ ?_
  · rw [hki]; rfl
  · exact SU
  have ho : (kAct { s with rt := rtS s.rt i } i x30).2 = none := by
    cases ho : (kAct { s with rt := rtS s.rt i } i x30).2 with
    | none => rfl
    | some y => rw [ho] at h34; cases h34
  rw [ho] at hki
  refine J_skip <| qx <| ag Z Z <| nq <| J_ret <| J_pick (A := coA p _) PC <| J_asTo (B := coA p (kStart s i x30).1) (by rw [hki]) <| J_return (x30) Tryz.results20 (.tmp Z .nil) ?_ ?_
  · rw [hki]; rfl
  · exact SU
  refine x_alloc ty122 Z fun b5 => i1 1 Z <| xc fc16 (A1 Z) Z (coReqs) fun _ => i1 3 Z <| xc fc69 (A2 Z Z) Z (coRqGet (s := s) (i := i) PC) fun _ => ip 4 Z Z Z Z (p_move Z) <| ip 5 Z Z Z Z (p_extract Z Z) <| ip 6 Z Z Z Z (p_extract Z Z) <| i1 8 Z <| x_store Z Z ty122 Z SM SM RO PT <| ip 9 Z Z Z Z (p_assign Z) <| i0 <| Q_then <| J_seq <| sr <| mv Z Z <| L_pur Z (p_not Z) <| mv Z Z <| J_gsplit (t := 19) Z (fun h19 => ?_) (fun h19 => ?_)
  have hq : look s.rt i = none := by
    cases hq : look s.rt i with
    | none => rfl
    | some y => rw [hq] at h19; simp at h19
  have hks : ∀ b, kStart s i b = (s, false) := fun b => by unfold kStart; rw [hq]
  refine gz Z Z Z Z Z <| gz Z Z Z Z Z <| L_pur Z (p_pick_t Z Z) <| nq <| C_true Z <| sr <| ag Z Z <| nq <| J_ret <| Q_then_ret <| J_pick (A := coA p _) PC <| J_asTo (B := coA p (kStart s i 0).1) (by rw [hks]) <| J_return (0) Tryz.results20 (.tmp Z .nil) ?_ ?_
  · rw [hks]; rfl
  · exact SU
  obtain ⟨q, hq⟩ : ∃ x, look s.rt i = some x := by
    cases hq : look s.rt i with
    | none => rw [hq] at h19; simp at h19
    | some y => exact ⟨y, rfl⟩
  refine J_pick (A := blk b5 _ _) PC <| J_asTo (B := blk b5 122 (encQ q)) (by rw [hq]; rfl) <| gp Z Z Z (p_fieldAddr Z fa122_4) Z <| L_op <| G_on Z Z Z <| J_val (v_load Z ty4 HS (by exact rfl)) Z Z Z <| L_pur Z (p_pick_f Z Z) <| nq <| C_split Z (fun h22 => ?_) (fun h22 => ?_)
  have hks : ∀ b, kStart s i b = (s, false) := fun b => by unfold kStart; rw [hq]; exact if_pos h22
  refine sr <| ag Z Z <| nq <| J_ret <| Q_then_ret <| J_pick (A := coA p _) PC <| J_asTo (B := coA p (kStart s i 0).1) (by rw [hks]) <| J_return (0) Tryz.results20 (.tmp Z .nil) ?_ ?_
  · rw [hks]; rfl
  · exact SU
  have hst : q.started = false := by simpa using h22
  have hW1 := hW.start i
  refine J_skip <| Q_then <| J_seq <| J_drawL (some 3) mixed <| ip 0 Z Z Z Z (p_move Z) <| iv 2 Z Z Z Z (fun _ => v_loadA Z ty36 HS CT) <| i1 1 Z <| xc fc16 (A1 Z) Z (coReqs) fun _ => i1 3 Z <| xc fc70 (A2 Z Z) Z (coRqStart (s := s) (i := i) PC) fun _ => i0 <| Q_then <| J_seq <| sr <| mv Z Z <| L_val Z (v_loadA Z ty36 HS CT) <| xo fc71 (A2 Z Z) Z (coActG (s := { s with rt := rtS s.rt i }) (i := i) PC (hW1.good (by omega) hM) hD) fun x30 => ?_
  have hF2 : Fits (kAct { s with rt := rtS s.rt i } i x30).1 (N + 1) M := (hW1.act (by omega) i x30).fit
  have hki := kStart_is (b := x30) hq hst
  refine mv Z Z <| L_pur Z (p_extract Z Z) <| L_pur Z (p_extract Z Z) <| L_pur Z (p_extract Z Z) <| ag Z Z <| ag Z Z <| ag Z Z <| nx <| mv Z Z <| nq <| C_split Z (fun h34 => ?_) (fun h34 => ?_)
  obtain ⟨o, ho⟩ : ∃ o, (kAct { s with rt := rtS s.rt i } i x30).2 = some o := Option.isSome_iff_exists.1 h34
  rw [ho] at hki
  refine J_slot (t := 7) (v := .int .i64 o.1) Z (by rw [ho]; rfl) <| J_slot (t := 8) (v := .int .u32 o.2) Z (by rw [ho]; rfl) <| J_region <| mv Z Z <| L_val Z (v_loadA Z ty36 HS CT) <| mv Z Z <| mv Z Z <| xo fc72 (A4 Z Z Z Z) Z (coDecide (s := (kAct { s with rt := rtS s.rt i } i x30).1) (i := i) (r := o.1) (v := o.2) PC hF2) fun _ => nx <| ag Z Z <| nq <| J_ret <| J_pick (A := coA p _) PC <| J_asTo (B := coA p (kStart s i x30).1) (by rw [hki]) <| J_return (x30) Tryz.results20 (.tmp Z .nil) ?_ ?_
  · rw [hki]; rfl
  · exact SU
  have ho : (kAct { s with rt := rtS s.rt i } i x30).2 = none := by
    cases ho : (kAct { s with rt := rtS s.rt i } i x30).2 with
    | none => rfl
    | some y => rw [ho] at h34; cases h34
  rw [ho] at hki
  refine J_skip <| qx <| ag Z Z <| nq <| J_ret <| J_pick (A := coA p _) PC <| J_asTo (B := coA p (kStart s i x30).1) (by rw [hki]) <| J_return (x30) Tryz.results20 (.tmp Z .nil) ?_ ?_
  · rw [hki]; rfl
  · exact SU
variable {g : Int}
theorem coAskG {m : List As} {p : Nat} (hp : Pick (coA p s) l m) (hW : Well s N M) (hN : N + 2 ≤ 90000) (hM : M + 1 ≤ 45000) (he : SqeOk e) (htk : -1000000000000 ≤ (look s.tk g).getD 0 ∧ (look s.tk g).getD 0 ≤ 1000000000000) (hadd : addOk (kTake s g 1).rt (rqN (askId s g) e) = true) (hD : ∀ (q : Rq) (T : Th), q.e = e → Good (askT2 s g e) N (M + 1) → SqeOk q.e → DoesC (askT2 s g e) T q (askId s g)) :
    Con Tryz.prog 25 #[.pointer (some ⟨p, 0, none⟩), .int .i64 g, .agg #[.int .i64 e.op, .int .i64 e.flags, .int .u32 e.tag, .int .u32 e.cap, .int .u32 e.a, .int .u32 e.b, .int .u32 e.c, .int .u32 e.time]] E l (fun b : Nat => .tuple #[.int .i64 (kAskR s g e b).1, .int .u32 (kAskR s g e b).2.1, .bool (kAskR s g e b).2.2]) (fun b => coA p (kAskS s g e b) :: m) := by
  refine Con.body (n := 52) Tryz.func25 Z Z _ (env_ok 3 Z) <| J_pick hp <| sr <| L_op <| x_box Z Z Z fun b5 => ag Z Z <| ag Z Z <| ag Z Z <| nx <| mv Z Z <| mv Z Z <| mv Z Z <| xo fc67 (A3 Z Z Z) Z (coTake (s := s) (r := g) (n := 1) PC htk (by omega)) fun _ => L_pur Z (bld36 (.cons Z (.cons Z .nil)) (by repeat constructor)) <| L_op <| x_alloc ty36 Z fun b9 => L_op <| x_store Z Z ty36 Z SM SM RO PT ?_
  have hW1 := hW.take g 1
  have haR : ∀ b, kAskR s g e b = askR (kStart (askT1 s g e) (askId s g) b).1.jn (askId s g) := fun b => by unfold kAskR; rw [if_pos hadd]
  have haS : ∀ b, kAskS s g e b = (kStart (askT1 s g e) (askId s g) b).1 := fun b => by unfold kAskS; rw [if_pos hadd]
  have hW2 : Well (askT1 s g e) N (M + 1) := Well.add hW1 (by omega) (q := rqN (askId s g) e) he
  have hlk : look (KS.rt (askT1 s g e)) (askId s g) = some (rqN (askId s g) e) := addQ_look hadd
  have hD2 : ∀ (q : Rq) (T : Th), look (rtS (KS.rt (askT1 s g e)) (askId s g)) (askId s g) = some q → DoesC { askT1 s g e with rt := rtS (KS.rt (askT1 s g e)) (askId s g) } T q (askId s g) := fun q T hq => by
    have hqe : q.e = e := by
      have h1 := hq
      unfold rtS at h1
      rw [hlk] at h1
      dsimp only at h1
      rw [look_ins, if_pos rfl] at h1
      rw [← Option.some.inj h1]; rfl
    exact hD q T hqe ((WellQ.start hW2 (askId s g)).good (by omega) hM) (by rw [hqe]; exact he)
  refine J_pick (A := blk b9 _ _) PC <| J_asTo (B := blk b9 36 (encI (askId s g))) (by rfl) <| nq <| J_seq <| J_seq <| J_drawL (some 5) mixed <| ip 0 Z Z Z Z (p_move Z) <| iv 2 Z Z Z Z (fun _ => v_loadA Z ty36 HS CT) <| iv 3 Z Z Z Z (fun _ => v_loadA Z ty34 HS CT) <| ip 4 Z Z Z Z (bld122 (.cons Z (.cons Z .nil)) (by repeat constructor)) <| J_slot (t := 22) (v := .agg (encQ (rqN (askId s g) e)).toArray) Z Z <| i1 1 Z <| xc fc16 (A1 Z) Z (coReqs) fun _ => i1 5 Z <| xc fc64 (A2 Z Z) Z (coRqAdd (s := kTake s g 1) (q := rqN (askId s g) e) PC hW1.fit.ids (by have := hW1.fit.jn; have := hW1.fit.mm; omega)) fun _ => J_slot (t := 23) (v := .bool true) Z (by rw [hadd]) <| J_pick (A := coA p _) PC ?_
  refine J_asTo (B := coA p (askT1 s g e)) (by rfl) <| ip 6 Z Z Z Z (p_not Z) <| ip 7 Z Z Z Z (p_move Z) <| J_bool (t := 25) (c := false) Z (rfl) <| I_takeOnP (i := 8) Z Z Z Z Z Z Z (by kernel_rfl) (fun _ _ _ _ h => h) (p_move Z) <| i1 9 Z <| G_on Z Z Z <| J_val (v_loadA Z ty36 HS CT) Z Z Z <| i1 10 Z <| G_on Z Z Z <| xc fc20 (A2 Z Z) Z (coStartG (s := (askT1 s g e)) (i := (askId s g)) PC hW2 (by omega) hM hD2) fun x29 => I_takeOnP (i := 11) Z Z Z Z Z Z Z (by kernel_rfl) (fun _ _ _ _ h => h) (p_not Z) <| ip 12 Z Z Z Z (p_pick_f Z Z) ?_
  obtain ⟨S4, hS4⟩ : ∃ S4, S4 = (kStart (askT1 s g e) (askId s g) x29).1 := ⟨_, rfl⟩
  refine J_pick (A := coA p _) PC <| J_asTo (B := coA p S4) (by rw [hS4]) ?_
  have hj4 : S4.jn.length ≤ 200000 := by
    have h4 : Well S4 (N + 1) (M + 1) := by rw [hS4]; exact WellQ.started hW2 (by omega) _ _
    have := h4.fit.jn; have := h4.fit.mm; omega
  refine i0 <| Q_then <| J_bool (t := 30) (c := false) Z (by rw [kStart_is hlk rfl]; split <;> rfl) <| C_false Z <| J_skip <| qx <| mv Z Z <| xo fc17 (A1 Z) Z (coJournal) fun _ => xo fc21 (A1 Z) Z (coJAll (s := S4) PC hj4) <| JR fun a33 c33 hw33 hl33 hm33 hz33 => ?_
  have hml : (S4.jn.map encD).length = S4.jn.length := List.length_map _
  have hmcap : c33 ≤ 9223372036854775807 := hm33
  refine ag Z Z <| nx <| mv Z Z <| L_val Z (v_loadA Z ty36 HS CT) <| xo fc22 (A2 Z Z) Z (atC (xs := S4.jn) (i := (askId s g)) (fun w H => sep_reads (xs := S4.jn.map encD) HS H) hj4) fun _ => mv Z Z <| L_pur Z (p_extract Z Z) <| L_pur Z (p_extract Z Z) <| ag Z Z <| ag Z Z <| nxx <| mv Z Z <| L_pur Z (p_not Z) <| nq <| C_split Z (fun h41 => ?_) (fun h41 => ?_)
  have hno : idxJ S4.jn (askId s g) = none := by
    cases hq : idxJ S4.jn (askId s g) with
    | none => rfl
    | some y => rw [hq] at h41; simp at h41
  have hat := idxJ_no hno
  refine sr <| ag Z Z <| ag Z Z <| ag Z Z <| nq <| J_ret <| Q_then_ret <| J_pick (A := coA p _) PC <| J_asTo (B := coA p (kAskS s g e x29)) (by rw [haS, hS4]) <| J_return (x29) Tryz.results25 (.tmp Z (.tmp Z (.tmp Z .nil))) ?_ ?_
  · rw [haR, ← hS4]; unfold askR; rw [hat]; rfl
  · exact SU
  obtain ⟨k, hk0⟩ : ∃ x, idxJ S4.jn (askId s g) = some x := by
    cases hq : idxJ S4.jn (askId s g) with
    | none => rw [hq] at h41; simp at h41
    | some y => exact ⟨y, rfl⟩
  obtain ⟨d, hcc, hat⟩ := idxJ_at hk0
  have hlt : k < S4.jn.length := (List.getElem?_eq_some_iff.1 hcc).1
  obtain ⟨bx, ox, rfl⟩ := hz33 (by intro h; rw [h] at hml; simp at hml; omega)
  refine J_slot (t := 11) (v := .int .i64 (k : Int)) Z (by rw [hk0]; rfl) <| J_skip <| Q_then <| J_seq <| J_drawS mixed (by kernel_rfl) <| sm Z Z <| sm Z Z <| sp Z (p_indexAddr Z Z Tryz.underlying40 ty45 (by omega) (by omega)) <| sp Z (p_fieldAddr Z fa45_3) <| S_val Z (v_loadF Z ty3 HS (by first | (simp only [Int.toNat_natCast, List.getElem?_map, hcc]; rfl) | (simp only [Int.toNat_natCast, List.getElem?_map, hcd]; rfl) | simp | rfl) (by exact rfl)) ?_
  refine sm Z Z <| sm Z Z <| sp Z (p_indexAddr Z Z Tryz.underlying40 ty45 (by omega) (by omega)) <| sp Z (p_fieldAddr Z fa45_4) <| S_val Z (v_loadF Z ty22 HS (by first | (simp only [Int.toNat_natCast, List.getElem?_map, hcc]; rfl) | (simp only [Int.toNat_natCast, List.getElem?_map, hcd]; rfl) | simp | rfl) (by exact rfl)) ?_
  refine sp Z (p_assign Z) <| sp Z (p_assign Z) <| sp Z (p_assign Z) <| sq <| J_ret <| J_pick (A := coA p _) PC <| J_asTo (B := coA p (kAskS s g e x29)) (by rw [haS, hS4]) <| J_return (x29) Tryz.results25 (.tmp Z (.tmp Z (.tmp Z .nil))) ?_ ?_
  · rw [haR, ← hS4]; unfold askR; rw [hat]; rfl
  · exact SU
/-! ### plain: an entry asked, reckoned -/
def chk (s : KS) (g : Int) (e : Sqe) (b : Nat) (r v : Int) (d : Bool) (n : Int) : Bool := decide (look s.tk g = some n) && addOk (kTake s g 1).rt (rqN (askId s g) e) && decide (kAskR s g e b = (r, v, d))
theorem chk_is {r v : Int} {d : Bool} {n : Int} (h : chk s g e b r v d n = true) : look s.tk g = some n ∧ addOk (kTake s g 1).rt (rqN (askId s g) e) = true ∧ kAskR s g e b = (r, v, d) := by
  unfold chk at h
  simp only [Bool.and_eq_true, decide_eq_true_eq] at h
  exact ⟨h.1.1, h.1.2, h.2⟩
theorem tk_is {n : Int} (h : look s.tk g = some n) (hn : 0 ≤ n ∧ n ≤ 1000) : -1000000000000 ≤ (look s.tk g).getD 0 ∧ (look s.tk g).getD 0 ≤ 1000000000000 := by
  rw [h]; show _ ≤ n ∧ n ≤ _; omega
theorem TreeOk.flat (hK : (ps.map Prod.fst).Nodup) (h : (ps.all fun e => canP e.1 && decide (e.2.2 = (0, 0)) && checkC e.2.1) = true) : TreeOk ps := by
  have h2 : ∀ x s, look ps x = some s → (canP x = true ∧ s.2 = (0, 0)) ∧ checkC s.1 = true := fun x s hx => by
    have := List.all_eq_true.1 h (x, s) (mem_look hx)
    simpa only [Bool.and_eq_true, decide_eq_true_eq] using this
  exact ⟨hK, fun x s hx => (h2 x s hx).1.1, fun x s hx => .inl (h2 x s hx).1.2, fun x s hx => (h2 x s hx).2, ⟨fun _ => 0, fun x s hx hs => absurd (h2 x s hx).1.2 hs⟩⟩
theorem tree1 : TreeOk (coreN 1 6 false).2.2.1 := TreeOk.flat (by decide +kernel) (by decide +kernel)
theorem well1 (g : NewG) : Well (kNew 1 6 3 4 false g) 40 60 := by
  have h := al1_is g
  exact ⟨h.fit, by rw [h.q]; decide, by rw [h.mp]; decide, by rw [h.sl]; decide +kernel, (by rw [h.rg]; show (1 : Nat) ≤ 1000; omega), by rw [h.sl]; exact tree1, (by rw [h.mr]; exact fun _ he => (by cases he)), by rw [h.th]; decide, (by rw [h.rt]; exact fun _ he => (by cases he)), by rw [h.rt]; exact Keyd.nil⟩
theorem rt_eta (h : s.rt = []) : { s with rt := [] } = s := by cases s; cases h; rfl
theorem alF_sl (g : NewG) : (kNew 1 1 0 0 false g).sl = (coreN 1 1 false).2.2.1 := by
  have hc : kCore (kNew ((1 : Nat) : Int) ((1 : Nat) : Int) 0 0 false g) = coreN 1 1 false := kNew_core (by omega) (by omega)
  rw [show ((1 : Nat) : Int) = 1 from rfl] at hc
  unfold kCore at hc
  rw [← hc]
theorem treeF : TreeOk (coreN 1 1 false).2.2.1 := TreeOk.flat (by decide +kernel) (by decide +kernel)
theorem wellF (g : NewG) : Well (kNew 1 1 0 0 false g) 20 60 := by
  have h := (one_is g).1
  have hf := h.fits (ps := []) (fun e he => (by cases he)) (by decide)
  rw [rt_eta h.rt] at hf
  exact ⟨hf, (by show (1 : Nat) ≤ 20; omega), (by show (2 : Nat) ≤ 20; omega), (by rw [alF_sl]; decide +kernel), (by show (1 : Nat) ≤ 1000; omega), (by rw [alF_sl]; exact treeF), fun _ he => (by cases he), (by show [(4 : Int)].Nodup; decide), fun _ he => (by cases he), Keyd.nil⟩
theorem kStart_nil (h : s.rt = []) : kStart s i b = (s, false) := by unfold kStart; rw [h]; rfl
theorem first_kr (g : NewG) (b : Nat) : (kStart { kNew 1 1 0 0 false g with rt := [((4, 1), (rqN (4, 1) ⟨1, 0, 0, 0, 0, 0, 0, 0⟩))] } (4, 1) b).1.rt = [] := by kernel_rfl
theorem sqe_nop : SqeOk ⟨1, 0, 0, 0, 0, 0, 0, 0⟩ := by refine ⟨?_, ?_, ?_, ?_⟩ <;> exact ⟨by decide, by decide⟩
theorem firstG :
  Con Tryz.prog 14 #[] E l (fun _ : Unit => .bool true) (fun _ => l) := by
 refine Con.body (n := 32) Tryz.func14 Z Z _ (env_ok 0 Z) <| sr <| ag Z Z <| nx <| L_pur Z (bld86 (.cons Z (.cons Z .nil)) (by repeat constructor)) <| J_slot (t := 2) (v := .agg (encG 1 1 0 0 false).toArray) Z Z <| xo fc45 (A1 Z) Z (coNew (ct := 1) (cu := 1) (cs := 0) (cc := 0) (sh := false)) fun g => ?_
 have hT := (one_is g).1
 have WK := wellF g
 have hkr := first_kr g
 obtain ⟨K, hK⟩ : ∃ K, K = kNew 1 1 0 0 false g := ⟨_, rfl⟩
 rw [← hK] at hT WK hkr
 refine J_pick (A := coA g.p _) PC <| J_asTo (B := coA g.p K) (by rw [hK]) ?_
 have WKN : Well { K with rt := [((4, 1), (rqN (4, 1) ⟨1, 0, 0, 0, 0, 0, 0, 0⟩))] } 20 61 := by
  have h := WK.add (by omega) (q := (rqN (4, 1) ⟨1, 0, 0, 0, 0, 0, 0, 0⟩)) sqe_nop
  rw [hT.rt, first_add.2] at h
  exact h
 refine ag Z Z <| nxx <| mv Z Z <| L_pur Z (p_eqNilPtr Tryz.underlying24 Z) <| mv Z Z <| J_bool (t := 6) (c := false) Z (rfl) <| L_op <| G_on Z Z Z <| J_pur (p_move Z) Z Z Z <| L_op <| G_on Z Z Z <| xc fc16 (A1 Z) Z (coReqs) fun _ => gp Z Z Z (p_eqNilPtr Tryz.underlying28 Z) Z <| L_pur Z (p_pick_f Z Z) <| mv Z Z <| J_bool (t := 11) (c := false) Z (rfl) <| gp Z Z Z (p_move Z) Z <| gp Z Z Z (bld36 (.cons Z (.cons Z .nil)) (by repeat constructor)) Z <| J_slot (t := 13) (v := .agg (encI (4, 1)).toArray) Z Z <| L_op <| G_on Z Z Z <| xc fc20 (A2 Z Z) Z (coStartG (s := K) (i := (4, 1)) PC WK (by omega) (by omega) (fun q T hq => by rw [hT.rt] at hq; exact nomatch (show (none : Option Rq) = some q from hq))) fun x14 => J_slot (t := 14) (v := .bool false) Z (by rw [kStart_nil hT.rt]) <| J_pick (A := coA g.p _) PC ?_
 refine J_asTo (B := coA g.p K) (by rw [kStart_nil hT.rt]) <| L_pur Z (p_pick_f Z Z) <| nq <| J_bool (t := 15) (c := false) Z (rfl) <| C_false Z <| J_skip <| qx <| mv Z Z <| xo fc16 (A1 Z) Z (coReqs) fun _ => L_pur Z (bld36 (.cons Z (.cons Z .nil)) (by repeat constructor)) <| J_slot (t := 18) (v := .agg (encI (4, 1)).toArray) Z Z <| L_pur Z (bld34 (.cons Z .nil) (by repeat constructor)) <| L_pur Z (bld122 (.cons Z (.cons Z .nil)) (by repeat constructor)) <| J_slot (t := 20) (v := .agg (encQ (rqN (4, 1) ⟨1, 0, 0, 0, 0, 0, 0, 0⟩)).toArray) Z Z <| xo fc64 (A2 Z Z) Z (coRqAdd (s := K) (q := (rqN (4, 1) ⟨1, 0, 0, 0, 0, 0, 0, 0⟩)) PC (by rw [hT.rt]; exact Ids.nil) (by rw [hT.rt]; decide)) fun _ => J_pick (A := coA g.p _) PC ?_
 refine J_asTo (B := coA g.p { K with rt := [((4, 1), (rqN (4, 1) ⟨1, 0, 0, 0, 0, 0, 0, 0⟩))] }) (by rw [hT.rt, first_add.2]) <| nx <| mv Z Z <| L_pur Z (bld36 (.cons Z (.cons Z .nil)) (by repeat constructor)) <| J_slot (t := 23) (v := .agg (encI (4, 1)).toArray) Z Z <| L_op (xc fc20 (A2 Z Z) Z (coStartG (s := { K with rt := [((4, 1), (rqN (4, 1) ⟨1, 0, 0, 0, 0, 0, 0, 0⟩))] }) (i := (4, 1)) PC WKN (by omega) (by omega) (fun q T hq => by
   have hq2 : some (⟨(4, 1), ⟨1, 0, 0, 0, 0, 0, 0, 0⟩, 0, false, true⟩ : Rq) = some q := hq
   cases hq2
   exact doesC1 ((WKN.start (4, 1)).good (by omega) (by omega)) sqe_nop Z)) fun x24 => ?_)
 have hr := hkr x24
 refine J_slot (t := 24) (v := .bool true) Z (by rw [kStart_is (s := { K with rt := [((4, 1), (rqN (4, 1) ⟨1, 0, 0, 0, 0, 0, 0, 0⟩))] }) (i := (4, 1)) (q := (rqN (4, 1) ⟨1, 0, 0, 0, 0, 0, 0, 0⟩)) Z rfl]; split <;> rfl) ?_
 obtain ⟨S1, hS1⟩ : ∃ S1, S1 = (kStart { K with rt := [((4, 1), (rqN (4, 1) ⟨1, 0, 0, 0, 0, 0, 0, 0⟩))] } (4, 1) x24).1 := ⟨_, rfl⟩
 refine J_pick (A := coA g.p _) PC <| J_asTo (B := coA g.p S1) (by rw [hS1]) ?_
 rw [← hS1] at hr
 refine mv Z Z <| J_bool (t := 25) (c := true) Z (rfl) <| gp Z Z Z (p_move Z) Z <| L_op <| G_on Z Z Z <| xc fc16 (A1 Z) Z (coReqs) fun _ => L_op <| G_on Z Z Z <| xc fc23 (A2 Z Z) Z (coRqOf (s := S1) (g := 4) PC (by rw [hr]; exact Ids.nil) (by rw [hr]; decide)) <| JR fun a28 c28 hw28 hl28 hm28 hz28 => gp Z Z Z (p_len Z Tryz.underlying46) Z <| L_op <| G_on Z Z Z <| J_pur (p_eql Z Z) Z Z Z <| J_slot (t := 30) (v := .bool true) Z (by congr 1; rw [List.length_map, hr, ofQ_nil]; rfl) <| L_pur Z (p_pick_t Z Z) <| ag Z Z <| nq <| J_ret ?_
 exact J_return (()) Tryz.results14 (.tmp Z .nil) Z SU
theorem sqeOk_mk {op fl tag cap a b c time : Int} (h1 : in32 cap := by unfold in32; first | omega | (unfold atK; omega)) (h2 : in32 a := by unfold in32; first | omega | (unfold atK; omega)) (h3 : in32 b := by unfold in32; first | omega | (unfold atK; omega)) (h4 : in32 c := by unfold in32; first | omega | (unfold atK; omega)) : SqeOk ⟨op, fl, tag, cap, a, b, c, time⟩ := ⟨h1, h2, h3, h4⟩
end Go.Pse
namespace Go.Pse
open Go.RowKit Go.Proofs Go.Proofs.YtclgdnpndlognaaGreat
theorem pf_laidOut : laidOutB Tryz.prog = true := by kernel_rfl
theorem pf_rowed : mapsRowed Tryz.prog = true := by kernel_rfl
theorem pf_stops : (Tryz.prog.stops == []) = true := by kernel_rfl
theorem pf_knobs : (Tryz.prog.stopKnobs == []) = true := by kernel_rfl
theorem pf_heard : Tryz.prog.stopsHeard = true := by kernel_rfl
theorem pf_own : ownKnob Tryz.prog.godebug = none := by kernel_rfl
theorem pf_plain : (false == Tryz.prog.plainKeys) = true := by kernel_rfl
def ioNs : List Nat := [104, 97, 114, 110, 101, 115, 115, 32, 57, 51, 56, 99, 97, 101, 49, 102, 56, 48, 53, 49, 49, 97, 97, 100, 102, 100, 98, 100, 49, 101, 48, 102, 52, 102, 52, 102, 98, 51, 52, 97, 98, 52, 98, 98, 53, 49, 101, 56, 57, 98, 99, 53, 52, 99, 57, 53, 97, 56, 53, 102, 57, 98, 100, 101, 57, 51, 52, 49, 102, 57, 57, 57, 32, 99, 117, 116, 32, 97, 116, 32, 114, 105, 110, 103, 107, 101, 114, 110, 47, 114, 105, 110, 103, 107, 101, 114, 110, 108, 97, 119, 50, 53, 46, 65, 99, 116, 77, 101, 101, 116, 115, 32, 114, 105, 110, 103, 107, 101, 114, 110, 47, 114, 105, 110, 103, 107, 101, 114, 110, 108, 97, 119, 50, 53, 46, 65, 99, 116, 83, 105, 103, 110, 97, 108, 115, 32, 114, 105, 110, 103, 107, 101, 114, 110, 47, 114, 105, 110, 103, 107, 101, 114, 110, 108, 97, 119, 50, 53, 46, 65, 99, 116, 69, 114, 114, 111, 114, 115, 32, 114, 105, 110, 103, 107, 101, 114, 110, 47, 114, 105, 110, 103, 107, 101, 114, 110, 108, 97, 119, 50, 54, 46, 69, 110, 116, 101, 114, 77, 105, 120, 101, 100, 32, 114, 105, 110, 103, 107, 101, 114, 110, 47, 114, 105, 110, 103, 107, 101, 114, 110, 108, 97, 119, 50, 54, 46, 69, 110, 116, 101, 114, 66, 117, 115, 121, 32, 114, 105, 110, 103, 107, 101, 114, 110, 47, 114, 105, 110, 103, 107, 101, 114, 110, 108, 97, 119, 50, 54, 46, 69, 110, 116, 101, 114, 67, 104, 97, 105, 110, 115, 32, 114, 105, 110, 103, 107, 101, 114, 110, 47, 114, 105, 110, 103, 107, 101, 114, 110, 108, 97, 119, 50, 54, 46, 69, 110, 116, 101, 114, 66, 117, 100, 103, 101, 116, 32, 114, 105, 110, 103, 107, 101, 114, 110, 47, 114, 105, 110, 103, 107, 101, 114, 110, 108, 97, 119, 50, 54, 46, 69, 110, 116, 101, 114, 82, 101, 102, 117, 115, 101, 115, 32, 114, 105, 110, 103, 107, 101, 114, 110, 47, 114, 105, 110, 103, 107, 101, 114, 110, 108, 97, 119, 50, 54, 46, 69, 110, 116, 101, 114, 76, 101, 97, 118, 101, 115, 32, 114, 105, 110, 103, 107, 101, 114, 110, 47, 114, 105, 110, 103, 107, 101, 114, 110, 108, 97, 119, 50, 54, 46, 69, 110, 116, 101, 114, 68, 114, 97, 105, 110, 32, 114, 105, 110, 103, 107, 101, 114, 110, 47, 114, 105, 110, 103, 107, 101, 114, 110, 108, 97, 119, 50, 54, 46, 69, 110, 116, 101, 114, 84, 105, 109, 101, 115]
def ioCs : List Char := ioNs.map Char.ofNat
theorem io : Tryz.prog.initOrder = String.ofList ioCs := by kernel_rfl
theorem words : wordsSigns Tryz.prog.initOrder.toList = wordsSigns ioCs := by rw [io, String.toList_ofList]
theorem make_of {P : Program} {c : List Char} {r : List (List Char)} (h : behindMainWord (wordsSigns P.initOrder.toList) = c :: r) (h1 : (c == "gc".toList) = false) (h2 : (c == "spec".toList) = false) (h3 : (c == "cut".toList) = true) : (P.make == some .cut) = true := by
  unfold Program.make
  rw [h]
  simp only [h1, h2, h3, Bool.or_self, Bool.true_or, Bool.false_eq_true, if_false, if_true]
  rfl
theorem enter_of {P : Program} {c : List Char} {r : List (List Char)} (h : behindMainWord (wordsSigns P.initOrder.toList) = c :: r) (hs : stripLifts liftWords (c :: r) = ([], c :: r)) (hh : (some c == some "cut".toList) = true) (h1 : P.laysLater = false) (h2 : P.bearsReflect = false) (h3 : P.doorFits [] = true) : P.mayEnter = true := by
  unfold Program.mayEnter
  rw [h]
  simp only [hs, h1, h2, h3, List.head?_cons, hh]
  simp
def ioW0 : List Char := [Char.ofNat 99, Char.ofNat 117, Char.ofNat 116]
def ioWr : List (List Char) := [[Char.ofNat 97, Char.ofNat 116], [Char.ofNat 114, Char.ofNat 105, Char.ofNat 110, Char.ofNat 103, Char.ofNat 107, Char.ofNat 101, Char.ofNat 114, Char.ofNat 110, Char.ofNat 47, Char.ofNat 114, Char.ofNat 105, Char.ofNat 110, Char.ofNat 103, Char.ofNat 107, Char.ofNat 101, Char.ofNat 114, Char.ofNat 110, Char.ofNat 108, Char.ofNat 97, Char.ofNat 119, Char.ofNat 50, Char.ofNat 53, Char.ofNat 46, Char.ofNat 65, Char.ofNat 99, Char.ofNat 116, Char.ofNat 77, Char.ofNat 101, Char.ofNat 101, Char.ofNat 116, Char.ofNat 115], [Char.ofNat 114, Char.ofNat 105, Char.ofNat 110, Char.ofNat 103, Char.ofNat 107, Char.ofNat 101, Char.ofNat 114, Char.ofNat 110, Char.ofNat 47, Char.ofNat 114, Char.ofNat 105, Char.ofNat 110, Char.ofNat 103, Char.ofNat 107, Char.ofNat 101, Char.ofNat 114, Char.ofNat 110, Char.ofNat 108, Char.ofNat 97, Char.ofNat 119, Char.ofNat 50, Char.ofNat 53, Char.ofNat 46, Char.ofNat 65, Char.ofNat 99, Char.ofNat 116, Char.ofNat 83, Char.ofNat 105, Char.ofNat 103, Char.ofNat 110, Char.ofNat 97, Char.ofNat 108, Char.ofNat 115], [Char.ofNat 114, Char.ofNat 105, Char.ofNat 110, Char.ofNat 103, Char.ofNat 107, Char.ofNat 101, Char.ofNat 114, Char.ofNat 110, Char.ofNat 47, Char.ofNat 114, Char.ofNat 105, Char.ofNat 110, Char.ofNat 103, Char.ofNat 107, Char.ofNat 101, Char.ofNat 114, Char.ofNat 110, Char.ofNat 108, Char.ofNat 97, Char.ofNat 119, Char.ofNat 50, Char.ofNat 53, Char.ofNat 46, Char.ofNat 65, Char.ofNat 99, Char.ofNat 116, Char.ofNat 69, Char.ofNat 114, Char.ofNat 114, Char.ofNat 111, Char.ofNat 114, Char.ofNat 115], [Char.ofNat 114, Char.ofNat 105, Char.ofNat 110, Char.ofNat 103, Char.ofNat 107, Char.ofNat 101, Char.ofNat 114, Char.ofNat 110, Char.ofNat 47, Char.ofNat 114, Char.ofNat 105, Char.ofNat 110, Char.ofNat 103, Char.ofNat 107, Char.ofNat 101, Char.ofNat 114, Char.ofNat 110, Char.ofNat 108, Char.ofNat 97, Char.ofNat 119, Char.ofNat 50, Char.ofNat 54, Char.ofNat 46, Char.ofNat 69, Char.ofNat 110, Char.ofNat 116, Char.ofNat 101, Char.ofNat 114, Char.ofNat 77, Char.ofNat 105, Char.ofNat 120, Char.ofNat 101, Char.ofNat 100], [Char.ofNat 114, Char.ofNat 105, Char.ofNat 110, Char.ofNat 103, Char.ofNat 107, Char.ofNat 101, Char.ofNat 114, Char.ofNat 110, Char.ofNat 47, Char.ofNat 114, Char.ofNat 105, Char.ofNat 110, Char.ofNat 103, Char.ofNat 107, Char.ofNat 101, Char.ofNat 114, Char.ofNat 110, Char.ofNat 108, Char.ofNat 97, Char.ofNat 119, Char.ofNat 50, Char.ofNat 54, Char.ofNat 46, Char.ofNat 69, Char.ofNat 110, Char.ofNat 116, Char.ofNat 101, Char.ofNat 114, Char.ofNat 66, Char.ofNat 117, Char.ofNat 115, Char.ofNat 121], [Char.ofNat 114, Char.ofNat 105, Char.ofNat 110, Char.ofNat 103, Char.ofNat 107, Char.ofNat 101, Char.ofNat 114, Char.ofNat 110, Char.ofNat 47, Char.ofNat 114, Char.ofNat 105, Char.ofNat 110, Char.ofNat 103, Char.ofNat 107, Char.ofNat 101, Char.ofNat 114, Char.ofNat 110, Char.ofNat 108, Char.ofNat 97, Char.ofNat 119, Char.ofNat 50, Char.ofNat 54, Char.ofNat 46, Char.ofNat 69, Char.ofNat 110, Char.ofNat 116, Char.ofNat 101, Char.ofNat 114, Char.ofNat 67, Char.ofNat 104, Char.ofNat 97, Char.ofNat 105, Char.ofNat 110, Char.ofNat 115], [Char.ofNat 114, Char.ofNat 105, Char.ofNat 110, Char.ofNat 103, Char.ofNat 107, Char.ofNat 101, Char.ofNat 114, Char.ofNat 110, Char.ofNat 47, Char.ofNat 114, Char.ofNat 105, Char.ofNat 110, Char.ofNat 103, Char.ofNat 107, Char.ofNat 101, Char.ofNat 114, Char.ofNat 110, Char.ofNat 108, Char.ofNat 97, Char.ofNat 119, Char.ofNat 50, Char.ofNat 54, Char.ofNat 46, Char.ofNat 69, Char.ofNat 110, Char.ofNat 116, Char.ofNat 101, Char.ofNat 114, Char.ofNat 66, Char.ofNat 117, Char.ofNat 100, Char.ofNat 103, Char.ofNat 101, Char.ofNat 116], [Char.ofNat 114, Char.ofNat 105, Char.ofNat 110, Char.ofNat 103, Char.ofNat 107, Char.ofNat 101, Char.ofNat 114, Char.ofNat 110, Char.ofNat 47, Char.ofNat 114, Char.ofNat 105, Char.ofNat 110, Char.ofNat 103, Char.ofNat 107, Char.ofNat 101, Char.ofNat 114, Char.ofNat 110, Char.ofNat 108, Char.ofNat 97, Char.ofNat 119, Char.ofNat 50, Char.ofNat 54, Char.ofNat 46, Char.ofNat 69, Char.ofNat 110, Char.ofNat 116, Char.ofNat 101, Char.ofNat 114, Char.ofNat 82, Char.ofNat 101, Char.ofNat 102, Char.ofNat 117, Char.ofNat 115, Char.ofNat 101, Char.ofNat 115], [Char.ofNat 114, Char.ofNat 105, Char.ofNat 110, Char.ofNat 103, Char.ofNat 107, Char.ofNat 101, Char.ofNat 114, Char.ofNat 110, Char.ofNat 47, Char.ofNat 114, Char.ofNat 105, Char.ofNat 110, Char.ofNat 103, Char.ofNat 107, Char.ofNat 101, Char.ofNat 114, Char.ofNat 110, Char.ofNat 108, Char.ofNat 97, Char.ofNat 119, Char.ofNat 50, Char.ofNat 54, Char.ofNat 46, Char.ofNat 69, Char.ofNat 110, Char.ofNat 116, Char.ofNat 101, Char.ofNat 114, Char.ofNat 76, Char.ofNat 101, Char.ofNat 97, Char.ofNat 118, Char.ofNat 101, Char.ofNat 115], [Char.ofNat 114, Char.ofNat 105, Char.ofNat 110, Char.ofNat 103, Char.ofNat 107, Char.ofNat 101, Char.ofNat 114, Char.ofNat 110, Char.ofNat 47, Char.ofNat 114, Char.ofNat 105, Char.ofNat 110, Char.ofNat 103, Char.ofNat 107, Char.ofNat 101, Char.ofNat 114, Char.ofNat 110, Char.ofNat 108, Char.ofNat 97, Char.ofNat 119, Char.ofNat 50, Char.ofNat 54, Char.ofNat 46, Char.ofNat 69, Char.ofNat 110, Char.ofNat 116, Char.ofNat 101, Char.ofNat 114, Char.ofNat 68, Char.ofNat 114, Char.ofNat 97, Char.ofNat 105, Char.ofNat 110], [Char.ofNat 114, Char.ofNat 105, Char.ofNat 110, Char.ofNat 103, Char.ofNat 107, Char.ofNat 101, Char.ofNat 114, Char.ofNat 110, Char.ofNat 47, Char.ofNat 114, Char.ofNat 105, Char.ofNat 110, Char.ofNat 103, Char.ofNat 107, Char.ofNat 101, Char.ofNat 114, Char.ofNat 110, Char.ofNat 108, Char.ofNat 97, Char.ofNat 119, Char.ofNat 50, Char.ofNat 54, Char.ofNat 46, Char.ofNat 69, Char.ofNat 110, Char.ofNat 116, Char.ofNat 101, Char.ofNat 114, Char.ofNat 84, Char.ofNat 105, Char.ofNat 109, Char.ofNat 101, Char.ofNat 115]]
theorem words2 : behindMainWord (wordsSigns Tryz.prog.initOrder.toList) = ioW0 :: ioWr := by
  rw [words]
  kernel_rfl
theorem w_gc : (ioW0 == "gc".toList) = false := by kernel_rfl
theorem w_spec : (ioW0 == "spec".toList) = false := by kernel_rfl
theorem w_cut : (ioW0 == "cut".toList) = true := by kernel_rfl
theorem w_strip : stripLifts liftWords (ioW0 :: ioWr) = ([], ioW0 :: ioWr) := by kernel_rfl
theorem w_head : (some ioW0 == some "cut".toList) = true := by kernel_rfl
theorem w_later : Tryz.prog.laysLater = false := by kernel_rfl
theorem w_refl : Tryz.prog.bearsReflect = false := by kernel_rfl
theorem w_door : Tryz.prog.doorFits [] = true := by kernel_rfl
theorem pf_enter : Tryz.prog.mayEnter = true := enter_of words2 w_strip w_head w_later w_refl w_door
theorem pf_lifts : (false == Tryz.prog.liftsFinal) = true := by
  unfold Program.liftsFinal Program.headLifts
  rw [words2]
  kernel_rfl
theorem pf_make : (Tryz.prog.make == some .cut) = true := make_of words2 w_gc w_spec w_cut
end Go.Pse
