/-
  Own texts, merged: Par, Num, Iter, Ent, Cd, C1, C2, C3, C4, C5, C6, Seq, Sort, Srt, C7, C8, SortF, C10, C11.
-/
import Derived.Test.YtclgdnpndlognaaGreatBC0
import Derived.Laws.IdiomRangeMap
import Derived.RangeFuncIn
import Derived.RangeFuncSeq
import Derived.RangeFuncRecord
import Derived.RangeFuncLeaves
import Derived.RangeFuncCalls
import Derived.TacticsIn
import Derived.Sort.Row
import Derived.Sort.Grow
import Derived.Shelf.SlGeneric
import Derived.Shelf.SortM.Plain
import Derived.Shelf.SortM.SortNone
import Derived.Shelf.SlSortCmp.NoneTotal
import Derived.Ground.SlgmProg
import Derived.Ground.SlsfProg
import Derived.Test.YtclgdnpndlognaaGreatProg
set_option linter.unusedVariables false
set_option linter.unusedSimpArgs false
set_option maxRecDepth 100000
set_option maxHeartbeats 4000000
namespace Go.Pse
open Go.RowKit
abbrev Gh := Nat → Nat × Value
def gput (γ : Gh) (d : Nat) (x : Nat × Value) : Gh := fun k => if k = d then x else γ k
theorem gput_self (γ : Gh) (d : Nat) (x : Nat × Value) : gput γ d x d = x := if_pos rfl
theorem gput_ne {γ : Gh} {d k : Nat} {x : Nat × Value} (h : k ≠ d) : gput γ d x k = γ k := if_neg h
/-! ### who depends on whom -/
def desc (md : Region.Mode) (ops : Array Oper) (i : Nat) : Nat → List Bool
  | 0 => []
  | k + 1 => desc md ops i k ++ [Nat.beq k i || match ops[k]? with | none => false | some o => o.after.toList.any fun e => Region.binds md e && (desc md ops i k).getD e.on false]
def dep (md : Region.Mode) (ops : Array Oper) (i k : Nat) : Bool := (desc md ops i (k + 1)).getD k false
theorem desc_len (md : Region.Mode) (ops : Array Oper) (i : Nat) : ∀ k, (desc md ops i k).length = k
  | 0 => rfl
  | k + 1 => by rw [desc, List.length_append, desc_len md ops i k]; rfl
theorem desc_get {md : Region.Mode} {ops : Array Oper} {i : Nat} : ∀ {k j : Nat}, j < k → (desc md ops i k).getD j false = dep md ops i j
  | 0, _, h => by omega
  | k + 1, j, h => by
    by_cases hj : j = k
    · subst hj; rfl
    · have hl : j < (desc md ops i k).length := by rw [desc_len]; omega
      rw [desc, List.getD_eq_getElem?_getD, List.getElem?_append_left hl, ← List.getD_eq_getElem?_getD]
      exact desc_get (by omega)
theorem dep_eq (md : Region.Mode) (ops : Array Oper) (i k : Nat) : dep md ops i k = (Nat.beq k i || match ops[k]? with | none => false | some o => o.after.toList.any fun e => Region.binds md e && (desc md ops i k).getD e.on false) := by
  unfold dep
  rw [desc, List.getD_eq_getElem?_getD, List.getElem?_append_right (by rw [desc_len]; exact Nat.le_refl _), desc_len, Nat.sub_self]
  rfl
theorem dep_listed {md : Region.Mode} {ops : Array Oper} {listed : Array Bool} (hc : Closed md ops listed) {i : Nat} : ∀ k, dep md ops i k = true → listed.getD k false = true → listed.getD i false = true := by
  intro k
  induction k using Nat.strongRecOn with
  | _ k ih =>
    intro h hl
    rw [dep_eq, Bool.or_eq_true] at h
    rcases h with h | h
    · rw [← Nat.eq_of_beq_eq_true h]; exact hl
    · cases ho : ops[k]? with
      | none => rw [ho] at h; cases h
      | some o =>
        rw [ho] at h
        simp only [List.any_eq_true, Bool.and_eq_true] at h
        obtain ⟨e, he, hb, hd⟩ := h
        have hlt : e.on < k := by
          rcases Nat.lt_or_ge e.on k with h | h
          · exact h
          · rw [List.getD_eq_getElem?_getD, List.getElem?_eq_none (by rw [desc_len]; exact h)] at hd; cases hd
        rw [desc_get hlt] at hd
        exact ih e.on hlt hd (hc k o ho hl e (by simpa using he) hb)
/-! ### slots put aside -/
def puts : List (Nat × Value) → Act → Act
  | [], a => a
  | (d, v) :: us, a => (puts us a).put (some d) v
theorem puts_size (a : Act) : ∀ us, (puts us a).tmps.size = a.tmps.size
  | [] => rfl
  | (d, v) :: us => by simp [puts, Act.put, puts_size a us]
theorem puts_defers (a : Act) : ∀ us, (puts us a).defers = a.defers
  | [] => rfl
  | (d, v) :: us => puts_defers a us
theorem puts_out {a : Act} {t : Nat} : ∀ {us : List (Nat × Value)}, (∀ u ∈ us, u.1 ≠ t) → (puts us a).tmps[t]? = a.tmps[t]?
  | [], _ => rfl
  | (d, v) :: us, h => by
    have h1 : d ≠ t := h (d, v) (by simp)
    simp only [puts, Act.put]
    rw [Array.getElem?_setIfInBounds_ne h1]
    exact puts_out fun u hu => h u (List.mem_cons_of_mem _ hu)
theorem puts_in {a : Act} {t : Nat} {v : Value} (ht : t < a.tmps.size) : ∀ {us : List (Nat × Value)}, (t, v) ∈ us → (us.map Prod.fst).Nodup → (puts us a).tmps[t]? = some v
  | (d, u) :: us, h, hn => by
    obtain ⟨h1, h2⟩ := List.nodup_cons.1 hn
    rcases List.mem_cons.1 h with h | h
    · cases h
      simp only [puts, Act.put]
      rw [Array.getElem?_setIfInBounds_self_of_lt (by rw [puts_size]; exact ht)]
    · have hne : d ≠ t := fun e => h1 (List.mem_map.2 ⟨_, h, e.symm⟩)
      simp only [puts, Act.put]
      rw [Array.getElem?_setIfInBounds_ne hne]
      exact puts_in ht h h2
section
variable {P : Program} {ops : Array Oper} {Q : Exit → Act → World → Prop}
theorem wp_put1 {o : Oper} {d : Nat} {v : Value} (h1 : d ∉ o.looksAt ops) (h2 : o.dst ≠ some d) (hs : ∀ cs b, o.op ≠ .select cs b)
    (hQ : ∀ c a w, Q (.panic c) (a.put (some d) v) w → Q (.panic c) a w) {K : Act → World → Prop} {a : Act} {w : World} (h : o.wp P (a.put (some d) v) w K Q) :
    o.wp P a w (fun a' w' => K (a'.put (some d) v) w') Q := by
  have h1' : ∀ d', some d = some d' → d' ∉ o.looksAt ops := fun d' e => by cases e; exact h1
  have h2' : ∀ d', some d = some d' → o.dst ≠ some d' := fun d' e => by cases e; exact h2
  unfold Oper.wp at *
  rw [execOp_put (ops := ops) o hs a (some d) v h1'] at h
  generalize (execOp a.eval o).run P w = r at *
  cases r with
  | ok n w' =>
    cases n <;> simp only [Oper.upon] at h ⊢
    case value u => rw [← Act.put_comm a v u h2']; exact h
    case skip => rw [← Act.put_comm a v undef h2']; exact h
    case defer x =>
      rw [← Act.put_comm _ v undef h2', ← Act.put_defers]
      exact h
    case enter f args =>
      refine Calls.mono h fun e w'' he => ?_
      cases e with
      | returned u =>
        have h3 : K ((a.put o.dst u).put (some d) v) w'' := by rw [← Act.put_comm a v u h2']; exact he
        exact h3
      | panicked c => exact hQ _ _ _ he
      | outgrown => exact he
    case row row args => exact Rows.mono h fun u w'' he => by rw [← Act.put_comm a v u h2']; exact he
  | halt x w' =>
    cases x <;> simp only [Oper.upon] at h ⊢
    case panic u => exact hQ _ _ _ h
theorem wp_puts {o : Oper} (hs : ∀ cs b, o.op ≠ .select cs b) (hQ : ∀ c a (d : Nat) v w, Q (.panic c) (a.put (some d) v) w → Q (.panic c) a w) {a : Act} {w : World} :
    ∀ {us : List (Nat × Value)} {K : Act → World → Prop}, (∀ u ∈ us, u.1 ∉ o.looksAt ops ∧ o.dst ≠ some u.1) → o.wp P (puts us a) w K Q → o.wp P a w (fun a' w' => K (puts us a') w') Q
  | [], _, _, h => h
  | (d, v) :: us, K, hu, h => by
    have h0 := hu (d, v) (by simp)
    have h3 := wp_put1 (ops := ops) h0.1 h0.2 hs (fun c a w => hQ c a d v w) h
    exact wp_puts hs hQ (K := fun a' w' => K (a'.put (some d) v) w') (fun u hu' => hu u (List.mem_cons_of_mem _ hu')) h3
end
/-! ### plans -/
structure PE where
  d : Nat
  pre : List As
  f : Gh → Value
  out : Gh → List As
def envs : List PE → Gh → Env → Env
  | [], _, F => F
  | e :: G, γ, F => (e.d, e.f γ) :: envs G γ F
def mks : List PE → Gh → List As → List As
  | [], _, l => l
  | e :: G, γ, l => e.out γ ++ mks G γ l
def pres : List PE → List As → List As
  | [], l => l
  | e :: G, l => e.pre ++ pres G l
def dstAt (ops : Array Oper) (j : Nat) : Option Nat := (ops[j]?).bind (·.dst)
def jsOk (ops : Array Oper) (m : Nat) (js : List Nat) : Bool := js.all fun k => (List.range (m + 1)).any fun j => dep .any ops j m && match dstAt ops j with | some d => Nat.beq d k | none => false
structure OpOk (P : Program) (ops : Array Oper) (Q : Exit → Act → World → Prop) (E : World) (n : Nat) (l : List As) (F : Env) (G : List PE) (e : PE) : Prop where
  op : ∃ o, ops[G.length]? = some o ∧ o.dst = some e.d ∧ Nat.blt e.d n = true ∧ o.guard = none ∧
    ∀ (γ : Gh) (Rr : As) (X : Env) (K : Act → World → Prop), (∀ x, Jk E (e.out (gput γ e.d x) ++ Rr :: l) n ((e.d, e.f (gput γ e.d x)) :: (envs G γ F ++ X)) K) → Jop P ops Q o E (e.pre ++ Rr :: l) n (envs G γ F ++ X) K
  cong : ∃ js, jsOk ops G.length js = true ∧ ∀ γ γ' : Gh, (∀ k ∈ js, γ k = γ' k) → e.f γ = e.f γ' ∧ e.out γ = e.out γ'
def PlanOk (P : Program) (ops : Array Oper) (Q : Exit → Act → World → Prop) (E : World) (n : Nat) (l : List As) (F : Env) : List PE → Prop
  | [] => True
  | e :: G => PlanOk P ops Q E n l F G ∧ OpOk P ops Q E n l F G e
def planChk (ops : Array Oper) (m : Nat) (fs : List Nat) : Bool :=
  Region.noSelect ops && Nat.ble m ops.size &&
  ((List.range m).all fun j => (List.range j).all fun i => (match dstAt ops i, dstAt ops j with | some a, some b => !Nat.beq a b | _, _ => false) &&
    (dep .any ops i j || match ops[i]?, ops[j]? with | some x, some y => x.apart ops y | _, _ => false)) &&
  ((List.range ops.size).all fun k => Nat.blt k m || (List.range m).all fun i => dep .any ops i k) &&
  ((List.range m).all fun j => match ops[j]? with | some o => o.after.toList.all fun e => !Region.binds .any e || Nat.blt e.on j | none => false) &&
  fs.all fun t => (List.range m).all fun j => match dstAt ops j with | some d => !Nat.beq d t | none => false
def upto (m N : Nat) : Array Bool := ((List.range N).map fun i => Nat.blt i m).toArray
section
variable {P : Program} {ops : Array Oper} {Q : Exit → Act → World → Prop} {E : World} {n : Nat} {l : List As} {F : Env}
theorem PlanOk.at {G T : List PE} {e : PE} {G' : List PE} (h : PlanOk P ops Q E n l F G) (hG : G = T ++ e :: G') : OpOk P ops Q E n l F G' e ∧ PlanOk P ops Q E n l F G' := by
  induction T generalizing G with
  | nil => subst hG; exact ⟨h.2, h.1⟩
  | cons t T ih => subst hG; exact ih h.1 rfl
theorem at_of_lt : ∀ {G : List PE} {j : Nat}, j < G.length → ∃ T e G', G = T ++ e :: G' ∧ G'.length = j
  | e :: G, j, h => by
    by_cases hj : j = G.length
    · exact ⟨[], e, G, rfl, hj.symm⟩
    · obtain ⟨T, e', G', h1, h2⟩ := at_of_lt (G := G) (j := j) (by simp at h; omega)
      exact ⟨e :: T, e', G', by rw [h1]; rfl, h2⟩
theorem at_inj {G T1 T2 G1 G2 : List PE} {e1 e2 : PE} (h1 : G = T1 ++ e1 :: G1) (h2 : G = T2 ++ e2 :: G2) (hl : G1.length = G2.length) : T1 = T2 ∧ e1 = e2 ∧ G1 = G2 := by
  have h := h1.symm.trans h2
  have hT : T1.length = T2.length := by
    have := congrArg List.length h
    simp at this
    omega
  obtain ⟨a, b⟩ := List.append_inj h hT
  exact ⟨a, (List.cons.inj b).1, (List.cons.inj b).2⟩
def toks (listed : Array Bool) (γ : Gh) : List PE → List As
  | [] => []
  | e :: G => (if listed.getD G.length false = true then As.all (e.out γ) else As.all e.pre) :: toks listed γ G
def tops (listed : Array Bool) (γ : Gh) (k : Nat) : List PE → List As
  | [] => []
  | e :: T => (if listed.getD (T.length + k) false = true then As.all (e.out γ) else As.all e.pre) :: tops listed γ k T
theorem toks_split {listed : Array Bool} {γ : Gh} {e : PE} {G' : List PE} : ∀ {T : List PE}, toks listed γ (T ++ e :: G') = tops listed γ (G'.length + 1) T ++ (if listed.getD G'.length false = true then As.all (e.out γ) else As.all e.pre) :: toks listed γ G'
  | [] => rfl
  | t :: T => by
    rw [List.cons_append, toks, toks_split (T := T), tops, List.cons_append]
    have : (T ++ e :: G').length = T.length + (G'.length + 1) := by simp
    rw [this]
def Alike (listed listed' : Array Bool) (γ γ' : Gh) (x : PE) (i : Nat) : Prop := listed'.getD i false = listed.getD i false ∧ (listed.getD i false = true → x.out γ' = x.out γ)
theorem toks_same {listed listed' : Array Bool} {γ γ' : Gh} : ∀ {G : List PE}, (∀ T' x G'', G = T' ++ x :: G'' → Alike listed listed' γ γ' x G''.length) → toks listed' γ' G = toks listed γ G
  | [], _ => rfl
  | x :: G, h => by
    rw [toks, toks, toks_same fun T' y G'' e => h (x :: T') y G'' (by rw [e]; rfl)]
    obtain ⟨h1, h2⟩ := h [] x G rfl
    rw [h1]
    congr 1
    split
    · rename_i hl; rw [h2 hl]
    · rfl
theorem tops_same {listed listed' : Array Bool} {γ γ' : Gh} {k : Nat} : ∀ {T : List PE}, (∀ T' x T'', T = T' ++ x :: T'' → Alike listed listed' γ γ' x (T''.length + k)) → tops listed' γ' k T = tops listed γ k T
  | [], _ => rfl
  | x :: T, h => by
    rw [tops, tops, tops_same fun T' y T'' e => h (x :: T') y T'' (by rw [e]; rfl)]
    obtain ⟨h1, h2⟩ := h [] x T rfl
    rw [h1]
    congr 1
    split
    · rename_i hl; rw [h2 hl]
    · rfl
theorem mks_append {γ : Gh} {R : List As} : ∀ {G : List PE}, mks G γ R = mks G γ [] ++ R
  | [] => rfl
  | e :: G => by rw [mks, mks, mks_append (G := G), List.append_assoc]
theorem toks_out {w : World} {listed : Array Bool} {γ : Gh} : ∀ {G : List PE} {R : List As}, (∀ j, j < G.length → listed.getD j false = true) → Sep E w (As.all (toks listed γ G) :: R) → Sep E w (mks G γ R)
  | [], R, _, H => H.all_out
  | e :: G, R, h, H => by
    rw [toks, if_pos (h G.length (by simp))] at H
    have H1 := Sep.midOut (T := []) H
    have H2 := toks_out (G := G) (fun j hj => h j (by simp; omega)) (H1.pick (.there .here))
    rw [mks_append] at H2
    have H3 := (H2.pick pick_mid).all_out
    rw [mks, mks_append]
    exact H3
theorem pres_in {w : World} {listed : Array Bool} {γ : Gh} : ∀ {G : List PE} {R : List As}, (∀ j, j < G.length → listed.getD j false = false) → Sep E w (pres G R) → Sep E w (As.all (toks listed γ G) :: R)
  | [], _, _, H => Sep.all_in (m := []) H
  | e :: G, R, h, H => by
    rw [toks, if_neg (by rw [h G.length (by simp)]; simp)]
    rw [pres] at H
    have H0 : Sep E w (pres G (As.all e.pre :: R)) := by
      have : ∀ (G : List PE) (R : List As), pres G R = pres G [] ++ R := by
        intro G R
        induction G with
        | nil => rfl
        | cons e G ih => rw [pres, pres, ih, List.append_assoc]
      rw [this]
      refine Sep.unpick' pick_mid ?_
      rw [this G R] at H
      exact H.all_in
    have H1 := pres_in (listed := listed) (γ := γ) (G := G) (R := As.all e.pre :: R) (fun j hj => h j (by simp; omega)) H0
    exact Sep.midIn (T := []) (H1.pick (.there .here))
theorem get_envs {γ : Gh} {X : Env} {t : Nat} {v : Value} : ∀ {G : List PE}, get (envs G γ F ++ X) t = some v → (∃ T e G', G = T ++ e :: G' ∧ t = e.d ∧ v = e.f γ) ∨ get (F ++ X) t = some v
  | [], h => .inr h
  | e :: G, h => by
    rw [envs, List.cons_append, get_cons] at h
    split at h
    · rename_i hd; cases h; exact .inl ⟨[], e, G, rfl, hd.symm, rfl⟩
    · rcases get_envs h with ⟨T, e', G', h1, h2, h3⟩ | h
      · exact .inl ⟨e :: T, e', G', by rw [h1]; rfl, h2, h3⟩
      · exact .inr h
theorem get_append {X : Env} {t : Nat} {v : Value} : ∀ {F : Env}, get (F ++ X) t = some v → (get F t = some v) ∨ (get F t = none ∧ get X t = some v)
  | [], h => .inr ⟨rfl, h⟩
  | (k, u) :: F, h => by
    rw [List.cons_append, get_cons] at h
    rw [get_cons]
    split at h
    · rename_i e; rw [if_pos e]; exact .inl h
    · rename_i e; rw [if_neg e]; exact get_append h
theorem get_slot {t : Nat} {v : Value} : ∀ {F : Env}, get F t = some v → t ∈ F.map Prod.fst
  | (k, u) :: F, h => by
    rw [get_cons] at h
    split at h
    · rename_i e; subst e; simp
    · exact List.mem_cons_of_mem _ (get_slot h)
def undone (listed : Array Bool) (γ : Gh) : List PE → List (Nat × Value)
  | [] => []
  | e :: G => if listed.getD G.length false = true then undone listed γ G else (e.d, e.f γ) :: undone listed γ G
theorem mem_undone {listed : Array Bool} {γ : Gh} {u : Nat × Value} : ∀ {G : List PE}, u ∈ undone listed γ G ↔ ∃ T e G', G = T ++ e :: G' ∧ listed.getD G'.length false = false ∧ u = (e.d, e.f γ)
  | [] => ⟨fun h => (by cases h), fun ⟨T, e, G', h, _⟩ => (by simp at h)⟩
  | e :: G => by
    have ih := mem_undone (listed := listed) (γ := γ) (u := u) (G := G)
    rw [undone]
    constructor
    · intro h
      split at h
      · obtain ⟨T, e', G', h1, h2⟩ := ih.1 h
        exact ⟨e :: T, e', G', by rw [h1]; rfl, h2⟩
      · rename_i hl
        rcases List.mem_cons.1 h with rfl | h
        · exact ⟨[], e, G, rfl, by simpa using hl, rfl⟩
        · obtain ⟨T, e', G', h1, h2⟩ := ih.1 h
          exact ⟨e :: T, e', G', by rw [h1]; rfl, h2⟩
    · rintro ⟨T, e', G', h1, h2, h3⟩
      cases T with
      | nil =>
        cases h1
        rw [if_neg (by rw [h2]; simp)]
        rw [h3]; simp
      | cons t T =>
        cases h1
        have := ih.2 ⟨T, e', G', rfl, h2, h3⟩
        split
        · exact this
        · exact List.mem_cons_of_mem _ this
theorem undone_nodup {listed : Array Bool} {γ : Gh} : ∀ {G : List PE}, (∀ T1 e1 G1 T2 e2 G2, G = T1 ++ e1 :: G1 → G = T2 ++ e2 :: G2 → e1.d = e2.d → G1.length = G2.length) → ((undone listed γ G).map Prod.fst).Nodup
  | [], _ => List.nodup_nil
  | e :: G, h => by
    have ih := undone_nodup (listed := listed) (γ := γ) (G := G) fun T1 e1 G1 T2 e2 G2 a b c => h (e :: T1) e1 G1 (e :: T2) e2 G2 (by rw [a]; rfl) (by rw [b]; rfl) c
    rw [undone]
    split
    · exact ih
    · rw [List.map_cons, List.nodup_cons]
      refine ⟨fun hm => ?_, ih⟩
      obtain ⟨u, hu, he⟩ := List.mem_map.1 hm
      obtain ⟨T, e', G', h1, h2, rfl⟩ := mem_undone.1 hu
      have := h [] e G (e :: T) e' G' rfl (by rw [h1]; rfl) he.symm
      rw [h1] at this
      simp at this
      omega
theorem dep_ready {listed : Array Bool} (hc : Closed .any ops listed) {i j : Nat} (hr : i ∈ Region.ready .any ops listed) (hd : dep .any ops j i = true) (hne : j ≠ i) : listed.getD j false = true := by
  obtain ⟨_, o, ho, hall⟩ := mem_ready.1 hr
  rw [dep_eq, Bool.or_eq_true, ho] at hd
  rcases hd with h | h
  · exact absurd (Nat.eq_of_beq_eq_true h).symm hne
  · simp only [List.any_eq_true, Bool.and_eq_true] at h
    obtain ⟨e, he, hb, hd⟩ := h
    have hlt : e.on < i := by
      rcases Nat.lt_or_ge e.on i with h | h
      · exact h
      · rw [List.getD_eq_getElem?_getD, List.getElem?_eq_none (by rw [desc_len]; exact h)] at hd; cases hd
    rw [desc_get hlt] at hd
    exact dep_listed hc _ hd (hall e (by simpa using he) hb)
def cnt (listed : Array Bool) (m : Nat) : Nat := ((List.range m).filter fun j => !listed.getD j false).length
theorem cnt_zero {listed : Array Bool} {m : Nat} (h : cnt listed m = 0) : ∀ j, j < m → listed.getD j false = true := fun j hj => by
  unfold cnt at h
  have h1 := List.filter_eq_nil_iff.1 (List.length_eq_zero_iff.1 h) j (List.mem_range.2 hj)
  simpa using h1
theorem cnt_pos {listed : Array Bool} {m c : Nat} (h : cnt listed m = c + 1) : ∃ j, j < m ∧ listed.getD j false = false := by
  unfold cnt at h
  obtain ⟨j, hj⟩ := List.exists_mem_of_length_pos (l := (List.range m).filter fun j => !listed.getD j false) (by omega)
  rw [List.mem_filter, List.mem_range] at hj
  exact ⟨j, hj.1, by simpa using hj.2⟩
theorem cnt_set {listed : Array Bool} {i : Nat} (hi : listed.getD i false = false) (hs : i < listed.size) : ∀ {m : Nat}, cnt (listed.setIfInBounds i true) m + (if i < m then 1 else 0) = cnt listed m
  | 0 => by simp [cnt]
  | m + 1 => by
    have ih := cnt_set hi hs (m := m)
    have hsplit : ∀ L : Array Bool, cnt L (m + 1) = cnt L m + (if L.getD m false = true then 0 else 1) := fun L => by
      unfold cnt
      rw [List.range_succ, List.filter_append, List.length_append]
      cases h : L.getD m false <;> simp [h, -Array.getD_eq_getD_getElem?]
    rw [hsplit, hsplit]
    by_cases him : i = m
    · subst him
      have h1 : (listed.setIfInBounds i true).getD i false = true := getD_set.2 (.inr ⟨rfl, hs⟩)
      rw [h1, hi]
      simp only [Nat.lt_irrefl, if_false, Nat.lt_succ_self, if_true, Bool.false_eq_true] at ih ⊢
      omega
    · rw [getD_set_ne false him]
      generalize (if listed.getD m false = true then 0 else 1) = z
      by_cases hlt : i < m
      · rw [if_pos hlt] at ih; rw [if_pos (by omega)]; omega
      · rw [if_neg hlt] at ih; rw [if_neg (by omega)]; omega
structure Chk (ops : Array Oper) (m : Nat) (fs : List Nat) : Prop where
  sel : ∀ (j : Nat) (o : Oper) cs b, ops[j]? = some o → o.op ≠ .select cs b
  le : m ≤ ops.size
  dist : ∀ i j a b, i < j → j < m → dstAt ops i = some a → dstAt ops j = some b → a ≠ b
  apart : ∀ i j x y, i < j → j < m → dep .any ops i j = false → ops[i]? = some x → ops[j]? = some y → x.apart ops y = true
  tail : ∀ k i, m ≤ k → k < ops.size → i < m → dep .any ops i k = true
  back : ∀ j o e, j < m → ops[j]? = some o → e ∈ o.after → Region.binds .any e = true → e.on < j
  fs : ∀ t j d, t ∈ fs → j < m → dstAt ops j = some d → d ≠ t
theorem Chk.of {m : Nat} {fs : List Nat} (h : planChk ops m fs = true) : Chk ops m fs := by
  simp only [planChk, Bool.and_eq_true] at h
  obtain ⟨⟨⟨⟨⟨h1, h2⟩, h3⟩, h4⟩, h5⟩, h6⟩ := h
  rw [List.all_eq_true] at h3 h4 h5 h6
  refine ⟨Region.noSelect_spec h1, Nat.le_of_ble_eq_true h2, fun i j a b hij hj ha hb => ?_, fun i j x y hij hj hd hx hy => ?_, fun k i hk hks hi => ?_, fun j o e hj ho he hb => ?_, fun t j d ht hj hd => ?_⟩
  · have := h3 j (List.mem_range.2 hj)
    rw [List.all_eq_true] at this
    have := this i (List.mem_range.2 hij)
    rw [ha, hb, Bool.and_eq_true] at this
    have h := this.1
    exact fun e => by subst e; simp at h
  · have := h3 j (List.mem_range.2 hj)
    rw [List.all_eq_true] at this
    have := this i (List.mem_range.2 hij)
    rw [hd, hx, hy, Bool.and_eq_true] at this
    simpa using this.2
  · have := h4 k (List.mem_range.2 hks)
    rw [Bool.or_eq_true] at this
    rcases this with h | h
    · have := Nat.le_of_ble_eq_true h; omega
    · rw [List.all_eq_true] at h
      exact h i (List.mem_range.2 hi)
  · have := h5 j (List.mem_range.2 hj)
    rw [ho] at this
    simp only [List.all_eq_true] at this
    have := this e (by simpa using he)
    rw [hb] at this
    simpa using this
  · have := h6 t ht
    rw [List.all_eq_true] at this
    have := this j (List.mem_range.2 hj)
    rw [hd] at this
    exact fun e => by subst e; simp at this
def full (n : Nat) (a : Act) : Env := (List.range n).map fun t => (t, a.tmps.getD t undef)
theorem get_map {g : Nat → Value} {t : Nat} : ∀ {L : List Nat} {v : Value}, get (L.map fun t => (t, g t)) t = some v → v = g t
  | k :: L, v, h => by
    rw [List.map_cons, get_cons] at h
    split at h
    · rename_i e; subst e; cases h; rfl
    · exact get_map h
theorem get_map_some {g : Nat → Value} {t : Nat} : ∀ {L : List Nat}, t ∈ L → ∃ v, get (L.map fun t => (t, g t)) t = some v
  | k :: L, h => by
    rw [List.map_cons, get_cons]
    by_cases e : k = t
    · exact ⟨_, by rw [if_pos e]⟩
    · rw [if_neg e]
      rcases List.mem_cons.1 h with h | h
      · exact absurd h.symm e
      · exact get_map_some h
theorem get_append_some {X : Env} {t : Nat} {v : Value} (h : get X t = some v) : ∀ {F : Env}, ∃ u, get (F ++ X) t = some u
  | [] => ⟨v, h⟩
  | (k, u) :: F => by
    rw [List.cons_append, get_cons]
    by_cases e : k = t
    · exact ⟨u, by rw [if_pos e]⟩
    · rw [if_neg e]; exact get_append_some h
theorem plan_sound {G : List PE} {m : Nat} (hm : G.length = m) (hok : PlanOk P ops Q E n l F G) (C : Chk ops m (F.map Prod.fst)) (hQ : ∀ c a (d : Nat) v w, Q (.panic c) (a.put (some d) v) w → Q (.panic c) a w)
    (fin : ∀ γ, Jk E (mks G γ l) n (envs G γ F) (wpAny P .any ops Q (ops.size - m) (upto m ops.size))) :
    ∀ (c : Nat) (listed : Array Bool) (γ : Gh) (a : Act) (w : World), cnt listed m = c → listed.size = ops.size → Closed .any ops listed → (∀ k, m ≤ k → listed.getD k false = false) →
      (∀ T e G', G = T ++ e :: G' → listed.getD G'.length false = true → a.tmps[e.d]? = some (e.f γ)) → Fr n F a → Sep E w (As.all (toks listed γ G) :: l) → wpAny P .any ops Q (ops.size - m + c) listed a w := by
  intro c
  have len : ∀ T e G', G = T ++ e :: G' → G'.length < m := fun T e G' h => by rw [← hm, h]; simp; omega
  have dst : ∀ T e G', G = T ++ e :: G' → dstAt ops G'.length = some e.d := fun T e G' h => by
    obtain ⟨⟨o, h1, h2, _⟩, _⟩ := (hok.at h).1
    unfold dstAt; rw [h1]; exact h2
  have uniq : ∀ T1 e1 G1 T2 e2 G2, G = T1 ++ e1 :: G1 → G = T2 ++ e2 :: G2 → e1.d = e2.d → G1.length = G2.length := fun T1 e1 G1 T2 e2 G2 h1 h2 hd => by
    rcases Nat.lt_trichotomy G1.length G2.length with h | h | h
    · exact absurd hd (C.dist _ _ _ _ h (len _ _ _ h2) (dst _ _ _ h1) (dst _ _ _ h2))
    · exact h
    · exact absurd hd.symm (C.dist _ _ _ _ h (len _ _ _ h1) (dst _ _ _ h2) (dst _ _ _ h1))
  induction c with
  | zero =>
    intro listed γ a w hc hsz hcl htl hfacts hF H
    have hall := cnt_zero hc
    have hlist : listed = upto m ops.size := by
      apply Array.ext
      · simp [upto, hsz]
      · intro k h1 h2
        have h3 : listed[k] = listed.getD k false := by simp [h1]
        rw [h3]
        simp only [upto, List.getElem_toArray, List.getElem_map, List.getElem_range]
        by_cases hk : k < m
        · rw [hall k hk]; symm; simpa using hk
        · rw [htl k (by omega)]
          cases h : Nat.blt k m with
          | false => rfl
          | true => have := Nat.le_of_ble_eq_true h; omega
    subst hlist
    refine fin γ w a (toks_out (fun j hj => hall j (by omega)) H) ⟨hF.size, hF.defers, fun t v hv => ?_⟩
    rcases get_envs (X := []) (by rw [List.append_nil]; exact hv) with ⟨T, e, G', h1, rfl, rfl⟩ | h
    · exact hfacts T e G' h1 (hall _ (len _ _ _ h1))
    · rw [List.append_nil] at h; exact hF.get t v h
  | succ c ih =>
    intro listed γ a w hc hsz hcl htl hfacts hF H
    obtain ⟨j0, hj0, hun0⟩ := cnt_pos hc
    have gd : ∀ j, j < listed.size → listed.getD j true = listed.getD j false := fun j hj => by simp [hj]
    have hne : ∀ j, j < m → listed.getD j false = false → ∃ r, r ∈ Region.ready .any ops listed := by
      intro j
      induction j using Nat.strongRecOn with
      | _ j ihj =>
        intro hj hun
        obtain ⟨o, ho⟩ : ∃ o, ops[j]? = some o := ⟨_, Array.getElem?_eq_getElem (by have := C.le; omega)⟩
        by_cases hall : ∀ e ∈ o.after, Region.binds .any e = true → listed.getD e.on false = true
        · exact ⟨j, mem_ready.2 ⟨by rw [gd j (by have := C.le; omega)]; exact hun, o, ho, hall⟩⟩
        · simp only [Classical.not_forall] at hall
          obtain ⟨e, he, hb, hl⟩ := hall
          have hlt := C.back j o e hj ho he hb
          exact ihj e.on hlt (by omega) (by simpa using hl)
    show wpAny P .any ops Q ((ops.size - m + c) + 1) listed a w
    refine ⟨fun h => ?_, fun i hi => ?_⟩
    · obtain ⟨r, hr⟩ := hne j0 hj0 hun0
      rw [h] at hr; cases hr
    · obtain ⟨hun, o, ho, hall⟩ := mem_ready.1 hi
      have hilt : i < ops.size := (Array.getElem?_eq_some_iff.1 ho).1
      rw [gd i (by omega)] at hun
      have him : i < m := by
        rcases Nat.lt_or_ge i m with h | h
        · exact h
        · have := dep_ready hcl hi (C.tail i j0 h hilt hj0) (by omega)
          rw [hun0] at this; cases this
      obtain ⟨T, e, G', hG, hl'⟩ := at_of_lt (G := G) (j := i) (by omega)
      obtain ⟨⟨⟨o', ho', hdst, hdn, hg, tri⟩, _⟩, _⟩ := hok.at hG
      rw [hl', ho] at ho'
      cases ho'
      have hdn' : e.d < n := by simpa using hdn
      -- what is put aside
      have hus : ∀ u ∈ undone listed γ G', ∃ T1 e1 G1, G = T1 ++ e1 :: G1 ∧ G1.length < i ∧ listed.getD G1.length false = false ∧ u = (e1.d, e1.f γ) := fun u hu => by
        obtain ⟨T1, e1, G1, h1, h2, h3⟩ := mem_undone.1 hu
        refine ⟨T ++ e :: T1, e1, G1, by rw [hG, h1]; simp, ?_, h2, h3⟩
        rw [← hl', h1]; simp; omega
      have hput : ∀ u ∈ undone listed γ G', u.1 ∉ o.looksAt ops ∧ o.dst ≠ some u.1 := fun u hu => by
        obtain ⟨T1, e1, G1, h1, h2, h3, rfl⟩ := hus u hu
        obtain ⟨⟨o1, ho1, hd1, _⟩, _⟩ := (hok.at h1).1
        have hnd : dep .any ops G1.length i = false := by
          cases h : dep .any ops G1.length i with
          | false => rfl
          | true => have := dep_ready hcl hi h (by omega); rw [h3] at this; cases this
        obtain ⟨a1, a2, _⟩ := Oper.apart_spec (C.apart _ _ _ _ h2 him hnd ho1 ho)
        exact ⟨a1 _ hd1, a2 _ hd1⟩
      have husn : ((undone listed γ G').map Prod.fst).Nodup := undone_nodup fun T1 e1 G1 T2 e2 G2 h1 h2 hd => uniq (T ++ e :: T1) e1 G1 (T ++ e :: T2) e2 G2 (by rw [hG, h1]; simp) (by rw [hG, h2]; simp) hd
      have hlt : ∀ T1 e1 G1, G = T1 ++ e1 :: G1 → e1.d < n := fun T1 e1 G1 h1 => by obtain ⟨⟨o1, _, _, h, _⟩, _⟩ := (hok.at h1).1; simpa using h
      generalize hU : undone listed γ G' = us at hus hput husn
      have hsplit := toks_split (listed := listed) (γ := γ) (e := e) (G' := G') (T := T)
      rw [hG, hsplit, hl', if_neg (by rw [hun]; simp)] at H
      have H1 := H.midOut.all_out
      have hFs : Fr n (envs G' γ F ++ full n (puts us a)) (puts us a) := by
        refine ⟨by rw [puts_size]; exact hF.size, by rw [puts_defers]; exact hF.defers, fun t v hv => ?_⟩
        rcases get_envs hv with ⟨T1, e1, G1, h1, rfl, rfl⟩ | h
        · cases hl : listed.getD G1.length false with
          | true =>
            rw [puts_out fun u hu => ?_]
            · exact hfacts (T ++ e :: T1) e1 G1 (by rw [hG, h1]; simp) hl
            · obtain ⟨T2, e2, G2, g1, g2, g3, rfl⟩ := hus u hu
              intro hd
              have := uniq T2 e2 G2 (T ++ e :: T1) e1 G1 g1 (by rw [hG, h1]; simp) hd
              rw [this, hl] at g3; cases g3
          | false => exact puts_in (by rw [hF.size]; exact hlt (T ++ e :: T1) e1 G1 (by rw [hG, h1]; simp)) (by rw [← hU]; exact mem_undone.2 ⟨T1, e1, G1, h1, hl, rfl⟩) husn
        · rcases get_append h with h | ⟨_, h⟩
          · rw [puts_out fun u hu => ?_]
            · exact hF.get t v h
            · obtain ⟨T2, e2, G2, g1, g2, g3, rfl⟩ := hus u hu
              exact C.fs t _ _ (get_slot h) (len _ _ _ g1) (dst _ _ _ g1)
          · have htn : t < n := by
              have := get_slot h
              simpa [full] using this
            have := get_map h
            subst this
            have hsz' : t < (puts us a).tmps.size := by rw [puts_size, hF.size]; exact htn
            simp [hsz']
      unfold wpOp
      rw [ho]
      dsimp only
      have hw0 : ∀ a : Act, Region.wanted o (yielded ops a.tmps) = true := fun a => by simp [Region.wanted, hg]
      rw [if_pos (hw0 a)]
      refine .inl ?_
      have key := tri γ (As.all (tops listed γ (i + 1) T ++ toks listed γ G')) (full n (puts us a)) (fun b w' => ∀ a', puts us a' = b → wpAny P .any ops Q (ops.size - m + c) (listed.setIfInBounds i true) a' w') (fun x => ?_) w (puts us a) (by rw [← hl'] at H1 ⊢; exact H1) hFs
      · rw [if_pos (hw0 _)] at key
        exact Oper.wp_mono (fun a' w' h => h a' rfl) (wp_puts (ops := ops) (C.sel i o · · ho) hQ hput key)
      · intro w' b Hs Hf a' hab
        have hne' : ∀ T1 e1 G1, G = T1 ++ e1 :: G1 → G1.length ≠ i → e1.d ≠ e.d := fun T1 e1 G1 h1 h2 hd => h2 ((uniq _ _ _ _ _ _ h1 hG hd).trans hl')
        have bs : ∀ t, t < n → t ≠ e.d → b.tmps[t]? = (puts us a).tmps[t]? := fun t ht hte => by
          obtain ⟨u, hu⟩ := get_map_some (g := fun t => (puts us a).tmps.getD t undef) (List.mem_range.2 ht)
          obtain ⟨u', hu'⟩ := get_append_some (X := full n (puts us a)) hu (F := envs G' γ F)
          rw [hFs.get t u' hu', Hf.get t u' (by rw [get_cons, if_neg (Ne.symm hte)]; exact hu')]
        have asx : ∀ t, (∀ u ∈ us, u.1 ≠ t) → a'.tmps[t]? = b.tmps[t]? := fun t ht => by rw [← hab]; exact (puts_out ht).symm
        have cg : ∀ T1 e1 G1, G = T1 ++ e1 :: G1 → G1.length ≠ i → listed.getD G1.length false = true → e1.f (gput γ e.d x) = e1.f γ ∧ e1.out (gput γ e.d x) = e1.out γ := fun T1 e1 G1 h1 h2 h3 => by
          obtain ⟨_, js, hjs, hcg⟩ := (hok.at h1).1
          refine hcg _ _ fun k hk => gput_ne fun hke => ?_
          unfold jsOk at hjs
          rw [List.all_eq_true] at hjs
          have h4 := hjs k hk
          rw [List.any_eq_true] at h4
          obtain ⟨j, hj, h5⟩ := h4
          rw [List.mem_range] at hj
          rw [Bool.and_eq_true] at h5
          obtain ⟨h6, h7⟩ := h5
          have hjm : j < m := by have := len _ _ _ h1; omega
          cases hdj : dstAt ops j with
          | none => rw [hdj] at h7; cases h7
          | some dj =>
            rw [hdj] at h7
            have h8 := Nat.eq_of_beq_eq_true h7
            have hji : j = i := by
              have hdi := dst _ _ _ hG
              rw [hl'] at hdi
              rcases Nat.lt_trichotomy j i with h | h | h
              · exact absurd (h8.trans hke) (C.dist _ _ _ _ h him hdj hdi)
              · exact h
              · exact absurd (h8.trans hke).symm (C.dist _ _ _ _ h hjm hdi hdj)
            subst hji
            have := dep_listed hcl _ h6 h3
            rw [hun] at this; cases this
        have al : ∀ T1 x1 G1, G = T1 ++ x1 :: G1 → G1.length ≠ i → Alike listed (listed.setIfInBounds i true) γ (gput γ e.d x) x1 G1.length := fun T1 x1 G1 h1 h2 => ⟨getD_set_ne false (Ne.symm h2), fun h3 => (cg _ _ _ h1 h2 h3).2⟩
        refine ih (listed.setIfInBounds i true) (gput γ e.d x) a' w' ?_ (by simpa using hsz) (hcl.set hi) (fun k hk => ?_) (fun T1 e1 G1 h1 h2 => ?_) ⟨?_, ?_, fun t v hv => ?_⟩ ?_
        · have := cnt_set hun (by omega) (m := m)
          rw [if_pos him] at this
          omega
        · rw [getD_set_ne false (by omega)]; exact htl k hk
        · by_cases h3 : G1.length = i
          · obtain ⟨_, rfl, _⟩ := at_inj h1 hG (h3.trans hl'.symm)
            rw [asx _ fun u hu => ?_]
            · exact Hf.get _ _ (by rw [get_cons, if_pos rfl])
            · obtain ⟨T2, e2, G2, g1, g2, g3, rfl⟩ := hus u hu
              exact hne' _ _ _ g1 (by omega)
          · rw [getD_set_ne false (Ne.symm h3)] at h2
            have hnu : ∀ u ∈ us, u.1 ≠ e1.d := fun u hu hd => by
              obtain ⟨T2, e2, G2, g1, g2, g3, rfl⟩ := hus u hu
              rw [uniq _ _ _ _ _ _ g1 h1 hd, h2] at g3; cases g3
            rw [asx _ hnu, bs _ (hlt _ _ _ h1) (hne' _ _ _ h1 h3), puts_out hnu, (cg _ _ _ h1 h3 h2).1]
            exact hfacts _ _ _ h1 h2
        · have := Hf.size; rw [← hab, puts_size] at this; exact this
        · have := Hf.defers; rw [← hab, puts_defers] at this; exact this
        · have h0 := hF.get t v hv
          have htn : t < n := by have := (Array.getElem?_eq_some_iff.1 h0).1; rw [hF.size] at this; exact this
          have hnu : ∀ u ∈ us, u.1 ≠ t := fun u hu => by
            obtain ⟨T2, e2, G2, g1, g2, g3, rfl⟩ := hus u hu
            exact C.fs t _ _ (get_slot hv) (len _ _ _ g1) (dst _ _ _ g1)
          rw [asx t hnu, bs t htn (Ne.symm (C.fs t _ _ (get_slot hv) (len _ _ _ hG) (dst _ _ _ hG))), puts_out hnu]
          exact h0
        · rw [hG, toks_split, hl', if_pos (getD_set.2 (.inr ⟨rfl, by omega⟩)), tops_same (fun T' x1 T'' hT => ?_), toks_same (fun T' x1 G'' hT => ?_)]
          · exact Sep.midIn Hs.all_in
          · exact al (T ++ e :: T') x1 G'' (by rw [hG, hT]; simp) (by rw [← hl', hT]; simp; omega)
          · have := al T' x1 (T'' ++ e :: G') (by rw [hG, hT]; simp) (by simp; omega)
            rw [show (T'' ++ e :: G').length = T''.length + (i + 1) by simp; omega] at this
            exact this
/-! ### the rules: planned one by one -/
def Pa (P : Program) (ops : Array Oper) (Q : Exit → Act → World → Prop) (E : World) (n : Nat) (l : List As) (F : Env) (Gl : Prop) (m : Nat) (EE : Gh → Env) (LL : Gh → List As) (PP : List As) : Prop :=
  ∀ G : List PE, G.length = m → PlanOk P ops Q E n l F G → (∀ γ, envs G γ F = EE γ) → (∀ γ, mks G γ l = LL γ) → pres G l = PP → Gl
variable {Gl : Prop} {m : Nat} {EE : Gh → Env} {LL : Gh → List As} {PP : List As} {o : Oper} {d : Nat} {js : List Nat}
theorem Pa.step (pre : List As) (f : Gh → Value) (out : Gh → List As) (ho : ops[m]? = some o) (hd : o.dst = some d) (hdn : Nat.blt d n = true) (hg : o.guard = none)
    (tri : ∀ (γ : Gh) (Rr : As) (X : Env) (K : Act → World → Prop), (∀ x, Jk E (out (gput γ d x) ++ Rr :: l) n ((d, f (gput γ d x)) :: (EE γ ++ X)) K) → Jop P ops Q o E (pre ++ Rr :: l) n (EE γ ++ X) K)
    (hjs : jsOk ops m js = true) (cg : ∀ γ γ' : Gh, (∀ k ∈ js, γ k = γ' k) → f γ = f γ' ∧ out γ = out γ')
    (k : Pa P ops Q E n l F Gl (m + 1) (fun γ => (d, f γ) :: EE γ) (fun γ => out γ ++ LL γ) (pre ++ PP)) : Pa P ops Q E n l F Gl m EE LL PP := by
  intro G hm hok hE hL hP
  refine k (⟨d, pre, f, out⟩ :: G) (by simp [hm]) ⟨hok, ⟨o, by rw [hm]; exact ho, hd, hdn, hg, fun γ Rr X K h => ?_⟩, js, by rw [hm]; exact hjs, cg⟩ (fun γ => by rw [envs, hE]) (fun γ => by rw [mks, hL]) (by rw [pres, hP])
  have := tri γ Rr X K
  rw [← hE γ] at this
  exact this h
theorem Pa.det {f : Gh → Value} (js : List Nat) (ho : ops[m]? = some o) (hd : o.dst = some d) (hdn : Nat.blt d n = true) (hg : o.guard = none) (hjs : jsOk ops m js = true) (hdj : d ∉ js)
    (tri : ∀ (γ : Gh) (Rr : As) (X : Env) (K : Act → World → Prop), Jk E (Rr :: l) n ((d, f γ) :: (EE γ ++ X)) K → Jop P ops Q o E (Rr :: l) n (EE γ ++ X) K)
    (cg : ∀ γ γ' : Gh, (∀ k ∈ js, γ k = γ' k) → f γ = f γ')
    (k : Pa P ops Q E n l F Gl (m + 1) (fun γ => (d, f γ) :: EE γ) LL PP) : Pa P ops Q E n l F Gl m EE LL PP :=
  Pa.step [] f (fun _ => []) ho hd hdn hg (fun γ Rr X K h => tri γ Rr X K (by
    have h1 := h (γ d)
    rw [cg (gput γ d (γ d)) γ fun k hk => gput_ne fun e => hdj (e ▸ hk)] at h1
    exact h1)) hjs (fun γ γ' h => ⟨cg γ γ' h, rfl⟩) k
theorem Pa.nat {f : Gh → Nat → Value} {A : Gh → Nat → As} (js : List Nat) (ho : ops[m]? = some o) (hd : o.dst = some d) (hdn : Nat.blt d n = true) (hg : o.guard = none) (hjs : jsOk ops m (d :: js) = true) (hdj : d ∉ js)
    (tri : ∀ (γ : Gh) (Rr : As) (X : Env) (K : Act → World → Prop), (∀ b, Jk E (A γ b :: Rr :: l) n ((d, f γ b) :: (EE γ ++ X)) K) → Jop P ops Q o E (Rr :: l) n (EE γ ++ X) K)
    (cg : ∀ γ γ' : Gh, (∀ k ∈ js, γ k = γ' k) → f γ = f γ' ∧ A γ = A γ')
    (k : Pa P ops Q E n l F Gl (m + 1) (fun γ => (d, f γ (γ d).1) :: EE γ) (fun γ => A γ (γ d).1 :: LL γ) PP) : Pa P ops Q E n l F Gl m EE LL PP :=
  Pa.step (js := d :: js) [] (fun γ => f γ (γ d).1) (fun γ => [A γ (γ d).1]) ho hd hdn hg (fun γ Rr X K h => tri γ Rr X K fun b => by
    have h1 := h (b, undef)
    have h2 := cg (gput γ d (b, undef)) γ fun k hk => gput_ne fun e => hdj (e ▸ hk)
    rw [h2.1, h2.2, gput_self] at h1
    exact h1) hjs (fun γ γ' h => by
      have h2 := cg γ γ' fun k hk => h k (List.mem_cons_of_mem _ hk)
      rw [h2.1, h2.2, h d (by simp)]; exact ⟨rfl, rfl⟩) k
theorem Pa.val {A : Gh → Value → As} (js : List Nat) (ho : ops[m]? = some o) (hd : o.dst = some d) (hdn : Nat.blt d n = true) (hg : o.guard = none) (hjs : jsOk ops m (d :: js) = true) (hdj : d ∉ js)
    (tri : ∀ (γ : Gh) (Rr : As) (X : Env) (K : Act → World → Prop), (∀ v, Jk E (A γ v :: Rr :: l) n ((d, v) :: (EE γ ++ X)) K) → Jop P ops Q o E (Rr :: l) n (EE γ ++ X) K)
    (cg : ∀ γ γ' : Gh, (∀ k ∈ js, γ k = γ' k) → A γ = A γ')
    (k : Pa P ops Q E n l F Gl (m + 1) (fun γ => (d, (γ d).2) :: EE γ) (fun γ => A γ (γ d).2 :: LL γ) PP) : Pa P ops Q E n l F Gl m EE LL PP :=
  Pa.step (js := d :: js) [] (fun γ => (γ d).2) (fun γ => [A γ (γ d).2]) ho hd hdn hg (fun γ Rr X K h => tri γ Rr X K fun b => by
    have h1 := h (0, b)
    have h2 := cg (gput γ d (0, b)) γ fun k hk => gput_ne fun e => hdj (e ▸ hk)
    rw [h2, gput_self] at h1
    exact h1) hjs (fun γ γ' h => by
      have h2 := cg γ γ' fun k hk => h k (List.mem_cons_of_mem _ hk)
      rw [h2, h d (by simp)]; exact ⟨rfl, rfl⟩) k
theorem J_drawP {L l0 : List As} {id : Nat} {os : List Oper} (_ : Picks L l0 l) (k : Pa P os.toArray Q E n l F (Jk E l0 n F ((Code.region id os.toArray true).wp P Q)) 0 (fun _ => F) (fun _ => l) l) :
    Jk E l0 n F ((Code.region id os.toArray true).wp P Q) := k [] rfl trivial (fun _ => rfl) (fun _ => rfl) rfl
theorem Pa.fin {l0 : List As} {id : Nat} {os : List Oper} {fs : List Nat} (N tn : Nat) (hN : os.toArray.size = N) (hn : N - m = tn) (hm : P.follows .mixedOrders = true) (hfs : F.map Prod.fst = fs) (hchk : planChk os.toArray m fs = true) (hs : Sub l0 PP)
    (hQ : ∀ c a (d : Nat) v w, Q (.panic c) (a.put (some d) v) w → Q (.panic c) a w)
    (k : ∀ γ, Jk E (LL γ) n (EE γ) (wpAny P .any os.toArray Q tn (upto m N))) :
    Pa P os.toArray Q E n l F (Jk E l0 n F ((Code.region id os.toArray true).wp P Q)) m EE LL PP := by
  intro G hG hok hE hL hP w a H hF
  subst hfs hn hN
  have C := Chk.of hchk
  have hrep : ∀ j, (Array.replicate os.toArray.size false).getD j false = false := fun j => by
    rw [Array.getD_eq_getD_getElem?, Array.getElem?_replicate]; split <;> rfl
  have hcnt : ∀ m, cnt (Array.replicate os.toArray.size false) m = m := fun m => by
    unfold cnt
    rw [List.filter_eq_self.2 (fun j _ => by rw [hrep]; rfl)]; simp
  have := plan_sound hG hok C hQ (fun γ => by rw [hL, hE]; exact k γ) m (Array.replicate os.toArray.size false) (fun _ => (0, undef)) a w.drew (hcnt m) (by simp)
    (fun j o ho h => by rw [hrep] at h; cases h) (fun k _ => hrep k) (fun T e G' _ h => by rw [hrep] at h; cases h) hF (pres_in (fun j _ => hrep j) (by rw [hP]; exact hs.sep H.drew))
  rw [Nat.sub_add_cancel C.le] at this
  exact wp_region_any hm this
end
end Go.Pse
namespace Go.Pse
open Go.RowKit Go.Proofs
abbrev ID := Int × Int
def encI (i : ID) : List Value := [.int .i64 i.1, .int .i64 i.2]
def num (x b : Int) : Nat := (x % b).toNat
theorem num_lt {x b : Int} (h : 0 < b) : ((num x b : Nat) : Int) < b := by
  have h1 := Int.emod_nonneg x (show b ≠ 0 by omega)
  have h2 := Int.emod_lt_of_pos x h
  unfold num; omega
theorem num_t {x b : Int} (h : 0 < b) : -b < x.tmod b ∧ x.tmod b < b ∧ (x.tmod b < 0 → x.tmod b + b = ((num x b : Nat) : Int)) ∧ (¬ x.tmod b < 0 → x.tmod b = ((num x b : Nat) : Int)) := by
  have h0 : x % b = (x.tmod b) % b := by
    have := Int.tdiv_mul_add_tmod x b
    conv => lhs; rw [← this]
    rw [Int.add_comm, Int.add_mul_emod_self_right]
  have h1 := Int.emod_nonneg x (show b ≠ 0 by omega)
  have h3 : -b < x.tmod b := by
    have := Int.lt_tmod_of_pos x h
    omega
  have h4 : x.tmod b < b := Int.tmod_lt_of_pos x h
  refine ⟨h3, h4, fun hn => ?_, fun hn => ?_⟩
  · have : (x.tmod b) % b = x.tmod b + b := by
      rw [← Int.add_emod_right]
      exact Int.emod_eq_of_lt (by omega) (by omega)
    unfold num; omega
  · have : (x.tmod b) % b = x.tmod b := Int.emod_eq_of_lt (by omega) h4
    unfold num; omega
theorem number {E : World} {l : List As} {x b : Int} (hb : 0 < b) (hb2 : b ≤ 1000000000000) :
  Con Tryz.prog 27 #[.int .i64 x, .int .i64 b] E l (fun _ : Unit => .int .i64 ((num x b : Nat) : Int)) (fun _ => l) := by
 refine Con.body (vs := [.int .i64 x, .int .i64 b]) (n := 15) Tryz.func27 rfl rfl [(0, .int .i64 x), (1, .int .i64 b)] (env_ok 2 rfl) ?_
 obtain ⟨h1, h2, h3, h4⟩ := num_t (x := x) hb
 refine sr <| ag rfl rfl <| nx <| mv rfl rfl <| mv rfl rfl <| L_pur rfl (p_rem rfl rfl (by omega)) <| ag rfl rfl <| nxx ?_
 refine mv rfl rfl <| L_pur rfl (p_lss rfl rfl) <| nq ?_
 refine C_dec rfl (fun h10 => ?_) (fun h10 => ?_)
 have := h3 h10
 refine J_region <| mv rfl rfl <| mv rfl rfl <| L_pur rfl (p_add64 rfl rfl (by omega)) <| J_slot (t := 13) (v := .int .i64 ((num x b : Nat) : Int)) rfl (by rw [h3 h10]) <| ag rfl rfl <| nx <| mv rfl rfl ?_
 refine ag rfl rfl <| nq <| J_ret ?_
 exact J_return (()) Tryz.results27 (.tmp rfl .nil) rfl SU
 have := h4 h10
 refine J_slot (t := 5) (v := .int .i64 ((num x b : Nat) : Int)) rfl (by rw [h4 h10]) <| J_skip <| qx <| mv rfl rfl <| ag rfl rfl <| nq <| J_ret ?_
 exact J_return (()) Tryz.results27 (.tmp rfl .nil) rfl SU
end Go.Pse
namespace Go.Pse
open Go.RowKit
theorem run_nextR {P : Program} (w : World) (ty : TypeId) {b r since c0 : Nat} {seen : Array Nat} {es : Array MapEntry} {clock : Nat} (hb : w.heap[b]? = some (.map es clock)) (hr : w.heap[r]? = some (.mapIter (some b) since seen c0))
    (hold : ∀ x ∈ es.toList, x.born < since) (hsc : since ≤ c0) :
    ((∀ e ∈ es.toList, seen.contains e.born = true) ∧ (Instr.next (.pointer (some ⟨r, 0, none⟩)) false ty).run P w = .ok (.tuple #[.bool false]) w) ∨
    ∃ e ∈ es.toList, seen.contains e.born = false ∧ ∃ dn, w.drawn ≤ dn ∧ (Instr.next (.pointer (some ⟨r, 0, none⟩)) false ty).run P w = .ok (.tuple #[.bool true, e.key, e.val]) { w with drawn := dn, heap := w.heap.setIfInBounds r (.mapIter (some b) since (seen.push e.born) clock) } := by
  simp only [Instr.next, getObj, Sem.run_bind, Sem.run, hr, hb, Result.andThen, next_test_false seen es since c0 hold hsc, Bool.false_eq_true, if_false]
  have hL : ∀ x, x ∈ Array.filter (fun e => !seen.contains e.born) es ↔ x ∈ es.toList ∧ seen.contains x.born = false := fun x => by simp
  generalize Array.filter (fun e => !seen.contains e.born) es = L at hL ⊢
  have e1 : L.filter (fun x => decide (x.born < since)) = L := Array.filter_eq_self.2 (fun x hx => by simpa using hold x ((hL x).1 hx).1)
  have e2 : L.filter (fun x => decide (x.born ≥ since)) = #[] := by
    rw [Array.filter_eq_empty_iff]
    intro x hx
    have := hold x ((hL x).1 hx).1
    simp; omega
  simp only [e1, e2, Array.append_empty]
  by_cases h0 : L.size = 0
  · left
    have h1 : L = #[] := Array.eq_empty_of_size_eq_zero h0
    subst h1
    refine ⟨fun e he => ?_, by simp [choose, Sem.run, Question.forced]⟩
    cases hc : seen.contains e.born with
    | true => rfl
    | false => exact absurd ((hL e).2 ⟨he, hc⟩) (by simp)
  · right
    have hne : L.isEmpty = false := by simp [Array.isEmpty, h0]
    simp only [hne, Bool.false_eq_true, if_false, Array.empty_append, Array.size_map]
    obtain ⟨j, dn, hj, hdn, hrun⟩ : ∃ (j dn : Nat), j < L.size ∧ w.drawn ≤ dn ∧ (choose (Question.mapNext L.size)).run P w = .ok j { w with drawn := dn } := by
      by_cases hf : L.size ≤ 1
      · exact ⟨0, w.drawn, by omega, Nat.le_refl _, by simp [choose, Sem.run, Question.forced, hf]⟩
      · exact ⟨_, w.drawn + 1, Nat.mod_lt _ (by omega), Nat.le_succ _, by
          simp only [choose, Sem.run, Question.forced, decide_eq_true_eq, hf, if_false, Question.cut]
          rfl⟩
    have hm := (hL L[j]).1 (Array.getElem_mem hj)
    refine ⟨L[j], hm.1, hm.2, dn, hdn, ?_⟩
    have hset : ∀ (o' : Obj), (setObj r o').run P { w with drawn := dn } = .ok () { w with drawn := dn, heap := w.heap.setIfInBounds r o' } := fun o' => by
      simp [setObj, Sem.run, hr]
    simp only [hrun, Array.getElem?_map, Array.getElem?_eq_getElem hj, Option.map_some, Sem.run_bind, hset, Result.andThen]
    rfl
section
variable {κ υ : Type} [DecidableEq κ] {ek : κ → Value} {ev : υ → Value}
def rangeA (ek : κ → Value) (ev : υ → Value) (v : Value) (r : Nat) (ps : List (κ × υ)) (done : List κ) : As where
  h w S := Keyd ps ∧ ((v = .map none ∧ ps = [] ∧ w.heap[r]? = some (.mapIter none 0 #[] 0) ∧ ∀ k, S k ↔ k.1 = r) ∨
    ∃ b es c since seen last, v = .map (some b) ∧ w.heap[b]? = some (.map es c) ∧ w.heap[r]? = some (.mapIter (some b) since seen last) ∧ es.toList.map (fun e => (e.key, e.val)) = ps.map (enP ek ev) ∧ (es.toList.map (·.born)).Nodup ∧ (∀ e ∈ es.toList, e.born < c) ∧
      (∀ e ∈ es.toList, e.born < since) ∧ since ≤ last ∧ since ≤ c ∧ (∀ (i : Nat) e p, es.toList[i]? = some e → ps[i]? = some p → (seen.contains e.born = true ↔ p.1 ∈ done)) ∧ (∀ a, done.getLast? = some a → last = c ∧ ∀ (i : Nat) e p, es.toList[i]? = some e → ps[i]? = some p → p.1 = a → seen.back? = some e.born) ∧ ∀ k, S k ↔ k.1 = b ∨ k.1 = r)
  loc := fun {w w' S} ⟨hk, h⟩ hs => ⟨hk, by
    rcases h with ⟨h1, h2, h3, h4⟩ | ⟨b, es, c, since, seen, last, h1, h2, h3, h4, h5, h6, h7, h8, h9, h10, h12, h11⟩
    · exact .inl ⟨h1, h2, (heap_of_lk fun i => hs (r, i) ((h4 (r, i)).2 rfl)).trans h3, h4⟩
    · exact .inr ⟨b, es, c, since, seen, last, h1, (heap_of_lk fun i => hs (b, i) ((h11 (b, i)).2 (.inl rfl))).trans h2, (heap_of_lk fun i => hs (r, i) ((h11 (r, i)).2 (.inr rfl))).trans h3, h4, h5, h6, h7, h8, h9, h10, h12, h11⟩⟩
  lt := fun {w S q} ⟨hk, h⟩ hb => by
    rcases h with ⟨h1, h2, h3, h4⟩ | ⟨b, es, c, since, seen, last, h1, h2, h3, h4, h5, h6, h7, h8, h9, h10, h12, h11⟩
    · rw [(h4 _).1 hb]; exact (Array.getElem?_eq_some_iff.1 h3).1
    · rcases (h11 _).1 hb with h | h
      · rw [h]; exact (Array.getElem?_eq_some_iff.1 h2).1
      · rw [h]; exact (Array.getElem?_eq_some_iff.1 h3).1
variable {P : Program} {ops : Array Oper} {Q : Exit → Act → World → Prop} {E : World} {l l' m : List As} {n : Nat} {F : Env} {K : Act → World → Prop}
variable {d : Nat} {T : TypeId} {p : String} {e : Array Edge} {g : Option (Nat × Bool)} {dst : Option Tmp} {t : TypeId} {x y z : Operand} {u v : Value}
omit [DecidableEq κ] in
theorem x_range {kt et : TypeId} {ps : List (κ × υ)} (hx : evl F x = some v) (ht : P.underlying t = some (.map kt et)) (hp : Pick (mapV ek ev v ps) l m) (hd : Nat.blt d n = true)
    (k : ∀ r, Jk E (rangeA ek ev v r ps [] :: m) n ((d, .pointer (some ⟨r, 0, none⟩)) :: F) K) : Jop P ops Q ⟨some d, .range t x, T, p, e, none⟩ E l n F K := fun w A H hF => by
  have hw : Region.wanted (⟨some d, .range t x, T, p, e, none⟩ : Oper) (yielded ops A.tmps) = true := rfl
  rw [if_pos hw]
  unfold Oper.wp
  have H' := H.pick hp
  obtain ⟨S, hk, h⟩ := H'.head
  rcases h with ⟨rfl, rfl, _⟩ | ⟨b, es, c, rfl, h2, h3, h4, h5, h6⟩
  · have hrun : (execOp A.eval ⟨some d, .range t x, T, p, e, none⟩).run P w = .ok (.value (.pointer (some ⟨w.heap.size, 0, none⟩))) (w.alloc (.mapIter none 0 #[] 0)) := by
      simp [execOp, hF.evl hx, run_range_nilMap w t kt et ht]
    rw [hrun]
    refine k _ _ _ (H'.rep .here alloc_same fun S' hS' => ⟨⟨fun q => q.1 = w.heap.size, ⟨hk, .inl ⟨rfl, rfl, heap_alloc_new w _, fun _ => Iff.rfl⟩⟩, fun b hb => .inr (by omega)⟩, fun b hb _ => lk_of_heap (alloc_old hb)⟩) (hF.put hd)
  · have hrun : (execOp A.eval ⟨some d, .range t x, T, p, e, none⟩).run P w = .ok (.value (.pointer (some ⟨w.heap.size, 0, none⟩))) (w.alloc (.mapIter (some b) c #[] c)) := by
      simp [execOp, hF.evl hx, run_range_map w t kt et b es c ht h2]
    rw [hrun]
    have hb := (Array.getElem?_eq_some_iff.1 h2).1
    refine k _ _ _ (H'.rep .here alloc_same fun S' hS' => ⟨⟨fun q => q.1 = b ∨ q.1 = w.heap.size, ⟨hk, .inr ⟨b, es, c, c, #[], c, rfl, (alloc_old hb).trans h2, heap_alloc_new w _, h3, h4, h5, h5, Nat.le_refl _, Nat.le_refl _, fun _ _ _ _ _ => by simp, fun _ h => (by cases h), fun _ => Iff.rfl⟩⟩, fun q hq => ?_⟩, fun b hb _ => lk_of_heap (alloc_old hb)⟩) (hF.put hd)
    obtain ⟨_, hS'⟩ := hS'
    rcases hS' with ⟨h, _⟩ | ⟨b', _, _, h, _, _, _, _, h8⟩
    · cases h
    · cases h
      rcases hq with hq | hq
      · exact .inl ((h8 _).2 hq)
      · exact .inr (by omega)
theorem x_next {ps : List (κ × υ)} {r : Nat} {done : List κ} (hx : evl F x = some (.pointer (some ⟨r, 0, none⟩))) (hp : Pick (rangeA ek ev v r ps done) l m) (hd : Nat.blt d n = true)
    (k1 : ∀ a u, (a, u) ∈ ps → a ∉ done → Jk E (rangeA ek ev v r ps (done ++ [a]) :: m) n ((d, .tuple #[.bool true, ek a, ev u]) :: F) K)
    (k0 : (∀ q ∈ ps, q.1 ∈ done) → Jk E (rangeA ek ev v r ps done :: m) n ((d, .tuple #[.bool false]) :: F) K) :
    Jop P ops Q ⟨some d, .next x false, T, p, e, none⟩ E l n F K := fun w A H hF => by
  have hw : Region.wanted (⟨some d, .next x false, T, p, e, none⟩ : Oper) (yielded ops A.tmps) = true := rfl
  rw [if_pos hw]
  unfold Oper.wp
  have H' := H.pick hp
  obtain ⟨S, hk, h⟩ := H'.head
  rcases h with ⟨rfl, rfl, h3, h4⟩ | ⟨b, es, c, since, seen, last, rfl, h2, h3, h4, h5, h6, h7, h8, h9, h10, h12, h11⟩
  · have hrun : (execOp A.eval ⟨some d, .next x false, T, p, e, none⟩).run P w = .ok (.value (.tuple #[.bool false])) w := by
      simp [execOp, hF.evl hx, Instr.next, getObj, Sem.run, h3]
    rw [hrun]
    exact k0 (fun q hq => by cases hq) _ _ H' (hF.put hd)
  · rcases run_nextR (P := P) w T h2 h3 h7 h8 with ⟨g1, g2⟩ | ⟨en, g1, g2, dn, g3, g4⟩
    · have hrun : (execOp A.eval ⟨some d, .next x false, T, p, e, none⟩).run P w = .ok (.value (.tuple #[.bool false])) w := by
        simp [execOp, hF.evl hx, g2]
      rw [hrun]
      refine k0 (fun q hq => ?_) _ _ H' (hF.put hd)
      obtain ⟨i, hi⟩ := List.getElem?_of_mem hq
      obtain ⟨en, e1, _⟩ := entry_at h4 hi
      exact (h10 i en q e1 hi).1 (g1 en (List.mem_of_getElem? e1))
    · obtain ⟨i, hi⟩ := List.getElem?_of_mem g1
      have hil : i < ps.length := by
        have := congrArg List.length h4
        simp at this
        have h0 := (List.getElem?_eq_some_iff.1 hi).1
        simp at h0
        omega
      obtain ⟨q, hq⟩ : ∃ q, ps[i]? = some q := ⟨_, List.getElem?_eq_getElem hil⟩
      obtain ⟨en', e1, e2, e3⟩ := entry_at h4 hq
      rw [hi] at e1
      cases e1
      have hrun : (execOp A.eval ⟨some d, .next x false, T, p, e, none⟩).run P w = .ok (.value (.tuple #[.bool true, ek q.1, ev q.2])) { w with drawn := dn, heap := w.heap.setIfInBounds r (.mapIter (some b) since (seen.push en.born) c) } := by
        simp [execOp, hF.evl hx, g4, e2, e3]
      rw [hrun]
      have hnd : q.1 ∉ done := fun hd => by have := (h10 i en q hi hq).2 hd; rw [g2] at this; cases this
      have hbr : b ≠ r := fun hh => by subst hh; rw [h2] at h3; cases h3
      refine k1 q.1 q.2 (List.mem_of_getElem? hq) hnd _ _ (H'.rep .here ⟨rfl, rfl, ⟨rfl, g3⟩, by simp⟩ fun S' hS' => ?_) (hF.put hd)
      obtain ⟨_, hS'⟩ := hS'
      have hSb : ∀ k, S' k ↔ k.1 = b ∨ k.1 = r := by
        rcases hS' with ⟨h, _⟩ | ⟨b', _, _, _, _, _, h, _, _, _, _, _, _, _, _, _, _, hx⟩
        · cases h
        · cases h; exact hx
      have out : ∀ q : Loc, q.1 ≠ r → lk { w with drawn := dn, heap := w.heap.setIfInBounds r (.mapIter (some b) since (seen.push en.born) c) } q = lk w q := fun q hq => lk_of_heap <| by
        show (w.heap.setIfInBounds r _)[q.1]? = _
        rw [Array.getElem?_setIfInBounds_ne (fun e => hq e.symm)]
      refine ⟨⟨S', ⟨hk, .inr ⟨b, es, c, since, seen.push en.born, c, rfl, ?_, ?_, h4, h5, h6, h7, h9, h9, fun j ej pj hj hpj => ?_, fun a ha => ⟨rfl, fun j ej pj hj hpj hpa => ?_⟩, hSb⟩⟩, fun _ h => .inl h⟩, fun k _ hk => out k fun h => hk ((hSb k).2 (.inr h))⟩
      · show (w.heap.setIfInBounds r _)[b]? = _
        rw [Array.getElem?_setIfInBounds_ne (fun e => hbr e.symm)]; exact h2
      · show (w.heap.setIfInBounds r _)[r]? = _
        rw [Array.getElem?_setIfInBounds_self_of_lt (Array.getElem?_eq_some_iff.1 h3).1]
      · rw [Array.contains_push, List.mem_append, Bool.or_eq_true, h10 j ej pj hj hpj, List.mem_singleton, beq_iff_eq]
        have : en.born = ej.born ↔ pj.1 = q.1 := by
          constructor
          · intro hh
            have : i = j := nodup_idx h5 (by rw [List.getElem?_map, hi]; rfl) (by rw [List.getElem?_map, hj, Option.map_some]; exact congrArg some hh.symm)
            subst this
            rw [hq] at hpj; cases hpj; rfl
          · intro hh
            have : i = j := nodup_idx hk (by rw [List.getElem?_map, hq]; rfl) (by rw [List.getElem?_map, hpj, Option.map_some, hh])
            subst this
            rw [hi] at hj; cases hj; rfl
        rw [eq_comm (a := ej.born), this]
      · rw [List.getLast?_append, List.getLast?_singleton] at ha
        simp at ha
        subst ha
        have : i = j := nodup_idx hk (by rw [List.getElem?_map, hq]; rfl) (by rw [List.getElem?_map, hpj, Option.map_some, hpa])
        subst this
        rw [hi] at hj; cases hj
        simp
omit [DecidableEq κ] in
theorem v_entry {ps : List (κ × υ)} {r : Nat} {done : List κ} {a : κ} {c : υ} (hx : evl F x = some (.pointer (some ⟨r, 0, none⟩))) (hh : Has (rangeA ek ev v r ps done) l) (hl : done.getLast? = some a) (hm : (a, c) ∈ ps) :
    Vl P ⟨dst, .entry x, T, p, e, g⟩ E l F n (.tuple #[ek a, ev c]) := fun w A H hF => by
  obtain ⟨S, hk, h⟩ := H.has hh
  rcases h with ⟨rfl, rfl, h3, h4⟩ | ⟨b, es, ck, since, seen, last, rfl, h2, h3, h4, h5, h6, h7, h8, h9, h10, h12, h11⟩
  · cases hm
  · obtain ⟨i, hi⟩ := List.getElem?_of_mem hm
    obtain ⟨en, e1, e2, e3⟩ := entry_at h4 hi
    obtain ⟨rfl, g2⟩ := h12 a hl
    have g3 := g2 i en _ e1 hi rfl
    have hf : es.find? (·.born == en.born) = some en := by rw [← Array.find?_toList]; exact find_born en es.toList h5 (List.mem_of_getElem? e1)
    simp [execOp, hF.evl hx, Instr.entry, getObj, Sem.run, h3, h2, g3, hf, e2, e3]
omit [DecidableEq κ] in
theorem J_rangeEnd {ps : List (κ × υ)} {r : Nat} {done : List κ} (k : Jk E (mapV ek ev v ps :: l) n F K) : Jk E (rangeA ek ev v r ps done :: l) n F K :=
  J_imp (fun w S ⟨hk, h⟩ => by
    rcases h with ⟨h1, h2, h3, h4⟩ | ⟨b, es, c, since, seen, last, h1, h2, h3, h4, h5, h6, h7, h8, h9, h10, h12, h11⟩
    · exact ⟨fun _ => False, ⟨hk, .inl ⟨h1, h2, fun _ h => h⟩⟩, fun _ h => h.elim⟩
    · exact ⟨fun q => q.1 = b, ⟨hk, .inr ⟨b, es, c, h1, h2, h4, h5, h6, fun _ => Iff.rfl⟩⟩, fun q hq => (h11 q).2 (.inl hq)⟩) k
omit [DecidableEq κ] in
theorem J_rangeKeyd {ps : List (κ × υ)} {r : Nat} {done : List κ} (hh : Has (rangeA ek ev v r ps done) l) (k : Keyd ps → Jk E l n F K) : Jk E l n F K :=
  J_know (fun _ H => let ⟨_, hk, _⟩ := H.has hh; hk) k
omit [DecidableEq κ] in
end
/-! ### plain: keys that come one by one -/
section
variable {κ υ : Type} [DecidableEq κ]
def Come (ps : List (κ × υ)) (done : List κ) : Prop := done.Nodup ∧ ∀ a ∈ done, a ∈ ps.map Prod.fst
omit [DecidableEq κ] in
theorem Come.nil {ps : List (κ × υ)} : Come ps [] := ⟨List.nodup_nil, fun _ h => by cases h⟩
omit [DecidableEq κ] in
theorem Come.step {ps : List (κ × υ)} {done : List κ} {a : κ} {u : υ} (h : Come ps done) (hm : (a, u) ∈ ps) (hn : a ∉ done) : Come ps (done ++ [a]) := by
  refine ⟨?_, fun c hc => ?_⟩
  · rw [List.nodup_append]
    refine ⟨h.1, by simp, fun x hx y hy => ?_⟩
    simp at hy; subst hy; exact fun e => hn (e ▸ hx)
  · rcases List.mem_append.1 hc with hc | hc
    · exact h.2 c hc
    · simp at hc; subst hc; exact List.mem_map.2 ⟨_, hm, rfl⟩
omit [DecidableEq κ] in
theorem Come.perm {ps : List (κ × υ)} {done : List κ} (h : Come ps done) (hk : Keyd ps) (ha : ∀ q ∈ ps, q.1 ∈ done) : done.Perm (ps.map Prod.fst) :=
  (List.perm_ext_iff_of_nodup h.1 hk).2 fun a => ⟨h.2 a, fun hm => by obtain ⟨q, hq, rfl⟩ := List.mem_map.1 hm; exact ha q hq⟩
theorem Come.len {ps : List (κ × υ)} {done : List κ} (h : Come ps done) (hk : Keyd ps) : done.length ≤ ps.length := by
  have hp : done.Perm ((ps.map Prod.fst).filter fun a => decide (a ∈ done)) := (List.perm_ext_iff_of_nodup h.1 (List.Nodup.sublist List.filter_sublist hk)).2 fun a => by
    rw [List.mem_filter]
    exact ⟨fun ha => ⟨h.2 a ha, by simpa using ha⟩, fun ha => by simpa using ha.2⟩
  have := hp.length_eq
  have h2 := List.length_filter_le (fun a => decide (a ∈ done)) (ps.map Prod.fst)
  simp only [List.length_map] at h2
  omega
theorem Come.lt {ps : List (κ × υ)} {done : List κ} {a : κ} {u : υ} (h : Come ps done) (hk : Keyd ps) (hm : (a, u) ∈ ps) (hn : a ∉ done) : done.length < ps.length := by
  have := (h.step hm hn).len hk
  simp at this
  omega
theorem look_mem {ps : List (κ × υ)} (hk : Keyd ps) {a : κ} {u : υ} (hm : (a, u) ∈ ps) : look ps a = some u := by
  induction ps with
  | nil => cases hm
  | cons q ps ih =>
    rw [look_cons]
    obtain ⟨h1, h2⟩ := List.nodup_cons.1 hk
    rcases List.mem_cons.1 hm with rfl | hm
    · simp
    · have : ¬ q.1 = a := fun e => h1 (List.mem_map.2 ⟨_, hm, e.symm⟩)
      rw [if_neg this]; exact ih h2 hm
theorem mem_look {ps : List (κ × υ)} {a : κ} {u : υ} (h : look ps a = some u) : (a, u) ∈ ps := by
  induction ps with
  | nil => cases h
  | cons q ps ih =>
    rw [look_cons] at h
    split at h
    · rename_i e; cases h; subst e; simp
    · exact List.mem_cons_of_mem _ (ih h)
end
/-! ### pointers against nil -/
section
variable {P : Program} {n : Nat} {F : Env} {T : TypeId} {p : String} {e : Array Edge} {g : Option (Nat × Bool)} {dst : Option Tmp} {t et ty : TypeId} {x : Operand}
theorem ptr_guard {op : BinOp} {y : Operand} {a b : Option Addr} (w : World) : (eqGuard op t x y (.pointer a) (.pointer b)).run P w = .ok () w := by
  unfold eqGuard
  cases op <;> rfl
theorem run_eqPtr {a : Option Addr} (ht : P.underlying t = some (.pointer et)) (w : World) : (Op.equal t (.pointer a) (.pointer none)).run P w = .ok a.isNone w := by
  have h0 : ∀ D, (Op.equalIn (D + 1) t (.pointer a) (.pointer none)).run P w = .ok a.isNone w := fun D => by
    cases a <;> simp [Op.equalIn, run_underlying ht]
  exact h0 9999
theorem p_eqNilPtr {a : Option Addr} (ht : P.underlying t = some (.pointer et)) (hx : evl F x = some (.pointer a)) : Pur P ⟨dst, .binOp .eql t x (.const (.pointer none)) ty, T, p, e, g⟩ F n (.bool a.isNone) :=
  p_eqv hx rfl (fun w => ptr_guard w) (fun w => by simp only [binOp, Sem.run_bind, run_eqPtr ht]; rfl)
theorem p_neNilPtr {a : Option Addr} (ht : P.underlying t = some (.pointer et)) (hx : evl F x = some (.pointer a)) : Pur P ⟨dst, .binOp .neq t x (.const (.pointer none)) ty, T, p, e, g⟩ F n (.bool a.isSome) :=
  p_nev hx rfl (fun w => ptr_guard w) (fun w => by
    simp only [binOp, Sem.run_bind, run_eqPtr ht]
    cases a <;> rfl)
end
end Go.Pse
namespace Go.Pse
open Go.RowKit
section
variable {κ υ : Type} [DecidableEq κ] {ek : κ → Value} {ev : υ → Value}
def entA (ek : κ → Value) (ev : υ → Value) (v : Value) (ps : List (κ × υ)) (a : κ) (st : Int) : As where
  h w S := Keyd ps ∧ ∃ b es c i en, v = .map (some b) ∧ w.heap[b]? = some (.map es c) ∧ (es.toList.map (·.born)).Nodup ∧ (∀ e ∈ es.toList, e.born < c) ∧ es[i]? = some en ∧ st = (en.born : Int) ∧
    (∀ u, (es.toList.set i { en with val := ev u }).map (fun e => (e.key, e.val)) = (ins ps a u).map (enP ek ev)) ∧ ∀ k, S k ↔ k.1 = b
  loc := fun {w w' S} ⟨hk, h⟩ hs => ⟨hk, by
    obtain ⟨b, es, c, i, en, h1, h2, h3, h4, h5, h6, h7, h8⟩ := h
    exact ⟨b, es, c, i, en, h1, (heap_of_lk fun i => hs (b, i) ((h8 (b, i)).2 rfl)).trans h2, h3, h4, h5, h6, h7, h8⟩⟩
  lt := fun {w S q} ⟨_, h⟩ hb => by
    obtain ⟨b, es, c, i, en, h1, h2, h3, h4, h5, h6, h7, h8⟩ := h
    rw [(h8 _).1 hb]; exact (Array.getElem?_eq_some_iff.1 h2).1
variable {P : Program} {ops : Array Oper} {Q : Exit → Act → World → Prop} {E : World} {l m : List As} {n : Nat} {F : Env} {K : Act → World → Prop}
variable {d : Nat} {T : TypeId} {p : String} {e : Array Edge} {t : TypeId} {x y z : Operand} {v : Value}
theorem x_mapEntry {kt et : TypeId} {b : Nat} {ps : List (κ × υ)} {a : κ} {zv : Value} (hx : evl F x = some (.map (some b))) (hy : evl F y = some (ek a)) (hd : Nat.blt d n = true) (Ke : Ky P kt ek) (ht : P.underlying t = some (.map kt et)) (hz : ((P.info? et).bind (·.zero)) = some zv)
    (hp : Pick (mapV ek ev (.map (some b)) ps) l m) (k : ∀ u st, Jk E (entA ek ev (.map (some b)) ps a st :: m) n ((d, .tuple #[u, .int .i64 st]) :: F) K) : Jop P ops Q ⟨some d, .mapEntry t x y, T, p, e, none⟩ E l n F K := fun w A H hF => by
  have hw : Region.wanted (⟨some d, .mapEntry t x y, T, p, e, none⟩ : Oper) (yielded ops A.tmps) = true := rfl
  rw [if_pos hw]
  unfold Oper.wp
  have H' := H.pick hp
  obtain ⟨S, hk, h⟩ := H'.head
  rcases h with ⟨h, _⟩ | ⟨b', es, ck, h1, h2, h3, h4, h5, h6⟩
  · cases h
  · cases h1
    have hg : (getObj b).run P w = .ok (.map es ck) w := by simp [getObj, Sem.run, h2]
    have hs : ∀ o, (setObj b o).run P w = .ok () { w with heap := w.heap.setIfInBounds b o } := fun o => by simp [setObj, Sem.run, h2]
    have hf := Ke.find a es.toList (ps.map Prod.fst) w (keys_of h3)
    have hz' : (zeroValue et).run P w = .ok zv w := by
      cases hi : P.info? et with
      | none => rw [hi] at hz; cases hz
      | some i => rw [hi] at hz; simp only [Option.bind_some] at hz; simp [zeroValue, typeInfo, program, Sem.run, hi, hz]
    have upd : ∀ (es' : Array MapEntry) (ck' i : Nat) (en : MapEntry), (es'.toList.map (·.born)).Nodup → (∀ e ∈ es'.toList, e.born < ck') → es'[i]? = some en →
        (∀ u, (es'.toList.set i { en with val := ev u }).map (fun e => (e.key, e.val)) = (ins ps a u).map (enP ek ev)) →
        Sep E { w with heap := w.heap.setIfInBounds b (.map es' ck') } (entA ek ev (.map (some b)) ps a (en.born : Int) :: m) := fun es' ck' i en g1 g2 g3 g4 => by
      refine H'.rep .here put_same fun S' hS' => ?_
      obtain ⟨_, hS'⟩ := hS'
      have hSb : ∀ k, S' k ↔ k.1 = b := by
        rcases hS' with ⟨h, _⟩ | ⟨b', _, _, h, _, _, _, _, h8⟩
        · cases h
        · cases h; exact h8
      exact ⟨⟨S', ⟨hk, b, es', ck', i, en, rfl, put_in h2, g1, g2, g3, rfl, g4, hSb⟩, fun _ h => .inl h⟩, fun k _ hk => put_out fun h => hk ((hSb k).2 h)⟩
    cases hxi : (ps.map Prod.fst).findIdx? (fun c => decide (c = a)) with
    | none =>
      rw [hxi] at hf
      have hn := look_idx hxi
      have hrun : (execOp A.eval ⟨some d, .mapEntry t x y, T, p, e, none⟩).run P w = .ok (.value (.tuple #[zv, goInt ck])) { w with heap := w.heap.setIfInBounds b (.map (es.push { key := ek a, val := zv, born := ck }) (ck + 1)) } := by
        simp [execOp, hF.evl hx, hF.evl hy, Instr.mapEntry, run_underlying ht, hg, Ke.check, hf, hs, hz']
      rw [hrun]
      refine k _ _ _ _ (upd _ _ es.size { key := ek a, val := zv, born := ck } ?_ ?_ (by simp) fun u => ?_) (hF.put hd)
      · simp only [Array.toList_push, List.map_append, List.map_cons, List.map_nil]
        rw [List.nodup_append]
        refine ⟨h4, by simp, fun q hq r hr => ?_⟩
        obtain ⟨en, hen, rfl⟩ := List.mem_map.1 hq
        have := h5 en hen
        simp at hr
        subst hr
        omega
      · intro en hen
        simp only [Array.toList_push, List.mem_append, List.mem_singleton] at hen
        rcases hen with hen | rfl
        · have := h5 en hen; omega
        · simp
      · rw [Array.toList_push, List.set_append_right _ _ (by simp)]
        unfold ins
        rw [if_neg (by simp [hn])]
        simp [h3, enP]
    | some i =>
      rw [hxi] at hf
      obtain ⟨q, g1, g2, g3⟩ := look_at hxi
      obtain ⟨en, e1, e2, e3⟩ := entry_at h3 g1
      simp only [e1, Option.map_some] at hf
      have e1' : es[i]? = some en := by simpa using e1
      have hil := (Array.getElem?_eq_some_iff.1 e1').1
      have hrun : (execOp A.eval ⟨some d, .mapEntry t x y, T, p, e, none⟩).run P w = .ok (.value (.tuple #[en.val, goInt en.born])) { w with heap := w.heap.setIfInBounds b (.map (es.modify i fun e => { e with key := ek a }) ck) } := by
        simp [execOp, hF.evl hx, hF.evl hy, Instr.mapEntry, run_underlying ht, hg, Ke.check, hf, hs, e1', e2, g2, Instr.keyThatStays, Ke.same]
      rw [hrun]
      have hmod : (es.modify i fun e => { e with key := ek a }).toList = es.toList.set i { en with key := ek a } := by
        have hl2 : i < es.toList.length := by simpa using hil
        rw [Array.toList_modify]
        apply List.ext_getElem?
        intro j
        rw [List.getElem?_set, List.getElem?_modify]
        by_cases hij : i = j
        · subst hij; rw [if_pos rfl, if_pos hl2, e1]; simp
        · simp [hij]
      have hb : (es.modify i fun e => { e with key := ek a })[i]? = some { en with key := ek a } := by
        rw [← Array.getElem?_toList, hmod, List.getElem?_set_self (by simpa using hil)]
      refine k _ _ _ _ (upd _ _ i { en with key := ek a } ?_ ?_ hb fun u => ?_) (hF.put hd)
      · rw [hmod, List.map_set]
        have : (es.toList.map (·.born)).set i en.born = es.toList.map (·.born) := by
          apply List.ext_getElem?
          intro j
          rw [List.getElem?_set]
          by_cases hij : i = j
          · subst hij
            have := (Array.getElem?_eq_some_iff.1 e1').2
            simp [hil, this]
          · simp [hij]
        rw [this]; exact h4
      · intro f hf'
        rw [hmod] at hf'
        rcases List.mem_or_eq_of_mem_set hf' with hf' | rfl
        · exact h5 f hf'
        · exact h5 en (List.mem_of_getElem? e1)
      · rw [hmod, List.set_set, ins_at hk g1 g2, List.map_set, List.map_set, h3]; rfl
omit [DecidableEq κ] in
theorem born_idx {es : Array MapEntry} {i : Nat} {en : MapEntry} (hn : (es.toList.map (·.born)).Nodup) (hi : es[i]? = some en) : es.findIdx? (fun e => (e.born : Int) == (en.born : Int)) = some i := by
  rw [Array.findIdx?_eq_some_iff_getElem]
  obtain ⟨h1, h2⟩ := Array.getElem?_eq_some_iff.1 hi
  refine ⟨h1, by simp [h2], fun j hj => ?_⟩
  intro hc
  have hb : es[j].born = en.born := by have := eq_of_beq hc; omega
  have : j = i := nodup_idx hn (x := en.born) (by rw [List.getElem?_map, Array.getElem?_toList, Array.getElem?_eq_getElem (by omega), Option.map_some, hb]) (by rw [List.getElem?_map, Array.getElem?_toList, hi]; rfl)
  omega
theorem x_entryStore {b : Nat} {ps : List (κ × υ)} {a : κ} {c : υ} {st : Int} (hx : evl F x = some (.map (some b))) (hy : evl F y = some (.int .i64 st)) (hz : evl F z = some (ev c))
    (hp : Pick (entA ek ev (.map (some b)) ps a st) l m) (k : Jk E (mapV ek ev (.map (some b)) (ins ps a c) :: m) n F K) : Jop P ops Q ⟨none, .entryStore t x y z, T, p, e, none⟩ E l n F K := fun w A H hF => by
  have hw : Region.wanted (⟨none, .entryStore t x y z, T, p, e, none⟩ : Oper) (yielded ops A.tmps) = true := rfl
  rw [if_pos hw]
  unfold Oper.wp
  have H' := H.pick hp
  obtain ⟨S, hk, b', es, ck, i, en, h1, h2, h3, h4, h5, h6, h7, h8⟩ := H'.head
  cases h1
  have hg : (getObj b).run P w = .ok (.map es ck) w := by simp [getObj, Sem.run, h2]
  have hs : ∀ o, (setObj b o).run P w = .ok () { w with heap := w.heap.setIfInBounds b o } := fun o => by simp [setObj, Sem.run, h2]
  have hil := (Array.getElem?_eq_some_iff.1 h5).1
  have hrun : (execOp A.eval ⟨none, .entryStore t x y z, T, p, e, none⟩).run P w = .ok .skip { w with heap := w.heap.setIfInBounds b (.map (es.modify i fun e => { e with val := ev c }) ck) } := by
    have hf := born_idx h3 h5
    rw [← h6] at hf
    simp [execOp, hF.evl hx, hF.evl hy, hF.evl hz, Instr.entryStore, hg, asInt, asIntOf, hf, hs]
  rw [hrun]
  have e1 : es.toList[i]? = some en := by simpa using h5
  have hmod : (es.modify i fun e => { e with val := ev c }).toList = es.toList.set i { en with val := ev c } := by
    have hl2 : i < es.toList.length := by simpa using hil
    rw [Array.toList_modify]
    apply List.ext_getElem?
    intro j
    rw [List.getElem?_set, List.getElem?_modify]
    by_cases hij : i = j
    · subst hij; rw [if_pos rfl, if_pos hl2, e1]; simp
    · simp [hij]
  refine k _ _ (H'.rep .here put_same fun S' hS' => ?_) hF
  have hSb : ∀ k, S' k ↔ k.1 = b := by
    obtain ⟨_, b', _, _, _, _, h, _, _, _, _, _, _, hx⟩ := hS'
    cases h; exact hx
  refine ⟨⟨S', ⟨hk.ins a c, .inr ⟨b, _, ck, rfl, put_in h2, ?_, ?_, ?_, hSb⟩⟩, fun _ h => .inl h⟩, fun k _ hk => put_out fun h => hk ((hSb k).2 h)⟩
  · rw [hmod]; exact h7 c
  · rw [hmod, List.map_set]
    have : (es.toList.map (·.born)).set i en.born = es.toList.map (·.born) := by
      apply List.ext_getElem?
      intro j
      rw [List.getElem?_set]
      by_cases hij : i = j
      · subst hij
        have := (Array.getElem?_eq_some_iff.1 h5).2
        simp [hil, this]
      · simp [hij]
    rw [this]; exact h3
  · intro f hf'
    rw [hmod] at hf'
    rcases List.mem_or_eq_of_mem_set hf' with hf' | rfl
    · exact h4 f hf'
    · exact h4 en (List.mem_of_getElem? e1)
end
end Go.Pse
namespace Go.Pse
open Go.RowKit Go.Proofs
/-! ### plain: the kinds of things that a kernel holds -/
structure Cap where
  kind : Int
  obj : Int
  size : Int
  badge : Int
  rights : Int
  deriving DecidableEq
def encC (c : Cap) : List Value := [.int .i64 c.kind, .int .i64 c.obj, .int .i64 c.size, .int .i64 c.badge, .int .i64 c.rights]
abbrev Place := Int × Int
abbrev SV := Cap × Place
abbrev kI : Int × Int → Value := fun a => Value.agg #[.int .i64 a.1, .int .i64 a.2]
abbrev kZ : Int → Value := fun a => .int .i64 a
abbrev evZ : Int → Value := fun a => .int .i64 a
abbrev evB : Bool → Value := fun b => .bool b
abbrev evA : Nat → Value := fun b => .pointer (some ⟨b, 0, none⟩)
abbrev evS : SV → Value := fun s => .agg #[.int .i64 s.1.kind, .int .i64 s.1.obj, .int .i64 s.1.size, .int .i64 s.1.badge, .int .i64 s.1.rights, .int .i64 s.2.1, .int .i64 s.2.2]
structure Th where
  unit : Int
  space : Int
  ring : Int
  root : Cap
  deriving DecidableEq
abbrev evT : Th → Value := fun t => .agg #[.int .i64 t.unit, .int .i64 t.space, .int .i64 t.ring, .int .i64 t.root.kind, .int .i64 t.root.obj, .int .i64 t.root.size, .int .i64 t.root.badge, .int .i64 t.root.rights]
abbrev evL : Int × Int → Value := fun b => .agg #[.int .i64 b.1, .int .u32 b.2]
structure Sqe where
  op : Int
  flags : Int
  tag : Int
  cap : Int
  a : Int
  b : Int
  c : Int
  time : Int
  deriving DecidableEq
structure Rq where
  id : ID
  e : Sqe
  prev : Int
  soft : Bool
  started : Bool
  deriving DecidableEq
def encQ (r : Rq) : List Value := [.int .i64 r.id.1, .int .i64 r.id.2, .int .i64 r.e.op, .int .i64 r.e.flags, .int .u32 r.e.tag, .int .u32 r.e.cap, .int .u32 r.e.a, .int .u32 r.e.b, .int .u32 r.e.c, .int .u32 r.e.time, .int .i64 r.prev, .bool r.soft, .bool r.started]
abbrev evQ : Rq → Value := fun r => .agg (encQ r).toArray
abbrev Msg := ID × Int × Int × Bool
abbrev Rcv := ID × Int
def encM (m : Msg) : List Value := [.int .i64 m.1.1, .int .i64 m.1.2, .int .u32 m.2.1, .int .i64 m.2.2.1, .bool m.2.2.2]
def encR (r : Rcv) : List Value := [.int .i64 r.1.1, .int .i64 r.1.2, .int .i64 r.2]
abbrev Tm := Int × ID
def encT (t : Tm) : List Value := [.int .u64 t.1, .int .i64 t.2.1, .int .i64 t.2.2]
abbrev Deed := ID × Int × Int × Int × Int × Bool
def encD (d : Deed) : List Value := [.int .i64 d.1.1, .int .i64 d.1.2, .int .u32 d.2.1, .int .i64 d.2.2.1, .int .i64 d.2.2.2.1, .int .u32 d.2.2.2.2.1, .bool d.2.2.2.2.2]
abbrev Cqe := Int × Int × Int × Int
def encX (c : Cqe) : List Value := [.int .u32 c.1, .int .i32 c.2.1, .int .u32 c.2.2.1, .int .u32 c.2.2.2]
structure Rg where
  sq : Int
  cq : Int
  sb : Int
  cb : Int
  head : Int
  tail : Int
  over : List Cqe
def c0 : Cap := ⟨0, 0, 0, 0, 0⟩
def s0 : SV := (c0, (0, 0))
def t0 : Th := ⟨0, 0, 0, c0⟩
def ptrOf (o : Option Nat) : Value := .pointer (o.map fun b => ⟨b, 0, none⟩)
def slP (_ _ : Nat) (_ : List (Place × SV)) (_ : Option Nat) : Prop := True
def slL (b o : Nat) (ps : List (Place × SV)) (ob : Option Nat) : List As := [fld b o [.map ob], mapV kI evS (.map ob) ps]
def slA (b o : Nat) (ps : List (Place × SV)) : As := As.ex fun g : (Option Nat) => As.all (As.pure (slP b o ps g) :: slL b o ps g)
theorem J_slO {E : World} {l : List As} {n : Nat} {F : Env} {K : Act → World → Prop} {b o : Nat} {ps : List (Place × SV)} (k : ∀ ob, slP b o ps ob → Jk E (fld b o [.map ob] :: mapV kI evS (.map ob) ps :: l) n F K) : Jk E (slA b o ps :: l) n F K := J_unfold (f := fun g : (Option Nat) => As.all (As.pure (slP b o ps g) :: slL b o ps g)) (fun _ => rfl) (fun g h => k g h)
theorem J_slS {E : World} {l m : List As} {n : Nat} {F : Env} {K : Act → World → Prop} {b o : Nat} {ps : List (Place × SV)} (ob : Option Nat) (hs : Picks [fld b o [.map ob], mapV kI evS (.map ob) ps] l m) (h : slP b o ps ob) (k : Jk E (slA b o ps :: m) n F K) : Jk E l n F K := J_fold (f := fun g : (Option Nat) => As.all (As.pure (slP b o ps g) :: slL b o ps g)) (ob) rfl hs h k
def mkP (_ _ : Nat) (_ : List (Place × Int)) (_ : Option Nat) : Prop := True
def mkL (b o : Nat) (ps : List (Place × Int)) (ob : Option Nat) : List As := [fld b o [.map ob], mapV kI evZ (.map ob) ps]
def mkA (b o : Nat) (ps : List (Place × Int)) : As := As.ex fun g : (Option Nat) => As.all (As.pure (mkP b o ps g) :: mkL b o ps g)
theorem J_mkS {E : World} {l m : List As} {n : Nat} {F : Env} {K : Act → World → Prop} {b o : Nat} {ps : List (Place × Int)} (ob : Option Nat) (hs : Picks [fld b o [.map ob], mapV kI evZ (.map ob) ps] l m) (h : mkP b o ps ob) (k : Jk E (mkA b o ps :: m) n F K) : Jk E l n F K := J_fold (f := fun g : (Option Nat) => As.all (As.pure (mkP b o ps g) :: mkL b o ps g)) (ob) rfl hs h k
abbrev M1 := Int × Int
def spP (_ _ : Nat) (_ : List (Place × M1)) (_ : Option Nat) : Prop := True
def spL (b o : Nat) (ps : List (Place × M1)) (ob : Option Nat) : List As := [fld b o [.map ob], mapV kI kI (.map ob) ps]
def spA (b o : Nat) (ps : List (Place × M1)) : As := As.ex fun g : (Option Nat) => As.all (As.pure (spP b o ps g) :: spL b o ps g)
theorem J_spO {E : World} {l : List As} {n : Nat} {F : Env} {K : Act → World → Prop} {b o : Nat} {ps : List (Place × M1)} (k : ∀ ob, spP b o ps ob → Jk E (fld b o [.map ob] :: mapV kI kI (.map ob) ps :: l) n F K) : Jk E (spA b o ps :: l) n F K := J_unfold (f := fun g : (Option Nat) => As.all (As.pure (spP b o ps g) :: spL b o ps g)) (fun _ => rfl) (fun g h => k g h)
theorem J_spS {E : World} {l m : List As} {n : Nat} {F : Env} {K : Act → World → Prop} {b o : Nat} {ps : List (Place × M1)} (ob : Option Nat) (hs : Picks [fld b o [.map ob], mapV kI kI (.map ob) ps] l m) (h : spP b o ps ob) (k : Jk E (spA b o ps :: m) n F K) : Jk E l n F K := J_fold (f := fun g : (Option Nat) => As.all (As.pure (spP b o ps g) :: spL b o ps g)) (ob) rfl hs h k
def rtP (_ _ : Nat) (_ : List (ID × Rq)) (_ : Option Nat) : Prop := True
def rtL (b o : Nat) (ps : List (ID × Rq)) (ob : Option Nat) : List As := [fld b o [.map ob], mapV kI evQ (.map ob) ps]
def rtA (b o : Nat) (ps : List (ID × Rq)) : As := As.ex fun g : (Option Nat) => As.all (As.pure (rtP b o ps g) :: rtL b o ps g)
theorem J_rtO {E : World} {l : List As} {n : Nat} {F : Env} {K : Act → World → Prop} {b o : Nat} {ps : List (ID × Rq)} (k : ∀ ob, rtP b o ps ob → Jk E (fld b o [.map ob] :: mapV kI evQ (.map ob) ps :: l) n F K) : Jk E (rtA b o ps :: l) n F K := J_unfold (f := fun g : (Option Nat) => As.all (As.pure (rtP b o ps g) :: rtL b o ps g)) (fun _ => rfl) (fun g h => k g h)
theorem J_rtS {E : World} {l m : List As} {n : Nat} {F : Env} {K : Act → World → Prop} {b o : Nat} {ps : List (ID × Rq)} (ob : Option Nat) (hs : Picks [fld b o [.map ob], mapV kI evQ (.map ob) ps] l m) (h : rtP b o ps ob) (k : Jk E (rtA b o ps :: m) n F K) : Jk E l n F K := J_fold (f := fun g : (Option Nat) => As.all (As.pure (rtP b o ps g) :: rtL b o ps g)) (ob) rfl hs h k
def rqP (_ _ : Nat) (_ : List ID) (_ : Value) : Prop := True
def rqL (b o : Nat) (xs : List ID) (v : Value) : List As := [fld b o [v], row 208 2 v (xs.map encI)]
def rqA (b o : Nat) (xs : List ID) : As := As.ex fun g : (Value) => As.all (As.pure (rqP b o xs g) :: rqL b o xs g)
theorem J_rqO {E : World} {l : List As} {n : Nat} {F : Env} {K : Act → World → Prop} {b o : Nat} {xs : List ID} (k : ∀ v, rqP b o xs v → Jk E (fld b o [v] :: row 208 2 v (xs.map encI) :: l) n F K) : Jk E (rqA b o xs :: l) n F K := J_unfold (f := fun g : (Value) => As.all (As.pure (rqP b o xs g) :: rqL b o xs g)) (fun _ => rfl) (fun g h => k g h)
theorem J_rqS {E : World} {l m : List As} {n : Nat} {F : Env} {K : Act → World → Prop} {b o : Nat} {xs : List ID} (v : Value) (hs : Picks [fld b o [v], row 208 2 v (xs.map encI)] l m) (h : rqP b o xs v) (k : Jk E (rqA b o xs :: m) n F K) : Jk E l n F K := J_fold (f := fun g : (Value) => As.all (As.pure (rqP b o xs g) :: rqL b o xs g)) (v) rfl hs h k
def tmrP (_ _ : Nat) (_ : List Tm) (_ : Value) : Prop := True
def tmrL (b o : Nat) (xs : List Tm) (v : Value) : List As := [fld b o [v], row 308 3 v (xs.map encT)]
def tmrA (b o : Nat) (xs : List Tm) : As := As.ex fun g : (Value) => As.all (As.pure (tmrP b o xs g) :: tmrL b o xs g)
theorem J_tmrO {E : World} {l : List As} {n : Nat} {F : Env} {K : Act → World → Prop} {b o : Nat} {xs : List Tm} (k : ∀ v, tmrP b o xs v → Jk E (fld b o [v] :: row 308 3 v (xs.map encT) :: l) n F K) : Jk E (tmrA b o xs :: l) n F K := J_unfold (f := fun g : (Value) => As.all (As.pure (tmrP b o xs g) :: tmrL b o xs g)) (fun _ => rfl) (fun g h => k g h)
theorem J_tmrS {E : World} {l m : List As} {n : Nat} {F : Env} {K : Act → World → Prop} {b o : Nat} {xs : List Tm} (v : Value) (hs : Picks [fld b o [v], row 308 3 v (xs.map encT)] l m) (h : tmrP b o xs v) (k : Jk E (tmrA b o xs :: m) n F K) : Jk E l n F K := J_fold (f := fun g : (Value) => As.all (As.pure (tmrP b o xs g) :: tmrL b o xs g)) (v) rfl hs h k
def jnlP (_ _ : Nat) (_ : List Deed) (_ : Value) : Prop := True
def jnlL (b o : Nat) (xs : List Deed) (v : Value) : List As := [fld b o [v], row 45 7 v (xs.map encD)]
def jnlA (b o : Nat) (xs : List Deed) : As := As.ex fun g : (Value) => As.all (As.pure (jnlP b o xs g) :: jnlL b o xs g)
theorem J_jnlO {E : World} {l : List As} {n : Nat} {F : Env} {K : Act → World → Prop} {b o : Nat} {xs : List Deed} (k : ∀ v, jnlP b o xs v → Jk E (fld b o [v] :: row 45 7 v (xs.map encD) :: l) n F K) : Jk E (jnlA b o xs :: l) n F K := J_unfold (f := fun g : (Value) => As.all (As.pure (jnlP b o xs g) :: jnlL b o xs g)) (fun _ => rfl) (fun g h => k g h)
theorem J_jnlS {E : World} {l m : List As} {n : Nat} {F : Env} {K : Act → World → Prop} {b o : Nat} {xs : List Deed} (v : Value) (hs : Picks [fld b o [v], row 45 7 v (xs.map encD)] l m) (h : jnlP b o xs v) (k : Jk E (jnlA b o xs :: m) n F K) : Jk E l n F K := J_fold (f := fun g : (Value) => As.all (As.pure (jnlP b o xs g) :: jnlL b o xs g)) (v) rfl hs h k
def encU (b : Int) : List Value := [.int .u8 b]
def memF (x : Value × List Int) : As := row 5 1 x.1 (x.2.map encU)
def memP (b : Nat) (ms : List (List Int)) (v : Value) (xs : List (Value × List Int)) : Prop := xs.map Prod.snd = ms
def memL (b : Nat) (ms : List (List Int)) (v : Value) (xs : List (Value × List Int)) : List As := [blk b 292 [v], row 73 1 v (xs.map fun x => [x.1]), each memF xs]
def memA (b : Nat) (ms : List (List Int)) : As := As.ex fun g : (Value) × (List (Value × List Int)) => As.all (As.pure (memP b ms g.1 g.2) :: memL b ms g.1 g.2)
theorem J_memO {E : World} {l : List As} {n : Nat} {F : Env} {K : Act → World → Prop} {b : Nat} {ms : List (List Int)} (k : ∀ v xs, memP b ms v xs → Jk E (blk b 292 [v] :: row 73 1 v (xs.map fun x => [x.1]) :: each memF xs :: l) n F K) : Jk E (memA b ms :: l) n F K := J_unfold (f := fun g : (Value) × (List (Value × List Int)) => As.all (As.pure (memP b ms g.1 g.2) :: memL b ms g.1 g.2)) (fun _ => rfl) (fun g h => k g.1 g.2 h)
theorem J_memS {E : World} {l m : List As} {n : Nat} {F : Env} {K : Act → World → Prop} {b : Nat} {ms : List (List Int)} (v : Value) (xs : List (Value × List Int)) (hs : Picks [blk b 292 [v], row 73 1 v (xs.map fun x => [x.1]), each memF xs] l m) (h : memP b ms v xs) (k : Jk E (memA b ms :: m) n F K) : Jk E l n F K := J_fold (f := fun g : (Value) × (List (Value × List Int)) => As.all (As.pure (memP b ms g.1 g.2) :: memL b ms g.1 g.2)) (v, xs) rfl hs h k
def rgP (_ _ : Nat) (_ : Rg) (_ : Value) : Prop := True
def rgL (b mb : Nat) (r : Rg) (v : Value) : List As := [blk b 217 [.pointer (some ⟨mb, 0, none⟩), .int .i64 r.sq, .int .i64 r.cq, .int .i64 r.sb, .int .i64 r.cb, .int .u32 r.head, .int .u32 r.tail, v], row 93 4 v (r.over.map encX)]
def rgA (b mb : Nat) (r : Rg) : As := As.ex fun g : (Value) => As.all (As.pure (rgP b mb r g) :: rgL b mb r g)
theorem J_rgO {E : World} {l : List As} {n : Nat} {F : Env} {K : Act → World → Prop} {b mb : Nat} {r : Rg} (k : ∀ v, rgP b mb r v → Jk E (blk b 217 [.pointer (some ⟨mb, 0, none⟩), .int .i64 r.sq, .int .i64 r.cq, .int .i64 r.sb, .int .i64 r.cb, .int .u32 r.head, .int .u32 r.tail, v] :: row 93 4 v (r.over.map encX) :: l) n F K) : Jk E (rgA b mb r :: l) n F K := J_unfold (f := fun g : (Value) => As.all (As.pure (rgP b mb r g) :: rgL b mb r g)) (fun _ => rfl) (fun g h => k g h)
theorem J_rgS {E : World} {l m : List As} {n : Nat} {F : Env} {K : Act → World → Prop} {b mb : Nat} {r : Rg} (v : Value) (hs : Picks [blk b 217 [.pointer (some ⟨mb, 0, none⟩), .int .i64 r.sq, .int .i64 r.cq, .int .i64 r.sb, .int .i64 r.cb, .int .u32 r.head, .int .u32 r.tail, v], row 93 4 v (r.over.map encX)] l m) (h : rgP b mb r v) (k : Jk E (rgA b mb r :: m) n F K) : Jk E l n F K := J_fold (f := fun g : (Value) => As.all (As.pure (rgP b mb r g) :: rgL b mb r g)) (v) rfl hs h k
def Who (xs : List ID) (ps : List (ID × Bool)) : Prop := xs.Nodup ∧ ∀ i, look ps i = if i ∈ xs then some true else none
theorem Who.nil : Who [] [] := ⟨List.nodup_nil, fun i => by simp [look_nil]⟩
def lsP (b o : Nat) (xs : List ID) (v : Value) (ob : Option Nat) (ps : List (ID × Bool)) : Prop := Who xs ps
def lsL (b o : Nat) (xs : List ID) (v : Value) (ob : Option Nat) (ps : List (ID × Bool)) : List As := [fld b o [v, .map ob], row 36 2 v (xs.map encI), mapV kI evB (.map ob) ps]
def lsA (b o : Nat) (xs : List ID) : As := As.ex fun g : (Value) × (Option Nat) × (List (ID × Bool)) => As.all (As.pure (lsP b o xs g.1 g.2.1 g.2.2) :: lsL b o xs g.1 g.2.1 g.2.2)
theorem J_lsO {E : World} {l : List As} {n : Nat} {F : Env} {K : Act → World → Prop} {b o : Nat} {xs : List ID} (k : ∀ v ob ps, lsP b o xs v ob ps → Jk E (fld b o [v, .map ob] :: row 36 2 v (xs.map encI) :: mapV kI evB (.map ob) ps :: l) n F K) : Jk E (lsA b o xs :: l) n F K := J_unfold (f := fun g : (Value) × (Option Nat) × (List (ID × Bool)) => As.all (As.pure (lsP b o xs g.1 g.2.1 g.2.2) :: lsL b o xs g.1 g.2.1 g.2.2)) (fun _ => rfl) (fun g h => k g.1 g.2.1 g.2.2 h)
theorem J_lsS {E : World} {l m : List As} {n : Nat} {F : Env} {K : Act → World → Prop} {b o : Nat} {xs : List ID} (v : Value) (ob : Option Nat) (ps : List (ID × Bool)) (hs : Picks [fld b o [v, .map ob], row 36 2 v (xs.map encI), mapV kI evB (.map ob) ps] l m) (h : lsP b o xs v ob ps) (k : Jk E (lsA b o xs :: m) n F K) : Jk E l n F K := J_fold (f := fun g : (Value) × (Option Nat) × (List (ID × Bool)) => As.all (As.pure (lsP b o xs g.1 g.2.1 g.2.2) :: lsL b o xs g.1 g.2.1 g.2.2)) (v, ob, ps) rfl hs h k
def ntP (_ _ : Nat) (_ : Int) (_ : List ID)  : Prop := True
def ntL (b o : Nat) (w : Int) (xs : List ID)  : List As := [fld b o [.int .u32 w], lsA b (o + 1) xs]
def ntA (b o : Nat) (w : Int) (xs : List ID) : As := As.ex fun g : Unit => As.all (As.pure (ntP b o w xs ) :: ntL b o w xs )
theorem J_ntO {E : World} {l : List As} {n : Nat} {F : Env} {K : Act → World → Prop} {b o : Nat} {w : Int} {xs : List ID} (k : ∀ (_ : Unit), ntP b o w xs  → Jk E (fld b o [.int .u32 w] :: lsA b (o + 1) xs :: l) n F K) : Jk E (ntA b o w xs :: l) n F K := J_unfold (f := fun g : Unit => As.all (As.pure (ntP b o w xs ) :: ntL b o w xs )) (fun _ => rfl) (fun g h => k () h)
theorem J_ntS {E : World} {l m : List As} {n : Nat} {F : Env} {K : Act → World → Prop} {b o : Nat} {w : Int} {xs : List ID}  (hs : Picks [fld b o [.int .u32 w], lsA b (o + 1) xs] l m) (h : ntP b o w xs ) (k : Jk E (ntA b o w xs :: m) n F K) : Jk E l n F K := J_fold (f := fun g : Unit => As.all (As.pure (ntP b o w xs ) :: ntL b o w xs )) () rfl hs h k
def epP (_ : Nat) (_ : List Msg) (_ : List Rcv) (_ : Value) (_ : Value) : Prop := True
def epL (b : Nat) (out : List Msg) (inn : List Rcv) (vo : Value) (vi : Value) : List As := [blk b 222 [vo, vi], row 374 5 vo (out.map encM), row 246 3 vi (inn.map encR)]
def epA (b : Nat) (out : List Msg) (inn : List Rcv) : As := As.ex fun g : (Value) × (Value) => As.all (As.pure (epP b out inn g.1 g.2) :: epL b out inn g.1 g.2)
theorem J_epO {E : World} {l : List As} {n : Nat} {F : Env} {K : Act → World → Prop} {b : Nat} {out : List Msg} {inn : List Rcv} (k : ∀ vo vi, epP b out inn vo vi → Jk E (blk b 222 [vo, vi] :: row 374 5 vo (out.map encM) :: row 246 3 vi (inn.map encR) :: l) n F K) : Jk E (epA b out inn :: l) n F K := J_unfold (f := fun g : (Value) × (Value) => As.all (As.pure (epP b out inn g.1 g.2) :: epL b out inn g.1 g.2)) (fun _ => rfl) (fun g h => k g.1 g.2 h)
theorem J_epS {E : World} {l m : List As} {n : Nat} {F : Env} {K : Act → World → Prop} {b : Nat} {out : List Msg} {inn : List Rcv} (vo : Value) (vi : Value) (hs : Picks [blk b 222 [vo, vi], row 374 5 vo (out.map encM), row 246 3 vi (inn.map encR)] l m) (h : epP b out inn vo vi) (k : Jk E (epA b out inn :: m) n F K) : Jk E l n F K := J_fold (f := fun g : (Value) × (Value) => As.all (As.pure (epP b out inn g.1 g.2) :: epL b out inn g.1 g.2)) (vo, vi) rfl hs h k
def rpA (b : Nat) (c : ID × Bool) : As := blk b 243 [.int .i64 c.1.1, .int .i64 c.1.2, .bool c.2]
theorem J_ntNew {E : World} {l : List As} {n : Nat} {F : Env} {K : Act → World → Prop} {b : Nat} (k : Jk E (ntA b 0 0 [] :: l) n F K) : Jk E (blk b 229 [.int .u32 0, .slice none 0 0, .map none] :: l) n F K :=
  J_fld (J_split [.int .u32 0] [.slice none 0 0, .map none] rfl (J_nil (el := 36) (sz := 2) (J_mapNil (ek := kI) (ev := evB) (J_lsS (b := b) (o := 0 + 1) (xs := []) (.slice none 0 0) none [] (.cons (.there (.there (.there .here))) (.cons (.there .here) (.cons .here .nil))) Who.nil
    (J_ntS (b := b) (o := 0) (w := 0) (xs := []) (.cons (.there .here) (.cons .here .nil)) trivial k)))))
theorem J_epNew {E : World} {l : List As} {n : Nat} {F : Env} {K : Act → World → Prop} {b : Nat} (k : Jk E (epA b [] [] :: l) n F K) : Jk E (blk b 222 [.slice none 0 0, .slice none 0 0] :: l) n F K :=
  J_nil (el := 374) (sz := 5) (J_nil (el := 246) (sz := 3) (J_epS (b := b) (out := []) (inn := []) (.slice none 0 0) (.slice none 0 0) (.cons (.there (.there .here)) (.cons (.there .here) (.cons .here .nil))) trivial k))
structure KS where
 ct : Int
 cu : Int
 cs : Int
 cc : Int
 sh : Bool
 mb : Nat
 mem : List (List Int)
 sl : List (Place × SV)
 mr : List (Place × Int)
 mp : List (Place × M1)
 q : List ID
 rt : List (ID × Rq)
 tm : List Tm
 jn : List Deed
 nt : List (Int × Nat × Int × List ID)
 ep : List (Int × Nat × List Msg × List Rcv)
 rp : List (Int × Nat × ID × Bool)
 rg : List (Int × Nat × Rg)
 th : List (Int × Th)
 sp : List (Int × Bool)
 pr : List (Int × Int)
 be : List (Int × (Int × Int))
 tk : List (Int × Int)
 now : Int
def ptrs {α : Type} (xs : List (Int × Nat × α)) : List (Int × Nat) := xs.map fun x => (x.1, x.2.1)
def ntF (x : Int × Nat × Int × List ID) : As := ntA x.2.1 0 x.2.2.1 x.2.2.2
def epF (x : Int × Nat × List Msg × List Rcv) : As := epA x.2.1 x.2.2.1 x.2.2.2
def rpF (x : Int × Nat × ID × Bool) : As := rpA x.2.1 x.2.2
def rgF (mb : Nat) (x : Int × Nat × Rg) : As := rgA x.2.1 mb x.2.2
def coP (_ : Nat) (_ : KS) (_ : Nat) (_ : Nat) (_ : Nat) (_ : Nat) (_ : Nat) (_ : Nat) (_ : Nat) (_ : Nat) (_ : Nat) : Prop := True
def coL (p : Nat) (s : KS) (bn : Nat) (be : Nat) (br : Nat) (bg : Nat) (bt : Nat) (bs : Nat) (bp : Nat) (bl : Nat) (bk : Nat) : List As := [fld p 0 [.int .i64 s.ct, .int .i64 s.cu, .int .i64 s.cs, .int .i64 s.cc, .bool s.sh, .pointer (some ⟨s.mb, 0, none⟩)], memA s.mb s.mem, slA p 6 s.sl, mkA p 7 s.mr, spA p 8 s.mp, rqA p 9 s.q, rtA p 10 s.rt, tmrA p 11 s.tm, jnlA p 12 s.jn, fld p 13 [.map (some bn), .map (some be), .map (some br), .map (some bg), .map (some bt), .map (some bs), .map (some bp), .map (some bl), .map (some bk)], mapV kZ evA (.map (some bn)) (ptrs s.nt), each ntF s.nt, mapV kZ evA (.map (some be)) (ptrs s.ep), each epF s.ep, mapV kZ evA (.map (some br)) (ptrs s.rp), each rpF s.rp, mapV kZ evA (.map (some bg)) (ptrs s.rg), each (rgF s.mb) s.rg, mapV kZ evT (.map (some bt)) s.th, mapV kZ evB (.map (some bs)) s.sp, mapV kZ evZ (.map (some bp)) s.pr, mapV kZ evL (.map (some bl)) s.be, mapV kZ evZ (.map (some bk)) s.tk, fld p 22 [.int .u64 s.now]]
def coA (p : Nat) (s : KS) : As := As.ex fun g : (Nat) × (Nat) × (Nat) × (Nat) × (Nat) × (Nat) × (Nat) × (Nat) × (Nat) => As.all (As.pure (coP p s g.1 g.2.1 g.2.2.1 g.2.2.2.1 g.2.2.2.2.1 g.2.2.2.2.2.1 g.2.2.2.2.2.2.1 g.2.2.2.2.2.2.2.1 g.2.2.2.2.2.2.2.2) :: coL p s g.1 g.2.1 g.2.2.1 g.2.2.2.1 g.2.2.2.2.1 g.2.2.2.2.2.1 g.2.2.2.2.2.2.1 g.2.2.2.2.2.2.2.1 g.2.2.2.2.2.2.2.2)
theorem J_coO {E : World} {l : List As} {n : Nat} {F : Env} {K : Act → World → Prop} {p : Nat} {s : KS} (k : ∀ bn be br bg bt bs bp bl bk, coP p s bn be br bg bt bs bp bl bk → Jk E (fld p 0 [.int .i64 s.ct, .int .i64 s.cu, .int .i64 s.cs, .int .i64 s.cc, .bool s.sh, .pointer (some ⟨s.mb, 0, none⟩)] :: memA s.mb s.mem :: slA p 6 s.sl :: mkA p 7 s.mr :: spA p 8 s.mp :: rqA p 9 s.q :: rtA p 10 s.rt :: tmrA p 11 s.tm :: jnlA p 12 s.jn :: fld p 13 [.map (some bn), .map (some be), .map (some br), .map (some bg), .map (some bt), .map (some bs), .map (some bp), .map (some bl), .map (some bk)] :: mapV kZ evA (.map (some bn)) (ptrs s.nt) :: each ntF s.nt :: mapV kZ evA (.map (some be)) (ptrs s.ep) :: each epF s.ep :: mapV kZ evA (.map (some br)) (ptrs s.rp) :: each rpF s.rp :: mapV kZ evA (.map (some bg)) (ptrs s.rg) :: each (rgF s.mb) s.rg :: mapV kZ evT (.map (some bt)) s.th :: mapV kZ evB (.map (some bs)) s.sp :: mapV kZ evZ (.map (some bp)) s.pr :: mapV kZ evL (.map (some bl)) s.be :: mapV kZ evZ (.map (some bk)) s.tk :: fld p 22 [.int .u64 s.now] :: l) n F K) : Jk E (coA p s :: l) n F K := J_unfold (f := fun g : (Nat) × (Nat) × (Nat) × (Nat) × (Nat) × (Nat) × (Nat) × (Nat) × (Nat) => As.all (As.pure (coP p s g.1 g.2.1 g.2.2.1 g.2.2.2.1 g.2.2.2.2.1 g.2.2.2.2.2.1 g.2.2.2.2.2.2.1 g.2.2.2.2.2.2.2.1 g.2.2.2.2.2.2.2.2) :: coL p s g.1 g.2.1 g.2.2.1 g.2.2.2.1 g.2.2.2.2.1 g.2.2.2.2.2.1 g.2.2.2.2.2.2.1 g.2.2.2.2.2.2.2.1 g.2.2.2.2.2.2.2.2)) (fun _ => rfl) (fun g h => k g.1 g.2.1 g.2.2.1 g.2.2.2.1 g.2.2.2.2.1 g.2.2.2.2.2.1 g.2.2.2.2.2.2.1 g.2.2.2.2.2.2.2.1 g.2.2.2.2.2.2.2.2 h)
theorem J_coS {E : World} {l m : List As} {n : Nat} {F : Env} {K : Act → World → Prop} {p : Nat} {s : KS} (bn : Nat) (be : Nat) (br : Nat) (bg : Nat) (bt : Nat) (bs : Nat) (bp : Nat) (bl : Nat) (bk : Nat) (hs : Picks [fld p 0 [.int .i64 s.ct, .int .i64 s.cu, .int .i64 s.cs, .int .i64 s.cc, .bool s.sh, .pointer (some ⟨s.mb, 0, none⟩)], memA s.mb s.mem, slA p 6 s.sl, mkA p 7 s.mr, spA p 8 s.mp, rqA p 9 s.q, rtA p 10 s.rt, tmrA p 11 s.tm, jnlA p 12 s.jn, fld p 13 [.map (some bn), .map (some be), .map (some br), .map (some bg), .map (some bt), .map (some bs), .map (some bp), .map (some bl), .map (some bk)], mapV kZ evA (.map (some bn)) (ptrs s.nt), each ntF s.nt, mapV kZ evA (.map (some be)) (ptrs s.ep), each epF s.ep, mapV kZ evA (.map (some br)) (ptrs s.rp), each rpF s.rp, mapV kZ evA (.map (some bg)) (ptrs s.rg), each (rgF s.mb) s.rg, mapV kZ evT (.map (some bt)) s.th, mapV kZ evB (.map (some bs)) s.sp, mapV kZ evZ (.map (some bp)) s.pr, mapV kZ evL (.map (some bl)) s.be, mapV kZ evZ (.map (some bk)) s.tk, fld p 22 [.int .u64 s.now]] l m) (h : coP p s bn be br bg bt bs bp bl bk) (k : Jk E (coA p s :: m) n F K) : Jk E l n F K := J_fold (f := fun g : (Nat) × (Nat) × (Nat) × (Nat) × (Nat) × (Nat) × (Nat) × (Nat) × (Nat) => As.all (As.pure (coP p s g.1 g.2.1 g.2.2.1 g.2.2.2.1 g.2.2.2.2.1 g.2.2.2.2.2.1 g.2.2.2.2.2.2.1 g.2.2.2.2.2.2.2.1 g.2.2.2.2.2.2.2.2) :: coL p s g.1 g.2.1 g.2.2.1 g.2.2.2.1 g.2.2.2.2.1 g.2.2.2.2.2.1 g.2.2.2.2.2.2.1 g.2.2.2.2.2.2.2.1 g.2.2.2.2.2.2.2.2)) (bn, be, br, bg, bt, bs, bp, bl, bk) rfl hs h k
end Go.Pse
namespace Go.Pse
open Go.RowKit Go.Proofs
def cutI (n lo hi : Int) : Int := if hi < (if n < lo then lo else n) then hi else if n < lo then lo else n
theorem cCut {E : World} {l : List As} {n lo hi : Int} :
    Con Tryz.prog 91 #[.int .i64 n, .int .i64 lo, .int .i64 hi] E l (fun _ : Unit => .int .i64 (cutI n lo hi)) (fun _ => l) := by
  refine Con.body (vs := [.int .i64 n, .int .i64 lo, .int .i64 hi]) (n := 12) Tryz.func91 rfl rfl [(0, .int .i64 n), (1, .int .i64 lo), (2, .int .i64 hi)] (env_ok 3 rfl) <| sr <| ag rfl rfl <| nx <| mv rfl rfl <| mv rfl rfl <| L_pur rfl (p_max rfl rfl) <| mv rfl rfl ?_
  refine L_pur rfl (p_min rfl rfl) <| ag rfl rfl <| nq <| J_ret ?_
  refine J_return (()) Tryz.results91 (.tmp rfl .nil) ?_ ?_
  · first | rfl | (simp_all [one, cutI]; done) | (simp_all [one, cutI] <;> omega) | (simp_all [one, cutI] <;> grind)
  · exact SU
def okPrio (n : Int) : Bool := decide (0 ≤ n) && decide (n < 8)
theorem qRight {E : World} {l : List As} {n : Int} :
    Con Tryz.prog 205 #[.int .i64 n] E l (fun _ : Unit => .bool (okPrio n)) (fun _ => l) := by
  refine Con.body (vs := [.int .i64 n]) (n := 9) Tryz.func205 rfl rfl [(0, .int .i64 n)] (env_ok 1 rfl) <| sr <| ag rfl rfl <| nx <| mv rfl rfl <| L_pur rfl (p_geq rfl rfl) <| mv rfl rfl ?_
  refine J_gsplit (t := 5) rfl (fun h5 => ?_) (fun h5 => ?_)
  refine L_op <| G_on rfl rfl rfl <| J_pur (p_move rfl) rfl rfl rfl <| L_op <| G_on rfl rfl rfl <| J_pur (p_lss rfl rfl) rfl rfl rfl <| L_pur rfl (p_pick_t rfl rfl) <| ag rfl rfl ?_
  refine nq <| J_ret ?_
  refine J_return (()) Tryz.results205 (.tmp rfl .nil) ?_ ?_
  · first | rfl | (simp_all [one, okPrio]; done) | (simp_all [one, okPrio] <;> omega) | (simp_all [one, okPrio] <;> grind)
  · exact SU
  refine L_op <| G_off rfl rfl rfl rfl rfl rfl <| L_op <| G_off rfl rfl rfl rfl rfl rfl <| L_pur rfl (p_pick_f rfl rfl) <| ag rfl rfl <| nq <| J_ret ?_
  refine J_return (()) Tryz.results205 (.tmp rfl .nil) ?_ ?_
  · first | rfl | (simp_all [one, okPrio]; done) | (simp_all [one, okPrio] <;> omega) | (simp_all [one, okPrio] <;> grind)
  · exact SU
def okUnit (n : Int) : Bool := decide (1 ≤ n) && decide (n ≤ 64)
theorem sUnit {E : World} {l : List As} {n : Int} :
    Con Tryz.prog 203 #[.int .i64 n] E l (fun _ : Unit => .bool (okUnit n)) (fun _ => l) := by
  refine Con.body (vs := [.int .i64 n]) (n := 9) Tryz.func203 rfl rfl [(0, .int .i64 n)] (env_ok 1 rfl) <| sr <| ag rfl rfl <| nx <| mv rfl rfl <| L_pur rfl (p_geq rfl rfl) <| mv rfl rfl ?_
  refine J_gsplit (t := 5) rfl (fun h5 => ?_) (fun h5 => ?_)
  refine L_op <| G_on rfl rfl rfl <| J_pur (p_move rfl) rfl rfl rfl <| L_op <| G_on rfl rfl rfl <| J_pur (p_leq rfl rfl) rfl rfl rfl <| L_pur rfl (p_pick_t rfl rfl) <| ag rfl rfl ?_
  refine nq <| J_ret ?_
  refine J_return (()) Tryz.results203 (.tmp rfl .nil) ?_ ?_
  · first | rfl | (simp_all [one, okUnit]; done) | (simp_all [one, okUnit] <;> omega) | (simp_all [one, okUnit] <;> grind)
  · exact SU
  refine L_op <| G_off rfl rfl rfl rfl rfl rfl <| L_op <| G_off rfl rfl rfl rfl rfl rfl <| L_pur rfl (p_pick_f rfl rfl) <| ag rfl rfl <| nq <| J_ret ?_
  refine J_return (()) Tryz.results203 (.tmp rfl .nil) ?_ ?_
  · first | rfl | (simp_all [one, okUnit]; done) | (simp_all [one, okUnit] <;> omega) | (simp_all [one, okUnit] <;> grind)
  · exact SU
def inB (n lo hi : Int) : Bool := decide (lo ≤ n) && decide (n ≤ hi)
theorem cIn {E : World} {l : List As} {n lo hi : Int} :
    Con Tryz.prog 147 #[.int .i64 n, .int .i64 lo, .int .i64 hi] E l (fun _ : Unit => .bool (inB n lo hi)) (fun _ => l) := by
  refine Con.body (vs := [.int .i64 n, .int .i64 lo, .int .i64 hi]) (n := 15) Tryz.func147 rfl rfl [(0, .int .i64 n), (1, .int .i64 lo), (2, .int .i64 hi)] (env_ok 3 rfl) <| sr <| ag rfl rfl <| nx <| mv rfl rfl <| mv rfl rfl <| L_pur rfl (p_geq rfl rfl) <| mv rfl rfl ?_
  refine J_gsplit (t := 10) rfl (fun h10 => ?_) (fun h10 => ?_)
  refine L_op <| G_on rfl rfl rfl <| J_pur (p_move rfl) rfl rfl rfl <| L_op <| G_on rfl rfl rfl <| J_pur (p_move rfl) rfl rfl rfl <| L_op <| G_on rfl rfl rfl ?_
  refine J_pur (p_leq rfl rfl) rfl rfl rfl <| L_pur rfl (p_pick_t rfl rfl) <| ag rfl rfl <| nq <| J_ret ?_
  refine J_return (()) Tryz.results147 (.tmp rfl .nil) ?_ ?_
  · first | rfl | (simp_all [one, inB]; done) | (simp_all [one, inB] <;> omega) | (simp_all [one, inB] <;> grind)
  · exact SU
  refine L_op <| G_off rfl rfl rfl rfl rfl rfl <| L_op <| G_off rfl rfl rfl rfl rfl rfl <| L_op <| G_off rfl rfl rfl rfl rfl rfl <| L_pur rfl (p_pick_f rfl rfl) <| ag rfl rfl ?_
  refine nq <| J_ret ?_
  refine J_return (()) Tryz.results147 (.tmp rfl .nil) ?_ ?_
  · first | rfl | (simp_all [one, inB]; done) | (simp_all [one, inB] <;> omega) | (simp_all [one, inB] <;> grind)
  · exact SU
def canP (p : Place) : Bool := decide (1 ≤ p.1) && decide (p.1 ≤ 64) && decide (0 ≤ p.2) && decide (p.2 < 16)
theorem sCan {E : World} {l : List As} {p : Place} :
    Con Tryz.prog 102 #[.agg (encI p).toArray] E l (fun _ : Unit => .bool (canP p)) (fun _ => l) := by
  refine Con.body (vs := [.agg (encI p).toArray]) (n := 21) Tryz.func102 rfl rfl [(0, .agg (encI p).toArray)] (env_ok 1 rfl) <| sr <| L_op <| x_box rfl rfl rfl fun b1 => ag rfl rfl <| nx <| fa rfl rfl fa108_0 <| L_val rfl (v_load rfl ty3 HS (by exact rfl)) ?_
  refine L_pur rfl (p_geq rfl rfl) <| mv rfl rfl ?_
  refine J_gsplit (t := 6) rfl (fun h6 => ?_) (fun h6 => ?_)
  refine L_op <| G_on rfl rfl rfl <| J_pur (p_fieldAddr rfl fa108_0) rfl rfl rfl <| L_op <| G_on rfl rfl rfl <| J_val (v_load rfl ty3 HS (by exact rfl)) rfl rfl rfl ?_
  refine L_op <| G_on rfl rfl rfl <| J_pur (p_leq rfl rfl) rfl rfl rfl <| L_pur rfl (p_pick_t rfl rfl) <| mv rfl rfl ?_
  refine J_gsplit (t := 11) rfl (fun h11 => ?_) (fun h11 => ?_)
  refine L_op <| G_on rfl rfl rfl <| J_pur (p_fieldAddr rfl fa108_1) rfl rfl rfl <| L_op <| G_on rfl rfl rfl <| J_val (v_load rfl ty3 HS (by exact rfl)) rfl rfl rfl ?_
  refine L_op <| G_on rfl rfl rfl <| J_pur (p_geq rfl rfl) rfl rfl rfl <| L_pur rfl (p_pick_t rfl rfl) <| mv rfl rfl ?_
  refine J_gsplit (t := 16) rfl (fun h16 => ?_) (fun h16 => ?_)
  refine L_op <| G_on rfl rfl rfl <| J_pur (p_fieldAddr rfl fa108_1) rfl rfl rfl <| L_op <| G_on rfl rfl rfl <| J_val (v_load rfl ty3 HS (by exact rfl)) rfl rfl rfl ?_
  refine L_op <| G_on rfl rfl rfl <| J_pur (p_lss rfl rfl) rfl rfl rfl <| L_pur rfl (p_pick_t rfl rfl) <| ag rfl rfl <| nq <| J_ret ?_
  refine J_return (()) Tryz.results102 (.tmp rfl .nil) ?_ ?_
  · first | rfl | (simp_all [one, canP]; done) | (simp_all [one, canP] <;> omega) | (simp_all [one, canP] <;> grind)
  · exact SU
  refine L_op <| G_off rfl rfl rfl rfl rfl rfl <| L_op <| G_off rfl rfl rfl rfl rfl rfl <| L_op <| G_off rfl rfl rfl rfl rfl rfl <| L_pur rfl (p_pick_f rfl rfl) <| ag rfl rfl ?_
  refine nq <| J_ret ?_
  refine J_return (()) Tryz.results102 (.tmp rfl .nil) ?_ ?_
  · first | rfl | (simp_all [one, canP]; done) | (simp_all [one, canP] <;> omega) | (simp_all [one, canP] <;> grind)
  · exact SU
  refine L_op <| G_off rfl rfl rfl rfl rfl rfl <| L_op <| G_off rfl rfl rfl rfl rfl rfl <| L_op <| G_off rfl rfl rfl rfl rfl rfl <| L_pur rfl (p_pick_f rfl rfl) <| mv rfl rfl ?_
  refine L_op <| G_off rfl rfl rfl rfl rfl rfl <| L_op <| G_off rfl rfl rfl rfl rfl rfl <| L_op <| G_off rfl rfl rfl rfl rfl rfl <| L_pur rfl (p_pick_f rfl rfl) <| ag rfl rfl ?_
  refine nq <| J_ret ?_
  refine J_return (()) Tryz.results102 (.tmp rfl .nil) ?_ ?_
  · first | rfl | (simp_all [one, canP]; done) | (simp_all [one, canP] <;> omega) | (simp_all [one, canP] <;> grind)
  · exact SU
  refine L_op <| G_off rfl rfl rfl rfl rfl rfl <| L_op <| G_off rfl rfl rfl rfl rfl rfl <| L_op <| G_off rfl rfl rfl rfl rfl rfl <| L_pur rfl (p_pick_f rfl rfl) <| mv rfl rfl ?_
  refine L_op <| G_off rfl rfl rfl rfl rfl rfl <| L_op <| G_off rfl rfl rfl rfl rfl rfl <| L_op <| G_off rfl rfl rfl rfl rfl rfl <| L_pur rfl (p_pick_f rfl rfl) <| mv rfl rfl ?_
  refine L_op <| G_off rfl rfl rfl rfl rfl rfl <| L_op <| G_off rfl rfl rfl rfl rfl rfl <| L_op <| G_off rfl rfl rfl rfl rfl rfl <| L_pur rfl (p_pick_f rfl rfl) <| ag rfl rfl ?_
  refine nq <| J_ret ?_
  refine J_return (()) Tryz.results102 (.tmp rfl .nil) ?_ ?_
  · first | rfl | (simp_all [one, canP]; done) | (simp_all [one, canP] <;> omega) | (simp_all [one, canP] <;> grind)
  · exact SU
def shl1 (n : Int) : Int := IntKind.i64.wrap (1 * 2 ^ n.toNat)
theorem shl1_small : ∀ k : Nat, k ≤ 8 → shl1 (k : Int) = 2 ^ k ∧ (2 : Int) ^ k ≤ 256 ∧ (1 : Int) ≤ 2 ^ k := by decide
def checkC (c : Cap) : Bool := inB c.kind 1 9 && inB c.rights 0 7 && inB c.obj 1 64 &&
  (if c.kind = 1 then inB c.size 1 (64 - c.obj + 1) && decide (c.badge = 0)
   else if c.kind = 2 then inB c.size 0 8 && inB c.badge 0 (shl1 c.size - 1)
   else if c.kind = 4 ∨ c.kind = 5 then decide (c.size = 0) && inB c.badge 0 2147483647
   else decide (c.size = 0) && decide (c.badge = 0))
theorem cCheck {E : World} {l : List As} {c : Cap} :
    Con Tryz.prog 104 #[.agg (encC c).toArray] E l (fun _ : Unit => .bool (checkC c)) (fun _ => l) := by
  refine Con.body (vs := [.agg (encC c).toArray]) (n := 68) Tryz.func104 rfl rfl [(0, .agg (encC c).toArray)] (env_ok 1 rfl) <| sr <| L_op <| x_box rfl rfl rfl fun b1 => ag rfl rfl <| nxx <| fa rfl rfl fa110_0 <| L_val rfl (v_load rfl ty3 HS (by exact rfl)) ?_
  refine L_op <| xc fc147 (.cons rfl (.cons rfl (.cons rfl .nil))) rfl (cIn) fun _ => L_pur rfl (p_not rfl) <| mv rfl rfl ?_
  refine J_gsplit (t := 7) rfl (fun h7 => ?_) (fun h7 => ?_)
  refine L_op <| G_off rfl rfl rfl rfl rfl rfl <| L_op <| G_off rfl rfl rfl rfl rfl rfl <| L_op <| G_off rfl rfl rfl rfl rfl rfl <| L_op <| G_off rfl rfl rfl rfl rfl rfl ?_
  refine L_pur rfl (p_pick_t rfl rfl) <| mv rfl rfl <| L_op <| G_off rfl rfl rfl rfl rfl rfl <| L_op <| G_off rfl rfl rfl rfl rfl rfl <| L_op <| G_off rfl rfl rfl rfl rfl rfl ?_
  refine L_op <| G_off rfl rfl rfl rfl rfl rfl <| L_pur rfl (p_pick_t rfl rfl) <| nq <| C_true rfl <| sr <| ag rfl rfl <| nq ?_
  refine J_ret <| Q_then_ret ?_
  refine J_return (()) Tryz.results104 (.tmp rfl .nil) ?_ ?_
  · first | rfl | (simp_all [one, checkC]; done) | (simp_all [one, checkC] <;> omega) | (simp_all [one, checkC] <;> grind)
  · exact SU
  refine L_op <| G_on rfl rfl rfl <| J_pur (p_fieldAddr rfl fa110_4) rfl rfl rfl <| L_op <| G_on rfl rfl rfl <| J_val (v_load rfl ty3 HS (by exact rfl)) rfl rfl rfl ?_
  refine L_op <| G_on rfl rfl rfl <| xc fc147 (.cons rfl (.cons rfl (.cons rfl .nil))) rfl (cIn) fun _ => L_op <| G_on rfl rfl rfl <| J_pur (p_not rfl) rfl rfl rfl <| L_pur rfl (p_pick_f rfl rfl) <| mv rfl rfl ?_
  refine J_gsplit (t := 13) rfl (fun h13 => ?_) (fun h13 => ?_)
  refine L_op <| G_off rfl rfl rfl rfl rfl rfl <| L_op <| G_off rfl rfl rfl rfl rfl rfl <| L_op <| G_off rfl rfl rfl rfl rfl rfl <| L_op <| G_off rfl rfl rfl rfl rfl rfl ?_
  refine L_pur rfl (p_pick_t rfl rfl) <| nq <| C_true rfl <| sr <| ag rfl rfl <| nq <| J_ret <| Q_then_ret ?_
  refine J_return (()) Tryz.results104 (.tmp rfl .nil) ?_ ?_
  · first | rfl | (simp_all [one, checkC]; done) | (simp_all [one, checkC] <;> omega) | (simp_all [one, checkC] <;> grind)
  · exact SU
  refine L_op <| G_on rfl rfl rfl <| J_pur (p_fieldAddr rfl fa110_1) rfl rfl rfl <| L_op <| G_on rfl rfl rfl <| J_val (v_load rfl ty3 HS (by exact rfl)) rfl rfl rfl ?_
  refine L_op <| G_on rfl rfl rfl <| xc fc147 (.cons rfl (.cons rfl (.cons rfl .nil))) rfl (cIn) fun _ => L_op <| G_on rfl rfl rfl <| J_pur (p_not rfl) rfl rfl rfl <| L_pur rfl (p_pick_f rfl rfl) <| nq ?_
  refine C_split rfl (fun h18 => ?_) (fun h18 => ?_)
  refine sr <| ag rfl rfl <| nq <| J_ret <| Q_then_ret ?_
  refine J_return (()) Tryz.results104 (.tmp rfl .nil) ?_ ?_
  · first | rfl | (simp_all [one, checkC]; done) | (simp_all [one, checkC] <;> omega) | (simp_all [one, checkC] <;> grind)
  · exact SU
  have ho : 1 ≤ c.obj ∧ c.obj ≤ 64 := by simpa [inB] using h18
  refine J_skip <| Q_then <| J_seq <| sr <| fa rfl rfl fa110_0 <| L_val rfl (v_load rfl ty3 HS (by exact rfl)) ?_
  refine nq <| J_block <| sr <| L_pur rfl (p_eql rfl rfl) <| ag rfl rfl <| nq ?_
  refine C_split rfl (fun h21 => ?_) (fun h21 => ?_)
  refine sr <| fa rfl rfl fa110_2 <| L_val rfl (v_load rfl ty3 HS (by exact rfl)) ?_
  refine fa rfl rfl fa110_1 <| L_val rfl (v_load rfl ty3 HS (by exact rfl)) ?_
  refine L_pur rfl (p_sub64 rfl rfl (by omega)) <| L_pur rfl (p_add64 rfl rfl (by omega)) <| L_op <| xc fc147 (.cons rfl (.cons rfl (.cons rfl .nil))) rfl (cIn) fun _ => mv rfl rfl ?_
  refine J_gsplit (t := 30) rfl (fun h30 => ?_) (fun h30 => ?_)
  refine L_op <| G_on rfl rfl rfl <| J_pur (p_fieldAddr rfl fa110_3) rfl rfl rfl <| L_op <| G_on rfl rfl rfl <| J_val (v_load rfl ty3 HS (by exact rfl)) rfl rfl rfl ?_
  refine L_op <| G_on rfl rfl rfl <| J_pur (p_eql rfl rfl) rfl rfl rfl <| L_pur rfl (p_pick_t rfl rfl) <| ag rfl rfl <| nq <| J_ret <| Q_blk_ret ?_
  refine Q_then_ret ?_
  refine J_return (()) Tryz.results104 (.tmp rfl .nil) ?_ ?_
  · first | rfl | (simp_all [one, checkC]; done) | (simp_all [one, checkC] <;> omega) | (simp_all [one, checkC] <;> grind)
  · exact SU
  refine L_op <| G_off rfl rfl rfl rfl rfl rfl <| L_op <| G_off rfl rfl rfl rfl rfl rfl <| L_op <| G_off rfl rfl rfl rfl rfl rfl <| L_pur rfl (p_pick_f rfl rfl) <| ag rfl rfl ?_
  refine nq <| J_ret <| Q_blk_ret <| Q_then_ret ?_
  refine J_return (()) Tryz.results104 (.tmp rfl .nil) ?_ ?_
  · first | rfl | (simp_all [one, checkC]; done) | (simp_all [one, checkC] <;> omega) | (simp_all [one, checkC] <;> grind)
  · exact SU
  refine sr <| L_pur rfl (p_eql rfl rfl) <| ag rfl rfl <| nq ?_
  refine C_split rfl (fun h35 => ?_) (fun h35 => ?_)
  refine J_seq <| J_drawL none mixed <| ip 0 rfl rfl rfl rfl (p_fieldAddr rfl fa110_2) <| iv 1 rfl rfl rfl rfl (fun _ => v_load rfl ty3 HS (by exact rfl)) ?_
  refine i1 2 rfl <| xc fc147 (.cons rfl (.cons rfl (.cons rfl .nil))) rfl (cIn) fun _ => ip 3 rfl rfl rfl rfl (p_move rfl) ?_
  refine J_gsplit (t := 40) rfl (fun h40 => ?_) (fun h40 => ?_)
  have hsz : 0 ≤ c.size ∧ c.size ≤ 8 := by simpa [inB] using h40
  obtain ⟨k, hk⟩ : ∃ k : Nat, c.size = k := ⟨c.size.toNat, by omega⟩
  obtain ⟨g1, g2, g3⟩ := shl1_small k (by omega)
  have g4 : shl1 c.size = 2 ^ k := by rw [hk]; exact g1
  have g5 : (IntKind.i64.bits : Int) = 64 := rfl
  refine I_takeOn (i := 4) rfl rfl rfl rfl rfl rfl rfl (by kernel_rfl) (fun _ _ _ _ h => h) (fun _ => Pur.vl (p_fieldAddr rfl fa110_3)) <| I_takeOn (i := 5) rfl rfl rfl rfl rfl rfl rfl (by kernel_rfl) (fun _ _ _ _ h => h) (fun _ => v_load rfl ty3 HS (by exact rfl)) ?_
  refine I_takeOn (i := 6) rfl rfl rfl rfl rfl rfl rfl (by kernel_rfl) (fun _ _ _ _ h => h) (fun _ => Pur.vl (p_fieldAddr rfl fa110_2)) <| I_takeOn (i := 7) rfl rfl rfl rfl rfl rfl rfl (by kernel_rfl) (fun _ _ _ _ h => h) (fun _ => v_load rfl ty3 HS (by exact rfl)) ?_
  refine I_takeOn (i := 8) rfl rfl rfl rfl rfl rfl rfl (by kernel_rfl) (fun _ _ _ _ h => h) (fun _ => Pur.vl (p_shl rfl rfl (by omega) (by omega))) <| J_slot (t := 45) (v := .int .i64 (shl1 c.size)) rfl rfl <| I_takeOn (i := 9) rfl rfl rfl rfl rfl rfl rfl (by kernel_rfl) (fun _ _ _ _ h => h) (fun _ => Pur.vl (p_sub64 rfl rfl (by omega))) <| i1 10 rfl <| G_on rfl rfl rfl <| xc fc147 (.cons rfl (.cons rfl (.cons rfl .nil))) rfl (cIn) fun _ => ip 11 rfl rfl rfl rfl (p_pick_t rfl rfl) <| ip 12 rfl rfl rfl rfl (p_assign rfl) ?_
  refine i0 <| Q_then <| J_ret <| Q_blk_ret <| Q_then_ret ?_
  refine J_return (()) Tryz.results104 (.tmp rfl .nil) ?_ ?_
  · first | rfl | (simp_all [one, checkC]; done) | (simp_all [one, checkC] <;> omega) | (simp_all [one, checkC] <;> grind)
  · exact SU
  refine I_takeOff (i := 4) rfl rfl rfl rfl rfl rfl rfl rfl (by kernel_rfl) (fun _ _ _ _ h => h) <| I_takeOff (i := 5) rfl rfl rfl rfl rfl rfl rfl rfl (by kernel_rfl) (fun _ _ _ _ h => h) <| I_takeOff (i := 6) rfl rfl rfl rfl rfl rfl rfl rfl (by kernel_rfl) (fun _ _ _ _ h => h) <| I_takeOff (i := 7) rfl rfl rfl rfl rfl rfl rfl rfl (by kernel_rfl) (fun _ _ _ _ h => h) <| I_takeOff (i := 8) rfl rfl rfl rfl rfl rfl rfl rfl (by kernel_rfl) (fun _ _ _ _ h => h) <| I_takeOff (i := 9) rfl rfl rfl rfl rfl rfl rfl rfl (by kernel_rfl) (fun _ _ _ _ h => h) <| I_takeOff (i := 10) rfl rfl rfl rfl rfl rfl rfl rfl (by kernel_rfl) (fun _ _ _ _ h => h) <| ip 11 rfl rfl rfl rfl (p_pick_f rfl rfl) ?_
  refine ip 12 rfl rfl rfl rfl (p_assign rfl) <| i0 <| Q_then <| J_ret <| Q_blk_ret <| Q_then_ret ?_
  refine J_return (()) Tryz.results104 (.tmp rfl .nil) ?_ ?_
  · first | rfl | (simp_all [one, checkC]; done) | (simp_all [one, checkC] <;> omega) | (simp_all [one, checkC] <;> grind)
  · exact SU
  refine J_seq <| sr <| L_pur rfl (p_eql rfl rfl) <| ag rfl rfl <| nq ?_
  refine C_split rfl (fun h49 => ?_) (fun h49 => ?_)
  refine J_skip <| Q_then ?_
  refine C_split rfl (fun h49 => ?_) (fun h49 => ?_)
  refine sr <| fa rfl rfl fa110_2 <| L_val rfl (v_load rfl ty3 HS (by exact rfl)) ?_
  refine L_pur rfl (p_eql rfl rfl) <| mv rfl rfl ?_
  refine J_gsplit (t := 55) rfl (fun h55 => ?_) (fun h55 => ?_)
  refine L_op <| G_on rfl rfl rfl <| J_pur (p_fieldAddr rfl fa110_3) rfl rfl rfl <| L_op <| G_on rfl rfl rfl <| J_val (v_load rfl ty3 HS (by exact rfl)) rfl rfl rfl ?_
  refine L_op <| G_on rfl rfl rfl <| xc fc147 (.cons rfl (.cons rfl (.cons rfl .nil))) rfl (cIn) fun _ => L_pur rfl (p_pick_t rfl rfl) <| ag rfl rfl <| nq <| J_ret <| Q_blk_ret ?_
  refine Q_then_ret ?_
  refine J_return (()) Tryz.results104 (.tmp rfl .nil) ?_ ?_
  · first | rfl | (simp_all [one, checkC]; done) | (simp_all [one, checkC] <;> omega) | (simp_all [one, checkC] <;> grind)
  · exact SU
  refine L_op <| G_off rfl rfl rfl rfl rfl rfl <| L_op <| G_off rfl rfl rfl rfl rfl rfl <| L_op <| G_off rfl rfl rfl rfl rfl rfl <| L_pur rfl (p_pick_f rfl rfl) <| ag rfl rfl ?_
  refine nq <| J_ret <| Q_blk_ret <| Q_then_ret ?_
  refine J_return (()) Tryz.results104 (.tmp rfl .nil) ?_ ?_
  · first | rfl | (simp_all [one, checkC]; done) | (simp_all [one, checkC] <;> omega) | (simp_all [one, checkC] <;> grind)
  · exact SU
  refine J_skip <| Q_blk_normal <| qx <| fa rfl rfl fa110_2 <| L_val rfl (v_load rfl ty3 HS (by exact rfl)) ?_
  refine L_pur rfl (p_eql rfl rfl) <| mv rfl rfl ?_
  refine J_gsplit (t := 63) rfl (fun h63 => ?_) (fun h63 => ?_)
  refine L_op <| G_on rfl rfl rfl <| J_pur (p_fieldAddr rfl fa110_3) rfl rfl rfl <| L_op <| G_on rfl rfl rfl <| J_val (v_load rfl ty3 HS (by exact rfl)) rfl rfl rfl ?_
  refine L_op <| G_on rfl rfl rfl <| J_pur (p_eql rfl rfl) rfl rfl rfl <| L_pur rfl (p_pick_t rfl rfl) <| ag rfl rfl <| nq <| J_ret ?_
  refine J_return (()) Tryz.results104 (.tmp rfl .nil) ?_ ?_
  · first | rfl | (simp_all [one, checkC]; done) | (simp_all [one, checkC] <;> omega) | (simp_all [one, checkC] <;> grind)
  · exact SU
  refine L_op <| G_off rfl rfl rfl rfl rfl rfl <| L_op <| G_off rfl rfl rfl rfl rfl rfl <| L_op <| G_off rfl rfl rfl rfl rfl rfl <| L_pur rfl (p_pick_f rfl rfl) <| ag rfl rfl ?_
  refine nq <| J_ret ?_
  refine J_return (()) Tryz.results104 (.tmp rfl .nil) ?_ ?_
  · first | rfl | (simp_all [one, checkC]; done) | (simp_all [one, checkC] <;> omega) | (simp_all [one, checkC] <;> grind)
  · exact SU
  refine J_region <| L_pur rfl (p_eql rfl rfl) <| ag rfl rfl <| nq ?_
  refine C_split rfl (fun h49 => ?_) (fun h49 => ?_)
  refine sr <| fa rfl rfl fa110_2 <| L_val rfl (v_load rfl ty3 HS (by exact rfl)) ?_
  refine L_pur rfl (p_eql rfl rfl) <| mv rfl rfl ?_
  refine J_gsplit (t := 55) rfl (fun h55 => ?_) (fun h55 => ?_)
  refine L_op <| G_on rfl rfl rfl <| J_pur (p_fieldAddr rfl fa110_3) rfl rfl rfl <| L_op <| G_on rfl rfl rfl <| J_val (v_load rfl ty3 HS (by exact rfl)) rfl rfl rfl ?_
  refine L_op <| G_on rfl rfl rfl <| xc fc147 (.cons rfl (.cons rfl (.cons rfl .nil))) rfl (cIn) fun _ => L_pur rfl (p_pick_t rfl rfl) <| ag rfl rfl <| nq <| J_ret <| Q_blk_ret ?_
  refine Q_then_ret ?_
  refine J_return (()) Tryz.results104 (.tmp rfl .nil) ?_ ?_
  · first | rfl | (simp_all [one, checkC]; done) | (simp_all [one, checkC] <;> omega) | (simp_all [one, checkC] <;> grind)
  · exact SU
  refine L_op <| G_off rfl rfl rfl rfl rfl rfl <| L_op <| G_off rfl rfl rfl rfl rfl rfl <| L_op <| G_off rfl rfl rfl rfl rfl rfl <| L_pur rfl (p_pick_f rfl rfl) <| ag rfl rfl ?_
  refine nq <| J_ret <| Q_blk_ret <| Q_then_ret ?_
  refine J_return (()) Tryz.results104 (.tmp rfl .nil) ?_ ?_
  · first | rfl | (simp_all [one, checkC]; done) | (simp_all [one, checkC] <;> omega) | (simp_all [one, checkC] <;> grind)
  · exact SU
  refine J_skip <| Q_blk_normal <| qx <| fa rfl rfl fa110_2 <| L_val rfl (v_load rfl ty3 HS (by exact rfl)) ?_
  refine L_pur rfl (p_eql rfl rfl) <| mv rfl rfl ?_
  refine J_gsplit (t := 63) rfl (fun h63 => ?_) (fun h63 => ?_)
  refine L_op <| G_on rfl rfl rfl <| J_pur (p_fieldAddr rfl fa110_3) rfl rfl rfl <| L_op <| G_on rfl rfl rfl <| J_val (v_load rfl ty3 HS (by exact rfl)) rfl rfl rfl ?_
  refine L_op <| G_on rfl rfl rfl <| J_pur (p_eql rfl rfl) rfl rfl rfl <| L_pur rfl (p_pick_t rfl rfl) <| ag rfl rfl <| nq <| J_ret ?_
  refine J_return (()) Tryz.results104 (.tmp rfl .nil) ?_ ?_
  · first | rfl | (simp_all [one, checkC]; done) | (simp_all [one, checkC] <;> omega) | (simp_all [one, checkC] <;> grind)
  · exact SU
  refine L_op <| G_off rfl rfl rfl rfl rfl rfl <| L_op <| G_off rfl rfl rfl rfl rfl rfl <| L_op <| G_off rfl rfl rfl rfl rfl rfl <| L_pur rfl (p_pick_f rfl rfl) <| ag rfl rfl ?_
  refine nq <| J_ret ?_
  refine J_return (()) Tryz.results104 (.tmp rfl .nil) ?_ ?_
  · first | rfl | (simp_all [one, checkC]; done) | (simp_all [one, checkC] <;> omega) | (simp_all [one, checkC] <;> grind)
  · exact SU
end Go.Pse
namespace Go.Pse
open Go.RowKit Go.Proofs
def slPutOk (ps : List (Place × SV)) (p : Place) (c : Cap) (q : Place) : Bool := canP p && !(look ps p).isSome && checkC c && (decide (q = (0, 0)) || (look ps q).isSome)
def slPut (ps : List (Place × SV)) (p : Place) (c : Cap) (q : Place) : List (Place × SV) := if slPutOk ps p c q then ins ps p (c, q) else ps
theorem slHas {E : World} {l m : List As} {b o : Nat} {ps : List (Place × SV)} (hp : Pick (slA b o ps) l m) {p : Place} :
    Con Tryz.prog 103 #[.pointer (some ⟨b, o, none⟩), .agg (encI p).toArray] E l (fun _ : Unit => .bool (look ps p).isSome) (fun _ => slA b o ps :: m) := by
  refine Con.body (vs := [.pointer (some ⟨b, o, none⟩), .agg (encI p).toArray]) (n := 17) Tryz.func103 rfl rfl [(0, .pointer (some ⟨b, o, none⟩)), (1, .agg (encI p).toArray)] (env_ok 2 rfl) <| J_pick hp <| J_slO fun ob _ => sr <| L_op <| x_box rfl rfl rfl fun b3 => ag rfl rfl <| nq ?_
  refine J_seq <| J_drawL none mixed <| ip 0 rfl rfl rfl rfl (p_move rfl) <| ip 1 rfl rfl rfl rfl (p_nilCheck rfl) <| ip 2 rfl rfl rfl rfl (p_fieldAddr rfl fa126_0) <| iv 3 rfl rfl rfl rfl (fun _ => v_loadL rfl ty124 HS rfl (by exact rfl)) ?_
  refine iv 4 rfl rfl rfl rfl (fun _ => v_loadA rfl ty108 HS CT) ?_
  refine iv 5 rfl rfl rfl rfl (fun _ => v_lookOk (ek := kI) (ev := evS) (a := p) rfl rfl ky108 Tryz.underlying124 zv195 HS) ?_
  refine J_slot (t := 13) (v := .tuple #[evS ((look ps p).getD s0), .bool (look ps p).isSome]) rfl (by cases look ps p <;> rfl) <| ip 6 rfl rfl rfl rfl (p_move rfl) <| ip 7 rfl rfl rfl rfl (p_extract rfl rfl) <| ip 8 rfl rfl rfl rfl (p_extract rfl rfl) <| i1 9 rfl <| x_alloc ty195 rfl fun b5 => i1 10 rfl <| x_store rfl rfl ty195 rfl SM SM RO PT ?_
  refine ip 11 rfl rfl rfl rfl (p_assign rfl) <| i0 <| qx <| mv rfl rfl <| ag rfl rfl <| nq <| J_ret <| J_slS (b := b) (o := o) (ps := ps) _ PX trivial ?_
  exact J_return (()) Tryz.results103 (.tmp rfl .nil) rfl SU
theorem slLays {E : World} {l m : List As} {b o : Nat} {ps : List (Place × SV)} (hp : Pick (slA b o ps) l m) {p : Place} {s : SV} :
  Con Tryz.prog 105 #[.pointer (some ⟨b, o, none⟩), .agg (encI p).toArray, .agg (encC s.1 ++ encI s.2).toArray] E l (fun _ : Unit => .tuple #[]) (fun _ => slA b o (ins ps p s) :: m) := by
 refine Con.body (vs := [.pointer (some ⟨b, o, none⟩), .agg (encI p).toArray, .agg (encC s.1 ++ encI s.2).toArray]) (n := 21) Tryz.func105 rfl rfl [(0, .pointer (some ⟨b, o, none⟩)), (1, .agg (encI p).toArray), (2, .agg (encC s.1 ++ encI s.2).toArray)] (env_ok 3 rfl) <| J_pick hp <| J_slO fun ob _ => sr <| L_op <| x_box rfl rfl rfl fun b4 => L_op <| x_box rfl rfl rfl fun b5 => ?_
 refine nxx <| mv rfl rfl <| nc rfl rfl <| fa rfl rfl fa126_0 <| L_val rfl (v_loadL rfl ty124 HS rfl (by exact rfl)) ?_
 refine L_pur rfl (p_eqNilMap Tryz.underlying124 rfl) <| nq ?_
 refine C_split rfl (fun h10 => ?_) (fun h10 => ?_)
 obtain rfl : ob = none := by simpa using h10
 refine J_mapNone (ps := ps) HS fun hps => ?_
 subst hps
 refine J_region <| mv rfl rfl <| L_op <| x_makeMap (ek := kI) (ev := evS) rfl fun b12 => nc rfl rfl <| fa rfl rfl fa126_0 <| L_op <| x_storeL rfl rfl ty124 rfl SM SM rfl RO rfl PT ?_
 refine nq <| J_drawT 6 mixed (by kernel_rfl) <| sm rfl rfl <| sp rfl (p_nilCheck rfl) <| sp rfl (p_fieldAddr rfl fa126_0) <| S_val rfl (v_loadL rfl ty124 HS rfl (by exact rfl)) ?_
 refine S_val rfl (v_loadA rfl ty108 HS CT) ?_
 refine S_val rfl (v_loadA rfl ty195 HS CT) ?_
 refine S_nil <| L_op <| x_mapUpdate (ek := kI) (ev := evS) (a := p) (c := s) rfl rfl rfl ky108 Tryz.underlying124 PC ?_
 refine L_nil <| J_endnormal <| J_slS (b := b) (o := o) (ps := ins [] p s) _ PX trivial ?_
 exact J_return (()) Tryz.results105 .nil rfl SU
 obtain ⟨bm, rfl⟩ : ∃ bm, ob = some bm := by cases ob with | none => simp at h10 | some x => exact ⟨x, rfl⟩
 refine J_skip <| Q_then <| J_drawT 6 mixed (by kernel_rfl) <| sm rfl rfl <| sp rfl (p_nilCheck rfl) <| sp rfl (p_fieldAddr rfl fa126_0) <| S_val rfl (v_loadL rfl ty124 HS rfl (by exact rfl)) ?_
 refine S_val rfl (v_loadA rfl ty108 HS CT) ?_
 refine S_val rfl (v_loadA rfl ty195 HS CT) ?_
 refine S_nil <| L_op <| x_mapUpdate (ek := kI) (ev := evS) (a := p) (c := s) rfl rfl rfl ky108 Tryz.underlying124 PC ?_
 refine L_nil <| J_endnormal <| J_slS (b := b) (o := o) (ps := ins ps p s) _ PX trivial ?_
 exact J_return (()) Tryz.results105 .nil rfl SU
theorem slPutC {E : World} {l m : List As} {b o : Nat} {ps : List (Place × SV)} (hp : Pick (slA b o ps) l m) {p : Place} {c : Cap} {q : Place} :
    Con Tryz.prog 58 #[.pointer (some ⟨b, o, none⟩), .agg (encI p).toArray, .agg (encC c).toArray, .agg (encI q).toArray] E l (fun _ : Unit => .bool (slPutOk ps p c q)) (fun _ => slA b o (slPut ps p c q) :: m) := by
  refine Con.body (vs := [.pointer (some ⟨b, o, none⟩), .agg (encI p).toArray, .agg (encC c).toArray, .agg (encI q).toArray]) (n := 39) Tryz.func58 rfl rfl [(0, .pointer (some ⟨b, o, none⟩)), (1, .agg (encI p).toArray), (2, .agg (encC c).toArray), (3, .agg (encI q).toArray)] (env_ok 4 rfl) ?_
  obtain ⟨q1, q2⟩ := q
  refine J_pick hp <| sr <| L_op <| x_box rfl rfl rfl fun b5 => L_op <| x_box rfl rfl rfl fun b6 => L_op <| x_box rfl rfl rfl fun b7 => ?_
  refine ag rfl rfl <| nxx <| L_val rfl (v_loadA rfl ty108 HS CT) ?_
  refine L_op <| xc fc102 (.cons rfl .nil) rfl (sCan) fun _ => L_pur rfl (p_not rfl) <| mv rfl rfl ?_
  refine J_gsplit (t := 12) rfl (fun h12 => ?_) (fun h12 => ?_)
  refine L_op <| G_off rfl rfl rfl rfl rfl rfl <| L_op <| G_off rfl rfl rfl rfl rfl rfl <| L_op <| G_off rfl rfl rfl rfl rfl rfl <| L_pur rfl (p_pick_t rfl rfl) <| mv rfl rfl ?_
  refine L_op <| G_off rfl rfl rfl rfl rfl rfl <| L_op <| G_off rfl rfl rfl rfl rfl rfl <| L_op <| G_off rfl rfl rfl rfl rfl rfl <| L_pur rfl (p_pick_t rfl rfl) <| mv rfl rfl ?_
  refine L_op <| G_off rfl rfl rfl rfl rfl rfl <| L_op <| G_off rfl rfl rfl rfl rfl rfl <| L_op <| G_off rfl rfl rfl rfl rfl rfl <| L_op <| G_off rfl rfl rfl rfl rfl rfl ?_
  refine L_op <| G_offU rfl rfl rfl rfl rfl <| L_op <| G_offU rfl rfl rfl rfl rfl <| L_op <| G_offU rfl rfl rfl rfl rfl <| L_op <| G_offU rfl rfl rfl rfl rfl ?_
  refine L_op <| G_off rfl rfl rfl rfl rfl rfl <| L_pur rfl (p_pick_t rfl rfl) <| nq <| C_true rfl <| sr <| ag rfl rfl <| nq ?_
  refine J_ret <| Q_then_ret <| J_pick (A := slA b o _) PC ?_
  refine J_asTo (B := slA b o (slPut ps p c (q1, q2))) (by first | (simp_all [slPut, slPutOk, Prod.ext_iff]; done) | (simp_all [slPut, slPutOk, Prod.ext_iff] <;> grind)) ?_
  refine J_return (()) Tryz.results58 (.tmp rfl .nil) ?_ ?_
  · first | rfl | (simp_all [one, slPutOk, Prod.ext_iff]; done) | (simp_all [one, slPutOk, Prod.ext_iff] <;> omega) | (simp_all [one, slPutOk, Prod.ext_iff] <;> grind)
  · exact SU
  refine L_op <| G_on rfl rfl rfl <| J_pur (p_move rfl) rfl rfl rfl <| L_op <| G_on rfl rfl rfl <| J_val (v_loadA rfl ty108 HS CT) rfl rfl rfl ?_
  refine L_op <| G_on rfl rfl rfl <| xc fc103 (.cons rfl (.cons rfl .nil)) rfl (slHas (ps := ps) PC) fun _ => ?_
  refine L_pur rfl (p_pick_f rfl rfl) <| mv rfl rfl ?_
  refine J_gsplit (t := 17) rfl (fun h17 => ?_) (fun h17 => ?_)
  refine L_op <| G_off rfl rfl rfl rfl rfl rfl <| L_op <| G_off rfl rfl rfl rfl rfl rfl <| L_op <| G_off rfl rfl rfl rfl rfl rfl <| L_pur rfl (p_pick_t rfl rfl) <| mv rfl rfl ?_
  refine L_op <| G_off rfl rfl rfl rfl rfl rfl <| L_op <| G_off rfl rfl rfl rfl rfl rfl <| L_op <| G_off rfl rfl rfl rfl rfl rfl <| L_op <| G_off rfl rfl rfl rfl rfl rfl ?_
  refine L_op <| G_offU rfl rfl rfl rfl rfl <| L_op <| G_offU rfl rfl rfl rfl rfl <| L_op <| G_offU rfl rfl rfl rfl rfl <| L_op <| G_offU rfl rfl rfl rfl rfl ?_
  refine L_op <| G_off rfl rfl rfl rfl rfl rfl <| L_pur rfl (p_pick_t rfl rfl) <| nq <| C_true rfl <| sr <| ag rfl rfl <| nq ?_
  refine J_ret <| Q_then_ret <| J_pick (A := slA b o _) PC ?_
  refine J_asTo (B := slA b o (slPut ps p c (q1, q2))) (by first | (simp_all [slPut, slPutOk, Prod.ext_iff]; done) | (simp_all [slPut, slPutOk, Prod.ext_iff] <;> grind)) ?_
  refine J_return (()) Tryz.results58 (.tmp rfl .nil) ?_ ?_
  · first | rfl | (simp_all [one, slPutOk, Prod.ext_iff]; done) | (simp_all [one, slPutOk, Prod.ext_iff] <;> omega) | (simp_all [one, slPutOk, Prod.ext_iff] <;> grind)
  · exact SU
  refine L_op <| G_on rfl rfl rfl <| J_val (v_loadA rfl ty110 HS CT) rfl rfl rfl ?_
  refine L_op <| G_on rfl rfl rfl <| xc fc104 (.cons rfl .nil) rfl (cCheck) fun _ => L_op <| G_on rfl rfl rfl <| J_pur (p_not rfl) rfl rfl rfl <| L_pur rfl (p_pick_f rfl rfl) <| mv rfl rfl ?_
  refine J_gsplit (t := 22) rfl (fun h22 => ?_) (fun h22 => ?_)
  refine L_op <| G_off rfl rfl rfl rfl rfl rfl <| L_op <| G_off rfl rfl rfl rfl rfl rfl <| L_op <| G_off rfl rfl rfl rfl rfl rfl <| L_op <| G_off rfl rfl rfl rfl rfl rfl ?_
  refine L_op <| G_offU rfl rfl rfl rfl rfl <| L_op <| G_offU rfl rfl rfl rfl rfl <| L_op <| G_offU rfl rfl rfl rfl rfl <| L_op <| G_offU rfl rfl rfl rfl rfl ?_
  refine L_op <| G_off rfl rfl rfl rfl rfl rfl <| L_pur rfl (p_pick_t rfl rfl) <| nq <| C_true rfl <| sr <| ag rfl rfl <| nq ?_
  refine J_ret <| Q_then_ret <| J_pick (A := slA b o _) PC ?_
  refine J_asTo (B := slA b o (slPut ps p c (q1, q2))) (by first | (simp_all [slPut, slPutOk, Prod.ext_iff]; done) | (simp_all [slPut, slPutOk, Prod.ext_iff] <;> grind)) ?_
  refine J_return (()) Tryz.results58 (.tmp rfl .nil) ?_ ?_
  · first | rfl | (simp_all [one, slPutOk, Prod.ext_iff]; done) | (simp_all [one, slPutOk, Prod.ext_iff] <;> omega) | (simp_all [one, slPutOk, Prod.ext_iff] <;> grind)
  · exact SU
  refine L_op <| G_on rfl rfl rfl <| J_val (v_loadA rfl ty108 HS CT) rfl rfl rfl ?_
  refine L_op <| G_on rfl rfl rfl <| J_pur (bld108 .nil (by repeat constructor)) rfl rfl rfl <| L_op <| G_on rfl rfl rfl <| J_pur (p_nev rfl rfl (fun w => eg108 _ _ _ _ _ w) (fun w => nev108 _ _ _ _ w)) rfl rfl rfl <| L_op <| G_on rfl rfl rfl ?_
  refine J_pur (p_move rfl) rfl rfl rfl ?_
  refine J_gsplit (t := 26) rfl (fun h26 => ?_) (fun h26 => ?_)
  refine L_op <| G_on rfl rfl rfl <| J_pur (p_move rfl) rfl rfl rfl <| L_op <| G_on rfl rfl rfl <| J_val (v_loadA rfl ty108 HS CT) rfl rfl rfl ?_
  refine L_op <| G_on rfl rfl rfl <| xc fc103 (.cons rfl (.cons rfl .nil)) rfl (slHas (ps := ps) PC) fun _ => ?_
  refine L_op <| G_on rfl rfl rfl <| J_pur (p_not rfl) rfl rfl rfl <| L_op <| G_on rfl rfl rfl <| J_pur (p_pick_t rfl rfl) rfl rfl rfl <| L_pur rfl (p_pick_f rfl rfl) <| nq ?_
  refine C_split rfl (fun h32 => ?_) (fun h32 => ?_)
  refine sr <| ag rfl rfl <| nq <| J_ret <| Q_then_ret <| J_pick (A := slA b o _) PC ?_
  refine J_asTo (B := slA b o (slPut ps p c (q1, q2))) (by first | (simp_all [slPut, slPutOk, Prod.ext_iff]; done) | (simp_all [slPut, slPutOk, Prod.ext_iff] <;> grind)) ?_
  refine J_return (()) Tryz.results58 (.tmp rfl .nil) ?_ ?_
  · first | rfl | (simp_all [one, slPutOk, Prod.ext_iff]; done) | (simp_all [one, slPutOk, Prod.ext_iff] <;> omega) | (simp_all [one, slPutOk, Prod.ext_iff] <;> grind)
  · exact SU
  refine J_skip <| qx <| mv rfl rfl <| L_val rfl (v_loadA rfl ty108 HS CT) ?_
  refine L_val rfl (v_loadA rfl ty110 HS CT) ?_
  refine L_val rfl (v_loadA rfl ty108 HS CT) ?_
  refine L_pur rfl (bld195 (.cons rfl (.cons rfl .nil)) (by repeat constructor)) <| L_op <| xc fc105 (.cons rfl (.cons rfl (.cons rfl .nil))) rfl (slLays (ps := ps) (p := p) (s := (c, (q1, q2))) PC) fun _ => ?_
  refine nx <| ag rfl rfl <| nq <| J_ret <| J_pick (A := slA b o _) PC ?_
  refine J_asTo (B := slA b o (slPut ps p c (q1, q2))) (by first | (simp_all [slPut, slPutOk, Prod.ext_iff]; done) | (simp_all [slPut, slPutOk, Prod.ext_iff] <;> grind)) ?_
  refine J_return (()) Tryz.results58 (.tmp rfl .nil) ?_ ?_
  · first | rfl | (simp_all [one, slPutOk, Prod.ext_iff]; done) | (simp_all [one, slPutOk, Prod.ext_iff] <;> omega) | (simp_all [one, slPutOk, Prod.ext_iff] <;> grind)
  · exact SU
  refine L_op <| G_off rfl rfl rfl rfl rfl rfl <| L_op <| G_off rfl rfl rfl rfl rfl rfl <| L_op <| G_off rfl rfl rfl rfl rfl rfl <| L_op <| G_off rfl rfl rfl rfl rfl rfl ?_
  refine L_op <| G_on rfl rfl rfl <| J_pur (p_pick_f rfl rfl) rfl rfl rfl <| L_pur rfl (p_pick_f rfl rfl) <| nq <| C_false rfl <| J_skip <| qx ?_
  refine mv rfl rfl <| L_val rfl (v_loadA rfl ty108 HS CT) ?_
  refine L_val rfl (v_loadA rfl ty110 HS CT) ?_
  refine L_val rfl (v_loadA rfl ty108 HS CT) ?_
  refine L_pur rfl (bld195 (.cons rfl (.cons rfl .nil)) (by repeat constructor)) <| L_op <| xc fc105 (.cons rfl (.cons rfl (.cons rfl .nil))) rfl (slLays (ps := ps) (p := p) (s := (c, (q1, q2))) PC) fun _ => ?_
  refine nx <| ag rfl rfl <| nq <| J_ret <| J_pick (A := slA b o _) PC ?_
  refine J_asTo (B := slA b o (slPut ps p c (q1, q2))) (by first | (simp_all [slPut, slPutOk, Prod.ext_iff]; done) | (simp_all [slPut, slPutOk, Prod.ext_iff] <;> grind)) ?_
  refine J_return (()) Tryz.results58 (.tmp rfl .nil) ?_ ?_
  · first | rfl | (simp_all [one, slPutOk, Prod.ext_iff]; done) | (simp_all [one, slPutOk, Prod.ext_iff] <;> omega) | (simp_all [one, slPutOk, Prod.ext_iff] <;> grind)
  · exact SU
def spSetOk (ps : List (Place × M1)) (p : Place) (f : M1) : Bool := !(decide (p.2 < 0) || decide (p.2 ≥ 8) || !okUnit p.1 || !okUnit f.1 || decide (f.2 < 1) || decide (f.2 > 3)) && !(look ps p).isSome
def spSet (ps : List (Place × M1)) (p : Place) (f : M1) : List (Place × M1) := if spSetOk ps p f then ins ps p f else ps
theorem spSetC {E : World} {l m : List As} {b o : Nat} {ps : List (Place × M1)} (hp : Pick (spA b o ps) l m) {p : Place} {f : M1} :
    Con Tryz.prog 142 #[.pointer (some ⟨b, o, none⟩), .agg (encI p).toArray, .agg (encI f).toArray] E l (fun _ : Unit => .bool (spSetOk ps p f)) (fun _ => spA b o (spSet ps p f) :: m) := by
  refine Con.body (vs := [.pointer (some ⟨b, o, none⟩), .agg (encI p).toArray, .agg (encI f).toArray]) (n := 64) Tryz.func142 rfl rfl [(0, .pointer (some ⟨b, o, none⟩)), (1, .agg (encI p).toArray), (2, .agg (encI f).toArray)] (env_ok 3 rfl) <| J_pick hp <| J_spO fun ob _ => sr <| L_op <| x_box rfl rfl rfl fun b4 => L_op <| x_box rfl rfl rfl fun b5 => ?_
  refine ag rfl rfl <| nxx <| fa rfl rfl fa199_1 <| L_val rfl (v_load rfl ty3 HS (by exact rfl)) ?_
  refine L_pur rfl (p_lss rfl rfl) <| mv rfl rfl ?_
  refine J_gsplit (t := 12) rfl (fun h12 => ?_) (fun h12 => ?_)
  refine L_op <| G_off rfl rfl rfl rfl rfl rfl <| L_op <| G_off rfl rfl rfl rfl rfl rfl <| L_op <| G_off rfl rfl rfl rfl rfl rfl <| L_pur rfl (p_pick_t rfl rfl) <| mv rfl rfl ?_
  refine L_op <| G_off rfl rfl rfl rfl rfl rfl <| L_op <| G_off rfl rfl rfl rfl rfl rfl <| L_op <| G_off rfl rfl rfl rfl rfl rfl <| L_op <| G_off rfl rfl rfl rfl rfl rfl ?_
  refine L_pur rfl (p_pick_t rfl rfl) <| mv rfl rfl <| L_op <| G_off rfl rfl rfl rfl rfl rfl <| L_op <| G_off rfl rfl rfl rfl rfl rfl <| L_op <| G_off rfl rfl rfl rfl rfl rfl ?_
  refine L_op <| G_off rfl rfl rfl rfl rfl rfl <| L_pur rfl (p_pick_t rfl rfl) <| mv rfl rfl <| L_op <| G_off rfl rfl rfl rfl rfl rfl <| L_op <| G_off rfl rfl rfl rfl rfl rfl ?_
  refine L_op <| G_off rfl rfl rfl rfl rfl rfl <| L_pur rfl (p_pick_t rfl rfl) <| mv rfl rfl <| L_op <| G_off rfl rfl rfl rfl rfl rfl <| L_op <| G_off rfl rfl rfl rfl rfl rfl ?_
  refine L_op <| G_off rfl rfl rfl rfl rfl rfl <| L_pur rfl (p_pick_t rfl rfl) <| nq <| C_true rfl <| sr <| ag rfl rfl <| nq ?_
  refine J_ret <| Q_then_ret <| J_spS (b := b) (o := o) (ps := ps) _ PX trivial ?_
  refine J_asTo (B := spA b o (spSet ps p f)) (by first | (simp_all [spSet, spSetOk]; done) | (simp_all [spSet, spSetOk] <;> grind)) ?_
  refine J_return (()) Tryz.results142 (.tmp rfl .nil) ?_ ?_
  · first | rfl | (simp_all [one, spSetOk]; done) | (simp_all [one, spSetOk] <;> omega) | (simp_all [one, spSetOk] <;> grind)
  · exact SU
  refine L_op <| G_on rfl rfl rfl <| J_pur (p_fieldAddr rfl fa199_1) rfl rfl rfl <| L_op <| G_on rfl rfl rfl <| J_val (v_load rfl ty3 HS (by exact rfl)) rfl rfl rfl ?_
  refine L_op <| G_on rfl rfl rfl <| J_pur (p_geq rfl rfl) rfl rfl rfl <| L_pur rfl (p_pick_f rfl rfl) <| mv rfl rfl ?_
  refine J_gsplit (t := 17) rfl (fun h17 => ?_) (fun h17 => ?_)
  refine L_op <| G_off rfl rfl rfl rfl rfl rfl <| L_op <| G_off rfl rfl rfl rfl rfl rfl <| L_op <| G_off rfl rfl rfl rfl rfl rfl <| L_op <| G_off rfl rfl rfl rfl rfl rfl ?_
  refine L_pur rfl (p_pick_t rfl rfl) <| mv rfl rfl <| L_op <| G_off rfl rfl rfl rfl rfl rfl <| L_op <| G_off rfl rfl rfl rfl rfl rfl <| L_op <| G_off rfl rfl rfl rfl rfl rfl ?_
  refine L_op <| G_off rfl rfl rfl rfl rfl rfl <| L_pur rfl (p_pick_t rfl rfl) <| mv rfl rfl <| L_op <| G_off rfl rfl rfl rfl rfl rfl <| L_op <| G_off rfl rfl rfl rfl rfl rfl ?_
  refine L_op <| G_off rfl rfl rfl rfl rfl rfl <| L_pur rfl (p_pick_t rfl rfl) <| mv rfl rfl <| L_op <| G_off rfl rfl rfl rfl rfl rfl <| L_op <| G_off rfl rfl rfl rfl rfl rfl ?_
  refine L_op <| G_off rfl rfl rfl rfl rfl rfl <| L_pur rfl (p_pick_t rfl rfl) <| nq <| C_true rfl <| sr <| ag rfl rfl <| nq ?_
  refine J_ret <| Q_then_ret <| J_spS (b := b) (o := o) (ps := ps) _ PX trivial ?_
  refine J_asTo (B := spA b o (spSet ps p f)) (by first | (simp_all [spSet, spSetOk]; done) | (simp_all [spSet, spSetOk] <;> grind)) ?_
  refine J_return (()) Tryz.results142 (.tmp rfl .nil) ?_ ?_
  · first | rfl | (simp_all [one, spSetOk]; done) | (simp_all [one, spSetOk] <;> omega) | (simp_all [one, spSetOk] <;> grind)
  · exact SU
  refine L_op <| G_on rfl rfl rfl <| J_pur (p_fieldAddr rfl fa199_0) rfl rfl rfl <| L_op <| G_on rfl rfl rfl <| J_val (v_load rfl ty3 HS (by exact rfl)) rfl rfl rfl ?_
  refine L_op <| G_on rfl rfl rfl <| xc fc203 (.cons rfl .nil) rfl (sUnit) fun _ => L_op <| G_on rfl rfl rfl <| J_pur (p_not rfl) rfl rfl rfl <| L_pur rfl (p_pick_f rfl rfl) <| mv rfl rfl ?_
  refine J_gsplit (t := 23) rfl (fun h23 => ?_) (fun h23 => ?_)
  refine L_op <| G_off rfl rfl rfl rfl rfl rfl <| L_op <| G_off rfl rfl rfl rfl rfl rfl <| L_op <| G_off rfl rfl rfl rfl rfl rfl <| L_op <| G_off rfl rfl rfl rfl rfl rfl ?_
  refine L_pur rfl (p_pick_t rfl rfl) <| mv rfl rfl <| L_op <| G_off rfl rfl rfl rfl rfl rfl <| L_op <| G_off rfl rfl rfl rfl rfl rfl <| L_op <| G_off rfl rfl rfl rfl rfl rfl ?_
  refine L_pur rfl (p_pick_t rfl rfl) <| mv rfl rfl <| L_op <| G_off rfl rfl rfl rfl rfl rfl <| L_op <| G_off rfl rfl rfl rfl rfl rfl <| L_op <| G_off rfl rfl rfl rfl rfl rfl ?_
  refine L_pur rfl (p_pick_t rfl rfl) <| nq <| C_true rfl <| sr <| ag rfl rfl <| nq <| J_ret <| Q_then_ret ?_
  refine J_spS (b := b) (o := o) (ps := ps) _ PX trivial ?_
  refine J_asTo (B := spA b o (spSet ps p f)) (by first | (simp_all [spSet, spSetOk]; done) | (simp_all [spSet, spSetOk] <;> grind)) ?_
  refine J_return (()) Tryz.results142 (.tmp rfl .nil) ?_ ?_
  · first | rfl | (simp_all [one, spSetOk]; done) | (simp_all [one, spSetOk] <;> omega) | (simp_all [one, spSetOk] <;> grind)
  · exact SU
  refine L_op <| G_on rfl rfl rfl <| J_pur (p_fieldAddr rfl fa204_0) rfl rfl rfl <| L_op <| G_on rfl rfl rfl <| J_val (v_load rfl ty3 HS (by exact rfl)) rfl rfl rfl ?_
  refine L_op <| G_on rfl rfl rfl <| xc fc203 (.cons rfl .nil) rfl (sUnit) fun _ => L_op <| G_on rfl rfl rfl <| J_pur (p_not rfl) rfl rfl rfl <| L_pur rfl (p_pick_f rfl rfl) <| mv rfl rfl ?_
  refine J_gsplit (t := 29) rfl (fun h29 => ?_) (fun h29 => ?_)
  refine L_op <| G_off rfl rfl rfl rfl rfl rfl <| L_op <| G_off rfl rfl rfl rfl rfl rfl <| L_op <| G_off rfl rfl rfl rfl rfl rfl <| L_pur rfl (p_pick_t rfl rfl) <| mv rfl rfl ?_
  refine L_op <| G_off rfl rfl rfl rfl rfl rfl <| L_op <| G_off rfl rfl rfl rfl rfl rfl <| L_op <| G_off rfl rfl rfl rfl rfl rfl <| L_pur rfl (p_pick_t rfl rfl) <| nq ?_
  refine C_true rfl <| sr <| ag rfl rfl <| nq <| J_ret <| Q_then_ret <| J_spS (b := b) (o := o) (ps := ps) _ PX trivial ?_
  refine J_asTo (B := spA b o (spSet ps p f)) (by first | (simp_all [spSet, spSetOk]; done) | (simp_all [spSet, spSetOk] <;> grind)) ?_
  refine J_return (()) Tryz.results142 (.tmp rfl .nil) ?_ ?_
  · first | rfl | (simp_all [one, spSetOk]; done) | (simp_all [one, spSetOk] <;> omega) | (simp_all [one, spSetOk] <;> grind)
  · exact SU
  refine L_op <| G_on rfl rfl rfl <| J_pur (p_fieldAddr rfl fa204_1) rfl rfl rfl <| L_op <| G_on rfl rfl rfl <| J_val (v_load rfl ty3 HS (by exact rfl)) rfl rfl rfl ?_
  refine L_op <| G_on rfl rfl rfl <| J_pur (p_lss rfl rfl) rfl rfl rfl <| L_pur rfl (p_pick_f rfl rfl) <| mv rfl rfl ?_
  refine J_gsplit (t := 34) rfl (fun h34 => ?_) (fun h34 => ?_)
  refine L_op <| G_off rfl rfl rfl rfl rfl rfl <| L_op <| G_off rfl rfl rfl rfl rfl rfl <| L_op <| G_off rfl rfl rfl rfl rfl rfl <| L_pur rfl (p_pick_t rfl rfl) <| nq ?_
  refine C_true rfl <| sr <| ag rfl rfl <| nq <| J_ret <| Q_then_ret <| J_spS (b := b) (o := o) (ps := ps) _ PX trivial ?_
  refine J_asTo (B := spA b o (spSet ps p f)) (by first | (simp_all [spSet, spSetOk]; done) | (simp_all [spSet, spSetOk] <;> grind)) ?_
  refine J_return (()) Tryz.results142 (.tmp rfl .nil) ?_ ?_
  · first | rfl | (simp_all [one, spSetOk]; done) | (simp_all [one, spSetOk] <;> omega) | (simp_all [one, spSetOk] <;> grind)
  · exact SU
  refine L_op <| G_on rfl rfl rfl <| J_pur (p_fieldAddr rfl fa204_1) rfl rfl rfl <| L_op <| G_on rfl rfl rfl <| J_val (v_load rfl ty3 HS (by exact rfl)) rfl rfl rfl ?_
  refine L_op <| G_on rfl rfl rfl <| J_pur (p_gtr rfl rfl) rfl rfl rfl <| L_pur rfl (p_pick_f rfl rfl) <| nq ?_
  refine C_split rfl (fun h38 => ?_) (fun h38 => ?_)
  refine sr <| ag rfl rfl <| nq <| J_ret <| Q_then_ret <| J_spS (b := b) (o := o) (ps := ps) _ PX trivial ?_
  refine J_asTo (B := spA b o (spSet ps p f)) (by first | (simp_all [spSet, spSetOk]; done) | (simp_all [spSet, spSetOk] <;> grind)) ?_
  refine J_return (()) Tryz.results142 (.tmp rfl .nil) ?_ ?_
  · first | rfl | (simp_all [one, spSetOk]; done) | (simp_all [one, spSetOk] <;> omega) | (simp_all [one, spSetOk] <;> grind)
  · exact SU
  refine J_skip <| Q_then <| J_seq <| J_seq <| J_drawL none mixed <| ip 0 rfl rfl rfl rfl (p_move rfl) <| ip 1 rfl rfl rfl rfl (p_nilCheck rfl) <| ip 2 rfl rfl rfl rfl (p_fieldAddr rfl fa132_0) ?_
  refine iv 3 rfl rfl rfl rfl (fun _ => v_loadL rfl ty130 HS rfl (by exact rfl)) ?_
  refine iv 4 rfl rfl rfl rfl (fun _ => v_loadA rfl ty199 HS CT) ?_
  refine iv 5 rfl rfl rfl rfl (fun _ => v_lookOk (ek := kI) (ev := kI) (a := p) rfl rfl ky199 Tryz.underlying130 zv204 HS) ?_
  refine J_slot (t := 45) (v := .tuple #[kI ((look ps p).getD (0, 0)), .bool (look ps p).isSome]) rfl (by cases look ps p <;> rfl) <| ip 6 rfl rfl rfl rfl (p_move rfl) <| ip 7 rfl rfl rfl rfl (p_extract rfl rfl) <| ip 8 rfl rfl rfl rfl (p_extract rfl rfl) <| i1 9 rfl <| x_alloc ty204 rfl fun b7 => i1 10 rfl <| x_store rfl rfl ty204 rfl SM SM RO PT ?_
  refine ip 11 rfl rfl rfl rfl (p_assign rfl) <| i0 <| qx <| mv rfl rfl <| nq ?_
  refine C_split rfl (fun h48 => ?_) (fun h48 => ?_)
  refine sr <| ag rfl rfl <| nq <| J_ret <| Q_then_ret <| J_spS (b := b) (o := o) (ps := ps) _ PX trivial ?_
  refine J_asTo (B := spA b o (spSet ps p f)) (by first | (simp_all [spSet, spSetOk]; done) | (simp_all [spSet, spSetOk] <;> grind)) ?_
  refine J_return (()) Tryz.results142 (.tmp rfl .nil) ?_ ?_
  · first | rfl | (simp_all [one, spSetOk]; done) | (simp_all [one, spSetOk] <;> omega) | (simp_all [one, spSetOk] <;> grind)
  · exact SU
  refine J_skip <| Q_then <| J_seq <| sr <| mv rfl rfl <| nc rfl rfl <| fa rfl rfl fa132_0 <| L_val rfl (v_loadL rfl ty130 HS rfl (by exact rfl)) ?_
  refine L_pur rfl (p_eqNilMap Tryz.underlying130 rfl) <| nq ?_
  refine C_split rfl (fun h53 => ?_) (fun h53 => ?_)
  obtain rfl : ob = none := by simpa using h53
  refine J_mapNone (ps := ps) HS fun hps => ?_
  subst hps
  refine J_region <| mv rfl rfl <| L_op <| x_makeMap (ek := kI) (ev := kI) rfl fun b55 => nc rfl rfl <| fa rfl rfl fa132_0 <| L_op <| x_storeL rfl rfl ty130 rfl SM SM rfl RO rfl PT ?_
  refine nq <| J_seq <| J_drawT 6 mixed (by kernel_rfl) <| sm rfl rfl <| sp rfl (p_nilCheck rfl) <| sp rfl (p_fieldAddr rfl fa132_0) <| S_val rfl (v_loadL rfl ty130 HS rfl (by exact rfl)) ?_
  refine S_val rfl (v_loadA rfl ty199 HS CT) ?_
  refine S_val rfl (v_loadA rfl ty204 HS CT) ?_
  refine S_nil <| L_op <| x_mapUpdate (ek := kI) (ev := kI) (a := p) (c := f) rfl rfl rfl ky199 Tryz.underlying130 PC ?_
  refine nx <| ag rfl rfl <| nq <| J_ret <| J_spS (b := b) (o := o) (ps := ins [] p f) _ PX trivial ?_
  refine J_asTo (B := spA b o (spSet [] p f)) (by first | (simp_all [spSet, spSetOk]; done) | (simp_all [spSet, spSetOk] <;> grind)) ?_
  refine J_return (()) Tryz.results142 (.tmp rfl .nil) ?_ ?_
  · first | rfl | (simp_all [one, spSetOk]; done) | (simp_all [one, spSetOk] <;> omega) | (simp_all [one, spSetOk] <;> grind)
  · exact SU
  obtain ⟨bm, rfl⟩ : ∃ bm, ob = some bm := by cases ob with | none => simp at h53 | some x => exact ⟨x, rfl⟩
  refine J_skip <| Q_then <| J_seq <| J_drawT 6 mixed (by kernel_rfl) <| sm rfl rfl <| sp rfl (p_nilCheck rfl) <| sp rfl (p_fieldAddr rfl fa132_0) <| S_val rfl (v_loadL rfl ty130 HS rfl (by exact rfl)) ?_
  refine S_val rfl (v_loadA rfl ty199 HS CT) ?_
  refine S_val rfl (v_loadA rfl ty204 HS CT) ?_
  refine S_nil <| L_op <| x_mapUpdate (ek := kI) (ev := kI) (a := p) (c := f) rfl rfl rfl ky199 Tryz.underlying130 PC ?_
  refine nx <| ag rfl rfl <| nq <| J_ret <| J_spS (b := b) (o := o) (ps := ins ps p f) _ PX trivial ?_
  refine J_asTo (B := spA b o (spSet ps p f)) (by first | (simp_all [spSet, spSetOk]; done) | (simp_all [spSet, spSetOk] <;> grind)) ?_
  refine J_return (()) Tryz.results142 (.tmp rfl .nil) ?_ ?_
  · first | rfl | (simp_all [one, spSetOk]; done) | (simp_all [one, spSetOk] <;> omega) | (simp_all [one, spSetOk] <;> grind)
  · exact SU
def isT (i : Int) (c : Int × Int) : Bool := decide (c.1 = i)
def qAt (q : List (Int × Int)) (i : Int) : Int := idx (isT i) q
def qHas (q : List (Int × Int)) (i : Int) : Bool := q.any (isT i)
def qAddOk (q : List (Int × Int)) (i p : Int) : Bool := !qHas q i && okPrio p
def qAdd (q : List (Int × Int)) (i p : Int) : List (Int × Int) := if qAddOk q i p then q ++ [(i, p)] else q
def qRem (q : List (Int × Int)) (i : Int) : List (Int × Int) := q.take (qAt q i).toNat ++ (if qHas q i then q.drop ((qAt q i).toNat + 1) else q.drop (qAt q i).toNat)
def qGet (q : List (Int × Int)) (i : Int) : Option Int := (q.find? (isT i)).map Prod.snd
def qSetOk (q : List (Int × Int)) (i p : Int) : Bool := qHas q i && okPrio p
def qSet (q : List (Int × Int)) (i p : Int) : List (Int × Int) := if qSetOk q i p then (if (qGet q i).getD 0 = p then q else qAdd (qRem q i) i p) else q
theorem qAt_cases (q : List (Int × Int)) (i : Int) : (qAt q i = -1 ∧ qHas q i = false ∧ qGet q i = none ∧ qRem q i = q) ∨
    ∃ k : Nat, qAt q i = k ∧ k < q.length ∧ qHas q i = true ∧ ∃ c, q[k]? = some c ∧ qGet q i = some c.2 ∧ qRem q i = q.take k ++ q.drop (k + 1) := by
  rcases idx_cases (isT i) q with ⟨h1, h2⟩ | ⟨k, h1, h2, h3, c, h4, h5⟩
  · left
    have hh : qHas q i = false := by
      unfold qHas; rw [List.any_eq_false]; intro x hx; simp [h2 x hx]
    refine ⟨h1, hh, ?_, ?_⟩
    · unfold qGet; rw [List.find?_eq_none.2 (fun x hx => by simp [h2 x hx])]; rfl
    · unfold qRem qAt; rw [h1, hh]; simp
  · right
    have hh : qHas q i = true := by
      unfold qHas; rw [List.any_eq_true]; exact ⟨c, List.mem_of_getElem? h4, h5⟩
    refine ⟨k, h1, h2, hh, c, h4, ?_, ?_⟩
    · unfold qGet
      have e : q = q.take k ++ c :: q.drop (k + 1) := by
        rw [← (List.getElem?_eq_some_iff.1 h4).2, ← List.drop_eq_getElem_cons h2, List.take_append_drop]
      rw [e, List.find?_append, List.find?_eq_none.2 (fun x hx => by simp [h3 x hx]), List.find?_cons, h5]; rfl
    · unfold qRem qAt; rw [h1, hh]; simp
theorem qRem_len (q : List (Int × Int)) (i : Int) : (qRem q i).length ≤ q.length := by
  rcases qAt_cases q i with ⟨_, _, _, h⟩ | ⟨k, _, hk, _, _, _, _, h⟩
  · rw [h]; exact Nat.le_refl _
  · rw [h]; simp; omega
theorem qAdd_len (q : List (Int × Int)) (i p : Int) : (qAdd q i p).length ≤ q.length + 1 := by unfold qAdd; split <;> simp
theorem indexfunc269 {E : World} {l : List As} {v : Value} {α : Type} {enc : α → List Value} {xs : List α} {g : FuncId} {caps : Array Value} {fn : Func} (hf : Tryz.prog.funcs[g]? = some fn) (hn : (fn.name == "runtime.NumGoroutine") = false) (hb : fn.body.isNone = false) {q : α → Bool} {C : As} (hg : ∀ (l' : List As) (c : α), Has C l' → Con Tryz.prog g (#[.agg (enc c).toArray] ++ caps) E l' (fun _ : Unit => .bool (q c)) (fun _ => l')) (hv : Has (row 208 2 v (xs.map enc)) l) (hc : Has C l) :
    Con Tryz.prog 269 #[v, .func (.func g) #[] caps] E l (fun _ : Unit => .int .i64 (idx q xs)) (fun _ => l) := by
  refine Con.body (vs := [v, .func (.func g) #[] caps]) (n := 19) Tryz.func269 rfl rfl [(0, v), (1, .func (.func g) #[] caps)] (env_ok 2 rfl) <| J_row hv fun hw a cap hv h1 h2 h3 => ?_
  subst hv
  have hm : cap ≤ 9223372036854775807 := h2
  have hml : (xs.map enc).length = xs.length := List.length_map _
  refine sr <| ag rfl rfl <| nxx <| mv rfl rfl <| L_pur rfl (p_len rfl Tryz.underlying133) <| mv rfl rfl <| nq <| J_block ?_
  refine J_loop (α := Nat) (fun i => i ≤ xs.length ∧ ∀ c ∈ xs.take i, q c = false) (fun _ => l) (fun i => [(8, .int .i64 (i : Int)), (7, .int .i64 (xs.map enc).length), (0, .slice a (xs.map enc).length cap), (1, .func (.func g) #[] caps)]) (fun i => xs.length - i) 0 ⟨by omega, by simp⟩ SU KE ?_
  intro i ⟨hi, hq⟩
  refine sr <| L_pur rfl (p_lss rfl rfl) <| nq <| J_seq ?_
  refine C_dec rfl (fun h9 => ?_) (fun h9 => ?_)
  have hlt : i < xs.length := by omega
  obtain ⟨b, o, rfl⟩ := h3 (by intro h; rw [h] at hml; simp at hml; omega)
  obtain ⟨c, hcc⟩ : ∃ c, xs[i]? = some c := ⟨_, List.getElem?_eq_getElem hlt⟩
  refine J_skip <| Q_then <| J_seq <| J_block <| sr <| mv rfl rfl <| ag rfl rfl <| nx ?_
  refine mv rfl rfl <| mv rfl rfl <| mv rfl rfl <| L_pur rfl (p_indexAddr rfl rfl Tryz.underlying133 ty208 (by omega) (by omega)) ?_
  refine L_val rfl (v_loadE rfl ty208 HS (by simp only [Int.toNat_natCast, List.getElem?_map, hcc]; rfl)) ?_
  refine L_op <| x_callc rfl hf hn hb (.cons rfl .nil) rfl (hg _ c hc) fun _ => nq ?_
  refine C_split rfl (fun h16 => ?_) (fun h16 => ?_)
  have hidx := idx_here hq hcc h16
  refine sr <| mv rfl rfl <| ag rfl rfl <| nq <| J_ret <| Q_blk_ret <| Q_then_ret <| Q_then_ret ?_
  refine Q_blk_ret <| Q_then_ret ?_
  refine J_return (()) Tryz.results269 (.tmp rfl .nil) ?_ ?_
  · simp [one, hidx]
  · exact SU
  refine J_skip <| Q_blk_normal <| qr <| L_pur rfl (p_add64 rfl rfl (by omega)) <| mv rfl rfl <| nq ?_
  exact J_again (i + 1) (by omega) (⟨by omega, take_false_succ hq hcc h16⟩) SU KE
  have hix : i = xs.length := by omega
  rw [hix, List.take_length] at hq
  have hidx := idx_none hq
  refine J_exit <| Q_then_exit <| Q_then_exit <| Q_blk_this <| qx <| ag rfl rfl <| nq <| J_ret ?_
  refine J_return (()) Tryz.results269 (.tmp rfl .nil) ?_ ?_
  · simp [one, hidx]
  · exact SU
theorem clo270 {E : World} {l : List As} {bc : Nat} {i : Int} {c : Int × Int} (hc : Has (blk bc 3 [.int .i64 i]) l) :
    Con Tryz.prog 270 #[.agg (encI c).toArray, .pointer (some ⟨bc, 0, none⟩)] E l (fun _ : Unit => .bool (isT i c)) (fun _ => l) := by
  refine Con.body (vs := [.agg (encI c).toArray, .pointer (some ⟨bc, 0, none⟩)]) (n := 8) Tryz.func270 rfl rfl [(0, .agg (encI c).toArray), (1, .pointer (some ⟨bc, 0, none⟩))] (env_ok 2 rfl) <| sr <| L_op <| x_box rfl rfl rfl fun b2 => ag rfl rfl <| nx <| fa rfl rfl fa208_0 <| L_val rfl (v_load rfl ty3 HS (by exact rfl)) ?_
  refine L_val rfl (v_load rfl ty3 HS (by exact rfl)) ?_
  refine L_pur rfl (p_eql rfl rfl) <| ag rfl rfl <| nq <| J_ret ?_
  exact J_return (()) Tryz.results270 (.tmp rfl .nil) rfl SU
theorem qAtC {E : World} {l m : List As} {b o : Nat} {q : List ID} (hp : Pick (rqA b o q) l m) {i : Int} :
    Con Tryz.prog 204 #[.pointer (some ⟨b, o, none⟩), .int .i64 i] E l (fun _ : Unit => .int .i64 (qAt q i)) (fun _ => rqA b o q :: m) := by
  refine Con.body (vs := [.pointer (some ⟨b, o, none⟩), .int .i64 i]) (n := 11) Tryz.func204 rfl rfl [(0, .pointer (some ⟨b, o, none⟩)), (1, .int .i64 i)] (env_ok 2 rfl) <| J_pick hp <| J_rqO fun v _ => sr <| L_op <| x_box rfl rfl rfl fun b3 => ag rfl rfl <| nx ?_
  refine mv rfl rfl <| nc rfl rfl <| fa rfl rfl fa135_0 <| L_val rfl (v_loadL rfl ty133 HS rfl (by exact rfl)) ?_
  refine L_pur rfl (p_makeFunc (.cons rfl .nil)) <| L_op <| xc fc269 (.cons rfl (.cons rfl .nil)) rfl (indexfunc269 (xs := q) (enc := encI) (q := isT i) (C := blk b3 3 [.int .i64 i]) Tryz.func270 nm270 bd270 (fun l' c hc => clo270 hc) HS HS) fun _ => ?_
  refine ag rfl rfl <| nq <| J_ret <| J_rqS (b := b) (o := o) (xs := q) _ PX trivial ?_
  exact J_return (()) Tryz.results204 (.tmp rfl .nil) rfl SU
end Go.Pse
namespace Go.Pse
open Go.RowKit Go.Proofs
theorem qAddC {E : World} {l m : List As} {b o : Nat} {q : List ID} (hp : Pick (rqA b o q) l m) (hb : q.length ≤ 100000) {i p : Int} :
    Con Tryz.prog 144 #[.pointer (some ⟨b, o, none⟩), .int .i64 i, .int .i64 p] E l (fun _ : Unit => .bool (qAddOk q i p)) (fun _ => rqA b o (qAdd q i p) :: m) := by
  refine Con.body (vs := [.pointer (some ⟨b, o, none⟩), .int .i64 i, .int .i64 p]) (n := 28) Tryz.func144 rfl rfl [(0, .pointer (some ⟨b, o, none⟩)), (1, .int .i64 i), (2, .int .i64 p)] (env_ok 3 rfl) <| J_pick hp <| sr <| ag rfl rfl <| nxx <| mv rfl rfl <| mv rfl rfl <| L_op <| xc fc204 (.cons rfl (.cons rfl .nil)) rfl (qAtC (q := q) PC) fun _ => ?_
  refine L_pur rfl (p_geq rfl rfl) <| mv rfl rfl <| J_slot (t := 11) (v := .bool (qHas q i)) rfl (by rcases qAt_cases q i with ⟨g1, g2, _⟩ | ⟨k, g1, _, g2, _⟩ <;> rw [g1, g2] <;> simp) ?_
  refine J_gsplit (t := 11) rfl (fun h11 => ?_) (fun h11 => ?_)
  refine L_op <| G_off rfl rfl rfl rfl rfl rfl <| L_op <| G_off rfl rfl rfl rfl rfl rfl <| L_op <| G_off rfl rfl rfl rfl rfl rfl <| L_pur rfl (p_pick_t rfl rfl) <| nq ?_
  refine C_true rfl <| sr <| ag rfl rfl <| nq <| J_ret <| Q_then_ret <| J_pick (A := rqA b o _) PC ?_
  refine J_asTo (B := rqA b o (qAdd q i p)) (by simp_all [qAdd, qAddOk]) ?_
  refine J_return (()) Tryz.results144 (.tmp rfl .nil) ?_ ?_
  · first | rfl | (simp_all [one, qAddOk]; done) | (simp_all [one, qAddOk] <;> omega) | (simp_all [one, qAddOk] <;> grind)
  · exact SU
  refine L_op <| G_on rfl rfl rfl <| J_pur (p_move rfl) rfl rfl rfl <| L_op <| G_on rfl rfl rfl <| xc fc205 (.cons rfl .nil) rfl (qRight) fun _ => L_op <| G_on rfl rfl rfl ?_
  refine J_pur (p_not rfl) rfl rfl rfl <| L_pur rfl (p_pick_f rfl rfl) <| nq ?_
  refine C_split rfl (fun h15 => ?_) (fun h15 => ?_)
  refine sr <| ag rfl rfl <| nq <| J_ret <| Q_then_ret <| J_pick (A := rqA b o _) PC ?_
  refine J_asTo (B := rqA b o (qAdd q i p)) (by simp_all [qAdd, qAddOk]) ?_
  refine J_return (()) Tryz.results144 (.tmp rfl .nil) ?_ ?_
  · first | rfl | (simp_all [one, qAddOk]; done) | (simp_all [one, qAddOk] <;> omega) | (simp_all [one, qAddOk] <;> grind)
  · exact SU
  refine J_pick (A := rqA b o q) PC ?_
  refine J_rqO fun v _ => J_skip <| qx <| mv rfl rfl <| mv rfl rfl <| nc rfl rfl <| fa rfl rfl fa135_0 <| L_val rfl (v_loadL rfl ty133 HS rfl (by exact rfl)) ?_
  refine mv rfl rfl <| mv rfl rfl <| L_pur rfl (bld208 (.cons rfl (.cons rfl .nil)) (by repeat constructor)) <| L_op <| x_lit (vals := [_]) Tryz.underlying133 ty208 rfl (.cons rfl .nil) (.agg .nil) (Wf.cons rfl rfl Wf.nil) rfl (by decide) rfl rfl <| JR fun a24 c24 hw24 hl24 hm24 hz24 => L_op <| x_app rfl rfl Tryz.underlying133 ty208 rfl rfl PC (fun w H => sep_reads HS H) (by simp; omega) (by simp; omega) rfl ?_
  refine JE ((q ++ [(i, p)]).map encI) (by simp [encI]) fun a25 c25 hw25 hl25 hm25 hz25 => nc rfl rfl <| fa rfl rfl fa135_0 <| L_op <| x_storeL rfl rfl ty133 rfl SM SM rfl RO rfl PT ?_
  refine nx <| ag rfl rfl <| nq <| J_ret <| J_rqS (b := b) (o := o) (xs := q ++ [(i, p)]) _ PX trivial ?_
  refine J_pick (A := rqA b o _) PC ?_
  refine J_asTo (B := rqA b o (qAdd q i p)) (by simp_all [qAdd, qAddOk]) ?_
  refine J_return (()) Tryz.results144 (.tmp rfl .nil) ?_ ?_
  · first | rfl | (simp_all [one, qAddOk]; done) | (simp_all [one, qAddOk] <;> omega) | (simp_all [one, qAddOk] <;> grind)
  · exact SU
def rgNew (sq cq sb cb : Int) : Rg := ⟨sq, cq, cutI sb 0 3, cutI cb 0 4, 0, 0, []⟩
theorem ringNew {E : World} {l : List As} {mb : Nat} {sq cq sb cb : Int} :
    Con Tryz.prog 143 #[.pointer (some ⟨mb, 0, none⟩), .int .i64 sq, .int .i64 cq, .int .i64 sb, .int .i64 cb] E l (fun b : Nat => .pointer (some ⟨b, 0, none⟩)) (fun b => rgA b mb (rgNew sq cq sb cb) :: l) := by
  refine Con.body (vs := [.pointer (some ⟨mb, 0, none⟩), .int .i64 sq, .int .i64 cq, .int .i64 sb, .int .i64 cb]) (n := 22) Tryz.func143 rfl rfl [(0, .pointer (some ⟨mb, 0, none⟩)), (1, .int .i64 sq), (2, .int .i64 cq), (3, .int .i64 sb), (4, .int .i64 cb)] (env_ok 5 rfl) <| sr <| ag rfl rfl <| nx <| mv rfl rfl <| mv rfl rfl <| mv rfl rfl <| mv rfl rfl ?_
  refine L_pur rfl (p_max rfl rfl) <| L_pur rfl (p_min rfl rfl) <| mv rfl rfl <| L_pur rfl (p_max rfl rfl) <| L_pur rfl (p_min rfl rfl) <| L_pur rfl (bld217 (.cons rfl (.cons rfl (.cons rfl (.cons rfl (.cons rfl .nil))))) (by repeat constructor)) <| L_op <| x_box rfl rfl rfl fun b21 => ?_
  refine ag rfl rfl <| nq <| J_ret <| J_nil (el := 93) (sz := 4) <| J_rgS (b := b21) (mb := mb) (r := rgNew sq cq sb cb) (.slice none 0 0) (.cons (.there .here) (.cons .here .nil)) trivial ?_
  refine J_return (b21) Tryz.results143 (.tmp rfl .nil) ?_ ?_
  · rfl
  · exact SU
def zrow : List Int := List.replicate 512 0
theorem memF_push {v : Value} : memF (v, zrow) = row 5 1 v (List.replicate 512 [.int .u8 0]) := by unfold memF zrow; rw [List.map_replicate]; rfl
theorem memNew {E : World} {l : List As} :
    Con Tryz.prog 92 #[.int .i64 64] E l (fun b : Nat => .pointer (some ⟨b, 0, none⟩)) (fun b => memA b (List.replicate 64 zrow) :: l) := by
  refine Con.body (vs := [.int .i64 64]) (n := 23) Tryz.func92 rfl rfl [(0, .int .i64 64)] (env_ok 1 rfl) <| sr <| ag rfl rfl <| nx <| L_pur rfl (bld292 .nil (by repeat constructor)) <| L_op <| x_box rfl rfl rfl fun b5 => J_nil (el := 73) (sz := 1) ?_
  refine J_eachNil memF <| J_memS (b := b5) (ms := []) (.slice none 0 0) [] (.cons (.there (.there .here)) (.cons (.there .here) (.cons .here .nil))) rfl <| ag rfl rfl <| nxx <| mv rfl rfl <| L_pur rfl (p_max rfl rfl) <| L_pur rfl (p_min rfl rfl) <| J_slot (t := 8) (v := .int .i64 64) rfl rfl ?_
  refine mv rfl rfl <| nq <| J_block <| J_loop (α := Nat) (fun i => i ≤ 64) (fun i => memA b5 (List.replicate i zrow) :: l) (fun i => [(9, .int .i64 (i : Int)), (8, .int .i64 64), (3, .pointer (some ⟨b5, 0, none⟩))]) (fun i => 64 - i) 0 (by omega) SU KE ?_
  intro i hi
  refine sr <| L_pur rfl (p_lss rfl rfl) <| nq <| J_seq ?_
  refine C_dec rfl (fun h10 => ?_) (fun h10 => ?_)
  refine J_pick (A := memA b5 _) PC ?_
  refine J_memO fun v xs hxs => ?_
  have hxl : xs.length = i := by have := congrArg List.length hxs; simpa using this
  refine J_row (.there .here) fun hwv av cv hvv h1v h2v h3v => ?_
  subst hvv
  have hml : (xs.map fun x : Value × List Int => [x.1]).length = xs.length := List.length_map _
  refine J_skip <| Q_then <| J_seq <| J_block <| J_drawL (some 7) mixed <| ip 0 rfl rfl rfl rfl (p_move rfl) <| ip 1 rfl rfl rfl rfl (p_move rfl) <| ip 2 rfl rfl rfl rfl (p_nilCheck rfl) ?_
  refine ip 3 rfl rfl rfl rfl (p_fieldAddr rfl fa292_0) <| iv 4 rfl rfl rfl rfl (fun _ => v_load rfl ty290 HS (by exact rfl)) ?_
  refine i1 5 rfl <| x_make (len := 512) rfl rfl Tryz.underlying73 ty5 rfl rfl (by simp) (by simp) rfl rfl <| JE (List.replicate 512 [.int .u8 0]) (by rfl) fun a16 c16 hw16 hl16 hm16 hz16 => i1 6 rfl <| x_lit (vals := [_]) Tryz.underlying290 ty73 rfl (.cons rfl .nil) (.one rfl .nil) (Wf.cons rfl rfl Wf.nil) rfl (by decide) rfl rfl <| JE ([[.slice a16 512 c16]]) (by rfl) fun a17 c17 hw17 hl17 hm17 hz17 => i1 7 rfl <| x_app rfl rfl Tryz.underlying290 ty73 rfl rfl PC (fun w H => sep_reads HS H) (by simp; omega) (by simp; omega) rfl ?_
  refine JE ((xs ++ [(Value.slice a16 512 c16, zrow)]).map fun x : Value × List Int => [x.1]) (by simp) fun a18 c18 hw18 hl18 hm18 hz18 => ip 8 rfl rfl rfl rfl (p_nilCheck rfl) <| ip 9 rfl rfl rfl rfl (p_fieldAddr rfl fa292_0) <| i1 10 rfl <| x_store rfl rfl ty290 rfl SM SM RO PT ?_
  refine J_pick (A := each memF xs) PC ?_
  refine J_pick (A := row 5 1 (.slice a16 _ c16) _) PC ?_
  refine J_asTo (B := memF (Value.slice a16 512 c16, zrow)) (by rw [memF_push, List.length_replicate]) <| J_pick (A := each memF xs) PC ?_
  refine J_pick (A := memF (Value.slice a16 512 c16, zrow)) PC ?_
  refine J_eachPush <| J_memS (b := b5) (ms := List.replicate (i + 1) zrow) _ (xs ++ [(Value.slice a16 512 c16, zrow)]) PX (by show List.map Prod.snd (xs ++ [_]) = _; rw [List.map_append, hxs, List.replicate_succ']; rfl) ?_
  refine i0 <| Q_blk_normal <| qr <| L_pur rfl (p_add64 rfl rfl (by omega)) <| mv rfl rfl <| nq ?_
  exact J_again (i + 1) (by omega) (by omega) SU KE
  have hi64 : i = 64 := by omega
  subst hi64
  refine J_exit <| Q_then_exit <| Q_then_exit <| Q_blk_this <| qx <| mv rfl rfl <| ag rfl rfl <| nq ?_
  refine J_ret ?_
  refine J_return (b5) Tryz.results92 (.tmp rfl .nil) ?_ ?_
  · rfl
  · exact SU
end Go.Pse
namespace Go.Pse
open Go.RowKit Go.Proofs
theorem coReqs {E : World} {l : List As} {p : Nat} :
    Con Tryz.prog 16 #[.pointer (some ⟨p, 0, none⟩)] E l (fun _ : Unit => .pointer (some ⟨p, 10, none⟩)) (fun _ => l) := by
  refine Con.body (vs := [.pointer (some ⟨p, 0, none⟩)]) (n := 6) Tryz.func16 rfl rfl [(0, .pointer (some ⟨p, 0, none⟩))] (env_ok 1 rfl) <| sr <| ag rfl rfl <| nx <| mv rfl rfl <| nc rfl rfl <| fa rfl rfl fa153_6 <| ag rfl rfl ?_
  refine nq <| J_ret ?_
  refine J_return (()) Tryz.results16 (.tmp rfl .nil) ?_ ?_
  · rfl
  · exact SU
theorem coTimers {E : World} {l : List As} {p : Nat} :
    Con Tryz.prog 62 #[.pointer (some ⟨p, 0, none⟩)] E l (fun _ : Unit => .pointer (some ⟨p, 11, none⟩)) (fun _ => l) := by
  refine Con.body (vs := [.pointer (some ⟨p, 0, none⟩)]) (n := 6) Tryz.func62 rfl rfl [(0, .pointer (some ⟨p, 0, none⟩))] (env_ok 1 rfl) <| sr <| ag rfl rfl <| nx <| mv rfl rfl <| nc rfl rfl <| fa rfl rfl fa153_7 <| ag rfl rfl ?_
  refine nq <| J_ret ?_
  refine J_return (()) Tryz.results62 (.tmp rfl .nil) ?_ ?_
  · rfl
  · exact SU
theorem coJournal {E : World} {l : List As} {p : Nat} :
    Con Tryz.prog 17 #[.pointer (some ⟨p, 0, none⟩)] E l (fun _ : Unit => .pointer (some ⟨p, 12, none⟩)) (fun _ => l) := by
  refine Con.body (vs := [.pointer (some ⟨p, 0, none⟩)]) (n := 6) Tryz.func17 rfl rfl [(0, .pointer (some ⟨p, 0, none⟩))] (env_ok 1 rfl) <| sr <| ag rfl rfl <| nx <| mv rfl rfl <| nc rfl rfl <| fa rfl rfl fa153_8 <| ag rfl rfl ?_
  refine nq <| J_ret ?_
  refine J_return (()) Tryz.results17 (.tmp rfl .nil) ?_ ?_
  · rfl
  · exact SU
theorem coMem {E : World} {l m : List As} {p : Nat} {s : KS} (hp : Pick (coA p s) l m)  :
    Con Tryz.prog 39 #[.pointer (some ⟨p, 0, none⟩)] E l (fun _ : Unit => .pointer (some ⟨s.mb, 0, none⟩)) (fun _ => coA p s :: m) := by
  refine Con.body (vs := [.pointer (some ⟨p, 0, none⟩)]) (n := 7) Tryz.func39 rfl rfl [(0, .pointer (some ⟨p, 0, none⟩))] (env_ok 1 rfl) <| J_pick hp <| J_coO fun bn be br bg bt bs bp bl bk _ => sr <| ag rfl rfl <| nx <| mv rfl rfl <| nc rfl rfl ?_
  refine fa rfl rfl fa153_1 <| L_val rfl (v_loadL (o := 0) (i := 5) rfl ty75 HS rfl (by exact rfl)) ?_
  refine ag rfl rfl <| nq <| J_ret <| J_coS (p := p) (s := s) bn be br bg bt bs bp bl bk PX trivial ?_
  exact J_return (()) Tryz.results39 (.tmp rfl .nil) rfl SU
theorem coNow {E : World} {l m : List As} {p : Nat} {s : KS} (hp : Pick (coA p s) l m)  :
    Con Tryz.prog 100 #[.pointer (some ⟨p, 0, none⟩)] E l (fun _ : Unit => .int .u64 s.now) (fun _ => coA p s :: m) := by
  refine Con.body (vs := [.pointer (some ⟨p, 0, none⟩)]) (n := 7) Tryz.func100 rfl rfl [(0, .pointer (some ⟨p, 0, none⟩))] (env_ok 1 rfl) <| J_pick hp <| J_coO fun bn be br bg bt bs bp bl bk _ => sr <| ag rfl rfl <| nx <| mv rfl rfl <| nc rfl rfl ?_
  refine fa rfl rfl fa153_18 <| L_val rfl (v_loadL (o := 22) (i := 0) rfl ty102 HS rfl (by exact rfl)) ?_
  refine ag rfl rfl <| nq <| J_ret <| J_coS (p := p) (s := s) bn be br bg bt bs bp bl bk PX trivial ?_
  exact J_return (()) Tryz.results100 (.tmp rfl .nil) rfl SU
theorem coRing {E : World} {l m : List As} {p : Nat} {s : KS} (hp : Pick (coA p s) l m) {u : Int} :
    Con Tryz.prog 43 #[.pointer (some ⟨p, 0, none⟩), .int .i64 u] E l (fun _ : Unit => ptrOf (look (ptrs s.rg) u)) (fun _ => coA p s :: m) := by
  refine Con.body (vs := [.pointer (some ⟨p, 0, none⟩), .int .i64 u]) (n := 11) Tryz.func43 rfl rfl [(0, .pointer (some ⟨p, 0, none⟩)), (1, .int .i64 u)] (env_ok 2 rfl) <| J_pick hp <| J_coO fun bn be br bg bt bs bp bl bk _ => sr <| ag rfl rfl <| nx <| mv rfl rfl <| nc rfl rfl ?_
  refine fa rfl rfl fa153_12 <| L_val rfl (v_loadL (o := 13) (i := 3) rfl ty147 HS rfl (by exact rfl)) ?_
  refine mv rfl rfl <| L_val rfl (v_look (ek := kZ) (ev := evA) (a := u) rfl rfl ky3 Tryz.underlying147 zv80 HS) ?_
  refine J_slot (t := 10) (v := ptrOf (look (ptrs s.rg) u)) rfl (by cases look (ptrs s.rg) u <;> rfl) <| ag rfl rfl <| nq <| J_ret <| J_coS (p := p) (s := s) bn be br bg bt bs bp bl bk PX trivial ?_
  exact J_return (()) Tryz.results43 (.tmp rfl .nil) rfl SU
abbrev kPass (s : KS) (n : Int) : KS := { s with now := IntKind.u64.wrap (s.now + IntKind.u64.wrap (cutI n 0 1048576)) }
def kTake (s : KS) (r n : Int) : KS := if (look s.tk r).isSome then { s with tk := ins s.tk r ((look s.tk r).getD 0 + n) } else s
def kTakeV (s : KS) (r n : Int) : Int := if (look s.tk r).isSome then (look s.tk r).getD 0 + 1 else 0
def kStopOk (s : KS) (t : Int) : Bool := (look s.th t).isSome && qHas s.q t
def kStop (s : KS) (t : Int) : KS := if kStopOk s t then { s with pr := ins s.pr t ((qGet s.q t).getD 0), q := qRem s.q t } else s
def kPrio (s : KS) (t : Int) : Int := (look s.pr t).getD 4
def kGoOk (s : KS) (t : Int) : Bool := (look s.th t).isSome && qAddOk s.q t (kPrio s t)
def kGo (s : KS) (t : Int) : KS := if (look s.th t).isSome then { s with q := qAdd s.q t (kPrio s t) } else s
theorem coPass {E : World} {l m : List As} {p : Nat} {s : KS} (hp : Pick (coA p s) l m) {n : Int} :
    Con Tryz.prog 55 #[.pointer (some ⟨p, 0, none⟩), .int .i64 n] E l (fun _ : Unit => .int .u64 (kPass s n).now) (fun _ => coA p (kPass s n) :: m) := by
  refine Con.body (vs := [.pointer (some ⟨p, 0, none⟩), .int .i64 n]) (n := 19) Tryz.func55 rfl rfl [(0, .pointer (some ⟨p, 0, none⟩)), (1, .int .i64 n)] (env_ok 2 rfl) <| J_pick hp <| J_coO fun bn be br bg bt bs bp bl bk _ => sr <| ag rfl rfl <| nq <| J_seq <| J_drawL (some 10) mixed ?_
  refine ip 0 rfl rfl rfl rfl (p_move rfl) <| ip 1 rfl rfl rfl rfl (p_nilCheck rfl) <| ip 2 rfl rfl rfl rfl (p_fieldAddr rfl fa153_18) <| iv 3 rfl rfl rfl rfl (fun _ => v_loadL (o := 22) (i := 0) rfl ty102 HS rfl (by exact rfl)) ?_
  refine ip 4 rfl rfl rfl rfl (p_move rfl) <| i1 5 rfl <| xc fc91 (.cons rfl (.cons rfl (.cons rfl .nil))) rfl (cCut) fun _ => ip 6 rfl rfl rfl rfl (p_conv rfl Tryz.underlying3 Tryz.underlying102) <| ip 7 rfl rfl rfl rfl (p_add rfl rfl) <| ip 8 rfl rfl rfl rfl (p_nilCheck rfl) <| ip 9 rfl rfl rfl rfl (p_fieldAddr rfl fa153_18) <| i1 10 rfl ?_
  refine x_storeL (o := 22) (i := 0) rfl rfl ty102 rfl SM SM rfl RO rfl PT ?_
  refine i0 <| qx <| mv rfl rfl <| nc rfl rfl <| fa rfl rfl fa153_18 <| L_val rfl (v_loadL (o := 22) (i := 0) rfl ty102 HS rfl (by exact rfl)) ?_
  refine ag rfl rfl <| nq <| J_ret <| J_coS (p := p) (s := kPass s n) bn be br bg bt bs bp bl bk PX trivial ?_
  exact J_return (()) Tryz.results55 (.tmp rfl .nil) rfl SU
theorem coTake {E : World} {l m : List As} {p : Nat} {s : KS} (hp : Pick (coA p s) l m) {r n : Int} (h1 : -1000000000000 ≤ (look s.tk r).getD 0 ∧ (look s.tk r).getD 0 ≤ 1000000000000) (h2 : 0 ≤ n ∧ n ≤ 1000000) :
    Con Tryz.prog 67 #[.pointer (some ⟨p, 0, none⟩), .int .i64 r, .int .i64 n] E l (fun _ : Unit => .int .i64 (kTakeV s r n)) (fun _ => coA p (kTake s r n) :: m) := by
  refine Con.body (vs := [.pointer (some ⟨p, 0, none⟩), .int .i64 r, .int .i64 n]) (n := 37) Tryz.func67 rfl rfl [(0, .pointer (some ⟨p, 0, none⟩)), (1, .int .i64 r), (2, .int .i64 n)] (env_ok 3 rfl) <| J_pick hp <| J_coO fun bn be br bg bt bs bp bl bk _ => sr <| ag rfl rfl <| nxx <| mv rfl rfl <| nc rfl rfl ?_
  refine fa rfl rfl fa153_17 <| L_val rfl (v_loadL (o := 13) (i := 8) rfl ty150 HS rfl (by exact rfl)) ?_
  refine mv rfl rfl <| L_val rfl (v_lookOk (ek := kZ) (ev := evZ) (a := r) rfl rfl ky3 Tryz.underlying150 zv3 HS) ?_
  refine J_slot (t := 15) (v := .tuple #[.int .i64 ((look s.tk r).getD 0), .bool (look s.tk r).isSome]) rfl (by cases look s.tk r <;> rfl) <| mv rfl rfl <| L_pur rfl (p_extract rfl rfl) <| L_pur rfl (p_extract rfl rfl) <| ag rfl rfl <| ag rfl rfl <| nx <| mv rfl rfl ?_
  refine L_pur rfl (p_not rfl) <| nq ?_
  refine C_split rfl (fun h19 => ?_) (fun h19 => ?_)
  refine sr <| ag rfl rfl <| nq <| J_ret <| Q_then_ret <| J_coS (p := p) (s := s) bn be br bg bt bs bp bl bk PX trivial ?_
  refine J_asTo (B := coA p (kTake s r n)) (by simp_all [kTake]) ?_
  refine J_return (()) Tryz.results67 (.tmp rfl .nil) ?_ ?_
  · first | (simp_all [one, kTakeV]; done) | (simp_all [one, kTakeV, look_ins] <;> omega)
  · exact SU
  refine J_skip <| qx <| mv rfl rfl <| nc rfl rfl <| fa rfl rfl fa153_17 <| L_val rfl (v_loadL (o := 13) (i := 8) rfl ty150 HS rfl (by exact rfl)) ?_
  refine mv rfl rfl <| L_val rfl (v_look (ek := kZ) (ev := evZ) (a := r) rfl rfl ky3 Tryz.underlying150 zv3 HS) ?_
  refine J_slot (t := 25) (v := .int .i64 ((look s.tk r).getD 0)) rfl (by cases look s.tk r <;> rfl) <| mv rfl rfl <| L_pur rfl (p_add64 rfl rfl (by omega)) <| L_op <| x_mapUpdate (ek := kZ) (ev := evZ) (a := r) (c := (look s.tk r).getD 0 + n) rfl rfl rfl ky3 Tryz.underlying150 PC ?_
  refine nx <| mv rfl rfl <| nc rfl rfl <| fa rfl rfl fa153_17 <| L_val rfl (v_loadL (o := 13) (i := 8) rfl ty150 HS rfl (by exact rfl)) ?_
  refine mv rfl rfl <| L_val rfl (v_look (ek := kZ) (ev := evZ) (a := r) rfl rfl ky3 Tryz.underlying150 zv3 HS) ?_
  refine J_slot (t := 33) (v := .int .i64 ((look (ins s.tk r ((look s.tk r).getD 0 + n)) r).getD 0)) rfl (by cases look (ins s.tk r ((look s.tk r).getD 0 + n)) r <;> rfl) <| mv rfl rfl <| L_pur rfl (p_sub64 rfl rfl (by rw [look_ins]; simp; omega)) <| L_pur rfl (p_add64 rfl rfl (by rw [look_ins]; simp; omega)) <| ag rfl rfl <| nq <| J_ret <| J_coS (p := p) (s := { s with tk := ins s.tk r ((look s.tk r).getD 0 + n) }) bn be br bg bt bs bp bl bk PX trivial ?_
  refine J_asTo (B := coA p (kTake s r n)) (by simp_all [kTake]) ?_
  refine J_return (()) Tryz.results67 (.tmp rfl .nil) ?_ ?_
  · first | (simp_all [one, kTakeV]; done) | (simp_all [one, kTakeV, look_ins] <;> omega)
  · exact SU
end Go.Pse
namespace Go.Pse
open Go.RowKit Go.Proofs
def shl32 (n : Int) : Int := IntKind.u32.wrap (1 * 2 ^ n.toNat)
def tcap8 (b u : Int) : List Cap := [⟨2, b, 0, 0, 7⟩, ⟨6, b + 1, 0, 0, 0⟩, ⟨8, b + 2, 0, 0, 0⟩, ⟨9, b + 3, 0, 0, 0⟩, ⟨3, b + 4, 0, 0, 0⟩, ⟨3, b + 5, 0, 0, 0⟩, ⟨1, b + 7, u, 0, 0⟩, ⟨7, b + 6, 0, 0, 0⟩]
def tcap2 (t h : Int) : List Cap := [⟨4, h, 0, t + 1, 0⟩, ⟨5, h + 1, 0, shl1 t, 0⟩]
def tcaps (s : KS) (b t h : Int) : List Cap := tcap8 b s.cu ++ if s.sh then tcap2 t h else []
def tbe (s : KS) (b t h : Int) : List (Int × (Int × Int)) := if s.sh then ins s.be (b + 3) (h + 1, shl32 t) else s.be
def withAll (c : Cap) : Cap := { c with rights := 7 }
def tput (b : Int) (ps : List (Place × SV)) : Nat → List Cap → List (Place × SV)
  | _, [] => ps
  | k, c :: cs => tput b (slPut ps (b, (k : Int) + 1) (withAll c) (0, 0)) (k + 1) cs
theorem tput_snoc {b : Int} {c : Cap} : ∀ {cs : List Cap} {ps : List (Place × SV)} {k : Nat}, tput b ps k (cs ++ [c]) = slPut (tput b ps k cs) (b, ((k + cs.length : Nat) : Int) + 1) (withAll c) (0, 0)
  | [], _, _ => rfl
  | d :: cs, ps, k => by rw [List.cons_append, tput, tput_snoc, tput, List.length_cons]; congr 3; omega
theorem tput_take {b : Int} {ps : List (Place × SV)} {cs : List Cap} {i : Nat} {c : Cap} (h : cs[i]? = some c) : tput b ps 0 (cs.take (i + 1)) = slPut (tput b ps 0 (cs.take i)) (b, (i : Int) + 1) (withAll c) (0, 0) := by
  have hl := (List.getElem?_eq_some_iff.1 h).1
  rw [List.take_add_one, h, Option.toList_some, tput_snoc]
  congr 3
  rw [List.length_take]; omega
def tmap (b : Int) (ps : List (Place × M1)) : Nat → List (Place × M1)
  | 0 => ps
  | k + 1 => spSet (tmap b ps k) (b + 2, (k : Int)) (b + 4 + (k : Int), 3)
def thOf (b : Int) : Th := ⟨b + 1, b + 2, b + 3, ⟨2, b, 0, 0, 7⟩⟩
abbrev kThread (s : KS) (b t h : Int) (r c : Nat) : KS := { s with sl := tput b s.sl 0 (tcaps s b t h), mp := tmap b s.mp 2, th := ins s.th (b + 1) (thOf b), sp := ins s.sp (b + 2) true, rp := s.rp ++ [(b + 6, c, (0, 0), false)], rg := s.rg ++ [(b + 3, r, rgNew (b + 4) (b + 5) s.cs s.cc)], tk := ins s.tk (b + 3) 0, be := tbe s b t h, q := qAdd s.q (b + 1) 4 }
theorem ptrs_push {α : Type} {xs : List (Int × Nat × α)} {u : Int} {b : Nat} {x : α} (h : look (ptrs xs) u = none) : ins (ptrs xs) u b = ptrs (xs ++ [(u, b, x)]) := by
  unfold ins; rw [h]; simp [ptrs]
theorem tcaps_len (s : KS) (b t h : Int) : (tcaps s b t h).length ≤ 10 := by unfold tcaps; split <;> simp [tcap8, tcap2]
theorem coThread {E : World} {l m : List As}{p : Nat} {s : KS} {b t h : Int} (hp : Pick (coA p s) l m) (ht : 0 ≤ t ∧ t ≤ 2) (hu : 1 ≤ s.cu ∧ s.cu ≤ 12) (hb : b = 1 + t * (7 + s.cu)) (hh : 0 ≤ h ∧ h ≤ 1000) (hq : s.q.length ≤ 90000) (hr : look (ptrs s.rp) (b + 6) = none) (hg : look (ptrs s.rg) (b + 3) = none) :
    Con Tryz.prog 93 #[.pointer (some ⟨p, 0, none⟩), .int .i64 t, .int .i64 h] E l (fun _ : Nat × Nat => .tuple #[]) (fun x => coA p (kThread s b t h x.1 x.2) :: m) := by
  refine Con.body (vs := [.pointer (some ⟨p, 0, none⟩), .int .i64 t, .int .i64 h]) (n := 188) Tryz.func93 rfl rfl [(0, .pointer (some ⟨p, 0, none⟩)), (1, .int .i64 t), (2, .int .i64 h)] (env_ok 3 rfl) ?_
  have hz : 0 ≤ t * (7 + s.cu) ∧ t * (7 + s.cu) ≤ 38 := by
    have : t = 0 ∨ t = 1 ∨ t = 2 := by omega
    rcases this with rfl | rfl | rfl <;> omega
  refine J_pick hp <| J_coO fun bn be br bg bt bs bp bl bk _ => sr <| mv rfl rfl <| mv rfl rfl <| nc rfl rfl <| fa rfl rfl fa153_0 <| fa rfl rfl fa86_1 ?_
  refine L_val rfl (v_loadL (o := 0) (i := 1) rfl ty3 HS rfl (by exact rfl)) ?_
  refine L_pur rfl (p_add64 rfl rfl (by omega)) <| L_pur rfl (p_mul64 rfl rfl (by omega)) <| L_pur rfl (p_add64 rfl rfl (by omega)) <| J_slot (t := 21) (v := .int .i64 b) rfl (by rw [hb]) <| ag rfl rfl <| nx <| mv rfl rfl <| L_pur rfl (bld110 (.cons rfl (.cons rfl (.cons rfl .nil))) (by repeat constructor)) ?_
  refine L_op <| x_alloc ty110 rfl fun b7 => L_op <| x_store rfl rfl ty110 rfl SM SM RO PT ?_
  refine J_pick (A := blk b7 _ _) PC ?_
  refine J_asTo (B := blk b7 110 (encC ⟨2, b, 0, 0, 7⟩)) (by rfl) <| nx <| mv rfl rfl <| L_pur rfl (p_add64 rfl rfl (by omega)) <| mv rfl rfl <| L_pur rfl (p_add64 rfl rfl (by omega)) <| mv rfl rfl <| L_pur rfl (p_add64 rfl rfl (by omega)) ?_
  refine L_val rfl (v_loadA rfl ty110 HS CT) ?_
  refine L_pur rfl (bld213 (.cons rfl (.cons rfl (.cons rfl (.cons rfl .nil)))) (by repeat constructor)) <| L_op <| x_alloc ty213 rfl fun b8 => L_op <| x_store rfl rfl ty213 rfl SM SM RO PT ?_
  refine nq <| J_seq <| J_drawT 27 mixed (by kernel_rfl) <| S_val rfl (v_loadA rfl ty110 HS CT) ?_
  refine sm rfl rfl <| sp rfl (p_add64 rfl rfl (by omega)) <| sp rfl (bld110 (.cons rfl (.cons rfl .nil)) (by repeat constructor)) <| sm rfl rfl <| sp rfl (p_add64 rfl rfl (by omega)) <| sp rfl (bld110 (.cons rfl (.cons rfl .nil)) (by repeat constructor)) <| sm rfl rfl <| sp rfl (p_add64 rfl rfl (by omega)) ?_
  refine sp rfl (bld110 (.cons rfl (.cons rfl .nil)) (by repeat constructor)) <| sm rfl rfl <| sp rfl (p_add64 rfl rfl (by omega)) <| sp rfl (bld110 (.cons rfl (.cons rfl .nil)) (by repeat constructor)) <| sm rfl rfl <| sp rfl (p_add64 rfl rfl (by omega)) <| sp rfl (bld110 (.cons rfl (.cons rfl .nil)) (by repeat constructor)) <| sm rfl rfl ?_
  refine sp rfl (p_add64 rfl rfl (by omega)) <| sm rfl rfl <| sp rfl (p_nilCheck rfl) <| sp rfl (p_fieldAddr rfl fa153_0) <| sp rfl (p_fieldAddr rfl fa86_1) <| S_val rfl (v_loadL (o := 0) (i := 1) rfl ty3 HS rfl (by exact rfl)) ?_
  refine sp rfl (bld110 (.cons rfl (.cons rfl (.cons rfl .nil))) (by repeat constructor)) <| sm rfl rfl <| sp rfl (p_add64 rfl rfl (by omega)) <| sp rfl (bld110 (.cons rfl (.cons rfl .nil)) (by repeat constructor)) <| S_nil <| L_op <| x_lit (vals := [_, _, _, _, _, _, _, _]) Tryz.underlying302 ty110 rfl (.cons rfl (.cons rfl (.cons rfl (.cons rfl (.cons rfl (.cons rfl (.cons rfl (.cons rfl .nil)))))))) (.agg (.agg (.agg (.agg (.agg (.agg (.agg (.agg .nil)))))))) (Wf.cons rfl rfl (Wf.cons rfl rfl (Wf.cons rfl rfl (Wf.cons rfl rfl (Wf.cons rfl rfl (Wf.cons rfl rfl (Wf.cons rfl rfl (Wf.cons rfl rfl Wf.nil)))))))) rfl (by decide) rfl rfl <| JE ((tcap8 b s.cu).map encC) (by rfl) fun a59 c59 hw59 hl59 hm59 hz59 => ?_
  refine ag rfl rfl <| nq ?_
  refine J_cut (α := Value) (fun v9 : Value => row 110 5 v9 ((tcaps s b t h).map encC) :: blk b7 110 (encC ⟨2, b, 0, 0, 7⟩) :: blk b8 213 [.int .i64 (b + 1), .int .i64 (b + 2), .int .i64 (b + 3), .int .i64 2, .int .i64 b, .int .i64 0, .int .i64 0, .int .i64 7] :: fld p 0 [.int .i64 s.ct, .int .i64 s.cu, .int .i64 s.cs, .int .i64 s.cc, .bool s.sh, .pointer (some ⟨s.mb, 0, none⟩)] :: memA s.mb s.mem :: slA p 6 s.sl :: mkA p 7 s.mr :: spA p 8 s.mp :: rqA p 9 s.q :: rtA p 10 s.rt :: tmrA p 11 s.tm :: jnlA p 12 s.jn :: fld p 13 [.map (some bn), .map (some be), .map (some br), .map (some bg), .map (some bt), .map (some bs), .map (some bp), .map (some bl), .map (some bk)] :: mapV kZ evA (.map (some bn)) (ptrs s.nt) :: each ntF s.nt :: mapV kZ evA (.map (some be)) (ptrs s.ep) :: each epF s.ep :: mapV kZ evA (.map (some br)) (ptrs s.rp) :: each rpF s.rp :: mapV kZ evA (.map (some bg)) (ptrs s.rg) :: each (rgF s.mb) s.rg :: mapV kZ evT (.map (some bt)) s.th :: mapV kZ evB (.map (some bs)) s.sp :: mapV kZ evZ (.map (some bp)) s.pr :: mapV kZ evL (.map (some bl)) (tbe s b t h) :: mapV kZ evZ (.map (some bk)) s.tk :: fld p 22 [.int .u64 s.now] :: m) (fun v9 : Value => [(9, v9), (0, .pointer (some ⟨p, 0, none⟩)), (1, .int .i64 t), (2, .int .i64 h), (6, .int .i64 b), (7, .pointer (some ⟨b7, 0, none⟩)), (8, .pointer (some ⟨b8, 0, none⟩))]) ?_ ?_
  refine sr <| mv rfl rfl <| nc rfl rfl <| fa rfl rfl fa153_0 <| fa rfl rfl fa86_4 <| L_val rfl (v_loadL (o := 0) (i := 4) rfl ty4 HS rfl (by exact rfl)) ?_
  refine nq ?_
  refine C_split rfl (fun h64 => ?_) (fun h64 => ?_)
  refine sr <| mv rfl rfl <| mv rfl rfl <| mv rfl rfl <| L_pur rfl (p_add64 rfl rfl (by omega)) <| L_pur rfl (bld110 (.cons rfl (.cons rfl (.cons rfl .nil))) (by repeat constructor)) <| mv rfl rfl <| L_pur rfl (p_add64 rfl rfl (by omega)) ?_
  refine mv rfl rfl <| L_pur rfl (p_shl rfl rfl (by omega) (by have : (IntKind.i64.bits : Int) = 64 := rfl; omega)) <| J_slot (t := 73) (v := .int .i64 (shl1 t)) rfl rfl <| L_pur rfl (bld110 (.cons rfl (.cons rfl (.cons rfl .nil))) (by repeat constructor)) <| L_op <| x_lit (vals := [_, _]) Tryz.underlying302 ty110 rfl (.cons rfl (.cons rfl .nil)) (.agg (.agg .nil)) (Wf.cons rfl rfl (Wf.cons rfl rfl Wf.nil)) rfl (by decide) rfl rfl <| JE ((tcap2 t h).map encC) (by rfl) fun a75 c75 hw75 hl75 hm75 hz75 => L_op <| x_app rfl rfl Tryz.underlying302 ty110 rfl rfl PC (fun w H => sep_reads HS H) (by simp [tcap8, tcap2]) (by simp [tcap8, tcap2]) rfl ?_
  refine JE ((tcap8 b s.cu ++ tcap2 t h).map encC) (by simp) fun a76 c76 hw76 hl76 hm76 hz76 => ag rfl rfl <| nq <| J_drawT 11 mixed (by kernel_rfl) <| sm rfl rfl <| sp rfl (p_nilCheck rfl) <| sp rfl (p_fieldAddr rfl fa153_16) <| S_val rfl (v_loadL (o := 13) (i := 7) rfl ty151 HS rfl (by exact rfl)) ?_
  refine sp rfl (p_fieldAddr rfl fa213_2) <| S_val rfl (v_load rfl ty3 HS (by exact rfl)) ?_
  refine sm rfl rfl <| sp rfl (p_add64 rfl rfl (by omega)) <| sm rfl rfl <| sp rfl (p_shl rfl rfl (by omega) (by have : (IntKind.u32.bits : Int) = 32 := rfl; omega)) <| J_slot (t := 86) (v := .int .u32 (shl32 t)) rfl rfl <| sp rfl (bld304 (.cons rfl (.cons rfl .nil)) (by repeat constructor)) <| S_nil <| L_op <| x_mapUpdate (ek := kZ) (ev := evL) (a := b + 3) (c := (h + 1, shl32 t)) rfl rfl rfl ky3 Tryz.underlying151 PC ?_
  refine nq <| J_pick (A := row 110 5 _ _) PC ?_
  refine J_rowEq (ys := (tcaps s b t h).map encC) (by simp [tcaps, h64, tcap2, encC]) <| J_pick (A := mapV kZ evL _ _) PC ?_
  refine J_mapEq (qs := tbe s b t h) (by simp [tbe, h64]) ?_
  exact J_at (α := Value) (L := (fun v9 : Value => row 110 5 v9 ((tcaps s b t h).map encC) :: blk b7 110 (encC ⟨2, b, 0, 0, 7⟩) :: blk b8 213 [.int .i64 (b + 1), .int .i64 (b + 2), .int .i64 (b + 3), .int .i64 2, .int .i64 b, .int .i64 0, .int .i64 0, .int .i64 7] :: fld p 0 [.int .i64 s.ct, .int .i64 s.cu, .int .i64 s.cs, .int .i64 s.cc, .bool s.sh, .pointer (some ⟨s.mb, 0, none⟩)] :: memA s.mb s.mem :: slA p 6 s.sl :: mkA p 7 s.mr :: spA p 8 s.mp :: rqA p 9 s.q :: rtA p 10 s.rt :: tmrA p 11 s.tm :: jnlA p 12 s.jn :: fld p 13 [.map (some bn), .map (some be), .map (some br), .map (some bg), .map (some bt), .map (some bs), .map (some bp), .map (some bl), .map (some bk)] :: mapV kZ evA (.map (some bn)) (ptrs s.nt) :: each ntF s.nt :: mapV kZ evA (.map (some be)) (ptrs s.ep) :: each epF s.ep :: mapV kZ evA (.map (some br)) (ptrs s.rp) :: each rpF s.rp :: mapV kZ evA (.map (some bg)) (ptrs s.rg) :: each (rgF s.mb) s.rg :: mapV kZ evT (.map (some bt)) s.th :: mapV kZ evB (.map (some bs)) s.sp :: mapV kZ evZ (.map (some bp)) s.pr :: mapV kZ evL (.map (some bl)) (tbe s b t h) :: mapV kZ evZ (.map (some bk)) s.tk :: fld p 22 [.int .u64 s.now] :: m)) (G := (fun v9 : Value => [(9, v9), (0, .pointer (some ⟨p, 0, none⟩)), (1, .int .i64 t), (2, .int .i64 h), (6, .int .i64 b), (7, .pointer (some ⟨b7, 0, none⟩)), (8, .pointer (some ⟨b8, 0, none⟩))])) _ SU KE
  refine J_skip <| Q_then <| J_pick (A := row 110 5 _ _) PC ?_
  refine J_rowEq (ys := (tcaps s b t h).map encC) (by simp [tcaps, h64, tcap2, encC]) <| J_pick (A := mapV kZ evL _ _) PC ?_
  refine J_mapEq (qs := tbe s b t h) (by simp [tbe, h64]) ?_
  exact J_at (α := Value) (L := (fun v9 : Value => row 110 5 v9 ((tcaps s b t h).map encC) :: blk b7 110 (encC ⟨2, b, 0, 0, 7⟩) :: blk b8 213 [.int .i64 (b + 1), .int .i64 (b + 2), .int .i64 (b + 3), .int .i64 2, .int .i64 b, .int .i64 0, .int .i64 0, .int .i64 7] :: fld p 0 [.int .i64 s.ct, .int .i64 s.cu, .int .i64 s.cs, .int .i64 s.cc, .bool s.sh, .pointer (some ⟨s.mb, 0, none⟩)] :: memA s.mb s.mem :: slA p 6 s.sl :: mkA p 7 s.mr :: spA p 8 s.mp :: rqA p 9 s.q :: rtA p 10 s.rt :: tmrA p 11 s.tm :: jnlA p 12 s.jn :: fld p 13 [.map (some bn), .map (some be), .map (some br), .map (some bg), .map (some bt), .map (some bs), .map (some bp), .map (some bl), .map (some bk)] :: mapV kZ evA (.map (some bn)) (ptrs s.nt) :: each ntF s.nt :: mapV kZ evA (.map (some be)) (ptrs s.ep) :: each epF s.ep :: mapV kZ evA (.map (some br)) (ptrs s.rp) :: each rpF s.rp :: mapV kZ evA (.map (some bg)) (ptrs s.rg) :: each (rgF s.mb) s.rg :: mapV kZ evT (.map (some bt)) s.th :: mapV kZ evB (.map (some bs)) s.sp :: mapV kZ evZ (.map (some bp)) s.pr :: mapV kZ evL (.map (some bl)) (tbe s b t h) :: mapV kZ evZ (.map (some bk)) s.tk :: fld p 22 [.int .u64 s.now] :: m)) (G := (fun v9 : Value => [(9, v9), (0, .pointer (some ⟨p, 0, none⟩)), (1, .int .i64 t), (2, .int .i64 h), (6, .int .i64 b), (7, .pointer (some ⟨b7, 0, none⟩)), (8, .pointer (some ⟨b8, 0, none⟩))])) _ SU KE
  intro v9
  refine J_row .here fun hw9 a9 c9 hv9 h19 h29 h39 => ?_
  subst hv9
  have hlen := tcaps_len s b t h
  have hml : ((tcaps s b t h).map encC).length = (tcaps s b t h).length := List.length_map _
  have hm9 : c9 ≤ 9223372036854775807 := h29
  refine J_seq <| sr <| mv rfl rfl <| L_pur rfl (p_len rfl Tryz.underlying302) <| mv rfl rfl <| nq <| J_block <| J_loop (α := Nat) (fun i => i ≤ (tcaps s b t h).length) (fun i => row 110 5 (.slice a9 ((tcaps s b t h).map encC).length c9) ((tcaps s b t h).map encC) :: blk b7 110 (encC ⟨2, b, 0, 0, 7⟩) :: blk b8 213 [.int .i64 (b + 1), .int .i64 (b + 2), .int .i64 (b + 3), .int .i64 2, .int .i64 b, .int .i64 0, .int .i64 0, .int .i64 7] :: fld p 0 [.int .i64 s.ct, .int .i64 s.cu, .int .i64 s.cs, .int .i64 s.cc, .bool s.sh, .pointer (some ⟨s.mb, 0, none⟩)] :: memA s.mb s.mem :: slA p 6 (tput b s.sl 0 ((tcaps s b t h).take i)) :: mkA p 7 s.mr :: spA p 8 s.mp :: rqA p 9 s.q :: rtA p 10 s.rt :: tmrA p 11 s.tm :: jnlA p 12 s.jn :: fld p 13 [.map (some bn), .map (some be), .map (some br), .map (some bg), .map (some bt), .map (some bs), .map (some bp), .map (some bl), .map (some bk)] :: mapV kZ evA (.map (some bn)) (ptrs s.nt) :: each ntF s.nt :: mapV kZ evA (.map (some be)) (ptrs s.ep) :: each epF s.ep :: mapV kZ evA (.map (some br)) (ptrs s.rp) :: each rpF s.rp :: mapV kZ evA (.map (some bg)) (ptrs s.rg) :: each (rgF s.mb) s.rg :: mapV kZ evT (.map (some bt)) s.th :: mapV kZ evB (.map (some bs)) s.sp :: mapV kZ evZ (.map (some bp)) s.pr :: mapV kZ evL (.map (some bl)) (tbe s b t h) :: mapV kZ evZ (.map (some bk)) s.tk :: fld p 22 [.int .u64 s.now] :: m) (fun i => [(90, .int .i64 (i : Int)), (88, .slice a9 ((tcaps s b t h).map encC).length c9), (89, .int .i64 (((tcaps s b t h).map encC).length : Int)), (0, .pointer (some ⟨p, 0, none⟩)), (1, .int .i64 t), (2, .int .i64 h), (6, .int .i64 b), (7, .pointer (some ⟨b7, 0, none⟩)), (8, .pointer (some ⟨b8, 0, none⟩))]) (fun i => (tcaps s b t h).length - i) 0 (by omega) SU KE ?_
  intro i hi
  refine sr <| L_pur rfl (p_lss rfl rfl) <| nq <| J_seq ?_
  refine C_dec rfl (fun h91 => ?_) (fun h91 => ?_)
  have hlt : i < (tcaps s b t h).length := by omega
  obtain ⟨bc, oc, rfl⟩ := h39 (by intro h; rw [h] at hml; simp at hml; omega)
  obtain ⟨c, hcc⟩ : ∃ c, (tcaps s b t h)[i]? = some c := ⟨_, List.getElem?_eq_getElem hlt⟩
  refine J_skip <| Q_then <| J_seq <| J_block <| sr <| mv rfl rfl <| L_pur rfl (p_indexAddr rfl rfl Tryz.underlying302 ty110 (by omega) (by omega)) ?_
  refine L_val rfl (v_loadE rfl ty110 HS (by first | (simp only [Int.toNat_natCast, List.getElem?_map, hcc]; rfl) | (simp only [Int.toNat_natCast, List.getElem?_map, hcd]; rfl) | simp | rfl)) ?_
  refine L_op <| x_alloc ty110 rfl fun b11 => ag rfl rfl <| L_op <| x_store rfl rfl ty110 rfl SM SM RO PT ?_
  refine nx <| fa rfl rfl fa110_4 <| L_op <| x_store rfl rfl ty3 rfl SM SM RO PT ?_
  refine J_pick (A := blk b11 _ _) PC ?_
  refine J_asTo (B := blk b11 110 (encC (withAll c))) (by rfl) <| nq <| J_drawT 9 mixed (by kernel_rfl) <| sm rfl rfl <| sp rfl (p_nilCheck rfl) <| sp rfl (p_fieldAddr rfl fa153_2) <| sm rfl rfl <| sm rfl rfl ?_
  refine sp rfl (p_add64 rfl rfl (by omega)) <| sp rfl (bld108 (.cons rfl (.cons rfl .nil)) (by repeat constructor)) <| S_val rfl (v_loadA rfl ty110 HS CT) ?_
  refine sp rfl (bld108 .nil (by repeat constructor)) <| S_nil <| L_op <| xc fc58 (.cons rfl (.cons rfl (.cons rfl (.cons rfl .nil)))) rfl (slPutC (c := withAll c) (p := (b, (i : Int) + 1)) (q := (0, 0)) PC) fun _ => ?_
  refine J_pick (A := slA _ _ _) PC ?_
  refine J_asTo (B := slA p 6 (tput b s.sl 0 ((tcaps s b t h).take (i + 1)))) (by rw [tput_take hcc]) <| L_nil <| Q_blk_normal <| qr <| L_pur rfl (p_add64 rfl rfl (by omega)) <| mv rfl rfl <| nq ?_
  exact J_again (i + 1) (by omega) (by omega) SU KE
  have hil : i = (tcaps s b t h).length := by omega
  subst hil
  refine J_pick (A := slA _ _ _) PC ?_
  refine J_asTo (B := slA p 6 (tput b s.sl 0 (tcaps s b t h))) (by rw [List.take_length]) <| J_exit <| Q_then_exit <| Q_then_exit <| Q_blk_this <| Q_then <| J_seq <| sr ?_
  refine mv rfl rfl <| nq <| J_block <| J_loop (α := Nat) (fun i => i ≤ 2) (fun i => blk b8 213 [.int .i64 (b + 1), .int .i64 (b + 2), .int .i64 (b + 3), .int .i64 2, .int .i64 b, .int .i64 0, .int .i64 0, .int .i64 7] :: fld p 0 [.int .i64 s.ct, .int .i64 s.cu, .int .i64 s.cs, .int .i64 s.cc, .bool s.sh, .pointer (some ⟨s.mb, 0, none⟩)] :: memA s.mb s.mem :: slA p 6 (tput b s.sl 0 (tcaps s b t h)) :: mkA p 7 s.mr :: spA p 8 (tmap b s.mp i) :: rqA p 9 s.q :: rtA p 10 s.rt :: tmrA p 11 s.tm :: jnlA p 12 s.jn :: fld p 13 [.map (some bn), .map (some be), .map (some br), .map (some bg), .map (some bt), .map (some bs), .map (some bp), .map (some bl), .map (some bk)] :: mapV kZ evA (.map (some bn)) (ptrs s.nt) :: each ntF s.nt :: mapV kZ evA (.map (some be)) (ptrs s.ep) :: each epF s.ep :: mapV kZ evA (.map (some br)) (ptrs s.rp) :: each rpF s.rp :: mapV kZ evA (.map (some bg)) (ptrs s.rg) :: each (rgF s.mb) s.rg :: mapV kZ evT (.map (some bt)) s.th :: mapV kZ evB (.map (some bs)) s.sp :: mapV kZ evZ (.map (some bp)) s.pr :: mapV kZ evL (.map (some bl)) (tbe s b t h) :: mapV kZ evZ (.map (some bk)) s.tk :: fld p 22 [.int .u64 s.now] :: m) (fun i => [(107, .int .i64 (i : Int)), (0, .pointer (some ⟨p, 0, none⟩)), (1, .int .i64 t), (2, .int .i64 h), (6, .int .i64 b), (7, .pointer (some ⟨b7, 0, none⟩)), (8, .pointer (some ⟨b8, 0, none⟩))]) (fun i => 2 - i) 0 (by omega) SU KE ?_
  intro i hi
  refine sr <| L_pur rfl (p_lss rfl rfl) <| nq <| J_seq ?_
  refine C_dec rfl (fun h108 => ?_) (fun h108 => ?_)
  refine J_skip <| Q_then <| J_seq <| J_block <| sr <| mv rfl rfl <| ag rfl rfl <| nq ?_
  refine J_drawT 12 mixed (by kernel_rfl) <| sm rfl rfl <| sp rfl (p_nilCheck rfl) <| sp rfl (p_fieldAddr rfl fa153_4) <| sp rfl (p_fieldAddr rfl fa213_1) <| S_val rfl (v_load rfl ty3 HS (by exact rfl)) ?_
  refine sm rfl rfl <| sp rfl (bld199 (.cons rfl (.cons rfl .nil)) (by repeat constructor)) <| sm rfl rfl <| sp rfl (p_add64 rfl rfl (by omega)) <| sm rfl rfl <| sp rfl (p_add64 rfl rfl (by omega)) <| sp rfl (bld204 (.cons rfl (.cons rfl .nil)) (by repeat constructor)) <| S_nil ?_
  refine L_op <| xc fc142 (.cons rfl (.cons rfl (.cons rfl .nil))) rfl (spSetC (p := (b + 2, (i : Int))) (f := (b + 4 + (i : Int), 3)) PC) fun _ => ?_
  refine L_nil <| Q_blk_normal <| qr <| L_pur rfl (p_add64 rfl rfl (by omega)) <| mv rfl rfl <| nq ?_
  exact J_again (i + 1) (by omega) (by omega) SU KE
  have hi2 : i = 2 := by omega
  subst hi2
  refine J_exit <| Q_then_exit <| Q_then_exit <| Q_blk_this <| Q_then ?_
  refine J_cut (α := Nat) (fun b144 : Nat => fld p 0 [.int .i64 s.ct, .int .i64 s.cu, .int .i64 s.cs, .int .i64 s.cc, .bool s.sh, .pointer (some ⟨s.mb, 0, none⟩)] :: memA s.mb s.mem :: slA p 6 (tput b s.sl 0 (tcaps s b t h)) :: mkA p 7 s.mr :: spA p 8 (tmap b s.mp 2) :: rqA p 9 s.q :: rtA p 10 s.rt :: tmrA p 11 s.tm :: jnlA p 12 s.jn :: fld p 13 [.map (some bn), .map (some be), .map (some br), .map (some bg), .map (some bt), .map (some bs), .map (some bp), .map (some bl), .map (some bk)] :: mapV kZ evA (.map (some bn)) (ptrs s.nt) :: each ntF s.nt :: mapV kZ evA (.map (some be)) (ptrs s.ep) :: each epF s.ep :: mapV kZ evA (.map (some br)) (ins (ptrs s.rp) (b + 6) b144) :: each rpF s.rp :: mapV kZ evA (.map (some bg)) (ptrs s.rg) :: each (rgF s.mb) s.rg :: mapV kZ evT (.map (some bt)) (ins s.th (b + 1) (thOf b)) :: mapV kZ evB (.map (some bs)) (ins s.sp (b + 2) true) :: mapV kZ evZ (.map (some bp)) s.pr :: mapV kZ evL (.map (some bl)) (tbe s b t h) :: mapV kZ evZ (.map (some bk)) s.tk :: fld p 22 [.int .u64 s.now] :: blk b144 243 [.int .i64 0, .int .i64 0, .bool false] :: blk b8 213 [.int .i64 (b + 1), .int .i64 (b + 2), .int .i64 (b + 3), .int .i64 2, .int .i64 b, .int .i64 0, .int .i64 0, .int .i64 7] :: m) (fun _ : Nat => [(0, .pointer (some ⟨p, 0, none⟩)), (1, .int .i64 t), (2, .int .i64 h), (6, .int .i64 b), (7, .pointer (some ⟨b7, 0, none⟩)), (8, .pointer (some ⟨b8, 0, none⟩))]) ?_ ?_
  refine J_drawI (some 23) [fld p 0 [.int .i64 s.ct, .int .i64 s.cu, .int .i64 s.cs, .int .i64 s.cc, .bool s.sh, .pointer (some ⟨s.mb, 0, none⟩)], fld p 13 [.map (some bn), .map (some be), .map (some br), .map (some bg), .map (some bt), .map (some bs), .map (some bp), .map (some bl), .map (some bk)], blk b8 213 [.int .i64 (b + 1), .int .i64 (b + 2), .int .i64 (b + 3), .int .i64 2, .int .i64 b, .int .i64 0, .int .i64 0, .int .i64 7]] mixed <| ip 0 rfl rfl rfl rfl (p_move rfl) <| ip 1 rfl rfl rfl rfl (p_nilCheck rfl) <| ip 2 rfl rfl rfl rfl (p_fieldAddr rfl fa153_13) <| iv 3 rfl rfl rfl rfl (fun _ => v_loadL (o := 13) (i := 4) rfl ty148 HS rfl (by exact rfl)) ?_
  refine ip 4 rfl rfl rfl rfl (p_fieldAddr rfl fa213_0) <| iv 5 rfl rfl rfl rfl (fun _ => v_load rfl ty3 HS (by exact rfl)) ?_
  refine ip 6 rfl rfl rfl rfl (p_move rfl) <| ip 7 rfl rfl rfl rfl (p_nilCheck rfl) <| ip 8 rfl rfl rfl rfl (p_fieldAddr rfl fa153_14) <| iv 9 rfl rfl rfl rfl (fun _ => v_loadL (o := 13) (i := 5) rfl ty149 HS rfl (by exact rfl)) ?_
  refine ip 10 rfl rfl rfl rfl (p_fieldAddr rfl fa213_1) <| ip 12 rfl rfl rfl rfl (p_move rfl) <| ip 13 rfl rfl rfl rfl (p_nilCheck rfl) <| ip 14 rfl rfl rfl rfl (p_fieldAddr rfl fa153_11) <| iv 15 rfl rfl rfl rfl (fun _ => v_loadL (o := 13) (i := 2) rfl ty146 HS rfl (by exact rfl)) ?_
  refine ip 16 rfl rfl rfl rfl (p_move rfl) <| ip 17 rfl rfl rfl rfl (p_add64 rfl rfl (by omega)) <| iv 18 rfl rfl rfl rfl (fun _ => v_loadA rfl ty213 HS CT) ?_
  refine ip 19 rfl rfl rfl rfl (bld243 .nil (by repeat constructor)) <| I_ready (rs := [11, 20, 21]) SI (by kernel_rfl) (by simp) ?_
  refine (I_cons rfl ?_ (I_cons rfl ?_ (I_cons rfl ?_ I_nil)))
  refine J_val (v_load rfl ty3 HS (by exact rfl)) rfl rfl rfl ?_
  refine I_ready (rs := [20, 21]) SI (by kernel_rfl) (by simp) ?_
  refine (I_cons rfl ?_ (I_cons rfl ?_ I_nil))
  refine x_box rfl rfl rfl fun b144 => i1 21 rfl <| x_mapEntry (ek := kZ) (ev := evT) (a := b + 1) rfl rfl rfl ky3 Tryz.underlying148 zv213 PC fun u145 s145 => ?_
  refine ip 22 rfl rfl rfl rfl (p_extract rfl rfl) <| i1 23 rfl <| x_entryStore (ek := kZ) (ev := evT) (a := b + 1) (c := thOf b) rfl rfl rfl PC ?_
  refine i1 24 rfl <| x_mapEntry (ek := kZ) (ev := evB) (a := b + 2) rfl rfl rfl ky3 Tryz.underlying149 zv4 PC fun u147 s147 => ?_
  refine ip 25 rfl rfl rfl rfl (p_extract rfl rfl) <| i1 26 rfl <| x_entryStore (ek := kZ) (ev := evB) (a := b + 2) (c := true) rfl rfl rfl PC ?_
  refine i1 27 rfl <| x_mapEntry (ek := kZ) (ev := evA) (a := b + 6) rfl rfl rfl ky3 Tryz.underlying146 zv241 PC fun u149 s149 => ?_
  refine ip 28 rfl rfl rfl rfl (p_extract rfl rfl) <| i1 29 rfl <| x_entryStore (ek := kZ) (ev := evA) (a := b + 6) (c := b144) rfl rfl rfl PC ?_
  refine i0 <| Q_then ?_
  exact J_at (α := Nat) (L := (fun b144 : Nat => fld p 0 [.int .i64 s.ct, .int .i64 s.cu, .int .i64 s.cs, .int .i64 s.cc, .bool s.sh, .pointer (some ⟨s.mb, 0, none⟩)] :: memA s.mb s.mem :: slA p 6 (tput b s.sl 0 (tcaps s b t h)) :: mkA p 7 s.mr :: spA p 8 (tmap b s.mp 2) :: rqA p 9 s.q :: rtA p 10 s.rt :: tmrA p 11 s.tm :: jnlA p 12 s.jn :: fld p 13 [.map (some bn), .map (some be), .map (some br), .map (some bg), .map (some bt), .map (some bs), .map (some bp), .map (some bl), .map (some bk)] :: mapV kZ evA (.map (some bn)) (ptrs s.nt) :: each ntF s.nt :: mapV kZ evA (.map (some be)) (ptrs s.ep) :: each epF s.ep :: mapV kZ evA (.map (some br)) (ins (ptrs s.rp) (b + 6) b144) :: each rpF s.rp :: mapV kZ evA (.map (some bg)) (ptrs s.rg) :: each (rgF s.mb) s.rg :: mapV kZ evT (.map (some bt)) (ins s.th (b + 1) (thOf b)) :: mapV kZ evB (.map (some bs)) (ins s.sp (b + 2) true) :: mapV kZ evZ (.map (some bp)) s.pr :: mapV kZ evL (.map (some bl)) (tbe s b t h) :: mapV kZ evZ (.map (some bk)) s.tk :: fld p 22 [.int .u64 s.now] :: blk b144 243 [.int .i64 0, .int .i64 0, .bool false] :: blk b8 213 [.int .i64 (b + 1), .int .i64 (b + 2), .int .i64 (b + 3), .int .i64 2, .int .i64 b, .int .i64 0, .int .i64 0, .int .i64 7] :: m)) (G := (fun _ : Nat => [(0, .pointer (some ⟨p, 0, none⟩)), (1, .int .i64 t), (2, .int .i64 h), (6, .int .i64 b), (7, .pointer (some ⟨b7, 0, none⟩)), (8, .pointer (some ⟨b8, 0, none⟩))])) b144 SU KE
  refine x_mapEntry (ek := kZ) (ev := evT) (a := b + 1) rfl rfl rfl ky3 Tryz.underlying148 zv213 PC fun u145 s145 => ?_
  refine ip 22 rfl rfl rfl rfl (p_extract rfl rfl) <| I_ready (rs := [20, 23]) SI (by kernel_rfl) (by simp) ?_
  refine (I_cons rfl ?_ (I_cons rfl ?_ I_nil))
  refine x_box rfl rfl rfl fun b144 => i1 23 rfl <| x_entryStore (ek := kZ) (ev := evT) (a := b + 1) (c := thOf b) rfl rfl rfl PC ?_
  refine i1 24 rfl <| x_mapEntry (ek := kZ) (ev := evB) (a := b + 2) rfl rfl rfl ky3 Tryz.underlying149 zv4 PC fun u147 s147 => ?_
  refine ip 25 rfl rfl rfl rfl (p_extract rfl rfl) <| i1 26 rfl <| x_entryStore (ek := kZ) (ev := evB) (a := b + 2) (c := true) rfl rfl rfl PC ?_
  refine i1 27 rfl <| x_mapEntry (ek := kZ) (ev := evA) (a := b + 6) rfl rfl rfl ky3 Tryz.underlying146 zv241 PC fun u149 s149 => ?_
  refine ip 28 rfl rfl rfl rfl (p_extract rfl rfl) <| i1 29 rfl <| x_entryStore (ek := kZ) (ev := evA) (a := b + 6) (c := b144) rfl rfl rfl PC ?_
  refine i0 <| Q_then ?_
  exact J_at (α := Nat) (L := (fun b144 : Nat => fld p 0 [.int .i64 s.ct, .int .i64 s.cu, .int .i64 s.cs, .int .i64 s.cc, .bool s.sh, .pointer (some ⟨s.mb, 0, none⟩)] :: memA s.mb s.mem :: slA p 6 (tput b s.sl 0 (tcaps s b t h)) :: mkA p 7 s.mr :: spA p 8 (tmap b s.mp 2) :: rqA p 9 s.q :: rtA p 10 s.rt :: tmrA p 11 s.tm :: jnlA p 12 s.jn :: fld p 13 [.map (some bn), .map (some be), .map (some br), .map (some bg), .map (some bt), .map (some bs), .map (some bp), .map (some bl), .map (some bk)] :: mapV kZ evA (.map (some bn)) (ptrs s.nt) :: each ntF s.nt :: mapV kZ evA (.map (some be)) (ptrs s.ep) :: each epF s.ep :: mapV kZ evA (.map (some br)) (ins (ptrs s.rp) (b + 6) b144) :: each rpF s.rp :: mapV kZ evA (.map (some bg)) (ptrs s.rg) :: each (rgF s.mb) s.rg :: mapV kZ evT (.map (some bt)) (ins s.th (b + 1) (thOf b)) :: mapV kZ evB (.map (some bs)) (ins s.sp (b + 2) true) :: mapV kZ evZ (.map (some bp)) s.pr :: mapV kZ evL (.map (some bl)) (tbe s b t h) :: mapV kZ evZ (.map (some bk)) s.tk :: fld p 22 [.int .u64 s.now] :: blk b144 243 [.int .i64 0, .int .i64 0, .bool false] :: blk b8 213 [.int .i64 (b + 1), .int .i64 (b + 2), .int .i64 (b + 3), .int .i64 2, .int .i64 b, .int .i64 0, .int .i64 0, .int .i64 7] :: m)) (G := (fun _ : Nat => [(0, .pointer (some ⟨p, 0, none⟩)), (1, .int .i64 t), (2, .int .i64 h), (6, .int .i64 b), (7, .pointer (some ⟨b7, 0, none⟩)), (8, .pointer (some ⟨b8, 0, none⟩))])) b144 SU KE
  refine x_entryStore (ek := kZ) (ev := evT) (a := b + 1) (c := thOf b) rfl rfl rfl PC ?_
  refine I_ready (rs := [20, 24]) SI (by kernel_rfl) (by simp) ?_
  refine (I_cons rfl ?_ (I_cons rfl ?_ I_nil))
  refine x_box rfl rfl rfl fun b144 => i1 24 rfl <| x_mapEntry (ek := kZ) (ev := evB) (a := b + 2) rfl rfl rfl ky3 Tryz.underlying149 zv4 PC fun u147 s147 => ?_
  refine ip 25 rfl rfl rfl rfl (p_extract rfl rfl) <| i1 26 rfl <| x_entryStore (ek := kZ) (ev := evB) (a := b + 2) (c := true) rfl rfl rfl PC ?_
  refine i1 27 rfl <| x_mapEntry (ek := kZ) (ev := evA) (a := b + 6) rfl rfl rfl ky3 Tryz.underlying146 zv241 PC fun u149 s149 => ?_
  refine ip 28 rfl rfl rfl rfl (p_extract rfl rfl) <| i1 29 rfl <| x_entryStore (ek := kZ) (ev := evA) (a := b + 6) (c := b144) rfl rfl rfl PC ?_
  refine i0 <| Q_then ?_
  exact J_at (α := Nat) (L := (fun b144 : Nat => fld p 0 [.int .i64 s.ct, .int .i64 s.cu, .int .i64 s.cs, .int .i64 s.cc, .bool s.sh, .pointer (some ⟨s.mb, 0, none⟩)] :: memA s.mb s.mem :: slA p 6 (tput b s.sl 0 (tcaps s b t h)) :: mkA p 7 s.mr :: spA p 8 (tmap b s.mp 2) :: rqA p 9 s.q :: rtA p 10 s.rt :: tmrA p 11 s.tm :: jnlA p 12 s.jn :: fld p 13 [.map (some bn), .map (some be), .map (some br), .map (some bg), .map (some bt), .map (some bs), .map (some bp), .map (some bl), .map (some bk)] :: mapV kZ evA (.map (some bn)) (ptrs s.nt) :: each ntF s.nt :: mapV kZ evA (.map (some be)) (ptrs s.ep) :: each epF s.ep :: mapV kZ evA (.map (some br)) (ins (ptrs s.rp) (b + 6) b144) :: each rpF s.rp :: mapV kZ evA (.map (some bg)) (ptrs s.rg) :: each (rgF s.mb) s.rg :: mapV kZ evT (.map (some bt)) (ins s.th (b + 1) (thOf b)) :: mapV kZ evB (.map (some bs)) (ins s.sp (b + 2) true) :: mapV kZ evZ (.map (some bp)) s.pr :: mapV kZ evL (.map (some bl)) (tbe s b t h) :: mapV kZ evZ (.map (some bk)) s.tk :: fld p 22 [.int .u64 s.now] :: blk b144 243 [.int .i64 0, .int .i64 0, .bool false] :: blk b8 213 [.int .i64 (b + 1), .int .i64 (b + 2), .int .i64 (b + 3), .int .i64 2, .int .i64 b, .int .i64 0, .int .i64 0, .int .i64 7] :: m)) (G := (fun _ : Nat => [(0, .pointer (some ⟨p, 0, none⟩)), (1, .int .i64 t), (2, .int .i64 h), (6, .int .i64 b), (7, .pointer (some ⟨b7, 0, none⟩)), (8, .pointer (some ⟨b8, 0, none⟩))])) b144 SU KE
  refine x_mapEntry (ek := kZ) (ev := evB) (a := b + 2) rfl rfl rfl ky3 Tryz.underlying149 zv4 PC fun u147 s147 => ?_
  refine ip 25 rfl rfl rfl rfl (p_extract rfl rfl) <| I_ready (rs := [20, 26]) SI (by kernel_rfl) (by simp) ?_
  refine (I_cons rfl ?_ (I_cons rfl ?_ I_nil))
  refine x_box rfl rfl rfl fun b144 => i1 26 rfl <| x_entryStore (ek := kZ) (ev := evB) (a := b + 2) (c := true) rfl rfl rfl PC ?_
  refine i1 27 rfl <| x_mapEntry (ek := kZ) (ev := evA) (a := b + 6) rfl rfl rfl ky3 Tryz.underlying146 zv241 PC fun u149 s149 => ?_
  refine ip 28 rfl rfl rfl rfl (p_extract rfl rfl) <| i1 29 rfl <| x_entryStore (ek := kZ) (ev := evA) (a := b + 6) (c := b144) rfl rfl rfl PC ?_
  refine i0 <| Q_then ?_
  exact J_at (α := Nat) (L := (fun b144 : Nat => fld p 0 [.int .i64 s.ct, .int .i64 s.cu, .int .i64 s.cs, .int .i64 s.cc, .bool s.sh, .pointer (some ⟨s.mb, 0, none⟩)] :: memA s.mb s.mem :: slA p 6 (tput b s.sl 0 (tcaps s b t h)) :: mkA p 7 s.mr :: spA p 8 (tmap b s.mp 2) :: rqA p 9 s.q :: rtA p 10 s.rt :: tmrA p 11 s.tm :: jnlA p 12 s.jn :: fld p 13 [.map (some bn), .map (some be), .map (some br), .map (some bg), .map (some bt), .map (some bs), .map (some bp), .map (some bl), .map (some bk)] :: mapV kZ evA (.map (some bn)) (ptrs s.nt) :: each ntF s.nt :: mapV kZ evA (.map (some be)) (ptrs s.ep) :: each epF s.ep :: mapV kZ evA (.map (some br)) (ins (ptrs s.rp) (b + 6) b144) :: each rpF s.rp :: mapV kZ evA (.map (some bg)) (ptrs s.rg) :: each (rgF s.mb) s.rg :: mapV kZ evT (.map (some bt)) (ins s.th (b + 1) (thOf b)) :: mapV kZ evB (.map (some bs)) (ins s.sp (b + 2) true) :: mapV kZ evZ (.map (some bp)) s.pr :: mapV kZ evL (.map (some bl)) (tbe s b t h) :: mapV kZ evZ (.map (some bk)) s.tk :: fld p 22 [.int .u64 s.now] :: blk b144 243 [.int .i64 0, .int .i64 0, .bool false] :: blk b8 213 [.int .i64 (b + 1), .int .i64 (b + 2), .int .i64 (b + 3), .int .i64 2, .int .i64 b, .int .i64 0, .int .i64 0, .int .i64 7] :: m)) (G := (fun _ : Nat => [(0, .pointer (some ⟨p, 0, none⟩)), (1, .int .i64 t), (2, .int .i64 h), (6, .int .i64 b), (7, .pointer (some ⟨b7, 0, none⟩)), (8, .pointer (some ⟨b8, 0, none⟩))])) b144 SU KE
  refine x_entryStore (ek := kZ) (ev := evB) (a := b + 2) (c := true) rfl rfl rfl PC ?_
  refine I_ready (rs := [20, 27]) SI (by kernel_rfl) (by simp) ?_
  refine (I_cons rfl ?_ (I_cons rfl ?_ I_nil))
  refine x_box rfl rfl rfl fun b144 => i1 27 rfl <| x_mapEntry (ek := kZ) (ev := evA) (a := b + 6) rfl rfl rfl ky3 Tryz.underlying146 zv241 PC fun u149 s149 => ?_
  refine ip 28 rfl rfl rfl rfl (p_extract rfl rfl) <| i1 29 rfl <| x_entryStore (ek := kZ) (ev := evA) (a := b + 6) (c := b144) rfl rfl rfl PC ?_
  refine i0 <| Q_then ?_
  exact J_at (α := Nat) (L := (fun b144 : Nat => fld p 0 [.int .i64 s.ct, .int .i64 s.cu, .int .i64 s.cs, .int .i64 s.cc, .bool s.sh, .pointer (some ⟨s.mb, 0, none⟩)] :: memA s.mb s.mem :: slA p 6 (tput b s.sl 0 (tcaps s b t h)) :: mkA p 7 s.mr :: spA p 8 (tmap b s.mp 2) :: rqA p 9 s.q :: rtA p 10 s.rt :: tmrA p 11 s.tm :: jnlA p 12 s.jn :: fld p 13 [.map (some bn), .map (some be), .map (some br), .map (some bg), .map (some bt), .map (some bs), .map (some bp), .map (some bl), .map (some bk)] :: mapV kZ evA (.map (some bn)) (ptrs s.nt) :: each ntF s.nt :: mapV kZ evA (.map (some be)) (ptrs s.ep) :: each epF s.ep :: mapV kZ evA (.map (some br)) (ins (ptrs s.rp) (b + 6) b144) :: each rpF s.rp :: mapV kZ evA (.map (some bg)) (ptrs s.rg) :: each (rgF s.mb) s.rg :: mapV kZ evT (.map (some bt)) (ins s.th (b + 1) (thOf b)) :: mapV kZ evB (.map (some bs)) (ins s.sp (b + 2) true) :: mapV kZ evZ (.map (some bp)) s.pr :: mapV kZ evL (.map (some bl)) (tbe s b t h) :: mapV kZ evZ (.map (some bk)) s.tk :: fld p 22 [.int .u64 s.now] :: blk b144 243 [.int .i64 0, .int .i64 0, .bool false] :: blk b8 213 [.int .i64 (b + 1), .int .i64 (b + 2), .int .i64 (b + 3), .int .i64 2, .int .i64 b, .int .i64 0, .int .i64 0, .int .i64 7] :: m)) (G := (fun _ : Nat => [(0, .pointer (some ⟨p, 0, none⟩)), (1, .int .i64 t), (2, .int .i64 h), (6, .int .i64 b), (7, .pointer (some ⟨b7, 0, none⟩)), (8, .pointer (some ⟨b8, 0, none⟩))])) b144 SU KE
  refine x_mapEntry (ek := kZ) (ev := evA) (a := b + 6) rfl rfl rfl ky3 Tryz.underlying146 zv241 PC fun u149 s149 => ?_
  refine ip 28 rfl rfl rfl rfl (p_extract rfl rfl) <| i1 20 rfl <| x_box rfl rfl rfl fun b144 => i1 29 rfl <| x_entryStore (ek := kZ) (ev := evA) (a := b + 6) (c := b144) rfl rfl rfl PC ?_
  refine i0 <| Q_then ?_
  exact J_at (α := Nat) (L := (fun b144 : Nat => fld p 0 [.int .i64 s.ct, .int .i64 s.cu, .int .i64 s.cs, .int .i64 s.cc, .bool s.sh, .pointer (some ⟨s.mb, 0, none⟩)] :: memA s.mb s.mem :: slA p 6 (tput b s.sl 0 (tcaps s b t h)) :: mkA p 7 s.mr :: spA p 8 (tmap b s.mp 2) :: rqA p 9 s.q :: rtA p 10 s.rt :: tmrA p 11 s.tm :: jnlA p 12 s.jn :: fld p 13 [.map (some bn), .map (some be), .map (some br), .map (some bg), .map (some bt), .map (some bs), .map (some bp), .map (some bl), .map (some bk)] :: mapV kZ evA (.map (some bn)) (ptrs s.nt) :: each ntF s.nt :: mapV kZ evA (.map (some be)) (ptrs s.ep) :: each epF s.ep :: mapV kZ evA (.map (some br)) (ins (ptrs s.rp) (b + 6) b144) :: each rpF s.rp :: mapV kZ evA (.map (some bg)) (ptrs s.rg) :: each (rgF s.mb) s.rg :: mapV kZ evT (.map (some bt)) (ins s.th (b + 1) (thOf b)) :: mapV kZ evB (.map (some bs)) (ins s.sp (b + 2) true) :: mapV kZ evZ (.map (some bp)) s.pr :: mapV kZ evL (.map (some bl)) (tbe s b t h) :: mapV kZ evZ (.map (some bk)) s.tk :: fld p 22 [.int .u64 s.now] :: blk b144 243 [.int .i64 0, .int .i64 0, .bool false] :: blk b8 213 [.int .i64 (b + 1), .int .i64 (b + 2), .int .i64 (b + 3), .int .i64 2, .int .i64 b, .int .i64 0, .int .i64 0, .int .i64 7] :: m)) (G := (fun _ : Nat => [(0, .pointer (some ⟨p, 0, none⟩)), (1, .int .i64 t), (2, .int .i64 h), (6, .int .i64 b), (7, .pointer (some ⟨b7, 0, none⟩)), (8, .pointer (some ⟨b8, 0, none⟩))])) b144 SU KE
  refine x_box rfl rfl rfl fun b144 => I_ready (rs := [11, 21]) SI (by kernel_rfl) (by simp) ?_
  refine (I_cons rfl ?_ (I_cons rfl ?_ I_nil))
  refine J_val (v_load rfl ty3 HS (by exact rfl)) rfl rfl rfl ?_
  refine i1 21 rfl <| x_mapEntry (ek := kZ) (ev := evT) (a := b + 1) rfl rfl rfl ky3 Tryz.underlying148 zv213 PC fun u145 s145 => ?_
  refine ip 22 rfl rfl rfl rfl (p_extract rfl rfl) <| i1 23 rfl <| x_entryStore (ek := kZ) (ev := evT) (a := b + 1) (c := thOf b) rfl rfl rfl PC ?_
  refine i1 24 rfl <| x_mapEntry (ek := kZ) (ev := evB) (a := b + 2) rfl rfl rfl ky3 Tryz.underlying149 zv4 PC fun u147 s147 => ?_
  refine ip 25 rfl rfl rfl rfl (p_extract rfl rfl) <| i1 26 rfl <| x_entryStore (ek := kZ) (ev := evB) (a := b + 2) (c := true) rfl rfl rfl PC ?_
  refine i1 27 rfl <| x_mapEntry (ek := kZ) (ev := evA) (a := b + 6) rfl rfl rfl ky3 Tryz.underlying146 zv241 PC fun u149 s149 => ?_
  refine ip 28 rfl rfl rfl rfl (p_extract rfl rfl) <| i1 29 rfl <| x_entryStore (ek := kZ) (ev := evA) (a := b + 6) (c := b144) rfl rfl rfl PC ?_
  refine i0 <| Q_then ?_
  exact J_at (α := Nat) (L := (fun b144 : Nat => fld p 0 [.int .i64 s.ct, .int .i64 s.cu, .int .i64 s.cs, .int .i64 s.cc, .bool s.sh, .pointer (some ⟨s.mb, 0, none⟩)] :: memA s.mb s.mem :: slA p 6 (tput b s.sl 0 (tcaps s b t h)) :: mkA p 7 s.mr :: spA p 8 (tmap b s.mp 2) :: rqA p 9 s.q :: rtA p 10 s.rt :: tmrA p 11 s.tm :: jnlA p 12 s.jn :: fld p 13 [.map (some bn), .map (some be), .map (some br), .map (some bg), .map (some bt), .map (some bs), .map (some bp), .map (some bl), .map (some bk)] :: mapV kZ evA (.map (some bn)) (ptrs s.nt) :: each ntF s.nt :: mapV kZ evA (.map (some be)) (ptrs s.ep) :: each epF s.ep :: mapV kZ evA (.map (some br)) (ins (ptrs s.rp) (b + 6) b144) :: each rpF s.rp :: mapV kZ evA (.map (some bg)) (ptrs s.rg) :: each (rgF s.mb) s.rg :: mapV kZ evT (.map (some bt)) (ins s.th (b + 1) (thOf b)) :: mapV kZ evB (.map (some bs)) (ins s.sp (b + 2) true) :: mapV kZ evZ (.map (some bp)) s.pr :: mapV kZ evL (.map (some bl)) (tbe s b t h) :: mapV kZ evZ (.map (some bk)) s.tk :: fld p 22 [.int .u64 s.now] :: blk b144 243 [.int .i64 0, .int .i64 0, .bool false] :: blk b8 213 [.int .i64 (b + 1), .int .i64 (b + 2), .int .i64 (b + 3), .int .i64 2, .int .i64 b, .int .i64 0, .int .i64 0, .int .i64 7] :: m)) (G := (fun _ : Nat => [(0, .pointer (some ⟨p, 0, none⟩)), (1, .int .i64 t), (2, .int .i64 h), (6, .int .i64 b), (7, .pointer (some ⟨b7, 0, none⟩)), (8, .pointer (some ⟨b8, 0, none⟩))])) b144 SU KE
  refine x_mapEntry (ek := kZ) (ev := evT) (a := b + 1) rfl rfl rfl ky3 Tryz.underlying148 zv213 PC fun u145 s145 => ?_
  refine ip 22 rfl rfl rfl rfl (p_extract rfl rfl) <| I_ready (rs := [11, 23]) SI (by kernel_rfl) (by simp) ?_
  refine (I_cons rfl ?_ (I_cons rfl ?_ I_nil))
  refine J_val (v_load rfl ty3 HS (by exact rfl)) rfl rfl rfl ?_
  refine i1 23 rfl <| x_entryStore (ek := kZ) (ev := evT) (a := b + 1) (c := thOf b) rfl rfl rfl PC ?_
  refine i1 24 rfl <| x_mapEntry (ek := kZ) (ev := evB) (a := b + 2) rfl rfl rfl ky3 Tryz.underlying149 zv4 PC fun u147 s147 => ?_
  refine ip 25 rfl rfl rfl rfl (p_extract rfl rfl) <| i1 26 rfl <| x_entryStore (ek := kZ) (ev := evB) (a := b + 2) (c := true) rfl rfl rfl PC ?_
  refine i1 27 rfl <| x_mapEntry (ek := kZ) (ev := evA) (a := b + 6) rfl rfl rfl ky3 Tryz.underlying146 zv241 PC fun u149 s149 => ?_
  refine ip 28 rfl rfl rfl rfl (p_extract rfl rfl) <| i1 29 rfl <| x_entryStore (ek := kZ) (ev := evA) (a := b + 6) (c := b144) rfl rfl rfl PC ?_
  refine i0 <| Q_then ?_
  exact J_at (α := Nat) (L := (fun b144 : Nat => fld p 0 [.int .i64 s.ct, .int .i64 s.cu, .int .i64 s.cs, .int .i64 s.cc, .bool s.sh, .pointer (some ⟨s.mb, 0, none⟩)] :: memA s.mb s.mem :: slA p 6 (tput b s.sl 0 (tcaps s b t h)) :: mkA p 7 s.mr :: spA p 8 (tmap b s.mp 2) :: rqA p 9 s.q :: rtA p 10 s.rt :: tmrA p 11 s.tm :: jnlA p 12 s.jn :: fld p 13 [.map (some bn), .map (some be), .map (some br), .map (some bg), .map (some bt), .map (some bs), .map (some bp), .map (some bl), .map (some bk)] :: mapV kZ evA (.map (some bn)) (ptrs s.nt) :: each ntF s.nt :: mapV kZ evA (.map (some be)) (ptrs s.ep) :: each epF s.ep :: mapV kZ evA (.map (some br)) (ins (ptrs s.rp) (b + 6) b144) :: each rpF s.rp :: mapV kZ evA (.map (some bg)) (ptrs s.rg) :: each (rgF s.mb) s.rg :: mapV kZ evT (.map (some bt)) (ins s.th (b + 1) (thOf b)) :: mapV kZ evB (.map (some bs)) (ins s.sp (b + 2) true) :: mapV kZ evZ (.map (some bp)) s.pr :: mapV kZ evL (.map (some bl)) (tbe s b t h) :: mapV kZ evZ (.map (some bk)) s.tk :: fld p 22 [.int .u64 s.now] :: blk b144 243 [.int .i64 0, .int .i64 0, .bool false] :: blk b8 213 [.int .i64 (b + 1), .int .i64 (b + 2), .int .i64 (b + 3), .int .i64 2, .int .i64 b, .int .i64 0, .int .i64 0, .int .i64 7] :: m)) (G := (fun _ : Nat => [(0, .pointer (some ⟨p, 0, none⟩)), (1, .int .i64 t), (2, .int .i64 h), (6, .int .i64 b), (7, .pointer (some ⟨b7, 0, none⟩)), (8, .pointer (some ⟨b8, 0, none⟩))])) b144 SU KE
  refine x_entryStore (ek := kZ) (ev := evT) (a := b + 1) (c := thOf b) rfl rfl rfl PC ?_
  refine i1 11 rfl <| J_val (v_load rfl ty3 HS (by exact rfl)) rfl rfl rfl ?_
  refine i1 24 rfl <| x_mapEntry (ek := kZ) (ev := evB) (a := b + 2) rfl rfl rfl ky3 Tryz.underlying149 zv4 PC fun u147 s147 => ?_
  refine ip 25 rfl rfl rfl rfl (p_extract rfl rfl) <| i1 26 rfl <| x_entryStore (ek := kZ) (ev := evB) (a := b + 2) (c := true) rfl rfl rfl PC ?_
  refine i1 27 rfl <| x_mapEntry (ek := kZ) (ev := evA) (a := b + 6) rfl rfl rfl ky3 Tryz.underlying146 zv241 PC fun u149 s149 => ?_
  refine ip 28 rfl rfl rfl rfl (p_extract rfl rfl) <| i1 29 rfl <| x_entryStore (ek := kZ) (ev := evA) (a := b + 6) (c := b144) rfl rfl rfl PC ?_
  refine i0 <| Q_then ?_
  exact J_at (α := Nat) (L := (fun b144 : Nat => fld p 0 [.int .i64 s.ct, .int .i64 s.cu, .int .i64 s.cs, .int .i64 s.cc, .bool s.sh, .pointer (some ⟨s.mb, 0, none⟩)] :: memA s.mb s.mem :: slA p 6 (tput b s.sl 0 (tcaps s b t h)) :: mkA p 7 s.mr :: spA p 8 (tmap b s.mp 2) :: rqA p 9 s.q :: rtA p 10 s.rt :: tmrA p 11 s.tm :: jnlA p 12 s.jn :: fld p 13 [.map (some bn), .map (some be), .map (some br), .map (some bg), .map (some bt), .map (some bs), .map (some bp), .map (some bl), .map (some bk)] :: mapV kZ evA (.map (some bn)) (ptrs s.nt) :: each ntF s.nt :: mapV kZ evA (.map (some be)) (ptrs s.ep) :: each epF s.ep :: mapV kZ evA (.map (some br)) (ins (ptrs s.rp) (b + 6) b144) :: each rpF s.rp :: mapV kZ evA (.map (some bg)) (ptrs s.rg) :: each (rgF s.mb) s.rg :: mapV kZ evT (.map (some bt)) (ins s.th (b + 1) (thOf b)) :: mapV kZ evB (.map (some bs)) (ins s.sp (b + 2) true) :: mapV kZ evZ (.map (some bp)) s.pr :: mapV kZ evL (.map (some bl)) (tbe s b t h) :: mapV kZ evZ (.map (some bk)) s.tk :: fld p 22 [.int .u64 s.now] :: blk b144 243 [.int .i64 0, .int .i64 0, .bool false] :: blk b8 213 [.int .i64 (b + 1), .int .i64 (b + 2), .int .i64 (b + 3), .int .i64 2, .int .i64 b, .int .i64 0, .int .i64 0, .int .i64 7] :: m)) (G := (fun _ : Nat => [(0, .pointer (some ⟨p, 0, none⟩)), (1, .int .i64 t), (2, .int .i64 h), (6, .int .i64 b), (7, .pointer (some ⟨b7, 0, none⟩)), (8, .pointer (some ⟨b8, 0, none⟩))])) b144 SU KE
  refine x_mapEntry (ek := kZ) (ev := evT) (a := b + 1) rfl rfl rfl ky3 Tryz.underlying148 zv213 PC fun u145 s145 => ?_
  refine ip 22 rfl rfl rfl rfl (p_extract rfl rfl) <| I_ready (rs := [11, 20, 23]) SI (by kernel_rfl) (by simp) ?_
  refine (I_cons rfl ?_ (I_cons rfl ?_ (I_cons rfl ?_ I_nil)))
  refine J_val (v_load rfl ty3 HS (by exact rfl)) rfl rfl rfl ?_
  refine I_ready (rs := [20, 23]) SI (by kernel_rfl) (by simp) ?_
  refine (I_cons rfl ?_ (I_cons rfl ?_ I_nil))
  refine x_box rfl rfl rfl fun b144 => i1 23 rfl <| x_entryStore (ek := kZ) (ev := evT) (a := b + 1) (c := thOf b) rfl rfl rfl PC ?_
  refine i1 24 rfl <| x_mapEntry (ek := kZ) (ev := evB) (a := b + 2) rfl rfl rfl ky3 Tryz.underlying149 zv4 PC fun u147 s147 => ?_
  refine ip 25 rfl rfl rfl rfl (p_extract rfl rfl) <| i1 26 rfl <| x_entryStore (ek := kZ) (ev := evB) (a := b + 2) (c := true) rfl rfl rfl PC ?_
  refine i1 27 rfl <| x_mapEntry (ek := kZ) (ev := evA) (a := b + 6) rfl rfl rfl ky3 Tryz.underlying146 zv241 PC fun u149 s149 => ?_
  refine ip 28 rfl rfl rfl rfl (p_extract rfl rfl) <| i1 29 rfl <| x_entryStore (ek := kZ) (ev := evA) (a := b + 6) (c := b144) rfl rfl rfl PC ?_
  refine i0 <| Q_then ?_
  exact J_at (α := Nat) (L := (fun b144 : Nat => fld p 0 [.int .i64 s.ct, .int .i64 s.cu, .int .i64 s.cs, .int .i64 s.cc, .bool s.sh, .pointer (some ⟨s.mb, 0, none⟩)] :: memA s.mb s.mem :: slA p 6 (tput b s.sl 0 (tcaps s b t h)) :: mkA p 7 s.mr :: spA p 8 (tmap b s.mp 2) :: rqA p 9 s.q :: rtA p 10 s.rt :: tmrA p 11 s.tm :: jnlA p 12 s.jn :: fld p 13 [.map (some bn), .map (some be), .map (some br), .map (some bg), .map (some bt), .map (some bs), .map (some bp), .map (some bl), .map (some bk)] :: mapV kZ evA (.map (some bn)) (ptrs s.nt) :: each ntF s.nt :: mapV kZ evA (.map (some be)) (ptrs s.ep) :: each epF s.ep :: mapV kZ evA (.map (some br)) (ins (ptrs s.rp) (b + 6) b144) :: each rpF s.rp :: mapV kZ evA (.map (some bg)) (ptrs s.rg) :: each (rgF s.mb) s.rg :: mapV kZ evT (.map (some bt)) (ins s.th (b + 1) (thOf b)) :: mapV kZ evB (.map (some bs)) (ins s.sp (b + 2) true) :: mapV kZ evZ (.map (some bp)) s.pr :: mapV kZ evL (.map (some bl)) (tbe s b t h) :: mapV kZ evZ (.map (some bk)) s.tk :: fld p 22 [.int .u64 s.now] :: blk b144 243 [.int .i64 0, .int .i64 0, .bool false] :: blk b8 213 [.int .i64 (b + 1), .int .i64 (b + 2), .int .i64 (b + 3), .int .i64 2, .int .i64 b, .int .i64 0, .int .i64 0, .int .i64 7] :: m)) (G := (fun _ : Nat => [(0, .pointer (some ⟨p, 0, none⟩)), (1, .int .i64 t), (2, .int .i64 h), (6, .int .i64 b), (7, .pointer (some ⟨b7, 0, none⟩)), (8, .pointer (some ⟨b8, 0, none⟩))])) b144 SU KE
  refine x_entryStore (ek := kZ) (ev := evT) (a := b + 1) (c := thOf b) rfl rfl rfl PC ?_
  refine I_ready (rs := [20, 24]) SI (by kernel_rfl) (by simp) ?_
  refine (I_cons rfl ?_ (I_cons rfl ?_ I_nil))
  refine x_box rfl rfl rfl fun b144 => i1 24 rfl <| x_mapEntry (ek := kZ) (ev := evB) (a := b + 2) rfl rfl rfl ky3 Tryz.underlying149 zv4 PC fun u147 s147 => ?_
  refine ip 25 rfl rfl rfl rfl (p_extract rfl rfl) <| i1 26 rfl <| x_entryStore (ek := kZ) (ev := evB) (a := b + 2) (c := true) rfl rfl rfl PC ?_
  refine i1 27 rfl <| x_mapEntry (ek := kZ) (ev := evA) (a := b + 6) rfl rfl rfl ky3 Tryz.underlying146 zv241 PC fun u149 s149 => ?_
  refine ip 28 rfl rfl rfl rfl (p_extract rfl rfl) <| i1 29 rfl <| x_entryStore (ek := kZ) (ev := evA) (a := b + 6) (c := b144) rfl rfl rfl PC ?_
  refine i0 <| Q_then ?_
  exact J_at (α := Nat) (L := (fun b144 : Nat => fld p 0 [.int .i64 s.ct, .int .i64 s.cu, .int .i64 s.cs, .int .i64 s.cc, .bool s.sh, .pointer (some ⟨s.mb, 0, none⟩)] :: memA s.mb s.mem :: slA p 6 (tput b s.sl 0 (tcaps s b t h)) :: mkA p 7 s.mr :: spA p 8 (tmap b s.mp 2) :: rqA p 9 s.q :: rtA p 10 s.rt :: tmrA p 11 s.tm :: jnlA p 12 s.jn :: fld p 13 [.map (some bn), .map (some be), .map (some br), .map (some bg), .map (some bt), .map (some bs), .map (some bp), .map (some bl), .map (some bk)] :: mapV kZ evA (.map (some bn)) (ptrs s.nt) :: each ntF s.nt :: mapV kZ evA (.map (some be)) (ptrs s.ep) :: each epF s.ep :: mapV kZ evA (.map (some br)) (ins (ptrs s.rp) (b + 6) b144) :: each rpF s.rp :: mapV kZ evA (.map (some bg)) (ptrs s.rg) :: each (rgF s.mb) s.rg :: mapV kZ evT (.map (some bt)) (ins s.th (b + 1) (thOf b)) :: mapV kZ evB (.map (some bs)) (ins s.sp (b + 2) true) :: mapV kZ evZ (.map (some bp)) s.pr :: mapV kZ evL (.map (some bl)) (tbe s b t h) :: mapV kZ evZ (.map (some bk)) s.tk :: fld p 22 [.int .u64 s.now] :: blk b144 243 [.int .i64 0, .int .i64 0, .bool false] :: blk b8 213 [.int .i64 (b + 1), .int .i64 (b + 2), .int .i64 (b + 3), .int .i64 2, .int .i64 b, .int .i64 0, .int .i64 0, .int .i64 7] :: m)) (G := (fun _ : Nat => [(0, .pointer (some ⟨p, 0, none⟩)), (1, .int .i64 t), (2, .int .i64 h), (6, .int .i64 b), (7, .pointer (some ⟨b7, 0, none⟩)), (8, .pointer (some ⟨b8, 0, none⟩))])) b144 SU KE
  refine x_mapEntry (ek := kZ) (ev := evB) (a := b + 2) rfl rfl rfl ky3 Tryz.underlying149 zv4 PC fun u147 s147 => ?_
  refine ip 25 rfl rfl rfl rfl (p_extract rfl rfl) <| I_ready (rs := [20, 26]) SI (by kernel_rfl) (by simp) ?_
  refine (I_cons rfl ?_ (I_cons rfl ?_ I_nil))
  refine x_box rfl rfl rfl fun b144 => i1 26 rfl <| x_entryStore (ek := kZ) (ev := evB) (a := b + 2) (c := true) rfl rfl rfl PC ?_
  refine i1 27 rfl <| x_mapEntry (ek := kZ) (ev := evA) (a := b + 6) rfl rfl rfl ky3 Tryz.underlying146 zv241 PC fun u149 s149 => ?_
  refine ip 28 rfl rfl rfl rfl (p_extract rfl rfl) <| i1 29 rfl <| x_entryStore (ek := kZ) (ev := evA) (a := b + 6) (c := b144) rfl rfl rfl PC ?_
  refine i0 <| Q_then ?_
  exact J_at (α := Nat) (L := (fun b144 : Nat => fld p 0 [.int .i64 s.ct, .int .i64 s.cu, .int .i64 s.cs, .int .i64 s.cc, .bool s.sh, .pointer (some ⟨s.mb, 0, none⟩)] :: memA s.mb s.mem :: slA p 6 (tput b s.sl 0 (tcaps s b t h)) :: mkA p 7 s.mr :: spA p 8 (tmap b s.mp 2) :: rqA p 9 s.q :: rtA p 10 s.rt :: tmrA p 11 s.tm :: jnlA p 12 s.jn :: fld p 13 [.map (some bn), .map (some be), .map (some br), .map (some bg), .map (some bt), .map (some bs), .map (some bp), .map (some bl), .map (some bk)] :: mapV kZ evA (.map (some bn)) (ptrs s.nt) :: each ntF s.nt :: mapV kZ evA (.map (some be)) (ptrs s.ep) :: each epF s.ep :: mapV kZ evA (.map (some br)) (ins (ptrs s.rp) (b + 6) b144) :: each rpF s.rp :: mapV kZ evA (.map (some bg)) (ptrs s.rg) :: each (rgF s.mb) s.rg :: mapV kZ evT (.map (some bt)) (ins s.th (b + 1) (thOf b)) :: mapV kZ evB (.map (some bs)) (ins s.sp (b + 2) true) :: mapV kZ evZ (.map (some bp)) s.pr :: mapV kZ evL (.map (some bl)) (tbe s b t h) :: mapV kZ evZ (.map (some bk)) s.tk :: fld p 22 [.int .u64 s.now] :: blk b144 243 [.int .i64 0, .int .i64 0, .bool false] :: blk b8 213 [.int .i64 (b + 1), .int .i64 (b + 2), .int .i64 (b + 3), .int .i64 2, .int .i64 b, .int .i64 0, .int .i64 0, .int .i64 7] :: m)) (G := (fun _ : Nat => [(0, .pointer (some ⟨p, 0, none⟩)), (1, .int .i64 t), (2, .int .i64 h), (6, .int .i64 b), (7, .pointer (some ⟨b7, 0, none⟩)), (8, .pointer (some ⟨b8, 0, none⟩))])) b144 SU KE
  refine x_entryStore (ek := kZ) (ev := evB) (a := b + 2) (c := true) rfl rfl rfl PC ?_
  refine I_ready (rs := [20, 27]) SI (by kernel_rfl) (by simp) ?_
  refine (I_cons rfl ?_ (I_cons rfl ?_ I_nil))
  refine x_box rfl rfl rfl fun b144 => i1 27 rfl <| x_mapEntry (ek := kZ) (ev := evA) (a := b + 6) rfl rfl rfl ky3 Tryz.underlying146 zv241 PC fun u149 s149 => ?_
  refine ip 28 rfl rfl rfl rfl (p_extract rfl rfl) <| i1 29 rfl <| x_entryStore (ek := kZ) (ev := evA) (a := b + 6) (c := b144) rfl rfl rfl PC ?_
  refine i0 <| Q_then ?_
  exact J_at (α := Nat) (L := (fun b144 : Nat => fld p 0 [.int .i64 s.ct, .int .i64 s.cu, .int .i64 s.cs, .int .i64 s.cc, .bool s.sh, .pointer (some ⟨s.mb, 0, none⟩)] :: memA s.mb s.mem :: slA p 6 (tput b s.sl 0 (tcaps s b t h)) :: mkA p 7 s.mr :: spA p 8 (tmap b s.mp 2) :: rqA p 9 s.q :: rtA p 10 s.rt :: tmrA p 11 s.tm :: jnlA p 12 s.jn :: fld p 13 [.map (some bn), .map (some be), .map (some br), .map (some bg), .map (some bt), .map (some bs), .map (some bp), .map (some bl), .map (some bk)] :: mapV kZ evA (.map (some bn)) (ptrs s.nt) :: each ntF s.nt :: mapV kZ evA (.map (some be)) (ptrs s.ep) :: each epF s.ep :: mapV kZ evA (.map (some br)) (ins (ptrs s.rp) (b + 6) b144) :: each rpF s.rp :: mapV kZ evA (.map (some bg)) (ptrs s.rg) :: each (rgF s.mb) s.rg :: mapV kZ evT (.map (some bt)) (ins s.th (b + 1) (thOf b)) :: mapV kZ evB (.map (some bs)) (ins s.sp (b + 2) true) :: mapV kZ evZ (.map (some bp)) s.pr :: mapV kZ evL (.map (some bl)) (tbe s b t h) :: mapV kZ evZ (.map (some bk)) s.tk :: fld p 22 [.int .u64 s.now] :: blk b144 243 [.int .i64 0, .int .i64 0, .bool false] :: blk b8 213 [.int .i64 (b + 1), .int .i64 (b + 2), .int .i64 (b + 3), .int .i64 2, .int .i64 b, .int .i64 0, .int .i64 0, .int .i64 7] :: m)) (G := (fun _ : Nat => [(0, .pointer (some ⟨p, 0, none⟩)), (1, .int .i64 t), (2, .int .i64 h), (6, .int .i64 b), (7, .pointer (some ⟨b7, 0, none⟩)), (8, .pointer (some ⟨b8, 0, none⟩))])) b144 SU KE
  refine x_mapEntry (ek := kZ) (ev := evA) (a := b + 6) rfl rfl rfl ky3 Tryz.underlying146 zv241 PC fun u149 s149 => ?_
  refine ip 28 rfl rfl rfl rfl (p_extract rfl rfl) <| i1 20 rfl <| x_box rfl rfl rfl fun b144 => i1 29 rfl <| x_entryStore (ek := kZ) (ev := evA) (a := b + 6) (c := b144) rfl rfl rfl PC ?_
  refine i0 <| Q_then ?_
  exact J_at (α := Nat) (L := (fun b144 : Nat => fld p 0 [.int .i64 s.ct, .int .i64 s.cu, .int .i64 s.cs, .int .i64 s.cc, .bool s.sh, .pointer (some ⟨s.mb, 0, none⟩)] :: memA s.mb s.mem :: slA p 6 (tput b s.sl 0 (tcaps s b t h)) :: mkA p 7 s.mr :: spA p 8 (tmap b s.mp 2) :: rqA p 9 s.q :: rtA p 10 s.rt :: tmrA p 11 s.tm :: jnlA p 12 s.jn :: fld p 13 [.map (some bn), .map (some be), .map (some br), .map (some bg), .map (some bt), .map (some bs), .map (some bp), .map (some bl), .map (some bk)] :: mapV kZ evA (.map (some bn)) (ptrs s.nt) :: each ntF s.nt :: mapV kZ evA (.map (some be)) (ptrs s.ep) :: each epF s.ep :: mapV kZ evA (.map (some br)) (ins (ptrs s.rp) (b + 6) b144) :: each rpF s.rp :: mapV kZ evA (.map (some bg)) (ptrs s.rg) :: each (rgF s.mb) s.rg :: mapV kZ evT (.map (some bt)) (ins s.th (b + 1) (thOf b)) :: mapV kZ evB (.map (some bs)) (ins s.sp (b + 2) true) :: mapV kZ evZ (.map (some bp)) s.pr :: mapV kZ evL (.map (some bl)) (tbe s b t h) :: mapV kZ evZ (.map (some bk)) s.tk :: fld p 22 [.int .u64 s.now] :: blk b144 243 [.int .i64 0, .int .i64 0, .bool false] :: blk b8 213 [.int .i64 (b + 1), .int .i64 (b + 2), .int .i64 (b + 3), .int .i64 2, .int .i64 b, .int .i64 0, .int .i64 0, .int .i64 7] :: m)) (G := (fun _ : Nat => [(0, .pointer (some ⟨p, 0, none⟩)), (1, .int .i64 t), (2, .int .i64 h), (6, .int .i64 b), (7, .pointer (some ⟨b7, 0, none⟩)), (8, .pointer (some ⟨b8, 0, none⟩))])) b144 SU KE
  refine x_box rfl rfl rfl fun b144 => I_ready (rs := [11, 23]) SI (by kernel_rfl) (by simp) ?_
  refine (I_cons rfl ?_ (I_cons rfl ?_ I_nil))
  refine J_val (v_load rfl ty3 HS (by exact rfl)) rfl rfl rfl ?_
  refine i1 23 rfl <| x_entryStore (ek := kZ) (ev := evT) (a := b + 1) (c := thOf b) rfl rfl rfl PC ?_
  refine i1 24 rfl <| x_mapEntry (ek := kZ) (ev := evB) (a := b + 2) rfl rfl rfl ky3 Tryz.underlying149 zv4 PC fun u147 s147 => ?_
  refine ip 25 rfl rfl rfl rfl (p_extract rfl rfl) <| i1 26 rfl <| x_entryStore (ek := kZ) (ev := evB) (a := b + 2) (c := true) rfl rfl rfl PC ?_
  refine i1 27 rfl <| x_mapEntry (ek := kZ) (ev := evA) (a := b + 6) rfl rfl rfl ky3 Tryz.underlying146 zv241 PC fun u149 s149 => ?_
  refine ip 28 rfl rfl rfl rfl (p_extract rfl rfl) <| i1 29 rfl <| x_entryStore (ek := kZ) (ev := evA) (a := b + 6) (c := b144) rfl rfl rfl PC ?_
  refine i0 <| Q_then ?_
  exact J_at (α := Nat) (L := (fun b144 : Nat => fld p 0 [.int .i64 s.ct, .int .i64 s.cu, .int .i64 s.cs, .int .i64 s.cc, .bool s.sh, .pointer (some ⟨s.mb, 0, none⟩)] :: memA s.mb s.mem :: slA p 6 (tput b s.sl 0 (tcaps s b t h)) :: mkA p 7 s.mr :: spA p 8 (tmap b s.mp 2) :: rqA p 9 s.q :: rtA p 10 s.rt :: tmrA p 11 s.tm :: jnlA p 12 s.jn :: fld p 13 [.map (some bn), .map (some be), .map (some br), .map (some bg), .map (some bt), .map (some bs), .map (some bp), .map (some bl), .map (some bk)] :: mapV kZ evA (.map (some bn)) (ptrs s.nt) :: each ntF s.nt :: mapV kZ evA (.map (some be)) (ptrs s.ep) :: each epF s.ep :: mapV kZ evA (.map (some br)) (ins (ptrs s.rp) (b + 6) b144) :: each rpF s.rp :: mapV kZ evA (.map (some bg)) (ptrs s.rg) :: each (rgF s.mb) s.rg :: mapV kZ evT (.map (some bt)) (ins s.th (b + 1) (thOf b)) :: mapV kZ evB (.map (some bs)) (ins s.sp (b + 2) true) :: mapV kZ evZ (.map (some bp)) s.pr :: mapV kZ evL (.map (some bl)) (tbe s b t h) :: mapV kZ evZ (.map (some bk)) s.tk :: fld p 22 [.int .u64 s.now] :: blk b144 243 [.int .i64 0, .int .i64 0, .bool false] :: blk b8 213 [.int .i64 (b + 1), .int .i64 (b + 2), .int .i64 (b + 3), .int .i64 2, .int .i64 b, .int .i64 0, .int .i64 0, .int .i64 7] :: m)) (G := (fun _ : Nat => [(0, .pointer (some ⟨p, 0, none⟩)), (1, .int .i64 t), (2, .int .i64 h), (6, .int .i64 b), (7, .pointer (some ⟨b7, 0, none⟩)), (8, .pointer (some ⟨b8, 0, none⟩))])) b144 SU KE
  refine x_entryStore (ek := kZ) (ev := evT) (a := b + 1) (c := thOf b) rfl rfl rfl PC ?_
  refine i1 11 rfl <| J_val (v_load rfl ty3 HS (by exact rfl)) rfl rfl rfl ?_
  refine i1 24 rfl <| x_mapEntry (ek := kZ) (ev := evB) (a := b + 2) rfl rfl rfl ky3 Tryz.underlying149 zv4 PC fun u147 s147 => ?_
  refine ip 25 rfl rfl rfl rfl (p_extract rfl rfl) <| i1 26 rfl <| x_entryStore (ek := kZ) (ev := evB) (a := b + 2) (c := true) rfl rfl rfl PC ?_
  refine i1 27 rfl <| x_mapEntry (ek := kZ) (ev := evA) (a := b + 6) rfl rfl rfl ky3 Tryz.underlying146 zv241 PC fun u149 s149 => ?_
  refine ip 28 rfl rfl rfl rfl (p_extract rfl rfl) <| i1 29 rfl <| x_entryStore (ek := kZ) (ev := evA) (a := b + 6) (c := b144) rfl rfl rfl PC ?_
  refine i0 <| Q_then ?_
  exact J_at (α := Nat) (L := (fun b144 : Nat => fld p 0 [.int .i64 s.ct, .int .i64 s.cu, .int .i64 s.cs, .int .i64 s.cc, .bool s.sh, .pointer (some ⟨s.mb, 0, none⟩)] :: memA s.mb s.mem :: slA p 6 (tput b s.sl 0 (tcaps s b t h)) :: mkA p 7 s.mr :: spA p 8 (tmap b s.mp 2) :: rqA p 9 s.q :: rtA p 10 s.rt :: tmrA p 11 s.tm :: jnlA p 12 s.jn :: fld p 13 [.map (some bn), .map (some be), .map (some br), .map (some bg), .map (some bt), .map (some bs), .map (some bp), .map (some bl), .map (some bk)] :: mapV kZ evA (.map (some bn)) (ptrs s.nt) :: each ntF s.nt :: mapV kZ evA (.map (some be)) (ptrs s.ep) :: each epF s.ep :: mapV kZ evA (.map (some br)) (ins (ptrs s.rp) (b + 6) b144) :: each rpF s.rp :: mapV kZ evA (.map (some bg)) (ptrs s.rg) :: each (rgF s.mb) s.rg :: mapV kZ evT (.map (some bt)) (ins s.th (b + 1) (thOf b)) :: mapV kZ evB (.map (some bs)) (ins s.sp (b + 2) true) :: mapV kZ evZ (.map (some bp)) s.pr :: mapV kZ evL (.map (some bl)) (tbe s b t h) :: mapV kZ evZ (.map (some bk)) s.tk :: fld p 22 [.int .u64 s.now] :: blk b144 243 [.int .i64 0, .int .i64 0, .bool false] :: blk b8 213 [.int .i64 (b + 1), .int .i64 (b + 2), .int .i64 (b + 3), .int .i64 2, .int .i64 b, .int .i64 0, .int .i64 0, .int .i64 7] :: m)) (G := (fun _ : Nat => [(0, .pointer (some ⟨p, 0, none⟩)), (1, .int .i64 t), (2, .int .i64 h), (6, .int .i64 b), (7, .pointer (some ⟨b7, 0, none⟩)), (8, .pointer (some ⟨b8, 0, none⟩))])) b144 SU KE
  refine x_entryStore (ek := kZ) (ev := evT) (a := b + 1) (c := thOf b) rfl rfl rfl PC ?_
  refine I_ready (rs := [11, 20]) SI (by kernel_rfl) (by simp) ?_
  refine (I_cons rfl ?_ (I_cons rfl ?_ I_nil))
  refine J_val (v_load rfl ty3 HS (by exact rfl)) rfl rfl rfl ?_
  refine I_ready (rs := [20, 24]) SI (by kernel_rfl) (by simp) ?_
  refine (I_cons rfl ?_ (I_cons rfl ?_ I_nil))
  refine x_box rfl rfl rfl fun b144 => i1 24 rfl <| x_mapEntry (ek := kZ) (ev := evB) (a := b + 2) rfl rfl rfl ky3 Tryz.underlying149 zv4 PC fun u147 s147 => ?_
  refine ip 25 rfl rfl rfl rfl (p_extract rfl rfl) <| i1 26 rfl <| x_entryStore (ek := kZ) (ev := evB) (a := b + 2) (c := true) rfl rfl rfl PC ?_
  refine i1 27 rfl <| x_mapEntry (ek := kZ) (ev := evA) (a := b + 6) rfl rfl rfl ky3 Tryz.underlying146 zv241 PC fun u149 s149 => ?_
  refine ip 28 rfl rfl rfl rfl (p_extract rfl rfl) <| i1 29 rfl <| x_entryStore (ek := kZ) (ev := evA) (a := b + 6) (c := b144) rfl rfl rfl PC ?_
  refine i0 <| Q_then ?_
  exact J_at (α := Nat) (L := (fun b144 : Nat => fld p 0 [.int .i64 s.ct, .int .i64 s.cu, .int .i64 s.cs, .int .i64 s.cc, .bool s.sh, .pointer (some ⟨s.mb, 0, none⟩)] :: memA s.mb s.mem :: slA p 6 (tput b s.sl 0 (tcaps s b t h)) :: mkA p 7 s.mr :: spA p 8 (tmap b s.mp 2) :: rqA p 9 s.q :: rtA p 10 s.rt :: tmrA p 11 s.tm :: jnlA p 12 s.jn :: fld p 13 [.map (some bn), .map (some be), .map (some br), .map (some bg), .map (some bt), .map (some bs), .map (some bp), .map (some bl), .map (some bk)] :: mapV kZ evA (.map (some bn)) (ptrs s.nt) :: each ntF s.nt :: mapV kZ evA (.map (some be)) (ptrs s.ep) :: each epF s.ep :: mapV kZ evA (.map (some br)) (ins (ptrs s.rp) (b + 6) b144) :: each rpF s.rp :: mapV kZ evA (.map (some bg)) (ptrs s.rg) :: each (rgF s.mb) s.rg :: mapV kZ evT (.map (some bt)) (ins s.th (b + 1) (thOf b)) :: mapV kZ evB (.map (some bs)) (ins s.sp (b + 2) true) :: mapV kZ evZ (.map (some bp)) s.pr :: mapV kZ evL (.map (some bl)) (tbe s b t h) :: mapV kZ evZ (.map (some bk)) s.tk :: fld p 22 [.int .u64 s.now] :: blk b144 243 [.int .i64 0, .int .i64 0, .bool false] :: blk b8 213 [.int .i64 (b + 1), .int .i64 (b + 2), .int .i64 (b + 3), .int .i64 2, .int .i64 b, .int .i64 0, .int .i64 0, .int .i64 7] :: m)) (G := (fun _ : Nat => [(0, .pointer (some ⟨p, 0, none⟩)), (1, .int .i64 t), (2, .int .i64 h), (6, .int .i64 b), (7, .pointer (some ⟨b7, 0, none⟩)), (8, .pointer (some ⟨b8, 0, none⟩))])) b144 SU KE
  refine x_mapEntry (ek := kZ) (ev := evB) (a := b + 2) rfl rfl rfl ky3 Tryz.underlying149 zv4 PC fun u147 s147 => ?_
  refine ip 25 rfl rfl rfl rfl (p_extract rfl rfl) <| I_ready (rs := [20, 26]) SI (by kernel_rfl) (by simp) ?_
  refine (I_cons rfl ?_ (I_cons rfl ?_ I_nil))
  refine x_box rfl rfl rfl fun b144 => i1 26 rfl <| x_entryStore (ek := kZ) (ev := evB) (a := b + 2) (c := true) rfl rfl rfl PC ?_
  refine i1 27 rfl <| x_mapEntry (ek := kZ) (ev := evA) (a := b + 6) rfl rfl rfl ky3 Tryz.underlying146 zv241 PC fun u149 s149 => ?_
  refine ip 28 rfl rfl rfl rfl (p_extract rfl rfl) <| i1 29 rfl <| x_entryStore (ek := kZ) (ev := evA) (a := b + 6) (c := b144) rfl rfl rfl PC ?_
  refine i0 <| Q_then ?_
  exact J_at (α := Nat) (L := (fun b144 : Nat => fld p 0 [.int .i64 s.ct, .int .i64 s.cu, .int .i64 s.cs, .int .i64 s.cc, .bool s.sh, .pointer (some ⟨s.mb, 0, none⟩)] :: memA s.mb s.mem :: slA p 6 (tput b s.sl 0 (tcaps s b t h)) :: mkA p 7 s.mr :: spA p 8 (tmap b s.mp 2) :: rqA p 9 s.q :: rtA p 10 s.rt :: tmrA p 11 s.tm :: jnlA p 12 s.jn :: fld p 13 [.map (some bn), .map (some be), .map (some br), .map (some bg), .map (some bt), .map (some bs), .map (some bp), .map (some bl), .map (some bk)] :: mapV kZ evA (.map (some bn)) (ptrs s.nt) :: each ntF s.nt :: mapV kZ evA (.map (some be)) (ptrs s.ep) :: each epF s.ep :: mapV kZ evA (.map (some br)) (ins (ptrs s.rp) (b + 6) b144) :: each rpF s.rp :: mapV kZ evA (.map (some bg)) (ptrs s.rg) :: each (rgF s.mb) s.rg :: mapV kZ evT (.map (some bt)) (ins s.th (b + 1) (thOf b)) :: mapV kZ evB (.map (some bs)) (ins s.sp (b + 2) true) :: mapV kZ evZ (.map (some bp)) s.pr :: mapV kZ evL (.map (some bl)) (tbe s b t h) :: mapV kZ evZ (.map (some bk)) s.tk :: fld p 22 [.int .u64 s.now] :: blk b144 243 [.int .i64 0, .int .i64 0, .bool false] :: blk b8 213 [.int .i64 (b + 1), .int .i64 (b + 2), .int .i64 (b + 3), .int .i64 2, .int .i64 b, .int .i64 0, .int .i64 0, .int .i64 7] :: m)) (G := (fun _ : Nat => [(0, .pointer (some ⟨p, 0, none⟩)), (1, .int .i64 t), (2, .int .i64 h), (6, .int .i64 b), (7, .pointer (some ⟨b7, 0, none⟩)), (8, .pointer (some ⟨b8, 0, none⟩))])) b144 SU KE
  refine x_entryStore (ek := kZ) (ev := evB) (a := b + 2) (c := true) rfl rfl rfl PC ?_
  refine I_ready (rs := [20, 27]) SI (by kernel_rfl) (by simp) ?_
  refine (I_cons rfl ?_ (I_cons rfl ?_ I_nil))
  refine x_box rfl rfl rfl fun b144 => i1 27 rfl <| x_mapEntry (ek := kZ) (ev := evA) (a := b + 6) rfl rfl rfl ky3 Tryz.underlying146 zv241 PC fun u149 s149 => ?_
  refine ip 28 rfl rfl rfl rfl (p_extract rfl rfl) <| i1 29 rfl <| x_entryStore (ek := kZ) (ev := evA) (a := b + 6) (c := b144) rfl rfl rfl PC ?_
  refine i0 <| Q_then ?_
  exact J_at (α := Nat) (L := (fun b144 : Nat => fld p 0 [.int .i64 s.ct, .int .i64 s.cu, .int .i64 s.cs, .int .i64 s.cc, .bool s.sh, .pointer (some ⟨s.mb, 0, none⟩)] :: memA s.mb s.mem :: slA p 6 (tput b s.sl 0 (tcaps s b t h)) :: mkA p 7 s.mr :: spA p 8 (tmap b s.mp 2) :: rqA p 9 s.q :: rtA p 10 s.rt :: tmrA p 11 s.tm :: jnlA p 12 s.jn :: fld p 13 [.map (some bn), .map (some be), .map (some br), .map (some bg), .map (some bt), .map (some bs), .map (some bp), .map (some bl), .map (some bk)] :: mapV kZ evA (.map (some bn)) (ptrs s.nt) :: each ntF s.nt :: mapV kZ evA (.map (some be)) (ptrs s.ep) :: each epF s.ep :: mapV kZ evA (.map (some br)) (ins (ptrs s.rp) (b + 6) b144) :: each rpF s.rp :: mapV kZ evA (.map (some bg)) (ptrs s.rg) :: each (rgF s.mb) s.rg :: mapV kZ evT (.map (some bt)) (ins s.th (b + 1) (thOf b)) :: mapV kZ evB (.map (some bs)) (ins s.sp (b + 2) true) :: mapV kZ evZ (.map (some bp)) s.pr :: mapV kZ evL (.map (some bl)) (tbe s b t h) :: mapV kZ evZ (.map (some bk)) s.tk :: fld p 22 [.int .u64 s.now] :: blk b144 243 [.int .i64 0, .int .i64 0, .bool false] :: blk b8 213 [.int .i64 (b + 1), .int .i64 (b + 2), .int .i64 (b + 3), .int .i64 2, .int .i64 b, .int .i64 0, .int .i64 0, .int .i64 7] :: m)) (G := (fun _ : Nat => [(0, .pointer (some ⟨p, 0, none⟩)), (1, .int .i64 t), (2, .int .i64 h), (6, .int .i64 b), (7, .pointer (some ⟨b7, 0, none⟩)), (8, .pointer (some ⟨b8, 0, none⟩))])) b144 SU KE
  refine x_mapEntry (ek := kZ) (ev := evA) (a := b + 6) rfl rfl rfl ky3 Tryz.underlying146 zv241 PC fun u149 s149 => ?_
  refine ip 28 rfl rfl rfl rfl (p_extract rfl rfl) <| i1 20 rfl <| x_box rfl rfl rfl fun b144 => i1 29 rfl <| x_entryStore (ek := kZ) (ev := evA) (a := b + 6) (c := b144) rfl rfl rfl PC ?_
  refine i0 <| Q_then ?_
  exact J_at (α := Nat) (L := (fun b144 : Nat => fld p 0 [.int .i64 s.ct, .int .i64 s.cu, .int .i64 s.cs, .int .i64 s.cc, .bool s.sh, .pointer (some ⟨s.mb, 0, none⟩)] :: memA s.mb s.mem :: slA p 6 (tput b s.sl 0 (tcaps s b t h)) :: mkA p 7 s.mr :: spA p 8 (tmap b s.mp 2) :: rqA p 9 s.q :: rtA p 10 s.rt :: tmrA p 11 s.tm :: jnlA p 12 s.jn :: fld p 13 [.map (some bn), .map (some be), .map (some br), .map (some bg), .map (some bt), .map (some bs), .map (some bp), .map (some bl), .map (some bk)] :: mapV kZ evA (.map (some bn)) (ptrs s.nt) :: each ntF s.nt :: mapV kZ evA (.map (some be)) (ptrs s.ep) :: each epF s.ep :: mapV kZ evA (.map (some br)) (ins (ptrs s.rp) (b + 6) b144) :: each rpF s.rp :: mapV kZ evA (.map (some bg)) (ptrs s.rg) :: each (rgF s.mb) s.rg :: mapV kZ evT (.map (some bt)) (ins s.th (b + 1) (thOf b)) :: mapV kZ evB (.map (some bs)) (ins s.sp (b + 2) true) :: mapV kZ evZ (.map (some bp)) s.pr :: mapV kZ evL (.map (some bl)) (tbe s b t h) :: mapV kZ evZ (.map (some bk)) s.tk :: fld p 22 [.int .u64 s.now] :: blk b144 243 [.int .i64 0, .int .i64 0, .bool false] :: blk b8 213 [.int .i64 (b + 1), .int .i64 (b + 2), .int .i64 (b + 3), .int .i64 2, .int .i64 b, .int .i64 0, .int .i64 0, .int .i64 7] :: m)) (G := (fun _ : Nat => [(0, .pointer (some ⟨p, 0, none⟩)), (1, .int .i64 t), (2, .int .i64 h), (6, .int .i64 b), (7, .pointer (some ⟨b7, 0, none⟩)), (8, .pointer (some ⟨b8, 0, none⟩))])) b144 SU KE
  refine x_box rfl rfl rfl fun b144 => i1 11 rfl <| J_val (v_load rfl ty3 HS (by exact rfl)) rfl rfl rfl ?_
  refine i1 24 rfl <| x_mapEntry (ek := kZ) (ev := evB) (a := b + 2) rfl rfl rfl ky3 Tryz.underlying149 zv4 PC fun u147 s147 => ?_
  refine ip 25 rfl rfl rfl rfl (p_extract rfl rfl) <| i1 26 rfl <| x_entryStore (ek := kZ) (ev := evB) (a := b + 2) (c := true) rfl rfl rfl PC ?_
  refine i1 27 rfl <| x_mapEntry (ek := kZ) (ev := evA) (a := b + 6) rfl rfl rfl ky3 Tryz.underlying146 zv241 PC fun u149 s149 => ?_
  refine ip 28 rfl rfl rfl rfl (p_extract rfl rfl) <| i1 29 rfl <| x_entryStore (ek := kZ) (ev := evA) (a := b + 6) (c := b144) rfl rfl rfl PC ?_
  refine i0 <| Q_then ?_
  exact J_at (α := Nat) (L := (fun b144 : Nat => fld p 0 [.int .i64 s.ct, .int .i64 s.cu, .int .i64 s.cs, .int .i64 s.cc, .bool s.sh, .pointer (some ⟨s.mb, 0, none⟩)] :: memA s.mb s.mem :: slA p 6 (tput b s.sl 0 (tcaps s b t h)) :: mkA p 7 s.mr :: spA p 8 (tmap b s.mp 2) :: rqA p 9 s.q :: rtA p 10 s.rt :: tmrA p 11 s.tm :: jnlA p 12 s.jn :: fld p 13 [.map (some bn), .map (some be), .map (some br), .map (some bg), .map (some bt), .map (some bs), .map (some bp), .map (some bl), .map (some bk)] :: mapV kZ evA (.map (some bn)) (ptrs s.nt) :: each ntF s.nt :: mapV kZ evA (.map (some be)) (ptrs s.ep) :: each epF s.ep :: mapV kZ evA (.map (some br)) (ins (ptrs s.rp) (b + 6) b144) :: each rpF s.rp :: mapV kZ evA (.map (some bg)) (ptrs s.rg) :: each (rgF s.mb) s.rg :: mapV kZ evT (.map (some bt)) (ins s.th (b + 1) (thOf b)) :: mapV kZ evB (.map (some bs)) (ins s.sp (b + 2) true) :: mapV kZ evZ (.map (some bp)) s.pr :: mapV kZ evL (.map (some bl)) (tbe s b t h) :: mapV kZ evZ (.map (some bk)) s.tk :: fld p 22 [.int .u64 s.now] :: blk b144 243 [.int .i64 0, .int .i64 0, .bool false] :: blk b8 213 [.int .i64 (b + 1), .int .i64 (b + 2), .int .i64 (b + 3), .int .i64 2, .int .i64 b, .int .i64 0, .int .i64 0, .int .i64 7] :: m)) (G := (fun _ : Nat => [(0, .pointer (some ⟨p, 0, none⟩)), (1, .int .i64 t), (2, .int .i64 h), (6, .int .i64 b), (7, .pointer (some ⟨b7, 0, none⟩)), (8, .pointer (some ⟨b8, 0, none⟩))])) b144 SU KE
  intro b144
  refine J_seq <| J_drawL (some 25) mixed <| ip 0 rfl rfl rfl rfl (p_move rfl) <| ip 1 rfl rfl rfl rfl (p_nilCheck rfl) <| ip 2 rfl rfl rfl rfl (p_fieldAddr rfl fa153_12) <| iv 3 rfl rfl rfl rfl (fun _ => v_loadL (o := 13) (i := 3) rfl ty147 HS rfl (by exact rfl)) ?_
  refine ip 4 rfl rfl rfl rfl (p_fieldAddr rfl fa213_2) <| iv 5 rfl rfl rfl rfl (fun _ => v_load rfl ty3 HS (by exact rfl)) ?_
  refine ip 6 rfl rfl rfl rfl (p_move rfl) <| ip 7 rfl rfl rfl rfl (p_nilCheck rfl) <| ip 8 rfl rfl rfl rfl (p_fieldAddr rfl fa153_1) <| iv 9 rfl rfl rfl rfl (fun _ => v_loadL (o := 0) (i := 5) rfl ty75 HS rfl (by exact rfl)) ?_
  refine ip 10 rfl rfl rfl rfl (p_move rfl) <| ip 11 rfl rfl rfl rfl (p_add64 rfl rfl (by omega)) <| ip 12 rfl rfl rfl rfl (p_move rfl) <| ip 13 rfl rfl rfl rfl (p_add64 rfl rfl (by omega)) <| ip 14 rfl rfl rfl rfl (p_move rfl) <| ip 15 rfl rfl rfl rfl (p_nilCheck rfl) <| ip 16 rfl rfl rfl rfl (p_fieldAddr rfl fa153_0) <| ip 17 rfl rfl rfl rfl (p_fieldAddr rfl fa86_2) ?_
  refine iv 18 rfl rfl rfl rfl (fun _ => v_loadL (o := 0) (i := 2) rfl ty3 HS rfl (by exact rfl)) ?_
  refine ip 19 rfl rfl rfl rfl (p_move rfl) <| ip 20 rfl rfl rfl rfl (p_nilCheck rfl) <| ip 21 rfl rfl rfl rfl (p_fieldAddr rfl fa153_0) <| ip 22 rfl rfl rfl rfl (p_fieldAddr rfl fa86_3) <| iv 23 rfl rfl rfl rfl (fun _ => v_loadL (o := 0) (i := 3) rfl ty3 HS rfl (by exact rfl)) ?_
  refine i1 24 rfl <| xc fc143 (.cons rfl (.cons rfl (.cons rfl (.cons rfl (.cons rfl .nil))))) rfl (ringNew) fun b175 => i1 25 rfl <| x_mapUpdate (ek := kZ) (ev := evA) (a := b + 3) (c := b175) rfl rfl rfl ky3 Tryz.underlying147 PC ?_
  refine i0 <| Q_then <| J_seq <| J_drawT 6 mixed (by kernel_rfl) <| sm rfl rfl <| sp rfl (p_nilCheck rfl) <| sp rfl (p_fieldAddr rfl fa153_17) <| S_val rfl (v_loadL (o := 13) (i := 8) rfl ty150 HS rfl (by exact rfl)) ?_
  refine sp rfl (p_fieldAddr rfl fa213_2) <| S_val rfl (v_load rfl ty3 HS (by exact rfl)) ?_
  refine S_nil <| L_op <| x_mapUpdate (ek := kZ) (ev := evZ) (a := b + 3) (c := 0) rfl rfl rfl ky3 Tryz.underlying150 PC ?_
  refine nq <| J_drawT 5 mixed (by kernel_rfl) <| sm rfl rfl <| sp rfl (p_nilCheck rfl) <| sp rfl (p_fieldAddr rfl fa153_5) <| sp rfl (p_fieldAddr rfl fa213_0) <| S_val rfl (v_load rfl ty3 HS (by exact rfl)) ?_
  refine S_nil <| L_op <| xc fc144 (.cons rfl (.cons rfl (.cons rfl .nil))) rfl (qAddC (q := s.q) (i := b + 1) (p := 4) PC (by omega)) fun _ => ?_
  refine L_nil <| J_endnormal <| J_pick (A := each rpF s.rp) PC ?_
  refine J_pick (A := blk b144 _ _) PC ?_
  refine J_asTo (B := rpF (b + 6, b144, (0, 0), false)) (by rfl) <| J_eachPush <| J_pick (A := each (rgF s.mb) s.rg) PC ?_
  refine J_pick (A := rgA b175 _ _) PC ?_
  refine J_asTo (B := rgF s.mb (b + 3, b175, rgNew (b + 4) (b + 5) s.cs s.cc)) (by rfl) <| J_eachPush <| J_pick (A := mapV kZ evA (.map (some br)) _) PC ?_
  refine J_mapEq (qs := ptrs (s.rp ++ [(b + 6, b144, (0, 0), false)])) (ptrs_push hr) <| J_pick (A := mapV kZ evA (.map (some bg)) _) PC ?_
  refine J_mapEq (qs := ptrs (s.rg ++ [(b + 3, b175, rgNew (b + 4) (b + 5) s.cs s.cc)])) (ptrs_push hg) <| J_coS (p := p) (s := kThread s b t h b175 b144) bn be br bg bt bs bp bl bk PX trivial ?_
  refine J_return ((b175, b144)) Tryz.results93 .nil ?_ ?_
  · rfl
  · exact SU
end Go.Pse
namespace Go.Pse
open Go.RowKit Go.Proofs
theorem J_cutAt {E : World} {l : List As} {n : Nat} {F : Env} {K : Act → World → Prop} {b o : Nat} (xs ys : List Value) (o' : Nat) {zs : List Value} (hz : zs = xs ++ ys) (ho : o + xs.length = o') (k : Jk E (fld b o' ys :: fld b o xs :: l) n F K) : Jk E (fld b o zs :: l) n F K :=
  J_split xs ys hz (by rw [ho]; exact J_pick (.there .here) k)
def encG (ct cu cs cc : Int) (sh : Bool) : List Value := [.int .i64 ct, .int .i64 cu, .int .i64 cs, .int .i64 cc, .bool sh]
abbrev kZero (ct cu cs cc : Int) (sh : Bool) (mb : Nat) : KS := { ct := ct, cu := cu, cs := cs, cc := cc, sh := sh, mb := mb, mem := List.replicate 64 zrow, sl := [], mr := [], mp := [], q := [], rt := [], tm := [], jn := [], nt := [], ep := [], rp := [], rg := [], th := [], sp := [], pr := [], be := [], tk := [], now := 0 }
theorem J_coNew {E : World} {l : List As} {n : Nat} {F : Env} {K : Act → World → Prop} {p mb bn be br bg bt bs bp bl bk : Nat} {ct cu cs cc : Int} {sh : Bool} (k : Jk E (coA p (kZero ct cu cs cc sh mb) :: l) n F K) :
  Jk E (blk p 153 [.int .i64 ct, .int .i64 cu, .int .i64 cs, .int .i64 cc, .bool sh, .pointer (some ⟨mb, 0, none⟩), .map none, .map none, .map none, .slice none 0 0, .map none, .slice none 0 0, .slice none 0 0, .map (some bn), .map (some be), .map (some br), .map (some bg), .map (some bt), .map (some bs), .map (some bp), .map (some bl), .map (some bk), .int .u64 0] :: memA mb (List.replicate 64 zrow) :: mapV kZ evA (.map (some bn)) [] :: mapV kZ evA (.map (some be)) [] :: mapV kZ evA (.map (some br)) [] :: mapV kZ evA (.map (some bg)) [] :: mapV kZ evT (.map (some bt)) [] :: mapV kZ evB (.map (some bs)) [] :: mapV kZ evZ (.map (some bp)) [] :: mapV kZ evL (.map (some bl)) [] :: mapV kZ evZ (.map (some bk)) [] :: l) n F K := by
 refine J_fld <| J_cutAt [.int .i64 ct, .int .i64 cu, .int .i64 cs, .int .i64 cc, .bool sh, .pointer (some ⟨mb, 0, none⟩)] [.map none, .map none, .map none, .slice none 0 0, .map none, .slice none 0 0, .slice none 0 0, .map (some bn), .map (some be), .map (some br), .map (some bg), .map (some bt), .map (some bs), .map (some bp), .map (some bl), .map (some bk), .int .u64 0] 6 rfl rfl <| J_cutAt [.map none] [.map none, .map none, .slice none 0 0, .map none, .slice none 0 0, .slice none 0 0, .map (some bn), .map (some be), .map (some br), .map (some bg), .map (some bt), .map (some bs), .map (some bp), .map (some bl), .map (some bk), .int .u64 0] 7 rfl rfl <| J_cutAt [.map none] [.map none, .slice none 0 0, .map none, .slice none 0 0, .slice none 0 0, .map (some bn), .map (some be), .map (some br), .map (some bg), .map (some bt), .map (some bs), .map (some bp), .map (some bl), .map (some bk), .int .u64 0] 8 rfl rfl <| J_cutAt [.map none] [.slice none 0 0, .map none, .slice none 0 0, .slice none 0 0, .map (some bn), .map (some be), .map (some br), .map (some bg), .map (some bt), .map (some bs), .map (some bp), .map (some bl), .map (some bk), .int .u64 0] 9 rfl rfl <| J_cutAt [.slice none 0 0] [.map none, .slice none 0 0, .slice none 0 0, .map (some bn), .map (some be), .map (some br), .map (some bg), .map (some bt), .map (some bs), .map (some bp), .map (some bl), .map (some bk), .int .u64 0] 10 rfl rfl <| J_cutAt [.map none] [.slice none 0 0, .slice none 0 0, .map (some bn), .map (some be), .map (some br), .map (some bg), .map (some bt), .map (some bs), .map (some bp), .map (some bl), .map (some bk), .int .u64 0] 11 rfl rfl <| J_cutAt [.slice none 0 0] [.slice none 0 0, .map (some bn), .map (some be), .map (some br), .map (some bg), .map (some bt), .map (some bs), .map (some bp), .map (some bl), .map (some bk), .int .u64 0] 12 rfl rfl ?_
 refine J_cutAt [.slice none 0 0] [.map (some bn), .map (some be), .map (some br), .map (some bg), .map (some bt), .map (some bs), .map (some bp), .map (some bl), .map (some bk), .int .u64 0] 13 rfl rfl <| J_cutAt [.map (some bn), .map (some be), .map (some br), .map (some bg), .map (some bt), .map (some bs), .map (some bp), .map (some bl), .map (some bk)] [.int .u64 0] 22 rfl rfl <| J_mapNil (ek := kI) (ev := evS) <| J_slS (b := p) (o := 6) (ps := []) none PX trivial ?_
 refine J_mapNil (ek := kI) (ev := evZ) <| J_mkS (b := p) (o := 7) (ps := []) none PX trivial ?_
 refine J_mapNil (ek := kI) (ev := kI) <| J_spS (b := p) (o := 8) (ps := []) none PX trivial ?_
 refine J_mapNil (ek := kI) (ev := evQ) <| J_rtS (b := p) (o := 10) (ps := []) none PX trivial ?_
 refine J_nil (el := 208) (sz := 2) <| J_rowEq (ys := ([] : List _).map encI) rfl <| J_rqS (b := p) (o := 9) (xs := []) (.slice none 0 0) PX trivial ?_
 refine J_nil (el := 308) (sz := 3) <| J_rowEq (ys := ([] : List _).map encT) rfl <| J_tmrS (b := p) (o := 11) (xs := []) (.slice none 0 0) PX trivial ?_
 refine J_nil (el := 45) (sz := 7) <| J_rowEq (ys := ([] : List _).map encD) rfl <| J_jnlS (b := p) (o := 12) (xs := []) (.slice none 0 0) PX trivial ?_
 refine J_pick (A := mapV kZ evA (.map (some bn)) []) PC ?_
 refine J_mapEq (qs := ptrs ([] : List (Int × Nat × Int × List ID))) rfl <| J_pick (A := mapV kZ evA (.map (some be)) []) PC ?_
 refine J_mapEq (qs := ptrs ([] : List (Int × Nat × List Msg × List Rcv))) rfl <| J_pick (A := mapV kZ evA (.map (some br)) []) PC ?_
 refine J_mapEq (qs := ptrs ([] : List (Int × Nat × ID × Bool))) rfl <| J_pick (A := mapV kZ evA (.map (some bg)) []) PC ?_
 refine J_mapEq (qs := ptrs ([] : List (Int × Nat × Rg))) rfl <| J_eachNil ntF <| J_eachNil epF <| J_eachNil rpF <| J_eachNil (rgF mb) <| J_coS (p := p) (s := kZero ct cu cs cc sh mb) bn be br bg bt bs bp bl bk PX trivial ?_
 exact k
def bOf (u : Int) (j : Nat) : Int := 1 + (j : Int) * (7 + u)
def hOf (ct cu : Int) : Int := 1 + ct * (7 + cu)
def kBase (ct cu cs cc : Int) (sh : Bool) (mb be bn : Nat) : KS := if sh then { kZero ct cu cs cc true mb with ep := [(hOf ct cu, be, [], [])], nt := [(hOf ct cu + 1, bn, 0, [])] } else kZero ct cu cs cc false mb
def kTh (s : KS) (h : Int) (bs : Nat → Nat × Nat) : Nat → KS
  | 0 => s
  | i + 1 => kThread (kTh s h bs i) (bOf s.cu i) (i : Int) h (bs i).1 (bs i).2
section
variable {s : KS} {h : Int} {bs : Nat → Nat × Nat}
theorem kTh_keep : ∀ i, (kTh s h bs i).ct = s.ct ∧ (kTh s h bs i).cu = s.cu ∧ (kTh s h bs i).cs = s.cs ∧ (kTh s h bs i).cc = s.cc ∧ (kTh s h bs i).sh = s.sh ∧ (kTh s h bs i).mb = s.mb ∧ (kTh s h bs i).mem = s.mem ∧ (kTh s h bs i).nt = s.nt ∧ (kTh s h bs i).ep = s.ep ∧ (kTh s h bs i).pr = s.pr ∧ (kTh s h bs i).now = s.now ∧ (kTh s h bs i).mr = s.mr ∧ (kTh s h bs i).rt = s.rt ∧ (kTh s h bs i).tm = s.tm ∧ (kTh s h bs i).jn = s.jn
  | 0 => ⟨rfl, rfl, rfl, rfl, rfl, rfl, rfl, rfl, rfl, rfl, rfl, rfl, rfl, rfl, rfl⟩
  | i + 1 => kTh_keep i
theorem kTh_cu (i : Nat) : (kTh s h bs i).cu = s.cu := (kTh_keep i).2.1
theorem kTh_rp : ∀ i, (kTh s h bs i).rp = s.rp ++ (List.range i).map fun j => (bOf s.cu j + 6, (bs j).2, (0, 0), false)
  | 0 => by simp [kTh]
  | i + 1 => by
    show (kTh s h bs i).rp ++ _ = _
    rw [kTh_rp i, List.range_succ, List.map_append, List.append_assoc]; rfl
theorem kTh_rg : ∀ i, (kTh s h bs i).rg = s.rg ++ (List.range i).map fun j => (bOf s.cu j + 3, (bs j).1, rgNew (bOf s.cu j + 4) (bOf s.cu j + 5) s.cs s.cc)
  | 0 => by simp [kTh]
  | i + 1 => by
    show (kTh s h bs i).rg ++ [(bOf s.cu i + 3, (bs i).1, rgNew (bOf s.cu i + 4) (bOf s.cu i + 5) (kTh s h bs i).cs (kTh s h bs i).cc)] = _
    rw [kTh_rg i, List.range_succ, List.map_append, List.append_assoc, (kTh_keep i).2.2.1, (kTh_keep i).2.2.2.1]; rfl
theorem kTh_qlen : ∀ i, (kTh s h bs i).q.length ≤ s.q.length + i
  | 0 => Nat.le_refl _
  | i + 1 => by
    have := kTh_qlen i
    have h2 := qAdd_len (kTh s h bs i).q (bOf s.cu i + 1) 4
    show (qAdd (kTh s h bs i).q (bOf s.cu i + 1) 4).length ≤ _
    omega
theorem kTh_congr {bs' : Nat → Nat × Nat} : ∀ {i : Nat}, (∀ j, j < i → bs j = bs' j) → kTh s h bs i = kTh s h bs' i
  | 0, _ => rfl
  | i + 1, hh => by rw [kTh, kTh, kTh_congr fun j hj => hh j (by omega), hh i (by omega)]
theorem bOf_ne {u : Int} {i j : Nat} (hu : 1 ≤ u ∧ u ≤ 12) (hi : i ≤ 2) (hj : j < i) : bOf u j ≠ bOf u i := by
  unfold bOf
  have : (i = 1 ∧ j = 0) ∨ (i = 2 ∧ j = 0) ∨ (i = 2 ∧ j = 1) := by omega
  rcases this with ⟨rfl, rfl⟩ | ⟨rfl, rfl⟩ | ⟨rfl, rfl⟩ <;> simp <;> omega
theorem kTh_fresh {i : Nat} (hr : s.rp = []) (hg : s.rg = []) (hu : 1 ≤ s.cu ∧ s.cu ≤ 12) (hi : i ≤ 2) : look (ptrs (kTh s h bs i).rp) (bOf s.cu i + 6) = none ∧ look (ptrs (kTh s h bs i).rg) (bOf s.cu i + 3) = none := by
  rw [kTh_rp, kTh_rg, hr, hg]
  constructor <;> (
    rw [look_none_iff]
    intro hm
    simp only [ptrs, List.nil_append, List.map_map, List.mem_map, List.mem_range, Function.comp] at hm
    obtain ⟨j, hj, he⟩ := hm
    exact bOf_ne hu hi hj (by omega))
end
theorem cut_in {n lo hi : Int} (h : lo ≤ hi) : lo ≤ cutI n lo hi ∧ cutI n lo hi ≤ hi := by unfold cutI; split <;> split <;> omega
structure NewG where
  p : Nat
  mb : Nat
  be : Nat
  bn : Nat
  bs : Nat → Nat × Nat
def kNew (ct cu cs cc : Int) (sh : Bool) (g : NewG) : KS := kTh (kBase (cutI ct 1 3) (cutI cu 1 12) (cutI cs 0 3) (cutI cc 0 4) sh g.mb g.be g.bn) (hOf (cutI ct 1 3) (cutI cu 1 12)) g.bs (cutI ct 1 3).toNat
theorem coNew {E : World} {l : List As} {ct cu cs cc : Int} {sh : Bool} :
    Con Tryz.prog 45 #[.agg (encG ct cu cs cc sh).toArray] E l (fun g : NewG => .pointer (some ⟨g.p, 0, none⟩)) (fun g => coA g.p (kNew ct cu cs cc sh g) :: l) := by
  refine Con.body (vs := [.agg (encG ct cu cs cc sh).toArray]) (n := 69) Tryz.func45 rfl rfl [(0, .agg (encG ct cu cs cc sh).toArray)] (env_ok 1 rfl) <| sr <| L_op <| x_box rfl rfl rfl fun b1 => ag rfl rfl <| nq <| J_seq <| J_drawL (some 15) mixed ?_
  refine ip 0 rfl rfl rfl rfl (p_fieldAddr rfl fa86_0) <| iv 1 rfl rfl rfl rfl (fun _ => v_load rfl ty3 HS (by exact rfl)) ?_
  refine ip 3 rfl rfl rfl rfl (p_fieldAddr rfl fa86_1) <| iv 4 rfl rfl rfl rfl (fun _ => v_load rfl ty3 HS (by exact rfl)) ?_
  refine ip 6 rfl rfl rfl rfl (p_fieldAddr rfl fa86_2) <| iv 7 rfl rfl rfl rfl (fun _ => v_load rfl ty3 HS (by exact rfl)) ?_
  refine ip 9 rfl rfl rfl rfl (p_fieldAddr rfl fa86_3) <| iv 10 rfl rfl rfl rfl (fun _ => v_load rfl ty3 HS (by exact rfl)) ?_
  refine ip 12 rfl rfl rfl rfl (p_fieldAddr rfl fa86_4) <| iv 13 rfl rfl rfl rfl (fun _ => v_load rfl ty4 HS (by exact rfl)) ?_
  refine i1 2 rfl <| xc fc91 (.cons rfl (.cons rfl (.cons rfl .nil))) rfl (cCut) fun _ => i1 5 rfl <| xc fc91 (.cons rfl (.cons rfl (.cons rfl .nil))) rfl (cCut) fun _ => i1 8 rfl <| xc fc91 (.cons rfl (.cons rfl (.cons rfl .nil))) rfl (cCut) fun _ => i1 11 rfl <| xc fc91 (.cons rfl (.cons rfl (.cons rfl .nil))) rfl (cCut) fun _ => ?_
  obtain ⟨X, hX⟩ : ∃ X, X = cutI ct 1 3 := ⟨_, rfl⟩
  obtain ⟨U, hU⟩ : ∃ U, U = cutI cu 1 12 := ⟨_, rfl⟩
  have hX2 := cut_in (n := ct) (lo := 1) (hi := 3) (by omega)
  have hU2 := cut_in (n := cu) (lo := 1) (hi := 12) (by omega)
  rw [← hX] at hX2
  rw [← hU] at hU2
  refine J_slot (t := 8) (v := .int .i64 X) rfl (by rw [hX]) <| J_slot (t := 11) (v := .int .i64 U) rfl (by rw [hU]) ?_
  obtain ⟨H, hH⟩ : ∃ H, H = hOf X U := ⟨_, rfl⟩
  have hH2 : 1 ≤ H ∧ H ≤ 60 ∧ X * (7 + U) = H - 1 := by
    rw [hH]; unfold hOf
    have : X = 1 ∨ X = 2 ∨ X = 3 := by omega
    rcases this with rfl | rfl | rfl <;> omega
  refine ip 14 rfl rfl rfl rfl (bld86 (.cons rfl (.cons rfl (.cons rfl (.cons rfl (.cons rfl .nil))))) (by repeat constructor)) <| i1 15 rfl <| x_store rfl rfl ty86 rfl SM SM RO PT ?_
  refine J_pick (A := blk b1 _ _) PC ?_
  refine J_asTo (B := blk b1 86 (encG X U (cutI cs 0 3) (cutI cc 0 4) sh)) (by rfl) <| i0 <| Q_then <| J_seq <| J_drawP .nil ?_
  refine' Pa.det [] rfl rfl rfl rfl (by kernel_rfl) (by decide) ?_ ?_ ?_
  rotate_left
  intro γ Rr X K k
  refine J_val (v_loadA rfl ty86 HS CT) rfl rfl rfl ?_
  exact k
  · exact fun _ _ _ => rfl
  refine' Pa.nat [] rfl rfl rfl rfl (by kernel_rfl) (by decide) ?_ ?_ ?_
  rotate_left 2
  intro γ Rr X K k
  refine xc fc92 (.cons rfl .nil) rfl (memNew) fun b22 => ?_
  exact k b22
  · exact fun _ _ _ => ⟨rfl, rfl⟩
  refine' Pa.nat [] rfl rfl rfl rfl (by kernel_rfl) (by decide) ?_ ?_ ?_
  rotate_left 2
  intro γ Rr X K k
  refine x_makeMap (ek := kZ) (ev := evA) rfl fun b23 => ?_
  exact k b23
  · exact fun _ _ _ => ⟨rfl, rfl⟩
  refine' Pa.nat [] rfl rfl rfl rfl (by kernel_rfl) (by decide) ?_ ?_ ?_
  rotate_left 2
  intro γ Rr X K k
  refine x_makeMap (ek := kZ) (ev := evA) rfl fun b24 => ?_
  exact k b24
  · exact fun _ _ _ => ⟨rfl, rfl⟩
  refine' Pa.nat [] rfl rfl rfl rfl (by kernel_rfl) (by decide) ?_ ?_ ?_
  rotate_left 2
  intro γ Rr X K k
  refine x_makeMap (ek := kZ) (ev := evA) rfl fun b25 => ?_
  exact k b25
  · exact fun _ _ _ => ⟨rfl, rfl⟩
  refine' Pa.nat [] rfl rfl rfl rfl (by kernel_rfl) (by decide) ?_ ?_ ?_
  rotate_left 2
  intro γ Rr X K k
  refine x_makeMap (ek := kZ) (ev := evA) rfl fun b26 => ?_
  exact k b26
  · exact fun _ _ _ => ⟨rfl, rfl⟩
  refine' Pa.nat [] rfl rfl rfl rfl (by kernel_rfl) (by decide) ?_ ?_ ?_
  rotate_left 2
  intro γ Rr X K k
  refine x_makeMap (ek := kZ) (ev := evT) rfl fun b27 => ?_
  exact k b27
  · exact fun _ _ _ => ⟨rfl, rfl⟩
  refine' Pa.nat [] rfl rfl rfl rfl (by kernel_rfl) (by decide) ?_ ?_ ?_
  rotate_left 2
  intro γ Rr X K k
  refine x_makeMap (ek := kZ) (ev := evB) rfl fun b28 => ?_
  exact k b28
  · exact fun _ _ _ => ⟨rfl, rfl⟩
  refine' Pa.nat [] rfl rfl rfl rfl (by kernel_rfl) (by decide) ?_ ?_ ?_
  rotate_left 2
  intro γ Rr X K k
  refine x_makeMap (ek := kZ) (ev := evZ) rfl fun b29 => ?_
  exact k b29
  · exact fun _ _ _ => ⟨rfl, rfl⟩
  refine' Pa.nat [] rfl rfl rfl rfl (by kernel_rfl) (by decide) ?_ ?_ ?_
  rotate_left 2
  intro γ Rr X K k
  refine x_makeMap (ek := kZ) (ev := evL) rfl fun b30 => ?_
  exact k b30
  · exact fun _ _ _ => ⟨rfl, rfl⟩
  refine' Pa.nat [] rfl rfl rfl rfl (by kernel_rfl) (by decide) ?_ ?_ ?_
  rotate_left 2
  intro γ Rr X K k
  refine x_makeMap (ek := kZ) (ev := evZ) rfl fun b31 => ?_
  exact k b31
  · exact fun _ _ _ => ⟨rfl, rfl⟩
  refine Pa.fin 14 3 rfl rfl mixed rfl (by kernel_rfl) SU (fun _ _ _ _ _ h => h) fun γ => ?_
  generalize (γ 22).1 = b22
  generalize (γ 23).1 = b23
  generalize (γ 24).1 = b24
  generalize (γ 25).1 = b25
  generalize (γ 26).1 = b26
  generalize (γ 27).1 = b27
  generalize (γ 28).1 = b28
  generalize (γ 29).1 = b29
  generalize (γ 30).1 = b30
  generalize (γ 31).1 = b31
  refine ap 11 rfl rfl rfl rfl (bld153 (.cons rfl (.cons rfl (.cons rfl (.cons rfl (.cons rfl (.cons rfl (.cons rfl (.cons rfl (.cons rfl (.cons rfl (.cons rfl .nil))))))))))) (by repeat constructor)) <| A_one (i := 12) (by kernel_rfl) rfl <| x_box rfl rfl rfl fun b33 => J_pick (A := mapV kZ evZ (.map (some b31)) []) PC ?_
  refine J_pick (A := mapV kZ evL (.map (some b30)) []) PC ?_
  refine J_pick (A := mapV kZ evZ (.map (some b29)) []) PC ?_
  refine J_pick (A := mapV kZ evB (.map (some b28)) []) PC ?_
  refine J_pick (A := mapV kZ evT (.map (some b27)) []) PC ?_
  refine J_pick (A := mapV kZ evA (.map (some b26)) []) PC ?_
  refine J_pick (A := mapV kZ evA (.map (some b25)) []) PC ?_
  refine J_pick (A := mapV kZ evA (.map (some b24)) []) PC ?_
  refine J_pick (A := mapV kZ evA (.map (some b23)) []) PC ?_
  refine J_pick (A := memA b22 _) PC ?_
  refine J_pick (A := blk b33 _ _) PC ?_
  refine J_coNew <| ap 13 rfl rfl rfl rfl (p_assign rfl) <| A_done (by kernel_rfl) <| qx <| fa rfl rfl fa86_0 <| L_val rfl (v_load rfl ty3 HS (by exact rfl)) ?_
  refine fa rfl rfl fa86_1 <| L_val rfl (v_load rfl ty3 HS (by exact rfl)) ?_
  refine L_pur rfl (p_add64 rfl rfl (by omega)) <| L_pur rfl (p_mul64 rfl rfl (by omega)) <| L_pur rfl (p_add64 rfl rfl (by omega)) <| J_slot (t := 40) (v := .int .i64 H) rfl (by rw [hH2.2.2]; congr 1; omega) <| ag rfl rfl <| nq ?_
  refine J_cut (α := Nat × Nat) (fun x => coA b33 (kBase X U (cutI cs 0 3) (cutI cc 0 4) sh b22 x.1 x.2) :: blk b1 86 (encG X U (cutI cs 0 3) (cutI cc 0 4) sh) :: l) (fun x => [(3, .pointer (some ⟨b33, 0, none⟩)), (4, .int .i64 H), (1, .pointer (some ⟨b1, 0, none⟩))]) ?_ ?_
  refine sr <| fa rfl rfl fa86_4 <| L_val rfl (v_load rfl ty4 HS (by exact rfl)) ?_
  refine nq ?_
  refine C_split rfl (fun h42 => ?_) (fun h42 => ?_)
  obtain rfl : sh = true := h42
  refine J_pick (A := coA b33 _) PC ?_
  refine J_coO fun bn be br bg bt bs bp bl bk _ => sr <| mv rfl rfl <| nc rfl rfl <| fa rfl rfl fa153_10 <| L_val rfl (v_loadL (o := 13) (i := 1) rfl ty145 HS rfl (by exact rfl)) ?_
  refine mv rfl rfl <| L_pur rfl (bld222 .nil (by repeat constructor)) <| L_op <| x_box rfl rfl rfl fun b49 => L_op <| x_mapUpdate (ek := kZ) (ev := evA) (a := H) (c := b49) rfl rfl rfl ky3 Tryz.underlying145 PC ?_
  refine ny <| mv rfl rfl <| nc rfl rfl <| fa rfl rfl fa153_9 <| L_val rfl (v_loadL (o := 13) (i := 0) rfl ty144 HS rfl (by exact rfl)) ?_
  refine mv rfl rfl <| L_pur rfl (p_add64 rfl rfl (by omega)) <| L_pur rfl (bld229 .nil (by repeat constructor)) <| L_op <| x_box rfl rfl rfl fun b57 => L_op <| x_mapUpdate (ek := kZ) (ev := evA) (a := H + 1) (c := b57) rfl rfl rfl ky3 Tryz.underlying144 PC ?_
  refine nq <| J_pick (A := blk b49 _ _) PC ?_
  refine J_asTo (B := blk b49 222 [.slice none 0 0, .slice none 0 0]) (by rfl) <| J_epNew <| J_asTo (B := epF (H, b49, [], [])) (by rfl) <| J_pick (A := each epF _) PC ?_
  refine J_pick (A := epF _) PC ?_
  refine J_eachPush <| J_asTo (B := each epF [(H, b49, [], [])]) (by rfl) <| J_pick (A := blk b57 _ _) PC ?_
  refine J_asTo (B := blk b57 229 [.int .u32 0, .slice none 0 0, .map none]) (by rfl) <| J_ntNew <| J_asTo (B := ntF (H + 1, b57, 0, [])) (by rfl) <| J_pick (A := each ntF _) PC ?_
  refine J_pick (A := ntF _) PC ?_
  refine J_eachPush <| J_asTo (B := each ntF [(H + 1, b57, 0, [])]) (by rfl) <| J_pick (A := mapV kZ evA (.map (some be)) _) PC ?_
  refine J_mapEq (qs := ptrs [(H, b49, ([] : List Msg), ([] : List Rcv))]) (by rfl) <| J_pick (A := mapV kZ evA (.map (some bn)) _) PC ?_
  refine J_mapEq (qs := ptrs [(H + 1, b57, (0 : Int), ([] : List ID))]) (by rfl) <| J_coS (p := b33) (s := { kZero X U (cutI cs 0 3) (cutI cc 0 4) true b22 with ep := [(H, b49, [], [])], nt := [(H + 1, b57, 0, [])] }) bn be br bg bt bs bp bl bk PX trivial ?_
  refine J_asTo (B := coA b33 (kBase X U (cutI cs 0 3) (cutI cc 0 4) true b22 b49 b57)) (by rw [hH]; rfl) ?_
  exact J_at (α := Nat × Nat) (L := fun x => coA b33 (kBase X U (cutI cs 0 3) (cutI cc 0 4) true b22 x.1 x.2) :: blk b1 86 (encG X U (cutI cs 0 3) (cutI cc 0 4) true) :: l) (G := fun x => [(3, .pointer (some ⟨b33, 0, none⟩)), (4, .int .i64 H), (1, .pointer (some ⟨b1, 0, none⟩))]) (b49, b57) SU KE
  refine J_skip <| Q_then ?_
  obtain rfl : sh = false := by simpa using h42
  refine J_pick (A := coA b33 _) PC ?_
  refine J_asTo (B := coA b33 (kBase X U (cutI cs 0 3) (cutI cc 0 4) false b22 0 0)) (by rfl) ?_
  exact J_at (α := Nat × Nat) (L := fun x => coA b33 (kBase X U (cutI cs 0 3) (cutI cc 0 4) false b22 x.1 x.2) :: blk b1 86 (encG X U (cutI cs 0 3) (cutI cc 0 4) false) :: l) (G := fun x => [(3, .pointer (some ⟨b33, 0, none⟩)), (4, .int .i64 H), (1, .pointer (some ⟨b1, 0, none⟩))]) (0, 0) SU KE
  intro x
  obtain ⟨be, bn⟩ := x
  obtain ⟨S, hS⟩ : ∃ S, S = (kBase X U (cutI cs 0 3) (cutI cc 0 4) sh b22 be bn) := ⟨_, rfl⟩
  have hSf : S.cu = U ∧ S.rp = [] ∧ S.rg = [] ∧ S.q = [] := by rw [hS]; unfold kBase; split <;> exact ⟨rfl, rfl, rfl, rfl⟩
  obtain ⟨hS1, hS2, hS3, hS4⟩ := hSf
  refine J_asTo (B := coA b33 S) (by rw [hS]) <| J_seq <| sr <| fa rfl rfl fa86_0 <| L_val rfl (v_load rfl ty3 HS (by exact rfl)) ?_
  refine mv rfl rfl <| nq <| J_block <| J_loop (α := Nat × (Nat → Nat × Nat)) (fun x => (x.1 : Int) ≤ X) (fun x => coA b33 (kTh S H x.2 x.1) :: l) (fun x => [(60, .int .i64 (x.1 : Int)), (59, .int .i64 X), (3, .pointer (some ⟨b33, 0, none⟩)), (4, .int .i64 H)]) (fun x => X.toNat - x.1) (0, fun _ => (0, 0)) (by simp; omega) SU KE ?_
  intro x hi
  obtain ⟨i, bs⟩ := x
  dsimp only at hi ⊢
  refine sr <| L_pur rfl (p_lss rfl rfl) <| nq <| J_seq ?_
  refine C_dec rfl (fun h61 => ?_) (fun h61 => ?_)
  refine J_skip <| Q_then <| J_seq <| J_block <| sr <| mv rfl rfl <| ag rfl rfl <| ny ?_
  refine mv rfl rfl <| mv rfl rfl <| mv rfl rfl <| L_op <| xc fc93 (.cons rfl (.cons rfl (.cons rfl .nil))) rfl (coThread (b := bOf S.cu i) (s := kTh S H bs i) (t := (i : Int)) (h := H) PC (by omega) (by rw [kTh_cu]; omega) (by rw [kTh_cu]; rfl) (by omega) (by have := kTh_qlen (s := S) (h := H) (bs := bs) i; rw [hS4] at this; simp at this; omega) (kTh_fresh hS2 hS3 (by omega) (by omega)).1 (kTh_fresh hS2 hS3 (by omega) (by omega)).2) fun x66 => ?_
  refine J_asTo (B := coA b33 (kTh S H (fun j => if j = i then x66 else bs j) (i + 1))) (by rw [kTh, if_pos rfl, kTh_congr (bs := fun j => if j = i then x66 else bs j) (bs' := bs) (fun j hj => if_neg (by omega))]) <| L_nil <| Q_blk_normal <| qr <| L_pur rfl (p_add64 rfl rfl (by omega)) <| mv rfl rfl <| nq ?_
  exact J_again ((i + 1, fun j => if j = i then x66 else bs j)) (by simp; omega) (by simp; omega) SU KE
  refine J_pick (A := coA b33 _) PC ?_
  refine J_asTo (B := coA b33 (kNew ct cu cs cc sh ⟨b33, b22, be, bn, bs⟩)) (by unfold kNew; rw [← hX, ← hU, ← hH, ← hS]; congr 2; omega) <| J_exit <| Q_then_exit <| Q_then_exit <| Q_blk_this <| qx <| mv rfl rfl <| ag rfl rfl ?_
  refine nq <| J_ret ?_
  refine J_return (⟨b33, b22, be, bn, bs⟩) Tryz.results45 (.tmp rfl .nil) ?_ ?_
  · rfl
  · exact SU
end Go.Pse
namespace Go.Pse
open Go.RowKit
section
variable {P : Program} {ops : Array Oper} {Q : Exit → Act → World → Prop} {E : World} {l m : List As} {n : Nat} {F : Env} {K : Act → World → Prop}
variable {d : Nat} {T : TypeId} {p : String} {e : Array Edge} {x y : Operand} {v : Value}
/-! ### regions in which yield is called -/
def YCon (P : Program) (lp : Nat) (v : Value) (E : World) (L L' : List As) : Prop :=
  ∀ w, Sep E w L → YieldAt Fence.wide 0 P lp #[v] w fun e w' => e = .returned (.bool true) ∧ Sep E w' L'
theorem YCon.drop {P : Program} {lp : Nat} {v : Value} {E : World} {C : As} {l L' : List As} (h : YCon P lp v E l L') : YCon P lp v E (C :: l) L' := fun w H => h w H.tail
end
/-! ### slices.AppendSeq(nil, seq) -/
/-! .. where the elements are structs -/
section
variable {P : Program} {E : World} {l : List As} {sT el fT : TypeId} {sz by_ : Nat} {agg : Bool} {zs : List Value} {κ : Type} {enc : κ → Value} {cells : κ → List Value}
end
end Go.Pse
namespace Go.Pse
open Go.RowKit Go.Sort
theorem onBlock {w : World} {b : Nat} {f : Array Value → Array Value} {C : Array Value} {e : TypeId} {fr : Nat × Nat} (h : w.heap[b]? = some (.cells C e fr)) : (mapBlock w b f).heap[b]? = some (.cells (f C) e fr) := by
  have : (w.heap.modify b (onCells f))[b]? = some (.cells (f C) e fr) := by rw [Array.getElem?_modify, if_pos rfl, h]; rfl
  exact this
theorem offBlock {w : World} {b k : Nat} {f : Array Value → Array Value} (h : k ≠ b) : (mapBlock w b f).heap[k]? = w.heap[k]? := by
  have : (w.heap.modify b (onCells f))[k]? = w.heap[k]? := by rw [Array.getElem?_modify, if_neg (Ne.symm h)]
  exact this
theorem row_laid {E w w' : World} {el : TypeId} {k b o cap n : Nat} {xs ys : List (List Value)} {l : List As} {f : Array Value → Array Value} {os : Array Obj}
    (H : Sep E w (row el k (.slice (some ⟨b, o, none⟩) xs.length cap) xs :: l)) (hlen : ys.length = xs.length) (hw : Wf k ys)
    (hf : ∀ C : Array Value, o + xs.length * k ≤ C.size → (f C).size = C.size ∧ ∀ i, (f C)[i]? = if o ≤ i ∧ i < o + xs.length * k then ys.flatten[i - o]? else C[i]?)
    (hw' : w' = grow (mapBlock (Sort.ahead w n) b f) os) : Sep E w' (row el k (.slice (some ⟨b, o, none⟩) xs.length cap) ys :: l) := by
  subst hw'
  have hsz : (mapBlock (Sort.ahead w n) b f).heap.size = w.heap.size := by simp [mapBlock]
  have hold : ∀ j, j < w.heap.size → j ≠ b → (grow (mapBlock (Sort.ahead w n) b f) os).heap[j]? = w.heap[j]? := fun j hj hjb => by
    rw [heap_grow_old _ _ (by rw [hsz]; exact hj), offBlock hjb]; rfl
  refine H.rep .here ⟨rfl, rfl, ⟨rfl, Nat.le_add_right _ _⟩, by simp [grow, hsz]⟩ fun S hS => ?_
  obtain ⟨hwf, hS⟩ := hS
  rcases hS with ⟨h, _⟩ | ⟨b', o', cap', C, h1, h2, h3, h4, h5, h6, h7⟩
  · cases h
  · cases h1
    have hb : b < w.heap.size := (Array.getElem?_eq_some_iff.1 h2).1
    have hle : xs.length * k ≤ cap * k := Nat.mul_le_mul_right _ h3
    obtain ⟨g1, g2⟩ := hf C (by omega)
    refine ⟨⟨S, ⟨hw, .inr ⟨b, o, cap, f C, by rw [hlen], ?_, by omega, h4, by rw [g1]; exact h5, ?_, h7⟩⟩, fun _ h => .inl h⟩, fun q hq hS => lk_of_heap (hold q.1 hq fun e => hS ((h7 q).2 e))⟩
    · rw [heap_grow_old _ _ (by rw [hsz]; exact hb)]
      exact onBlock (w := Sort.ahead w n) h2
    · apply List.ext_getElem?
      intro i
      rw [List.getElem?_take, List.getElem?_drop, hlen]
      have h8 := g2 (o + i)
      rw [← Array.getElem?_toList] at h8
      rw [h8]
      by_cases hi : i < xs.length * k
      · rw [if_pos hi, if_pos (by omega)]; congr 1; omega
      · rw [if_neg hi, List.getElem?_eq_none (by rw [hw.len, hlen]; omega)]
theorem mem_flat {k : Nat} {xs : List (List Value)} (hw : Wf k xs) {t : Nat} (ht : t < xs.length * k) : ∃ x, xs[t / k]? = some x ∧ t % k < k ∧ xs.flatten[t]? = x[t % k]? := by
  have hk : 0 < k := by rcases Nat.eq_zero_or_pos k with h | h; · subst h; simp at ht
                        · exact h
  have h1 : t / k < xs.length := (Nat.div_lt_iff_lt_mul hk).2 ht
  refine ⟨xs[t / k], List.getElem?_eq_getElem h1, Nat.mod_lt _ hk, ?_⟩
  have := Wf.get (i := t / k) (k := t % k) hw (List.getElem?_eq_getElem h1) (Nat.mod_lt _ hk)
  rwa [Nat.mul_comm, Nat.div_add_mod] at this
section
variable {E w : World} {el : TypeId} {b o cap : Nat} {l : List As}
theorem row_cell {k : Nat} {xs : List (List Value)} (H : Sep E w (row el k (.slice (some ⟨b, o, none⟩) xs.length cap) xs :: l)) : b < w.heap.size ∧ ∀ i u, xs.flatten[i]? = some u → w.cell? ⟨b, o + i, none⟩ = some u ∧ w.frozen? ⟨b, o + i, none⟩ = false := by
  obtain ⟨S, hwf, hS⟩ := H.head
  rcases hS with ⟨h, _⟩ | ⟨b', o', cap', C, h1, h2, h3, h4, h5, h6, h7⟩
  · cases h
  · cases h1
    refine ⟨(Array.getElem?_eq_some_iff.1 h2).1, fun i u hi => ⟨?_, ?_⟩⟩
    · have h8 : i < xs.length * k := by have := (List.getElem?_eq_some_iff.1 hi).1; rwa [hwf.len] at this
      rw [← h6, List.getElem?_take, if_pos h8, List.getElem?_drop, Array.getElem?_toList] at hi
      simp [World.cell?, h2, hi]
    · simp [World.frozen?, h2]
end
def insZ (x : Int) : List Int → List Int
  | [] => [x]
  | y :: ys => if y < x then y :: insZ x ys else x :: y :: ys
def sortZ : List Int → List Int
  | [] => []
  | x :: xs => insZ x (sortZ xs)
end Go.Pse
namespace Go.Proofs
open Go.Shelf
def Tryz.sortRq_ren : Go.Shelf.Ren := ⟨fun | 6 => 74 | 15 => 124 | 14 => 123 | 28 => 187 | 29 => 188 | 20 => 179 | 21 => 180 | 22 => 181 | 23 => 182 | 24 => 183 | 25 => 184 | 26 => 185 | 27 => 186 | 46 => 242 | 47 => 243 | 48 => 244 | 49 => 245 | 50 => 246 | 57 => 298 | n => n, fun | 22 => 46 | 24 => 122 | 25 => 189 | 3 => 3 | 39 => 154 | 0 => 0 | 53 => 22 | 55 => 102 | 4 => 4 | 46 => 338 | 45 => 337 | 50 => 42 | 5 => 5 | 9 => 9 | 66 => 388 | 70 => 391 | 76 => 438 | 77 => 439 | n => n, fun | n => n⟩
theorem Tryz.sortRq : Go.Proofs.SlLaysF0.n6 Tryz.prog Tryz.sortRq_ren := {
  mixed := by kernel_rfl
  f6 := ⟨Tryz.f74.name, by decide, Tryz.func74.trans (congrArg some (by kernel_rfl))⟩
  f14 := ⟨Tryz.f123.name, by decide, Tryz.func123.trans (congrArg some (by kernel_rfl))⟩
  f15 := Tryz.func124.trans (congrArg some (by kernel_rfl))
  f20 := ⟨Tryz.f179.name, by decide, Tryz.func179.trans (congrArg some (by kernel_rfl))⟩
  f21 := ⟨Tryz.f180.name, by decide, Tryz.func180.trans (congrArg some (by kernel_rfl))⟩
  f22 := ⟨Tryz.f181.name, by decide, Tryz.func181.trans (congrArg some (by kernel_rfl))⟩
  f23 := ⟨Tryz.f182.name, by decide, Tryz.func182.trans (congrArg some (by kernel_rfl))⟩
  f24 := ⟨Tryz.f183.name, by decide, Tryz.func183.trans (congrArg some (by kernel_rfl))⟩
  f25 := ⟨Tryz.f184.name, by decide, Tryz.func184.trans (congrArg some (by kernel_rfl))⟩
  f26 := ⟨Tryz.f185.name, by decide, Tryz.func185.trans (congrArg some (by kernel_rfl))⟩
  f27 := ⟨Tryz.f186.name, by decide, Tryz.func186.trans (congrArg some (by kernel_rfl))⟩
  f28 := Tryz.func187.trans (congrArg some (by kernel_rfl))
  f29 := Tryz.func188.trans (congrArg some (by kernel_rfl))
  f46 := ⟨Tryz.f242.name, by decide, Tryz.func242.trans (congrArg some (by kernel_rfl))⟩
  f47 := Tryz.func243.trans (congrArg some (by kernel_rfl))
  f48 := Tryz.func244.trans (congrArg some (by kernel_rfl))
  f49 := ⟨Tryz.f245.name, by decide, Tryz.func245.trans (congrArg some (by kernel_rfl))⟩
  f50 := ⟨Tryz.f246.name, by decide, Tryz.func246.trans (congrArg some (by kernel_rfl))⟩
  f57 := ⟨Tryz.f298.name, by decide, Tryz.func298.trans (congrArg some (by kernel_rfl))⟩
  t0 := Tryz.underlying0
  a0 := Tryz.isAgg0
  z0 := Tryz.sizeOf0
  v0 := Tryz.zeroValue0
  t3 := Tryz.underlying3
  a3 := Tryz.isAgg3
  z3 := Tryz.sizeOf3
  v3 := Tryz.zeroValue3
  t4 := Tryz.underlying4
  a4 := Tryz.isAgg4
  z4 := Tryz.sizeOf4
  v4 := Tryz.zeroValue4
  t5 := Tryz.underlying5
  a5 := Tryz.isAgg5
  z5 := Tryz.sizeOf5
  v5 := Tryz.zeroValue5
  t9 := Tryz.underlying9
  a9 := Tryz.isAgg9
  z9 := Tryz.sizeOf9
  v9 := Tryz.zeroValue9
  t22 := Tryz.underlying46
  a22 := Tryz.isAgg46
  z22 := Tryz.sizeOf46
  v22 := Tryz.zeroValue46
  t25 := Tryz.underlying189
  a25 := Tryz.isAgg189
  z25 := Tryz.sizeOf189
  v25 := Tryz.zeroValue189
  t39 := Tryz.underlying154
  a39 := Tryz.isAgg154
  z39 := Tryz.sizeOf154
  v39 := Tryz.zeroValue154
  t45 := Tryz.underlying337
  a45 := Tryz.isAgg337
  z45 := Tryz.sizeOf337
  v45 := Tryz.zeroValue337
  t46 := Tryz.underlying338
  a46 := Tryz.isAgg338
  z46 := Tryz.sizeOf338
  v46 := Tryz.zeroValue338
  t50 := Tryz.underlying42
  a50 := Tryz.isAgg42
  z50 := Tryz.sizeOf42
  v50 := Tryz.zeroValue42
  t53 := Tryz.underlying22
  a53 := Tryz.isAgg22
  z53 := Tryz.sizeOf22
  v53 := Tryz.zeroValue22
  t55 := Tryz.underlying102
  a55 := Tryz.isAgg102
  z55 := Tryz.sizeOf102
  v55 := Tryz.zeroValue102
  t66 := Tryz.underlying388
  a66 := Tryz.isAgg388
  z66 := Tryz.sizeOf388
  v66 := Tryz.zeroValue388
  t70 := Tryz.underlying391
  a70 := Tryz.isAgg391
  z70 := Tryz.sizeOf391
  v70 := Tryz.zeroValue391
  t76 := Tryz.underlying438
  a76 := Tryz.isAgg438
  z76 := Tryz.sizeOf438
  v76 := Tryz.zeroValue438
  t77 := Tryz.underlying439
  a77 := Tryz.isAgg439
  z77 := Tryz.sizeOf439
  v77 := Tryz.zeroValue439 }
end Go.Proofs
namespace Go.Pse
open Go.RowKit Go.Sort Go.Proofs Go.Shelf
theorem grown_of {W w : World} (H : Sep W w [old W]) : ∃ q os, w = grow (W.drewN q) os := by
  obtain ⟨S, h1, _, h3⟩ := H.has .here
  refine ⟨w.drawn - W.drawn, w.heap.extract W.heap.size w.heap.size, ?_⟩
  have hh : w.heap = W.heap ++ w.heap.extract W.heap.size w.heap.size := by
    apply Array.ext_getElem?
    intro i
    by_cases hi : i < W.heap.size
    · rw [Array.getElem?_append_left hi, h3 i hi]
    · rw [Array.getElem?_append_right (by omega), Array.getElem?_extract]
      by_cases hw : i < w.heap.size
      · rw [if_pos (by omega)]; congr 1; omega
      · rw [if_neg (by omega), Array.getElem?_eq_none (by omega)]
  have hd := H.output.2
  obtain ⟨ho⟩ := H.output
  have h1 := H.os
  have h2 := H.tape
  cases w with
  | mk heap tape drawn os output =>
    simp only [grow, World.drewN]
    simp only at hh hd ho h1 h2
    rw [← hh, h1, h2, ho]
    congr 1
    omega
section
variable {α : Type} [Inhabited α] {enc : α → List Value} {k : Nat}
omit [Inhabited α] in
theorem wf_map (hk : ∀ x, (enc x).length = k) (h1 : ∀ x, ∀ v ∈ enc x, v.oneCell' = true) (xs : List α) : Wf k (xs.map enc) := fun x hx => by obtain ⟨a, _, rfl⟩ := List.mem_map.1 hx; exact ⟨hk a, by unfold ones; exact List.all_eq_true.2 (h1 a)⟩
theorem flat_at (hk : ∀ x, (enc x).length = k) (h1 : ∀ x, ∀ v ∈ enc x, v.oneCell' = true) {xs : List α} {t : Nat} (ht : t < xs.length * k) : (xs.map enc).flatten[t]? = some ((flatK enc k xs.toArray)[t]!) := by
  obtain ⟨x, g1, g2, g3⟩ := mem_flat (wf_map hk h1 xs) (t := t) (by simpa using ht)
  rw [List.getElem?_map] at g1
  obtain ⟨a, ga, rfl⟩ := Option.map_eq_some_iff.1 g1
  rw [g3, get_flatK _ _ _ _ (by simpa using ht)]
  have : xs.toArray[t / k]! = a := by simp [ga]
  rw [this, List.getElem?_eq_getElem (by rw [hk]; exact g2), List.getElem!_eq_getElem?_getD, List.getElem?_eq_getElem (by rw [hk]; exact g2)]
  rfl
variable {E w : World} {el : TypeId} {b o cap : Nat} {l : List As}
theorem struct_holds (hk : ∀ x, (enc x).length = k) (h1 : ∀ x, ∀ v ∈ enc x, v.oneCell' = true) {xs : List α} (H : Sep E w (row el k (.slice (some ⟨b, o, none⟩) (xs.map enc).length cap) (xs.map enc) :: l)) : HoldsK enc k w b o xs.toArray := fun j hj => by
  have hj' : j < xs.length * k := by simpa using hj
  exact (row_cell H).2 j _ (flat_at hk h1 hj')
theorem struct_laid (hk : ∀ x, (enc x).length = k) (h1 : ∀ x, ∀ v ∈ enc x, v.oneCell' = true) {xs ys : List α} {w' : World} {n : Nat} {os : Array Obj} (H : Sep E w (row el k (.slice (some ⟨b, o, none⟩) (xs.map enc).length cap) (xs.map enc) :: l)) (hlen : ys.length = xs.length)
    (hw' : w' = sortWorldK enc k w b o n ys.toArray os) : Sep E w' (row el k (.slice (some ⟨b, o, none⟩) (xs.map enc).length cap) (ys.map enc) :: l) := by
  refine row_laid (n := n) (os := os) (f := putCells id o (flatK enc k ys.toArray)) H (by simp [hlen]) (wf_map hk h1 ys) (fun C hC => ⟨by simp [putCells], fun i => ?_⟩) hw'
  simp only [List.length_map] at hC ⊢
  unfold putCells
  rw [Array.getElem?_mapIdx]
  simp only [size_flatK, List.size_toArray, hlen]
  by_cases hi : o ≤ i ∧ i < o + xs.length * k
  · rw [if_pos hi]
    have hiC : i < C.size := by omega
    rw [Array.getElem?_eq_getElem hiC, Option.map_some, if_pos hi, flat_at hk h1 (by rw [hlen]; omega)]
    rfl
  · rw [if_neg hi]
    cases C[i]? with
    | none => rfl
    | some u => simp only [Option.map_some, if_neg hi]
end
def insF {α : Type} (cf : α → α → Int) (x : α) : List α → List α
  | [] => [x]
  | y :: ys => if (ltOf cf) y x = true then y :: insF cf x ys else x :: y :: ys
def sortF {α : Type} (cf : α → α → Int) : List α → List α
  | [] => []
  | x :: xs => insF cf x (sortF cf xs)
section
variable {α : Type} {cf : α → α → Int}
theorem insF_perm (x : α) : ∀ ys : List α, (insF cf x ys).Perm (x :: ys)
  | [] => List.Perm.refl _
  | y :: ys => by
    unfold insF
    split
    · exact ((insF_perm x ys).cons y).trans (List.Perm.swap x y ys)
    · exact List.Perm.refl _
theorem sortF_isPerm : ∀ xs : List α, (sortF cf xs).Perm xs
  | [] => List.Perm.refl _
  | x :: xs => (insF_perm x (sortF cf xs)).trans ((sortF_isPerm xs).cons x)
theorem sortF_len (xs : List α) : (sortF cf xs).length = xs.length := (sortF_isPerm xs).length_eq
theorem sortF_mem {xs : List α} {a : α} : a ∈ sortF cf xs ↔ a ∈ xs := (sortF_isPerm xs).mem_iff
variable (hO : SWO (ltOf cf)) (hT : ∀ x y, (ltOf cf) x y = false → (ltOf cf) y x = false → x = y)
include hO in
theorem insF_sorted (x : α) : ∀ {ys : List α}, (ys.Pairwise fun a b => (ltOf cf) b a = false) → (insF cf x ys).Pairwise fun a b => (ltOf cf) b a = false
  | [], _ => List.pairwise_singleton _ _
  | y :: ys, h => by
    have h1 := List.pairwise_cons.1 h
    unfold insF
    split
    · rename_i hyx
      refine List.pairwise_cons.2 ⟨fun z hz => ?_, insF_sorted x h1.2⟩
      rcases List.mem_cons.1 ((insF_perm x ys).mem_iff.1 hz) with rfl | hz
      · cases h2 : (ltOf cf) z y with
        | false => rfl
        | true =>
          have := hO.trans z y z h2 hyx
          rw [hO.irrefl] at this
          cases this
      · exact h1.1 z hz
    · rename_i hyx
      have hyx' : (ltOf cf) y x = false := by simpa using hyx
      refine List.pairwise_cons.2 ⟨fun z hz => ?_, h⟩
      rcases List.mem_cons.1 hz with rfl | hz
      · exact hyx'
      · exact hO.ntrans z y x (h1.1 z hz) hyx'
include hO in
theorem sortF_sorted : ∀ xs : List α, (sortF cf xs).Pairwise fun a b => (ltOf cf) b a = false
  | [] => List.Pairwise.nil
  | x :: xs => insF_sorted hO x (sortF_sorted xs)
include hO hT in
include hO hT in
end
theorem sortF_permOn {α : Type} {cf : α → α → Int} (hO : SWO (ltOf cf)) {xs ys : List α} (hT : ∀ x ∈ xs, ∀ y ∈ xs, (ltOf cf) x y = false → (ltOf cf) y x = false → x = y) (h : xs.Perm ys) : sortF cf xs = sortF cf ys :=
  List.Perm.eq_of_pairwise (le := fun a b => (ltOf cf) b a = false) (fun a b ha hb h1 h2 => hT a (sortF_mem.1 ha) b (h.mem_iff.2 (sortF_mem.1 hb)) h2 h1) (sortF_sorted hO xs) (sortF_sorted hO ys) (((sortF_isPerm xs).trans h).trans (sortF_isPerm ys).symm)
theorem sorted_list {α : Type} [Inhabited α] {cf : α → α → Int} (hO : SWO (ltOf cf)) {xs : List α} (hT : ∀ x ∈ xs, ∀ y ∈ xs, (ltOf cf) x y = false → (ltOf cf) y x = false → x = y) {d' : Array α} (hp : PermIn 0 xs.toArray.size xs.toArray d') (hs : SortedIn (ltOf cf) 0 xs.toArray.size d') : d' = (sortF cf xs).toArray := by
  obtain ⟨h1, _, h3⟩ := hp
  have h1' : d'.size = xs.length := by simpa using h1
  have e1 : d'.extract 0 xs.length = d' := by rw [← h1']; simp
  have e2 : (xs.toArray.extract 0 xs.length).toList = xs := by simp
  have h3' : d'.toList.Perm xs := by
    rw [List.size_toArray, e1, e2] at h3; exact h3
  have : d'.toList = sortF cf xs := List.Perm.eq_of_pairwise (le := fun a b => (ltOf cf) b a = false)
    (fun a b ha hb g1 g2 => hT a (h3'.mem_iff.1 ha) b (sortF_mem.1 hb) g2 g1) (by
      rw [List.pairwise_iff_getElem]
      intro i j hi hj hij
      have hi' : i < d'.size := by simpa using hi
      have hj' : j < d'.size := by simpa using hj
      have := hs i j (Nat.zero_le _) hij (by simp; omega)
      rw [getElem!_pos d' j hj', getElem!_pos d' i hi'] at this
      simpa using this) (sortF_sorted hO xs) (h3'.trans (sortF_isPerm xs).symm)
  rw [← this]
theorem con_sortO {α : Type} [Inhabited α] {P : Program} {ρ : Ren} {el : TypeId} {k : Nat} {enc : α → List Value} {cf : α → α → Int} {g : FuncId} {E : World} {l m : List As} {v : Value} {xs : List α}
    (L : SlLaysF0.n6 P ρ) (aE : ∀ w, (isAgg (ρ.t 24)).run P w = .ok true w) (zE : ∀ w, (Go.sizeOf (ρ.t 24)).run P w = .ok k w)
    (hk : ∀ x, (enc x).length = k) (h1 : ∀ x, ∀ v ∈ enc x, v.oneCell' = true) (hO : SWO (ltOf cf)) (hT : ∀ x ∈ xs, ∀ y ∈ xs, (ltOf cf) x y = false → (ltOf cf) y x = false → x = y)
    (eg : ∀ args w, (callFunc g args).run P w = .ok (.enter g args) w)
    (hc : ∀ (x y : α) (W : World), Con P g #[.agg (enc x).toArray, .agg (enc y).toArray] W [old W] (fun _ : Unit => .int .i64 (cf x y)) (fun _ => [old W]))
    (hb : xs.length ≤ 1000000) (hp : Pick (row el k v (xs.map enc)) l m) :
    Con P (ρ.f 6) #[v, .func (.func g) #[] #[]] E l (fun _ : Unit => .tuple #[]) (fun _ => row el k v ((sortF cf xs).map enc) :: m) := fun w H => by
  have H' := H.pick hp
  obtain ⟨S, hwf, hS⟩ := H'.head
  rcases hS with ⟨rfl, hx, _⟩ | ⟨b, o, cap, C, rfl, h2, _⟩
  · have hx' : xs = [] := by simpa using hx
    subst hx'
    exact (AnyF.slices_SortFunc_none L none 0 _ w).mono fun e w' ⟨he, hw⟩ => ⟨(), he, by subst hw; rw [show sortF cf [] = [] by simp [sortF]]; exact H'⟩
  · have hcmp : CmpLays P g #[] enc k cf b o xs.toArray.size w := fun m' os dk _ x y => by
      rw [Array.append_empty]
      exact (hc x y _ _ (Sep.old_in _)).mono fun e w' ⟨_, he, hs⟩ => ⟨he, grown_of hs⟩
    have hh := AnyQ.slices_SortFunc L k aE zE enc hk h1 cf hO g #[] b o cap xs.toArray w eg hcmp (struct_holds hk h1 H') (row_cell H').1 (by simp; omega)
    have hh2 : Calls P (ρ.f 6) #[.slice (some ⟨b, o, none⟩) (xs.map enc).length cap, .func (.func g) #[] #[]] w fun e w' => e = .returned (.tuple #[]) ∧ ∃ n os, w' = sortWorldK enc k w b o n (sortF cf xs).toArray os := by
      rw [List.length_map, ← List.size_toArray]
      exact hh.mono fun _ _ ⟨he, d', n, os, hp, hs, hw⟩ => ⟨he, n, os, by rw [hw, sorted_list hO hT hp hs]⟩
    exact hh2.mono fun e w' ⟨he, n, os, hw⟩ => ⟨(), he, by have := struct_laid hk h1 H' (sortF_len (cf := cf) xs) hw; rw [List.length_map] at this; simpa [sortF_len] using this⟩
end Go.Pse
namespace Go.Pse
open Go.RowKit Go.Proofs
def cmpZ (x y : Int) : Int := if x < y then -1 else if y < x then 1 else 0
def orZ (x y : Int) : Int := if x = 0 then y else x
def cmpP (a b : Int × Int) : Int := orZ (cmpZ a.1 b.1) (cmpZ a.2 b.2)
theorem nanZ {E : World} {l : List As} {x : Int} :
    Con Tryz.prog 125 #[.int .i64 x] E l (fun _ : Unit => .bool false) (fun _ => l) := by
  refine Con.body (vs := [.int .i64 x]) (n := 6) Tryz.func125 rfl rfl [(0, .int .i64 x)] (env_ok 1 rfl) <| sr <| ag rfl rfl <| nx <| mv rfl rfl <| mv rfl rfl <| L_pur rfl (p_neq rfl rfl) <| J_bool (t := 5) (c := false) rfl (by simp) ?_
  refine ag rfl rfl <| nq <| J_ret ?_
  exact J_return (()) Tryz.results125 (.tmp rfl .nil) rfl SU
theorem cmpZC {E : World} {l : List As} {x y : Int} :
    Con Tryz.prog 76 #[.int .i64 x, .int .i64 y] E l (fun _ : Unit => .int .i64 (cmpZ x y)) (fun _ => l) := by
  refine Con.body (vs := [.int .i64 x, .int .i64 y]) (n := 20) Tryz.func76 rfl rfl [(0, .int .i64 x), (1, .int .i64 y)] (env_ok 2 rfl) <| sr <| ag rfl rfl <| nx <| mv rfl rfl <| L_op <| xc fc125 (.cons rfl .nil) rfl (nanZ) fun _ => ag rfl rfl ?_
  refine nx <| mv rfl rfl <| L_op <| xc fc125 (.cons rfl .nil) rfl (nanZ) fun _ => ag rfl rfl <| nxx <| mv rfl rfl <| nq ?_
  refine J_bool (t := 11) (c := false) rfl (rfl) <| C_false rfl <| J_skip <| Q_then <| J_seq <| sr <| mv rfl rfl <| nq ?_
  refine J_bool (t := 13) (c := false) rfl (rfl) <| C_false rfl <| J_skip <| Q_then <| J_seq <| sr <| mv rfl rfl <| mv rfl rfl ?_
  refine L_pur rfl (p_lss rfl rfl) <| nq ?_
  refine C_dec rfl (fun h16 => ?_) (fun h16 => ?_)
  refine sr <| ag rfl rfl <| nq <| J_ret <| Q_then_ret ?_
  refine J_return (()) Tryz.results76 (.tmp rfl .nil) ?_ ?_
  · simp only [one, cmpZ]; congr 1; (repeat' split) <;> omega
  · exact SU
  refine J_skip <| Q_then <| J_seq <| sr <| mv rfl rfl <| mv rfl rfl <| L_pur rfl (p_gtr rfl rfl) <| nq ?_
  refine C_dec rfl (fun h19 => ?_) (fun h19 => ?_)
  refine sr <| ag rfl rfl <| nq <| J_ret <| Q_then_ret ?_
  refine J_return (()) Tryz.results76 (.tmp rfl .nil) ?_ ?_
  · simp only [one, cmpZ]; congr 1; (repeat' split) <;> omega
  · exact SU
  refine J_skip <| qx <| ag rfl rfl <| nq <| J_ret ?_
  refine J_return (()) Tryz.results76 (.tmp rfl .nil) ?_ ?_
  · simp only [one, cmpZ]; congr 1; (repeat' split) <;> omega
  · exact SU
def sortP (xs : List (Int × Int)) : List (Int × Int) := sortF cmpP xs
end Go.Pse
