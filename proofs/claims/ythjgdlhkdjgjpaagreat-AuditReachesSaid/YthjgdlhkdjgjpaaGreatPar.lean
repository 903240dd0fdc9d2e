/-
  Own layer: regions in a drawn order, each operation once: what one yields may be used by those alone that depend on it; what one takes of memory is its own.
-/
import Derived.Test.YthjgdlhkdjgjpaaGreatStar
import Derived.Test.YthjgdlhkdjgjpaaGreatInv
namespace Go.Pse
open Go.RowKit

/-- What the operations have chosen, by slots: a number, a value. -/
abbrev Gh := Nat → Nat × Value
def gput (γ : Gh) (d : Nat) (x : Nat × Value) : Gh := fun k => if k = d then x else γ k
theorem gput_self (γ : Gh) (d : Nat) (x : Nat × Value) : gput γ d x d = x := if_pos rfl
theorem gput_ne {γ : Gh} {d k : Nat} {x : Nat × Value} (h : k ≠ d) : gput γ d x k = γ k := if_neg h

/-! ### who depends on whom -/
def desc (md : Region.Mode) (ops : Array Oper) (i : Nat) : Nat → List Bool
  | 0 => []
  | k + 1 => desc md ops i k ++ [Nat.beq k i || match ops[k]? with | none => false | some o => o.after.toList.any fun e => Region.binds md e && (desc md ops i k).getD e.on false]
def dep (md : Region.Mode) (ops : Array Oper) (i k : Nat) : Bool := (desc md ops i (k + 1)).getD k false
theorem desc_len (md : Region.Mode) (ops : Array Oper) (i : Nat) : ∀ k, (desc md ops i k).length = k
  | 0 => rfl
  | k + 1 => by rw [desc, List.length_append, desc_len md ops i k]; rfl
theorem desc_get {md : Region.Mode} {ops : Array Oper} {i : Nat} : ∀ {k j : Nat}, j < k → (desc md ops i k).getD j false = dep md ops i j
  | 0, _, h => by omega
  | k + 1, j, h => by
    by_cases hj : j = k
    · subst hj; rfl
    · have hl : j < (desc md ops i k).length := by rw [desc_len]; omega
      rw [desc, List.getD_eq_getElem?_getD, List.getElem?_append_left hl, ← List.getD_eq_getElem?_getD]
      exact desc_get (by omega)
theorem dep_eq (md : Region.Mode) (ops : Array Oper) (i k : Nat) : dep md ops i k = (Nat.beq k i || match ops[k]? with | none => false | some o => o.after.toList.any fun e => Region.binds md e && (desc md ops i k).getD e.on false) := by
  unfold dep
  rw [desc, List.getD_eq_getElem?_getD, List.getElem?_append_right (by rw [desc_len]; exact Nat.le_refl _), desc_len, Nat.sub_self]
  rfl
theorem dep_self (md : Region.Mode) (ops : Array Oper) (i : Nat) : dep md ops i i = true := by rw [dep_eq]; simp
theorem dep_listed {md : Region.Mode} {ops : Array Oper} {listed : Array Bool} (hc : Closed md ops listed) {i : Nat} : ∀ k, dep md ops i k = true → listed.getD k false = true → listed.getD i false = true := by
  intro k
  induction k using Nat.strongRecOn with
  | _ k ih =>
    intro h hl
    rw [dep_eq, Bool.or_eq_true] at h
    rcases h with h | h
    · rw [← Nat.eq_of_beq_eq_true h]; exact hl
    · cases ho : ops[k]? with
      | none => rw [ho] at h; cases h
      | some o =>
        rw [ho] at h
        simp only [List.any_eq_true, Bool.and_eq_true] at h
        obtain ⟨e, he, hb, hd⟩ := h
        have hlt : e.on < k := by
          rcases Nat.lt_or_ge e.on k with h | h
          · exact h
          · rw [List.getD_eq_getElem?_getD, List.getElem?_eq_none (by rw [desc_len]; exact h)] at hd; cases hd
        rw [desc_get hlt] at hd
        exact ih e.on hlt hd (hc k o ho hl e (by simpa using he) hb)

/-! ### slots put aside -/
def puts : List (Nat × Value) → Act → Act
  | [], a => a
  | (d, v) :: us, a => (puts us a).put (some d) v
theorem puts_size (a : Act) : ∀ us, (puts us a).tmps.size = a.tmps.size
  | [] => rfl
  | (d, v) :: us => by simp [puts, Act.put, puts_size a us]
theorem puts_defers (a : Act) : ∀ us, (puts us a).defers = a.defers
  | [] => rfl
  | (d, v) :: us => puts_defers a us
theorem puts_out {a : Act} {t : Nat} : ∀ {us : List (Nat × Value)}, (∀ u ∈ us, u.1 ≠ t) → (puts us a).tmps[t]? = a.tmps[t]?
  | [], _ => rfl
  | (d, v) :: us, h => by
    have h1 : d ≠ t := h (d, v) (by simp)
    simp only [puts, Act.put]
    rw [Array.getElem?_setIfInBounds_ne h1]
    exact puts_out fun u hu => h u (List.mem_cons_of_mem _ hu)
theorem puts_in {a : Act} {t : Nat} {v : Value} (ht : t < a.tmps.size) : ∀ {us : List (Nat × Value)}, (t, v) ∈ us → (us.map Prod.fst).Nodup → (puts us a).tmps[t]? = some v
  | (d, u) :: us, h, hn => by
    obtain ⟨h1, h2⟩ := List.nodup_cons.1 hn
    rcases List.mem_cons.1 h with h | h
    · cases h
      simp only [puts, Act.put]
      rw [Array.getElem?_setIfInBounds_self_of_lt (by rw [puts_size]; exact ht)]
    · have hne : d ≠ t := fun e => h1 (List.mem_map.2 ⟨_, h, e.symm⟩)
      simp only [puts, Act.put]
      rw [Array.getElem?_setIfInBounds_ne hne]
      exact puts_in ht h h2

section
variable {P : Program} {ops : Array Oper} {Q : Exit → Act → World → Prop}
theorem wp_put1 {o : Oper} {d : Nat} {v : Value} (h1 : d ∉ o.looksAt ops) (h2 : o.dst ≠ some d) (hs : ∀ cs b, o.op ≠ .select cs b)
    (hQ : ∀ c a w, Q (.panic c) (a.put (some d) v) w → Q (.panic c) a w) {K : Act → World → Prop} {a : Act} {w : World} (h : o.wp P (a.put (some d) v) w K Q) :
    o.wp P a w (fun a' w' => K (a'.put (some d) v) w') Q := by
  have h1' : ∀ d', some d = some d' → d' ∉ o.looksAt ops := fun d' e => by cases e; exact h1
  have h2' : ∀ d', some d = some d' → o.dst ≠ some d' := fun d' e => by cases e; exact h2
  unfold Oper.wp at *
  rw [execOp_put (ops := ops) o hs a (some d) v h1'] at h
  generalize (execOp a.eval o).run P w = r at *
  cases r with
  | ok n w' =>
    cases n <;> simp only [Oper.upon] at h ⊢
    case value u => rw [← Act.put_comm a v u h2']; exact h
    case skip => rw [← Act.put_comm a v undef h2']; exact h
    case defer x =>
      rw [← Act.put_comm _ v undef h2', ← Act.put_defers]
      exact h
    case enter f args =>
      refine Calls.mono h fun e w'' he => ?_
      cases e with
      | returned u =>
        have h3 : K ((a.put o.dst u).put (some d) v) w'' := by rw [← Act.put_comm a v u h2']; exact he
        exact h3
      | panicked c => exact hQ _ _ _ he
      | outgrown => exact he
    case row row args => exact Rows.mono h fun u w'' he => by rw [← Act.put_comm a v u h2']; exact he
  | halt x w' =>
    cases x <;> simp only [Oper.upon] at h ⊢
    case panic u => exact hQ _ _ _ h
theorem wp_puts {o : Oper} (hs : ∀ cs b, o.op ≠ .select cs b) (hQ : ∀ c a (d : Nat) v w, Q (.panic c) (a.put (some d) v) w → Q (.panic c) a w) {a : Act} {w : World} :
    ∀ {us : List (Nat × Value)} {K : Act → World → Prop}, (∀ u ∈ us, u.1 ∉ o.looksAt ops ∧ o.dst ≠ some u.1) → o.wp P (puts us a) w K Q → o.wp P a w (fun a' w' => K (puts us a') w') Q
  | [], _, _, h => h
  | (d, v) :: us, K, hu, h => by
    have h0 := hu (d, v) (by simp)
    have h3 := wp_put1 (ops := ops) h0.1 h0.2 hs (fun c a w => hQ c a d v w) h
    exact wp_puts hs hQ (K := fun a' w' => K (a'.put (some d) v) w') (fun u hu' => hu u (List.mem_cons_of_mem _ hu')) h3
end

/-! ### plans -/
structure PE where
  d : Nat
  pre : List As
  f : Gh → Value
  out : Gh → List As
/-- What is known of the slots (the newest first). -/
def envs : List PE → Gh → Env → Env
  | [], _, F => F
  | e :: G, γ, F => (e.d, e.f γ) :: envs G γ F
def mks : List PE → Gh → List As → List As
  | [], _, l => l
  | e :: G, γ, l => e.out γ ++ mks G γ l
def pres : List PE → List As → List As
  | [], l => l
  | e :: G, l => e.pre ++ pres G l
def dstAt (ops : Array Oper) (j : Nat) : Option Nat := (ops[j]?).bind (·.dst)
def jsOk (ops : Array Oper) (m : Nat) (js : List Nat) : Bool := js.all fun k => (List.range (m + 1)).any fun j => dep .any ops j m && match dstAt ops j with | some d => Nat.beq d k | none => false
structure OpOk (P : Program) (ops : Array Oper) (Q : Exit → Act → World → Prop) (E : World) (n : Nat) (l : List As) (F : Env) (G : List PE) (e : PE) : Prop where
  op : ∃ o, ops[G.length]? = some o ∧ o.dst = some e.d ∧ Nat.blt e.d n = true ∧ o.guard = none ∧
    ∀ (γ : Gh) (Rr : As) (X : Env) (K : Act → World → Prop), (∀ x, Jk E (e.out (gput γ e.d x) ++ Rr :: l) n ((e.d, e.f (gput γ e.d x)) :: (envs G γ F ++ X)) K) → Jop P ops Q o E (e.pre ++ Rr :: l) n (envs G γ F ++ X) K
  cong : ∃ js, jsOk ops G.length js = true ∧ ∀ γ γ' : Gh, (∀ k ∈ js, γ k = γ' k) → e.f γ = e.f γ' ∧ e.out γ = e.out γ'
def PlanOk (P : Program) (ops : Array Oper) (Q : Exit → Act → World → Prop) (E : World) (n : Nat) (l : List As) (F : Env) : List PE → Prop
  | [] => True
  | e :: G => PlanOk P ops Q E n l F G ∧ OpOk P ops Q E n l F G e
/-- The operations from m on come behind all others; before m, what does not depend on each other is apart. -/
def planChk (ops : Array Oper) (m : Nat) (fs : List Nat) : Bool :=
  Region.noSelect ops && Nat.ble m ops.size &&
  ((List.range m).all fun j => (List.range j).all fun i => (match dstAt ops i, dstAt ops j with | some a, some b => !Nat.beq a b | _, _ => false) &&
    (dep .any ops i j || match ops[i]?, ops[j]? with | some x, some y => x.apart ops y | _, _ => false)) &&
  ((List.range ops.size).all fun k => Nat.blt k m || (List.range m).all fun i => dep .any ops i k) &&
  ((List.range m).all fun j => match ops[j]? with | some o => o.after.toList.all fun e => !Region.binds .any e || Nat.blt e.on j | none => false) &&
  fs.all fun t => (List.range m).all fun j => match dstAt ops j with | some d => !Nat.beq d t | none => false
def upto (m N : Nat) : Array Bool := ((List.range N).map fun i => Nat.blt i m).toArray

section
variable {P : Program} {ops : Array Oper} {Q : Exit → Act → World → Prop} {E : World} {n : Nat} {l : List As} {F : Env}
theorem PlanOk.at {G T : List PE} {e : PE} {G' : List PE} (h : PlanOk P ops Q E n l F G) (hG : G = T ++ e :: G') : OpOk P ops Q E n l F G' e ∧ PlanOk P ops Q E n l F G' := by
  induction T generalizing G with
  | nil => subst hG; exact ⟨h.2, h.1⟩
  | cons t T ih => subst hG; exact ih h.1 rfl
theorem at_of_lt : ∀ {G : List PE} {j : Nat}, j < G.length → ∃ T e G', G = T ++ e :: G' ∧ G'.length = j
  | e :: G, j, h => by
    by_cases hj : j = G.length
    · exact ⟨[], e, G, rfl, hj.symm⟩
    · obtain ⟨T, e', G', h1, h2⟩ := at_of_lt (G := G) (j := j) (by simp at h; omega)
      exact ⟨e :: T, e', G', by rw [h1]; rfl, h2⟩
theorem at_inj {G T1 T2 G1 G2 : List PE} {e1 e2 : PE} (h1 : G = T1 ++ e1 :: G1) (h2 : G = T2 ++ e2 :: G2) (hl : G1.length = G2.length) : T1 = T2 ∧ e1 = e2 ∧ G1 = G2 := by
  have h := h1.symm.trans h2
  have hT : T1.length = T2.length := by
    have := congrArg List.length h
    simp at this
    omega
  obtain ⟨a, b⟩ := List.append_inj h hT
  exact ⟨a, (List.cons.inj b).1, (List.cons.inj b).2⟩
/-- The tokens. -/
def toks (listed : Array Bool) (γ : Gh) : List PE → List As
  | [] => []
  | e :: G => (if listed.getD G.length false = true then As.all (e.out γ) else As.all e.pre) :: toks listed γ G
def tops (listed : Array Bool) (γ : Gh) (k : Nat) : List PE → List As
  | [] => []
  | e :: T => (if listed.getD (T.length + k) false = true then As.all (e.out γ) else As.all e.pre) :: tops listed γ k T
theorem toks_split {listed : Array Bool} {γ : Gh} {e : PE} {G' : List PE} : ∀ {T : List PE}, toks listed γ (T ++ e :: G') = tops listed γ (G'.length + 1) T ++ (if listed.getD G'.length false = true then As.all (e.out γ) else As.all e.pre) :: toks listed γ G'
  | [] => rfl
  | t :: T => by
    rw [List.cons_append, toks, toks_split (T := T), tops, List.cons_append]
    have : (T ++ e :: G').length = T.length + (G'.length + 1) := by simp
    rw [this]
def Alike (listed listed' : Array Bool) (γ γ' : Gh) (x : PE) (i : Nat) : Prop := listed'.getD i false = listed.getD i false ∧ (listed.getD i false = true → x.out γ' = x.out γ)
theorem toks_same {listed listed' : Array Bool} {γ γ' : Gh} : ∀ {G : List PE}, (∀ T' x G'', G = T' ++ x :: G'' → Alike listed listed' γ γ' x G''.length) → toks listed' γ' G = toks listed γ G
  | [], _ => rfl
  | x :: G, h => by
    rw [toks, toks, toks_same fun T' y G'' e => h (x :: T') y G'' (by rw [e]; rfl)]
    obtain ⟨h1, h2⟩ := h [] x G rfl
    rw [h1]
    congr 1
    split
    · rename_i hl; rw [h2 hl]
    · rfl
theorem tops_same {listed listed' : Array Bool} {γ γ' : Gh} {k : Nat} : ∀ {T : List PE}, (∀ T' x T'', T = T' ++ x :: T'' → Alike listed listed' γ γ' x (T''.length + k)) → tops listed' γ' k T = tops listed γ k T
  | [], _ => rfl
  | x :: T, h => by
    rw [tops, tops, tops_same fun T' y T'' e => h (x :: T') y T'' (by rw [e]; rfl)]
    obtain ⟨h1, h2⟩ := h [] x T rfl
    rw [h1]
    congr 1
    split
    · rename_i hl; rw [h2 hl]
    · rfl
theorem mks_append {γ : Gh} {R : List As} : ∀ {G : List PE}, mks G γ R = mks G γ [] ++ R
  | [] => rfl
  | e :: G => by rw [mks, mks, mks_append (G := G), List.append_assoc]
theorem toks_out {w : World} {listed : Array Bool} {γ : Gh} : ∀ {G : List PE} {R : List As}, (∀ j, j < G.length → listed.getD j false = true) → Sep E w (As.all (toks listed γ G) :: R) → Sep E w (mks G γ R)
  | [], R, _, H => H.all_out
  | e :: G, R, h, H => by
    rw [toks, if_pos (h G.length (by simp))] at H
    have H1 := Sep.midOut (T := []) H
    have H2 := toks_out (G := G) (fun j hj => h j (by simp; omega)) (H1.pick (.there .here))
    rw [mks_append] at H2
    have H3 := (H2.pick pick_mid).all_out
    rw [mks, mks_append]
    exact H3
theorem pres_in {w : World} {listed : Array Bool} {γ : Gh} : ∀ {G : List PE} {R : List As}, (∀ j, j < G.length → listed.getD j false = false) → Sep E w (pres G R) → Sep E w (As.all (toks listed γ G) :: R)
  | [], _, _, H => Sep.all_in (m := []) H
  | e :: G, R, h, H => by
    rw [toks, if_neg (by rw [h G.length (by simp)]; simp)]
    rw [pres] at H
    have H0 : Sep E w (pres G (As.all e.pre :: R)) := by
      have : ∀ (G : List PE) (R : List As), pres G R = pres G [] ++ R := by
        intro G R
        induction G with
        | nil => rfl
        | cons e G ih => rw [pres, pres, ih, List.append_assoc]
      rw [this]
      refine Sep.unpick' pick_mid ?_
      rw [this G R] at H
      exact H.all_in
    have H1 := pres_in (listed := listed) (γ := γ) (G := G) (R := As.all e.pre :: R) (fun j hj => h j (by simp; omega)) H0
    exact Sep.midIn (T := []) (H1.pick (.there .here))
theorem get_envs {γ : Gh} {X : Env} {t : Nat} {v : Value} : ∀ {G : List PE}, get (envs G γ F ++ X) t = some v → (∃ T e G', G = T ++ e :: G' ∧ t = e.d ∧ v = e.f γ) ∨ get (F ++ X) t = some v
  | [], h => .inr h
  | e :: G, h => by
    rw [envs, List.cons_append, get_cons] at h
    split at h
    · rename_i hd; cases h; exact .inl ⟨[], e, G, rfl, hd.symm, rfl⟩
    · rcases get_envs h with ⟨T, e', G', h1, h2, h3⟩ | h
      · exact .inl ⟨e :: T, e', G', by rw [h1]; rfl, h2, h3⟩
      · exact .inr h
theorem get_append {X : Env} {t : Nat} {v : Value} : ∀ {F : Env}, get (F ++ X) t = some v → (get F t = some v) ∨ (get F t = none ∧ get X t = some v)
  | [], h => .inr ⟨rfl, h⟩
  | (k, u) :: F, h => by
    rw [List.cons_append, get_cons] at h
    rw [get_cons]
    split at h
    · rename_i e; rw [if_pos e]; exact .inl h
    · rename_i e; rw [if_neg e]; exact get_append h
theorem get_slot {t : Nat} {v : Value} : ∀ {F : Env}, get F t = some v → t ∈ F.map Prod.fst
  | (k, u) :: F, h => by
    rw [get_cons] at h
    split at h
    · rename_i e; subst e; simp
    · exact List.mem_cons_of_mem _ (get_slot h)
def undone (listed : Array Bool) (γ : Gh) : List PE → List (Nat × Value)
  | [] => []
  | e :: G => if listed.getD G.length false = true then undone listed γ G else (e.d, e.f γ) :: undone listed γ G
theorem mem_undone {listed : Array Bool} {γ : Gh} {u : Nat × Value} : ∀ {G : List PE}, u ∈ undone listed γ G ↔ ∃ T e G', G = T ++ e :: G' ∧ listed.getD G'.length false = false ∧ u = (e.d, e.f γ)
  | [] => ⟨fun h => (by cases h), fun ⟨T, e, G', h, _⟩ => (by simp at h)⟩
  | e :: G => by
    have ih := mem_undone (listed := listed) (γ := γ) (u := u) (G := G)
    rw [undone]
    constructor
    · intro h
      split at h
      · obtain ⟨T, e', G', h1, h2⟩ := ih.1 h
        exact ⟨e :: T, e', G', by rw [h1]; rfl, h2⟩
      · rename_i hl
        rcases List.mem_cons.1 h with rfl | h
        · exact ⟨[], e, G, rfl, by simpa using hl, rfl⟩
        · obtain ⟨T, e', G', h1, h2⟩ := ih.1 h
          exact ⟨e :: T, e', G', by rw [h1]; rfl, h2⟩
    · rintro ⟨T, e', G', h1, h2, h3⟩
      cases T with
      | nil =>
        cases h1
        rw [if_neg (by rw [h2]; simp)]
        rw [h3]; simp
      | cons t T =>
        cases h1
        have := ih.2 ⟨T, e', G', rfl, h2, h3⟩
        split
        · exact this
        · exact List.mem_cons_of_mem _ this
theorem undone_nodup {listed : Array Bool} {γ : Gh} : ∀ {G : List PE}, (∀ T1 e1 G1 T2 e2 G2, G = T1 ++ e1 :: G1 → G = T2 ++ e2 :: G2 → e1.d = e2.d → G1.length = G2.length) → ((undone listed γ G).map Prod.fst).Nodup
  | [], _ => List.nodup_nil
  | e :: G, h => by
    have ih := undone_nodup (listed := listed) (γ := γ) (G := G) fun T1 e1 G1 T2 e2 G2 a b c => h (e :: T1) e1 G1 (e :: T2) e2 G2 (by rw [a]; rfl) (by rw [b]; rfl) c
    rw [undone]
    split
    · exact ih
    · rw [List.map_cons, List.nodup_cons]
      refine ⟨fun hm => ?_, ih⟩
      obtain ⟨u, hu, he⟩ := List.mem_map.1 hm
      obtain ⟨T, e', G', h1, h2, rfl⟩ := mem_undone.1 hu
      have := h [] e G (e :: T) e' G' rfl (by rw [h1]; rfl) he.symm
      rw [h1] at this
      simp at this
      omega
theorem dep_ready {listed : Array Bool} (hc : Closed .any ops listed) {i j : Nat} (hr : i ∈ Region.ready .any ops listed) (hd : dep .any ops j i = true) (hne : j ≠ i) : listed.getD j false = true := by
  obtain ⟨_, o, ho, hall⟩ := mem_ready.1 hr
  rw [dep_eq, Bool.or_eq_true, ho] at hd
  rcases hd with h | h
  · exact absurd (Nat.eq_of_beq_eq_true h).symm hne
  · simp only [List.any_eq_true, Bool.and_eq_true] at h
    obtain ⟨e, he, hb, hd⟩ := h
    have hlt : e.on < i := by
      rcases Nat.lt_or_ge e.on i with h | h
      · exact h
      · rw [List.getD_eq_getElem?_getD, List.getElem?_eq_none (by rw [desc_len]; exact h)] at hd; cases hd
    rw [desc_get hlt] at hd
    exact dep_listed hc _ hd (hall e (by simpa using he) hb)
def cnt (listed : Array Bool) (m : Nat) : Nat := ((List.range m).filter fun j => !listed.getD j false).length
theorem cnt_zero {listed : Array Bool} {m : Nat} (h : cnt listed m = 0) : ∀ j, j < m → listed.getD j false = true := fun j hj => by
  unfold cnt at h
  have h1 := List.filter_eq_nil_iff.1 (List.length_eq_zero_iff.1 h) j (List.mem_range.2 hj)
  simpa using h1
theorem cnt_pos {listed : Array Bool} {m c : Nat} (h : cnt listed m = c + 1) : ∃ j, j < m ∧ listed.getD j false = false := by
  unfold cnt at h
  obtain ⟨j, hj⟩ := List.exists_mem_of_length_pos (l := (List.range m).filter fun j => !listed.getD j false) (by omega)
  rw [List.mem_filter, List.mem_range] at hj
  exact ⟨j, hj.1, by simpa using hj.2⟩
theorem cnt_set {listed : Array Bool} {i : Nat} (hi : listed.getD i false = false) (hs : i < listed.size) : ∀ {m : Nat}, cnt (listed.setIfInBounds i true) m + (if i < m then 1 else 0) = cnt listed m
  | 0 => by simp [cnt]
  | m + 1 => by
    have ih := cnt_set hi hs (m := m)
    have hsplit : ∀ L : Array Bool, cnt L (m + 1) = cnt L m + (if L.getD m false = true then 0 else 1) := fun L => by
      unfold cnt
      rw [List.range_succ, List.filter_append, List.length_append]
      cases h : L.getD m false <;> simp [h, -Array.getD_eq_getD_getElem?]
    rw [hsplit, hsplit]
    by_cases him : i = m
    · subst him
      have h1 : (listed.setIfInBounds i true).getD i false = true := getD_set.2 (.inr ⟨rfl, hs⟩)
      rw [h1, hi]
      simp only [Nat.lt_irrefl, if_false, Nat.lt_succ_self, if_true, Bool.false_eq_true] at ih ⊢
      omega
    · rw [getD_set_ne false him]
      generalize (if listed.getD m false = true then 0 else 1) = z
      by_cases hlt : i < m
      · rw [if_pos hlt] at ih; rw [if_pos (by omega)]; omega
      · rw [if_neg hlt] at ih; rw [if_neg (by omega)]; omega
structure Chk (ops : Array Oper) (m : Nat) (fs : List Nat) : Prop where
  sel : ∀ (j : Nat) (o : Oper) cs b, ops[j]? = some o → o.op ≠ .select cs b
  le : m ≤ ops.size
  dist : ∀ i j a b, i < j → j < m → dstAt ops i = some a → dstAt ops j = some b → a ≠ b
  apart : ∀ i j x y, i < j → j < m → dep .any ops i j = false → ops[i]? = some x → ops[j]? = some y → x.apart ops y = true
  tail : ∀ k i, m ≤ k → k < ops.size → i < m → dep .any ops i k = true
  back : ∀ j o e, j < m → ops[j]? = some o → e ∈ o.after → Region.binds .any e = true → e.on < j
  fs : ∀ t j d, t ∈ fs → j < m → dstAt ops j = some d → d ≠ t
theorem Chk.of {m : Nat} {fs : List Nat} (h : planChk ops m fs = true) : Chk ops m fs := by
  simp only [planChk, Bool.and_eq_true] at h
  obtain ⟨⟨⟨⟨⟨h1, h2⟩, h3⟩, h4⟩, h5⟩, h6⟩ := h
  rw [List.all_eq_true] at h3 h4 h5 h6
  refine ⟨Region.noSelect_spec h1, Nat.le_of_ble_eq_true h2, fun i j a b hij hj ha hb => ?_, fun i j x y hij hj hd hx hy => ?_, fun k i hk hks hi => ?_, fun j o e hj ho he hb => ?_, fun t j d ht hj hd => ?_⟩
  · have := h3 j (List.mem_range.2 hj)
    rw [List.all_eq_true] at this
    have := this i (List.mem_range.2 hij)
    rw [ha, hb, Bool.and_eq_true] at this
    have h := this.1
    exact fun e => by subst e; simp at h
  · have := h3 j (List.mem_range.2 hj)
    rw [List.all_eq_true] at this
    have := this i (List.mem_range.2 hij)
    rw [hd, hx, hy, Bool.and_eq_true] at this
    simpa using this.2
  · have := h4 k (List.mem_range.2 hks)
    rw [Bool.or_eq_true] at this
    rcases this with h | h
    · have := Nat.le_of_ble_eq_true h; omega
    · rw [List.all_eq_true] at h
      exact h i (List.mem_range.2 hi)
  · have := h5 j (List.mem_range.2 hj)
    rw [ho] at this
    simp only [List.all_eq_true] at this
    have := this e (by simpa using he)
    rw [hb] at this
    simpa using this
  · have := h6 t ht
    rw [List.all_eq_true] at this
    have := this j (List.mem_range.2 hj)
    rw [hd] at this
    exact fun e => by subst e; simp at this
def full (n : Nat) (a : Act) : Env := (List.range n).map fun t => (t, a.tmps.getD t undef)
theorem get_map {g : Nat → Value} {t : Nat} : ∀ {L : List Nat} {v : Value}, get (L.map fun t => (t, g t)) t = some v → v = g t
  | k :: L, v, h => by
    rw [List.map_cons, get_cons] at h
    split at h
    · rename_i e; subst e; cases h; rfl
    · exact get_map h
theorem get_map_some {g : Nat → Value} {t : Nat} : ∀ {L : List Nat}, t ∈ L → ∃ v, get (L.map fun t => (t, g t)) t = some v
  | k :: L, h => by
    rw [List.map_cons, get_cons]
    by_cases e : k = t
    · exact ⟨_, by rw [if_pos e]⟩
    · rw [if_neg e]
      rcases List.mem_cons.1 h with h | h
      · exact absurd h.symm e
      · exact get_map_some h
theorem get_append_some {X : Env} {t : Nat} {v : Value} (h : get X t = some v) : ∀ {F : Env}, ∃ u, get (F ++ X) t = some u
  | [] => ⟨v, h⟩
  | (k, u) :: F => by
    rw [List.cons_append, get_cons]
    by_cases e : k = t
    · exact ⟨u, by rw [if_pos e]⟩
    · rw [if_neg e]; exact get_append_some h
theorem plan_sound {G : List PE} {m : Nat} (hm : G.length = m) (hok : PlanOk P ops Q E n l F G) (C : Chk ops m (F.map Prod.fst)) (hQ : ∀ c a (d : Nat) v w, Q (.panic c) (a.put (some d) v) w → Q (.panic c) a w)
    (fin : ∀ γ, Jk E (mks G γ l) n (envs G γ F) (wpAny P .any ops Q (ops.size - m) (upto m ops.size))) :
    ∀ (c : Nat) (listed : Array Bool) (γ : Gh) (a : Act) (w : World), cnt listed m = c → listed.size = ops.size → Closed .any ops listed → (∀ k, m ≤ k → listed.getD k false = false) →
      (∀ T e G', G = T ++ e :: G' → listed.getD G'.length false = true → a.tmps[e.d]? = some (e.f γ)) → Fr n F a → Sep E w (As.all (toks listed γ G) :: l) → wpAny P .any ops Q (ops.size - m + c) listed a w := by
  intro c
  have len : ∀ T e G', G = T ++ e :: G' → G'.length < m := fun T e G' h => by rw [← hm, h]; simp; omega
  have dst : ∀ T e G', G = T ++ e :: G' → dstAt ops G'.length = some e.d := fun T e G' h => by
    obtain ⟨⟨o, h1, h2, _⟩, _⟩ := (hok.at h).1
    unfold dstAt; rw [h1]; exact h2
  have uniq : ∀ T1 e1 G1 T2 e2 G2, G = T1 ++ e1 :: G1 → G = T2 ++ e2 :: G2 → e1.d = e2.d → G1.length = G2.length := fun T1 e1 G1 T2 e2 G2 h1 h2 hd => by
    rcases Nat.lt_trichotomy G1.length G2.length with h | h | h
    · exact absurd hd (C.dist _ _ _ _ h (len _ _ _ h2) (dst _ _ _ h1) (dst _ _ _ h2))
    · exact h
    · exact absurd hd.symm (C.dist _ _ _ _ h (len _ _ _ h1) (dst _ _ _ h2) (dst _ _ _ h1))
  induction c with
  | zero =>
    intro listed γ a w hc hsz hcl htl hfacts hF H
    have hall := cnt_zero hc
    have hlist : listed = upto m ops.size := by
      apply Array.ext
      · simp [upto, hsz]
      · intro k h1 h2
        have h3 : listed[k] = listed.getD k false := by simp [h1]
        rw [h3]
        simp only [upto, List.getElem_toArray, List.getElem_map, List.getElem_range]
        by_cases hk : k < m
        · rw [hall k hk]; symm; simpa using hk
        · rw [htl k (by omega)]
          cases h : Nat.blt k m with
          | false => rfl
          | true => have := Nat.le_of_ble_eq_true h; omega
    subst hlist
    refine fin γ w a (toks_out (fun j hj => hall j (by omega)) H) ⟨hF.size, hF.defers, fun t v hv => ?_⟩
    rcases get_envs (X := []) (by rw [List.append_nil]; exact hv) with ⟨T, e, G', h1, rfl, rfl⟩ | h
    · exact hfacts T e G' h1 (hall _ (len _ _ _ h1))
    · rw [List.append_nil] at h; exact hF.get t v h
  | succ c ih =>
    intro listed γ a w hc hsz hcl htl hfacts hF H
    obtain ⟨j0, hj0, hun0⟩ := cnt_pos hc
    have gd : ∀ j, j < listed.size → listed.getD j true = listed.getD j false := fun j hj => by simp [hj]
    have hne : ∀ j, j < m → listed.getD j false = false → ∃ r, r ∈ Region.ready .any ops listed := by
      intro j
      induction j using Nat.strongRecOn with
      | _ j ihj =>
        intro hj hun
        obtain ⟨o, ho⟩ : ∃ o, ops[j]? = some o := ⟨_, Array.getElem?_eq_getElem (by have := C.le; omega)⟩
        by_cases hall : ∀ e ∈ o.after, Region.binds .any e = true → listed.getD e.on false = true
        · exact ⟨j, mem_ready.2 ⟨by rw [gd j (by have := C.le; omega)]; exact hun, o, ho, hall⟩⟩
        · simp only [Classical.not_forall] at hall
          obtain ⟨e, he, hb, hl⟩ := hall
          have hlt := C.back j o e hj ho he hb
          exact ihj e.on hlt (by omega) (by simpa using hl)
    show wpAny P .any ops Q ((ops.size - m + c) + 1) listed a w
    refine ⟨fun h => ?_, fun i hi => ?_⟩
    · obtain ⟨r, hr⟩ := hne j0 hj0 hun0
      rw [h] at hr; cases hr
    · obtain ⟨hun, o, ho, hall⟩ := mem_ready.1 hi
      have hilt : i < ops.size := (Array.getElem?_eq_some_iff.1 ho).1
      rw [gd i (by omega)] at hun
      have him : i < m := by
        rcases Nat.lt_or_ge i m with h | h
        · exact h
        · have := dep_ready hcl hi (C.tail i j0 h hilt hj0) (by omega)
          rw [hun0] at this; cases this
      obtain ⟨T, e, G', hG, hl'⟩ := at_of_lt (G := G) (j := i) (by omega)
      obtain ⟨⟨⟨o', ho', hdst, hdn, hg, tri⟩, _⟩, _⟩ := hok.at hG
      rw [hl', ho] at ho'
      cases ho'
      have hdn' : e.d < n := by simpa using hdn
      -- what is put aside
      have hus : ∀ u ∈ undone listed γ G', ∃ T1 e1 G1, G = T1 ++ e1 :: G1 ∧ G1.length < i ∧ listed.getD G1.length false = false ∧ u = (e1.d, e1.f γ) := fun u hu => by
        obtain ⟨T1, e1, G1, h1, h2, h3⟩ := mem_undone.1 hu
        refine ⟨T ++ e :: T1, e1, G1, by rw [hG, h1]; simp, ?_, h2, h3⟩
        rw [← hl', h1]; simp; omega
      have hput : ∀ u ∈ undone listed γ G', u.1 ∉ o.looksAt ops ∧ o.dst ≠ some u.1 := fun u hu => by
        obtain ⟨T1, e1, G1, h1, h2, h3, rfl⟩ := hus u hu
        obtain ⟨⟨o1, ho1, hd1, _⟩, _⟩ := (hok.at h1).1
        have hnd : dep .any ops G1.length i = false := by
          cases h : dep .any ops G1.length i with
          | false => rfl
          | true => have := dep_ready hcl hi h (by omega); rw [h3] at this; cases this
        obtain ⟨a1, a2, _⟩ := Oper.apart_spec (C.apart _ _ _ _ h2 him hnd ho1 ho)
        exact ⟨a1 _ hd1, a2 _ hd1⟩
      have husn : ((undone listed γ G').map Prod.fst).Nodup := undone_nodup fun T1 e1 G1 T2 e2 G2 h1 h2 hd => uniq (T ++ e :: T1) e1 G1 (T ++ e :: T2) e2 G2 (by rw [hG, h1]; simp) (by rw [hG, h2]; simp) hd
      have hlt : ∀ T1 e1 G1, G = T1 ++ e1 :: G1 → e1.d < n := fun T1 e1 G1 h1 => by obtain ⟨⟨o1, _, _, h, _⟩, _⟩ := (hok.at h1).1; simpa using h
      generalize hU : undone listed γ G' = us at hus hput husn
      have hsplit := toks_split (listed := listed) (γ := γ) (e := e) (G' := G') (T := T)
      rw [hG, hsplit, hl', if_neg (by rw [hun]; simp)] at H
      have H1 := H.midOut.all_out
      have hFs : Fr n (envs G' γ F ++ full n (puts us a)) (puts us a) := by
        refine ⟨by rw [puts_size]; exact hF.size, by rw [puts_defers]; exact hF.defers, fun t v hv => ?_⟩
        rcases get_envs hv with ⟨T1, e1, G1, h1, rfl, rfl⟩ | h
        · cases hl : listed.getD G1.length false with
          | true =>
            rw [puts_out fun u hu => ?_]
            · exact hfacts (T ++ e :: T1) e1 G1 (by rw [hG, h1]; simp) hl
            · obtain ⟨T2, e2, G2, g1, g2, g3, rfl⟩ := hus u hu
              intro hd
              have := uniq T2 e2 G2 (T ++ e :: T1) e1 G1 g1 (by rw [hG, h1]; simp) hd
              rw [this, hl] at g3; cases g3
          | false => exact puts_in (by rw [hF.size]; exact hlt (T ++ e :: T1) e1 G1 (by rw [hG, h1]; simp)) (by rw [← hU]; exact mem_undone.2 ⟨T1, e1, G1, h1, hl, rfl⟩) husn
        · rcases get_append h with h | ⟨_, h⟩
          · rw [puts_out fun u hu => ?_]
            · exact hF.get t v h
            · obtain ⟨T2, e2, G2, g1, g2, g3, rfl⟩ := hus u hu
              exact C.fs t _ _ (get_slot h) (len _ _ _ g1) (dst _ _ _ g1)
          · have htn : t < n := by
              have := get_slot h
              simpa [full] using this
            have := get_map h
            subst this
            have hsz' : t < (puts us a).tmps.size := by rw [puts_size, hF.size]; exact htn
            simp [hsz']
      unfold wpOp
      rw [ho]
      dsimp only
      have hw0 : ∀ a : Act, Region.wanted o (yielded ops a.tmps) = true := fun a => by simp [Region.wanted, hg]
      rw [if_pos (hw0 a)]
      refine .inl ?_
      have key := tri γ (As.all (tops listed γ (i + 1) T ++ toks listed γ G')) (full n (puts us a)) (fun b w' => ∀ a', puts us a' = b → wpAny P .any ops Q (ops.size - m + c) (listed.setIfInBounds i true) a' w') (fun x => ?_) w (puts us a) (by rw [← hl'] at H1 ⊢; exact H1) hFs
      · rw [if_pos (hw0 _)] at key
        exact Oper.wp_mono (fun a' w' h => h a' rfl) (wp_puts (ops := ops) (C.sel i o · · ho) hQ hput key)
      · intro w' b Hs Hf a' hab
        have hne' : ∀ T1 e1 G1, G = T1 ++ e1 :: G1 → G1.length ≠ i → e1.d ≠ e.d := fun T1 e1 G1 h1 h2 hd => h2 ((uniq _ _ _ _ _ _ h1 hG hd).trans hl')
        have bs : ∀ t, t < n → t ≠ e.d → b.tmps[t]? = (puts us a).tmps[t]? := fun t ht hte => by
          obtain ⟨u, hu⟩ := get_map_some (g := fun t => (puts us a).tmps.getD t undef) (List.mem_range.2 ht)
          obtain ⟨u', hu'⟩ := get_append_some (X := full n (puts us a)) hu (F := envs G' γ F)
          rw [hFs.get t u' hu', Hf.get t u' (by rw [get_cons, if_neg (Ne.symm hte)]; exact hu')]
        have as : ∀ t, (∀ u ∈ us, u.1 ≠ t) → a'.tmps[t]? = b.tmps[t]? := fun t ht => by rw [← hab]; exact (puts_out ht).symm
        have cg : ∀ T1 e1 G1, G = T1 ++ e1 :: G1 → G1.length ≠ i → listed.getD G1.length false = true → e1.f (gput γ e.d x) = e1.f γ ∧ e1.out (gput γ e.d x) = e1.out γ := fun T1 e1 G1 h1 h2 h3 => by
          obtain ⟨_, js, hjs, hcg⟩ := (hok.at h1).1
          refine hcg _ _ fun k hk => gput_ne fun hke => ?_
          unfold jsOk at hjs
          rw [List.all_eq_true] at hjs
          have h4 := hjs k hk
          rw [List.any_eq_true] at h4
          obtain ⟨j, hj, h5⟩ := h4
          rw [List.mem_range] at hj
          rw [Bool.and_eq_true] at h5
          obtain ⟨h6, h7⟩ := h5
          have hjm : j < m := by have := len _ _ _ h1; omega
          cases hdj : dstAt ops j with
          | none => rw [hdj] at h7; cases h7
          | some dj =>
            rw [hdj] at h7
            have h8 := Nat.eq_of_beq_eq_true h7
            have hji : j = i := by
              have hdi := dst _ _ _ hG
              rw [hl'] at hdi
              rcases Nat.lt_trichotomy j i with h | h | h
              · exact absurd (h8.trans hke) (C.dist _ _ _ _ h him hdj hdi)
              · exact h
              · exact absurd (h8.trans hke).symm (C.dist _ _ _ _ h hjm hdi hdj)
            subst hji
            have := dep_listed hcl _ h6 h3
            rw [hun] at this; cases this
        have al : ∀ T1 x1 G1, G = T1 ++ x1 :: G1 → G1.length ≠ i → Alike listed (listed.setIfInBounds i true) γ (gput γ e.d x) x1 G1.length := fun T1 x1 G1 h1 h2 => ⟨getD_set_ne false (Ne.symm h2), fun h3 => (cg _ _ _ h1 h2 h3).2⟩
        refine ih (listed.setIfInBounds i true) (gput γ e.d x) a' w' ?_ (by simpa using hsz) (hcl.set hi) (fun k hk => ?_) (fun T1 e1 G1 h1 h2 => ?_) ⟨?_, ?_, fun t v hv => ?_⟩ ?_
        · have := cnt_set hun (by omega) (m := m)
          rw [if_pos him] at this
          omega
        · rw [getD_set_ne false (by omega)]; exact htl k hk
        · by_cases h3 : G1.length = i
          · obtain ⟨_, rfl, _⟩ := at_inj h1 hG (h3.trans hl'.symm)
            rw [as _ fun u hu => ?_]
            · exact Hf.get _ _ (by rw [get_cons, if_pos rfl])
            · obtain ⟨T2, e2, G2, g1, g2, g3, rfl⟩ := hus u hu
              exact hne' _ _ _ g1 (by omega)
          · rw [getD_set_ne false (Ne.symm h3)] at h2
            have hnu : ∀ u ∈ us, u.1 ≠ e1.d := fun u hu hd => by
              obtain ⟨T2, e2, G2, g1, g2, g3, rfl⟩ := hus u hu
              rw [uniq _ _ _ _ _ _ g1 h1 hd, h2] at g3; cases g3
            rw [as _ hnu, bs _ (hlt _ _ _ h1) (hne' _ _ _ h1 h3), puts_out hnu, (cg _ _ _ h1 h3 h2).1]
            exact hfacts _ _ _ h1 h2
        · have := Hf.size; rw [← hab, puts_size] at this; exact this
        · have := Hf.defers; rw [← hab, puts_defers] at this; exact this
        · have h0 := hF.get t v hv
          have htn : t < n := by have := (Array.getElem?_eq_some_iff.1 h0).1; rw [hF.size] at this; exact this
          have hnu : ∀ u ∈ us, u.1 ≠ t := fun u hu => by
            obtain ⟨T2, e2, G2, g1, g2, g3, rfl⟩ := hus u hu
            exact C.fs t _ _ (get_slot hv) (len _ _ _ g1) (dst _ _ _ g1)
          rw [as t hnu, bs t htn (Ne.symm (C.fs t _ _ (get_slot hv) (len _ _ _ hG) (dst _ _ _ hG))), puts_out hnu]
          exact h0
        · rw [hG, toks_split, hl', if_pos (getD_set.2 (.inr ⟨rfl, by omega⟩)), tops_same (fun T' x1 T'' hT => ?_), toks_same (fun T' x1 G'' hT => ?_)]
          · exact Sep.midIn Hs.all_in
          · exact al (T ++ e :: T') x1 G'' (by rw [hG, hT]; simp) (by rw [← hl', hT]; simp; omega)
          · have := al T' x1 (T'' ++ e :: G') (by rw [hG, hT]; simp) (by simp; omega)
            rw [show (T'' ++ e :: G').length = T''.length + (i + 1) by simp; omega] at this
            exact this

/-! ### the rules: planned one by one -/
def Pa (P : Program) (ops : Array Oper) (Q : Exit → Act → World → Prop) (E : World) (n : Nat) (l : List As) (F : Env) (Gl : Prop) (m : Nat) (EE : Gh → Env) (LL : Gh → List As) (PP : List As) : Prop :=
  ∀ G : List PE, G.length = m → PlanOk P ops Q E n l F G → (∀ γ, envs G γ F = EE γ) → (∀ γ, mks G γ l = LL γ) → pres G l = PP → Gl
variable {Gl : Prop} {m : Nat} {EE : Gh → Env} {LL : Gh → List As} {PP : List As} {o : Oper} {d : Nat} {js : List Nat}
theorem Pa.step (pre : List As) (f : Gh → Value) (out : Gh → List As) (ho : ops[m]? = some o) (hd : o.dst = some d) (hdn : Nat.blt d n = true) (hg : o.guard = none)
    (tri : ∀ (γ : Gh) (Rr : As) (X : Env) (K : Act → World → Prop), (∀ x, Jk E (out (gput γ d x) ++ Rr :: l) n ((d, f (gput γ d x)) :: (EE γ ++ X)) K) → Jop P ops Q o E (pre ++ Rr :: l) n (EE γ ++ X) K)
    (hjs : jsOk ops m js = true) (cg : ∀ γ γ' : Gh, (∀ k ∈ js, γ k = γ' k) → f γ = f γ' ∧ out γ = out γ')
    (k : Pa P ops Q E n l F Gl (m + 1) (fun γ => (d, f γ) :: EE γ) (fun γ => out γ ++ LL γ) (pre ++ PP)) : Pa P ops Q E n l F Gl m EE LL PP := by
  intro G hm hok hE hL hP
  refine k (⟨d, pre, f, out⟩ :: G) (by simp [hm]) ⟨hok, ⟨o, by rw [hm]; exact ho, hd, hdn, hg, fun γ Rr X K h => ?_⟩, js, by rw [hm]; exact hjs, cg⟩ (fun γ => by rw [envs, hE]) (fun γ => by rw [mks, hL]) (by rw [pres, hP])
  have := tri γ Rr X K
  rw [← hE γ] at this
  exact this h
/-- A value; nothing of memory turns. -/
theorem Pa.det {f : Gh → Value} (js : List Nat) (ho : ops[m]? = some o) (hd : o.dst = some d) (hdn : Nat.blt d n = true) (hg : o.guard = none) (hjs : jsOk ops m js = true) (hdj : d ∉ js)
    (tri : ∀ (γ : Gh) (Rr : As) (X : Env) (K : Act → World → Prop), Jk E (Rr :: l) n ((d, f γ) :: (EE γ ++ X)) K → Jop P ops Q o E (Rr :: l) n (EE γ ++ X) K)
    (cg : ∀ γ γ' : Gh, (∀ k ∈ js, γ k = γ' k) → f γ = f γ')
    (k : Pa P ops Q E n l F Gl (m + 1) (fun γ => (d, f γ) :: EE γ) LL PP) : Pa P ops Q E n l F Gl m EE LL PP :=
  Pa.step [] f (fun _ => []) ho hd hdn hg (fun γ Rr X K h => tri γ Rr X K (by
    have h1 := h (γ d)
    rw [cg (gput γ d (γ d)) γ fun k hk => gput_ne fun e => hdj (e ▸ hk)] at h1
    exact h1)) hjs (fun γ γ' h => ⟨cg γ γ' h, rfl⟩) k
/-- A fresh thing, by its number. -/
theorem Pa.nat {f : Gh → Nat → Value} {A : Gh → Nat → As} (js : List Nat) (ho : ops[m]? = some o) (hd : o.dst = some d) (hdn : Nat.blt d n = true) (hg : o.guard = none) (hjs : jsOk ops m (d :: js) = true) (hdj : d ∉ js)
    (tri : ∀ (γ : Gh) (Rr : As) (X : Env) (K : Act → World → Prop), (∀ b, Jk E (A γ b :: Rr :: l) n ((d, f γ b) :: (EE γ ++ X)) K) → Jop P ops Q o E (Rr :: l) n (EE γ ++ X) K)
    (cg : ∀ γ γ' : Gh, (∀ k ∈ js, γ k = γ' k) → f γ = f γ' ∧ A γ = A γ')
    (k : Pa P ops Q E n l F Gl (m + 1) (fun γ => (d, f γ (γ d).1) :: EE γ) (fun γ => A γ (γ d).1 :: LL γ) PP) : Pa P ops Q E n l F Gl m EE LL PP :=
  Pa.step (js := d :: js) [] (fun γ => f γ (γ d).1) (fun γ => [A γ (γ d).1]) ho hd hdn hg (fun γ Rr X K h => tri γ Rr X K fun b => by
    have h1 := h (b, undef)
    have h2 := cg (gput γ d (b, undef)) γ fun k hk => gput_ne fun e => hdj (e ▸ hk)
    rw [h2.1, h2.2, gput_self] at h1
    exact h1) hjs (fun γ γ' h => by
      have h2 := cg γ γ' fun k hk => h k (List.mem_cons_of_mem _ hk)
      rw [h2.1, h2.2, h d (by simp)]; exact ⟨rfl, rfl⟩) k
/-- A fresh thing, by its value. -/
theorem Pa.val {A : Gh → Value → As} (js : List Nat) (ho : ops[m]? = some o) (hd : o.dst = some d) (hdn : Nat.blt d n = true) (hg : o.guard = none) (hjs : jsOk ops m (d :: js) = true) (hdj : d ∉ js)
    (tri : ∀ (γ : Gh) (Rr : As) (X : Env) (K : Act → World → Prop), (∀ v, Jk E (A γ v :: Rr :: l) n ((d, v) :: (EE γ ++ X)) K) → Jop P ops Q o E (Rr :: l) n (EE γ ++ X) K)
    (cg : ∀ γ γ' : Gh, (∀ k ∈ js, γ k = γ' k) → A γ = A γ')
    (k : Pa P ops Q E n l F Gl (m + 1) (fun γ => (d, (γ d).2) :: EE γ) (fun γ => A γ (γ d).2 :: LL γ) PP) : Pa P ops Q E n l F Gl m EE LL PP :=
  Pa.step (js := d :: js) [] (fun γ => (γ d).2) (fun γ => [A γ (γ d).2]) ho hd hdn hg (fun γ Rr X K h => tri γ Rr X K fun b => by
    have h1 := h (0, b)
    have h2 := cg (gput γ d (0, b)) γ fun k hk => gput_ne fun e => hdj (e ▸ hk)
    rw [h2, gput_self] at h1
    exact h1) hjs (fun γ γ' h => by
      have h2 := cg γ γ' fun k hk => h k (List.mem_cons_of_mem _ hk)
      rw [h2, h d (by simp)]; exact ⟨rfl, rfl⟩) k
/-- A thing of its own, turned; a value. -/
theorem Pa.use {f : Gh → Value} {B : Gh → As} (A : As) (js : List Nat) (ho : ops[m]? = some o) (hd : o.dst = some d) (hdn : Nat.blt d n = true) (hg : o.guard = none) (hjs : jsOk ops m js = true) (hdj : d ∉ js)
    (tri : ∀ (γ : Gh) (Rr : As) (X : Env) (K : Act → World → Prop), Jk E (B γ :: Rr :: l) n ((d, f γ) :: (EE γ ++ X)) K → Jop P ops Q o E (A :: Rr :: l) n (EE γ ++ X) K)
    (cg : ∀ γ γ' : Gh, (∀ k ∈ js, γ k = γ' k) → f γ = f γ' ∧ B γ = B γ')
    (k : Pa P ops Q E n l F Gl (m + 1) (fun γ => (d, f γ) :: EE γ) (fun γ => B γ :: LL γ) (A :: PP)) : Pa P ops Q E n l F Gl m EE LL PP :=
  Pa.step [A] f (fun γ => [B γ]) ho hd hdn hg (fun γ Rr X K h => tri γ Rr X K (by
    have h1 := h (γ d)
    have h2 := cg (gput γ d (γ d)) γ fun k hk => gput_ne fun e => hdj (e ▸ hk)
    rw [h2.1, h2.2] at h1
    exact h1)) hjs (fun γ γ' h => ⟨(cg γ γ' h).1, by rw [(cg γ γ' h).2]⟩) k
/-- A thing of its own, turned, and a fresh one beside it, by its value. -/
theorem Pa.useV {B : Gh → Value → As} {C : Gh → Value → As} (A : As) (js : List Nat) (ho : ops[m]? = some o) (hd : o.dst = some d) (hdn : Nat.blt d n = true) (hg : o.guard = none) (hjs : jsOk ops m (d :: js) = true) (hdj : d ∉ js)
    (tri : ∀ (γ : Gh) (Rr : As) (X : Env) (K : Act → World → Prop), (∀ v, Jk E (B γ v :: C γ v :: Rr :: l) n ((d, v) :: (EE γ ++ X)) K) → Jop P ops Q o E (A :: Rr :: l) n (EE γ ++ X) K)
    (cg : ∀ γ γ' : Gh, (∀ k ∈ js, γ k = γ' k) → B γ = B γ' ∧ C γ = C γ')
    (k : Pa P ops Q E n l F Gl (m + 1) (fun γ => (d, (γ d).2) :: EE γ) (fun γ => B γ (γ d).2 :: C γ (γ d).2 :: LL γ) (A :: PP)) : Pa P ops Q E n l F Gl m EE LL PP :=
  Pa.step (js := d :: js) [A] (fun γ => (γ d).2) (fun γ => [B γ (γ d).2, C γ (γ d).2]) ho hd hdn hg (fun γ Rr X K h => tri γ Rr X K fun b => by
    have h1 := h (0, b)
    have h2 := cg (gput γ d (0, b)) γ fun k hk => gput_ne fun e => hdj (e ▸ hk)
    rw [h2.1, h2.2, gput_self] at h1
    exact h1) hjs (fun γ γ' h => by
      have h2 := cg γ γ' fun k hk => h k (List.mem_cons_of_mem _ hk)
      rw [h2.1, h2.2, h d (by simp)]; exact ⟨rfl, rfl⟩) k
theorem J_drawP {L l0 : List As} {id : Nat} {os : List Oper} (_ : Picks L l0 l) (k : Pa P os.toArray Q E n l F (Jk E l0 n F ((Code.region id os.toArray true).wp P Q)) 0 (fun _ => F) (fun _ => l) l) :
    Jk E l0 n F ((Code.region id os.toArray true).wp P Q) := k [] rfl trivial (fun _ => rfl) (fun _ => rfl) rfl
theorem Pa.fin {l0 : List As} {id : Nat} {os : List Oper} {fs : List Nat} (N tn : Nat) (hN : os.toArray.size = N) (hn : N - m = tn) (hm : P.follows .mixedOrders = true) (hfs : F.map Prod.fst = fs) (hchk : planChk os.toArray m fs = true) (hs : Sub l0 PP)
    (hQ : ∀ c a (d : Nat) v w, Q (.panic c) (a.put (some d) v) w → Q (.panic c) a w)
    (k : ∀ γ, Jk E (LL γ) n (EE γ) (wpAny P .any os.toArray Q tn (upto m N))) :
    Pa P os.toArray Q E n l F (Jk E l0 n F ((Code.region id os.toArray true).wp P Q)) m EE LL PP := by
  intro G hG hok hE hL hP w a H hF
  subst hfs hn hN
  have C := Chk.of hchk
  have hrep : ∀ j, (Array.replicate os.toArray.size false).getD j false = false := fun j => by
    rw [Array.getD_eq_getD_getElem?, Array.getElem?_replicate]; split <;> rfl
  have hcnt : ∀ m, cnt (Array.replicate os.toArray.size false) m = m := fun m => by
    unfold cnt
    rw [List.filter_eq_self.2 (fun j _ => by rw [hrep]; rfl)]; simp
  have := plan_sound hG hok C hQ (fun γ => by rw [hL, hE]; exact k γ) m (Array.replicate os.toArray.size false) (fun _ => (0, undef)) a w.drew (hcnt m) (by simp)
    (fun j o ho h => by rw [hrep] at h; cases h) (fun k _ => hrep k) (fun T e G' _ h => by rw [hrep] at h; cases h) hF (pres_in (fun j _ => hrep j) (by rw [hP]; exact hs.sep H.drew))
  rw [Nat.sub_add_cancel C.le] at this
  exact wp_region_any hm this
end
end Go.Pse
