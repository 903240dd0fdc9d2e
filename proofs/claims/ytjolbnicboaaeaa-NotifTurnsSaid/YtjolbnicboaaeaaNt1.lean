/-
  Notifications, the program's and the document's: contracts of their methods.
-/
import Derived.Test.YtjolbnicboaaeaaLs2
namespace Go.Pse
open Go.RowKit Go.Proofs

/-! ### plain: a word, and who waits for it -/
abbrev orb (w x : Int) : Int := bits .or .u32 w x
def woke (w : Int) (xs : List ID) (x : Int) : Bool := !decide (orb w x = 0) && !xs.isEmpty
def sigI (w : Int) (xs : List ID) (x : Int) : ID := if woke w xs x then xs.headD (0, 0) else (0, 0)
def sigV (w : Int) (xs : List ID) (x : Int) : Int := if woke w xs x then orb w x else 0
def sigW (w : Int) (xs : List ID) (x : Int) : Int := if woke w xs x then 0 else orb w x
def sigL (w : Int) (xs : List ID) (x : Int) : List ID := if woke w xs x then xs.tail else xs
def waitL (w : Int) (xs : List ID) (i : ID) : List ID := if w = 0 then lpush xs i else xs
theorem sigL_len (w : Int) (xs : List ID) (x : Int) : (sigL w xs x).length ≤ xs.length := by unfold sigL; split <;> simp
theorem waitL_len (w : Int) (xs : List ID) (i : ID) : (waitL w xs i).length ≤ xs.length + 1 := by
  unfold waitL; split
  · exact lpush_len xs i
  · omega

def ntP (b o : Nat) (w : Int) (xs : List ID)  : Prop := True
def ntL (b o : Nat) (w : Int) (xs : List ID)  : List As := [fld b o [.int .u32 w], lsA b (o + 1) xs]
def ntA (b o : Nat) (w : Int) (xs : List ID) : As := As.ex fun g : Unit => As.all (As.pure (ntP b o w xs ) :: ntL b o w xs )
theorem J_ntO {E : World} {l : List As} {n : Nat} {F : Env} {K : Act → World → Prop} {b o : Nat} {w : Int} {xs : List ID} (k : ∀ (_ : Unit), ntP b o w xs  → Jk E (fld b o [.int .u32 w] :: lsA b (o + 1) xs :: l) n F K) : Jk E (ntA b o w xs :: l) n F K := J_unfold (f := fun g : Unit => As.all (As.pure (ntP b o w xs ) :: ntL b o w xs )) (fun _ => rfl) (fun g h => k () h)
theorem J_ntS {E : World} {l m : List As} {n : Nat} {F : Env} {K : Act → World → Prop} {b o : Nat} {w : Int} {xs : List ID}  (hs : Picks [fld b o [.int .u32 w], lsA b (o + 1) xs] l m) (h : ntP b o w xs ) (k : Jk E (ntA b o w xs :: m) n F K) : Jk E l n F K := J_fold (f := fun g : Unit => As.all (As.pure (ntP b o w xs ) :: ntL b o w xs )) () rfl hs h k

def rnP (b o : Nat) (w : Int) (xs : List ID)  : Prop := True
def rnL (b o : Nat) (w : Int) (xs : List ID)  : List As := [fld b o [.int .u32 w], rlA b (o + 1) xs]
def rnA (b o : Nat) (w : Int) (xs : List ID) : As := As.ex fun g : Unit => As.all (As.pure (rnP b o w xs ) :: rnL b o w xs )
theorem J_rnO {E : World} {l : List As} {n : Nat} {F : Env} {K : Act → World → Prop} {b o : Nat} {w : Int} {xs : List ID} (k : ∀ (_ : Unit), rnP b o w xs  → Jk E (fld b o [.int .u32 w] :: rlA b (o + 1) xs :: l) n F K) : Jk E (rnA b o w xs :: l) n F K := J_unfold (f := fun g : Unit => As.all (As.pure (rnP b o w xs ) :: rnL b o w xs )) (fun _ => rfl) (fun g h => k () h)
theorem J_rnS {E : World} {l m : List As} {n : Nat} {F : Env} {K : Act → World → Prop} {b o : Nat} {w : Int} {xs : List ID}  (hs : Picks [fld b o [.int .u32 w], rlA b (o + 1) xs] l m) (h : rnP b o w xs ) (k : Jk E (rnA b o w xs :: m) n F K) : Jk E l n F K := J_fold (f := fun g : Unit => As.all (As.pure (rnP b o w xs ) :: rnL b o w xs )) () rfl hs h k

set_option maxRecDepth 100000 in
set_option maxHeartbeats 4000000 in
theorem nWord {E : World} {l m : List As}{b o : Nat} {w : Int} {xs : List ID} (hp : Pick (ntA b o w xs) l m) (hb : xs.length ≤ 90000) :
    Con Try.prog 66 #[.pointer (some ⟨b, o, none⟩)] E l (fun _ : Unit => .int .u32 w) (fun _ => ntA b o w xs :: m) := by
  refine Con.body (vs := [.pointer (some ⟨b, o, none⟩)]) (n := 7) Try.func66 rfl rfl [(0, .pointer (some ⟨b, o, none⟩))] (env_ok 1 rfl) ?_
  refine J_pick hp ?_
  refine J_ntO fun _ _ => ?_
  refine J_seq ?_
  refine J_region ?_
  refine L_pur rfl (p_assign rfl) ?_
  refine L_nil ?_
  refine Q_then ?_
  refine J_seq ?_
  refine J_region ?_
  refine L_pur rfl (p_move rfl) ?_
  refine L_pur rfl (p_nilCheck rfl) ?_
  refine L_pur rfl (p_fieldAddr rfl fa116_0) ?_
  refine L_val rfl (v_loadL rfl ty37 (by repeat (first | with_reducible exact Has.here | with_reducible assumption | with_reducible apply Has.there)) rfl (by exact rfl)) ?_
  refine L_pur rfl (p_assign rfl) ?_
  refine L_nil ?_
  refine Q_then ?_
  refine J_ret ?_
  refine J_ntS (b := b) (o := o) (w := w) (xs := xs) (by repeat (first | exact Picks.nil | apply Picks.cons; (repeat (first | with_reducible exact Pick.here | with_reducible assumption | with_reducible apply Pick.there)))) trivial ?_
  exact J_return (()) Try.results66 (.tmp rfl .nil) rfl (by repeat (first | exact Sub.nil | exact Sub.refl | refine Sub.cons (by repeat (first | exact Pick.here | apply Pick.there)) ?_ | refine Sub.drop ?_))

set_option maxRecDepth 100000 in
set_option maxHeartbeats 4000000 in
theorem nWaits {E : World} {l m : List As}{b o : Nat} {w : Int} {xs : List ID} (hp : Pick (ntA b o w xs) l m) (hb : xs.length ≤ 90000) :
    Con Try.prog 64 #[.pointer (some ⟨b, o, none⟩)] E l (fun v : Value => v) (fun v => row 36 2 v (xs.map encI) :: ntA b o w xs :: m) := by
  refine Con.body (vs := [.pointer (some ⟨b, o, none⟩)]) (n := 7) Try.func64 rfl rfl [(0, .pointer (some ⟨b, o, none⟩))] (env_ok 1 rfl) ?_
  refine J_pick hp ?_
  refine J_ntO fun _ _ => ?_
  refine J_seq ?_
  refine J_region ?_
  refine L_pur rfl (p_assign rfl) ?_
  refine L_nil ?_
  refine Q_then ?_
  refine J_seq ?_
  refine J_region ?_
  refine L_pur rfl (p_move rfl) ?_
  refine L_pur rfl (p_nilCheck rfl) ?_
  refine L_pur rfl (p_fieldAddr rfl fa116_1) ?_
  refine L_op (x_call Try.func56 nm56 bd56 (.cons rfl .nil) rfl (lAll (xs := xs) (by repeat (first | with_reducible exact Pick.here | with_reducible assumption | with_reducible apply Pick.there)) (by omega)) fun v6 => ?_)
  refine J_row .here fun hw6 a6 c6 hv6 hl6 hm6 hz6 => ?_
  subst hv6
  refine L_pur rfl (p_assign rfl) ?_
  refine L_nil ?_
  refine Q_then ?_
  refine J_ret ?_
  refine J_ntS (b := b) (o := o) (w := w) (xs := xs) (by repeat (first | exact Picks.nil | apply Picks.cons; (repeat (first | with_reducible exact Pick.here | with_reducible assumption | with_reducible apply Pick.there)))) trivial ?_
  exact J_return (_) Try.results64 (.tmp rfl .nil) rfl (by repeat (first | exact Sub.nil | exact Sub.refl | refine Sub.cons (by repeat (first | exact Pick.here | apply Pick.there)) ?_ | refine Sub.drop ?_))

set_option maxRecDepth 100000 in
set_option maxHeartbeats 4000000 in
theorem nDrop {E : World} {l m : List As}{b o : Nat} {w : Int} {xs : List ID} (hp : Pick (ntA b o w xs) l m) (hb : xs.length ≤ 90000) (i : ID) :
    Con Try.prog 68 #[.pointer (some ⟨b, o, none⟩), .agg (encI i).toArray] E l (fun _ : Unit => .bool (decide (i ∈ xs))) (fun _ => ntA b o w (ldrop xs i) :: m) := by
  refine Con.body (vs := [.pointer (some ⟨b, o, none⟩), .agg (encI i).toArray]) (n := 10) Try.func68 rfl rfl [(0, .pointer (some ⟨b, o, none⟩)), (1, .agg (encI i).toArray)] (env_ok 2 rfl) ?_
  refine J_pick hp ?_
  refine J_ntO fun _ _ => ?_
  refine J_seq ?_
  refine J_region ?_
  refine L_op (x_box rfl rfl rfl fun b3 => ?_)
  refine L_pur rfl (p_assign rfl) ?_
  refine L_nil ?_
  refine Q_then ?_
  refine J_seq ?_
  refine J_drawT 4 mixed (by kernel_rfl) ?_
  refine S_val rfl (Pur.vl (p_move rfl)) ?_
  refine S_val rfl (Pur.vl (p_nilCheck rfl)) ?_
  refine S_val rfl (Pur.vl (p_fieldAddr rfl fa116_1)) ?_
  refine S_val rfl (v_loadA rfl ty36 (by repeat (first | with_reducible exact Has.here | with_reducible assumption | with_reducible apply Has.there)) (by first | exact Cut.full rfl | ((repeat constructor); done) | exact Cut.full (by first | rfl | simp [*]))) ?_
  refine S_nil ?_
  refine L_op (x_call Try.func47 nm47 bd47 (.cons rfl (.cons rfl .nil)) rfl (lDrop (xs := xs) (i := i) (by repeat (first | with_reducible exact Pick.here | with_reducible assumption | with_reducible apply Pick.there)) (by omega)) fun _ => ?_)
  refine L_pur rfl (p_assign rfl) ?_
  refine L_nil ?_
  refine Q_then ?_
  refine J_ret ?_
  refine J_ntS (b := b) (o := o) (w := w) (xs := ldrop xs i) (by repeat (first | exact Picks.nil | apply Picks.cons; (repeat (first | with_reducible exact Pick.here | with_reducible assumption | with_reducible apply Pick.there)))) trivial ?_
  exact J_return (()) Try.results68 (.tmp rfl .nil) rfl (by repeat (first | exact Sub.nil | exact Sub.refl | refine Sub.cons (by repeat (first | exact Pick.here | apply Pick.there)) ?_ | refine Sub.drop ?_))

set_option maxRecDepth 100000 in
set_option maxHeartbeats 4000000 in
theorem nWait {E : World} {l m : List As}{b o : Nat} {w : Int} {xs : List ID} (hp : Pick (ntA b o w xs) l m) (hb : xs.length ≤ 90000) (i : ID) :
    Con Try.prog 63 #[.pointer (some ⟨b, o, none⟩), .agg (encI i).toArray] E l (fun _ : Unit => .tuple #[.int .u32 w, .bool (!decide (w = 0))]) (fun _ => ntA b o 0 (waitL w xs i) :: m) := by
  refine Con.body (vs := [.pointer (some ⟨b, o, none⟩), .agg (encI i).toArray]) (n := 22) Try.func63 rfl rfl [(0, .pointer (some ⟨b, o, none⟩)), (1, .agg (encI i).toArray)] (env_ok 2 rfl) ?_
  refine J_pick hp ?_
  refine J_ntO fun _ _ => ?_
  refine J_seq ?_
  refine J_region ?_
  refine L_op (x_box rfl rfl rfl fun b3 => ?_)
  refine L_pur rfl (p_assign rfl) ?_
  refine L_pur rfl (p_assign rfl) ?_
  refine L_nil ?_
  refine Q_then ?_
  refine J_seq ?_
  refine J_seq ?_
  refine J_region ?_
  refine L_pur rfl (p_move rfl) ?_
  refine L_pur rfl (p_nilCheck rfl) ?_
  refine L_pur rfl (p_fieldAddr rfl fa116_0) ?_
  refine L_val rfl (v_loadL rfl ty37 (by repeat (first | with_reducible exact Has.here | with_reducible assumption | with_reducible apply Has.there)) rfl (by exact rfl)) ?_
  refine L_pur rfl (p_assign rfl) ?_
  refine L_nil ?_
  refine Q_then ?_
  refine J_seq ?_
  refine J_region ?_
  refine L_pur rfl (p_move rfl) ?_
  refine L_pur rfl (p_neq rfl rfl) ?_
  refine L_nil ?_
  refine Q_then ?_
  refine C_dec rfl (fun h12 => ?_) (fun h12 => ?_)
  ·
    have hwl : waitL w xs i = xs := if_neg h12
    refine J_seq ?_
    refine J_region ?_
    refine L_pur rfl (p_move rfl) ?_
    refine L_pur rfl (p_nilCheck rfl) ?_
    refine L_pur rfl (p_fieldAddr rfl fa116_0) ?_
    refine L_op (x_storeL rfl rfl ty37 rfl (by first | rfl | (simp [*]; done)) (by first | rfl | (simp [*]; done)) rfl (by repeat (first | with_reducible exact Rep1.here | with_reducible apply Rep1.there)) rfl (by first | exact Put.full rfl | ((repeat constructor); done) | exact Put.full (by first | rfl | simp [*])) ?_)
    refine L_nil ?_
    refine Q_then ?_
    refine J_seq ?_
    refine J_region ?_
    refine L_pur rfl (p_move rfl) ?_
    refine L_pur rfl (p_assign rfl) ?_
    refine L_pur rfl (p_assign rfl) ?_
    refine L_nil ?_
    refine Q_then ?_
    refine J_ret ?_
    refine Q_then_ret ?_
    refine J_ntS (b := b) (o := o) (w := 0) (xs := xs) (by repeat (first | exact Picks.nil | apply Picks.cons; (repeat (first | with_reducible exact Pick.here | with_reducible assumption | with_reducible apply Pick.there)))) trivial ?_
    refine J_asTo (B := ntA b o 0 (waitL w xs i)) (by rw [hwl]) ?_
    refine J_return (()) Try.results63 (.tmp rfl (.tmp rfl .nil)) ?_ ?_
    · first | rfl | simp [one, h12]
    · exact (by repeat (first | exact Sub.nil | exact Sub.refl | refine Sub.cons (by repeat (first | exact Pick.here | apply Pick.there)) ?_ | refine Sub.drop ?_))
  ·
    have hw0 : w = 0 := by simpa using h12
    subst hw0
    have hwl : waitL 0 xs i = lpush xs i := if_pos rfl
    refine J_skip ?_
    refine Q_then ?_
    refine J_seq ?_
    refine J_drawT 4 mixed (by kernel_rfl) ?_
    refine S_val rfl (Pur.vl (p_move rfl)) ?_
    refine S_val rfl (Pur.vl (p_nilCheck rfl)) ?_
    refine S_val rfl (Pur.vl (p_fieldAddr rfl fa116_1)) ?_
    refine S_val rfl (v_loadA rfl ty36 (by repeat (first | with_reducible exact Has.here | with_reducible assumption | with_reducible apply Has.there)) (by first | exact Cut.full rfl | ((repeat constructor); done) | exact Cut.full (by first | rfl | simp [*]))) ?_
    refine S_nil ?_
    refine L_op (x_call Try.func46 nm46 bd46 (.cons rfl (.cons rfl .nil)) rfl (lPush (xs := xs) (i := i) (by repeat (first | with_reducible exact Pick.here | with_reducible assumption | with_reducible apply Pick.there)) (by omega)) fun _ => ?_)
    refine L_nil ?_
    refine Q_then ?_
    refine J_seq ?_
    refine J_region ?_
    refine L_pur rfl (p_assign rfl) ?_
    refine L_pur rfl (p_assign rfl) ?_
    refine L_nil ?_
    refine Q_then ?_
    refine J_ret ?_
    refine J_ntS (b := b) (o := o) (w := 0) (xs := lpush xs i) (by repeat (first | exact Picks.nil | apply Picks.cons; (repeat (first | with_reducible exact Pick.here | with_reducible assumption | with_reducible apply Pick.there)))) trivial ?_
    refine J_asTo (B := ntA b o 0 (waitL 0 xs i)) (by rw [hwl]) ?_
    refine J_return (()) Try.results63 (.tmp rfl (.tmp rfl .nil)) ?_ ?_
    · first | rfl | simp [one, h12]
    · exact (by repeat (first | exact Sub.nil | exact Sub.refl | refine Sub.cons (by repeat (first | exact Pick.here | apply Pick.there)) ?_ | refine Sub.drop ?_))

set_option maxRecDepth 100000 in
set_option maxHeartbeats 4000000 in
theorem nSignal {E : World} {l m : List As}{b o : Nat} {w : Int} {xs : List ID} (hp : Pick (ntA b o w xs) l m) (hb : xs.length ≤ 90000) (x : Int) :
    Con Try.prog 65 #[.pointer (some ⟨b, o, none⟩), .int .u32 x] E l (fun _ : Unit => .tuple #[.agg (encI (sigI w xs x)).toArray, .int .u32 (sigV w xs x), .bool (woke w xs x)]) (fun _ => ntA b o (sigW w xs x) (sigL w xs x) :: m) := by
  refine Con.body (vs := [.pointer (some ⟨b, o, none⟩), .int .u32 x]) (n := 43) Try.func65 rfl rfl [(0, .pointer (some ⟨b, o, none⟩)), (1, .int .u32 x)] (env_ok 2 rfl) ?_
  refine J_pick hp ?_
  refine J_ntO fun _ _ => ?_
  refine J_seq ?_
  refine J_region ?_
  refine L_op (x_alloc ty36 rfl fun b4 => ?_)
  refine L_pur rfl (p_assign rfl) ?_
  refine L_pur rfl (p_assign rfl) ?_
  refine L_nil ?_
  refine Q_then ?_
  refine J_seq ?_
  refine J_region ?_
  refine L_pur rfl (p_move rfl) ?_
  refine L_pur rfl (p_nilCheck rfl) ?_
  refine L_pur rfl (p_fieldAddr rfl fa116_0) ?_
  refine L_val rfl (v_loadL rfl ty37 (by repeat (first | with_reducible exact Has.here | with_reducible assumption | with_reducible apply Has.there)) rfl (by exact rfl)) ?_
  refine L_pur rfl (p_move rfl) ?_
  refine L_pur rfl (p_or rfl rfl) ?_
  refine L_pur rfl (p_nilCheck rfl) ?_
  refine L_pur rfl (p_fieldAddr rfl fa116_0) ?_
  refine L_op (x_storeL rfl rfl ty37 rfl (by first | rfl | (simp [*]; done)) (by first | rfl | (simp [*]; done)) rfl (by repeat (first | with_reducible exact Rep1.here | with_reducible apply Rep1.there)) rfl (by first | exact Put.full rfl | ((repeat constructor); done) | exact Put.full (by first | rfl | simp [*])) ?_)
  refine L_nil ?_
  refine Q_then ?_
  refine J_seq ?_
  refine J_seq ?_
  refine J_region ?_
  refine L_pur rfl (p_move rfl) ?_
  refine L_pur rfl (p_nilCheck rfl) ?_
  refine L_pur rfl (p_fieldAddr rfl fa116_0) ?_
  refine L_val rfl (v_loadL rfl ty37 (by repeat (first | with_reducible exact Has.here | with_reducible assumption | with_reducible apply Has.there)) rfl (by exact rfl)) ?_
  refine L_pur rfl (p_eql rfl rfl) ?_
  refine L_nil ?_
  refine Q_then ?_
  refine C_dec rfl (fun h22 => ?_) (fun h22 => ?_)
  ·
    have h22' : orb w x = 0 := h22
    have hwk : woke w xs x = false := by simp [woke, h22']
    have e1 : sigI w xs x = (0, 0) := by simp [sigI, hwk]
    have e2 : sigV w xs x = 0 := by simp [sigV, hwk]
    have e3 : sigW w xs x = orb w x := by simp [sigW, hwk]
    have e4 : sigL w xs x = xs := by simp [sigL, hwk]
    refine J_seq ?_
    refine J_region ?_
    refine L_pur rfl (bld36 .nil (by repeat constructor)) ?_
    refine L_op (x_store rfl rfl ty36 rfl (by first | rfl | (simp [*]; done)) (by first | rfl | (simp [*]; done)) (by repeat (first | with_reducible exact Rep1.here | with_reducible apply Rep1.there)) (by first | exact Put.full rfl | ((repeat constructor); done) | exact Put.full (by first | rfl | simp [*])) ?_)
    refine L_pur rfl (p_assign rfl) ?_
    refine L_pur rfl (p_assign rfl) ?_
    refine L_nil ?_
    refine Q_then ?_
    refine J_ret ?_
    refine Q_then_ret ?_
    refine J_ntS (b := b) (o := o) (w := orb w x) (xs := xs) (by repeat (first | exact Picks.nil | apply Picks.cons; (repeat (first | with_reducible exact Pick.here | with_reducible assumption | with_reducible apply Pick.there)))) trivial ?_
    refine J_asTo (B := ntA b o (sigW w xs x) (sigL w xs x)) (by first | (rw [e3, e4]; done) | (rw [e3, e4]; rfl)) ?_
    refine J_return (()) Try.results65 (.cellA rfl ty36 (by repeat (first | with_reducible exact Has.here | with_reducible assumption | with_reducible apply Has.there)) (by first | exact Cut.full rfl | ((repeat constructor); done) | exact Cut.full (by first | rfl | simp [*])) (.tmp rfl (.tmp rfl .nil))) ?_ ?_
    · rw [e1, e2, hwk]; rfl
    · exact (by repeat (first | exact Sub.nil | exact Sub.refl | refine Sub.cons (by repeat (first | exact Pick.here | apply Pick.there)) ?_ | refine Sub.drop ?_))
  ·
    have h22' : ¬ orb w x = 0 := h22
    refine J_skip ?_
    refine Q_then ?_
    refine J_seq ?_
    refine J_region ?_
    refine L_pur rfl (p_move rfl) ?_
    refine L_pur rfl (p_nilCheck rfl) ?_
    refine L_pur rfl (p_fieldAddr rfl fa116_1) ?_
    refine L_op (x_call Try.func48 nm48 bd48 (.cons rfl .nil) rfl (lPop (xs := xs) (by repeat (first | with_reducible exact Pick.here | with_reducible assumption | with_reducible apply Pick.there)) (by omega)) fun _ => ?_)
    refine L_pur rfl (p_move rfl) ?_
    refine L_pur rfl (p_extract rfl rfl) ?_
    refine L_pur rfl (p_extract rfl rfl) ?_
    refine L_op (x_alloc ty36 rfl fun b7 => ?_)
    refine L_op (x_store rfl rfl ty36 rfl (by first | rfl | (simp [*]; done)) (by first | rfl | (simp [*]; done)) (by repeat (first | with_reducible exact Rep1.here | with_reducible apply Rep1.there)) (by first | exact Put.full rfl | ((repeat constructor); done) | exact Put.full (by first | rfl | simp [*])) ?_)
    refine L_pur rfl (p_assign rfl) ?_
    refine L_nil ?_
    refine Q_then ?_
    refine J_seq ?_
    refine J_seq ?_
    refine J_region ?_
    refine L_pur rfl (p_move rfl) ?_
    refine L_pur rfl (p_not rfl) ?_
    refine L_nil ?_
    refine Q_then ?_
    refine C_split rfl (fun h32 => ?_) (fun h32 => ?_)
    ·
      have hnil : xs = [] := by simpa using h32
      subst hnil
      have hwk : woke w [] x = false := by simp [woke, h22']
      have e1 : sigI w [] x = (0, 0) := by simp [sigI, hwk]
      have e2 : sigV w [] x = 0 := by simp [sigV, hwk]
      have e3 : sigW w [] x = orb w x := by simp [sigW, hwk]
      have e4 : sigL w [] x = [] := by simp [sigL, hwk]
      refine J_seq ?_
      refine J_region ?_
      refine L_pur rfl (bld36 .nil (by repeat constructor)) ?_
      refine L_op (x_store rfl rfl ty36 rfl (by first | rfl | (simp [*]; done)) (by first | rfl | (simp [*]; done)) (by repeat (first | with_reducible exact Rep1.here | with_reducible apply Rep1.there)) (by first | exact Put.full rfl | ((repeat constructor); done) | exact Put.full (by first | rfl | simp [*])) ?_)
      refine L_pur rfl (p_assign rfl) ?_
      refine L_pur rfl (p_assign rfl) ?_
      refine L_nil ?_
      refine Q_then ?_
      refine J_ret ?_
      refine Q_then_ret ?_
      refine J_ntS (b := b) (o := o) (w := orb w x) (xs := List.tail []) (by repeat (first | exact Picks.nil | apply Picks.cons; (repeat (first | with_reducible exact Pick.here | with_reducible assumption | with_reducible apply Pick.there)))) trivial ?_
      refine J_asTo (B := ntA b o (sigW w [] x) (sigL w [] x)) (by first | (rw [e3, e4]; done) | (rw [e3, e4]; rfl)) ?_
      refine J_return (()) Try.results65 (.cellA rfl ty36 (by repeat (first | with_reducible exact Has.here | with_reducible assumption | with_reducible apply Has.there)) (by first | exact Cut.full rfl | ((repeat constructor); done) | exact Cut.full (by first | rfl | simp [*])) (.tmp rfl (.tmp rfl .nil))) ?_ ?_
      · rw [e1, e2, hwk]; rfl
      · exact (by repeat (first | exact Sub.nil | exact Sub.refl | refine Sub.cons (by repeat (first | exact Pick.here | apply Pick.there)) ?_ | refine Sub.drop ?_))
    ·
      have hne : xs.isEmpty = false := by simpa using h32
      have hwk : woke w xs x = true := by simp [woke, h22', hne]
      have e1 : sigI w xs x = xs.headD (0, 0) := by simp [sigI, hwk]
      have e2 : sigV w xs x = orb w x := by simp [sigV, hwk]
      have e3 : sigW w xs x = 0 := by simp [sigW, hwk]
      have e4 : sigL w xs x = xs.tail := by simp [sigL, hwk]
      refine J_skip ?_
      refine Q_then ?_
      refine J_seq ?_
      refine J_region ?_
      refine L_pur rfl (p_move rfl) ?_
      refine L_pur rfl (p_nilCheck rfl) ?_
      refine L_pur rfl (p_fieldAddr rfl fa116_0) ?_
      refine L_val rfl (v_loadL rfl ty37 (by repeat (first | with_reducible exact Has.here | with_reducible assumption | with_reducible apply Has.there)) rfl (by exact rfl)) ?_
      refine L_pur rfl (p_assign rfl) ?_
      refine L_nil ?_
      refine Q_then ?_
      refine J_seq ?_
      refine J_region ?_
      refine L_pur rfl (p_move rfl) ?_
      refine L_pur rfl (p_nilCheck rfl) ?_
      refine L_pur rfl (p_fieldAddr rfl fa116_0) ?_
      refine L_op (x_storeL rfl rfl ty37 rfl (by first | rfl | (simp [*]; done)) (by first | rfl | (simp [*]; done)) rfl (by repeat (first | with_reducible exact Rep1.here | with_reducible apply Rep1.there)) rfl (by first | exact Put.full rfl | ((repeat constructor); done) | exact Put.full (by first | rfl | simp [*])) ?_)
      refine L_nil ?_
      refine Q_then ?_
      refine J_seq ?_
      refine J_region ?_
      refine L_val rfl (v_loadA rfl ty36 (by repeat (first | with_reducible exact Has.here | with_reducible assumption | with_reducible apply Has.there)) (by first | exact Cut.full rfl | ((repeat constructor); done) | exact Cut.full (by first | rfl | simp [*]))) ?_
      refine L_pur rfl (p_move rfl) ?_
      refine L_op (x_store rfl rfl ty36 rfl (by first | rfl | (simp [*]; done)) (by first | rfl | (simp [*]; done)) (by repeat (first | with_reducible exact Rep1.here | with_reducible apply Rep1.there)) (by first | exact Put.full rfl | ((repeat constructor); done) | exact Put.full (by first | rfl | simp [*])) ?_)
      refine L_pur rfl (p_assign rfl) ?_
      refine L_pur rfl (p_assign rfl) ?_
      refine L_nil ?_
      refine Q_then ?_
      refine J_ret ?_
      refine J_ntS (b := b) (o := o) (w := 0) (xs := xs.tail) (by repeat (first | exact Picks.nil | apply Picks.cons; (repeat (first | with_reducible exact Pick.here | with_reducible assumption | with_reducible apply Pick.there)))) trivial ?_
      refine J_asTo (B := ntA b o (sigW w xs x) (sigL w xs x)) (by first | (rw [e3, e4]; done) | (rw [e3, e4]; rfl)) ?_
      refine J_return (()) Try.results65 (.cellA rfl ty36 (by repeat (first | with_reducible exact Has.here | with_reducible assumption | with_reducible apply Has.there)) (by first | exact Cut.full rfl | ((repeat constructor); done) | exact Cut.full (by first | rfl | simp [*])) (.tmp rfl (.tmp rfl .nil))) ?_ ?_
      · rw [e1, e2, hwk]; rfl
      · exact (by repeat (first | exact Sub.nil | exact Sub.refl | refine Sub.cons (by repeat (first | exact Pick.here | apply Pick.there)) ?_ | refine Sub.drop ?_))

set_option maxRecDepth 100000 in
set_option maxHeartbeats 4000000 in
theorem rnWait {E : World} {l m : List As}{b o : Nat} {w : Int} {xs : List ID} (hp : Pick (rnA b o w xs) l m) (hb : xs.length ≤ 90000) (i : ID) :
    Con Try.prog 67 #[.pointer (some ⟨b, o, none⟩), .agg (encI i).toArray] E l (fun _ : Unit => .tuple #[.int .u32 w, .bool (!decide (w = 0))]) (fun _ => rnA b o 0 (waitL w xs i) :: m) := by
  refine Con.body (vs := [.pointer (some ⟨b, o, none⟩), .agg (encI i).toArray]) (n := 25) Try.func67 rfl rfl [(0, .pointer (some ⟨b, o, none⟩)), (1, .agg (encI i).toArray)] (env_ok 2 rfl) ?_
  refine J_pick hp ?_
  refine J_rnO fun _ _ => ?_
  refine J_seq ?_
  refine J_region ?_
  refine L_op (x_box rfl rfl rfl fun b3 => ?_)
  refine L_pur rfl (p_assign rfl) ?_
  refine L_pur rfl (p_assign rfl) ?_
  refine L_nil ?_
  refine Q_then ?_
  refine J_seq ?_
  refine J_seq ?_
  refine J_region ?_
  refine L_pur rfl (p_move rfl) ?_
  refine L_pur rfl (p_nilCheck rfl) ?_
  refine L_pur rfl (p_fieldAddr rfl fa127_0) ?_
  refine L_val rfl (v_loadL rfl ty37 (by repeat (first | with_reducible exact Has.here | with_reducible assumption | with_reducible apply Has.there)) rfl (by exact rfl)) ?_
  refine L_pur rfl (p_eql rfl rfl) ?_
  refine L_nil ?_
  refine Q_then ?_
  refine C_dec rfl (fun h11 => ?_) (fun h11 => ?_)
  ·
    have hw0 : w = 0 := h11
    subst hw0
    have hwl : waitL 0 xs i = lpush xs i := if_pos rfl
    refine J_seq ?_
    refine J_drawT 4 mixed (by kernel_rfl) ?_
    refine S_val rfl (Pur.vl (p_move rfl)) ?_
    refine S_val rfl (Pur.vl (p_nilCheck rfl)) ?_
    refine S_val rfl (Pur.vl (p_fieldAddr rfl fa127_1)) ?_
    refine S_val rfl (v_loadA rfl ty36 (by repeat (first | with_reducible exact Has.here | with_reducible assumption | with_reducible apply Has.there)) (by first | exact Cut.full rfl | ((repeat constructor); done) | exact Cut.full (by first | rfl | simp [*]))) ?_
    refine S_nil ?_
    refine L_op (x_call Try.func52 nm52 bd52 (.cons rfl (.cons rfl .nil)) rfl (rlPush (xs := xs) (i := i) (by repeat (first | with_reducible exact Pick.here | with_reducible assumption | with_reducible apply Pick.there)) (by omega)) fun _ => ?_)
    refine L_nil ?_
    refine Q_then ?_
    refine J_seq ?_
    refine J_region ?_
    refine L_pur rfl (p_assign rfl) ?_
    refine L_pur rfl (p_assign rfl) ?_
    refine L_nil ?_
    refine Q_then ?_
    refine J_ret ?_
    refine Q_then_ret ?_
    refine J_rnS (b := b) (o := o) (w := 0) (xs := lpush xs i) (by repeat (first | exact Picks.nil | apply Picks.cons; (repeat (first | with_reducible exact Pick.here | with_reducible assumption | with_reducible apply Pick.there)))) trivial ?_
    refine J_asTo (B := rnA b o 0 (waitL 0 xs i)) (by rw [hwl]) ?_
    refine J_return (()) Try.results67 (.tmp rfl (.tmp rfl .nil)) ?_ ?_
    · first | rfl | simp [one, h11]
    · exact (by repeat (first | exact Sub.nil | exact Sub.refl | refine Sub.cons (by repeat (first | exact Pick.here | apply Pick.there)) ?_ | refine Sub.drop ?_))
  ·
    have hwl : waitL w xs i = xs := if_neg h11
    refine J_skip ?_
    refine Q_then ?_
    refine J_seq ?_
    refine J_region ?_
    refine L_pur rfl (p_move rfl) ?_
    refine L_pur rfl (p_nilCheck rfl) ?_
    refine L_pur rfl (p_fieldAddr rfl fa127_0) ?_
    refine L_val rfl (v_loadL rfl ty37 (by repeat (first | with_reducible exact Has.here | with_reducible assumption | with_reducible apply Has.there)) rfl (by exact rfl)) ?_
    refine L_pur rfl (p_assign rfl) ?_
    refine L_nil ?_
    refine Q_then ?_
    refine J_seq ?_
    refine J_region ?_
    refine L_pur rfl (p_move rfl) ?_
    refine L_pur rfl (p_nilCheck rfl) ?_
    refine L_pur rfl (p_fieldAddr rfl fa127_0) ?_
    refine L_op (x_storeL rfl rfl ty37 rfl (by first | rfl | (simp [*]; done)) (by first | rfl | (simp [*]; done)) rfl (by repeat (first | with_reducible exact Rep1.here | with_reducible apply Rep1.there)) rfl (by first | exact Put.full rfl | ((repeat constructor); done) | exact Put.full (by first | rfl | simp [*])) ?_)
    refine L_nil ?_
    refine Q_then ?_
    refine J_seq ?_
    refine J_region ?_
    refine L_pur rfl (p_move rfl) ?_
    refine L_pur rfl (p_assign rfl) ?_
    refine L_pur rfl (p_assign rfl) ?_
    refine L_nil ?_
    refine Q_then ?_
    refine J_ret ?_
    refine J_rnS (b := b) (o := o) (w := 0) (xs := xs) (by repeat (first | exact Picks.nil | apply Picks.cons; (repeat (first | with_reducible exact Pick.here | with_reducible assumption | with_reducible apply Pick.there)))) trivial ?_
    refine J_asTo (B := rnA b o 0 (waitL w xs i)) (by rw [hwl]) ?_
    refine J_return (()) Try.results67 (.tmp rfl (.tmp rfl .nil)) ?_ ?_
    · first | rfl | simp [one, h11]
    · exact (by repeat (first | exact Sub.nil | exact Sub.refl | refine Sub.cons (by repeat (first | exact Pick.here | apply Pick.there)) ?_ | refine Sub.drop ?_))

set_option maxRecDepth 100000 in
set_option maxHeartbeats 4000000 in
theorem rnSignal {E : World} {l m : List As}{b o : Nat} {w : Int} {xs : List ID} (hp : Pick (rnA b o w xs) l m) (hb : xs.length ≤ 90000) (x : Int) :
    Con Try.prog 69 #[.pointer (some ⟨b, o, none⟩), .int .u32 x] E l (fun _ : Unit => .tuple #[.agg (encI (sigI w xs x)).toArray, .int .u32 (sigV w xs x), .bool (woke w xs x)]) (fun _ => rnA b o (sigW w xs x) (sigL w xs x) :: m) := by
  refine Con.body (vs := [.pointer (some ⟨b, o, none⟩), .int .u32 x]) (n := 50) Try.func69 rfl rfl [(0, .pointer (some ⟨b, o, none⟩)), (1, .int .u32 x)] (env_ok 2 rfl) ?_
  refine J_pick hp ?_
  refine J_rnO fun _ _ => ?_
  refine J_seq ?_
  refine J_region ?_
  refine L_op (x_alloc ty36 rfl fun b4 => ?_)
  refine L_pur rfl (p_assign rfl) ?_
  refine L_pur rfl (p_assign rfl) ?_
  refine L_nil ?_
  refine Q_then ?_
  refine J_seq ?_
  refine J_region ?_
  refine L_pur rfl (p_move rfl) ?_
  refine L_pur rfl (p_move rfl) ?_
  refine L_pur rfl (p_nilCheck rfl) ?_
  refine L_pur rfl (p_fieldAddr rfl fa127_0) ?_
  refine L_val rfl (v_loadL rfl ty37 (by repeat (first | with_reducible exact Has.here | with_reducible assumption | with_reducible apply Has.there)) rfl (by exact rfl)) ?_
  refine L_pur rfl (p_move rfl) ?_
  refine L_pur rfl (p_or rfl rfl) ?_
  refine L_pur rfl (p_nilCheck rfl) ?_
  refine L_pur rfl (p_fieldAddr rfl fa127_0) ?_
  refine L_op (x_storeL rfl rfl ty37 rfl (by first | rfl | (simp [*]; done)) (by first | rfl | (simp [*]; done)) rfl (by repeat (first | with_reducible exact Rep1.here | with_reducible apply Rep1.there)) rfl (by first | exact Put.full rfl | ((repeat constructor); done) | exact Put.full (by first | rfl | simp [*])) ?_)
  refine L_nil ?_
  refine Q_then ?_
  refine J_seq ?_
  refine J_seq ?_
  refine J_region ?_
  refine L_pur rfl (p_move rfl) ?_
  refine L_pur rfl (p_nilCheck rfl) ?_
  refine L_pur rfl (p_fieldAddr rfl fa127_0) ?_
  refine L_val rfl (v_loadL rfl ty37 (by repeat (first | with_reducible exact Has.here | with_reducible assumption | with_reducible apply Has.there)) rfl (by exact rfl)) ?_
  refine L_pur rfl (p_eql rfl rfl) ?_
  refine L_pur rfl (p_move rfl) ?_
  refine J_gsplit (t := 24) rfl (fun h24 => ?_) (fun h24 => ?_)
  ·
    have h24' : orb w x = 0 := of_decide_eq_true h24
    have hwk : woke w xs x = false := by simp [woke, h24']
    have e1 : sigI w xs x = (0, 0) := by simp [sigI, hwk]
    have e2 : sigV w xs x = 0 := by simp [sigV, hwk]
    have e3 : sigW w xs x = orb w x := by simp [sigW, hwk]
    have e4 : sigL w xs x = xs := by simp [sigL, hwk]
    refine L_op (G_off rfl rfl rfl rfl rfl rfl ?_)
    refine L_op (G_off rfl rfl rfl rfl rfl rfl ?_)
    refine L_op (G_off rfl rfl rfl rfl rfl rfl ?_)
    refine L_op (G_off rfl rfl rfl rfl rfl rfl ?_)
    refine L_op (G_off rfl rfl rfl rfl rfl rfl ?_)
    refine L_op (G_off rfl rfl rfl rfl rfl rfl ?_)
    refine L_op (G_off rfl rfl rfl rfl rfl rfl ?_)
    refine L_pur rfl (p_pick_t rfl rfl) ?_
    refine L_nil ?_
    refine Q_then ?_
    refine C_true rfl ?_
    refine J_seq ?_
    refine J_region ?_
    refine L_pur rfl (bld36 .nil (by repeat constructor)) ?_
    refine L_op (x_store rfl rfl ty36 rfl (by first | rfl | (simp [*]; done)) (by first | rfl | (simp [*]; done)) (by repeat (first | with_reducible exact Rep1.here | with_reducible apply Rep1.there)) (by first | exact Put.full rfl | ((repeat constructor); done) | exact Put.full (by first | rfl | simp [*])) ?_)
    refine L_pur rfl (p_assign rfl) ?_
    refine L_pur rfl (p_assign rfl) ?_
    refine L_nil ?_
    refine Q_then ?_
    refine J_ret ?_
    refine Q_then_ret ?_
    refine J_rnS (b := b) (o := o) (w := orb w x) (xs := xs) (by repeat (first | exact Picks.nil | apply Picks.cons; (repeat (first | with_reducible exact Pick.here | with_reducible assumption | with_reducible apply Pick.there)))) trivial ?_
    refine J_asTo (B := rnA b o (sigW w xs x) (sigL w xs x)) (by first | (rw [e3, e4]; done) | (rw [e3, e4]; rfl)) ?_
    refine J_return (()) Try.results69 (.cellA rfl ty36 (by repeat (first | with_reducible exact Has.here | with_reducible assumption | with_reducible apply Has.there)) (by first | exact Cut.full rfl | ((repeat constructor); done) | exact Cut.full (by first | rfl | simp [*])) (.tmp rfl (.tmp rfl .nil))) ?_ ?_
    · rw [e1, e2, hwk]; rfl
    · exact (by repeat (first | exact Sub.nil | exact Sub.refl | refine Sub.cons (by repeat (first | exact Pick.here | apply Pick.there)) ?_ | refine Sub.drop ?_))
  ·
    have h24' : ¬ orb w x = 0 := of_decide_eq_false h24
    refine L_op (G_on rfl rfl rfl ?_)
    refine J_pur (p_move rfl) rfl rfl rfl ?_
    refine L_op (G_on rfl rfl rfl ?_)
    refine J_pur (p_nilCheck rfl) rfl rfl rfl ?_
    refine L_op (G_on rfl rfl rfl ?_)
    refine J_pur (p_fieldAddr rfl fa127_1) rfl rfl rfl ?_
    refine L_op (G_on rfl rfl rfl ?_)
    refine J_pur (p_fieldAddr rfl fa91_0) rfl rfl rfl ?_
    refine L_op (G_on rfl rfl rfl ?_)
    refine Jop_out ?_
    refine J_pick (A := rlA b (o + 1) xs) (by repeat (first | with_reducible exact Pick.here | with_reducible assumption | with_reducible apply Pick.there)) ?_
    refine J_rlO fun vx hwx => ?_
    refine J_row (.there .here) fun hwfx ax capx hvx h1x h2x h3x => ?_
    subst hvx
    refine Jop_in ?_
    refine J_val (v_loadL rfl ty80 (by repeat (first | with_reducible exact Has.here | with_reducible assumption | with_reducible apply Has.there)) rfl (by exact rfl)) rfl rfl rfl ?_
    refine J_rlS (b := b) (o := o + 1) (xs := xs) _ (by repeat (first | exact Picks.nil | apply Picks.cons; (repeat (first | with_reducible exact Pick.here | with_reducible assumption | with_reducible apply Pick.there)))) hwx ?_
    refine L_op (G_on rfl rfl rfl ?_)
    refine J_pur (p_len rfl Try.underlying80) rfl rfl rfl ?_
    refine L_op (G_on rfl rfl rfl ?_)
    refine J_pur (p_eql rfl rfl) rfl rfl rfl ?_
    refine L_pur rfl (p_pick_f rfl rfl) ?_
    refine L_nil ?_
    refine Q_then ?_
    refine C_split rfl (fun h32 => ?_) (fun h32 => ?_)
    ·
      have hnil : xs = [] := by simpa using h32
      have hne : xs.isEmpty = true := by rw [hnil]; rfl
      have hwk : woke w xs x = false := by simp [woke, hne]
      have e1 : sigI w xs x = (0, 0) := by simp [sigI, hwk]
      have e2 : sigV w xs x = 0 := by simp [sigV, hwk]
      have e3 : sigW w xs x = orb w x := by simp [sigW, hwk]
      have e4 : sigL w xs x = xs := by simp [sigL, hwk]
      refine J_seq ?_
      refine J_region ?_
      refine L_pur rfl (bld36 .nil (by repeat constructor)) ?_
      refine L_op (x_store rfl rfl ty36 rfl (by first | rfl | (simp [*]; done)) (by first | rfl | (simp [*]; done)) (by repeat (first | with_reducible exact Rep1.here | with_reducible apply Rep1.there)) (by first | exact Put.full rfl | ((repeat constructor); done) | exact Put.full (by first | rfl | simp [*])) ?_)
      refine L_pur rfl (p_assign rfl) ?_
      refine L_pur rfl (p_assign rfl) ?_
      refine L_nil ?_
      refine Q_then ?_
      refine J_ret ?_
      refine Q_then_ret ?_
      refine J_rnS (b := b) (o := o) (w := orb w x) (xs := xs) (by repeat (first | exact Picks.nil | apply Picks.cons; (repeat (first | with_reducible exact Pick.here | with_reducible assumption | with_reducible apply Pick.there)))) trivial ?_
      refine J_asTo (B := rnA b o (sigW w xs x) (sigL w xs x)) (by first | (rw [e3, e4]; done) | (rw [e3, e4]; rfl)) ?_
      refine J_return (()) Try.results69 (.cellA rfl ty36 (by repeat (first | with_reducible exact Has.here | with_reducible assumption | with_reducible apply Has.there)) (by first | exact Cut.full rfl | ((repeat constructor); done) | exact Cut.full (by first | rfl | simp [*])) (.tmp rfl (.tmp rfl .nil))) ?_ ?_
      · rw [e1, e2, hwk]; rfl
      · exact (by repeat (first | exact Sub.nil | exact Sub.refl | refine Sub.cons (by repeat (first | exact Pick.here | apply Pick.there)) ?_ | refine Sub.drop ?_))
    ·
      have hne : xs.isEmpty = false := by simpa using h32
      have hwk : woke w xs x = true := by simp [woke, h24', hne]
      have e1 : sigI w xs x = xs.headD (0, 0) := by simp [sigI, hwk]
      have e2 : sigV w xs x = orb w x := by simp [sigV, hwk]
      have e3 : sigW w xs x = 0 := by simp [sigW, hwk]
      have e4 : sigL w xs x = xs.tail := by simp [sigL, hwk]
      refine J_skip ?_
      refine Q_then ?_
      refine J_seq ?_
      refine J_region ?_
      refine L_pur rfl (p_move rfl) ?_
      refine L_pur rfl (p_nilCheck rfl) ?_
      refine L_pur rfl (p_fieldAddr rfl fa127_1) ?_
      refine L_op (x_call Try.func50 nm50 bd50 (.cons rfl .nil) rfl (rlPop (xs := xs) (by repeat (first | with_reducible exact Pick.here | with_reducible assumption | with_reducible apply Pick.there)) (by omega)) fun _ => ?_)
      refine L_pur rfl (p_move rfl) ?_
      refine L_pur rfl (p_extract rfl rfl) ?_
      refine L_pur rfl (p_extract rfl rfl) ?_
      refine L_op (x_alloc ty36 rfl fun b7 => ?_)
      refine L_op (x_store rfl rfl ty36 rfl (by first | rfl | (simp [*]; done)) (by first | rfl | (simp [*]; done)) (by repeat (first | with_reducible exact Rep1.here | with_reducible apply Rep1.there)) (by first | exact Put.full rfl | ((repeat constructor); done) | exact Put.full (by first | rfl | simp [*])) ?_)
      refine L_pur rfl (p_assign rfl) ?_
      refine L_nil ?_
      refine Q_then ?_
      refine J_seq ?_
      refine J_region ?_
      refine L_pur rfl (p_move rfl) ?_
      refine L_pur rfl (p_nilCheck rfl) ?_
      refine L_pur rfl (p_fieldAddr rfl fa127_0) ?_
      refine L_val rfl (v_loadL rfl ty37 (by repeat (first | with_reducible exact Has.here | with_reducible assumption | with_reducible apply Has.there)) rfl (by exact rfl)) ?_
      refine L_pur rfl (p_assign rfl) ?_
      refine L_nil ?_
      refine Q_then ?_
      refine J_seq ?_
      refine J_region ?_
      refine L_pur rfl (p_move rfl) ?_
      refine L_pur rfl (p_nilCheck rfl) ?_
      refine L_pur rfl (p_fieldAddr rfl fa127_0) ?_
      refine L_op (x_storeL rfl rfl ty37 rfl (by first | rfl | (simp [*]; done)) (by first | rfl | (simp [*]; done)) rfl (by repeat (first | with_reducible exact Rep1.here | with_reducible apply Rep1.there)) rfl (by first | exact Put.full rfl | ((repeat constructor); done) | exact Put.full (by first | rfl | simp [*])) ?_)
      refine L_nil ?_
      refine Q_then ?_
      refine J_seq ?_
      refine J_region ?_
      refine L_val rfl (v_loadA rfl ty36 (by repeat (first | with_reducible exact Has.here | with_reducible assumption | with_reducible apply Has.there)) (by first | exact Cut.full rfl | ((repeat constructor); done) | exact Cut.full (by first | rfl | simp [*]))) ?_
      refine L_pur rfl (p_move rfl) ?_
      refine L_op (x_store rfl rfl ty36 rfl (by first | rfl | (simp [*]; done)) (by first | rfl | (simp [*]; done)) (by repeat (first | with_reducible exact Rep1.here | with_reducible apply Rep1.there)) (by first | exact Put.full rfl | ((repeat constructor); done) | exact Put.full (by first | rfl | simp [*])) ?_)
      refine L_pur rfl (p_assign rfl) ?_
      refine L_pur rfl (p_assign rfl) ?_
      refine L_nil ?_
      refine Q_then ?_
      refine J_ret ?_
      refine J_rnS (b := b) (o := o) (w := 0) (xs := xs.tail) (by repeat (first | exact Picks.nil | apply Picks.cons; (repeat (first | with_reducible exact Pick.here | with_reducible assumption | with_reducible apply Pick.there)))) trivial ?_
      refine J_asTo (B := rnA b o (sigW w xs x) (sigL w xs x)) (by first | (rw [e3, e4]; done) | (rw [e3, e4]; rfl)) ?_
      refine J_return (()) Try.results69 (.cellA rfl ty36 (by repeat (first | with_reducible exact Has.here | with_reducible assumption | with_reducible apply Has.there)) (by first | exact Cut.full rfl | ((repeat constructor); done) | exact Cut.full (by first | rfl | simp [*])) (.tmp rfl (.tmp rfl .nil))) ?_ ?_
      · rw [e1, e2, hwk]; rfl
      · exact (by repeat (first | exact Sub.nil | exact Sub.refl | refine Sub.cons (by repeat (first | exact Pick.here | apply Pick.there)) ?_ | refine Sub.drop ?_))

end Go.Pse
