/-
  The kinds of things that a kernel holds, and how they lie in memory.
-/
import Derived.Test.YthjgdlhkdjgjpaaGreatTy
import Derived.Test.YthjgdlhkdjgjpaaGreatMore
import Derived.Test.YthjgdlhkdjgjpaaGreatMap
import Derived.Test.YthjgdlhkdjgjpaaGreatStar
import Derived.Test.YthjgdlhkdjgjpaaGreatPar
import Derived.Test.YthjgdlhkdjgjpaaGreatNum
import Derived.Test.YthjgdlhkdjgjpaaGreatIter
import Derived.Test.YthjgdlhkdjgjpaaGreatEnt
namespace Go.Pse
open Go.RowKit Go.Proofs

/-! ### plain: the kinds of things that a kernel holds -/
structure Cap where
  kind : Int
  obj : Int
  size : Int
  badge : Int
  rights : Int
  deriving DecidableEq
def encC (c : Cap) : List Value := [.int .i64 c.kind, .int .i64 c.obj, .int .i64 c.size, .int .i64 c.badge, .int .i64 c.rights]
abbrev Place := Int × Int
abbrev SV := Cap × Place
abbrev kI : Int × Int → Value := fun a => Value.agg #[.int .i64 a.1, .int .i64 a.2]
abbrev kZ : Int → Value := fun a => .int .i64 a
abbrev evZ : Int → Value := fun a => .int .i64 a
abbrev evB : Bool → Value := fun b => .bool b
abbrev evA : Nat → Value := fun b => .pointer (some ⟨b, 0, none⟩)
abbrev evS : SV → Value := fun s => .agg #[.int .i64 s.1.kind, .int .i64 s.1.obj, .int .i64 s.1.size, .int .i64 s.1.badge, .int .i64 s.1.rights, .int .i64 s.2.1, .int .i64 s.2.2]
structure Th where
  unit : Int
  space : Int
  ring : Int
  root : Cap
  deriving DecidableEq
abbrev evT : Th → Value := fun t => .agg #[.int .i64 t.unit, .int .i64 t.space, .int .i64 t.ring, .int .i64 t.root.kind, .int .i64 t.root.obj, .int .i64 t.root.size, .int .i64 t.root.badge, .int .i64 t.root.rights]
abbrev evL : Int × Int → Value := fun b => .agg #[.int .i64 b.1, .int .u32 b.2]
structure Sqe where
  op : Int
  flags : Int
  tag : Int
  cap : Int
  a : Int
  b : Int
  c : Int
  time : Int
  deriving DecidableEq
structure Rq where
  id : ID
  e : Sqe
  prev : Int
  soft : Bool
  started : Bool
  deriving DecidableEq
def encQ (r : Rq) : List Value := [.int .i64 r.id.1, .int .i64 r.id.2, .int .i64 r.e.op, .int .i64 r.e.flags, .int .u32 r.e.tag, .int .u32 r.e.cap, .int .u32 r.e.a, .int .u32 r.e.b, .int .u32 r.e.c, .int .u32 r.e.time, .int .i64 r.prev, .bool r.soft, .bool r.started]
abbrev evQ : Rq → Value := fun r => .agg (encQ r).toArray
abbrev Msg := ID × Int × Int × Bool
abbrev Rcv := ID × Int
def encM (m : Msg) : List Value := [.int .i64 m.1.1, .int .i64 m.1.2, .int .u32 m.2.1, .int .i64 m.2.2.1, .bool m.2.2.2]
def encR (r : Rcv) : List Value := [.int .i64 r.1.1, .int .i64 r.1.2, .int .i64 r.2]
abbrev Tm := Int × ID
def encT (t : Tm) : List Value := [.int .u64 t.1, .int .i64 t.2.1, .int .i64 t.2.2]
abbrev Deed := ID × Int × Int × Int × Int × Bool
def encD (d : Deed) : List Value := [.int .i64 d.1.1, .int .i64 d.1.2, .int .u32 d.2.1, .int .i64 d.2.2.1, .int .i64 d.2.2.2.1, .int .u32 d.2.2.2.2.1, .bool d.2.2.2.2.2]
abbrev Cqe := Int × Int × Int × Int
def encX (c : Cqe) : List Value := [.int .u32 c.1, .int .i32 c.2.1, .int .u32 c.2.2.1, .int .u32 c.2.2.2]
structure Rg where
  sq : Int
  cq : Int
  sb : Int
  cb : Int
  head : Int
  tail : Int
  over : List Cqe
theorem zofE {υ : Type} {ev : υ → Value} {zv : Value} (z : υ) (h : ev z = zv) (o : Option υ) : zof ev zv o = ev (o.getD z) := by cases o <;> simp [zof, h]
def c0 : Cap := ⟨0, 0, 0, 0, 0⟩
def s0 : SV := (c0, (0, 0))
def t0 : Th := ⟨0, 0, 0, c0⟩
/-- The pointer that a map of pointers leads to. -/
def ptrOf (o : Option Nat) : Value := .pointer (o.map fun b => ⟨b, 0, none⟩)
theorem zofP (o : Option Nat) : zof evA (.pointer none) o = ptrOf o := by cases o <;> rfl

def slP (_ _ : Nat) (_ : List (Place × SV)) (_ : Option Nat) : Prop := True
def slL (b o : Nat) (ps : List (Place × SV)) (ob : Option Nat) : List As := [fld b o [.map ob], mapV kI evS (.map ob) ps]
def slA (b o : Nat) (ps : List (Place × SV)) : As := As.ex fun g : (Option Nat) => As.all (As.pure (slP b o ps g) :: slL b o ps g)
theorem J_slO {E : World} {l : List As} {n : Nat} {F : Env} {K : Act → World → Prop} {b o : Nat} {ps : List (Place × SV)} (k : ∀ ob, slP b o ps ob → Jk E (fld b o [.map ob] :: mapV kI evS (.map ob) ps :: l) n F K) : Jk E (slA b o ps :: l) n F K := J_unfold (f := fun g : (Option Nat) => As.all (As.pure (slP b o ps g) :: slL b o ps g)) (fun _ => rfl) (fun g h => k g h)
theorem J_slS {E : World} {l m : List As} {n : Nat} {F : Env} {K : Act → World → Prop} {b o : Nat} {ps : List (Place × SV)} (ob : Option Nat) (hs : Picks [fld b o [.map ob], mapV kI evS (.map ob) ps] l m) (h : slP b o ps ob) (k : Jk E (slA b o ps :: m) n F K) : Jk E l n F K := J_fold (f := fun g : (Option Nat) => As.all (As.pure (slP b o ps g) :: slL b o ps g)) (ob) rfl hs h k

def mkP (_ _ : Nat) (_ : List (Place × Int)) (_ : Option Nat) : Prop := True
def mkL (b o : Nat) (ps : List (Place × Int)) (ob : Option Nat) : List As := [fld b o [.map ob], mapV kI evZ (.map ob) ps]
def mkA (b o : Nat) (ps : List (Place × Int)) : As := As.ex fun g : (Option Nat) => As.all (As.pure (mkP b o ps g) :: mkL b o ps g)
theorem J_mkO {E : World} {l : List As} {n : Nat} {F : Env} {K : Act → World → Prop} {b o : Nat} {ps : List (Place × Int)} (k : ∀ ob, mkP b o ps ob → Jk E (fld b o [.map ob] :: mapV kI evZ (.map ob) ps :: l) n F K) : Jk E (mkA b o ps :: l) n F K := J_unfold (f := fun g : (Option Nat) => As.all (As.pure (mkP b o ps g) :: mkL b o ps g)) (fun _ => rfl) (fun g h => k g h)
theorem J_mkS {E : World} {l m : List As} {n : Nat} {F : Env} {K : Act → World → Prop} {b o : Nat} {ps : List (Place × Int)} (ob : Option Nat) (hs : Picks [fld b o [.map ob], mapV kI evZ (.map ob) ps] l m) (h : mkP b o ps ob) (k : Jk E (mkA b o ps :: m) n F K) : Jk E l n F K := J_fold (f := fun g : (Option Nat) => As.all (As.pure (mkP b o ps g) :: mkL b o ps g)) (ob) rfl hs h k

abbrev M1 := Int × Int
def spP (_ _ : Nat) (_ : List (Place × M1)) (_ : Option Nat) : Prop := True
def spL (b o : Nat) (ps : List (Place × M1)) (ob : Option Nat) : List As := [fld b o [.map ob], mapV kI kI (.map ob) ps]
def spA (b o : Nat) (ps : List (Place × M1)) : As := As.ex fun g : (Option Nat) => As.all (As.pure (spP b o ps g) :: spL b o ps g)
theorem J_spO {E : World} {l : List As} {n : Nat} {F : Env} {K : Act → World → Prop} {b o : Nat} {ps : List (Place × M1)} (k : ∀ ob, spP b o ps ob → Jk E (fld b o [.map ob] :: mapV kI kI (.map ob) ps :: l) n F K) : Jk E (spA b o ps :: l) n F K := J_unfold (f := fun g : (Option Nat) => As.all (As.pure (spP b o ps g) :: spL b o ps g)) (fun _ => rfl) (fun g h => k g h)
theorem J_spS {E : World} {l m : List As} {n : Nat} {F : Env} {K : Act → World → Prop} {b o : Nat} {ps : List (Place × M1)} (ob : Option Nat) (hs : Picks [fld b o [.map ob], mapV kI kI (.map ob) ps] l m) (h : spP b o ps ob) (k : Jk E (spA b o ps :: m) n F K) : Jk E l n F K := J_fold (f := fun g : (Option Nat) => As.all (As.pure (spP b o ps g) :: spL b o ps g)) (ob) rfl hs h k

def rtP (_ _ : Nat) (_ : List (ID × Rq)) (_ : Option Nat) : Prop := True
def rtL (b o : Nat) (ps : List (ID × Rq)) (ob : Option Nat) : List As := [fld b o [.map ob], mapV kI evQ (.map ob) ps]
def rtA (b o : Nat) (ps : List (ID × Rq)) : As := As.ex fun g : (Option Nat) => As.all (As.pure (rtP b o ps g) :: rtL b o ps g)
theorem J_rtO {E : World} {l : List As} {n : Nat} {F : Env} {K : Act → World → Prop} {b o : Nat} {ps : List (ID × Rq)} (k : ∀ ob, rtP b o ps ob → Jk E (fld b o [.map ob] :: mapV kI evQ (.map ob) ps :: l) n F K) : Jk E (rtA b o ps :: l) n F K := J_unfold (f := fun g : (Option Nat) => As.all (As.pure (rtP b o ps g) :: rtL b o ps g)) (fun _ => rfl) (fun g h => k g h)
theorem J_rtS {E : World} {l m : List As} {n : Nat} {F : Env} {K : Act → World → Prop} {b o : Nat} {ps : List (ID × Rq)} (ob : Option Nat) (hs : Picks [fld b o [.map ob], mapV kI evQ (.map ob) ps] l m) (h : rtP b o ps ob) (k : Jk E (rtA b o ps :: m) n F K) : Jk E l n F K := J_fold (f := fun g : (Option Nat) => As.all (As.pure (rtP b o ps g) :: rtL b o ps g)) (ob) rfl hs h k

def rqP (_ _ : Nat) (_ : List ID) (_ : Value) : Prop := True
def rqL (b o : Nat) (xs : List ID) (v : Value) : List As := [fld b o [v], row 190 2 v (xs.map encI)]
def rqA (b o : Nat) (xs : List ID) : As := As.ex fun g : (Value) => As.all (As.pure (rqP b o xs g) :: rqL b o xs g)
theorem J_rqO {E : World} {l : List As} {n : Nat} {F : Env} {K : Act → World → Prop} {b o : Nat} {xs : List ID} (k : ∀ v, rqP b o xs v → Jk E (fld b o [v] :: row 190 2 v (xs.map encI) :: l) n F K) : Jk E (rqA b o xs :: l) n F K := J_unfold (f := fun g : (Value) => As.all (As.pure (rqP b o xs g) :: rqL b o xs g)) (fun _ => rfl) (fun g h => k g h)
theorem J_rqS {E : World} {l m : List As} {n : Nat} {F : Env} {K : Act → World → Prop} {b o : Nat} {xs : List ID} (v : Value) (hs : Picks [fld b o [v], row 190 2 v (xs.map encI)] l m) (h : rqP b o xs v) (k : Jk E (rqA b o xs :: m) n F K) : Jk E l n F K := J_fold (f := fun g : (Value) => As.all (As.pure (rqP b o xs g) :: rqL b o xs g)) (v) rfl hs h k

def tmrP (_ _ : Nat) (_ : List Tm) (_ : Value) : Prop := True
def tmrL (b o : Nat) (xs : List Tm) (v : Value) : List As := [fld b o [v], row 248 3 v (xs.map encT)]
def tmrA (b o : Nat) (xs : List Tm) : As := As.ex fun g : (Value) => As.all (As.pure (tmrP b o xs g) :: tmrL b o xs g)
theorem J_tmrO {E : World} {l : List As} {n : Nat} {F : Env} {K : Act → World → Prop} {b o : Nat} {xs : List Tm} (k : ∀ v, tmrP b o xs v → Jk E (fld b o [v] :: row 248 3 v (xs.map encT) :: l) n F K) : Jk E (tmrA b o xs :: l) n F K := J_unfold (f := fun g : (Value) => As.all (As.pure (tmrP b o xs g) :: tmrL b o xs g)) (fun _ => rfl) (fun g h => k g h)
theorem J_tmrS {E : World} {l m : List As} {n : Nat} {F : Env} {K : Act → World → Prop} {b o : Nat} {xs : List Tm} (v : Value) (hs : Picks [fld b o [v], row 248 3 v (xs.map encT)] l m) (h : tmrP b o xs v) (k : Jk E (tmrA b o xs :: m) n F K) : Jk E l n F K := J_fold (f := fun g : (Value) => As.all (As.pure (tmrP b o xs g) :: tmrL b o xs g)) (v) rfl hs h k

def jnlP (_ _ : Nat) (_ : List Deed) (_ : Value) : Prop := True
def jnlL (b o : Nat) (xs : List Deed) (v : Value) : List As := [fld b o [v], row 38 7 v (xs.map encD)]
def jnlA (b o : Nat) (xs : List Deed) : As := As.ex fun g : (Value) => As.all (As.pure (jnlP b o xs g) :: jnlL b o xs g)
theorem J_jnlO {E : World} {l : List As} {n : Nat} {F : Env} {K : Act → World → Prop} {b o : Nat} {xs : List Deed} (k : ∀ v, jnlP b o xs v → Jk E (fld b o [v] :: row 38 7 v (xs.map encD) :: l) n F K) : Jk E (jnlA b o xs :: l) n F K := J_unfold (f := fun g : (Value) => As.all (As.pure (jnlP b o xs g) :: jnlL b o xs g)) (fun _ => rfl) (fun g h => k g h)
theorem J_jnlS {E : World} {l m : List As} {n : Nat} {F : Env} {K : Act → World → Prop} {b o : Nat} {xs : List Deed} (v : Value) (hs : Picks [fld b o [v], row 38 7 v (xs.map encD)] l m) (h : jnlP b o xs v) (k : Jk E (jnlA b o xs :: m) n F K) : Jk E l n F K := J_fold (f := fun g : (Value) => As.all (As.pure (jnlP b o xs g) :: jnlL b o xs g)) (v) rfl hs h k

def encU (b : Int) : List Value := [.int .u8 b]
def memF (x : Value × List Int) : As := row 5 1 x.1 (x.2.map encU)

def memP (b : Nat) (ms : List (List Int)) (v : Value) (xs : List (Value × List Int)) : Prop := xs.map Prod.snd = ms
def memL (b : Nat) (ms : List (List Int)) (v : Value) (xs : List (Value × List Int)) : List As := [blk b 141 [v], row 142 1 v (xs.map fun x => [x.1]), each memF xs]
def memA (b : Nat) (ms : List (List Int)) : As := As.ex fun g : (Value) × (List (Value × List Int)) => As.all (As.pure (memP b ms g.1 g.2) :: memL b ms g.1 g.2)
theorem J_memO {E : World} {l : List As} {n : Nat} {F : Env} {K : Act → World → Prop} {b : Nat} {ms : List (List Int)} (k : ∀ v xs, memP b ms v xs → Jk E (blk b 141 [v] :: row 142 1 v (xs.map fun x => [x.1]) :: each memF xs :: l) n F K) : Jk E (memA b ms :: l) n F K := J_unfold (f := fun g : (Value) × (List (Value × List Int)) => As.all (As.pure (memP b ms g.1 g.2) :: memL b ms g.1 g.2)) (fun _ => rfl) (fun g h => k g.1 g.2 h)
theorem J_memS {E : World} {l m : List As} {n : Nat} {F : Env} {K : Act → World → Prop} {b : Nat} {ms : List (List Int)} (v : Value) (xs : List (Value × List Int)) (hs : Picks [blk b 141 [v], row 142 1 v (xs.map fun x => [x.1]), each memF xs] l m) (h : memP b ms v xs) (k : Jk E (memA b ms :: m) n F K) : Jk E l n F K := J_fold (f := fun g : (Value) × (List (Value × List Int)) => As.all (As.pure (memP b ms g.1 g.2) :: memL b ms g.1 g.2)) (v, xs) rfl hs h k

def rgP (_ _ : Nat) (_ : Rg) (_ : Value) : Prop := True
def rgL (b mb : Nat) (r : Rg) (v : Value) : List As := [blk b 167 [.pointer (some ⟨mb, 0, none⟩), .int .i64 r.sq, .int .i64 r.cq, .int .i64 r.sb, .int .i64 r.cb, .int .u32 r.head, .int .u32 r.tail, v], row 165 4 v (r.over.map encX)]
def rgA (b mb : Nat) (r : Rg) : As := As.ex fun g : (Value) => As.all (As.pure (rgP b mb r g) :: rgL b mb r g)
theorem J_rgO {E : World} {l : List As} {n : Nat} {F : Env} {K : Act → World → Prop} {b mb : Nat} {r : Rg} (k : ∀ v, rgP b mb r v → Jk E (blk b 167 [.pointer (some ⟨mb, 0, none⟩), .int .i64 r.sq, .int .i64 r.cq, .int .i64 r.sb, .int .i64 r.cb, .int .u32 r.head, .int .u32 r.tail, v] :: row 165 4 v (r.over.map encX) :: l) n F K) : Jk E (rgA b mb r :: l) n F K := J_unfold (f := fun g : (Value) => As.all (As.pure (rgP b mb r g) :: rgL b mb r g)) (fun _ => rfl) (fun g h => k g h)
theorem J_rgS {E : World} {l m : List As} {n : Nat} {F : Env} {K : Act → World → Prop} {b mb : Nat} {r : Rg} (v : Value) (hs : Picks [blk b 167 [.pointer (some ⟨mb, 0, none⟩), .int .i64 r.sq, .int .i64 r.cq, .int .i64 r.sb, .int .i64 r.cb, .int .u32 r.head, .int .u32 r.tail, v], row 165 4 v (r.over.map encX)] l m) (h : rgP b mb r v) (k : Jk E (rgA b mb r :: m) n F K) : Jk E l n F K := J_fold (f := fun g : (Value) => As.all (As.pure (rgP b mb r g) :: rgL b mb r g)) (v) rfl hs h k

def Who (xs : List ID) (ps : List (ID × Bool)) : Prop := xs.Nodup ∧ ∀ i, look ps i = if i ∈ xs then some true else none
theorem Who.nil : Who [] [] := ⟨List.nodup_nil, fun i => by simp [look_nil]⟩
def lsP (b o : Nat) (xs : List ID) (v : Value) (ob : Option Nat) (ps : List (ID × Bool)) : Prop := Who xs ps
def lsL (b o : Nat) (xs : List ID) (v : Value) (ob : Option Nat) (ps : List (ID × Bool)) : List As := [fld b o [v, .map ob], row 35 2 v (xs.map encI), mapV kI evB (.map ob) ps]
def lsA (b o : Nat) (xs : List ID) : As := As.ex fun g : (Value) × (Option Nat) × (List (ID × Bool)) => As.all (As.pure (lsP b o xs g.1 g.2.1 g.2.2) :: lsL b o xs g.1 g.2.1 g.2.2)
theorem J_lsO {E : World} {l : List As} {n : Nat} {F : Env} {K : Act → World → Prop} {b o : Nat} {xs : List ID} (k : ∀ v ob ps, lsP b o xs v ob ps → Jk E (fld b o [v, .map ob] :: row 35 2 v (xs.map encI) :: mapV kI evB (.map ob) ps :: l) n F K) : Jk E (lsA b o xs :: l) n F K := J_unfold (f := fun g : (Value) × (Option Nat) × (List (ID × Bool)) => As.all (As.pure (lsP b o xs g.1 g.2.1 g.2.2) :: lsL b o xs g.1 g.2.1 g.2.2)) (fun _ => rfl) (fun g h => k g.1 g.2.1 g.2.2 h)
theorem J_lsS {E : World} {l m : List As} {n : Nat} {F : Env} {K : Act → World → Prop} {b o : Nat} {xs : List ID} (v : Value) (ob : Option Nat) (ps : List (ID × Bool)) (hs : Picks [fld b o [v, .map ob], row 35 2 v (xs.map encI), mapV kI evB (.map ob) ps] l m) (h : lsP b o xs v ob ps) (k : Jk E (lsA b o xs :: m) n F K) : Jk E l n F K := J_fold (f := fun g : (Value) × (Option Nat) × (List (ID × Bool)) => As.all (As.pure (lsP b o xs g.1 g.2.1 g.2.2) :: lsL b o xs g.1 g.2.1 g.2.2)) (v, ob, ps) rfl hs h k

def ntP (_ _ : Nat) (_ : Int) (_ : List ID)  : Prop := True
def ntL (b o : Nat) (w : Int) (xs : List ID)  : List As := [fld b o [.int .u32 w], lsA b (o + 1) xs]
def ntA (b o : Nat) (w : Int) (xs : List ID) : As := As.ex fun g : Unit => As.all (As.pure (ntP b o w xs ) :: ntL b o w xs )
theorem J_ntO {E : World} {l : List As} {n : Nat} {F : Env} {K : Act → World → Prop} {b o : Nat} {w : Int} {xs : List ID} (k : ∀ (_ : Unit), ntP b o w xs  → Jk E (fld b o [.int .u32 w] :: lsA b (o + 1) xs :: l) n F K) : Jk E (ntA b o w xs :: l) n F K := J_unfold (f := fun g : Unit => As.all (As.pure (ntP b o w xs ) :: ntL b o w xs )) (fun _ => rfl) (fun g h => k () h)
theorem J_ntS {E : World} {l m : List As} {n : Nat} {F : Env} {K : Act → World → Prop} {b o : Nat} {w : Int} {xs : List ID}  (hs : Picks [fld b o [.int .u32 w], lsA b (o + 1) xs] l m) (h : ntP b o w xs ) (k : Jk E (ntA b o w xs :: m) n F K) : Jk E l n F K := J_fold (f := fun g : Unit => As.all (As.pure (ntP b o w xs ) :: ntL b o w xs )) () rfl hs h k

def epP (_ : Nat) (_ : List Msg) (_ : List Rcv) (_ : Value) (_ : Value) : Prop := True
def epL (b : Nat) (out : List Msg) (inn : List Rcv) (vo : Value) (vi : Value) : List As := [blk b 97 [vo, vi], row 212 5 vo (out.map encM), row 214 3 vi (inn.map encR)]
def epA (b : Nat) (out : List Msg) (inn : List Rcv) : As := As.ex fun g : (Value) × (Value) => As.all (As.pure (epP b out inn g.1 g.2) :: epL b out inn g.1 g.2)
theorem J_epO {E : World} {l : List As} {n : Nat} {F : Env} {K : Act → World → Prop} {b : Nat} {out : List Msg} {inn : List Rcv} (k : ∀ vo vi, epP b out inn vo vi → Jk E (blk b 97 [vo, vi] :: row 212 5 vo (out.map encM) :: row 214 3 vi (inn.map encR) :: l) n F K) : Jk E (epA b out inn :: l) n F K := J_unfold (f := fun g : (Value) × (Value) => As.all (As.pure (epP b out inn g.1 g.2) :: epL b out inn g.1 g.2)) (fun _ => rfl) (fun g h => k g.1 g.2 h)
theorem J_epS {E : World} {l m : List As} {n : Nat} {F : Env} {K : Act → World → Prop} {b : Nat} {out : List Msg} {inn : List Rcv} (vo : Value) (vi : Value) (hs : Picks [blk b 97 [vo, vi], row 212 5 vo (out.map encM), row 214 3 vi (inn.map encR)] l m) (h : epP b out inn vo vi) (k : Jk E (epA b out inn :: m) n F K) : Jk E l n F K := J_fold (f := fun g : (Value) × (Value) => As.all (As.pure (epP b out inn g.1 g.2) :: epL b out inn g.1 g.2)) (vo, vi) rfl hs h k

def rpA (b : Nat) (c : ID × Bool) : As := blk b 149 [.int .i64 c.1.1, .int .i64 c.1.2, .bool c.2]
theorem J_ntNew {E : World} {l : List As} {n : Nat} {F : Env} {K : Act → World → Prop} {b : Nat} (k : Jk E (ntA b 0 0 [] :: l) n F K) : Jk E (blk b 104 [.int .u32 0, .slice none 0 0, .map none] :: l) n F K :=
  J_fld (J_split [.int .u32 0] [.slice none 0 0, .map none] rfl (J_nil (el := 35) (sz := 2) (J_mapNil (ek := kI) (ev := evB) (J_lsS (b := b) (o := 0 + 1) (xs := []) (.slice none 0 0) none [] (.cons (.there (.there (.there .here))) (.cons (.there .here) (.cons .here .nil))) Who.nil
    (J_ntS (b := b) (o := 0) (w := 0) (xs := []) (.cons (.there .here) (.cons .here .nil)) trivial k)))))
theorem J_epNew {E : World} {l : List As} {n : Nat} {F : Env} {K : Act → World → Prop} {b : Nat} (k : Jk E (epA b [] [] :: l) n F K) : Jk E (blk b 97 [.slice none 0 0, .slice none 0 0] :: l) n F K :=
  J_nil (el := 212) (sz := 5) (J_nil (el := 214) (sz := 3) (J_epS (b := b) (out := []) (inn := []) (.slice none 0 0) (.slice none 0 0) (.cons (.there (.there .here)) (.cons (.there .here) (.cons .here .nil))) trivial k))
/-- All that there is: the components, and where the objects lie. -/
structure KS where
 ct : Int
 cu : Int
 cs : Int
 cc : Int
 sh : Bool
 mb : Nat
 mem : List (List Int)
 sl : List (Place × SV)
 mr : List (Place × Int)
 mp : List (Place × M1)
 q : List ID
 rt : List (ID × Rq)
 tm : List Tm
 jn : List Deed
 nt : List (Int × Nat × Int × List ID)
 ep : List (Int × Nat × List Msg × List Rcv)
 rp : List (Int × Nat × ID × Bool)
 rg : List (Int × Nat × Rg)
 th : List (Int × Th)
 sp : List (Int × Bool)
 pr : List (Int × Int)
 be : List (Int × (Int × Int))
 tk : List (Int × Int)
 now : Int
def ptrs {α : Type} (xs : List (Int × Nat × α)) : List (Int × Nat) := xs.map fun x => (x.1, x.2.1)
def ntF (x : Int × Nat × Int × List ID) : As := ntA x.2.1 0 x.2.2.1 x.2.2.2
def epF (x : Int × Nat × List Msg × List Rcv) : As := epA x.2.1 x.2.2.1 x.2.2.2
def rpF (x : Int × Nat × ID × Bool) : As := rpA x.2.1 x.2.2
def rgF (mb : Nat) (x : Int × Nat × Rg) : As := rgA x.2.1 mb x.2.2

def coP (_ : Nat) (_ : KS) (_ : Nat) (_ : Nat) (_ : Nat) (_ : Nat) (_ : Nat) (_ : Nat) (_ : Nat) (_ : Nat) (_ : Nat) : Prop := True
def coL (p : Nat) (s : KS) (bn : Nat) (be : Nat) (br : Nat) (bg : Nat) (bt : Nat) (bs : Nat) (bp : Nat) (bl : Nat) (bk : Nat) : List As := [fld p 0 [.int .i64 s.ct, .int .i64 s.cu, .int .i64 s.cs, .int .i64 s.cc, .bool s.sh, .pointer (some ⟨s.mb, 0, none⟩)], memA s.mb s.mem, slA p 6 s.sl, mkA p 7 s.mr, spA p 8 s.mp, rqA p 9 s.q, rtA p 10 s.rt, tmrA p 11 s.tm, jnlA p 12 s.jn, fld p 13 [.map (some bn), .map (some be), .map (some br), .map (some bg), .map (some bt), .map (some bs), .map (some bp), .map (some bl), .map (some bk)], mapV kZ evA (.map (some bn)) (ptrs s.nt), each ntF s.nt, mapV kZ evA (.map (some be)) (ptrs s.ep), each epF s.ep, mapV kZ evA (.map (some br)) (ptrs s.rp), each rpF s.rp, mapV kZ evA (.map (some bg)) (ptrs s.rg), each (rgF s.mb) s.rg, mapV kZ evT (.map (some bt)) s.th, mapV kZ evB (.map (some bs)) s.sp, mapV kZ evZ (.map (some bp)) s.pr, mapV kZ evL (.map (some bl)) s.be, mapV kZ evZ (.map (some bk)) s.tk, fld p 22 [.int .u64 s.now]]
def coA (p : Nat) (s : KS) : As := As.ex fun g : (Nat) × (Nat) × (Nat) × (Nat) × (Nat) × (Nat) × (Nat) × (Nat) × (Nat) => As.all (As.pure (coP p s g.1 g.2.1 g.2.2.1 g.2.2.2.1 g.2.2.2.2.1 g.2.2.2.2.2.1 g.2.2.2.2.2.2.1 g.2.2.2.2.2.2.2.1 g.2.2.2.2.2.2.2.2) :: coL p s g.1 g.2.1 g.2.2.1 g.2.2.2.1 g.2.2.2.2.1 g.2.2.2.2.2.1 g.2.2.2.2.2.2.1 g.2.2.2.2.2.2.2.1 g.2.2.2.2.2.2.2.2)
theorem J_coO {E : World} {l : List As} {n : Nat} {F : Env} {K : Act → World → Prop} {p : Nat} {s : KS} (k : ∀ bn be br bg bt bs bp bl bk, coP p s bn be br bg bt bs bp bl bk → Jk E (fld p 0 [.int .i64 s.ct, .int .i64 s.cu, .int .i64 s.cs, .int .i64 s.cc, .bool s.sh, .pointer (some ⟨s.mb, 0, none⟩)] :: memA s.mb s.mem :: slA p 6 s.sl :: mkA p 7 s.mr :: spA p 8 s.mp :: rqA p 9 s.q :: rtA p 10 s.rt :: tmrA p 11 s.tm :: jnlA p 12 s.jn :: fld p 13 [.map (some bn), .map (some be), .map (some br), .map (some bg), .map (some bt), .map (some bs), .map (some bp), .map (some bl), .map (some bk)] :: mapV kZ evA (.map (some bn)) (ptrs s.nt) :: each ntF s.nt :: mapV kZ evA (.map (some be)) (ptrs s.ep) :: each epF s.ep :: mapV kZ evA (.map (some br)) (ptrs s.rp) :: each rpF s.rp :: mapV kZ evA (.map (some bg)) (ptrs s.rg) :: each (rgF s.mb) s.rg :: mapV kZ evT (.map (some bt)) s.th :: mapV kZ evB (.map (some bs)) s.sp :: mapV kZ evZ (.map (some bp)) s.pr :: mapV kZ evL (.map (some bl)) s.be :: mapV kZ evZ (.map (some bk)) s.tk :: fld p 22 [.int .u64 s.now] :: l) n F K) : Jk E (coA p s :: l) n F K := J_unfold (f := fun g : (Nat) × (Nat) × (Nat) × (Nat) × (Nat) × (Nat) × (Nat) × (Nat) × (Nat) => As.all (As.pure (coP p s g.1 g.2.1 g.2.2.1 g.2.2.2.1 g.2.2.2.2.1 g.2.2.2.2.2.1 g.2.2.2.2.2.2.1 g.2.2.2.2.2.2.2.1 g.2.2.2.2.2.2.2.2) :: coL p s g.1 g.2.1 g.2.2.1 g.2.2.2.1 g.2.2.2.2.1 g.2.2.2.2.2.1 g.2.2.2.2.2.2.1 g.2.2.2.2.2.2.2.1 g.2.2.2.2.2.2.2.2)) (fun _ => rfl) (fun g h => k g.1 g.2.1 g.2.2.1 g.2.2.2.1 g.2.2.2.2.1 g.2.2.2.2.2.1 g.2.2.2.2.2.2.1 g.2.2.2.2.2.2.2.1 g.2.2.2.2.2.2.2.2 h)
theorem J_coS {E : World} {l m : List As} {n : Nat} {F : Env} {K : Act → World → Prop} {p : Nat} {s : KS} (bn : Nat) (be : Nat) (br : Nat) (bg : Nat) (bt : Nat) (bs : Nat) (bp : Nat) (bl : Nat) (bk : Nat) (hs : Picks [fld p 0 [.int .i64 s.ct, .int .i64 s.cu, .int .i64 s.cs, .int .i64 s.cc, .bool s.sh, .pointer (some ⟨s.mb, 0, none⟩)], memA s.mb s.mem, slA p 6 s.sl, mkA p 7 s.mr, spA p 8 s.mp, rqA p 9 s.q, rtA p 10 s.rt, tmrA p 11 s.tm, jnlA p 12 s.jn, fld p 13 [.map (some bn), .map (some be), .map (some br), .map (some bg), .map (some bt), .map (some bs), .map (some bp), .map (some bl), .map (some bk)], mapV kZ evA (.map (some bn)) (ptrs s.nt), each ntF s.nt, mapV kZ evA (.map (some be)) (ptrs s.ep), each epF s.ep, mapV kZ evA (.map (some br)) (ptrs s.rp), each rpF s.rp, mapV kZ evA (.map (some bg)) (ptrs s.rg), each (rgF s.mb) s.rg, mapV kZ evT (.map (some bt)) s.th, mapV kZ evB (.map (some bs)) s.sp, mapV kZ evZ (.map (some bp)) s.pr, mapV kZ evL (.map (some bl)) s.be, mapV kZ evZ (.map (some bk)) s.tk, fld p 22 [.int .u64 s.now]] l m) (h : coP p s bn be br bg bt bs bp bl bk) (k : Jk E (coA p s :: m) n F K) : Jk E l n F K := J_fold (f := fun g : (Nat) × (Nat) × (Nat) × (Nat) × (Nat) × (Nat) × (Nat) × (Nat) × (Nat) => As.all (As.pure (coP p s g.1 g.2.1 g.2.2.1 g.2.2.2.1 g.2.2.2.2.1 g.2.2.2.2.2.1 g.2.2.2.2.2.2.1 g.2.2.2.2.2.2.2.1 g.2.2.2.2.2.2.2.2) :: coL p s g.1 g.2.1 g.2.2.1 g.2.2.2.1 g.2.2.2.2.1 g.2.2.2.2.2.1 g.2.2.2.2.2.2.1 g.2.2.2.2.2.2.2.1 g.2.2.2.2.2.2.2.2)) (bn, be, br, bg, bt, bs, bp, bl, bk) rfl hs h k

end Go.Pse
