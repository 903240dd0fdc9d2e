/-
  Own layer, part 9: copy into rows and within them, append of zeros, capacities, whether slices overlap.
-/
import Derived.Test.YthjgdlhkdjgjpaaGreatInv
import Derived.Lib.Overlaps
namespace Go.Pse
open Go.RowKit

section
variable {P : Program} {ops : Array Oper} {Q : Exit → Act → World → Prop} {E : World} {l l' m : List As} {n : Nat} {F : Env} {K : Act → World → Prop}
variable {d : Nat} {T : TypeId} {p : String} {e : Array Edge} {g : Option (Nat × Bool)} {dst : Option Tmp} {t : TypeId} {x y z : Operand} {u v : Value}

theorem p_cap {a0 : Option Addr} {len cap : Nat} {el : TypeId} (hx : evl F x = some (.slice a0 len cap)) (ht : P.underlying t = some (.slice el)) :
    Pur P ⟨dst, .call { callee := .builtin .cap, args := #[x], argTypes := #[t] }, T, p, e, g⟩ F n (.int .i64 cap) := fun a hF w => by
  simp [execOp, resolve, invoke, builtin, hF.evl hx, Builtin.cap_, run_underlying ht, goInt]

/-- copy, into cells of a block. -/
theorem run_copy_sz {w : World} {sT ty el : TypeId} {gb o dl dc sl sc sz by_ : Nat} {agg : Bool} {zs : List Value} {a : Addr} {cur : Array Value} {bt : TypeId} {cs : List Value} (hu : P.underlying sT = some (.slice el)) (hT : Ty P el sz by_ agg zs)
    (hg : w.heap[gb]? = some (.cells cur bt (0, 0))) (hn : cs.length = Nat.min sl dl * sz) (hsrc : ∀ j v, cs[j]? = some v → w.cell? (a.add j) = some v) (hfit : o + cs.length ≤ cur.size) (h1 : ∀ v ∈ cs, v.oneCell' = true) :
    (Builtin.copy_ #[sT, sT] ty #[.slice (some ⟨gb, o, none⟩) dl dc, .slice (some a) sl sc]).run P w =
      .ok (.int .i64 (Nat.min sl dl : Nat)) (w.setRow gb (cur.toList.take o ++ cs ++ cur.toList.drop (o + cs.length)).toArray) := by
  have hl := run_loadCells_list (P := P) w a cs hsrc
  have hst := run_storeCells_at P gb o bt cs 0 cur w hg (by simpa using hfit) h1
  simp only [Nat.add_zero] at hst
  simp [Builtin.copy_, run_underlying hu, Builtin.lenOf, Builtin.firstCells, hT.sizeOf, ← hn, hl, hst, goInt]
theorem run_copy_nothing {w : World} {sT ty el : TypeId} {dl dc sl sc sz by_ : Nat} {agg : Bool} {zs : List Value} {a b : Option Addr} (hu : P.underlying sT = some (.slice el)) (hT : Ty P el sz by_ agg zs) (h0 : Nat.min sl dl = 0) :
    (Builtin.copy_ #[sT, sT] ty #[.slice b dl dc, .slice a sl sc]).run P w = .ok (.int .i64 (0 : Nat)) w := by
  have h0' : min sl dl = 0 := h0
  cases a <;> cases b <;> simp [Builtin.copy_, run_underlying hu, Builtin.lenOf, Builtin.firstCells, hT.sizeOf, h0', loadCells, loadCellsFrom, storeCells, goInt]
theorem copy_op {sT : TypeId} {v v2 : Value} {r : Value} {w w' : World} (hx : evl F x = some v) (hy : evl F y = some v2) (hd : Nat.blt d n = true) {a : Act} (hF : Fr n F a)
    (hrun : (Builtin.copy_ #[sT, sT] T #[v, v2]).run P w = .ok r w') (hs : Sep E w' l') (k : Jk E l' n ((d, r) :: F) K) :
    if Region.wanted (⟨some d, .call { callee := .builtin .copy, args := #[x, y], argTypes := #[sT, sT] }, T, p, e, none⟩ : Oper) (yielded ops a.tmps) = true then (⟨some d, .call { callee := .builtin .copy, args := #[x, y], argTypes := #[sT, sT] }, T, p, e, none⟩ : Oper).wp P a w K Q else K (a.put (some d) undef) w := by
  have hw : Region.wanted (⟨some d, .call { callee := .builtin .copy, args := #[x, y], argTypes := #[sT, sT] }, T, p, e, none⟩ : Oper) (yielded ops a.tmps) = true := rfl
  rw [if_pos hw]
  unfold Oper.wp
  have : (execOp a.eval ⟨some d, .call { callee := .builtin .copy, args := #[x, y], argTypes := #[sT, sT] }, T, p, e, none⟩).run P w = .ok (.value r) w' := by
    simp [execOp, resolve, invoke, builtin, hF.evl hx, hF.evl hy, hrun]
  rw [this]
  exact k w' _ hs (hF.put hd)
theorem x_copyTo {el sT : TypeId} {b o len cap sz by_ k0 dl dc : Nat} {agg : Bool} {zs : List Value} {xs ys : List (List Value)} {v2 : Value} (hx : evl F x = some (.slice (if cap = k0 then some ⟨b, o, none⟩ else (some (⟨b, o, none⟩ : Addr)).map (·.add (k0 * sz))) dl dc)) (hy : evl F y = some v2)
    (ht : P.underlying sT = some (.slice el)) (hT : Ty P el sz by_ agg zs) (hp : Pick (row el sz (.slice (some ⟨b, o, none⟩) len cap) xs) l m) (hr : ∀ w, Sep E w l → Reads w sz v2 ys) (hi : ys.length ≤ dl) (hk : k0 + ys.length ≤ xs.length) (hd : Nat.blt d n = true)
    (k : Jk E (row el sz (.slice (some ⟨b, o, none⟩) len cap) (xs.take k0 ++ ys ++ xs.drop (k0 + ys.length)) :: m) n ((d, .int .i64 (ys.length : Nat)) :: F) K) :
    Jop P ops Q ⟨some d, .call { callee := .builtin .copy, args := #[x, y], argTypes := #[sT, sT] }, T, p, e, none⟩ E l n F K := fun w a H hF => by
  have hrd := hr w H
  obtain ⟨a2, c2, hv2, hc2, hc2', hn2, ha2⟩ := hrd.is
  have H' := H.pick hp
  obtain ⟨S, hS⟩ := H'.head
  obtain ⟨C, hC, hl, hlc, hsz⟩ := row_block hS
  have hyl := hrd.wf.len
  subst hv2
  by_cases h0 : ys = []
  · subst h0
    refine copy_op hx hy hd hF (w' := w) (r := .int .i64 (0 : Nat)) (run_copy_nothing ht hT (by simp)) ?_ k
    simpa using H'
  · have hpos : 0 < ys.length := List.length_pos_iff.2 h0
    have hne : cap ≠ k0 := by omega
    rw [if_neg hne] at hx
    simp only [Option.map_some, Addr.add_lit] at hx
    cases a2 with
    | none => exact absurd (hn2 rfl).1 h0
    | some ad =>
      have hmul : k0 * sz + ys.length * sz ≤ xs.length * sz := by rw [← Nat.add_mul]; exact Nat.mul_le_mul_right _ hk
      have hmul2 : xs.length * sz ≤ cap * sz := Nat.mul_le_mul_right _ (by omega)
      have hrun := run_copy_sz (P := P) (w := w) (ty := T) (o := o + k0 * sz) (dl := dl) (dc := dc) (sl := ys.length) (sc := c2) (a := ad) (cs := ys.flatten) ht hT hC (by rw [hyl]; congr 1; exact (Nat.min_eq_left hi).symm) (ha2 ad rfl).2 (by rw [hyl]; omega) hrd.wf.one
      have hmin : Nat.min ys.length dl = ys.length := Nat.min_eq_left hi
      rw [hmin] at hrun
      exact copy_op hx hy hd hF hrun (H'.rep .here setRow_same (row_splice hC hrd.wf hk)) k
/-- All from k0 on, one further. -/
theorem x_copyUp {el sT : TypeId} {b o cap sz by_ k0 dc sc : Nat} {agg : Bool} {zs : List Value} {xs : List (List Value)} (hx : evl F x = some (.slice (if cap = k0 + 1 then some ⟨b, o, none⟩ else (some (⟨b, o, none⟩ : Addr)).map (·.add ((k0 + 1) * sz))) (xs.length - k0) dc))
    (hy : evl F y = some (.slice (if cap = k0 then some ⟨b, o, none⟩ else (some (⟨b, o, none⟩ : Addr)).map (·.add (k0 * sz))) (xs.length + 1 - k0) sc))
    (ht : P.underlying sT = some (.slice el)) (hT : Ty P el sz by_ agg zs) (hp : Pick (row el sz (.slice (some ⟨b, o, none⟩) xs.length cap) xs) l m) (hk : k0 < xs.length) (hroom : xs.length + 1 ≤ cap) (hd : Nat.blt d n = true)
    (k : Jk E (row el sz (.slice (some ⟨b, o, none⟩) (xs.length + 1) cap) (xs.take (k0 + 1) ++ xs.drop k0) :: m) n ((d, .int .i64 (xs.length - k0 : Nat)) :: F) K) :
    Jop P ops Q ⟨some d, .call { callee := .builtin .copy, args := #[x, y], argTypes := #[sT, sT] }, T, p, e, none⟩ E l n F K := fun w a H hF => by
  have H' := H.pick hp
  obtain ⟨S, hwf, hS⟩ := H'.head
  have hwd : Wf sz (xs.drop k0) := hwf.sub fun y hy => List.mem_of_mem_drop hy
  have hwt : Wf sz (xs.take (k0 + 1)) := hwf.sub fun y hy => List.mem_of_mem_take hy
  rcases hS with ⟨h1, _⟩ | ⟨b', o', cap', C, h1, h2, h3, h4, h5, h6, h7⟩
  · cases h1
  · cases h1
    rw [if_neg (by omega)] at hx hy
    simp only [Option.map_some, Addr.add_lit] at hx hy
    have hdl : (xs.drop k0).flatten.length = (xs.length - k0) * sz := by rw [hwd.len]; simp
    have hcap : (xs.length + 1) * sz ≤ cap * sz := Nat.mul_le_mul_right _ hroom
    have e1 : (k0 + 1) * sz + (xs.length - k0) * sz = (xs.length + 1) * sz := by rw [← Nat.add_mul]; congr 1; omega
    have e2 : k0 * sz + (xs.length - k0) * sz = xs.length * sz := by rw [← Nat.add_mul]; congr 1; omega
    have hCs : C.size = C.toList.length := by simp
    have hmin : Nat.min (xs.length + 1 - k0) (xs.length - k0) = xs.length - k0 := Nat.min_eq_right (by omega)
    have hx1 : (xs.length + 1) * sz = xs.length * sz + sz := by rw [Nat.add_mul]; omega
    have hsrc : ∀ j v, (xs.drop k0).flatten[j]? = some v → w.cell? ((⟨b, o + k0 * sz, none⟩ : Addr).add j) = some v := fun j v hj => by
      have hjl := (List.getElem?_eq_some_iff.1 hj).1
      rw [hdl] at hjl
      rw [Addr.add_lit]
      simp only [World.cell?, h2, Option.isSome_none, Bool.false_eq_true, if_false]
      rw [← drop_flatten hwf, ← h6, List.getElem?_drop, List.getElem?_take, if_pos (by omega), List.getElem?_drop] at hj
      rw [Nat.add_assoc]
      simpa using hj
    have hrun := run_copy_sz (P := P) (w := w) (ty := T) (o := o + (k0 + 1) * sz) (dl := xs.length - k0) (dc := dc) (sl := xs.length + 1 - k0) (sc := sc) (a := ⟨b, o + k0 * sz, none⟩) (cs := (xs.drop k0).flatten) ht hT h2 (by rw [hdl, hmin]) hsrc (by rw [hdl]; omega) hwd.one
    rw [hmin] at hrun
    refine copy_op hx hy hd hF hrun (H'.rep .here setRow_same fun S' hS' => ?_) k
    obtain ⟨_, hS'⟩ := hS'
    have hSb : ∀ k, S' k ↔ k.1 = b := by
      rcases hS' with ⟨h, _⟩ | ⟨b', o', cap', C', h, _, _, _, _, _, h8⟩
      · cases h
      · cases h; exact h8
    have hlen : (xs.take (k0 + 1) ++ xs.drop k0).length = xs.length + 1 := by simp; omega
    refine ⟨⟨S', ⟨hwt.append hwd, .inr ⟨b, o, cap, _, by rw [hlen], setRow_heap w b _ _ el (0, 0) h2, by rw [hlen]; exact hroom, h4, ?_, ?_, hSb⟩⟩, fun _ h => .inl h⟩, fun k _ hk => setRow_out fun h => hk ((hSb k).2 h)⟩
    · simp [hdl]; omega
    · rw [hlen]
      show List.take _ (List.drop o _) = _
      have ht1 : (C.toList.drop o).take ((k0 + 1) * sz) = (xs.take (k0 + 1)).flatten := by
        have := take_take_flatten (i := k0 + 1) hwf
        rw [← this, ← h6, List.take_take, Nat.min_eq_left]
        exact Nat.mul_le_mul_right _ (by omega)
      have hA : ((C.toList.take (o + (k0 + 1) * sz)).drop o).length = (k0 + 1) * sz := by simp; omega
      simp only [List.append_assoc]
      rw [List.drop_append_of_le_length (by simp; omega), List.drop_take, show o + (k0 + 1) * sz - o = (k0 + 1) * sz by omega, ht1, List.flatten_append, ← List.append_assoc]
      have hlt : ((xs.take (k0 + 1)).flatten ++ (xs.drop k0).flatten).length = (xs.length + 1) * sz := by
        rw [List.length_append, hwt.len, hdl]
        have : (xs.take (k0 + 1)).length = k0 + 1 := by simp; omega
        rw [this]; exact e1
      rw [← hlt, List.take_left]
/-- append of so many zeros, for which there is no room. -/
theorem run_append_make {P : Program} {w : World} {t u ty e : TypeId} {i : TypeInfo} {z : Value} (ht : P.underlying t = some (.slice e)) (hu : P.underlying u = some (.int .i64)) (hi : P.info? e = some i) (hz : i.zero = some z)
    {b : Option Addr} {sLen sCap k : Nat} {olds : Array Value} (hold : (Builtin.firstCells i.size sLen (.slice b sLen sCap)).run P w.drew = .ok olds w.drew)
    (hg : sCap < sLen + k) (h0 : 0 < k) (hs0 : 0 < i.size) (h63 : ((sLen + k : Nat) : Int) ≤ 9223372036854775807) (h48 : k * i.bytes ≤ 281474976710656) (hfit : Builtin.nextslicecap (sLen + k) sCap * i.bytes ≤ 281474976710656) :
    (Builtin.append_ #[t, u] ty #[.slice b sLen sCap, .int .i64 (k : Int)]).run P w =
      .ok (.slice (some ⟨w.heap.size, 0, none⟩) (sLen + k) (grownCap w (sLen + k) sCap e))
        (w.drew.alloc (.cells (olds ++ Builtin.zeroCells z.cells k ++ Builtin.zeroCells z.cells (grownCap w (sLen + k) sCap e - (sLen + k))) e)) := by
  have hn : ¬ (sLen + k ≤ sCap) := by omega
  have h63' : ¬ (9223372036854775807 < ((sLen : Int) + (k : Int))) := by omega
  have hfit' : ¬ (281474976710656 < Builtin.nextslicecap (sLen + k) sCap * i.bytes) := by omega
  have hwrap : IntKind.i64.wrap (k : Int) = (k : Int) := wrap64_of (by omega)
  have hk0 : ¬ ((k : Int) < 0) := by omega
  have h48' : ¬ (281474976710656 < (k : Int) * (i.bytes : Int)) := by rw [← Int.natCast_mul]; omega
  have hks : ¬ (k = 0 ∨ i.size = 0) := by omega
  simp [Builtin.append_, run_underlying ht, run_underlying hu, sizeOf, typeInfo, zeroValue, hi, hz, asInt, asIntOf, hwrap, hk0, h48', hn, h63', hfit', Question.forced, hold, newRow, grownCap, hks]
  intro h
  exact absurd h (by have := Nat.mul_pos h0 hs0; omega)
theorem x_appMake {el sT iT : TypeId} {sz by_ i cap : Nat} {z0 : Nat} {agg : Bool} {zs : List Value} {xs : List (List Value)} {a0 : Option Addr} (hx : evl F x = some (.slice a0 i cap)) (hy : evl F y = some (.int .i64 (z0 : Int))) (ht : P.underlying sT = some (.slice el)) (hti : P.underlying iT = some (.int .i64))
    (hT : Ty P el sz by_ agg zs) (hsz : Nat.blt 0 sz = true) (hzl : zs.length = sz) (h1z : ones zs = true) (hr : ∀ w, Sep E w l → Reads w sz (.slice a0 i cap) xs) (hg : cap < i + z0) (h0 : 0 < z0) (hb : (i + z0) * by_ ≤ 140737488355328) (hm : i + z0 ≤ 9223372036854775807) (hd : Nat.blt d n = true)
    (k : ∀ v', Jk E (row el sz v' (xs ++ List.replicate z0 zs) :: l) n ((d, v') :: F) K) :
    Jop P ops Q ⟨some d, .call { callee := .builtin .append, args := #[x, y], argTypes := #[sT, iT] }, T, p, e, none⟩ E l n F K := fun w a H hF => by
  obtain ⟨inf, zv, hi, hi1, hi2, hi3, hi4⟩ := hT.get
  have hrd := hr w H
  obtain ⟨a2, c2, hv2, hc2, hc2', hn2, ha2⟩ := hrd.is
  cases hv2
  have hsz' : 0 < sz := by simpa using hsz
  have hzs : zv.cells.size = sz := by rw [← Array.length_toList, hi4, hzl]
  have hzv : zv.cells = zs.toArray := by rw [← hi4]
  have hmulz : z0 * by_ ≤ (xs.length + z0) * by_ := Nat.mul_le_mul_right _ (by omega)
  have hfit : Builtin.nextslicecap (xs.length + z0) cap * inf.bytes ≤ 281474976710656 := growslice_fits hg (by rw [hi2]; exact hb)
  have hwf : Wf sz (List.replicate z0 zs) := fun y hy => by rw [List.eq_of_mem_replicate hy]; exact ⟨hzl, h1z⟩
  have hold : (Builtin.firstCells inf.size xs.length (.slice a0 xs.length cap)).run P w.drew = .ok xs.flatten.toArray w.drew := by
    cases a0 with
    | none =>
      have : xs = [] := (hn2 rfl).1
      subst this
      simp [Builtin.firstCells]
    | some ad => exact run_firstCells_some w.drew inf.size xs.length ad _ _ xs.flatten (by rw [hi1]; exact hrd.wf.len) (by simpa using (ha2 ad rfl).2)
  have hge := grownCap_ge w (xs.length + z0) cap el
  have hcm : grownCap w (xs.length + z0) cap el ≤ maxLen := grownCap_le_maxLen w (xs.length + z0) cap el (by simpa [maxLen] using hm)
  have hrun := run_append_make (P := P) (w := w) (ty := T) ht hti hi hi3 hold hg h0 (by omega) (by omega) (by rw [hi2]; omega) hfit
  have hw : Region.wanted (⟨some d, .call { callee := .builtin .append, args := #[x, y], argTypes := #[sT, iT] }, T, p, e, none⟩ : Oper) (yielded ops a.tmps) = true := rfl
  rw [if_pos hw]
  unfold Oper.wp
  have hex : (execOp a.eval ⟨some d, .call { callee := .builtin .append, args := #[x, y], argTypes := #[sT, iT] }, T, p, e, none⟩).run P w = .ok (.value (.slice (some ⟨w.heap.size, 0, none⟩) (xs.length + z0) (grownCap w (xs.length + z0) cap el)))
      (w.drew.alloc (.cells (xs.flatten.toArray ++ Builtin.zeroCells zv.cells z0 ++ Builtin.zeroCells zv.cells (grownCap w (xs.length + z0) cap el - (xs.length + z0))) el)) := by
    simp [execOp, resolve, invoke, builtin, hF.evl hx, hF.evl hy, hrun]
  rw [hex]
  have hwa : Wf sz (xs ++ List.replicate z0 zs) := hrd.wf.append hwf
  have hl2 : (xs ++ List.replicate z0 zs).length = xs.length + z0 := by simp
  have hrw := row_new (el := el) (w := w.drew) (C := xs.flatten.toArray ++ Builtin.zeroCells zv.cells z0 ++ Builtin.zeroCells zv.cells (grownCap w (xs.length + z0) cap el - (xs.length + z0))) hwa
    (cap := grownCap w (xs.length + z0) cap el) (by rw [hl2]; exact hge) hcm
    (by simp only [Array.size_append, List.size_toArray, size_zeroCells, hzs, hrd.wf.len, ← Nat.add_mul]; congr 1; omega)
    (by
      have e1 : (Builtin.zeroCells zv.cells z0).toList = (List.replicate z0 zs).flatten := by rw [hzv, zeroCells_flat]
      simp only [Array.toList_append, e1, ← List.flatten_append]
      rw [← hwa.len]; exact List.take_left)
  rw [hl2] at hrw
  exact k _ _ _ (H.drew.add alloc_same (fun _ hb => alloc_old hb) hrw (fun b hb => by omega)) (hF.put hd)

/-! ### two rows lie apart -/
theorem rows_apart {w : World} {e1 e2 : TypeId} {s1 s2 : Nat} {b1 b2 o1 o2 l1 l2 c1 c2 : Nat} {xs ys : List (List Value)} (H : Sep E w (row e1 s1 (.slice (some ⟨b1, o1, none⟩) l1 c1) xs :: row e2 s2 (.slice (some ⟨b2, o2, none⟩) l2 c2) ys :: l)) : b1 ≠ b2 := by
  obtain ⟨S, S1, S2, ⟨_, h1⟩, ⟨T1, T2, ⟨_, h2⟩, _, _, he2⟩, hd, _⟩ := H.own
  intro e
  subst e
  rcases h1 with ⟨h, _⟩ | ⟨b, o, c, C, h, _, _, _, _, _, g1⟩
  · cases h
  · cases h
    rcases h2 with ⟨h, _⟩ | ⟨b, o, c, C, h, _, _, _, _, _, g2⟩
    · cases h
    · cases h
      exact hd (b1, 0) ((g1 _).2 rfl) ((he2 _).2 (.inl ((g2 _).2 rfl)))
/-- slices.overlaps, of two slices in two blocks. -/
theorem x_overlaps {sT tR el : TypeId} {f : FuncId} {fn : Func} {ats : Array TypeId} {sz by_ vb vo vl vc b o len cap lb cb ob : Nat} {agg : Bool} {zs : List Value} {xs ys : List (List Value)} {m1 m2 : List As} (hf : P.funcs[f]? = some fn) (hname : (fn.name == "runtime.NumGoroutine") = false) (hbn : fn.body.isNone = true) (hnx : Extern.findNext fn = none)
    (hfe : Extern.find fn = some (Extern.SlicesOverlaps.overlaps #[sT, sT] #[tR])) (hx : evl F x = some (.slice (some ⟨vb, vo, none⟩) vl vc)) (hy : evl F y = some (.slice (some ⟨b, ob, none⟩) lb cb)) (ht : P.underlying sT = some (.slice el)) (hT : Ty P el sz by_ agg zs) (hsz : Nat.blt 0 sz = true)
    (hp1 : Pick (row el sz (.slice (some ⟨vb, vo, none⟩) vl vc) ys) l m1) (hp2 : Pick (row el sz (.slice (some ⟨b, o, none⟩) len cap) xs) m1 m2) (hc0 : 0 < cap) (hd : Nat.blt d n = true) (k : Jk E l n ((d, .bool false) :: F) K) :
    Jop P ops Q ⟨some d, .call { callee := .value (.func f), args := #[x, y], argTypes := ats }, T, p, e, none⟩ E l n F K := fun w a H hF => by
  have H1 := H.pick hp1
  have H2 := H1.pick (.there hp2)
  have H3 := H2.pick (.there .here)
  obtain ⟨S1, hS1⟩ := H1.head
  obtain ⟨S2, hS2⟩ := H2.head
  obtain ⟨C1, hC1, _, _, hs1⟩ := row_block hS1
  obtain ⟨C2, hC2, _, _, hs2⟩ := row_block hS2
  have hne : vb ≠ b := rows_apart H3
  have hsz' : 0 < sz := by simpa using hsz
  have hk2 : C2.size ≠ 0 := by have := Nat.mul_pos hc0 hsz'; omega
  have hw : Region.wanted (⟨some d, .call { callee := .value (.func f), args := #[x, y], argTypes := ats }, T, p, e, none⟩ : Oper) (yielded ops a.tmps) = true := rfl
  rw [if_pos hw]
  unfold Oper.wp
  have hov := Lib.run_overlaps_apart (P := P) w sT tR el ht sz (fun w => hT.sizeOf w) ⟨vb, vo, none⟩ ⟨b, ob, none⟩ vl vc lb cb hne el el C1.size C2.size (by simp [World.shape?, hC1]) (by simp [World.shape?, hC2]) hk2 (by simp [World.frozen?, hC1]) (by simp [World.frozen?, hC1])
  have hcf : (callFunc f #[.slice (some ⟨vb, vo, none⟩) vl vc, .slice (some ⟨b, ob, none⟩) lb cb]).run P w = .ok (.value (.bool false)) w := by
    rw [run_callFunc_extern hf hname hbn hnx hfe, hov]; rfl
  have hex : (execOp a.eval ⟨some d, .call { callee := .value (.func f), args := #[x, y], argTypes := ats }, T, p, e, none⟩).run P w = .ok (.value (.bool false)) w := by
    simp only [execOp, resolve, Act.eval, Deferred.ofValue, invoke]
    simp [hF.evl hx, hF.evl hy, hcf]
  rw [hex]
  exact k w _ H (hF.put hd)
end
end Go.Pse
