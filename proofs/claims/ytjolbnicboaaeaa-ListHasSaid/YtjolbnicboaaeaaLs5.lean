/-
  The law on each being there once.
-/
import Derived.Test.YtjolbnicboaaeaaLs3
import Derived.Test.YtjolbnicboaaeaaInv
namespace Go.Pse
open Go.RowKit Go.Proofs

def encN (z : Int) : List Value := [.int .i64 z]
def h7 (n : Int) : ID := (n, 7)
def atN (n : Int) (l : List Int) : Int := idx (fun c => decide (c = n)) l
theorem atN_neg {n : Int} {l : List Int} (h : n ∉ l) : atN n l = -1 := by
  unfold atN
  rcases idx_cases (fun c => decide (c = n)) l with ⟨h1, _⟩ | ⟨j, h1, h2, h3, c, h4, h5⟩
  · exact h1
  · simp at h5; subst h5; exact absurd (List.mem_of_getElem? h4) h
theorem atN_pos {n : Int} {l : List Int} (h : n ∈ l) : 0 ≤ atN n l ∧ l[(atN n l).toNat]? = some n := by
  unfold atN
  rcases idx_cases (fun c => decide (c = n)) l with ⟨h1, h2⟩ | ⟨j, h1, h2, h3, c, h4, h5⟩
  · have := h2 n h; simp at this
  · simp at h5; subst h5; rw [h1]; exact ⟨by omega, h4⟩
theorem atN_iff {n : Int} {l : List Int} : 0 ≤ atN n l ↔ n ∈ l := by
  by_cases h : n ∈ l
  · exact ⟨fun _ => h, fun _ => (atN_pos h).1⟩
  · rw [atN_neg h]; exact ⟨fun h => by omega, fun h' => absurd h' h⟩
theorem take_mem {l : List Int} {k : Nat} {c : Int} (h : l[k]? = some c) (hn : l.Nodup) : c ∉ l.take k := fun hm => by
  obtain ⟨j, hj⟩ := List.mem_iff_getElem?.1 hm
  rw [List.getElem?_take] at hj
  split at hj
  · have := (List.getElem?_inj (List.getElem?_eq_some_iff.1 hj).1 hn).1 (hj.trans h.symm); omega
  · cases hj
theorem atN_same {n c : Int} {l : List Int} {k : Nat} (h : l[k]? = some c) (hc : c ≠ n) : atN n (l.take (k + 1)) = atN n (l.take k) := by
  by_cases hm : n ∈ l.take k
  · obtain ⟨h1, h2⟩ := atN_pos hm
    obtain ⟨j, hj⟩ : ∃ j : Nat, atN n (l.take k) = j := ⟨(atN n (l.take k)).toNat, by omega⟩
    rw [hj]
    unfold atN at hj ⊢
    rcases idx_cases (fun c => decide (c = n)) (l.take k) with ⟨g1, _⟩ | ⟨j', g1, g2, g3, d, g4, g5⟩
    · omega
    · have e : j' = j := by omega
      subst e
      have hjk : j' < k := by have := (List.getElem?_eq_some_iff.1 g4).1; simp at this; omega
      refine idx_here (fun x hx => g3 x ?_) ?_ g5
      · rw [List.take_take, Nat.min_eq_left (by omega)] at hx ⊢; exact hx
      · rw [List.getElem?_take] at g4 ⊢
        rw [if_pos (by omega)] at g4 ⊢; exact g4
  · rw [atN_neg hm, atN_neg]
    rw [List.take_add_one, h]
    simp
    exact ⟨hm, fun e => hc e.symm⟩
theorem atN_here {n : Int} {l : List Int} {k : Nat} (h : l[k]? = some n) (hn : l.Nodup) : atN n (l.take (k + 1)) = k := by
  have hlt := (List.getElem?_eq_some_iff.1 h).1
  unfold atN
  refine idx_here (fun x hx => ?_) (by rw [List.getElem?_take, if_pos (by omega)]; exact h) (by simp)
  rw [List.take_take, Nat.min_eq_left (by omega)] at hx
  have := take_mem h hn
  simp
  exact fun e => this (e ▸ hx)
def outN (n : Int) (l : List Int) : List Int := l.filter fun c => !decide (c = n)
theorem outN_succ {n c : Int} {l : List Int} {k : Nat} (h : l[k]? = some c) : outN n (l.take (k + 1)) = outN n (l.take k) ++ if c = n then [] else [c] := by
  unfold outN
  rw [List.take_add_one, h, List.filter_append]
  by_cases hc : c = n <;> simp [hc]
theorem outN_len (n : Int) (l : List Int) : (outN n l).length ≤ l.length := List.length_filter_le _ _
theorem outN_no {n : Int} {l : List Int} (h : n ∉ l) : outN n l = l := by
  unfold outN; rw [List.filter_eq_self]; intro c hc; have : ¬ c = n := fun e => h (e ▸ hc); simp [this]
theorem at_eq {n c : Int} {l : List Int} {k : Nat} (h : l[k]? = some c) (hn : l.Nodup) (hm : n ∈ l) : ((k : Int) = atN n l) ↔ c = n := by
  obtain ⟨h1, h2⟩ := atN_pos hm
  constructor
  · intro e; rw [← e] at h2; simp at h2; rw [h] at h2; exact Option.some.inj h2
  · intro e; subst e
    have := (List.getElem?_inj (List.getElem?_eq_some_iff.1 h).1 hn).1 (h.trans h2.symm); omega
theorem h7_in {n : Int} {l : List Int} : h7 n ∈ l.map h7 ↔ n ∈ l := by
  rw [List.mem_map]
  constructor
  · rintro ⟨j, hj, e⟩
    have := congrArg Prod.fst e; simp [h7] at this; exact this ▸ hj
  · exact fun h => ⟨n, h, rfl⟩
theorem h7_drop {n : Int} {l : List Int} : ldrop (l.map h7) (h7 n) = (outN n l).map h7 := by
  unfold ldrop outN
  rw [List.filter_map]; congr 1; apply List.filter_congr; intro j _; simp [isI_eq, h7]
theorem h7_push {n : Int} {l : List Int} (h : n ∉ l) : lpush (l.map h7) (h7 n) = (l ++ [n]).map h7 := by
  unfold lpush; rw [if_neg (by rw [h7_in]; exact h)]; simp
theorem h7_push' {n : Int} {l : List Int} (h : n ∈ l) : lpush (l.map h7) (h7 n) = l.map h7 := by
  unfold lpush; rw [if_pos (by rw [h7_in]; exact h)]

set_option maxRecDepth 100000 in
set_option maxHeartbeats 4000000 in
theorem listHas {E W : World} {v : Value} {zs : List Int} (hr : Reads W 1 v (zs.map fun z => [Value.int .i64 z])) :
    Con Try.prog 11 #[v] E [old W] (fun _ : Unit => .bool true) (fun _ => [old W]) := by
  refine Con.body (vs := [v]) (n := 126) Try.func11 rfl rfl [(0, v)] (env_ok 1 rfl) ?_
  refine J_readsB (fun w H => hr.old (by repeat (first | with_reducible exact Has.here | with_reducible assumption | with_reducible apply Has.there)) H) fun hw a cap hv h1 h2 h3 => ?_
  subst hv
  have hm : cap ≤ 9223372036854775807 := h2
  have hml : (zs.map fun z => [Value.int .i64 z]).length = zs.length := List.length_map _
  refine J_seq ?_
  refine J_region ?_
  refine L_pur rfl (p_assign rfl) ?_
  refine L_nil ?_
  refine Q_then ?_
  refine J_seq ?_
  refine J_region ?_
  refine L_op (x_call Try.func45 nm45 bd45 .nil rfl (first12) fun _ => ?_)
  refine L_pur rfl (p_assign rfl) ?_
  refine L_nil ?_
  refine Q_then ?_
  refine J_seq ?_
  refine J_seq ?_
  refine J_region ?_
  refine L_pur rfl (p_move rfl) ?_
  refine L_pur rfl (p_not rfl) ?_
  refine L_nil ?_
  refine Q_then ?_
  refine J_bool (t := 17) (c := false) rfl (rfl) ?_
  refine C_false rfl ?_
  refine J_skip ?_
  refine Q_then ?_
  refine J_seq ?_
  refine J_seq ?_
  refine J_region ?_
  refine L_pur rfl (p_move rfl) ?_
  refine L_pur rfl (p_len rfl Try.underlying23) ?_
  refine L_pur rfl (p_gtr rfl rfl) ?_
  refine L_nil ?_
  refine Q_then ?_
  refine C_dec rfl (fun h20 => ?_) (fun h20 => ?_)
  ·
    refine J_seq ?_
    refine J_region ?_
    refine L_pur rfl (p_move rfl) ?_
    refine L_pur rfl (p_assign rfl) ?_
    refine L_nil ?_
    refine Q_then ?_
    refine J_ret ?_
    refine Q_then_ret ?_
    exact J_return (()) Try.results11 (.tmp rfl .nil) rfl (by repeat (first | exact Sub.nil | exact Sub.refl | refine Sub.cons (by repeat (first | exact Pick.here | apply Pick.there)) ?_ | refine Sub.drop ?_))
  ·
    refine J_skip ?_
    refine Q_then ?_
    refine J_seq ?_
    refine J_region ?_
    refine L_op (x_alloc ty83 rfl fun b4 => ?_)
    refine J_lsNew ?_
    refine L_nil ?_
    refine Q_then ?_
    refine J_seq ?_
    refine J_region ?_
    refine L_pur rfl (p_assign rfl) ?_
    refine J_nil (el := 3) (sz := 1) ?_
    refine L_nil ?_
    refine Q_then ?_
    refine J_seq ?_
    refine J_seq ?_
    refine J_region ?_
    refine L_pur rfl (p_assign rfl) ?_
    refine L_nil ?_
    refine Q_then ?_
    refine J_block ?_
    refine J_loop3 (fun i v5 ws => i ≤ zs.length ∧ ws.length ≤ i ∧ ws.Nodup) (fun i v5 ws => [lsA b4 0 (ws.map h7), row 3 1 v5 (ws.map encN), old W]) (fun i v5 ws => [(5, v5), (6, .int .i64 (i : Int)), (0, .slice a (zs.map fun z => [Value.int .i64 z]).length cap), (3, .bool true), (4, .pointer (some ⟨b4, 0, none⟩))]) (fun i v5 ws => zs.length - i) 0 (.slice none 0 0) ([] : List Int) ⟨by omega, by simp, by simp⟩ (by repeat (first | exact Sub.nil | exact Sub.refl | refine Sub.cons (by repeat (first | exact Pick.here | apply Pick.there)) ?_ | refine Sub.drop ?_)) (by repeat (first | exact Keep.nil | refine Keep.cons rfl ?_)) ?_
    intro i v5 ws ⟨hi, hwl, hnd⟩
    refine J_row (.there .here) fun hww aw cw hvw h1w h2w h3w => ?_
    subst hvw
    have hmw : (ws.map encN).length = ws.length := List.length_map _
    refine J_seq ?_
    refine J_seq ?_
    refine J_region ?_
    refine L_pur rfl (p_move rfl) ?_
    refine L_pur rfl (p_move rfl) ?_
    refine L_pur rfl (p_len rfl Try.underlying23) ?_
    refine L_pur rfl (p_lss rfl rfl) ?_
    refine L_nil ?_
    refine Q_then ?_
    refine C_dec rfl (fun h25 => ?_) (fun h25 => ?_)
    ·
      have hlt : i < zs.length := by omega
      obtain ⟨bx, ox, rfl⟩ := h3 (by intro h; rw [h] at hml; simp at hml; omega)
      obtain ⟨c, hcc⟩ : ∃ c, zs[i]? = some c := ⟨_, List.getElem?_eq_getElem hlt⟩
      refine J_skip ?_
      refine Q_then ?_
      refine J_seq ?_
      refine J_block ?_
      refine J_seq ?_
      refine J_region ?_
      refine L_pur rfl (p_move rfl) ?_
      refine L_pur rfl (p_move rfl) ?_
      refine L_pur rfl (p_indexAddr rfl rfl Try.underlying23 ty3 (by omega) (by omega)) ?_
      refine L_val rfl (v_loadR1 rfl ty3 (fun w H => hr.old (by repeat (first | with_reducible exact Has.here | with_reducible assumption | with_reducible apply Has.there)) H) (by first | (simp only [Int.toNat_natCast, List.getElem?_map, hcc]; rfl) | (simp only [Int.toNat_natCast, List.getElem?_map, hcd]; rfl) | simp | rfl)) ?_
      refine L_op (x_call Try.func23 nm23 bd23 (.cons rfl (.cons rfl .nil)) rfl (number (by omega) (by omega)) fun _ => ?_)
      obtain ⟨n, hn⟩ : ∃ n : Int, n = (num c 6 : Int) := ⟨_, rfl⟩
      refine J_slot (t := 32) (v := .int .i64 n) rfl (by rw [hn]) ?_
      refine L_pur rfl (p_assign rfl) ?_
      refine L_nil ?_
      refine Q_then ?_
      refine J_seq ?_
      refine J_region ?_
      refine L_pur rfl (p_move rfl) ?_
      refine L_pur rfl (bld36 (.cons rfl (.cons rfl .nil)) (by repeat constructor)) ?_
      refine L_op (x_alloc ty36 rfl fun b8 => ?_)
      refine L_op (x_store rfl rfl ty36 rfl (by first | rfl | (simp [*]; done)) (by first | rfl | (simp [*]; done)) (by repeat (first | with_reducible exact Rep1.here | with_reducible apply Rep1.there)) (by first | exact Put.full rfl | ((repeat constructor); done) | exact Put.full (by first | rfl | simp [*])) ?_)
      refine J_pick (A := blk b8 36 _) (by repeat (first | with_reducible exact Pick.here | with_reducible assumption | with_reducible apply Pick.there)) ?_
      refine J_asTo (B := blk b8 36 (encI (h7 n))) (by rfl) ?_
      refine L_nil ?_
      refine Q_then ?_
      refine J_seq ?_
      refine J_region ?_
      refine L_pur rfl (p_assign rfl) ?_
      refine L_nil ?_
      refine Q_then ?_
      refine J_seq ?_
      refine J_seq ?_
      refine J_region ?_
      refine L_pur rfl (p_assign rfl) ?_
      refine L_nil ?_
      refine Q_then ?_
      refine J_block ?_
      refine J_loop (α := Nat) (fun k => k ≤ ws.length) (fun k => [lsA b4 0 (ws.map h7), row 3 1 (.slice aw (ws.map encN).length cw) (ws.map encN), blk b8 36 (encI (h7 n)), old W]) (fun k => [(10, .int .i64 (k : Int)), (9, .int .i64 (atN n (ws.take k))), (7, .int .i64 n), (8, .pointer (some ⟨b8, 0, none⟩)), (5, .slice aw (ws.map encN).length cw), (6, .int .i64 (i : Int)), (0, .slice (some ⟨bx, ox, none⟩) (zs.map fun z => [Value.int .i64 z]).length cap), (3, .bool true), (4, .pointer (some ⟨b4, 0, none⟩))]) (fun k => ws.length - k) 0 (by omega) (by repeat (first | exact Sub.nil | exact Sub.refl | refine Sub.cons (by repeat (first | exact Pick.here | apply Pick.there)) ?_ | refine Sub.drop ?_)) (by repeat (first | exact Keep.nil | refine Keep.cons rfl ?_)) ?_
      intro k hk
      refine J_seq ?_
      refine J_seq ?_
      refine J_region ?_
      refine L_pur rfl (p_move rfl) ?_
      refine L_pur rfl (p_move rfl) ?_
      refine L_pur rfl (p_len rfl Try.underlying23) ?_
      refine L_pur rfl (p_lss rfl rfl) ?_
      refine L_nil ?_
      refine Q_then ?_
      refine C_dec rfl (fun h38 => ?_) (fun h38 => ?_)
      ·
        have hltk : k < ws.length := by omega
        obtain ⟨bw, ow, rfl⟩ := h3w (by intro h; rw [h] at hmw; simp at hmw; omega)
        obtain ⟨d, hcd⟩ : ∃ d, ws[k]? = some d := ⟨_, List.getElem?_eq_getElem hltk⟩
        refine J_skip ?_
        refine Q_then ?_
        refine J_seq ?_
        refine J_block ?_
        refine J_seq ?_
        refine J_region ?_
        refine L_pur rfl (p_move rfl) ?_
        refine L_pur rfl (p_move rfl) ?_
        refine L_pur rfl (p_indexAddr rfl rfl Try.underlying23 ty3 (by omega) (by omega)) ?_
        refine L_val rfl (v_loadE1 rfl ty3 (by repeat (first | with_reducible exact Has.here | with_reducible assumption | with_reducible apply Has.there)) (by simp only [Int.toNat_natCast, List.getElem?_map, hcd]; rfl)) ?_
        refine L_pur rfl (p_move rfl) ?_
        refine L_pur rfl (p_eql rfl rfl) ?_
        refine L_nil ?_
        refine Q_then ?_
        refine C_dec rfl (fun h46 => ?_) (fun h46 => ?_)
        ·
          refine J_region ?_
          refine L_pur rfl (p_move rfl) ?_
          refine L_pur rfl (p_assign rfl) ?_
          refine L_nil ?_
          refine Q_blk_normal ?_
          refine Q_then ?_
          refine J_region ?_
          refine L_pur rfl (p_move rfl) ?_
          refine L_pur rfl (p_add64 rfl rfl (by omega)) ?_
          refine L_pur rfl (p_assign rfl) ?_
          refine L_nil ?_
          refine Q_then ?_
          refine J_slot (t := 9) (v := .int .i64 (atN n (ws.take (k + 1)))) rfl (by subst h46; rw [atN_here hcd hnd]) ?_
          exact J_again (k + 1) (by omega) (by omega) (by repeat (first | exact Sub.nil | exact Sub.refl | refine Sub.cons (by repeat (first | exact Pick.here | apply Pick.there)) ?_ | refine Sub.drop ?_)) (by repeat (first | exact Keep.nil | refine Keep.cons rfl ?_))
        ·
          refine J_skip ?_
          refine Q_blk_normal ?_
          refine Q_then ?_
          refine J_region ?_
          refine L_pur rfl (p_move rfl) ?_
          refine L_pur rfl (p_add64 rfl rfl (by omega)) ?_
          refine L_pur rfl (p_assign rfl) ?_
          refine L_nil ?_
          refine Q_then ?_
          refine J_slot (t := 9) (v := .int .i64 (atN n (ws.take (k + 1)))) rfl (by rw [atN_same hcd h46]) ?_
          exact J_again (k + 1) (by omega) (by omega) (by repeat (first | exact Sub.nil | exact Sub.refl | refine Sub.cons (by repeat (first | exact Pick.here | apply Pick.there)) ?_ | refine Sub.drop ?_)) (by repeat (first | exact Keep.nil | refine Keep.cons rfl ?_))
      ·
        have hke : k = ws.length := by omega
        subst hke
        rw [List.take_length]
        obtain ⟨q, hq⟩ : ∃ q, q = atN n ws := ⟨_, rfl⟩
        have hqi : 0 ≤ q ↔ n ∈ ws := by rw [hq]; exact atN_iff
        rw [← hq]
        have h7i := @h7_in n ws
        refine J_exit ?_
        refine Q_then_exit ?_
        refine Q_then_exit ?_
        refine Q_blk_this ?_
        refine Q_then ?_
        refine J_cut2 (fun (v5 : Value) (z : List Int) => As.pure (z.length ≤ i + 1 ∧ z.Nodup) :: lsA b4 0 (z.map h7) :: row 3 1 v5 (z.map encN) :: [old W]) (fun (v5 : Value) (z : List Int) => [(5, v5), (6, .int .i64 (i : Int)), (0, .slice (some ⟨bx, ox, none⟩) (zs.map fun z => [Value.int .i64 z]).length cap), (3, .bool true), (4, .pointer (some ⟨b4, 0, none⟩))]) ?_ ?_
        ·
          refine J_seq ?_
          refine J_region ?_
          refine L_pur rfl (p_move rfl) ?_
          refine L_pur rfl (p_move rfl) ?_
          refine L_pur rfl (p_indexAddr rfl rfl Try.underlying23 ty3 (by omega) (by omega)) ?_
          refine L_val rfl (v_loadR1 rfl ty3 (fun w H => hr.old (by repeat (first | with_reducible exact Has.here | with_reducible assumption | with_reducible apply Has.there)) H) (by simp only [Int.toNat_natCast, List.getElem?_map, hcc]; rfl)) ?_
          refine L_pur rfl (p_and rfl rfl) ?_
          refine L_pur rfl (p_eql rfl rfl) ?_
          refine L_nil ?_
          refine Q_then ?_
          refine C_dec rfl (fun h53 => ?_) (fun h53 => ?_)
          ·
            refine J_seq ?_
            refine J_seq ?_
            refine J_region ?_
            refine L_val rfl (v_loadA rfl ty36 (by repeat (first | with_reducible exact Has.here | with_reducible assumption | with_reducible apply Has.there)) (by first | exact Cut.full rfl | ((repeat constructor); done) | exact Cut.full (by first | rfl | simp [*]))) ?_
            refine L_op (x_call Try.func47 nm47 bd47 (.cons rfl (.cons rfl .nil)) rfl (lDrop (xs := ws.map h7) (i := h7 n) (by repeat (first | with_reducible exact Pick.here | with_reducible assumption | with_reducible apply Pick.there)) (by simp; omega)) fun _ => ?_)
            refine L_pur rfl (p_move rfl) ?_
            refine L_pur rfl (p_geq rfl rfl) ?_
            refine L_pur rfl (p_neb Try.underlying4 rfl rfl) ?_
            refine L_nil ?_
            refine Q_then ?_
            refine J_bool (t := 58) (c := false) rfl (by simp [h7i, hqi]) ?_
            refine C_false rfl ?_
            refine J_skip ?_
            refine Q_then ?_
            refine J_seq ?_
            refine J_region ?_
            refine L_pur rfl (p_move rfl) ?_
            refine L_pur rfl (p_geq rfl rfl) ?_
            refine L_nil ?_
            refine Q_then ?_
            refine C_dec rfl (fun h60 => ?_) (fun h60 => ?_)
            ·
              have hin : n ∈ ws := hqi.1 h60
              refine J_nil (el := 3) (sz := 1) ?_
              refine J_seq ?_
              refine J_region ?_
              refine L_pur rfl (p_assign rfl) ?_
              refine L_nil ?_
              refine Q_then ?_
              refine J_seq ?_
              refine J_seq ?_
              refine J_region ?_
              refine L_pur rfl (p_assign rfl) ?_
              refine L_nil ?_
              refine Q_then ?_
              refine J_block ?_
              refine J_loop2 (fun k v11 => k ≤ ws.length) (fun k v11 => [row 3 1 v11 ((outN n (ws.take k)).map encN), lsA b4 0 (ldrop (ws.map h7) (h7 n)), row 3 1 (.slice aw (ws.map encN).length cw) (ws.map encN), old W]) (fun k v11 => [(12, .int .i64 (k : Int)), (11, v11), (9, .int .i64 q), (5, .slice aw (ws.map encN).length cw), (6, .int .i64 (i : Int)), (0, .slice (some ⟨bx, ox, none⟩) (zs.map fun z => [Value.int .i64 z]).length cap), (3, .bool true), (4, .pointer (some ⟨b4, 0, none⟩))]) (fun k v11 => ws.length - k) 0 (.slice none 0 0) (by omega) (by repeat (first | exact Sub.nil | exact Sub.refl | refine Sub.cons (by repeat (first | exact Pick.here | apply Pick.there)) ?_ | refine Sub.drop ?_)) (by repeat (first | exact Keep.nil | refine Keep.cons rfl ?_)) ?_
              intro k v11 hk
              have hol := outN_len n (ws.take k)
              have htl : (ws.take k).length ≤ k := by simp; omega
              refine J_seq ?_
              refine J_seq ?_
              refine J_region ?_
              refine L_pur rfl (p_move rfl) ?_
              refine L_pur rfl (p_move rfl) ?_
              refine L_pur rfl (p_len rfl Try.underlying23) ?_
              refine L_pur rfl (p_lss rfl rfl) ?_
              refine L_nil ?_
              refine Q_then ?_
              refine C_dec rfl (fun h64 => ?_) (fun h64 => ?_)
              ·
                have hltk : k < ws.length := by omega
                obtain ⟨bw, ow, rfl⟩ := h3w (by intro h; rw [h] at hmw; simp at hmw; omega)
                obtain ⟨d, hcd⟩ : ∃ d, ws[k]? = some d := ⟨_, List.getElem?_eq_getElem hltk⟩
                have hke := at_eq hcd hnd hin
                refine J_skip ?_
                refine Q_then ?_
                refine J_seq ?_
                refine J_block ?_
                refine J_seq ?_
                refine J_region ?_
                refine L_pur rfl (p_move rfl) ?_
                refine L_pur rfl (p_move rfl) ?_
                refine L_pur rfl (p_neq rfl rfl) ?_
                refine L_nil ?_
                refine Q_then ?_
                refine C_dec rfl (fun h69 => ?_) (fun h69 => ?_)
                ·
                  refine J_region ?_
                  refine L_pur rfl (p_move rfl) ?_
                  refine L_pur rfl (p_move rfl) ?_
                  refine L_pur rfl (p_move rfl) ?_
                  refine L_pur rfl (p_indexAddr rfl rfl Try.underlying23 ty3 (by omega) (by omega)) ?_
                  refine L_val rfl (v_loadE1 rfl ty3 (by repeat (first | with_reducible exact Has.here | with_reducible assumption | with_reducible apply Has.there)) (by simp only [Int.toNat_natCast, List.getElem?_map, hcd]; rfl)) ?_
                  refine L_op (x_lit (vals := [_]) Try.underlying23 ty3 rfl (.cons rfl .nil) (.one rfl .nil) (Wf.cons rfl rfl Wf.nil) rfl (by decide) rfl rfl fun v75 => ?_)
                  refine J_row .here fun hw75 a75 c75 hv75 hl75 hm75 hz75 => ?_
                  subst hv75
                  refine L_op (x_app rfl rfl Try.underlying23 ty3 rfl rfl (by repeat (first | with_reducible exact Pick.here | with_reducible assumption | with_reducible apply Pick.there)) (fun w H => sep_reads (by repeat (first | with_reducible exact Has.here | with_reducible assumption | with_reducible apply Has.there)) H) (by first | omega | (simp <;> omega)) (by first | omega | (simp <;> omega)) rfl fun v76 => ?_)
                  refine J_rowEq (ys := (outN n (ws.take (k + 1))).map encN) (by rw [outN_succ hcd, if_neg (fun e => h69 (by rw [hq]; exact hke.2 e))]; simp [encN]) ?_
                  refine J_row .here fun hw76 a76 c76 hv76 hl76 hm76 hz76 => ?_
                  subst hv76
                  refine L_pur rfl (p_assign rfl) ?_
                  refine L_nil ?_
                  refine Q_blk_normal ?_
                  refine Q_then ?_
                  refine J_region ?_
                  refine L_pur rfl (p_move rfl) ?_
                  refine L_pur rfl (p_add64 rfl rfl (by omega)) ?_
                  refine L_pur rfl (p_assign rfl) ?_
                  refine L_nil ?_
                  refine Q_then ?_
                  
                  exact J_again2 (k + 1) _ (by omega) (by omega) (by repeat (first | exact Sub.nil | exact Sub.refl | refine Sub.cons (by repeat (first | exact Pick.here | apply Pick.there)) ?_ | refine Sub.drop ?_)) (by repeat (first | exact Keep.nil | refine Keep.cons rfl ?_))
                ·
                  refine J_skip ?_
                  refine Q_blk_normal ?_
                  refine Q_then ?_
                  refine J_region ?_
                  refine L_pur rfl (p_move rfl) ?_
                  refine L_pur rfl (p_add64 rfl rfl (by omega)) ?_
                  refine L_pur rfl (p_assign rfl) ?_
                  refine L_nil ?_
                  refine Q_then ?_
                  refine J_pick (A := row 3 1 v11 _) (by repeat (first | with_reducible exact Pick.here | with_reducible assumption | with_reducible apply Pick.there)) ?_
                  refine J_rowEq (ys := (outN n (ws.take (k + 1))).map encN) (by rw [outN_succ hcd, if_pos (hke.1 (by simpa [hq] using h69))]; simp) ?_
                  exact J_again2 (k + 1) _ (by omega) (by omega) (by repeat (first | exact Sub.nil | exact Sub.refl | refine Sub.cons (by repeat (first | exact Pick.here | apply Pick.there)) ?_ | refine Sub.drop ?_)) (by repeat (first | exact Keep.nil | refine Keep.cons rfl ?_))
              ·
                have hkx : k = ws.length := by omega
                subst hkx
                refine J_pick (A := row 3 1 v11 _) (by repeat (first | with_reducible exact Pick.here | with_reducible assumption | with_reducible apply Pick.there)) ?_
                refine J_rowEq (ys := (outN n ws).map encN) (by rw [List.take_length]) ?_
                refine J_exit ?_
                refine Q_then_exit ?_
                refine Q_then_exit ?_
                refine Q_blk_this ?_
                refine Q_then ?_
                refine J_region ?_
                refine L_pur rfl (p_move rfl) ?_
                refine L_pur rfl (p_assign rfl) ?_
                refine J_nil (el := 3) (sz := 1) ?_
                refine L_nil ?_
                refine Q_then ?_
                refine J_pick (A := lsA b4 0 _) (by repeat (first | with_reducible exact Pick.here | with_reducible assumption | with_reducible apply Pick.there)) ?_
                refine J_asTo (B := lsA b4 0 ((outN n ws).map h7)) (by rw [h7_drop]) ?_
                refine J_pure_in (p := (outN n ws).length ≤ i + 1 ∧ (outN n ws).Nodup) (by have := outN_len n ws; exact ⟨by omega, List.Nodup.sublist List.filter_sublist hnd⟩) ?_
                exact J_at2 (L := (fun (v5 : Value) (z : List Int) => As.pure (z.length ≤ i + 1 ∧ z.Nodup) :: lsA b4 0 (z.map h7) :: row 3 1 v5 (z.map encN) :: [old W])) (G := (fun (v5 : Value) (z : List Int) => [(5, v5), (6, .int .i64 (i : Int)), (0, .slice (some ⟨bx, ox, none⟩) (zs.map fun z => [Value.int .i64 z]).length cap), (3, .bool true), (4, .pointer (some ⟨b4, 0, none⟩))])) _ (outN n ws) (by repeat (first | exact Sub.nil | exact Sub.refl | refine Sub.cons (by repeat (first | exact Pick.here | apply Pick.there)) ?_ | refine Sub.drop ?_)) (by repeat (first | exact Keep.nil | refine Keep.cons rfl ?_))
            ·
              have hin : n ∉ ws := fun h => h60 (hqi.2 h)
              refine J_skip ?_
              refine Q_then ?_
              refine J_pick (A := lsA b4 0 _) (by repeat (first | with_reducible exact Pick.here | with_reducible assumption | with_reducible apply Pick.there)) ?_
              refine J_asTo (B := lsA b4 0 ((outN n ws).map h7)) (by rw [h7_drop]) ?_
              refine J_pick (A := row 3 1 (.slice aw (ws.map encN).length cw) (ws.map encN)) (by repeat (first | with_reducible exact Pick.here | with_reducible assumption | with_reducible apply Pick.there)) ?_
              refine J_rowEq (ys := (outN n ws).map encN) (by rw [outN_no hin]) ?_
              refine J_pure_in (p := (outN n ws).length ≤ i + 1 ∧ (outN n ws).Nodup) (by have := outN_len n ws; exact ⟨by omega, List.Nodup.sublist List.filter_sublist hnd⟩) ?_
              exact J_at2 (L := (fun (v5 : Value) (z : List Int) => As.pure (z.length ≤ i + 1 ∧ z.Nodup) :: lsA b4 0 (z.map h7) :: row 3 1 v5 (z.map encN) :: [old W])) (G := (fun (v5 : Value) (z : List Int) => [(5, v5), (6, .int .i64 (i : Int)), (0, .slice (some ⟨bx, ox, none⟩) (zs.map fun z => [Value.int .i64 z]).length cap), (3, .bool true), (4, .pointer (some ⟨b4, 0, none⟩))])) _ (outN n ws) (by repeat (first | exact Sub.nil | exact Sub.refl | refine Sub.cons (by repeat (first | exact Pick.here | apply Pick.there)) ?_ | refine Sub.drop ?_)) (by repeat (first | exact Keep.nil | refine Keep.cons rfl ?_))
          ·
            refine J_seq ?_
            refine J_seq ?_
            refine J_region ?_
            refine L_val rfl (v_loadA rfl ty36 (by repeat (first | with_reducible exact Has.here | with_reducible assumption | with_reducible apply Has.there)) (by first | exact Cut.full rfl | ((repeat constructor); done) | exact Cut.full (by first | rfl | simp [*]))) ?_
            refine L_op (x_call Try.func46 nm46 bd46 (.cons rfl (.cons rfl .nil)) rfl (lPush (xs := ws.map h7) (i := h7 n) (by repeat (first | with_reducible exact Pick.here | with_reducible assumption | with_reducible apply Pick.there)) (by simp; omega)) fun _ => ?_)
            refine L_pur rfl (p_move rfl) ?_
            refine L_pur rfl (p_lss rfl rfl) ?_
            refine L_pur rfl (p_neb Try.underlying4 rfl rfl) ?_
            refine L_nil ?_
            refine Q_then ?_
            refine J_bool (t := 82) (c := false) rfl (by have e : decide (h7 n ∈ ws.map h7) = decide (0 ≤ q) := by { rw [decide_eq_decide, h7i, hqi] }; rw [e]; by_cases h0 : 0 ≤ q <;> simp [h0] <;> omega) ?_
            refine C_false rfl ?_
            refine J_skip ?_
            refine Q_then ?_
            refine J_seq ?_
            refine J_region ?_
            refine L_pur rfl (p_move rfl) ?_
            refine L_pur rfl (p_lss rfl rfl) ?_
            refine L_nil ?_
            refine Q_then ?_
            refine C_dec rfl (fun h84 => ?_) (fun h84 => ?_)
            ·
              have hin : n ∉ ws := fun h => by have := hqi.2 h; omega
              refine J_region ?_
              refine L_pur rfl (p_move rfl) ?_
              refine L_pur rfl (p_move rfl) ?_
              refine L_op (x_lit (vals := [_]) Try.underlying23 ty3 rfl (.cons rfl .nil) (.one rfl .nil) (Wf.cons rfl rfl Wf.nil) rfl (by decide) rfl rfl fun v87 => ?_)
              refine J_row .here fun hw87 a87 c87 hv87 hl87 hm87 hz87 => ?_
              subst hv87
              refine L_op (x_app rfl rfl Try.underlying23 ty3 rfl rfl (by repeat (first | with_reducible exact Pick.here | with_reducible assumption | with_reducible apply Pick.there)) (fun w H => sep_reads (by repeat (first | with_reducible exact Has.here | with_reducible assumption | with_reducible apply Has.there)) H) (by first | omega | (simp <;> omega)) (by first | omega | (simp <;> omega)) rfl fun v88 => ?_)
              refine J_rowEq (ys := (ws ++ [n]).map encN) (by simp [encN]) ?_
              refine J_row .here fun hw88 a88 c88 hv88 hl88 hm88 hz88 => ?_
              subst hv88
              refine L_pur rfl (p_assign rfl) ?_
              refine J_nil (el := 3) (sz := 1) ?_
              refine L_nil ?_
              refine Q_then ?_
              refine J_pick (A := lsA b4 0 _) (by repeat (first | with_reducible exact Pick.here | with_reducible assumption | with_reducible apply Pick.there)) ?_
              refine J_asTo (B := lsA b4 0 ((ws ++ [n]).map h7)) (by rw [h7_push hin]) ?_
              refine J_pure_in (p := (ws ++ [n]).length ≤ i + 1 ∧ (ws ++ [n]).Nodup) (by refine ⟨by simp; omega, ?_⟩; rw [List.nodup_append]; exact ⟨hnd, by simp, fun x hx y hy => by simp at hy; subst hy; exact fun e => hin (e ▸ hx)⟩) ?_
              exact J_at2 (L := (fun (v5 : Value) (z : List Int) => As.pure (z.length ≤ i + 1 ∧ z.Nodup) :: lsA b4 0 (z.map h7) :: row 3 1 v5 (z.map encN) :: [old W])) (G := (fun (v5 : Value) (z : List Int) => [(5, v5), (6, .int .i64 (i : Int)), (0, .slice (some ⟨bx, ox, none⟩) (zs.map fun z => [Value.int .i64 z]).length cap), (3, .bool true), (4, .pointer (some ⟨b4, 0, none⟩))])) _ (ws ++ [n]) (by repeat (first | exact Sub.nil | exact Sub.refl | refine Sub.cons (by repeat (first | exact Pick.here | apply Pick.there)) ?_ | refine Sub.drop ?_)) (by repeat (first | exact Keep.nil | refine Keep.cons rfl ?_))
            ·
              have hin : n ∈ ws := hqi.1 (by omega)
              refine J_skip ?_
              refine Q_then ?_
              refine J_pick (A := lsA b4 0 _) (by repeat (first | with_reducible exact Pick.here | with_reducible assumption | with_reducible apply Pick.there)) ?_
              refine J_asTo (B := lsA b4 0 (ws.map h7)) (by rw [h7_push' hin]) ?_
              refine J_pure_in (p := ws.length ≤ i + 1 ∧ ws.Nodup) (by exact ⟨by omega, hnd⟩) ?_
              exact J_at2 (L := (fun (v5 : Value) (z : List Int) => As.pure (z.length ≤ i + 1 ∧ z.Nodup) :: lsA b4 0 (z.map h7) :: row 3 1 v5 (z.map encN) :: [old W])) (G := (fun (v5 : Value) (z : List Int) => [(5, v5), (6, .int .i64 (i : Int)), (0, .slice (some ⟨bx, ox, none⟩) (zs.map fun z => [Value.int .i64 z]).length cap), (3, .bool true), (4, .pointer (some ⟨b4, 0, none⟩))])) _ ws (by repeat (first | exact Sub.nil | exact Sub.refl | refine Sub.cons (by repeat (first | exact Pick.here | apply Pick.there)) ?_ | refine Sub.drop ?_)) (by repeat (first | exact Keep.nil | refine Keep.cons rfl ?_))
        ·
          intro v5 z
          refine J_pure fun ⟨hz, hznd⟩ => ?_
          refine J_row (.there .here) fun hwz az cz hvz h1z h2z h3z => ?_
          subst hvz
          have hmz : (z.map encN).length = z.length := List.length_map _
          refine J_seq ?_
          refine J_region ?_
          refine L_op (x_call Try.func56 nm56 bd56 (.cons rfl .nil) rfl (lAll (xs := z.map h7) (by repeat (first | with_reducible exact Pick.here | with_reducible assumption | with_reducible apply Pick.there)) (by simp; omega)) fun v89 => ?_)
          refine J_row .here fun hw89 a89 c89 hv89 hl89 hm89 hz89 => ?_
          subst hv89
          refine L_pur rfl (p_assign rfl) ?_
          refine L_nil ?_
          refine Q_then ?_
          refine J_seq ?_
          refine J_seq ?_
          refine J_region ?_
          refine L_pur rfl (p_move rfl) ?_
          refine L_pur rfl (p_len rfl Try.underlying80) ?_
          refine L_pur rfl (p_move rfl) ?_
          refine L_pur rfl (p_len rfl Try.underlying23) ?_
          refine L_pur rfl (p_neq rfl rfl) ?_
          refine L_pur rfl (p_move rfl) ?_
          refine J_bool (t := 95) (c := false) rfl (by simp) ?_
          refine L_op (G_on rfl rfl rfl ?_)
          refine x_call Try.func49 nm49 bd49 (.cons rfl .nil) rfl (lLen (xs := z.map h7) (by repeat (first | with_reducible exact Pick.here | with_reducible assumption | with_reducible apply Pick.there)) (by simp; omega)) fun _ => ?_
          refine L_op (G_on rfl rfl rfl ?_)
          refine J_pur (p_move rfl) rfl rfl rfl ?_
          refine L_op (G_on rfl rfl rfl ?_)
          refine J_pur (p_len rfl Try.underlying23) rfl rfl rfl ?_
          refine L_op (G_on rfl rfl rfl ?_)
          refine J_pur (p_neq rfl rfl) rfl rfl rfl ?_
          refine L_pur rfl (p_pick_f rfl rfl) ?_
          refine L_nil ?_
          refine Q_then ?_
          refine J_bool (t := 100) (c := false) rfl (by simp) ?_
          refine C_false rfl ?_
          refine J_skip ?_
          refine Q_then ?_
          refine J_seq ?_
          refine J_region ?_
          refine L_pur rfl (p_assign rfl) ?_
          refine L_nil ?_
          refine Q_then ?_
          refine J_block ?_
          refine J_loop (α := Nat) (fun k => k ≤ z.length) (fun k => [lsA b4 0 (z.map h7), row 3 1 (.slice az (z.map encN).length cz) (z.map encN), row 36 2 (.slice a89 ((z.map h7).map encI).length c89) ((z.map h7).map encI), old W]) (fun k => [(14, .int .i64 (k : Int)), (13, .slice a89 ((z.map h7).map encI).length c89), (5, .slice az (z.map encN).length cz), (6, .int .i64 (i : Int)), (0, .slice (some ⟨bx, ox, none⟩) (zs.map fun z => [Value.int .i64 z]).length cap), (3, .bool true), (4, .pointer (some ⟨b4, 0, none⟩))]) (fun k => z.length - k) 0 (by omega) (by repeat (first | exact Sub.nil | exact Sub.refl | refine Sub.cons (by repeat (first | exact Pick.here | apply Pick.there)) ?_ | refine Sub.drop ?_)) (by repeat (first | exact Keep.nil | refine Keep.cons rfl ?_)) ?_
          intro k hk
          refine J_seq ?_
          refine J_seq ?_
          refine J_region ?_
          refine L_pur rfl (p_move rfl) ?_
          refine L_pur rfl (p_move rfl) ?_
          refine L_pur rfl (p_len rfl Try.underlying23) ?_
          refine L_pur rfl (p_lss rfl rfl) ?_
          refine L_nil ?_
          refine Q_then ?_
          refine C_dec rfl (fun h104 => ?_) (fun h104 => ?_)
          ·
            have hltk : k < z.length := by omega
            obtain ⟨bw, ow, rfl⟩ := h3z (by intro h; rw [h] at hmz; simp at hmz; omega)
            have hm8 : ((z.map h7).map encI).length = z.length := by simp
            obtain ⟨b8, o8, rfl⟩ := hz89 (by intro h; rw [h] at hm8; simp at hm8; omega)
            obtain ⟨d, hcd⟩ : ∃ d, z[k]? = some d := ⟨_, List.getElem?_eq_getElem hltk⟩
            have hdz : d ∈ z := List.mem_of_getElem? hcd
            have hd7 := (@h7_in d z).2 hdz
            refine J_skip ?_
            refine Q_then ?_
            refine J_seq ?_
            refine J_block ?_
            refine J_seq ?_
            refine J_drawT 15 mixed (by kernel_rfl) ?_
            refine S_val rfl (Pur.vl (p_move rfl)) ?_
            refine S_val rfl (Pur.vl (p_move rfl)) ?_
            refine S_val rfl (Pur.vl (p_indexAddr rfl rfl Try.underlying80 ty36 (by omega) (by omega))) ?_
            refine S_val rfl (v_loadE rfl ty36 (by repeat (first | with_reducible exact Has.here | with_reducible assumption | with_reducible apply Has.there)) (by simp only [Int.toNat_natCast, List.getElem?_map, hcd]; rfl)) ?_
            refine S_val rfl (Pur.vl (p_move rfl)) ?_
            refine S_val rfl (Pur.vl (p_move rfl)) ?_
            refine S_val rfl (Pur.vl (p_indexAddr rfl rfl Try.underlying23 ty3 (by omega) (by omega))) ?_
            refine S_val rfl (v_loadE1 rfl ty3 (by repeat (first | with_reducible exact Has.here | with_reducible assumption | with_reducible apply Has.there)) (by simp only [Int.toNat_natCast, List.getElem?_map, hcd]; rfl)) ?_
            refine S_val rfl (Pur.vl (bld36 (.cons rfl (.cons rfl .nil)) (by repeat constructor))) ?_
            refine S_val rfl (Pur.vl (p_nev rfl rfl (fun w => eg36 _ _ _ _ _ w) (fun w => nev36 _ _ _ _ w))) ?_
            refine S_val rfl (Pur.vl (p_move rfl)) ?_
            refine J_bool (t := 117) (c := false) rfl (by simp [h7]) ?_
            refine S_on rfl rfl rfl rfl (Pur.vl (p_move rfl)) ?_
            refine S_on rfl rfl rfl rfl (Pur.vl (p_move rfl)) ?_
            refine S_on rfl rfl rfl rfl (Pur.vl (p_indexAddr rfl rfl Try.underlying80 ty36 (by omega) (by omega))) ?_
            refine S_on rfl rfl rfl rfl (v_loadE rfl ty36 (by repeat (first | with_reducible exact Has.here | with_reducible assumption | with_reducible apply Has.there)) (by simp only [Int.toNat_natCast, List.getElem?_map, hcd]; rfl)) ?_
            refine S_nil ?_
            refine L_op (G_on rfl rfl rfl ?_)
            refine x_call Try.func53 nm53 bd53 (.cons rfl (.cons rfl .nil)) rfl (lHas (xs := z.map h7) (i := h7 d) (by repeat (first | with_reducible exact Pick.here | with_reducible assumption | with_reducible apply Pick.there)) (by simp; omega)) fun _ => ?_
            refine L_op (G_on rfl rfl rfl ?_)
            refine J_pur (p_not rfl) rfl rfl rfl ?_
            refine L_pur rfl (p_pick_f rfl rfl) ?_
            refine L_nil ?_
            refine Q_then ?_
            refine J_bool (t := 124) (c := false) rfl (by simp [hdz, h7_in]) ?_
            refine C_false rfl ?_
            refine J_skip ?_
            refine Q_blk_normal ?_
            refine Q_then ?_
            refine J_region ?_
            refine L_pur rfl (p_move rfl) ?_
            refine L_pur rfl (p_add64 rfl rfl (by omega)) ?_
            refine L_pur rfl (p_assign rfl) ?_
            refine L_nil ?_
            refine Q_then ?_
            exact J_again (k + 1) (by omega) (by omega) (by repeat (first | exact Sub.nil | exact Sub.refl | refine Sub.cons (by repeat (first | exact Pick.here | apply Pick.there)) ?_ | refine Sub.drop ?_)) (by repeat (first | exact Keep.nil | refine Keep.cons rfl ?_))
          ·
            refine J_exit ?_
            refine Q_then_exit ?_
            refine Q_then_exit ?_
            refine Q_blk_this ?_
            refine Q_blk_normal ?_
            refine Q_then ?_
            refine J_region ?_
            refine L_pur rfl (p_move rfl) ?_
            refine L_pur rfl (p_add64 rfl rfl (by omega)) ?_
            refine L_pur rfl (p_assign rfl) ?_
            refine L_nil ?_
            refine Q_then ?_
            exact J_again3 (i + 1) _ z (by omega) (⟨by omega, by omega, hznd⟩) (by repeat (first | exact Sub.nil | exact Sub.refl | refine Sub.cons (by repeat (first | exact Pick.here | apply Pick.there)) ?_ | refine Sub.drop ?_)) (by repeat (first | exact Keep.nil | refine Keep.cons rfl ?_))
    ·
      refine J_exit ?_
      refine Q_then_exit ?_
      refine Q_then_exit ?_
      refine Q_blk_this ?_
      refine Q_then ?_
      refine J_seq ?_
      refine J_region ?_
      refine L_pur rfl (p_move rfl) ?_
      refine L_pur rfl (p_assign rfl) ?_
      refine L_nil ?_
      refine Q_then ?_
      refine J_ret ?_
      exact J_return (()) Try.results11 (.tmp rfl .nil) rfl (by repeat (first | exact Sub.nil | exact Sub.refl | refine Sub.cons (by repeat (first | exact Pick.here | apply Pick.there)) ?_ | refine Sub.drop ?_))

end Go.Pse
