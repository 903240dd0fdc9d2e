/-
  The law on those that ask again.
-/
import Derived.Test.YtjolbnicboaaeaaNt2
namespace Go.Pse
open Go.RowKit Go.Proofs

theorem orb_nat (a b : Int) : orb a b = ((BitVec.ofInt 32 a ||| BitVec.ofInt 32 b).toNat : Int) := by
  show IntKind.u32.wrap ((BitVec.ofInt 32 a ||| BitVec.ofInt 32 b).toNat : Int) = _
  have := (BitVec.ofInt 32 a ||| BitVec.ofInt 32 b).isLt
  exact wrap32u_of (by omega)
theorem or4 (x : Int) : ¬ orb x 4 = 0 := by
  rw [orb_nat, BitVec.toNat_or]
  intro h
  have h1 : (BitVec.ofInt 32 x).toNat ||| (BitVec.ofInt 32 4).toNat = 0 := by omega
  have h2 := congrArg (fun n => Nat.testBit n 2) h1
  simp only [Nat.testBit_or] at h2
  have h3 : Nat.testBit (BitVec.ofInt 32 4).toNat 2 = true := by decide
  rw [h3] at h2
  simp at h2
theorem or0 (a b : Int) : orb 0 (orb a b) = orb a b := by
  have e : BitVec.ofInt 32 0 = 0#32 := rfl
  rw [orb_nat 0, orb_nat a b, BitVec.ofInt_natCast, BitVec.ofNat_toNat, BitVec.setWidth_eq, e, BitVec.zero_or]
def mkA (k : Nat) : ID := (1, k)
theorem mkA_in {k : Nat} {l : List Nat} : mkA k ∈ l.map mkA ↔ k ∈ l := by
  rw [List.mem_map]
  constructor
  · rintro ⟨j, hj, e⟩
    have : j = k := by have := congrArg Prod.snd e; simp only [mkA] at this; omega
    exact this ▸ hj
  · exact fun h => ⟨k, h, rfl⟩
theorem waitA {i : Nat} : waitL 0 ((List.range i).map mkA) (mkA i) = (List.range (i + 1)).map mkA := by
  unfold waitL lpush
  rw [if_pos rfl, if_neg (by rw [mkA_in]; simp), List.range_succ, List.map_append]; rfl
theorem waitB {i k : Nat} (h : k < i) : waitL 0 ((List.range i).map mkA) (mkA k) = (List.range i).map mkA := by
  unfold waitL lpush
  rw [if_pos rfl, if_pos (by rw [mkA_in]; simpa using h)]
theorem dropA {l : List Nat} {k : Nat} : ldrop (l.map mkA) (mkA k) = (l.filter fun j => !decide (j = k)).map mkA := by
  unfold ldrop
  rw [List.filter_map]
  congr 1
  apply List.filter_congr
  intro j _
  have : mkA j = mkA k ↔ j = k := ⟨fun e => by have := congrArg Prod.snd e; simp only [mkA] at this; omega, fun e => by rw [e]⟩
  simp [isI_eq, this]
def rest (N i : Nat) : List ID := (List.range' i (N - i)).map mkA
theorem rest_cons {N i : Nat} (h : i < N) : rest N i = mkA i :: rest N (i + 1) := by
  unfold rest
  rw [show N - i = (N - (i + 1)) + 1 by omega, List.range'_succ]; rfl
theorem rest_nil {N : Nat} : rest N N = [] := by simp [rest]
theorem rest_all {N : Nat} : rest N 0 = (List.range N).map mkA := by simp [rest, List.range_eq_range']
theorem rest_len {N i : Nat} : (rest N i).length = N - i := by simp [rest]

set_option maxRecDepth 100000 in
set_option maxHeartbeats 4000000 in
theorem notifAgain {E W : World} (z0 z1 x : Int) :
    Con Try.prog 14 #[.int .i64 z0, .int .i64 z1, .int .u32 x] E [old W] (fun _ : Unit => .bool true) (fun _ => [old W]) := by
  refine Con.body (vs := [.int .i64 z0, .int .i64 z1, .int .u32 x]) (n := 116) Try.func14 rfl rfl [(0, .int .i64 z0), (1, .int .i64 z1), (2, .int .u32 x)] (env_ok 3 rfl) ?_
  obtain ⟨N, hN⟩ : ∃ N, N = 2 + num z0 6 := ⟨_, rfl⟩
  have hn2 : num z0 6 < 6 := num_lt' (b := 6) (by omega)
  refine J_seq ?_
  refine J_region ?_
  refine L_pur rfl (p_assign rfl) ?_
  refine L_nil ?_
  refine Q_then ?_
  refine J_seq ?_
  refine J_region ?_
  refine L_op (x_call Try.func62 nm62 bd62 .nil rfl (first13) fun _ => ?_)
  refine L_pur rfl (p_assign rfl) ?_
  refine L_nil ?_
  refine Q_then ?_
  refine J_seq ?_
  refine J_seq ?_
  refine J_region ?_
  refine L_pur rfl (p_move rfl) ?_
  refine L_pur rfl (p_not rfl) ?_
  refine L_nil ?_
  refine Q_then ?_
  refine J_bool (t := 25) (c := false) rfl (rfl) ?_
  refine C_false rfl ?_
  refine J_skip ?_
  refine Q_then ?_
  refine J_seq ?_
  refine J_region ?_
  refine L_pur rfl (p_move rfl) ?_
  refine L_op (x_call Try.func23 nm23 bd23 (.cons rfl (.cons rfl .nil)) rfl (number (by omega) (by omega)) fun _ => ?_)
  refine L_pur rfl (p_add64 rfl rfl (by omega)) ?_
  refine J_slot (t := 28) (v := .int .i64 (N : Int)) rfl (by rw [hN]; simp) ?_
  refine L_pur rfl (p_assign rfl) ?_
  refine L_nil ?_
  refine Q_then ?_
  refine J_seq ?_
  refine J_region ?_
  refine L_pur rfl (p_move rfl) ?_
  refine L_pur rfl (p_move rfl) ?_
  refine L_op (x_call Try.func23 nm23 bd23 (.cons rfl (.cons rfl .nil)) rfl (number (b := (N : Int)) (by omega) (by omega)) fun _ => ?_)
  obtain ⟨k, hk⟩ : ∃ k, k = num z1 N := ⟨_, rfl⟩
  have hkN : k < N := by rw [hk]; exact num_lt' (by omega)
  refine J_slot (t := 31) (v := .int .i64 (k : Int)) rfl (by rw [hk]) ?_
  refine L_pur rfl (p_assign rfl) ?_
  refine L_nil ?_
  refine Q_then ?_
  refine J_seq ?_
  refine J_region ?_
  refine L_op (x_alloc ty116 rfl fun b8 => ?_)
  refine J_ntNew ?_
  refine L_nil ?_
  refine Q_then ?_
  refine J_seq ?_
  refine J_seq ?_
  refine J_region ?_
  refine L_pur rfl (p_assign rfl) ?_
  refine L_nil ?_
  refine Q_then ?_
  refine J_block ?_
  refine J_loop (α := Nat) (fun i => i ≤ N) (fun i => [ntA b8 0 0 ((List.range i).map mkA), old W]) (fun i => [(9, .int .i64 (i : Int)), (1, .int .i64 (k : Int)), (2, .int .u32 x), (0, .int .i64 (N : Int)), (8, .pointer (some ⟨b8, 0, none⟩)), (7, .bool true)]) (fun i => N - i) 0 (by omega) (by repeat (first | exact Sub.nil | exact Sub.refl | refine Sub.cons (by repeat (first | exact Pick.here | apply Pick.there)) ?_ | refine Sub.drop ?_)) (by repeat (first | exact Keep.nil | refine Keep.cons rfl ?_)) ?_
  intro i hi
  refine J_seq ?_
  refine J_seq ?_
  refine J_region ?_
  refine L_pur rfl (p_move rfl) ?_
  refine L_pur rfl (p_move rfl) ?_
  refine L_pur rfl (p_lss rfl rfl) ?_
  refine L_nil ?_
  refine Q_then ?_
  refine C_dec rfl (fun h34 => ?_) (fun h34 => ?_)
  ·
    refine J_skip ?_
    refine Q_then ?_
    refine J_seq ?_
    refine J_block ?_
    refine J_region ?_
    refine L_pur rfl (p_move rfl) ?_
    refine L_pur rfl (bld36 (.cons rfl (.cons rfl .nil)) (by repeat constructor)) ?_
    refine L_op (x_call Try.func63 nm63 bd63 (.cons rfl (.cons rfl .nil)) rfl (nWait (i := mkA i) (by repeat (first | with_reducible exact Pick.here | with_reducible assumption | with_reducible apply Pick.there)) (by simp; omega)) fun _ => ?_)
    refine J_pick (A := ntA b8 0 _ _) (by repeat (first | with_reducible exact Pick.here | with_reducible assumption | with_reducible apply Pick.there)) ?_
    refine J_asTo (B := ntA b8 0 0 ((List.range (i + 1)).map mkA)) (by rw [waitA]) ?_
    refine L_nil ?_
    refine Q_blk_normal ?_
    refine Q_then ?_
    refine J_region ?_
    refine L_pur rfl (p_move rfl) ?_
    refine L_pur rfl (p_add64 rfl rfl (by omega)) ?_
    refine L_pur rfl (p_assign rfl) ?_
    refine L_nil ?_
    refine Q_then ?_
    exact J_again (i + 1) (by omega) (by omega) (by repeat (first | exact Sub.nil | exact Sub.refl | refine Sub.cons (by repeat (first | exact Pick.here | apply Pick.there)) ?_ | refine Sub.drop ?_)) (by repeat (first | exact Keep.nil | refine Keep.cons rfl ?_))
  ·
    have hiN : i = N := by omega
    subst hiN
    refine J_exit ?_
    refine Q_then_exit ?_
    refine Q_then_exit ?_
    refine Q_blk_this ?_
    refine Q_then ?_
    refine J_seq ?_
    refine J_seq ?_
    refine J_region ?_
    refine L_pur rfl (p_move rfl) ?_
    refine L_pur rfl (bld36 (.cons rfl (.cons rfl .nil)) (by repeat constructor)) ?_
    refine L_op (x_call Try.func63 nm63 bd63 (.cons rfl (.cons rfl .nil)) rfl (nWait (i := mkA k) (by repeat (first | with_reducible exact Pick.here | with_reducible assumption | with_reducible apply Pick.there)) (by simp; omega)) fun _ => ?_)
    refine J_pick (A := ntA b8 0 _ _) (by repeat (first | with_reducible exact Pick.here | with_reducible assumption | with_reducible apply Pick.there)) ?_
    refine J_asTo (B := ntA b8 0 0 ((List.range i).map mkA)) (by rw [waitB hkN]) ?_
    refine L_pur rfl (p_move rfl) ?_
    refine L_pur rfl (p_extract rfl rfl) ?_
    refine L_pur rfl (p_extract rfl rfl) ?_
    refine L_pur rfl (p_assign rfl) ?_
    refine L_pur rfl (p_assign rfl) ?_
    refine L_nil ?_
    refine Q_then ?_
    refine J_seq ?_
    refine J_region ?_
    refine L_pur rfl (p_move rfl) ?_
    refine L_pur rfl (p_move rfl) ?_
    refine J_bool (t := 47) (c := false) rfl (rfl) ?_
    refine L_op (G_on rfl rfl rfl ?_)
    refine x_call Try.func64 nm64 bd64 (.cons rfl .nil) rfl (nWaits (by repeat (first | with_reducible exact Pick.here | with_reducible assumption | with_reducible apply Pick.there)) (by simp; omega)) fun v48 => ?_
    refine J_row .here fun hw48 a48 c48 hv48 hl48 hm48 hz48 => ?_
    subst hv48
    refine L_op (G_on rfl rfl rfl ?_)
    refine J_pur (p_len rfl Try.underlying80) rfl rfl rfl ?_
    refine L_op (G_on rfl rfl rfl ?_)
    refine J_pur (p_move rfl) rfl rfl rfl ?_
    refine L_op (G_on rfl rfl rfl ?_)
    refine J_pur (p_neq rfl rfl) rfl rfl rfl ?_
    refine L_pur rfl (p_pick_f rfl rfl) ?_
    refine L_nil ?_
    refine Q_then ?_
    refine J_bool (t := 52) (c := false) rfl (by simp) ?_
    refine C_false rfl ?_
    refine J_skip ?_
    refine Q_then ?_
    refine J_seq ?_
    refine J_region ?_
    refine L_pur rfl (p_move rfl) ?_
    refine L_pur rfl (p_or rfl rfl) ?_
    obtain ⟨X, hX⟩ : ∃ X, X = orb x 4 := ⟨_, rfl⟩
    have hX0 : ¬ X = 0 := by rw [hX]; exact or4 x
    have hXX : orb 0 X = X := by rw [hX]; exact or0 x 4
    refine J_slot (t := 54) (v := .int .u32 X) rfl (by rw [hX]) ?_
    refine J_pick (A := ntA b8 0 _ _) (by repeat (first | with_reducible exact Pick.here | with_reducible assumption | with_reducible apply Pick.there)) ?_
    refine J_asTo (B := ntA b8 0 0 (rest i 0)) (by rw [rest_all]) ?_
    refine L_pur rfl (p_assign rfl) ?_
    refine L_nil ?_
    refine Q_then ?_
    refine J_seq ?_
    refine J_seq ?_
    refine J_region ?_
    refine L_pur rfl (p_assign rfl) ?_
    refine L_nil ?_
    refine Q_then ?_
    refine J_block ?_
    refine J_loop (α := Nat) (fun j => j ≤ i) (fun j => [ntA b8 0 0 (rest i j), old W]) (fun j => [(12, .int .i64 (j : Int)), (2, .int .u32 X), (0, .int .i64 (i : Int)), (8, .pointer (some ⟨b8, 0, none⟩)), (7, .bool true)]) (fun j => i - j) 0 (by omega) (by repeat (first | exact Sub.nil | exact Sub.refl | refine Sub.cons (by repeat (first | exact Pick.here | apply Pick.there)) ?_ | refine Sub.drop ?_)) (by repeat (first | exact Keep.nil | refine Keep.cons rfl ?_)) ?_
    intro j hj
    refine J_seq ?_
    refine J_seq ?_
    refine J_region ?_
    refine L_pur rfl (p_move rfl) ?_
    refine L_pur rfl (p_move rfl) ?_
    refine L_pur rfl (p_lss rfl rfl) ?_
    refine L_nil ?_
    refine Q_then ?_
    refine C_dec rfl (fun h57 => ?_) (fun h57 => ?_)
    ·
      have hlt : j < i := by omega
      have hwk : woke 0 (rest i j) X = true := by simp [woke, hXX, hX0, rest_cons hlt]
      have e1 : sigI 0 (rest i j) X = mkA j := by unfold sigI; rw [hwk]; simp [rest_cons hlt]
      have e2 : sigV 0 (rest i j) X = X := by simp [sigV, hwk, hXX]
      have e3 : sigW 0 (rest i j) X = 0 := by simp [sigW, hwk]
      have e4 : sigL 0 (rest i j) X = rest i (j + 1) := by unfold sigL; rw [hwk]; simp [rest_cons hlt]
      refine J_skip ?_
      refine Q_then ?_
      refine J_seq ?_
      refine J_block ?_
      refine J_seq ?_
      refine J_region ?_
      refine L_pur rfl (p_move rfl) ?_
      refine L_op (x_call Try.func65 nm65 bd65 (.cons rfl (.cons rfl .nil)) rfl (nSignal (x := X) (by repeat (first | with_reducible exact Pick.here | with_reducible assumption | with_reducible apply Pick.there)) (by rw [rest_len]; omega)) fun _ => ?_)
      rw [e1, e2, hwk]
      refine J_pick (A := ntA b8 0 _ _) (by repeat (first | with_reducible exact Pick.here | with_reducible assumption | with_reducible apply Pick.there)) ?_
      refine J_asTo (B := ntA b8 0 0 (rest i (j + 1))) (by rw [e3, e4]) ?_
      refine L_pur rfl (p_move rfl) ?_
      refine L_pur rfl (p_extract rfl rfl) ?_
      refine L_pur rfl (p_extract rfl rfl) ?_
      refine L_pur rfl (p_extract rfl rfl) ?_
      refine L_op (x_alloc ty36 rfl fun b13 => ?_)
      refine L_op (x_store rfl rfl ty36 rfl (by first | rfl | (simp [*]; done)) (by first | rfl | (simp [*]; done)) (by repeat (first | with_reducible exact Rep1.here | with_reducible apply Rep1.there)) (by first | exact Put.full rfl | ((repeat constructor); done) | exact Put.full (by first | rfl | simp [*])) ?_)
      refine L_pur rfl (p_assign rfl) ?_
      refine L_pur rfl (p_assign rfl) ?_
      refine L_nil ?_
      refine Q_then ?_
      refine J_seq ?_
      refine J_region ?_
      refine L_pur rfl (p_move rfl) ?_
      refine L_pur rfl (p_not rfl) ?_
      refine L_pur rfl (p_move rfl) ?_
      refine J_bool (t := 68) (c := false) rfl (rfl) ?_
      refine L_op (G_on rfl rfl rfl ?_)
      refine J_val (v_loadA rfl ty36 (by repeat (first | with_reducible exact Has.here | with_reducible assumption | with_reducible apply Has.there)) (by first | exact Cut.full rfl | ((repeat constructor); done) | exact Cut.full (by first | rfl | simp [*]))) rfl rfl rfl ?_
      refine L_op (G_on rfl rfl rfl ?_)
      refine J_pur (p_move rfl) rfl rfl rfl ?_
      refine L_op (G_on rfl rfl rfl ?_)
      refine J_pur (bld36 (.cons rfl (.cons rfl .nil)) (by repeat constructor)) rfl rfl rfl ?_
      refine L_op (G_on rfl rfl rfl ?_)
      refine J_pur (p_nev rfl rfl (fun w => eg36 _ _ _ _ _ w) (fun w => nev36 _ _ _ _ w)) rfl rfl rfl ?_
      refine L_pur rfl (p_pick_f rfl rfl) ?_
      refine L_pur rfl (p_move rfl) ?_
      refine J_bool (t := 74) (c := false) rfl (by simp [mkA]) ?_
      refine L_op (G_on rfl rfl rfl ?_)
      refine J_pur (p_move rfl) rfl rfl rfl ?_
      refine L_op (G_on rfl rfl rfl ?_)
      refine J_pur (p_move rfl) rfl rfl rfl ?_
      refine L_op (G_on rfl rfl rfl ?_)
      refine J_pur (p_neq rfl rfl) rfl rfl rfl ?_
      refine L_pur rfl (p_pick_f rfl rfl) ?_
      refine L_pur rfl (p_move rfl) ?_
      refine J_bool (t := 79) (c := false) rfl (by simp) ?_
      refine L_op (G_on rfl rfl rfl ?_)
      refine x_call Try.func66 nm66 bd66 (.cons rfl .nil) rfl (nWord (by repeat (first | with_reducible exact Pick.here | with_reducible assumption | with_reducible apply Pick.there)) (by rw [rest_len]; omega)) fun _ => ?_
      refine L_op (G_on rfl rfl rfl ?_)
      refine J_pur (p_neq rfl rfl) rfl rfl rfl ?_
      refine L_pur rfl (p_pick_f rfl rfl) ?_
      refine L_nil ?_
      refine Q_then ?_
      refine J_bool (t := 82) (c := false) rfl (by simp) ?_
      refine C_false rfl ?_
      refine J_skip ?_
      refine Q_blk_normal ?_
      refine Q_then ?_
      refine J_region ?_
      refine L_pur rfl (p_move rfl) ?_
      refine L_pur rfl (p_add64 rfl rfl (by omega)) ?_
      refine L_pur rfl (p_assign rfl) ?_
      refine L_nil ?_
      refine Q_then ?_
      exact J_again (j + 1) (by omega) (by omega) (by repeat (first | exact Sub.nil | exact Sub.refl | refine Sub.cons (by repeat (first | exact Pick.here | apply Pick.there)) ?_ | refine Sub.drop ?_)) (by repeat (first | exact Keep.nil | refine Keep.cons rfl ?_))
    ·
      have hji : j = i := by omega
      subst hji
      refine J_pick (A := ntA b8 0 _ _) (by repeat (first | with_reducible exact Pick.here | with_reducible assumption | with_reducible apply Pick.there)) ?_
      refine J_asTo (B := ntA b8 0 0 []) (by rw [rest_nil]) ?_
      refine J_exit ?_
      refine Q_then_exit ?_
      refine Q_then_exit ?_
      refine Q_blk_this ?_
      refine Q_then ?_
      refine J_seq ?_
      refine J_region ?_
      refine L_pur rfl (p_move rfl) ?_
      refine L_op (x_call Try.func65 nm65 bd65 (.cons rfl (.cons rfl .nil)) rfl (nSignal (xs := []) (x := X) (by repeat (first | with_reducible exact Pick.here | with_reducible assumption | with_reducible apply Pick.there)) (by simp)) fun _ => ?_)
      refine J_pick (A := ntA b8 0 _ _) (by repeat (first | with_reducible exact Pick.here | with_reducible assumption | with_reducible apply Pick.there)) ?_
      refine J_asTo (B := ntA b8 0 X []) (by simp [sigW, sigL, woke, hXX]) ?_
      refine L_pur rfl (p_move rfl) ?_
      refine L_pur rfl (p_extract rfl rfl) ?_
      refine L_pur rfl (p_extract rfl rfl) ?_
      refine L_pur rfl (p_extract rfl rfl) ?_
      refine L_op (x_alloc ty36 rfl fun b16 => ?_)
      refine L_op (x_store rfl rfl ty36 rfl (by first | rfl | (simp [*]; done)) (by first | rfl | (simp [*]; done)) (by repeat (first | with_reducible exact Rep1.here | with_reducible apply Rep1.there)) (by first | exact Put.full rfl | ((repeat constructor); done) | exact Put.full (by first | rfl | simp [*])) ?_)
      refine L_pur rfl (p_assign rfl) ?_
      refine L_pur rfl (p_assign rfl) ?_
      refine L_nil ?_
      refine Q_then ?_
      refine J_seq ?_
      refine J_region ?_
      refine L_pur rfl (bld36 (.cons rfl (.cons rfl .nil)) (by repeat constructor)) ?_
      refine L_op (x_call Try.func63 nm63 bd63 (.cons rfl (.cons rfl .nil)) rfl (nWait (xs := []) (i := (1, 50)) (by repeat (first | with_reducible exact Pick.here | with_reducible assumption | with_reducible apply Pick.there)) (by simp)) fun _ => ?_)
      refine J_pick (A := ntA b8 0 _ _) (by repeat (first | with_reducible exact Pick.here | with_reducible assumption | with_reducible apply Pick.there)) ?_
      refine J_asTo (B := ntA b8 0 0 []) (by simp [waitL, hX0]) ?_
      refine L_pur rfl (p_move rfl) ?_
      refine L_pur rfl (p_extract rfl rfl) ?_
      refine L_pur rfl (p_extract rfl rfl) ?_
      refine L_pur rfl (p_assign rfl) ?_
      refine L_pur rfl (p_assign rfl) ?_
      refine L_nil ?_
      refine Q_then ?_
      refine J_seq ?_
      refine J_region ?_
      refine L_pur rfl (bld36 (.cons rfl (.cons rfl .nil)) (by repeat constructor)) ?_
      refine L_op (x_call Try.func63 nm63 bd63 (.cons rfl (.cons rfl .nil)) rfl (nWait (xs := []) (i := (1, 51)) (by repeat (first | with_reducible exact Pick.here | with_reducible assumption | with_reducible apply Pick.there)) (by simp)) fun _ => ?_)
      refine L_pur rfl (p_move rfl) ?_
      refine L_pur rfl (p_extract rfl rfl) ?_
      refine L_pur rfl (p_extract rfl rfl) ?_
      refine L_pur rfl (p_assign rfl) ?_
      refine L_pur rfl (p_assign rfl) ?_
      refine L_nil ?_
      refine Q_then ?_
      refine J_seq ?_
      refine J_region ?_
      refine L_pur rfl (p_move rfl) ?_
      refine L_pur rfl (p_move rfl) ?_
      refine J_bool (t := 100) (c := true) rfl (rfl) ?_
      refine L_op (G_on rfl rfl rfl ?_)
      refine J_pur (p_move rfl) rfl rfl rfl ?_
      refine L_op (G_on rfl rfl rfl ?_)
      refine J_pur (p_not rfl) rfl rfl rfl ?_
      refine L_pur rfl (p_pick_t rfl rfl) ?_
      refine L_pur rfl (p_move rfl) ?_
      refine J_bool (t := 104) (c := true) rfl (by simp [woke]) ?_
      refine L_op (G_on rfl rfl rfl ?_)
      refine J_pur (p_move rfl) rfl rfl rfl ?_
      refine L_pur rfl (p_pick_t rfl rfl) ?_
      refine L_pur rfl (p_move rfl) ?_
      refine J_bool (t := 107) (c := true) rfl (by simp [hX0]) ?_
      refine L_op (G_on rfl rfl rfl ?_)
      refine J_pur (p_move rfl) rfl rfl rfl ?_
      refine L_op (G_on rfl rfl rfl ?_)
      refine J_pur (p_move rfl) rfl rfl rfl ?_
      refine L_op (G_on rfl rfl rfl ?_)
      refine J_pur (p_eql rfl rfl) rfl rfl rfl ?_
      refine L_pur rfl (p_pick_t rfl rfl) ?_
      refine L_pur rfl (p_move rfl) ?_
      refine J_bool (t := 112) (c := true) rfl (by simp) ?_
      refine L_op (G_on rfl rfl rfl ?_)
      refine J_pur (p_move rfl) rfl rfl rfl ?_
      refine L_op (G_on rfl rfl rfl ?_)
      refine J_pur (p_not rfl) rfl rfl rfl ?_
      refine L_pur rfl (p_pick_t rfl rfl) ?_
      refine J_bool (t := 115) (c := true) rfl (by simp) ?_
      refine L_pur rfl (p_assign rfl) ?_
      refine L_nil ?_
      refine Q_then ?_
      refine J_ret ?_
      exact J_return (()) Try.results14 (.tmp rfl .nil) rfl (by repeat (first | exact Sub.nil | exact Sub.refl | refine Sub.cons (by repeat (first | exact Pick.here | apply Pick.there)) ?_ | refine Sub.drop ?_))

end Go.Pse
