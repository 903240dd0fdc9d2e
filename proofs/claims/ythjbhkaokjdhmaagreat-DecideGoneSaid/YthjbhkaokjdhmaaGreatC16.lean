/-
  Pages that are cleared.
-/
import Derived.Test.YthjbhkaokjdhmaaGreatC13b
namespace Go.Pse
open Go.RowKit Go.Proofs

theorem J_picks2 {E : World} {A B : As} {l m : List As} {n : Nat} {F : Env} {K : Act → World → Prop} (hp : Picks [A, B] l m) (k : Jk E (A :: B :: m) n F K) : Jk E l n F K := fun w a H hF => k w a (hp.sep H) hF
/-! ### maps.DeleteFunc at pages -/
section
variable {κ υ : Type} [DecidableEq κ] {q : κ → υ → Bool} {ps : List (κ × υ)} {done : List κ} {a : κ} {u : υ}
/-- What is there still, when the keys 'done' have come. -/
def cur (q : κ → υ → Bool) (ps : List (κ × υ)) (done : List κ) : List (κ × υ) := ps.filter fun e => !(decide (e.1 ∈ done) && q e.1 e.2)
theorem cur_nil : cur q ps [] = ps := by unfold cur; rw [List.filter_eq_self]; intro e _; simp
theorem cur_mem (h : (a, u) ∈ cur q ps done) : (a, u) ∈ ps := (List.mem_filter.1 h).1
theorem cur_del (hK : Keyd ps) (hm : (a, u) ∈ ps) (hq : q a u = true) : del (cur q ps done) a = cur q ps (done ++ [a]) := by
  unfold del cur
  rw [List.filter_filter]
  refine List.filter_congr fun e he => ?_
  by_cases h : e.1 = a
  · have h2 : e.2 = u := by
      have h3 : look ps e.1 = some e.2 := look_mem hK he
      rw [h, look_mem hK hm] at h3; exact (Option.some.inj h3).symm
    simp [h, h2, hq]
  · simp [h]
theorem cur_keep (hK : Keyd ps) (hm : (a, u) ∈ ps) (hq : q a u = false) : cur q ps done = cur q ps (done ++ [a]) := by
  unfold cur
  refine List.filter_congr fun e he => ?_
  by_cases h : e.1 = a
  · have h2 : e.2 = u := by
      have h3 : look ps e.1 = some e.2 := look_mem hK he
      rw [h, look_mem hK hm] at h3; exact (Option.some.inj h3).symm
    simp [h, h2, hq]
  · simp [h]
theorem cur_end (h : ∀ e ∈ cur q ps done, e.1 ∈ done) : cur q ps done = ps.filter fun e => !q e.1 e.2 := by
  have h' := h
  unfold cur at h' ⊢
  refine List.filter_congr fun e he => ?_
  by_cases hd : e.1 ∈ done
  · simp [hd]
  · exact absurd (h' e (List.mem_filter.2 ⟨he, by simp [hd]⟩)) hd
end
set_option maxRecDepth 100000 in
set_option maxHeartbeats 4000000 in
theorem mapDel {E : World} {l m : List As} {v : Value} {ps : List ((Int × Int) × (Int × Int))} {g : FuncId} {caps : Array Value} {fn : Func} (hf : Tryz.prog.funcs[g]? = some fn) (hn : (fn.name == "runtime.NumGoroutine") = false) (hb : fn.body.isNone = false) {q : (Int × Int) → (Int × Int) → Bool} {C : As} (hg : ∀ (l' : List As) (a u : Int × Int), Has C l' → Con Tryz.prog g (#[kI a, kI u] ++ caps) E l' (fun _ : Unit => .bool (q a u)) (fun _ => l')) (hp : Picks [C, mapV kI kI v ps] l m) :
  Con Tryz.prog 138 #[v, .func (.func g) #[] caps] E l (fun _ : Unit => .tuple #[]) (fun _ => C :: mapV kI kI v (ps.filter fun e => !q e.1 e.2) :: m) := by
 refine Con.body (vs := [v, .func (.func g) #[] caps]) (n := 19) Tryz.func138 rfl rfl [(0, v), (1, .func (.func g) #[] caps)] (env_ok 2 rfl) <| J_picks2 hp <| sr <| mv rfl rfl <| L_op <| x_range (ek := kI) (ev := kI) rfl Tryz.underlying102 PC rfl fun r7 => ?_
 refine nq <| J_block <| J_rangeKeyd (ek := kI) (ev := kI) (ps := ps) HS fun hK => ?_
 refine J_pick (A := rangeA kI kI v r7 ps []) PC ?_
 refine J_asTo (B := rangeA kI kI v r7 (cur q ps []) []) (by rw [cur_nil]) <| J_loop (fun done => Come ps done) (fun done => rangeA kI kI v r7 (cur q ps done) done :: C :: m) (fun done => [(7, .pointer (some ⟨r7, 0, none⟩)), (0, v), (1, .func (.func g) #[] caps)]) (fun done => ps.length - done.length) [] Come.nil SU KE ?_
 intro done hC
 refine sr ?_
 refine L_op (x_next (ek := kI) (ev := kI) rfl PC rfl (fun k8 u8 hm8 hn8 => ?_) (fun hd8 => ?_))
 ·
  refine L_pur rfl (p_extract rfl rfl) <| nq <| J_seq <| C_true rfl <| J_skip <| Q_then <| J_block <| sr ?_
  refine L_val rfl (v_entry (ek := kI) (ev := kI) rfl HS (by simp) hm8) ?_
  refine L_pur rfl (p_extract rfl rfl) <| L_pur rfl (p_extract rfl rfl) <| L_op <| x_alloc ty169 rfl fun b4 => L_op <| x_alloc ty171 rfl fun b5 => L_op <| x_store rfl rfl ty169 rfl SM SM RO PT ?_
  refine L_op <| x_store rfl rfl ty171 rfl SM SM RO PT ?_
  refine nx <| mv rfl rfl <| L_val rfl (v_loadA rfl ty169 HS CT) ?_
  refine L_val rfl (v_loadA rfl ty171 HS CT) ?_
  refine L_op <| x_callc rfl hf hn hb (.cons rfl (.cons rfl .nil)) rfl (hg _ k8 u8 HS) fun _ => ?_
  refine nq ?_
  refine C_split rfl (fun h16 => ?_) (fun h16 => ?_)
  ·
   refine J_region <| mv rfl rfl <| L_val rfl (v_loadA rfl ty169 HS CT) ?_
   refine L_op <| x_deleteR (ek := kI) (ev := kI) (a := k8) rfl rfl ky169 Tryz.underlying102 PC ?_
   refine J_pick (A := rangeA kI kI v r7 _ _) PC ?_
   refine J_asTo (B := rangeA kI kI v r7 (cur q ps (done ++ [k8])) (done ++ [k8])) (by rw [cur_del hK (cur_mem hm8) h16]) <| L_nil <| Q_blk_normal <| Q_then ?_
   exact J_again ((done ++ [k8])) (by have := hC.lt hK (cur_mem hm8) hn8; simp; omega) (hC.step (cur_mem hm8) hn8) SU KE
  ·
   refine J_pick (A := rangeA kI kI v r7 _ _) PC ?_
   refine J_asTo (B := rangeA kI kI v r7 (cur q ps (done ++ [k8])) (done ++ [k8])) (by rw [cur_keep hK (cur_mem hm8) h16]) <| J_skip <| Q_blk_normal <| Q_then ?_
   exact J_again ((done ++ [k8])) (by have := hC.lt hK (cur_mem hm8) hn8; simp; omega) (hC.step (cur_mem hm8) hn8) SU KE
 ·
  refine L_pur rfl (p_extract rfl rfl) <| nq <| J_seq <| C_false rfl <| J_exit <| Q_then_exit <| Q_then_exit <| Q_blk_this ?_
  refine J_endnormal <| J_pick (A := rangeA kI kI v r7 _ _) PC ?_
  refine J_rangeEnd <| J_mapEq (qs := ps.filter fun e => !q e.1 e.2) (cur_end hd8) ?_
  exact J_return (()) Tryz.results138 .nil rfl SU

set_option maxRecDepth 100000 in
set_option maxHeartbeats 4000000 in
theorem clearsC {E : World} {l m : List As} {b o : Nat} {ps : List (Place × M1)} {g : FuncId} {caps : Array Value} {fn : Func} (hf : Tryz.prog.funcs[g]? = some fn) (hn : (fn.name == "runtime.NumGoroutine") = false) (hb : fn.body.isNone = false) {q : (Int × Int) → (Int × Int) → Bool} {C : As} (hg : ∀ (l' : List As) (a u : Int × Int), Has C l' → Con Tryz.prog g (#[kI a, kI u] ++ caps) E l' (fun _ : Unit => .bool (q a u)) (fun _ => l')) (hp : Picks [C, spA b o ps] l m) (hz : ps.length ≤ 1000000) :
    Con Tryz.prog 112 #[.pointer (some ⟨b, o, none⟩), .func (.func g) #[] caps] E l (fun _ : Unit => .int .i64 ((ps.length : Int) - (((ps.filter fun e => !q e.1 e.2).length : Nat) : Int))) (fun _ => C :: spA b o (ps.filter fun e => !q e.1 e.2) :: m) := by
  refine Con.body (vs := [.pointer (some ⟨b, o, none⟩), .func (.func g) #[] caps]) (n := 24) Tryz.func112 rfl rfl [(0, .pointer (some ⟨b, o, none⟩)), (1, .func (.func g) #[] caps)] (env_ok 2 rfl) <| J_picks2 hp <| J_pick (A := spA b o ps) PC ?_
  refine J_spO fun ob _ => sr <| ag rfl rfl <| nx <| mv rfl rfl <| nc rfl rfl <| fa rfl rfl fa104_0 <| L_val rfl (v_loadL rfl ty102 HS rfl (by exact rfl)) ?_
  refine L_val rfl (v_lenMap (ek := kI) (ev := kI) rfl Tryz.underlying102 HS) ?_
  refine J_slot (t := 10) (v := .int .i64 (ps.length : Int)) rfl rfl <| ag rfl rfl <| nx <| mv rfl rfl <| nc rfl rfl <| fa rfl rfl fa104_0 <| L_val rfl (v_loadL rfl ty102 HS rfl (by exact rfl)) ?_
  refine mv rfl rfl <| L_op <| x_call Tryz.func138 nm138 bd138 (.cons rfl (.cons rfl .nil)) rfl (mapDel (ps := ps) (C := C) hf hn hb hg PX) fun _ => ?_
  refine nx <| mv rfl rfl <| mv rfl rfl <| nc rfl rfl <| fa rfl rfl fa104_0 <| L_val rfl (v_loadL rfl ty102 HS rfl (by exact rfl)) ?_
  refine L_val rfl (v_lenMap (ek := kI) (ev := kI) rfl Tryz.underlying102 HS) ?_
  refine L_pur rfl (p_sub64 rfl rfl (by have h1 : (ps.filter fun e : (Int × Int) × (Int × Int) => !q e.1 e.2).length ≤ ps.length := List.length_filter_le _ _; omega)) <| ag rfl rfl <| nq <| J_ret <| J_spS (b := b) (o := o) (ps := ps.filter fun e => !q e.1 e.2) _ PX trivial ?_
  refine J_return (()) Tryz.results112 (.tmp rfl .nil) ?_ ?_
  · rfl
  · exact SU

end Go.Pse
