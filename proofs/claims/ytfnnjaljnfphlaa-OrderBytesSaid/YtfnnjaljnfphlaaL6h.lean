/- The helpers of the statements on orders: has, works. -/
import Derived.Test.YtfnnjaljnfphlaaOpr
import Derived.Test.YtfnnjaljnfphlaaR01
import Derived.Test.YtfnnjaljnfphlaaL04
import Derived.Deep.WholeRow
namespace Go.Proofs.Ytfnnjaljnfphlaa
open Go.RowKit
set_option maxRecDepth 100000
set_option maxHeartbeats 8000000
set_option linter.unusedSimpArgs false
set_option linter.unusedVariables false

section
variable {ops : Array Oper} {rest : List Oper} {o : Oper} {a : Act} {w w' : World} {Q : Exit → Act → World → Prop} {V v : Value}
theorem wpL_buildG (d : Option Tmp) (hd : o.dst = d) (ty : TypeId) (parts : Array (Nat × Operand)) (ps : Array (Nat × Value)) (hw : Region.wanted o (yielded ops a.tmps) = true) (ho : o.op = .build ty parts) (hx : (parts.map fun (i, x) => (i, a.eval x)) = ps)
    (h : (Instr.build ty ps).run Try.prog w = .ok V w') (hk : wpList Try.prog ops Q rest (a.put o.dst V) w') : wpList Try.prog ops Q (o :: rest) a w := by
  refine wpList_step fun K hK => ?_
  rw [if_pos hw]
  unfold Oper.wp execOp
  simp only [ho, hx, h, Sem.run_bind, Sem.run_pure, Result.andThen_ok]
  exact hK _ _ hk
theorem wpL_bs (d : Option Tmp) (hd : o.dst = d) (ty : TypeId) (n : Nat) (parts : Array (Nat × Operand)) (ps : Array (Nat × Value)) (hw : Region.wanted o (yielded ops a.tmps) = true) (ho : o.op = .buildSlice ty n parts) (hx : (parts.map fun (i, x) => (i, a.eval x)) = ps)
    (h : (Instr.buildSlice ty n ps).run Try.prog w = .ok V w') (hk : wpList Try.prog ops Q rest (a.put o.dst V) w') : wpList Try.prog ops Q (o :: rest) a w := by
  refine wpList_step fun K hK => ?_
  rw [if_pos hw]
  unfold Oper.wp execOp
  simp only [ho, hx, h, Sem.run_bind, Sem.run_pure, Result.andThen_ok]
  exact hK _ _ hk
end
theorem vst53 (w : World) (o : Or6) (A : Option Addr) (L c : Nat) : (Instr.storeAt 53 (.pointer (some ⟨w.heap.size, 0, none⟩)) (.agg (orC o A L c))).run Try.prog (w.alloc (.cells (orC or0 none 0 0) 53)) = .ok () (w.alloc (.cells (orC o A L c) 53)) := by
  rw [st53 (Bk.new w 53 (orC or0 none 0 0)) rfl, World.setRow_alloc_new]
theorem has06 (o : Or6) (A A2 : Option Addr) (L c N2 c2 : Nat) (l2 : List UInt8) (w : World) (hl : Ou w w.heap.size A L o.r.os) (h2 : By w w.heap.size A2 N2 l2) :
    Calls Try.prog 80 #[.agg (orC o A L c), .slice A2 N2 c2] w fun e w' => e = .returned (.bool (orB o && (orBy o == l2))) ∧ Below w.heap.size w w' := by
  have K := Bk.new w 53 (orC o A L c)
  have hb := (Below.refl w.heap.size w).push (.cells (orC o A L c) 53)
  have hlw := hl.boxed (.cells (orC o A L c) 53)
  have h2w := h2.boxed (.cells (orC o A L c) 53)
  clear hl h2
  obtain ⟨V, hV⟩ : ∃ V, V = Value.agg (orC o A L c) := ⟨_, rfl⟩
  rw [← hV]
  have hbx : (Instr.box 53 V).run Try.prog w = .ok (.pointer (some ⟨w.heap.size, 0, none⟩)) (w.alloc (.cells (orC o A L c) 53)) := by rw [hV]; rfl
  have HV := Lib.hid hV
  clear hV
  obtain ⟨q, hq⟩ : ∃ q, q = orB o := ⟨_, rfl⟩
  obtain ⟨OB, hOB⟩ : ∃ x, x = orBy o := ⟨_, rfl⟩
  rw [← hq, ← hOB]
  have Hq := Lib.hid hq
  have HOB := Lib.hid hOB
  clear hq hOB
  go_enter Try.func80, Try.ntmps80
  go_upto_region 1 with ((with_reducible show wpList Try.prog _ _ _ _ _); refine wpL_box 53 (.tmp 0) V rfl rfl rfl hbx ?_)
  clear hbx
  generalize w.alloc _ = w1 at K hb hlw h2w ⊢
  have hld : (Instr.loadAt 53 (.pointer (some ⟨w.heap.size, 0, none⟩))).run Try.prog w1 = .ok V w1 := by rw [HV.out]; exact K.ld53 rfl
  have hby := bytes_any o A L c w1 hlw
  rw [← HV.out, ← Hq.out, ← HOB.out] at hby
  have hbyh := Lib.hid hby
  clear hby
  go_upto_region 2 with (first | (go_at_call 36; refine hbyh.out.mono ?_; rintro e w2 ⟨A3, N3, c3, rfl, hO3, hb3⟩) | ((with_reducible show wpList Try.prog _ _ _ _ _); refine wpL_load 53 (.tmp 2) _ rfl rfl rfl hld ?_))
  clear hld hbyh
  have hb := hb.next hb3
  have h2b := (h2w.below hb3).more hb3.size
  cases q
  · simp only [erB, Bool.false_eq_true, if_false]
    go_wp2_with fail
    go_ret
    exact ⟨rfl, hb⟩
  · simp only [erB, if_true] at hO3 ⊢
    have heq := Lib.hid (eqbytes_any A3 A2 N3 c3 N2 c2 _ _ OB l2 w2 hO3.by_ h2b)
    go_wp2_with (go_at_call 29; refine heq.out.mono ?_; rintro e w4 ⟨rfl, rfl⟩)
    go_ret
    exact ⟨ret_b (by simp), hb⟩
def ruW : Ru := ⟨1, 9, 0, 0, ⟨0, -1, 0, 255, 0, 0, 5, 0⟩, [(2, -1, -1, 4)]⟩
theorem alloc51 (w : World) : (Instr.alloc 51 true (.tuple #[])).run Try.prog w = .ok (.pointer (some ⟨w.heap.size, 0, none⟩)) (w.alloc (.cells (ruC ru0 none 0 0) 51)) := by kernel_rfl
theorem ruC_one (r : Ru) (A : Option Addr) (L c : Nat) : (ruC r A L c).all (·.oneCell') = true := by
  rw [Array.all_eq_true_iff_forall_mem]
  intro v hv
  simp only [ruC, List.mem_toArray, List.mem_cons, List.not_mem_nil, or_false] at hv
  rcases hv with rfl | rfl | rfl | rfl | rfl | rfl | rfl | rfl | rfl | rfl | rfl | rfl | rfl <;> rfl
theorem vst51 (w : World) (r : Ru) (A : Option Addr) (L c : Nat) : (Instr.storeAt 51 (.pointer (some ⟨w.heap.size, 0, none⟩)) (.agg (ruC r A L c))).run Try.prog (w.alloc (.cells (ruC ru0 none 0 0) 51)) = .ok () (w.alloc (.cells (ruC r A L c) 51)) := by
  simp only [Instr.storeAt, Instr.sureAddr, Sem.run_bind, Sem.run_pure, Result.andThen_ok, run_storeVar_row _ w.heap.size 51 51 (ruC ru0 none 0 0) (ruC r A L c) (heap_alloc_new w _) info51 rfl (ruC_one r A L c), World.setRow_alloc_new]
end Go.Proofs.Ytfnnjaljnfphlaa
