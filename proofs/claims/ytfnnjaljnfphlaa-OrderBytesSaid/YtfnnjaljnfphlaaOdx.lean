/- whole structs by value: loads and builds as closed facts. -/
import Derived.Test.YtfnnjaljnfphlaaOdi
import Derived.Deep.MidRow
namespace Go.Proofs.Ytfnnjaljnfphlaa
open Go.RowKit
set_option maxRecDepth 100000
set_option maxHeartbeats 8000000

theorem bld144 (v0 v1 v2 v3 v4 v5 v6 v7 v8 v9 v10 v11 v12 v13 v14 v15 v16 v17 v18 v19 v20 : Value) (w : World) :
    (Instr.build 144 #[(0, .agg #[v0, v1, v2, v3, v4, v5, v6, v7, v8, v9, v10, v11, v12, v13, v14, v15, v16, v17, v18, v19, v20])]).run Try.prog w = .ok (.agg #[v0, v1, v2, v3, v4, v5, v6, v7, v8, v9, v10, v11, v12, v13, v14, v15, v16, v17, v18, v19, v20]) w := by kernel_rfl
theorem box144 (cells : Array Value) (w : World) :
    (Instr.box 144 (.agg cells)).run Try.prog w = .ok (.pointer (some ⟨w.heap.size, 0, none⟩)) (w.alloc (.cells cells 144)) := by rfl
theorem info53 : (Try.prog.info? 53).map (·.size) = some 21 := by kernel_rfl
theorem info51 : (Try.prog.info? 51).map (·.size) = some 13 := by kernel_rfl

theorem Bk.range {w : World} {b : Nat} {t : TypeId} {cs : Array Value} (h : Bk w b t cs) : w.rangeAt b 0 cs.toList := fun j v hv => by
  rw [Nat.zero_add, h.cell j]; simpa using hv
theorem Bk.ld {w : World} {b : Nat} {t : TypeId} {cs : Array Value} (h : Bk w b t cs) (ty : TypeId) (d : TypeDesc) (hu : Try.prog.underlying ty = some d) (hd : d.isRow = true)
    (hi : (Try.prog.info? ty).map (·.size) = some cs.size) : (Instr.loadAt ty (.pointer (some ⟨b, 0, none⟩))).run Try.prog w = .ok (.agg cs) w := by
  have := run_loadAt_mid (P := Try.prog) w b 0 ty cs.toList d h.range hu hd (by simpa using hi)
  simpa using this
theorem Bk.ldm {w : World} {b : Nat} {t : TypeId} {cs : Array Value} (h : Bk w b t cs) (o : Nat) (C : Array Value) (hC : C = cs.extract o (o + C.size)) (ty : TypeId) (d : TypeDesc) (hu : Try.prog.underlying ty = some d) (hd : d.isRow = true)
    (hi : (Try.prog.info? ty).map (·.size) = some C.size) : (Instr.loadAt ty (.pointer (some ⟨b, o, none⟩))).run Try.prog w = .ok (.agg C) w := by
  have := run_loadAt_mid (P := Try.prog) w b o ty C.toList d (by rw [hC]; exact World.rangeAt_of_block h o C.size) hu hd (by simpa using hi)
  simpa using this
theorem Bk.ld53 {w : World} {b : Nat} {t : TypeId} {cs : Array Value} (h : Bk w b t cs) (hs : cs.size = 21) : (Instr.loadAt 53 (.pointer (some ⟨b, 0, none⟩))).run Try.prog w = .ok (.agg cs) w :=
  h.ld 53 _ Try.underlying53 rfl (by rw [hs]; exact info53)

section
variable {ops : Array Oper} {rest : List Oper} {o : Oper} {a : Act} {w w' : World} {Q : Exit → Act → World → Prop} {V v : Value}
theorem wpL_load (ty : TypeId) (x : Operand) (p : Value) (hg : o.guard = none) (ho : o.op = .load ty x) (hx : a.eval x = p) (h : (Instr.loadAt ty p).run Try.prog w = .ok V w')
    (hk : wpList Try.prog ops Q rest (a.put o.dst V) w') : wpList Try.prog ops Q (o :: rest) a w := by
  refine wpList_plain hg fun K hK => ?_
  unfold Oper.wp execOp
  simp only [ho, hx, h, Sem.run_bind, Sem.run_pure, Result.andThen_ok]
  exact hK _ _ hk
theorem wpL_build (ty : TypeId) (i : Nat) (x : Operand) (v : Value) (hg : o.guard = none) (ho : o.op = .build ty #[(i, x)]) (hx : a.eval x = v) (h : (Instr.build ty #[(i, v)]).run Try.prog w = .ok V w')
    (hk : wpList Try.prog ops Q rest (a.put o.dst V) w') : wpList Try.prog ops Q (o :: rest) a w := by
  refine wpList_plain hg fun K hK => ?_
  unfold Oper.wp execOp
  have hm : (#[(i, x)].map fun (i, x) => (i, a.eval x)) = #[(i, v)] := by simp [hx]
  simp only [ho, hm, h, Sem.run_bind, Sem.run_pure, Result.andThen_ok]
  exact hK _ _ hk
theorem wpL_box (ty : TypeId) (x : Operand) (v : Value) (hg : o.guard = none) (ho : o.op = .box ty x) (hx : a.eval x = v) (h : (Instr.box ty v).run Try.prog w = .ok V w')
    (hk : wpList Try.prog ops Q rest (a.put o.dst V) w') : wpList Try.prog ops Q (o :: rest) a w := by
  refine wpList_plain hg fun K hK => ?_
  unfold Oper.wp execOp
  simp only [ho, hx, h, Sem.run_bind, Sem.run_pure, Result.andThen_ok]
  exact hK _ _ hk
theorem wpL_store (ty : TypeId) (x y : Operand) (p v : Value) (hg : o.guard = none) (ho : o.op = .store ty x y) (hx : a.eval x = p) (hy : a.eval y = v) (h : (Instr.storeAt ty p v).run Try.prog w = .ok () w')
    (hk : wpList Try.prog ops Q rest (a.put o.dst undef) w') : wpList Try.prog ops Q (o :: rest) a w := by
  refine wpList_plain hg fun K hK => ?_
  unfold Oper.wp execOp
  simp only [ho, hx, hy, h, Sem.run_bind, Sem.run_pure, Result.andThen_ok]
  exact hK _ _ hk
end
end Go.Proofs.Ytfnnjaljnfphlaa
