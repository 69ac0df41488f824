/- Orders: the three that parts are told to: look, writer, reader. -/
import Derived.Test.YtfnnjaljnfphlaaOdp
import Derived.Test.YtfnnjaljnfphlaaRdb
import Derived.Deep.RegionWith
namespace Go.Proofs.Ytfnnjaljnfphlaa
open Go.RowKit
set_option maxRecDepth 100000
set_option maxHeartbeats 4000000
set_option linter.unusedSimpArgs false
set_option linter.unusedVariables false

theorem cf_of {f : FuncId} {fn : Func} {c : Code} (hf : Try.prog.funcs[f]? = some fn) (hname : (fn.name == "runtime.NumGoroutine") = false) (hb : fn.body = some c) (args : Array Value) (w : World) : (callFunc f args).run Try.prog w = .ok (.enter f args) w := by
  simp only [callFunc, Sem.run_bind, run_program, Result.andThen_ok, hf, hname, hb, Option.isNone_some, Bool.false_eq_true, if_false, Sem.run_pure]
theorem naL_num (g : Nat) (w : World) : (nilAhead 274 142 (.pointer (some ⟨g, 0, none⟩)) "catenary/order.num").run Try.prog w = .ok (some false) w := by kernel_rfl
theorem meL_num (g : Nat) (w : World) : (method 274 142 (.pointer (some ⟨g, 0, none⟩)) "catenary/order.num").run Try.prog w = .ok (151, .pointer (some ⟨g, 0, none⟩)) w := by kernel_rfl
theorem cf151 (args : Array Value) (w : World) : (callFunc 151 args).run Try.prog w = .ok (.enter 151 args) w := cf_of Try.func151 (by kernel_rfl) rfl args w
theorem naL_rule (g : Nat) (w : World) : (nilAhead 274 142 (.pointer (some ⟨g, 0, none⟩)) "catenary/order.rule").run Try.prog w = .ok (some false) w := by kernel_rfl
theorem meL_rule (g : Nat) (w : World) : (method 274 142 (.pointer (some ⟨g, 0, none⟩)) "catenary/order.rule").run Try.prog w = .ok (153, .pointer (some ⟨g, 0, none⟩)) w := by kernel_rfl
theorem cf153 (args : Array Value) (w : World) : (callFunc 153 args).run Try.prog w = .ok (.enter 153 args) w := cf_of Try.func153 (by kernel_rfl) rfl args w
theorem naL_probe (g : Nat) (w : World) : (nilAhead 274 142 (.pointer (some ⟨g, 0, none⟩)) "catenary/order.probe").run Try.prog w = .ok (some false) w := by kernel_rfl
theorem meL_probe (g : Nat) (w : World) : (method 274 142 (.pointer (some ⟨g, 0, none⟩)) "catenary/order.probe").run Try.prog w = .ok (152, .pointer (some ⟨g, 0, none⟩)) w := by kernel_rfl
theorem cf152 (args : Array Value) (w : World) : (callFunc 152 args).run Try.prog w = .ok (.enter 152 args) w := cf_of Try.func152 (by kernel_rfl) rfl args w
theorem naW_num (g : Nat) (w : World) : (nilAhead 274 100 (.pointer (some ⟨g, 0, none⟩)) "catenary/order.num").run Try.prog w = .ok (some false) w := by kernel_rfl
theorem meW_num (g : Nat) (w : World) : (method 274 100 (.pointer (some ⟨g, 0, none⟩)) "catenary/order.num").run Try.prog w = .ok (75, .pointer (some ⟨g, 0, none⟩)) w := by kernel_rfl
theorem cf75 (args : Array Value) (w : World) : (callFunc 75 args).run Try.prog w = .ok (.enter 75 args) w := cf_of Try.func75 (by kernel_rfl) rfl args w
theorem naW_rule (g : Nat) (w : World) : (nilAhead 274 100 (.pointer (some ⟨g, 0, none⟩)) "catenary/order.rule").run Try.prog w = .ok (some false) w := by kernel_rfl
theorem meW_rule (g : Nat) (w : World) : (method 274 100 (.pointer (some ⟨g, 0, none⟩)) "catenary/order.rule").run Try.prog w = .ok (144, .pointer (some ⟨g, 0, none⟩)) w := by kernel_rfl
theorem cf144 (args : Array Value) (w : World) : (callFunc 144 args).run Try.prog w = .ok (.enter 144 args) w := cf_of Try.func144 (by kernel_rfl) rfl args w
theorem naW_probe (g : Nat) (w : World) : (nilAhead 274 100 (.pointer (some ⟨g, 0, none⟩)) "catenary/order.probe").run Try.prog w = .ok (some false) w := by kernel_rfl
theorem meW_probe (g : Nat) (w : World) : (method 274 100 (.pointer (some ⟨g, 0, none⟩)) "catenary/order.probe").run Try.prog w = .ok (143, .pointer (some ⟨g, 0, none⟩)) w := by kernel_rfl
theorem cf143 (args : Array Value) (w : World) : (callFunc 143 args).run Try.prog w = .ok (.enter 143 args) w := cf_of Try.func143 (by kernel_rfl) rfl args w
theorem naR_num (g : Nat) (w : World) : (nilAhead 274 110 (.pointer (some ⟨g, 0, none⟩)) "catenary/order.num").run Try.prog w = .ok (some false) w := by kernel_rfl
theorem meR_num (g : Nat) (w : World) : (method 274 110 (.pointer (some ⟨g, 0, none⟩)) "catenary/order.num").run Try.prog w = .ok (78, .pointer (some ⟨g, 0, none⟩)) w := by kernel_rfl
theorem cf78 (args : Array Value) (w : World) : (callFunc 78 args).run Try.prog w = .ok (.enter 78 args) w := cf_of Try.func78 (by kernel_rfl) rfl args w
theorem naR_rule (g : Nat) (w : World) : (nilAhead 274 110 (.pointer (some ⟨g, 0, none⟩)) "catenary/order.rule").run Try.prog w = .ok (some false) w := by kernel_rfl
theorem meR_rule (g : Nat) (w : World) : (method 274 110 (.pointer (some ⟨g, 0, none⟩)) "catenary/order.rule").run Try.prog w = .ok (149, .pointer (some ⟨g, 0, none⟩)) w := by kernel_rfl
theorem cf149 (args : Array Value) (w : World) : (callFunc 149 args).run Try.prog w = .ok (.enter 149 args) w := cf_of Try.func149 (by kernel_rfl) rfl args w
theorem naR_probe (g : Nat) (w : World) : (nilAhead 274 110 (.pointer (some ⟨g, 0, none⟩)) "catenary/order.probe").run Try.prog w = .ok (some false) w := by kernel_rfl
theorem meR_probe (g : Nat) (w : World) : (method 274 110 (.pointer (some ⟨g, 0, none⟩)) "catenary/order.probe").run Try.prog w = .ok (148, .pointer (some ⟨g, 0, none⟩)) w := by kernel_rfl
theorem cf148 (args : Array Value) (w : World) : (callFunc 148 args).run Try.prog w = .ok (.enter 148 args) w := cf_of Try.func148 (by kernel_rfl) rfl args w

/-- look: each number becomes 0. -/
theorem look_pi (g base : Nat) : PI 142 g 151 base (fun _ => True) (σ := Unit) (fun w _ => base ≤ w.heap.size) (fun _ _ s => (0, s)) (fun _ _ => True) (fun _ => 0) 100000 where
  na := naL_num g
  me := meL_num g
  cf := cf151
  al := fun w s o h => by simp; omega
  dr := fun w s h => h
  se := fun w s b t cs i v h _ _ _ => by simpa using h
  fr := fun _ _ _ _ _ => trivial
  bs := fun w s h => h
  bd := fun z x s _ => by
    refine ⟨Int.le_refl _, ?_⟩
    have := Nat.pow_pos (n := z) (show 0 < 256 by omega)
    simp only
    omega
  sg := fun _ _ _ _ => by simp
  num := fun z b i t cs x s w hz hm hs hB hx hok ht hf hb => by
    have c0 : w.cell? ⟨b, i, none⟩ = some (.int .i64 x) := by rw [hB.cell]; exact hx
    have f0 := hB.frozen i
    clear hx
    go_enter Try.func151, Try.ntmps151
    go_wp2_with fail
    go_end0
    exact ⟨rfl, by simpa using hs, hB.set_ _ _, (Kp.refl _ _ _).set _ _, (Below.refl _ _).setCell hb _⟩

theorem set_same {cs : Array Value} {i : Nat} {v : Value} (h : cs[i]? = some v) : cs.setIfInBounds i v = cs := by
  apply Array.ext_getElem?
  intro j
  rw [Array.getElem?_setIfInBounds]
  by_cases e : i = j
  · subst e
    obtain ⟨hlt, _⟩ := Array.getElem?_eq_some_iff.1 h
    rw [if_pos rfl, if_pos hlt, h]
  · rw [if_neg e]
/-- A writer in block g has written l, in blocks from base on. -/
def WrS (base g : Nat) (w : World) (l : List UInt8) : Prop := ∃ A N c, Bk w g 102 #[.slice A N c] ∧ OwnB w base A N c l ∧ base ≤ g
theorem ownB_kp {w w' : World} {b : Nat} {A : Option Addr} {N c : Nat} {l : List UInt8} (h : OwnB w b A N c l) (hk : ∀ (g : Nat) (cs : Array Value), w.heap[g]? = some (Obj.cells cs 5 (0, 0)) → w'.heap[g]? = some (Obj.cells cs 5 (0, 0))) : OwnB w' b A N c l := by
  refine ⟨h.1, ?_⟩
  rcases h.2 with h2 | ⟨g, cap, cur, hv, hg, hh, r⟩
  · exact .inl h2
  · exact .inr ⟨g, cap, cur, hv, hg, hk _ _ hh, r⟩
theorem ownB_set {w : World} {b : Nat} {A : Option Addr} {N c : Nat} {l : List UInt8} (h : OwnB w b A N c l) {q i : Nat} {t : TypeId} {cs : Array Value} (hB : Bk w q t cs) (ht : t ≠ 5) (u : Value) : OwnB (w.setCell ⟨q, i, none⟩ u) b A N c l :=
  ownB_kp h fun g cs' hg => by
    by_cases e : g = q
    · subst e
      unfold Bk at hB
      rw [hB] at hg
      injection hg with hg
      injection hg with _ hg
      exact absurd hg ht
    · exact (Below.heap_setCell w ⟨q, i, none⟩ u g e).trans hg
theorem writer_pi (g base : Nat) : PI 100 g 75 base (fun b => b ≠ g) (WrS base g) (fun z x l => (x, l ++ be z x.toNat)) (fun z x => 0 ≤ x ∧ x < ((256 ^ z : Nat) : Int)) List.length 100000 where
  na := naW_num g
  me := meW_num g
  cf := cf75
  al := fun w s o ⟨A, N, c, h1, h2, h3⟩ => ⟨A, N, c, h1.alloc o, h2.alloc o, h3⟩
  dr := fun w s h => h
  se := fun w s b t cs i v ⟨A, N, c, h1, h2, h3⟩ hB ht hf => ⟨A, N, c, h1.far (p := ⟨b, i, none⟩) (fun e => hf e.symm) v, ownB_set h2 hB ht v, h3⟩
  fr := fun w s k ⟨A, N, c, h1, h2, h3⟩ hk => by have := h1.lt; omega
  bs := fun w s ⟨A, N, c, h1, h2, h3⟩ => by have := h1.lt; omega
  bd := fun z x s h => h
  sg := fun z x s hz => by simp [be_len]; omega
  num := fun z b i t cs x s w hz hm ⟨A, N, c, h1, h2, h3⟩ hB hx hok ht hf hb => by
    have c0 : w.cell? ⟨b, i, none⟩ = some (.int .i64 x) := by rw [hB.cell]; exact hx
    have f0 := hB.frozen i
    have g0 := h1.one.1
    have hlb := hB.lt
    have hlg := h1.lt
    have hN : N ≤ 100000 := by have := h2.len; omega
    have hca : (w.alloc (.cells #[.int .i64 x] 3)).cell? ⟨g, 0, none⟩ = some (.slice A N c) := (World.cell?_alloc_lt w _ _ hlg).trans g0
    have hcb : (w.alloc (.cells #[.int .i64 x] 3)).cell? ⟨b, i, none⟩ = some (.int .i64 x) := (World.cell?_alloc_lt w _ _ hlb).trans c0
    have hHO := h2.by_.boxed (.cells #[.int .i64 x] 3)
    have hc : Hid (cs[i]? = some (.int .i64 x)) := hx
    have hO2 := h2
    have PU := put1 A (some ⟨w.heap.size, 0, none⟩) N c 1 z s x (w.alloc (.cells #[.int .i64 x] 3)).drew hHO (In.box w x) hz (by omega) hok
    have PUh := Lib.hid PU
    clear hx PU
    go_enter Try.func75, Try.ntmps75
    go_wp2_with fail
    go_region_with (first | (go_at_call 58; refine PUh.out.mono ?_; rintro e w3 ⟨A3, N3, c3, rfl, hO3, hb3⟩; have hb3 : Below (w.alloc (.cells #[.int .i64 x] 3)).heap.size (w.alloc (.cells #[.int .i64 x] 3)) w3 := undrew hb3; have hcg := (hb3.cell (p := ⟨g, 0, none⟩) (by simp; omega)).trans hca; have hfg := (hb3.frozen (p := ⟨g, 0, none⟩) (by simp; omega)).trans ((h1.alloc (.cells #[.int .i64 x] 3)).frozen 0)))
    all_goals
      go_wp2_with fail
      go_end0
      have hbn : Below w.heap.size w w3 := Below.new _ hb3
      have hK1 := h1.kept hbn
      have hB1 := hB.kept hbn
      have hOO : OwnB w3 base A3 N3 c3 (s ++ be z x.toNat) := own_mono hO3 (by show base ≤ (w.alloc _).heap.size; simp; omega)
      refine ⟨rfl, ⟨A3, N3, c3, by simpa using hK1.set_ 0 (.slice A3 N3 c3), ownB_set hOO hK1 (by decide) _, h3⟩, ?_, ⟨by have := hbn.size; simpa using this, fun q t' cs' hq _ hfq _ => (hq.kept hbn).far (p := ⟨g, 0, none⟩) hfq _⟩, (hbn.mono (by omega)).setCell h3 _⟩
      rw [set_same hc.out]
      exact hB1.far (p := ⟨g, 0, none⟩) hf _

/-- A reader of parts in block g, over a reader of bytes in block gr. -/
def RrS (base B g gr : Nat) (w : World) (s : Rs × Bool) : Prop := Bk w g 112 #[.pointer (some ⟨gr, 0, none⟩), .bool s.2] ∧ RdB 130 w gr B s.1 ∧ g ≠ gr ∧ base ≤ g ∧ base ≤ gr ∧ B ≤ g
theorem reader_pi (g gr base B : Nat) : PI 110 g 78 base (fun b => b ≠ g ∧ b ≠ gr ∧ B ≤ b) (RrS base B g gr) (fun z _ s => (((rn z s.1).1 : Int), ((rn z s.1).2, s.2))) (fun _ _ => True) (fun _ => 0) 100000 where
  na := naR_num g
  me := meR_num g
  cf := cf78
  al := fun w s o ⟨h1, h2, h3, h4, h5, h6⟩ => ⟨h1.alloc o, h2.below ((Below.refl _ w).push o), h3, h4, h5, h6⟩
  dr := fun w s h => h
  se := fun w s b t cs i v ⟨h1, h2, h3, h4, h5, h6⟩ hB ht hf => ⟨h1.far (p := ⟨b, i, none⟩) (fun e => hf.1 e.symm) v, h2.set_other i v (fun e => hf.2.1 e.symm) hf.2.2, h3, h4, h5, h6⟩
  fr := fun w s k ⟨h1, h2, h3, h4, h5, h6⟩ hk => by
    have a1 := h1.lt
    have a2 := h2.lt
    have a3 := h2.bg
    exact ⟨by omega, by omega, by omega⟩
  bs := fun w s ⟨h1, h2, h3, h4, h5, h6⟩ => by have := h1.lt; omega
  bd := fun z x s _ => by
    have h1 := num_lt (tk z s.1).1
    have h2 : (256 : Nat) ^ (tk z s.1).1.length ≤ 256 ^ z := Nat.pow_le_pow_right (by omega) (tk_len z s.1)
    simp only [rn]
    omega
  sg := fun _ _ _ _ => by simp
  num := fun z b i t cs x s w hz hm ⟨h1, h2, h3, h4, h5, h6⟩ hB hx hok ht hf hb => by
    have g0 := h1.two.1
    have hi : i < cs.size := (Array.getElem?_eq_some_iff.1 hx).1
    have hlg := h1.lt
    have N := numB gr B z s.1 w h2 hz
    have Nh := Lib.hid N
    clear N hx hz
    go_enter Try.func78, Try.ntmps78
    go_wp2_with (go_at_call 71; refine Nh.out.mono ?_; rintro e w1 ⟨rfl, hR1, hg1⟩; have hB1 := hB.grown hg1 (by intro e; injection e with e; exact hf.2.1 e); obtain ⟨u, hu⟩ := hB1.some_at hi; have hfz := hB1.frozen i)
    go_end0
    have hK1 := h1.grown hg1 (by intro e; injection e with e; exact h3 e)
    refine ⟨rfl, ⟨hK1.far (p := ⟨b, i, none⟩) (fun e => hf.1 e.symm) _, hR1.set_other _ _ (fun e => hf.2.1 e.symm) hf.2.2, h3, h4, h5, h6⟩, hB1.set_ _ _, ⟨by have := hg1.size; simpa using this, fun q t' cs' hq _ hfq hqb => (hq.grown hg1 (by intro e; injection e with e; exact hfq.2.1 e)).far (p := ⟨b, i, none⟩) hqb _⟩, (below_of_grown (Below.refl base w) hg1 (by omega) h5).setCell hb _⟩
end Go.Proofs.Ytfnnjaljnfphlaa
