/- The helpers of the statements on probes: works, made. -/
import Derived.Test.YtfnnjaljnfphlaaPpa
import Derived.Deep.RegionHeld3
import Derived.Deep.DeepCutAuto
namespace Go.Proofs.Ytfnnjaljnfphlaa
open Go.RowKit
set_option maxRecDepth 100000
set_option maxHeartbeats 2000000
set_option linter.unusedSimpArgs false
set_option linter.unusedVariables false
attribute [local go_sem ↓] Go.wp_at_zero Go.wp_at_succ

theorem _root_.Go.RowKit.Below.next {w a b : World} (h : Below w.heap.size w a) (k : Below a.heap.size a b) : Below w.heap.size w b := h.trans (k.mono h.size)
theorem _root_.Go.RowKit.Below.push {w a : World} (h : Below w.heap.size w a) (o : Obj) : Below w.heap.size w (a.alloc o) := h.alloc h.size o

theorem prB_works : prB 1 2 3 4 258 = [2, 1, 2, 3, 4, 1, 2, 196, 97] := by decide +kernel

theorem By.lit (w : World) (cs : Array Value) (l : List UInt8) (n : Nat) (h : cs.toList = l.map byV) (hn : cs.size = n) : By (w.alloc (.cells cs 5)) (w.alloc (.cells cs 5)).heap.size (some ⟨w.heap.size, 0, none⟩) n l := by
  have := (Bk.new w 5 cs).rd (n := n) (size := 1) (by omega)
  rw [h] at this
  exact this
theorem works04 (w : World) : Calls Try.prog 22 #[] w fun e w' => e = .returned (.bool true) ∧ Below w.heap.size w w' := by
  have p1 : PrOk 1 2 3 4 258 := by decide
  go_enter Try.func22, Try.ntmps22
  go_wp2_with fail
  refine (pbytes_any 1 2 3 4 258 _ p1).mono ?_
  rintro e w1 ⟨A, N, c, rfl, hO, hb1⟩
  rw [prB_works] at hO
  obtain rfl : 9 = N := hO.len
  have hB := hO.by_
  have hl7 : By w1 w1.heap.size A 7 [2, 1, 2, 3, 4, 1, 2] := hB.front (k := 7) (by omega)
  have hc9 := hO.cap
  have v0 : fndE 1 2 0 0 0 3 4 = 0 := by decide
  have v1 : ∀ x, fndV 1 2 0 0 0 3 4 x = x := fun x => by rw [fndV, if_pos v0]
  have u0 : fndE 1 2 3 4 0 3 4 = 180 := by decide
  have u1 : ∀ x, fndV 1 2 3 4 0 3 4 x = 0 := fun x => by rw [fndV, if_neg (by rw [u0]; omega)]
  have q1 : prE 0 1 0 0 0 = 2 := by decide
  have q2 : prE 1 1 3 0 0 = 2 := by decide
  go_wp2_with fail
  refine (found_any 1 2 0 0 0 3 4 _).mono ?_
  rintro e w2 ⟨rfl, hb2⟩
  simp only [v0, v1]
  go_wp2_with fail
  refine (found_any 1 2 3 4 0 3 4 _).mono ?_
  rintro e w3 ⟨rfl, hb3⟩
  simp only [u0, u1]
  obtain ⟨c0, c1, c2, c3, c4, f0⟩ := ((Bk.new w2 23 #[.int .i64 1, .int .i64 2, .int .i64 3, .int .i64 4, .int .i64 0]).kept hb3).five
  go_wp2_with fail
  obtain ⟨d0, d1, d2, d3, d4, g0⟩ := ((((Bk.new w2 23 #[.int .i64 1, .int .i64 2, .int .i64 3, .int .i64 4, .int .i64 0]).kept hb3).alloc (.cells #[.int .i64 0, .int .i64 0, .int .i64 0, .int .i64 0, .int .i64 0] 23)).alloc (.cells #[.int .u8 2, .int .u8 1, .int .u8 2, .int .u8 3, .int .u8 4, .int .u8 1, .int .u8 2] 5)).five
  have hq : ∀ w, (binOp .eql 23 (.agg #[.int .i64 1, .int .i64 2, .int .i64 3, .int .i64 4, .int .i64 0]) (.agg #[.int .i64 1, .int .i64 2, .int .i64 3, .int .i64 4, .int .i64 0])).run Try.prog w = .ok (.bool true) w := fun _ => by kernel_rfl
  have hy := ((((hl7.kept hb2).boxed _).kept hb3).boxed (.cells #[.int .i64 0, .int .i64 0, .int .i64 0, .int .i64 0, .int .i64 0] 23)).boxed (.cells #[.int .u8 2, .int .u8 1, .int .u8 2, .int .u8 3, .int .u8 4, .int .u8 1, .int .u8 2] 5)
  have hy2 := By.lit (w3.alloc (.cells #[.int .i64 0, .int .i64 0, .int .i64 0, .int .i64 0, .int .i64 0] 23)) #[.int .u8 2, .int .u8 1, .int .u8 2, .int .u8 3, .int .u8 4, .int .u8 1, .int .u8 2] [2, 1, 2, 3, 4, 1, 2] 7 rfl rfl
  rw [World.size_alloc (w := w3)] at hy2
  have eqs := eqbytes_any _ _ _ c _ 7 _ _ _ _ _ hy hy2
  rw [show ([2, 1, 2, 3, 4, 1, 2] == ([2, 1, 2, 3, 4, 1, 2] : List UInt8)) = true from rfl] at eqs
  refine eqs.mono ?_
  rintro e w4 ⟨rfl, rfl⟩
  simp only [go_sem, hq]
  go_wp2_with fail
  refine (pcheck_any 0 1 0 0 0 _).mono ?_
  rintro e w5 ⟨rfl, hb5⟩
  simp only [q1]
  go_wp2_with fail
  refine (pcheck_any 1 1 3 0 0 _).mono ?_
  rintro e w6 ⟨rfl, hb6⟩
  simp only [q2]
  go_wp2_with fail
  have hb : Below w.heap.size w w6 := (((((hb1.next hb2).next (Below.new _ hb3)).push _).push _).next hb5).next hb6
  go_ret
  exact ⟨rfl, hb⟩

def I64 (x : Int) : Prop := -9223372036854775808 ≤ x ∧ x ≤ 9223372036854775807
def mkT (t tp : Int) : Int := if t.tmod 2 = 0 then 0 else 1 + t % 6
def mkTp (t tp : Int) : Int := if t.tmod 2 = 0 then 0 else 1 + tp % 4
theorem wrap_six (x : Int) : IntKind.i64.wrap (1 + x % 6) = 1 + x % 6 := IntWalk.i64_in _ (by omega)
theorem wrap_four (x : Int) : IntKind.i64.wrap (1 + x % 4) = 1 + x % 4 := IntWalk.i64_in _ (by omega)
theorem made04_any (f fp t tp n : Int) (w : World) (h1 : I64 f) (h2 : I64 fp) (h3 : I64 t) (h4 : I64 tp) (h5 : I64 n) :
    Calls Try.prog 19 #[.agg #[.int .i64 f, .int .i64 fp, .int .i64 t, .int .i64 tp, .int .i64 n]] w fun e w' =>
      e = .returned (.agg #[.int .i64 (1 + f % 6), .int .i64 (1 + fp % 4), .int .i64 (mkT t tp), .int .i64 (mkTp t tp), .int .i64 (n % 65536)]) ∧ Below w.heap.size w w' := by
  obtain ⟨big, hbig⟩ : ∃ b : Int, b = 65536 := ⟨_, rfl⟩
  unfold I64 at *
  have ht : (t.tmod 2 = 0 ∧ (t.tmod 2 != 0) = false) ∨ (¬ t.tmod 2 = 0 ∧ (t.tmod 2 != 0) = true) := by
    by_cases h : t.tmod 2 = 0
    · exact .inl ⟨h, by simp [h]⟩
    · exact .inr ⟨h, by simpa using h⟩
  go_enter Try.func19, Try.ntmps19
  go_upto_region 1 with fail
  obtain ⟨c0, c1, c2, c3, c4, f0⟩ := ((Bk.new w 23 #[.int .i64 f, .int .i64 fp, .int .i64 t, .int .i64 tp, .int .i64 n]).alloc (.cells #[.int .i64 0, .int .i64 0, .int .i64 0, .int .i64 0, .int .i64 0] 23)).five
  have d := fun o => (((Bk.new w 23 #[.int .i64 f, .int .i64 fp, .int .i64 t, .int .i64 tp, .int .i64 n]).alloc (.cells #[.int .i64 0, .int .i64 0, .int .i64 0, .int .i64 0, .int .i64 0] 23)).alloc o).five
  have e1 := wrap_six f
  have e2 := wrap_four fp
  go_cut [3] (fun s3 wx => s3 = .pointer (some ⟨w.heap.size + 1 + 1, 0, none⟩) ∧ wx = (((w.alloc (.cells #[.int .i64 f, .int .i64 fp, .int .i64 t, .int .i64 tp, .int .i64 n] 23)).alloc (.cells #[.int .i64 0, .int .i64 0, .int .i64 0, .int .i64 0, .int .i64 0] 23)).alloc (.cells #[.int .i64 (1 + f % 6), .int .i64 (1 + fp % 4), .int .i64 0, .int .i64 0, .int .i64 (n % 65536)] 23)).drew)
  case first =>
    go_region_held3 (fun w' => w'.cell? ⟨w.heap.size, 0, none⟩ = some (.int .i64 f) ∧ w'.cell? ⟨w.heap.size, 1, none⟩ = some (.int .i64 fp) ∧ w'.cell? ⟨w.heap.size, 4, none⟩ = some (.int .i64 n)) (first | exact ⟨c0, c1, c4⟩ | exact ⟨(d _).1, (d _).2.1, (d _).2.2.2.2.1⟩) (first | (go_at_call 20; refine (bring_any _ _ _ (by omega) (by omega) (by omega) (by omega)).mono ?_; rintro e w1 ⟨rfl, rfl⟩))
    all_goals (go_wp2_with fail; go_meet; exact ⟨rfl, rfl⟩)
  case rest =>
    obtain ⟨rfl, rfl⟩ := hcut
    clear d c0 c1 c2 c3 c4 f0 e1 e2
    have e1 := wrap_six t
    have e2 := wrap_four tp
    obtain ⟨c0, c1, c2, c3, c4, f0⟩ := ((((Bk.new w 23 #[.int .i64 f, .int .i64 fp, .int .i64 t, .int .i64 tp, .int .i64 n]).alloc (.cells #[.int .i64 0, .int .i64 0, .int .i64 0, .int .i64 0, .int .i64 0] 23)).alloc (.cells #[.int .i64 (1 + f % 6), .int .i64 (1 + fp % 4), .int .i64 0, .int .i64 0, .int .i64 (n % 65536)] 23))).five
    have hb : Below w.heap.size w w := Below.refl _ w
    rcases ht with ⟨ht, hb⟩ | ⟨ht, hb⟩
    · go_wp2_with fail
      obtain ⟨c0, c1, c2, c3, c4, f0⟩ := ((((Bk.new (w.alloc (.cells #[.int .i64 f, .int .i64 fp, .int .i64 t, .int .i64 tp, .int .i64 n] 23)) 23 #[.int .i64 (1 + f % 6), .int .i64 (1 + fp % 4), .int .i64 0, .int .i64 0, .int .i64 (n % 65536)]).alloc (.cells #[.int .i64 (1 + f % 6), .int .i64 (1 + fp % 4), .int .i64 0, .int .i64 0, .int .i64 (n % 65536)] 23))).drew).five
      refine bodyPost_ret (v := .agg #[.int .i64 (1 + f % 6), .int .i64 (1 + fp % 4), .int .i64 0, .int .i64 0, .int .i64 (n % 65536)]) (by simp [results, Try.results19, go_sem, c0, c1, c2, c3, c4]) rfl ?_
      exact ⟨by rw [mkT, mkTp, if_pos ht, if_pos ht], ((((Below.refl _ w).push _).push _).push _).drew⟩
    · go_wp2_with (first | (go_at_call 20; refine (bring_any _ _ _ (by omega) (by omega) (by omega) (by omega)).mono ?_; rintro e w1 ⟨rfl, rfl⟩))
      obtain ⟨c0, c1, c2, c3, c4, f0⟩ := ((((Bk.new (w.alloc (.cells #[.int .i64 f, .int .i64 fp, .int .i64 t, .int .i64 tp, .int .i64 n] 23)) 23 #[.int .i64 (1 + f % 6), .int .i64 (1 + fp % 4), .int .i64 (1 + t % 6), .int .i64 (1 + tp % 4), .int .i64 (n % 65536)]).alloc (.cells #[.int .i64 (1 + f % 6), .int .i64 (1 + fp % 4), .int .i64 (1 + t % 6), .int .i64 (1 + tp % 4), .int .i64 (n % 65536)] 23))).drew).five
      refine bodyPost_ret (v := .agg #[.int .i64 (1 + f % 6), .int .i64 (1 + fp % 4), .int .i64 (1 + t % 6), .int .i64 (1 + tp % 4), .int .i64 (n % 65536)]) (by simp [results, Try.results19, go_sem, c0, c1, c2, c3, c4]) rfl ?_
      exact ⟨by rw [mkT, mkTp, if_neg ht, if_neg ht], ((((Below.refl _ w).push _).push _).push _).drew⟩
end Go.Proofs.Ytfnnjaljnfphlaa
