/- order.spare: has an order nothing but what its kind has? -/
import Derived.Test.YtfnnjaljnfphlaaOdi
import Derived.Test.YtfnnjaljnfphlaaOdt
import Derived.Test.YtfnnjaljnfphlaaOdr
import Derived.Deep.DeepCutAuto
import Derived.Test.YtfnnjaljnfphlaaOdx
namespace Go.Proofs.Ytfnnjaljnfphlaa
open Go.RowKit
set_option maxRecDepth 100000
set_option maxHeartbeats 8000000
set_option linter.unusedSimpArgs false
set_option linter.unusedVariables false

/-- An order's cells. -/
def orC (o : Or6) (A : Option Addr) (L c : Nat) : Array Value := #[.int .i64 o.k, .int .i64 o.n, .int .i64 o.m, .int .i64 o.r.k, .int .i64 o.r.pr, .int .i64 o.r.to, .int .i64 o.r.po, .int .i64 o.r.m.ve, .int .i64 o.r.m.mp, .int .u8 (o.r.m.b0.toNat : Int), .int .u8 (o.r.m.b1.toNat : Int), .int .u8 (o.r.m.b2.toNat : Int), .int .u8 (o.r.m.i0.toNat : Int), .int .u8 (o.r.m.i1.toNat : Int), .int .u8 (o.r.m.i2.toNat : Int), .slice A L c, .int .i64 o.p.f, .int .i64 o.p.fp, .int .i64 o.p.t, .int .i64 o.p.tp, .int .i64 o.p.n]
/-- What look leaves of an order. -/
def clr (o : Or6) : Or6 :=
  if o.k = 2 ∨ o.k = 3 then ⟨o.k, o.n, o.m, ru0, o.p⟩ else if o.k = 4 ∨ o.k = 6 then ⟨o.k, 0, o.m, o.r, o.p⟩ else if o.k = 5 ∨ o.k = 7 ∨ o.k = 9 then ⟨o.k, 0, 0, o.r, o.p⟩ else if o.k = 8 then ⟨o.k, o.n, o.m, o.r, pr0⟩ else o
def zB (o : Or6) : Bool := o.n == 0 && o.m == 0 && prZ o.p && ruZ o.r
theorem ruZ0 : ruZ ru0 = true := by decide
theorem prZ0 : prZ pr0 = true := by decide
theorem spB_clr (o : Or6) : spB o = (kindB o.k && zB (clr o)) := by
  obtain ⟨k, n, m, r, p⟩ := o
  by_cases hk : 1 ≤ k ∧ k ≤ 9
  · have hb : kindB k = true := by simpa [kindB] using hk
    simp only [hb, Bool.true_and]
    obtain rfl | rfl | rfl | rfl | rfl | rfl | rfl | rfl | rfl : k = 1 ∨ k = 2 ∨ k = 3 ∨ k = 4 ∨ k = 5 ∨ k = 6 ∨ k = 7 ∨ k = 8 ∨ k = 9 := by omega
    all_goals simp [spB, clr, zB, ruZ0, prZ0]
  · have hb : kindB k = false := by simpa [kindB] using hk
    simp only [hb, Bool.false_and]
    unfold spB
    simp only
    rw [if_neg (by omega), if_neg (by omega), if_neg (by omega), if_neg (by omega), if_neg (by omega)]
theorem bin_z23 (p : Pr5) (w : World) : (binOp .eql 23 (.agg #[.int .i64 p.f, .int .i64 p.fp, .int .i64 p.t, .int .i64 p.tp, .int .i64 p.n]) (.agg #[.int .i64 0, .int .i64 0, .int .i64 0, .int .i64 0, .int .i64 0])).run Try.prog w = .ok (.bool (prZ p)) w :=
  bin_eq23 p.f p.fp p.t p.tp p.n 0 0 0 0 0 w

theorem hruled {T g rN b : Nat} {w : World} {Q : World → Prop} (hna : ∀ w, (nilAhead 274 T (.pointer (some ⟨g, 0, none⟩)) "catenary/order.rule").run Try.prog w = .ok (some false) w)
    (hme : ∀ w, (method 274 T (.pointer (some ⟨g, 0, none⟩)) "catenary/order.rule").run Try.prog w = .ok (rN, .pointer (some ⟨g, 0, none⟩)) w)
    (hcf : ∀ args w, (callFunc rN args).run Try.prog w = .ok (.enter rN args) w)
    (H : Calls Try.prog rN #[.pointer (some ⟨g, 0, none⟩), .pointer (some ⟨b, 3, none⟩)] w.drew fun e w' => e = .returned (.tuple #[]) ∧ Q w') :
    Calls Try.prog 115 #[.pointer (some ⟨b, 0, none⟩), .iface T (.pointer (some ⟨g, 0, none⟩))] w fun e w' => e = .returned (.tuple #[]) ∧ Q w' := by
  have hmf : ∀ (fn : Fn) (first cap : Array Value) (w : World), (Instr.makeFunc fn first cap).run Try.prog w = .ok (.func fn first cap) w := fun _ _ _ _ => rfl
  have Hh := Lib.hid H
  clear H
  go_enter Try.func115, Try.ntmps115
  go_wp2_with fail
  go_region_held3 (fun _ => True) (trivial) ((refine Hh.out.mono ?_; rintro e w2 ⟨rfl, hQ⟩))
  all_goals
    go_wp2_with fail
    go_end0
    exact ⟨rfl, hQ⟩
theorem hprobed {T g rN b : Nat} {w : World} {Q : World → Prop} (hna : ∀ w, (nilAhead 274 T (.pointer (some ⟨g, 0, none⟩)) "catenary/order.probe").run Try.prog w = .ok (some false) w)
    (hme : ∀ w, (method 274 T (.pointer (some ⟨g, 0, none⟩)) "catenary/order.probe").run Try.prog w = .ok (rN, .pointer (some ⟨g, 0, none⟩)) w)
    (hcf : ∀ args w, (callFunc rN args).run Try.prog w = .ok (.enter rN args) w)
    (H : Calls Try.prog rN #[.pointer (some ⟨g, 0, none⟩), .pointer (some ⟨b, 16, none⟩)] w.drew fun e w' => e = .returned (.tuple #[]) ∧ Q w') :
    Calls Try.prog 120 #[.pointer (some ⟨b, 0, none⟩), .iface T (.pointer (some ⟨g, 0, none⟩))] w fun e w' => e = .returned (.tuple #[]) ∧ Q w' := by
  have hmf : ∀ (fn : Fn) (first cap : Array Value) (w : World), (Instr.makeFunc fn first cap).run Try.prog w = .ok (.func fn first cap) w := fun _ _ _ _ => rfl
  have Hh := Lib.hid H
  clear H
  go_enter Try.func120, Try.ntmps120
  go_wp2_with fail
  go_region_held3 (fun _ => True) (trivial) ((refine Hh.out.mono ?_; rintro e w2 ⟨rfl, hQ⟩))
  all_goals
    go_wp2_with fail
    go_end0
    exact ⟨rfl, hQ⟩
theorem lrule (g b : Nat) (t : TypeId) (o : Or6) (A : Option Addr) (L c : Nat) (w : World) (hB : Bk w b t (orC o A L c)) :
    Calls Try.prog 153 #[.pointer (some ⟨g, 0, none⟩), .pointer (some ⟨b, 3, none⟩)] w fun e w' => e = .returned (.tuple #[]) ∧ Bk w' b t (orC ⟨o.k, o.n, o.m, ru0, o.p⟩ none 0 0) ∧ Below b w w' := by
  unfold orC at hB ⊢
  obtain ⟨c0, c1, c2, c3, c4, c5, c6, c7, c8, c9, c10, c11, c12, c13, c14, c15, c16, c17, c18, c19, c20, f0⟩ := hB.twentyone
  go_enter Try.func153, Try.ntmps153
  go_wp2_with fail
  go_end0
  refine ⟨rfl, ?_, ?_⟩
  · have := (((((((((((((hB.set_ 3 (.int .i64 0)).set_ 4 (.int .i64 0)).set_ 5 (.int .i64 0)).set_ 6 (.int .i64 0)).set_ 7 (.int .i64 0)).set_ 8 (.int .i64 0)).set_ 9 (.int .u8 0)).set_ 10 (.int .u8 0)).set_ 11 (.int .u8 0)).set_ 12 (.int .u8 0)).set_ 13 (.int .u8 0)).set_ 14 (.int .u8 0)).set_ 15 (.slice none 0 0))
    simp only [List.setIfInBounds_toArray, List.set_cons_succ, List.set_cons_zero] at this
    exact this
  · repeat (refine Below.setCell ?_ (by simp) _)
    exact Below.refl _ _
theorem lprobe (g b : Nat) (t : TypeId) (o : Or6) (A : Option Addr) (L c : Nat) (w : World) (hB : Bk w b t (orC o A L c)) :
    Calls Try.prog 152 #[.pointer (some ⟨g, 0, none⟩), .pointer (some ⟨b, 16, none⟩)] w fun e w' => e = .returned (.tuple #[]) ∧ Bk w' b t (orC ⟨o.k, o.n, o.m, o.r, pr0⟩ A L c) ∧ Below b w w' := by
  unfold orC at hB ⊢
  obtain ⟨c0, c1, c2, c3, c4, c5, c6, c7, c8, c9, c10, c11, c12, c13, c14, c15, c16, c17, c18, c19, c20, f0⟩ := hB.twentyone
  go_enter Try.func152, Try.ntmps152
  go_wp2_with fail
  go_end0
  refine ⟨rfl, ?_, ?_⟩
  · have := (((((hB.set_ 16 (.int .i64 0)).set_ 17 (.int .i64 0)).set_ 18 (.int .i64 0)).set_ 19 (.int .i64 0)).set_ 20 (.int .i64 0))
    simp only [List.setIfInBounds_toArray, List.set_cons_succ, List.set_cons_zero] at this
    exact this
  · repeat (refine Below.setCell ?_ (by simp) _)
    exact Below.refl _ _

theorem spare_any (o : Or6) (A : Option Addr) (L c : Nat) (w : World) (hL : o.r.os.length = L) :
    Calls Try.prog 98 #[.agg (orC o A L c)] w fun e w' => e = .returned (.bool (spB o)) ∧ Below w.heap.size w w' := by
  rw [spB_clr]
  obtain ⟨o', ho'⟩ : ∃ x, x = clr o := ⟨_, rfl⟩
  rw [← ho']
  have HC := Lib.hid ho'
  clear ho'
  obtain ⟨k, n, m, r, p⟩ := o
  have HL := Lib.hid hL
  clear hL
  have K := Bk.new w 53 #[.int .i64 (k), .int .i64 (n), .int .i64 (m), .int .i64 r.k, .int .i64 r.pr, .int .i64 r.to, .int .i64 r.po, .int .i64 r.m.ve, .int .i64 r.m.mp, .int .u8 (r.m.b0.toNat : Int), .int .u8 (r.m.b1.toNat : Int), .int .u8 (r.m.b2.toNat : Int), .int .u8 (r.m.i0.toNat : Int), .int .u8 (r.m.i1.toNat : Int), .int .u8 (r.m.i2.toNat : Int), .slice A L c, .int .i64 p.f, .int .i64 p.fp, .int .i64 p.t, .int .i64 p.tp, .int .i64 p.n]
  have hb := (Below.refl w.heap.size w).push (.cells #[.int .i64 (k), .int .i64 (n), .int .i64 (m), .int .i64 r.k, .int .i64 r.pr, .int .i64 r.to, .int .i64 r.po, .int .i64 r.m.ve, .int .i64 r.m.mp, .int .u8 (r.m.b0.toNat : Int), .int .u8 (r.m.b1.toNat : Int), .int .u8 (r.m.b2.toNat : Int), .int .u8 (r.m.i0.toNat : Int), .int .u8 (r.m.i1.toNat : Int), .int .u8 (r.m.i2.toNat : Int), .slice A L c, .int .i64 p.f, .int .i64 p.fp, .int .i64 p.t, .int .i64 p.tp, .int .i64 p.n] 53)
  show Calls Try.prog 98 #[.agg #[.int .i64 (k), .int .i64 (n), .int .i64 (m), .int .i64 r.k, .int .i64 r.pr, .int .i64 r.to, .int .i64 r.po, .int .i64 r.m.ve, .int .i64 r.m.mp, .int .u8 (r.m.b0.toNat : Int), .int .u8 (r.m.b1.toNat : Int), .int .u8 (r.m.b2.toNat : Int), .int .u8 (r.m.i0.toNat : Int), .int .u8 (r.m.i1.toNat : Int), .int .u8 (r.m.i2.toNat : Int), .slice A L c, .int .i64 p.f, .int .i64 p.fp, .int .i64 p.t, .int .i64 p.tp, .int .i64 p.n]] w fun e w' => e = .returned (.bool (kindB k && zB o')) ∧ Below w.heap.size w w'
  go_enter Try.func98, Try.ntmps98
  go_upto_region 1 with fail
  generalize w.alloc _ = w1 at K hb ⊢
  have c0 : w1.cell? ⟨w.heap.size, 0, none⟩ = some (.int .i64 k) := K.cell 0
  have kl := fun (g : Nat) (W : World) hg => look_any W g k hg
  have klh := Lib.hid kl
  clear kl
  have hlk : (Instr.lookup 105 (.map (some w1.heap.size)) (.int .i64 k) true).run Try.prog (w1.alloc (.map kindE 9)).drew = .ok (.tuple #[kindV k, .bool (kindB k)]) (w1.alloc (.map kindE 9)).drew := klh.out _ _ (heap_alloc_new w1 _)
  go_region_held3 (fun w' => w'.cell? ⟨w.heap.size, 0, none⟩ = some (.int .i64 k)) (first | exact c0 | exact (K.alloc _).cell 0) (first | (go_at_call 76; refine (kinds_any _).mono ?_; rintro e w2 ⟨rfl, rfl⟩))
  have K := (K.alloc (.map kindE 9)).drew
  have hb := (hb.push (.map kindE 9)).drew
  clear c0 hlk klh
  generalize (w1.alloc (.map kindE 9)).drew = w2 at K hb ⊢
  rcases Bool.eq_false_or_eq_true (kindB k) with hk | hk
  · have KL := Bk.new w2 144 #[.int .i64 (k), .int .i64 (n), .int .i64 (m), .int .i64 r.k, .int .i64 r.pr, .int .i64 r.to, .int .i64 r.po, .int .i64 r.m.ve, .int .i64 r.m.mp, .int .u8 (r.m.b0.toNat : Int), .int .u8 (r.m.b1.toNat : Int), .int .u8 (r.m.b2.toNat : Int), .int .u8 (r.m.i0.toNat : Int), .int .u8 (r.m.i1.toNat : Int), .int .u8 (r.m.i2.toNat : Int), .slice A L c, .int .i64 p.f, .int .i64 p.fp, .int .i64 p.t, .int .i64 p.tp, .int .i64 p.n]
    have hb := hb.push (.cells #[.int .i64 (k), .int .i64 (n), .int .i64 (m), .int .i64 r.k, .int .i64 r.pr, .int .i64 r.to, .int .i64 r.po, .int .i64 r.m.ve, .int .i64 r.m.mp, .int .u8 (r.m.b0.toNat : Int), .int .u8 (r.m.b1.toNat : Int), .int .u8 (r.m.b2.toNat : Int), .int .u8 (r.m.i0.toNat : Int), .int .u8 (r.m.i1.toNat : Int), .int .u8 (r.m.i2.toNat : Int), .slice A L c, .int .i64 p.f, .int .i64 p.fp, .int .i64 p.t, .int .i64 p.tp, .int .i64 p.n] 144)
    obtain ⟨V, hV⟩ : ∃ V, V = Value.agg #[.int .i64 (k), .int .i64 (n), .int .i64 (m), .int .i64 r.k, .int .i64 r.pr, .int .i64 r.to, .int .i64 r.po, .int .i64 r.m.ve, .int .i64 r.m.mp, .int .u8 (r.m.b0.toNat : Int), .int .u8 (r.m.b1.toNat : Int), .int .u8 (r.m.b2.toNat : Int), .int .u8 (r.m.i0.toNat : Int), .int .u8 (r.m.i1.toNat : Int), .int .u8 (r.m.i2.toNat : Int), .slice A L c, .int .i64 p.f, .int .i64 p.fp, .int .i64 p.t, .int .i64 p.tp, .int .i64 p.n] := ⟨_, rfl⟩
    have hld : (Instr.loadAt 53 (.pointer (some ⟨w.heap.size, 0, none⟩))).run Try.prog w2 = .ok V w2 := by rw [hV]; exact K.ld53 rfl
    have hbd : (Instr.build 144 #[(0, V)]).run Try.prog w2 = .ok V w2 := by rw [hV]; exact bld144 _ _ _ _ _ _ _ _ _ _ _ _ _ _ _ _ _ _ _ _ _ w2
    have hbx : (Instr.box 144 V).run Try.prog w2 = .ok (.pointer (some ⟨w2.heap.size, 0, none⟩)) (w2.alloc (.cells #[.int .i64 (k), .int .i64 (n), .int .i64 (m), .int .i64 r.k, .int .i64 r.pr, .int .i64 r.to, .int .i64 r.po, .int .i64 r.m.ve, .int .i64 r.m.mp, .int .u8 (r.m.b0.toNat : Int), .int .u8 (r.m.b1.toNat : Int), .int .u8 (r.m.b2.toNat : Int), .int .u8 (r.m.i0.toNat : Int), .int .u8 (r.m.i1.toNat : Int), .int .u8 (r.m.i2.toNat : Int), .slice A L c, .int .i64 p.f, .int .i64 p.fp, .int .i64 p.t, .int .i64 p.tp, .int .i64 p.n] 144)) := by rw [hV]; exact box144 _ w2
    clear hV
    go_upto_region 5 with (first | (refine wpL_load 53 (.tmp 1) _ rfl rfl rfl hld ?_) | (refine wpL_build 144 0 (.tmp 16) V rfl rfl rfl hbd ?_) | (refine wpL_box 144 (.tmp 17) V rfl rfl rfl hbx ?_))
    clear hld hbd hbx
    have hz2 : w.heap.size ≤ w2.heap.size := by have := K.lt; omega
    generalize w2.alloc _ = w3 at KL hb ⊢
    generalize w2.heap.size = gl at KL hz2 ⊢
    have hz3 := hb.size
    have hkh := Lib.hid hk
    go_cut [5] (fun s5 wx => s5 = .pointer (some ⟨gl, 0, none⟩) ∧ (∃ A' c', Bk wx gl 144 (orC o' A' o'.r.os.length c')) ∧ Below w.heap.size w wx)
    case first =>
      have LP := look_pi gl w.heap.size
      have LPh := Lib.hid LP
      clear LP
      have hk9 : 1 ≤ k ∧ k ≤ 9 := by simpa [kindB] using hk
      clear hk hkh
      obtain rfl | rfl | rfl | rfl | rfl | rfl | rfl | rfl | rfl : k = 1 ∨ k = 2 ∨ k = 3 ∨ k = 4 ∨ k = 5 ∨ k = 6 ∨ k = 7 ∨ k = 8 ∨ k = 9 := by omega
      · as_aux_lemma =>
        have HO := Lib.hid (show o' = ⟨1, n, m, r, p⟩ by rw [HC.out]; simp [clr])
        have hv : kindV 1 = .func (.func 114) #[] #[] := by simp [kindV]
        go_wp2_with (go_at_call 114; refine (hnone _ _ _).mono ?_; rintro e w5 ⟨rfl, rfl⟩)
        go_meet
        rw [HO.out]
        exact ⟨rfl, ⟨A, c, by rw [HL.out]; exact KL⟩, hb⟩
      · as_aux_lemma =>
        have HO := Lib.hid (show o' = ⟨2, n, m, ru0, p⟩ by rw [HC.out]; simp [clr])
        have hv : kindV 2 = .func (.func 115) #[] #[] := by simp [kindV]
        have N := hruled (naL_rule gl) (meL_rule gl) cf153 (lrule gl gl 144 ⟨2, n, m, r, p⟩ A L c w3.drew KL.drew)
        have Nh := Lib.hid N
        clear N
        go_wp2_with (go_at_call 115; refine Nh.out.mono ?_; rintro e w5 ⟨rfl, hK5, hb5⟩)
        go_meet
        rw [HO.out]
        have hb6 := hb.trans ((undrew hb5).mono (by omega))
        exact ⟨rfl, ⟨_, _, hK5⟩, hb6⟩
      · as_aux_lemma =>
        have HO := Lib.hid (show o' = ⟨3, n, m, ru0, p⟩ by rw [HC.out]; simp [clr])
        have hv : kindV 3 = .func (.func 115) #[] #[] := by simp [kindV]
        have N := hruled (naL_rule gl) (meL_rule gl) cf153 (lrule gl gl 144 ⟨3, n, m, r, p⟩ A L c w3.drew KL.drew)
        have Nh := Lib.hid N
        clear N
        go_wp2_with (go_at_call 115; refine Nh.out.mono ?_; rintro e w5 ⟨rfl, hK5, hb5⟩)
        go_meet
        rw [HO.out]
        have hb6 := hb.trans ((undrew hb5).mono (by omega))
        exact ⟨rfl, ⟨_, _, hK5⟩, hb6⟩
      · as_aux_lemma =>
        have HO := Lib.hid (show o' = ⟨4, 0, m, r, p⟩ by rw [HC.out]; simp [clr])
        have hv : kindV 4 = .func (.func 116) #[] #[] := by simp [kindV]
        have N := htag LPh.out gl 144 #[.int .i64 (4), .int .i64 (n), .int .i64 (m), .int .i64 r.k, .int .i64 r.pr, .int .i64 r.to, .int .i64 r.po, .int .i64 r.m.ve, .int .i64 r.m.mp, .int .u8 (r.m.b0.toNat : Int), .int .u8 (r.m.b1.toNat : Int), .int .u8 (r.m.b2.toNat : Int), .int .u8 (r.m.i0.toNat : Int), .int .u8 (r.m.i1.toNat : Int), .int .u8 (r.m.i2.toNat : Int), .slice A L c, .int .i64 p.f, .int .i64 p.fp, .int .i64 p.t, .int .i64 p.tp, .int .i64 p.n] n () w3 (by simp) hz3 KL rfl trivial (by decide) trivial hz2
        have Nh := Lib.hid N
        clear N
        go_wp2_with (go_at_call 116; refine Nh.out.mono ?_; rintro e w5 ⟨rfl, hs5, hK5, hk5, hb5⟩)
        go_meet
        rw [HO.out]
        simp only [List.setIfInBounds_toArray, List.set_cons_succ, List.set_cons_zero] at hK5
        exact ⟨rfl, ⟨A, c, by rw [HL.out]; exact hK5⟩, hb.trans hb5⟩
      · as_aux_lemma =>
        have HO := Lib.hid (show o' = ⟨5, 0, 0, r, p⟩ by rw [HC.out]; simp [clr])
        have hv : kindV 5 = .func (.func 117) #[] #[] := by simp [kindV]
        have N := hask LPh.out gl 144 #[.int .i64 (5), .int .i64 (n), .int .i64 (m), .int .i64 r.k, .int .i64 r.pr, .int .i64 r.to, .int .i64 r.po, .int .i64 r.m.ve, .int .i64 r.m.mp, .int .u8 (r.m.b0.toNat : Int), .int .u8 (r.m.b1.toNat : Int), .int .u8 (r.m.b2.toNat : Int), .int .u8 (r.m.i0.toNat : Int), .int .u8 (r.m.i1.toNat : Int), .int .u8 (r.m.i2.toNat : Int), .slice A L c, .int .i64 p.f, .int .i64 p.fp, .int .i64 p.t, .int .i64 p.tp, .int .i64 p.n] n m () w3 (by simp) hz3 KL rfl rfl trivial trivial (by decide) trivial hz2
        have Nh := Lib.hid N
        clear N
        go_wp2_with (go_at_call 117; refine Nh.out.mono ?_; rintro e w5 ⟨rfl, hs5, hK5, hk5, hb5⟩)
        go_meet
        rw [HO.out]
        simp only [List.setIfInBounds_toArray, List.set_cons_succ, List.set_cons_zero] at hK5
        exact ⟨rfl, ⟨A, c, by rw [HL.out]; exact hK5⟩, hb.trans hb5⟩
      · as_aux_lemma =>
        have HO := Lib.hid (show o' = ⟨6, 0, m, r, p⟩ by rw [HC.out]; simp [clr])
        have hv : kindV 6 = .func (.func 118) #[] #[] := by simp [kindV]
        have N := hbarrier LPh.out gl 144 #[.int .i64 (6), .int .i64 (n), .int .i64 (m), .int .i64 r.k, .int .i64 r.pr, .int .i64 r.to, .int .i64 r.po, .int .i64 r.m.ve, .int .i64 r.m.mp, .int .u8 (r.m.b0.toNat : Int), .int .u8 (r.m.b1.toNat : Int), .int .u8 (r.m.b2.toNat : Int), .int .u8 (r.m.i0.toNat : Int), .int .u8 (r.m.i1.toNat : Int), .int .u8 (r.m.i2.toNat : Int), .slice A L c, .int .i64 p.f, .int .i64 p.fp, .int .i64 p.t, .int .i64 p.tp, .int .i64 p.n] n () w3 (by simp) hz3 KL rfl trivial (by decide) trivial hz2
        have Nh := Lib.hid N
        clear N
        go_wp2_with (go_at_call 118; refine Nh.out.mono ?_; rintro e w5 ⟨rfl, hs5, hK5, hk5, hb5⟩)
        go_meet
        rw [HO.out]
        simp only [List.setIfInBounds_toArray, List.set_cons_succ, List.set_cons_zero] at hK5
        exact ⟨rfl, ⟨A, c, by rw [HL.out]; exact hK5⟩, hb.trans hb5⟩
      · as_aux_lemma =>
        have HO := Lib.hid (show o' = ⟨7, 0, 0, r, p⟩ by rw [HC.out]; simp [clr])
        have hv : kindV 7 = .func (.func 119) #[] #[] := by simp [kindV]
        have N := hdone LPh.out gl 144 #[.int .i64 (7), .int .i64 (n), .int .i64 (m), .int .i64 r.k, .int .i64 r.pr, .int .i64 r.to, .int .i64 r.po, .int .i64 r.m.ve, .int .i64 r.m.mp, .int .u8 (r.m.b0.toNat : Int), .int .u8 (r.m.b1.toNat : Int), .int .u8 (r.m.b2.toNat : Int), .int .u8 (r.m.i0.toNat : Int), .int .u8 (r.m.i1.toNat : Int), .int .u8 (r.m.i2.toNat : Int), .slice A L c, .int .i64 p.f, .int .i64 p.fp, .int .i64 p.t, .int .i64 p.tp, .int .i64 p.n] n m () w3 (by simp) hz3 KL rfl rfl trivial trivial (by decide) trivial hz2
        have Nh := Lib.hid N
        clear N
        go_wp2_with (go_at_call 119; refine Nh.out.mono ?_; rintro e w5 ⟨rfl, hs5, hK5, hk5, hb5⟩)
        go_meet
        rw [HO.out]
        simp only [List.setIfInBounds_toArray, List.set_cons_succ, List.set_cons_zero] at hK5
        exact ⟨rfl, ⟨A, c, by rw [HL.out]; exact hK5⟩, hb.trans hb5⟩
      · as_aux_lemma =>
        have HO := Lib.hid (show o' = ⟨8, n, m, r, pr0⟩ by rw [HC.out]; simp [clr])
        have hv : kindV 8 = .func (.func 120) #[] #[] := by simp [kindV]
        have N := hprobed (naL_probe gl) (meL_probe gl) cf152 (lprobe gl gl 144 ⟨8, n, m, r, p⟩ A L c w3.drew KL.drew)
        have Nh := Lib.hid N
        clear N
        go_wp2_with (go_at_call 120; refine Nh.out.mono ?_; rintro e w5 ⟨rfl, hK5, hb5⟩)
        go_meet
        rw [HO.out]
        have hb6 := hb.trans ((undrew hb5).mono (by omega))
        exact ⟨rfl, ⟨_, _, by rw [HL.out]; exact hK5⟩, hb6⟩
      · as_aux_lemma =>
        have HO := Lib.hid (show o' = ⟨9, 0, 0, r, p⟩ by rw [HC.out]; simp [clr])
        have hv : kindV 9 = .func (.func 121) #[] #[] := by simp [kindV]
        have N := hport LPh.out gl 144 #[.int .i64 (9), .int .i64 (n), .int .i64 (m), .int .i64 r.k, .int .i64 r.pr, .int .i64 r.to, .int .i64 r.po, .int .i64 r.m.ve, .int .i64 r.m.mp, .int .u8 (r.m.b0.toNat : Int), .int .u8 (r.m.b1.toNat : Int), .int .u8 (r.m.b2.toNat : Int), .int .u8 (r.m.i0.toNat : Int), .int .u8 (r.m.i1.toNat : Int), .int .u8 (r.m.i2.toNat : Int), .slice A L c, .int .i64 p.f, .int .i64 p.fp, .int .i64 p.t, .int .i64 p.tp, .int .i64 p.n] n m () w3 (by simp) hz3 KL rfl rfl trivial trivial (by decide) trivial hz2
        have Nh := Lib.hid N
        clear N
        go_wp2_with (go_at_call 121; refine Nh.out.mono ?_; rintro e w5 ⟨rfl, hs5, hK5, hk5, hb5⟩)
        go_meet
        rw [HO.out]
        simp only [List.setIfInBounds_toArray, List.set_cons_succ, List.set_cons_zero] at hK5
        exact ⟨rfl, ⟨A, c, by rw [HL.out]; exact hK5⟩, hb.trans hb5⟩
    case rest =>
     as_aux_lemma =>
      obtain ⟨rfl, ⟨A', c', KO⟩, hb⟩ := hcut
      clear KL K HC HL hk hz3
      unfold orC at KO
      obtain ⟨c0, c1, c2, c3, c4, c5, c6, c7, c8, c9, c10, c11, c12, c13, c14, c15, c16, c17, c18, c19, c20, f0⟩ := KO.twentyone
      have KR := Bk.new wc 51 #[.int .i64 o'.r.k, .int .i64 o'.r.pr, .int .i64 o'.r.to, .int .i64 o'.r.po, .int .i64 o'.r.m.ve, .int .i64 o'.r.m.mp, .int .u8 (o'.r.m.b0.toNat : Int), .int .u8 (o'.r.m.b1.toNat : Int), .int .u8 (o'.r.m.b2.toNat : Int), .int .u8 (o'.r.m.i0.toNat : Int), .int .u8 (o'.r.m.i1.toNat : Int), .int .u8 (o'.r.m.i2.toNat : Int), .slice A' o'.r.os.length c']
      have KO2 := KO.alloc (.cells #[.int .i64 o'.r.k, .int .i64 o'.r.pr, .int .i64 o'.r.to, .int .i64 o'.r.po, .int .i64 o'.r.m.ve, .int .i64 o'.r.m.mp, .int .u8 (o'.r.m.b0.toNat : Int), .int .u8 (o'.r.m.b1.toNat : Int), .int .u8 (o'.r.m.b2.toNat : Int), .int .u8 (o'.r.m.i0.toNat : Int), .int .u8 (o'.r.m.i1.toNat : Int), .int .u8 (o'.r.m.i2.toNat : Int), .slice A' o'.r.os.length c'] 51)
      have hb := hb.push (.cells #[.int .i64 o'.r.k, .int .i64 o'.r.pr, .int .i64 o'.r.to, .int .i64 o'.r.po, .int .i64 o'.r.m.ve, .int .i64 o'.r.m.mp, .int .u8 (o'.r.m.b0.toNat : Int), .int .u8 (o'.r.m.b1.toNat : Int), .int .u8 (o'.r.m.b2.toNat : Int), .int .u8 (o'.r.m.i0.toNat : Int), .int .u8 (o'.r.m.i1.toNat : Int), .int .u8 (o'.r.m.i2.toNat : Int), .slice A' o'.r.os.length c'] 51)
      go_upto_region 7 with fail
      clear c0 c1 c2 c3 c4 c5 c6 c7 c8 c9 c10 c11 c12 c13 c14 c15 c16 c17 c18 c19 c20 f0 KO
      generalize wc.alloc _ = w4 at KR KO2 hb ⊢
      obtain ⟨c0, c1, c2, c3, c4, c5, c6, c7, c8, c9, c10, c11, c12, c13, c14, c15, c16, c17, c18, c19, c20, f0⟩ := KO2.twentyone
      obtain ⟨d0, d1, d2, d3, d4, d5, d6, d7, d8, d9, d10, d11, d12, e0⟩ := KR.r13
      have hq1 := bin_z23 o'.p
      have hq2 := bin_z48 o'.r.m
      have HZ := Lib.hid (show zB o' = (o'.n == 0 && o'.m == 0 && prZ o'.p && (o'.r.k == 0 && o'.r.pr == 0 && o'.r.to == 0 && o'.r.po == 0 && mkZ o'.r.m && ((o'.r.os.length : Int) == 0))) by
        unfold zB ruZ
        have : ((o'.r.os.length : Int) == 0) = (o'.r.os.length == 0) := by rw [Bool.eq_iff_iff]; simp
        rw [this])
      generalize prZ o'.p = PZ at hq1 HZ
      generalize mkZ o'.r.m = MZ at hq2 HZ
      go_wp2_with fail
      all_goals
        go_ret
        refine ⟨ret_b ?_, hb⟩
        clear c0 c1 c2 c3 c4 c5 c6 c7 c8 c9 c10 c11 c12 c13 c14 c15 c16 c17 c18 c19 c20 f0 d0 d1 d2 d3 d4 d5 d6 d7 d8 d9 d10 d11 d12 e0 hq1 hq2 KR KO2
        rw [HZ.out, hkh.out]
        simp_all
  · go_wp2_with fail
    go_ret
    exact ⟨ret_b (by rw [hk]; rfl), hb⟩

end Go.Proofs.Ytfnnjaljnfphlaa
