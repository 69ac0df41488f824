/- order.Rule and the reference's. -/
import Derived.Test.YtfnnjaljnfphlaaOdm
namespace Go.Proofs.Ytfnnjaljnfphlaa
open Go.RowKit
set_option maxRecDepth 100000
set_option maxHeartbeats 8000000
set_option linter.unusedSimpArgs false
set_option linter.unusedVariables false

/-- A rule's cells. -/
def ruC (r : Ru) (A : Option Addr) (N c : Nat) : Array Value := #[.int .i64 r.k, .int .i64 r.pr, .int .i64 r.to, .int .i64 r.po, .int .i64 r.m.ve, .int .i64 r.m.mp, .int .u8 (r.m.b0.toNat : Int), .int .u8 (r.m.b1.toNat : Int), .int .u8 (r.m.b2.toNat : Int), .int .u8 (r.m.i0.toNat : Int), .int .u8 (r.m.i1.toNat : Int), .int .u8 (r.m.i2.toNat : Int), .slice A N c]
theorem Bk.r13 {w : World} {g : Nat} {t : TypeId} {v0 v1 v2 v3 v4 v5 v6 v7 v8 v9 v10 v11 v12 : Value} (h : Bk w g t #[v0, v1, v2, v3, v4, v5, v6, v7, v8, v9, v10, v11, v12]) :
    w.cell? ⟨g, 0, none⟩ = some v0 ∧ w.cell? ⟨g, 1, none⟩ = some v1 ∧ w.cell? ⟨g, 2, none⟩ = some v2 ∧ w.cell? ⟨g, 3, none⟩ = some v3 ∧ w.cell? ⟨g, 4, none⟩ = some v4 ∧ w.cell? ⟨g, 5, none⟩ = some v5 ∧ w.cell? ⟨g, 6, none⟩ = some v6 ∧ w.cell? ⟨g, 7, none⟩ = some v7 ∧ w.cell? ⟨g, 8, none⟩ = some v8 ∧ w.cell? ⟨g, 9, none⟩ = some v9 ∧ w.cell? ⟨g, 10, none⟩ = some v10 ∧ w.cell? ⟨g, 11, none⟩ = some v11 ∧ w.cell? ⟨g, 12, none⟩ = some v12 ∧ (∀ i, w.frozen? ⟨g, i, none⟩ = false) :=
  ⟨h.cell 0, h.cell 1, h.cell 2, h.cell 3, h.cell 4, h.cell 5, h.cell 6, h.cell 7, h.cell 8, h.cell 9, h.cell 10, h.cell 11, h.cell 12, h.frozen⟩

theorem bin_z48 (m : Mk) (w : World) : (binOp .eql 48 (.agg #[.int .i64 m.ve, .int .i64 m.mp, .int .u8 (m.b0.toNat : Int), .int .u8 (m.b1.toNat : Int), .int .u8 (m.b2.toNat : Int), .int .u8 (m.i0.toNat : Int), .int .u8 (m.i1.toNat : Int), .int .u8 (m.i2.toNat : Int)]) (.agg #[.int .i64 0, .int .i64 0, .int .u8 0, .int .u8 0, .int .u8 0, .int .u8 0, .int .u8 0, .int .u8 0])).run Try.prog w = .ok (.bool (mkZ m)) w := by
  rw [← mkQ_zero]
  exact bin_eq48 m mk0 w
theorem rule_any (r : Ru) (A : Option Addr) (N c : Nat) (w : World) (hl : Ou w w.heap.size A N r.os) :
    Calls Try.prog 44 #[.agg (ruC r A N c)] w fun e w' => e = .returned (.int .i64 (erB (ruB r))) ∧ Below w.heap.size w w' := by
  have K := Bk.new w 51 (ruC r A N c)
  have hb := (Below.refl w.heap.size w).push (.cells (ruC r A N c) 51)
  have hlw := hl.boxed (.cells (ruC r A N c) 51)
  have hq := bin_z48 r.m
  unfold ruC at K hb hlw ⊢
  have hlen := Lib.hid hl.len
  go_enter Try.func44, Try.ntmps44
  go_upto_region 1 with fail
  generalize w.alloc _ = w1 at K hb hlw ⊢
  obtain ⟨c0, c1, c2, c3, c4, c5, c6, c7, c8, c9, c10, c11, c12, f0⟩ := K.r13
  by_cases hk2 : r.k = 2
  · have e1 : (r.k == 2) = true := by simpa using hk2
    have HR := Lib.hid (show ruB r = (inB r.to 0 6 && inB r.po 0 4 && r.pr == 0 && mkZ r.m && r.os.length == 0) by rw [ruB, if_pos hk2])
    clear hk2
    have hN0 : ((N : Int) == 0) = (r.os.length == 0) := by rw [hlen.out, Bool.eq_iff_iff]; simp
    go_wp2_with (first | (go_at_call_of 85 (Value.int .i64 r.to); refine (owithin r.to 0 6 _).mono ?_; rintro e w2 ⟨rfl, rfl⟩) | (go_at_call_of 85 (Value.int .i64 r.po); refine (owithin r.po 0 4 _).mono ?_; rintro e w2 ⟨rfl, rfl⟩) | (go_at_call 86; refine (oarg _ _).mono ?_; rintro e w2 ⟨rfl, rfl⟩))
    all_goals
      go_ret
      refine ⟨ret_i ?_, hb⟩
      clear c0 c1 c2 c3 c4 c5 c6 c7 c8 c9 c10 c11 c12 f0 hq K hlw
      rw [HR.out]
      simp_all [erB]
  · have e1 : (r.k == 2) = false := by simpa using hk2
    obtain ⟨OA, hOA⟩ : ∃ OA, OA = r.os.all outB4 := ⟨_, rfl⟩
    have HR := Lib.hid (show ruB r = (r.k == 1 && decide (r.os.length ≤ 8) && OA && inB r.pr 0 65535 && r.to == 0 && r.po == 0 && mkB r.m) by rw [ruB, if_neg hk2, hOA])
    have hOC := fun w hl hN => ocontains_any A N c r.os w hl hN
    simp only [← hOA] at hOC
    have hOCh := Lib.hid hOC
    clear hk2 hOA hOC
    rcases Bool.eq_false_or_eq_true (r.k == 1) with hk | hk
    · by_cases hN : N ≤ 8
      · have hN8 : (N : Int) ≤ 8 := by omega
        go_wp2_with fail
        refine (hOCh.out _ hlw (by omega)).mono ?_
        rintro e w2 ⟨rfl, hb2⟩
        have K := K.kept hb2
        have hb := hb.next hb2
        clear c0 c1 c2 c3 c4 c5 c6 c7 c8 c9 c10 c11 c12 f0 hb2 hlw
        obtain ⟨c0, c1, c2, c3, c4, c5, c6, c7, c8, c9, c10, c11, c12, f0⟩ := K.r13
        have MA := fun w => match_any r.m w
        unfold mkC at MA
        have MAh := Lib.hid MA
        clear MA
        have hl8 := Lib.hid (show decide (r.os.length ≤ 8) = true by rw [hlen.out]; simpa using hN)
        rcases OA with _ | _
        all_goals
          go_wp2_with (first | (go_at_call 85; refine (owithin r.pr 0 65535 _).mono ?_; rintro e w2 ⟨rfl, rfl⟩) | (go_at_call 53; refine (MAh.out _).mono ?_; rintro e w3 ⟨rfl, hb3⟩; have hb := hb.next hb3) | (go_at_call 86; refine (oarg _ _).mono ?_; rintro e w2 ⟨rfl, rfl⟩))
        all_goals
          go_ret
          refine ⟨ret_i ?_, hb⟩
          clear c0 c1 c2 c3 c4 c5 c6 c7 c8 c9 c10 c11 c12 f0 K
          rw [HR.out, hl8.out]
          cases mkB r.m <;> simp_all [erB]
      · have hN8 : ¬ (N : Int) ≤ 8 := by omega
        have hl8 := Lib.hid (show decide (r.os.length ≤ 8) = false by rw [hlen.out]; simpa using hN)
        go_wp2_with (first | (go_at_call 86; refine (oarg _ _).mono ?_; rintro e w2 ⟨rfl, rfl⟩))
        all_goals
          go_ret
          refine ⟨ret_i ?_, hb⟩
          rw [HR.out, hl8.out, hk]
          simp
    · go_wp2_with fail
      go_ret
      refine ⟨ret_i ?_, hb⟩
      rw [HR.out, hk]
      simp [erB]
end Go.Proofs.Ytfnnjaljnfphlaa
