/- order.Match and the reference's; '==' of masks. -/
import Derived.Test.YtfnnjaljnfphlaaOdw
import Derived.Test.YtfnnjaljnfphlaaEqs
import Derived.Laws.BitsAllLaws
import Derived.Deep.RegionHeld3
namespace Go.Proofs.Ytfnnjaljnfphlaa
open Go.RowKit
set_option maxRecDepth 100000
set_option maxHeartbeats 4000000
set_option linter.unusedSimpArgs false
set_option linter.unusedVariables false

/-- A mask's cells. -/
def mkC (m : Mk) : Array Value := #[.int .i64 m.ve, .int .i64 m.mp, .int .u8 (m.b0.toNat : Int), .int .u8 (m.b1.toNat : Int), .int .u8 (m.b2.toNat : Int), .int .u8 (m.i0.toNat : Int), .int .u8 (m.i1.toNat : Int), .int .u8 (m.i2.toNat : Int)]
theorem andN (i b : UInt8) : bits BinOp.andNot IntKind.u8 (i.toNat : Int) (b.toNat : Int) = ((i &&& ~~~b).toNat : Int) := by
  have hi := byte_lt i
  have hb := byte_lt b
  rw [u8_andNot_nat _ _ hi hb]
  congr 1
  rw [UInt8.toNat_and, UInt8.toNat_not]
  rfl
theorem andN_ne (i b : UInt8) : (bits BinOp.andNot IntKind.u8 (i.toNat : Int) (b.toNat : Int) != 0) = !byB i b := by
  rw [andN, byB, Bool.eq_iff_iff]
  simp only [bne_iff_ne, ne_eq, Bool.not_eq_true', beq_eq_false_iff_ne, ← UInt8.toNat_inj]
  simp
theorem andN_eq (i b : UInt8) : (bits BinOp.andNot IntKind.u8 (i.toNat : Int) (b.toNat : Int) == 0) = byB i b := by
  have := andN_ne i b
  rw [bne] at this
  simpa using this
theorem Bk.m8 {w : World} {g : Nat} {t : TypeId} {v0 v1 v2 v3 v4 v5 v6 v7 : Value} (h : Bk w g t #[v0, v1, v2, v3, v4, v5, v6, v7]) : w.cell? ⟨g, 0, none⟩ = some v0 ∧ w.cell? ⟨g, 1, none⟩ = some v1 ∧ w.cell? ⟨g, 2, none⟩ = some v2 ∧ w.cell? ⟨g, 3, none⟩ = some v3 ∧ w.cell? ⟨g, 4, none⟩ = some v4 ∧ w.cell? ⟨g, 5, none⟩ = some v5 ∧ w.cell? ⟨g, 6, none⟩ = some v6 ∧ w.cell? ⟨g, 7, none⟩ = some v7 ∧ (∀ i, w.frozen? ⟨g, i, none⟩ = false) :=
  ⟨h.cell 0, h.cell 1, h.cell 2, h.cell 3, h.cell 4, h.cell 5, h.cell 6, h.cell 7, h.frozen⟩

theorem match_any (m : Mk) (w : World) : Calls Try.prog 53 #[.agg (mkC m)] w fun e w' => e = .returned (.int .i64 (erB (mkB m))) ∧ Below w.heap.size w w' := by
  have K := Bk.new w 48 (mkC m)
  have hb := (Below.refl w.heap.size w).push (.cells (mkC m) 48)
  unfold mkC at K hb ⊢
  have i0 : ∀ w, (Instr.index 46 (.agg #[.int .u8 (m.i0.toNat : Int), .int .u8 (m.i1.toNat : Int), .int .u8 (m.i2.toNat : Int)]) (.int .i64 0)).run Try.prog w = .ok (.int .u8 (m.i0.toNat : Int)) w := fun _ => by kernel_rfl
  have i1 : ∀ w, (Instr.index 46 (.agg #[.int .u8 (m.i0.toNat : Int), .int .u8 (m.i1.toNat : Int), .int .u8 (m.i2.toNat : Int)]) (.int .i64 1)).run Try.prog w = .ok (.int .u8 (m.i1.toNat : Int)) w := fun _ => by kernel_rfl
  have i2 : ∀ w, (Instr.index 46 (.agg #[.int .u8 (m.i0.toNat : Int), .int .u8 (m.i1.toNat : Int), .int .u8 (m.i2.toNat : Int)]) (.int .i64 2)).run Try.prog w = .ok (.int .u8 (m.i2.toNat : Int)) w := fun _ => by kernel_rfl
  go_enter Try.func53, Try.ntmps53
  go_upto_region 1 with fail
  generalize w.alloc _ = w1 at K hb ⊢
  obtain ⟨c0, c1, c2, c3, c4, c5, c6, c7, f0⟩ := K.m8
  go_wp2_with fail
  go_loopw [7] (fun i wr => ∃ k : Nat, k ≤ 3 ∧ i = .int .i64 k ∧ wr = w1 ∧ Hid ((0 < k → byB m.i0 m.b0 = true) ∧ (1 < k → byB m.i1 m.b1 = true) ∧ (2 < k → byB m.i2 m.b2 = true))) (fun i _ => 3 - (intOf i).toNat)
  case atStart => exact ⟨0, by omega, rfl, rfl, ⟨fun h => by omega, fun h => by omega, fun h => by omega⟩⟩
  case round =>
    obtain ⟨k, hk, rfl, rfl, H⟩ := hrel
    obtain rfl | rfl | rfl | rfl : k = 0 ∨ k = 1 ∨ k = 2 ∨ k = 3 := by omega
    · rcases Bool.eq_false_or_eq_true (byB m.i0 m.b0) with ha | ha
      · have hx := andN_ne m.i0 m.b0
        rw [ha, Bool.not_true] at hx
        go_wp2_with fail
        go_roundw
        case rel => exact ⟨1, by omega, by go_num, trivial, ⟨fun _ => ha, fun h => by omega, fun h => by omega⟩⟩
        case measure => simp [intOf]
      · have hx := andN_ne m.i0 m.b0
        rw [ha, Bool.not_false] at hx
        go_wp2_with fail
        go_ret
        exact ⟨ret_i (by simp [mkB, ha, erB]), hb⟩
    · rcases Bool.eq_false_or_eq_true (byB m.i1 m.b1) with ha | ha
      · have hx := andN_ne m.i1 m.b1
        rw [ha, Bool.not_true] at hx
        go_wp2_with fail
        go_roundw
        case rel => exact ⟨2, by omega, by go_num, trivial, ⟨fun _ => H.out.1 (by omega), fun _ => ha, fun h => by omega⟩⟩
        case measure => simp [intOf]
      · have hx := andN_ne m.i1 m.b1
        rw [ha, Bool.not_false] at hx
        go_wp2_with fail
        go_ret
        exact ⟨ret_i (by simp [mkB, ha, erB]), hb⟩
    · rcases Bool.eq_false_or_eq_true (byB m.i2 m.b2) with ha | ha
      · have hx := andN_ne m.i2 m.b2
        rw [ha, Bool.not_true] at hx
        go_wp2_with fail
        go_roundw
        case rel => exact ⟨3, by omega, by go_num, trivial, ⟨fun _ => H.out.1 (by omega), fun _ => H.out.2.1 (by omega), fun _ => ha⟩⟩
        case measure => simp [intOf]
      · have hx := andN_ne m.i2 m.b2
        rw [ha, Bool.not_false] at hx
        go_wp2_with fail
        go_ret
        exact ⟨ret_i (by simp [mkB, ha, erB]), hb⟩
    · rcases Bool.eq_false_or_eq_true (inB m.ve 0 200) with ha | ha
      all_goals
        go_wp2_with (first | (go_at_call_of 85 (Value.int .i64 m.ve); refine (owithin m.ve 0 200 _).mono ?_; rintro e w2 ⟨rfl, rfl⟩; simp only [ha]) | (go_at_call_of 85 (Value.int .i64 m.mp); refine (owithin m.mp (-1) 4 _).mono ?_; rintro e w2 ⟨rfl, rfl⟩) | (go_at_call 86; refine (oarg _ _).mono ?_; rintro e w2 ⟨rfl, rfl⟩))
        go_ret
        exact ⟨ret_i (by simp [mkB, ha, H.out.1, H.out.2.1, H.out.2.2]), hb⟩

theorem rmatch_any (m : Mk) (w : World) : Calls Try.prog 54 #[.agg (mkC m)] w fun e w' => e = .returned (.int .i64 (erB (mkB m))) ∧ Below w.heap.size w w' := by
  have K := Bk.new w 48 (mkC m)
  have hb := (Below.refl w.heap.size w).push (.cells (mkC m) 48)
  unfold mkC at K hb ⊢
  obtain ⟨S, hS⟩ : ∃ S, S = (inB m.ve 0 200 && inB m.mp (-1) 4) := ⟨_, rfl⟩
  have HS := Lib.hid hS
  clear hS
  go_enter Try.func54, Try.ntmps54
  go_upto_region 1 with fail
  generalize w.alloc _ = w1 at K hb ⊢
  obtain ⟨c0, c1, c2, c3, c4, c5, c6, c7, f0⟩ := K.m8
  go_cut [3] from 5 to 12 (fun s3 wx => s3 = .bool S ∧ wx = w1)
  case first =>
    rcases Bool.eq_false_or_eq_true (inB m.ve 0 200) with ha | ha
    all_goals
      go_wp2_with (first | (go_at_call_of 101 (Value.int .i64 m.ve); refine (orwithin m.ve 0 200 _).mono ?_; rintro e w2 ⟨rfl, rfl⟩; simp only [ha]) | (go_at_call_of 101 (Value.int .i64 m.mp); refine (orwithin m.mp (-1) 4 _).mono ?_; rintro e w2 ⟨rfl, rfl⟩))
      go_meet
      exact ⟨by rw [HS.out]; simp [ha], rfl⟩
  case rest =>
    obtain ⟨rfl, rfl⟩ := hcut
    go_wp2_with fail
    go_loopw [3, 4] (fun s i wr => ∃ (k : Nat) (Q : Bool), k ≤ 3 ∧ i = .int .i64 k ∧ s = .bool Q ∧ Below w.heap.size w wr ∧ Bk wr w.heap.size 48 #[.int .i64 m.ve, .int .i64 m.mp, .int .u8 (m.b0.toNat : Int), .int .u8 (m.b1.toNat : Int), .int .u8 (m.b2.toNat : Int), .int .u8 (m.i0.toNat : Int), .int .u8 (m.i1.toNat : Int), .int .u8 (m.i2.toNat : Int)] ∧ Hid (Q = (S && (decide (k ≤ 0) || byB m.i0 m.b0) && (decide (k ≤ 1) || byB m.i1 m.b1) && (decide (k ≤ 2) || byB m.i2 m.b2)))) (fun _ i _ => 3 - (intOf i).toNat)
    case atStart => exact ⟨0, S, by omega, rfl, rfl, hb, K, by show _ = _; simp⟩
    case round =>
      clear hb K c0 c1 c2 c3 c4 c5 c6 c7 f0
      obtain ⟨k, Q, hk, rfl, rfl, hb, K, H⟩ := hrel
      obtain ⟨c0, c1, c2, c3, c4, c5, c6, c7, f0⟩ := K.m8
      obtain rfl | rfl | rfl | rfl : k = 0 ∨ k = 1 ∨ k = 2 ∨ k = 3 := by omega
      · rcases Q with _ | _
        · go_wp2_with fail
          first | (go_quiet (fail)) | fail
          go_wp2_with fail
          go_roundw
          case rel => exact ⟨1, false, by omega, by go_num, rfl, below_drewN hb _, K.drewN _, by have := H.out; simp at this; show _ = _; simp_all⟩
          case measure => simp [intOf]
        · have hx := andN_eq m.i0 m.b0
          go_wp2_with fail
          first | (go_quiet (fail)) | fail
          go_wp2_with fail
          go_roundw
          case rel => exact ⟨1, byB m.i0 m.b0, by omega, by go_num, rfl, below_drewN hb _, K.drewN _, by have := H.out; simp at this; show _ = _; simp_all⟩
          case measure => simp [intOf]
      · rcases Q with _ | _
        · go_wp2_with fail
          first | (go_quiet (fail)) | fail
          go_wp2_with fail
          go_roundw
          case rel => exact ⟨2, false, by omega, by go_num, rfl, below_drewN hb _, K.drewN _, by have := H.out; simp at this; show _ = _; simp_all⟩
          case measure => simp [intOf]
        · have hx := andN_eq m.i1 m.b1
          go_wp2_with fail
          first | (go_quiet (fail)) | fail
          go_wp2_with fail
          go_roundw
          case rel => exact ⟨2, byB m.i1 m.b1, by omega, by go_num, rfl, below_drewN hb _, K.drewN _, by have := H.out; simp at this; show _ = _; simp_all⟩
          case measure => simp [intOf]
      · rcases Q with _ | _
        · go_wp2_with fail
          first | (go_quiet (fail)) | fail
          go_wp2_with fail
          go_roundw
          case rel => exact ⟨3, false, by omega, by go_num, rfl, below_drewN hb _, K.drewN _, by have := H.out; simp at this; show _ = _; simp_all⟩
          case measure => simp [intOf]
        · have hx := andN_eq m.i2 m.b2
          go_wp2_with fail
          first | (go_quiet (fail)) | fail
          go_wp2_with fail
          go_roundw
          case rel => exact ⟨3, byB m.i2 m.b2, by omega, by go_num, rfl, below_drewN hb _, K.drewN _, by have := H.out; simp at this; show _ = _; simp_all⟩
          case measure => simp [intOf]
      · have HQ := H.out
        simp at HQ
        have hm := Lib.hid (show mkB m = Q by rw [HQ, HS.out]; rfl)
        clear HQ
        go_wp2_with (go_at_call 100; refine (ois _ _).mono ?_; rintro e w2 ⟨rfl, rfl⟩)
        go_ret
        exact ⟨ret_i (by rw [hm.out]), hb⟩

theorem hdrQ (d : Nat) (a b c a' b' c' : Int) (w : World) : (Op.equalIn (d + 2) 46 (.agg #[.int .u8 a, .int .u8 b, .int .u8 c]) (.agg #[.int .u8 a', .int .u8 b', .int .u8 c'])).run Try.prog w = .ok (a == a' && (b == b' && (c == c' && true))) w := by
  obtain ⟨i, hi⟩ := info_of_underlying Try.underlying5
  rw [show d + 2 = (d + 1) + 1 from rfl, run_equalIn_array w (d + 1) _ _ Try.underlying46 hi]
  have hc : Try.prog.cellsOf 5 = 1 := by kernel_rfl
  rw [hc]
  exact item_cons (partU _ 0 _ _ rfl) (partU _ 0 _ _ rfl) (eqU d a a' w) (item_cons (partU _ 1 _ _ rfl) (partU _ 1 _ _ rfl) (eqU d b b' w) (item_cons (partU _ 2 _ _ rfl) (partU _ 2 _ _ rfl) (eqU d c c' w) item_nil))
theorem part46 (xs : Array Value) (i : Nat) (w : World) (x y z : Value) (h : xs.extract i (i + 3) = #[x, y, z]) : (part 46 xs i).run Try.prog w = .ok (.agg #[x, y, z]) w := by
  have hc : (isAgg 46).run Try.prog w = .ok true w := by kernel_rfl
  have hs : (sizeOf 46).run Try.prog w = .ok 3 w := by kernel_rfl
  unfold part
  simp only [Sem.run_bind, hc, Result.andThen_ok, if_true, hs, h, Sem.run_pure]
def mkQ (m n : Mk) : Bool := m.ve == n.ve && (m.mp == n.mp && (((m.b0.toNat : Int) == (n.b0.toNat : Int) && ((m.b1.toNat : Int) == (n.b1.toNat : Int) && ((m.b2.toNat : Int) == (n.b2.toNat : Int) && true))) && (((m.i0.toNat : Int) == (n.i0.toNat : Int) && ((m.i1.toNat : Int) == (n.i1.toNat : Int) && ((m.i2.toNat : Int) == (n.i2.toNat : Int) && true))) && true)))
theorem u8q (a b : UInt8) : ((a.toNat : Int) == (b.toNat : Int)) = (a == b) := by
  rw [Bool.eq_iff_iff]
  simp [← UInt8.toNat_inj]
  omega
theorem mkQ_self (m : Mk) : mkQ m m = true := by simp [mkQ]
theorem mkQ_iff {m n : Mk} : mkQ m n = true ↔ m = n := by
  obtain ⟨a, b, c, d, e, f, g, h⟩ := m
  obtain ⟨a', b', c', d', e', f', g', h'⟩ := n
  simp only [mkQ, u8q, Bool.and_eq_true, beq_iff_eq, and_true, Mk.mk.injEq]
  constructor
  · rintro ⟨h1, h2, ⟨h3, h4, h5⟩, h6, h7, h8⟩
    exact ⟨h1, h2, h3, h4, h5, h6, h7, h8⟩
  · rintro ⟨h1, h2, h3, h4, h5, h6, h7, h8⟩
    exact ⟨h1, h2, ⟨h3, h4, h5⟩, h6, h7, h8⟩
theorem mkQ_zero (m : Mk) : mkQ m mk0 = mkZ m := by
  unfold mkQ mkZ
  simp only [mk0, u8q]
theorem mkZ_iff {m : Mk} : mkZ m = true ↔ m = mk0 := by rw [← mkQ_zero, mkQ_iff]
theorem eq48 (m n : Mk) (w : World) : (Op.equalIn 10000 48 (.agg (mkC m)) (.agg (mkC n))).run Try.prog w = .ok (mkQ m n) w := by
  unfold mkC
  rw [show (10000 : Nat) = 9999 + 1 from rfl, run_equalIn_struct w 9999 48 _ _ (by kernel_rfl) (by kernel_rfl)]
  unfold Program.fieldsOf
  rw [Try.underlying48]
  exact fld_cons (by decide) (partI _ 0 _ _ rfl) (partI _ 0 _ _ rfl) (eqI 9998 _ _ _) (fld_cons (by decide) (partI _ 1 _ _ rfl) (partI _ 1 _ _ rfl) (eqI 9998 _ _ _) (fld_cons (by decide) (part46 _ 2 _ _ _ _ rfl) (part46 _ 2 _ _ _ _ rfl) (hdrQ 9997 _ _ _ _ _ _ _) (fld_cons (by decide) (part46 _ 5 _ _ _ _ rfl) (part46 _ 5 _ _ _ _ rfl) (hdrQ 9997 _ _ _ _ _ _ _) fld_nil)))
theorem bin_eq48 (m n : Mk) (w : World) : (binOp .eql 48 (.agg (mkC m)) (.agg (mkC n))).run Try.prog w = .ok (.bool (mkQ m n)) w := by
  have := eq48 m n w
  simp [binOp, Op.equal, Op.maxDepth, this]
theorem bin_ne48 (m n : Mk) (w : World) : (binOp .neq 48 (.agg (mkC m)) (.agg (mkC n))).run Try.prog w = .ok (.bool (!mkQ m n)) w := by
  have := eq48 m n w
  simp [binOp, Op.equal, Op.maxDepth, this]
end Go.Proofs.Ytfnnjaljnfphlaa
