/- The helper of the statements on orders: ruled: some rule that may be. -/
import Derived.Test.YtfnnjaljnfphlaaSms
import Derived.Test.YtfnnjaljnfphlaaOpo
import Derived.Test.YtfnnjaljnfphlaaSgm
import Derived.Laws.BitsAllLaws
import Derived.Laws.CopyOwn
namespace Go.Proofs.Ytfnnjaljnfphlaa
open Go.RowKit
set_option maxRecDepth 100000
set_option maxHeartbeats 8000000
set_option linter.unusedSimpArgs false
set_option linter.unusedVariables false

def RI (r : Ru) : Prop := I64 r.k ∧ I64 r.pr ∧ I64 r.to ∧ I64 r.po ∧ (I64 r.m.ve ∧ I64 r.m.mp) ∧ ∀ x ∈ r.os, I4 x
def RdQ (w : World) (e : Ending) (w' : World) : Prop := ∃ r A L c, e = .returned (.agg (ruC r A L c)) ∧ ruB r = true ∧ w'.ownsRow w.heap.size 65 4 (.slice A L c) L (r.os.flatMap outC) ∧ Below w.heap.size w w'
theorem andU (i b : UInt8) : bits BinOp.and IntKind.u8 (i.toNat : Int) (b.toNat : Int) = ((i &&& b).toNat : Int) := by
  have hi := byte_lt i
  have hb := byte_lt b
  rw [u8_and_nat _ _ hi hb, UInt8.toNat_and]
theorem byB_and (i b : UInt8) : byB (i &&& b) b = true := by
  unfold byB
  rw [beq_iff_eq]
  apply UInt8.toBitVec_inj.1
  ext j
  simp
theorem wrap_m (x : Int) : IntKind.i64.wrap (x % 6 - 1) = x % 6 - 1 := IntWalk.i64_in _ (by omega)
theorem wrap_s (x : Int) : IntKind.i64.wrap (x % 257 - 1) = x % 257 - 1 := IntWalk.i64_in _ (by omega)
theorem info65 : (Try.prog.info? 65).map (fun i => (i.zero, i.size, i.bytes)) = some (some (.agg #[.int .i64 0, .int .i64 0, .int .i64 0, .int .i64 0]), 4, 32) := by kernel_rfl
theorem own_heap {w w' : World} {b : Nat} {e : TypeId} {s n : Nat} {v : Value} {xs : List Value} (h : w.ownsRow b e s v n xs) (hk : ∀ g, b ≤ g → g < w.heap.size → w'.heap[g]? = w.heap[g]?) : w'.ownsRow b e s v n xs := by
  refine ⟨h.1, ?_⟩
  rcases h.2 with h2 | ⟨g, cap, cur, hv, hg, hh, r⟩
  · exact .inl h2
  · exact .inr ⟨g, cap, cur, hv, hg, (hk g hg (Array.getElem?_eq_some_iff.1 hh).1).trans hh, r⟩
theorem own_below {w w' : World} {b : Nat} {e : TypeId} {s n : Nat} {v : Value} {xs : List Value} (h : w.ownsRow b e s v n xs) (hb : Below w.heap.size w w') : w'.ownsRow b e s v n xs :=
  own_heap h fun g _ hg => hb.block g hg
theorem ruC_one' (r : Ru) (A : Option Addr) (L c : Nat) : (ruC r A L c).all (·.oneCell') = true := by
  rw [Array.all_eq_true_iff_forall_mem]
  intro v hv
  simp only [ruC, List.mem_toArray, List.mem_cons, List.not_mem_nil, or_false] at hv
  rcases hv with rfl | rfl | rfl | rfl | rfl | rfl | rfl | rfl | rfl | rfl | rfl | rfl | rfl <;> rfl
theorem st51 {w : World} {b : Nat} {old : Array Value} (h : Bk w b 51 old) (hs : old.size = 13) (r : Ru) (A : Option Addr) (L c : Nat) :
    (Instr.storeAt 51 (.pointer (some ⟨b, 0, none⟩)) (.agg (ruC r A L c))).run Try.prog w = .ok () (w.setRow b (ruC r A L c)) := by
  simp only [Instr.storeAt, Instr.sureAddr, Sem.run_bind, Sem.run_pure, Result.andThen_ok, run_storeVar_row w b 51 51 old (ruC r A L c) h info51 hs (ruC_one' r A L c)]
theorem results_51 {fn : Func} (h : fn.results = #[.cell 2 51]) (tmps : Array Value) (w : World) {b : Nat} {cs : Array Value} (hp : tmps.getD 2 undef = .pointer (some ⟨b, 0, none⟩)) (hB : Bk w b 51 cs) (hs : cs.size = 13) :
    (results fn tmps).run Try.prog w = .ok (.agg cs) w := by
  have hl := run_loadVar_mid (P := Try.prog) w b 0 51 cs.toList _ hB.range Try.underlying51 rfl (by simp [info51, hs])
  have hp' : tmps[2]?.getD undef = .pointer (some ⟨b, 0, none⟩) := by simpa using hp
  simp [results, h, hp', asAddr, hl]
theorem Bk.set8 {w : World} {g : Nat} {t : TypeId} {v0 v1 v2 v3 v4 v5 v6 v7 v8 v9 v10 v11 v12 : Value} (h : Bk w g t #[v0, v1, v2, v3, v4, v5, v6, v7, v8, v9, v10, v11, v12]) (u4 u5 u6 u7 u8 u9 u10 u11 : Value) :
    Bk ((((((((w.setCell ⟨g, 4, none⟩ u4).setCell ⟨g, 5, none⟩ u5).setCell ⟨g, 6, none⟩ u6).setCell ⟨g, 7, none⟩ u7).setCell ⟨g, 8, none⟩ u8).setCell ⟨g, 9, none⟩ u9).setCell ⟨g, 10, none⟩ u10).setCell ⟨g, 11, none⟩ u11) g t #[v0, v1, v2, v3, u4, u5, u6, u7, u8, u9, u10, u11, v12] := by
  have := (((((((h.set_ 4 u4).set_ 5 u5).set_ 6 u6).set_ 7 u7).set_ 8 u8).set_ 9 u9).set_ 10 u10).set_ 11 u11
  simpa using this
theorem Bk.cellv {w : World} {g : Nat} {t : TypeId} {cs : Array Value} (h : Bk w g t cs) {i : Nat} {v : Value} (hv : cs[i]? = some v) : w.cell? ⟨g, i, none⟩ = some v := (h.cell i).trans hv
theorem Bk.far8 {w : World} {g k : Nat} {t : TypeId} {cs : Array Value} (h : Bk w g t cs) (hk : g ≠ k) (u4 u5 u6 u7 u8 u9 u10 u11 : Value) :
    Bk ((((((((w.setCell ⟨k, 4, none⟩ u4).setCell ⟨k, 5, none⟩ u5).setCell ⟨k, 6, none⟩ u6).setCell ⟨k, 7, none⟩ u7).setCell ⟨k, 8, none⟩ u8).setCell ⟨k, 9, none⟩ u9).setCell ⟨k, 10, none⟩ u10).setCell ⟨k, 11, none⟩ u11) g t cs :=
  (((((((h.far (p := ⟨k, 4, none⟩) hk u4).far (p := ⟨k, 5, none⟩) hk u5).far (p := ⟨k, 6, none⟩) hk u6).far (p := ⟨k, 7, none⟩) hk u7).far (p := ⟨k, 8, none⟩) hk u8).far (p := ⟨k, 9, none⟩) hk u9).far (p := ⟨k, 10, none⟩) hk u10).far (p := ⟨k, 11, none⟩) hk u11
theorem Bk.far8c {w : World} {g k : Nat} {t : TypeId} {cs : Array Value} (h : Bk w g t cs) (hk : g ≠ k) {i : Nat} {v : Value} (hv : cs[i]? = some v) {u4 u5 u6 u7 u8 u9 u10 u11 : Value} :
    ((((((((w.setCell ⟨k, 4, none⟩ u4).setCell ⟨k, 5, none⟩ u5).setCell ⟨k, 6, none⟩ u6).setCell ⟨k, 7, none⟩ u7).setCell ⟨k, 8, none⟩ u8).setCell ⟨k, 9, none⟩ u9).setCell ⟨k, 10, none⟩ u10).setCell ⟨k, 11, none⟩ u11).drew.cell? ⟨g, i, none⟩ = some v := ((h.far8 hk _ _ _ _ _ _ _ _).drew.cell i).trans hv
theorem below8 {w0 w : World} {B k : Nat} (h : Below B w0 w) (hk : B ≤ k) (u4 u5 u6 u7 u8 u9 u10 u11 : Value) :
    Below B w0 ((((((((w.setCell ⟨k, 4, none⟩ u4).setCell ⟨k, 5, none⟩ u5).setCell ⟨k, 6, none⟩ u6).setCell ⟨k, 7, none⟩ u7).setCell ⟨k, 8, none⟩ u8).setCell ⟨k, 9, none⟩ u9).setCell ⟨k, 10, none⟩ u10).setCell ⟨k, 11, none⟩ u11) :=
  (((((((h.setCell (p := ⟨k, 4, none⟩) hk u4).setCell (p := ⟨k, 5, none⟩) hk u5).setCell (p := ⟨k, 6, none⟩) hk u6).setCell (p := ⟨k, 7, none⟩) hk u7).setCell (p := ⟨k, 8, none⟩) hk u8).setCell (p := ⟨k, 9, none⟩) hk u9).setCell (p := ⟨k, 10, none⟩) hk u10).setCell (p := ⟨k, 11, none⟩) hk u11
theorem drew_heap (w : World) : w.drew.heap = w.heap := rfl
theorem size8 {w : World} {k : Nat} (u4 u5 u6 u7 u8 u9 u10 u11 : Value) :
    ((((((((w.setCell ⟨k, 4, none⟩ u4).setCell ⟨k, 5, none⟩ u5).setCell ⟨k, 6, none⟩ u6).setCell ⟨k, 7, none⟩ u7).setCell ⟨k, 8, none⟩ u8).setCell ⟨k, 9, none⟩ u9).setCell ⟨k, 10, none⟩ u10).setCell ⟨k, 11, none⟩ u11).drew.heap.size = w.heap.size := by
  rw [drew_heap]
  simp
theorem own_far {w : World} {base n : Nat} {e : TypeId} {size : Nat} {v : Value} {xs : List Value} (h : w.ownsRow base e size v n xs) {g : Nat} (hg : g < base) : some g ≠ v.ownBlock := by
  rcases h.2 with ⟨hv, _⟩ | ⟨g', cap, cur, hv, hb, _⟩
  · subst hv; simp [Value.ownBlock]
  · subst hv; simp [Value.ownBlock]; omega
def RS (n n2 n3 : Nat) (r r' : Ru) (A A' : Option Addr) (N c L' c' : Nat) (w0 wr : World) : Prop :=
  Bk wr n 51 (ruC r A N c) ∧ Bk wr n2 51 (ruC ru0 none 0 0) ∧ Bk wr n3 51 (ruC r' A' L' c') ∧ wr.ownsRow (n3 + 1) 65 4 (.slice A' L' c') L' (r'.os.flatMap outC) ∧ Below n w0 wr ∧ n3 < wr.heap.size
theorem ruled_any (r : Ru) (A : Option Addr) (N c : Nat) (w : World) (hI : RI r) (hl : Ou w w.heap.size A N r.os) :
    Calls Try.prog 77 #[.agg (ruC r A N c)] w (RdQ w) := by
  obtain ⟨y1, y2, y3, y4, ⟨y5, y6⟩, y7⟩ := hI
  unfold I64 at y1 y2 y3 y4 y5 y6
  have K := Bk.new w 51 (ruC r A N c)
  have hpar : (r.k.tmod 2 == 0) = true ∨ (r.k.tmod 2 == 0) = false := by cases (r.k.tmod 2 == 0) <;> simp
  have hb := (Below.refl w.heap.size w).push (.cells (ruC r A N c) 51)
  have hlw := hl.alloc (Nat.le_refl _) (.cells (ruC r A N c) 51)
  have hsz : (w.alloc (.cells (ruC r A N c) 51)).heap.size = w.heap.size + 1 := World.size_alloc _ _
  unfold ruC at K hb hlw hsz ⊢
  go_enter Try.func77, Try.ntmps77
  rcases hpar with hpar | hpar
  · go_upto_region 1 with fail
    generalize w.alloc _ = w1 at K hb hlw hsz ⊢
    have KA := K.alloc (.cells (ruC ru0 none 0 0) 51)
    have hb2 := hb.push (.cells (ruC ru0 none 0 0) 51)
    obtain ⟨c0, c1, c2, c3, c4, c5, c6, c7, c8, c9, c10, c11, c12, f0⟩ := K.r13
    go_wp2_with fail
    have d2 : (w1.alloc (.cells #[.int .i64 0, .int .i64 0, .int .i64 0, .int .i64 0, .int .i64 0, .int .i64 0, .int .u8 0, .int .u8 0, .int .u8 0, .int .u8 0, .int .u8 0, .int .u8 0, .slice none 0 0] 51)).cell? ⟨w.heap.size, 2, none⟩ = some (.int .i64 r.to) := (K.alloc _).cell 2
    have d3 : (w1.alloc (.cells #[.int .i64 0, .int .i64 0, .int .i64 0, .int .i64 0, .int .i64 0, .int .i64 0, .int .u8 0, .int .u8 0, .int .u8 0, .int .u8 0, .int .u8 0, .int .u8 0, .slice none 0 0] 51)).cell? ⟨w.heap.size, 3, none⟩ = some (.int .i64 r.po) := (K.alloc _).cell 3
    go_region_held3 (fun w' => w'.cell? ⟨w.heap.size, 2, none⟩ = some (.int .i64 r.to) ∧ w'.cell? ⟨w.heap.size, 3, none⟩ = some (.int .i64 r.po)) (first | exact ⟨d2, d3⟩ | exact ⟨(K.alloc _).drew.cell 2, (K.alloc _).drew.cell 3⟩) (first | (go_at_call 20; refine (bring_any _ _ _ (by omega) (by omega) (by omega) (by omega)).mono ?_; rintro e w1 ⟨rfl, rfl⟩))
    all_goals
      go_wp2_with fail
      have KF := (Bk.newAt' (w := w1) 51 (ruC ⟨2, 0, r.to % 7, r.po % 5, mk0, []⟩ none 0 0) hsz).drew
      refine bodyPost_ret (results_51 rfl _ _ rfl KF rfl) rfl ?_
      exact ⟨⟨2, 0, r.to % 7, r.po % 5, mk0, []⟩, none, 0, 0, rfl, by simp [ruB, inB_iff, mkZ, mk0]; omega, World.ownsRow_nil _ _ _ _, (hb.push _).drew⟩
  · go_upto_region 1 with fail
    generalize w.alloc _ = w1 at K hb hlw hsz ⊢
    obtain ⟨c0, c1, c2, c3, c4, c5, c6, c7, c8, c9, c10, c11, c12, f0⟩ := K.r13
    have KW : Bk ((w1.alloc (.cells #[.int .i64 0, .int .i64 0, .int .i64 0, .int .i64 0, .int .i64 0, .int .i64 0, .int .u8 0, .int .u8 0, .int .u8 0, .int .u8 0, .int .u8 0, .int .u8 0, .slice none 0 0] 51)).alloc (.cells #[.int .i64 1, .int .i64 (r.pr % 65536), .int .i64 0, .int .i64 0, .int .i64 0, .int .i64 0, .int .u8 0, .int .u8 0, .int .u8 0, .int .u8 0, .int .u8 0, .int .u8 0, .slice none 0 0] 51)) w.heap.size 51 #[.int .i64 r.k, .int .i64 r.pr, .int .i64 r.to, .int .i64 r.po, .int .i64 r.m.ve, .int .i64 r.m.mp, .int .u8 (r.m.b0.toNat : Int), .int .u8 (r.m.b1.toNat : Int), .int .u8 (r.m.b2.toNat : Int), .int .u8 (r.m.i0.toNat : Int), .int .u8 (r.m.i1.toNat : Int), .int .u8 (r.m.i2.toNat : Int), .slice A N c] := (K.alloc _).alloc _
    have KZ : Bk ((w1.alloc (.cells #[.int .i64 0, .int .i64 0, .int .i64 0, .int .i64 0, .int .i64 0, .int .i64 0, .int .u8 0, .int .u8 0, .int .u8 0, .int .u8 0, .int .u8 0, .int .u8 0, .slice none 0 0] 51)).alloc (.cells #[.int .i64 1, .int .i64 (r.pr % 65536), .int .i64 0, .int .i64 0, .int .i64 0, .int .i64 0, .int .u8 0, .int .u8 0, .int .u8 0, .int .u8 0, .int .u8 0, .int .u8 0, .slice none 0 0] 51)) (w.heap.size + 1) 51 #[.int .i64 0, .int .i64 0, .int .i64 0, .int .i64 0, .int .i64 0, .int .i64 0, .int .u8 0, .int .u8 0, .int .u8 0, .int .u8 0, .int .u8 0, .int .u8 0, .slice none 0 0] := (Bk.newAt' (w := w1) 51 #[.int .i64 0, .int .i64 0, .int .i64 0, .int .i64 0, .int .i64 0, .int .i64 0, .int .u8 0, .int .u8 0, .int .u8 0, .int .u8 0, .int .u8 0, .int .u8 0, .slice none 0 0] hsz).alloc _
    have hsz2 : (w1.alloc (.cells #[.int .i64 0, .int .i64 0, .int .i64 0, .int .i64 0, .int .i64 0, .int .i64 0, .int .u8 0, .int .u8 0, .int .u8 0, .int .u8 0, .int .u8 0, .int .u8 0, .slice none 0 0] 51)).heap.size = w.heap.size + 1 + 1 := by rw [World.size_alloc, hsz]
    have KC : Bk ((w1.alloc (.cells #[.int .i64 0, .int .i64 0, .int .i64 0, .int .i64 0, .int .i64 0, .int .i64 0, .int .u8 0, .int .u8 0, .int .u8 0, .int .u8 0, .int .u8 0, .int .u8 0, .slice none 0 0] 51)).alloc (.cells #[.int .i64 1, .int .i64 (r.pr % 65536), .int .i64 0, .int .i64 0, .int .i64 0, .int .i64 0, .int .u8 0, .int .u8 0, .int .u8 0, .int .u8 0, .int .u8 0, .int .u8 0, .slice none 0 0] 51)) (w.heap.size + 1 + 1) 51 #[.int .i64 1, .int .i64 (r.pr % 65536), .int .i64 0, .int .i64 0, .int .i64 0, .int .i64 0, .int .u8 0, .int .u8 0, .int .u8 0, .int .u8 0, .int .u8 0, .int .u8 0, .slice none 0 0] := Bk.newAt' (w := w1.alloc (.cells #[.int .i64 0, .int .i64 0, .int .i64 0, .int .i64 0, .int .i64 0, .int .i64 0, .int .u8 0, .int .u8 0, .int .u8 0, .int .u8 0, .int .u8 0, .int .u8 0, .slice none 0 0] 51)) 51 #[.int .i64 1, .int .i64 (r.pr % 65536), .int .i64 0, .int .i64 0, .int .i64 0, .int .i64 0, .int .u8 0, .int .u8 0, .int .u8 0, .int .u8 0, .int .u8 0, .int .u8 0, .slice none 0 0] hsz2
    have hbc : Below w.heap.size w ((w1.alloc (.cells #[.int .i64 0, .int .i64 0, .int .i64 0, .int .i64 0, .int .i64 0, .int .i64 0, .int .u8 0, .int .u8 0, .int .u8 0, .int .u8 0, .int .u8 0, .int .u8 0, .slice none 0 0] 51)).alloc (.cells #[.int .i64 1, .int .i64 (r.pr % 65536), .int .i64 0, .int .i64 0, .int .i64 0, .int .i64 0, .int .u8 0, .int .u8 0, .int .u8 0, .int .u8 0, .int .u8 0, .int .u8 0, .slice none 0 0] 51)) := (hb.push _).push _
    have hs3 : ((w1.alloc (.cells #[.int .i64 0, .int .i64 0, .int .i64 0, .int .i64 0, .int .i64 0, .int .i64 0, .int .u8 0, .int .u8 0, .int .u8 0, .int .u8 0, .int .u8 0, .int .u8 0, .slice none 0 0] 51)).alloc (.cells #[.int .i64 1, .int .i64 (r.pr % 65536), .int .i64 0, .int .i64 0, .int .i64 0, .int .i64 0, .int .u8 0, .int .u8 0, .int .u8 0, .int .u8 0, .int .u8 0, .int .u8 0, .slice none 0 0] 51)).heap.size = w.heap.size + 1 + 1 + 1 := by rw [World.size_alloc, hsz2]
    go_upto_region 4 with (go_at_call 20; refine (bring_any _ _ _ (by omega) (by omega) (by omega) (by omega)).mono ?_; rintro e w1 ⟨rfl, rfl⟩)
    clear c0 c1 c2 c3 c4 c5 c6 c7 c8 c9 c10 c11 c12 f0
    generalize ((w1.alloc (.cells #[.int .i64 0, .int .i64 0, .int .i64 0, .int .i64 0, .int .i64 0, .int .i64 0, .int .u8 0, .int .u8 0, .int .u8 0, .int .u8 0, .int .u8 0, .int .u8 0, .slice none 0 0] 51)).alloc (.cells #[.int .i64 1, .int .i64 (r.pr % 65536), .int .i64 0, .int .i64 0, .int .i64 0, .int .i64 0, .int .u8 0, .int .u8 0, .int .u8 0, .int .u8 0, .int .u8 0, .int .u8 0, .slice none 0 0] 51)) = W at KW KZ KC hbc hs3 ⊢
    clear K hb hlw hsz hsz2
    have e2 := wrap_m r.m.mp
    go_cut [3] from 23 to 36 (fun s3 wx => s3 = .pointer (some ⟨w.heap.size + 1 + 1, 0, none⟩) ∧ Bk wx w.heap.size 51 #[.int .i64 r.k, .int .i64 r.pr, .int .i64 r.to, .int .i64 r.po, .int .i64 r.m.ve, .int .i64 r.m.mp, .int .u8 (r.m.b0.toNat : Int), .int .u8 (r.m.b1.toNat : Int), .int .u8 (r.m.b2.toNat : Int), .int .u8 (r.m.i0.toNat : Int), .int .u8 (r.m.i1.toNat : Int), .int .u8 (r.m.i2.toNat : Int), .slice A N c] ∧ Bk wx (w.heap.size + 1) 51 #[.int .i64 0, .int .i64 0, .int .i64 0, .int .i64 0, .int .i64 0, .int .i64 0, .int .u8 0, .int .u8 0, .int .u8 0, .int .u8 0, .int .u8 0, .int .u8 0, .slice none 0 0] ∧ Bk wx (w.heap.size + 1 + 1) 51 #[.int .i64 1, .int .i64 (r.pr % 65536), .int .i64 0, .int .i64 0, .int .i64 (r.m.ve % 201), .int .i64 (r.m.mp % 6 - 1), .int .u8 (r.m.b0.toNat : Int), .int .u8 (r.m.b1.toNat : Int), .int .u8 (r.m.b2.toNat : Int), .int .u8 0, .int .u8 0, .int .u8 0, .slice none 0 0] ∧ Below w.heap.size w wx ∧ wx.heap.size = w.heap.size + 1 + 1 + 1)
    case first =>
      obtain ⟨c0, c1, c2, c3, c4, c5, c6, c7, c8, c9, c10, c11, c12, f0⟩ := KW.r13
      obtain ⟨d0, d1, d2, d3, d4, d5, d6, d7, d8, d9, d10, d11, d12, f1⟩ := KC.r13
      have KWd := KW.drew
      clear c0 c1 c2 c3 c9 c10 c11 c12 d0 d1 d2 d3 d12 f0
      have hne : w.heap.size ≠ w.heap.size + 1 + 1 := by omega
      have h4 : (#[.int .i64 r.k, .int .i64 r.pr, .int .i64 r.to, .int .i64 r.po, .int .i64 r.m.ve, .int .i64 r.m.mp, .int .u8 (r.m.b0.toNat : Int), .int .u8 (r.m.b1.toNat : Int), .int .u8 (r.m.b2.toNat : Int), .int .u8 (r.m.i0.toNat : Int), .int .u8 (r.m.i1.toNat : Int), .int .u8 (r.m.i2.toNat : Int), .slice A N c] : Array Value)[4]? = some (.int .i64 r.m.ve) := rfl
      have h5 : (#[.int .i64 r.k, .int .i64 r.pr, .int .i64 r.to, .int .i64 r.po, .int .i64 r.m.ve, .int .i64 r.m.mp, .int .u8 (r.m.b0.toNat : Int), .int .u8 (r.m.b1.toNat : Int), .int .u8 (r.m.b2.toNat : Int), .int .u8 (r.m.i0.toNat : Int), .int .u8 (r.m.i1.toNat : Int), .int .u8 (r.m.i2.toNat : Int), .slice A N c] : Array Value)[5]? = some (.int .i64 r.m.mp) := rfl
      have h6 : (#[.int .i64 r.k, .int .i64 r.pr, .int .i64 r.to, .int .i64 r.po, .int .i64 r.m.ve, .int .i64 r.m.mp, .int .u8 (r.m.b0.toNat : Int), .int .u8 (r.m.b1.toNat : Int), .int .u8 (r.m.b2.toNat : Int), .int .u8 (r.m.i0.toNat : Int), .int .u8 (r.m.i1.toNat : Int), .int .u8 (r.m.i2.toNat : Int), .slice A N c] : Array Value)[6]? = some (.int .u8 (r.m.b0.toNat : Int)) := rfl
      have h7 : (#[.int .i64 r.k, .int .i64 r.pr, .int .i64 r.to, .int .i64 r.po, .int .i64 r.m.ve, .int .i64 r.m.mp, .int .u8 (r.m.b0.toNat : Int), .int .u8 (r.m.b1.toNat : Int), .int .u8 (r.m.b2.toNat : Int), .int .u8 (r.m.i0.toNat : Int), .int .u8 (r.m.i1.toNat : Int), .int .u8 (r.m.i2.toNat : Int), .slice A N c] : Array Value)[7]? = some (.int .u8 (r.m.b1.toNat : Int)) := rfl
      have h8 : (#[.int .i64 r.k, .int .i64 r.pr, .int .i64 r.to, .int .i64 r.po, .int .i64 r.m.ve, .int .i64 r.m.mp, .int .u8 (r.m.b0.toNat : Int), .int .u8 (r.m.b1.toNat : Int), .int .u8 (r.m.b2.toNat : Int), .int .u8 (r.m.i0.toNat : Int), .int .u8 (r.m.i1.toNat : Int), .int .u8 (r.m.i2.toNat : Int), .slice A N c] : Array Value)[8]? = some (.int .u8 (r.m.b2.toNat : Int)) := rfl
      go_region_held3 (fun w' => w'.cell? ⟨w.heap.size, 4, none⟩ = some (.int .i64 r.m.ve) ∧ w'.cell? ⟨w.heap.size, 5, none⟩ = some (.int .i64 r.m.mp) ∧ w'.cell? ⟨w.heap.size, 6, none⟩ = some (.int .u8 (r.m.b0.toNat : Int)) ∧ w'.cell? ⟨w.heap.size, 7, none⟩ = some (.int .u8 (r.m.b1.toNat : Int)) ∧ w'.cell? ⟨w.heap.size, 8, none⟩ = some (.int .u8 (r.m.b2.toNat : Int))) (first | (with_reducible exact ⟨c4, c5, c6, c7, c8⟩) | (with_reducible exact ⟨KWd.cellv h4, KWd.cellv h5, KWd.cellv h6, KWd.cellv h7, KWd.cellv h8⟩) | (with_reducible exact ⟨KW.far8c hne h4, KW.far8c hne h5, KW.far8c hne h6, KW.far8c hne h7, KW.far8c hne h8⟩)) (first | (go_at_call 20; refine (bring_any _ _ _ (by omega) (by omega) (by omega) (by omega)).mono ?_; rintro e w1 ⟨rfl, rfl⟩))
      all_goals
        go_wp2_with fail
        go_meet
        exact ⟨rfl, (KW.far8 hne _ _ _ _ _ _ _ _).drew, (KZ.far8 (by omega) _ _ _ _ _ _ _ _).drew, (KC.set8 _ _ _ _ _ _ _ _).drew, (below8 hbc (by omega) _ _ _ _ _ _ _ _).drew, (size8 _ _ _ _ _ _ _ _).trans hs3⟩
    case rest =>
      clear KW KZ KC hbc hs3
      obtain ⟨rfl, KW, KZ, KC, hb, hs3⟩ := hcut
      rename_i wx
      have hW0 : 0 ≤ r.m.ve % 201 ∧ r.m.ve % 201 ≤ 200 := by omega
      have hM0 : -1 ≤ r.m.mp % 6 - 1 ∧ r.m.mp % 6 - 1 ≤ 4 := by omega
      have hP0 : 0 ≤ r.pr % 65536 ∧ r.pr % 65536 ≤ 65535 := by omega
      obtain ⟨ve', hve⟩ : ∃ x, x = r.m.ve % 201 := ⟨_, rfl⟩
      obtain ⟨mp', hmp⟩ : ∃ x, x = r.m.mp % 6 - 1 := ⟨_, rfl⟩
      obtain ⟨pr', hpr⟩ : ∃ x, x = r.pr % 65536 := ⟨_, rfl⟩
      rw [← hve, ← hmp, ← hpr] at KC
      rw [← hve] at hW0
      rw [← hmp] at hM0
      rw [← hpr] at hP0
      clear hve hmp hpr e2
      go_wp2_with fail
      go_loopw [4] (fun i wr => ∃ (k : Nat) (u0 u1 u2 : UInt8), k ≤ 3 ∧ i = .int .i64 k ∧ Bk wr w.heap.size 51 #[.int .i64 r.k, .int .i64 r.pr, .int .i64 r.to, .int .i64 r.po, .int .i64 r.m.ve, .int .i64 r.m.mp, .int .u8 (r.m.b0.toNat : Int), .int .u8 (r.m.b1.toNat : Int), .int .u8 (r.m.b2.toNat : Int), .int .u8 (r.m.i0.toNat : Int), .int .u8 (r.m.i1.toNat : Int), .int .u8 (r.m.i2.toNat : Int), .slice A N c] ∧ Bk wr (w.heap.size + 1) 51 #[.int .i64 0, .int .i64 0, .int .i64 0, .int .i64 0, .int .i64 0, .int .i64 0, .int .u8 0, .int .u8 0, .int .u8 0, .int .u8 0, .int .u8 0, .int .u8 0, .slice none 0 0] ∧ Bk wr (w.heap.size + 1 + 1) 51 #[.int .i64 1, .int .i64 pr', .int .i64 0, .int .i64 0, .int .i64 ve', .int .i64 mp', .int .u8 (r.m.b0.toNat : Int), .int .u8 (r.m.b1.toNat : Int), .int .u8 (r.m.b2.toNat : Int), .int .u8 (u0.toNat : Int), .int .u8 (u1.toNat : Int), .int .u8 (u2.toNat : Int), .slice none 0 0] ∧ Below w.heap.size w wr ∧ wr.heap.size = w.heap.size + 1 + 1 + 1 ∧ Hid ((0 < k → byB u0 r.m.b0 = true) ∧ (1 < k → byB u1 r.m.b1 = true) ∧ (2 < k → byB u2 r.m.b2 = true))) (fun i _ => 3 - (intOf i).toNat)
      case atStart => exact ⟨0, 0, 0, 0, by omega, rfl, KW, KZ, KC, hb, hs3, ⟨fun h => by omega, fun h => by omega, fun h => by omega⟩⟩
      case round =>
        clear KW KZ KC hb hs3
        obtain ⟨k, u0, u1, u2, hk, rfl, KW, KZ, KC, hb, hs3, HU⟩ := hrel
        have hne : w.heap.size ≠ w.heap.size + 1 + 1 := by omega
        obtain rfl | rfl | rfl | rfl : k = 0 ∨ k = 1 ∨ k = 2 ∨ k = 3 := by omega
        · have hx := andU r.m.i0 r.m.b0
          have c1 : wr.cell? ⟨w.heap.size, 6, none⟩ = some (.int .u8 (r.m.b0.toNat : Int)) := KW.cell 6
          have c2 : wr.cell? ⟨w.heap.size, 9, none⟩ = some (.int .u8 (r.m.i0.toNat : Int)) := KW.cell 9
          have d1 : wr.cell? ⟨w.heap.size + 1 + 1, 9, none⟩ = some (.int .u8 (u0.toNat : Int)) := KC.cell 9
          have f1 := KC.frozen
          have h1 : (#[.int .i64 r.k, .int .i64 r.pr, .int .i64 r.to, .int .i64 r.po, .int .i64 r.m.ve, .int .i64 r.m.mp, .int .u8 (r.m.b0.toNat : Int), .int .u8 (r.m.b1.toNat : Int), .int .u8 (r.m.b2.toNat : Int), .int .u8 (r.m.i0.toNat : Int), .int .u8 (r.m.i1.toNat : Int), .int .u8 (r.m.i2.toNat : Int), .slice A N c] : Array Value)[6]? = some (.int .u8 (r.m.b0.toNat : Int)) := rfl
          have h2 : (#[.int .i64 r.k, .int .i64 r.pr, .int .i64 r.to, .int .i64 r.po, .int .i64 r.m.ve, .int .i64 r.m.mp, .int .u8 (r.m.b0.toNat : Int), .int .u8 (r.m.b1.toNat : Int), .int .u8 (r.m.b2.toNat : Int), .int .u8 (r.m.i0.toNat : Int), .int .u8 (r.m.i1.toNat : Int), .int .u8 (r.m.i2.toNat : Int), .slice A N c] : Array Value)[9]? = some (.int .u8 (r.m.i0.toNat : Int)) := rfl
          have hfar := fun u => (KW.far (p := ⟨w.heap.size + 1 + 1, 9, none⟩) hne u).drew
          have hdr := KW.drew
          go_wp2_with fail
          go_region_held3 (fun w' => w'.cell? ⟨w.heap.size, 6, none⟩ = some (.int .u8 (r.m.b0.toNat : Int)) ∧ w'.cell? ⟨w.heap.size, 9, none⟩ = some (.int .u8 (r.m.i0.toNat : Int))) (first | (with_reducible exact ⟨hdr.cellv h1, hdr.cellv h2⟩) | (with_reducible exact ⟨(hfar _).cellv h1, (hfar _).cellv h2⟩)) (fail)
          all_goals
            go_wp2_with fail
            go_roundw
            case rel => exact ⟨1, (r.m.i0 &&& r.m.b0), u1, u2, by omega, by go_num, hfar _, (KZ.far (by simp) _).drew, Bk.drew (by simpa using KC.set_ 9 _), (hb.setCell (by simp; omega) _).drew, by rw [drew_heap]; simpa using hs3, ⟨fun _ => byB_and _ _, fun h => by omega, fun h => by omega⟩⟩
            case measure => simp [intOf]
        · have hx := andU r.m.i1 r.m.b1
          have c1 : wr.cell? ⟨w.heap.size, 7, none⟩ = some (.int .u8 (r.m.b1.toNat : Int)) := KW.cell 7
          have c2 : wr.cell? ⟨w.heap.size, 10, none⟩ = some (.int .u8 (r.m.i1.toNat : Int)) := KW.cell 10
          have d1 : wr.cell? ⟨w.heap.size + 1 + 1, 10, none⟩ = some (.int .u8 (u1.toNat : Int)) := KC.cell 10
          have f1 := KC.frozen
          have h1 : (#[.int .i64 r.k, .int .i64 r.pr, .int .i64 r.to, .int .i64 r.po, .int .i64 r.m.ve, .int .i64 r.m.mp, .int .u8 (r.m.b0.toNat : Int), .int .u8 (r.m.b1.toNat : Int), .int .u8 (r.m.b2.toNat : Int), .int .u8 (r.m.i0.toNat : Int), .int .u8 (r.m.i1.toNat : Int), .int .u8 (r.m.i2.toNat : Int), .slice A N c] : Array Value)[7]? = some (.int .u8 (r.m.b1.toNat : Int)) := rfl
          have h2 : (#[.int .i64 r.k, .int .i64 r.pr, .int .i64 r.to, .int .i64 r.po, .int .i64 r.m.ve, .int .i64 r.m.mp, .int .u8 (r.m.b0.toNat : Int), .int .u8 (r.m.b1.toNat : Int), .int .u8 (r.m.b2.toNat : Int), .int .u8 (r.m.i0.toNat : Int), .int .u8 (r.m.i1.toNat : Int), .int .u8 (r.m.i2.toNat : Int), .slice A N c] : Array Value)[10]? = some (.int .u8 (r.m.i1.toNat : Int)) := rfl
          have hfar := fun u => (KW.far (p := ⟨w.heap.size + 1 + 1, 10, none⟩) hne u).drew
          have hdr := KW.drew
          go_wp2_with fail
          go_region_held3 (fun w' => w'.cell? ⟨w.heap.size, 7, none⟩ = some (.int .u8 (r.m.b1.toNat : Int)) ∧ w'.cell? ⟨w.heap.size, 10, none⟩ = some (.int .u8 (r.m.i1.toNat : Int))) (first | (with_reducible exact ⟨hdr.cellv h1, hdr.cellv h2⟩) | (with_reducible exact ⟨(hfar _).cellv h1, (hfar _).cellv h2⟩)) (fail)
          all_goals
            go_wp2_with fail
            go_roundw
            case rel => exact ⟨2, u0, (r.m.i1 &&& r.m.b1), u2, by omega, by go_num, hfar _, (KZ.far (by simp) _).drew, Bk.drew (by simpa using KC.set_ 10 _), (hb.setCell (by simp; omega) _).drew, by rw [drew_heap]; simpa using hs3, ⟨fun _ => HU.out.1 (by omega), fun _ => byB_and _ _, fun h => by omega⟩⟩
            case measure => simp [intOf]
        · have hx := andU r.m.i2 r.m.b2
          have c1 : wr.cell? ⟨w.heap.size, 8, none⟩ = some (.int .u8 (r.m.b2.toNat : Int)) := KW.cell 8
          have c2 : wr.cell? ⟨w.heap.size, 11, none⟩ = some (.int .u8 (r.m.i2.toNat : Int)) := KW.cell 11
          have d1 : wr.cell? ⟨w.heap.size + 1 + 1, 11, none⟩ = some (.int .u8 (u2.toNat : Int)) := KC.cell 11
          have f1 := KC.frozen
          have h1 : (#[.int .i64 r.k, .int .i64 r.pr, .int .i64 r.to, .int .i64 r.po, .int .i64 r.m.ve, .int .i64 r.m.mp, .int .u8 (r.m.b0.toNat : Int), .int .u8 (r.m.b1.toNat : Int), .int .u8 (r.m.b2.toNat : Int), .int .u8 (r.m.i0.toNat : Int), .int .u8 (r.m.i1.toNat : Int), .int .u8 (r.m.i2.toNat : Int), .slice A N c] : Array Value)[8]? = some (.int .u8 (r.m.b2.toNat : Int)) := rfl
          have h2 : (#[.int .i64 r.k, .int .i64 r.pr, .int .i64 r.to, .int .i64 r.po, .int .i64 r.m.ve, .int .i64 r.m.mp, .int .u8 (r.m.b0.toNat : Int), .int .u8 (r.m.b1.toNat : Int), .int .u8 (r.m.b2.toNat : Int), .int .u8 (r.m.i0.toNat : Int), .int .u8 (r.m.i1.toNat : Int), .int .u8 (r.m.i2.toNat : Int), .slice A N c] : Array Value)[11]? = some (.int .u8 (r.m.i2.toNat : Int)) := rfl
          have hfar := fun u => (KW.far (p := ⟨w.heap.size + 1 + 1, 11, none⟩) hne u).drew
          have hdr := KW.drew
          go_wp2_with fail
          go_region_held3 (fun w' => w'.cell? ⟨w.heap.size, 8, none⟩ = some (.int .u8 (r.m.b2.toNat : Int)) ∧ w'.cell? ⟨w.heap.size, 11, none⟩ = some (.int .u8 (r.m.i2.toNat : Int))) (first | (with_reducible exact ⟨hdr.cellv h1, hdr.cellv h2⟩) | (with_reducible exact ⟨(hfar _).cellv h1, (hfar _).cellv h2⟩)) (fail)
          all_goals
            go_wp2_with fail
            go_roundw
            case rel => exact ⟨3, u0, u1, (r.m.i2 &&& r.m.b2), by omega, by go_num, hfar _, (KZ.far (by simp) _).drew, Bk.drew (by simpa using KC.set_ 11 _), (hb.setCell (by simp; omega) _).drew, by rw [drew_heap]; simpa using hs3, ⟨fun _ => HU.out.1 (by omega), fun _ => HU.out.2.1 (by omega), fun _ => byB_and _ _⟩⟩
            case measure => simp [intOf]
        · have hU0 := HU.out.1 (by omega)
          have hU1 := HU.out.2.1 (by omega)
          have hU2 := HU.out.2.2 (by omega)
          have hs4 : w.heap.size + 1 + 1 + 1 ≤ wr.heap.size := by omega
          clear HU hs3
          obtain ⟨i65, hi0, hz0, hz1, hz2⟩ := info_parts info65
          go_wp2_with fail
          go_loopw [5] (fun i wq => ∃ (k : Nat) (A' : Option Addr) (c' : Nat) (os : List Out4), k ≤ 8 ∧ k ≤ N ∧ i = .int .i64 k ∧ Bk wq w.heap.size 51 #[.int .i64 r.k, .int .i64 r.pr, .int .i64 r.to, .int .i64 r.po, .int .i64 r.m.ve, .int .i64 r.m.mp, .int .u8 (r.m.b0.toNat : Int), .int .u8 (r.m.b1.toNat : Int), .int .u8 (r.m.b2.toNat : Int), .int .u8 (r.m.i0.toNat : Int), .int .u8 (r.m.i1.toNat : Int), .int .u8 (r.m.i2.toNat : Int), .slice A N c] ∧ Bk wq (w.heap.size + 1) 51 #[.int .i64 0, .int .i64 0, .int .i64 0, .int .i64 0, .int .i64 0, .int .i64 0, .int .u8 0, .int .u8 0, .int .u8 0, .int .u8 0, .int .u8 0, .int .u8 0, .slice none 0 0] ∧ Bk wq (w.heap.size + 1 + 1) 51 #[.int .i64 1, .int .i64 pr', .int .i64 0, .int .i64 0, .int .i64 ve', .int .i64 mp', .int .u8 (r.m.b0.toNat : Int), .int .u8 (r.m.b1.toNat : Int), .int .u8 (r.m.b2.toNat : Int), .int .u8 (u0.toNat : Int), .int .u8 (u1.toNat : Int), .int .u8 (u2.toNat : Int), .slice A' k c'] ∧ wq.ownsRow (w.heap.size + 1 + 1 + 1) 65 4 (.slice A' k c') k (os.flatMap outC) ∧ Below w.heap.size w wq ∧ w.heap.size + 1 + 1 + 1 ≤ wq.heap.size ∧ Hid (os.length = k ∧ os.all outB4 = true)) (fun i _ => 8 - (intOf i).toNat)
          case atStart => exact ⟨0, none, 0, [], by omega, by omega, rfl, KW, KZ, KC, World.ownsRow_nil _ _ _ _, hb, hs4, ⟨rfl, rfl⟩⟩
          case round =>
            clear KW KZ KC hb hs4
            obtain ⟨k, A', c', os, hk8, hkN, rfl, KW, KZ, KC, hown, hb, hs4, HO⟩ := hrel
            obtain ⟨wq, hwq⟩ : ∃ q, q = wr := ⟨_, rfl⟩
            subst hwq
            have c12 : wq.cell? ⟨w.heap.size, 12, none⟩ = some (.slice A N c) := KW.cell 12
            by_cases hlt : k < N ∧ k < 8
            · have hl1 : (k : Int) < (N : Int) := by omega
              have hl2 : (k : Int) < 8 := by omega
              have hl3 : (0 : Int) ≤ (k : Int) := by omega
              obtain ⟨b, off, p, x, y, z, rfl, hbb, h0, h1, h2, h3, hxk⟩ := (hl.below hb).at_ hlt.1
              have hI4 := y7 _ (List.mem_of_getElem? hxk.out)
              unfold I4 I64 at hI4
              simp only at hI4
              obtain ⟨hIp, hIx, hIy, hIz⟩ := hI4
              go_wp2_with (go_at_call 20; refine (bring_any _ _ _ (by omega) (by omega) (by omega) (by omega)).mono ?_; rintro e w1 ⟨rfl, rfl⟩)
              go_loopw [7] (fun i w3 => ∃ (j : Nat) (s0 s1 s2 : Int), j ≤ 3 ∧ i = .int .i64 j ∧ Bk w3 wq.heap.size 65 #[.int .i64 (p % 5), .int .i64 s0, .int .i64 s1, .int .i64 s2] ∧ Below wq.heap.size wq w3 ∧ wq.heap.size + 1 ≤ w3.heap.size ∧ Hid ((0 < j → inB s0 (-1) 255 = true) ∧ (1 < j → inB s1 (-1) 255 = true) ∧ (2 < j → inB s2 (-1) 255 = true))) (fun i _ => 3 - (intOf i).toNat)
              case atStart => exact ⟨0, 0, 0, 0, by omega, rfl, Bk.new _ _ _, (Below.refl _ _).push _, by simp, ⟨fun h => by omega, fun h => by omega, fun h => by omega⟩⟩
              case round =>
                obtain ⟨j, s0, s1, s2, hj, rfl, K6, hb6, hs6, HS⟩ := hrel
                obtain ⟨w3, hw3⟩ : ∃ q, q = wr := ⟨_, rfl⟩
                subst hw3
                have c12' : w3.cell? ⟨w.heap.size, 12, none⟩ = some (.slice (some ⟨b, off, none⟩) N c) := (KW.kept hb6).cell 12
                have hbq : b < wq.heap.size := by omega
                have h1' := (hb6.cell (p := ⟨b, off + k * 4 + 1, none⟩) hbq).trans h1
                have h2' := (hb6.cell (p := ⟨b, off + k * 4 + 2, none⟩) hbq).trans h2
                have h3' := (hb6.cell (p := ⟨b, off + k * 4 + 3, none⟩) hbq).trans h3
                obtain ⟨q0, q1, q2, q3, qf⟩ := K6.four
                clear h0 h1 h2 h3 c12
                obtain rfl | rfl | rfl | rfl : j = 0 ∨ j = 1 ∨ j = 2 ∨ j = 3 := by omega
                · have e2 := wrap_s x
                  go_wp2_with (go_at_call 20; refine (bring_any _ _ _ (by omega) (by omega) (by omega) (by omega)).mono ?_; rintro e w1 ⟨rfl, rfl⟩)
                  go_roundw
                  case rel => exact ⟨1, (x % 257 - 1), s1, s2, by omega, by go_num, (by simpa using K6.set_ 1 _), hb6.setCell (by simp) _, by simpa using hs6, ⟨fun _ => inB_iff.2 (by omega), fun h => by omega, fun h => by omega⟩⟩
                  case measure => simp [intOf]
                · have e2 := wrap_s y
                  go_wp2_with (go_at_call 20; refine (bring_any _ _ _ (by omega) (by omega) (by omega) (by omega)).mono ?_; rintro e w1 ⟨rfl, rfl⟩)
                  go_roundw
                  case rel => exact ⟨2, s0, (y % 257 - 1), s2, by omega, by go_num, (by simpa using K6.set_ 2 _), hb6.setCell (by simp) _, by simpa using hs6, ⟨fun _ => HS.out.1 (by omega), fun _ => inB_iff.2 (by omega), fun h => by omega⟩⟩
                  case measure => simp [intOf]
                · have e2 := wrap_s z
                  go_wp2_with (go_at_call 20; refine (bring_any _ _ _ (by omega) (by omega) (by omega) (by omega)).mono ?_; rintro e w1 ⟨rfl, rfl⟩)
                  go_roundw
                  case rel => exact ⟨3, s0, s1, (z % 257 - 1), by omega, by go_num, (by simpa using K6.set_ 3 _), hb6.setCell (by simp) _, by simpa using hs6, ⟨fun _ => HS.out.1 (by omega), fun _ => HS.out.2.1 (by omega), fun _ => inB_iff.2 (by omega)⟩⟩
                  case measure => simp [intOf]
                · have hS0 := HS.out.1 (by omega)
                  have hS1 := HS.out.2.1 (by omega)
                  have hS2 := HS.out.2.2 (by omega)
                  have hT0 : 0 ≤ p % 5 ∧ p % 5 ≤ 4 := by omega
                  have hHO := HO.out
                  have KW6 := (KW.kept hb6).alloc (.cells #[.int .i64 (p % 5), .int .i64 s0, .int .i64 s1, .int .i64 s2] 65)
                  have KZ6 := (KZ.kept hb6).alloc (.cells #[.int .i64 (p % 5), .int .i64 s0, .int .i64 s1, .int .i64 s2] 65)
                  have KC6 := (KC.kept hb6).alloc (.cells #[.int .i64 (p % 5), .int .i64 s0, .int .i64 s1, .int .i64 s2] 65)
                  have hob := own_below hown hb6
                  have hown6 := hob.alloc (.cells #[.int .i64 (p % 5), .int .i64 s0, .int .i64 s1, .int .i64 s2] 65)
                  have hbn6 := (hb.trans (hb6.mono (by omega))).push (.cells #[.int .i64 (p % 5), .int .i64 s0, .int .i64 s1, .int .i64 s2] 65)
                  have hN6 : Rd (w3.alloc (.cells #[.int .i64 (p % 5), .int .i64 s0, .int .i64 s1, .int .i64 s2] 65)) (w3.heap.size + 1) 4 (some ⟨w3.heap.size, 0, none⟩) 1 (outC (p % 5, s0, s1, s2)) := (by simpa using (Bk.new w3 65 #[.int .i64 (p % 5), .int .i64 s0, .int .i64 s1, .int .i64 s2]).rd (n := 1) (size := 4) rfl : Rd _ _ 4 _ 1 [.int .i64 (p % 5), .int .i64 s0, .int .i64 s1, .int .i64 s2])
                  have d12 : w3.cell? ⟨w.heap.size + 1 + 1, 12, none⟩ = some (.slice A' k c') := (KC.kept hb6).cell 12
                  have hsA : w.heap.size + 1 + 1 + 1 ≤ (w3.alloc (.cells #[.int .i64 (p % 5), .int .i64 s0, .int .i64 s1, .int .i64 s2] 65)).heap.size := by simp; omega
                  clear hl1 hl2 hl3 hIp hIx hIy hIz h1' h2' h3' hxk
                  go_wp2_with (at_builtin; refine wpList_append_rd _ rfl _ _ _ rfl (w.heap.size + 1 + 1 + 1) 65 i65 _ 4 32 Try.underlying49 hi0 hz0 hz1 hz2 rfl (by omega) _ _ _ rfl hown6 (w3.heap.size + 1) (some ⟨w3.heap.size, 0, none⟩) 1 1 (outC (p % 5, s0, s1, s2)) rfl hN6 (by simp [outC, Value.oneCell']) (by unfold maxLen; omega) (by omega) hsA ?_; intro v5 w5 hown5 hg5 hat5; obtain ⟨A5, c5, rfl, hc5, hf5⟩ := own_any hown5; have KC5 := KC6.grown hg5 (own_far hown6 (by omega)); obtain ⟨q0, q1, q2, q3, q4, q5, q6, q7, q8, q9, q10, q11, q12, qf⟩ := KC5.r13)
                  go_roundw
                  case rel =>
                    refine ⟨_, _, _, _, _, _, _, _, _, _, _, _, _, _, _, _, _, _, _, _, _, _, _, _, _, _, _, _, _, _, _, _, _, _, _, _, _, _, _, _, _, _, _, _, _, ?_, rfl⟩
                    refine ⟨k + 1, A5, c5, os ++ [(p % 5, s0, s1, s2)], by omega, by omega, by go_num, (KW6.grown hg5 (own_far hown6 (by omega))).far (by first | (simp; done) | (simp; omega)) _, (KZ6.grown hg5 (own_far hown6 (by omega))).far (by first | (simp; done) | (simp; omega)) _, by simpa using KC5.set_ 12 (.slice A5 (k + 1) c5), ?_, ?_, ?_, ?_, ?_⟩
                    · refine own_heap (w := w5) ?_ fun g hg _ => Below.heap_setCell w5 _ _ g (by simp; omega)
                      rw [List.flatMap_append, List.flatMap_singleton]
                      exact hown5
                    · exact (hbn6.grown hg5 (by simp; omega) (fun j hj => by have := (hown6.lt j hj).1; omega)).setCell (by simp; omega) _
                    · have := hg5.size
                      simp at this ⊢
                      omega
                    · simp [hHO.1]
                    · simp only [List.all_append, List.all_cons, List.all_nil, hHO.2, outB4, Bool.and_true, Bool.true_and, Bool.and_eq_true, inB_iff] at hS0 hS1 hS2 ⊢
                      omega
                  case measure => simp [intOf]; omega
            · have hHO := HO.out
              have d12 : wq.cell? ⟨w.heap.size + 1 + 1, 12, none⟩ = some (.slice A' k c') := KC.cell 12
              have KR : Bk wq (w.heap.size + 1 + 1) 51 (ruC ⟨1, pr', 0, 0, ⟨ve', mp', r.m.b0, r.m.b1, r.m.b2, u0, u1, u2⟩, os⟩ A' k c') := KC
              have hld := KR.ld 51 _ Try.underlying51 rfl info51
              have hst := st51 KZ rfl ⟨1, pr', 0, 0, ⟨ve', mp', r.m.b0, r.m.b1, r.m.b2, u0, u1, u2⟩, os⟩ A' k c'
              have KF := setRow_heap wq _ _ (ruC ⟨1, pr', 0, 0, ⟨ve', mp', r.m.b0, r.m.b1, r.m.b2, u0, u1, u2⟩, os⟩ A' k c') _ _ KZ
              have hfin : RdQ w (.returned (.agg (ruC ⟨1, pr', 0, 0, ⟨ve', mp', r.m.b0, r.m.b1, r.m.b2, u0, u1, u2⟩, os⟩ A' k c'))) (wq.setRow (w.heap.size + 1) (ruC ⟨1, pr', 0, 0, ⟨ve', mp', r.m.b0, r.m.b1, r.m.b2, u0, u1, u2⟩, os⟩ A' k c')) := by
                have hown9 : (wq.setRow (w.heap.size + 1) (ruC ⟨1, pr', 0, 0, ⟨ve', mp', r.m.b0, r.m.b1, r.m.b2, u0, u1, u2⟩, os⟩ A' k c')).ownsRow (w.heap.size + 1 + 1 + 1) 65 4 (.slice A' k c') k (os.flatMap outC) := own_heap hown fun g hg _ => setRow_other wq _ _ _ (by omega)
                obtain ⟨A9, c9, h9, hc9, hf9⟩ := own_any hown
                injection h9 with _ _ h9
                refine ⟨_, A', k, c', rfl, ?_, own_mono hown9 (by omega), below_setRow hb (by omega) _⟩
                have hall := List.all_eq_true.1 hHO.2
                simp only [ruB, mkB, Bool.and_eq_true, inB_iff, decide_eq_true_eq, List.all_eq_true, beq_iff_eq]
                simp [hHO.1, hU0, hU1, hU2]
                exact ⟨⟨⟨hk8, fun p x y z h => hall _ h⟩, inB_iff.2 hP0⟩, inB_iff.2 hW0, inB_iff.2 hM0⟩
              have hSZ : (ruC ⟨1, pr', 0, 0, ⟨ve', mp', r.m.b0, r.m.b1, r.m.b2, u0, u1, u2⟩, os⟩ A' k c').size = 13 := rfl
              generalize ruC ⟨1, pr', 0, 0, ⟨ve', mp', r.m.b0, r.m.b1, r.m.b2, u0, u1, u2⟩, os⟩ A' k c' = R at hld hst KF hfin hSZ
              clear KC KR KZ hHO HO
              by_cases hkN' : k < N
              · have hk88 : k = 8 := by omega
                have hl1 : (k : Int) < (N : Int) := by omega
                have hl2 : ¬ (k : Int) < 8 := by omega
                go_wp2_with (first | ((with_reducible show wpList Try.prog _ _ _ _ _); refine wpL_load 51 (.tmp 3) _ rfl rfl rfl hld ?_) | ((with_reducible show wpList Try.prog _ _ _ _ _); refine wpL_store 51 (.tmp 2) (.tmp 98) _ _ rfl rfl rfl rfl hst ?_))
                refine bodyPost_ret (results_51 rfl _ _ rfl KF hSZ) rfl ?_
                exact hfin
              · have hl1 : ¬ (k : Int) < (N : Int) := by omega
                go_wp2_with (first | ((with_reducible show wpList Try.prog _ _ _ _ _); refine wpL_load 51 (.tmp 3) _ rfl rfl rfl hld ?_) | ((with_reducible show wpList Try.prog _ _ _ _ _); refine wpL_store 51 (.tmp 2) (.tmp 98) _ _ rfl rfl rfl rfl hst ?_))
                refine bodyPost_ret (results_51 rfl _ _ rfl KF hSZ) rfl ?_
                exact hfin
end Go.Proofs.Ytfnnjaljnfphlaa
