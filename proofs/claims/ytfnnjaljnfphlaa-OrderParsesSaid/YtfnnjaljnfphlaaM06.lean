/- The helper of the statements on orders: made: some order that may be. -/
import Derived.Test.YtfnnjaljnfphlaaRul
import Derived.Test.YtfnnjaljnfphlaaOpf
import Derived.Test.YtfnnjaljnfphlaaL6h
namespace Go.Proofs.Ytfnnjaljnfphlaa
open Go.RowKit
set_option maxRecDepth 100000
set_option maxHeartbeats 8000000
set_option linter.unusedSimpArgs false
set_option linter.unusedVariables false

def MoQ (w : World) (e : Ending) (w' : World) : Prop := ∃ o A L c, e = .returned (.agg (orC o A L c)) ∧ orB o = true ∧ w'.ownsRow w.heap.size 65 4 (.slice A L c) L (o.r.os.flatMap outC) ∧ Below w.heap.size w w'
theorem bld53k (k : Int) (w : World) : (Instr.build 53 #[(0, .int .i64 k)]).run Try.prog w = .ok (.agg (orC ⟨k, 0, 0, ru0, pr0⟩ none 0 0)) w := by kernel_rfl
theorem wrap_nine (x : Int) : IntKind.i64.wrap (1 + x % 9) = 1 + x % 9 := IntWalk.i64_in _ (by omega)
theorem results_53 {fn : Func} (h : fn.results = #[.cell 2 53]) (tmps : Array Value) (w : World) {b : Nat} {cs : Array Value} (hp : tmps.getD 2 undef = .pointer (some ⟨b, 0, none⟩)) (hB : Bk w b 53 cs) (hs : cs.size = 21) :
    (results fn tmps).run Try.prog w = .ok (.agg cs) w := by
  have hl := run_loadVar_mid (P := Try.prog) w b 0 53 cs.toList _ hB.range Try.underlying53 rfl (by simp [info53, hs])
  have hp' : tmps[2]?.getD undef = .pointer (some ⟨b, 0, none⟩) := by simpa using hp
  simp [results, h, hp', asAddr, hl]
theorem Bk.far5 {w : World} {g k : Nat} {t : TypeId} {cs : Array Value} (h : Bk w g t cs) (hk : g ≠ k) (u0 u1 u2 u3 u4 : Value) : Bk (((((w.setCell ⟨k, 16, none⟩ u0).setCell ⟨k, 17, none⟩ u1).setCell ⟨k, 18, none⟩ u2).setCell ⟨k, 19, none⟩ u3).setCell ⟨k, 20, none⟩ u4) g t cs :=
  ((((h.far (p := ⟨k, 16, none⟩) hk u0).far (p := ⟨k, 17, none⟩) hk u1).far (p := ⟨k, 18, none⟩) hk u2).far (p := ⟨k, 19, none⟩) hk u3).far (p := ⟨k, 20, none⟩) hk u4
theorem Bk.far5c {w : World} {g k : Nat} {t : TypeId} {cs : Array Value} (h : Bk w g t cs) (hk : g ≠ k) {i : Nat} {v : Value} (hv : cs[i]? = some v) {u0 u1 u2 u3 u4 : Value} : (((((w.setCell ⟨k, 16, none⟩ u0).setCell ⟨k, 17, none⟩ u1).setCell ⟨k, 18, none⟩ u2).setCell ⟨k, 19, none⟩ u3).setCell ⟨k, 20, none⟩ u4).drew.cell? ⟨g, i, none⟩ = some v := ((h.far5 hk _ _ _ _ _).drew.cell i).trans hv
theorem below5 {w0 w : World} {B k : Nat} (h : Below B w0 w) (hk : B ≤ k) (u0 u1 u2 u3 u4 : Value) : Below B w0 (((((w.setCell ⟨k, 16, none⟩ u0).setCell ⟨k, 17, none⟩ u1).setCell ⟨k, 18, none⟩ u2).setCell ⟨k, 19, none⟩ u3).setCell ⟨k, 20, none⟩ u4) :=
  ((((h.setCell (p := ⟨k, 16, none⟩) hk u0).setCell (p := ⟨k, 17, none⟩) hk u1).setCell (p := ⟨k, 18, none⟩) hk u2).setCell (p := ⟨k, 19, none⟩) hk u3).setCell (p := ⟨k, 20, none⟩) hk u4
theorem st51m {w : World} {b : Nat} {o : Or6} {A : Option Addr} {L c : Nat} (h : Bk w b 53 (orC o A L c)) (r : Ru) (A' : Option Addr) (L' c' : Nat) :
    (Instr.storeAt 51 (.pointer (some ⟨b, 3, none⟩)) (.agg (ruC r A' L' c'))).run Try.prog w = .ok () (w.setCells b 3 (ruC r A' L' c').toList) ∧ Bk (w.setCells b 3 (ruC r A' L' c').toList) b 53 (orC ⟨o.k, o.n, o.m, r, o.p⟩ A' L' c') := by
  refine ⟨run_storeAt_mid (P := Try.prog) w b 3 51 (ruC r A' L' c') (fun j hj => ⟨?_, h.frozen _⟩) info51 (ruC_one r A' L' c'), ?_⟩
  · have hj' : j < 13 := hj
    rw [h.cell, Array.getElem?_eq_getElem (show 3 + j < (orC o A L c).size by show 3 + j < 21; omega)]
    rfl
  · unfold orC at h
    simp only [ruC, World.setCells, Nat.reduceAdd]
    have := ((((((((((((h.set_ 3 (.int .i64 r.k)).set_ 4 (.int .i64 r.pr)).set_ 5 (.int .i64 r.to)).set_ 6 (.int .i64 r.po)).set_ 7 (.int .i64 r.m.ve)).set_ 8 (.int .i64 r.m.mp)).set_ 9 (.int .u8 (r.m.b0.toNat : Int))).set_ 10 (.int .u8 (r.m.b1.toNat : Int))).set_ 11 (.int .u8 (r.m.b2.toNat : Int))).set_ 12 (.int .u8 (r.m.i0.toNat : Int))).set_ 13 (.int .u8 (r.m.i1.toNat : Int))).set_ 14 (.int .u8 (r.m.i2.toNat : Int))).set_ 15 (.slice A' L' c')
    simp only [List.setIfInBounds_toArray, List.set_cons_succ, List.set_cons_zero] at this
    exact this
theorem heap_setCells (b : Nat) (vs : List Value) : ∀ (o : Nat) (w : World) (g : Nat), g ≠ b → (w.setCells b o vs).heap[g]? = w.heap[g]? := by
  induction vs with
  | nil => intro o w g h; rfl
  | cons v vs ih => intro o w g h; rw [World.setCells, ih _ _ _ h]; exact Below.heap_setCell w _ v g h
theorem below_setCells {B b : Nat} (vs : List Value) : ∀ (o : Nat) {w0 w : World}, Below B w0 w → B ≤ b → Below B w0 (w.setCells b o vs) := by
  induction vs with
  | nil => intro o w0 w h hb; exact h
  | cons v vs ih => intro o w0 w h hb; rw [World.setCells]; exact ih _ (h.setCell (p := ⟨b, o, none⟩) hb v) hb
theorem made_fin {w W : World} {b : Nat} {Z : Array Value} {o : Or6} {A : Option Addr} {L c : Nat} (hb : Below w.heap.size w W) (hZ : Bk W b 53 Z) (hwb : w.heap.size ≤ b) (ho : orB o = true) {B : Nat} (hB : b < B) (hown : W.ownsRow B 65 4 (.slice A L c) L (o.r.os.flatMap outC)) :
    MoQ w (.returned (.agg (orC o A L c))) (W.setRow b (orC o A L c)) :=
  ⟨o, A, L, c, rfl, ho, own_mono (own_heap hown fun g hg _ => setRow_other W _ _ _ (by omega)) (by omega), below_setRow hb hwb _⟩

theorem made06_any (o : Or6) (A : Option Addr) (L c : Nat) (w : World) (hI : OI o) (hl : Ou w w.heap.size A L o.r.os) :
    Calls Try.prog 37 #[.agg (orC o A L c)] w (MoQ w) := by
  obtain ⟨y1, y2, y3, hIr, y4, y5, y6, y7, y8⟩ := hI
  unfold I64 at y1 y2 y3 y4 y5 y6 y7 y8
  have K := Bk.new w 53 (orC o A L c)
  have hb := (Below.refl w.heap.size w).push (.cells (orC o A L c) 53)
  have hlw := hl.alloc (Nat.le_refl _) (.cells (orC o A L c) 53)
  have hsz : (w.alloc (.cells (orC o A L c) 53)).heap.size = w.heap.size + 1 := World.size_alloc _ _
  have hal := alloc53 (w.alloc (.cells (orC o A L c) 53))
  rw [hsz] at hal
  obtain ⟨V, hV⟩ : ∃ V, V = Value.agg (orC o A L c) := ⟨_, rfl⟩
  rw [← hV]
  have hbx : (Instr.box 53 V).run Try.prog w = .ok (.pointer (some ⟨w.heap.size, 0, none⟩)) (w.alloc (.cells (orC o A L c) 53)) := by rw [hV]; rfl
  have HV := Lib.hid hV
  clear hV
  go_enter Try.func37, Try.ntmps37
  go_upto_region 1 with (first | ((with_reducible show wpList Try.prog _ _ _ _ _); refine wpL_box 53 (.tmp 0) V rfl rfl rfl hbx ?_) | ((with_reducible show wpList Try.prog _ _ _ _ _); refine wpL_alloc 53 rfl rfl hal ?_))
  have KW := K.alloc (.cells (orC or0 none 0 0) 53)
  have KZ := Bk.newAt' (w := w.alloc (.cells (orC o A L c) 53)) 53 (orC or0 none 0 0) hsz
  have hb := hb.push (.cells (orC or0 none 0 0) 53)
  have hlw := hlw.alloc (by omega) (.cells (orC or0 none 0 0) 53)
  have hsz2 : ((w.alloc (.cells (orC o A L c) 53)).alloc (.cells (orC or0 none 0 0) 53)).heap.size = w.heap.size + 1 + 1 := by rw [World.size_alloc, hsz]
  clear hal hbx K hsz
  generalize (w.alloc _).alloc _ = W at KW KZ hb hlw hsz2 ⊢
  have c0 : W.cell? ⟨w.heap.size, 0, none⟩ = some (.int .i64 o.k) := KW.cell 0
  have hal := alloc53 W
  have hK1 : 1 ≤ 1 + o.k % 9 ∧ 1 + o.k % 9 ≤ 9 := by omega
  have e1 := wrap_nine o.k
  have hst := vst53 W ⟨1 + o.k % 9, 0, 0, ru0, pr0⟩ none 0 0
  have hbl := bld53k (1 + o.k % 9) W
  have KW := KW.alloc (.cells (orC ⟨1 + o.k % 9, 0, 0, ru0, pr0⟩ none 0 0) 53)
  have KZ := KZ.alloc (.cells (orC ⟨1 + o.k % 9, 0, 0, ru0, pr0⟩ none 0 0) 53)
  have KC := Bk.newAt' (w := W) 53 (orC ⟨1 + o.k % 9, 0, 0, ru0, pr0⟩ none 0 0) hsz2
  have hb := hb.push (.cells (orC ⟨1 + o.k % 9, 0, 0, ru0, pr0⟩ none 0 0) 53)
  have hlw := hlw.alloc (by omega) (.cells (orC ⟨1 + o.k % 9, 0, 0, ru0, pr0⟩ none 0 0) 53)
  have hsz3 : (W.alloc (.cells (orC ⟨1 + o.k % 9, 0, 0, ru0, pr0⟩ none 0 0) 53)).heap.size = w.heap.size + 1 + 1 + 1 := by rw [World.size_alloc, hsz2]
  rw [hsz2] at hal hst
  go_upto_region 2 with (first | (go_at_call 20; refine (bring_any _ _ _ (by omega) (by omega) (by omega) (by omega)).mono ?_; rintro e w1 ⟨rfl, rfl⟩) | ((with_reducible show wpList Try.prog _ _ (Oper.mk (some 3) _ _ _ _ _ :: _) _ _); refine wpL_alloc 53 rfl rfl hal ?_) | ((with_reducible show wpList Try.prog _ _ (Oper.mk (some 8) _ _ _ _ _ :: _) _ _); refine wpL_build 53 0 (.tmp 7) (.int .i64 (1 + o.k % 9)) rfl rfl rfl hbl ?_) | ((with_reducible show wpList Try.prog _ _ (Oper.mk none _ _ _ _ _ :: _) _ _); refine wpL_store 53 (.tmp 3) (.tmp 8) (.pointer (some ⟨w.heap.size + 1 + 1, 0, none⟩)) (.agg (orC ⟨1 + o.k % 9, 0, 0, ru0, pr0⟩ none 0 0)) rfl rfl rfl rfl hst ?_))
  clear hal hst hbl c0 e1
  generalize W.alloc _ = W at KW KZ KC hb hlw hsz3 ⊢
  generalize 1 + o.k % 9 = K at KC hK1 ⊢
  obtain rfl | rfl | rfl | rfl | rfl | rfl | rfl | rfl | rfl : K = 1 ∨ K = 2 ∨ K = 3 ∨ K = 4 ∨ K = 5 ∨ K = 6 ∨ K = 7 ∨ K = 8 ∨ K = 9 := by omega
  · have k0 : W.cell? ⟨w.heap.size + 1 + 1, 0, none⟩ = some (.int .i64 1) := KC.cell 0
    go_upto_region 21 with fail
    clear k0
    have hO : orB ⟨1, 0, 0, ru0, pr0⟩ = true := by simp [orB, spB, prZ, pr0, ruZ, ru0, mkZ, mk0, inB_iff, PrOk5] <;> omega
    have hld := KC.ld53 rfl
    have hst := st53 KZ rfl ⟨1, 0, 0, ru0, pr0⟩ none 0 0
    have KF := setRow_heap _ _ _ (orC ⟨1, 0, 0, ru0, pr0⟩ none 0 0) _ _ KZ
    have hSZ : (orC ⟨1, 0, 0, ru0, pr0⟩ none 0 0).size = 21 := rfl
    have hfin := made_fin hb KZ (by omega) hO (B := w.heap.size + 1 + 1 + 1) (by omega) (World.ownsRow_nil _ _ _ _)
    generalize (orC ⟨1, 0, 0, ru0, pr0⟩ none 0 0) = R at hld hst KF hfin hSZ
    clear KC KW
    go_wp2_with (first | ((with_reducible show wpList Try.prog _ _ (Oper.mk (some 88) _ _ _ _ _ :: _) _ _); refine wpL_load 53 (.tmp 3) (.pointer (some ⟨w.heap.size + 1 + 1, 0, none⟩)) rfl rfl rfl hld ?_) | ((with_reducible show wpList Try.prog _ _ (Oper.mk none _ _ _ _ _ :: _) _ _); refine wpL_store 53 (.tmp 2) (.tmp 88) (.pointer (some ⟨w.heap.size + 1, 0, none⟩)) (.agg R) rfl rfl rfl rfl hst ?_))
    refine bodyPost_ret (results_53 rfl _ _ rfl KF hSZ) rfl ?_
    exact hfin
  · have k0 : W.cell? ⟨w.heap.size + 1 + 1, 0, none⟩ = some (.int .i64 2) := KC.cell 0
    have hldr : (Instr.loadAt 51 (.pointer (some ⟨w.heap.size, 3, none⟩))).run Try.prog W = .ok (.agg (ruC o.r A L c)) W := KW.ldm 3 (ruC o.r A L c) rfl 51 _ Try.underlying51 rfl info51
    have hrd := Lib.hid (ruled_any o.r A L c W hIr (hlw.more (by omega)))
    go_upto_region 21 with (first | ((with_reducible show wpList Try.prog _ _ (Oper.mk (some 15) _ _ _ _ _ :: _) _ _); refine wpL_load 51 (.tmp 14) (.pointer (some ⟨w.heap.size, 3, none⟩)) rfl rfl rfl hldr ?_) | (go_at_call 77; refine hrd.out.mono ?_; rintro e w5 ⟨r5, A5, L5, c5, rfl, hB5, hO5, hb5⟩; have hst5 := st51m (KC.kept hb5) r5 A5 L5 c5; obtain ⟨hs5, KC5⟩ := hst5) | ((with_reducible show wpList Try.prog _ _ (Oper.mk none _ _ _ _ _ :: _) _ _); refine wpL_store 51 (.tmp 17) (.tmp 16) (.pointer (some ⟨w.heap.size + 1 + 1, 3, none⟩)) (.agg (ruC r5 A5 L5 c5)) rfl rfl rfl rfl hs5 ?_))
    have KZ := KZ.kept hb5
    have hb := hb.next hb5
    rw [hsz3] at hO5
    have KZ : Bk (w5.setCells (w.heap.size + 1 + 1) 3 (ruC r5 A5 L5 c5).toList) (w.heap.size + 1) 53 (orC or0 none 0 0) := (heap_setCells _ _ _ _ _ (by omega)).trans KZ
    have hO5 := own_heap hO5 (w' := w5.setCells (w.heap.size + 1 + 1) 3 (ruC r5 A5 L5 c5).toList) fun g hg _ => heap_setCells _ _ _ _ _ (by omega)
    have hb := below_setCells (b := w.heap.size + 1 + 1) (ruC r5 A5 L5 c5).toList 3 hb (by omega)
    have KC := KC5
    clear k0 hldr hrd hs5 hb5 KC5 KW hlw hsz3
    generalize w5.setCells _ _ _ = W at KC KZ hb hO5 ⊢
    have hORB : orB ⟨2, 0, 0, r5, pr0⟩ = true := by simp [orB, spB, prZ, pr0, hB5]
    have hO : orB ⟨2, 0, 0, r5, pr0⟩ = true := hORB
    have hld := KC.ld53 rfl
    have hst := st53 KZ rfl ⟨2, 0, 0, r5, pr0⟩ A5 L5 c5
    have KF := setRow_heap _ _ _ (orC ⟨2, 0, 0, r5, pr0⟩ A5 L5 c5) _ _ KZ
    have hSZ : (orC ⟨2, 0, 0, r5, pr0⟩ A5 L5 c5).size = 21 := rfl
    have hfin := made_fin hb KZ (by omega) hO (B := w.heap.size + 1 + 1 + 1) (by omega) hO5
    generalize (orC ⟨2, 0, 0, r5, pr0⟩ A5 L5 c5) = R at hld hst KF hfin hSZ
    clear KC
    go_wp2_with (first | ((with_reducible show wpList Try.prog _ _ (Oper.mk (some 88) _ _ _ _ _ :: _) _ _); refine wpL_load 53 (.tmp 3) (.pointer (some ⟨w.heap.size + 1 + 1, 0, none⟩)) rfl rfl rfl hld ?_) | ((with_reducible show wpList Try.prog _ _ (Oper.mk none _ _ _ _ _ :: _) _ _); refine wpL_store 53 (.tmp 2) (.tmp 88) (.pointer (some ⟨w.heap.size + 1, 0, none⟩)) (.agg R) rfl rfl rfl rfl hst ?_))
    refine bodyPost_ret (results_53 rfl _ _ rfl KF hSZ) rfl ?_
    exact hfin
  · have k0 : W.cell? ⟨w.heap.size + 1 + 1, 0, none⟩ = some (.int .i64 3) := KC.cell 0
    have hldr : (Instr.loadAt 51 (.pointer (some ⟨w.heap.size, 3, none⟩))).run Try.prog W = .ok (.agg (ruC o.r A L c)) W := KW.ldm 3 (ruC o.r A L c) rfl 51 _ Try.underlying51 rfl info51
    have hrd := Lib.hid (ruled_any o.r A L c W hIr (hlw.more (by omega)))
    go_upto_region 21 with (first | ((with_reducible show wpList Try.prog _ _ (Oper.mk (some 15) _ _ _ _ _ :: _) _ _); refine wpL_load 51 (.tmp 14) (.pointer (some ⟨w.heap.size, 3, none⟩)) rfl rfl rfl hldr ?_) | (go_at_call 77; refine hrd.out.mono ?_; rintro e w5 ⟨r5, A5, L5, c5, rfl, hB5, hO5, hb5⟩; have hst5 := st51m (KC.kept hb5) r5 A5 L5 c5; obtain ⟨hs5, KC5⟩ := hst5) | ((with_reducible show wpList Try.prog _ _ (Oper.mk none _ _ _ _ _ :: _) _ _); refine wpL_store 51 (.tmp 17) (.tmp 16) (.pointer (some ⟨w.heap.size + 1 + 1, 3, none⟩)) (.agg (ruC r5 A5 L5 c5)) rfl rfl rfl rfl hs5 ?_))
    have KZ := KZ.kept hb5
    have hb := hb.next hb5
    rw [hsz3] at hO5
    have KZ : Bk (w5.setCells (w.heap.size + 1 + 1) 3 (ruC r5 A5 L5 c5).toList) (w.heap.size + 1) 53 (orC or0 none 0 0) := (heap_setCells _ _ _ _ _ (by omega)).trans KZ
    have hO5 := own_heap hO5 (w' := w5.setCells (w.heap.size + 1 + 1) 3 (ruC r5 A5 L5 c5).toList) fun g hg _ => heap_setCells _ _ _ _ _ (by omega)
    have hb := below_setCells (b := w.heap.size + 1 + 1) (ruC r5 A5 L5 c5).toList 3 hb (by omega)
    have KC := KC5
    clear k0 hldr hrd hs5 hb5 KC5 KW hlw hsz3
    generalize w5.setCells _ _ _ = W at KC KZ hb hO5 ⊢
    have hORB : orB ⟨3, 0, 0, r5, pr0⟩ = true := by simp [orB, spB, prZ, pr0, hB5]
    have hO : orB ⟨3, 0, 0, r5, pr0⟩ = true := hORB
    have hld := KC.ld53 rfl
    have hst := st53 KZ rfl ⟨3, 0, 0, r5, pr0⟩ A5 L5 c5
    have KF := setRow_heap _ _ _ (orC ⟨3, 0, 0, r5, pr0⟩ A5 L5 c5) _ _ KZ
    have hSZ : (orC ⟨3, 0, 0, r5, pr0⟩ A5 L5 c5).size = 21 := rfl
    have hfin := made_fin hb KZ (by omega) hO (B := w.heap.size + 1 + 1 + 1) (by omega) hO5
    generalize (orC ⟨3, 0, 0, r5, pr0⟩ A5 L5 c5) = R at hld hst KF hfin hSZ
    clear KC
    go_wp2_with (first | ((with_reducible show wpList Try.prog _ _ (Oper.mk (some 88) _ _ _ _ _ :: _) _ _); refine wpL_load 53 (.tmp 3) (.pointer (some ⟨w.heap.size + 1 + 1, 0, none⟩)) rfl rfl rfl hld ?_) | ((with_reducible show wpList Try.prog _ _ (Oper.mk none _ _ _ _ _ :: _) _ _); refine wpL_store 53 (.tmp 2) (.tmp 88) (.pointer (some ⟨w.heap.size + 1, 0, none⟩)) (.agg R) rfl rfl rfl rfl hst ?_))
    refine bodyPost_ret (results_53 rfl _ _ rfl KF hSZ) rfl ?_
    exact hfin
  · have k0 : W.cell? ⟨w.heap.size + 1 + 1, 0, none⟩ = some (.int .i64 4) := KC.cell 0
    have f0 := KC.frozen
    have k1 : W.cell? ⟨w.heap.size + 1 + 1, 1, none⟩ = some (.int .i64 0) := KC.cell 1
    have k2 : W.cell? ⟨w.heap.size + 1 + 1, 2, none⟩ = some (.int .i64 0) := KC.cell 2
    have n1 : W.cell? ⟨w.heap.size, 1, none⟩ = some (.int .i64 o.n) := KW.cell 1
    have n2 : W.cell? ⟨w.heap.size, 2, none⟩ = some (.int .i64 o.m) := KW.cell 2
    have e1 := wrap_four o.n
    go_upto_region 21 with (go_at_call 20; refine (bring_any _ _ _ (by omega) (by omega) (by omega) (by omega)).mono ?_; rintro e w1 ⟨rfl, rfl⟩)
    have KC : Bk (W.setCell ⟨w.heap.size + 1 + 1, 1, none⟩ (.int .i64 (o.n % 201))) (w.heap.size + 1 + 1) 53 (orC ⟨4, (o.n % 201), 0, ru0, pr0⟩ none 0 0) := (KC.set_ 1 (.int .i64 (o.n % 201)))
    have KZ := (KZ.far (p := ⟨w.heap.size + 1 + 1, 1, none⟩) (by simp) (.int .i64 (o.n % 201)))
    have hb := (hb.setCell (p := ⟨w.heap.size + 1 + 1, 1, none⟩) (by simp; omega) (.int .i64 (o.n % 201)))
    clear k0 f0 k1 k2 n1 n2 e1
    generalize (W.setCell ⟨w.heap.size + 1 + 1, 1, none⟩ (.int .i64 (o.n % 201))) = W at KC KZ hb ⊢
    have hO : orB ⟨4, (o.n % 201), 0, ru0, pr0⟩ = true := by simp [orB, spB, prZ, pr0, ruZ, ru0, mkZ, mk0, inB_iff, PrOk5] <;> omega
    have hld := KC.ld53 rfl
    have hst := st53 KZ rfl ⟨4, (o.n % 201), 0, ru0, pr0⟩ none 0 0
    have KF := setRow_heap _ _ _ (orC ⟨4, (o.n % 201), 0, ru0, pr0⟩ none 0 0) _ _ KZ
    have hSZ : (orC ⟨4, (o.n % 201), 0, ru0, pr0⟩ none 0 0).size = 21 := rfl
    have hfin := made_fin hb KZ (by omega) hO (B := w.heap.size + 1 + 1 + 1) (by omega) (World.ownsRow_nil _ _ _ _)
    generalize (orC ⟨4, (o.n % 201), 0, ru0, pr0⟩ none 0 0) = R at hld hst KF hfin hSZ
    clear KC KW
    go_wp2_with (first | ((with_reducible show wpList Try.prog _ _ (Oper.mk (some 88) _ _ _ _ _ :: _) _ _); refine wpL_load 53 (.tmp 3) (.pointer (some ⟨w.heap.size + 1 + 1, 0, none⟩)) rfl rfl rfl hld ?_) | ((with_reducible show wpList Try.prog _ _ (Oper.mk none _ _ _ _ _ :: _) _ _); refine wpL_store 53 (.tmp 2) (.tmp 88) (.pointer (some ⟨w.heap.size + 1, 0, none⟩)) (.agg R) rfl rfl rfl rfl hst ?_))
    refine bodyPost_ret (results_53 rfl _ _ rfl KF hSZ) rfl ?_
    exact hfin
  · have k0 : W.cell? ⟨w.heap.size + 1 + 1, 0, none⟩ = some (.int .i64 5) := KC.cell 0
    have f0 := KC.frozen
    have k1 : W.cell? ⟨w.heap.size + 1 + 1, 1, none⟩ = some (.int .i64 0) := KC.cell 1
    have k2 : W.cell? ⟨w.heap.size + 1 + 1, 2, none⟩ = some (.int .i64 0) := KC.cell 2
    have n1 : W.cell? ⟨w.heap.size, 1, none⟩ = some (.int .i64 o.n) := KW.cell 1
    have n2 : W.cell? ⟨w.heap.size, 2, none⟩ = some (.int .i64 o.m) := KW.cell 2
    have e1 := wrap_four o.n
    go_upto_region 21 with (go_at_call 20; refine (bring_any _ _ _ (by omega) (by omega) (by omega) (by omega)).mono ?_; rintro e w1 ⟨rfl, rfl⟩)
    have KC : Bk ((W.setCell ⟨w.heap.size + 1 + 1, 1, none⟩ (.int .i64 (1 + o.n % 4))).setCell ⟨w.heap.size + 1 + 1, 2, none⟩ (.int .i64 (o.m % 65536))) (w.heap.size + 1 + 1) 53 (orC ⟨5, (1 + o.n % 4), (o.m % 65536), ru0, pr0⟩ none 0 0) := ((KC.set_ 1 (.int .i64 (1 + o.n % 4))).set_ 2 (.int .i64 (o.m % 65536)))
    have KZ := ((KZ.far (p := ⟨w.heap.size + 1 + 1, 1, none⟩) (by simp) (.int .i64 (1 + o.n % 4))).far (p := ⟨w.heap.size + 1 + 1, 2, none⟩) (by simp) (.int .i64 (o.m % 65536)))
    have hb := ((hb.setCell (p := ⟨w.heap.size + 1 + 1, 1, none⟩) (by simp; omega) (.int .i64 (1 + o.n % 4))).setCell (p := ⟨w.heap.size + 1 + 1, 2, none⟩) (by simp; omega) (.int .i64 (o.m % 65536)))
    clear k0 f0 k1 k2 n1 n2 e1
    generalize ((W.setCell ⟨w.heap.size + 1 + 1, 1, none⟩ (.int .i64 (1 + o.n % 4))).setCell ⟨w.heap.size + 1 + 1, 2, none⟩ (.int .i64 (o.m % 65536))) = W at KC KZ hb ⊢
    have hO : orB ⟨5, (1 + o.n % 4), (o.m % 65536), ru0, pr0⟩ = true := by simp [orB, spB, prZ, pr0, ruZ, ru0, mkZ, mk0, inB_iff, PrOk5] <;> omega
    have hld := KC.ld53 rfl
    have hst := st53 KZ rfl ⟨5, (1 + o.n % 4), (o.m % 65536), ru0, pr0⟩ none 0 0
    have KF := setRow_heap _ _ _ (orC ⟨5, (1 + o.n % 4), (o.m % 65536), ru0, pr0⟩ none 0 0) _ _ KZ
    have hSZ : (orC ⟨5, (1 + o.n % 4), (o.m % 65536), ru0, pr0⟩ none 0 0).size = 21 := rfl
    have hfin := made_fin hb KZ (by omega) hO (B := w.heap.size + 1 + 1 + 1) (by omega) (World.ownsRow_nil _ _ _ _)
    generalize (orC ⟨5, (1 + o.n % 4), (o.m % 65536), ru0, pr0⟩ none 0 0) = R at hld hst KF hfin hSZ
    clear KC KW
    go_wp2_with (first | ((with_reducible show wpList Try.prog _ _ (Oper.mk (some 88) _ _ _ _ _ :: _) _ _); refine wpL_load 53 (.tmp 3) (.pointer (some ⟨w.heap.size + 1 + 1, 0, none⟩)) rfl rfl rfl hld ?_) | ((with_reducible show wpList Try.prog _ _ (Oper.mk none _ _ _ _ _ :: _) _ _); refine wpL_store 53 (.tmp 2) (.tmp 88) (.pointer (some ⟨w.heap.size + 1, 0, none⟩)) (.agg R) rfl rfl rfl rfl hst ?_))
    refine bodyPost_ret (results_53 rfl _ _ rfl KF hSZ) rfl ?_
    exact hfin
  · have k0 : W.cell? ⟨w.heap.size + 1 + 1, 0, none⟩ = some (.int .i64 6) := KC.cell 0
    have f0 := KC.frozen
    have k1 : W.cell? ⟨w.heap.size + 1 + 1, 1, none⟩ = some (.int .i64 0) := KC.cell 1
    have k2 : W.cell? ⟨w.heap.size + 1 + 1, 2, none⟩ = some (.int .i64 0) := KC.cell 2
    have n1 : W.cell? ⟨w.heap.size, 1, none⟩ = some (.int .i64 o.n) := KW.cell 1
    have n2 : W.cell? ⟨w.heap.size, 2, none⟩ = some (.int .i64 o.m) := KW.cell 2
    have e1 := wrap_four o.n
    go_upto_region 21 with (go_at_call 20; refine (bring_any _ _ _ (by omega) (by omega) (by omega) (by omega)).mono ?_; rintro e w1 ⟨rfl, rfl⟩)
    have KC : Bk (W.setCell ⟨w.heap.size + 1 + 1, 1, none⟩ (.int .i64 (o.n % 4294967296))) (w.heap.size + 1 + 1) 53 (orC ⟨6, (o.n % 4294967296), 0, ru0, pr0⟩ none 0 0) := (KC.set_ 1 (.int .i64 (o.n % 4294967296)))
    have KZ := (KZ.far (p := ⟨w.heap.size + 1 + 1, 1, none⟩) (by simp) (.int .i64 (o.n % 4294967296)))
    have hb := (hb.setCell (p := ⟨w.heap.size + 1 + 1, 1, none⟩) (by simp; omega) (.int .i64 (o.n % 4294967296)))
    clear k0 f0 k1 k2 n1 n2 e1
    generalize (W.setCell ⟨w.heap.size + 1 + 1, 1, none⟩ (.int .i64 (o.n % 4294967296))) = W at KC KZ hb ⊢
    have hO : orB ⟨6, (o.n % 4294967296), 0, ru0, pr0⟩ = true := by simp [orB, spB, prZ, pr0, ruZ, ru0, mkZ, mk0, inB_iff, PrOk5] <;> omega
    have hld := KC.ld53 rfl
    have hst := st53 KZ rfl ⟨6, (o.n % 4294967296), 0, ru0, pr0⟩ none 0 0
    have KF := setRow_heap _ _ _ (orC ⟨6, (o.n % 4294967296), 0, ru0, pr0⟩ none 0 0) _ _ KZ
    have hSZ : (orC ⟨6, (o.n % 4294967296), 0, ru0, pr0⟩ none 0 0).size = 21 := rfl
    have hfin := made_fin hb KZ (by omega) hO (B := w.heap.size + 1 + 1 + 1) (by omega) (World.ownsRow_nil _ _ _ _)
    generalize (orC ⟨6, (o.n % 4294967296), 0, ru0, pr0⟩ none 0 0) = R at hld hst KF hfin hSZ
    clear KC KW
    go_wp2_with (first | ((with_reducible show wpList Try.prog _ _ (Oper.mk (some 88) _ _ _ _ _ :: _) _ _); refine wpL_load 53 (.tmp 3) (.pointer (some ⟨w.heap.size + 1 + 1, 0, none⟩)) rfl rfl rfl hld ?_) | ((with_reducible show wpList Try.prog _ _ (Oper.mk none _ _ _ _ _ :: _) _ _); refine wpL_store 53 (.tmp 2) (.tmp 88) (.pointer (some ⟨w.heap.size + 1, 0, none⟩)) (.agg R) rfl rfl rfl rfl hst ?_))
    refine bodyPost_ret (results_53 rfl _ _ rfl KF hSZ) rfl ?_
    exact hfin
  · have k0 : W.cell? ⟨w.heap.size + 1 + 1, 0, none⟩ = some (.int .i64 7) := KC.cell 0
    have f0 := KC.frozen
    have k1 : W.cell? ⟨w.heap.size + 1 + 1, 1, none⟩ = some (.int .i64 0) := KC.cell 1
    have k2 : W.cell? ⟨w.heap.size + 1 + 1, 2, none⟩ = some (.int .i64 0) := KC.cell 2
    have n1 : W.cell? ⟨w.heap.size, 1, none⟩ = some (.int .i64 o.n) := KW.cell 1
    have n2 : W.cell? ⟨w.heap.size, 2, none⟩ = some (.int .i64 o.m) := KW.cell 2
    have e1 := wrap_four o.n
    go_upto_region 21 with (go_at_call 20; refine (bring_any _ _ _ (by omega) (by omega) (by omega) (by omega)).mono ?_; rintro e w1 ⟨rfl, rfl⟩)
    have KC : Bk ((W.setCell ⟨w.heap.size + 1 + 1, 1, none⟩ (.int .i64 (o.n % 4294967296))).setCell ⟨w.heap.size + 1 + 1, 2, none⟩ (.int .i64 (o.m % 65536))) (w.heap.size + 1 + 1) 53 (orC ⟨7, (o.n % 4294967296), (o.m % 65536), ru0, pr0⟩ none 0 0) := ((KC.set_ 1 (.int .i64 (o.n % 4294967296))).set_ 2 (.int .i64 (o.m % 65536)))
    have KZ := ((KZ.far (p := ⟨w.heap.size + 1 + 1, 1, none⟩) (by simp) (.int .i64 (o.n % 4294967296))).far (p := ⟨w.heap.size + 1 + 1, 2, none⟩) (by simp) (.int .i64 (o.m % 65536)))
    have hb := ((hb.setCell (p := ⟨w.heap.size + 1 + 1, 1, none⟩) (by simp; omega) (.int .i64 (o.n % 4294967296))).setCell (p := ⟨w.heap.size + 1 + 1, 2, none⟩) (by simp; omega) (.int .i64 (o.m % 65536)))
    clear k0 f0 k1 k2 n1 n2 e1
    generalize ((W.setCell ⟨w.heap.size + 1 + 1, 1, none⟩ (.int .i64 (o.n % 4294967296))).setCell ⟨w.heap.size + 1 + 1, 2, none⟩ (.int .i64 (o.m % 65536))) = W at KC KZ hb ⊢
    have hO : orB ⟨7, (o.n % 4294967296), (o.m % 65536), ru0, pr0⟩ = true := by simp [orB, spB, prZ, pr0, ruZ, ru0, mkZ, mk0, inB_iff, PrOk5] <;> omega
    have hld := KC.ld53 rfl
    have hst := st53 KZ rfl ⟨7, (o.n % 4294967296), (o.m % 65536), ru0, pr0⟩ none 0 0
    have KF := setRow_heap _ _ _ (orC ⟨7, (o.n % 4294967296), (o.m % 65536), ru0, pr0⟩ none 0 0) _ _ KZ
    have hSZ : (orC ⟨7, (o.n % 4294967296), (o.m % 65536), ru0, pr0⟩ none 0 0).size = 21 := rfl
    have hfin := made_fin hb KZ (by omega) hO (B := w.heap.size + 1 + 1 + 1) (by omega) (World.ownsRow_nil _ _ _ _)
    generalize (orC ⟨7, (o.n % 4294967296), (o.m % 65536), ru0, pr0⟩ none 0 0) = R at hld hst KF hfin hSZ
    clear KC KW
    go_wp2_with (first | ((with_reducible show wpList Try.prog _ _ (Oper.mk (some 88) _ _ _ _ _ :: _) _ _); refine wpL_load 53 (.tmp 3) (.pointer (some ⟨w.heap.size + 1 + 1, 0, none⟩)) rfl rfl rfl hld ?_) | ((with_reducible show wpList Try.prog _ _ (Oper.mk none _ _ _ _ _ :: _) _ _); refine wpL_store 53 (.tmp 2) (.tmp 88) (.pointer (some ⟨w.heap.size + 1, 0, none⟩)) (.agg R) rfl rfl rfl rfl hst ?_))
    refine bodyPost_ret (results_53 rfl _ _ rfl KF hSZ) rfl ?_
    exact hfin
  · have k0 : W.cell? ⟨w.heap.size + 1 + 1, 0, none⟩ = some (.int .i64 8) := KC.cell 0
    have f0 := KC.frozen
    have k16 : W.cell? ⟨w.heap.size + 1 + 1, 16, none⟩ = some (.int .i64 0) := KC.cell 16
    have c16 : W.cell? ⟨w.heap.size, 16, none⟩ = some (.int .i64 o.p.f) := KW.cell 16
    have h16 : (orC o A L c)[16]? = some (.int .i64 o.p.f) := rfl
    have k17 : W.cell? ⟨w.heap.size + 1 + 1, 17, none⟩ = some (.int .i64 0) := KC.cell 17
    have c17 : W.cell? ⟨w.heap.size, 17, none⟩ = some (.int .i64 o.p.fp) := KW.cell 17
    have h17 : (orC o A L c)[17]? = some (.int .i64 o.p.fp) := rfl
    have k18 : W.cell? ⟨w.heap.size + 1 + 1, 18, none⟩ = some (.int .i64 0) := KC.cell 18
    have c18 : W.cell? ⟨w.heap.size, 18, none⟩ = some (.int .i64 o.p.t) := KW.cell 18
    have h18 : (orC o A L c)[18]? = some (.int .i64 o.p.t) := rfl
    have k19 : W.cell? ⟨w.heap.size + 1 + 1, 19, none⟩ = some (.int .i64 0) := KC.cell 19
    have c19 : W.cell? ⟨w.heap.size, 19, none⟩ = some (.int .i64 o.p.tp) := KW.cell 19
    have h19 : (orC o A L c)[19]? = some (.int .i64 o.p.tp) := rfl
    have k20 : W.cell? ⟨w.heap.size + 1 + 1, 20, none⟩ = some (.int .i64 0) := KC.cell 20
    have c20 : W.cell? ⟨w.heap.size, 20, none⟩ = some (.int .i64 o.p.n) := KW.cell 20
    have h20 : (orC o A L c)[20]? = some (.int .i64 o.p.n) := rfl
    have hne : w.heap.size ≠ w.heap.size + 1 + 1 := by omega
    have hdr := KW.drew
    have e1 := wrap_six o.p.f
    have e2 := wrap_four o.p.fp
    have e3 := wrap_six o.p.t
    have e4 := wrap_four o.p.tp
    go_upto_region 17 with fail
    go_region_held3 (fun w' => w'.cell? ⟨w.heap.size, 16, none⟩ = some (.int .i64 o.p.f) ∧ w'.cell? ⟨w.heap.size, 17, none⟩ = some (.int .i64 o.p.fp) ∧ w'.cell? ⟨w.heap.size, 18, none⟩ = some (.int .i64 o.p.t) ∧ w'.cell? ⟨w.heap.size, 19, none⟩ = some (.int .i64 o.p.tp) ∧ w'.cell? ⟨w.heap.size, 20, none⟩ = some (.int .i64 o.p.n)) (first | (with_reducible exact ⟨hdr.cellv h16, hdr.cellv h17, hdr.cellv h18, hdr.cellv h19, hdr.cellv h20⟩) | (with_reducible exact ⟨KW.far5c hne h16, KW.far5c hne h17, KW.far5c hne h18, KW.far5c hne h19, KW.far5c hne h20⟩)) (first | (go_at_call 20; refine (bring_any _ _ _ (by omega) (by omega) (by omega) (by omega)).mono ?_; rintro e w1 ⟨rfl, rfl⟩))
    have hP5 : PrOk5 ⟨1 + o.p.f % 6, 1 + o.p.fp % 4, 1 + o.p.t % 6, 1 + o.p.tp % 4, o.p.n % 65536⟩ := by unfold PrOk5; simp only; omega
    have hP8 : orB ⟨8, 0, 0, ru0, ⟨1 + o.p.f % 6, 1 + o.p.fp % 4, 1 + o.p.t % 6, 1 + o.p.tp % 4, o.p.n % 65536⟩⟩ = true := by
      have h3 : 0 < 1 + o.p.t % 6 := by omega
      simp [orB, spB, ruZ, ru0, mkZ, mk0, hP5, h3]
    all_goals
      have KC := (((((KC.set_ 16 (.int .i64 (1 + o.p.f % 6))).set_ 17 (.int .i64 (1 + o.p.fp % 4))).set_ 18 (.int .i64 (1 + o.p.t % 6))).set_ 19 (.int .i64 (1 + o.p.tp % 4))).set_ 20 (.int .i64 (o.p.n % 65536))).drew
      have KC : Bk (((((W.setCell ⟨w.heap.size + 1 + 1, 16, none⟩ (.int .i64 (1 + o.p.f % 6))).setCell ⟨w.heap.size + 1 + 1, 17, none⟩ (.int .i64 (1 + o.p.fp % 4))).setCell ⟨w.heap.size + 1 + 1, 18, none⟩ (.int .i64 (1 + o.p.t % 6))).setCell ⟨w.heap.size + 1 + 1, 19, none⟩ (.int .i64 (1 + o.p.tp % 4))).setCell ⟨w.heap.size + 1 + 1, 20, none⟩ (.int .i64 (o.p.n % 65536))).drew (w.heap.size + 1 + 1) 53 (orC ⟨8, 0, 0, ru0, ⟨1 + o.p.f % 6, 1 + o.p.fp % 4, 1 + o.p.t % 6, 1 + o.p.tp % 4, o.p.n % 65536⟩⟩ none 0 0) := KC
      have KZ := (KZ.far5 (k := w.heap.size + 1 + 1) (by omega) (.int .i64 (1 + o.p.f % 6)) (.int .i64 (1 + o.p.fp % 4)) (.int .i64 (1 + o.p.t % 6)) (.int .i64 (1 + o.p.tp % 4)) (.int .i64 (o.p.n % 65536))).drew
      have hb := (below5 (k := w.heap.size + 1 + 1) hb (by omega) (.int .i64 (1 + o.p.f % 6)) (.int .i64 (1 + o.p.fp % 4)) (.int .i64 (1 + o.p.t % 6)) (.int .i64 (1 + o.p.tp % 4)) (.int .i64 (o.p.n % 65536))).drew
      clear hdr f0 k0 e1 e2 e3 e4 k16 k17 k18 k19 k20 c16 c17 c18 c19 c20 h16 h17 h18 h19 h20
      generalize (((((W.setCell ⟨w.heap.size + 1 + 1, 16, none⟩ (.int .i64 (1 + o.p.f % 6))).setCell ⟨w.heap.size + 1 + 1, 17, none⟩ (.int .i64 (1 + o.p.fp % 4))).setCell ⟨w.heap.size + 1 + 1, 18, none⟩ (.int .i64 (1 + o.p.t % 6))).setCell ⟨w.heap.size + 1 + 1, 19, none⟩ (.int .i64 (1 + o.p.tp % 4))).setCell ⟨w.heap.size + 1 + 1, 20, none⟩ (.int .i64 (o.p.n % 65536))).drew = W at KC KZ hb ⊢
      have hO : orB ⟨8, 0, 0, ru0, ⟨1 + o.p.f % 6, 1 + o.p.fp % 4, 1 + o.p.t % 6, 1 + o.p.tp % 4, o.p.n % 65536⟩⟩ = true := hP8
      have hld := KC.ld53 rfl
      have hst := st53 KZ rfl ⟨8, 0, 0, ru0, ⟨1 + o.p.f % 6, 1 + o.p.fp % 4, 1 + o.p.t % 6, 1 + o.p.tp % 4, o.p.n % 65536⟩⟩ none 0 0
      have KF := setRow_heap _ _ _ (orC ⟨8, 0, 0, ru0, ⟨1 + o.p.f % 6, 1 + o.p.fp % 4, 1 + o.p.t % 6, 1 + o.p.tp % 4, o.p.n % 65536⟩⟩ none 0 0) _ _ KZ
      have hSZ : (orC ⟨8, 0, 0, ru0, ⟨1 + o.p.f % 6, 1 + o.p.fp % 4, 1 + o.p.t % 6, 1 + o.p.tp % 4, o.p.n % 65536⟩⟩ none 0 0).size = 21 := rfl
      have hfin := made_fin hb KZ (by omega) hO (B := w.heap.size + 1 + 1 + 1) (by omega) (World.ownsRow_nil _ _ _ _)
      generalize (orC ⟨8, 0, 0, ru0, ⟨1 + o.p.f % 6, 1 + o.p.fp % 4, 1 + o.p.t % 6, 1 + o.p.tp % 4, o.p.n % 65536⟩⟩ none 0 0) = R at hld hst KF hfin hSZ
      clear KC KW
      go_wp2_with (first | ((with_reducible show wpList Try.prog _ _ (Oper.mk (some 88) _ _ _ _ _ :: _) _ _); refine wpL_load 53 (.tmp 3) (.pointer (some ⟨w.heap.size + 1 + 1, 0, none⟩)) rfl rfl rfl hld ?_) | ((with_reducible show wpList Try.prog _ _ (Oper.mk none _ _ _ _ _ :: _) _ _); refine wpL_store 53 (.tmp 2) (.tmp 88) (.pointer (some ⟨w.heap.size + 1, 0, none⟩)) (.agg R) rfl rfl rfl rfl hst ?_))
      refine bodyPost_ret (results_53 rfl _ _ rfl KF hSZ) rfl ?_
      exact hfin
  · have k0 : W.cell? ⟨w.heap.size + 1 + 1, 0, none⟩ = some (.int .i64 9) := KC.cell 0
    have f0 := KC.frozen
    have k1 : W.cell? ⟨w.heap.size + 1 + 1, 1, none⟩ = some (.int .i64 0) := KC.cell 1
    have k2 : W.cell? ⟨w.heap.size + 1 + 1, 2, none⟩ = some (.int .i64 0) := KC.cell 2
    have n1 : W.cell? ⟨w.heap.size, 1, none⟩ = some (.int .i64 o.n) := KW.cell 1
    have n2 : W.cell? ⟨w.heap.size, 2, none⟩ = some (.int .i64 o.m) := KW.cell 2
    have e1 := wrap_four o.n
    go_upto_region 21 with (go_at_call 20; refine (bring_any _ _ _ (by omega) (by omega) (by omega) (by omega)).mono ?_; rintro e w1 ⟨rfl, rfl⟩)
    have KC : Bk ((W.setCell ⟨w.heap.size + 1 + 1, 1, none⟩ (.int .i64 (1 + o.n % 4))).setCell ⟨w.heap.size + 1 + 1, 2, none⟩ (.int .i64 (o.m % 2))) (w.heap.size + 1 + 1) 53 (orC ⟨9, (1 + o.n % 4), (o.m % 2), ru0, pr0⟩ none 0 0) := ((KC.set_ 1 (.int .i64 (1 + o.n % 4))).set_ 2 (.int .i64 (o.m % 2)))
    have KZ := ((KZ.far (p := ⟨w.heap.size + 1 + 1, 1, none⟩) (by simp) (.int .i64 (1 + o.n % 4))).far (p := ⟨w.heap.size + 1 + 1, 2, none⟩) (by simp) (.int .i64 (o.m % 2)))
    have hb := ((hb.setCell (p := ⟨w.heap.size + 1 + 1, 1, none⟩) (by simp; omega) (.int .i64 (1 + o.n % 4))).setCell (p := ⟨w.heap.size + 1 + 1, 2, none⟩) (by simp; omega) (.int .i64 (o.m % 2)))
    clear k0 f0 k1 k2 n1 n2 e1
    generalize ((W.setCell ⟨w.heap.size + 1 + 1, 1, none⟩ (.int .i64 (1 + o.n % 4))).setCell ⟨w.heap.size + 1 + 1, 2, none⟩ (.int .i64 (o.m % 2))) = W at KC KZ hb ⊢
    have hO : orB ⟨9, (1 + o.n % 4), (o.m % 2), ru0, pr0⟩ = true := by simp [orB, spB, prZ, pr0, ruZ, ru0, mkZ, mk0, inB_iff, PrOk5] <;> omega
    have hld := KC.ld53 rfl
    have hst := st53 KZ rfl ⟨9, (1 + o.n % 4), (o.m % 2), ru0, pr0⟩ none 0 0
    have KF := setRow_heap _ _ _ (orC ⟨9, (1 + o.n % 4), (o.m % 2), ru0, pr0⟩ none 0 0) _ _ KZ
    have hSZ : (orC ⟨9, (1 + o.n % 4), (o.m % 2), ru0, pr0⟩ none 0 0).size = 21 := rfl
    have hfin := made_fin hb KZ (by omega) hO (B := w.heap.size + 1 + 1 + 1) (by omega) (World.ownsRow_nil _ _ _ _)
    generalize (orC ⟨9, (1 + o.n % 4), (o.m % 2), ru0, pr0⟩ none 0 0) = R at hld hst KF hfin hSZ
    clear KC KW
    go_wp2_with (first | ((with_reducible show wpList Try.prog _ _ (Oper.mk (some 88) _ _ _ _ _ :: _) _ _); refine wpL_load 53 (.tmp 3) (.pointer (some ⟨w.heap.size + 1 + 1, 0, none⟩)) rfl rfl rfl hld ?_) | ((with_reducible show wpList Try.prog _ _ (Oper.mk none _ _ _ _ _ :: _) _ _); refine wpL_store 53 (.tmp 2) (.tmp 88) (.pointer (some ⟨w.heap.size + 1, 0, none⟩)) (.agg R) rfl rfl rfl rfl hst ?_))
    refine bodyPost_ret (results_53 rfl _ _ rfl KF hSZ) rfl ?_
    exact hfin
end Go.Proofs.Ytfnnjaljnfphlaa
