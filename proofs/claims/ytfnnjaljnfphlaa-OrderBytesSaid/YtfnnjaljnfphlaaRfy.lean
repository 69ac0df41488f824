/- The reference of chapter 6: the bytes of an order. -/
import Derived.Test.YtfnnjaljnfphlaaRfb
import Derived.Test.YtfnnjaljnfphlaaRpb
import Derived.Deep.RegionHeld3
namespace Go.Proofs.Ytfnnjaljnfphlaa
open Go.RowKit
set_option maxRecDepth 100000
set_option maxHeartbeats 8000000
set_option linter.unusedSimpArgs false
set_option linter.unusedVariables false

def RyQ (o : Or6) (w : World) (e : Ending) (w' : World) : Prop := ∃ A' N c', e = .returned (.tuple #[.slice A' N c', .int .i64 (erB (orB o))]) ∧ By w' w'.heap.size A' N (if orB o then orBy o else []) ∧ Below w.heap.size w w'
theorem ryQ_ok {o : Or6} {w w' : World} {A' : Option Addr} {N c' : Nat} {l : List UInt8} (ho : orB o = true) (hl : By w' w'.heap.size A' N l) (he : orBy o = l) (hb : Below w.heap.size w w') : RyQ o w (.returned (.tuple #[.slice A' N c', .int .i64 0])) w' :=
  ⟨A', N, c', by rw [ho]; rfl, by rw [if_pos ho, he]; exact hl, hb⟩
theorem be_one (k : Nat) (h : k < 256) : be 1 k = [UInt8.ofNat k] := by
  have := of_be (x := k) (by simpa using h)
  exact this.symm
theorem u8w (b : UInt8) : IntKind.u8.wrap (b.toNat : Int) = (b.toNat : Int) := by
  have := b.toNat_lt
  simp [IntKind.wrap, IntKind.bits, IntKind.signed]
  omega
theorem own_far0 {w : World} {base g5 n : Nat} {e : TypeId} {size : Nat} {N c : Nat} {xs : List Value} (h : w.ownsRow base e size (.slice (some ⟨g5, 0, none⟩) N c) n xs) {g : Nat} (hg : g ≠ g5) : some g ≠ (Value.slice (some ⟨g5, 0, none⟩) N c).ownBlock := by
  simp [Value.ownBlock]; omega
theorem rbytes_any (o : Or6) (A : Option Addr) (L c : Nat) (w : World) (hl : Ou w w.heap.size A L o.r.os) (hN : L ≤ 1000) :
    Calls Try.prog 48 #[.agg (orC o A L c)] w (RyQ o w) := by
  have K := Bk.new w 53 (orC o A L c)
  have hb := (Below.refl w.heap.size w).push (.cells (orC o A L c) 53)
  have hlw := hl.boxed (.cells (orC o A L c) 53)
  clear hl
  obtain ⟨V, hV⟩ : ∃ V, V = Value.agg (orC o A L c) := ⟨_, rfl⟩
  rw [← hV]
  have hbx : (Instr.box 53 V).run Try.prog w = .ok (.pointer (some ⟨w.heap.size, 0, none⟩)) (w.alloc (.cells (orC o A L c) 53)) := by rw [hV]; rfl
  have HV := Lib.hid hV
  clear hV
  obtain ⟨q, hq⟩ : ∃ q, q = orB o := ⟨_, rfl⟩
  have Hq := Lib.hid hq
  go_enter Try.func48, Try.ntmps48
  go_upto_region 1 with ((with_reducible show wpList Try.prog _ _ (Oper.mk (some 1) _ _ _ _ _ :: _) _ _); refine wpL_box 53 (.tmp 0) V rfl rfl rfl hbx ?_)
  clear hbx
  generalize w.alloc _ = W at K hb hlw ⊢
  have hld : (Instr.loadAt 53 (.pointer (some ⟨w.heap.size, 0, none⟩))).run Try.prog W = .ok V W := by rw [HV.out]; exact K.ld53 rfl
  have hck := rcheck_any o A L c W hlw hN
  rw [← hq, ← HV.out] at hck
  have hckh := Lib.hid hck
  clear hck hq
  go_upto_region 2 with (first | (go_at_call 50; refine hckh.out.mono ?_; rintro e w2 ⟨rfl, hb2⟩) | ((with_reducible show wpList Try.prog _ _ (Oper.mk (some 8) _ _ _ _ _ :: _) _ _); refine wpL_load 53 (.tmp 1) (.pointer (some ⟨w.heap.size, 0, none⟩)) rfl rfl rfl hld ?_))
  clear hld hckh HV
  replace K := K.kept hb2
  replace hlw := hlw.kept hb2
  replace hb := hb.next hb2
  clear hb2
  generalize V = V0
  cases q
  · simp only [erB, Bool.false_eq_true, if_false]
    go_wp2_with fail
    go_ret2
    refine ⟨none, 0, 0, by rw [← Hq.out]; rfl, ?_, hb⟩
    rw [← Hq.out, if_neg (by decide)]
    exact By.empty
  · simp only [erB, if_true]
    have ho := Hq.out.symm
    have h9 := orB_kind ho
    have hob2 := (Bool.and_eq_true_iff.1 ho).2
    obtain ⟨k, n, m, r, p⟩ := o
    simp only at h9 hob2 hlw
    obtain ⟨c0, c1, c2, c16, c17, c18, c19, c20, f0⟩ := K.oc
    obtain ⟨i0, hi0, hz0, hz1, hz2⟩ := info_parts info5
    have hoh := Lib.hid ho
    clear ho Hq
    have gW := K.lt
    obtain rfl | rfl | rfl | rfl | rfl | rfl | rfl | rfl | rfl : k = 1 ∨ k = 2 ∨ k = 3 ∨ k = 4 ∨ k = 5 ∨ k = 6 ∨ k = 7 ∨ k = 8 ∨ k = 9 := by omega
    · have hOa := own_new w2 5 #[.int .u8 1] (by simp [maxLen])
      have hx : By (w2.alloc (.cells #[.int .u8 1] 5)) (w2.alloc (.cells #[.int .u8 1] 5)).heap.size (some ⟨w2.heap.size, 0, none⟩) 1 [1] := Rd.of_own hOa
      have K1 := K.alloc (.cells #[.int .u8 1] 5)
      have hb1 := hb.push (.cells #[.int .u8 1] 5)
      have hlw1 := hlw.boxed (.cells #[.int .u8 1] 5)
      simp [inB_iff] at hob2
      go_upto_region 5 with fail
      clear c0 c1 c2 c16 c17 c18 c19 c20 f0
      generalize hg5 : w2.heap.size = g5 at hOa hx gW ⊢
      have hgs : g5 ≤ (w2.alloc (.cells #[.int .u8 1] 5)).heap.size := by simp; omega
      generalize w2.alloc (.cells #[.int .u8 1] 5) = W at hOa hx K1 hb1 hlw1 hgs ⊢
      clear K hb hlw hg5
      obtain ⟨c0, c1, c2, c16, c17, c18, c19, c20, f0⟩ := K1.oc
      go_wp2_with fail
      go_ret2
      exact ryQ_ok hoh.out hx (by simp [orBy, be_one]) hb1
    · have hOa := own_new w2 5 #[.int .u8 2] (by simp [maxLen])
      have hx : By (w2.alloc (.cells #[.int .u8 2] 5)) (w2.alloc (.cells #[.int .u8 2] 5)).heap.size (some ⟨w2.heap.size, 0, none⟩) 1 [2] := Rd.of_own hOa
      have K1 := K.alloc (.cells #[.int .u8 2] 5)
      have hb1 := hb.push (.cells #[.int .u8 2] 5)
      have hlw1 := hlw.boxed (.cells #[.int .u8 2] 5)
      simp [inB_iff] at hob2
      go_upto_region 5 with fail
      clear c0 c1 c2 c16 c17 c18 c19 c20 f0
      generalize hg5 : w2.heap.size = g5 at hOa hx gW ⊢
      have hgs : g5 ≤ (w2.alloc (.cells #[.int .u8 2] 5)).heap.size := by simp; omega
      generalize w2.alloc (.cells #[.int .u8 2] 5) = W at hOa hx K1 hb1 hlw1 hgs ⊢
      clear K hb hlw hg5
      obtain ⟨c0, c1, c2, c16, c17, c18, c19, c20, f0⟩ := K1.oc
      have hl51 := K1.ld51
      have hpr := Lib.hid (rputRule_any r A L c (some ⟨g5, 0, none⟩) 1 1 [2] W hob2 hlw1 hx (by omega))
      go_wp2_with (first | (go_at_call 97; refine hpr.out.mono ?_; rintro e w3 ⟨A3, N3, c3, rfl, hx3, hb3⟩) | ((with_reducible show wpList Try.prog _ _ (Oper.mk (some 24) _ _ _ _ _ :: _) _ _); refine wpL_load 51 (.tmp 23) (.pointer (some ⟨w.heap.size, 3, none⟩)) rfl rfl rfl hl51 ?_))
      go_ret2
      exact ryQ_ok hoh.out hx3 (by simp [orBy, be_one]) (hb1.next hb3)
    · have hOa := own_new w2 5 #[.int .u8 3] (by simp [maxLen])
      have hx : By (w2.alloc (.cells #[.int .u8 3] 5)) (w2.alloc (.cells #[.int .u8 3] 5)).heap.size (some ⟨w2.heap.size, 0, none⟩) 1 [3] := Rd.of_own hOa
      have K1 := K.alloc (.cells #[.int .u8 3] 5)
      have hb1 := hb.push (.cells #[.int .u8 3] 5)
      have hlw1 := hlw.boxed (.cells #[.int .u8 3] 5)
      simp [inB_iff] at hob2
      go_upto_region 5 with fail
      clear c0 c1 c2 c16 c17 c18 c19 c20 f0
      generalize hg5 : w2.heap.size = g5 at hOa hx gW ⊢
      have hgs : g5 ≤ (w2.alloc (.cells #[.int .u8 3] 5)).heap.size := by simp; omega
      generalize w2.alloc (.cells #[.int .u8 3] 5) = W at hOa hx K1 hb1 hlw1 hgs ⊢
      clear K hb hlw hg5
      obtain ⟨c0, c1, c2, c16, c17, c18, c19, c20, f0⟩ := K1.oc
      have hl51 := K1.ld51
      have hpr := Lib.hid (rputRule_any r A L c (some ⟨g5, 0, none⟩) 1 1 [3] W hob2 hlw1 hx (by omega))
      go_wp2_with (first | (go_at_call 97; refine hpr.out.mono ?_; rintro e w3 ⟨A3, N3, c3, rfl, hx3, hb3⟩) | ((with_reducible show wpList Try.prog _ _ (Oper.mk (some 24) _ _ _ _ _ :: _) _ _); refine wpL_load 51 (.tmp 23) (.pointer (some ⟨w.heap.size, 3, none⟩)) rfl rfl rfl hl51 ?_))
      go_ret2
      exact ryQ_ok hoh.out hx3 (by simp [orBy, be_one]) (hb1.next hb3)
    · have hOa := own_new w2 5 #[.int .u8 4] (by simp [maxLen])
      have hx : By (w2.alloc (.cells #[.int .u8 4] 5)) (w2.alloc (.cells #[.int .u8 4] 5)).heap.size (some ⟨w2.heap.size, 0, none⟩) 1 [4] := Rd.of_own hOa
      have K1 := K.alloc (.cells #[.int .u8 4] 5)
      have hb1 := hb.push (.cells #[.int .u8 4] 5)
      have hlw1 := hlw.boxed (.cells #[.int .u8 4] 5)
      simp [inB_iff] at hob2
      go_upto_region 5 with fail
      clear c0 c1 c2 c16 c17 c18 c19 c20 f0
      generalize hg5 : w2.heap.size = g5 at hOa hx gW ⊢
      have hgs : g5 ≤ (w2.alloc (.cells #[.int .u8 4] 5)).heap.size := by simp; omega
      generalize w2.alloc (.cells #[.int .u8 4] 5) = W at hOa hx K1 hb1 hlw1 hgs ⊢
      clear K hb hlw hg5
      obtain ⟨c0, c1, c2, c16, c17, c18, c19, c20, f0⟩ := K1.oc
      obtain ⟨bn, hnbn⟩ : ∃ b : UInt8, (b.toNat : Int) = n := ⟨UInt8.ofNat n.toNat, by simp; omega⟩
      subst hnbn
      have hwbn := u8w bn
      have hOb := World.ownsRow.alloc hOa (.cells #[.int .u8 (bn.toNat : Int)] 5)
      have hnw : Rd (W.alloc (.cells #[.int .u8 (bn.toNat : Int)] 5)) (W.heap.size + 1) 1 (some ⟨W.heap.size, 0, none⟩) 1 [.int .u8 (bn.toNat : Int)] := by simpa using (Bk.new W 5 #[.int .u8 (bn.toNat : Int)]).rd (n := 1) (size := 1) rfl
      have hgs2 : g5 ≤ (W.alloc (.cells #[.int .u8 (bn.toNat : Int)] 5)).heap.size := by simp; omega
      have hb2 := hb1.push (.cells #[.int .u8 (bn.toNat : Int)] 5)
      go_wp2_with (at_builtin; refine wpList_append_rd _ rfl _ _ _ rfl g5 5 i0 _ 1 1 Try.underlying32 hi0 hz0 hz1 hz2 rfl (by omega) (.slice (some ⟨g5, 0, none⟩) 1 1) 1 [.int .u8 4] rfl hOb (W.heap.size + 1) (some ⟨W.heap.size, 0, none⟩) 1 1 [.int .u8 (bn.toNat : Int)] rfl hnw (by simp [Value.oneCell']) (by unfold maxLen; omega) (by omega) hgs2 ?_; intro v5 w5 hown5 hg5 hat5; rw [show ([.int .u8 4] ++ [.int .u8 (bn.toNat : Int)] : List Value) = [4, bn].map byV by simp [byV]] at hown5; obtain ⟨A5, c5, rfl, hO5⟩ := own_of hown5)
      have hb3 := hb2.grown hg5 (by have := hb1.size; simp; omega) (fun j hj => by have := (hOb.lt j hj).1; omega)
      go_ret2
      exact ryQ_ok hoh.out hO5.by_ (by simp [orBy, be_one, be1]) hb3
    · have hOa := own_new w2 5 #[.int .u8 5] (by simp [maxLen])
      have hx : By (w2.alloc (.cells #[.int .u8 5] 5)) (w2.alloc (.cells #[.int .u8 5] 5)).heap.size (some ⟨w2.heap.size, 0, none⟩) 1 [5] := Rd.of_own hOa
      have K1 := K.alloc (.cells #[.int .u8 5] 5)
      have hb1 := hb.push (.cells #[.int .u8 5] 5)
      have hlw1 := hlw.boxed (.cells #[.int .u8 5] 5)
      simp [inB_iff] at hob2
      go_upto_region 5 with fail
      clear c0 c1 c2 c16 c17 c18 c19 c20 f0
      generalize hg5 : w2.heap.size = g5 at hOa hx gW ⊢
      have hgs : g5 ≤ (w2.alloc (.cells #[.int .u8 5] 5)).heap.size := by simp; omega
      generalize w2.alloc (.cells #[.int .u8 5] 5) = W at hOa hx K1 hb1 hlw1 hgs ⊢
      clear K hb hlw hg5
      obtain ⟨c0, c1, c2, c16, c17, c18, c19, c20, f0⟩ := K1.oc
      obtain ⟨bn, hnbn⟩ : ∃ b : UInt8, (b.toNat : Int) = n := ⟨UInt8.ofNat n.toNat, by simp; omega⟩
      subst hnbn
      have hwbn := u8w bn
      have hdr := K1.drew
      have e1 : (orC ⟨5, (bn.toNat : Int), m, r, p⟩ A L c)[1]? = some (.int .i64 (bn.toNat : Int)) := rfl
      have e2 : (orC ⟨5, (bn.toNat : Int), m, r, p⟩ A L c)[2]? = some (.int .i64 m) := rfl
      have hO1 : (W.alloc (.cells #[.int .u8 (bn.toNat : Int)] 5)).drew.ownsRow g5 5 1 (.slice (some ⟨g5, 0, none⟩) 1 1) 1 [.int .u8 5] := World.ownsRow.alloc hOa (.cells #[.int .u8 (bn.toNat : Int)] 5)
      have hO2 : ((W.alloc (.cells #[.int .u8 (bn.toNat : Int)] 5)).alloc (.cells #[.int .i64 m] 3)).drew.ownsRow g5 5 1 (.slice (some ⟨g5, 0, none⟩) 1 1) 1 [.int .u8 5] := World.ownsRow.alloc (World.ownsRow.alloc hOa (.cells #[.int .u8 (bn.toNat : Int)] 5)) (.cells #[.int .i64 m] 3)
      have hO3 : ((W.alloc (.cells #[.int .i64 m] 3)).alloc (.cells #[.int .u8 (bn.toNat : Int)] 5)).drew.ownsRow g5 5 1 (.slice (some ⟨g5, 0, none⟩) 1 1) 1 [.int .u8 5] := World.ownsRow.alloc (World.ownsRow.alloc hOa (.cells #[.int .i64 m] 3)) (.cells #[.int .u8 (bn.toNat : Int)] 5)
      have hn0 := Bk.new W 5 #[.int .u8 (bn.toNat : Int)]
      have hn1 : Rd (W.alloc (.cells #[.int .u8 (bn.toNat : Int)] 5)).drew (W.heap.size + 1) 1 (some ⟨W.heap.size, 0, none⟩) 1 [.int .u8 (bn.toNat : Int)] := by
        have := hn0.drew.rd (n := 1) (size := 1) rfl
        rw [drew_heap] at this
        simpa using this
      have hn2 : Rd ((W.alloc (.cells #[.int .u8 (bn.toNat : Int)] 5)).alloc (.cells #[.int .i64 m] 3)).drew (W.heap.size + 1 + 1) 1 (some ⟨W.heap.size, 0, none⟩) 1 [.int .u8 (bn.toNat : Int)] := by
        have := (hn0.alloc (.cells #[.int .i64 m] 3)).drew.rd (n := 1) (size := 1) rfl
        rw [drew_heap] at this
        simpa using this
      have hn3 : Rd ((W.alloc (.cells #[.int .i64 m] 3)).alloc (.cells #[.int .u8 (bn.toNat : Int)] 5)).drew (W.heap.size + 1 + 1) 1 (some ⟨W.heap.size + 1, 0, none⟩) 1 [.int .u8 (bn.toNat : Int)] := by
        have := (Bk.new (W.alloc (.cells #[.int .i64 m] 3)) 5 #[.int .u8 (bn.toNat : Int)]).drew.rd (n := 1) (size := 1) rfl
        rw [drew_heap] at this
        simpa using this
      have hM2 : Bk ((W.alloc (.cells #[.int .u8 (bn.toNat : Int)] 5)).alloc (.cells #[.int .i64 m] 3)).drew (W.heap.size + 1) 3 #[.int .i64 m] := (Bk.newAt' (w := W.alloc (.cells #[.int .u8 (bn.toNat : Int)] 5)) 3 #[.int .i64 m] (World.size_alloc _ _)).drew
      have hM3 : Bk ((W.alloc (.cells #[.int .i64 m] 3)).alloc (.cells #[.int .u8 (bn.toNat : Int)] 5)).drew W.heap.size 3 #[.int .i64 m] := ((Bk.new W 3 #[.int .i64 m]).alloc _).drew
      have hK1 := (K1.alloc (.cells #[.int .u8 (bn.toNat : Int)] 5)).drew
      have hK2 := ((K1.alloc (.cells #[.int .u8 (bn.toNat : Int)] 5)).alloc (.cells #[.int .i64 m] 3)).drew
      have hK3 := ((K1.alloc (.cells #[.int .i64 m] 3)).alloc (.cells #[.int .u8 (bn.toNat : Int)] 5)).drew
      have hK4 := (K1.alloc (.cells #[.int .i64 m] 3)).drew
      have hs1 : g5 ≤ (W.alloc (.cells #[.int .u8 (bn.toNat : Int)] 5)).drew.heap.size := by rw [drew_heap, World.size_alloc]; omega
      have hs2 : g5 ≤ ((W.alloc (.cells #[.int .u8 (bn.toNat : Int)] 5)).alloc (.cells #[.int .i64 m] 3)).drew.heap.size := by rw [drew_heap, World.size_alloc, World.size_alloc]; omega
      have hs3 : g5 ≤ ((W.alloc (.cells #[.int .i64 m] 3)).alloc (.cells #[.int .u8 (bn.toNat : Int)] 5)).drew.heap.size := by rw [drew_heap, World.size_alloc, World.size_alloc]; omega
      have hbd := hb1.drew
      have hbs := hb1.size
      have hgg : g5 < W.heap.size := by have := hOa.lt g5 rfl; omega
      have hbase1 : w.heap.size ≤ (W.alloc (.cells #[.int .u8 (bn.toNat : Int)] 5)).drew.heap.size := by rw [drew_heap, World.size_alloc]; omega
      have hbase2 : w.heap.size ≤ ((W.alloc (.cells #[.int .u8 (bn.toNat : Int)] 5)).alloc (.cells #[.int .i64 m] 3)).drew.heap.size := by rw [drew_heap, World.size_alloc, World.size_alloc]; omega
      have hbase3 : w.heap.size ≤ ((W.alloc (.cells #[.int .i64 m] 3)).alloc (.cells #[.int .u8 (bn.toNat : Int)] 5)).drew.heap.size := by rw [drew_heap, World.size_alloc, World.size_alloc]; omega
      have hgw : w.heap.size ≤ g5 := by omega
      go_wp2_with fail
      clear c0 c16 c17 c18 c19 c20 f0
      go_region_held3 (fun w' => w'.cell? ⟨w.heap.size, 1, none⟩ = some (.int .i64 (bn.toNat : Int)) ∧ w'.cell? ⟨w.heap.size, 2, none⟩ = some (.int .i64 m)) (first | (with_reducible exact ⟨hdr.cellv e1, hdr.cellv e2⟩) | (with_reducible exact ⟨hK1.cellv e1, hK1.cellv e2⟩) | (with_reducible exact ⟨hK2.cellv e1, hK2.cellv e2⟩) | (with_reducible exact ⟨hK3.cellv e1, hK3.cellv e2⟩) | (with_reducible exact ⟨hK4.cellv e1, hK4.cellv e2⟩) | (with_reducible exact ⟨KA.cellv e1, KA.cellv e2⟩) | (with_reducible exact ⟨(KA.alloc _).cellv e1, (KA.alloc _).cellv e2⟩) | (with_reducible exact ⟨KP.cellv e1, KP.cellv e2⟩)) (first  | (rw [if_pos (by rfl)]; (refine wp_append_rd _ _ _ 32 rfl g5 5 i0 _ 1 1 Try.underlying32 hi0 hz0 hz1 hz2 rfl (by omega) (.slice (some ⟨g5, 0, none⟩) 1 1) 1 [.int .u8 5] (by rfl) (by with_reducible exact hO1) (W.heap.size + 1) (some ⟨W.heap.size, 0, none⟩) 1 1 [.int .u8 (bn.toNat : Int)] (by rfl) (by with_reducible exact hn1) (by simp [Value.oneCell']) (by unfold maxLen; omega) (by omega) (by with_reducible exact hs1) ?_); intro v5 w5 hown5 hg5 hat5; rw [show ([.int .u8 5] ++ [.int .u8 (bn.toNat : Int)] : List Value) = [5, bn].map byV by simp [byV]] at hown5; obtain ⟨A5, c5, rfl, hO5⟩ := own_of hown5; have KA := hK1.grown hg5 (own_far hO1 (by omega)); have hb5 := ((hb1.push (.cells #[.int .u8 (bn.toNat : Int)] 5)).drew).grown hg5 hbase1 (fun j hj => by have := (hO1.lt j hj).1; omega)) | (rw [if_pos (by rfl)]; (refine wp_append_rd _ _ _ 32 rfl g5 5 i0 _ 1 1 Try.underlying32 hi0 hz0 hz1 hz2 rfl (by omega) (.slice (some ⟨g5, 0, none⟩) 1 1) 1 [.int .u8 5] (by rfl) (by with_reducible exact hO2) (W.heap.size + 1 + 1) (some ⟨W.heap.size, 0, none⟩) 1 1 [.int .u8 (bn.toNat : Int)] (by rfl) (by with_reducible exact hn2) (by simp [Value.oneCell']) (by unfold maxLen; omega) (by omega) (by with_reducible exact hs2) ?_); intro v5 w5 hown5 hg5 hat5; rw [show ([.int .u8 5] ++ [.int .u8 (bn.toNat : Int)] : List Value) = [5, bn].map byV by simp [byV]] at hown5; obtain ⟨A5, c5, rfl, hO5⟩ := own_of hown5; have KA := hK2.grown hg5 (own_far hO2 (by omega)); have hb5 := (((hb1.push (.cells #[.int .u8 (bn.toNat : Int)] 5)).push (.cells #[.int .i64 m] 3)).drew).grown hg5 hbase2 (fun j hj => by have := (hO2.lt j hj).1; omega); have KM := hM2.grown hg5 (own_far0 hO2 (by omega))) | (rw [if_pos (by rfl)]; (refine wp_append_rd _ _ _ 32 rfl g5 5 i0 _ 1 1 Try.underlying32 hi0 hz0 hz1 hz2 rfl (by omega) (.slice (some ⟨g5, 0, none⟩) 1 1) 1 [.int .u8 5] (by rfl) (by with_reducible exact hO3) (W.heap.size + 1 + 1) (some ⟨(W.heap.size + 1), 0, none⟩) 1 1 [.int .u8 (bn.toNat : Int)] (by rfl) (by with_reducible exact hn3) (by simp [Value.oneCell']) (by unfold maxLen; omega) (by omega) (by with_reducible exact hs3) ?_); intro v5 w5 hown5 hg5 hat5; rw [show ([.int .u8 5] ++ [.int .u8 (bn.toNat : Int)] : List Value) = [5, bn].map byV by simp [byV]] at hown5; obtain ⟨A5, c5, rfl, hO5⟩ := own_of hown5; have KA := hK3.grown hg5 (own_far hO3 (by omega)); have hb5 := (((hb1.push (.cells #[.int .i64 m] 3)).push (.cells #[.int .u8 (bn.toNat : Int)] 5)).drew).grown hg5 hbase3 (fun j hj => by have := (hO3.lt j hj).1; omega); have KM := hM3.grown hg5 (own_far0 hO3 (by omega))) | (go_at_call 60; (with_reducible show Calls Try.prog 60 #[_, _, .slice (some ⟨W.heap.size + 1, 0, none⟩) _ _] _ _); refine (rput1 A5 _ 2 c5 1 2 [5, bn] m _ hO5.by_ (KM.rd (n := 1) (size := 1) rfl) (by omega) (by omega) (by omega)).mono ?_; rintro e w7 ⟨A7, N7, cc7, rfl, hO7, hb7⟩; have KP := KA.kept hb7; have hbF := hb5.next hb7) | (go_at_call 60; (with_reducible show Calls Try.prog 60 #[_, _, .slice (some ⟨W.heap.size, 0, none⟩) _ _] _ _); refine (rput1 A5 _ 2 c5 1 2 [5, bn] m _ hO5.by_ (KM.rd (n := 1) (size := 1) rfl) (by omega) (by omega) (by omega)).mono ?_; rintro e w7 ⟨A7, N7, cc7, rfl, hO7, hb7⟩; have KP := KA.kept hb7; have hbF := hb5.next hb7) | (go_at_call 60; (with_reducible show Calls Try.prog 60 #[_, _, .slice (some ⟨w5.heap.size, 0, none⟩) _ _] _ _); refine (rput1 A5 _ 2 c5 1 2 [5, bn] m _ (hO5.by_.boxed (.cells #[.int .i64 m] 3)) (In.box w5 m) (by omega) (by omega) (by omega)).mono ?_; rintro e w7 ⟨A7, N7, cc7, rfl, hO7, hb7⟩; have KP := (KA.alloc (.cells #[.int .i64 m] 3)).kept hb7; have hbF := (hb5.push (.cells #[.int .i64 m] 3)).next hb7))
      all_goals
        go_wp2_with fail
        go_ret2
        exact ryQ_ok hoh.out hO7.by_ (by simp [orBy, be_one, be1]) hbF
    · have hOa := own_new w2 5 #[.int .u8 6] (by simp [maxLen])
      have hx : By (w2.alloc (.cells #[.int .u8 6] 5)) (w2.alloc (.cells #[.int .u8 6] 5)).heap.size (some ⟨w2.heap.size, 0, none⟩) 1 [6] := Rd.of_own hOa
      have K1 := K.alloc (.cells #[.int .u8 6] 5)
      have hb1 := hb.push (.cells #[.int .u8 6] 5)
      have hlw1 := hlw.boxed (.cells #[.int .u8 6] 5)
      simp [inB_iff] at hob2
      go_upto_region 5 with fail
      clear c0 c1 c2 c16 c17 c18 c19 c20 f0
      generalize hg5 : w2.heap.size = g5 at hOa hx gW ⊢
      have hgs : g5 ≤ (w2.alloc (.cells #[.int .u8 6] 5)).heap.size := by simp; omega
      generalize w2.alloc (.cells #[.int .u8 6] 5) = W at hOa hx K1 hb1 hlw1 hgs ⊢
      clear K hb hlw hg5
      obtain ⟨c0, c1, c2, c16, c17, c18, c19, c20, f0⟩ := K1.oc
      have hp := Lib.hid (rput1 (some ⟨g5, 0, none⟩) _ 1 1 1 4 [6] n _ (hx.boxed (.cells #[.int .i64 n] 3)) (In.box W n) (by omega) (by omega) (by omega))
      go_wp2_with (go_at_call 60; refine hp.out.mono ?_; rintro e w3 ⟨A3, N3, cc3, rfl, hO3, hbb3⟩)
      have hb3 := (hb1.push (.cells #[.int .i64 n] 3)).next hbb3
      go_ret2
      exact ryQ_ok hoh.out hO3.by_ (by simp [orBy, be_one]) hb3
    · have hOa := own_new w2 5 #[.int .u8 7] (by simp [maxLen])
      have hx : By (w2.alloc (.cells #[.int .u8 7] 5)) (w2.alloc (.cells #[.int .u8 7] 5)).heap.size (some ⟨w2.heap.size, 0, none⟩) 1 [7] := Rd.of_own hOa
      have K1 := K.alloc (.cells #[.int .u8 7] 5)
      have hb1 := hb.push (.cells #[.int .u8 7] 5)
      have hlw1 := hlw.boxed (.cells #[.int .u8 7] 5)
      simp [inB_iff] at hob2
      go_upto_region 5 with fail
      clear c0 c1 c2 c16 c17 c18 c19 c20 f0
      generalize hg5 : w2.heap.size = g5 at hOa hx gW ⊢
      have hgs : g5 ≤ (w2.alloc (.cells #[.int .u8 7] 5)).heap.size := by simp; omega
      generalize w2.alloc (.cells #[.int .u8 7] 5) = W at hOa hx K1 hb1 hlw1 hgs ⊢
      clear K hb hlw hg5
      obtain ⟨c0, c1, c2, c16, c17, c18, c19, c20, f0⟩ := K1.oc
      have hp := Lib.hid (rput1 (some ⟨g5, 0, none⟩) _ 1 1 1 4 [7] n _ (hx.boxed (.cells #[.int .i64 n] 3)) (In.box W n) (by omega) (by omega) (by omega))
      go_upto_region 19 with (go_at_call 60; refine hp.out.mono ?_; rintro e w3 ⟨A3, N3, cc3, rfl, hO3, hbb3⟩)
      have hb3 := (hb1.push (.cells #[.int .i64 n] 3)).next hbb3
      have K3 := (K1.alloc (.cells #[.int .i64 n] 3)).kept hbb3
      clear c0 c1 c2 c16 c17 c18 c19 c20 f0 hp
      obtain ⟨c0, c1, c2, c16, c17, c18, c19, c20, f0⟩ := K3.oc
      have hN3 : N3 ≤ 10 := by have h1 := hO3.len; simp [be_len] at h1; omega
      have hx3 := hO3.by_
      have hp := Lib.hid (rput1 A3 _ N3 cc3 1 2 ([7] ++ be 4 n.toNat) m _ (hx3.boxed (.cells #[.int .i64 m] 3)) (In.box w3 m) (by omega) (by omega) (by omega))
      go_wp2_with (go_at_call 60; refine hp.out.mono ?_; rintro e w4 ⟨A4, N4, cc4, rfl, hO4, hbb4⟩)
      have hb4 := (hb3.push (.cells #[.int .i64 m] 3)).next hbb4
      go_ret2
      exact ryQ_ok hoh.out hO4.by_ (by simp [orBy, be_one]) hb4
    · have hOa := own_new w2 5 #[.int .u8 8] (by simp [maxLen])
      have hx : By (w2.alloc (.cells #[.int .u8 8] 5)) (w2.alloc (.cells #[.int .u8 8] 5)).heap.size (some ⟨w2.heap.size, 0, none⟩) 1 [8] := Rd.of_own hOa
      have K1 := K.alloc (.cells #[.int .u8 8] 5)
      have hb1 := hb.push (.cells #[.int .u8 8] 5)
      have hlw1 := hlw.boxed (.cells #[.int .u8 8] 5)
      simp [inB_iff] at hob2
      go_upto_region 5 with fail
      clear c0 c1 c2 c16 c17 c18 c19 c20 f0
      generalize hg5 : w2.heap.size = g5 at hOa hx gW ⊢
      have hgs : g5 ≤ (w2.alloc (.cells #[.int .u8 8] 5)).heap.size := by simp; omega
      generalize w2.alloc (.cells #[.int .u8 8] 5) = W at hOa hx K1 hb1 hlw1 hgs ⊢
      clear K hb hlw hg5
      obtain ⟨c0, c1, c2, c16, c17, c18, c19, c20, f0⟩ := K1.oc
      have hpb := Lib.hid (rpbytes_any p.f p.fp p.t p.tp p.n W hob2.1.ok)
      go_upto_region 22 with (go_at_call 81; refine hpb.out.mono ?_; rintro e w3 ⟨A3, N3, c3, rfl, hO3, hb3⟩)
      have hx3 := (hx.below hb3).more hb3.size
      have hl9 := hO3.len
      rw [prB_len] at hl9
      have htx := Lib.hid (rtexts_any (some ⟨g5, 0, none⟩) A3 1 1 N3 c3 [8] (prB p.f p.fp p.t p.tp p.n) w3 hx3 hO3.by_ (by omega) (by omega))
      have hb3 := hb1.next hb3
      clear hpb
      go_wp2_with (go_at_call 61; refine htx.out.mono ?_; rintro e w4 ⟨A4, N4, c4, rfl, hO4, hb4⟩)
      go_ret2
      exact ryQ_ok hoh.out hO4.by_ (by simp [orBy, be_one, prBy_eq, prB_len, ← hl9]) (hb3.next hb4)
    · have hOa := own_new w2 5 #[.int .u8 9] (by simp [maxLen])
      have hx : By (w2.alloc (.cells #[.int .u8 9] 5)) (w2.alloc (.cells #[.int .u8 9] 5)).heap.size (some ⟨w2.heap.size, 0, none⟩) 1 [9] := Rd.of_own hOa
      have K1 := K.alloc (.cells #[.int .u8 9] 5)
      have hb1 := hb.push (.cells #[.int .u8 9] 5)
      have hlw1 := hlw.boxed (.cells #[.int .u8 9] 5)
      simp [inB_iff] at hob2
      go_upto_region 5 with fail
      clear c0 c1 c2 c16 c17 c18 c19 c20 f0
      generalize hg5 : w2.heap.size = g5 at hOa hx gW ⊢
      have hgs : g5 ≤ (w2.alloc (.cells #[.int .u8 9] 5)).heap.size := by simp; omega
      generalize w2.alloc (.cells #[.int .u8 9] 5) = W at hOa hx K1 hb1 hlw1 hgs ⊢
      clear K hb hlw hg5
      obtain ⟨c0, c1, c2, c16, c17, c18, c19, c20, f0⟩ := K1.oc
      obtain ⟨bn, hnbn⟩ : ∃ b : UInt8, (b.toNat : Int) = n := ⟨UInt8.ofNat n.toNat, by simp; omega⟩
      subst hnbn
      have hwbn := u8w bn
      obtain ⟨bm, hnbm⟩ : ∃ b : UInt8, (b.toNat : Int) = m := ⟨UInt8.ofNat m.toNat, by simp; omega⟩
      subst hnbm
      have hwbm := u8w bm
      have hOb := World.ownsRow.alloc hOa (.cells #[.int .u8 (bn.toNat : Int), .int .u8 (bm.toNat : Int)] 5)
      have hnw : Rd (W.alloc (.cells #[.int .u8 (bn.toNat : Int), .int .u8 (bm.toNat : Int)] 5)) (W.heap.size + 1) 1 (some ⟨W.heap.size, 0, none⟩) 2 [.int .u8 (bn.toNat : Int), .int .u8 (bm.toNat : Int)] := by simpa using (Bk.new W 5 #[.int .u8 (bn.toNat : Int), .int .u8 (bm.toNat : Int)]).rd (n := 2) (size := 1) rfl
      have hgs2 : g5 ≤ (W.alloc (.cells #[.int .u8 (bn.toNat : Int), .int .u8 (bm.toNat : Int)] 5)).heap.size := by simp; omega
      have hb2 := hb1.push (.cells #[.int .u8 (bn.toNat : Int), .int .u8 (bm.toNat : Int)] 5)
      go_wp2_with (at_builtin; refine wpList_append_rd _ rfl _ _ _ rfl g5 5 i0 _ 1 1 Try.underlying32 hi0 hz0 hz1 hz2 rfl (by omega) (.slice (some ⟨g5, 0, none⟩) 1 1) 1 [.int .u8 9] rfl hOb (W.heap.size + 1) (some ⟨W.heap.size, 0, none⟩) 2 2 [.int .u8 (bn.toNat : Int), .int .u8 (bm.toNat : Int)] rfl hnw (by simp [Value.oneCell']) (by unfold maxLen; omega) (by omega) hgs2 ?_; intro v5 w5 hown5 hg5 hat5; rw [show ([.int .u8 9] ++ [.int .u8 (bn.toNat : Int), .int .u8 (bm.toNat : Int)] : List Value) = [9, bn, bm].map byV by simp [byV]] at hown5; obtain ⟨A5, c5, rfl, hO5⟩ := own_of hown5)
      have hb3 := hb2.grown hg5 (by have := hb1.size; simp; omega) (fun j hj => by have := (hOb.lt j hj).1; omega)
      go_ret2
      exact ryQ_ok hoh.out hO5.by_ (by simp [orBy, be_one, be1]) hb3
end Go.Proofs.Ytfnnjaljnfphlaa
