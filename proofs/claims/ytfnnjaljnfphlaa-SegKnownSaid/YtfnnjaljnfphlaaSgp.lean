/- seg.Parse. -/
import Derived.Test.YtfnnjaljnfphlaaSgf
import Derived.Test.YtfnnjaljnfphlaaSgk
import Derived.Test.YtfnnjaljnfphlaaRdr
namespace Go.Proofs.Ytfnnjaljnfphlaa
open Go.RowKit
set_option maxRecDepth 100000
set_option maxHeartbeats 6000000
set_option linter.unusedSimpArgs false
set_option linter.unusedVariables false

/-- The eight numbers of a segment, read. -/
def sg8 (s : Rs) : (Nat × Nat × Nat × Nat × Nat × Nat × Nat × Nat) × Rs :=
  let a := rn 1 s
  let b := rn 1 a.2
  let c := rn 1 b.2
  let d := rn 1 c.2
  let e := rn 4 d.2
  let f := rn 4 e.2
  let g := rn 2 f.2
  let h := rn 2 g.2
  ((a.1, b.1, c.1, d.1, e.1, f.1, g.1, h.1), h.2)
def Z9 : Array Value := #[.int .i64 0, .int .i64 0, .int .i64 0, .int .i64 0, .int .i64 0, .int .i64 0, .int .i64 0, .int .i64 0, .slice none 0 0]
theorem rdF_eight (s : Rs) : rdF 2 6 2 (rdF 4 4 2 (rdF 1 0 4 (#[.int .i64 0, .int .i64 0, .int .i64 0, .int .i64 0, .int .i64 0, .int .i64 0, .int .i64 0, .int .i64 0, .slice none 0 0], s))) =
    (#[.int .i64 (sg8 s).1.1, .int .i64 (sg8 s).1.2.1, .int .i64 (sg8 s).1.2.2.1, .int .i64 (sg8 s).1.2.2.2.1, .int .i64 (sg8 s).1.2.2.2.2.1, .int .i64 (sg8 s).1.2.2.2.2.2.1, .int .i64 (sg8 s).1.2.2.2.2.2.2.1, .int .i64 (sg8 s).1.2.2.2.2.2.2.2, .slice none 0 0], (sg8 s).2) := by simp [rdF, sg8]
def spQ (l : List UInt8) : Nat × Nat × Nat × Nat × Nat × Nat × Nat × Nat := (sg8 ((openB l).2.1, 0)).1
def spT (l : List UInt8) : List UInt8 × Rs := rt (sg8 ((openB l).2.1, 0)).2
def spE (l : List UInt8) : Int :=
  if (openB l).2.2 ≠ 0 then (openB l).2.2
  else if (openB l).1 = 3 ∧ endE (spT l).2 = 0 ∧ SgOk (spQ l).1 (spQ l).2.1 (spQ l).2.2.1 (spQ l).2.2.2.1 (spQ l).2.2.2.2.1 (spQ l).2.2.2.2.2.1 (spQ l).2.2.2.2.2.2.1 (spQ l).2.2.2.2.2.2.2 (spT l).1.length then 0 else 4
def spV (l : List UInt8) (x : Nat) : Int := if spE l = 0 then (x : Int) else 0
def spL (l : List UInt8) : List UInt8 := if spE l = 0 then (spT l).1 else []

theorem kind9 {a b c d e f g h : Int} {A : Option Addr} {N m : Nat} : ∀ v ∈ (#[.int .i64 a, .int .i64 b, .int .i64 c, .int .i64 d, .int .i64 e, .int .i64 f, .int .i64 g, .int .i64 h, .slice A N m] : Array Value).toList, ∀ x, v ≠ .int .u8 x := by
  intro v hv x e
  simp at hv
  rcases hv with rfl | rfl | rfl | rfl | rfl | rfl | rfl | rfl | rfl <;> cases e

theorem RdS.push {t : TypeId} {w : World} {g : Nat} {s : Rs} (h : RdS t w g s) (o : Obj) : RdS t (w.alloc o) g s := h.below ((Below.refl _ w).push o)
theorem Bk.newAt {w : World} {n : Nat} (t : TypeId) (cs : Array Value) (h : w.heap.size = n) : Bk (w.alloc (.cells cs t)) n t cs := by rw [← h]; exact Bk.new w t cs
theorem OwnB.of_heap {w w' : World} {b : Nat} {A : Option Addr} {N c : Nat} {l : List UInt8} (h : OwnB w b A N c l) (hk : ∀ g, b ≤ g → g < w.heap.size → w'.heap[g]? = w.heap[g]?) : OwnB w' b A N c l := by
  refine ⟨h.1, ?_⟩
  rcases h.2 with h2 | ⟨g, cap, cur, hv, hg, hh, r⟩
  · exact .inl h2
  · exact .inr ⟨g, cap, cur, hv, hg, (hk g hg (Array.getElem?_eq_some_iff.1 hh).1).trans hh, r⟩
theorem OwnB.next {w w' : World} {b : Nat} {A : Option Addr} {N c : Nat} {l : List UInt8} (h : OwnB w b A N c l) (hb : Below w.heap.size w w') : OwnB w' b A N c l := h.of_heap fun g _ hg => hb.block g hg
theorem OwnB.set_ {w : World} {b g : Nat} {A : Option Addr} {N c : Nat} {l : List UInt8} (h : OwnB w b A N c l) (hg : g < b) (i : Nat) (u : Value) : OwnB (w.setCell ⟨g, i, none⟩ u) b A N c l :=
  h.of_heap fun j hj _ => Below.heap_setCell w _ u j (by simp; omega)
theorem own_set9 {w : World} {b g : Nat} {A : Option Addr} {N c : Nat} {l : List UInt8} (h : OwnB w b A N c l) (hg : g < b) (a0 a1 a2 a3 a4 a5 a6 a7 a8 : Value) :
    OwnB (((((((((w.setCell ⟨g, 0, none⟩ a0).setCell ⟨g, 1, none⟩ a1).setCell ⟨g, 2, none⟩ a2).setCell ⟨g, 3, none⟩ a3).setCell ⟨g, 4, none⟩ a4).setCell ⟨g, 5, none⟩ a5).setCell ⟨g, 6, none⟩ a6).setCell ⟨g, 7, none⟩ a7).setCell ⟨g, 8, none⟩ a8) b A N c l :=
  ((((((((h.set_ hg _ _).set_ hg _ _).set_ hg _ _).set_ hg _ _).set_ hg _ _).set_ hg _ _).set_ hg _ _).set_ hg _ _).set_ hg _ _
theorem sparse_any (A : Option Addr) (N c : Nat) (l : List UInt8) (w : World) (hl : By w w.heap.size A N l) (hc : N ≤ c) :
    Calls Try.prog 45 #[.slice A N c] w fun e w' => ∃ A' N' c', e = .returned (.tuple #[.agg (sgC (spV l (spQ l).1) (spV l (spQ l).2.1) (spV l (spQ l).2.2.1) (spV l (spQ l).2.2.2.1) (spV l (spQ l).2.2.2.2.1) (spV l (spQ l).2.2.2.2.2.1) (spV l (spQ l).2.2.2.2.2.2.1) (spV l (spQ l).2.2.2.2.2.2.2) A' N' c'), .int .i64 (spE l)]) ∧
      OwnB w' w.heap.size A' N' c' (spL l) ∧ Below w.heap.size w w' := by
  have hmf : ∀ (fn : Fn) (first cap : Array Value) (w : World), (Instr.makeFunc fn first cap).run Try.prog w = .ok (.func fn first cap) w := fun _ _ _ _ => rfl
  obtain ⟨k, body, er, ho⟩ : ∃ k body er, openB l = (k, body, er) := ⟨_, _, _, rfl⟩
  have hl0 := hl.boxed (.cells #[.int .i64 0, .int .i64 0, .int .i64 0, .int .i64 0, .int .i64 0, .int .i64 0, .int .i64 0, .int .i64 0, .slice none 0 0] 34)
  have hop := open_any A N c l _ hl0 hc
  rw [ho] at hop
  have HO := Lib.hid hop
  clear hop
  unfold sgC
  by_cases he : er = 0
  · subst he
    go_enter Try.func45, Try.ntmps45
    go_wp2_with fail
    refine HO.out.mono ?_
    rintro e w1 ⟨A1, N1, c1, rfl, hO1, hb1⟩
    have KG := (Bk.new w 34 _).kept hb1
    have hs1 : w.heap.size + 1 ≤ w1.heap.size := by have := hb1.size; simpa using this
    have hB1 : Below w.heap.size w w1 := Below.new _ hb1
    have hy := hO1.by_.boxed (.cells #[.int .i64 0, .int .i64 0, .int .i64 0, .int .i64 0, .int .i64 0, .int .i64 0, .int .i64 0, .int .i64 0, .slice none 0 0] 34)
    have KS := Bk.new w1 34 #[.int .i64 0, .int .i64 0, .int .i64 0, .int .i64 0, .int .i64 0, .int .i64 0, .int .i64 0, .int .i64 0, .slice none 0 0]
    have KG := KG.alloc (.cells #[.int .i64 0, .int .i64 0, .int .i64 0, .int .i64 0, .int .i64 0, .int .i64 0, .int .i64 0, .int .i64 0, .slice none 0 0] 34)
    have hB1 := hB1.push (.cells #[.int .i64 0, .int .i64 0, .int .i64 0, .int .i64 0, .int .i64 0, .int .i64 0, .int .i64 0, .int .i64 0, .slice none 0 0] 34)
    have hcap := hO1.cap
    clear hO1 hb1
    go_wp2_with fail
    refine (read_any A1 N1 c1 body _ hy hcap).mono ?_
    rintro e w2 ⟨rfl, hR, hb2, hz2⟩
    have KG := KG.kept hb2
    have KS := KS.kept hb2
    have hB2 := hB1.next hb2
    rw [World.size_alloc] at hR
    have HZ2 := Lib.hid (show w2.heap.size = w1.heap.size + 1 + 1 by rw [hz2, World.size_alloc])
    clear hz2 hb2 hy hB1 hl0
    have hG := Bk.new w2 90 #[.pointer (some ⟨w1.heap.size + 1, 0, none⟩)]
    have KG := (KG.alloc (.cells #[.pointer (some ⟨w1.heap.size + 1, 0, none⟩)] 90))
    have KS := (KS.alloc (.cells #[.pointer (some ⟨w1.heap.size + 1, 0, none⟩)] 90))
    have hR := hR.push (.cells #[.pointer (some ⟨w1.heap.size + 1, 0, none⟩)] 90)
    have hB2 := hB2.push (.cells #[.pointer (some ⟨w1.heap.size + 1, 0, none⟩)] 90)
    have HZ3 := Lib.hid (show (w2.alloc (.cells #[.pointer (some ⟨w1.heap.size + 1, 0, none⟩)] 90)).heap.size = w2.heap.size + 1 by rw [World.size_alloc])
    go_wp2_with fail
    generalize w2.alloc _ = w3 at KG KS hR hG hB2 HZ3 ⊢
    generalize w2.heap.size = r at hG HZ2 HZ3 ⊢
    generalize w1.heap.size = s at KG KS hR hG hs1 HZ2 HZ3 ⊢
    have hr1 : s + 1 < r := by have := HZ2.out; omega
    clear HZ2
    have hP0 := Bk.newAt (w := w3) 67 #[.pointer (some ⟨s, 0, none⟩), .pointer (some ⟨s, 1, none⟩), .pointer (some ⟨s, 2, none⟩), .pointer (some ⟨s, 3, none⟩)] HZ3.out
    have F0 := fill_any 1 0 4 (w.heap.size + 1) (r + 1) r (s + 1) s _ #[.pointer (some ⟨s, 0, none⟩), .pointer (some ⟨s, 1, none⟩), .pointer (some ⟨s, 2, none⟩), .pointer (some ⟨s, 3, none⟩)] _ _ (by omega) (by omega) (by simp) hP0 (fun j hj => by match j, hj with
      | 0, _ => rfl
      | 1, _ => rfl
      | 2, _ => rfl
      | 3, _ => rfl) (KS.alloc _) (hR.push _) (hG.alloc _) (by omega) (by omega) (by omega) (by omega) (by omega) (by omega) (by omega) kind9 (by have := hB2.size; simp; omega)
    refine F0.mono ?_
    rintro e w4 ⟨rfl, KS, hR, hKp, hbB⟩
    have hG := hKp.bkk (hG.alloc (.cells #[.pointer (some ⟨s, 0, none⟩), .pointer (some ⟨s, 1, none⟩), .pointer (some ⟨s, 2, none⟩), .pointer (some ⟨s, 3, none⟩)] 67)) (by omega)
    have KG := (KG.alloc (.cells #[.pointer (some ⟨s, 0, none⟩), .pointer (some ⟨s, 1, none⟩), .pointer (some ⟨s, 2, none⟩), .pointer (some ⟨s, 3, none⟩)] 67)).below hbB (by omega)
    have hB2 := (hB2.push (.cells #[.pointer (some ⟨s, 0, none⟩), .pointer (some ⟨s, 1, none⟩), .pointer (some ⟨s, 2, none⟩), .pointer (some ⟨s, 3, none⟩)] 67)).trans (hbB.mono (by omega))
    have KK := rdF_kind 1 0 4 (#[.int .i64 0, .int .i64 0, .int .i64 0, .int .i64 0, .int .i64 0, .int .i64 0, .int .i64 0, .int .i64 0, .slice none 0 0], ((body, 0) : Rs)) kind9
    clear F0 hP0 hKp hbB
    obtain ⟨p1, hp1⟩ : ∃ p, rdF 1 0 4 (#[.int .i64 0, .int .i64 0, .int .i64 0, .int .i64 0, .int .i64 0, .int .i64 0, .int .i64 0, .int .i64 0, .slice none 0 0], ((body, 0) : Rs)) = p := ⟨_, rfl⟩
    have hq1 : p1.1.size = 9 := by rw [← hp1, rdF_size]; rfl
    rw [hp1] at KS hR KK
    have HP1 := Lib.hid hp1
    have HQ1 := Lib.hid hq1
    clear hp1 hq1
    have KSlt := KS.lt
    have KRlt := hR.lt
    have KGlt := hG.lt
    go_wp2_with fail
    have hP1 := Bk.new w4 67 #[.pointer (some ⟨s, 4, none⟩), .pointer (some ⟨s, 5, none⟩)]
    have F1 := fill_any 4 4 2 (w.heap.size + 1) w4.heap.size r (s + 1) s _ #[.pointer (some ⟨s, 4, none⟩), .pointer (some ⟨s, 5, none⟩)] _ _ (by omega) (by omega) (by rw [HQ1.out]; omega) hP1 (fun j hj => by match j, hj with
      | 0, _ => rfl
      | 1, _ => rfl) (KS.alloc _) (hR.push _) (hG.alloc _) (by omega) (by omega) (by omega) (by omega) (by omega) (by omega) (by omega) KK (by have := hB2.size; simp; omega)
    refine F1.mono ?_
    rintro e w5 ⟨rfl, KS, hR, hKp, hbB⟩
    have hG := hKp.bkk (hG.alloc (.cells #[.pointer (some ⟨s, 4, none⟩), .pointer (some ⟨s, 5, none⟩)] 67)) (by omega)
    have KG := (KG.alloc (.cells #[.pointer (some ⟨s, 4, none⟩), .pointer (some ⟨s, 5, none⟩)] 67)).below hbB (by omega)
    have hB2 := (hB2.push (.cells #[.pointer (some ⟨s, 4, none⟩), .pointer (some ⟨s, 5, none⟩)] 67)).trans (hbB.mono (by omega))
    have KK := rdF_kind 4 4 2 (p1.1, p1.2) KK
    clear F1 hP1 hKp hbB
    have KSlt := KS.lt
    have KRlt := hR.lt
    have KGlt := hG.lt
    go_wp2_with fail
    have hP2 := Bk.new w5 67 #[.pointer (some ⟨s, 6, none⟩), .pointer (some ⟨s, 7, none⟩)]
    have F2 := fill_any 2 6 2 (w.heap.size + 1) w5.heap.size r (s + 1) s _ #[.pointer (some ⟨s, 6, none⟩), .pointer (some ⟨s, 7, none⟩)] _ _ (by omega) (by omega) (by have := rdF_size 4 4 2 (p1.1, p1.2); rw [this]; show 6 + 2 ≤ p1.1.size; rw [HQ1.out]; omega) hP2 (fun j hj => by match j, hj with
      | 0, _ => rfl
      | 1, _ => rfl) (KS.alloc _) (hR.push _) (hG.alloc _) (by omega) (by omega) (by omega) (by omega) (by omega) (by omega) (by omega) KK (by have := hB2.size; simp; omega)
    refine F2.mono ?_
    rintro e w6 ⟨rfl, KS, hR, hKp, hbB⟩
    have hG := hKp.bkk (hG.alloc (.cells #[.pointer (some ⟨s, 6, none⟩), .pointer (some ⟨s, 7, none⟩)] 67)) (by omega)
    have KG := (KG.alloc (.cells #[.pointer (some ⟨s, 6, none⟩), .pointer (some ⟨s, 7, none⟩)] 67)).below hbB (by omega)
    have hB2 := (hB2.push (.cells #[.pointer (some ⟨s, 6, none⟩), .pointer (some ⟨s, 7, none⟩)] 67)).trans (hbB.mono (by omega))
    clear F2 hP2 hKp hbB
    have hx := rdF_eight (body, 0)
    rw [HP1.out] at hx
    have KS : Bk w6 s 34 (rdF 2 6 2 (rdF 4 4 2 p1)).1 := KS
    have hR : RdS 130 w6 (s + 1) (rdF 2 6 2 (rdF 4 4 2 p1)).2 := hR
    rw [hx] at KS hR
    have HQ := Lib.hid (show spQ l = (sg8 (body, 0)).1 by unfold spQ; rw [ho])
    have HT := Lib.hid (show spT l = rt (sg8 (body, 0)).2 by unfold spT; rw [ho])
    obtain ⟨qq, hqq⟩ : ∃ q, sg8 (body, 0) = q := ⟨_, rfl⟩
    obtain ⟨⟨k', t', f', h', ep', bo', sq', ac'⟩, st⟩ := qq
    rw [hqq] at KS hR HQ HT
    simp only at KS hR HQ HT
    have HE := Lib.hid (show spE l = if k = 3 ∧ endE (rt st).2 = 0 ∧ SgOk k' t' f' h' ep' bo' sq' ac' (rt st).1.length then 0 else 4 by
      unfold spE; rw [ho]; simp only [ne_eq, not_true, if_false]; rw [HT.out, HQ.out])
    have Hho := Lib.hid ho
    clear hqq ho hx KK
    have g0 := hG.one.1
    have KSlt := KS.lt
    go_wp2_with fail
    refine (rtext_any _ _ _ hR).mono ?_
    rintro e w7 ⟨A7, N7, c7, rfl, hO7, hR, hg7⟩
    have KS := KS.grown hg7 (by intro e; injection e with e; omega)
    have KG := KG.grown hg7 (by intro e; injection e with e; omega)
    have hG := hG.grown hg7 (by intro e; injection e with e; omega)
    have hB7 := below_of_grown hB2 hg7 hB2.size (by omega)
    obtain ⟨c0, c1', c2, c3, c4, c5, c6, c7', c8, f0⟩ := KS.nine
    have g0 := hG.one.1
    have hN7 := hO7.len
    have KS8 : Bk (w7.setCell ⟨s, 8, none⟩ (.slice A7 N7 c7)) s 34 #[.int .i64 k', .int .i64 t', .int .i64 f', .int .i64 h', .int .i64 ep', .int .i64 bo', .int .i64 sq', .int .i64 ac', .slice A7 N7 c7] := by simpa using KS.set_ 8 (.slice A7 N7 c7)
    have KG8 := KG.far (p := ⟨s, 8, none⟩) (by simp; omega) (.slice A7 N7 c7)
    have hG8 := hG.far (p := ⟨s, 8, none⟩) (by simp; omega) (.slice A7 N7 c7)
    have hR8 := hR.set_other KS kind9 8 (.slice A7 N7 c7) (by omega)
    have hO8 := hO7.set_ (g := s) (by omega) 8 (.slice A7 N7 c7)
    have hB8 := hB7.setCell (p := ⟨s, 8, none⟩) (by simp; omega) (.slice A7 N7 c7)
    have HN7 := Lib.hid hN7
    clear hN7
    go_upto_region 11 with fail
    clear c0 c1' c2 c3 c4 c5 c6 c7' c8 f0 g0 KS KG hG hR hO7 hB7 hg7
    generalize w7.setCell _ _ = w8 at KS8 KG8 hG8 hR8 hO8 hB8 ⊢
    obtain ⟨c0, c1', c2, c3, c4, c5, c6, c7', c8, f0⟩ := KS8.nine
    obtain ⟨d0, d1, d2, d3, d4, d5, d6, d7, d8, e0⟩ := KG8.nine
    have g0 := hG8.one.1
    have CK := fun w => scheck_any k' t' f' h' ep' bo' sq' ac' A7 N7 c7 w
    unfold sgC at CK
    have hwO : w.heap.size < w6.heap.size := by omega
    by_cases hk : k = 3
    · have hk2 : (k != 3) = false := by simp [hk]
      by_cases hend : endE (rt st).2 = 0
      · have he2 : (endE (rt st).2 != 0) = false := by simp [hend]
        by_cases hok : SgOk k' t' f' h' ep' bo' sq' ac' N7
        · have HE2 := Lib.hid (show spE l = 0 by rw [HE.out, if_pos ⟨hk, hend, by rw [HN7.out]; exact hok⟩])
          simp only [sgE_ok hok] at CK
          have CKh := Lib.hid CK
          clear CK hk hok hend
          go_wp2_with (first | (go_at_call 72; refine (end_any _ _ _ hR8).mono ?_; rintro e w5 ⟨rfl, rfl⟩) | (go_at_call 27; refine (CKh.out _).mono ?_; rintro e w9 ⟨rfl, hb9⟩; have KG9 := KG8.kept hb9; obtain ⟨d0, d1, d2, d3, d4, d5, d6, d7, d8, e0⟩ := KG9.nine; obtain ⟨c0, c1', c2, c3, c4, c5, c6, c7', c8, f0⟩ := (KS8.kept hb9).nine; have hB9 := hB8.next hb9; have hO9 := hO8.next hb9))
          refine bodyPost_ret (v := .tuple #[.agg #[.int .i64 k', .int .i64 t', .int .i64 f', .int .i64 h', .int .i64 ep', .int .i64 bo', .int .i64 sq', .int .i64 ac', .slice A7 N7 c7], .int .i64 0]) (by simp [results, Try.results45, go_sem, d0, d1, d2, d3, d4, d5, d6, d7, d8]) rfl ⟨A7, N7, c7, ?_, ?_, ?_⟩
          · have HV : ∀ x : Nat, spV l x = x := fun x => by rw [spV, HE2.out, if_pos rfl]
            simp only [HV, HQ.out, HE2.out]
          · refine OwnB.more_ (own_set9 (b := w6.heap.size) ?_ hwO _ _ _ _ _ _ _ _ _) (Nat.le_of_lt hwO)
            have : spL l = (rt st).1 := by rw [spL, HE2.out, if_pos rfl, HT.out]
            rw [this]
            exact hO9
          · repeat (refine Below.setCell ?_ (by simp) _)
            exact hB9
        · have HE2 := Lib.hid (show spE l = 4 by rw [HE.out, if_neg (fun h => hok (by rw [← HN7.out]; exact h.2.2))])
          simp only [sgE_no hok] at CK
          have CKh := Lib.hid CK
          clear CK hk hok hend
          go_wp2_with (first | (go_at_call 72; refine (end_any _ _ _ hR8).mono ?_; rintro e w5 ⟨rfl, rfl⟩) | (go_at_call 27; refine (CKh.out _).mono ?_; rintro e w9 ⟨rfl, hb9⟩; have KG9 := KG8.kept hb9; obtain ⟨d0, d1, d2, d3, d4, d5, d6, d7, d8, e0⟩ := KG9.nine; obtain ⟨c0, c1', c2, c3, c4, c5, c6, c7', c8, f0⟩ := (KS8.kept hb9).nine; have hB9 := hB8.next hb9; have hO9 := hO8.next hb9))
          refine bodyPost_ret (v := .tuple #[.agg #[.int .i64 0, .int .i64 0, .int .i64 0, .int .i64 0, .int .i64 0, .int .i64 0, .int .i64 0, .int .i64 0, .slice none 0 0], .int .i64 4]) (by simp [results, Try.results45, go_sem, d0, d1, d2, d3, d4, d5, d6, d7, d8]) rfl ⟨none, 0, 0, ?_, ?_, ?_⟩
          · have HV : ∀ x : Nat, spV l x = 0 := fun x => by rw [spV, HE2.out]; rfl
            simp only [HV, HE2.out]
          · have : spL l = [] := by rw [spL, HE2.out]; rfl
            rw [this]
            exact World.ownsRow_nil _ _ _ _
          · repeat (refine Below.setCell ?_ (by simp) _)
            exact hB9
      · have HE2 := Lib.hid (show spE l = 4 by rw [HE.out, if_neg (fun h => hend h.2.1)])
        have he2 : (endE (rt st).2 != 0) = true := by simpa using hend
        clear CK hk hend
        go_wp2_with (first | (go_at_call 72; refine (end_any _ _ _ hR8).mono ?_; rintro e w5 ⟨rfl, rfl⟩))
        have hB9 := hB8
        refine bodyPost_ret (v := .tuple #[.agg #[.int .i64 0, .int .i64 0, .int .i64 0, .int .i64 0, .int .i64 0, .int .i64 0, .int .i64 0, .int .i64 0, .slice none 0 0], .int .i64 4]) (by simp [results, Try.results45, go_sem, d0, d1, d2, d3, d4, d5, d6, d7, d8]) rfl ⟨none, 0, 0, ?_, ?_, ?_⟩
        · have HV : ∀ x : Nat, spV l x = 0 := fun x => by rw [spV, HE2.out]; rfl
          simp only [HV, HE2.out]
        · have : spL l = [] := by rw [spL, HE2.out]; rfl
          rw [this]
          exact World.ownsRow_nil _ _ _ _
        · repeat (refine Below.setCell ?_ (by simp) _)
          exact hB9
    · have hk2 : (k != 3) = true := by simpa using hk
      have HE2 := Lib.hid (show spE l = 4 by rw [HE.out, if_neg (fun h => hk h.1)])
      clear CK hk
      go_wp2_with fail
      have hB9 := hB8
      refine bodyPost_ret (v := .tuple #[.agg #[.int .i64 0, .int .i64 0, .int .i64 0, .int .i64 0, .int .i64 0, .int .i64 0, .int .i64 0, .int .i64 0, .slice none 0 0], .int .i64 4]) (by simp [results, Try.results45, go_sem, d0, d1, d2, d3, d4, d5, d6, d7, d8]) rfl ⟨none, 0, 0, ?_, ?_, ?_⟩
      · have HV : ∀ x : Nat, spV l x = 0 := fun x => by rw [spV, HE2.out]; rfl
        simp only [HV, HE2.out]
      · have : spL l = [] := by rw [spL, HE2.out]; rfl
        rw [this]
        exact World.ownsRow_nil _ _ _ _
      · repeat (refine Below.setCell ?_ (by simp) _)
        exact hB9
  · have H0 := Lib.hid (show spE l = er by unfold spE; rw [ho]; exact if_pos he)
    have he2 : (er != 0) = true := by simpa using he
    have HEr := Lib.hid he
    clear he
    go_enter Try.func45, Try.ntmps45
    go_wp2_with (first | (go_at_call 68; refine HO.out.mono ?_; rintro e w1 ⟨A1, N1, c1, rfl, hO1, hb1⟩; obtain ⟨d0, d1, d2, d3, d4, d5, d6, d7, d8, e0⟩ := ((Bk.new w 34 _).kept hb1).nine))
    refine bodyPost_ret (v := .tuple #[.agg #[.int .i64 0, .int .i64 0, .int .i64 0, .int .i64 0, .int .i64 0, .int .i64 0, .int .i64 0, .int .i64 0, .slice none 0 0], .int .i64 er]) (by simp [results, Try.results45, go_sem, d0, d1, d2, d3, d4, d5, d6, d7, d8]) rfl ⟨none, 0, 0, ?_, ?_, ?_⟩
    · have hV : ∀ x, spV l x = 0 := fun x => by rw [spV, if_neg (by rw [H0.out]; exact HEr.out)]
      simp only [hV, H0.out]
    · have : spL l = [] := by rw [spL, if_neg (by rw [H0.out]; exact HEr.out)]
      rw [this]
      exact World.ownsRow_nil _ _ _ _
    · repeat (refine Below.setCell ?_ (by simp) _)
      exact Below.new _ hb1
end Go.Proofs.Ytfnnjaljnfphlaa
