/- Orders: the writer's and the reader's rule and probe. -/
import Derived.Test.YtfnnjaljnfphlaaOdc
import Derived.Test.YtfnnjaljnfphlaaOdq
import Derived.Test.YtfnnjaljnfphlaaRpb
namespace Go.Proofs.Ytfnnjaljnfphlaa
open Go.RowKit
set_option maxRecDepth 100000
set_option maxHeartbeats 8000000
set_option linter.unusedSimpArgs false
set_option linter.unusedVariables false

theorem wrule {g b : Nat} {w : World} {Q : World → Prop} (H : Calls Try.prog 145 #[.pointer (some ⟨b, 3, none⟩), .iface 100 (.pointer (some ⟨g, 0, none⟩))] w fun e w' => e = .returned (.tuple #[]) ∧ Q w') :
    Calls Try.prog 144 #[.pointer (some ⟨g, 0, none⟩), .pointer (some ⟨b, 3, none⟩)] w fun e w' => e = .returned (.tuple #[]) ∧ Q w' := by
  have Hh := Lib.hid H
  clear H
  go_enter Try.func144, Try.ntmps144
  go_wp2_with (go_at_call 145; refine Hh.out.mono ?_; rintro e w2 ⟨rfl, hQ⟩)
  go_end0
  exact ⟨rfl, hQ⟩
theorem rrule {g b : Nat} {w : World} {Q : World → Prop} (H : Calls Try.prog 145 #[.pointer (some ⟨b, 3, none⟩), .iface 110 (.pointer (some ⟨g, 0, none⟩))] w fun e w' => e = .returned (.tuple #[]) ∧ Q w') :
    Calls Try.prog 149 #[.pointer (some ⟨g, 0, none⟩), .pointer (some ⟨b, 3, none⟩)] w fun e w' => e = .returned (.tuple #[]) ∧ Q w' := by
  have Hh := Lib.hid H
  clear H
  go_enter Try.func149, Try.ntmps149
  go_wp2_with (go_at_call 145; refine Hh.out.mono ?_; rintro e w2 ⟨rfl, hQ⟩)
  go_end0
  exact ⟨rfl, hQ⟩
theorem prB_len (f fp t tp n : Int) : (prB f fp t tp n).length = 9 := by simp [prB, sealB, be_len]
theorem prBy_eq (p : Pr5) : prBy p = prB p.f p.fp p.t p.tp p.n := rfl
theorem PrOk5.ok {p : Pr5} (h : PrOk5 p) : PrOk p.f p.fp p.t p.tp p.n := h
theorem wprobe (base g b : Nat) (t : TypeId) (o : Or6) (A : Option Addr) (L c : Nat) (l : List UInt8) (w : World) (hs : WrS base g w l) (hB : Bk w b t (orC o A L c)) (hbg : b ≠ g) (ht : t ≠ 5) (hp : PrOk5 o.p) (hm : l.length ≤ 200000) :
    Calls Try.prog 143 #[.pointer (some ⟨g, 0, none⟩), .pointer (some ⟨b, 16, none⟩)] w fun e w' => e = .returned (.tuple #[]) ∧ WrS base g w' (l ++ (be 2 (prBy o.p).length ++ prBy o.p)) ∧ Bk w' b t (orC o A L c) ∧ Kp (fun b => b ≠ g) b w w' ∧ Below base w w' := by
  obtain ⟨A0, N0, c0, h1, h2, h3⟩ := hs
  have hN := h2.len
  rw [prBy_eq]
  have hP := Lib.hid hp.ok
  clear hp
  have hl9 := Lib.hid (prB_len o.p.f o.p.fp o.p.t o.p.tp o.p.n)
  generalize hPB : prB o.p.f o.p.fp o.p.t o.p.tp o.p.n = PB at hl9 ⊢
  have hPBh := Lib.hid hPB
  clear hPB
  have g0 := h1.one.1
  have hlg := h1.lt
  obtain ⟨d0, d1, d2, d16, d17, d18, d19, d20, f0⟩ := hB.oc
  go_enter Try.func143, Try.ntmps143
  go_upto_region 1 with (go_at_call 34; refine (pbytes_any _ _ _ _ _ _ hP.out).mono ?_; rintro e w1 ⟨A1, N1, c1, rfl, hO1, hb1⟩)
  rw [hPBh.out] at hO1
  have K1 := h1.kept hb1
  have g1 := K1.one.1
  have f1 := K1.one.2
  have hN1 := hO1.len
  have T1 := text_any A0 A1 N0 c0 N1 c1 l PB w1 ((h2.by_.below hb1).more hb1.size) hO1.by_ (by omega) (by have := hl9.out; omega)
  have Th := Lib.hid T1
  clear T1
  go_wp2_with (go_at_call 59; refine Th.out.mono ?_; rintro e w2 ⟨A3, N3, c3, rfl, hO3, hb3⟩; have hcg := (K1.kept hb3).one.1; have hfg := (K1.kept hb3).one.2)
  go_end0
  have hb2 := hb1.next hb3
  have K2 := h1.kept hb2
  have B2 := hB.kept hb2
  have hz := hb1.size
  have e1 : l ++ be 2 N1 ++ PB = l ++ (be 2 PB.length ++ PB) := by rw [hN1, List.append_assoc]
  rw [e1] at hO3
  exact ⟨rfl, ⟨A3, N3, c3, by simpa using K2.set_ 0 (.slice A3 N3 c3), ownB_set (own_mono hO3 (by omega)) K2 (by decide) _, h3⟩, B2.far (p := ⟨g, 0, none⟩) hbg _, ⟨by have := hb2.size; simpa using this, fun q t' cs' hq _ hfq _ => (hq.kept hb2).far (p := ⟨g, 0, none⟩) hfq _⟩, (hb2.mono (by omega)).setCell h3 _⟩

/-- A probe that is read out of a text. -/
def ppP (l : List UInt8) : Pr5 := ⟨ppV l (ppQ l).1, ppV l (ppQ l).2.1, ppV l (ppQ l).2.2.1, ppV l (ppQ l).2.2.2.1, ppV l (ppQ l).2.2.2.2⟩
def rpF (p0 : Pr5) (s : Rs × Bool) : Pr5 × (Rs × Bool) := if (rt s.1).2.2 = 0 then (ppP (rt s.1).1, ((rt s.1).2, ppE (rt s.1).1 != 0)) else (p0, ((rt s.1).2, s.2))
theorem rprobe (base B g gr b : Nat) (t : TypeId) (o : Or6) (A : Option Addr) (L c : Nat) (s : Rs × Bool) (w : World) (hs : RrS base B g gr w s) (hB : Bk w b t (orC o A L c)) (hf : b ≠ g ∧ b ≠ gr ∧ B ≤ b) (ht : t ≠ 5) (hb : base ≤ b) :
    Calls Try.prog 148 #[.pointer (some ⟨g, 0, none⟩), .pointer (some ⟨b, 16, none⟩)] w fun e w' => e = .returned (.tuple #[]) ∧ RrS base B g gr w' (rpF o.p s).2 ∧ Bk w' b t (orC ⟨o.k, o.n, o.m, o.r, (rpF o.p s).1⟩ A L c) ∧ Kp (fun b => b ≠ g ∧ b ≠ gr ∧ B ≤ b) b w w' ∧ Below base w w' := by
  obtain ⟨h1, h2, h3, h4, h5, h6⟩ := hs
  have hR := rtextB gr B s.1 w h2
  obtain ⟨T, hT⟩ : ∃ T, T = rt s.1 := ⟨_, rfl⟩
  obtain ⟨Z, hZ⟩ : ∃ Z, Z = rpF o.p s := ⟨_, rfl⟩
  rw [← hZ]
  unfold rpF at hZ
  rw [← hT] at hR hZ
  clear hT
  obtain ⟨TL, TS⟩ := T
  have HZ := Lib.hid hZ
  clear hZ
  have hRh := Lib.hid hR
  clear hR
  have g0 := h1.two.1
  have hlg := h1.lt
  go_enter Try.func148, Try.ntmps148
  go_upto_region 1 with (go_at_call 91; refine hRh.out.mono ?_; rintro e w1 ⟨A1, n1, c1, rfl, hO1, hR1, hg1⟩)
  try simp only at hO1 hR1 ⊢
  have K1 := h1.grown hg1 (by intro e; injection e with e; exact h3 e)
  have B1 := hB.grown hg1 (by intro e; injection e with e; exact hf.2.1 e)
  have hb1 := below_of_grown (Below.refl base w) hg1 (by omega) h5
  have kp1 : ∀ q t' cs', Bk w q t' cs' → q ≠ gr → Bk w1 q t' cs' := fun q t' cs' hq hne => hq.grown hg1 (by intro e; injection e with e; exact hne e)
  have hz1 := hg1.size
  clear g0
  have g0 := K1.two.1
  have hE := Lib.hid (fun w2 (h : w2 = w1) => err_any gr TS w2 (h ▸ hR1.rds))
  obtain ⟨x0, x1⟩ := TS
  by_cases he : x1 = 0
  · subst he
    have hPP := Lib.hid (pparse_any A1 n1 c1 TL w1 hO1.by_ hO1.cap)
    go_upto_region 4 with (first | (go_at_call 79; refine (hE.out _ rfl).mono ?_; rintro e w3 ⟨rfl, rfl⟩) | (go_at_call 33; refine hPP.out.mono ?_; rintro e w4 ⟨rfl, hb4⟩; have B4 := B1.kept hb4; obtain ⟨d0, d1, d2, d16, d17, d18, d19, d20, f0⟩ := B4.oc))
    have HZ2 := Lib.hid (show Z = (ppP TL, ((x0, 0), ppE TL != 0)) by rw [HZ.out, if_pos trivial])
    clear HZ
    have K4 := K1.kept hb4
    have BS := ((((B4.set_ 16 (.int .i64 (ppV TL (ppQ TL).1))).set_ 17 (.int .i64 (ppV TL (ppQ TL).2.1))).set_ 18 (.int .i64 (ppV TL (ppQ TL).2.2.1))).set_ 19 (.int .i64 (ppV TL (ppQ TL).2.2.2.1))).set_ 20 (.int .i64 (ppV TL (ppQ TL).2.2.2.2))
    have KS := ((((K4.far (p := ⟨b, 16, none⟩) (fun e => hf.1 e.symm) (.int .i64 (ppV TL (ppQ TL).1))).far (p := ⟨b, 17, none⟩) (fun e => hf.1 e.symm) (.int .i64 (ppV TL (ppQ TL).2.1))).far (p := ⟨b, 18, none⟩) (fun e => hf.1 e.symm) (.int .i64 (ppV TL (ppQ TL).2.2.1))).far (p := ⟨b, 19, none⟩) (fun e => hf.1 e.symm) (.int .i64 (ppV TL (ppQ TL).2.2.2.1))).far (p := ⟨b, 20, none⟩) (fun e => hf.1 e.symm) (.int .i64 (ppV TL (ppQ TL).2.2.2.2))
    have RS := (hR1.below hb4)
    have RS := ((((RS.set_other (b := b) 16 (.int .i64 (ppV TL (ppQ TL).1)) (fun e => hf.2.1 e.symm) hf.2.2).set_other (b := b) 17 (.int .i64 (ppV TL (ppQ TL).2.1)) (fun e => hf.2.1 e.symm) hf.2.2).set_other (b := b) 18 (.int .i64 (ppV TL (ppQ TL).2.2.1)) (fun e => hf.2.1 e.symm) hf.2.2).set_other (b := b) 19 (.int .i64 (ppV TL (ppQ TL).2.2.2.1)) (fun e => hf.2.1 e.symm) hf.2.2).set_other (b := b) 20 (.int .i64 (ppV TL (ppQ TL).2.2.2.2)) (fun e => hf.2.1 e.symm) hf.2.2
    have hkS : Kp (fun b => b ≠ g ∧ b ≠ gr ∧ B ≤ b) b w (((((w4.setCell ⟨b, 16, none⟩ (.int .i64 (ppV TL (ppQ TL).1))).setCell ⟨b, 17, none⟩ (.int .i64 (ppV TL (ppQ TL).2.1))).setCell ⟨b, 18, none⟩ (.int .i64 (ppV TL (ppQ TL).2.2.1))).setCell ⟨b, 19, none⟩ (.int .i64 (ppV TL (ppQ TL).2.2.2.1))).setCell ⟨b, 20, none⟩ (.int .i64 (ppV TL (ppQ TL).2.2.2.2))) := by
      have k4 : Kp (fun b => b ≠ g ∧ b ≠ gr ∧ B ≤ b) b w w4 := ⟨by have := hb4.size; omega, fun q t' cs' hq _ hfq _ => (kp1 q t' cs' hq hfq.2.1).kept hb4⟩
      exact ((((k4.set 16 _).set 17 _).set 18 _).set 19 _).set 20 _
    have hbS : Below base w (((((w4.setCell ⟨b, 16, none⟩ (.int .i64 (ppV TL (ppQ TL).1))).setCell ⟨b, 17, none⟩ (.int .i64 (ppV TL (ppQ TL).2.1))).setCell ⟨b, 18, none⟩ (.int .i64 (ppV TL (ppQ TL).2.2.1))).setCell ⟨b, 19, none⟩ (.int .i64 (ppV TL (ppQ TL).2.2.2.1))).setCell ⟨b, 20, none⟩ (.int .i64 (ppV TL (ppQ TL).2.2.2.2))) := by
      have := hb1.trans (hb4.mono (by omega))
      exact ((((this.setCell hb _).setCell hb _).setCell hb _).setCell hb _).setCell hb _
    generalize World.setCell _ ⟨b, 20, none⟩ _ = w5 at BS KS RS hkS hbS ⊢
    clear d0 d1 d2 d16 d17 d18 d19 d20 f0 g0
    obtain ⟨g0, g1, fg⟩ := KS.two
    obtain ⟨E, hE0⟩ : ∃ E, E = ppE TL := ⟨_, rfl⟩
    have hPE := Lib.hid hE0
    rw [← hE0]
    clear hE0
    go_wp2_with fail
    all_goals
      go_end0
      have hlb := BS.lt
      rw [HZ2.out, ← hPE.out]
      refine ⟨rfl, ⟨by simpa using KS.set_ 1 (.bool (E != 0)), RS.set_other 1 _ (fun e => h3 e.symm) h6, h3, h4, h5, h6⟩, (BS.far (p := ⟨g, 1, none⟩) hf.1 _), ⟨by have := hkS.1; simpa using this, fun q t' cs' hq ht' hfq hqb => (hkS.2 q t' cs' hq ht' hfq hqb).far (p := ⟨g, 1, none⟩) hfq.1 _⟩, hbS.setCell h4 _⟩
  · have HZ2 := Lib.hid (show Z = (o.p, ((x0, x1), s.2)) by rw [HZ.out, if_neg he])
    clear HZ
    go_wp2_with (first | (go_at_call 79; refine (hE.out _ rfl).mono ?_; rintro e w3 ⟨rfl, rfl⟩))
    refine bodyPost_ret (results_none rfl _ _ _) rfl ?_
    rw [HZ2.out]
    exact ⟨rfl, ⟨K1, hR1, h3, h4, h5, h6⟩, B1, ⟨hz1, fun q t' cs' hq _ hfq _ => kp1 q t' cs' hq hfq.2.1⟩, hb1⟩
end Go.Proofs.Ytfnnjaljnfphlaa
