/- order.ruleParts: a rule's parts, told one by one. -/
import Derived.Test.YtfnnjaljnfphlaaOdg
import Derived.Deep.DeepCutAuto
import Derived.Deep.CutRange
import Derived.Deep.CutBlock
namespace Go.Proofs.Ytfnnjaljnfphlaa
open Go.RowKit
set_option maxRecDepth 100000
set_option maxHeartbeats 8000000
set_option linter.unusedSimpArgs false
set_option linter.unusedVariables false

theorem OBk.kp {far : Nat → Prop} {b bo L : Nat} {A : Option Addr} {os : List Out4} {w w' : World} (h : OBk w bo A L os) (k : Kp far b w w') (hbo : 0 < L → far bo ∧ bo ≠ b) : OBk w' bo A L os :=
  ⟨h.len, fun hl => ⟨(h.blk hl).1, by obtain ⟨j, hj⟩ := (h.blk hl).2; exact ⟨j, k.2 _ _ _ hj (by decide) (hbo hl).1 (hbo hl).2⟩⟩⟩
def KpX (far : Nat → Prop) (b bo : Nat) (w w' : World) : Prop := w.heap.size ≤ w'.heap.size ∧ ∀ g t cs, Bk w g t cs → t ≠ 5 → far g → g ≠ b → g ≠ bo → Bk w' g t cs
theorem Kp.x {far : Nat → Prop} {b : Nat} {w w' : World} (h : Kp far b w w') (bo : Nat) : KpX far b bo w w' := ⟨h.1, fun g t cs hb ht hf hg _ => h.2 g t cs hb ht hf hg⟩
theorem KpX.tr {far : Nat → Prop} {b bo : Nat} {w w1 w2 : World} (h : KpX far b bo w w1) (k : Kp far bo w1 w2) : KpX far b bo w w2 :=
  ⟨Nat.le_trans h.1 k.1, fun g t cs hb ht hf hg ho => k.2 g t cs (h.2 g t cs hb ht hf hg ho) ht hf ho⟩
/-- A rule's block, its outputs, behind it. -/
structure RuAt (far : Nat → Prop) (base b : Nat) (t : TypeId) (w w' : World) (v0 v1 v2 v16 v17 v18 v19 v20 : Value) (r : Ru) : Prop where
  x : ∃ (bo L c : Nat) (A : Option Addr), Bk w' b t #[v0, v1, v2, .int .i64 (r.k), .int .i64 (r.pr), .int .i64 (r.to), .int .i64 (r.po), .int .i64 (r.m.ve), .int .i64 (r.m.mp), .int .u8 (r.m.b0.toNat : Int), .int .u8 (r.m.b1.toNat : Int), .int .u8 (r.m.b2.toNat : Int), .int .u8 (r.m.i0.toNat : Int), .int .u8 (r.m.i1.toNat : Int), .int .u8 (r.m.i2.toNat : Int), .slice A L c, v16, v17, v18, v19, v20] ∧ OBk w' bo A L r.os ∧ (0 < L → far bo ∧ bo ≠ b ∧ base ≤ bo) ∧ L ≤ c ∧ KpX far b bo w w'
theorem info65 : (Try.prog.info? 65).map (fun i => (i.zero, i.size, i.bytes)) = some (some (.agg #[.int .i64 0, .int .i64 0, .int .i64 0, .int .i64 0]), 4, 32) := by kernel_rfl

theorem ruleParts_any {T g fN base : Nat} {far : Nat → Prop} {σ : Type} {St : World → σ → Prop} {nf : Nat → Int → σ → Int × σ} {ok : Nat → Int → Prop} {sz : σ → Nat} {M : Nat} (P : PI T g fN base far St nf ok sz M)
    (b bo L c : Nat) (t : TypeId) (A : Option Addr) (v0 v1 v2 v16 v17 v18 v19 v20 : Value) (r : Ru) (s : σ) (w : World) (hm : sz s + 17000 ≤ M) (hs : St w s) (hB : Bk w b t #[v0, v1, v2, .int .i64 (r.k), .int .i64 (r.pr), .int .i64 (r.to), .int .i64 (r.po), .int .i64 (r.m.ve), .int .i64 (r.m.mp), .int .u8 (r.m.b0.toNat : Int), .int .u8 (r.m.b1.toNat : Int), .int .u8 (r.m.b2.toNat : Int), .int .u8 (r.m.i0.toNat : Int), .int .u8 (r.m.i1.toNat : Int), .int .u8 (r.m.i2.toNat : Int), .slice A L c, v16, v17, v18, v19, v20]) (hO : OBk w bo A L r.os) (hbo : 0 < L → far bo ∧ bo ≠ b ∧ base ≤ bo) (hLc : L ≤ c)
    (R : OkR ok r) (ht : t ≠ 5) (hf : far b) (hb : base ≤ b) :
    Calls Try.prog 145 #[.pointer (some ⟨b, 3, none⟩), .iface T (.pointer (some ⟨g, 0, none⟩))] w fun e w' => e = .returned (.tuple #[]) ∧ St w' (ruF nf r s).2 ∧ RuAt far base b t w w' v0 v1 v2 v16 v17 v18 v19 v20 (ruF nf r s).1 ∧ Below base w w' := by
  have hmf : ∀ (fn : Fn) (first cap : Array Value) (w : World), (Instr.makeFunc fn first cap).run Try.prog w = .ok (.func fn first cap) w := fun _ _ _ _ => rfl
  have hna := P.na
  have hme := P.me
  have hcf := P.cf
  have hbd := P.bd 1 r.k s R.k
  obtain ⟨a0, ha0⟩ : ∃ a, a = nf 1 r.k s := ⟨_, rfl⟩
  obtain ⟨a1, ha1⟩ : ∃ a, a = nf 2 r.pr a0.2 := ⟨_, rfl⟩
  obtain ⟨a2, ha2⟩ : ∃ a, a = nf 1 r.to a1.2 := ⟨_, rfl⟩
  obtain ⟨a3, ha3⟩ : ∃ a, a = nf 1 r.po a2.2 := ⟨_, rfl⟩
  obtain ⟨a4, ha4⟩ : ∃ a, a = nf 1 r.m.ve a3.2 := ⟨_, rfl⟩
  obtain ⟨a5, ha5⟩ : ∃ a, a = nf 1 (r.m.mp + 1) a4.2 := ⟨_, rfl⟩
  obtain ⟨h1, hh1⟩ : ∃ a, a = hdV nf r.m.b0 r.m.b1 r.m.b2 a5.2 := ⟨_, rfl⟩
  obtain ⟨h2, hh2⟩ : ∃ a, a = hdV nf r.m.i0 r.m.i1 r.m.i2 h1.2 := ⟨_, rfl⟩
  obtain ⟨a6, ha6⟩ : ∃ a, a = nf 1 (r.os.length : Int) h2.2 := ⟨_, rfl⟩
  obtain ⟨oo, hoo⟩ : ∃ a, a = outsF nf (manyO a6.1 r.os) a6.2 := ⟨_, rfl⟩
  have hR : ruF nf r s = if a0.1 = 1 then (⟨a0.1, a1.1, a2.1, a3.1, ⟨a4.1, a5.1 - 1, h1.1.1, h1.1.2.1, h1.1.2.2, h2.1.1, h2.1.2.1, h2.1.2.2⟩, oo.1⟩, oo.2) else (⟨a0.1, a1.1, a2.1, a3.1, r.m, r.os⟩, a3.2) := by
    subst hoo ha6 hh2 hh1 ha5 ha4 ha3 ha2 ha1 ha0
    rfl
  obtain ⟨R', hR'⟩ : ∃ q, q = ruF nf r s := ⟨_, rfl⟩
  rw [← hR'] at hR ⊢
  have HR := Lib.hid hR
  rw [← ha0] at hbd
  have z0 : sz a0.2 ≤ sz s + 4 := by rw [ha0]; exact P.sg _ _ _ (by omega)
  have z1 : sz a1.2 ≤ sz s + 8 := by have := P.sg 2 r.pr a0.2 (by omega); rw [ha1]; omega
  have z2 : sz a2.2 ≤ sz s + 12 := by have := P.sg 1 r.to a1.2 (by omega); rw [ha2]; omega
  have z3 : sz a3.2 ≤ sz s + 16 := by have := P.sg 1 r.po a2.2 (by omega); rw [ha3]; omega
  have z4 : sz a4.2 ≤ sz s + 20 := by have := P.sg 1 r.m.ve a3.2 (by omega); rw [ha4]; omega
  have z5 : sz a5.2 ≤ sz s + 24 := by have := P.sg 1 (r.m.mp + 1) a4.2 (by omega); rw [ha5]; omega
  have z6 : sz h1.2 ≤ sz s + 36 := by
    have e1 := P.sg 1 (r.m.b0.toNat : Int) a5.2 (by omega)
    have e2 := P.sg 1 (r.m.b1.toNat : Int) (nf 1 (r.m.b0.toNat : Int) a5.2).2 (by omega)
    have e3 := P.sg 1 (r.m.b2.toNat : Int) (nf 1 (r.m.b1.toNat : Int) (nf 1 (r.m.b0.toNat : Int) a5.2).2).2 (by omega)
    rw [hh1]; unfold hdV; simp only; omega
  have z7 : sz h2.2 ≤ sz s + 48 := by
    have e1 := P.sg 1 (r.m.i0.toNat : Int) h1.2 (by omega)
    have e2 := P.sg 1 (r.m.i1.toNat : Int) (nf 1 (r.m.i0.toNat : Int) h1.2).2 (by omega)
    have e3 := P.sg 1 (r.m.i2.toNat : Int) (nf 1 (r.m.i1.toNat : Int) (nf 1 (r.m.i0.toNat : Int) h1.2).2).2 (by omega)
    rw [hh2]; unfold hdV; simp only; omega
  have z8 : sz a6.2 ≤ sz s + 52 := by have := P.sg 1 (r.os.length : Int) h2.2 (by omega); rw [ha6]; omega
  have Ha0 := Lib.hid ha0
  have Ha1 := Lib.hid ha1
  have Ha2 := Lib.hid ha2
  have Ha3 := Lib.hid ha3
  have Ha4 := Lib.hid ha4
  have Ha5 := Lib.hid ha5
  have Ha6 := Lib.hid ha6
  have Hh1 := Lib.hid hh1
  have Hh2 := Lib.hid hh2
  have Hoo := Lib.hid hoo
  clear hR hR' ha0 ha1 ha2 ha3 ha4 ha5 ha6 hh1 hh2 hoo
  have N := P.num 1 b 3 t _ r.k s w.drew (by omega) (by omega) (P.dr _ _ hs) hB.drew rfl R.k ht hf hb
  rw [← Ha0.out] at N
  have Nh := Lib.hid N
  clear N
  go_enter Try.func145, Try.ntmps145
  go_wp2_with fail
  go_region_held3 (fun _ => True) (trivial) ((refine Nh.out.mono ?_; rintro e w1 ⟨rfl, hs1, hB1, k1, b1⟩))
  have hB1 : Bk w1 b t #[v0, v1, v2, .int .i64 (a0.1), .int .i64 (r.pr), .int .i64 (r.to), .int .i64 (r.po), .int .i64 (r.m.ve), .int .i64 (r.m.mp), .int .u8 (r.m.b0.toNat : Int), .int .u8 (r.m.b1.toNat : Int), .int .u8 (r.m.b2.toNat : Int), .int .u8 (r.m.i0.toNat : Int), .int .u8 (r.m.i1.toNat : Int), .int .u8 (r.m.i2.toNat : Int), .slice A L c, v16, v17, v18, v19, v20] := by simpa using hB1
  have hO1 := hO.kp k1 (fun h => ⟨(hbo h).1, (hbo h).2.1⟩)
  have b1 := undrew b1
  clear Nh hs hB hO
  have N := P.num 2 b 4 t _ r.pr a0.2 w1.drew (by omega) (by omega) (P.dr _ _ hs1) hB1.drew rfl R.pr ht hf hb
  rw [← Ha1.out] at N
  have Nh := Lib.hid N
  clear N
  go_wp2_with fail
  go_region_held3 (fun _ => True) (trivial) ((refine Nh.out.mono ?_; rintro e w2 ⟨rfl, hs2, hB2, k2, b2⟩))
  have hB2 : Bk w2 b t #[v0, v1, v2, .int .i64 (a0.1), .int .i64 (a1.1), .int .i64 (r.to), .int .i64 (r.po), .int .i64 (r.m.ve), .int .i64 (r.m.mp), .int .u8 (r.m.b0.toNat : Int), .int .u8 (r.m.b1.toNat : Int), .int .u8 (r.m.b2.toNat : Int), .int .u8 (r.m.i0.toNat : Int), .int .u8 (r.m.i1.toNat : Int), .int .u8 (r.m.i2.toNat : Int), .slice A L c, v16, v17, v18, v19, v20] := by simpa using hB2
  have hO2 := hO1.kp k2 (fun h => ⟨(hbo h).1, (hbo h).2.1⟩)
  have b2 := b1.trans (undrew b2)
  have k2 := Kp.tr k1 k2
  clear Nh hs1 hB1 hO1 k1 b1
  have N := P.num 1 b 5 t _ r.to a1.2 w2.drew (by omega) (by omega) (P.dr _ _ hs2) hB2.drew rfl R.tt ht hf hb
  rw [← Ha2.out] at N
  have Nh := Lib.hid N
  clear N
  go_wp2_with fail
  go_region_held3 (fun _ => True) (trivial) ((refine Nh.out.mono ?_; rintro e w3 ⟨rfl, hs3, hB3, k3, b3⟩))
  have hB3 : Bk w3 b t #[v0, v1, v2, .int .i64 (a0.1), .int .i64 (a1.1), .int .i64 (a2.1), .int .i64 (r.po), .int .i64 (r.m.ve), .int .i64 (r.m.mp), .int .u8 (r.m.b0.toNat : Int), .int .u8 (r.m.b1.toNat : Int), .int .u8 (r.m.b2.toNat : Int), .int .u8 (r.m.i0.toNat : Int), .int .u8 (r.m.i1.toNat : Int), .int .u8 (r.m.i2.toNat : Int), .slice A L c, v16, v17, v18, v19, v20] := by simpa using hB3
  have hO3 := hO2.kp k3 (fun h => ⟨(hbo h).1, (hbo h).2.1⟩)
  have b3 := b2.trans (undrew b3)
  have k3 := Kp.tr k2 k3
  clear Nh hs2 hB2 hO2 k2 b2
  have N := P.num 1 b 6 t _ r.po a2.2 w3.drew (by omega) (by omega) (P.dr _ _ hs3) hB3.drew rfl R.po ht hf hb
  rw [← Ha3.out] at N
  have Nh := Lib.hid N
  clear N
  go_wp2_with fail
  go_region_held3 (fun _ => True) (trivial) ((refine Nh.out.mono ?_; rintro e w4 ⟨rfl, hs4, hB4, k4, b4⟩))
  have hB4 : Bk w4 b t #[v0, v1, v2, .int .i64 (a0.1), .int .i64 (a1.1), .int .i64 (a2.1), .int .i64 (a3.1), .int .i64 (r.m.ve), .int .i64 (r.m.mp), .int .u8 (r.m.b0.toNat : Int), .int .u8 (r.m.b1.toNat : Int), .int .u8 (r.m.b2.toNat : Int), .int .u8 (r.m.i0.toNat : Int), .int .u8 (r.m.i1.toNat : Int), .int .u8 (r.m.i2.toNat : Int), .slice A L c, v16, v17, v18, v19, v20] := by simpa using hB4
  have hO4 := hO3.kp k4 (fun h => ⟨(hbo h).1, (hbo h).2.1⟩)
  have b4 := b3.trans (undrew b4)
  have k4 := Kp.tr k3 k4
  clear Nh hs3 hB3 hO3 k3 b3
  have c3 : w4.cell? ⟨b, 3, none⟩ = some (.int .i64 a0.1) := hB4.cell 3
  by_cases hk1 : a0.1 = 1
  · have hk2 : (a0.1 != 1) = false := by simp [hk1]
    have HR2 := Lib.hid (show R' = (⟨a0.1, a1.1, a2.1, a3.1, ⟨a4.1, a5.1 - 1, h1.1.1, h1.1.2.1, h1.1.2.2, h2.1.1, h2.1.2.1, h2.1.2.2⟩, oo.1⟩, oo.2) by rw [HR.out, if_pos hk1])
    clear hk1
    go_upto_region 5 with fail
    clear c3 hk2
    have N := P.num 1 b 7 t _ r.m.ve a3.2 w4.drew (by omega) (by omega) (P.dr _ _ hs4) hB4.drew rfl R.ve ht hf hb
    rw [← Ha4.out] at N
    have Nh := Lib.hid N
    clear N
    go_wp2_with fail
    go_region_held3 (fun _ => True) (trivial) ((refine Nh.out.mono ?_; rintro e w5 ⟨rfl, hs5, hB5, k5, b5⟩))
    have hB5 : Bk w5 b t #[v0, v1, v2, .int .i64 (a0.1), .int .i64 (a1.1), .int .i64 (a2.1), .int .i64 (a3.1), .int .i64 (a4.1), .int .i64 (r.m.mp), .int .u8 (r.m.b0.toNat : Int), .int .u8 (r.m.b1.toNat : Int), .int .u8 (r.m.b2.toNat : Int), .int .u8 (r.m.i0.toNat : Int), .int .u8 (r.m.i1.toNat : Int), .int .u8 (r.m.i2.toNat : Int), .slice A L c, v16, v17, v18, v19, v20] := by simpa using hB5
    have hO5 := hO4.kp k5 (fun h => ⟨(hbo h).1, (hbo h).2.1⟩)
    have b5 := b4.trans (undrew b5)
    have k5 := Kp.tr k4 k5
    clear Nh hs4 hB4 hO4 k4 b4
    have N := above_any P 1 b 8 t _ r.m.mp a4.2 w5 (by omega) (by omega) hs5 hB5 rfl R.mp ht hf hb R.mpb.1 (by have := R.mpb.2; omega)
    rw [← Ha5.out] at N
    have Nh := Lib.hid N
    clear N
    go_wp2_with fail
    refine Nh.out.mono ?_
    rintro e w6 ⟨rfl, hs6, hB6, k6, b6⟩
    skip
    have hB6 : Bk w6 b t #[v0, v1, v2, .int .i64 (a0.1), .int .i64 (a1.1), .int .i64 (a2.1), .int .i64 (a3.1), .int .i64 (a4.1), .int .i64 (a5.1 - 1), .int .u8 (r.m.b0.toNat : Int), .int .u8 (r.m.b1.toNat : Int), .int .u8 (r.m.b2.toNat : Int), .int .u8 (r.m.i0.toNat : Int), .int .u8 (r.m.i1.toNat : Int), .int .u8 (r.m.i2.toNat : Int), .slice A L c, v16, v17, v18, v19, v20] := by simpa using hB6
    have hO6 := hO5.kp k6 (fun h => ⟨(hbo h).1, (hbo h).2.1⟩)
    have b6 := b5.trans b6
    have k6 := Kp.tr k5 k6
    clear Nh hs5 hB5 hO5 k5 b5
    have N := header_any P b 9 t _ r.m.b0 r.m.b1 r.m.b2 a5.2 w6 (by omega) hs6 hB6 rfl rfl rfl R.by8 ht hf hb
    rw [hdQ_eq, ← Hh1.out] at N
    have Nh := Lib.hid N
    clear N
    go_wp2_with fail
    refine Nh.out.mono ?_
    rintro e w7 ⟨rfl, hs7, hB7, k7, b7⟩
    skip
    have hB7 : Bk w7 b t #[v0, v1, v2, .int .i64 (a0.1), .int .i64 (a1.1), .int .i64 (a2.1), .int .i64 (a3.1), .int .i64 (a4.1), .int .i64 (a5.1 - 1), .int .u8 (h1.1.1.toNat : Int), .int .u8 (h1.1.2.1.toNat : Int), .int .u8 (h1.1.2.2.toNat : Int), .int .u8 (r.m.i0.toNat : Int), .int .u8 (r.m.i1.toNat : Int), .int .u8 (r.m.i2.toNat : Int), .slice A L c, v16, v17, v18, v19, v20] := by simpa using hB7
    have hO7 := hO6.kp k7 (fun h => ⟨(hbo h).1, (hbo h).2.1⟩)
    have b7 := b6.trans b7
    have k7 := Kp.tr k6 k7
    clear Nh hs6 hB6 hO6 k6 b6
    have N := header_any P b 12 t _ r.m.i0 r.m.i1 r.m.i2 h1.2 w7 (by omega) hs7 hB7 rfl rfl rfl R.by8 ht hf hb
    rw [hdQ_eq, ← Hh2.out] at N
    have Nh := Lib.hid N
    clear N
    go_wp2_with fail
    refine Nh.out.mono ?_
    rintro e w8 ⟨rfl, hs8, hB8, k8, b8⟩
    skip
    have hB8 : Bk w8 b t #[v0, v1, v2, .int .i64 (a0.1), .int .i64 (a1.1), .int .i64 (a2.1), .int .i64 (a3.1), .int .i64 (a4.1), .int .i64 (a5.1 - 1), .int .u8 (h1.1.1.toNat : Int), .int .u8 (h1.1.2.1.toNat : Int), .int .u8 (h1.1.2.2.toNat : Int), .int .u8 (h2.1.1.toNat : Int), .int .u8 (h2.1.2.1.toNat : Int), .int .u8 (h2.1.2.2.toNat : Int), .slice A L c, v16, v17, v18, v19, v20] := by simpa using hB8
    have hO8 := hO7.kp k8 (fun h => ⟨(hbo h).1, (hbo h).2.1⟩)
    have b8 := b7.trans b8
    have k8 := Kp.tr k7 k8
    clear Nh hs7 hB7 hO7 k7 b7
    have hlen := hO8.len
    have HL := Lib.hid hlen
    clear hlen
    have hLb : (L : Int) ≤ 1000 := by have := R.len; have := HL.out; omega
    have c15 : w8.cell? ⟨b, 15, none⟩ = some (.slice A L c) := hB8.cell 15
    have hlt8 := hB8.lt
    have hbl := P.bs w8 _ hs8
    have KM := Bk.new w8 3 #[.int .i64 (L : Int)]
    have hs9 := P.al w8 _ (.cells #[.int .i64 (L : Int)] 3) hs8
    have hfm := P.fr w8 _ _ hs8 (Nat.le_refl _)
    have hokL : ok 1 (L : Int) := by have h1 := R.n; rw [HL.out] at h1; exact h1
    have hbd6 := P.bd 1 (L : Int) h2.2 hokL
    have N := P.num 1 w8.heap.size 0 3 #[.int .i64 (L : Int)] (L : Int) h2.2 _ (by omega) (by omega) hs9 KM rfl hokL (by decide) hfm hbl
    have ha6' : a6 = nf 1 (L : Int) h2.2 := by rw [Ha6.out, HL.out]
    rw [set0, ← ha6'] at N
    rw [← ha6'] at hbd6
    have Nh := Lib.hid N
    have HA6 := Lib.hid ha6'
    clear N ha6'
    have hB9 := hB8.alloc (.cells #[.int .i64 (L : Int)] 3)
    have k9 : Kp far b w (w8.alloc (.cells #[.int .i64 (L : Int)] 3)) := k8.alloc _
    have k9' : Kp far b w8 (w8.alloc (.cells #[.int .i64 (L : Int)] 3)) := (Kp.refl far b w8).alloc _
    have b9 : Below base w (w8.alloc (.cells #[.int .i64 (L : Int)] 3)) := b8.alloc hbl _
    have hO9 := hO8.kp k9' (fun h => ⟨(hbo h).1, (hbo h).2.1⟩)
    go_wp2_with fail
    refine Nh.out.mono ?_
    rintro e w10 ⟨rfl, hs10, KM10, k10, b10⟩
    have hB10 := k10.2 b t _ hB9 ht hf (by omega)
    have hO10 := hO9.kp k10 (fun h => ⟨(hbo h).1, by obtain ⟨j, hj⟩ := (hO8.blk h).2; have := hj.lt; omega⟩)
    have kk10 := k10.new k9' (Nat.le_refl _)
    have k10 := Kp.tr k8 kk10
    have b10 := b9.trans b10
    clear Nh hs8 hs9 hB8 hB9 hO8 hO9 k9 k9' b9 k8 b8 c15 KM kk10
    generalize w8.heap.size = gm at KM10 hlt8 hfm hbl ⊢
    have m0 := KM10.one.1
    have c15 : w10.cell? ⟨b, 15, none⟩ = some (.slice A L c) := hB10.cell 15
    go_wp2_with fail
    go_region_held3 (fun w' => w'.cell? ⟨gm, 0, none⟩ = some (.int .i64 a6.1) ∧ w'.cell? ⟨b, 15, none⟩ = some (.slice A L c)) (first | exact ⟨m0, c15⟩) (fail)
    have hsD : St w10.drew a6.2 := P.dr _ _ hs10
    generalize hwD : w10.drew = wD at hsD ⊢
    have hBD : Bk wD b t #[v0, v1, v2, .int .i64 (a0.1), .int .i64 (a1.1), .int .i64 (a2.1), .int .i64 (a3.1), .int .i64 (a4.1), .int .i64 (a5.1 - 1), .int .u8 (h1.1.1.toNat : Int), .int .u8 (h1.1.2.1.toNat : Int), .int .u8 (h1.1.2.2.toNat : Int), .int .u8 (h2.1.1.toNat : Int), .int .u8 (h2.1.2.1.toNat : Int), .int .u8 (h2.1.2.2.toNat : Int), .slice A L c, v16, v17, v18, v19, v20] := by rw [← hwD]; exact hB10.drew
    have hOD : OBk wD bo A L r.os := by rw [← hwD]; exact ⟨hO10.len, hO10.blk⟩
    have KMD : Bk wD gm 3 #[.int .i64 a6.1] := by rw [← hwD]; exact KM10.drew
    have kD : Kp far b w wD := by rw [← hwD]; exact k10.drew
    have bD : Below base w wD := by rw [← hwD]; exact b10.drew
    clear hwD hs10 hB10 hO10 KM10 k10 b10 m0 c15
    go_upto_if 84 with fail
    go_cut [4] (fun s4 wx => s4 = .pointer (some ⟨gm, 0, none⟩) ∧ St wx a6.2 ∧ Below base w wx ∧ ∃ (bo L c : Nat) (A : Option Addr), Bk wx b t #[v0, v1, v2, .int .i64 (a0.1), .int .i64 (a1.1), .int .i64 (a2.1), .int .i64 (a3.1), .int .i64 (a4.1), .int .i64 (a5.1 - 1), .int .u8 (h1.1.1.toNat : Int), .int .u8 (h1.1.2.1.toNat : Int), .int .u8 (h1.1.2.2.toNat : Int), .int .u8 (h2.1.1.toNat : Int), .int .u8 (h2.1.2.1.toNat : Int), .int .u8 (h2.1.2.2.toNat : Int), .slice A L c, v16, v17, v18, v19, v20] ∧ OBk wx bo A L (manyO a6.1 r.os) ∧ (0 < L → far bo ∧ bo ≠ b ∧ base ≤ bo) ∧ L ≤ c ∧ L ≤ 1000 ∧ KpX far b bo w wx)
    case first =>
      have m0 : wD.cell? ⟨gm, 0, none⟩ = some (.int .i64 a6.1) := KMD.one.1
      have c15 : wD.cell? ⟨b, 15, none⟩ = some (.slice A L c) := hBD.cell 15
      have f15 := hBD.frozen 15
      by_cases hm : a6.1 = (L : Int)
      · have hne : (a6.1 != (L : Int)) = false := by simp [hm]
        have HO := Lib.hid (show manyO a6.1 r.os = r.os by rw [manyO, if_pos (by rw [HL.out]; exact hm)])
        clear hm
        go_wp2_with fail
        go_meet
        exact ⟨rfl, hsD, bD, bo, L, c, A, hBD, by rw [HO.out]; exact hOD, hbo, hLc, by omega, kD.x bo⟩
      · have hne : (a6.1 != (L : Int)) = true := by simpa using hm
        have HO := Lib.hid (show manyO a6.1 r.os = List.replicate a6.1.toNat (0, 0, 0, 0) by rw [manyO, if_neg (by rw [HL.out]; exact hm)])
        clear hm
        obtain ⟨mN, hmN⟩ : ∃ n : Nat, a6.1 = (n : Int) := ⟨a6.1.toNat, by omega⟩
        have hm255 : mN ≤ 255 := by have := hbd6.2; rw [hmN] at this; simp at this; omega
        rw [hmN] at m0
        have HmN := Lib.hid hmN
        clear hmN
        obtain ⟨i0, hi0, hz0, hz1, hz2⟩ := info_parts info65
        have hmk : ∀ w, (Instr.makeSlice 49 (.int .i64 (mN : Int)) (.int .i64 (mN : Int))).run Try.prog w = .ok (.slice (some ⟨w.heap.size, 0, none⟩) mN mN) (w.alloc (.cells (madeCells #[.int .i64 0, .int .i64 0, .int .i64 0, .int .i64 0] (mN * 4)) 65)) := fun w => by
          have := run_make (P := Try.prog) w 49 65 i0 _ Try.underlying49 hi0 hz0 .i64 .i64 (mN : Int) (mN : Int) (by omega) (Int.le_refl _) (by rw [hz2]; omega) (by omega)
          rw [hz1] at this
          exact this
        have hfN := P.fr wD _ _ hsD (Nat.le_refl _)
        have hbN := P.bs wD _ hsD
        have hltD := hBD.lt
        have ff := hBD.frozen 15
        go_wp2_with fail
        go_meet
        have hs1 := P.se wD _ b t _ 15 (.slice (some ⟨wD.heap.size, 0, none⟩) mN mN) hsD hBD ht hf
        have hB1 : Bk (wD.setCell ⟨b, 15, none⟩ (.slice (some ⟨wD.heap.size, 0, none⟩) mN mN)) b t #[v0, v1, v2, .int .i64 (a0.1), .int .i64 (a1.1), .int .i64 (a2.1), .int .i64 (a3.1), .int .i64 (a4.1), .int .i64 (a5.1 - 1), .int .u8 (h1.1.1.toNat : Int), .int .u8 (h1.1.2.1.toNat : Int), .int .u8 (h1.1.2.2.toNat : Int), .int .u8 (h2.1.1.toNat : Int), .int .u8 (h2.1.2.1.toNat : Int), .int .u8 (h2.1.2.2.toNat : Int), .slice (some ⟨wD.heap.size, 0, none⟩) mN mN, v16, v17, v18, v19, v20] := by simpa using hBD.set_ 15 (.slice (some ⟨wD.heap.size, 0, none⟩) mN mN)
        have hb1 := bD.setCell (p := ⟨b, 15, none⟩) hb (.slice (some ⟨wD.heap.size, 0, none⟩) mN mN)
        have hk1 := kD.set 15 (.slice (some ⟨wD.heap.size, 0, none⟩) mN mN)
        have hz : (wD.setCell ⟨b, 15, none⟩ (.slice (some ⟨wD.heap.size, 0, none⟩) mN mN)).heap.size = wD.heap.size := by simp
        have KN := Bk.new (wD.setCell ⟨b, 15, none⟩ (.slice (some ⟨wD.heap.size, 0, none⟩) mN mN)) 65 (madeCells #[.int .i64 0, .int .i64 0, .int .i64 0, .int .i64 0] (mN * 4))
        rw [hz] at KN
        refine ⟨rfl, P.al _ _ _ hs1, hb1.alloc (by rw [hz]; exact hbN) _, wD.heap.size, mN, mN, some ⟨wD.heap.size, 0, none⟩, hB1.alloc _, ?_, fun _ => ⟨hfN, by omega, hbN⟩, Nat.le_refl _, by omega, (hk1.alloc _).x _⟩
        rw [HO.out, HmN.out, Int.toNat_natCast]
        refine ⟨by simp, fun _ => ⟨rfl, [], ?_⟩⟩
        rw [List.append_nil, ← made_outs]
        exact KN
    case rest =>
      obtain ⟨rfl, hs, hbw, hmid⟩ := hcut
      clear hsD hBD hOD KMD kD bD hbo hLc HL hLb hfm hbl hokL hbd6 HA6 hlt8
      obtain ⟨bo, L, c, A, hB, hO, hbo, hLc, hL1, hK⟩ := hmid
      have hlen := Lib.hid hO.len
      obtain ⟨os, hos⟩ : ∃ os, os = manyO a6.1 r.os := ⟨_, rfl⟩
      rw [← hos] at hO hlen
      have Hoo2 := Lib.hid (show oo = outsF nf os a6.2 by rw [Hoo.out, hos])
      have HOK : ∀ o ∈ os, OkO ok o := by
        rw [hos]
        unfold manyO
        split
        · exact R.os
        · intro o ho
          rw [List.eq_of_mem_replicate ho]
          exact R.z
      have HOKh := Lib.hid HOK
      clear HOK hos
      have c15 : wc.cell? ⟨b, 15, none⟩ = some (.slice A L c) := hB.cell 15
      go_wp2_with fail
      go_loopw [95] (fun v wr => ∃ (k : Nat) (l1 l2 : List Out4) (s' : σ), k ≤ L ∧ v = .int .i64 k ∧ St wr s' ∧ Bk wr b t #[v0, v1, v2, .int .i64 (a0.1), .int .i64 (a1.1), .int .i64 (a2.1), .int .i64 (a3.1), .int .i64 (a4.1), .int .i64 (a5.1 - 1), .int .u8 (h1.1.1.toNat : Int), .int .u8 (h1.1.2.1.toNat : Int), .int .u8 (h1.1.2.2.toNat : Int), .int .u8 (h2.1.1.toNat : Int), .int .u8 (h2.1.2.1.toNat : Int), .int .u8 (h2.1.2.2.toNat : Int), .slice A L c, v16, v17, v18, v19, v20] ∧ OBk wr bo A L (l1 ++ l2) ∧ KpX far b bo w wr ∧ Below base w wr ∧ sz s' ≤ sz s + 52 + 16 * k ∧ Hid (l1.length = k) ∧ Hid (outsF nf os a6.2 = (l1 ++ (outsF nf l2 s').1, (outsF nf l2 s').2)) ∧ Hid (∀ o ∈ l2, OkO ok o)) (fun v _ => L - (intOf v).toNat)
      case atStart => exact ⟨0, [], os, a6.2, by omega, rfl, hs, hB, hO, hK, hbw, by omega, rfl, rfl, HOKh.out⟩
      case round =>
        clear hs hB hO hK hbw c15
        obtain ⟨k, l1, l2, s', hk, rfl, hs, hB, hO, hK, hbw, hsz, H1, H2, H3⟩ := hrel
        obtain ⟨wo, rfl⟩ : ∃ wo : World, wo = wr := ⟨_, rfl⟩
        by_cases hlt : k < L
        · obtain ⟨rfl, junk, hJ⟩ := hO.blk (by omega)
          have hbo2 := hbo (by omega)
          obtain ⟨⟨p, x, y, z⟩, l2', hl2⟩ : ∃ o l, l2 = o :: l := by
            cases l2 with
            | nil => have := hO.len; have := H1.out; simp at *; omega
            | cons o l => exact ⟨o, l, rfl⟩
          subst hl2
          have G := get_out l1 p x y z l2' junk k H1.out
          obtain ⟨g0, g1, g2, g3⟩ := G
          have HLL := Lib.hid hO.len
          have hsg0 := P.sg 1 p s' (by omega)
          have OKo := H3.out (p, x, y, z) (by simp)
          obtain ⟨o0, o1, o2, o3, o4, o5, o6⟩ := OKo
          have AQ := abQ_eq nf l1 p x y z l2' junk k H1.out s'
          have hk0 : (0 : Int) ≤ (k : Int) := by omega
          have hk1 : (k : Int) < (L : Int) := by omega
          have s0 : wo.cell? ⟨b, 15, none⟩ = some (.slice (some ⟨bo, 0, none⟩) L c) := hB.cell 15
          have N := P.num 1 bo (k * 4) 65 _ p s' wo.drew (by omega) (by omega) (P.dr _ _ hs) hJ.drew g0 o0 (by decide) hbo2.1 hbo2.2.2
          obtain ⟨C, hC⟩ : ∃ C, C = ((l1 ++ (p, x, y, z) :: l2').flatMap outC ++ junk).toArray.setIfInBounds (k * 4) (.int .i64 (nf 1 p s').1) := ⟨_, rfl⟩
          obtain ⟨sa, hsa⟩ : ∃ sa, sa = (nf 1 p s').2 := ⟨_, rfl⟩
          have e1 : C[k * 4 + 1]? = some (.int .i64 x) := by rw [hC, Array.getElem?_setIfInBounds, if_neg (by omega)]; exact g1
          have e2 : C[k * 4 + 2]? = some (.int .i64 y) := by rw [hC, Array.getElem?_setIfInBounds, if_neg (by omega)]; exact g2
          have e3 : C[k * 4 + 3]? = some (.int .i64 z) := by rw [hC, Array.getElem?_setIfInBounds, if_neg (by omega)]; exact g3
          rw [← hC, ← hsa] at N AQ
          rw [← hsa] at hsg0
          have Nh := Lib.hid N
          have AQh := Lib.hid AQ
          have E1 := Lib.hid e1
          have E2 := Lib.hid e2
          have E3 := Lib.hid e3
          have hBd := hB.drew
          clear N AQ hC hsa g0 g1 g2 g3 e1 e2 e3
          go_wp2_with fail
          go_region_held3 (fun w' => w'.cell? ⟨b, 15, none⟩ = some (.slice (some ⟨bo, 0, none⟩) L c)) (first | exact s0 | exact s1) ((refine Nh.out.mono ?_; rintro e w1 ⟨rfl, hs1, hJ1, k1, b1⟩; have hB1 := k1.2 b t _ hBd ht hf (fun e => hbo2.2.1 e.symm); have s1 : w1.cell? ⟨b, 15, none⟩ = some (.slice (some ⟨bo, 0, none⟩) L c) := hB1.cell 15))
          have hK1 := hK.tr (w2 := w1) k1
          have hb1 := hbw.trans (undrew b1)
          go_wp2_with fail
          go_loopw [110] (fun v wr => ∃ (j : Nat) (q : Array Value × σ), j ≤ 3 ∧ v = .int .i64 j ∧ St wr q.2 ∧ Bk wr bo 65 q.1 ∧ Bk wr b t #[v0, v1, v2, .int .i64 (a0.1), .int .i64 (a1.1), .int .i64 (a2.1), .int .i64 (a3.1), .int .i64 (a4.1), .int .i64 (a5.1 - 1), .int .u8 (h1.1.1.toNat : Int), .int .u8 (h1.1.2.1.toNat : Int), .int .u8 (h1.1.2.2.toNat : Int), .int .u8 (h2.1.1.toNat : Int), .int .u8 (h2.1.2.1.toNat : Int), .int .u8 (h2.1.2.2.toNat : Int), .slice (some ⟨bo, 0, none⟩) L c, v16, v17, v18, v19, v20] ∧ KpX far b bo w wr ∧ Below base w wr ∧ sz q.2 ≤ sz s + 56 + 16 * k + 4 * j ∧ Hid (q = abQ nf x y z (k * 4) (C, sa) j)) (fun v _ => 3 - (intOf v).toNat)
          case atStart => exact ⟨0, (C, sa), by omega, rfl, hs1, hJ1, hB1, hK1, hb1, by simp; omega, rfl⟩
          case round =>
            clear hs1 hJ1 hB1 hK1 hb1 k1 b1 s1 s0 hs hB hJ hK hbw hO hBd Nh
            obtain ⟨j, q, hj, rfl, hs, hJ, hB, hK, hbw, hsz2, HQ⟩ := hrel
            have s0 : wr.cell? ⟨b, 15, none⟩ = some (.slice (some ⟨bo, 0, none⟩) L c) := hB.cell 15
            obtain rfl | rfl | rfl | rfl : j = 0 ∨ j = 1 ∨ j = 2 ∨ j = 3 := by omega
            · have e3 : q = (C, sa) := HQ.out
              have hx : q.1[k * 4 + 1]? = some (.int .i64 x) := by rw [e3]; exact E1.out
              have N := above_any P 2 bo (k * 4 + 1) 65 q.1 x q.2 wr (by omega) (by omega) hs hJ hx o1 (by decide) hbo2.1 hbo2.2.2 o4.1 (by omega)
              have Nh := Lib.hid N
              have E3' := Lib.hid e3
              clear N e3 hx
              go_wp2_with fail
              refine Nh.out.mono ?_
              rintro e w2 ⟨rfl, hs2, hJ2, k2, b2⟩
              have hB2 := k2.2 b t _ hB ht hf (fun e => hbo2.2.1 e.symm)
              go_wp2_with fail
              go_roundw
              case rel => exact ⟨1, abS nf x (k * 4 + 1) q, by omega, by go_num, hs2, hJ2, hB2, hK.tr k2, hbw.trans b2, (by have := P.sg 2 (x + 1) q.2 (by omega); show sz (nf 2 (x + 1) q.2).2 ≤ _; omega), by show _ = _; rw [E3'.out]; rfl⟩
              case measure => simp [intOf]
            · have e3 : q = (abS nf x (k * 4 + 1) (C, sa)) := HQ.out
              have hx : q.1[k * 4 + 2]? = some (.int .i64 y) := by rw [e3]; exact (abS_get nf x _ _ _ (by omega)).trans E2.out
              have N := above_any P 2 bo (k * 4 + 2) 65 q.1 y q.2 wr (by omega) (by omega) hs hJ hx o2 (by decide) hbo2.1 hbo2.2.2 o5.1 (by omega)
              have Nh := Lib.hid N
              have E3' := Lib.hid e3
              clear N e3 hx
              go_wp2_with fail
              refine Nh.out.mono ?_
              rintro e w2 ⟨rfl, hs2, hJ2, k2, b2⟩
              have hB2 := k2.2 b t _ hB ht hf (fun e => hbo2.2.1 e.symm)
              go_wp2_with fail
              go_roundw
              case rel => exact ⟨2, abS nf y (k * 4 + 2) q, by omega, by go_num, hs2, hJ2, hB2, hK.tr k2, hbw.trans b2, (by have := P.sg 2 (y + 1) q.2 (by omega); show sz (nf 2 (y + 1) q.2).2 ≤ _; omega), by show _ = _; rw [E3'.out]; rfl⟩
              case measure => simp [intOf]
            · have e3 : q = (abS nf y (k * 4 + 2) (abS nf x (k * 4 + 1) (C, sa))) := HQ.out
              have hx : q.1[k * 4 + 3]? = some (.int .i64 z) := by rw [e3]; exact (abS_get nf y _ _ _ (by omega)).trans ((abS_get nf x _ _ _ (by omega)).trans E3.out)
              have N := above_any P 2 bo (k * 4 + 3) 65 q.1 z q.2 wr (by omega) (by omega) hs hJ hx o3 (by decide) hbo2.1 hbo2.2.2 o6.1 (by omega)
              have Nh := Lib.hid N
              have E3' := Lib.hid e3
              clear N e3 hx
              go_wp2_with fail
              refine Nh.out.mono ?_
              rintro e w2 ⟨rfl, hs2, hJ2, k2, b2⟩
              have hB2 := k2.2 b t _ hB ht hf (fun e => hbo2.2.1 e.symm)
              go_wp2_with fail
              go_roundw
              case rel => exact ⟨3, abS nf z (k * 4 + 3) q, by omega, by go_num, hs2, hJ2, hB2, hK.tr k2, hbw.trans b2, (by have := P.sg 2 (z + 1) q.2 (by omega); show sz (nf 2 (z + 1) q.2).2 ≤ _; omega), by show _ = _; rw [E3'.out]; rfl⟩
              case measure => simp [intOf]
            · have e3 : q = (((l1 ++ (outF nf (p, x, y, z) s').1 :: l2').flatMap outC ++ junk).toArray, (outF nf (p, x, y, z) s').2) := by rw [HQ.out, AQh.out]
              have E3' := Lib.hid e3
              clear e3
              go_wp2_with fail
              go_roundw
              case rel =>
                have E3'sz : sz q.2 = sz (outF nf (p, x, y, z) s').2 := by rw [E3'.out]
                rw [E3'.out] at hs hJ
                refine ⟨k + 1, l1 ++ [(outF nf (p, x, y, z) s').1], l2', (outF nf (p, x, y, z) s').2, by omega, by go_num, hs, hB, ?_, hK, hbw, (by rw [← E3'sz]; omega), by show _ = _; simp [H1.out], ?_, fun o ho => H3.out o (by simp [ho])⟩
                · rw [List.append_assoc]
                  refine ⟨?_, fun _ => ⟨rfl, junk, hJ⟩⟩
                  have := HLL.out
                  simp at this ⊢
                  omega
                · show _ = _
                  rw [H2.out]
                  simp [outsF]
              case measure => simp [intOf]; omega
        · obtain rfl : k = L := by omega
          go_wp2_with fail
          go_end0
          have hn : l2 = [] := by
            have h1 := hO.len
            have h2 := H1.out
            simp at h1
            exact List.eq_nil_of_length_eq_zero (by omega)
          subst hn
          have h3 := H2.out
          rw [← Hoo2.out] at h3
          simp only [outsF, List.append_nil] at h3
          rw [HR2.out, h3]
          rw [List.append_nil] at hO
          exact ⟨rfl, hs, ⟨bo, _, c, A, hB, hO, hbo, hLc, hK⟩, hbw⟩
  · have hk2 : (a0.1 != 1) = true := by simpa using hk1
    have HR2 := Lib.hid (show R' = (⟨a0.1, a1.1, a2.1, a3.1, r.m, r.os⟩, a3.2) by rw [HR.out, if_neg hk1])
    clear hk1
    go_wp2_with fail
    refine bodyPost_ret (results_none rfl _ _ _) rfl ?_
    rw [HR2.out]
    exact ⟨rfl, hs4, ⟨bo, L, c, A, hB4, hO4, hbo, hLc, Kp.x k4 bo⟩, b4⟩
end Go.Proofs.Ytfnnjaljnfphlaa
