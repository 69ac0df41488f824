/- Orders: header, three bytes told one by one. -/
import Derived.Test.YtfnnjaljnfphlaaOdp
namespace Go.Proofs.Ytfnnjaljnfphlaa
open Go.RowKit
set_option maxRecDepth 100000
set_option maxHeartbeats 4000000
set_option linter.unusedSimpArgs false
set_option linter.unusedVariables false

/-- One byte is told. -/
def hdS {σ : Type} (nf : Nat → Int → σ → Int × σ) (c : UInt8) (i : Nat) (q : Array Value × σ) : Array Value × σ :=
  (q.1.setIfInBounds i (.int .u8 ((UInt8.ofNat (nf 1 (c.toNat : Int) q.2).1.toNat).toNat : Int)), (nf 1 (c.toNat : Int) q.2).2)
def hdQ {σ : Type} (nf : Nat → Int → σ → Int × σ) (c0 c1 c2 : UInt8) (i : Nat) (q : Array Value × σ) (k : Nat) : Array Value × σ :=
  if k = 0 then q else if k = 1 then hdS nf c0 i q else if k = 2 then hdS nf c1 (i + 1) (hdS nf c0 i q) else hdS nf c2 (i + 2) (hdS nf c1 (i + 1) (hdS nf c0 i q))
theorem hdS_get {σ : Type} (nf : Nat → Int → σ → Int × σ) (c : UInt8) (i j : Nat) (q : Array Value × σ) (h : i ≠ j) : (hdS nf c i q).1[j]? = q.1[j]? := by
  unfold hdS
  rw [Array.getElem?_setIfInBounds, if_neg h]

theorem header_any {T g fN base : Nat} {far : Nat → Prop} {σ : Type} {St : World → σ → Prop} {nf : Nat → Int → σ → Int × σ} {ok : Nat → Int → Prop} {sz : σ → Nat} {M : Nat} (P : PI T g fN base far St nf ok sz M)
    (b i : Nat) (t : TypeId) (cs : Array Value) (d0 d1 d2 : UInt8) (s : σ) (w : World) (hm : sz s + 8 ≤ M) (hs : St w s) (hB : Bk w b t cs) (hx0 : cs[i]? = some (.int .u8 (d0.toNat : Int))) (hx1 : cs[i + 1]? = some (.int .u8 (d1.toNat : Int))) (hx2 : cs[i + 2]? = some (.int .u8 (d2.toNat : Int)))
    (hok : ∀ c : UInt8, ok 1 (c.toNat : Int)) (ht : t ≠ 5) (hf : far b) (hb : base ≤ b) :
    Calls Try.prog 147 #[.iface T (.pointer (some ⟨g, 0, none⟩)), .pointer (some ⟨b, i, none⟩)] w fun e w' => e = .returned (.tuple #[]) ∧ St w' (hdQ nf d0 d1 d2 i (cs, s) 3).2 ∧ Bk w' b t (hdQ nf d0 d1 d2 i (cs, s) 3).1 ∧ Kp far b w w' ∧ Below base w w' := by
  have hna := P.na
  have hme := P.me
  have hcf := P.cf
  have HX0 := Lib.hid hx0
  have HX1 := Lib.hid hx1
  have HX2 := Lib.hid hx2
  clear hx0 hx1 hx2
  obtain ⟨q3, hq3⟩ : ∃ q, q = hdQ nf d0 d1 d2 i (cs, s) 3 := ⟨_, rfl⟩
  rw [← hq3]
  have HQ3 := Lib.hid hq3
  clear hq3
  go_enter Try.func147, Try.ntmps147
  go_wp2_with fail
  go_loopw [6] (fun v wr => ∃ (k : Nat) (q : Array Value × σ), k ≤ 3 ∧ v = .int .i64 k ∧ St wr q.2 ∧ Bk wr b t q.1 ∧ Kp far b w wr ∧ Below base w wr ∧ sz q.2 ≤ sz s + 4 * k ∧ Hid (q = hdQ nf d0 d1 d2 i (cs, s) k)) (fun v _ => 3 - (intOf v).toNat)
  case atStart => exact ⟨0, (cs, s), by omega, rfl, hs, hB, Kp.refl _ _ _, Below.refl _ _, by simp, rfl⟩
  case round =>
    clear hs hB
    obtain ⟨k, q, hk, rfl, hs, hB, hK, hb', hsz, HQ⟩ := hrel
    obtain rfl | rfl | rfl | rfl : k = 0 ∨ k = 1 ∨ k = 2 ∨ k = 3 := by omega
    · have hx : q.1[i]? = some (.int .u8 (d0.toNat : Int)) := by rw [HQ.out]; exact HX0.out
      have hlt := hB.lt
      have c0 : wr.cell? ⟨b, i, none⟩ = some (.int .u8 (d0.toNat : Int)) := by rw [hB.cell]; exact hx
      have hbl := P.bs wr _ hs
      have hu := byte_lt d0
      have KM := Bk.new wr 3 #[.int .i64 (d0.toNat : Int)]
      have hs1 := P.al wr _ (.cells #[.int .i64 (d0.toNat : Int)] 3) hs
      have N := P.num 1 wr.heap.size 0 3 #[.int .i64 (d0.toNat : Int)] (d0.toNat : Int) _ _ (by omega) (by omega) hs1 KM rfl (hok d0) (by decide) (P.fr wr _ _ hs (Nat.le_refl _)) hbl
      have hbd := P.bd 1 (d0.toNat : Int) q.2 (hok d0)
      have hsg := P.sg 1 (d0.toNat : Int) q.2 (by omega)
      rw [set0] at N
      obtain ⟨y, hy⟩ : ∃ y, y = nf 1 (d0.toNat : Int) q.2 := ⟨_, rfl⟩
      rw [← hy] at N hbd
      have Nh := Lib.hid N
      have hyh := Lib.hid hy
      have hBa := hB.alloc (.cells #[.int .i64 (d0.toNat : Int)] 3)
      have k0 : Kp far b wr (wr.alloc (.cells #[.int .i64 (d0.toNat : Int)] 3)) := (Kp.refl far b wr).alloc _
      have b0 : Below base w (wr.alloc (.cells #[.int .i64 (d0.toNat : Int)] 3)) := hb'.alloc hbl _
      have hxh := Lib.hid hx
      clear N hy hx
      go_wp2_with fail
      refine Nh.out.mono ?_
      rintro e w2 ⟨rfl, hs2, KM2, k2, b2⟩
      have hB2 := k2.2 b t _ hBa ht hf (by omega)
      have k3 := hK.tr (k2.new k0 (Nat.le_refl _))
      have b3 := b0.trans b2
      have m0 := KM2.one.1
      have c0 : w2.cell? ⟨b, i, none⟩ = some (.int .u8 (d0.toNat : Int)) := by rw [hB2.cell]; exact hxh.out
      have f0 := hB2.frozen (i)
      have hkp : ∀ j u, (w2.setCell ⟨b, j, none⟩ u).cell? ⟨wr.heap.size, 0, none⟩ = some (.int .i64 y.1) := fun j u => (World.cell?_setCell_other w2 _ _ u (fun e => by cases e; omega)).trans m0
      have hy2 : 0 ≤ y.1 ∧ y.1 ≤ 255 := by have := hbd.2; simp at this; omega
      have hwr : IntKind.u8.wrap y.1 = y.1 := by rw [IntKind.wrap_u8]; omega
      clear Nh k2 b2 b0 k0 hbd
      go_wp2_with fail
      go_region_held3 (fun w' => w'.cell? ⟨wr.heap.size, 0, none⟩ = some (.int .i64 y.1)) (first | exact m0 | exact hkp _ _) (fail)
      all_goals
        go_wp2_with fail
        go_roundw
        case rel =>
          have e8 : ((UInt8.ofNat y.1.toNat).toNat : Int) = y.1 := by simp; omega
          refine ⟨1, hdS nf d0 (i) q, by omega, by go_num, ?_, ?_, (k3.drew).set _ _, b3.drew.setCell hb _, (by show sz (nf 1 (d0.toNat : Int) q.2).2 ≤ _; omega), ?_⟩
          · have := P.se _ _ _ _ _ (i) (.int .u8 y.1) (P.dr _ _ hs2) hB2.drew ht hf
            unfold hdS
            rw [← hyh.out]
            exact this
          · have := hB2.drew.set_ (i) (.int .u8 y.1)
            unfold hdS
            rw [← hyh.out, e8]
            exact this
          · show _ = _
            rw [HQ.out]
            rfl
        case measure => simp [intOf]
    · have hx : q.1[i + 1]? = some (.int .u8 (d1.toNat : Int)) := by rw [HQ.out]; exact (hdS_get nf d0 i (i + 1) _ (by omega)).trans HX1.out
      have hlt := hB.lt
      have c0 : wr.cell? ⟨b, i + 1, none⟩ = some (.int .u8 (d1.toNat : Int)) := by rw [hB.cell]; exact hx
      have hbl := P.bs wr _ hs
      have hu := byte_lt d1
      have KM := Bk.new wr 3 #[.int .i64 (d1.toNat : Int)]
      have hs1 := P.al wr _ (.cells #[.int .i64 (d1.toNat : Int)] 3) hs
      have N := P.num 1 wr.heap.size 0 3 #[.int .i64 (d1.toNat : Int)] (d1.toNat : Int) _ _ (by omega) (by omega) hs1 KM rfl (hok d1) (by decide) (P.fr wr _ _ hs (Nat.le_refl _)) hbl
      have hbd := P.bd 1 (d1.toNat : Int) q.2 (hok d1)
      have hsg := P.sg 1 (d1.toNat : Int) q.2 (by omega)
      rw [set0] at N
      obtain ⟨y, hy⟩ : ∃ y, y = nf 1 (d1.toNat : Int) q.2 := ⟨_, rfl⟩
      rw [← hy] at N hbd
      have Nh := Lib.hid N
      have hyh := Lib.hid hy
      have hBa := hB.alloc (.cells #[.int .i64 (d1.toNat : Int)] 3)
      have k0 : Kp far b wr (wr.alloc (.cells #[.int .i64 (d1.toNat : Int)] 3)) := (Kp.refl far b wr).alloc _
      have b0 : Below base w (wr.alloc (.cells #[.int .i64 (d1.toNat : Int)] 3)) := hb'.alloc hbl _
      have hxh := Lib.hid hx
      clear N hy hx
      go_wp2_with fail
      refine Nh.out.mono ?_
      rintro e w2 ⟨rfl, hs2, KM2, k2, b2⟩
      have hB2 := k2.2 b t _ hBa ht hf (by omega)
      have k3 := hK.tr (k2.new k0 (Nat.le_refl _))
      have b3 := b0.trans b2
      have m0 := KM2.one.1
      have c0 : w2.cell? ⟨b, i + 1, none⟩ = some (.int .u8 (d1.toNat : Int)) := by rw [hB2.cell]; exact hxh.out
      have f0 := hB2.frozen (i + 1)
      have hkp : ∀ j u, (w2.setCell ⟨b, j, none⟩ u).cell? ⟨wr.heap.size, 0, none⟩ = some (.int .i64 y.1) := fun j u => (World.cell?_setCell_other w2 _ _ u (fun e => by cases e; omega)).trans m0
      have hy2 : 0 ≤ y.1 ∧ y.1 ≤ 255 := by have := hbd.2; simp at this; omega
      have hwr : IntKind.u8.wrap y.1 = y.1 := by rw [IntKind.wrap_u8]; omega
      clear Nh k2 b2 b0 k0 hbd
      go_wp2_with fail
      go_region_held3 (fun w' => w'.cell? ⟨wr.heap.size, 0, none⟩ = some (.int .i64 y.1)) (first | exact m0 | exact hkp _ _) (fail)
      all_goals
        go_wp2_with fail
        go_roundw
        case rel =>
          have e8 : ((UInt8.ofNat y.1.toNat).toNat : Int) = y.1 := by simp; omega
          refine ⟨2, hdS nf d1 (i + 1) q, by omega, by go_num, ?_, ?_, (k3.drew).set _ _, b3.drew.setCell hb _, (by show sz (nf 1 (d1.toNat : Int) q.2).2 ≤ _; omega), ?_⟩
          · have := P.se _ _ _ _ _ (i + 1) (.int .u8 y.1) (P.dr _ _ hs2) hB2.drew ht hf
            unfold hdS
            rw [← hyh.out]
            exact this
          · have := hB2.drew.set_ (i + 1) (.int .u8 y.1)
            unfold hdS
            rw [← hyh.out, e8]
            exact this
          · show _ = _
            rw [HQ.out]
            rfl
        case measure => simp [intOf]
    · have hx : q.1[i + 2]? = some (.int .u8 (d2.toNat : Int)) := by rw [HQ.out]; exact (hdS_get nf d1 (i + 1) (i + 2) _ (by omega)).trans ((hdS_get nf d0 i (i + 2) _ (by omega)).trans HX2.out)
      have hlt := hB.lt
      have c0 : wr.cell? ⟨b, i + 2, none⟩ = some (.int .u8 (d2.toNat : Int)) := by rw [hB.cell]; exact hx
      have hbl := P.bs wr _ hs
      have hu := byte_lt d2
      have KM := Bk.new wr 3 #[.int .i64 (d2.toNat : Int)]
      have hs1 := P.al wr _ (.cells #[.int .i64 (d2.toNat : Int)] 3) hs
      have N := P.num 1 wr.heap.size 0 3 #[.int .i64 (d2.toNat : Int)] (d2.toNat : Int) _ _ (by omega) (by omega) hs1 KM rfl (hok d2) (by decide) (P.fr wr _ _ hs (Nat.le_refl _)) hbl
      have hbd := P.bd 1 (d2.toNat : Int) q.2 (hok d2)
      have hsg := P.sg 1 (d2.toNat : Int) q.2 (by omega)
      rw [set0] at N
      obtain ⟨y, hy⟩ : ∃ y, y = nf 1 (d2.toNat : Int) q.2 := ⟨_, rfl⟩
      rw [← hy] at N hbd
      have Nh := Lib.hid N
      have hyh := Lib.hid hy
      have hBa := hB.alloc (.cells #[.int .i64 (d2.toNat : Int)] 3)
      have k0 : Kp far b wr (wr.alloc (.cells #[.int .i64 (d2.toNat : Int)] 3)) := (Kp.refl far b wr).alloc _
      have b0 : Below base w (wr.alloc (.cells #[.int .i64 (d2.toNat : Int)] 3)) := hb'.alloc hbl _
      have hxh := Lib.hid hx
      clear N hy hx
      go_wp2_with fail
      refine Nh.out.mono ?_
      rintro e w2 ⟨rfl, hs2, KM2, k2, b2⟩
      have hB2 := k2.2 b t _ hBa ht hf (by omega)
      have k3 := hK.tr (k2.new k0 (Nat.le_refl _))
      have b3 := b0.trans b2
      have m0 := KM2.one.1
      have c0 : w2.cell? ⟨b, i + 2, none⟩ = some (.int .u8 (d2.toNat : Int)) := by rw [hB2.cell]; exact hxh.out
      have f0 := hB2.frozen (i + 2)
      have hkp : ∀ j u, (w2.setCell ⟨b, j, none⟩ u).cell? ⟨wr.heap.size, 0, none⟩ = some (.int .i64 y.1) := fun j u => (World.cell?_setCell_other w2 _ _ u (fun e => by cases e; omega)).trans m0
      have hy2 : 0 ≤ y.1 ∧ y.1 ≤ 255 := by have := hbd.2; simp at this; omega
      have hwr : IntKind.u8.wrap y.1 = y.1 := by rw [IntKind.wrap_u8]; omega
      clear Nh k2 b2 b0 k0 hbd
      go_wp2_with fail
      go_region_held3 (fun w' => w'.cell? ⟨wr.heap.size, 0, none⟩ = some (.int .i64 y.1)) (first | exact m0 | exact hkp _ _) (fail)
      all_goals
        go_wp2_with fail
        go_roundw
        case rel =>
          have e8 : ((UInt8.ofNat y.1.toNat).toNat : Int) = y.1 := by simp; omega
          refine ⟨3, hdS nf d2 (i + 2) q, by omega, by go_num, ?_, ?_, (k3.drew).set _ _, b3.drew.setCell hb _, (by show sz (nf 1 (d2.toNat : Int) q.2).2 ≤ _; omega), ?_⟩
          · have := P.se _ _ _ _ _ (i + 2) (.int .u8 y.1) (P.dr _ _ hs2) hB2.drew ht hf
            unfold hdS
            rw [← hyh.out]
            exact this
          · have := hB2.drew.set_ (i + 2) (.int .u8 y.1)
            unfold hdS
            rw [← hyh.out, e8]
            exact this
          · show _ = _
            rw [HQ.out]
            rfl
        case measure => simp [intOf]
    · go_wp2_with fail
      go_end0
      have e : q = q3 := by rw [HQ.out, HQ3.out]
      rw [← e]
      exact ⟨rfl, hs, hB, hK, hb'⟩
end Go.Proofs.Ytfnnjaljnfphlaa
