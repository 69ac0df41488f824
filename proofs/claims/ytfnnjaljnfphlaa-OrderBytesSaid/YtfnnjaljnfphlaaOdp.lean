/- Orders: what tells parts one by one (the interface 'parts'), as a contract; above. -/
import Derived.Test.YtfnnjaljnfphlaaOdk
import Derived.Test.YtfnnjaljnfphlaaPpa
import Derived.Deep.RegionHeld3
namespace Go.Proofs.Ytfnnjaljnfphlaa
open Go.RowKit
set_option maxRecDepth 100000
set_option maxHeartbeats 4000000
set_option linter.unusedSimpArgs false
set_option linter.unusedVariables false

/-- What lies in other blocks than b, and is no row of bytes, lies as it lay. -/
def Kp (far : Nat → Prop) (b : Nat) (w w' : World) : Prop := w.heap.size ≤ w'.heap.size ∧ ∀ g t cs, Bk w g t cs → t ≠ 5 → far g → g ≠ b → Bk w' g t cs
theorem Kp.tr {far : Nat → Prop} {b : Nat} {w1 w2 w3 : World} (h : Kp far b w1 w2) (k : Kp far b w2 w3) : Kp far b w1 w3 :=
  ⟨Nat.le_trans h.1 k.1, fun g t cs hb ht hf hg => k.2 g t cs (h.2 g t cs hb ht hf hg) ht hf hg⟩
theorem Kp.refl (far : Nat → Prop) (b : Nat) (w : World) : Kp far b w w := ⟨Nat.le_refl _, fun _ _ _ h _ _ _ => h⟩
theorem Kp.alloc {far : Nat → Prop} {b : Nat} {w w' : World} (h : Kp far b w w') (o : Obj) : Kp far b w (w'.alloc o) :=
  ⟨by have := h.1; simp; omega, fun g t cs hb ht hf hg => (h.2 g t cs hb ht hf hg).alloc o⟩
theorem Kp.set {far : Nat → Prop} {b : Nat} {w w' : World} (h : Kp far b w w') (i : Nat) (u : Value) : Kp far b w (w'.setCell ⟨b, i, none⟩ u) :=
  ⟨by have := h.1; simpa using this, fun g t cs hb ht hf hg => (h.2 g t cs hb ht hf hg).far (p := ⟨b, i, none⟩) hg u⟩
theorem Kp.drew {far : Nat → Prop} {b : Nat} {w w' : World} (h : Kp far b w w') : Kp far b w w'.drew := h
theorem Kp.drewN {far : Nat → Prop} {b : Nat} {w w' : World} (h : Kp far b w w') (n : Nat) : Kp far b w (w'.drewN n) := h
/-- What lies in new blocks alone has turned, but for b. -/
theorem Kp.new {far : Nat → Prop} {b c : Nat} {w w1 w2 : World} (h : Kp far c w1 w2) (k : Kp far b w w1) (hc : w.heap.size ≤ c) : Kp far b w w2 :=
  ⟨Nat.le_trans k.1 h.1, fun g t cs hb ht hf hg => h.2 g t cs (k.2 g t cs hb ht hf hg) ht hf (by have := hb.lt; omega)⟩

/-- Something that parts are told to: its type, its block, the function of its method num; what it has become; what num does. -/
structure PI (T g fN base : Nat) (far : Nat → Prop) {σ : Type} (St : World → σ → Prop) (nf : Nat → Int → σ → Int × σ) (ok : Nat → Int → Prop) (sz : σ → Nat) (M : Nat) : Prop where
  na : ∀ w, (nilAhead 274 T (.pointer (some ⟨g, 0, none⟩)) "catenary/order.num").run Try.prog w = .ok (some false) w
  me : ∀ w, (method 274 T (.pointer (some ⟨g, 0, none⟩)) "catenary/order.num").run Try.prog w = .ok (fN, .pointer (some ⟨g, 0, none⟩)) w
  cf : ∀ args w, (callFunc fN args).run Try.prog w = .ok (.enter fN args) w
  al : ∀ w s o, St w s → St (w.alloc o) s
  dr : ∀ w s, St w s → St w.drew s
  se : ∀ w s b t cs i v, St w s → Bk w b t cs → t ≠ 5 → far b → St (w.setCell ⟨b, i, none⟩ v) s
  fr : ∀ w s k, St w s → w.heap.size ≤ k → far k
  bs : ∀ w s, St w s → base ≤ w.heap.size
  bd : ∀ z x s, ok z x → 0 ≤ (nf z x s).1 ∧ (nf z x s).1 < ((256 ^ z : Nat) : Int)
  sg : ∀ z x s, z ≤ 4 → sz (nf z x s).2 ≤ sz s + 4
  num : ∀ (z b i : Nat) (t : TypeId) (cs : Array Value) (x : Int) (s : σ) (w : World), (z = 1 ∨ z = 2 ∨ z = 4) → sz s ≤ M → St w s → Bk w b t cs → cs[i]? = some (.int .i64 x) → ok z x → t ≠ 5 → far b → base ≤ b →
    Calls Try.prog fN #[.pointer (some ⟨g, 0, none⟩), .int .i64 (z : Int), .pointer (some ⟨b, i, none⟩)] w fun e w' => e = .returned (.tuple #[]) ∧ St w' (nf z x s).2 ∧ Bk w' b t (cs.setIfInBounds i (.int .i64 (nf z x s).1)) ∧ Kp far b w w' ∧ Below base w w'

theorem set0 (a b : Value) : (#[a] : Array Value).setIfInBounds 0 b = #[b] := rfl
/-- above: a number that is written as one more. -/
theorem above_any {T g fN base : Nat} {far : Nat → Prop} {σ : Type} {St : World → σ → Prop} {nf : Nat → Int → σ → Int × σ} {ok : Nat → Int → Prop} {sz : σ → Nat} {M : Nat} (P : PI T g fN base far St nf ok sz M)
    (z b i : Nat) (t : TypeId) (cs : Array Value) (x : Int) (s : σ) (w : World) (hz : z = 1 ∨ z = 2 ∨ z = 4) (hm : sz s ≤ M) (hs : St w s) (hB : Bk w b t cs) (hx : cs[i]? = some (.int .i64 x)) (hok : ok z (x + 1)) (ht : t ≠ 5) (hf : far b) (hb : base ≤ b)
    (hx1 : -1 ≤ x) (hx2 : x ≤ 1000000000000) :
    Calls Try.prog 146 #[.iface T (.pointer (some ⟨g, 0, none⟩)), .int .i64 (z : Int), .pointer (some ⟨b, i, none⟩)] w fun e w' => e = .returned (.tuple #[]) ∧ St w' (nf z (x + 1) s).2 ∧ Bk w' b t (cs.setIfInBounds i (.int .i64 ((nf z (x + 1) s).1 - 1))) ∧ Kp far b w w' ∧ Below base w w' := by
  have hna := P.na
  have hme := P.me
  have hcf := P.cf
  have c0 : w.cell? ⟨b, i, none⟩ = some (.int .i64 x) := by rw [hB.cell]; exact hx
  have hi : i < cs.size := (Array.getElem?_eq_some_iff.1 hx).1
  have hZ := Lib.hid hz
  have hlt := hB.lt
  have hbd := P.bd z (x + 1) s hok
  have hr : 0 ≤ (nf z (x + 1) s).1 ∧ (nf z (x + 1) s).1 ≤ 4294967296 := by
    rcases hz with rfl | rfl | rfl <;> omega
  clear hz
  have hbl := P.bs w s hs
  have KM := Bk.new w 3 #[.int .i64 (x + 1)]
  have hs1 := P.al w s (.cells #[.int .i64 (x + 1)] 3) hs
  have N := P.num z w.heap.size 0 3 #[.int .i64 (x + 1)] (x + 1) s _ hZ.out hm hs1 KM rfl hok (by decide) (P.fr w s _ hs (Nat.le_refl _)) hbl
  rw [set0] at N
  obtain ⟨y, hy⟩ : ∃ y, y = nf z (x + 1) s := ⟨_, rfl⟩
  rw [← hy] at N hr ⊢
  have Nh := Lib.hid N
  have hBa := hB.alloc (.cells #[.int .i64 (x + 1)] 3)
  have k0 : Kp far b w (w.alloc (.cells #[.int .i64 (x + 1)] 3)) := (Kp.refl far b w).alloc _
  have b0 : Below base w (w.alloc (.cells #[.int .i64 (x + 1)] 3)) := (Below.refl base w).alloc hbl _
  clear N hbd hy
  go_enter Try.func146, Try.ntmps146
  go_wp2_with fail
  refine Nh.out.mono ?_
  rintro e w2 ⟨rfl, hs2, KM2, k2, b2⟩
  have hB2 := k2.2 b t cs hBa ht hf (by omega)
  have k3 := k2.new k0 (Nat.le_refl _)
  have b3 := b0.trans b2
  have m0 := KM2.one.1
  have c0 : w2.cell? ⟨b, i, none⟩ = some (.int .i64 x) := by rw [hB2.cell]; exact hx
  have f0 := hB2.frozen i
  clear Nh k2 b2 b0 k0
  go_wp2_with fail
  go_end0
  exact ⟨rfl, P.se _ _ _ _ _ _ _ hs2 hB2 ht hf, hB2.set_ _ _, k3.set _ _, b3.setCell hb _⟩
end Go.Proofs.Ytfnnjaljnfphlaa
