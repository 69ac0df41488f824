/- Orders: the parts of kinds (tag, barrier, port, ask, done, none). -/
import Derived.Test.YtfnnjaljnfphlaaOdp
namespace Go.Proofs.Ytfnnjaljnfphlaa
open Go.RowKit
set_option maxRecDepth 100000
set_option maxHeartbeats 4000000
set_option linter.unusedSimpArgs false
set_option linter.unusedVariables false

theorem hnone (b : Nat) (v : Value) (w : World) : Calls Try.prog 114 #[.pointer (some ⟨b, 0, none⟩), v] w fun e w' => e = .returned (.tuple #[]) ∧ w = w' := by
  go_enter Try.func114, Try.ntmps114
  go_wp2_with fail
  go_end0
  exact ⟨rfl, rfl⟩
theorem htag {T g fN base : Nat} {far : Nat → Prop} {σ : Type} {St : World → σ → Prop} {nf : Nat → Int → σ → Int × σ} {ok : Nat → Int → Prop} {sz : σ → Nat} {M : Nat} (P : PI T g fN base far St nf ok sz M)
    (b : Nat) (t : TypeId) (cs : Array Value) (n : Int) (s : σ) (w : World) (hm : sz s + 4 ≤ M) (hs : St w s) (hB : Bk w b t cs) (hx1 : cs[1]? = some (.int .i64 n)) (ok1 : ok 1 n) (ht : t ≠ 5) (hf : far b) (hb : base ≤ b) :
    Calls Try.prog 116 #[.pointer (some ⟨b, 0, none⟩), .iface T (.pointer (some ⟨g, 0, none⟩))] w fun e w' => e = .returned (.tuple #[]) ∧ St w' (nf 1 n s).2 ∧ Bk w' b t (cs.setIfInBounds 1 (.int .i64 (nf 1 n s).1)) ∧ Kp far b w w' ∧ Below base w w' := by
  have hmf : ∀ (fn : Fn) (first cap : Array Value) (w : World), (Instr.makeFunc fn first cap).run Try.prog w = .ok (.func fn first cap) w := fun _ _ _ _ => rfl
  have hna := P.na
  have hme := P.me
  have hcf := P.cf
  have N1 := P.num 1 b 1 t cs n s w.drew (by omega) (by omega) (P.dr _ _ hs) hB.drew hx1 ok1 ht hf hb
  clear hx1
  have N1h := Lib.hid N1
  clear N1
  go_enter Try.func116, Try.ntmps116
  go_wp2_with fail
  go_region_held3 (fun _ => True) (trivial) ((refine N1h.out.mono ?_; rintro e w2 ⟨rfl, hs2, hB2, k2, b2⟩))
  all_goals
    go_wp2_with fail
    go_end0
    exact ⟨rfl, hs2, hB2, k2, undrew b2⟩
theorem hbarrier {T g fN base : Nat} {far : Nat → Prop} {σ : Type} {St : World → σ → Prop} {nf : Nat → Int → σ → Int × σ} {ok : Nat → Int → Prop} {sz : σ → Nat} {M : Nat} (P : PI T g fN base far St nf ok sz M)
    (b : Nat) (t : TypeId) (cs : Array Value) (n : Int) (s : σ) (w : World) (hm : sz s + 4 ≤ M) (hs : St w s) (hB : Bk w b t cs) (hx1 : cs[1]? = some (.int .i64 n)) (ok1 : ok 4 n) (ht : t ≠ 5) (hf : far b) (hb : base ≤ b) :
    Calls Try.prog 118 #[.pointer (some ⟨b, 0, none⟩), .iface T (.pointer (some ⟨g, 0, none⟩))] w fun e w' => e = .returned (.tuple #[]) ∧ St w' (nf 4 n s).2 ∧ Bk w' b t (cs.setIfInBounds 1 (.int .i64 (nf 4 n s).1)) ∧ Kp far b w w' ∧ Below base w w' := by
  have hmf : ∀ (fn : Fn) (first cap : Array Value) (w : World), (Instr.makeFunc fn first cap).run Try.prog w = .ok (.func fn first cap) w := fun _ _ _ _ => rfl
  have hna := P.na
  have hme := P.me
  have hcf := P.cf
  have N1 := P.num 4 b 1 t cs n s w.drew (by omega) (by omega) (P.dr _ _ hs) hB.drew hx1 ok1 ht hf hb
  clear hx1
  have N1h := Lib.hid N1
  clear N1
  go_enter Try.func118, Try.ntmps118
  go_wp2_with fail
  go_region_held3 (fun _ => True) (trivial) ((refine N1h.out.mono ?_; rintro e w2 ⟨rfl, hs2, hB2, k2, b2⟩))
  all_goals
    go_wp2_with fail
    go_end0
    exact ⟨rfl, hs2, hB2, k2, undrew b2⟩
theorem hport {T g fN base : Nat} {far : Nat → Prop} {σ : Type} {St : World → σ → Prop} {nf : Nat → Int → σ → Int × σ} {ok : Nat → Int → Prop} {sz : σ → Nat} {M : Nat} (P : PI T g fN base far St nf ok sz M)
    (b : Nat) (t : TypeId) (cs : Array Value) (n m : Int) (s : σ) (w : World) (hm : sz s + 4 ≤ M) (hs : St w s) (hB : Bk w b t cs) (hx1 : cs[1]? = some (.int .i64 n)) (hx2 : cs[2]? = some (.int .i64 m)) (ok1 : ok 1 n) (ok2 : ok 1 m) (ht : t ≠ 5) (hf : far b) (hb : base ≤ b) :
    Calls Try.prog 121 #[.pointer (some ⟨b, 0, none⟩), .iface T (.pointer (some ⟨g, 0, none⟩))] w fun e w' => e = .returned (.tuple #[]) ∧ St w' (nf 1 m (nf 1 n s).2).2 ∧ Bk w' b t ((cs.setIfInBounds 1 (.int .i64 (nf 1 n s).1)).setIfInBounds 2 (.int .i64 (nf 1 m (nf 1 n s).2).1)) ∧ Kp far b w w' ∧ Below base w w' := by
  have hmf : ∀ (fn : Fn) (first cap : Array Value) (w : World), (Instr.makeFunc fn first cap).run Try.prog w = .ok (.func fn first cap) w := fun _ _ _ _ => rfl
  have hna := P.na
  have hme := P.me
  have hcf := P.cf
  have N1 := P.num 1 b 1 t cs n s w.drew (by omega) (by omega) (P.dr _ _ hs) hB.drew hx1 ok1 ht hf hb
  have N2 := fun (w2 : World) (c1 : Array Value) (s2 : σ) (hm2 : sz s2 ≤ M) hs2 hB2 hx => P.num 1 b 2 t c1 m s2 w2.drew (by omega) hm2 (P.dr w2 s2 hs2) (Bk.drew hB2) hx ok2 ht hf hb
  have hsg := P.sg 1 n s (by omega)
  obtain ⟨y, hy⟩ : ∃ y, y = nf 1 n s := ⟨_, rfl⟩
  rw [← hy] at N1 hsg ⊢
  have hxx : (cs.setIfInBounds 1 (.int .i64 y.1))[2]? = some (.int .i64 m) := by rw [Array.getElem?_setIfInBounds, if_neg (by decide)]; exact hx2
  have hxh := Lib.hid hxx
  have N2h := Lib.hid N2
  clear hy N2 hx1 hx2 hxx
  have N1h := Lib.hid N1
  clear N1
  go_enter Try.func121, Try.ntmps121
  go_wp2_with fail
  go_region_held3 (fun _ => True) (trivial) ((refine N1h.out.mono ?_; rintro e w2 ⟨rfl, hs2, hB2, k2, b2⟩))
  have N3h := Lib.hid (N2h.out w2 _ _ (by omega) hs2 hB2 hxh.out)
  clear N2h N1h
  go_wp2_with fail
  go_region_held3 (fun _ => True) (trivial) ((refine N3h.out.mono ?_; rintro e w3 ⟨rfl, hs3, hB3, k3, b3⟩))
  all_goals
    go_wp2_with fail
    go_end0
    exact ⟨rfl, hs3, hB3, Kp.tr k2 k3, (undrew b2).trans (undrew b3)⟩
theorem hask {T g fN base : Nat} {far : Nat → Prop} {σ : Type} {St : World → σ → Prop} {nf : Nat → Int → σ → Int × σ} {ok : Nat → Int → Prop} {sz : σ → Nat} {M : Nat} (P : PI T g fN base far St nf ok sz M)
    (b : Nat) (t : TypeId) (cs : Array Value) (n m : Int) (s : σ) (w : World) (hm : sz s + 4 ≤ M) (hs : St w s) (hB : Bk w b t cs) (hx1 : cs[1]? = some (.int .i64 n)) (hx2 : cs[2]? = some (.int .i64 m)) (ok1 : ok 1 n) (ok2 : ok 2 m) (ht : t ≠ 5) (hf : far b) (hb : base ≤ b) :
    Calls Try.prog 117 #[.pointer (some ⟨b, 0, none⟩), .iface T (.pointer (some ⟨g, 0, none⟩))] w fun e w' => e = .returned (.tuple #[]) ∧ St w' (nf 2 m (nf 1 n s).2).2 ∧ Bk w' b t ((cs.setIfInBounds 1 (.int .i64 (nf 1 n s).1)).setIfInBounds 2 (.int .i64 (nf 2 m (nf 1 n s).2).1)) ∧ Kp far b w w' ∧ Below base w w' := by
  have hmf : ∀ (fn : Fn) (first cap : Array Value) (w : World), (Instr.makeFunc fn first cap).run Try.prog w = .ok (.func fn first cap) w := fun _ _ _ _ => rfl
  have hna := P.na
  have hme := P.me
  have hcf := P.cf
  have N1 := P.num 1 b 1 t cs n s w.drew (by omega) (by omega) (P.dr _ _ hs) hB.drew hx1 ok1 ht hf hb
  have N2 := fun (w2 : World) (c1 : Array Value) (s2 : σ) (hm2 : sz s2 ≤ M) hs2 hB2 hx => P.num 2 b 2 t c1 m s2 w2.drew (by omega) hm2 (P.dr w2 s2 hs2) (Bk.drew hB2) hx ok2 ht hf hb
  have hsg := P.sg 1 n s (by omega)
  obtain ⟨y, hy⟩ : ∃ y, y = nf 1 n s := ⟨_, rfl⟩
  rw [← hy] at N1 hsg ⊢
  have hxx : (cs.setIfInBounds 1 (.int .i64 y.1))[2]? = some (.int .i64 m) := by rw [Array.getElem?_setIfInBounds, if_neg (by decide)]; exact hx2
  have hxh := Lib.hid hxx
  have N2h := Lib.hid N2
  clear hy N2 hx1 hx2 hxx
  have N1h := Lib.hid N1
  clear N1
  go_enter Try.func117, Try.ntmps117
  go_wp2_with fail
  go_region_held3 (fun _ => True) (trivial) ((refine N1h.out.mono ?_; rintro e w2 ⟨rfl, hs2, hB2, k2, b2⟩))
  have N3h := Lib.hid (N2h.out w2 _ _ (by omega) hs2 hB2 hxh.out)
  clear N2h N1h
  go_wp2_with fail
  go_region_held3 (fun _ => True) (trivial) ((refine N3h.out.mono ?_; rintro e w3 ⟨rfl, hs3, hB3, k3, b3⟩))
  all_goals
    go_wp2_with fail
    go_end0
    exact ⟨rfl, hs3, hB3, Kp.tr k2 k3, (undrew b2).trans (undrew b3)⟩
theorem hdone {T g fN base : Nat} {far : Nat → Prop} {σ : Type} {St : World → σ → Prop} {nf : Nat → Int → σ → Int × σ} {ok : Nat → Int → Prop} {sz : σ → Nat} {M : Nat} (P : PI T g fN base far St nf ok sz M)
    (b : Nat) (t : TypeId) (cs : Array Value) (n m : Int) (s : σ) (w : World) (hm : sz s + 4 ≤ M) (hs : St w s) (hB : Bk w b t cs) (hx1 : cs[1]? = some (.int .i64 n)) (hx2 : cs[2]? = some (.int .i64 m)) (ok1 : ok 4 n) (ok2 : ok 2 m) (ht : t ≠ 5) (hf : far b) (hb : base ≤ b) :
    Calls Try.prog 119 #[.pointer (some ⟨b, 0, none⟩), .iface T (.pointer (some ⟨g, 0, none⟩))] w fun e w' => e = .returned (.tuple #[]) ∧ St w' (nf 2 m (nf 4 n s).2).2 ∧ Bk w' b t ((cs.setIfInBounds 1 (.int .i64 (nf 4 n s).1)).setIfInBounds 2 (.int .i64 (nf 2 m (nf 4 n s).2).1)) ∧ Kp far b w w' ∧ Below base w w' := by
  have hmf : ∀ (fn : Fn) (first cap : Array Value) (w : World), (Instr.makeFunc fn first cap).run Try.prog w = .ok (.func fn first cap) w := fun _ _ _ _ => rfl
  have hna := P.na
  have hme := P.me
  have hcf := P.cf
  have N1 := P.num 4 b 1 t cs n s w.drew (by omega) (by omega) (P.dr _ _ hs) hB.drew hx1 ok1 ht hf hb
  have N2 := fun (w2 : World) (c1 : Array Value) (s2 : σ) (hm2 : sz s2 ≤ M) hs2 hB2 hx => P.num 2 b 2 t c1 m s2 w2.drew (by omega) hm2 (P.dr w2 s2 hs2) (Bk.drew hB2) hx ok2 ht hf hb
  have hsg := P.sg 4 n s (by omega)
  obtain ⟨y, hy⟩ : ∃ y, y = nf 4 n s := ⟨_, rfl⟩
  rw [← hy] at N1 hsg ⊢
  have hxx : (cs.setIfInBounds 1 (.int .i64 y.1))[2]? = some (.int .i64 m) := by rw [Array.getElem?_setIfInBounds, if_neg (by decide)]; exact hx2
  have hxh := Lib.hid hxx
  have N2h := Lib.hid N2
  clear hy N2 hx1 hx2 hxx
  have N1h := Lib.hid N1
  clear N1
  go_enter Try.func119, Try.ntmps119
  go_wp2_with fail
  go_region_held3 (fun _ => True) (trivial) ((refine N1h.out.mono ?_; rintro e w2 ⟨rfl, hs2, hB2, k2, b2⟩))
  have N3h := Lib.hid (N2h.out w2 _ _ (by omega) hs2 hB2 hxh.out)
  clear N2h N1h
  go_wp2_with fail
  go_region_held3 (fun _ => True) (trivial) ((refine N3h.out.mono ?_; rintro e w3 ⟨rfl, hs3, hB3, k3, b3⟩))
  all_goals
    go_wp2_with fail
    go_end0
    exact ⟨rfl, hs3, hB3, Kp.tr k2 k3, (undrew b2).trans (undrew b3)⟩
end Go.Proofs.Ytfnnjaljnfphlaa
