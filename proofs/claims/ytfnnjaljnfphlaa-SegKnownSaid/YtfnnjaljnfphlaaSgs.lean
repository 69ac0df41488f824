/- seg.Same, and the reference's. -/
import Derived.Test.YtfnnjaljnfphlaaSge
import Derived.Test.YtfnnjaljnfphlaaL05
import Derived.Deep.RegionHeld3
import Derived.Test.YtfnnjaljnfphlaaR01
import Derived.BigQuiet
namespace Go.Proofs.Ytfnnjaljnfphlaa
open Go.RowKit
set_option maxRecDepth 100000
set_option maxHeartbeats 4000000
set_option linter.unusedSimpArgs false
set_option linter.unusedVariables false

theorem bytesEqual_any (A A2 : Option Addr) (n c n2 c2 B B2 : Nat) (l l2 : List UInt8) (w : World) (h : By w B A n l) (h2 : By w B2 A2 n2 l2) :
    Calls Try.prog 67 #[.slice A n c, .slice A2 n2 c2] w fun e w' => e = .returned (.bool (l == l2)) ∧ w = w' := by
  have k1 := conv_by (c := c) h
  have k2 := conv_by (c := c2) h2
  go_enter Try.func67, Try.ntmps67
  go_wp2
  go_ret
  exact ⟨ret_b (by simp), rfl⟩
theorem numbers8 (k t f h ep bo sq ac : Int) (A : Option Addr) (N c : Nat) (w : World) :
    Calls Try.prog 66 #[.agg (sgC k t f h ep bo sq ac A N c)] w fun e w' => e = .returned (.agg #[.int .i64 k, .int .i64 t, .int .i64 f, .int .i64 h, .int .i64 ep, .int .i64 bo, .int .i64 sq, .int .i64 ac]) ∧ Below w.heap.size w w' := by
  unfold sgC
  have K := (Bk.new w 34 #[.int .i64 k, .int .i64 t, .int .i64 f, .int .i64 h, .int .i64 ep, .int .i64 bo, .int .i64 sq, .int .i64 ac, .slice A N c]).alloc (.cells #[.int .i64 0, .int .i64 0, .int .i64 0, .int .i64 0, .int .i64 0, .int .i64 0, .int .i64 0, .int .i64 0] 86)
  obtain ⟨c0, c1, c2, c3, c4, c5, c6, c7, c8, f0⟩ := K.nine
  have J := (Bk.new (w.alloc (.cells #[.int .i64 k, .int .i64 t, .int .i64 f, .int .i64 h, .int .i64 ep, .int .i64 bo, .int .i64 sq, .int .i64 ac, .slice A N c] 34)) 86 #[.int .i64 k, .int .i64 t, .int .i64 f, .int .i64 h, .int .i64 ep, .int .i64 bo, .int .i64 sq, .int .i64 ac])
  obtain ⟨d0, d1, d2, d3, d4, d5, d6, d7, g0⟩ := J.eight
  go_enter Try.func66, Try.ntmps66
  go_wp2
  refine bodyPost_ret (v := .agg #[.int .i64 k, .int .i64 t, .int .i64 f, .int .i64 h, .int .i64 ep, .int .i64 bo, .int .i64 sq, .int .i64 ac]) (by simp [results, Try.results66, go_sem, d0, d1, d2, d3, d4, d5, d6, d7]) rfl ?_
  exact ⟨rfl, ((Below.refl _ w).push _).push _⟩
/-- Whether two segments are the same. -/
def smB (k t f h ep bo sq ac : Int) (l : List UInt8) (k' t' f' h' ep' bo' sq' ac' : Int) (l' : List UInt8) : Bool :=
  decide (k = k' ∧ t = t' ∧ f = f' ∧ h = h' ∧ ep = ep' ∧ bo = bo' ∧ sq = sq' ∧ ac = ac') && (l == l')
def nmB (k t f h ep bo sq ac k' t' f' h' ep' bo' sq' ac' : Int) : Bool := k == k' && (t == t' && (f == f' && (h == h' && (ep == ep' && (bo == bo' && (sq == sq' && (ac == ac' && true)))))))
theorem eqn (k t f h ep bo sq ac k' t' f' h' ep' bo' sq' ac' : Int) (w : World) (b : Bool) (hb : nmB k t f h ep bo sq ac k' t' f' h' ep' bo' sq' ac' = b) :
    (Op.equalIn 10000 86 (.agg #[.int .i64 k, .int .i64 t, .int .i64 f, .int .i64 h, .int .i64 ep, .int .i64 bo, .int .i64 sq, .int .i64 ac]) (.agg #[.int .i64 k', .int .i64 t', .int .i64 f', .int .i64 h', .int .i64 ep', .int .i64 bo', .int .i64 sq', .int .i64 ac'])).run Try.prog w = .ok b w := by
  rw [eq8]
  unfold nmB at hb
  rw [hb]
theorem sm_nm (k t f h ep bo sq ac : Int) (l : List UInt8) (k' t' f' h' ep' bo' sq' ac' : Int) (l' : List UInt8) : smB k t f h ep bo sq ac l k' t' f' h' ep' bo' sq' ac' l' = (nmB k t f h ep bo sq ac k' t' f' h' ep' bo' sq' ac' && (l == l')) := by
  rw [Bool.eq_iff_iff]
  simp [smB, nmB]
structure S2 (w : World) (ca cb : Array Value) (A : Option Addr) (N : Nat) (l : List UInt8) (A' : Option Addr) (N' : Nat) (l' : List UInt8) (wx : World) : Prop where
  ka : Bk wx w.heap.size 34 ca
  kb : Bk wx (w.heap.size + 1) 34 cb
  hl : By wx wx.heap.size A N l
  hl' : By wx wx.heap.size A' N' l'
  hb : Below w.heap.size w wx
theorem S2.next {w : World} {ca cb : Array Value} {A : Option Addr} {N : Nat} {l : List UInt8} {A' : Option Addr} {N' : Nat} {l' : List UInt8} {wx wy : World} (h : S2 w ca cb A N l A' N' l' wx) (hb : Below wx.heap.size wx wy) : S2 w ca cb A N l A' N' l' wy :=
  ⟨h.ka.kept hb, h.kb.kept hb, h.hl.kept hb, h.hl'.kept hb, h.hb.next hb⟩
theorem S2.drew {w : World} {ca cb : Array Value} {A : Option Addr} {N : Nat} {l : List UInt8} {A' : Option Addr} {N' : Nat} {l' : List UInt8} {wx : World} (h : S2 w ca cb A N l A' N' l' wx) : S2 w ca cb A N l A' N' l' wx.drew :=
  ⟨h.ka, h.kb, h.hl, h.hl', h.hb.drew⟩
theorem S2.start {w : World} (ca cb : Array Value) {A : Option Addr} {N : Nat} {l : List UInt8} {A' : Option Addr} {N' : Nat} {l' : List UInt8} (h : By w w.heap.size A N l) (h' : By w w.heap.size A' N' l') : S2 w ca cb A N l A' N' l' ((w.alloc (.cells ca 34)).alloc (.cells cb 34)) :=
  ⟨(Bk.new w 34 ca).alloc _, by have := Bk.new (w.alloc (.cells ca 34)) 34 cb; rwa [World.size_alloc] at this, (h.boxed _).boxed _, (h'.boxed _).boxed _, ((Below.refl _ w).push _).push _⟩
theorem S2.s {w : World} {v0 v1 v2 v3 v4 v5 v6 v7 v8 u0 u1 u2 u3 u4 u5 u6 u7 u8 : Value} {A : Option Addr} {N : Nat} {l : List UInt8} {A' : Option Addr} {N' : Nat} {l' : List UInt8} {wx : World} (h : S2 w #[v0, v1, v2, v3, v4, v5, v6, v7, v8] #[u0, u1, u2, u3, u4, u5, u6, u7, u8] A N l A' N' l' wx) :
    S2 w #[v0, v1, v2, v3, v4, v5, v6, v7, v8] #[u0, u1, u2, u3, u4, u5, u6, u7, u8] A N l A' N' l' wx ∧ wx.cell? ⟨w.heap.size, 0, none⟩ = some v0 ∧ wx.cell? ⟨w.heap.size, 1, none⟩ = some v1 ∧ wx.cell? ⟨w.heap.size, 2, none⟩ = some v2 ∧ wx.cell? ⟨w.heap.size, 3, none⟩ = some v3 ∧ wx.cell? ⟨w.heap.size, 4, none⟩ = some v4 ∧ wx.cell? ⟨w.heap.size, 5, none⟩ = some v5 ∧ wx.cell? ⟨w.heap.size, 6, none⟩ = some v6 ∧ wx.cell? ⟨w.heap.size, 7, none⟩ = some v7 ∧ wx.cell? ⟨w.heap.size, 8, none⟩ = some v8 ∧ wx.cell? ⟨w.heap.size + 1, 0, none⟩ = some u0 ∧ wx.cell? ⟨w.heap.size + 1, 1, none⟩ = some u1 ∧ wx.cell? ⟨w.heap.size + 1, 2, none⟩ = some u2 ∧ wx.cell? ⟨w.heap.size + 1, 3, none⟩ = some u3 ∧ wx.cell? ⟨w.heap.size + 1, 4, none⟩ = some u4 ∧ wx.cell? ⟨w.heap.size + 1, 5, none⟩ = some u5 ∧ wx.cell? ⟨w.heap.size + 1, 6, none⟩ = some u6 ∧ wx.cell? ⟨w.heap.size + 1, 7, none⟩ = some u7 ∧ wx.cell? ⟨w.heap.size + 1, 8, none⟩ = some u8 := by
  obtain ⟨c0, c1, c2, c3, c4, c5, c6, c7, c8, f0⟩ := h.ka.nine
  obtain ⟨d0, d1, d2, d3, d4, d5, d6, d7, d8, g0⟩ := h.kb.nine
  exact ⟨h, c0, c1, c2, c3, c4, c5, c6, c7, c8, d0, d1, d2, d3, d4, d5, d6, d7, d8⟩
theorem same_any (k t f h ep bo sq ac : Int) (A : Option Addr) (N c : Nat) (l : List UInt8) (k' t' f' h' ep' bo' sq' ac' : Int) (A' : Option Addr) (N' c' : Nat) (l' : List UInt8) (w : World) (hl : By w w.heap.size A N l) (hl' : By w w.heap.size A' N' l') :
    Calls Try.prog 31 #[.agg (sgC k t f h ep bo sq ac A N c), .agg (sgC k' t' f' h' ep' bo' sq' ac' A' N' c')] w fun e w' => e = .returned (.bool (smB k t f h ep bo sq ac l k' t' f' h' ep' bo' sq' ac' l')) ∧ Below w.heap.size w w' := by
  rw [sm_nm]
  obtain ⟨b, hb⟩ : ∃ b, nmB k t f h ep bo sq ac k' t' f' h' ep' bo' sq' ac' = b := ⟨_, rfl⟩
  have he := fun w => eqn k t f h ep bo sq ac k' t' f' h' ep' bo' sq' ac' w b hb
  rw [hb]
  clear hb
  have hT := S2.start (sgC k t f h ep bo sq ac A N c) (sgC k' t' f' h' ep' bo' sq' ac' A' N' c') hl hl'
  unfold sgC at hT ⊢
  rcases b with _ | _
  · go_enter Try.func31, Try.ntmps31
    go_upto_region 2 with fail
    have hT := hT.drew
    obtain ⟨_, c0, c1, c2, c3, c4, c5, c6, c7, c8, d0, d1, d2, d3, d4, d5, d6, d7, d8⟩ := hT.s
    first | (go_region_with (first | (go_at_call_of 66 (Value.agg #[.int .i64 k, .int .i64 t, .int .i64 f, .int .i64 h, .int .i64 ep, .int .i64 bo, .int .i64 sq, .int .i64 ac, .slice A N c]); refine (numbers8 k t f h ep bo sq ac A N c _).mono ?_; rintro e w5 ⟨rfl, hb5⟩; have hT := hT.next hb5; obtain ⟨_, c0, c1, c2, c3, c4, c5, c6, c7, c8, d0, d1, d2, d3, d4, d5, d6, d7, d8⟩ := hT.s) | (go_at_call_of 66 (Value.agg #[.int .i64 k', .int .i64 t', .int .i64 f', .int .i64 h', .int .i64 ep', .int .i64 bo', .int .i64 sq', .int .i64 ac', .slice A' N' c']); refine (numbers8 k' t' f' h' ep' bo' sq' ac' A' N' c' _).mono ?_; rintro e w5 ⟨rfl, hb5⟩; have hT := hT.next hb5; obtain ⟨_, c0, c1, c2, c3, c4, c5, c6, c7, c8, d0, d1, d2, d3, d4, d5, d6, d7, d8⟩ := hT.s) | fail)) | fail
    all_goals
      go_wp2_with fail
      go_ret
      exact ⟨rfl, hT.hb⟩
  · go_enter Try.func31, Try.ntmps31
    go_upto_region 2 with fail
    first | (go_region_held3 (fun wx => S2 w #[.int .i64 k, .int .i64 t, .int .i64 f, .int .i64 h, .int .i64 ep, .int .i64 bo, .int .i64 sq, .int .i64 ac, .slice A N c] #[.int .i64 k', .int .i64 t', .int .i64 f', .int .i64 h', .int .i64 ep', .int .i64 bo', .int .i64 sq', .int .i64 ac', .slice A' N' c'] A N l A' N' l' wx ∧ wx.cell? ⟨w.heap.size, 0, none⟩ = some (.int .i64 k) ∧ wx.cell? ⟨w.heap.size, 1, none⟩ = some (.int .i64 t) ∧ wx.cell? ⟨w.heap.size, 2, none⟩ = some (.int .i64 f) ∧ wx.cell? ⟨w.heap.size, 3, none⟩ = some (.int .i64 h) ∧ wx.cell? ⟨w.heap.size, 4, none⟩ = some (.int .i64 ep) ∧ wx.cell? ⟨w.heap.size, 5, none⟩ = some (.int .i64 bo) ∧ wx.cell? ⟨w.heap.size, 6, none⟩ = some (.int .i64 sq) ∧ wx.cell? ⟨w.heap.size, 7, none⟩ = some (.int .i64 ac) ∧ wx.cell? ⟨w.heap.size, 8, none⟩ = some (.slice A N c) ∧ wx.cell? ⟨w.heap.size + 1, 0, none⟩ = some (.int .i64 k') ∧ wx.cell? ⟨w.heap.size + 1, 1, none⟩ = some (.int .i64 t') ∧ wx.cell? ⟨w.heap.size + 1, 2, none⟩ = some (.int .i64 f') ∧ wx.cell? ⟨w.heap.size + 1, 3, none⟩ = some (.int .i64 h') ∧ wx.cell? ⟨w.heap.size + 1, 4, none⟩ = some (.int .i64 ep') ∧ wx.cell? ⟨w.heap.size + 1, 5, none⟩ = some (.int .i64 bo') ∧ wx.cell? ⟨w.heap.size + 1, 6, none⟩ = some (.int .i64 sq') ∧ wx.cell? ⟨w.heap.size + 1, 7, none⟩ = some (.int .i64 ac') ∧ wx.cell? ⟨w.heap.size + 1, 8, none⟩ = some (.slice A' N' c')) (first | exact hT5.s | exact hT.drew.s | exact hT.s | assumption) (first | (go_at_call_of 66 (Value.agg #[.int .i64 k, .int .i64 t, .int .i64 f, .int .i64 h, .int .i64 ep, .int .i64 bo, .int .i64 sq, .int .i64 ac, .slice A N c]); have hS := ‹_ ∧ _ ∧ _ ∧ _ ∧ _ ∧ _ ∧ _ ∧ _ ∧ _ ∧ _ ∧ _ ∧ _ ∧ _ ∧ _ ∧ _ ∧ _ ∧ _ ∧ _ ∧ _›; refine (numbers8 k t f h ep bo sq ac A N c _).mono ?_; rintro e w5 ⟨rfl, hb5⟩; have hT5 := hS.1.next hb5) | (go_at_call_of 66 (Value.agg #[.int .i64 k', .int .i64 t', .int .i64 f', .int .i64 h', .int .i64 ep', .int .i64 bo', .int .i64 sq', .int .i64 ac', .slice A' N' c']); have hS := ‹_ ∧ _ ∧ _ ∧ _ ∧ _ ∧ _ ∧ _ ∧ _ ∧ _ ∧ _ ∧ _ ∧ _ ∧ _ ∧ _ ∧ _ ∧ _ ∧ _ ∧ _ ∧ _›; refine (numbers8 k' t' f' h' ep' bo' sq' ac' A' N' c' _).mono ?_; rintro e w5 ⟨rfl, hb5⟩; have hT5 := hS.1.next hb5) | (go_at_call 67; have hS := ‹_ ∧ _ ∧ _ ∧ _ ∧ _ ∧ _ ∧ _ ∧ _ ∧ _ ∧ _ ∧ _ ∧ _ ∧ _ ∧ _ ∧ _ ∧ _ ∧ _ ∧ _ ∧ _›; refine (bytesEqual_any _ _ _ _ _ _ _ _ _ _ _ hS.1.hl hS.1.hl').mono ?_; rintro e w5 ⟨rfl, rfl⟩) | fail)) | fail
    all_goals
      go_wp2_with fail
      go_ret
      exact ⟨rfl, hT5.hb⟩
end Go.Proofs.Ytfnnjaljnfphlaa
