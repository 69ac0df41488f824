/- SegSame: its walk. -/
import Derived.Test.YtfnnjaljnfphlaaSgt
namespace Go.Proofs.Ytfnnjaljnfphlaa
open Go.RowKit
set_option maxRecDepth 100000
set_option maxHeartbeats 4000000
set_option linter.unusedSimpArgs false
set_option linter.unusedVariables false

theorem smB_self (k t f h ep bo sq ac : Int) (l : List UInt8) : smB k t f h ep bo sq ac l k t f h ep bo sq ac l = true := by simp [smB]
theorem segSame_walk (k t f h ep bo sq ac : Int) (A : Option Addr) (N c : Nat) (l : List UInt8) (k' t' f' h' ep' bo' sq' ac' : Int) (A' : Option Addr) (N' c' : Nat) (l' : List UInt8) (w : World) (hl : By w w.heap.size A N l) (hl' : By w w.heap.size A' N' l') :
    Calls Try.prog 5 #[.agg (sgC k t f h ep bo sq ac A N c), .agg (sgC k' t' f' h' ep' bo' sq' ac' A' N' c')] w fun e w' => e = .returned (.bool true) ∧ Below w.heap.size w w' := by
  obtain ⟨b, hb⟩ : ∃ b, b = smB k t f h ep bo sq ac l k' t' f' h' ep' bo' sq' ac' l' := ⟨_, rfl⟩
  have SA := fun w => same_any k t f h ep bo sq ac A N c l k' t' f' h' ep' bo' sq' ac' A' N' c' l' w
  have SR := fun w => rsame_any k t f h ep bo sq ac A N c l k' t' f' h' ep' bo' sq' ac' A' N' c' l' w
  have SX : ∀ w, By w w.heap.size A N l → Calls Try.prog 31 #[.agg (sgC k t f h ep bo sq ac A N c), .agg (sgC k t f h ep bo sq ac A N c)] w fun e w' => e = .returned (.bool true) ∧ Below w.heap.size w w' := fun w hl => by
    have := same_any k t f h ep bo sq ac A N c l k t f h ep bo sq ac A N c l w hl hl
    rwa [smB_self] at this
  simp only [← hb] at SA SR
  clear hb
  have hT := S2.start (sgC k t f h ep bo sq ac A N c) (sgC k' t' f' h' ep' bo' sq' ac' A' N' c') hl hl'
  unfold sgC at hT SA SR SX ⊢
  have SAh := Lib.hid SA
  have SRh := Lib.hid SR
  have SXh := Lib.hid SX
  clear SA SR SX
  go_enter Try.func5, Try.ntmps5
  go_upto_region 1 with fail
  first | (go_region_held3 (fun wx => S2 w #[.int .i64 k, .int .i64 t, .int .i64 f, .int .i64 h, .int .i64 ep, .int .i64 bo, .int .i64 sq, .int .i64 ac, .slice A N c] #[.int .i64 k', .int .i64 t', .int .i64 f', .int .i64 h', .int .i64 ep', .int .i64 bo', .int .i64 sq', .int .i64 ac', .slice A' N' c'] A N l A' N' l' wx ∧ wx.cell? ⟨w.heap.size, 0, none⟩ = some (.int .i64 k) ∧ wx.cell? ⟨w.heap.size, 1, none⟩ = some (.int .i64 t) ∧ wx.cell? ⟨w.heap.size, 2, none⟩ = some (.int .i64 f) ∧ wx.cell? ⟨w.heap.size, 3, none⟩ = some (.int .i64 h) ∧ wx.cell? ⟨w.heap.size, 4, none⟩ = some (.int .i64 ep) ∧ wx.cell? ⟨w.heap.size, 5, none⟩ = some (.int .i64 bo) ∧ wx.cell? ⟨w.heap.size, 6, none⟩ = some (.int .i64 sq) ∧ wx.cell? ⟨w.heap.size, 7, none⟩ = some (.int .i64 ac) ∧ wx.cell? ⟨w.heap.size, 8, none⟩ = some (.slice A N c) ∧ wx.cell? ⟨w.heap.size + 1, 0, none⟩ = some (.int .i64 k') ∧ wx.cell? ⟨w.heap.size + 1, 1, none⟩ = some (.int .i64 t') ∧ wx.cell? ⟨w.heap.size + 1, 2, none⟩ = some (.int .i64 f') ∧ wx.cell? ⟨w.heap.size + 1, 3, none⟩ = some (.int .i64 h') ∧ wx.cell? ⟨w.heap.size + 1, 4, none⟩ = some (.int .i64 ep') ∧ wx.cell? ⟨w.heap.size + 1, 5, none⟩ = some (.int .i64 bo') ∧ wx.cell? ⟨w.heap.size + 1, 6, none⟩ = some (.int .i64 sq') ∧ wx.cell? ⟨w.heap.size + 1, 7, none⟩ = some (.int .i64 ac') ∧ wx.cell? ⟨w.heap.size + 1, 8, none⟩ = some (.slice A' N' c')) (first | exact hT5.s | exact hT.drew.s | exact hT.s | assumption) (first | (go_at_call 32; have hS := ‹_ ∧ _ ∧ _ ∧ _ ∧ _ ∧ _ ∧ _ ∧ _ ∧ _ ∧ _ ∧ _ ∧ _ ∧ _ ∧ _ ∧ _ ∧ _ ∧ _ ∧ _ ∧ _›; refine (SRh.out _ hS.1.hl hS.1.hl').mono ?_; rintro e w5 ⟨rfl, hb5⟩; have hT5 := hS.1.next hb5) | (go_at_call_of 31 (Value.agg #[.int .i64 k', .int .i64 t', .int .i64 f', .int .i64 h', .int .i64 ep', .int .i64 bo', .int .i64 sq', .int .i64 ac', .slice A' N' c']); have hS := ‹_ ∧ _ ∧ _ ∧ _ ∧ _ ∧ _ ∧ _ ∧ _ ∧ _ ∧ _ ∧ _ ∧ _ ∧ _ ∧ _ ∧ _ ∧ _ ∧ _ ∧ _ ∧ _›; refine (SAh.out _ hS.1.hl hS.1.hl').mono ?_; rintro e w5 ⟨rfl, hb5⟩; have hT5 := hS.1.next hb5) | (go_at_call 31; have hS := ‹_ ∧ _ ∧ _ ∧ _ ∧ _ ∧ _ ∧ _ ∧ _ ∧ _ ∧ _ ∧ _ ∧ _ ∧ _ ∧ _ ∧ _ ∧ _ ∧ _ ∧ _ ∧ _›; refine (SXh.out _ hS.1.hl).mono ?_; rintro e w5 ⟨rfl, hb5⟩; have hT5 := hS.1.next hb5) | (go_at_call 30; have hS := ‹_ ∧ _ ∧ _ ∧ _ ∧ _ ∧ _ ∧ _ ∧ _ ∧ _ ∧ _ ∧ _ ∧ _ ∧ _ ∧ _ ∧ _ ∧ _ ∧ _ ∧ _ ∧ _›; refine (works05 _).mono ?_; rintro e w5 ⟨rfl, hb5⟩; have hT5 := hS.1.next hb5) | fail)) | fail
  all_goals
    go_wp2_with fail
    go_ret
    exact ⟨rfl, hT5.hb⟩
end Go.Proofs.Ytfnnjaljnfphlaa
