/- OrderCut: an order's bytes that are cut end too early; with one more they are none's. -/
import Derived.Test.YtfnnjaljnfphlaaM06
import Derived.Test.YtfnnjaljnfphlaaL6w
namespace Go.Proofs.Ytfnnjaljnfphlaa
open Go.RowKit
set_option maxRecDepth 100000
set_option maxHeartbeats 8000000
set_option linter.unusedSimpArgs false
set_option linter.unusedVariables false

theorem orV_bad {l : List UInt8} (h : orE l ≠ 0) : orV l = or0 := by rw [orV, if_neg h]
theorem parse_bad (A : Option Addr) (N c : Nat) (l : List UInt8) (w : World) (hl : By w w.heap.size A N l) (hc : N ≤ c) {e0 : Int} (he : orE l = e0) (h0 : e0 ≠ 0) :
    Calls Try.prog 38 #[.slice A N c] w fun e w' => ∃ A' c', e = .returned (.tuple #[.agg (orC or0 A' 0 c'), .int .i64 e0]) ∧ Below w.heap.size w w' := by
  refine (parse_any A N c l w hl hc).mono ?_
  rintro e w' ⟨A', L, c', h, hO, _, hb⟩
  rw [orV_bad (by rw [he]; exact h0)] at h hO
  rw [he] at h
  have : L = 0 := hO.len.symm
  subst this
  exact ⟨A', c', h, hb⟩
theorem orderCut_walk (o : Or6) (A : Option Addr) (L c : Nat) (at_ more : Int) (w : World) (hI : OI o) (hl : Ou w w.heap.size A L o.r.os) (ha : I64 at_) (hm : 0 ≤ more ∧ more ≤ 255) :
    Calls Try.prog 7 #[.agg (orC o A L c), .int .i64 at_, .int .u8 more] w fun e w' => e = .returned (.bool true) ∧ Below w.heap.size w w' := by
  unfold I64 at ha
  obtain ⟨m, rfl⟩ : ∃ m : UInt8, (m.toNat : Int) = more := ⟨UInt8.ofNat more.toNat, by simp; omega⟩
  clear hm
  have K := Bk.new w 53 (orC o A L c)
  have hb := (Below.refl w.heap.size w).push (.cells (orC o A L c) 53)
  have hlw := hl.boxed (.cells (orC o A L c) 53)
  clear hl
  obtain ⟨V, hV⟩ : ∃ V, V = Value.agg (orC o A L c) := ⟨_, rfl⟩
  rw [← hV]
  have hbx : (Instr.box 53 V).run Try.prog w = .ok (.pointer (some ⟨w.heap.size, 0, none⟩)) (w.alloc (.cells (orC o A L c) 53)) := by rw [hV]; rfl
  have HV := Lib.hid hV
  clear hV
  go_enter Try.func7, Try.ntmps7
  go_upto_region 1 with ((with_reducible show wpList Try.prog _ _ (Oper.mk (some 3) _ _ _ _ _ :: _) _ _); refine wpL_box 53 (.tmp 0) V rfl rfl rfl hbx ?_)
  clear hbx
  generalize w.alloc _ = w1 at K hb hlw ⊢
  have hld : (Instr.loadAt 53 (.pointer (some ⟨w.heap.size, 0, none⟩))).run Try.prog w1 = .ok (.agg (orC o A L c)) w1 := K.ld53 rfl
  have hmd := Lib.hid (made06_any o A L c w1 hI hlw)
  go_upto_region 2 with (first | (go_at_call 37; refine hmd.out.mono ?_; rintro e w5 ⟨o5, A5, L5, c5, rfl, hB5, hO5, hb5⟩; have hby := Lib.hid (bytes_any o5 A5 L5 c5 w5 (Rd.of_own hO5))) | (go_at_call 36; refine hby.out.mono ?_; rintro e w7 ⟨A7, N7, c7, rfl, hO7, hb7⟩; rw [hB5]) | ((with_reducible show wpList Try.prog _ _ (Oper.mk (some 14) _ _ _ _ _ :: _) _ _); refine wpL_load 53 (.tmp 3) (.pointer (some ⟨w.heap.size, 0, none⟩)) rfl rfl rfl hld ?_))
  clear hld hmd hby HV K hlw
  rw [hB5, if_pos rfl] at hO7
  obtain ⟨hs1, hs2⟩ := or_size hB5
  have hcut : ∀ r, r < N7 → orE ((orBy o5).take r) = 3 := fun r hr => or_cut hB5 (List.take_append_drop r _) (by
    intro h0
    have := congrArg List.length h0
    have hN := hO7.len
    simp at this
    omega)
  have hmor := or_more hB5 m
  generalize orBy o5 = l at hO7 hs1 hs2 hcut hmor
  have hb := (hb.next hb5).next hb7
  clear hb5 hb7 hO5 hB5
  have hN := hO7.len
  have hcap := hO7.cap
  have hN1 : 1 ≤ N7 := by omega
  have hN2 : N7 ≤ 256 := by omega
  have hN0 : ((N7 : Int) == 0) = false := by simp; omega
  obtain ⟨r, hr⟩ : ∃ r : Nat, (r : Int) = at_ % (N7 : Int) := ⟨(at_ % (N7 : Int)).toNat, by have := Int.emod_nonneg at_ (show (N7 : Int) ≠ 0 by omega); omega⟩
  have hrN : r < N7 := by have := Int.emod_lt_of_pos at_ (show (0 : Int) < N7 by omega); omega
  have hbr := bring_any at_ N7 w7 (by omega) (by omega) (by omega) (by omega)
  rw [← hr] at hbr
  have hbrh := Lib.hid hbr
  have hp1 := Lib.hid (parse_bad A7 r c7 (l.take r) w7 (hO7.by_.front (by omega)) (by omega) (hcut r hrN) (by decide))
  have hr0 : (0 : Int) ≤ (r : Int) := by omega
  have hr1 : (r : Int) ≤ (c7 : Int) := by omega
  clear hbr hr hs1 hs2 hN hcut
  simp only [erB, if_true]
  go_upto_region 5 with (first | (go_at_call 20; refine hbrh.out.mono ?_; rintro e w8 ⟨rfl, rfl⟩) | (go_at_call 38; refine hp1.out.mono ?_; rintro e w8 ⟨A8, c8, rfl, hb8⟩; have hal := alloc53 w8; have hst := vst53 w8 or0 A8 0 c8) | ((with_reducible show wpList Try.prog _ _ (Oper.mk (some 9) _ _ _ _ _ :: _) _ _); refine wpL_alloc 53 rfl rfl hal ?_) | ((with_reducible show wpList Try.prog _ _ (Oper.mk none _ _ _ _ _ :: _) _ _); refine wpL_store 53 (.tmp 9) (.tmp 34) _ _ rfl rfl rfl rfl hst ?_))
  clear hal hst hp1 hbrh hr0 hr1 hN0
  have hb := (hb.next hb8).push (.cells (orC or0 A8 0 c8) 53)
  have hl8 := (hO7.by_.kept hb8).boxed (.cells (orC or0 A8 0 c8) 53)
  clear hb8 hO7 hrN
  generalize w8.alloc _ = w9 at hb hl8 ⊢
  obtain ⟨i0, hi0, hz0, hz1, hz2⟩ := info_parts info5
  have hcp := Lib.hid (copy_any A7 N7 c7 _ l w9 hl8 (by omega))
  go_upto_region 6 with (first | (go_at_call 24; refine hcp.out.mono ?_; rintro e w10 ⟨A10, N10, c10, rfl, hO10, hb10⟩; have hN10 : N10 ≤ 256 := (by have h1 := hO10.len; have h2 := hl8.len; omega); have hOa : (w10.alloc (.cells #[.int .u8 (m.toNat : Int)] 5)).ownsRow w9.heap.size 5 1 (.slice A10 N10 c10) N10 (l.map byV) := World.ownsRow.alloc hO10 _; have hnw : Rd (w10.alloc (.cells #[.int .u8 (m.toNat : Int)] 5)) (w10.heap.size + 1) 1 (some ⟨w10.heap.size, 0, none⟩) 1 [.int .u8 (m.toNat : Int)] := (by simpa using (Bk.new w10 5 #[.int .u8 (m.toNat : Int)]).rd (n := 1) (size := 1) rfl); have hsz10 : w9.heap.size ≤ (w10.alloc (.cells #[.int .u8 (m.toNat : Int)] 5)).heap.size := (by have := hb10.size; simp; omega); have hb11 := (hb.next hb10).push (.cells #[.int .u8 (m.toNat : Int)] 5)) | (at_builtin; refine wpList_append_rd _ rfl _ _ _ rfl w9.heap.size 5 i0 _ 1 1 Try.underlying32 hi0 hz0 hz1 hz2 rfl (by omega) _ _ _ rfl hOa (w10.heap.size + 1) (some ⟨w10.heap.size, 0, none⟩) 1 1 [.int .u8 (m.toNat : Int)] rfl hnw (by simp [Value.oneCell']) (by unfold maxLen; omega) (by omega) hsz10 ?_; intro v2 w12 hown2 hg2 hat2; rw [show (l.map byV ++ [.int .u8 (m.toNat : Int)] : List Value) = (l ++ [m]).map byV by simp [byV]] at hown2; obtain ⟨A12, c12, rfl, hO12⟩ := own_of hown2; have hp2 := Lib.hid (parse_bad A12 (N10 + 1) c12 (l ++ [m]) w12 hO12.by_ hO12.cap hmor (by decide)); have hb12 := hb11.grown hg2 (by have := hb.size; have := hb10.size; simp; omega) (fun j hj => by have := (hOa.lt j hj).1; have := hb.size; omega)) | (go_at_call 38; refine hp2.out.mono ?_; rintro e w13 ⟨A13, c13, rfl, hb13⟩; have hal := alloc53 w13; have hst := vst53 w13 or0 A13 0 c13) | ((with_reducible show wpList Try.prog _ _ (Oper.mk (some 11) _ _ _ _ _ :: _) _ _); refine wpL_alloc 53 rfl rfl hal ?_) | ((with_reducible show wpList Try.prog _ _ (Oper.mk none _ _ _ _ _ :: _) _ _); refine wpL_store 53 (.tmp 11) (.tmp 43) _ _ rfl rfl rfl rfl hst ?_))
  clear hal hst
  have hb := (hb12.next hb13).push (.cells (orC or0 A13 0 c13) 53)
  generalize w13.alloc _ = w14 at hb ⊢
  go_wp2_with (go_at_call 39; refine (works06 _).mono ?_; rintro e w15 ⟨rfl, hb15⟩)
  go_ret
  exact ⟨rfl, hb.next hb15⟩
end Go.Proofs.Ytfnnjaljnfphlaa
