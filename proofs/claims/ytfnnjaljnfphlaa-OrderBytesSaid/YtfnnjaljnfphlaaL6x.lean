/- OrderBytes: Match, Rule, Check and Bytes answer as the chapter says, of all orders. -/
import Derived.Test.YtfnnjaljnfphlaaRfy
import Derived.Test.YtfnnjaljnfphlaaOdc
import Derived.Test.YtfnnjaljnfphlaaSms
import Derived.Test.YtfnnjaljnfphlaaL6h
import Derived.Test.YtfnnjaljnfphlaaL6w
import Derived.Test.YtfnnjaljnfphlaaOpo
namespace Go.Proofs.Ytfnnjaljnfphlaa
open Go.RowKit
set_option maxRecDepth 100000
set_option maxHeartbeats 8000000
set_option linter.unusedSimpArgs false
set_option linter.unusedVariables false

theorem rsame_ord (o : Or6) (A A2 : Option Addr) (N c c2 : Nat) (w : World) (hl : Ou w w.heap.size A N o.r.os) (hl2 : Ou w w.heap.size A2 N o.r.os) (hN : N ≤ 1000) :
    Calls Try.prog 51 #[.agg (orC o A N c), .agg (orC o A2 N c2)] w fun e w' => e = .returned (.bool true) ∧ Below w.heap.size w w' := by
  have K := (Bk.new w 53 (orC o A N c)).alloc (.cells (orC o A2 N c2) 53)
  have K2 := Bk.newAt' (w := w.alloc (.cells (orC o A N c) 53)) 53 (orC o A2 N c2) (World.size_alloc _ _)
  have hb := ((Below.refl w.heap.size w).push (.cells (orC o A N c) 53)).push (.cells (orC o A2 N c2) 53)
  have hlw := (hl.boxed (.cells (orC o A N c) 53)).boxed (.cells (orC o A2 N c2) 53)
  have hlw2 := (hl2.boxed (.cells (orC o A N c) 53)).boxed (.cells (orC o A2 N c2) 53)
  have hs1 : (w.alloc (.cells (orC o A N c) 53)).heap.size = w.heap.size + 1 := World.size_alloc _ _
  obtain ⟨V, hV⟩ : ∃ V, V = Value.agg (orC o A N c) := ⟨_, rfl⟩
  obtain ⟨V2, hV2⟩ : ∃ V, V = Value.agg (orC o A2 N c2) := ⟨_, rfl⟩
  rw [← hV, ← hV2]
  have hbx : (Instr.box 53 V).run Try.prog w = .ok (.pointer (some ⟨w.heap.size, 0, none⟩)) (w.alloc (.cells (orC o A N c) 53)) := by rw [hV]; rfl
  have hbx2 : (Instr.box 53 V2).run Try.prog (w.alloc (.cells (orC o A N c) 53)) = .ok (.pointer (some ⟨w.heap.size + 1, 0, none⟩)) ((w.alloc (.cells (orC o A N c) 53)).alloc (.cells (orC o A2 N c2) 53)) := by rw [hV2, ← hs1]; rfl
  clear hV hV2 hl hl2 hs1
  go_enter Try.func51, Try.ntmps51
  go_upto_region 1 with (first | ((with_reducible show wpList Try.prog _ _ (Oper.mk (some 2) _ _ _ _ _ :: _) _ _); refine wpL_box 53 (.tmp 0) V rfl rfl rfl hbx ?_) | ((with_reducible show wpList Try.prog _ _ (Oper.mk (some 3) _ _ _ _ _ :: _) _ _); refine wpL_box 53 (.tmp 1) V2 rfl rfl rfl hbx2 ?_))
  clear hbx hbx2
  generalize V = V0
  generalize V2 = V02
  generalize (w.alloc _).alloc _ = W at K K2 hb hlw hlw2 ⊢
  have hsm := Lib.hid (rsameRule_any o.r A A2 N c c2 W hlw hlw2 hN)
  obtain ⟨c0, c1, c2, c16, c17, c18, c19, c20, f0⟩ := K.oc
  obtain ⟨d0, d1, d2, d16, d17, d18, d19, d20, f1⟩ := K2.oc
  have hld := K.ld51
  have hld2 := K2.ld51
  have hp := bin_eq23 o.p.f o.p.fp o.p.t o.p.tp o.p.n o.p.f o.p.fp o.p.t o.p.tp o.p.n
  rw [prQ_self] at hp
  have e0 : (o.k == o.k) = true := by simp
  have e1 : (o.n == o.n) = true := by simp
  have e2 : (o.m == o.m) = true := by simp
  go_wp2_with (first | (go_at_call 102; refine hsm.out.mono ?_; rintro e w5 ⟨rfl, hb5⟩) | ((with_reducible show wpList Try.prog _ _ (Oper.mk (some 33) _ _ _ _ _ :: _) _ _); refine wpL_loadG 51 (.tmp 32) (.pointer (some ⟨w.heap.size, 3, none⟩)) (by rfl) rfl rfl hld ?_) | ((with_reducible show wpList Try.prog _ _ (Oper.mk (some 35) _ _ _ _ _ :: _) _ _); refine wpL_loadG 51 (.tmp 34) (.pointer (some ⟨w.heap.size + 1, 3, none⟩)) (by rfl) rfl rfl hld2 ?_))
  go_ret
  exact ⟨rfl, hb.next hb5⟩

theorem flat_take (os : List Out4) (k : Nat) : (os.take k).flatMap outC = (os.flatMap outC).take (k * 4) := by
  induction os generalizing k with
  | nil => simp
  | cons x l ih =>
    cases k with
    | zero => simp
    | succ k =>
      have h4 : (outC x).length = 4 := rfl
      rw [List.take_succ_cons, List.flatMap_cons, List.flatMap_cons, ih, Nat.succ_mul, List.take_append, List.take_of_length_le (l := outC x) (by omega), h4, show k * 4 + 4 - 4 = k * 4 by omega]
theorem Ou.front {w : World} {B n k : Nat} {A : Option Addr} {l : List Out4} (h : Ou w B A n l) (hk : k ≤ n) : Ou w B A k (l.take k) := by
  unfold Ou
  rw [flat_take]
  exact Rd.front h hk
structure T6 (w : World) (g g3 : Nat) (o : Or6) (A : Option Addr) (M c : Nat) (A5 : Option Addr) (c5 : Nat) (A3 : Option Addr) (N3 : Nat) (A4 : Option Addr) (N4 : Nat) (x : List UInt8) (w' : World) : Prop where
  k1 : Bk w' g 53 (orC o A M c)
  k3 : Bk w' g3 53 (orC o A5 M c5)
  hl : Ou w' w'.heap.size A M o.r.os
  hl5 : Ou w' w'.heap.size A5 M o.r.os
  hX : By w' w'.heap.size A3 N3 x
  hY : By w' w'.heap.size A4 N4 x
  hb : Below w.heap.size w w'
section
variable {w : World} {g g3 : Nat} {o : Or6} {A : Option Addr} {M c : Nat} {A5 : Option Addr} {c5 : Nat} {A3 : Option Addr} {N3 : Nat} {A4 : Option Addr} {N4 : Nat} {x : List UInt8} {w' w'' : World} {V1 V3 R1 R3 M1 : Value}
theorem T6.next (h : T6 w g g3 o A M c A5 c5 A3 N3 A4 N4 x w') (hb : Below w'.heap.size w' w'') : T6 w g g3 o A M c A5 c5 A3 N3 A4 N4 x w'' :=
  ⟨h.k1.kept hb, h.k3.kept hb, h.hl.kept hb, h.hl5.kept hb, h.hX.kept hb, h.hY.kept hb, h.hb.next hb⟩
theorem T6.drew (h : T6 w g g3 o A M c A5 c5 A3 N3 A4 N4 x w') : T6 w g g3 o A M c A5 c5 A3 N3 A4 N4 x w'.drew := ⟨h.k1, h.k3, h.hl, h.hl5, h.hX, h.hY, h.hb.drew⟩
end

theorem Bk.rangem {w : World} {b : Nat} {t : TypeId} {cs : Array Value} (h : Bk w b t cs) (o : Nat) (C : Array Value) (hC : C = cs.extract o (o + C.size)) : w.rangeAt b o C.toList := by
  rw [hC]; exact World.rangeAt_of_block h o C.size
theorem orderBytes_walk (o : Or6) (A : Option Addr) (N c : Nat) (w : World) (hl : Ou w w.heap.size A N o.r.os) (hc : N ≤ c) :
    Calls Try.prog 15 #[.agg (orC o A N c)] w fun e w' => e = .returned (.bool true) ∧ Below w.heap.size w w' := by
  have K := Bk.new w 53 (orC o A N c)
  have hb := (Below.refl w.heap.size w).push (.cells (orC o A N c) 53)
  have hlo := Lib.hid hl
  clear hl
  obtain ⟨V, hV⟩ : ∃ V, V = Value.agg (orC o A N c) := ⟨_, rfl⟩
  rw [← hV]
  have hbx : (Instr.box 53 V).run Try.prog w = .ok (.pointer (some ⟨w.heap.size, 0, none⟩)) (w.alloc (.cells (orC o A N c) 53)) := by rw [hV]; rfl
  clear hV
  go_enter Try.func15, Try.ntmps15
  go_upto_region 1 with ((with_reducible show wpList Try.prog _ _ (Oper.mk (some 1) _ _ _ _ _ :: _) _ _); refine wpL_box 53 (.tmp 0) V rfl rfl rfl hbx ?_)
  clear hbx
  have hsz : (w.alloc (.cells (orC o A N c) 53)).heap.size = w.heap.size + 1 := World.size_alloc _ _
  generalize V = V0
  generalize w.alloc _ = W at K hb hsz ⊢
  go_cut [2] from 8 to 18 (fun s2 wx => s2 = .bool false ∧ wx.heap.size = w.heap.size + 1 ∧ Below w.heap.size w wx ∧ ∃ M, M ≤ 20 ∧ M ≤ N ∧ Bk wx w.heap.size 53 (orC ⟨o.k, o.n, o.m, ⟨o.r.k, o.r.pr, o.r.to, o.r.po, o.r.m, o.r.os.take M⟩, o.p⟩ A M c))
  case first =>
    have c15 : W.cell? ⟨w.heap.size, 15, none⟩ = some (.slice A N c) := K.cell 15
    have f0 := K.frozen
    by_cases h20 : N ≤ 20
    · have hm2 : (N : Int) ≤ 20 := by omega
      have hm3 : (0 : Int) ≤ (N : Int) := by omega
      have hm4 : (N : Int) ≤ (c : Int) := by omega
      have hm5 : ¬ (20 : Int) < (N : Int) := by omega
      go_wp2_with fail
      go_meet
      exact ⟨rfl, by simpa using hsz, hb.setCell (by simp) _, N, h20, Nat.le_refl _, K.set_ 15 (.slice A N c)⟩
    · have hm2 : ¬ (N : Int) ≤ 20 := by omega
      have hm4 : (20 : Int) ≤ (c : Int) := by omega
      have hm5 : (20 : Int) < (N : Int) := by omega
      go_wp2_with fail
      go_meet
      exact ⟨rfl, by simpa using hsz, hb.setCell (by simp) _, 20, Nat.le_refl _, by omega, K.set_ 15 (.slice A 20 c)⟩
  case rest =>
    clear K hb hsz
    obtain ⟨rfl, hsz, hb, M, hM, hMN, K⟩ := hcut
    obtain ⟨W, hW⟩ : ∃ q, q = wc := ⟨_, rfl⟩
    subst hW
    have hl0 := hlo.out.front hMN
    have hlM := hl0.below hb
    generalize ho : (⟨o.k, o.n, o.m, ⟨o.r.k, o.r.pr, o.r.to, o.r.po, o.r.m, o.r.os.take M⟩, o.p⟩ : Or6) = o' at K
    have hos : o.r.os.take M = o'.r.os := by rw [← ho]
    rw [hos] at hlM hl0
    clear hlo ho hos hc hMN
    have hlW := Lib.hid hl0
    clear hl0
    have hld := K.ld53 rfl
    have hal := alloc53 W
    have hst := vst53 W o' A M c
    rw [hsz] at hal hst
    go_upto_region 3 with (first | ((with_reducible show wpList Try.prog _ _ (Oper.mk (some 19) _ _ _ _ _ :: _) _ _); refine wpL_load 53 (.tmp 1) (.pointer (some ⟨w.heap.size, 0, none⟩)) rfl rfl rfl hld ?_) | ((with_reducible show wpList Try.prog _ _ (Oper.mk (some 3) _ _ _ _ _ :: _) _ _); refine wpL_alloc 53 rfl rfl hal ?_) | ((with_reducible show wpList Try.prog _ _ (Oper.mk none _ _ _ _ _ :: _) _ _); refine wpL_store 53 (.tmp 3) (.tmp 19) (.pointer (some ⟨w.heap.size + 1, 0, none⟩)) (.agg (orC o' A M c)) rfl rfl rfl rfl hst ?_))
    have K3 := Bk.newAt' (w := W) 53 (orC o' A M c) hsz
    replace K := K.alloc (.cells (orC o' A M c) 53)
    replace hb := hb.push (.cells (orC o' A M c) 53)
    replace hlM := hlM.alloc (by omega) (.cells (orC o' A M c) 53)
    replace hsz : (W.alloc (.cells (orC o' A M c) 53)).heap.size = w.heap.size + 1 + 1 := by rw [World.size_alloc, hsz]
    clear hld hal hst
    generalize W.alloc _ = W at K K3 hb hlM hsz ⊢
    have hown0 : (W.alloc (.cells #[] 65)).ownsRow (w.heap.size + 1 + 1) 65 4 (.slice (some ⟨w.heap.size + 1 + 1, 0, none⟩) 0 0) 0 [] := by
      rw [← hsz]
      exact World.ownsRow_made W #[] 0 (Nat.le_refl _) (by unfold maxLen; omega) rfl
    have hlM1 := hlM.alloc (by omega) (.cells #[] 65)
    have c15 : W.cell? ⟨w.heap.size, 15, none⟩ = some (.slice A M c) := K.cell 15
    have K1a := K.alloc (.cells #[] 65)
    have K3a := K3.alloc (.cells #[] 65)
    have hba := hb.push (.cells #[] 65)
    obtain ⟨i65, hi0, hz0, hz1, hz2⟩ := info_parts info65
    go_upto_region 4 with (at_builtin; refine wpList_append_rd _ rfl _ _ _ rfl (w.heap.size + 1 + 1) 65 i65 _ 4 32 Try.underlying49 hi0 hz0 hz1 hz2 rfl (by omega) (.slice (some ⟨w.heap.size + 1 + 1, 0, none⟩) 0 0) 0 [] rfl hown0 w.heap.size A M c (o'.r.os.flatMap outC) rfl hlM1 (outC_one _) (by unfold maxLen; omega) (by omega) (by simp; omega) ?_; intro v5 w5 hown5 hg5 hat5; obtain ⟨A5, c5, rfl, hc5, hf5⟩ := own_any hown5; have KC5 := K3a.grown hg5 (own_far hown0 (by omega)); have d15 : w5.cell? ⟨w.heap.size + 1, 15, none⟩ = some (.slice A M c) := KC5.cell 15; have f15 := KC5.frozen)
    rw [Nat.zero_add, List.nil_append] at hown5
    try simp only [Nat.zero_add] at KC5
    try simp only [Nat.zero_add]
    have KA5 := (K1a.grown hg5 (own_far hown0 (by omega))).far (p := ⟨w.heap.size + 1, 15, none⟩) (by simp) (.slice A5 M c5)
    have KB5 : Bk (w5.setCell ⟨w.heap.size + 1, 15, none⟩ (.slice A5 M c5)) (w.heap.size + 1) 53 (orC o' A5 M c5) := KC5.set_ 15 (.slice A5 M c5)
    have hb5 := (hba.grown hg5 (by simp; omega) (fun j hj => by have := (hown0.lt j hj).1; omega)).setCell (p := ⟨w.heap.size + 1, 15, none⟩) (by simp) (.slice A5 M c5)
    have hown6 := own_heap (w' := w5.setCell ⟨w.heap.size + 1, 15, none⟩ (.slice A5 M c5)) hown5 fun g hg _ => Below.heap_setCell w5 _ _ g (by simp; omega)
    clear c15 d15 f15 K1a K3a hba hlM1 hown0 hat5 hown5 hc5 hf5 KC5
    have hl5 : Ou (w5.setCell ⟨w.heap.size + 1, 15, none⟩ (.slice A5 M c5)) (w5.setCell ⟨w.heap.size + 1, 15, none⟩ (.slice A5 M c5)).heap.size A5 M o'.r.os := Rd.of_own hown6
    have hlA : Ou (w5.setCell ⟨w.heap.size + 1, 15, none⟩ (.slice A5 M c5)) (w5.setCell ⟨w.heap.size + 1, 15, none⟩ (.slice A5 M c5)).heap.size A M o'.r.os := (hlW.out.below hb5).more hb5.size
    clear hg5 hown6 hlW hlM K K3 hb hsz
    generalize w5.setCell _ _ = W5 at KA5 KB5 hb5 hl5 hlA ⊢
    have hld := KA5.ld53 rfl
    have hby := bytes_any o' A M c W5 hlA
    obtain ⟨q, hq⟩ : ∃ q, q = orB o' := ⟨_, rfl⟩
    obtain ⟨x, hx⟩ : ∃ x, x = if orB o' then orBy o' else [] := ⟨_, rfl⟩
    rw [← hx, ← hq] at hby
    have HQ := Lib.hid hq
    have HX := Lib.hid hx
    have hbyh := Lib.hid hby
    clear hby hq hx
    go_upto_region 5 with (first | (go_at_call 36; refine hbyh.out.mono ?_; rintro e w6 ⟨A3, N3, c3, rfl, hO3, hb6⟩) | ((with_reducible show wpList Try.prog _ _ (Oper.mk (some 28) _ _ _ _ _ :: _) _ _); refine wpL_load 53 (.tmp 1) (.pointer (some ⟨w.heap.size, 0, none⟩)) rfl rfl rfl hld ?_))
    clear hld hbyh
    replace KA5 := KA5.kept hb6
    replace KB5 := KB5.kept hb6
    replace hl5 := hl5.kept hb6
    replace hlA := hlA.kept hb6
    replace hb5 := hb5.next hb6
    have hX := hO3.by_
    clear hO3 hb6
    have hld := KB5.ld53 rfl
    have hry := rbytes_any o' A5 M c5 w6 hl5 (by omega)
    unfold RyQ at hry
    rw [← HX.out, ← HQ.out] at hry
    have hryh := Lib.hid hry
    clear hry
    go_upto_region 6 with (first | (go_at_call 48; refine hryh.out.mono ?_; rintro e w7 ⟨A4, N4, c4, rfl, hY, hb7⟩) | ((with_reducible show wpList Try.prog _ _ (Oper.mk (some 33) _ _ _ _ _ :: _) _ _); refine wpL_load 53 (.tmp 3) (.pointer (some ⟨w.heap.size + 1, 0, none⟩)) rfl rfl rfl hld ?_))
    have hT : T6 w w.heap.size (w.heap.size + 1) o' A M c A5 c5 A3 N3 A4 N4 x w7 := ⟨KA5.kept hb7, KB5.kept hb7, hlA.kept hb7, hl5.kept hb7, hX.kept hb7, hY, hb5.next hb7⟩
    clear KA5 KB5 hlA hl5 hX hY hb5 hb7 hld hryh
    have hck := fun w9 h => check_any o' A M c w9 h
    have hrk := fun w9 h => rcheck_any o' A5 M c5 w9 h (by omega)
    simp only [← HQ.out] at hck hrk
    have hsmh := Lib.hid (fun w9 h h2 => rsame_ord o' A A5 M c c5 w9 h h2 (by omega))
    have hckh := Lib.hid hck
    have hrkh := Lib.hid hrk
    have e1 : (erB q != erB q) = false := by simp
    clear hck hrk HX HQ
    go_cut [58] from 37 to 57 (fun s58 wx => s58 = .bool false ∧ T6 w w.heap.size (w.heap.size + 1) o' A M c A5 c5 A3 N3 A4 N4 x wx)
    case first =>
      refine wp_region_noPanic ?_
      refine wp_region_held_drew (S := fun w' => T6 w w.heap.size (w.heap.size + 1) o' A M c A5 c5 A3 N3 A4 N4 x w') (by kernel_rfl) hT.drew (fun hHeld => ?_)
      have hHeld := hT.drew
      refine wpAnyH_take (i := 0) (v := .agg (orC o' A M c)) rfl (by kernel_rfl) (by kernel_rfl) (by kernel_rfl) (fun _ _ _ h => h) (yieldsIf_load_mid (by rfl) 53 (.tmp 1) rfl (w.heap.size) 0 rfl (orC o' A M c).toList _ (fun w9 h9 => h9.k1.range) Try.underlying53 rfl (info53)) hHeld ?_
      try simp only [Act.put, List.setIfInBounds_toArray, List.set_cons_zero, List.set_cons_succ, List.getElem_toArray, List.getElem_cons_zero, List.getElem_cons_succ]
      refine wpAnyH_take (i := 2) (v := .agg (orC o' A5 M c5)) rfl (by kernel_rfl) (by kernel_rfl) (by kernel_rfl) (fun _ _ _ h => h) (yieldsIf_load_mid (by rfl) 53 (.tmp 3) rfl (w.heap.size + 1) 0 rfl (orC o' A5 M c5).toList _ (fun w9 h9 => h9.k3.range) Try.underlying53 rfl (info53)) hHeld ?_
      try simp only [Act.put, List.setIfInBounds_toArray, List.set_cons_zero, List.set_cons_succ, List.getElem_toArray, List.getElem_cons_zero, List.getElem_cons_succ]
      refine wpAnyH_ready (rs := [1]) (by kernel_rfl) (by simp) ?_
      refine AllReadyH.cons rfl (fun K hK => ?_) AllReadyH.nil
      go_simp
      refine (hckh.out _ hHeld.hl).mono ?_
      rintro e w8 ⟨rfl, hb8⟩
      have hT5 := hHeld.next hb8
      refine hK.out _ _ hT5 (fun hHeld => ?_)
      clear hK K
      try simp only [Act.put, List.setIfInBounds_toArray, List.set_cons_zero, List.set_cons_succ, List.getElem_toArray, List.getElem_cons_zero, List.getElem_cons_succ]
      refine wpAnyH_ready (rs := [3]) (by kernel_rfl) (by simp) ?_
      refine AllReadyH.cons rfl (fun K hK => ?_) AllReadyH.nil
      go_simp
      refine (hrkh.out _ hHeld.hl5).mono ?_
      rintro e w8 ⟨rfl, hb8⟩
      have hT5 := hHeld.next hb8
      refine hK.out _ _ hT5 (fun hHeld => ?_)
      clear hK K
      try simp only [Act.put, List.setIfInBounds_toArray, List.set_cons_zero, List.set_cons_succ, List.getElem_toArray, List.getElem_cons_zero, List.getElem_cons_succ]
      refine wpAnyH_take (i := 4) (v := .bool false) rfl (by kernel_rfl) (by kernel_rfl) (by kernel_rfl) (fun _ _ _ h => h) (.inl ⟨by rfl, fun w9 h9 => by first | rfl | (go_simp; done)⟩) hHeld ?_
      try simp only [Act.put, List.setIfInBounds_toArray, List.set_cons_zero, List.set_cons_succ, List.getElem_toArray, List.getElem_cons_zero, List.getElem_cons_succ]
      refine wpAnyH_take (i := 5) (v := .bool false) rfl (by kernel_rfl) (by kernel_rfl) (by kernel_rfl) (fun _ _ _ h => h) (.inl ⟨by rfl, fun w9 h9 => by first | rfl | (go_simp; done)⟩) hHeld ?_
      try simp only [Act.put, List.setIfInBounds_toArray, List.set_cons_zero, List.set_cons_succ, List.getElem_toArray, List.getElem_cons_zero, List.getElem_cons_succ]
      refine wpAnyH_take (i := 6) (v := .slice A3 N3 c3) rfl (by kernel_rfl) (by kernel_rfl) (by kernel_rfl) (fun _ _ _ h => h) (.inl ⟨by rfl, fun w9 h9 => by first | rfl | (go_simp; done)⟩) hHeld ?_
      try simp only [Act.put, List.setIfInBounds_toArray, List.set_cons_zero, List.set_cons_succ, List.getElem_toArray, List.getElem_cons_zero, List.getElem_cons_succ]
      refine wpAnyH_take (i := 7) (v := .slice A4 N4 c4) rfl (by kernel_rfl) (by kernel_rfl) (by kernel_rfl) (fun _ _ _ h => h) (.inl ⟨by rfl, fun w9 h9 => by first | rfl | (go_simp; done)⟩) hHeld ?_
      try simp only [Act.put, List.setIfInBounds_toArray, List.set_cons_zero, List.set_cons_succ, List.getElem_toArray, List.getElem_cons_zero, List.getElem_cons_succ]
      refine wpAnyH_ready (rs := [8]) (by kernel_rfl) (by simp) ?_
      refine AllReadyH.cons rfl (fun K hK => ?_) AllReadyH.nil
      go_simp
      refine (eqbytes_any _ _ _ _ _ _ _ _ _ _ _ hHeld.hX hHeld.hY).mono ?_
      rintro e w8 ⟨rfl, rfl⟩
      rw [show (x == x) = true by simp]
      refine hK.out _ _ hHeld (fun hHeld => ?_)
      clear hK K
      try simp only [Act.put, List.setIfInBounds_toArray, List.set_cons_zero, List.set_cons_succ, List.getElem_toArray, List.getElem_cons_zero, List.getElem_cons_succ]
      refine wpAnyH_take (i := 9) (v := .bool false) rfl (by kernel_rfl) (by kernel_rfl) (by kernel_rfl) (fun _ _ _ h => h) (.inl ⟨by rfl, fun w9 h9 => by first | rfl | (go_simp; done)⟩) hHeld ?_
      try simp only [Act.put, List.setIfInBounds_toArray, List.set_cons_zero, List.set_cons_succ, List.getElem_toArray, List.getElem_cons_zero, List.getElem_cons_succ]
      refine wpAnyH_take (i := 10) (v := .bool false) rfl (by kernel_rfl) (by kernel_rfl) (by kernel_rfl) (fun _ _ _ h => h) (.inl ⟨by rfl, fun w9 h9 => by first | rfl | (go_simp; done)⟩) hHeld ?_
      try simp only [Act.put, List.setIfInBounds_toArray, List.set_cons_zero, List.set_cons_succ, List.getElem_toArray, List.getElem_cons_zero, List.getElem_cons_succ]
      refine wpAnyH_take (i := 11) (v := .bool false) rfl (by kernel_rfl) (by kernel_rfl) (by kernel_rfl) (fun _ _ _ h => h) (.inl ⟨by rfl, fun w9 h9 => by first | rfl | (go_simp; done)⟩) hHeld ?_
      try simp only [Act.put, List.setIfInBounds_toArray, List.set_cons_zero, List.set_cons_succ, List.getElem_toArray, List.getElem_cons_zero, List.getElem_cons_succ]
      refine wpAnyH_take (i := 12) (v := .int .i64 (erB q)) rfl (by kernel_rfl) (by kernel_rfl) (by kernel_rfl) (fun _ _ _ h => h) (.inl ⟨by rfl, fun w9 h9 => by first | rfl | (go_simp; done)⟩) hHeld ?_
      try simp only [Act.put, List.setIfInBounds_toArray, List.set_cons_zero, List.set_cons_succ, List.getElem_toArray, List.getElem_cons_zero, List.getElem_cons_succ]
      refine wpAnyH_take (i := 13) (v := .int .i64 (erB q)) rfl (by kernel_rfl) (by kernel_rfl) (by kernel_rfl) (fun _ _ _ h => h) (.inl ⟨by rfl, fun w9 h9 => by first | rfl | (go_simp; done)⟩) hHeld ?_
      try simp only [Act.put, List.setIfInBounds_toArray, List.set_cons_zero, List.set_cons_succ, List.getElem_toArray, List.getElem_cons_zero, List.getElem_cons_succ]
      refine wpAnyH_take (i := 14) (v := .bool false) rfl (by kernel_rfl) (by kernel_rfl) (by kernel_rfl) (fun _ _ _ h => h) (.inl ⟨by rfl, fun w9 h9 => by first | rfl | (go_simp; done)⟩) hHeld ?_
      try simp only [Act.put, List.setIfInBounds_toArray, List.set_cons_zero, List.set_cons_succ, List.getElem_toArray, List.getElem_cons_zero, List.getElem_cons_succ]
      refine wpAnyH_take (i := 15) (v := .bool false) rfl (by kernel_rfl) (by kernel_rfl) (by kernel_rfl) (fun _ _ _ h => h) (.inl ⟨by rfl, fun w9 h9 => by first | rfl | (go_simp; done)⟩) hHeld ?_
      try simp only [Act.put, List.setIfInBounds_toArray, List.set_cons_zero, List.set_cons_succ, List.getElem_toArray, List.getElem_cons_zero, List.getElem_cons_succ]
      refine wpAnyH_take (i := 16) (v := .bool false) rfl (by kernel_rfl) (by kernel_rfl) (by kernel_rfl) (fun _ _ _ h => h) (.inl ⟨by rfl, fun w9 h9 => by first | rfl | (go_simp; done)⟩) hHeld ?_
      try simp only [Act.put, List.setIfInBounds_toArray, List.set_cons_zero, List.set_cons_succ, List.getElem_toArray, List.getElem_cons_zero, List.getElem_cons_succ]
      refine wpAnyH_take (i := 17) (v := .agg (orC o' A M c)) rfl (by kernel_rfl) (by kernel_rfl) (by kernel_rfl) (fun _ _ _ h => h) (yieldsIf_load_mid (by rfl) 53 (.tmp 1) rfl (w.heap.size) 0 rfl (orC o' A M c).toList _ (fun w9 h9 => h9.k1.range) Try.underlying53 rfl (info53)) hHeld ?_
      try simp only [Act.put, List.setIfInBounds_toArray, List.set_cons_zero, List.set_cons_succ, List.getElem_toArray, List.getElem_cons_zero, List.getElem_cons_succ]
      refine wpAnyH_take (i := 18) (v := .agg (orC o' A5 M c5)) rfl (by kernel_rfl) (by kernel_rfl) (by kernel_rfl) (fun _ _ _ h => h) (yieldsIf_load_mid (by rfl) 53 (.tmp 3) rfl (w.heap.size + 1) 0 rfl (orC o' A5 M c5).toList _ (fun w9 h9 => h9.k3.range) Try.underlying53 rfl (info53)) hHeld ?_
      try simp only [Act.put, List.setIfInBounds_toArray, List.set_cons_zero, List.set_cons_succ, List.getElem_toArray, List.getElem_cons_zero, List.getElem_cons_succ]
      refine wpAnyH_ready (rs := [19]) (by kernel_rfl) (by simp) ?_
      refine AllReadyH.cons rfl (fun K hK => ?_) AllReadyH.nil
      go_simp
      refine (hsmh.out _ hHeld.hl hHeld.hl5).mono ?_
      rintro e w8 ⟨rfl, hb8⟩
      have hT5 := hHeld.next hb8
      refine hK.out _ _ hT5 (fun hHeld => ?_)
      clear hK K
      try simp only [Act.put, List.setIfInBounds_toArray, List.set_cons_zero, List.set_cons_succ, List.getElem_toArray, List.getElem_cons_zero, List.getElem_cons_succ]
      refine wpAnyH_take (i := 20) (v := .bool false) rfl (by kernel_rfl) (by kernel_rfl) (by kernel_rfl) (fun _ _ _ h => h) (.inl ⟨by rfl, fun w9 h9 => by first | rfl | (go_simp; done)⟩) hHeld ?_
      try simp only [Act.put, List.setIfInBounds_toArray, List.set_cons_zero, List.set_cons_succ, List.getElem_toArray, List.getElem_cons_zero, List.getElem_cons_succ]
      refine wpAnyH_take (i := 21) (v := .bool false) rfl (by kernel_rfl) (by kernel_rfl) (by kernel_rfl) (fun _ _ _ h => h) (.inl ⟨by rfl, fun w9 h9 => by first | rfl | (go_simp; done)⟩) hHeld ?_
      try simp only [Act.put, List.setIfInBounds_toArray, List.set_cons_zero, List.set_cons_succ, List.getElem_toArray, List.getElem_cons_zero, List.getElem_cons_succ]
      refine wpAnyH_done (by kernel_rfl) ?_ _
      refine NoPanic.normal ?_
      go_wp2_with fail
      go_meet
      exact ⟨rfl, hHeld⟩
    case rest =>
      clear hT e1 hckh hrkh hsmh
      obtain ⟨rfl, hT⟩ := hcut
      obtain ⟨rb, hrb⟩ : ∃ q, q = ruB o'.r := ⟨_, rfl⟩
      obtain ⟨mb, hmb⟩ : ∃ q, q = mkB o'.r.m := ⟨_, rfl⟩
      have hru := fun w9 h => rule_any o'.r A M c w9 h
      have hrr := fun w9 h => rrule_any o'.r A5 M c5 w9 h (by omega)
      have hma := fun w9 => match_any o'.r.m w9
      have hrm := fun w9 => rmatch_any o'.r.m w9
      simp only [← hrb, ← hmb] at hru hrr hma hrm
      have hruh := Lib.hid hru
      have hrrh := Lib.hid hrr
      have hmah := Lib.hid hma
      have hrmh := Lib.hid hrm
      clear hru hrr hma hrm hrb hmb
      have e1 : (erB rb == erB rb) = true := by simp
      have e2 : (erB mb == erB mb) = true := by simp
      go_upto_region 8 with fail
      refine wp_region_noPanic ?_
      refine wp_region_held_drew (S := fun w' => T6 w w.heap.size (w.heap.size + 1) o' A M c A5 c5 A3 N3 A4 N4 x w') (by kernel_rfl) hT.drew (fun hHeld => ?_)
      have hHeld := hT.drew
      refine wpAnyH_take (i := 0) (v := .pointer (some ⟨w.heap.size, 3, none⟩)) rfl (by kernel_rfl) (by kernel_rfl) (by kernel_rfl) (fun _ _ _ h => h) (.inl ⟨by rfl, fun w9 h9 => by first | rfl | (go_simp; done)⟩) hHeld ?_
      try simp only [Act.put, List.setIfInBounds_toArray, List.set_cons_zero, List.set_cons_succ, List.getElem_toArray, List.getElem_cons_zero, List.getElem_cons_succ]
      refine wpAnyH_take (i := 1) (v := .agg (ruC o'.r A M c)) rfl (by kernel_rfl) (by kernel_rfl) (by kernel_rfl) (fun _ _ _ h => h) (yieldsIf_load_mid (by rfl) 51 (.tmp 59) rfl (w.heap.size) 3 rfl (ruC o'.r A M c).toList _ (fun w9 h9 => h9.k1.rangem 3 (ruC o'.r A M c) rfl) Try.underlying51 rfl (info51)) hHeld ?_
      try simp only [Act.put, List.setIfInBounds_toArray, List.set_cons_zero, List.set_cons_succ, List.getElem_toArray, List.getElem_cons_zero, List.getElem_cons_succ]
      refine wpAnyH_take (i := 3) (v := .pointer (some ⟨w.heap.size + 1, 3, none⟩)) rfl (by kernel_rfl) (by kernel_rfl) (by kernel_rfl) (fun _ _ _ h => h) (.inl ⟨by rfl, fun w9 h9 => by first | rfl | (go_simp; done)⟩) hHeld ?_
      try simp only [Act.put, List.setIfInBounds_toArray, List.set_cons_zero, List.set_cons_succ, List.getElem_toArray, List.getElem_cons_zero, List.getElem_cons_succ]
      refine wpAnyH_take (i := 4) (v := .agg (ruC o'.r A5 M c5)) rfl (by kernel_rfl) (by kernel_rfl) (by kernel_rfl) (fun _ _ _ h => h) (yieldsIf_load_mid (by rfl) 51 (.tmp 62) rfl (w.heap.size + 1) 3 rfl (ruC o'.r A5 M c5).toList _ (fun w9 h9 => h9.k3.rangem 3 (ruC o'.r A5 M c5) rfl) Try.underlying51 rfl (info51)) hHeld ?_
      try simp only [Act.put, List.setIfInBounds_toArray, List.set_cons_zero, List.set_cons_succ, List.getElem_toArray, List.getElem_cons_zero, List.getElem_cons_succ]
      refine wpAnyH_ready (rs := [2]) (by kernel_rfl) (by simp) ?_
      refine AllReadyH.cons rfl (fun K hK => ?_) AllReadyH.nil
      go_simp
      refine (hruh.out _ hHeld.hl).mono ?_
      rintro e w8 ⟨rfl, hb8⟩
      have hT5 := hHeld.next hb8
      refine hK.out _ _ hT5 (fun hHeld => ?_)
      clear hK K
      try simp only [Act.put, List.setIfInBounds_toArray, List.set_cons_zero, List.set_cons_succ, List.getElem_toArray, List.getElem_cons_zero, List.getElem_cons_succ]
      refine wpAnyH_ready (rs := [5]) (by kernel_rfl) (by simp) ?_
      refine AllReadyH.cons rfl (fun K hK => ?_) AllReadyH.nil
      go_simp
      refine (hrrh.out _ hHeld.hl5).mono ?_
      rintro e w8 ⟨rfl, hb8⟩
      have hT5 := hHeld.next hb8
      refine hK.out _ _ hT5 (fun hHeld => ?_)
      clear hK K
      try simp only [Act.put, List.setIfInBounds_toArray, List.set_cons_zero, List.set_cons_succ, List.getElem_toArray, List.getElem_cons_zero, List.getElem_cons_succ]
      refine wpAnyH_take (i := 6) (v := .bool true) rfl (by kernel_rfl) (by kernel_rfl) (by kernel_rfl) (fun _ _ _ h => h) (.inl ⟨by rfl, fun w9 h9 => by first | rfl | (go_simp; done)⟩) hHeld ?_
      try simp only [Act.put, List.setIfInBounds_toArray, List.set_cons_zero, List.set_cons_succ, List.getElem_toArray, List.getElem_cons_zero, List.getElem_cons_succ]
      refine wpAnyH_take (i := 7) (v := .bool true) rfl (by kernel_rfl) (by kernel_rfl) (by kernel_rfl) (fun _ _ _ h => h) (.inl ⟨by rfl, fun w9 h9 => by first | rfl | (go_simp; done)⟩) hHeld ?_
      try simp only [Act.put, List.setIfInBounds_toArray, List.set_cons_zero, List.set_cons_succ, List.getElem_toArray, List.getElem_cons_zero, List.getElem_cons_succ]
      refine wpAnyH_take (i := 8) (v := .pointer (some ⟨w.heap.size, 3, none⟩)) rfl (by kernel_rfl) (by kernel_rfl) (by kernel_rfl) (fun _ _ _ h => h) (.inl ⟨by rfl, fun w9 h9 => by first | rfl | (go_simp; done)⟩) hHeld ?_
      try simp only [Act.put, List.setIfInBounds_toArray, List.set_cons_zero, List.set_cons_succ, List.getElem_toArray, List.getElem_cons_zero, List.getElem_cons_succ]
      refine wpAnyH_take (i := 9) (v := .pointer (some ⟨w.heap.size, 7, none⟩)) rfl (by kernel_rfl) (by kernel_rfl) (by kernel_rfl) (fun _ _ _ h => h) (.inl ⟨by rfl, fun w9 h9 => by first | rfl | (go_simp; done)⟩) hHeld ?_
      try simp only [Act.put, List.setIfInBounds_toArray, List.set_cons_zero, List.set_cons_succ, List.getElem_toArray, List.getElem_cons_zero, List.getElem_cons_succ]
      refine wpAnyH_take (i := 10) (v := .agg (mkC o'.r.m)) rfl (by kernel_rfl) (by kernel_rfl) (by kernel_rfl) (fun _ _ _ h => h) (yieldsIf_load_mid (by rfl) 48 (.tmp 68) rfl (w.heap.size) 7 rfl (mkC o'.r.m).toList _ (fun w9 h9 => h9.k1.rangem 7 (mkC o'.r.m) rfl) Try.underlying48 rfl (by kernel_rfl)) hHeld ?_
      try simp only [Act.put, List.setIfInBounds_toArray, List.set_cons_zero, List.set_cons_succ, List.getElem_toArray, List.getElem_cons_zero, List.getElem_cons_succ]
      refine wpAnyH_take (i := 12) (v := .pointer (some ⟨w.heap.size + 1, 3, none⟩)) rfl (by kernel_rfl) (by kernel_rfl) (by kernel_rfl) (fun _ _ _ h => h) (.inl ⟨by rfl, fun w9 h9 => by first | rfl | (go_simp; done)⟩) hHeld ?_
      try simp only [Act.put, List.setIfInBounds_toArray, List.set_cons_zero, List.set_cons_succ, List.getElem_toArray, List.getElem_cons_zero, List.getElem_cons_succ]
      refine wpAnyH_take (i := 13) (v := .pointer (some ⟨w.heap.size + 1, 7, none⟩)) rfl (by kernel_rfl) (by kernel_rfl) (by kernel_rfl) (fun _ _ _ h => h) (.inl ⟨by rfl, fun w9 h9 => by first | rfl | (go_simp; done)⟩) hHeld ?_
      try simp only [Act.put, List.setIfInBounds_toArray, List.set_cons_zero, List.set_cons_succ, List.getElem_toArray, List.getElem_cons_zero, List.getElem_cons_succ]
      refine wpAnyH_take (i := 14) (v := .agg (mkC o'.r.m)) rfl (by kernel_rfl) (by kernel_rfl) (by kernel_rfl) (fun _ _ _ h => h) (yieldsIf_load_mid (by rfl) 48 (.tmp 72) rfl (w.heap.size + 1) 7 rfl (mkC o'.r.m).toList _ (fun w9 h9 => h9.k3.rangem 7 (mkC o'.r.m) rfl) Try.underlying48 rfl (by kernel_rfl)) hHeld ?_
      try simp only [Act.put, List.setIfInBounds_toArray, List.set_cons_zero, List.set_cons_succ, List.getElem_toArray, List.getElem_cons_zero, List.getElem_cons_succ]
      refine wpAnyH_ready (rs := [11]) (by kernel_rfl) (by simp) ?_
      refine AllReadyH.cons rfl (fun K hK => ?_) AllReadyH.nil
      go_simp
      refine (hmah.out _).mono ?_
      rintro e w8 ⟨rfl, hb8⟩
      have hT5 := hHeld.next hb8
      refine hK.out _ _ hT5 (fun hHeld => ?_)
      clear hK K
      try simp only [Act.put, List.setIfInBounds_toArray, List.set_cons_zero, List.set_cons_succ, List.getElem_toArray, List.getElem_cons_zero, List.getElem_cons_succ]
      refine wpAnyH_ready (rs := [15]) (by kernel_rfl) (by simp) ?_
      refine AllReadyH.cons rfl (fun K hK => ?_) AllReadyH.nil
      go_simp
      refine (hrmh.out _).mono ?_
      rintro e w8 ⟨rfl, hb8⟩
      have hT5 := hHeld.next hb8
      refine hK.out _ _ hT5 (fun hHeld => ?_)
      clear hK K
      try simp only [Act.put, List.setIfInBounds_toArray, List.set_cons_zero, List.set_cons_succ, List.getElem_toArray, List.getElem_cons_zero, List.getElem_cons_succ]
      refine wpAnyH_take (i := 16) (v := .bool true) rfl (by kernel_rfl) (by kernel_rfl) (by kernel_rfl) (fun _ _ _ h => h) (.inl ⟨by rfl, fun w9 h9 => by first | rfl | (go_simp; done)⟩) hHeld ?_
      try simp only [Act.put, List.setIfInBounds_toArray, List.set_cons_zero, List.set_cons_succ, List.getElem_toArray, List.getElem_cons_zero, List.getElem_cons_succ]
      refine wpAnyH_take (i := 17) (v := .bool true) rfl (by kernel_rfl) (by kernel_rfl) (by kernel_rfl) (fun _ _ _ h => h) (.inl ⟨by rfl, fun w9 h9 => by first | rfl | (go_simp; done)⟩) hHeld ?_
      try simp only [Act.put, List.setIfInBounds_toArray, List.set_cons_zero, List.set_cons_succ, List.getElem_toArray, List.getElem_cons_zero, List.getElem_cons_succ]
      refine wpAnyH_take (i := 18) (v := .bool true) rfl (by kernel_rfl) (by kernel_rfl) (by kernel_rfl) (fun _ _ _ h => h) (.inl ⟨by rfl, fun w9 h9 => by first | rfl | (go_simp; done)⟩) hHeld ?_
      try simp only [Act.put, List.setIfInBounds_toArray, List.set_cons_zero, List.set_cons_succ, List.getElem_toArray, List.getElem_cons_zero, List.getElem_cons_succ]
      refine wpAnyH_ready (rs := [19]) (by kernel_rfl) (by simp) ?_
      refine AllReadyH.cons rfl (fun K hK => ?_) AllReadyH.nil
      go_simp
      refine (works06 _).mono ?_
      rintro e w8 ⟨rfl, hb8⟩
      have hT5 := hHeld.next hb8
      refine hK.out _ _ hT5 (fun hHeld => ?_)
      clear hK K
      try simp only [Act.put, List.setIfInBounds_toArray, List.set_cons_zero, List.set_cons_succ, List.getElem_toArray, List.getElem_cons_zero, List.getElem_cons_succ]
      refine wpAnyH_take (i := 20) (v := .bool true) rfl (by kernel_rfl) (by kernel_rfl) (by kernel_rfl) (fun _ _ _ h => h) (.inl ⟨by rfl, fun w9 h9 => by first | rfl | (go_simp; done)⟩) hHeld ?_
      try simp only [Act.put, List.setIfInBounds_toArray, List.set_cons_zero, List.set_cons_succ, List.getElem_toArray, List.getElem_cons_zero, List.getElem_cons_succ]
      refine wpAnyH_take (i := 21) (v := .bool true) rfl (by kernel_rfl) (by kernel_rfl) (by kernel_rfl) (fun _ _ _ h => h) (.inl ⟨by rfl, fun w9 h9 => by first | rfl | (go_simp; done)⟩) hHeld ?_
      try simp only [Act.put, List.setIfInBounds_toArray, List.set_cons_zero, List.set_cons_succ, List.getElem_toArray, List.getElem_cons_zero, List.getElem_cons_succ]
      refine wpAnyH_done (by kernel_rfl) ?_ _
      refine NoPanic.normal ?_
      go_wp2_with fail
      go_ret
      exact ⟨rfl, hHeld.hb⟩
end Go.Proofs.Ytfnnjaljnfphlaa
