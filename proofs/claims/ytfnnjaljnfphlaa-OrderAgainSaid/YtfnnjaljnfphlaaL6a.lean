/- OrderAgain: what parses is written back the same. -/
import Derived.Test.YtfnnjaljnfphlaaL6w
namespace Go.Proofs.Ytfnnjaljnfphlaa
open Go.RowKit
set_option maxRecDepth 100000
set_option maxHeartbeats 2000000
set_option linter.unusedSimpArgs false
set_option linter.unusedVariables false

theorem orderAgain_walk (A : Option Addr) (N c : Nat) (l : List UInt8) (w : World) (hl : By w w.heap.size A N l) (hc : N ≤ c) :
    Calls Try.prog 18 #[.slice A N c] w fun e w' => e = .returned (.bool true) ∧ Below w.heap.size w w' := by
  have hag := Lib.hid (fun h => op_again (l := l) h)
  have hor := orE_of l
  have hv0 : orE l ≠ 0 → orV l = or0 := fun h => by rw [orV, if_neg h]
  have hpa := Lib.hid (parse_any A N c l w hl hc)
  obtain ⟨VV, hVV⟩ : ∃ x, x = orV l := ⟨_, rfl⟩
  obtain ⟨EE, hEE⟩ : ∃ x, x = orE l := ⟨_, rfl⟩
  have hpa := hpa.out
  rw [← hVV, ← hEE] at hpa
  rw [← hEE] at hor hv0
  rw [← hVV] at hv0
  have hag' : EE = 0 → orB VV = true ∧ orBy VV = l := by rw [hVV, hEE]; exact hag.out
  clear hag hVV hEE
  have hpah := Lib.hid hpa
  have haga := Lib.hid hag'
  have hv0h := Lib.hid hv0
  clear hpa hag' hv0
  go_enter Try.func18, Try.ntmps18
  go_upto_region 2 with (first | (go_at_call 38; refine hpah.out.mono ?_; rintro e w5 ⟨A5, L5, c5, rfl, hOu5, hLc5, hb5⟩; have hal := alloc53 w5; have hst := vst53 w5 VV A5 L5 c5) | ((with_reducible show wpList Try.prog _ _ _ _ _); refine wpL_alloc 53 rfl rfl hal ?_) | ((with_reducible show wpList Try.prog _ _ _ _ _); refine wpL_store 53 (.tmp 3) (.tmp 10) _ _ rfl rfl rfl rfl hst ?_))
  clear hal hst hpah
  have hb := hb5.push (.cells (orC VV A5 L5 c5) 53)
  have K := Bk.new w5 53 (orC VV A5 L5 c5)
  have hOu := hOu5.boxed (.cells (orC VV A5 L5 c5) 53)
  have hlw := (hl.below hb5).alloc hb5.size (.cells (orC VV A5 L5 c5) 53)
  have hgz : w.heap.size ≤ w5.heap.size := hb5.size
  clear hb5 hOu5 hl
  generalize w5.alloc _ = w6 at hb K hOu hlw ⊢
  generalize w5.heap.size = g at K hgz ⊢
  rcases hor with h0 | h34
  · subst h0
    obtain ⟨hB1, hB2⟩ := haga.out rfl
    have hld : (Instr.loadAt 53 (.pointer (some ⟨g, 0, none⟩))).run Try.prog w6 = .ok (.agg (orC VV A5 L5 c5)) w6 := K.ld53 rfl
    have hby := bytes_any VV A5 L5 c5 w6 hOu
    rw [hB1, if_pos rfl, hB2] at hby
    have hbyh := Lib.hid hby
    clear hby
    go_upto_region 5 with (first | (go_at_call 36; refine hbyh.out.mono ?_; rintro e w7 ⟨A7, N7, c7, rfl, hO7, hb7⟩; simp only [erB, if_true]) | ((with_reducible show wpList Try.prog _ _ _ _ _); refine wpL_load 53 (.tmp 3) _ rfl rfl rfl hld ?_))
    clear hld hbyh
    have K := K.kept hb7
    have hOu := hOu.kept hb7
    have hlw := hlw.below (hb7.mono (by have := hb.size; omega))
    have hb := hb.next hb7
    have hld : (Instr.loadAt 53 (.pointer (some ⟨g, 0, none⟩))).run Try.prog w7 = .ok (.agg (orC VV A5 L5 c5)) w7 := K.ld53 rfl
    have heq := eqbytes_any A7 A N7 c7 N c _ w.heap.size l l w7 hO7.by_ hlw
    rw [show (l == l) = true by simp] at heq
    have heqh := Lib.hid heq
    have hck := check_any VV A5 L5 c5 w7 hOu
    rw [hB1] at hck
    have hckh := Lib.hid hck
    clear heq hck
    go_wp2_with (first | (go_at_call 29; refine heqh.out.mono ?_; rintro e w8 ⟨rfl, rfl⟩) | (go_at_call 49; refine hckh.out.mono ?_; rintro e w9 ⟨rfl, hb9⟩; simp only [erB, if_true]; have hb := hb.next hb9) | (go_at_call 39; refine (works06 _).mono ?_; rintro e w10 ⟨rfl, hb10⟩; have hb := hb.next hb10) | ((with_reducible show wpList Try.prog _ _ _ _ _); refine wpL_loadG 53 (.tmp 3) _ (by rfl) rfl rfl hld ?_))
    go_ret
    exact ⟨rfl, hb⟩
  · have hne : EE ≠ 0 := by omega
    have hV := hv0h.out hne
    subst hV
    have hL : L5 = 0 := hOu.len.symm
    subst hL
    have c0 : w6.cell? ⟨g, 0, none⟩ = some (.int .i64 0) := K.cell 0
    have c15 : w6.cell? ⟨g, 15, none⟩ = some (.slice A5 0 c5) := K.cell 15
    rcases h34 with rfl | rfl
    all_goals
      go_wp2_with (go_at_call 39; refine (works06 _).mono ?_; rintro e w10 ⟨rfl, hb10⟩)
      go_ret
      exact ⟨rfl, hb.next hb10⟩
end Go.Proofs.Ytfnnjaljnfphlaa
