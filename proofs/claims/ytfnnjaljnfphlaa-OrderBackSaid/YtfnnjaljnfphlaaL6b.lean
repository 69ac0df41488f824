/- OrderBack: what has bytes is read of them as it was. -/
import Derived.Test.YtfnnjaljnfphlaaM06
import Derived.Test.YtfnnjaljnfphlaaL6w
namespace Go.Proofs.Ytfnnjaljnfphlaa
open Go.RowKit
set_option maxRecDepth 100000
set_option maxHeartbeats 8000000
set_option linter.unusedSimpArgs false
set_option linter.unusedVariables false

theorem ruB_RI {r : Ru} (h : ruB r = true) : RI r := by
  obtain ⟨k, pr, to_, po, m, os⟩ := r
  by_cases hk : k = 2
  · subst hk
    simp only [ruB, if_true, Bool.and_eq_true, inB_iff, beq_iff_eq] at h
    obtain ⟨⟨⟨⟨h1, h2⟩, h3⟩, h4⟩, h5⟩ := h
    have h6 := List.eq_nil_of_length_eq_zero h5
    have h7 := mkZ_eq h4
    subst h6 h3 h7
    unfold RI I64
    simp only [mk0]
    refine ⟨by omega, by omega, by omega, by omega, by omega, fun x hx => by cases hx⟩
  · simp only [ruB, hk, if_false, Bool.and_eq_true, inB_iff, beq_iff_eq, decide_eq_true_eq, List.all_eq_true] at h
    obtain ⟨⟨⟨⟨⟨⟨h1, h2⟩, h3⟩, h4⟩, h5⟩, h6⟩, h7⟩ := h
    subst h1 h5 h6
    simp only [mkB, Bool.and_eq_true, inB_iff] at h7
    obtain ⟨⟨⟨⟨g1, g2⟩, _⟩, _⟩, _⟩ := h7
    unfold RI I64
    simp only
    refine ⟨by omega, by omega, by omega, by omega, by omega, fun x hx => ?_⟩
    have := h3 x hx
    simp only [outB4, Bool.and_eq_true, inB_iff] at this
    unfold I4 I64
    omega
theorem RI0 : RI ru0 := by
  unfold RI I64 ru0 mk0
  simp only
  refine ⟨by omega, by omega, by omega, by omega, by omega, fun x hx => by cases hx⟩
theorem orB_OI {o : Or6} (h : orB o = true) : OI o := by
  have h9 := orB_kind h
  obtain ⟨h1, h2⟩ := Bool.and_eq_true_iff.1 h
  obtain ⟨k, n, m, r, p⟩ := o
  simp only at h9
  obtain rfl | rfl | rfl | rfl | rfl | rfl | rfl | rfl | rfl : k = 1 ∨ k = 2 ∨ k = 3 ∨ k = 4 ∨ k = 5 ∨ k = 6 ∨ k = 7 ∨ k = 8 ∨ k = 9 := by omega
  all_goals
    simp [spB] at h1
    simp [inB_iff] at h2
  · obtain ⟨⟨⟨a1, a2⟩, a3⟩, a4⟩ := h1
    have e1 := prZ_eq a3
    have e2 := ruZ_eq a4
    subst e1 e2 a1 a2
    exact ⟨by unfold I64; simp, by unfold I64; simp, by unfold I64; simp, RI0, by unfold I64 pr0; simp⟩
  · obtain ⟨⟨a1, a2⟩, a3⟩ := h1
    have e1 := prZ_eq a3
    subst e1 a1 a2
    exact ⟨by unfold I64; simp, by unfold I64; simp, by unfold I64; simp, ruB_RI h2, by unfold I64 pr0; simp⟩
  · obtain ⟨⟨a1, a2⟩, a3⟩ := h1
    have e1 := prZ_eq a3
    subst e1 a1 a2
    exact ⟨by unfold I64; simp, by unfold I64; simp, by unfold I64; simp, ruB_RI h2, by unfold I64 pr0; simp⟩
  · obtain ⟨⟨a1, a3⟩, a4⟩ := h1
    have e1 := prZ_eq a3
    have e2 := ruZ_eq a4
    subst e1 e2 a1
    exact ⟨by unfold I64; simp, by unfold I64; simp only; omega, by unfold I64; simp, RI0, by unfold I64 pr0; simp⟩
  · obtain ⟨a3, a4⟩ := h1
    have e1 := prZ_eq a3
    have e2 := ruZ_eq a4
    subst e1 e2
    exact ⟨by unfold I64; simp, by unfold I64; simp only; omega, by unfold I64; simp only; omega, RI0, by unfold I64 pr0; simp⟩
  · obtain ⟨⟨a1, a3⟩, a4⟩ := h1
    have e1 := prZ_eq a3
    have e2 := ruZ_eq a4
    subst e1 e2 a1
    exact ⟨by unfold I64; simp, by unfold I64; simp only; omega, by unfold I64; simp, RI0, by unfold I64 pr0; simp⟩
  · obtain ⟨a3, a4⟩ := h1
    have e1 := prZ_eq a3
    have e2 := ruZ_eq a4
    subst e1 e2
    exact ⟨by unfold I64; simp, by unfold I64; simp only; omega, by unfold I64; simp only; omega, RI0, by unfold I64 pr0; simp⟩
  · obtain ⟨⟨a1, a2⟩, a3⟩ := h1
    have e2 := ruZ_eq a3
    subst e2 a1 a2
    obtain ⟨h2, _⟩ := h2
    unfold PrOk5 at h2
    exact ⟨by unfold I64; simp, by unfold I64; simp, by unfold I64; simp, RI0, by unfold I64; simp only; omega⟩
  · obtain ⟨a3, a4⟩ := h1
    have e1 := prZ_eq a3
    have e2 := ruZ_eq a4
    subst e1 e2
    exact ⟨by unfold I64; simp, by unfold I64; simp only; omega, by unfold I64; simp only; omega, RI0, by unfold I64 pr0; simp⟩

theorem orderBack_walk (o : Or6) (A : Option Addr) (L c : Nat) (w : World) (hI : OI o) (hl : Ou w w.heap.size A L o.r.os) :
    Calls Try.prog 17 #[.agg (orC o A L c)] w fun e w' => e = .returned (.bool true) ∧ Below w.heap.size w w' := by
  have K := Bk.new w 53 (orC o A L c)
  have hb := (Below.refl w.heap.size w).push (.cells (orC o A L c) 53)
  have hlw := hl.boxed (.cells (orC o A L c) 53)
  clear hl
  obtain ⟨V, hV⟩ : ∃ V, V = Value.agg (orC o A L c) := ⟨_, rfl⟩
  rw [← hV]
  have hbx : (Instr.box 53 V).run Try.prog w = .ok (.pointer (some ⟨w.heap.size, 0, none⟩)) (w.alloc (.cells (orC o A L c) 53)) := by rw [hV]; rfl
  have HV := Lib.hid hV
  clear hV
  go_enter Try.func17, Try.ntmps17
  go_upto_region 1 with ((with_reducible show wpList Try.prog _ _ (Oper.mk (some 1) _ _ _ _ _ :: _) _ _); refine wpL_box 53 (.tmp 0) V rfl rfl rfl hbx ?_)
  clear hbx
  generalize w.alloc _ = w1 at K hb hlw ⊢
  go_upto_region 3 with (go_at_call 39; refine (works06 _).mono ?_; rintro e w2 ⟨rfl, hb2⟩)
  have K := K.kept hb2
  have hlw := hlw.kept hb2
  have hb := hb.next hb2
  clear hb2
  generalize hn : w.heap.size = n at K ⊢
  go_wp2_with fail
  go_loopw [3] (fun i wr => ∃ (k : Nat) (o' : Or6) (A' : Option Addr) (L' c' : Nat), k ≤ 2 ∧ i = .int .i64 k ∧ Bk wr n 53 (orC o' A' L' c') ∧ Ou wr wr.heap.size A' L' o'.r.os ∧ OI o' ∧ Below w.heap.size w wr ∧ Hid (0 < k → orB o' = true)) (fun i _ => 2 - (intOf i).toNat)
  case atStart => exact ⟨0, o, A, L, c, by omega, rfl, K, hlw, hI, hb, fun h => by omega⟩
  case round =>
    clear K hlw hI hb HV
    obtain ⟨k, o, A, L, c, hk, rfl, K, hlw, hI, hb, HO⟩ := hrel
    obtain ⟨wq, hwq⟩ : ∃ q, q = wr := ⟨_, rfl⟩
    subst hwq
    by_cases hk2 : k = 2
    · subst hk2
      go_wp2_with fail
      go_ret
      exact ⟨rfl, hb⟩
    · have hlt : (k : Int) < 2 := by omega
      have hk0 : (0 : Int) ≤ (k : Int) := by omega
      have hld : (Instr.loadAt 53 (.pointer (some ⟨n, 0, none⟩))).run Try.prog wq = .ok (.agg (orC o A L c)) wq := K.ld53 rfl
      have hby := bytes_any o A L c wq hlw
      obtain ⟨q, hq⟩ : ∃ q, q = orB o := ⟨_, rfl⟩
      rw [← hq] at hby
      have hbyh := Lib.hid hby
      have Hq := Lib.hid hq
      have hfo := or_fore (o := o)
      have hsi := or_size (o := o)
      rw [← hq] at hfo hsi
      have hfoh := Lib.hid hfo
      have hsih := Lib.hid hsi
      clear hby hq hfo hsi
      go_upto_region 7 with (first | (go_at_call 36; refine hbyh.out.mono ?_; rintro e w7 ⟨A7, N7, c7, rfl, hO7, hb7⟩) | ((with_reducible show wpList Try.prog _ _ (Oper.mk (some 15) _ _ _ _ _ :: _) _ _); refine wpL_load 53 (.tmp 1) (.pointer (some ⟨n, 0, none⟩)) rfl rfl rfl hld ?_))
      clear hld hbyh
      have K := K.kept hb7
      have hlw := hlw.kept hb7
      have hb := hb.next hb7
      cases q
      · simp only [erB, Bool.false_eq_true, if_false] at hO7 ⊢
        have hN := hO7.len
        simp only [List.length_nil] at hN
        subst hN
        obtain rfl : k = 0 := by
          rcases Nat.eq_zero_or_pos k with h | h
          · exact h
          · have h1 := HO.out h
            rw [← Hq.out] at h1
            cases h1
        have hld : (Instr.loadAt 53 (.pointer (some ⟨n, 0, none⟩))).run Try.prog w7 = .ok (.agg (orC o A L c)) w7 := K.ld53 rfl
        have hck := check_any o A L c w7 hlw
        rw [← Hq.out] at hck
        have hckh := Lib.hid hck
        clear hck
        go_upto_region 13 with (first | (go_at_call 49; refine hckh.out.mono ?_; rintro e w9 ⟨rfl, hb9⟩; simp only [erB, Bool.false_eq_true, if_false]) | ((with_reducible show wpList Try.prog _ _ (Oper.mk (some 29) _ _ _ _ _ :: _) _ _); refine wpL_loadG 53 (.tmp 1) (.pointer (some ⟨n, 0, none⟩)) (by rfl) rfl rfl hld ?_))
        clear hld hckh hfoh hsih
        have K := K.kept hb9
        have hlw := hlw.kept hb9
        have hb := hb.next hb9
        have hld : (Instr.loadAt 53 (.pointer (some ⟨n, 0, none⟩))).run Try.prog w9 = .ok (.agg (orC o A L c)) w9 := K.ld53 rfl
        have hmd := Lib.hid (made06_any o A L c w9 hI hlw)
        go_wp2_with (first | (go_at_call 37; refine hmd.out.mono ?_; rintro e w11 ⟨o', A', L', c', rfl, hB', hO', hb11⟩; have K11 := K.kept hb11; have hst := st53 K11 rfl o' A' L' c') | ((with_reducible show wpList Try.prog _ _ (Oper.mk (some 90) _ _ _ _ _ :: _) _ _); refine wpL_load 53 (.tmp 1) (.pointer (some ⟨n, 0, none⟩)) rfl rfl rfl hld ?_) | ((with_reducible show wpList Try.prog _ _ (Oper.mk none _ _ _ _ _ :: _) _ _); refine wpL_store 53 (.tmp 1) (.tmp 91) (.pointer (some ⟨n, 0, none⟩)) (.agg (orC o' A' L' c')) rfl rfl rfl rfl hst ?_))
        go_roundw
        case rel => exact ⟨0 + 1, o', A', L', c', by omega, by go_num, setRow_heap w11 _ _ _ _ _ K11, Rd.of_own (own_heap hO' fun g hg _ => setRow_other w11 _ _ _ (by have := K.lt; omega)), orB_OI hB', below_setRow (hb.next hb11) (by omega) _, fun _ => hB'⟩
        case measure => first | (simp [intOf]; done) | (simp [intOf]; omega)
      · simp only [erB, if_true] at hO7 ⊢
        obtain ⟨hf1, hf2⟩ := hfoh.out rfl
        obtain ⟨hs1, hs2⟩ := hsih.out rfl
        have hlen := hO7.len
        have hpa := parse_any A7 N7 c7 (orBy o) w7 hO7.by_ hO7.cap
        rw [hf1, hf2] at hpa
        have hpah := Lib.hid hpa
        have hlen1 : ¬ (256 : Int) < (N7 : Int) := by omega
        have hlen2 : ¬ (N7 : Int) < 1 := by omega
        have hlen0 : (0 : Int) ≤ (N7 : Int) := by omega
        have hlh1 := Lib.hid hlen1
        have hlh2 := Lib.hid hlen2
        clear hpa hlen hs1 hs2 hf1 hf2 hfoh hsih hlen1 hlen2
        go_upto_region 11 with (first | (go_at_call 38; refine hpah.out.mono ?_; rintro e w8 ⟨A8, L8, c8, rfl, hOu8, hLc8, hb8⟩; have hal := alloc53 w8; have hst := vst53 w8 o A8 L8 c8) | ((with_reducible show wpList Try.prog _ _ (Oper.mk (some 6) _ _ _ _ _ :: _) _ _); refine wpL_alloc 53 rfl rfl hal ?_) | ((with_reducible show wpList Try.prog _ _ (Oper.mk none _ _ _ _ _ :: _) _ _); refine wpL_store 53 (.tmp 6) (.tmp 40) _ _ rfl rfl rfl rfl hst ?_))
        clear hal hst hpah
        have K := (K.kept hb8).alloc (.cells (orC o A8 L8 c8) 53)
        have hlw := (hlw.kept hb8).boxed (.cells (orC o A8 L8 c8) 53)
        have hb := (hb.next hb8).push (.cells (orC o A8 L8 c8) 53)
        have K8 := Bk.new w8 53 (orC o A8 L8 c8)
        have hl8 := hOu8.boxed (.cells (orC o A8 L8 c8) 53)
        clear hb8 hOu8 hO7
        generalize w8.heap.size = g8 at K8 ⊢
        generalize w8.alloc _ = w9 at K hlw hb K8 hl8 ⊢
        have hLe := hlw.len
        have hLe8 := hl8.len
        have hL8 := orB_len (o := o) (Hq.out.symm)
        obtain rfl : L8 = L := by omega
        have hsm := Lib.hid (same06_any o.r A8 A L8 c8 c w9 hl8 hlw (by omega))
        have hld1 : (Instr.loadAt 51 (.pointer (some ⟨g8, 3, none⟩))).run Try.prog w9 = .ok (.agg (ruC o.r A8 L8 c8)) w9 := K8.ldm 3 (ruC o.r A8 L8 c8) rfl 51 _ Try.underlying51 rfl info51
        have hld2 : (Instr.loadAt 51 (.pointer (some ⟨n, 3, none⟩))).run Try.prog w9 = .ok (.agg (ruC o.r A L8 c)) w9 := K.ldm 3 (ruC o.r A L8 c) rfl 51 _ Try.underlying51 rfl info51
        have a0 : w9.cell? ⟨n, 0, none⟩ = some (.int .i64 o.k) := K.cell 0
        have b0 : w9.cell? ⟨g8, 0, none⟩ = some (.int .i64 o.k) := K8.cell 0
        have a1 : w9.cell? ⟨n, 1, none⟩ = some (.int .i64 o.n) := K.cell 1
        have b1 : w9.cell? ⟨g8, 1, none⟩ = some (.int .i64 o.n) := K8.cell 1
        have a2 : w9.cell? ⟨n, 2, none⟩ = some (.int .i64 o.m) := K.cell 2
        have b2 : w9.cell? ⟨g8, 2, none⟩ = some (.int .i64 o.m) := K8.cell 2
        have a16 : w9.cell? ⟨n, 16, none⟩ = some (.int .i64 o.p.f) := K.cell 16
        have b16 : w9.cell? ⟨g8, 16, none⟩ = some (.int .i64 o.p.f) := K8.cell 16
        have a17 : w9.cell? ⟨n, 17, none⟩ = some (.int .i64 o.p.fp) := K.cell 17
        have b17 : w9.cell? ⟨g8, 17, none⟩ = some (.int .i64 o.p.fp) := K8.cell 17
        have a18 : w9.cell? ⟨n, 18, none⟩ = some (.int .i64 o.p.t) := K.cell 18
        have b18 : w9.cell? ⟨g8, 18, none⟩ = some (.int .i64 o.p.t) := K8.cell 18
        have a19 : w9.cell? ⟨n, 19, none⟩ = some (.int .i64 o.p.tp) := K.cell 19
        have b19 : w9.cell? ⟨g8, 19, none⟩ = some (.int .i64 o.p.tp) := K8.cell 19
        have a20 : w9.cell? ⟨n, 20, none⟩ = some (.int .i64 o.p.n) := K.cell 20
        have b20 : w9.cell? ⟨g8, 20, none⟩ = some (.int .i64 o.p.n) := K8.cell 20
        have x0 : (o.k != o.k) = false := by simp
        have x1 : (o.n != o.n) = false := by simp
        have x2 : (o.m != o.m) = false := by simp
        have xp := bin_ne23 o.p.f o.p.fp o.p.t o.p.tp o.p.n o.p.f o.p.fp o.p.t o.p.tp o.p.n
        rw [prQ_self] at xp
        have hlen1 := hlh1.out
        have hlen2 := hlh2.out
        clear hLe hLe8 hL8 hlh1 hlh2
        go_upto_region 13 with (first | (go_at_call 56; refine hsm.out.mono ?_; rintro e w10 ⟨rfl, hb10⟩) | ((with_reducible show wpList Try.prog _ _ (Oper.mk (some 74) _ _ _ _ _ :: _) _ _); refine wpL_loadG 51 (.tmp 73) (.pointer (some ⟨g8, 3, none⟩)) (by rfl) rfl rfl hld1 ?_) | ((with_reducible show wpList Try.prog _ _ (Oper.mk (some 76) _ _ _ _ _ :: _) _ _); refine wpL_loadG 51 (.tmp 75) (.pointer (some ⟨n, 3, none⟩)) (by rfl) rfl rfl hld2 ?_))
        clear hld1 hld2 hsm x0 x1 x2 xp a0 a1 a2 a16 a17 a18 a19 a20 b0 b1 b2 b16 b17 b18 b19 b20 K8 hl8 hlen1 hlen2
        have K := K.kept hb10
        have hlw := hlw.kept hb10
        have hb := hb.next hb10
        have hld : (Instr.loadAt 53 (.pointer (some ⟨n, 0, none⟩))).run Try.prog w10 = .ok (.agg (orC o A L8 c)) w10 := K.ld53 rfl
        have hmd := Lib.hid (made06_any o A L8 c w10 hI hlw)
        go_wp2_with (first | (go_at_call 37; refine hmd.out.mono ?_; rintro e w11 ⟨o', A', L', c', rfl, hB', hO', hb11⟩; have K11 := K.kept hb11; have hst := st53 K11 rfl o' A' L' c') | ((with_reducible show wpList Try.prog _ _ (Oper.mk (some 90) _ _ _ _ _ :: _) _ _); refine wpL_load 53 (.tmp 1) (.pointer (some ⟨n, 0, none⟩)) rfl rfl rfl hld ?_) | ((with_reducible show wpList Try.prog _ _ (Oper.mk none _ _ _ _ _ :: _) _ _); refine wpL_store 53 (.tmp 1) (.tmp 91) (.pointer (some ⟨n, 0, none⟩)) (.agg (orC o' A' L' c')) rfl rfl rfl rfl hst ?_))
        go_roundw
        case rel => exact ⟨k + 1, o', A', L', c', by omega, by go_num, setRow_heap w11 _ _ _ _ _ K11, Rd.of_own (own_heap hO' fun g hg _ => setRow_other w11 _ _ _ (by have := K.lt; omega)), orB_OI hB', below_setRow (hb.next hb11) (by omega) _, fun _ => hB'⟩
        case measure => first | (simp [intOf]; done) | (simp [intOf]; omega)
end Go.Proofs.Ytfnnjaljnfphlaa
