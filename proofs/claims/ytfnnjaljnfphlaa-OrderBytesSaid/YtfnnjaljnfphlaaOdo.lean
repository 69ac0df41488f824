/- Orders: each kind's writing, as one contract; order.Bytes. -/
import Derived.Test.YtfnnjaljnfphlaaOdn
import Derived.Deep.DeepCutAuto
namespace Go.Proofs.Ytfnnjaljnfphlaa
open Go.RowKit
set_option maxRecDepth 100000
set_option maxHeartbeats 8000000
set_option linter.unusedSimpArgs false
set_option linter.unusedVariables false

def kfn (k : Int) : Nat := if k = 1 then 114 else if k = 2 then 115 else if k = 3 then 115 else if k = 4 then 116 else if k = 5 then 117 else if k = 6 then 118 else if k = 7 then 119 else if k = 8 then 120 else 121
theorem kindV_fn {k : Int} (h : 1 ≤ k ∧ k ≤ 9) : kindV k = .func (.func (kfn k)) #[] #[] := by
  obtain rfl | rfl | rfl | rfl | rfl | rfl | rfl | rfl | rfl : k = 1 ∨ k = 2 ∨ k = 3 ∨ k = 4 ∨ k = 5 ∨ k = 6 ∨ k = 7 ∨ k = 8 ∨ k = 9 := by omega
  all_goals rfl
theorem cf_kfn {k : Int} (h : 1 ≤ k ∧ k ≤ 9) (args : Array Value) (w : World) : (callFunc (kfn k) args).run Try.prog w = .ok (.enter (kfn k) args) w := by
  obtain rfl | rfl | rfl | rfl | rfl | rfl | rfl | rfl | rfl : k = 1 ∨ k = 2 ∨ k = 3 ∨ k = 4 ∨ k = 5 ∨ k = 6 ∨ k = 7 ∨ k = 8 ∨ k = 9 := by omega
  · exact cf_of Try.func114 (by kernel_rfl) rfl args w
  · exact cf_of Try.func115 (by kernel_rfl) rfl args w
  · exact cf_of Try.func115 (by kernel_rfl) rfl args w
  · exact cf_of Try.func116 (by kernel_rfl) rfl args w
  · exact cf_of Try.func117 (by kernel_rfl) rfl args w
  · exact cf_of Try.func118 (by kernel_rfl) rfl args w
  · exact cf_of Try.func119 (by kernel_rfl) rfl args w
  · exact cf_of Try.func120 (by kernel_rfl) rfl args w
  · exact cf_of Try.func121 (by kernel_rfl) rfl args w
/-- What a kind writes. -/
def kBy (o : Or6) : List UInt8 :=
  if o.k = 2 ∨ o.k = 3 then ruBy o.r else if o.k = 4 then be 1 o.n.toNat else if o.k = 5 then be 1 o.n.toNat ++ be 2 o.m.toNat
    else if o.k = 6 then be 4 o.n.toNat else if o.k = 7 then be 4 o.n.toNat ++ be 2 o.m.toNat else if o.k = 8 then be 2 (prBy o.p).length ++ prBy o.p
    else if o.k = 9 then be 1 o.n.toNat ++ be 1 o.m.toNat else []
theorem orBy_k (o : Or6) : orBy o = be 1 o.k.toNat ++ kBy o := rfl
theorem orB_kind {o : Or6} (h : orB o = true) : 1 ≤ o.k ∧ o.k ≤ 9 := by
  have h1 := (Bool.and_eq_true_iff.1 h).1
  rw [spB_clr] at h1
  have h2 := (Bool.and_eq_true_iff.1 h1).1
  simpa [kindB] using h2
theorem ruB_len {r : Ru} (h : ruB r = true) : r.os.length ≤ 8 := by
  unfold ruB at h
  split at h
  · simp only [Bool.and_eq_true, beq_iff_eq] at h
    omega
  · simp only [Bool.and_eq_true, decide_eq_true_eq] at h
    exact h.1.1.1.1.1.2
theorem ruZ_len {r : Ru} (h : ruZ r = true) : r.os.length ≤ 8 := by
  unfold ruZ at h
  simp only [Bool.and_eq_true, beq_iff_eq] at h
  omega
theorem orB_len {o : Or6} (h : orB o = true) : o.r.os.length ≤ 8 := by
  have h1 := (Bool.and_eq_true_iff.1 h).1
  have h2 := (Bool.and_eq_true_iff.1 h).2
  by_cases hk : o.k = 2 ∨ o.k = 3
  · rw [if_pos hk] at h2
    exact ruB_len h2
  · rw [spB_clr] at h1
    have h3 := (Bool.and_eq_true_iff.1 h1).2
    have h4 : (clr o).r = o.r := by
      unfold clr
      rw [if_neg hk]
      split
      · rfl
      · split
        · rfl
        · split <;> rfl
    unfold zB at h3
    rw [h4] at h3
    exact ruZ_len (Bool.and_eq_true_iff.1 h3).2
theorem writer_pi' (g base : Nat) : PI 100 g 75 base (fun b => b ≠ g) (WrS base g) wnf wok List.length 100000 := writer_pi g base
theorem kind_w (base g b bo : Nat) (t : TypeId) (o : Or6) (A : Option Addr) (L c : Nat) (l : List UInt8) (w : World) (ho : orB o = true) (hs : WrS base g w l) (hB : Bk w b t (orC o A L c)) (hO : OBk w bo A L o.r.os)
    (hbo : 0 < L → bo ≠ g ∧ bo ≠ b ∧ base ≤ bo) (hLc : L ≤ c) (ht : t ≠ 5) (hf : b ≠ g) (hb : base ≤ b) (hm : l.length ≤ 1000) :
    Calls Try.prog (kfn o.k) #[.pointer (some ⟨b, 0, none⟩), .iface 100 (.pointer (some ⟨g, 0, none⟩))] w fun e w' => e = .returned (.tuple #[]) ∧ WrS base g w' (l ++ kBy o) ∧ w'.cell? ⟨b, 0, none⟩ = some (.int .i64 o.k) ∧ Below base w w' := by
  have P := writer_pi' g base
  have h9 := orB_kind ho
  obtain ⟨k, n, m, r, p⟩ := o
  simp only at h9 hO ⊢
  obtain rfl | rfl | rfl | rfl | rfl | rfl | rfl | rfl | rfl : k = 1 ∨ k = 2 ∨ k = 3 ∨ k = 4 ∨ k = 5 ∨ k = 6 ∨ k = 7 ∨ k = 8 ∨ k = 9 := by omega
  · refine (hnone b _ w).mono ?_
    rintro e w' ⟨rfl, rfl⟩
    exact ⟨rfl, by simpa [kBy] using hs, hB.cell 0, Below.refl _ _⟩
  · have ho := (Bool.and_eq_true_iff.1 ho).2
    simp at ho
    have H := hruled (naW_rule g) (meW_rule g) cf144 (b := b) (w := w) (Q := fun w' => WrS base g w' (l ++ ruBy r) ∧ w'.cell? ⟨b, 0, none⟩ = some (.int .i64 2) ∧ Below base w w') (wrule ((ruleParts_any P b bo L c t A (.int .i64 2) (.int .i64 n) (.int .i64 m) (.int .i64 p.f) (.int .i64 p.fp) (.int .i64 p.t) (.int .i64 p.tp) (.int .i64 p.n) r l w.drew (by show l.length + 17000 ≤ 100000; omega) hs hB ⟨hO.len, hO.blk⟩ hbo hLc (okr_w ho) ht hf hb).mono (by
      rintro e w' ⟨rfl, h1, hR, h2⟩
      rw [ruF_w] at h1
      obtain ⟨_, _, _, _, hB', _⟩ := hR.x
      exact ⟨rfl, h1, hB'.cell 0, undrew h2⟩)))
    refine H.mono ?_
    rintro e w' ⟨rfl, h1, hc0, h2⟩
    exact ⟨rfl, by simpa [kBy] using h1, hc0, h2⟩
  · have ho := (Bool.and_eq_true_iff.1 ho).2
    simp at ho
    have H := hruled (naW_rule g) (meW_rule g) cf144 (b := b) (w := w) (Q := fun w' => WrS base g w' (l ++ ruBy r) ∧ w'.cell? ⟨b, 0, none⟩ = some (.int .i64 3) ∧ Below base w w') (wrule ((ruleParts_any P b bo L c t A (.int .i64 3) (.int .i64 n) (.int .i64 m) (.int .i64 p.f) (.int .i64 p.fp) (.int .i64 p.t) (.int .i64 p.tp) (.int .i64 p.n) r l w.drew (by show l.length + 17000 ≤ 100000; omega) hs hB ⟨hO.len, hO.blk⟩ hbo hLc (okr_w ho) ht hf hb).mono (by
      rintro e w' ⟨rfl, h1, hR, h2⟩
      rw [ruF_w] at h1
      obtain ⟨_, _, _, _, hB', _⟩ := hR.x
      exact ⟨rfl, h1, hB'.cell 0, undrew h2⟩)))
    refine H.mono ?_
    rintro e w' ⟨rfl, h1, hc0, h2⟩
    exact ⟨rfl, by simpa [kBy] using h1, hc0, h2⟩
  · have ho := (Bool.and_eq_true_iff.1 ho).2
    simp [inB_iff] at ho
    refine (htag P b t _ n l w (by show l.length + 4 ≤ 100000; omega) hs hB rfl (by simp only [wok]; omega) ht hf hb).mono ?_
    rintro e w' ⟨rfl, h1, hB', _, h2⟩
    exact ⟨rfl, by simpa [kBy, wnf] using h1, hB'.cell 0, h2⟩
  · have ho := (Bool.and_eq_true_iff.1 ho).2
    simp [inB_iff] at ho
    refine (hask P b t _ n m l w (by show l.length + 4 ≤ 100000; omega) hs hB rfl rfl (by simp only [wok]; omega) (by simp only [wok]; omega) ht hf hb).mono ?_
    rintro e w' ⟨rfl, h1, hB', _, h2⟩
    exact ⟨rfl, by simpa [kBy, wnf] using h1, hB'.cell 0, h2⟩
  · have ho := (Bool.and_eq_true_iff.1 ho).2
    simp [inB_iff] at ho
    refine (hbarrier P b t _ n l w (by show l.length + 4 ≤ 100000; omega) hs hB rfl (by simp only [wok]; omega) ht hf hb).mono ?_
    rintro e w' ⟨rfl, h1, hB', _, h2⟩
    exact ⟨rfl, by simpa [kBy, wnf] using h1, hB'.cell 0, h2⟩
  · have ho := (Bool.and_eq_true_iff.1 ho).2
    simp [inB_iff] at ho
    refine (hdone P b t _ n m l w (by show l.length + 4 ≤ 100000; omega) hs hB rfl rfl (by simp only [wok]; omega) (by simp only [wok]; omega) ht hf hb).mono ?_
    rintro e w' ⟨rfl, h1, hB', _, h2⟩
    exact ⟨rfl, by simpa [kBy, wnf] using h1, hB'.cell 0, h2⟩
  · have ho := (Bool.and_eq_true_iff.1 ho).2
    simp at ho
    have H := hprobed (naW_probe g) (meW_probe g) cf143 (b := b) (w := w) (Q := fun w' => WrS base g w' (l ++ (be 2 (prBy p).length ++ prBy p)) ∧ w'.cell? ⟨b, 0, none⟩ = some (.int .i64 8) ∧ Below base w w') ((wprobe base g b t ⟨8, n, m, r, p⟩ A L c l w.drew hs hB hf ht ho.1 (by omega)).mono (by
      rintro e w' ⟨rfl, h1, hB', _, h2⟩
      exact ⟨rfl, h1, hB'.cell 0, undrew h2⟩))
    refine H.mono ?_
    rintro e w' ⟨rfl, h1, hc0, h2⟩
    exact ⟨rfl, by simpa [kBy] using h1, hc0, h2⟩
  · have ho := (Bool.and_eq_true_iff.1 ho).2
    simp [inB_iff] at ho
    refine (hport P b t _ n m l w (by show l.length + 4 ≤ 100000; omega) hs hB rfl rfl (by simp only [wok]; omega) (by simp only [wok]; omega) ht hf hb).mono ?_
    rintro e w' ⟨rfl, h1, hB', _, h2⟩
    exact ⟨rfl, by simpa [kBy, wnf] using h1, hB'.cell 0, h2⟩

theorem Bk.oc15 {w : World} {b : Nat} {t : TypeId} {o : Or6} {A : Option Addr} {L c : Nat} (h : Bk w b t (orC o A L c)) : w.cell? ⟨b, 15, none⟩ = some (.slice A L c) := h.cell 15
theorem bytes_any (o : Or6) (A : Option Addr) (L c : Nat) (w : World) (hl : Ou w w.heap.size A L o.r.os) :
    Calls Try.prog 36 #[.agg (orC o A L c)] w fun e w' => ∃ A' N c', e = .returned (.tuple #[.slice A' N c', .int .i64 (erB (orB o))]) ∧ OwnB w' w.heap.size A' N c' (if orB o then orBy o else []) ∧ Below w.heap.size w w' := by
  have K := Bk.new w 53 (orC o A L c)
  have hb := (Below.refl w.heap.size w).push (.cells (orC o A L c) 53)
  have hlw := hl.boxed (.cells (orC o A L c) 53)
  have hlen := Lib.hid hl.len
  clear hl
  obtain ⟨V, hV⟩ : ∃ V, V = Value.agg (orC o A L c) := ⟨_, rfl⟩
  rw [← hV]
  have hbx : (Instr.box 53 V).run Try.prog w = .ok (.pointer (some ⟨w.heap.size, 0, none⟩)) (w.alloc (.cells (orC o A L c) 53)) := by rw [hV]; rfl
  have HV := Lib.hid hV
  clear hV
  obtain ⟨q, hq⟩ : ∃ q, q = orB o := ⟨_, rfl⟩
  rw [← hq]
  have Hq := Lib.hid hq
  clear hq
  go_enter Try.func36, Try.ntmps36
  go_upto_region 1 with ((with_reducible show wpList Try.prog _ _ _ _ _); refine wpL_box 53 (.tmp 0) V rfl rfl rfl hbx ?_)
  clear hbx
  generalize w.alloc _ = w1 at K hb hlw ⊢
  have hld : (Instr.loadAt 53 (.pointer (some ⟨w.heap.size, 0, none⟩))).run Try.prog w1 = .ok V w1 := by rw [HV.out]; exact K.ld53 rfl
  have hck := check_any o A L c w1 hlw
  rw [← HV.out] at hck
  rw [← Hq.out] at hck
  have hckh := Lib.hid hck
  clear hck
  cases q
  · go_wp2_with (first | (go_at_call 49; refine hckh.out.mono ?_; rintro e w2 ⟨rfl, hb2⟩; simp only [erB, Bool.false_eq_true, if_false]) | ((with_reducible show wpList Try.prog _ _ _ _ _); refine wpL_load 53 (.tmp 1) _ rfl rfl rfl hld ?_))
    go_ret2
    exact ⟨none, 0, 0, rfl, World.ownsRow_nil _ _ _ _, hb.next hb2⟩
  · go_upto_region 4 with (first | (go_at_call 49; refine hckh.out.mono ?_; rintro e w2 ⟨rfl, hb2⟩; simp only [erB, if_true]) | ((with_reducible show wpList Try.prog _ _ _ _ _); refine wpL_load 53 (.tmp 1) _ rfl rfl rfl hld ?_))
    have h9 := orB_kind Hq.out.symm
    have hL8 : L ≤ 1000 := by
      have := orB_len Hq.out.symm
      have := hlen.out
      omega
    have hbw := K.lt
    have hz2 := hb2.size
    have K := K.kept hb2
    have hb := hb.next hb2
    have hlw := hlw.kept hb2
    clear hld hckh hb2
    have d15 := K.oc15
    have f0 := K.frozen
    have hcl := Lib.hid (oclone A L c o.r.os w2 hlw hL8)
    go_upto_region 5 with (go_at_call 74; refine hcl.out.mono ?_; rintro e w3 ⟨bo, A', c', rfl, hO, hbo, hLc, hb3⟩; have f0 := (K.kept hb3).frozen; have d15 := (K.kept hb3).oc15)
    have K : Bk (w3.setCell ⟨w.heap.size, 15, none⟩ (.slice A' L c')) w.heap.size 53 (orC o A' L c') := (K.kept hb3).set_ 15 (.slice A' L c')
    have hb := (hb.next hb3).setCell (p := ⟨w.heap.size, 15, none⟩) (Nat.le_refl _) (.slice A' L c')
    have hbo' : 0 < L → bo ≠ w.heap.size ∧ w.heap.size ≤ bo := fun h => by have := hbo h; omega
    have hO : OBk (w3.setCell ⟨w.heap.size, 15, none⟩ (.slice A' L c')) bo A' L o.r.os := ⟨hO.len, fun h => ⟨(hO.blk h).1, by obtain ⟨j, hj⟩ := (hO.blk h).2; exact ⟨j, hj.far (p := ⟨w.heap.size, 15, none⟩) (hbo' h).1 _⟩⟩⟩
    clear d15 f0 hcl hlw hbo
    generalize World.setCell w3 _ _ = w4 at K hb hO ⊢
    clear hb3
    have hbo4 : 0 < L → bo < w4.heap.size := fun h => by obtain ⟨j, hj⟩ := (hO.blk h).2; exact hj.lt
    have hz4 := hb.size
    have K5 := K.alloc (.cells #[.slice none 0 0] 102)
    have KW := Bk.new w4 102 #[.slice none 0 0]
    have hO5 : OBk (w4.alloc (.cells #[.slice none 0 0] 102)) bo A' L o.r.os := ⟨hO.len, fun h => ⟨(hO.blk h).1, by obtain ⟨j, hj⟩ := (hO.blk h).2; exact ⟨j, hj.alloc _⟩⟩⟩
    have hb5 := hb.push (.cells #[.slice none 0 0] 102)
    have hlt4 := K.lt
    go_upto_region 6 with fail
    clear K
    generalize w4.alloc _ = w5 at K5 KW hO5 hb5 ⊢
    generalize w4.heap.size = gw at KW hbo4 hz4 hlt4 ⊢
    clear hO hb
    have P := writer_pi' gw w.heap.size
    have N := P.num 1 w.heap.size 0 53 _ o.k [] w5 (by omega) (by simp) ⟨none, 0, 0, KW, World.ownsRow_nil _ _ _ _, hz4⟩ K5 rfl (by simp only [wok]; omega) (by decide) (by omega) (Nat.le_refl _)
    have Nh := Lib.hid N
    clear N
    go_upto_region 7 with (go_at_call 75; refine Nh.out.mono ?_; rintro e w6 ⟨rfl, hW6, hB6, hk6, hb6⟩)
    clear Nh
    have hO6 := hO5.kp hk6 (fun h => ⟨by have := hbo4 h; omega, (hbo' h).1⟩)
    have hB6 : Bk w6 w.heap.size 53 (orC o A' L c') := hB6
    have hb6 := hb5.trans hb6
    clear K5 KW hO5 hb5 hk6
    have c0 : w6.cell? ⟨w.heap.size, 0, none⟩ = some (.int .i64 o.k) := hB6.cell 0
    have hlk : (Instr.lookup 105 (.map (some w6.heap.size)) (.int .i64 o.k) false).run Try.prog (w6.alloc (.map kindE 9)).drew = .ok (kindV o.k) (w6.alloc (.map kindE 9)).drew := look_fn _ _ _ (heap_alloc_new w6 _) h9
    rw [kindV_fn h9] at hlk
    have hcf := cf_kfn h9
    have KWh := kind_w w.heap.size gw w.heap.size bo 53 o A' L c' (wnf 1 o.k []).2 (w6.alloc (.map kindE 9)).drew Hq.out.symm (by obtain ⟨a, b, c, x, y, z⟩ := hW6; exact ⟨a, b, c, x.alloc _, y.alloc _, z⟩) (hB6.alloc _) ⟨hO6.len, fun h => ⟨(hO6.blk h).1, by obtain ⟨j, hj⟩ := (hO6.blk h).2; exact ⟨j, hj.alloc _⟩⟩⟩ (fun h => ⟨by have := hbo4 h; omega, hbo' h⟩) hLc (by decide) (by omega) (Nat.le_refl _) (by simp [wnf, be_len])
    generalize kfn o.k = F at hlk hcf KWh
    have KWhh := Lib.hid KWh
    clear KWh
    go_region_held3 (fun w' => w'.cell? ⟨w.heap.size, 0, none⟩ = some (.int .i64 o.k)) (first | exact c0 | exact (hB6.alloc _).cell 0 | exact hc7) (first | (go_at_call 76; refine (kinds_any _).mono ?_; rintro e w7 ⟨rfl, rfl⟩) | (refine KWhh.out.mono ?_; rintro e w7 ⟨rfl, hW7, hc7, hb7⟩))
    all_goals
      obtain ⟨A7, N7, c7, hG, hO7, _⟩ := hW7
      have g0 := hG.one.1
      clear c0 hlk hcf
      go_wp2_with fail
      go_ret2
      refine ⟨A7, N7, c7, rfl, by simpa [wnf, orBy_k] using hO7, (hb6.push (.map kindE 9)).trans (undrew hb7)⟩
end Go.Proofs.Ytfnnjaljnfphlaa
