/- order.Parse. -/
import Derived.Test.YtfnnjaljnfphlaaOpp
import Derived.Laws.CopyOwn
namespace Go.Proofs.Ytfnnjaljnfphlaa
open Go.RowKit
set_option maxRecDepth 100000
set_option maxHeartbeats 8000000
set_option linter.unusedSimpArgs false
set_option linter.unusedVariables false

section
variable {ops : Array Oper} {rest : List Oper} {o : Oper} {a : Act} {w w' : World} {Q : Exit → Act → World → Prop} {V v : Value}
theorem wpL_alloc (ty : TypeId) (hg : o.guard = none) (ho : o.op = .alloc ty) (h : (Instr.alloc ty true (.tuple #[])).run Try.prog w = .ok V w')
    (hk : wpList Try.prog ops Q rest (a.put o.dst V) w') : wpList Try.prog ops Q (o :: rest) a w := by
  refine wpList_plain hg fun K hK => ?_
  unfold Oper.wp execOp
  simp only [ho, h, Sem.run_bind, Sem.run_pure, Result.andThen_ok]
  exact hK _ _ hk
theorem wpL_bld0 (ty : TypeId) (hg : o.guard = none) (ho : o.op = .build ty #[]) (h : (Instr.build ty #[]).run Try.prog w = .ok V w')
    (hk : wpList Try.prog ops Q rest (a.put o.dst V) w') : wpList Try.prog ops Q (o :: rest) a w := by
  refine wpList_plain hg fun K hK => ?_
  unfold Oper.wp execOp
  simp only [ho, h, List.map_toArray, List.map_nil, Sem.run_bind, Sem.run_pure, Result.andThen_ok]
  exact hK _ _ hk
theorem wpL_loadG (ty : TypeId) (x : Operand) (p : Value) (hw : Region.wanted o (yielded ops a.tmps) = true) (ho : o.op = .load ty x) (hx : a.eval x = p) (h : (Instr.loadAt ty p).run Try.prog w = .ok V w')
    (hk : wpList Try.prog ops Q rest (a.put o.dst V) w') : wpList Try.prog ops Q (o :: rest) a w := by
  refine wpList_step fun K hK => ?_
  rw [if_pos hw]
  unfold Oper.wp execOp
  simp only [ho, hx, h, Sem.run_bind, Sem.run_pure, Result.andThen_ok]
  exact hK _ _ hk
end
theorem alloc53 (w : World) : (Instr.alloc 53 true (.tuple #[])).run Try.prog w = .ok (.pointer (some ⟨w.heap.size, 0, none⟩)) (w.alloc (.cells (orC or0 none 0 0) 53)) := by kernel_rfl
theorem bld53 (w : World) : (Instr.build 53 #[]).run Try.prog w = .ok (.agg (orC or0 none 0 0)) w := by kernel_rfl
theorem orC_one (o : Or6) (A : Option Addr) (L c : Nat) : (orC o A L c).all (·.oneCell') = true := by
  rw [Array.all_eq_true_iff_forall_mem]
  intro v hv
  simp only [orC, List.mem_toArray, List.mem_cons, List.not_mem_nil, or_false] at hv
  rcases hv with rfl | rfl | rfl | rfl | rfl | rfl | rfl | rfl | rfl | rfl | rfl | rfl | rfl | rfl | rfl | rfl | rfl | rfl | rfl | rfl | rfl <;> rfl
theorem st53 {w : World} {b : Nat} {old : Array Value} (h : Bk w b 53 old) (hs : old.size = 21) (o : Or6) (A : Option Addr) (L c : Nat) :
    (Instr.storeAt 53 (.pointer (some ⟨b, 0, none⟩)) (.agg (orC o A L c))).run Try.prog w = .ok () (w.setRow b (orC o A L c)) := by
  simp only [Instr.storeAt, Instr.sureAddr, Sem.run_bind, Sem.run_pure, Result.andThen_ok, run_storeVar_row w b 53 53 old (orC o A L c) h info53 hs (orC_one o A L c)]
theorem results_c {fn : Func} (h : fn.results = #[.cell 2 53, .tmp 3]) (tmps : Array Value) (w : World) {b : Nat} {cs : Array Value} (hp : tmps.getD 2 undef = .pointer (some ⟨b, 0, none⟩)) (hB : Bk w b 53 cs) (hs : cs.size = 21) :
    (results fn tmps).run Try.prog w = .ok (.tuple #[.agg cs, tmps.getD 3 undef]) w := by
  have hl := run_loadVar_mid (P := Try.prog) w b 0 53 cs.toList _ hB.range Try.underlying53 rfl (by simp [info53, hs])
  have hp' : tmps[2]?.getD undef = .pointer (some ⟨b, 0, none⟩) := by simpa using hp
  simp [results, h, hp', asAddr, hl]
/-- What a parse reads, its error, its answer. -/
def orQ (l : List UInt8) : Or6 × (Rs × Bool) := kRd ((rn 1 (l, 0)).1 : Int) ((rn 1 (l, 0)).2, false)
def orE' (q : Or6 × (Rs × Bool)) : Int := if q.2.1.2 ≠ 0 then q.2.1.2 else if q.2.2 = false ∧ endE q.2.1 = 0 ∧ orB q.1 = true then 0 else 4
def orE (l : List UInt8) : Int := orE' (orQ l)
def orV (l : List UInt8) : Or6 := if orE l = 0 then (orQ l).1 else or0
theorem parse_any (A : Option Addr) (N c : Nat) (l : List UInt8) (w : World) (hl : By w w.heap.size A N l) (hc : N ≤ c) :
    Calls Try.prog 38 #[.slice A N c] w fun e w' => ∃ A' L c', e = .returned (.tuple #[.agg (orC (orV l) A' L c'), .int .i64 (orE l)]) ∧ Ou w' w'.heap.size A' L (orV l).r.os ∧ L ≤ c' ∧ Below w.heap.size w w' := by
  obtain ⟨VV, hVV⟩ : ∃ x, x = orV l := ⟨_, rfl⟩
  obtain ⟨EE, hEE⟩ : ∃ x, x = orE l := ⟨_, rfl⟩
  rw [← hVV, ← hEE]
  have HV := Lib.hid hVV
  have HE := Lib.hid hEE
  clear hVV hEE
  have KR := Bk.new w 53 (orC or0 none 0 0)
  have hb := (Below.refl w.heap.size w).push (.cells (orC or0 none 0 0) 53)
  have hlw := hl.boxed (.cells (orC or0 none 0 0) 53)
  have hl0 := hl.alloc (Nat.le_refl _) (.cells (orC or0 none 0 0) 53)
  have hal := alloc53 w
  go_enter Try.func38, Try.ntmps38
  go_upto_region 1 with ((with_reducible show wpList Try.prog _ _ _ _ _); refine wpL_alloc 53 rfl rfl hal ?_)
  clear hal hlw
  have hsz1 : (w.alloc (.cells (orC or0 none 0 0) 53)).heap.size = w.heap.size + 1 := by simp
  generalize w.alloc _ = w1 at KR hb hl0 hsz1 ⊢
  have hal := alloc53 w1
  have KB := Bk.new w1 53 (orC or0 none 0 0)
  have KR := KR.alloc (.cells (orC or0 none 0 0) 53)
  have hb := hb.push (.cells (orC or0 none 0 0) 53)
  have hl0 := hl0.alloc (by omega) (.cells (orC or0 none 0 0) 53)
  go_upto_region 2 with ((with_reducible show wpList Try.prog _ _ _ _ _); refine wpL_alloc 53 rfl rfl hal ?_)
  clear hal
  have hsz2 : (w1.alloc (.cells (orC or0 none 0 0) 53)).heap.size = w.heap.size + 2 := by simp; omega
  rw [hsz1] at KB ⊢
  generalize w1.alloc _ = w2 at KR KB hb hl0 hsz2 ⊢
  have hrd := readB A N c l w2 w.heap.size hl0 hc (by omega)
  rw [hsz2] at hrd
  have hrdh := Lib.hid hrd
  clear hrd
  go_upto_region 3 with (go_at_call 69; refine hrdh.out.mono ?_; rintro e w3 ⟨rfl, hR3, hb3, hsz3⟩; have hbld : (Instr.build 112 #[(0, .pointer (some ⟨w.heap.size + 2, 0, none⟩))]).run Try.prog w3 = .ok (.agg #[.pointer (some ⟨w.heap.size + 2, 0, none⟩), .bool false]) w3 := by kernel_rfl)
  rw [← hsz2] at hb3
  have KR := KR.kept hb3
  have KB := KB.kept hb3
  have hb := hb.next hb3
  have KG := Bk.new w3 112 #[.pointer (some ⟨w.heap.size + 2, 0, none⟩), .bool false]
  have KR := KR.alloc (.cells #[.pointer (some ⟨w.heap.size + 2, 0, none⟩), .bool false] 112)
  have KB := KB.alloc (.cells #[.pointer (some ⟨w.heap.size + 2, 0, none⟩), .bool false] 112)
  have hR4 := hR3.below ((Below.refl _ w3).push (.cells #[.pointer (some ⟨w.heap.size + 2, 0, none⟩), .bool false] 112))
  have hb := hb.push (.cells #[.pointer (some ⟨w.heap.size + 2, 0, none⟩), .bool false] 112)
  have hsz4 : (w3.alloc (.cells #[.pointer (some ⟨w.heap.size + 2, 0, none⟩), .bool false] 112)).heap.size = w.heap.size + 4 := by simp; omega
  have e3 : w3.heap.size = w.heap.size + 2 + 1 := by omega
  rw [e3] at KG
  clear hb3 hR3 hrdh
  generalize w3.alloc _ = w4 at KR KB KG hR4 hb hsz4 ⊢
  have hS4 : RrS (w.heap.size + 1) w.heap.size (w.heap.size + 2 + 1) (w.heap.size + 2) w4 ((l, 0), false) := ⟨KG, hR4, by omega, by omega, by omega, by omega⟩
  have P := reader_pi' (w.heap.size + 2 + 1) (w.heap.size + 2) (w.heap.size + 1) w.heap.size
  have hfb : w.heap.size + 1 ≠ w.heap.size + 2 + 1 ∧ w.heap.size + 1 ≠ w.heap.size + 2 ∧ w.heap.size ≤ w.heap.size + 1 := by omega
  have N1 := Lib.hid (P.num 1 (w.heap.size + 1) 0 53 _ 0 ((l, 0), false) w4 (by omega) (by simp) hS4 KB rfl trivial (by decide) hfb (Nat.le_refl _))
  go_upto_region 4 with (go_at_call 78; refine N1.out.mono ?_; rintro e w5 ⟨rfl, hS5, KB5, hk5, hb5⟩)
  clear N1
  have KR := KR.below hb5 (by omega)
  have hb := hb.trans (hb5.mono (by omega))
  have KB5 : Bk w5 (w.heap.size + 1) 53 (orC ⟨((rn 1 (l, 0)).1 : Int), 0, 0, ru0, pr0⟩ none 0 0) := KB5
  have hS5 : RrS (w.heap.size + 1) w.heap.size (w.heap.size + 2 + 1) (w.heap.size + 2) w5 ((rn 1 (l, 0)).2, false) := hS5
  have hQQ : orQ l = kRd ((rn 1 (l, 0)).1 : Int) ((rn 1 (l, 0)).2, false) := rfl
  obtain ⟨k, hkk⟩ : ∃ k : Int, k = ((rn 1 (l, 0)).1 : Int) := ⟨_, rfl⟩
  rw [← hkk] at KB5 hQQ
  generalize ((rn 1 (l, 0)).2, false) = s5 at hS5 hQQ
  have HQQ := Lib.hid hQQ
  clear hQQ hkk KB KG hR4 hS4 hb5 hk5
  have c0 : w5.cell? ⟨w.heap.size + 1, 0, none⟩ = some (.int .i64 k) := KB5.cell 0
  have hlk : (Instr.lookup 105 (.map (some w5.heap.size)) (.int .i64 k) true).run Try.prog (w5.alloc (.map kindE 9)).drew = .ok (.tuple #[kindV k, .bool (kindB k)]) (w5.alloc (.map kindE 9)).drew := look_any _ _ _ (heap_alloc_new w5 _)
  go_region_held3 (fun w' => w'.cell? ⟨w.heap.size + 1, 0, none⟩ = some (.int .i64 k)) (first | exact c0 | exact (KB5.alloc _).cell 0) (first | (go_at_call 76; refine (kinds_any _).mono ?_; rintro e w7 ⟨rfl, rfl⟩))
  have KB6 := (KB5.alloc (.map kindE 9)).drew
  have KR := (KR.alloc (.map kindE 9)).drew
  have hS6 := P.dr _ _ (P.al _ _ (.map kindE 9) hS5)
  have hb := (hb.push (.map kindE 9)).drew
  clear c0 hlk KB5 hS5
  generalize (w5.alloc (.map kindE 9)).drew = w6 at KB6 KR hS6 hb ⊢
  rcases Bool.eq_false_or_eq_true (kindB k) with hk | hk
  · have h9 : 1 ≤ k ∧ k ≤ 9 := by simpa [kindB] using hk
    have KRD := kind_r (w.heap.size + 1) w.heap.size (w.heap.size + 2 + 1) (w.heap.size + 2) (w.heap.size + 1) k s5 w6 h9 hS6 KB6 hfb (Nat.le_refl _)
    rw [kindV_fn h9, hk]
    have hcf := cf_kfn h9
    generalize kfn k = F at hcf KRD ⊢
    rw [← HQQ.out] at KRD
    have KRDh := Lib.hid KRD
    clear KRD
    go_upto_region 7 with ((refine KRDh.out.mono ?_); rintro e w8 ⟨rfl, hS8, hOA, hb8⟩)
    have KR := KR.below hb8 (by omega)
    have hb := hb.trans (hb8.mono (by omega))
    clear hcf KRDh hb8 KB6 hS6
    have hEQ : orE l = orE' (orQ l) := rfl
    have hVQ : orV l = if orE l = 0 then (orQ l).1 else or0 := rfl
    generalize orQ l = Q0 at hS8 hOA hEQ hVQ
    obtain ⟨o, s⟩ := Q0
    simp only at hS8 hOA hVQ
    obtain ⟨hG8, hR8, _, _, _, _⟩ := hS8
    have g0 := hG8.two.1
    have g1 := hG8.two.2.1
    have hers := Lib.hid (fun w9 (h : w9 = w8) => err_any (w.heap.size + 2) s.1 w9 (h ▸ hR8.rds))
    have hens := Lib.hid (fun w9 (h : w9 = w8) => end_any (w.heap.size + 2) s.1 w9 (h ▸ hR8.rds))
    obtain ⟨E, hE⟩ : ∃ E, E = s.1.2 := ⟨_, rfl⟩
    obtain ⟨F, hF⟩ : ∃ F, F = endE s.1 := ⟨_, rfl⟩
    rw [← hE] at hers
    rw [← hF] at hens
    have hEo : orE' (o, s) = if E ≠ 0 then E else if s.2 = false ∧ F = 0 ∧ orB o = true then 0 else 4 := by rw [hE, hF]; rfl
    clear hE hF
    rw [hEo] at hEQ
    clear hEo
    have KR0 := KR
    have hst := st53 KR rfl or0 none 0 0
    rw [setRow_self _ _ _ _ _ KR] at hst
    have hbd := bld53 w8
    by_cases hE0 : E = 0
    · subst hE0
      simp only [ne_eq, not_true_eq_false, if_false] at hEQ
      go_upto_region 10 with (go_at_call 79; refine (hers.out _ rfl).mono ?_; rintro e w9 ⟨rfl, rfl⟩)
      obtain ⟨bo, A8, L8, c8, hB8, hO8, hLc⟩ := hOA
      have hld : (Instr.loadAt 53 (.pointer (some ⟨w.heap.size + 1, 0, none⟩))).run Try.prog w8 = .ok (.agg (orC o A8 L8 c8)) w8 := hB8.ld53 rfl
      have hck := Lib.hid (check_any o A8 L8 c8 w8 hO8.ou)
      rcases s with ⟨s, odd⟩
      simp only at g1 hEQ
      rcases odd with _ | _
      · simp only [true_and] at hEQ
        by_cases hF0 : F = 0
        · subst hF0
          simp only [true_and] at hEQ
          obtain ⟨q, hq⟩ : ∃ q, q = orB o := ⟨_, rfl⟩
          have hck := hck.out
          rw [← hq] at hEQ hck
          clear hq
          have hckh := Lib.hid hck
          clear hck
          cases q
          · simp only [Bool.false_eq_true, if_false] at hEQ
            rw [hEQ, if_neg (by decide)] at hVQ
            rw [hEQ] at HE
            rw [hVQ] at HV
            clear hEQ hVQ
            go_upto_region 11 with (first | (go_at_call 72; refine (hens.out _ rfl).mono ?_; rintro e w9 ⟨rfl, rfl⟩) | (go_at_call 49; refine hckh.out.mono ?_; rintro e w10 ⟨rfl, hb10⟩; simp only [erB, Bool.false_eq_true, if_false]) | ((with_reducible show wpList Try.prog _ _ _ _ _); refine wpL_loadG 53 (.tmp 4) _ (by rfl) rfl rfl hld ?_))
            have KR := KR.kept hb10
            have hst := st53 KR rfl or0 none 0 0
            rw [setRow_self _ _ _ _ _ KR] at hst
            have hbd := bld53 w10
            clear hld g0 g1
            go_wp2_with (first | ((with_reducible show wpList Try.prog _ _ _ _ _); refine wpL_bld0 53 rfl rfl hbd ?_) | ((with_reducible show wpList Try.prog _ _ _ _ _); refine wpL_store 53 (.tmp 2) (.tmp 54) _ _ rfl rfl rfl rfl hst ?_))
            refine bodyPost_ret (results_c rfl _ _ rfl KR rfl) rfl ?_
            refine ⟨none, 0, 0, ?_, ?_, Nat.le_refl _, hb.next hb10⟩
            · rw [HE.out, HV.out]; rfl
            · rw [HV.out]; exact Ou.empty
          · simp only [if_true] at hEQ
            rw [hEQ, if_pos rfl] at hVQ
            rw [hEQ] at HE
            rw [hVQ] at HV
            clear hEQ hVQ
            go_upto_region 12 with (first | (go_at_call 72; refine (hens.out _ rfl).mono ?_; rintro e w9 ⟨rfl, rfl⟩) | (go_at_call 49; refine hckh.out.mono ?_; rintro e w10 ⟨rfl, hb10⟩; simp only [erB, if_true]) | ((with_reducible show wpList Try.prog _ _ _ _ _); refine wpL_loadG 53 (.tmp 4) _ (by rfl) rfl rfl hld ?_))
            have KR := KR.kept hb10
            have hst := st53 KR rfl o A8 L8 c8
            have hld : (Instr.loadAt 53 (.pointer (some ⟨w.heap.size + 1, 0, none⟩))).run Try.prog w10 = .ok (.agg (orC o A8 L8 c8)) w10 := (hB8.kept hb10).ld53 rfl
            have hou : Ou (w10.setRow w.heap.size (orC o A8 L8 c8)) (w10.setRow w.heap.size (orC o A8 L8 c8)).heap.size A8 L8 o.r.os := by
              refine OBk.ou (bo := bo) ⟨hO8.len, fun h => ⟨(hO8.blk h).1, ?_⟩⟩
              obtain ⟨j, hj⟩ := (hO8.blk h).2
              refine ⟨j, ?_⟩
              have hj := hj.kept hb10
              have hne : bo ≠ w.heap.size := by
                intro e
                subst e
                unfold Bk at hj KR
                rw [KR] at hj
                injection hj with hj
                injection hj with _ hj
                exact absurd hj (by decide)
              exact (setRow_other w10 _ _ _ hne).trans hj
            have KR2 : Bk (w10.setRow w.heap.size (orC o A8 L8 c8)) w.heap.size 53 (orC o A8 L8 c8) := setRow_heap w10 _ _ _ _ _ KR
            have hbS := below_setRow (hb.next hb10) (Nat.le_refl _) (orC o A8 L8 c8)
            clear g0 g1
            go_wp2_with (first | ((with_reducible show wpList Try.prog _ _ _ _ _); refine wpL_load 53 (.tmp 4) _ rfl rfl rfl hld ?_) | ((with_reducible show wpList Try.prog _ _ _ _ _); refine wpL_store 53 (.tmp 2) (.tmp 55) _ _ rfl rfl rfl rfl hst ?_))
            refine bodyPost_ret (results_c rfl _ _ rfl KR2 rfl) rfl ?_
            refine ⟨A8, L8, c8, ?_, ?_, hLc, hbS⟩
            · rw [HE.out, HV.out]; rfl
            · rw [HV.out]; exact hou
        · rw [if_neg (by simp [hF0])] at hEQ
          rw [hEQ, if_neg (by decide)] at hVQ
          rw [hEQ] at HE
          rw [hVQ] at HV
          clear hEQ hVQ hld hck
          go_wp2_with (first | (go_at_call 72; refine (hens.out _ rfl).mono ?_; rintro e w9 ⟨rfl, rfl⟩) | ((with_reducible show wpList Try.prog _ _ _ _ _); refine wpL_bld0 53 rfl rfl hbd ?_) | ((with_reducible show wpList Try.prog _ _ _ _ _); refine wpL_store 53 (.tmp 2) (.tmp 54) _ _ rfl rfl rfl rfl hst ?_))
          refine bodyPost_ret (results_c rfl _ _ rfl KR rfl) rfl ?_
          refine ⟨none, 0, 0, ?_, ?_, Nat.le_refl _, hb⟩
          · rw [HE.out, HV.out]; rfl
          · rw [HV.out]; exact Ou.empty
      · rw [if_neg (by simp)] at hEQ
        rw [hEQ, if_neg (by decide)] at hVQ
        rw [hEQ] at HE
        rw [hVQ] at HV
        clear hEQ hVQ hld hck
        go_wp2_with (first | ((with_reducible show wpList Try.prog _ _ _ _ _); refine wpL_bld0 53 rfl rfl hbd ?_) | ((with_reducible show wpList Try.prog _ _ _ _ _); refine wpL_store 53 (.tmp 2) (.tmp 54) _ _ rfl rfl rfl rfl hst ?_))
        refine bodyPost_ret (results_c rfl _ _ rfl KR rfl) rfl ?_
        refine ⟨none, 0, 0, ?_, ?_, Nat.le_refl _, hb⟩
        · rw [HE.out, HV.out]; rfl
        · rw [HV.out]; exact Ou.empty
    · rw [if_pos hE0] at hEQ
      rw [hEQ, if_neg hE0] at hVQ
      rw [hEQ] at HE
      rw [hVQ] at HV
      clear hEQ hVQ
      go_wp2_with (first | (go_at_call 79; refine (hers.out _ rfl).mono ?_; rintro e w9 ⟨rfl, rfl⟩) | ((with_reducible show wpList Try.prog _ _ _ _ _); refine wpL_bld0 53 rfl rfl hbd ?_) | ((with_reducible show wpList Try.prog _ _ _ _ _); refine wpL_store 53 (.tmp 2) (.tmp 35) _ _ rfl rfl rfl rfl hst ?_))
      refine bodyPost_ret (results_c rfl _ _ rfl KR rfl) rfl ?_
      refine ⟨none, 0, 0, ?_, ?_, Nat.le_refl _, hb⟩
      · rw [HE.out, HV.out]; rfl
      · rw [HV.out]; exact Ou.empty
  · rw [hk]
    go_upto_region 7 with fail
    have hqq : orQ l = (⟨k, 0, 0, ru0, pr0⟩, s5) := by
      rw [HQQ.out]
      have hk' : ¬ (1 ≤ k ∧ k ≤ 9) := by simpa [kindB] using hk
      unfold kRd
      rw [if_neg (by omega), if_neg (by omega), if_neg (by omega), if_neg (by omega), if_neg (by omega), if_neg (by omega), if_neg (by omega)]
    have hOA : OrAt (w.heap.size + 1) w6 (orQ l).1 := by rw [hqq]; exact ⟨0, none, 0, 0, KB6, OBk.nil, Nat.le_refl _⟩
    have hS8 : RrS (w.heap.size + 1) w.heap.size (w.heap.size + 2 + 1) (w.heap.size + 2) w6 (orQ l).2 := by rw [hqq]; exact hS6
    clear KB6 hS6 hqq
    generalize w6 = w8 at KR hS8 hOA hb ⊢
    have hEQ : orE l = orE' (orQ l) := rfl
    have hVQ : orV l = if orE l = 0 then (orQ l).1 else or0 := rfl
    generalize orQ l = Q0 at hS8 hOA hEQ hVQ
    obtain ⟨o, s⟩ := Q0
    simp only at hS8 hOA hVQ
    obtain ⟨hG8, hR8, _, _, _, _⟩ := hS8
    have g0 := hG8.two.1
    have g1 := hG8.two.2.1
    have hers := Lib.hid (fun w9 (h : w9 = w8) => err_any (w.heap.size + 2) s.1 w9 (h ▸ hR8.rds))
    have hens := Lib.hid (fun w9 (h : w9 = w8) => end_any (w.heap.size + 2) s.1 w9 (h ▸ hR8.rds))
    obtain ⟨E, hE⟩ : ∃ E, E = s.1.2 := ⟨_, rfl⟩
    obtain ⟨F, hF⟩ : ∃ F, F = endE s.1 := ⟨_, rfl⟩
    rw [← hE] at hers
    rw [← hF] at hens
    have hEo : orE' (o, s) = if E ≠ 0 then E else if s.2 = false ∧ F = 0 ∧ orB o = true then 0 else 4 := by rw [hE, hF]; rfl
    clear hE hF
    rw [hEo] at hEQ
    clear hEo
    have KR0 := KR
    have hst := st53 KR rfl or0 none 0 0
    rw [setRow_self _ _ _ _ _ KR] at hst
    have hbd := bld53 w8
    by_cases hE0 : E = 0
    · subst hE0
      simp only [ne_eq, not_true_eq_false, if_false] at hEQ
      go_upto_region 10 with (go_at_call 79; refine (hers.out _ rfl).mono ?_; rintro e w9 ⟨rfl, rfl⟩)
      obtain ⟨bo, A8, L8, c8, hB8, hO8, hLc⟩ := hOA
      have hld : (Instr.loadAt 53 (.pointer (some ⟨w.heap.size + 1, 0, none⟩))).run Try.prog w8 = .ok (.agg (orC o A8 L8 c8)) w8 := hB8.ld53 rfl
      have hck := Lib.hid (check_any o A8 L8 c8 w8 hO8.ou)
      rcases s with ⟨s, odd⟩
      simp only at g1 hEQ
      rcases odd with _ | _
      · simp only [true_and] at hEQ
        by_cases hF0 : F = 0
        · subst hF0
          simp only [true_and] at hEQ
          obtain ⟨q, hq⟩ : ∃ q, q = orB o := ⟨_, rfl⟩
          have hck := hck.out
          rw [← hq] at hEQ hck
          clear hq
          have hckh := Lib.hid hck
          clear hck
          cases q
          · simp only [Bool.false_eq_true, if_false] at hEQ
            rw [hEQ, if_neg (by decide)] at hVQ
            rw [hEQ] at HE
            rw [hVQ] at HV
            clear hEQ hVQ
            go_upto_region 11 with (first | (go_at_call 72; refine (hens.out _ rfl).mono ?_; rintro e w9 ⟨rfl, rfl⟩) | (go_at_call 49; refine hckh.out.mono ?_; rintro e w10 ⟨rfl, hb10⟩; simp only [erB, Bool.false_eq_true, if_false]) | ((with_reducible show wpList Try.prog _ _ _ _ _); refine wpL_loadG 53 (.tmp 4) _ (by rfl) rfl rfl hld ?_))
            have KR := KR.kept hb10
            have hst := st53 KR rfl or0 none 0 0
            rw [setRow_self _ _ _ _ _ KR] at hst
            have hbd := bld53 w10
            clear hld g0 g1
            go_wp2_with (first | ((with_reducible show wpList Try.prog _ _ _ _ _); refine wpL_bld0 53 rfl rfl hbd ?_) | ((with_reducible show wpList Try.prog _ _ _ _ _); refine wpL_store 53 (.tmp 2) (.tmp 54) _ _ rfl rfl rfl rfl hst ?_))
            refine bodyPost_ret (results_c rfl _ _ rfl KR rfl) rfl ?_
            refine ⟨none, 0, 0, ?_, ?_, Nat.le_refl _, hb.next hb10⟩
            · rw [HE.out, HV.out]; rfl
            · rw [HV.out]; exact Ou.empty
          · simp only [if_true] at hEQ
            rw [hEQ, if_pos rfl] at hVQ
            rw [hEQ] at HE
            rw [hVQ] at HV
            clear hEQ hVQ
            go_upto_region 12 with (first | (go_at_call 72; refine (hens.out _ rfl).mono ?_; rintro e w9 ⟨rfl, rfl⟩) | (go_at_call 49; refine hckh.out.mono ?_; rintro e w10 ⟨rfl, hb10⟩; simp only [erB, if_true]) | ((with_reducible show wpList Try.prog _ _ _ _ _); refine wpL_loadG 53 (.tmp 4) _ (by rfl) rfl rfl hld ?_))
            have KR := KR.kept hb10
            have hst := st53 KR rfl o A8 L8 c8
            have hld : (Instr.loadAt 53 (.pointer (some ⟨w.heap.size + 1, 0, none⟩))).run Try.prog w10 = .ok (.agg (orC o A8 L8 c8)) w10 := (hB8.kept hb10).ld53 rfl
            have hou : Ou (w10.setRow w.heap.size (orC o A8 L8 c8)) (w10.setRow w.heap.size (orC o A8 L8 c8)).heap.size A8 L8 o.r.os := by
              refine OBk.ou (bo := bo) ⟨hO8.len, fun h => ⟨(hO8.blk h).1, ?_⟩⟩
              obtain ⟨j, hj⟩ := (hO8.blk h).2
              refine ⟨j, ?_⟩
              have hj := hj.kept hb10
              have hne : bo ≠ w.heap.size := by
                intro e
                subst e
                unfold Bk at hj KR
                rw [KR] at hj
                injection hj with hj
                injection hj with _ hj
                exact absurd hj (by decide)
              exact (setRow_other w10 _ _ _ hne).trans hj
            have KR2 : Bk (w10.setRow w.heap.size (orC o A8 L8 c8)) w.heap.size 53 (orC o A8 L8 c8) := setRow_heap w10 _ _ _ _ _ KR
            have hbS := below_setRow (hb.next hb10) (Nat.le_refl _) (orC o A8 L8 c8)
            clear g0 g1
            go_wp2_with (first | ((with_reducible show wpList Try.prog _ _ _ _ _); refine wpL_load 53 (.tmp 4) _ rfl rfl rfl hld ?_) | ((with_reducible show wpList Try.prog _ _ _ _ _); refine wpL_store 53 (.tmp 2) (.tmp 55) _ _ rfl rfl rfl rfl hst ?_))
            refine bodyPost_ret (results_c rfl _ _ rfl KR2 rfl) rfl ?_
            refine ⟨A8, L8, c8, ?_, ?_, hLc, hbS⟩
            · rw [HE.out, HV.out]; rfl
            · rw [HV.out]; exact hou
        · rw [if_neg (by simp [hF0])] at hEQ
          rw [hEQ, if_neg (by decide)] at hVQ
          rw [hEQ] at HE
          rw [hVQ] at HV
          clear hEQ hVQ hld hck
          go_wp2_with (first | (go_at_call 72; refine (hens.out _ rfl).mono ?_; rintro e w9 ⟨rfl, rfl⟩) | ((with_reducible show wpList Try.prog _ _ _ _ _); refine wpL_bld0 53 rfl rfl hbd ?_) | ((with_reducible show wpList Try.prog _ _ _ _ _); refine wpL_store 53 (.tmp 2) (.tmp 54) _ _ rfl rfl rfl rfl hst ?_))
          refine bodyPost_ret (results_c rfl _ _ rfl KR rfl) rfl ?_
          refine ⟨none, 0, 0, ?_, ?_, Nat.le_refl _, hb⟩
          · rw [HE.out, HV.out]; rfl
          · rw [HV.out]; exact Ou.empty
      · rw [if_neg (by simp)] at hEQ
        rw [hEQ, if_neg (by decide)] at hVQ
        rw [hEQ] at HE
        rw [hVQ] at HV
        clear hEQ hVQ hld hck
        go_wp2_with (first | ((with_reducible show wpList Try.prog _ _ _ _ _); refine wpL_bld0 53 rfl rfl hbd ?_) | ((with_reducible show wpList Try.prog _ _ _ _ _); refine wpL_store 53 (.tmp 2) (.tmp 54) _ _ rfl rfl rfl rfl hst ?_))
        refine bodyPost_ret (results_c rfl _ _ rfl KR rfl) rfl ?_
        refine ⟨none, 0, 0, ?_, ?_, Nat.le_refl _, hb⟩
        · rw [HE.out, HV.out]; rfl
        · rw [HV.out]; exact Ou.empty
    · rw [if_pos hE0] at hEQ
      rw [hEQ, if_neg hE0] at hVQ
      rw [hEQ] at HE
      rw [hVQ] at HV
      clear hEQ hVQ
      go_wp2_with (first | (go_at_call 79; refine (hers.out _ rfl).mono ?_; rintro e w9 ⟨rfl, rfl⟩) | ((with_reducible show wpList Try.prog _ _ _ _ _); refine wpL_bld0 53 rfl rfl hbd ?_) | ((with_reducible show wpList Try.prog _ _ _ _ _); refine wpL_store 53 (.tmp 2) (.tmp 35) _ _ rfl rfl rfl rfl hst ?_))
      refine bodyPost_ret (results_c rfl _ _ rfl KR rfl) rfl ?_
      refine ⟨none, 0, 0, ?_, ?_, Nat.le_refl _, hb⟩
      · rw [HE.out, HV.out]; rfl
      · rw [HV.out]; exact Ou.empty
end Go.Proofs.Ytfnnjaljnfphlaa
