/- probe.Parse: what bytes are, as a probe; and the reference's Parse and Bytes. -/
import Derived.Test.YtfnnjaljnfphlaaPby
namespace Go.Proofs.Ytfnnjaljnfphlaa
open Go.RowKit Go.Shelf
set_option maxRecDepth 100000
set_option maxHeartbeats 2000000
set_option linter.unusedSimpArgs false
set_option linter.unusedVariables false
attribute [local go_sem] Oper.semAt_some

/-- The size of a probe's number. -/
def szN (i : Fin 5) : Nat := if i.val = 4 then 2 else 1
theorem szOf_eq (i : Fin 5) : szOf i = (szN i : Int) := by unfold szOf szN; split <;> rfl
theorem szN_ok (i : Fin 5) : szN i = 1 ∨ szN i = 2 ∨ szN i = 4 := by unfold szN; split <;> simp

/-- One number is read: the cells that hold what was read, and the reader. -/
def rdStep (q : Array Value × Rs) (i : Fin 5) : Array Value × Rs := (q.1.setIfInBounds i.val (.int .i64 (rn (szN i) q.2).1), (rn (szN i) q.2).2)
def rdAll (s : Rs) (pre : List (Fin 5)) : Array Value × Rs := pre.foldl rdStep (#[.int .i64 0, .int .i64 0, .int .i64 0, .int .i64 0, .int .i64 0], s)
theorem rdAll_snoc (s : Rs) (pre : List (Fin 5)) (x : Fin 5) : rdAll s (pre ++ [x]) = rdStep (rdAll s pre) x := by simp [rdAll]
theorem rdAll_size (s : Rs) (pre : List (Fin 5)) : (rdAll s pre).1.size = 5 := by
  unfold rdAll
  generalize hq : ((#[.int .i64 0, .int .i64 0, .int .i64 0, .int .i64 0, .int .i64 0], s) : Array Value × Rs) = q
  have h5 : q.1.size = 5 := by rw [← hq]; rfl
  clear hq
  induction pre generalizing q with
  | nil => exact h5
  | cons x pre ih => exact ih _ (by simp [rdStep, h5])

/-- The five numbers, and the reader behind them. -/
def rd5 (s : Rs) : (Nat × Nat × Nat × Nat × Nat) × Rs :=
  let a := rn 1 s
  let b := rn 1 a.2
  let c := rn 1 b.2
  let d := rn 1 c.2
  let e := rn 2 d.2
  ((a.1, b.1, c.1, d.1, e.1), e.2)
theorem rdAll_five (s : Rs) : rdAll s [0, 1, 2, 3, 4] = (#[.int .i64 (rd5 s).1.1, .int .i64 (rd5 s).1.2.1, .int .i64 (rd5 s).1.2.2.1, .int .i64 (rd5 s).1.2.2.2.1, .int .i64 (rd5 s).1.2.2.2.2], (rd5 s).2) := rfl

/-- The error of Parse. -/
def ppE (l : List UInt8) : Int :=
  if (openB l).2.2 ≠ 0 then (openB l).2.2
  else
    let q := rd5 ((openB l).2.1, 0)
    if (openB l).1 = 2 ∧ endE q.2 = 0 ∧ PrOk q.1.1 q.1.2.1 q.1.2.2.1 q.1.2.2.2.1 q.1.2.2.2.2 then 0 else 4
/-- A number of the answer. -/
def ppV (l : List UInt8) (x : Nat) : Int := if ppE l = 0 then (x : Int) else 0
def ppQ (l : List UInt8) : Nat × Nat × Nat × Nat × Nat := (rd5 ((openB l).2.1, 0)).1

theorem Rd.nc {w w' : World} {B size n : Nat} {A : Option Addr} {xs : List Value} {row : Option Nat} (h : Rd w B size A n xs) (hg : w.grownBy w' row) (hr : ∀ r, row = some r → ∃ o : Obj, w.heap[r]? = some o ∧ o.isCells = false) : Rd w' B size A n xs :=
  ⟨h.1, fun hn => by
    obtain ⟨b, off, e, hb, hc⟩ := h.2 hn
    exact ⟨b, off, e, hb, fun j u hu => cell_kept (hc j u hu) hg hr⟩⟩
theorem Bk.nc {w w' : World} {g : Nat} {t : TypeId} {cs : Array Value} {row : Option Nat} (h : Bk w g t cs) (hg : w.grownBy w' row) (hr : ∀ r, row = some r → ∃ o : Obj, w.heap[r]? = some o ∧ o.isCells = false) : Bk w' g t cs :=
  h.grown hg (fun e => by obtain ⟨o, ho, hc⟩ := hr _ e.symm; unfold Bk at h; rw [h] at ho; cases ho; cases hc)
theorem RdS.nc {t : TypeId} {w w' : World} {g : Nat} {s : Rs} {row : Option Nat} (h : RdS t w g s) (hg : w.grownBy w' row) (hr : ∀ r, row = some r → ∃ o : Obj, w.heap[r]? = some o ∧ o.isCells = false) : RdS t w' g s := by
  obtain ⟨A, n, c, h1, h2, h3⟩ := h
  exact ⟨A, n, c, h1, h2.nc hg hr, Rd.nc h3 hg hr⟩
theorem Bk.some_at {w : World} {g i : Nat} {t : TypeId} {cs : Array Value} (h : Bk w g t cs) (hi : i < cs.size) : ∃ u, w.cell? ⟨g, i, none⟩ = some u := ⟨cs[i], by rw [h.cell]; exact Array.getElem?_eq_getElem hi⟩

theorem KpE.of_grown' {g : Nat} {ex : Nat → Prop} {X Y : World} (hx : ex g) (h : X.grownBy Y (some g)) : KpE ex X Y :=
  ⟨h.size, fun k c t f hk hc => (h.block k (Array.getElem?_eq_some_iff.1 hc).1 (fun e => hk (by cases e; exact hx))).trans hc⟩
/-- A store into a block that holds no bytes leaves bytes as they lie. -/
theorem By.set_nb {w : World} {B g i n : Nat} {A : Option Addr} {l : List UInt8} {t : TypeId} {cs : Array Value} (h : By w B A n l) (hb : Bk w g t cs) (hk : ∀ v ∈ cs.toList, ∀ x, v ≠ .int .u8 x) (u : Value) : By (w.setCell ⟨g, i, none⟩ u) B A n l :=
  ⟨h.1, fun hn => by
    obtain ⟨b, off, e, hlt, hc⟩ := h.2 hn
    refine ⟨b, off, e, hlt, fun j v hv => ?_⟩
    have h1 := hc j v hv
    by_cases hbg : b = g
    · subst hbg
      rw [hb.cell] at h1
      obtain ⟨c, _, rfl⟩ := List.mem_map.1 (List.mem_of_getElem? hv)
      exact absurd rfl (hk _ (by rw [← Array.getElem?_toList] at h1; exact List.mem_of_getElem? h1) _)
    · rw [World.cell?_setCell_other _ _ _ _ (fun e => hbg (by cases e; rfl))]
      exact h1⟩
theorem RdS.set_other {t T : TypeId} {w : World} {g gp : Nat} {s : Rs} {cs : Array Value} (h : RdS t w g s) (hb : Bk w gp T cs) (hk : ∀ v ∈ cs.toList, ∀ x, v ≠ .int .u8 x) (i : Nat) (u : Value) (hne : g ≠ gp) : RdS t (w.setCell ⟨gp, i, none⟩ u) g s := by
  obtain ⟨A, n, c, h1, h2, h3⟩ := h
  exact ⟨A, n, c, h1, h2.far (p := ⟨gp, i, none⟩) hne _, h3.set_nb hb hk u⟩
theorem rdAll_kind (s : Rs) (pre : List (Fin 5)) : ∀ v ∈ (rdAll s pre).1.toList, ∀ x, v ≠ .int .u8 x := by
  unfold rdAll
  generalize hq : ((#[.int .i64 0, .int .i64 0, .int .i64 0, .int .i64 0, .int .i64 0], s) : Array Value × Rs) = q
  have h5 : ∀ v ∈ q.1.toList, ∀ x, v ≠ .int .u8 x := by rw [← hq]; intro v hv x e; simp at hv; subst hv; cases e
  clear hq
  induction pre generalizing q with
  | nil => exact h5
  | cons x pre ih =>
    refine ih _ (fun v hv y e => ?_)
    simp only [rdStep, Array.toList_setIfInBounds] at hv
    rcases List.mem_or_eq_of_mem_set hv with h | h
    · exact h5 v h y e
    · subst h; cases e

/-- The end of Parse: what was stored is handed back. -/
theorem fin33 {w W wx : World} {D : Nat} {a b c d e er : Int} {u0 u1 u2 u3 u4 : Value} {tmps : Array Value} {R : Ending → World → Prop} (h2 : tmps.getD 2 undef = .pointer (some ⟨w.heap.size, 0, none⟩)) (h3 : tmps.getD 3 undef = .int .i64 er)
    {wf : World} (hwf : wf = ((((wx.setCell ⟨w.heap.size, 0, none⟩ (.int .i64 a)).setCell ⟨w.heap.size, 1, none⟩ (.int .i64 b)).setCell ⟨w.heap.size, 2, none⟩ (.int .i64 c)).setCell ⟨w.heap.size, 3, none⟩ (.int .i64 d)).setCell ⟨w.heap.size, 4, none⟩ (.int .i64 e))
    (hB : Bk wx w.heap.size 23 #[u0, u1, u2, u3, u4]) (hK : W.heap[D]? = some (.deferred (some []))) (hD : w.heap.size < D) (hW : Below w.heap.size w wx) (hx : Below W.heap.size W wx)
    (hR : ∀ w', Below w.heap.size w w' → R (.returned (.tuple #[.agg #[.int .i64 a, .int .i64 b, .int .i64 c, .int .i64 d, .int .i64 e], .int .i64 er])) w') :
    bodyPostM Fence.wide 5 Try.prog Try.f33 R .ret { tmps := tmps, defers := [{ target := .collected D, args := #[] }] } wf := by
  have hDl : D < W.heap.size := (Array.getElem?_eq_some_iff.1 hK).1
  have hB5 : Bk wf w.heap.size 23 #[.int .i64 a, .int .i64 b, .int .i64 c, .int .i64 d, .int .i64 e] := by
    rw [hwf]
    simpa using ((((hB.set_ 0 (.int .i64 a)).set_ 1 (.int .i64 b)).set_ 2 (.int .i64 c)).set_ 3 (.int .i64 d)).set_ 4 (.int .i64 e)
  have hK' : wf.heap[D]? = some (.deferred (some [])) := by
    rw [hwf, Below.heap_setCell _ _ _ _ (by simp; omega), Below.heap_setCell _ _ _ _ (by simp; omega), Below.heap_setCell _ _ _ _ (by simp; omega), Below.heap_setCell _ _ _ _ (by simp; omega), Below.heap_setCell _ _ _ _ (by simp; omega)]
    exact (hx.block D hDl).trans hK
  have hb5 : Below w.heap.size w wf := by
    rw [hwf]
    repeat (refine Below.setCell ?_ (by simp) _)
    exact hW
  have hgp := grownBy_putObj' wf D (.deferred none)
  obtain ⟨k0, k1, k2, k3, k4, _⟩ := (hB5.grown hgp (by intro e; injection e with e; omega)).five
  refine ⟨by simp, .inl ⟨_, _, rfl, run_takeDeferred hK', ?_⟩⟩
  refine ⟨_, ?_, hR _ (hb5.grown hgp hb5.size (fun k e => by cases e; omega))⟩
  simp only [Array.getD_eq_getD_getElem?] at h2 h3
  simp [results, Try.results33, go_sem, h2, h3, k0, k1, k2, k3, k4]

theorem pparse_any (A : Option Addr) (N c : Nat) (l : List UInt8) (w : World) (hl : By w w.heap.size A N l) (hc : N ≤ c) :
    Calls Try.prog 33 #[.slice A N c] w fun e w' =>
      e = .returned (.tuple #[.agg #[.int .i64 (ppV l (ppQ l).1), .int .i64 (ppV l (ppQ l).2.1), .int .i64 (ppV l (ppQ l).2.2.1), .int .i64 (ppV l (ppQ l).2.2.2.1), .int .i64 (ppV l (ppQ l).2.2.2.2)], .int .i64 (ppE l)]) ∧ Below w.heap.size w w' := by
  obtain ⟨k, body, er, ho⟩ : ∃ k body er, openB l = (k, body, er) := ⟨_, _, _, rfl⟩
  have hl0 := hl.boxed (.cells #[.int .i64 0, .int .i64 0, .int .i64 0, .int .i64 0, .int .i64 0] 23)
  have hop := open_any A N c l _ hl0 hc
  rw [ho] at hop
  have HO := Lib.hid hop
  clear hop
  by_cases he : er = 0
  · subst he
    refine (callsIn_wide (n := 5)).1 ?_
    refine callsIn_of_wp_marks Try.func33 rfl trivial ?_ rfl
    simp only [Try.ntmps33, List.size_toArray, List.length_cons, List.length_nil, Nat.reduceAdd, Nat.reduceSub, Array.replicate_succ, Array.replicate_zero, List.push_toArray, List.append_toArray, List.nil_append, List.cons_append]
    gi_wp2_with (first | (refine ⟨trivial, ?_⟩; gi_at_call 68; refine (callsIn_wide.2 HO.out).mono ?_; rintro e w1 ⟨A1, N1, c1, rfl, hO1, hb1⟩; have hBp := (Bk.new w 23 _).kept hb1; obtain ⟨d0, d1, d2, d3, d4, f0⟩ := hBp.five) | (refine ⟨trivial, ?_⟩; gi_at_call 69; refine (callsIn_wide.2 (read_any _ _ _ _ _ hO1.by_ hO1.cap)).mono ?_; rintro e w2 ⟨rfl, hR2, hb2, hz2⟩) | (refine ⟨trivial, ?_⟩; gi_at_call 70; refine (callsIn_wide.2 (numbers_any _ _)).mono ?_; rintro e w3 ⟨rfl, rfl⟩))
    have hw1 : w.heap.size + 1 ≤ w1.heap.size := by have := hb1.size; simpa using this
    have hB1 : Below w.heap.size w w1 := Below.new _ hb1
    have hB2 : Below w.heap.size w w2 := hB1.trans (hb2.mono hB1.size)
    refine wpIn_rangeFunc_ownG rfl (by omega) (gf := 110) (lb := #[.pointer (some ⟨w1.heap.size + 1 + 1, 0, none⟩)]) rfl trivial (enters_of Try.func110 (by kernel_rfl) rfl)
      (numbers1_in 4 (by omega) (fun q => q = w.heap.size ∨ q = w1.heap.size) (w1.heap.size + 1 + 1) w.heap.size _ (fun q h => by simp; omega) (by omega) (by have := Bk.new (w2.alloc (.cells #[.pointer (some ⟨w1.heap.size, 0, none⟩)] 90)) 95 #[.pointer (some ⟨w.heap.size, 0, none⟩)]; rwa [World.size_alloc, hz2] at this)) KpE.tr (fun W l o o' => KpE.bk W l o o') (Below.refl _ _) (fun _ => rfl)
      (fun pre W => Bk W w.heap.size 23 (rdAll (body, 0) pre).1 ∧ RdS 130 W w1.heap.size (rdAll (body, 0) pre).2 ∧ Bk W (w1.heap.size + 1) 90 #[.pointer (some ⟨w1.heap.size, 0, none⟩)] ∧ Below w.heap.size w W)
      (fun _ _ _ => False)
      ?hI (fun _ _ _ _ _ hs _ _ => hs)
      ?h0
      (fun x => { tmps := #[.slice A N c, undef, .pointer (some ⟨w.heap.size, 0, none⟩), .int .i64 0, .int .i64 k, .slice A1 N1 c1, .pointer (some ⟨w1.heap.size + 1, 0, none⟩), .pointer (some ⟨w.heap.size, x.val, none⟩), .int .i64 (szOf x), .tuple #[.int .i64 k, .slice A1 N1 c1, .int .i64 0], .slice A N c, .tuple #[.int .i64 k, .slice A1 N1 c1, .int .i64 0], .int .i64 k, .slice A1 N1 c1, .int .i64 0, .int .i64 0, .bool false, undef, undef, .slice A1 N1 c1, .pointer (some ⟨w1.heap.size, 0, none⟩), .func (.func 110) #[] #[.pointer (some ⟨w1.heap.size + 1 + 1, 0, none⟩)], .pointer (some ⟨w.heap.size, x.val, none⟩), .int .i64 (szOf x), undef, undef, undef, undef, undef, undef, undef, undef, undef, undef, undef, undef, undef, undef, undef, undef, undef, undef, undef], defers := [] }) ?assign ?body ?done ?stop
    case assign =>
      intro l x W K hK
      gi_wp2
      exact hK
    case stop =>
      rintro D c pre W _ _ h _
      exact h.elim
    case hI =>
      refine OwnFrom.and ?_ (OwnFrom.and ?_ (OwnFrom.and ?_ (ownFrom_below (Nat.le_refl _) (by simp; omega))))
      · exact fun s A B row h1 hg hr => h1.nc hg (fun r e => (hr r e).2)
      · exact fun s A B row h1 hg hr => h1.nc hg (fun r e => (hr r e).2)
      · exact fun s A B row h1 hg hr => h1.nc hg (fun r e => (hr r e).2)
    case h0 =>
      refine ⟨((hBp.kept hb2).alloc _).alloc _, (hR2.below ((Below.refl _ _).alloc (Nat.le_refl _) _)).below ((Below.refl _ _).alloc (Nat.le_refl _) _), ?_, (hB2.alloc hB2.size _).alloc (by simp; omega) _⟩
      have := (Bk.new w2 90 #[.pointer (some ⟨w1.heap.size, 0, none⟩)]).alloc (.cells #[.pointer (some ⟨w.heap.size, 0, none⟩)] 95)
      rwa [hz2] at this
    case body =>
      rintro l pre x W ⟨hP, hR, hG, hW⟩ hlen
      have e0 := hG.one.1
      rw [szOf_eq]
      have HZ := Lib.hid (szN_ok x)
      obtain ⟨z, hz⟩ : ∃ z, szN x = z := ⟨_, rfl⟩
      rw [hz] at HZ ⊢
      have Hz := Lib.hid hz
      clear hz
      obtain ⟨q, hq⟩ : ∃ q, rdAll (body, 0) pre = q := ⟨_, rfl⟩
      rw [hq] at hP hR
      have hq5 : q.1.size = 5 := by rw [← hq]; exact rdAll_size _ _
      have Hq := Lib.hid hq
      have Hq5 := Lib.hid hq5
      clear hq hq5
      gi_wp2_with (first | (refine ⟨trivial, ?_⟩; gi_at_call 71; refine (CallsIn.inRound l (callsIn_wide.2 (num_any _ z q.2 _ hR HZ.out))).mono ?_; rintro e w5 ⟨rfl, hs5, hg5⟩; have hP5 := hP.grown hg5 (by intro e; injection e with e; omega); obtain ⟨u5, hu5⟩ := hP5.some_at (i := x.val) (by rw [Hq5.out]; exact x.isLt); have hf5 := hP5.frozen))
      have hgs := grown_set w5 w.heap.size x.val (.int .i64 ((rn z q.2).1 : Int))
      refine ⟨(KeepsFrom.of_grownBy hg5 (fun j e => by cases e; simp; omega)).trans (KeepsFrom.of_grownBy hgs (fun j e => by cases e; simp; omega)), (KpE.of_grown' (.inr rfl) hg5).tr (KpE.of_grown' (.inl rfl) hgs), ?_⟩
      dsimp only
      rw [rdAll_snoc, Hq.out, rdStep, Hz.out]
      refine ⟨hP5.set_ _ _, hs5.set_other hP5 (fun v hv => by have := rdAll_kind (body, 0) pre; rw [Hq.out] at this; exact this v hv) _ _ (by omega), (hG.grown hg5 (by intro e; injection e with e; omega)).far (p := ⟨w.heap.size, x.val, none⟩) (by simp; omega) _, ?_⟩
      exact (below_of_grown hW hg5 hW.size (by omega)).setCell (by simp) _
    case done =>
      rintro D xs W hD rfl ⟨hP, hR, hG, hW⟩ hK
      rw [rdAll_five] at hP hR
      simp only at hP hR
      have HQ := Lib.hid (show ppQ l = (rd5 (body, 0)).1 by unfold ppQ; rw [ho])
      obtain ⟨qq, hqq⟩ : ∃ q, rd5 (body, 0) = q := ⟨_, rfl⟩
      obtain ⟨⟨qf, qfp, qt, qtp, qn⟩, st⟩ := qq
      rw [hqq] at hP hR HQ
      simp only at hP hR HQ
      obtain ⟨d0, d1, d2, d3, d4, f0⟩ := hP.five
      have g0 := hG.one.1
      have HE := Lib.hid (show ppE l = if k = 2 ∧ endE st = 0 ∧ PrOk qf qfp qt qtp qn then 0 else 4 by unfold ppE; rw [ho]; simp only [ne_eq, not_true, if_false]; rw [hqq])
      have Hho := Lib.hid ho
      clear hqq ho
      by_cases hk : k = 2
      · by_cases hend : endE st = 0
        · by_cases hok : PrOk qf qfp qt qtp qn
          · have HE2 := Lib.hid (show ppE l = 0 by rw [HE.out, if_pos ⟨hk, hend, hok⟩])
            have HV := Lib.hid (show ∀ x : Nat, ppV l x = x by intro x; rw [ppV, HE2.out, if_pos rfl])
            have hpr := prE_ok hok
            have hk2 : (k != 2) = false := by simp [hk]
            clear hok hk
            gi_wp2_with (first | (refine ⟨trivial, ?_⟩; gi_at_call 72; refine (callsIn_wide.2 (end_any _ _ _ hR)).mono ?_; rintro e w5 ⟨rfl, rfl⟩) | (refine ⟨trivial, ?_⟩; gi_at_call 23; refine (callsIn_wide.2 (pcheck_any _ _ _ _ _ _)).mono ?_; rintro e w6 ⟨rfl, hb6⟩; obtain ⟨h0, h1, h2, h3, h4, h5⟩ := (hP.kept hb6).five) | (refine ⟨trivial, ?_⟩))
            exact fin33 (w := w) (by rfl) (by rfl) (by rfl) (hP.kept hb6) hK (by simp at hD; omega) (hW.trans (hb6.mono hW.size)) hb6 (fun w' hw' => ⟨by simp only [HV.out, HQ.out, HE2.out], hw'⟩)
          · have HE2 := Lib.hid (show ppE l = 4 by rw [HE.out, if_neg (fun h => hok h.2.2)])
            have HV := Lib.hid (show ∀ x : Nat, ppV l x = 0 by intro x; rw [ppV, HE2.out]; rfl)
            have hpr := prE_no hok
            have hk2 : (k != 2) = false := by simp [hk]
            clear hok hk
            gi_wp2_with (first | (refine ⟨trivial, ?_⟩; gi_at_call 72; refine (callsIn_wide.2 (end_any _ _ _ hR)).mono ?_; rintro e w5 ⟨rfl, rfl⟩) | (refine ⟨trivial, ?_⟩; gi_at_call 23; refine (callsIn_wide.2 (pcheck_any _ _ _ _ _ _)).mono ?_; rintro e w6 ⟨rfl, hb6⟩; obtain ⟨h0, h1, h2, h3, h4, h5⟩ := (hP.kept hb6).five) | (refine ⟨trivial, ?_⟩))
            exact fin33 (w := w) (by rfl) (by rfl) (by rfl) (hP.kept hb6) hK (by simp at hD; omega) (hW.trans (hb6.mono hW.size)) hb6 (fun w' hw' => ⟨by simp only [HV.out, HQ.out, HE2.out], hw'⟩)
        · have HE2 := Lib.hid (show ppE l = 4 by rw [HE.out, if_neg (fun h => hend h.2.1)])
          have HV := Lib.hid (show ∀ x : Nat, ppV l x = 0 by intro x; rw [ppV, HE2.out]; rfl)
          have hk2 : (k != 2) = false := by simp [hk]
          have he2 : (endE st != 0) = true := by simpa using hend
          clear hend hk
          gi_wp2_with (first | (refine ⟨trivial, ?_⟩; gi_at_call 72; refine (callsIn_wide.2 (end_any _ _ _ hR)).mono ?_; rintro e w5 ⟨rfl, rfl⟩) | (refine ⟨trivial, ?_⟩; gi_at_call 23; refine (callsIn_wide.2 (pcheck_any _ _ _ _ _ _)).mono ?_; rintro e w6 ⟨rfl, hb6⟩; obtain ⟨h0, h1, h2, h3, h4, h5⟩ := (hP.kept hb6).five) | (refine ⟨trivial, ?_⟩))
          exact fin33 (w := w) (by rfl) (by rfl) (by rfl) (hP.kept (Below.refl W.heap.size W)) hK (by simp at hD; omega) (hW.trans ((Below.refl W.heap.size W).mono hW.size)) (Below.refl W.heap.size W) (fun w' hw' => ⟨by simp only [HV.out, HQ.out, HE2.out], hw'⟩)
      · have HE2 := Lib.hid (show ppE l = 4 by rw [HE.out, if_neg (fun h => hk h.1)])
        have HV := Lib.hid (show ∀ x : Nat, ppV l x = 0 by intro x; rw [ppV, HE2.out]; rfl)
        have hk2 : (k != 2) = true := by simpa using hk
        clear hk
        gi_wp2_with (first | (refine ⟨trivial, ?_⟩; gi_at_call 72; refine (callsIn_wide.2 (end_any _ _ _ hR)).mono ?_; rintro e w5 ⟨rfl, rfl⟩) | (refine ⟨trivial, ?_⟩; gi_at_call 23; refine (callsIn_wide.2 (pcheck_any _ _ _ _ _ _)).mono ?_; rintro e w6 ⟨rfl, hb6⟩; obtain ⟨h0, h1, h2, h3, h4, h5⟩ := (hP.kept hb6).five) | (refine ⟨trivial, ?_⟩))
        exact fin33 (w := w) (by rfl) (by rfl) (by rfl) (hP.kept (Below.refl W.heap.size W)) hK (by simp at hD; omega) (hW.trans ((Below.refl W.heap.size W).mono hW.size)) (Below.refl W.heap.size W) (fun w' hw' => ⟨by simp only [HV.out, HQ.out, HE2.out], hw'⟩)
  · have H0 := Lib.hid (show ppE l = er by unfold ppE; rw [ho]; exact if_pos he)
    have he2 : (er != 0) = true := by simpa using he
    have HE := Lib.hid he
    clear he
    go_enter Try.func33, Try.ntmps33
    go_wp2_with (first | (go_at_call 68; refine HO.out.mono ?_; rintro e w1 ⟨A1, N1, c1, rfl, hO1, hb1⟩; obtain ⟨d0, d1, d2, d3, d4, f0⟩ := ((Bk.new w 23 _).kept hb1).five))
    refine bodyPost_ret (v := .tuple #[.agg #[.int .i64 0, .int .i64 0, .int .i64 0, .int .i64 0, .int .i64 0], .int .i64 er]) (by simp [results, Try.results33, go_sem, d0, d1, d2, d3, d4]) rfl ⟨?_, ?_⟩
    · have hV : ∀ x, ppV l x = 0 := fun x => by rw [ppV, if_neg (by rw [H0.out]; exact HE.out)]
      simp only [hV, H0.out]
    · repeat (refine Below.setCell ?_ (by simp) _)
      exact Below.new _ hb1
end Go.Proofs.Ytfnnjaljnfphlaa
