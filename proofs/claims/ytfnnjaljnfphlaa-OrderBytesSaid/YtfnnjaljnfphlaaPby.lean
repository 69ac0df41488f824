/- probe.Bytes: of a probe that may be its bytes; of another one none. -/
import Derived.Test.YtfnnjaljnfphlaaRnd
namespace Go.Proofs.Ytfnnjaljnfphlaa
open Go.RowKit Go.Shelf
set_option maxRecDepth 100000
set_option maxHeartbeats 1000000
set_option linter.unusedSimpArgs false
set_option linter.unusedVariables false
attribute [local go_sem] Oper.semAt_some

def bodyOf (f fp t tp n : Int) (i : Fin 5) : List UInt8 := if i.val = 0 then be 1 f.toNat else if i.val = 1 then be 1 fp.toNat else if i.val = 2 then be 1 t.toNat else if i.val = 3 then be 1 tp.toNat else be 2 n.toNat

def valOf (f fp t tp n : Int) (i : Fin 5) : Int := if i.val = 0 then f else if i.val = 1 then fp else if i.val = 2 then t else if i.val = 3 then tp else n
theorem cell_of_pr {W : World} {g : Nat} {f fp t tp n : Int} (h : Bk W g 23 #[.int .i64 f, .int .i64 fp, .int .i64 t, .int .i64 tp, .int .i64 n]) (x : Fin 5) : W.cell? ⟨g, x.val, none⟩ = some (.int .i64 (valOf f fp t tp n x)) := by
  rw [h.cell]
  match x with
  | 0 => rfl
  | 1 => rfl
  | 2 => rfl
  | 3 => rfl
  | 4 => rfl
theorem body_len (f fp t tp n : Int) (pre : List (Fin 5)) : (pre.flatMap (bodyOf f fp t tp n)).length ≤ 2 * pre.length := by
  induction pre with
  | nil => simp
  | cons x pre ih =>
    have : (bodyOf f fp t tp n x).length ≤ 2 := by
      unfold bodyOf
      repeat' split
      all_goals simp [be_len]
    simp only [List.flatMap_cons, List.length_append, List.length_cons]
    omega
theorem sz_ok {x : Fin 5} {z : Nat} (h : szOf x = z) : z = 1 ∨ z = 2 ∨ z = 4 := by
  unfold szOf at h
  split at h <;> omega
theorem val_ok {f fp t tp n v : Int} {x : Fin 5} {z : Nat} (hp : PrOk f fp t tp n) (h : szOf x = z) (hv : valOf f fp t tp n x = v) : 0 ≤ v ∧ v < ((256 ^ z : Nat) : Int) := by
  unfold PrOk at hp
  match x with
  | 0 => obtain rfl : z = 1 := by simp [szOf] at h; omega
         simp [valOf] at hv; omega
  | 1 => obtain rfl : z = 1 := by simp [szOf] at h; omega
         simp [valOf] at hv; omega
  | 2 => obtain rfl : z = 1 := by simp [szOf] at h; omega
         simp [valOf] at hv; omega
  | 3 => obtain rfl : z = 1 := by simp [szOf] at h; omega
         simp [valOf] at hv; omega
  | 4 => obtain rfl : z = 2 := by simp [szOf] at h; omega
         simp [valOf] at hv; omega
theorem body_be (f fp t tp n : Int) {v : Int} {x : Fin 5} {z : Nat} (h : szOf x = z) (hv : valOf f fp t tp n x = v) : be z v.toNat = bodyOf f fp t tp n x := by
  subst hv
  match x with
  | 0 => obtain rfl : z = 1 := by simp [szOf] at h; omega
         rfl
  | 1 => obtain rfl : z = 1 := by simp [szOf] at h; omega
         rfl
  | 2 => obtain rfl : z = 1 := by simp [szOf] at h; omega
         rfl
  | 3 => obtain rfl : z = 1 := by simp [szOf] at h; omega
         rfl
  | 4 => obtain rfl : z = 2 := by simp [szOf] at h; omega
         rfl
theorem own_kept_nc {w w' : World} {base : Nat} {e : TypeId} {size n : Nat} {v : Value} {xs : List Value} {row : Option Nat} (h : w.ownsRow base e size v n xs) (hg : w.grownBy w' row)
    (hr : ∀ r, row = some r → ∃ o : Obj, w.heap[r]? = some o ∧ o.isCells = false) : w'.ownsRow base e size v n xs := by
  refine h.kept hg ?_
  rcases h.2 with ⟨rfl, _⟩ | ⟨g, cap, cur, rfl, _, hh, _⟩
  · exact .inl rfl
  · right
    intro he
    obtain ⟨o, ho, hc⟩ := hr g he.symm
    rw [hh] at ho
    cases ho
    cases hc
theorem KpE.of_grown {g : Nat} {X Y : World} (h : X.grownBy Y (some g)) : KpE (fun k => k = g) X Y :=
  ⟨h.size, fun k c t f hk hc => (h.block k (Array.getElem?_eq_some_iff.1 hc).1 (fun e => hk (by cases e; rfl))).trans hc⟩
theorem pbytes_ok (f fp t tp n : Int) (w : World) (hp : PrOk f fp t tp n) :
    Calls Try.prog 34 #[.agg #[.int .i64 f, .int .i64 fp, .int .i64 t, .int .i64 tp, .int .i64 n]] w fun e w' => ∃ A N c, e = .returned (.tuple #[.slice A N c, .int .i64 0]) ∧
      OwnB w' w.heap.size A N c (sealB 2 (([0, 1, 2, 3, 4] : List (Fin 5)).flatMap (bodyOf f fp t tp n))) ∧ Below w.heap.size w w' := by
  have hpe := prE_ok hp
  refine (callsIn_wide (n := 5)).1 ?_
  refine callsIn_of_wp_marks Try.func34 rfl trivial ?_ rfl
  simp only [Try.ntmps34, List.size_toArray, List.length_cons, List.length_nil, Nat.reduceAdd, Nat.reduceSub, Array.replicate_succ, Array.replicate_zero, List.push_toArray, List.append_toArray, List.nil_append, List.cons_append]
  gi_wp2_with (first | (refine ⟨trivial, ?_⟩; gi_at_call 23; refine (callsIn_wide.2 (pcheck_any _ _ _ _ _ _)).mono ?_; rintro e w1 ⟨rfl, hb1⟩; have hBp := ((Bk.new w 23 #[.int .i64 f, .int .i64 fp, .int .i64 t, .int .i64 tp, .int .i64 n]).alloc (.cells #[.slice none 0 0] 32)).kept hb1; have hBb := (Bk.new (w.alloc (.cells #[.int .i64 f, .int .i64 fp, .int .i64 t, .int .i64 tp, .int .i64 n] 23)) 32 #[.slice none 0 0]).kept hb1; rw [World.size_alloc] at hBb) | (refine ⟨trivial, ?_⟩; gi_at_call 70; refine (callsIn_wide.2 (numbers_any _ _)).mono ?_; rintro e w2 ⟨rfl, rfl⟩))
  have hszw : w.heap.size + 2 ≤ w1.heap.size := by have := hb1.size; simp at this; omega
  refine wpIn_rangeFunc_ownG rfl (by omega) (gf := 110) (lb := #[.pointer (some ⟨w1.heap.size, 0, none⟩)]) rfl trivial (enters_of Try.func110 (by kernel_rfl) rfl)
    (numbers1_in 4 (by omega) (fun k => k = w.heap.size + 1) w1.heap.size w.heap.size _ (fun k h => by simp; omega) (by omega) (Bk.new w1 95 _)) KpE.tr (fun W l o o' => KpE.bk W l o o') (Below.refl _ _) (fun _ => rfl)
    (fun pre W => (∃ A N c, Bk W (w.heap.size + 1) 32 #[.slice A N c] ∧ OwnB W (w.heap.size + 2) A N c (pre.flatMap (bodyOf f fp t tp n))) ∧ Bk W w.heap.size 23 #[.int .i64 f, .int .i64 fp, .int .i64 t, .int .i64 tp, .int .i64 n] ∧ Below w.heap.size w W)
    (fun _ _ _ => False)
    ?hI (fun _ _ _ _ _ hs _ _ => hs)
    ?h0
    (fun x => { tmps := #[.agg #[.int .i64 f, .int .i64 fp, .int .i64 t, .int .i64 tp, .int .i64 n], .pointer (some ⟨w.heap.size, 0, none⟩), .pointer (some ⟨w.heap.size + 1, 0, none⟩), .int .i64 0, .int .i64 0, .pointer (some ⟨w.heap.size, x.val, none⟩), .int .i64 (szOf x), .agg #[.int .i64 f, .int .i64 fp, .int .i64 t, .int .i64 tp, .int .i64 n], .int .i64 0, .int .i64 0, .bool false, undef, .func (.func 110) #[] #[.pointer (some ⟨w1.heap.size, 0, none⟩)], .pointer (some ⟨w.heap.size, x.val, none⟩), .int .i64 (szOf x), undef, undef, undef, undef, undef, undef, undef, undef, undef, undef, undef, undef, undef, undef], defers := [] }) ?assign ?body ?done ?stop
  case assign =>
    intro l x W K hK
    gi_wp2
    exact hK
  case stop =>
    rintro D c pre W _ _ h _
    exact h.elim
  case hI =>
    refine OwnFrom.and ?_ (OwnFrom.and ?_ (ownFrom_below (Nat.le_refl _) (by simp; omega)))
    · rintro s A B row ⟨A', N, c, h1, h2⟩ hg hr
      exact ⟨A', N, c, h1.grown hg (fun e => by obtain ⟨_, o, ho, hc⟩ := hr _ e.symm; unfold Bk at h1; rw [h1] at ho; cases ho; cases hc), own_kept_nc h2 hg (fun r e => (hr r e).2)⟩
    · intro s A B row h1 hg hr
      exact h1.grown hg (fun e => by obtain ⟨_, o, ho, hc⟩ := hr _ e.symm; unfold Bk at h1; rw [h1] at ho; cases ho; cases hc)
  case h0 =>
    exact ⟨⟨none, 0, 0, hBb.alloc _, World.ownsRow_nil _ _ _ _⟩, hBp.alloc _, (Below.new _ (Below.new _ hb1)).alloc (by omega) _⟩
  case body =>
    rintro l pre x W ⟨⟨A, N, c, hB, hO⟩, hP, hW⟩ hlen
    have d0 := hB.one.1
    have d1 := hB.one.2
    have hN : N ≤ 1000 := by have := hO.len; have := body_len f fp t tp n pre; omega
    obtain ⟨v, hc, hv⟩ : ∃ v, W.cell? ⟨w.heap.size, x.val, none⟩ = some (.int .i64 v) ∧ Hid (valOf f fp t tp n x = v) := ⟨_, cell_of_pr hP x, rfl⟩
    have hmx : Try.prog.follows .mixedOrders = true := by kernel_rfl
    obtain ⟨z, hz⟩ : ∃ z : Nat, szOf x = z := ⟨(szOf x).toNat, by unfold szOf; split <;> rfl⟩
    rw [hz]
    have HZ := Lib.hid (sz_ok hz)
    have HV := Lib.hid (val_ok hp hz hv.out)
    have HE := Lib.hid (body_be f fp t tp n hz hv.out)
    clear hz
    have hz2 := hO.by_.boxed (.cells #[.int .i64 v] 3)
    have n0 := World.new_ne W _ d0
    have n1 := World.new_ne W _ hc
    gi_wp2
    refine region_round (S := fun w' => w'.cell? ⟨w.heap.size, x.val, none⟩ = some (.int .i64 v)) (by kernel_rfl) (noDef_spec (by kernel_rfl)) ?hq ?_
    case hq =>
      rintro ⟨_, _, h⟩
      exact h
    have hS : W.drew.cell? ⟨w.heap.size, x.val, none⟩ = some (.int .i64 v) := hc
    have hca : (W.alloc (.cells #[.int .i64 v] 3)).cell? ⟨w.heap.size, x.val, none⟩ = some (.int .i64 v) := (World.cell?_alloc_lt W _ _ (by have := hP.lt; omega)).trans hc
    have hcb : (W.alloc (.cells #[.int .i64 v] 3)).cell? ⟨w.heap.size + 1, 0, none⟩ = some (.slice A N c) := (World.cell?_alloc_lt W _ _ (by have := hB.lt; omega)).trans d0
    refine wpAnyH_take (i := 1) (v := .int .i64 (z : Int)) rfl (by kernel_rfl) (by kernel_rfl) (by kernel_rfl) (fun _ _ _ h => h) (Or.inl ⟨by rfl, fun w hw => by (go_simp)⟩) hS ?_
    try simp only [Act.put, List.setIfInBounds_toArray, List.set_cons_zero, List.set_cons_succ]
    refine wpAnyH_take (i := 2) (v := .pointer (some ⟨w.heap.size, x.val, none⟩)) rfl (by kernel_rfl) (by kernel_rfl) (by kernel_rfl) (fun _ _ _ h => h) (Or.inl ⟨by rfl, fun w hw => by (go_simp)⟩) hS ?_
    try simp only [Act.put, List.setIfInBounds_toArray, List.set_cons_zero, List.set_cons_succ]
    refine wpAnyH_take (i := 3) (v := .pointer (some ⟨w.heap.size, x.val, none⟩)) rfl (by kernel_rfl) (by kernel_rfl) (by kernel_rfl) (fun _ _ _ h => h) (Or.inl ⟨by rfl, fun w hw => by (go_simp)⟩) hS ?_
    try simp only [Act.put, List.setIfInBounds_toArray, List.set_cons_zero, List.set_cons_succ]
    refine wpAnyH_take (i := 4) (v := .int .i64 v) rfl (by kernel_rfl) (by kernel_rfl) (by kernel_rfl) (fun _ _ _ h => h) (Or.inl ⟨by rfl, fun w hw => by (go_simp)⟩) hS ?_
    try simp only [Act.put, List.setIfInBounds_toArray, List.set_cons_zero, List.set_cons_succ]
    refine wpAnyH_ready (rs := [0, 5]) (by kernel_rfl) (by simp) ?_
    refine AllReadyH.cons rfl (fun K hK => ?_) (AllReadyH.cons rfl (fun K hK => ?_) AllReadyH.nil)
    · go_simp
      refine hK.out _ _ hS (fun hS => ?_)
      clear hK K
      try simp only [Act.put, List.setIfInBounds_toArray, List.set_cons_zero, List.set_cons_succ]
      refine wpAnyH_ready (rs := [5]) (by kernel_rfl) (by simp) ?_
      refine AllReadyH.cons rfl (fun K hK => ?_) AllReadyH.nil
      go_simp
      refine hK.out _ _ hca (fun hS => ?_)
      clear hK K
      try simp only [Act.put, List.setIfInBounds_toArray, List.set_cons_zero, List.set_cons_succ]
      refine wpAnyH_ready (rs := [6]) (by kernel_rfl) (by simp) ?_
      refine AllReadyH.cons rfl (fun K hK => ?_) AllReadyH.nil
      go_simp
      refine (put1 A _ N _ _ z (pre.flatMap (bodyOf f fp t tp n)) v _ (by exact hz2) (by exact In.box W v) HZ.out (by omega) HV.out).mono ?_
      rintro e w3 ⟨A3, N3, c3, rfl, hO3, hb3⟩
      have hb4 : Below W.heap.size W w3 := Below.new _ (undrew hb3)
      have hB3 : Bk w3 (w.heap.size + 1) 32 #[.slice A N c] := hB.kept hb4
      have hP3 := hP.kept hb4
      have d3 := hB3.one.1
      have f3 := hB3.one.2
      have hS3 : w3.cell? ⟨w.heap.size, x.val, none⟩ = some (.int .i64 v) := by rw [cell_of_pr hP3 x, hv.out]
      refine hK.out _ _ hS3 (fun hS => ?_)
      clear hK K
      try simp only [Act.put, List.setIfInBounds_toArray, List.set_cons_zero, List.set_cons_succ]
      refine wpAnyH_take (i := 7) (v := .tuple #[.slice A3 N3 c3, .int .i64 0]) rfl (by kernel_rfl) (by kernel_rfl) (by kernel_rfl) (fun _ _ _ h => h) (Or.inl ⟨by rfl, fun w hw => by (go_simp)⟩) hS ?_
      try simp only [Act.put, List.setIfInBounds_toArray, List.set_cons_zero, List.set_cons_succ]
      refine wpAnyH_take (i := 8) (v := .slice A3 N3 c3) rfl (by kernel_rfl) (by kernel_rfl) (by kernel_rfl) (fun _ _ _ h => h) (Or.inl ⟨by rfl, fun w hw => by (go_simp)⟩) hS ?_
      try simp only [Act.put, List.setIfInBounds_toArray, List.set_cons_zero, List.set_cons_succ]
      refine wpAnyH_take (i := 9) (v := .int .i64 0) rfl (by kernel_rfl) (by kernel_rfl) (by kernel_rfl) (fun _ _ _ h => h) (Or.inl ⟨by rfl, fun w hw => by (go_simp)⟩) hS ?_
      try simp only [Act.put, List.setIfInBounds_toArray, List.set_cons_zero, List.set_cons_succ]
      refine wpAnyH_ready (rs := [10]) (by kernel_rfl) (by simp) ?_
      refine AllReadyH.cons rfl (fun K hK => ?_) AllReadyH.nil
      go_simp
      refine hK.out _ _ (hP3.far (p := ⟨w.heap.size + 1, 0, none⟩) (by simp) _ |> fun h => (by rw [cell_of_pr h x, hv.out])) (fun hS => ?_)
      clear hK K
      refine wpAnyH_done (by kernel_rfl) ?_ _
      have hg : W.grownBy (w3.setCell ⟨w.heap.size + 1, 0, none⟩ (.slice A3 N3 c3)) (some (w.heap.size + 1)) := grown_tr (grown_of_below hb4 _) (grown_set _ _ _ _)
      refine ⟨KeepsFrom.of_grownBy hg (fun j e => by cases e; simp; omega), KpE.of_grown hg, ⟨A3, N3, c3, by simpa using hB3.set_ 0 (.slice A3 N3 c3), ?_⟩, hP3.far (p := ⟨w.heap.size + 1, 0, none⟩) (by simp) _, below_of_grown hW hg hW.size (by omega)⟩
      rw [List.flatMap_append, List.flatMap_cons, List.flatMap_nil, List.append_nil, ← HE.out]
      exact own_mono (ownsRow_setCell_below (a := ⟨w.heap.size + 1, 0, none⟩) hO3 (by have := hB.lt; simp; omega) _) (by have := hB.lt; simp; omega)
    · go_simp
      refine hK.out _ _ hca (fun hS => ?_)
      clear hK K
      try simp only [Act.put, List.setIfInBounds_toArray, List.set_cons_zero, List.set_cons_succ]
      refine wpAnyH_ready (rs := [0]) (by kernel_rfl) (by simp) ?_
      refine AllReadyH.cons rfl (fun K hK => ?_) AllReadyH.nil
      go_simp
      refine hK.out _ _ hca (fun hS => ?_)
      clear hK K
      try simp only [Act.put, List.setIfInBounds_toArray, List.set_cons_zero, List.set_cons_succ]
      refine wpAnyH_ready (rs := [6]) (by kernel_rfl) (by simp) ?_
      refine AllReadyH.cons rfl (fun K hK => ?_) AllReadyH.nil
      go_simp
      refine (put1 A _ N _ _ z (pre.flatMap (bodyOf f fp t tp n)) v _ (by exact hz2) (by exact In.box W v) HZ.out (by omega) HV.out).mono ?_
      rintro e w3 ⟨A3, N3, c3, rfl, hO3, hb3⟩
      have hb4 : Below W.heap.size W w3 := Below.new _ (undrew hb3)
      have hB3 : Bk w3 (w.heap.size + 1) 32 #[.slice A N c] := hB.kept hb4
      have hP3 := hP.kept hb4
      have d3 := hB3.one.1
      have f3 := hB3.one.2
      have hS3 : w3.cell? ⟨w.heap.size, x.val, none⟩ = some (.int .i64 v) := by rw [cell_of_pr hP3 x, hv.out]
      refine hK.out _ _ hS3 (fun hS => ?_)
      clear hK K
      try simp only [Act.put, List.setIfInBounds_toArray, List.set_cons_zero, List.set_cons_succ]
      refine wpAnyH_take (i := 7) (v := .tuple #[.slice A3 N3 c3, .int .i64 0]) rfl (by kernel_rfl) (by kernel_rfl) (by kernel_rfl) (fun _ _ _ h => h) (Or.inl ⟨by rfl, fun w hw => by (go_simp)⟩) hS ?_
      try simp only [Act.put, List.setIfInBounds_toArray, List.set_cons_zero, List.set_cons_succ]
      refine wpAnyH_take (i := 8) (v := .slice A3 N3 c3) rfl (by kernel_rfl) (by kernel_rfl) (by kernel_rfl) (fun _ _ _ h => h) (Or.inl ⟨by rfl, fun w hw => by (go_simp)⟩) hS ?_
      try simp only [Act.put, List.setIfInBounds_toArray, List.set_cons_zero, List.set_cons_succ]
      refine wpAnyH_take (i := 9) (v := .int .i64 0) rfl (by kernel_rfl) (by kernel_rfl) (by kernel_rfl) (fun _ _ _ h => h) (Or.inl ⟨by rfl, fun w hw => by (go_simp)⟩) hS ?_
      try simp only [Act.put, List.setIfInBounds_toArray, List.set_cons_zero, List.set_cons_succ]
      refine wpAnyH_ready (rs := [10]) (by kernel_rfl) (by simp) ?_
      refine AllReadyH.cons rfl (fun K hK => ?_) AllReadyH.nil
      go_simp
      refine hK.out _ _ (hP3.far (p := ⟨w.heap.size + 1, 0, none⟩) (by simp) _ |> fun h => (by rw [cell_of_pr h x, hv.out])) (fun hS => ?_)
      clear hK K
      refine wpAnyH_done (by kernel_rfl) ?_ _
      have hg : W.grownBy (w3.setCell ⟨w.heap.size + 1, 0, none⟩ (.slice A3 N3 c3)) (some (w.heap.size + 1)) := grown_tr (grown_of_below hb4 _) (grown_set _ _ _ _)
      refine ⟨KeepsFrom.of_grownBy hg (fun j e => by cases e; simp; omega), KpE.of_grown hg, ⟨A3, N3, c3, by simpa using hB3.set_ 0 (.slice A3 N3 c3), ?_⟩, hP3.far (p := ⟨w.heap.size + 1, 0, none⟩) (by simp) _, below_of_grown hW hg hW.size (by omega)⟩
      rw [List.flatMap_append, List.flatMap_cons, List.flatMap_nil, List.append_nil, ← HE.out]
      exact own_mono (ownsRow_setCell_below (a := ⟨w.heap.size + 1, 0, none⟩) hO3 (by have := hB.lt; simp; omega) _) (by have := hB.lt; simp; omega)
  case done =>
    rintro D xs W hD rfl ⟨⟨A, N, c, hB, hO⟩, hP, hW⟩ hK
    have d0 := hB.one.1
    have d1 := hB.one.2
    have hN : N ≤ 509 := by have := hO.len; have := body_len f fp t tp n [0, 1, 2, 3, 4]; simp only [List.length_cons, List.length_nil] at this; omega
    gi_wp2_with (first | (refine ⟨trivial, ?_⟩; gi_at_call 35; refine (callsIn_wide.2 (seal_any _ _ _ 2 _ _ hO.by_ hN (by omega))).mono ?_; rintro e w3 ⟨A3, N3, c3, rfl, hO3, hb3⟩; have e0 := (hB.kept hb3).one.1; have e1 := (hB.kept hb3).one.2))
    have hDl : D < W.heap.size := (Array.getElem?_eq_some_iff.1 hK).1
    have hDn : w.heap.size + 1 < D := by simp at hD; omega
    have hK' : (w3.setCell ⟨w.heap.size + 1, 0, none⟩ (.slice A3 N3 c3)).heap[D]? = some (.deferred (some [])) := (Below.heap_setCell _ _ _ _ (by simp; omega)).trans ((hb3.block D hDl).trans hK)
    have hB5 : Bk (w3.setCell ⟨w.heap.size + 1, 0, none⟩ (.slice A3 N3 c3)) (w.heap.size + 1) 32 #[.slice A3 N3 c3] := by simpa using (hB.kept hb3).set_ 0 (.slice A3 N3 c3)
    have hO5 : OwnB (w3.setCell ⟨w.heap.size + 1, 0, none⟩ (.slice A3 N3 c3)) W.heap.size A3 N3 c3 (sealB 2 (List.flatMap (bodyOf f fp t tp n) [0, 1, 2, 3, 4])) := ownsRow_setCell_below (a := ⟨w.heap.size + 1, 0, none⟩) hO3 (by simp; omega) _
    have hb5 : Below w.heap.size w (w3.setCell ⟨w.heap.size + 1, 0, none⟩ (.slice A3 N3 c3)) := (hW.trans (hb3.mono hW.size)).setCell (by simp) _
    have hgp := grownBy_putObj' (w3.setCell ⟨w.heap.size + 1, 0, none⟩ (.slice A3 N3 c3)) D (.deferred none)
    have hB6 := hB5.grown hgp (by intro e; injection e with e; omega)
    have hc6 := hB6.one.1
    refine ⟨by simp, .inl ⟨_, _, rfl, run_takeDeferred hK', ?_⟩⟩
    refine ⟨.tuple #[.slice A3 N3 c3, .int .i64 0], ?_, ⟨A3, N3, c3, rfl, ?_, ?_⟩⟩
    · simp [results, Try.results34, go_sem, hc6]
    · exact own_mono (own_kept_nc hO5 hgp (fun r e => by cases e; exact ⟨_, hK', rfl⟩)) hW.size
    · exact hb5.grown hgp hb5.size (fun k e => by cases e; omega)

/-- A probe's bytes. -/
def prB (f fp t tp n : Int) : List UInt8 := sealB 2 (be 1 f.toNat ++ (be 1 fp.toNat ++ (be 1 t.toNat ++ (be 1 tp.toNat ++ be 2 n.toNat))))
theorem prB_eq (f fp t tp n : Int) : sealB 2 (([0, 1, 2, 3, 4] : List (Fin 5)).flatMap (bodyOf f fp t tp n)) = prB f fp t tp n := by
  unfold prB
  congr 1
theorem pbytes_any (f fp t tp n : Int) (w : World) (hp : PrOk f fp t tp n) :
    Calls Try.prog 34 #[.agg #[.int .i64 f, .int .i64 fp, .int .i64 t, .int .i64 tp, .int .i64 n]] w fun e w' => ∃ A N c, e = .returned (.tuple #[.slice A N c, .int .i64 0]) ∧
      OwnB w' w.heap.size A N c (prB f fp t tp n) ∧ Below w.heap.size w w' := by
  rw [← prB_eq]
  exact pbytes_ok f fp t tp n w hp
theorem pbytes_no (f fp t tp n : Int) (w : World) (hp : ¬ PrOk f fp t tp n) :
    Calls Try.prog 34 #[.agg #[.int .i64 f, .int .i64 fp, .int .i64 t, .int .i64 tp, .int .i64 n]] w fun e w' => e = .returned (.tuple #[.slice none 0 0, .int .i64 2]) ∧ Below w.heap.size w w' := by
  have hpe := prE_no hp
  have H := Lib.hid hp
  clear hp
  go_enter Try.func34, Try.ntmps34
  go_wp2_with (first | (go_at_call 23; refine (pcheck_any _ _ _ _ _ _).mono ?_; rintro e w1 ⟨rfl, hb1⟩; have hBb := (Bk.new (w.alloc (.cells #[.int .i64 f, .int .i64 fp, .int .i64 t, .int .i64 tp, .int .i64 n] 23)) 32 #[.slice none 0 0]).kept hb1; rw [World.size_alloc] at hBb; have e0 := hBb.one.1; have e1 := hBb.one.2))
  refine bodyPost_ret (v := .tuple #[.slice none 0 0, .int .i64 2]) (by simp [results, Try.results34, go_sem, e0]) rfl ⟨rfl, ?_⟩
  exact (Below.new _ (Below.new _ hb1)).setCell (by simp) _
end Go.Proofs.Ytfnnjaljnfphlaa
