/- Orders: a rule's parts told one by one, as a function; outputs in a block. -/
import Derived.Test.YtfnnjaljnfphlaaOdh
import Derived.Laws.MakeOwn
namespace Go.Proofs.Ytfnnjaljnfphlaa
open Go.RowKit
set_option maxRecDepth 100000
set_option maxHeartbeats 2000000
set_option linter.unusedSimpArgs false
set_option linter.unusedVariables false

section
variable {σ : Type} (nf : Nat → Int → σ → Int × σ)
def hdV (c0 c1 c2 : UInt8) (s : σ) : (UInt8 × UInt8 × UInt8) × σ :=
  ((UInt8.ofNat (nf 1 (c0.toNat : Int) s).1.toNat, UInt8.ofNat (nf 1 (c1.toNat : Int) (nf 1 (c0.toNat : Int) s).2).1.toNat, UInt8.ofNat (nf 1 (c2.toNat : Int) (nf 1 (c1.toNat : Int) (nf 1 (c0.toNat : Int) s).2).2).1.toNat),
    (nf 1 (c2.toNat : Int) (nf 1 (c1.toNat : Int) (nf 1 (c0.toNat : Int) s).2).2).2)
theorem hdQ_eq (c0 c1 c2 : UInt8) (i : Nat) (cs : Array Value) (s : σ) : hdQ nf c0 c1 c2 i (cs, s) 3 =
    (((cs.setIfInBounds i (.int .u8 ((hdV nf c0 c1 c2 s).1.1.toNat : Int))).setIfInBounds (i + 1) (.int .u8 ((hdV nf c0 c1 c2 s).1.2.1.toNat : Int))).setIfInBounds (i + 2) (.int .u8 ((hdV nf c0 c1 c2 s).1.2.2.toNat : Int)), (hdV nf c0 c1 c2 s).2) := rfl
def outF (o : Out4) (s : σ) : Out4 × σ :=
  (((nf 1 o.1 s).1, (nf 2 (o.2.1 + 1) (nf 1 o.1 s).2).1 - 1, (nf 2 (o.2.2.1 + 1) (nf 2 (o.2.1 + 1) (nf 1 o.1 s).2).2).1 - 1, (nf 2 (o.2.2.2 + 1) (nf 2 (o.2.2.1 + 1) (nf 2 (o.2.1 + 1) (nf 1 o.1 s).2).2).2).1 - 1),
    (nf 2 (o.2.2.2 + 1) (nf 2 (o.2.2.1 + 1) (nf 2 (o.2.1 + 1) (nf 1 o.1 s).2).2).2).2)
def outsF : List Out4 → σ → List Out4 × σ
  | [], s => ([], s)
  | o :: l, s => ((outF nf o s).1 :: (outsF l (outF nf o s).2).1, (outsF l (outF nf o s).2).2)
theorem outsF_len (l : List Out4) : ∀ s, (outsF nf l s).1.length = l.length := by
  induction l with
  | nil => intro s; rfl
  | cons o l ih => intro s; simp [outsF, ih]
/-- The rule that is left, and what has become of what it was told to. -/
def manyO (n : Int) (os : List Out4) : List Out4 := if n = (os.length : Int) then os else List.replicate n.toNat (0, 0, 0, 0)
def ruF1 (r : Ru) (a b c d : Int) (q : Int × Int × (UInt8 × UInt8 × UInt8) × (UInt8 × UInt8 × UInt8)) (os : List Out4) : Ru := ⟨a, b, c, d, ⟨q.1, q.2.1, q.2.2.1.1, q.2.2.1.2.1, q.2.2.1.2.2, q.2.2.2.1, q.2.2.2.2.1, q.2.2.2.2.2⟩, os⟩
def ruF (r : Ru) (s : σ) : Ru × σ :=
  let a := nf 1 r.k s
  let b := nf 2 r.pr a.2
  let c := nf 1 r.to b.2
  let d := nf 1 r.po c.2
  if a.1 = 1 then
    let e := nf 1 r.m.ve d.2
    let f := nf 1 (r.m.mp + 1) e.2
    let h := hdV nf r.m.b0 r.m.b1 r.m.b2 f.2
    let j := hdV nf r.m.i0 r.m.i1 r.m.i2 h.2
    let n := nf 1 (r.os.length : Int) j.2
    let o := outsF nf (manyO n.1 r.os) n.2
    (⟨a.1, b.1, c.1, d.1, ⟨e.1, f.1 - 1, h.1.1, h.1.2.1, h.1.2.2, j.1.1, j.1.2.1, j.1.2.2⟩, o.1⟩, o.2)
  else (⟨a.1, b.1, c.1, d.1, r.m, r.os⟩, d.2)
end

/-- What is told must be fine. -/
def OkO (ok : Nat → Int → Prop) (o : Out4) : Prop := ok 1 o.1 ∧ ok 2 (o.2.1 + 1) ∧ ok 2 (o.2.2.1 + 1) ∧ ok 2 (o.2.2.2 + 1) ∧ (-1 ≤ o.2.1 ∧ o.2.1 ≤ 1000000) ∧ (-1 ≤ o.2.2.1 ∧ o.2.2.1 ≤ 1000000) ∧ (-1 ≤ o.2.2.2 ∧ o.2.2.2 ≤ 1000000)
structure OkR (ok : Nat → Int → Prop) (r : Ru) : Prop where
  k : ok 1 r.k
  pr : ok 2 r.pr
  tt : ok 1 r.to
  po : ok 1 r.po
  ve : ok 1 r.m.ve
  mp : ok 1 (r.m.mp + 1)
  mpb : -1 ≤ r.m.mp ∧ r.m.mp ≤ 1000000
  by8 : ∀ c : UInt8, ok 1 (c.toNat : Int)
  n : ok 1 (r.os.length : Int)
  os : ∀ o ∈ r.os, OkO ok o
  z : OkO ok (0, 0, 0, 0)
  len : r.os.length ≤ 1000

/-- Outputs in a block of their own. -/
structure OBk (w : World) (bo : Nat) (A : Option Addr) (L : Nat) (os : List Out4) : Prop where
  len : os.length = L
  blk : 0 < L → A = some ⟨bo, 0, none⟩ ∧ ∃ junk : List Value, Bk w bo 65 (os.flatMap outC ++ junk).toArray

theorem flat_len (l : List Out4) : (l.flatMap outC).length = 4 * l.length := by
  induction l with
  | nil => rfl
  | cons x l ih => simp only [List.flatMap_cons, List.length_append, ih, List.length_cons, outC_len]; omega
theorem set_mid (a : List Value) (x y : Value) (b : List Value) : (a ++ x :: b).toArray.setIfInBounds a.length y = (a ++ y :: b).toArray := by
  simp
theorem get_mid (a : List Value) (x : Value) (b : List Value) (n : Nat) (h : n = a.length) : (a ++ x :: b).toArray[n]? = some x := by
  subst h
  simp
/-- The four cells of one output are written. -/
theorem set_out (l1 : List Out4) (p x y z p' x' y' z' : Int) (l2 : List Out4) (junk : List Value) (k : Nat) (hk : l1.length = k) :
    ((((((l1 ++ (p, x, y, z) :: l2).flatMap outC ++ junk).toArray.setIfInBounds (k * 4) (.int .i64 p')).setIfInBounds (k * 4 + 1) (.int .i64 x')).setIfInBounds (k * 4 + 2) (.int .i64 y')).setIfInBounds (k * 4 + 3) (.int .i64 z')) =
      ((l1 ++ (p', x', y', z') :: l2).flatMap outC ++ junk).toArray := by
  have hl := flat_len l1
  have e : ∀ (a b c d : Int), (l1 ++ (a, b, c, d) :: l2).flatMap outC ++ junk = l1.flatMap outC ++ (Value.int .i64 a :: Value.int .i64 b :: Value.int .i64 c :: Value.int .i64 d :: (l2.flatMap outC ++ junk)) := by
    intro a b c d
    simp [List.flatMap_append, outC]
  rw [e, e]
  rw [show k * 4 = (l1.flatMap outC).length by omega, set_mid]
  rw [show (l1.flatMap outC).length + 1 = (l1.flatMap outC ++ [Value.int .i64 p']).length by simp]
  rw [show l1.flatMap outC ++ Value.int .i64 p' :: Value.int .i64 x :: Value.int .i64 y :: Value.int .i64 z :: (l2.flatMap outC ++ junk) = (l1.flatMap outC ++ [Value.int .i64 p']) ++ Value.int .i64 x :: (Value.int .i64 y :: Value.int .i64 z :: (l2.flatMap outC ++ junk)) by simp, set_mid]
  rw [show (l1.flatMap outC).length + 2 = (l1.flatMap outC ++ [Value.int .i64 p', Value.int .i64 x']).length by simp]
  rw [show (l1.flatMap outC ++ [Value.int .i64 p']) ++ Value.int .i64 x' :: (Value.int .i64 y :: Value.int .i64 z :: (l2.flatMap outC ++ junk)) = (l1.flatMap outC ++ [Value.int .i64 p', Value.int .i64 x']) ++ Value.int .i64 y :: (Value.int .i64 z :: (l2.flatMap outC ++ junk)) by simp, set_mid]
  rw [show (l1.flatMap outC).length + 3 = (l1.flatMap outC ++ [Value.int .i64 p', Value.int .i64 x', Value.int .i64 y']).length by simp]
  rw [show (l1.flatMap outC ++ [Value.int .i64 p', Value.int .i64 x']) ++ Value.int .i64 y' :: (Value.int .i64 z :: (l2.flatMap outC ++ junk)) = (l1.flatMap outC ++ [Value.int .i64 p', Value.int .i64 x', Value.int .i64 y']) ++ Value.int .i64 z :: (l2.flatMap outC ++ junk) by simp, set_mid]
  simp
theorem get_out (l1 : List Out4) (p x y z : Int) (l2 : List Out4) (junk : List Value) (k : Nat) (hk : l1.length = k) :
    ((l1 ++ (p, x, y, z) :: l2).flatMap outC ++ junk).toArray[k * 4]? = some (.int .i64 p) ∧ ((l1 ++ (p, x, y, z) :: l2).flatMap outC ++ junk).toArray[k * 4 + 1]? = some (.int .i64 x) ∧
    ((l1 ++ (p, x, y, z) :: l2).flatMap outC ++ junk).toArray[k * 4 + 2]? = some (.int .i64 y) ∧ ((l1 ++ (p, x, y, z) :: l2).flatMap outC ++ junk).toArray[k * 4 + 3]? = some (.int .i64 z) := by
  have hl := flat_len l1
  have e : (l1 ++ (p, x, y, z) :: l2).flatMap outC ++ junk = l1.flatMap outC ++ (Value.int .i64 p :: Value.int .i64 x :: Value.int .i64 y :: Value.int .i64 z :: (l2.flatMap outC ++ junk)) := by simp [List.flatMap_append, outC]
  rw [e, show k * 4 = (l1.flatMap outC).length by omega]
  simp only [List.getElem?_toArray]
  refine ⟨?_, ?_, ?_, ?_⟩
  all_goals (rw [List.getElem?_append_right (by omega)]; simp)

theorem made_outs (n : Nat) : (madeCells #[.int .i64 0, .int .i64 0, .int .i64 0, .int .i64 0] (n * 4)).toList = (List.replicate n ((0, 0, 0, 0) : Out4)).flatMap outC := by
  apply List.ext_getElem?
  intro i
  have hl := flat_len (List.replicate n ((0, 0, 0, 0) : Out4))
  rw [List.length_replicate] at hl
  by_cases hi : i < n * 4
  · have h1 : (madeCells #[.int .i64 0, .int .i64 0, .int .i64 0, .int .i64 0] (n * 4)).toList[i]? = some (.int .i64 0) := by
      unfold madeCells
      rw [Array.getElem?_toList, Array.getElem?_map, Array.getElem?_range, if_pos hi]
      simp only [Option.map_some]
      have : i % 4 < 4 := Nat.mod_lt _ (by omega)
      congr 1
      have h4 : (#[Value.int .i64 0, .int .i64 0, .int .i64 0, .int .i64 0] : Array Value).size = 4 := rfl
      rw [h4]
      match i % 4, this with
      | 0, _ => rfl
      | 1, _ => rfl
      | 2, _ => rfl
      | 3, _ => rfl
    rw [h1]
    have hk : (List.replicate n ((0, 0, 0, 0) : Out4))[i / 4]? = some (0, 0, 0, 0) := by rw [List.getElem?_replicate, if_pos (by omega)]
    have := outs_at hk (j := i % 4) (Nat.mod_lt _ (by omega))
    rw [show 4 * (i / 4) + i % 4 = i by omega] at this
    rw [this]
    have h5 : i % 4 < 4 := Nat.mod_lt _ (by omega)
    match i % 4, h5 with
    | 0, _ => rfl
    | 1, _ => rfl
    | 2, _ => rfl
    | 3, _ => rfl
  · rw [List.getElem?_eq_none (by rw [Array.length_toList, size_madeCells]; omega), List.getElem?_eq_none (by omega)]

section
variable {σ : Type} (nf : Nat → Int → σ → Int × σ)
/-- One number of an output, written as one more, is told. -/
def abS (x : Int) (i : Nat) (q : Array Value × σ) : Array Value × σ := (q.1.setIfInBounds i (.int .i64 ((nf 2 (x + 1) q.2).1 - 1)), (nf 2 (x + 1) q.2).2)
def abQ (x y z : Int) (i : Nat) (q : Array Value × σ) (k : Nat) : Array Value × σ :=
  if k = 0 then q else if k = 1 then abS nf x (i + 1) q else if k = 2 then abS nf y (i + 2) (abS nf x (i + 1) q) else abS nf z (i + 3) (abS nf y (i + 2) (abS nf x (i + 1) q))
theorem abS_get (x : Int) (i j : Nat) (q : Array Value × σ) (h : i ≠ j) : (abS nf x i q).1[j]? = q.1[j]? := by
  unfold abS
  rw [Array.getElem?_setIfInBounds, if_neg h]
theorem abQ_eq (l1 : List Out4) (p x y z : Int) (l2 : List Out4) (junk : List Value) (k : Nat) (hk : l1.length = k) (s : σ) :
    abQ nf x y z (k * 4) (((l1 ++ (p, x, y, z) :: l2).flatMap outC ++ junk).toArray.setIfInBounds (k * 4) (.int .i64 (nf 1 p s).1), (nf 1 p s).2) 3 =
      (((l1 ++ (outF nf (p, x, y, z) s).1 :: l2).flatMap outC ++ junk).toArray, (outF nf (p, x, y, z) s).2) := by
  have h := set_out l1 p x y z (outF nf (p, x, y, z) s).1.1 (outF nf (p, x, y, z) s).1.2.1 (outF nf (p, x, y, z) s).1.2.2.1 (outF nf (p, x, y, z) s).1.2.2.2 l2 junk k hk
  rw [← h]
  rfl
end
end Go.Proofs.Ytfnnjaljnfphlaa
