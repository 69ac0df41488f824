/- Orders: what they are, when they may be, their bytes, how they are read. No program in sight. -/
import Derived.Test.YtfnnjaljnfphlaaPla
namespace Go.Proofs.Ytfnnjaljnfphlaa
set_option linter.unusedSimpArgs false
set_option linter.unusedVariables false

/-- A masked match. -/
structure Mk where
  ve : Int
  mp : Int
  b0 : UInt8
  b1 : UInt8
  b2 : UInt8
  i0 : UInt8
  i1 : UInt8
  i2 : UInt8
abbrev Out4 := Int × Int × Int × Int
/-- A rule. -/
structure Ru where
  k : Int
  pr : Int
  to : Int
  po : Int
  m : Mk
  os : List Out4
structure Pr5 where
  f : Int
  fp : Int
  t : Int
  tp : Int
  n : Int
structure Or6 where
  k : Int
  n : Int
  m : Int
  r : Ru
  p : Pr5
def mk0 : Mk := ⟨0, 0, 0, 0, 0, 0, 0, 0⟩
def ru0 : Ru := ⟨0, 0, 0, 0, mk0, []⟩
def pr0 : Pr5 := ⟨0, 0, 0, 0, 0⟩
def or0 : Or6 := ⟨0, 0, 0, ru0, pr0⟩

def inB (n a b : Int) : Bool := decide (a ≤ n ∧ n ≤ b)
theorem inB_iff {n a b : Int} : inB n a b = true ↔ a ≤ n ∧ n ≤ b := by simp [inB]
/-- Are all bits of a byte among others? -/
def byB (i b : UInt8) : Bool := i &&& ~~~b == 0
def mkB (m : Mk) : Bool := inB m.ve 0 200 && inB m.mp (-1) 4 && byB m.i0 m.b0 && byB m.i1 m.b1 && byB m.i2 m.b2
def outB4 (o : Out4) : Bool := inB o.1 0 4 && inB o.2.1 (-1) 255 && inB o.2.2.1 (-1) 255 && inB o.2.2.2 (-1) 255
def mkZ (m : Mk) : Bool := m.ve == 0 && (m.mp == 0 && ((m.b0 == 0 && (m.b1 == 0 && (m.b2 == 0 && true))) && ((m.i0 == 0 && (m.i1 == 0 && (m.i2 == 0 && true))) && true)))
def prZ (p : Pr5) : Bool := p.f == 0 && (p.fp == 0 && (p.t == 0 && (p.tp == 0 && (p.n == 0 && true))))
def ruZ (r : Ru) : Bool := r.k == 0 && r.pr == 0 && r.to == 0 && r.po == 0 && mkZ r.m && r.os.length == 0
/-- May a rule be? -/
def ruB (r : Ru) : Bool :=
  if r.k = 2 then inB r.to 0 6 && inB r.po 0 4 && r.pr == 0 && mkZ r.m && r.os.length == 0
  else r.k == 1 && decide (r.os.length ≤ 8) && r.os.all outB4 && inB r.pr 0 65535 && r.to == 0 && r.po == 0 && mkB r.m
def PrOk5 (p : Pr5) : Prop := (1 ≤ p.f ∧ p.f ≤ 6 ∧ 1 ≤ p.fp ∧ p.fp ≤ 4) ∧ ((p.t = 0 ∧ p.tp = 0) ∨ (1 ≤ p.t ∧ p.t ≤ 6 ∧ 1 ≤ p.tp ∧ p.tp ≤ 4)) ∧ 0 ≤ p.n ∧ p.n ≤ 65535
instance (p : Pr5) : Decidable (PrOk5 p) := by unfold PrOk5; infer_instance
/-- What a kind has not, is it nothing? -/
def spB (o : Or6) : Bool :=
  if o.k = 1 then o.n == 0 && o.m == 0 && prZ o.p && ruZ o.r
  else if o.k = 2 ∨ o.k = 3 then o.n == 0 && o.m == 0 && prZ o.p
  else if o.k = 4 ∨ o.k = 6 then o.m == 0 && prZ o.p && ruZ o.r
  else if o.k = 5 ∨ o.k = 7 ∨ o.k = 9 then prZ o.p && ruZ o.r
  else if o.k = 8 then o.n == 0 && o.m == 0 && ruZ o.r
  else false
/-- May an order be? -/
def orB (o : Or6) : Bool :=
  spB o && (if o.k = 2 ∨ o.k = 3 then ruB o.r else if o.k = 4 then inB o.n 0 200 else if o.k = 5 then inB o.n 1 4 && inB o.m 0 65535
    else if o.k = 6 ∨ o.k = 7 then inB o.n 0 4294967295 && inB o.m 0 65535 else if o.k = 8 then decide (PrOk5 o.p) && decide (0 < o.p.t) else if o.k = 9 then inB o.n 1 4 && inB o.m 0 1 else true)
def erB (b : Bool) : Int := if b then 0 else 2

/-- The bytes of a rule, of an order. -/
def outBy (o : Out4) : List UInt8 := be 1 o.1.toNat ++ (be 2 (o.2.1 + 1).toNat ++ (be 2 (o.2.2.1 + 1).toNat ++ be 2 (o.2.2.2 + 1).toNat))
def mkBy (m : Mk) : List UInt8 := be 1 m.ve.toNat ++ (be 1 (m.mp + 1).toNat ++ [m.b0, m.b1, m.b2, m.i0, m.i1, m.i2])
def ruBy (r : Ru) : List UInt8 :=
  be 1 r.k.toNat ++ (be 2 r.pr.toNat ++ (be 1 r.to.toNat ++ (be 1 r.po.toNat ++ (if r.k = 1 then mkBy r.m ++ (be 1 r.os.length ++ r.os.flatMap outBy) else []))))
def prBy (p : Pr5) : List UInt8 := sealB 2 (be 1 p.f.toNat ++ (be 1 p.fp.toNat ++ (be 1 p.t.toNat ++ (be 1 p.tp.toNat ++ be 2 p.n.toNat))))
def orBy (o : Or6) : List UInt8 :=
  be 1 o.k.toNat ++ (if o.k = 2 ∨ o.k = 3 then ruBy o.r else if o.k = 4 then be 1 o.n.toNat else if o.k = 5 then be 1 o.n.toNat ++ be 2 o.m.toNat
    else if o.k = 6 then be 4 o.n.toNat else if o.k = 7 then be 4 o.n.toNat ++ be 2 o.m.toNat else if o.k = 8 then be 2 (prBy o.p).length ++ prBy o.p
    else if o.k = 9 then be 1 o.n.toNat ++ be 1 o.m.toNat else [])

/-- A row of outputs, a rule, an order, read. -/
def rdOut (s : Rs) : Out4 × Rs :=
  let a := rn 1 s
  let b := rn 2 a.2
  let c := rn 2 b.2
  let d := rn 2 c.2
  (((a.1 : Int), (b.1 : Int) - 1, (c.1 : Int) - 1, (d.1 : Int) - 1), d.2)
def rdOuts : Nat → Rs → List Out4 × Rs
  | 0, s => ([], s)
  | n + 1, s =>
    let a := rdOut s
    let b := rdOuts n a.2
    (a.1 :: b.1, b.2)
def rdH (s : Rs) : (UInt8 × UInt8 × UInt8) × Rs :=
  let a := rn 1 s
  let b := rn 1 a.2
  let c := rn 1 b.2
  ((UInt8.ofNat a.1, UInt8.ofNat b.1, UInt8.ofNat c.1), c.2)
def rdMk (s : Rs) : Mk × Rs :=
  let a := rn 1 s
  let b := rn 1 a.2
  let c := rdH b.2
  let d := rdH c.2
  (⟨(a.1 : Int), (b.1 : Int) - 1, c.1.1, c.1.2.1, c.1.2.2, d.1.1, d.1.2.1, d.1.2.2⟩, d.2)
def rdRu (s : Rs) : Ru × Rs :=
  let a := rn 1 s
  let b := rn 2 a.2
  let c := rn 1 b.2
  let d := rn 1 c.2
  if a.1 = 1 then
    let m := rdMk d.2
    let n := rn 1 m.2
    let o := rdOuts n.1 n.2
    (⟨(a.1 : Int), (b.1 : Int), (c.1 : Int), (d.1 : Int), m.1, o.1⟩, o.2)
  else (⟨(a.1 : Int), (b.1 : Int), (c.1 : Int), (d.1 : Int), mk0, []⟩, d.2)
end Go.Proofs.Ytfnnjaljnfphlaa
