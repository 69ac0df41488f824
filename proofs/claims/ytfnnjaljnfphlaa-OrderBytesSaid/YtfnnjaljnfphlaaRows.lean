/-
  No cell of these rows narrows 'for every input' (looked for: loops, veiled, ifaces, maps, wideKeys, modest, calm, conditions, laid).
  DERIVED. THE GIVEN ROWS OF THIS SEAT. 16 by the template 'for every input the law returns true; each argument reads behind the call as it read before'; 0 by the template 'total and deterministic' (their statements: YtfnnjaljnfphlaaTotals.lean).
  GIVEN WITH THE SEED: the statements are not yours to turn. If you find one false, say at which input.
  Laid BY PROGRAM, IN A SANDBOX (cutbox-rows.mjs): the forced cells as the released guide's own fill.sh prints them over the translation 74d91b994c9ac39b… (all of the seat's roots in one cut). By AI agents, Wed Nov 11 2026. No macro, syntax, notation, axiom, sorry.
-/
import Derived.Test.YtfnnjaljnfphlaaChecked
import GoSem.Claim
import GoSem.ClaimJoined
import GoSem.ClaimMapViews
import Derived.JoinedTies
import Derived.KernelRfl
namespace Go.Proofs.Ytfnnjaljnfphlaa
/- THE CELL 'sum', in the pinned program and in every row, IS THE sha256 OF THE DUMP (.gsa) THAT YtfnnjaljnfphlaaProg.lean LOADS. Nothing in Lean hashes anything: it is a label: what it is worth is what the hold of that sum in a sandbox is worth. -/
noncomputable def Try.pinned : Pinned := { name := "ytfnnjaljnfphlaa", sum := "74d91b994c9ac39b0e6932bb0ea9931a20de7e2ceece4f14a4a9cf519c852caa", checked := Try.checked }
namespace Rows
def none {H : Type} : Left H := { results := [], args := [] }

/-- 'catenarylaw04.ProbeOnce': WHATEVER THE INPUT: true; the input reads as it did. -/
def probeOnceSpec : ChangeSpec := { name := "probeOnce", fn := fun _ => fun
  | [d1, d2, d3] => { results := [.lit (.bool true)], args := [d1, d2, d3] }
  | _ => none }
def probeOnceRow : OpenClaim := { program := "ytfnnjaljnfphlaa", sum := "74d91b994c9ac39b0e6932bb0ea9931a20de7e2ceece4f14a4a9cf519c852caa", func := "catenary/catenarylaw04.ProbeOnce", spec := "probeOnce", unfollowed := true, recurses := true, apart := false }
def ProbeOnceSaid : Prop := probeOnceRow.holds Try.pinned (OpenSpec.ofChange probeOnceSpec)

/-- ITS FALSE NEIGHBOUR: 'it returns false'. Refute it at one input. -/
def probeOnceWrong : ChangeSpec := { name := "probeOnce", fn := fun _ => fun
  | [d1, d2, d3] => { results := [.lit (.bool false)], args := [d1, d2, d3] }
  | _ => none }
def ProbeOnceWrongFalsely : Prop := probeOnceRow.holds Try.pinned (OpenSpec.ofChange probeOnceWrong)

/-- 'catenarylaw05.SegBytes': WHATEVER THE INPUT: true; the input reads as it did. -/
def segBytesSpec : ChangeSpec := { name := "segBytes", fn := fun _ => fun
  | [d] => { results := [.lit (.bool true)], args := [d] }
  | _ => none }
def segBytesRow : OpenClaim := { program := "ytfnnjaljnfphlaa", sum := "74d91b994c9ac39b0e6932bb0ea9931a20de7e2ceece4f14a4a9cf519c852caa", func := "catenary/catenarylaw05.SegBytes", spec := "segBytes", unfollowed := true, recurses := true, apart := false }
def SegBytesSaid : Prop := segBytesRow.holds Try.pinned (OpenSpec.ofChange segBytesSpec)

/-- ITS FALSE NEIGHBOUR: 'it returns false'. Refute it at one input. -/
def segBytesWrong : ChangeSpec := { name := "segBytes", fn := fun _ => fun
  | [d] => { results := [.lit (.bool false)], args := [d] }
  | _ => none }
def SegBytesWrongFalsely : Prop := segBytesRow.holds Try.pinned (OpenSpec.ofChange segBytesWrong)

/-- 'catenarylaw05.SegSame': WHATEVER THE INPUT: true; the input reads as it did. -/
def segSameSpec : ChangeSpec := { name := "segSame", fn := fun _ => fun
  | [d1, d2] => { results := [.lit (.bool true)], args := [d1, d2] }
  | _ => none }
def segSameRow : OpenClaim := { program := "ytfnnjaljnfphlaa", sum := "74d91b994c9ac39b0e6932bb0ea9931a20de7e2ceece4f14a4a9cf519c852caa", func := "catenary/catenarylaw05.SegSame", spec := "segSame", unfollowed := true, recurses := true, apart := false }
def SegSameSaid : Prop := segSameRow.holds Try.pinned (OpenSpec.ofChange segSameSpec)

/-- ITS FALSE NEIGHBOUR: 'it returns false'. Refute it at one input. -/
def segSameWrong : ChangeSpec := { name := "segSame", fn := fun _ => fun
  | [d1, d2] => { results := [.lit (.bool false)], args := [d1, d2] }
  | _ => none }
def SegSameWrongFalsely : Prop := segSameRow.holds Try.pinned (OpenSpec.ofChange segSameWrong)

/-- 'catenarylaw04.ProbeAgain': WHATEVER THE INPUT: true; the input reads as it did. -/
def probeAgainSpec : ChangeSpec := { name := "probeAgain", fn := fun _ => fun
  | [d1, d2] => { results := [.lit (.bool true)], args := [d1, d2] }
  | _ => none }
def probeAgainRow : OpenClaim := { program := "ytfnnjaljnfphlaa", sum := "74d91b994c9ac39b0e6932bb0ea9931a20de7e2ceece4f14a4a9cf519c852caa", func := "catenary/catenarylaw04.ProbeAgain", spec := "probeAgain", unfollowed := true, recurses := true, apart := false }
def ProbeAgainSaid : Prop := probeAgainRow.holds Try.pinned (OpenSpec.ofChange probeAgainSpec)

/-- ITS FALSE NEIGHBOUR: 'it returns false'. Refute it at one input. -/
def probeAgainWrong : ChangeSpec := { name := "probeAgain", fn := fun _ => fun
  | [d1, d2] => { results := [.lit (.bool false)], args := [d1, d2] }
  | _ => none }
def ProbeAgainWrongFalsely : Prop := probeAgainRow.holds Try.pinned (OpenSpec.ofChange probeAgainWrong)

/-- 'catenarylaw06.OrderCut': WHATEVER THE INPUT: true; the input reads as it did. -/
def orderCutSpec : ChangeSpec := { name := "orderCut", fn := fun _ => fun
  | [d1, d2, d3] => { results := [.lit (.bool true)], args := [d1, d2, d3] }
  | _ => none }
def orderCutRow : OpenClaim := { program := "ytfnnjaljnfphlaa", sum := "74d91b994c9ac39b0e6932bb0ea9931a20de7e2ceece4f14a4a9cf519c852caa", func := "catenary/catenarylaw06.OrderCut", spec := "orderCut", unfollowed := true, recurses := true, apart := false }
def OrderCutSaid : Prop := orderCutRow.holds Try.pinned (OpenSpec.ofChange orderCutSpec)

/-- ITS FALSE NEIGHBOUR: 'it returns false'. Refute it at one input. -/
def orderCutWrong : ChangeSpec := { name := "orderCut", fn := fun _ => fun
  | [d1, d2, d3] => { results := [.lit (.bool false)], args := [d1, d2, d3] }
  | _ => none }
def OrderCutWrongFalsely : Prop := orderCutRow.holds Try.pinned (OpenSpec.ofChange orderCutWrong)

/-- 'catenarylaw04.ProbeKnown': WHATEVER THE INPUT: true; the input reads as it did. -/
def probeKnownSpec : ChangeSpec := { name := "probeKnown", fn := fun _ => fun
  | [] => { results := [.lit (.bool true)], args := [] }
  | _ => none }
def probeKnownRow : OpenClaim := { program := "ytfnnjaljnfphlaa", sum := "74d91b994c9ac39b0e6932bb0ea9931a20de7e2ceece4f14a4a9cf519c852caa", func := "catenary/catenarylaw04.ProbeKnown", spec := "probeKnown", unfollowed := true, recurses := true, apart := false }
def ProbeKnownSaid : Prop := probeKnownRow.holds Try.pinned (OpenSpec.ofChange probeKnownSpec)

/-- ITS FALSE NEIGHBOUR: 'it returns false'. Refute it at one input. -/
def probeKnownWrong : ChangeSpec := { name := "probeKnown", fn := fun _ => fun
  | [] => { results := [.lit (.bool false)], args := [] }
  | _ => none }
def ProbeKnownWrongFalsely : Prop := probeKnownRow.holds Try.pinned (OpenSpec.ofChange probeKnownWrong)

/-- 'catenarylaw06.OrderKnown': WHATEVER THE INPUT: true; the input reads as it did. -/
def orderKnownSpec : ChangeSpec := { name := "orderKnown", fn := fun _ => fun
  | [] => { results := [.lit (.bool true)], args := [] }
  | _ => none }
def orderKnownRow : OpenClaim := { program := "ytfnnjaljnfphlaa", sum := "74d91b994c9ac39b0e6932bb0ea9931a20de7e2ceece4f14a4a9cf519c852caa", func := "catenary/catenarylaw06.OrderKnown", spec := "orderKnown", unfollowed := true, recurses := true, apart := false }
def OrderKnownSaid : Prop := orderKnownRow.holds Try.pinned (OpenSpec.ofChange orderKnownSpec)

/-- ITS FALSE NEIGHBOUR: 'it returns false'. Refute it at one input. -/
def orderKnownWrong : ChangeSpec := { name := "orderKnown", fn := fun _ => fun
  | [] => { results := [.lit (.bool false)], args := [] }
  | _ => none }
def OrderKnownWrongFalsely : Prop := orderKnownRow.holds Try.pinned (OpenSpec.ofChange orderKnownWrong)

/-- 'catenarylaw05.SegParses': WHATEVER THE INPUT: true; the input reads as it did. -/
def segParsesSpec : ChangeSpec := { name := "segParses", fn := fun _ => fun
  | [d] => { results := [.lit (.bool true)], args := [d] }
  | _ => none }
def segParsesRow : OpenClaim := { program := "ytfnnjaljnfphlaa", sum := "74d91b994c9ac39b0e6932bb0ea9931a20de7e2ceece4f14a4a9cf519c852caa", func := "catenary/catenarylaw05.SegParses", spec := "segParses", unfollowed := true, recurses := true, apart := false }
def SegParsesSaid : Prop := segParsesRow.holds Try.pinned (OpenSpec.ofChange segParsesSpec)

/-- ITS FALSE NEIGHBOUR: 'it returns false'. Refute it at one input. -/
def segParsesWrong : ChangeSpec := { name := "segParses", fn := fun _ => fun
  | [d] => { results := [.lit (.bool false)], args := [d] }
  | _ => none }
def SegParsesWrongFalsely : Prop := segParsesRow.holds Try.pinned (OpenSpec.ofChange segParsesWrong)

/-- 'catenarylaw05.SegBack': WHATEVER THE INPUT: true; the input reads as it did. -/
def segBackSpec : ChangeSpec := { name := "segBack", fn := fun _ => fun
  | [d] => { results := [.lit (.bool true)], args := [d] }
  | _ => none }
def segBackRow : OpenClaim := { program := "ytfnnjaljnfphlaa", sum := "74d91b994c9ac39b0e6932bb0ea9931a20de7e2ceece4f14a4a9cf519c852caa", func := "catenary/catenarylaw05.SegBack", spec := "segBack", unfollowed := true, recurses := true, apart := false }
def SegBackSaid : Prop := segBackRow.holds Try.pinned (OpenSpec.ofChange segBackSpec)

/-- ITS FALSE NEIGHBOUR: 'it returns false'. Refute it at one input. -/
def segBackWrong : ChangeSpec := { name := "segBack", fn := fun _ => fun
  | [d] => { results := [.lit (.bool false)], args := [d] }
  | _ => none }
def SegBackWrongFalsely : Prop := segBackRow.holds Try.pinned (OpenSpec.ofChange segBackWrong)

/-- 'catenarylaw05.SegAgain': WHATEVER THE INPUT: true; the input reads as it did. -/
def segAgainSpec : ChangeSpec := { name := "segAgain", fn := fun _ => fun
  | [d1, d2] => { results := [.lit (.bool true)], args := [d1, d2] }
  | _ => none }
def segAgainRow : OpenClaim := { program := "ytfnnjaljnfphlaa", sum := "74d91b994c9ac39b0e6932bb0ea9931a20de7e2ceece4f14a4a9cf519c852caa", func := "catenary/catenarylaw05.SegAgain", spec := "segAgain", unfollowed := true, recurses := true, apart := false }
def SegAgainSaid : Prop := segAgainRow.holds Try.pinned (OpenSpec.ofChange segAgainSpec)

/-- ITS FALSE NEIGHBOUR: 'it returns false'. Refute it at one input. -/
def segAgainWrong : ChangeSpec := { name := "segAgain", fn := fun _ => fun
  | [d1, d2] => { results := [.lit (.bool false)], args := [d1, d2] }
  | _ => none }
def SegAgainWrongFalsely : Prop := segAgainRow.holds Try.pinned (OpenSpec.ofChange segAgainWrong)

/-- 'catenarylaw05.SegTurned': WHATEVER THE INPUT: true; the input reads as it did. -/
def segTurnedSpec : ChangeSpec := { name := "segTurned", fn := fun _ => fun
  | [d1, d2, d3] => { results := [.lit (.bool true)], args := [d1, d2, d3] }
  | _ => none }
def segTurnedRow : OpenClaim := { program := "ytfnnjaljnfphlaa", sum := "74d91b994c9ac39b0e6932bb0ea9931a20de7e2ceece4f14a4a9cf519c852caa", func := "catenary/catenarylaw05.SegTurned", spec := "segTurned", unfollowed := true, recurses := true, apart := false }
def SegTurnedSaid : Prop := segTurnedRow.holds Try.pinned (OpenSpec.ofChange segTurnedSpec)

/-- ITS FALSE NEIGHBOUR: 'it returns false'. Refute it at one input. -/
def segTurnedWrong : ChangeSpec := { name := "segTurned", fn := fun _ => fun
  | [d1, d2, d3] => { results := [.lit (.bool false)], args := [d1, d2, d3] }
  | _ => none }
def SegTurnedWrongFalsely : Prop := segTurnedRow.holds Try.pinned (OpenSpec.ofChange segTurnedWrong)

/-- 'catenarylaw05.SegKnown': WHATEVER THE INPUT: true; the input reads as it did. -/
def segKnownSpec : ChangeSpec := { name := "segKnown", fn := fun _ => fun
  | [] => { results := [.lit (.bool true)], args := [] }
  | _ => none }
def segKnownRow : OpenClaim := { program := "ytfnnjaljnfphlaa", sum := "74d91b994c9ac39b0e6932bb0ea9931a20de7e2ceece4f14a4a9cf519c852caa", func := "catenary/catenarylaw05.SegKnown", spec := "segKnown", unfollowed := true, recurses := true, apart := false }
def SegKnownSaid : Prop := segKnownRow.holds Try.pinned (OpenSpec.ofChange segKnownSpec)

/-- ITS FALSE NEIGHBOUR: 'it returns false'. Refute it at one input. -/
def segKnownWrong : ChangeSpec := { name := "segKnown", fn := fun _ => fun
  | [] => { results := [.lit (.bool false)], args := [] }
  | _ => none }
def SegKnownWrongFalsely : Prop := segKnownRow.holds Try.pinned (OpenSpec.ofChange segKnownWrong)

/-- 'catenarylaw06.OrderBytes': WHATEVER THE INPUT: true; the input reads as it did. -/
def orderBytesSpec : ChangeSpec := { name := "orderBytes", fn := fun _ => fun
  | [d] => { results := [.lit (.bool true)], args := [d] }
  | _ => none }
def orderBytesRow : OpenClaim := { program := "ytfnnjaljnfphlaa", sum := "74d91b994c9ac39b0e6932bb0ea9931a20de7e2ceece4f14a4a9cf519c852caa", func := "catenary/catenarylaw06.OrderBytes", spec := "orderBytes", unfollowed := true, recurses := true, apart := false }
def OrderBytesSaid : Prop := orderBytesRow.holds Try.pinned (OpenSpec.ofChange orderBytesSpec)

/-- ITS FALSE NEIGHBOUR: 'it returns false'. Refute it at one input. -/
def orderBytesWrong : ChangeSpec := { name := "orderBytes", fn := fun _ => fun
  | [d] => { results := [.lit (.bool false)], args := [d] }
  | _ => none }
def OrderBytesWrongFalsely : Prop := orderBytesRow.holds Try.pinned (OpenSpec.ofChange orderBytesWrong)

/-- 'catenarylaw06.OrderParses': WHATEVER THE INPUT: true; the input reads as it did. -/
def orderParsesSpec : ChangeSpec := { name := "orderParses", fn := fun _ => fun
  | [d] => { results := [.lit (.bool true)], args := [d] }
  | _ => none }
def orderParsesRow : OpenClaim := { program := "ytfnnjaljnfphlaa", sum := "74d91b994c9ac39b0e6932bb0ea9931a20de7e2ceece4f14a4a9cf519c852caa", func := "catenary/catenarylaw06.OrderParses", spec := "orderParses", unfollowed := true, recurses := true, apart := false }
def OrderParsesSaid : Prop := orderParsesRow.holds Try.pinned (OpenSpec.ofChange orderParsesSpec)

/-- ITS FALSE NEIGHBOUR: 'it returns false'. Refute it at one input. -/
def orderParsesWrong : ChangeSpec := { name := "orderParses", fn := fun _ => fun
  | [d] => { results := [.lit (.bool false)], args := [d] }
  | _ => none }
def OrderParsesWrongFalsely : Prop := orderParsesRow.holds Try.pinned (OpenSpec.ofChange orderParsesWrong)

/-- 'catenarylaw06.OrderBack': WHATEVER THE INPUT: true; the input reads as it did. -/
def orderBackSpec : ChangeSpec := { name := "orderBack", fn := fun _ => fun
  | [d] => { results := [.lit (.bool true)], args := [d] }
  | _ => none }
def orderBackRow : OpenClaim := { program := "ytfnnjaljnfphlaa", sum := "74d91b994c9ac39b0e6932bb0ea9931a20de7e2ceece4f14a4a9cf519c852caa", func := "catenary/catenarylaw06.OrderBack", spec := "orderBack", unfollowed := true, recurses := true, apart := false }
def OrderBackSaid : Prop := orderBackRow.holds Try.pinned (OpenSpec.ofChange orderBackSpec)

/-- ITS FALSE NEIGHBOUR: 'it returns false'. Refute it at one input. -/
def orderBackWrong : ChangeSpec := { name := "orderBack", fn := fun _ => fun
  | [d] => { results := [.lit (.bool false)], args := [d] }
  | _ => none }
def OrderBackWrongFalsely : Prop := orderBackRow.holds Try.pinned (OpenSpec.ofChange orderBackWrong)

/-- 'catenarylaw06.OrderAgain': WHATEVER THE INPUT: true; the input reads as it did. -/
def orderAgainSpec : ChangeSpec := { name := "orderAgain", fn := fun _ => fun
  | [d] => { results := [.lit (.bool true)], args := [d] }
  | _ => none }
def orderAgainRow : OpenClaim := { program := "ytfnnjaljnfphlaa", sum := "74d91b994c9ac39b0e6932bb0ea9931a20de7e2ceece4f14a4a9cf519c852caa", func := "catenary/catenarylaw06.OrderAgain", spec := "orderAgain", unfollowed := true, recurses := true, apart := false }
def OrderAgainSaid : Prop := orderAgainRow.holds Try.pinned (OpenSpec.ofChange orderAgainSpec)

/-- ITS FALSE NEIGHBOUR: 'it returns false'. Refute it at one input. -/
def orderAgainWrong : ChangeSpec := { name := "orderAgain", fn := fun _ => fun
  | [d] => { results := [.lit (.bool false)], args := [d] }
  | _ => none }
def OrderAgainWrongFalsely : Prop := orderAgainRow.holds Try.pinned (OpenSpec.ofChange orderAgainWrong)

/- THE SECOND FORM. 'bulk': how many values and letters a reading holds, each counted each time it is reached (what is shared counts as often as it is met; a slice's spare places count too). A statement '..UptoSaid' is the law's where the arguments, and the package variables that the reading takes, are together of bulk at most 1048576: NARROWER than '..Said'. Prove '..Said' where nothing that the law and all that it calls make is longer than what came in: it says more and counts as full. Else prove '..UptoSaid'. A law counts once. -/
mutual
def uptoBulk {H : Type} : DataW H → Nat
  | .lit (.string bytes) => bytes.length + 1
  | .lit _ => 1
  | .nil => 1
  | .ptr d => uptoBulk d + 1
  | .slice elems spare => uptoBulkAll elems + uptoBulkAll spare + 1
  | .agg parts => uptoBulkAll parts + 1
  | .iface _ d => uptoBulk d + 1
  | .map entries => uptoBulkEntries entries + 1
  | .held _ => 1
def uptoBulkAll {H : Type} : List (DataW H) → Nat
  | [] => 0
  | d :: r => uptoBulk d + uptoBulkAll r
def uptoBulkEntries {H : Type} : List (Lit × DataW H) → Nat
  | [] => 0
  | x :: r => uptoBulkEntry x + uptoBulkEntries r
def uptoBulkEntry {H : Type} : Lit × DataW H → Nat
  | (.string bytes, d) => bytes.length + uptoBulk d + 1
  | (_, d) => uptoBulk d + 1
 end
def uptoSmall : (H : Type) → List (DataW H) → Bool := fun _ ds => decide (uptoBulkAll ds ≤ 1048576)
def OpenSpec.upto (s : _root_.Go.ChangeSpec) : _root_.Go.OpenSpec := { _root_.Go.OpenSpec.ofChange s with cond := some uptoSmall }

/-- 'catenarylaw04.ProbeOnce', WHERE WHAT IT READS IS OF BULK AT MOST 1048576: true; the input reads as it did. -/
def probeOnceUptoRow : OpenClaim := { program := "ytfnnjaljnfphlaa", sum := "74d91b994c9ac39b0e6932bb0ea9931a20de7e2ceece4f14a4a9cf519c852caa", func := "catenary/catenarylaw04.ProbeOnce", spec := "probeOnce", unfollowed := true, recurses := true, apart := false, narrowed := true }
def ProbeOnceUptoSaid : Prop := probeOnceUptoRow.holds Try.pinned (OpenSpec.upto probeOnceSpec)

/-- 'catenarylaw05.SegBytes', WHERE WHAT IT READS IS OF BULK AT MOST 1048576: true; the input reads as it did. -/
def segBytesUptoRow : OpenClaim := { program := "ytfnnjaljnfphlaa", sum := "74d91b994c9ac39b0e6932bb0ea9931a20de7e2ceece4f14a4a9cf519c852caa", func := "catenary/catenarylaw05.SegBytes", spec := "segBytes", unfollowed := true, recurses := true, apart := false, narrowed := true }
def SegBytesUptoSaid : Prop := segBytesUptoRow.holds Try.pinned (OpenSpec.upto segBytesSpec)

/-- 'catenarylaw05.SegSame', WHERE WHAT IT READS IS OF BULK AT MOST 1048576: true; the input reads as it did. -/
def segSameUptoRow : OpenClaim := { program := "ytfnnjaljnfphlaa", sum := "74d91b994c9ac39b0e6932bb0ea9931a20de7e2ceece4f14a4a9cf519c852caa", func := "catenary/catenarylaw05.SegSame", spec := "segSame", unfollowed := true, recurses := true, apart := false, narrowed := true }
def SegSameUptoSaid : Prop := segSameUptoRow.holds Try.pinned (OpenSpec.upto segSameSpec)

/-- 'catenarylaw04.ProbeAgain', WHERE WHAT IT READS IS OF BULK AT MOST 1048576: true; the input reads as it did. -/
def probeAgainUptoRow : OpenClaim := { program := "ytfnnjaljnfphlaa", sum := "74d91b994c9ac39b0e6932bb0ea9931a20de7e2ceece4f14a4a9cf519c852caa", func := "catenary/catenarylaw04.ProbeAgain", spec := "probeAgain", unfollowed := true, recurses := true, apart := false, narrowed := true }
def ProbeAgainUptoSaid : Prop := probeAgainUptoRow.holds Try.pinned (OpenSpec.upto probeAgainSpec)

/-- 'catenarylaw06.OrderCut', WHERE WHAT IT READS IS OF BULK AT MOST 1048576: true; the input reads as it did. -/
def orderCutUptoRow : OpenClaim := { program := "ytfnnjaljnfphlaa", sum := "74d91b994c9ac39b0e6932bb0ea9931a20de7e2ceece4f14a4a9cf519c852caa", func := "catenary/catenarylaw06.OrderCut", spec := "orderCut", unfollowed := true, recurses := true, apart := false, narrowed := true }
def OrderCutUptoSaid : Prop := orderCutUptoRow.holds Try.pinned (OpenSpec.upto orderCutSpec)

/-- 'catenarylaw04.ProbeKnown', WHERE WHAT IT READS IS OF BULK AT MOST 1048576: true; the input reads as it did. -/
def probeKnownUptoRow : OpenClaim := { program := "ytfnnjaljnfphlaa", sum := "74d91b994c9ac39b0e6932bb0ea9931a20de7e2ceece4f14a4a9cf519c852caa", func := "catenary/catenarylaw04.ProbeKnown", spec := "probeKnown", unfollowed := true, recurses := true, apart := false, narrowed := true }
def ProbeKnownUptoSaid : Prop := probeKnownUptoRow.holds Try.pinned (OpenSpec.upto probeKnownSpec)

/-- 'catenarylaw06.OrderKnown', WHERE WHAT IT READS IS OF BULK AT MOST 1048576: true; the input reads as it did. -/
def orderKnownUptoRow : OpenClaim := { program := "ytfnnjaljnfphlaa", sum := "74d91b994c9ac39b0e6932bb0ea9931a20de7e2ceece4f14a4a9cf519c852caa", func := "catenary/catenarylaw06.OrderKnown", spec := "orderKnown", unfollowed := true, recurses := true, apart := false, narrowed := true }
def OrderKnownUptoSaid : Prop := orderKnownUptoRow.holds Try.pinned (OpenSpec.upto orderKnownSpec)

/-- 'catenarylaw05.SegParses', WHERE WHAT IT READS IS OF BULK AT MOST 1048576: true; the input reads as it did. -/
def segParsesUptoRow : OpenClaim := { program := "ytfnnjaljnfphlaa", sum := "74d91b994c9ac39b0e6932bb0ea9931a20de7e2ceece4f14a4a9cf519c852caa", func := "catenary/catenarylaw05.SegParses", spec := "segParses", unfollowed := true, recurses := true, apart := false, narrowed := true }
def SegParsesUptoSaid : Prop := segParsesUptoRow.holds Try.pinned (OpenSpec.upto segParsesSpec)

/-- 'catenarylaw05.SegBack', WHERE WHAT IT READS IS OF BULK AT MOST 1048576: true; the input reads as it did. -/
def segBackUptoRow : OpenClaim := { program := "ytfnnjaljnfphlaa", sum := "74d91b994c9ac39b0e6932bb0ea9931a20de7e2ceece4f14a4a9cf519c852caa", func := "catenary/catenarylaw05.SegBack", spec := "segBack", unfollowed := true, recurses := true, apart := false, narrowed := true }
def SegBackUptoSaid : Prop := segBackUptoRow.holds Try.pinned (OpenSpec.upto segBackSpec)

/-- 'catenarylaw05.SegAgain', WHERE WHAT IT READS IS OF BULK AT MOST 1048576: true; the input reads as it did. -/
def segAgainUptoRow : OpenClaim := { program := "ytfnnjaljnfphlaa", sum := "74d91b994c9ac39b0e6932bb0ea9931a20de7e2ceece4f14a4a9cf519c852caa", func := "catenary/catenarylaw05.SegAgain", spec := "segAgain", unfollowed := true, recurses := true, apart := false, narrowed := true }
def SegAgainUptoSaid : Prop := segAgainUptoRow.holds Try.pinned (OpenSpec.upto segAgainSpec)

/-- 'catenarylaw05.SegTurned', WHERE WHAT IT READS IS OF BULK AT MOST 1048576: true; the input reads as it did. -/
def segTurnedUptoRow : OpenClaim := { program := "ytfnnjaljnfphlaa", sum := "74d91b994c9ac39b0e6932bb0ea9931a20de7e2ceece4f14a4a9cf519c852caa", func := "catenary/catenarylaw05.SegTurned", spec := "segTurned", unfollowed := true, recurses := true, apart := false, narrowed := true }
def SegTurnedUptoSaid : Prop := segTurnedUptoRow.holds Try.pinned (OpenSpec.upto segTurnedSpec)

/-- 'catenarylaw05.SegKnown', WHERE WHAT IT READS IS OF BULK AT MOST 1048576: true; the input reads as it did. -/
def segKnownUptoRow : OpenClaim := { program := "ytfnnjaljnfphlaa", sum := "74d91b994c9ac39b0e6932bb0ea9931a20de7e2ceece4f14a4a9cf519c852caa", func := "catenary/catenarylaw05.SegKnown", spec := "segKnown", unfollowed := true, recurses := true, apart := false, narrowed := true }
def SegKnownUptoSaid : Prop := segKnownUptoRow.holds Try.pinned (OpenSpec.upto segKnownSpec)

/-- 'catenarylaw06.OrderBytes', WHERE WHAT IT READS IS OF BULK AT MOST 1048576: true; the input reads as it did. -/
def orderBytesUptoRow : OpenClaim := { program := "ytfnnjaljnfphlaa", sum := "74d91b994c9ac39b0e6932bb0ea9931a20de7e2ceece4f14a4a9cf519c852caa", func := "catenary/catenarylaw06.OrderBytes", spec := "orderBytes", unfollowed := true, recurses := true, apart := false, narrowed := true }
def OrderBytesUptoSaid : Prop := orderBytesUptoRow.holds Try.pinned (OpenSpec.upto orderBytesSpec)

/-- 'catenarylaw06.OrderParses', WHERE WHAT IT READS IS OF BULK AT MOST 1048576: true; the input reads as it did. -/
def orderParsesUptoRow : OpenClaim := { program := "ytfnnjaljnfphlaa", sum := "74d91b994c9ac39b0e6932bb0ea9931a20de7e2ceece4f14a4a9cf519c852caa", func := "catenary/catenarylaw06.OrderParses", spec := "orderParses", unfollowed := true, recurses := true, apart := false, narrowed := true }
def OrderParsesUptoSaid : Prop := orderParsesUptoRow.holds Try.pinned (OpenSpec.upto orderParsesSpec)

/-- 'catenarylaw06.OrderBack', WHERE WHAT IT READS IS OF BULK AT MOST 1048576: true; the input reads as it did. -/
def orderBackUptoRow : OpenClaim := { program := "ytfnnjaljnfphlaa", sum := "74d91b994c9ac39b0e6932bb0ea9931a20de7e2ceece4f14a4a9cf519c852caa", func := "catenary/catenarylaw06.OrderBack", spec := "orderBack", unfollowed := true, recurses := true, apart := false, narrowed := true }
def OrderBackUptoSaid : Prop := orderBackUptoRow.holds Try.pinned (OpenSpec.upto orderBackSpec)

/-- 'catenarylaw06.OrderAgain', WHERE WHAT IT READS IS OF BULK AT MOST 1048576: true; the input reads as it did. -/
def orderAgainUptoRow : OpenClaim := { program := "ytfnnjaljnfphlaa", sum := "74d91b994c9ac39b0e6932bb0ea9931a20de7e2ceece4f14a4a9cf519c852caa", func := "catenary/catenarylaw06.OrderAgain", spec := "orderAgain", unfollowed := true, recurses := true, apart := false, narrowed := true }
def OrderAgainUptoSaid : Prop := orderAgainUptoRow.holds Try.pinned (OpenSpec.upto orderAgainSpec)

end Rows
end Go.Proofs.Ytfnnjaljnfphlaa
