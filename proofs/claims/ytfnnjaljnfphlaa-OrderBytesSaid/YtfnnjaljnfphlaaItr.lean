/- The iterator of probe's numbers: its contract as a sequence. -/
import Derived.Test.YtfnnjaljnfphlaaPrb
import Derived.RangeFuncNested
import Derived.RangeFuncBound
import Derived.RangeFuncCalls
import Derived.RangeFuncLeaves
import Derived.RangeFuncBox
import Derived.Shelf.Abstract
import Derived.Shelf.RegionOpen
import Derived.OwnWalkIn
import Derived.TacticsInMore
import Derived.LoopNIn
import Derived.LoopIn
import Derived.BigRegionIn
namespace Go.Proofs.Ytfnnjaljnfphlaa
open Go.RowKit Go.Shelf
set_option maxRecDepth 100000
set_option maxHeartbeats 1000000
set_option linter.unusedSimpArgs false
set_option linter.unusedVariables false
attribute [local go_sem] Oper.semAt_some

theorem numbers_any (p : Option Addr) (w : World) :
    Calls Try.prog 70 #[.pointer p] w fun e w' => e = .returned (.func (.func 110) #[] #[.pointer (some ⟨w.heap.size, 0, none⟩)]) ∧ w.alloc (.cells #[.pointer p] 95) = w' := by
  go_enter Try.func70, Try.ntmps70
  go_wp2
  go_ret
  exact ⟨rfl, rfl⟩

/-- What lies in cells, but for the blocks of ex, lies as it lay. -/
def KpE (ex : Nat → Prop) (X Y : World) : Prop := X.heap.size ≤ Y.heap.size ∧ ∀ k c t f, ¬ ex k → X.heap[k]? = some (.cells c t f) → Y.heap[k]? = some (.cells c t f)
theorem KpE.tr {ex : Nat → Prop} {A B C : World} (h : KpE ex A B) (k : KpE ex B C) : KpE ex A C := ⟨Nat.le_trans h.1 k.1, fun i c t f hi hc => k.2 i c t f hi (h.2 i c t f hi hc)⟩
theorem KpE.bk {ex : Nat → Prop} {w : World} (W : World) (l : Nat) (o o' : Obj) (hl : w.heap.size ≤ l) (h : W.heap[l]? = some o) (hc : o.isCells = false) (_ : o.isWalk = false) : KpE ex W (W.putObj l o') := by
  refine ⟨(grownBy_putObj' W l o').size, fun k c t f _ hk => ?_⟩
  by_cases e : k = l
  · subst e
    rw [h] at hk
    cases hk
    cases hc
  · exact (World.putObj_heap_other e).trans hk
theorem KpE.bkk {ex : Nat → Prop} {A B : World} (h : KpE ex A B) {g : Nat} {t : TypeId} {cs : Array Value} (hb : Bk A g t cs) (hg : ¬ ex g) : Bk B g t cs := h.2 g cs t (0, 0) hg hb

/-- The number i of a probe: which field, and its size. -/
def szOf (i : Fin 5) : Int := if i.val = 4 then 2 else 1
abbrev encs (gp : Nat) (i : Fin 5) : Array Value := #[.pointer (some ⟨gp, i.val, none⟩), .int .i64 (szOf i)]

theorem five_next (k : Nat) (h : k < 5) : ([0, 1, 2, 3, 4] : List (Fin 5)).take (k + 1) = ([0, 1, 2, 3, 4] : List (Fin 5)).take k ++ [⟨k, h⟩] := by
  match k, h with
  | 0, _ => rfl
  | 1, _ => rfl
  | 2, _ => rfl
  | 3, _ => rfl
  | 4, _ => rfl

theorem numbers1_in (n : Nat) (hn : 1 ≤ n) (ex : Nat → Prop) (g1 gp : Nat) (w : World) (hex : ∀ k, ex k → k < w.heap.size) (hg1 : ¬ ex g1) (hb : Bk w g1 95 #[.pointer (some ⟨gp, 0, none⟩)]) :
    SeqStopsK Fence.wide n Try.prog 110 #[.pointer (some ⟨g1, 0, none⟩)] (encs gp) (KpE ex) (fun xs => xs = [0, 1, 2, 3, 4]) (fun _ => True) 5 w := fun l J Jx W hW hJ hJx hY h0 => by
  have hbW : Bk W g1 95 #[.pointer (some ⟨gp, 0, none⟩)] := hb.kept hW
  have c0 := hbW.one.1
  refine callsIn_of_wp Try.func110 rfl trivial ?_ rfl
  simp only [Try.ntmps110, List.size_toArray, List.length_cons, List.length_nil, Nat.reduceAdd, Nat.reduceSub, Array.replicate_succ, Array.replicate_zero, List.push_toArray, List.append_toArray, List.nil_append, List.cons_append]
  gi_wp2
  refine wpIn_wide.2 ?_
  go_region_held3 (fun w' => w'.cell? ⟨g1, 0, none⟩ = some (.pointer (some ⟨gp, 0, none⟩))) (first | exact c0 | exact (hbW.alloc _).one.1) (fail)
  gi_wp2
  gi_loopw [19] (fun i wr => ∃ k : Nat, k ≤ 4 ∧ i = .int .i64 k ∧ J (([0, 1, 2, 3, 4] : List (Fin 5)).take k) wr ∧ Bk wr W.heap.size 67 #[.pointer (some ⟨gp, 0, none⟩), .pointer (some ⟨gp, 1, none⟩), .pointer (some ⟨gp, 2, none⟩), .pointer (some ⟨gp, 3, none⟩)] ∧ Bk wr g1 95 #[.pointer (some ⟨gp, 0, none⟩)])
    (fun i _ => 4 - (intOf i).toNat)
  case atStart =>
    exact ⟨0, Nat.zero_le _, rfl, hJ _ _ _ none h0 (grown_drew (World.grownBy_alloc W _ none)) (fun r e => by cases e), Bk.new _ _ _, hbW.alloc _⟩
  case round =>
    obtain ⟨k, hk, rfl, hJs, hB, hG⟩ := hrel
    have d0 := hG.one.1
    by_cases hlt : k < 4
    · obtain ⟨fn, tmps, assign, body, hy, hR⟩ := hY _ ⟨k, by omega⟩ wr hJs (by simp; omega)
      have hsz : szOf ⟨k, by omega⟩ = 1 := by simp [szOf]; omega
      dsimp only [encs] at hy
      rw [hsz] at hy
      have hcell : wr.cell? ⟨W.heap.size, k, none⟩ = some (.pointer (some ⟨gp, k, none⟩)) := by
        rw [hB.cell k]
        match k, hlt with
        | 0, _ => rfl
        | 1, _ => rfl
        | 2, _ => rfl
        | 3, _ => rfl
      clear hsz
      gi_wp2
      refine hR.mono ?_
      rintro e W3 (⟨rfl, hJ3, hk3⟩ | ⟨rfl, hJx3⟩)
      · gi_wp2
        go_roundw
        case rel => exact ⟨k + 1, by omega, by go_num, (by rw [five_next k (by omega)]; exact hJ3), hk3.bkk hB (fun h => by have := hex _ h; have := hW.size; omega), hk3.bkk hG hg1⟩
        case measure => simp [intOf]; omega
      · gi_wp2
        refine bodyPost_ret (results_none rfl _ _ _) rfl ?_
        exact ⟨⟨_, rfl⟩, .inr ⟨_, trivial, hJx3⟩⟩
    · obtain rfl : k = 4 := by omega
      obtain ⟨fn, tmps, assign, body, hy, hR⟩ := hY _ ⟨4, by omega⟩ wr hJs (by simp)
      have hsz : szOf ⟨4, by omega⟩ = 2 := rfl
      dsimp only [encs] at hy
      rw [hsz] at hy
      clear hsz
      gi_wp2
      refine hR.mono ?_
      rintro e W3 (⟨rfl, hJ3, hk3⟩ | ⟨rfl, hJx3⟩)
      · gi_wp2
        go_end0
        exact ⟨⟨_, rfl⟩, .inl ⟨_, rfl, hJ3⟩⟩
      · gi_wp2
        go_end0
        exact ⟨⟨_, rfl⟩, .inr ⟨_, trivial, hJx3⟩⟩
end Go.Proofs.Ytfnnjaljnfphlaa
