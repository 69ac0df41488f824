/- Segments, the plain law: what has bytes is read of them as it was. -/
import Derived.Test.YtfnnjaljnfphlaaSga
namespace Go.Proofs.Ytfnnjaljnfphlaa
set_option linter.unusedSimpArgs false
set_option linter.unusedVariables false
set_option maxHeartbeats 1000000

theorem sp_fore {k t f h ep bo sq ac : Int} {l : List UInt8} (hok : SgOk k t f h ep bo sq ac l.length) :
    spE (sgB k t f h ep bo sq ac l) = 0 ∧ spQ (sgB k t f h ep bo sq ac l) = (k.toNat, t.toNat, f.toNat, h.toNat, ep.toNat, bo.toNat, sq.toNat, ac.toNat) ∧ (spT (sgB k t f h ep bo sq ac l)).1 = l := by
  have hok0 := hok
  unfold SgOk at hok
  have hlen : l.length ≤ 256 := by omega
  obtain ⟨body, hbody⟩ : ∃ body, body = be 1 k.toNat ++ (be 1 t.toNat ++ (be 1 f.toNat ++ (be 1 h.toNat ++ (be 4 ep.toNat ++ (be 4 bo.toNat ++ (be 2 sq.toNat ++ (be 2 ac.toNat ++ (be 2 l.length ++ (l ++ []))))))))) := ⟨_, rfl⟩
  have hs : sgB k t f h ep bo sq ac l = sealB 3 body := by
    rw [sgB, hbody]
    congr 1
    simp only [List.flatMap_cons, List.flatMap_nil, List.append_nil, List.nil_append, List.append_assoc]
  have hbl : body.length ≤ 509 := by rw [hbody]; simp [be_len]; omega
  have ho : openB (sgB k t f h ep bo sq ac l) = (((3 : Nat) : Int), body, 0) := by rw [hs]; exact open_fore (by omega) hbl
  have h8 : sg8 (body, 0) = ((k.toNat, t.toNat, f.toNat, h.toNat, ep.toNat, bo.toNat, sq.toNat, ac.toNat), (be 2 l.length ++ (l ++ []), 0)) := by
    unfold sg8
    rw [hbody]
    rw [rn_fore (m := 1) (x := k.toNat) (by omega)]
    simp only
    rw [rn_fore (m := 1) (x := t.toNat) (by omega)]
    simp only
    rw [rn_fore (m := 1) (x := f.toNat) (by omega)]
    simp only
    rw [rn_fore (m := 1) (x := h.toNat) (by omega)]
    simp only
    rw [rn_fore (m := 4) (x := ep.toNat) (by omega)]
    simp only
    rw [rn_fore (m := 4) (x := bo.toNat) (by omega)]
    simp only
    rw [rn_fore (m := 2) (x := sq.toNat) (by omega)]
    simp only
    rw [rn_fore (m := 2) (x := ac.toNat) (by omega)]
  have ht : rt (be 2 l.length ++ (l ++ []), 0) = (l, ([], 0)) := rt_fore (by omega)
  have hQ : spQ (sgB k t f h ep bo sq ac l) = (k.toNat, t.toNat, f.toNat, h.toNat, ep.toNat, bo.toNat, sq.toNat, ac.toNat) := by unfold spQ; rw [ho]; simp only; rw [h8]
  have hT : spT (sgB k t f h ep bo sq ac l) = (l, ([], 0)) := by unfold spT; rw [ho]; simp only; rw [h8]; exact ht
  refine ⟨?_, hQ, by rw [hT]⟩
  unfold spE
  rw [hQ, hT, ho]
  simp only
  rw [if_neg (by simp), if_pos]
  refine ⟨rfl, by simp [endE], ?_⟩
  have e1 : (k.toNat : Int) = k := by omega
  have e2 : (t.toNat : Int) = t := by omega
  have e3 : (f.toNat : Int) = f := by omega
  have e4 : (h.toNat : Int) = h := by omega
  have e5 : (ep.toNat : Int) = ep := by omega
  have e6 : (bo.toNat : Int) = bo := by omega
  have e7 : (sq.toNat : Int) = sq := by omega
  have e8 : (ac.toNat : Int) = ac := by omega
  rw [e1, e2, e3, e4, e5, e6, e7, e8]
  exact hok0
end Go.Proofs.Ytfnnjaljnfphlaa
