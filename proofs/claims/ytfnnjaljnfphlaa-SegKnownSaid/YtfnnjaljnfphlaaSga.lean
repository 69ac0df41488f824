/- Segments, plain laws: what is read has those bytes; what has bytes is read as it was. -/
import Derived.Test.YtfnnjaljnfphlaaSgp
import Derived.Test.YtfnnjaljnfphlaaPla
namespace Go.Proofs.Ytfnnjaljnfphlaa
set_option linter.unusedSimpArgs false
set_option linter.unusedVariables false
set_option maxHeartbeats 1000000

theorem sp_again {l : List UInt8} (h : spE l = 0) : SgOk (spQ l).1 (spQ l).2.1 (spQ l).2.2.1 (spQ l).2.2.2.1 (spQ l).2.2.2.2.1 (spQ l).2.2.2.2.2.1 (spQ l).2.2.2.2.2.2.1 (spQ l).2.2.2.2.2.2.2 (spT l).1.length ∧
    sgB (spQ l).1 (spQ l).2.1 (spQ l).2.2.1 (spQ l).2.2.2.1 (spQ l).2.2.2.2.1 (spQ l).2.2.2.2.2.1 (spQ l).2.2.2.2.2.2.1 (spQ l).2.2.2.2.2.2.2 (spT l).1 = l := by
  unfold spE at h
  obtain ⟨k, body, er, ho⟩ : ∃ k body er, openB l = (k, body, er) := ⟨_, _, _, rfl⟩
  split at h
  · rename_i hne; exact absurd h hne
  · rename_i hne
    split at h
    · rename_i hc
      obtain ⟨hk, hend, hok⟩ := hc
      refine ⟨hok, ?_⟩
      clear hok
      unfold spQ
      unfold spT at hend ⊢
      rw [ho] at hk hne hend ⊢
      simp only at hk hne hend ⊢
      have he : er = 0 := by omega
      subst he
      obtain ⟨c, hkc, hl, _⟩ := open_back ho
      have hc3 : c.toNat = 3 := by omega
      obtain ⟨e1, e2⟩ := end_ok.1 hend
      obtain ⟨a9, b9, _⟩ := rt_back e1
      unfold sg8 at a9 b9 e1 e2 ⊢
      simp only at a9 b9 e1 e2 ⊢
      obtain ⟨a8, b8, _⟩ := rn_back a9
      obtain ⟨a7, b7, _⟩ := rn_back a8
      obtain ⟨a6, b6, _⟩ := rn_back a7
      obtain ⟨a5, b5, _⟩ := rn_back a6
      obtain ⟨a4, b4, _⟩ := rn_back a5
      obtain ⟨a3, b3, _⟩ := rn_back a4
      obtain ⟨a2, b2, _⟩ := rn_back a3
      obtain ⟨a1, b1, _⟩ := rn_back a2
      rw [e2, List.append_nil] at b9
      rw [b9] at b8
      rw [b8] at b7
      rw [b7] at b6
      rw [b6] at b5
      rw [b5] at b4
      rw [b4] at b3
      rw [b3] at b2
      rw [b2] at b1
      simp only [] at b1
      rw [hl, hc3, sgB]
      congr 1
      simp only [List.flatMap_cons, List.flatMap_nil, List.append_nil, List.nil_append, List.append_assoc, Int.toNat_natCast]
      exact b1.symm
    · simp at h
theorem spV_ok {l : List UInt8} (h : spE l = 0) (x : Nat) : spV l x = (x : Int) := if_pos h
theorem spV_no {l : List UInt8} (h : ¬ spE l = 0) (x : Nat) : spV l x = 0 := if_neg h
theorem spL_ok {l : List UInt8} (h : spE l = 0) : spL l = (spT l).1 := if_pos h
theorem spL_no {l : List UInt8} (h : ¬ spE l = 0) : spL l = [] := if_neg h
end Go.Proofs.Ytfnnjaljnfphlaa
