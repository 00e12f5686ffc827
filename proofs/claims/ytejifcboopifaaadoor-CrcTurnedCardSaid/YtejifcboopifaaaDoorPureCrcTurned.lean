/- The statement CrcTurned over whole numbers and lists alone: bytes with their sum, of which bits are turned within 32 that follow one another, bear their sum no more. -/
import Derived.Test.YtejifcboopifaaaDoorPx7
import Derived.Test.YtejifcboopifaaaDoorPureCrcSums
import Derived.Test.YtejifcboopifaaaDoorCrcU
namespace Go.Proofs.YtejifcboopifaaaDoor.Pure
open Go Go.RowKit Go.Proofs.YtejifcboopifaaaDoor.Px Go.Proofs.YtejifcboopifaaaDoorW.PrintWords Go.Proofs.YtejifcboopifaaaDoor.Str Go.Proofs.YtejifcboopifaaaDoor.CrcB
theorem CrcTurned : gonglaw02_CrcTurned.Pure := by
  intro s a x hs _ hx
  have hx2 := wf_u32 hx
  refine ⟨works_f, fun h2 => ?_⟩
  have htl : (tagL s.data.toList).length = s.size + 4 := by rw [tagL_length]; simp
  have hm : 0 < 8 * ((s.size + 4 : Nat) : Int) - 31 := by omega
  have h0 := Int.emod_nonneg a (show 8 * ((s.size + 4 : Nat) : Int) - 31 ≠ 0 by omega)
  have h1 := Int.emod_lt_of_pos a hm
  obtain ⟨p, hp⟩ : ∃ p : Nat, a % (8 * ((s.size + 4 : Nat) : Int) - 31) = p := ⟨_, (Int.toNat_of_nonneg h0).symm⟩
  obtain ⟨l', e, hl, _, hr⟩ := turn_all (tagL s.data.toList) p x hx2.1 hx2.2 (by omega)
  have hsz : (ofL (tagL s.data.toList)).size = s.size + 4 := by rw [ofL_size, htl]
  have hopen := open_f (ofL l') (by rw [ofL_size]; omega)
  generalize hq : (if 4 ≤ (ofL l').size ∧ run all (ofL l').data.toList = residue then ((ofL l').extract 0 ((ofL l').size - 4), true) else ((⟨#[]⟩ : ByteArray), false)) = q at hopen
  refine ⟨ofL (tagL s.data.toList), q.1, p, q.2, tag_f s (by omega), ?_, hsz, ?_, by omega, ?_, ?_, ?_⟩
  · have := open_tag s.data.toList (by simp; omega)
    rw [ofL_of] at this
    exact this
  · rw [hsz, below_f a _ hm (by omega), hp]
  · rw [ints_L, ofL_L, e, nums_intsL]
    exact hopen
  · have hk : run all l' = residue ↔ x = 0 := by rw [← hr all, run_tagL]
    rw [← hq, ofL_L, ofL_size]
    by_cases hz : x = 0
    · rw [if_pos ⟨by omega, hk.2 hz⟩, decide_eq_true hz]
    · rw [if_neg (fun z => hz (hk.1 z.2)), decide_eq_false hz]
  · intro hf
    rw [← hq] at hf ⊢
    split at hf
    · cases hf
    · rename_i hne
      rw [if_neg hne]
end Go.Proofs.YtejifcboopifaaaDoor.Pure
