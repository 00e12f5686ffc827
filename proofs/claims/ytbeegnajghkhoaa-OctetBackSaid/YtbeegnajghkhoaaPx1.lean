-- Laid by wip/hprint.py: the kit's print of the translation, turned in places, beside contracts that this session wrote by hand; Lean checks all of it.
import Derived.Test.YtbeegnajghkhoaaPx0
namespace Go.Proofs.Ytbeegnajghkhoaa.Px
open Go.RowKit Go.Proofs.YtbeegnajghkhoaaW.PrintWords Go.Proofs.YtbeegnajghkhoaaW.PrintLast Go.Proofs.YtbeegnajghkhoaaW.PrintMore
attribute [local go_sem] max2_int min2_int max_two min_two max_three min_three max_four min_four   -- for this text's walks alone
set_option linter.unusedVariables false
set_option linter.unusedSimpArgs false

/-! ### octet_Groups: function 9, by hand -/
def octet_Groups.f (a0 : Int) : Option (ByteArray × Int) := if a0 < 0 then some (⟨#[]⟩, 1) else if a0 ≤ 9223372036854775807 then some (strOfNums (Go.Proofs.Ytbeegnajghkhoaa.Oct.groupsI a0), 0) else none
set_option maxHeartbeats 2000000 in
set_option maxRecDepth 100000 in
theorem octet_Groups.calls (a0 : Int) (r1 : ByteArray) (r2 : Int) (w : World) (h : octet_Groups.f a0 = some (r1, r2)) :
    Calls Try.prog 9 #[.int .i64 a0] w fun e w' => e = .returned (.tuple #[.string r1, .int .i64 r2]) ∧ Below w.heap.size w w' := by
  unfold octet_Groups.f at h
  by_cases h0 : a0 < 0
  · rw [if_pos h0] at h
    injection h with h
    injection h with h1 h2
    subst h1
    subst h2
    go_enter Try.func9, Try.ntmps9
    go_wp2
    go_ret2
    exact ⟨rfl, Below.refl _ _⟩
  · rw [if_neg h0] at h
    by_cases h1 : a0 ≤ 9223372036854775807
    · rw [if_pos h1] at h
      injection h with h
      injection h with h2 h3
      have HR := Lib.hid h2
      subst h3
      clear h2
      have hn : 0 ≤ a0 := by omega
      clear h0
      go_enter Try.func9, Try.ntmps9
      go_wp2
      go_loopw [0, 5] (fun n at_ wr => ∃ (f : Nat) (m : Int) (acc : List Int), f ≤ 8 ∧ n = .int .i64 m ∧ 0 ≤ m ∧ m < 128 ^ f ∧ at_ = .int .i64 f ∧ Hid (Go.Proofs.Ytbeegnajghkhoaa.Oct.Room wr w.heap.size 51 9 f acc) ∧ Hid (Go.Proofs.Ytbeegnajghkhoaa.Oct.go f m acc = Go.Proofs.Ytbeegnajghkhoaa.Oct.groupsI a0) ∧ Aside0 (Below w.heap.size w wr)) (fun _ at_ _ => (intOf at_).toNat)
      case atStart => exact ⟨8, a0 / 128, [a0 % 128], by omega, rfl, by omega, by omega, rfl, Lib.hid ⟨_, heap_alloc_new w _, rfl, by decide, rfl⟩, Lib.hid rfl, Aside0.mk ((Below.refl _ _).alloc (Nat.le_refl _) _)⟩
      case round =>
        obtain ⟨f, m, acc, hf, rfl, hm, hm2, rfl, HRm, HG, HB⟩ := hrel
        by_cases hp : 0 < m
        · obtain ⟨f, rfl⟩ : ∃ q, f = q + 1 := ⟨f - 1, by
            rcases Nat.eq_zero_or_pos f with rfl | h
            · simp at hm2; omega
            · omega⟩
          have hc := HRm.out.cell f (by omega)
          obtain ⟨v, hc⟩ := hc
          have hfz := HRm.out.free f
          go_wp2
          have hlt : m / 128 < 128 ^ f := by rw [Int.pow_succ] at hm2; omega
          exact ⟨⟨f, m / 128, Go.Proofs.Ytbeegnajghkhoaa.Oct.gB m :: acc, by omega, rfl, by omega, hlt, rfl, Lib.hid (HRm.out.put _), Lib.hid (by rw [← HG.out, Go.Proofs.Ytbeegnajghkhoaa.Oct.go_pos _ _ _ hp]), Aside0.mk (HB.out.setCell (Nat.le_refl _) _)⟩, by simp [intOf]⟩
        · obtain rfl : m = 0 := by omega
          have hg := HG.out
          rw [Go.Proofs.Ytbeegnajghkhoaa.Oct.go_zero] at hg
          subst hg
          have hback := HRm.out.text (P := Try.prog) 53 5 Try.underlying53 Try.underlying5 9 Try.underlying9 (9 - f) (9 - f) HRm.out.length.symm
          rw [HR.out] at hback
          have hsl := Go.Proofs.Ytbeegnajghkhoaa.Oct.slice_array (P := Try.prog) wr 51 5 9 w.heap.size f Try.underlying51 (by rfl) (by omega)
          go_wp2
          go_ret2
          exact ⟨rfl, HB.out⟩
    · rw [if_neg h1] at h
      cases h

end Go.Proofs.Ytbeegnajghkhoaa.Px
