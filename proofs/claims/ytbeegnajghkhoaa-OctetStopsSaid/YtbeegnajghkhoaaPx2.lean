-- Laid by wip/hprint.py: the kit's print of the translation, turned in places, beside contracts that this session wrote by hand; Lean checks all of it.
import Derived.Test.YtbeegnajghkhoaaPx0
namespace Go.Proofs.Ytbeegnajghkhoaa.Px
open Go.RowKit Go.Proofs.YtbeegnajghkhoaaW.PrintWords Go.Proofs.YtbeegnajghkhoaaW.PrintLast Go.Proofs.YtbeegnajghkhoaaW.PrintMore
attribute [local go_sem] max2_int min2_int max_two min_two max_three min_three max_four min_four   -- for this text's walks alone
set_option linter.unusedVariables false
set_option linter.unusedSimpArgs false

/-! ### octet_Wide: function 11, by hand -/
def octet_Wide.f (a0 a1 : Int) : Option (ByteArray × Int) :=
  if a1 < 1 then some (⟨#[]⟩, 1) else if 8 < a1 then some (⟨#[]⟩, 1) else if a0 < 0 then some (⟨#[]⟩, 1) else if a0 ≤ 9223372036854775807 then
    (if a1 < 8 ∧ 0 < a0 / 2 ^ (8 * a1).toNat then some (⟨#[]⟩, 1) else some (strOfNums ((Go.Proofs.Ytbeegnajghkhoaa.Oct.wgo 8 a0 []).drop (8 - a1.toNat)), 0)) else none
set_option maxHeartbeats 4000000 in
set_option maxRecDepth 100000 in
theorem octet_Wide.calls (a0 a1 : Int) (r1 : ByteArray) (r2 : Int) (w : World) (h : octet_Wide.f a0 a1 = some (r1, r2)) :
    Calls Try.prog 11 #[.int .i64 a0, .int .i64 a1] w fun e w' => e = .returned (.tuple #[.string r1, .int .i64 r2]) ∧ Below w.heap.size w w' := by
  unfold octet_Wide.f at h
  by_cases h0 : a1 < 1
  · rw [if_pos h0] at h
    injection h with h
    injection h with h1 h2
    subst h1
    subst h2
    go_enter Try.func11, Try.ntmps11
    go_wp2
    go_ret2
    exact ⟨rfl, Below.refl _ _⟩
  rw [if_neg h0] at h
  by_cases h1 : 8 < a1
  · rw [if_pos h1] at h
    injection h with h
    injection h with h1 h2
    subst h1
    subst h2
    go_enter Try.func11, Try.ntmps11
    go_wp2
    go_ret2
    exact ⟨rfl, Below.refl _ _⟩
  rw [if_neg h1] at h
  by_cases h2 : a0 < 0
  · rw [if_pos h2] at h
    injection h with h
    injection h with h1 h2
    subst h1
    subst h2
    go_enter Try.func11, Try.ntmps11
    go_wp2
    go_ret2
    exact ⟨rfl, Below.refl _ _⟩
  rw [if_neg h2] at h
  by_cases h3 : a0 ≤ 9223372036854775807
  · rw [if_pos h3] at h
    obtain ⟨m, rfl⟩ : ∃ m : Nat, a1 = (m : Int) := ⟨a1.toNat, by omega⟩
    have HF := Lib.hid h
    have b0 : 1 ≤ m := by omega
    have b1 : m ≤ 8 := by omega
    have b2 : 0 ≤ a0 := by omega
    clear h h0 h1 h2
    go_enter Try.func11, Try.ntmps11
    go_wp2
    go_loopw [7, 8] (fun n at_ wr => ∃ (f : Nat) (m : Int) (acc : List Int), f ≤ 8 ∧ n = .int .i64 m ∧ 0 ≤ m ∧ m ≤ 9223372036854775807 ∧ at_ = .int .i64 ((f : Int) - 1) ∧ Hid (Go.Proofs.Ytbeegnajghkhoaa.Oct.Room wr w.heap.size 54 8 f acc) ∧ Hid (Go.Proofs.Ytbeegnajghkhoaa.Oct.wgo f m acc = Go.Proofs.Ytbeegnajghkhoaa.Oct.wgo 8 a0 []) ∧ Aside0 (Below w.heap.size w wr)) (fun _ at_ _ => (intOf at_ + 1).toNat)
    case atStart => exact ⟨8, a0, [], by omega, rfl, by omega, by omega, rfl, Lib.hid ⟨_, heap_alloc_new w _, rfl, by decide, rfl⟩, Lib.hid rfl, Aside0.mk ((Below.refl _ _).alloc (Nat.le_refl _) _)⟩
    case round =>
      obtain ⟨f, q, acc, hf, rfl, hm, hm2, rfl, HRm, HG, HB⟩ := hrel
      by_cases hp : 0 < f
      · obtain ⟨f, rfl⟩ : ∃ q, f = q + 1 := ⟨f - 1, by omega⟩
        obtain ⟨v, hc⟩ := HRm.out.cell f (by omega)
        have hfz := HRm.out.free f
        go_wp2
        exact ⟨⟨f, q / 256, q % 256 :: acc, by omega, rfl, by omega, by omega, rfl, Lib.hid (HRm.out.put _), Lib.hid (by rw [← HG.out]; rfl), Aside0.mk (HB.out.setCell (Nat.le_refl _) _)⟩, by simp [intOf]⟩
      · obtain rfl : f = 0 := by omega
        have hg : acc = Go.Proofs.Ytbeegnajghkhoaa.Oct.wgo 8 a0 [] := HG.out
        subst hg
        have e8 : (8 * (m : Int)).toNat = 8 * m := by omega
        have hf := HF.out
        rw [e8] at hf
        by_cases hq : (m : Int) < 8 ∧ 0 < a0 / 2 ^ (8 * m)
        · rw [if_pos hq] at hf
          injection hf with hf
          injection hf with h1 h2
          subst h1
          subst h2
          obtain ⟨q1, q2⟩ := hq
          go_wp2
          go_ret2
          exact ⟨rfl, HB.out⟩
        · rw [if_neg hq] at hf
          injection hf with hf
          injection hf with h1 h2
          subst h2
          have HR1 := Lib.hid h1
          clear h1
          have hd := HRm.out.drop (8 - m) (by omega)
          have hsl := Go.Proofs.Ytbeegnajghkhoaa.Oct.slice_array (P := Try.prog) wr 54 5 8 w.heap.size (8 - m) Try.underlying54 (by rfl) (by omega)
          have hback := hd.text (P := Try.prog) 53 5 Try.underlying53 Try.underlying5 9 Try.underlying9 (8 - (8 - m)) (8 - (8 - m)) (by rw [hd.length]; omega)
          rw [show ((8 - m : Nat) : Int) = 8 - (m : Int) by omega, show 8 - (8 - m) = m by omega] at hsl
          rw [show 8 - (8 - m) = m by omega, Nat.zero_add] at hback
          rw [Int.toNat_natCast] at HR1
          rw [HR1.out] at hback
          clear hd HRm HG
          by_cases hm8 : (m : Int) < 8
          · have hq2 : ¬ 0 < a0 / 2 ^ (8 * m) := fun z => hq ⟨hm8, z⟩
            clear hq
            go_wp2
            go_ret2
            exact ⟨rfl, HB.out⟩
          · clear hq
            go_wp2
            go_ret2
            exact ⟨rfl, HB.out⟩
  · rw [if_neg h3] at h
    cases h

end Go.Proofs.Ytbeegnajghkhoaa.Px
