/- Groups there and back. -/
import Derived.Test.YtbeegnajghkhoaaOctF
namespace Go.Proofs.Ytbeegnajghkhoaa.OctF
open Go Go.Proofs.Ytbeegnajghkhoaa.Str

theorem pg_hi (most : Int) (q : Nat) : ∀ acc : List UInt8, (q : Int) ≤ most → q < 72057594037927936 → pg most 9 0 (hi q ++ acc) 0 = pg most (9 - (hi q).length) q acc (hi q).length := by
  induction q using Nat.strongRecOn with
  | _ q ih =>
    intro acc hm hq
    by_cases h0 : q = 0
    · subst h0
      rw [hi_zero]
      rfl
    · have hl : (hi (q / 128)).length ≤ 7 := hi_length 7 _ (by omega)
      rw [hi_pos h0, List.append_assoc, ih (q / 128) (by omega) _ (by omega) (by omega)]
      generalize hL : (hi (q / 128)).length = L at hl
      obtain ⟨f, hf⟩ : ∃ f, 9 - L = f + 1 := ⟨8 - L, by omega⟩
      have hb : (UInt8.ofNat (q % 128 + 128)).toNat = q % 128 + 128 := toNat_ofNat (by omega)
      have hz : ¬ (L = 0 ∧ q % 128 + 128 = 128) := by
        rintro ⟨z1, z2⟩
        have hq0 : q / 128 = 0 := by
          rcases Nat.eq_zero_or_pos (q / 128) with h | h
          · exact h
          · rw [hi_pos (by omega), List.length_append] at hL
            simp at hL
            omega
        omega
      rw [hf]
      simp only [List.cons_append, List.nil_append, pg, hb]
      rw [if_neg hz, show q / 128 * 128 + (q % 128 + 128) % 128 = q by omega, if_neg (by omega), if_neg (by omega), List.length_append, hL]
      simp only [List.length_cons, List.length_nil, Nat.zero_add]
      congr 1
      omega
/-- A number's groups are read back, with whatever stands behind them. -/
theorem rdG_grp (most : Int) (n : Nat) (r : List UInt8) (hm : (n : Int) ≤ most) (hn : n < 9223372036854775808) : rdG most (grp n ++ r) = ((n : Int), ((grp n).length : Int), 0) := by
  have hl : (hi (n / 128)).length ≤ 8 := hi_length 8 _ (by omega)
  unfold rdG grp
  rw [List.append_assoc, pg_hi most (n / 128) _ (by omega) (by omega)]
  generalize hL : (hi (n / 128)).length = L at hl ⊢
  have hb : (UInt8.ofNat (n % 128)).toNat = n % 128 := toNat_ofNat (by omega)
  obtain ⟨f, hf⟩ : ∃ f, 9 - L = f + 1 := ⟨8 - L, by omega⟩
  rw [hf]
  simp only [List.cons_append, List.nil_append, pg, hb, List.length_append, List.length_cons, List.length_nil]
  rw [if_neg (by omega), show n / 128 * 128 + n % 128 % 128 = n by omega, if_neg (by omega), if_pos (by omega), hL]
/-- What is read as groups is written as just the bytes that were read. -/
theorem pg_inv (most : Int) (f : Nat) : ∀ (n : Nat) (pre l : List UInt8) (i : Nat), i = pre.length → hi n = pre → (i = 0 ↔ n = 0) → (pg most f n l i).2.2 = 0 →
    ∃ m : Nat, (pg most f n l i).1 = (m : Int) ∧ ∃ j : Nat, (pg most f n l i).2.1 = (j : Int) ∧ i ≤ j ∧ j ≤ i + l.length ∧ grp m = pre ++ l.take (j - i) := by
  induction f with
  | zero => intro n pre l i _ _ _ h; simp [pg] at h
  | succ f ih =>
    intro n pre l i hi' hp hz h
    cases l with
    | nil => simp [pg] at h
    | cons b r =>
      simp only [pg] at h ⊢
      have hbl := b.toNat_lt
      split at h
      · simp at h
      · rename_i h1
        rw [if_neg h1]
        split at h
        · simp at h
        · rename_i h2
          rw [if_neg h2]
          split at h
          · rename_i h3
            rw [if_pos h3]
            refine ⟨_, rfl, i + 1, rfl, by omega, by simp, ?_⟩
            unfold grp
            rw [show (n * 128 + b.toNat % 128) / 128 = n by omega, hp, show i + 1 - i = 1 by omega]
            simp only [List.take_succ_cons, List.take_zero]
            congr 2
            apply UInt8.toNat_inj.1
            rw [toNat_ofNat (by omega)]
            omega
          · rename_i h3
            rw [if_neg h3]
            have hn0 : n * 128 + b.toNat % 128 ≠ 0 := by
              intro z
              have : n = 0 := by omega
              exact h1 ⟨hz.2 this, by omega⟩
            have hh : hi (n * 128 + b.toNat % 128) = pre ++ [b] := by
              rw [hi_pos hn0, show (n * 128 + b.toNat % 128) / 128 = n by omega, hp]
              congr 2
              apply UInt8.toNat_inj.1
              rw [toNat_ofNat (by omega)]
              omega
            obtain ⟨m, e1, j, e2, hj1, hj2, e3⟩ := ih (n * 128 + b.toNat % 128) (pre ++ [b]) r (i + 1) (by simp; omega) hh (by omega) h
            refine ⟨m, e1, j, e2, by omega, by simp; omega, ?_⟩
            rw [e3, List.append_assoc]
            congr 1
            rw [show j - i = (j - (i + 1)) + 1 by omega, List.take_succ_cons]
            rfl
theorem rdG_inv (most : Int) (l : List UInt8) (h : (rdG most l).2.2 = 0) : ∃ m j : Nat, (rdG most l).1 = (m : Int) ∧ (rdG most l).2.1 = (j : Int) ∧ j ≤ l.length ∧ grp m = l.take j := by
  obtain ⟨m, e1, j, e2, _, h2, e3⟩ := pg_inv most 9 0 [] l 0 rfl hi_zero (by simp) h
  exact ⟨m, j, e1, e2, by simpa using h2, by simpa using e3⟩
/-- Of two numbers' groups neither begins the other, but if they are the same. -/
theorem grp_prefix {n m : Nat} (hn : n < 9223372036854775808) (hm : m < 9223372036854775808) : (grp m).take (grp n).length = grp n ↔ n = m := by
  constructor
  · intro h
    have h1 := rdG_grp 9223372036854775807 m [] (by omega) hm
    have h2 := rdG_grp 9223372036854775807 n ((grp m).drop (grp n).length) (by omega) hn
    have e : grp n ++ (grp m).drop (grp n).length = grp m := by
      have := List.take_append_drop (grp n).length (grp m)
      rw [h] at this
      exact this
    rw [List.append_nil] at h1
    rw [e, h1] at h2
    have := congrArg Prod.fst h2
    simp at this
    omega
  · rintro rfl
    rw [List.take_of_length_le (Nat.le_refl _)]
#print axioms grp_prefix
end Go.Proofs.Ytbeegnajghkhoaa.OctF
