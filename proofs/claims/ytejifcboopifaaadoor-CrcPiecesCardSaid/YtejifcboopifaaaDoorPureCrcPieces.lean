/- The statement CrcPieces over whole numbers and lists alone: of at most 3000 bytes the sum is that of their pieces, one behind the other, and joined. -/
import Derived.Test.YtejifcboopifaaaDoorPx20
import Derived.Test.YtejifcboopifaaaDoorPx17
import Derived.Test.YtejifcboopifaaaDoorPx18
import Derived.Test.YtejifcboopifaaaDoorPx19
import Derived.Test.YtejifcboopifaaaDoorPureCrcSums
namespace Go.Proofs.YtejifcboopifaaaDoor.CrcB
open Go Go.RowKit Go.Proofs.YtejifcboopifaaaDoor.Px Go.Proofs.YtejifcboopifaaaDoorW.PrintWords Go.Proofs.YtejifcboopifaaaDoor.Str

theorem bit_half (j : Nat) (hj : j + 1 < 32) : I (bit (j + 1)) / (2 : Int) = I (bit j) := by
  rw [I_half]
  congr 1
  apply BitVec.eq_of_getLsbD_eq
  intro i hi
  rw [BitVec.getLsbD_ushiftRight, bit_get _ _ (by omega), bit_get _ _ (by omega)]
  congr 1
  apply propext
  omega
theorem and_bit (a : W) (j : Nat) (hj : j < 32) : (Go.bits .and .u32 (I a) (I (bit j)) = 0) ↔ a.getLsbD j = false := by
  rw [and_I, B_I, B_I, show (0 : Int) = I 0#32 by decide, I_eq]
  constructor
  · intro h
    have := congrArg (fun z => BitVec.getLsbD z j) h
    simpa [bit_get _ _ hj] using this
  · intro h
    apply BitVec.eq_of_getLsbD_eq
    intro i hi
    rw [BitVec.getLsbD_and, bit_get _ _ hj]
    by_cases e : i = j
    · subst e; simp [h]
    · simp [e]
/-- One round of the product: the last power is the first to come, so it goes by what is left. -/
theorem times_round (k : Nat) (a b out m : W) (hm : I m > 0) :
    crc_times.l0 (k + 1) (I a) (I b) (I out) (I m) = crc_times.l0 k (I a) (I (A b)) (if Go.bits .and .u32 (I a) (I m) = 0 then I out else I (out ^^^ b)) (I m / 2) := by
  simp only [crc_times.l0]
  rw [if_pos hm, ← A_I]
  by_cases h : Go.bits .and .u32 (I a) (I m) = 0
  · simp only [if_pos h]
    split <;> rfl
  · simp only [if_neg h, xor_II]
    split <;> rfl
theorem times_l0 (a b : W) (n : Nat) (hn : n ≤ 32) : ∀ d, n = 32 - d → d ≤ 32 → Ev (fun k => crc_times.l0 k (I a) (I (An n b)) (I (T n a b)) (if d = 0 then 0 else I (bit (d - 1)))) (I (T 32 a b)) := by
  intro d
  induction d generalizing n with
  | zero =>
    intro e _
    obtain rfl : n = 32 := by omega
    refine Ev.step (f := fun _ => some (I (T 32 a b))) (fun k => ?_) (Ev.now _)
    simp only [crc_times.l0]
    rw [if_pos trivial, if_neg (by decide)]
  | succ d ih =>
    intro e hd
    have h := ih (n + 1) (by omega) (by omega) (by omega)
    refine Ev.step (f := fun k => crc_times.l0 k (I a) (I (An (n + 1) b)) (I (T (n + 1) a b)) (if d = 0 then 0 else I (bit (d - 1)))) (fun k => ?_) h
    rw [if_neg (by omega)]
    simp only [Nat.add_sub_cancel]
    have hpos : I (bit d) > 0 := by
      unfold I bit
      rw [BitVec.toNat_ofNat, Nat.mod_eq_of_lt (Nat.pow_lt_pow_right (by decide) (by omega))]
      have := Nat.two_pow_pos d
      omega
    rw [times_round k a (An n b) (T n a b) (bit d) hpos, ← An_succ]
    congr 1
    · show _ = I (T n a b ^^^ (if a.getLsbD (31 - n) then An n b else 0#32))
      rw [show 31 - n = d by omega]
      cases hg : a.getLsbD d with
      | false => rw [if_pos ((and_bit a d (by omega)).2 hg)]; simp
      | true => rw [if_neg (fun z => by rw [(and_bit a d (by omega)).1 z] at hg; cases hg)]; simp
    · cases d with
      | zero => decide
      | succ d => rw [if_neg (by omega), bit_half d (by omega)]; rfl
theorem times_ev (a b : W) : Ev (fun k => crc_times.f k (I a) (I b)) (I (T 32 a b)) := by
  have h := times_l0 a b 0 (by omega) 32 (by omega) (by omega)
  refine Ev.congr (fun k => ?_) h
  unfold crc_times.f
  rfl
theorem i64_and1 (x : Nat) (hx : x < 9223372036854775808) : (Go.bits .and .i64 (x : Int) 1 = 1) ↔ x % 2 = 1 := by
  have e : Go.bits .and .i64 (x : Int) 1 = ((x % 2 : Nat) : Int) := by
    have := bits_mask .i64 63 (by decide) (fun n h0 h1 => by rw [IntKind.wrap_i64]; omega) 1 (by decide) (x : Int) (by omega) (by omega)
    simpa using this
  rw [e]
  omega
theorem shift_l0 (n : Nat) : ∀ (k m : Nat), n < 9223372036854775808 → Ev (fun r => crc_shift.l0 r (n : Int) (I (An k high)) (I (An m high))) (I (An (k + m * n) high)) := by
  induction n using Nat.strongRecOn with
  | _ n ih =>
    intro k m hn
    by_cases h0 : n = 0
    · subst h0
      refine Ev.step (f := fun _ => some (I (An k high))) (fun r => ?_) (Ev.now _)
      simp only [crc_shift.l0]
      rw [if_neg (by decide)]
    · have hpos : (n : Int) > 0 := by omega
      have ediv : (n : Int) / 2 = ((n / 2 : Nat) : Int) := by omega
      have two : I (T 32 (An m high) (An m high)) = I (An (m + m) high) := by rw [T_pow, ← An_add]
      have add : I (T 32 (An k high) (An m high)) = I (An (k + m) high) := by rw [T_pow, ← An_add]
      by_cases h1 : n % 2 = 1
      · have e : k + m + (m + m) * (n / 2) = k + m * n := by
          have h2 : n = 2 * (n / 2) + 1 := by omega
          generalize n / 2 = q at h2 ⊢
          subst h2
          rw [Nat.mul_add, ← Nat.mul_assoc, Nat.mul_one, Nat.mul_comm m 2, Nat.two_mul]
          omega
        refine Ev.step (f := fun r => (crc_times.f r (I (An k high)) (I (An m high))).bind fun t => (crc_times.f r (I (An m high)) (I (An m high))).bind fun t2 => crc_shift.l0 r ((n : Int) / 2) t t2) (fun r => ?_) ?_
        · simp only [crc_shift.l0]
          rw [if_pos hpos, if_pos ((i64_and1 n hn).2 h1)]
        · refine Ev.bind (times_ev _ _) (Ev.bind (times_ev _ _) ?_)
          rw [two, add, ediv, ← e]
          exact ih (n / 2) (by omega) _ _ (by omega)
      · have e : k + (m + m) * (n / 2) = k + m * n := by
          have h2 : n = 2 * (n / 2) := by omega
          generalize n / 2 = q at h2 ⊢
          subst h2
          rw [← Nat.mul_assoc, Nat.mul_comm m 2, Nat.two_mul]
        refine Ev.step (f := fun r => (crc_times.f r (I (An m high)) (I (An m high))).bind fun t2 => crc_shift.l0 r ((n : Int) / 2) (I (An k high)) t2) (fun r => ?_) ?_
        · simp only [crc_shift.l0]
          rw [if_pos hpos, if_neg (fun z => h1 ((i64_and1 n hn).1 z))]
        · refine Ev.bind (times_ev _ _) ?_
          rw [two, ediv, ← e]
          exact ih (n / 2) (by omega) _ _ (by omega)
theorem shift_ev (n : Nat) (hn : n < 9223372036854775808) : Ev (fun r => crc_shift.f r (n : Int)) (I (An (8 * n) high)) := by
  have h := shift_l0 n 0 8 hn
  have e8 : I (An 8 high) = 8388608 := by decide +kernel
  rw [show 0 + 8 * n = 8 * n by omega, e8] at h
  exact h
theorem join_ev (a b : W) (n : Nat) (hn : n ≤ 1099511627776) : Ev (fun k => crc_Join.f k (I a) (I b) (n : Int)) (I (An (8 * n) a ^^^ b), 0) := by
  have ra := I_range a
  have rb := I_range b
  have hj : Ev (fun k => crc_Join.j0 k (I a) (I b) (n : Int) false) (I (An (8 * n) a ^^^ b), 0) := by
    refine Ev.step (f := fun k => (crc_shift.f k (n : Int)).bind fun t => (crc_times.f k t (I a % 4294967296)).bind fun t2 => some (wrap64 (Go.bits .xor .u32 t2 (I b % 4294967296)), 0)) (fun k => ?_) ?_
    · simp only [crc_Join.j0]
      rw [if_neg (by decide)]
    · refine Ev.bind (shift_ev n (by omega)) ?_
      rw [show I a % 4294967296 = I a by omega, show I b % 4294967296 = I b by omega]
      refine Ev.bind (times_ev _ _) ?_
      rw [T_pow, xor_II]
      have := I_range (An (8 * n) a ^^^ b)
      rw [wrap64_id (by omega) (by omega)]
      exact Ev.now _
  refine Ev.congr (fun k => ?_) hj
  unfold crc_Join.f
  rw [isSum_f, isSum_f]
  simp only [Option.bind_some]
  rw [decide_eq_true (show 0 ≤ I a ∧ I a ≤ 4294967295 by omega), if_pos rfl, decide_eq_true (show 0 ≤ I b ∧ I b ≤ 4294967295 by omega), if_pos rfl, if_neg (by omega), decide_eq_false (by omega)]
/-- The sum of two pieces, by their sums. -/
theorem sum_join (l m : List UInt8) : sumL (l ++ m) = An (8 * m.length) (sumL l) ^^^ sumL m := by
  unfold sumL
  rw [run_append, show run all l = all ^^^ (run all l ^^^ all) by rw [BitVec.xor_comm, BitVec.xor_assoc, BitVec.xor_self, BitVec.xor_zero], run_xor]
  rw [show all ^^^ (run all l ^^^ all) = run all l by rw [BitVec.xor_comm, BitVec.xor_assoc, BitVec.xor_self, BitVec.xor_zero]]
  ac_rfl
theorem sum_more (l m : List UInt8) : run (sumL l ^^^ all) m ^^^ all = sumL (l ++ m) := by
  unfold sumL
  rw [BitVec.xor_assoc, BitVec.xor_self, BitVec.xor_zero, run_append]
end Go.Proofs.YtejifcboopifaaaDoor.CrcB
namespace Go.Proofs.YtejifcboopifaaaDoor.Pure
open Go Go.RowKit Go.Proofs.YtejifcboopifaaaDoor.Px Go.Proofs.YtejifcboopifaaaDoorW.PrintWords Go.Proofs.YtejifcboopifaaaDoor.Str Go.Proofs.YtejifcboopifaaaDoor.CrcB
theorem CrcPieces : gonglaw02_CrcPieces.Pure := by
  intro s x hs _
  apply Ev.rounds
  unfold gonglaw02_CrcPieces.f
  rw [works_f]
  simp only [Option.bind_some, if_true]
  by_cases h3 : (s.size : Int) > 3000
  · refine Ev.congr (f := fun _ => some true) (fun k => ?_) (Ev.now _)
    rw [if_pos h3]
  · simp only [if_neg h3]
    rw [wrap64_id (by omega) (by omega), below_f x _ (by omega) (by omega)]
    simp only [Option.bind_some]
    obtain ⟨k, hk⟩ : ∃ k : Nat, x % ((s.size : Int) + 1) = k := ⟨(x % ((s.size : Int) + 1)).toNat, by
      have := Int.emod_nonneg x (show (s.size : Int) + 1 ≠ 0 by omega)
      omega⟩
    have hle : k ≤ s.size := by
      have := Int.emod_lt_of_pos x (show 0 < (s.size : Int) + 1 by omega)
      omega
    have c1 : (0 : Int) ≤ (k : Int) := by omega
    have c2 : (k : Int) ≤ (s.size : Int) := by omega
    rw [hk]
    simp only [if_pos c1, if_pos c2]
    rw [Int.toNat_natCast, wrap64_id (by omega) (by omega)]
    have hl : (s.data.toList.take k) ++ (s.data.toList.drop k) = s.data.toList := List.take_append_drop _ _
    have hd : (s.data.toList.drop k).length = s.size - k := by simp
    rw [sum_f _ (by rw [size_L, pre_L, List.length_take]; omega), sum_f (s.extract k s.size) (by rw [size_L, post_L, hd]; omega), pre_L, post_L]
    simp only [Option.bind_some]
    have r1 := I_range (sumL (s.data.toList.take k))
    rw [more_f _ _ (by rw [size_L, post_L, hd]; omega), post_L, if_pos (by omega), B_I, sum_more, hl]
    simp only [Option.bind_some]
    rw [show (s.size : Int) - (k : Int) = ((s.size - k : Nat) : Int) by omega]
    refine Ev.bind (join_ev _ _ _ (by omega)) ?_
    rw [← hd, ← sum_join, hl, more_f 0 s (by omega), if_pos (by omega)]
    simp only [Option.bind_some]
    have e0 : I (run (B 0 ^^^ all) s.data.toList ^^^ all) = I (sumL s.data.toList) := by
      unfold sumL
      rw [show B 0 = 0#32 by decide, BitVec.zero_xor]
    rw [e0, sum_f s (by omega)]
    have r2 := I_range (sumL s.data.toList)
    refine Ev.congr (f := fun _ => some true) (fun k => ?_) (Ev.now _)
    simp only [Option.bind_some, if_true]
    rw [if_pos (by omega), decide_eq_true (by omega)]
end Go.Proofs.YtejifcboopifaaaDoor.Pure
