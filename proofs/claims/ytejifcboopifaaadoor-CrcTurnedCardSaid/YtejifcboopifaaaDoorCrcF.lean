/- The printed functions of the sums are the registers' words. -/
import Derived.Test.YtejifcboopifaaaDoorPx1
import Derived.Test.YtejifcboopifaaaDoorPx2
import Derived.Test.YtejifcboopifaaaDoorPx4
import Derived.Test.YtejifcboopifaaaDoorPx5
import Derived.Test.YtejifcboopifaaaDoorPx6
import Derived.Test.YtejifcboopifaaaDoorCrcT
import Derived.Test.YtejifcboopifaaaDoorStr
import Derived.Test.YtejifcboopifaaaDoorBRow
namespace Go.Proofs.YtejifcboopifaaaDoor.CrcB
open Go Go.RowKit Go.Proofs.YtejifcboopifaaaDoor.Px Go.Proofs.YtejifcboopifaaaDoorW.PrintWords Go.Proofs.YtejifcboopifaaaDoor.Str

/-- A text's sum, as a register. -/
def sumL (l : List UInt8) : W := run all l ^^^ all
theorem behind_f (c : W) (s : ByteArray) (h : s.size ≤ 140737488355328) : crc_behind.f (I c) s = some (I (run c s.data.toList)) := by
  unfold crc_behind.f
  rw [if_pos h, behind_I]
theorem sum_f (s : ByteArray) (h : s.size ≤ 140737488355328) : crc_Sum.f s = some (I (sumL s.data.toList)) := by
  unfold crc_Sum.f
  rw [I_all, behind_f _ _ h]
  simp only [Option.bind_some]
  rw [xor_II, BitVec.xor_comm]
  have := I_range (run all s.data.toList ^^^ all)
  rw [wrap64_id (by omega) (by omega)]
  rfl
/-- Bytes with their sum behind them. -/
def tagL (l : List UInt8) : List UInt8 := l ++ le4 (sumL l)
theorem le_I (c : W) : (crc_Tag.le 4 (I c)).map (fun n => UInt8.ofNat n.toNat) = le4 c := by
  simp only [crc_Tag.le, List.range, List.range.loop, List.map_cons, List.map_nil, crc_Tag.sh, le4, I]
  have h := c.isLt
  have e : ∀ (x : Int) (n : Nat), x = ((n % 256 : Nat) : Int) → UInt8.ofNat x.toNat = UInt8.ofNat n := fun x n hx => by
    apply UInt8.toNat_inj.1
    rw [hx, UInt8.toNat_ofNat', UInt8.toNat_ofNat', Int.toNat_natCast]
    omega
  rw [e _ c.toNat (by omega), e _ (c.toNat / 256) (by omega), e _ (c.toNat / 65536) (by omega), e _ (c.toNat / 16777216) (by omega)]
theorem tag_f (s : ByteArray) (h : s.size ≤ 1073741824) : crc_Tag.f s = some (ofL (tagL s.data.toList)) := by
  unfold crc_Tag.f
  rw [if_pos h, sum_f _ (by omega)]
  simp only [Option.bind_some, Option.some.injEq]
  apply ext
  rw [nums_L, List.map_append, le_I, ofL_L]
  unfold BR.ints
  rw [map_u8]
  rfl
theorem tagL_length (l : List UInt8) : (tagL l).length = l.length + 4 := by simp [tagL, le4]
theorem le4_inj {x y : W} (h : le4 x = le4 y) : x = y := by
  have h1 := run_le4 0#32 x
  rw [h, run_le4, BitVec.zero_xor, BitVec.zero_xor] at h1
  exact (An_inj h1).symm
theorem le4_all : ∀ l : List UInt8, l.length = 4 → ∃ x : W, l = le4 x := by
  intro l hl
  match l, hl with
  | [a, b, c, d], _ =>
    have ha := a.toNat_lt
    have hb := b.toNat_lt
    have hc := c.toNat_lt
    have hd := d.toNat_lt
    refine ⟨BitVec.ofNat 32 (a.toNat + 256 * b.toNat + 65536 * c.toNat + 16777216 * d.toNat), ?_⟩
    unfold le4
    rw [BitVec.toNat_ofNat]
    have e : ∀ (u : UInt8) (n : Nat), n % 256 = u.toNat → u = UInt8.ofNat n := fun u n h => by
      apply UInt8.toNat_inj.1
      rw [UInt8.toNat_ofNat', ← h]
    rw [← e a _ (by omega), ← e b _ (by omega), ← e c _ (by omega), ← e d _ (by omega)]
/-- Bytes bear their own sum just where the register behind them all is the residue. -/
theorem owns_iff (l : List UInt8) (h : 4 ≤ l.length) : tagL (l.take (l.length - 4)) = l ↔ run all l = residue := by
  obtain ⟨x, hx⟩ := le4_all (l.drop (l.length - 4)) (by simp; omega)
  have hl : l = l.take (l.length - 4) ++ le4 x := by rw [← hx, List.take_append_drop]
  generalize l.take (l.length - 4) = m at hl
  subst hl
  rw [tag_residue]
  unfold tagL sumL
  constructor
  · intro h
    exact (le4_inj (List.append_cancel_left h)).symm
  · intro h
    rw [h]
theorem open_f (s : ByteArray) (h : s.size ≤ 1073741824) :
    crc_Open.f s = some (if 4 ≤ s.size ∧ run all s.data.toList = residue then (s.extract 0 (s.size - 4), true) else (⟨#[]⟩, false)) := by
  unfold crc_Open.f
  by_cases h4 : 4 ≤ s.size
  · rw [if_neg (by omega), wrap64_id (by omega) (by omega), if_pos (by omega), if_pos (by omega)]
    have e : ((s.size : Int) - 4).toNat = s.size - 4 := by omega
    rw [e, tag_f _ (by rw [size_L, pre_L, List.length_take]; omega)]
    simp only [Option.bind_some]
    have hk := owns_iff s.data.toList (by simpa using h4)
    rw [toList_L, toList_L, ofL_L, pre_L, show s.size = s.data.toList.length from size_L s]
    by_cases hr : run all s.data.toList = residue
    · rw [if_pos (hk.2 hr), if_pos ⟨by simpa using h4, hr⟩]
    · rw [if_neg (fun z => hr (hk.1 z)), if_neg (fun z => hr z.2)]
  · rw [if_pos (by omega), if_neg (fun z => h4 z.1)]
theorem run_tagL (l : List UInt8) : run all (tagL l) = residue := by
  unfold tagL
  rw [tag_residue]
  rfl
/-- What was tagged is opened as it was. -/
theorem open_tag (l : List UInt8) (h : l.length ≤ 1073741820) : crc_Open.f (ofL (tagL l)) = some (ofL l, true) := by
  rw [open_f _ (by rw [ofL_size, tagL_length]; omega), if_pos ⟨by rw [ofL_size, tagL_length]; omega, by rw [ofL_L, run_tagL]⟩]
  congr 2
  apply ext
  rw [pre_L, ofL_L, ofL_size, tagL_length]
  simp [tagL]
theorem below_f (x n : Int) (h0 : 0 < n) (h1 : n ≤ 4611686018427387904) : gongbook_Below.f x n = some (x % n) := by
  unfold gongbook_Below.f
  rw [if_neg (by omega)]
  have hr := Int.tmod_lt_of_pos x h0
  have hl : -n < Int.tmod x n := by
    have := Int.lt_tmod_of_pos x h0
    omega
  rw [wrap64_id (by omega) (by omega)]
  congr 1
  have e : (Int.tmod x n + n).tmod n = (Int.tmod x n + n) % n := Int.tmod_eq_emod_of_nonneg (by omega)
  rw [e, Int.add_emod_right]
  rcases Int.le_total 0 x with hx | hx
  · rw [Int.tmod_eq_emod_of_nonneg hx, Int.emod_emod_of_dvd _ (Int.dvd_refl n)]
  · have : Int.tmod x n = x - n * Int.tdiv x n := by have := Int.mul_tdiv_add_tmod x n; omega
    rw [this, Int.sub_mul_emod_self_left]
end Go.Proofs.YtejifcboopifaaaDoor.CrcB
