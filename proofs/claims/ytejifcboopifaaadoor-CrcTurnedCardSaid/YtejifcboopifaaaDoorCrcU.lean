/- What bits turned within 32 that follow one another make of the register behind all. -/
import Derived.Test.YtejifcboopifaaaDoorCrcF
import Derived.Test.YtejifcboopifaaaDoorTurn
namespace Go.Proofs.YtejifcboopifaaaDoor.CrcB
open Go Go.RowKit Go.Proofs.YtejifcboopifaaaDoorW.PrintWords Go.Proofs.YtejifcboopifaaaDoor.Str

def intsL (l : List UInt8) : List Int := l.map fun b => (b.toNat : Int)
theorem ints_L (s : ByteArray) : BR.ints s = intsL s.data.toList := rfl
theorem nums_intsL (l : List UInt8) : strOfNums (intsL l) = ofL l := by
  apply ext
  rw [nums_L, ofL_L]
  exact map_u8 l
theorem u8_xor (a b : Nat) (ha : a < 256) (hb : b < 256) : Go.bits .xor .u8 (a : Int) (b : Int) = ((a ^^^ b : Nat) : Int) := by
  have hx : a ^^^ b < 2 ^ 8 := Nat.xor_lt_two_pow (by omega) (by omega)
  have h1 : (BitVec.ofInt 8 (a : Int)).toNat = a := by
    rw [BitVec.ofInt_natCast, BitVec.toNat_ofNat]; exact Nat.mod_eq_of_lt (by omega)
  have h2 : (BitVec.ofInt 8 (b : Int)).toNat = b := by
    rw [BitVec.ofInt_natCast, BitVec.toNat_ofNat]; exact Nat.mod_eq_of_lt (by omega)
  show IntKind.u8.wrap ((BitVec.ofInt 8 (a : Int) ^^^ BitVec.ofInt 8 (b : Int)).toNat : Int) = _
  rw [BitVec.toNat_xor, h1, h2, IntKind.wrap_u8]
  omega
theorem flip_list (l : List UInt8) (q : Nat) (hq : q < 8 * l.length) :
    ∃ l' : List UInt8, Turn.flipI (intsL l) q = intsL l' ∧ l'.length = l.length ∧ (∀ i, i ≠ q / 8 → l'[i]? = l[i]?) ∧ ∀ c, run c l' = run c l ^^^ An (8 * l.length + 31 - q) high := by
  have hi : q / 8 < l.length := by omega
  have hj : q % 8 < 8 := Nat.mod_lt _ (by decide)
  generalize hb : l[q / 8] = b
  have hg : l[q / 8]? = some b := by rw [List.getElem?_eq_getElem hi, hb]
  have hbl := b.toNat_lt
  have hp : 2 ^ (q % 8) < 256 := Nat.lt_of_lt_of_le (Nat.pow_lt_pow_right (by decide) hj) (by decide)
  have hx : b.toNat ^^^ 2 ^ (q % 8) < 256 := Nat.xor_lt_two_pow (n := 8) (by omega) (by omega)
  refine ⟨l.set (q / 8) (UInt8.ofNat (b.toNat ^^^ 2 ^ (q % 8))), ?_, by simp, fun i hne => by rw [List.getElem?_set_ne (Ne.symm hne)], fun c => ?_⟩
  · unfold Turn.flipI intsL
    rw [List.map_set]
    have e1 : (l.map fun b => (b.toNat : Int)).getD (q / 8) 0 = (b.toNat : Int) := by
      simp [List.getD, hg]
    have e2 : (2 : Int) ^ (q % 8) % 256 = ((2 ^ (q % 8) : Nat) : Int) := by
      have : ((2 : Int) ^ (q % 8)) = ((2 ^ (q % 8) : Nat) : Int) := by simp
      rw [this]
      exact Int.emod_eq_of_lt (Int.natCast_nonneg _) (Int.ofNat_lt.2 hp)
    rw [e1, e2, u8_xor _ _ hbl hp]
    congr 1
    rw [UInt8.toNat_ofNat', Nat.mod_eq_of_lt hx]
  · have h := run_flip c l (q / 8) b (UInt8.ofNat (b.toNat ^^^ 2 ^ (q % 8))) (q % 8) hj hi hg (by
      unfold byte bit
      rw [UInt8.toNat_ofNat', Nat.mod_eq_of_lt hx]
      apply BitVec.eq_of_toNat_eq
      have m1 : (b.toNat ^^^ 2 ^ (q % 8)) % 2 ^ 32 = b.toNat ^^^ 2 ^ (q % 8) := Nat.mod_eq_of_lt (by omega)
      have m2 : b.toNat % 2 ^ 32 = b.toNat := Nat.mod_eq_of_lt (by omega)
      have m3 : 2 ^ (q % 8) % 2 ^ 32 = 2 ^ (q % 8) := Nat.mod_eq_of_lt (by omega)
      rw [BitVec.toNat_xor, BitVec.toNat_ofNat, BitVec.toNat_ofNat, BitVec.toNat_ofNat, m1, m2, m3])
    rw [h]
    congr 2
    omega

/-- A register's lowest k bits. -/
def low : Nat → W → W
  | 0, _ => 0#32
  | k + 1, x => low k x ^^^ (if x.getLsbD k then bit k else 0#32)
theorem low_get (k : Nat) (hk : k ≤ 32) (x : W) (i : Nat) (hi : i < 32) : (low k x).getLsbD i = (decide (i < k) && x.getLsbD i) := by
  induction k with
  | zero => simp [low]
  | succ k ih =>
    unfold low
    rw [BitVec.getLsbD_xor, ih (by omega)]
    by_cases h : i = k
    · subst h
      cases hx : x.getLsbD i <;> simp [bit_get _ _ hi]
    · have h1 : (i < k + 1) = (i < k) := by apply propext; omega
      simp only [h1]
      split
      · rw [bit_get _ _ (by omega)]; simp [h]
      · simp
theorem low_all (x : W) : low 32 x = x := by
  apply BitVec.eq_of_getLsbD_eq
  intro i hi
  rw [low_get 32 (Nat.le_refl _) x i hi]
  simp [hi]
theorem bit_test (x : W) (k : Nat) : (Go.bits .and .u32 (I x / 2 ^ k) 1 = 1) ↔ x.getLsbD k = true := by
  have e : I x / 2 ^ k = I (x >>> k) := by
    unfold I
    rw [BitVec.toNat_ushiftRight, Nat.shiftRight_eq_div_pow]
    simp
  rw [e, lsb_I, BitVec.getLsbD_ushiftRight, Nat.add_zero]
theorem turn_list (l : List UInt8) (p : Nat) (x : W) (hp : p + 32 ≤ 8 * l.length) (k : Nat) (hk : k ≤ 32) :
    ∃ l' : List UInt8, Turn.turnI (intsL l) p (I x) k = intsL l' ∧ l'.length = l.length ∧ (∀ i, (i < p / 8 ∨ (p + 31) / 8 < i) → l'[i]? = l[i]?) ∧ ∀ c, run c l' = run c l ^^^ An (8 * l.length - p) (low k x) := by
  induction k with
  | zero => exact ⟨l, rfl, rfl, fun _ _ => rfl, fun c => by unfold low; rw [An_zero_arg, BitVec.xor_zero]⟩
  | succ k ih =>
    obtain ⟨l', e, hl, hsame, hr⟩ := ih (by omega)
    by_cases h : x.getLsbD k = true
    · obtain ⟨l2, e2, hl2, hs2, hr2⟩ := flip_list l' (p + k) (by omega)
      refine ⟨l2, by rw [Turn.turnI_yes ((bit_test x k).2 h), e, e2], by omega, fun i hi => ?_, fun c => ?_⟩
      · rw [hs2 i (by omega), hsame i hi]
      · rw [hr2, hr, BitVec.xor_assoc]
        have ee : 8 * l'.length + 31 - (p + k) = (8 * l.length - p) + (31 - k) := by omega
        rw [ee, An_add, ← bit_An (by omega), ← An_xor]
        show _ = run c l ^^^ An _ (low k x ^^^ (if x.getLsbD k then bit k else 0#32))
        rw [if_pos h]
    · refine ⟨l', by rw [Turn.turnI_no (fun z => h ((bit_test x k).1 z)), e], hl, hsame, fun c => ?_⟩
      rw [hr]
      show _ = run c l ^^^ An _ (low k x ^^^ (if x.getLsbD k then bit k else 0#32))
      rw [if_neg h, BitVec.xor_zero]
/-- All 32. -/
theorem turn_all (l : List UInt8) (p : Nat) (x : Int) (h0 : 0 ≤ x) (h1 : x < 4294967296) (hp : p + 32 ≤ 8 * l.length) :
    ∃ l' : List UInt8, Turn.turnI (intsL l) p x 32 = intsL l' ∧ l'.length = l.length ∧ (∀ i, (i < p / 8 ∨ (p + 31) / 8 < i) → l'[i]? = l[i]?) ∧ (∀ c, run c l' = run c l ↔ x = 0) := by
  obtain ⟨l', e, hl, hs, hr⟩ := turn_list l p (B x) hp 32 (Nat.le_refl _)
  rw [I_B h0 h1] at e
  refine ⟨l', e, hl, hs, fun c => ?_⟩
  rw [hr c, low_all]
  constructor
  · intro h
    have h2 : An (8 * l.length - p) (B x) = 0#32 := by
      have h3 : run c l ^^^ (run c l ^^^ An (8 * l.length - p) (B x)) = run c l ^^^ run c l := by rw [h]
      rw [← BitVec.xor_assoc, BitVec.xor_self, BitVec.zero_xor] at h3
      exact h3
    have h4 := An_zero h2
    rw [← I_B h0 h1, h4]
    decide
  · intro h
    subst h
    rw [show B 0 = 0#32 by decide, An_zero_arg, BitVec.xor_zero]
end Go.Proofs.YtejifcboopifaaaDoor.CrcB
