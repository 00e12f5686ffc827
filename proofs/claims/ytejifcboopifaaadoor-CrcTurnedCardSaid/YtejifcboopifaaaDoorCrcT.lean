/- Products of registers, and what many bytes of nought make of one. And the registers as whole numbers, as the walk has them. -/
import Derived.Test.YtejifcboopifaaaDoorCrcB
import Derived.Test.YtejifcboopifaaaDoorCrc
namespace Go.Proofs.YtejifcboopifaaaDoor.CrcB

/-- The product, by its first n powers. -/
def T : Nat → W → W → W
  | 0, _, _ => 0#32
  | n + 1, a, b => T n a b ^^^ (if a.getLsbD (31 - n) then An n b else 0#32)
theorem T_xor (n : Nat) (a b c : W) : T n a (b ^^^ c) = T n a b ^^^ T n a c := by
  induction n with
  | zero => simp [T]
  | succ n ih =>
    unfold T
    rw [ih]
    split
    · rw [An_xor]; ac_rfl
    · simp
theorem A_zero_arg : A 0#32 = 0#32 := by decide
theorem T_A (n : Nat) (a b : W) : T n a (A b) = A (T n a b) := by
  induction n with
  | zero => simp [T, A_zero_arg]
  | succ n ih =>
    unfold T
    rw [ih, A_xor]
    split
    · rw [show An n (A b) = An (n + 1) b from rfl, An_succ]
    · rw [A_zero_arg]
theorem T_An (n m : Nat) (a b : W) : T n a (An m b) = An m (T n a b) := by
  induction m generalizing b with
  | zero => rfl
  | succ m ih => rw [An_succ, T_A, ih, ← An_succ]
theorem bit_get (j i : Nat) (hj : j < 32) : (bit j).getLsbD i = decide (i = j) := by
  unfold bit
  rw [BitVec.getLsbD_ofNat, Nat.testBit_two_pow]
  by_cases h : i = j
  · subst h; simp [hj]
  · simp [h, Ne.symm h]
theorem T_high_get (n : Nat) (hn : n ≤ 32) (b : W) (i : Nat) (hi : i < 32) : (T n b high).getLsbD i = (decide (31 - i < n) && b.getLsbD i) := by
  induction n with
  | zero => simp [T]
  | succ n ih =>
    unfold T
    rw [BitVec.getLsbD_xor, ih (by omega)]
    have hb : An n high = bit (31 - n) := by rw [bit_An (by omega)]; congr 1; omega
    rw [hb]
    by_cases h : i = 31 - n
    · subst h
      have h1 : ¬ (31 - (31 - n) < n) := by omega
      have h2 : 31 - (31 - n) < n + 1 := by omega
      cases hx : b.getLsbD (31 - n) <;> simp [h1, h2, bit_get _ _ (show 31 - n < 32 by omega)]
    · have h1 : (31 - i < n + 1) = (31 - i < n) := by apply propext; omega
      simp only [h1]
      split
      · rw [bit_get _ _ (by omega)]; simp [h]
      · simp
theorem T_high (b : W) : T 32 b high = b := by
  apply BitVec.eq_of_getLsbD_eq
  intro i hi
  rw [T_high_get 32 (Nat.le_refl _) b i hi]
  have : 31 - i < 32 := by omega
  simp [this]
/-- The product by a power is the power. -/
theorem T_pow (m : Nat) (b : W) : T 32 (An m high) b = An m b := by
  have key : ∀ n, T 32 (An m high) (T n b high) = An m (T n b high) := by
    intro n
    induction n with
    | zero =>
      show T 32 (An m high) 0#32 = An m 0#32
      have := T_xor 32 (An m high) 0#32 0#32
      rw [BitVec.xor_self, BitVec.xor_self] at this
      rw [this, An_zero_arg]
    | succ n ih =>
      show T 32 (An m high) (T n b high ^^^ _) = An m (T n b high ^^^ _)
      rw [T_xor, An_xor, ih]
      congr 1
      split
      · rw [T_An, T_high, ← An_add, ← An_add, Nat.add_comm]
      · have := T_xor 32 (An m high) 0#32 0#32
        rw [BitVec.xor_self, BitVec.xor_self] at this
        rw [this, An_zero_arg]
  have := key 32
  rw [T_high] at this
  exact this

/-! ### As whole numbers -/
open Go
def B (x : Int) : W := BitVec.ofInt 32 x
def I (b : W) : Int := (b.toNat : Int)
theorem I_range (b : W) : 0 ≤ I b ∧ I b < 4294967296 := by
  unfold I
  have := b.isLt
  omega
theorem B_I (b : W) : B (I b) = b := by
  unfold B I
  rw [BitVec.ofInt_natCast]
  simp
theorem I_B {x : Int} (h0 : 0 ≤ x) (h1 : x < 4294967296) : I (B x) = x := by
  unfold B I
  rw [BitVec.toNat_ofInt]
  omega
theorem I_inj {a b : W} (h : I a = I b) : a = b := by rw [← B_I a, h, B_I]
theorem I_eq {a b : W} : I a = I b ↔ a = b := ⟨I_inj, fun h => by rw [h]⟩
theorem wrapI (b : W) : IntKind.u32.wrap (b.toNat : Int) = I b := by
  rw [IntKind.wrap_u32]
  have := b.isLt
  unfold I
  omega
theorem xor_I (x y : Int) : Go.bits .xor .u32 x y = I (B x ^^^ B y) := wrapI _
theorem and_I (x y : Int) : Go.bits .and .u32 x y = I (B x &&& B y) := wrapI _
theorem xor_II (a b : W) : Go.bits .xor .u32 (I a) (I b) = I (a ^^^ b) := by rw [xor_I, B_I, B_I]
theorem I_half (c : W) : I c / (2 : Int) = I (c >>> 1) := by
  unfold I
  rw [BitVec.toNat_ushiftRight, Nat.shiftRight_eq_div_pow]
  omega
theorem I_16 (c : W) : I c / (16 : Int) = I (c >>> 4) := by
  unfold I
  rw [BitVec.toNat_ushiftRight, Nat.shiftRight_eq_div_pow]
  omega
theorem I_256 (c : W) : I c / (256 : Int) = I (c >>> 8) := by
  unfold I
  rw [BitVec.toNat_ushiftRight, Nat.shiftRight_eq_div_pow]
  omega
theorem I_all : (4294967295 : Int) = I all := by decide
theorem I_poly : (3988292384 : Int) = I poly := by decide
theorem I_high : (2147483648 : Int) = I high := by decide

theorem half_I : ∀ i : Fin 16, Crc.halfL.getD i.val 0 = I (halfB i.val) := by decide
theorem nib_I (c : W) : Crc.nib (I c) = I (An 4 c) := by
  unfold Crc.nib
  rw [Crc.and15, I_16]
  have h := half_I ⟨c.toNat % 16, Nat.mod_lt _ (by decide)⟩
  simp only at h
  have e : (I c % 16).toNat = c.toNat % 16 := by unfold I; omega
  rw [e, h, xor_II, An4]
theorem step_I (c : W) (b : UInt8) : Crc.stepI (I c) (b.toNat : Int) = I (step c (byte b)) := by
  unfold Crc.stepI
  have e : ((b.toNat : Nat) : Int) = I (byte b) := by
    unfold I byte
    have := b.toNat_lt
    rw [BitVec.toNat_ofNat]
    omega
  rw [e, xor_II, nib_I, nib_I, ← An_add]
  rfl
theorem behind_I (c : W) (l : List UInt8) : Crc.behindI (I c) l = I (run c l) := by
  induction l generalizing c with
  | nil => rfl
  | cons b l ih =>
    show Crc.behindI (Crc.stepI (I c) (b.toNat : Int)) l = _
    rw [step_I, ih]
    rfl
theorem lsb_I (c : W) : (Go.bits .and .u32 (I c) 1 = 1) ↔ c.getLsbD 0 = true := by
  have h1 : (1 : Int) = I 1#32 := by decide
  rw [h1, and_I, B_I, B_I, I_eq]
  constructor
  · intro h
    have := congrArg (fun z => BitVec.getLsbD z 0) h
    simpa using this
  · intro h
    apply BitVec.eq_of_getLsbD_eq
    intro i hi
    rw [BitVec.getLsbD_and]
    cases i with
    | zero => simp [h]
    | succ i => simp
theorem A_I (c : W) : (if Go.bits .and .u32 (I c) 1 = 1 then Go.bits .xor .u32 (I c / 2) 3988292384 else I c / 2) = I (A c) := by
  unfold A
  by_cases h : c.getLsbD 0 = true
  · rw [if_pos ((lsb_I c).2 h), if_pos h, I_half, I_poly, xor_II]
  · rw [if_neg (fun z => h ((lsb_I c).1 z)), if_neg h, I_half, BitVec.xor_zero]
end Go.Proofs.YtejifcboopifaaaDoor.CrcB
