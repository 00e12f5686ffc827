import Derived.Test.YtjhimmnogjmngaaDoorCrc
import Derived.Laws.Strings
import Derived.Laws.BytesArg
import Derived.Test.YtjhimmnogjmngaaDoorWWords
import Derived.Test.YtjhimmnogjmngaaDoorPx1
import Derived.Test.YtjhimmnogjmngaaDoorPx2
import Derived.Test.YtjhimmnogjmngaaDoorPx7
import Derived.Test.YtjhimmnogjmngaaDoorBRow
import Derived.Test.YtjhimmnogjmngaaDoorOct
import Derived.Test.YtjhimmnogjmngaaDoorPx3
import Derived.Test.YtjhimmnogjmngaaDoorPx6
import Derived.Test.YtjhimmnogjmngaaDoorPx5
import Derived.Test.YtjhimmnogjmngaaDoorTurn
import Derived.WalkSmall
import Derived.Lib.Hide
import Derived.Deep.QuietTactic
import Derived.BigQuiet
import Derived.DataReads
import Derived.DataElems
import Derived.SizedLaws
import Derived.Lib.LaidTab
import Derived.ChangeShapes
import Derived.ChangeMaps
import Derived.Test.YtjhimmnogjmngaaDoorRows
import Derived.LaidMore
import Derived.Stop.Joined
import Derived.WalkKit
import Derived.ProofKit
import Derived.OpenShut
import Derived.ShutString
import Derived.ChangeOld
import Derived.Below
import Derived.SevenTiedAt
import Derived.Test.YtjhimmnogjmngaaDoorTie
import Derived.Test.YtjhimmnogjmngaaDoorCards
set_option linter.unusedVariables false
set_option linter.unusedSimpArgs false
/-! CrcB -/
section
/- The register of the sum, bit by bit: its step A is linear and injective. No program in sight. -/
namespace Go.Proofs.YtjhimmnogjmngaaDoor.CrcB

abbrev W := BitVec 32
def poly : W := 0xEDB88320#32
/-- One bit of nought behind. -/
def A (c : W) : W := (c >>> 1) ^^^ (if c.getLsbD 0 then poly else 0#32)
def An : Nat → W → W
  | 0, c => c
  | n + 1, c => An n (A c)
def high : W := 0x80000000#32

theorem An_zero_arg (n : Nat) : An n 0#32 = 0#32 := by
  induction n with
  | zero => rfl
  | succ n ih => unfold An; rw [show A 0#32 = 0#32 by decide]; exact ih
theorem An_add (m n : Nat) (c : W) : An (m + n) c = An m (An n c) := by
  induction n generalizing c with
  | zero => rfl
  | succ n ih => rw [← Nat.add_assoc]; show An (m + n) (A c) = _; rw [ih]; rfl
theorem An_succ (n : Nat) (c : W) : An (n + 1) c = A (An n c) := by
  rw [Nat.add_comm, An_add]; rfl

theorem A_xor (x y : W) : A (x ^^^ y) = A x ^^^ A y := by
  unfold A
  rw [BitVec.ushiftRight_xor_distrib, BitVec.getLsbD_xor]
  cases x.getLsbD 0 <;> cases y.getLsbD 0
  · simp
  · simp only [Bool.false_xor, if_true, Bool.false_eq_true, if_false, BitVec.xor_zero]
    ac_rfl
  · simp only [Bool.xor_false, if_true, Bool.false_eq_true, if_false, BitVec.xor_zero]
    ac_rfl
  · simp only [Bool.xor_self, if_true, Bool.false_eq_true, if_false, BitVec.xor_zero]
    rw [show x >>> 1 ^^^ poly ^^^ (y >>> 1 ^^^ poly) = x >>> 1 ^^^ y >>> 1 ^^^ (poly ^^^ poly) by ac_rfl, BitVec.xor_self, BitVec.xor_zero]
theorem An_xor (n : Nat) (x y : W) : An n (x ^^^ y) = An n x ^^^ An n y := by
  induction n generalizing x y with
  | zero => rfl
  | succ n ih => show An n (A _) = _; rw [A_xor, ih]; rfl

theorem A_zero {x : W} (h : A x = 0#32) : x = 0#32 := by
  have h31 : (A x).getLsbD 31 = false := by rw [h]; simp
  have hl : x.getLsbD 0 = false := by
    unfold A at h31
    rw [BitVec.getLsbD_xor] at h31
    cases hx : x.getLsbD 0 with
    | false => rfl
    | true =>
      rw [hx] at h31
      simp [poly] at h31
  unfold A at h
  rw [hl] at h
  simp at h
  apply BitVec.eq_of_getLsbD_eq
  intro i hi
  cases i with
  | zero => rw [hl]; simp
  | succ i =>
    have := congrArg (fun z => BitVec.getLsbD z i) h
    simp only [BitVec.getLsbD_ushiftRight] at this
    rw [Nat.add_comm 1 i] at this
    rw [this]
    simp
theorem An_zero {n : Nat} {x : W} (h : An n x = 0#32) : x = 0#32 := by
  induction n generalizing x with
  | zero => exact h
  | succ n ih => exact A_zero (ih h)
theorem xor_eq_zero {x y : W} (h : x ^^^ y = 0#32) : x = y := by
  have : x ^^^ y ^^^ y = 0#32 ^^^ y := by rw [h]
  rw [BitVec.xor_assoc, BitVec.xor_self, BitVec.xor_zero, BitVec.zero_xor] at this
  exact this
theorem An_inj {n : Nat} {x y : W} (h : An n x = An n y) : x = y := by
  apply xor_eq_zero
  apply An_zero (n := n)
  rw [An_xor, h, BitVec.xor_self]

/-- Where the lowest bits are nought the step only moves. -/
theorem A_even {x : W} (h : x.getLsbD 0 = false) : A x = x >>> 1 := by unfold A; rw [h]; simp
theorem An_low (n : Nat) : ∀ x : W, (∀ i, i < n → x.getLsbD i = false) → An n x = x >>> n := by
  induction n with
  | zero => intro x _; simp [An]
  | succ n ih =>
    intro x h
    show An n (A x) = _
    rw [A_even (h 0 (by omega)), ih _ (fun i hi => by rw [BitVec.getLsbD_ushiftRight]; exact h (1 + i) (by omega)), ← BitVec.shiftRight_add]
    congr 1
    omega
/-- A register is its lowest n bits and the others. -/
theorem split_low (n : Nat) (c : W) : c = ((c >>> n) <<< n) ^^^ (c &&& BitVec.ofNat 32 (2 ^ n - 1)) := by
  apply BitVec.eq_of_getLsbD_eq
  intro i hi
  simp only [BitVec.getLsbD_xor, BitVec.getLsbD_shiftLeft, BitVec.getLsbD_ushiftRight, BitVec.getLsbD_and, BitVec.getLsbD_ofNat, Nat.testBit_two_pow_sub_one]
  by_cases h : i < n
  · simp [h, hi]
  · simp [h, hi, show n + (i - n) = i by omega]
theorem An_split (n : Nat) (c : W) : An n c = (c >>> n) ^^^ An n (c &&& BitVec.ofNat 32 (2 ^ n - 1)) := by
  have e := congrArg (An n) (split_low n c)
  rw [An_xor] at e
  rw [e]
  congr 1
  rw [An_low n _ (fun i hi => by simp [hi])]
  apply BitVec.eq_of_getLsbD_eq
  intro i hi
  simp only [BitVec.getLsbD_ushiftRight, BitVec.getLsbD_shiftLeft]
  by_cases h : n + i < 32
  · simp [h]
  · simp [h, BitVec.getLsbD_of_ge c (n + i) (by omega)]

/-- Half a byte, by the table. -/
def halfB : Nat → W := fun i => BitVec.ofNat 32 ([0, 498536548, 997073096, 651767980, 1994146192, 1802195444, 1303535960, 1342533948, 3988292384, 4027552580, 3604390888, 3412177804, 2607071920, 2262029012, 2685067896, 3183342108].getD i 0)
theorem half_An : ∀ i : Fin 16, halfB i.val = An 4 (BitVec.ofNat 32 i.val) := by decide
theorem An4 (c : W) : An 4 c = (c >>> 4) ^^^ halfB (c.toNat % 16) := by
  have h := half_An ⟨c.toNat % 16, Nat.mod_lt _ (by decide)⟩
  simp only at h
  rw [h, An_split]
  congr 2
  apply BitVec.eq_of_toNat_eq
  rw [BitVec.toNat_and, BitVec.toNat_ofNat, BitVec.toNat_ofNat]
  show c.toNat &&& (2 ^ 4 - 1) = _
  rw [Nat.and_two_pow_sub_one_eq_mod]
  omega

/-- A byte behind. -/
def step (c : W) (b : W) : W := An 8 (c ^^^ b)
def byte (b : UInt8) : W := BitVec.ofNat 32 b.toNat
def run (c : W) (l : List UInt8) : W := l.foldl (fun c b => step c (byte b)) c
theorem run_nil (c : W) : run c [] = c := rfl
theorem run_cons (c : W) (b : UInt8) (l : List UInt8) : run c (b :: l) = run (step c (byte b)) l := rfl
theorem run_append (c : W) (l m : List UInt8) : run c (l ++ m) = run (run c l) m := by simp [run, List.foldl_append]
/-- What a register's other value makes of the end. -/
theorem run_xor (c d : W) (l : List UInt8) : run (c ^^^ d) l = run c l ^^^ An (8 * l.length) d := by
  induction l generalizing c d with
  | nil => rfl
  | cons b l ih =>
    rw [run_cons, run_cons, List.length_cons]
    have : step (c ^^^ d) (byte b) = step c (byte b) ^^^ An 8 d := by
      unfold step
      rw [show c ^^^ d ^^^ byte b = (c ^^^ byte b) ^^^ d by rw [BitVec.xor_assoc, BitVec.xor_assoc, BitVec.xor_comm d], An_xor]
    rw [this, ih, ← An_add]
    rfl

theorem An_high : ∀ k : Fin 32, An k.val high = BitVec.ofNat 32 (2 ^ (31 - k.val)) := by decide
/-- One bit. -/
def bit (j : Nat) : W := BitVec.ofNat 32 (2 ^ j)
theorem bit_An {j : Nat} (h : j < 32) : bit j = An (31 - j) high := by
  have := An_high ⟨31 - j, by omega⟩
  simp only at this
  rw [this, show 31 - (31 - j) = j by omega]
  rfl

/-- Four bytes, the lowest first, behind: as if they had stood in the register. -/
theorem An8_bytes (c : W) (a b : W) (ha : ∀ i, i < 8 → a.getLsbD i = false) : step (c ^^^ a) b = step c b ^^^ (a >>> 8) := by
  unfold step
  rw [show c ^^^ a ^^^ b = (c ^^^ b) ^^^ a by rw [BitVec.xor_assoc, BitVec.xor_assoc, BitVec.xor_comm a], An_xor, An_low 8 a ha]

def le4 (x : W) : List UInt8 := [UInt8.ofNat x.toNat, UInt8.ofNat (x.toNat / 256), UInt8.ofNat (x.toNat / 65536), UInt8.ofNat (x.toNat / 16777216)]
theorem byte_ofNat (n : Nat) : byte (UInt8.ofNat n) = BitVec.ofNat 32 (n % 256) := by
  unfold byte
  rw [UInt8.toNat_ofNat']
theorem run_le4 (c x : W) : run c (le4 x) = An 32 (c ^^^ x) := by
  have one : ∀ d y : W, An 8 (d ^^^ y) = step d (BitVec.ofNat 32 (y.toNat % 256)) ^^^ (y >>> 8) := by
    intro d y
    unfold step
    rw [An_split 8 (d ^^^ y), An_split 8 (d ^^^ BitVec.ofNat 32 (y.toNat % 256))]
    have e1 : (d ^^^ BitVec.ofNat 32 (y.toNat % 256)) >>> 8 = d >>> 8 := by
      apply BitVec.eq_of_getLsbD_eq
      intro i hi
      rw [BitVec.getLsbD_ushiftRight, BitVec.getLsbD_ushiftRight, BitVec.getLsbD_xor, BitVec.getLsbD_ofNat]
      have : (y.toNat % 256).testBit (8 + i) = false := Nat.testBit_lt_two_pow (Nat.lt_of_lt_of_le (Nat.mod_lt _ (by decide)) (by rw [show 256 = 2 ^ 8 by rfl]; exact Nat.pow_le_pow_right (by decide) (by omega)))
      rw [this]
      simp
    have e2 : (d ^^^ BitVec.ofNat 32 (y.toNat % 256)) &&& BitVec.ofNat 32 (2 ^ 8 - 1) = (d ^^^ y) &&& BitVec.ofNat 32 (2 ^ 8 - 1) := by
      apply BitVec.eq_of_getLsbD_eq
      intro i hi
      simp only [BitVec.getLsbD_and, BitVec.getLsbD_xor, BitVec.getLsbD_ofNat, Nat.testBit_two_pow_sub_one]
      rw [show 256 = 2 ^ 8 by rfl, Nat.testBit_mod_two_pow]
      by_cases h : i < 8
      · simp [h, hi, BitVec.getLsbD]
      · simp [h]
    rw [e1, e2, BitVec.ushiftRight_xor_distrib, BitVec.xor_assoc, BitVec.xor_assoc, BitVec.xor_comm (y >>> 8)]
  have s8 : ∀ (y : W) (k : Nat), (y >>> k).toNat = y.toNat / 2 ^ k := fun y k => by rw [BitVec.toNat_ushiftRight, Nat.shiftRight_eq_div_pow]
  have z : x >>> 8 >>> 8 >>> 8 >>> 8 = 0#32 := by
    apply BitVec.eq_of_toNat_eq
    rw [s8, s8, s8, s8]
    have := x.isLt
    simp only [BitVec.toNat_ofNat]
    omega
  unfold le4
  rw [run_cons, run_cons, run_cons, run_cons, run_nil, byte_ofNat, byte_ofNat, byte_ofNat, byte_ofNat]
  show _ = An (8 + (8 + (8 + 8))) (c ^^^ x)
  rw [An_add, An_add, An_add, one c x, one _ (x >>> 8), one _ (x >>> 8 >>> 8), one _ (x >>> 8 >>> 8 >>> 8), z, BitVec.xor_zero]
  rw [s8, s8, s8, s8, s8, s8]
  simp only [Nat.div_div_eq_div_mul]

/-- The register behind bytes that bear their own sum is always the same. -/
def all : W := 0xFFFFFFFF#32
def residue : W := An 32 all
theorem tag_residue (l : List UInt8) (x : W) : run all (l ++ le4 x) = residue ↔ x = run all l ^^^ all := by
  rw [run_append, run_le4]
  constructor
  · intro h
    have e : x = run all l ^^^ (run all l ^^^ x) := by rw [← BitVec.xor_assoc, BitVec.xor_self, BitVec.zero_xor]
    rw [An_inj h] at e
    exact e
  · intro h
    rw [h, ← BitVec.xor_assoc, BitVec.xor_self, BitVec.zero_xor]
    rfl

/-- What a turned bit makes of the register behind all: bit j of byte i, of n bytes. -/
theorem run_flip (c : W) (l : List UInt8) (i : Nat) (b b' : UInt8) (j : Nat) (hj : j < 8) (hi : i < l.length) (hb : l[i]? = some b) (hx : byte b' = byte b ^^^ bit j) :
    run c (l.set i b') = run c l ^^^ An (8 * l.length + 31 - (8 * i + j)) high := by
  have hl : l = l.take i ++ b :: l.drop (i + 1) := by
    rw [List.getElem?_eq_getElem hi] at hb
    injection hb with hb
    rw [← hb]
    simp
  have hlen : (l.take i).length = i := by rw [List.length_take]; omega
  have hs : l.set i b' = l.take i ++ b' :: l.drop (i + 1) := by
    rw [List.set_eq_take_append_cons_drop, if_pos hi]
  rw [hs]
  conv => rhs; rw [hl]
  rw [run_append, run_append, run_cons, run_cons]
  have : step (run c (l.take i)) (byte b') = step (run c (l.take i)) (byte b) ^^^ An 8 (bit j) := by
    unfold step
    rw [hx, ← BitVec.xor_assoc, An_xor]
  rw [this, run_xor, bit_An (by omega), ← An_add, ← An_add]
  congr 2
  simp only [List.length_drop, List.length_append, List.length_take, List.length_cons]
  omega

end Go.Proofs.YtjhimmnogjmngaaDoor.CrcB
end
/-! CrcT -/
section
/- Products of registers, and what many bytes of nought make of one. And the registers as whole numbers, as the walk has them. -/
namespace Go.Proofs.YtjhimmnogjmngaaDoor.CrcB

/-- The product, by its first n powers. -/
def T : Nat → W → W → W
  | 0, _, _ => 0#32
  | n + 1, a, b => T n a b ^^^ (if a.getLsbD (31 - n) then An n b else 0#32)
theorem T_xor (n : Nat) (a b c : W) : T n a (b ^^^ c) = T n a b ^^^ T n a c := by
  induction n with
  | zero => simp [T]
  | succ n ih =>
    unfold T
    rw [ih]
    split
    · rw [An_xor]; ac_rfl
    · simp
theorem A_zero_arg : A 0#32 = 0#32 := by decide
theorem T_A (n : Nat) (a b : W) : T n a (A b) = A (T n a b) := by
  induction n with
  | zero => simp [T, A_zero_arg]
  | succ n ih =>
    unfold T
    rw [ih, A_xor]
    split
    · rw [show An n (A b) = An (n + 1) b from rfl, An_succ]
    · rw [A_zero_arg]
theorem T_An (n m : Nat) (a b : W) : T n a (An m b) = An m (T n a b) := by
  induction m generalizing b with
  | zero => rfl
  | succ m ih => rw [An_succ, T_A, ih, ← An_succ]
theorem bit_get (j i : Nat) (hj : j < 32) : (bit j).getLsbD i = decide (i = j) := by
  unfold bit
  rw [BitVec.getLsbD_ofNat, Nat.testBit_two_pow]
  by_cases h : i = j
  · subst h; simp [hj]
  · simp [h, Ne.symm h]
theorem T_high_get (n : Nat) (hn : n ≤ 32) (b : W) (i : Nat) (hi : i < 32) : (T n b high).getLsbD i = (decide (31 - i < n) && b.getLsbD i) := by
  induction n with
  | zero => simp [T]
  | succ n ih =>
    unfold T
    rw [BitVec.getLsbD_xor, ih (by omega)]
    have hb : An n high = bit (31 - n) := by rw [bit_An (by omega)]; congr 1; omega
    rw [hb]
    by_cases h : i = 31 - n
    · subst h
      have h1 : ¬ (31 - (31 - n) < n) := by omega
      have h2 : 31 - (31 - n) < n + 1 := by omega
      cases hx : b.getLsbD (31 - n) <;> simp [h1, h2, bit_get _ _ (show 31 - n < 32 by omega)]
    · have h1 : (31 - i < n + 1) = (31 - i < n) := by apply propext; omega
      simp only [h1]
      split
      · rw [bit_get _ _ (by omega)]; simp [h]
      · simp
theorem T_high (b : W) : T 32 b high = b := by
  apply BitVec.eq_of_getLsbD_eq
  intro i hi
  rw [T_high_get 32 (Nat.le_refl _) b i hi]
  have : 31 - i < 32 := by omega
  simp [this]
/-- The product by a power is the power. -/
theorem T_pow (m : Nat) (b : W) : T 32 (An m high) b = An m b := by
  have key : ∀ n, T 32 (An m high) (T n b high) = An m (T n b high) := by
    intro n
    induction n with
    | zero =>
      show T 32 (An m high) 0#32 = An m 0#32
      have := T_xor 32 (An m high) 0#32 0#32
      rw [BitVec.xor_self, BitVec.xor_self] at this
      rw [this, An_zero_arg]
    | succ n ih =>
      show T 32 (An m high) (T n b high ^^^ _) = An m (T n b high ^^^ _)
      rw [T_xor, An_xor, ih]
      congr 1
      split
      · rw [T_An, T_high, ← An_add, ← An_add, Nat.add_comm]
      · have := T_xor 32 (An m high) 0#32 0#32
        rw [BitVec.xor_self, BitVec.xor_self] at this
        rw [this, An_zero_arg]
  have := key 32
  rw [T_high] at this
  exact this

/-! ### As whole numbers -/
open Go
def B (x : Int) : W := BitVec.ofInt 32 x
def I (b : W) : Int := (b.toNat : Int)
theorem I_range (b : W) : 0 ≤ I b ∧ I b < 4294967296 := by
  unfold I
  have := b.isLt
  omega
theorem B_I (b : W) : B (I b) = b := by
  unfold B I
  rw [BitVec.ofInt_natCast]
  simp
theorem I_B {x : Int} (h0 : 0 ≤ x) (h1 : x < 4294967296) : I (B x) = x := by
  unfold B I
  rw [BitVec.toNat_ofInt]
  omega
theorem I_inj {a b : W} (h : I a = I b) : a = b := by rw [← B_I a, h, B_I]
theorem I_eq {a b : W} : I a = I b ↔ a = b := ⟨I_inj, fun h => by rw [h]⟩
theorem wrapI (b : W) : IntKind.u32.wrap (b.toNat : Int) = I b := by
  rw [IntKind.wrap_u32]
  have := b.isLt
  unfold I
  omega
theorem xor_I (x y : Int) : Go.bits .xor .u32 x y = I (B x ^^^ B y) := wrapI _
theorem and_I (x y : Int) : Go.bits .and .u32 x y = I (B x &&& B y) := wrapI _
theorem xor_II (a b : W) : Go.bits .xor .u32 (I a) (I b) = I (a ^^^ b) := by rw [xor_I, B_I, B_I]
theorem I_half (c : W) : I c / (2 : Int) = I (c >>> 1) := by
  unfold I
  rw [BitVec.toNat_ushiftRight, Nat.shiftRight_eq_div_pow]
  omega
theorem I_16 (c : W) : I c / (16 : Int) = I (c >>> 4) := by
  unfold I
  rw [BitVec.toNat_ushiftRight, Nat.shiftRight_eq_div_pow]
  omega
theorem I_256 (c : W) : I c / (256 : Int) = I (c >>> 8) := by
  unfold I
  rw [BitVec.toNat_ushiftRight, Nat.shiftRight_eq_div_pow]
  omega
theorem I_all : (4294967295 : Int) = I all := by decide
theorem I_poly : (3988292384 : Int) = I poly := by decide
theorem I_high : (2147483648 : Int) = I high := by decide

theorem half_I : ∀ i : Fin 16, Crc.halfL.getD i.val 0 = I (halfB i.val) := by decide
theorem nib_I (c : W) : Crc.nib (I c) = I (An 4 c) := by
  unfold Crc.nib
  rw [Crc.and15, I_16]
  have h := half_I ⟨c.toNat % 16, Nat.mod_lt _ (by decide)⟩
  simp only at h
  have e : (I c % 16).toNat = c.toNat % 16 := by unfold I; omega
  rw [e, h, xor_II, An4]
theorem step_I (c : W) (b : UInt8) : Crc.stepI (I c) (b.toNat : Int) = I (step c (byte b)) := by
  unfold Crc.stepI
  have e : ((b.toNat : Nat) : Int) = I (byte b) := by
    unfold I byte
    have := b.toNat_lt
    rw [BitVec.toNat_ofNat]
    omega
  rw [e, xor_II, nib_I, nib_I, ← An_add]
  rfl
theorem behind_I (c : W) (l : List UInt8) : Crc.behindI (I c) l = I (run c l) := by
  induction l generalizing c with
  | nil => rfl
  | cons b l ih =>
    show Crc.behindI (Crc.stepI (I c) (b.toNat : Int)) l = _
    rw [step_I, ih]
    rfl
theorem lsb_I (c : W) : (Go.bits .and .u32 (I c) 1 = 1) ↔ c.getLsbD 0 = true := by
  have h1 : (1 : Int) = I 1#32 := by decide
  rw [h1, and_I, B_I, B_I, I_eq]
  constructor
  · intro h
    have := congrArg (fun z => BitVec.getLsbD z 0) h
    simpa using this
  · intro h
    apply BitVec.eq_of_getLsbD_eq
    intro i hi
    rw [BitVec.getLsbD_and]
    cases i with
    | zero => simp [h]
    | succ i => simp
theorem A_I (c : W) : (if Go.bits .and .u32 (I c) 1 = 1 then Go.bits .xor .u32 (I c / 2) 3988292384 else I c / 2) = I (A c) := by
  unfold A
  by_cases h : c.getLsbD 0 = true
  · rw [if_pos ((lsb_I c).2 h), if_pos h, I_half, I_poly, xor_II]
  · rw [if_neg (fun z => h ((lsb_I c).1 z)), if_neg h, I_half, BitVec.xor_zero]
end Go.Proofs.YtjhimmnogjmngaaDoor.CrcB
end
/-! Str -/
section
/- Texts as lists of bytes. -/
namespace Go.Proofs.YtjhimmnogjmngaaDoor.Str
open Go Go.Proofs.YtjhimmnogjmngaaDoorW.PrintWords

theorem ext {s t : ByteArray} (h : s.data.toList = t.data.toList) : s = t := by
  cases s; cases t
  simp only at h
  congr
  exact Array.ext' h
theorem ext_iff {s t : ByteArray} : s = t ↔ s.data.toList = t.data.toList := ⟨fun h => by rw [h], ext⟩
theorem size_L (s : ByteArray) : s.size = s.data.toList.length := by simp
theorem toList_L (s : ByteArray) : s.toList = s.data.toList := ByteArray.toList_eq s
theorem toList_iff {s t : ByteArray} : s.toList = t.toList ↔ s = t := by rw [toList_L, toList_L, ext_iff]
theorem app_L (s t : ByteArray) : (s ++ t).data.toList = s.data.toList ++ t.data.toList := by simp
theorem extract_L (s : ByteArray) (a b : Nat) : (s.extract a b).data.toList = (s.data.toList.take b).drop a := by
  simp [List.drop_take]
theorem pre_L (s : ByteArray) (b : Nat) : (s.extract 0 b).data.toList = s.data.toList.take b := by rw [extract_L]; simp
theorem post_L (s : ByteArray) (a : Nat) : (s.extract a s.size).data.toList = s.data.toList.drop a := by
  rw [extract_L, List.take_of_length_le (by simp)]
theorem nums_L (xs : List Int) : (strOfNums xs).data.toList = xs.map fun n => UInt8.ofNat n.toNat := strOfNums_data xs
theorem nums_size (xs : List Int) : (strOfNums xs).size = xs.length := strOfNums_size xs
def ofL (l : List UInt8) : ByteArray := ⟨l.toArray⟩
@[simp] theorem ofL_L (l : List UInt8) : (ofL l).data.toList = l := rfl
@[simp] theorem ofL_size (l : List UInt8) : (ofL l).size = l.length := by simp [size_L]
theorem ofL_of (s : ByteArray) : ofL s.data.toList = s := ext rfl
theorem lit_L (l : List UInt8) : (⟨l.toArray⟩ : ByteArray).data.toList = l := rfl
theorem empty_iff (s : ByteArray) : s = ⟨#[]⟩ ↔ s.data.toList = [] := by rw [ext_iff]
theorem bt_L {s : ByteArray} {i : Nat} (h : i < s.size) : bt s (i : Int) = ((s.data.toList.getD i 0).toNat : Int) := by
  unfold bt
  rw [dif_pos (by simpa using h)]
  simp [List.getD, h]
  rfl
theorem bt_range (s : ByteArray) (i : Int) : 0 ≤ bt s i ∧ bt s i < 256 := by
  unfold bt
  split
  · rename_i h
    have := (s[i.toNat]'h).toNat_lt
    omega
  · omega
theorem wrap64_id {x : Int} (h0 : -9223372036854775808 ≤ x) (h1 : x < 9223372036854775808) : Go.RowKit.wrap64 x = x := by
  unfold Go.RowKit.wrap64
  omega
theorem wf_u32 {x : Int} (h : (Lit.int .u32 x).wf = true) : 0 ≤ x ∧ x < 4294967296 := by
  have e1 : IntKind.u32.min = 0 := rfl
  have e2 : IntKind.u32.max = 4294967295 := rfl
  simp [Lit.wf, e1, e2] at h
  omega
theorem wf_i64 {x : Int} (h : (Lit.int .i64 x).wf = true) : -9223372036854775808 ≤ x ∧ x ≤ 9223372036854775807 := by
  have e1 : IntKind.i64.min = -9223372036854775808 := rfl
  have e2 : IntKind.i64.max = 9223372036854775807 := rfl
  simp [Lit.wf, e1, e2] at h
  omega
theorem u8_nat (b : UInt8) : UInt8.ofNat ((b.toNat : Int)).toNat = b := by
  apply UInt8.toNat_inj.1
  have := b.toNat_lt
  simp
theorem map_u8 (l : List UInt8) : (l.map fun b => (b.toNat : Int)).map (fun n => UInt8.ofNat n.toNat) = l := by
  rw [List.map_map]
  conv => rhs; rw [← List.map_id l]
  apply List.map_congr_left
  intro b _
  exact u8_nat b
end Go.Proofs.YtjhimmnogjmngaaDoor.Str
end
/-! CrcF -/
section
/- The printed functions of the sums are the registers' words. -/
namespace Go.Proofs.YtjhimmnogjmngaaDoor.CrcB
open Go Go.RowKit Go.Proofs.YtjhimmnogjmngaaDoor.Px Go.Proofs.YtjhimmnogjmngaaDoorW.PrintWords Go.Proofs.YtjhimmnogjmngaaDoor.Str

/-- A text's sum, as a register. -/
def sumL (l : List UInt8) : W := run all l ^^^ all
theorem behind_f (c : W) (s : ByteArray) (h : s.size ≤ 140737488355328) : crc_behind.f (I c) s = some (I (run c s.data.toList)) := by
  unfold crc_behind.f
  rw [if_pos h, behind_I]
theorem sum_f (s : ByteArray) (h : s.size ≤ 140737488355328) : crc_Sum.f s = some (I (sumL s.data.toList)) := by
  unfold crc_Sum.f
  rw [I_all, behind_f _ _ h]
  simp only [Option.bind_some]
  rw [xor_II, BitVec.xor_comm]
  have := I_range (run all s.data.toList ^^^ all)
  rw [wrap64_id (by omega) (by omega)]
  rfl
/-- Bytes with their sum behind them. -/
def tagL (l : List UInt8) : List UInt8 := l ++ le4 (sumL l)
theorem le_I (c : W) : (crc_Tag.le 4 (I c)).map (fun n => UInt8.ofNat n.toNat) = le4 c := by
  simp only [crc_Tag.le, List.range, List.range.loop, List.map_cons, List.map_nil, crc_Tag.sh, le4, I]
  have h := c.isLt
  have e : ∀ (x : Int) (n : Nat), x = ((n % 256 : Nat) : Int) → UInt8.ofNat x.toNat = UInt8.ofNat n := fun x n hx => by
    apply UInt8.toNat_inj.1
    rw [hx, UInt8.toNat_ofNat', UInt8.toNat_ofNat', Int.toNat_natCast]
    omega
  rw [e _ c.toNat (by omega), e _ (c.toNat / 256) (by omega), e _ (c.toNat / 65536) (by omega), e _ (c.toNat / 16777216) (by omega)]
theorem tag_f (s : ByteArray) (h : s.size ≤ 1073741824) : crc_Tag.f s = some (ofL (tagL s.data.toList)) := by
  unfold crc_Tag.f
  rw [if_pos h, sum_f _ (by omega)]
  simp only [Option.bind_some, Option.some.injEq]
  apply ext
  rw [nums_L, List.map_append, le_I, ofL_L]
  unfold BR.ints
  rw [map_u8]
  rfl
theorem tagL_length (l : List UInt8) : (tagL l).length = l.length + 4 := by simp [tagL, le4]
theorem le4_inj {x y : W} (h : le4 x = le4 y) : x = y := by
  have h1 := run_le4 0#32 x
  rw [h, run_le4, BitVec.zero_xor, BitVec.zero_xor] at h1
  exact (An_inj h1).symm
theorem le4_all : ∀ l : List UInt8, l.length = 4 → ∃ x : W, l = le4 x := by
  intro l hl
  match l, hl with
  | [a, b, c, d], _ =>
    have ha := a.toNat_lt
    have hb := b.toNat_lt
    have hc := c.toNat_lt
    have hd := d.toNat_lt
    refine ⟨BitVec.ofNat 32 (a.toNat + 256 * b.toNat + 65536 * c.toNat + 16777216 * d.toNat), ?_⟩
    unfold le4
    rw [BitVec.toNat_ofNat]
    have e : ∀ (u : UInt8) (n : Nat), n % 256 = u.toNat → u = UInt8.ofNat n := fun u n h => by
      apply UInt8.toNat_inj.1
      rw [UInt8.toNat_ofNat', ← h]
    rw [← e a _ (by omega), ← e b _ (by omega), ← e c _ (by omega), ← e d _ (by omega)]
/-- Bytes bear their own sum just where the register behind them all is the residue. -/
theorem owns_iff (l : List UInt8) (h : 4 ≤ l.length) : tagL (l.take (l.length - 4)) = l ↔ run all l = residue := by
  obtain ⟨x, hx⟩ := le4_all (l.drop (l.length - 4)) (by simp; omega)
  have hl : l = l.take (l.length - 4) ++ le4 x := by rw [← hx, List.take_append_drop]
  generalize l.take (l.length - 4) = m at hl
  subst hl
  rw [tag_residue]
  unfold tagL sumL
  constructor
  · intro h
    exact (le4_inj (List.append_cancel_left h)).symm
  · intro h
    rw [h]
theorem open_f (s : ByteArray) (h : s.size ≤ 1073741824) :
    crc_Open.f s = some (if 4 ≤ s.size ∧ run all s.data.toList = residue then (s.extract 0 (s.size - 4), true) else (⟨#[]⟩, false)) := by
  unfold crc_Open.f
  by_cases h4 : 4 ≤ s.size
  · rw [if_neg (by omega), wrap64_id (by omega) (by omega), if_pos (by omega), if_pos (by omega)]
    have e : ((s.size : Int) - 4).toNat = s.size - 4 := by omega
    rw [e, tag_f _ (by rw [size_L, pre_L, List.length_take]; omega)]
    simp only [Option.bind_some]
    have hk := owns_iff s.data.toList (by simpa using h4)
    rw [toList_L, toList_L, ofL_L, pre_L, show s.size = s.data.toList.length from size_L s]
    by_cases hr : run all s.data.toList = residue
    · rw [if_pos (hk.2 hr), if_pos ⟨by simpa using h4, hr⟩]
    · rw [if_neg (fun z => hr (hk.1 z)), if_neg (fun z => hr z.2)]
  · rw [if_pos (by omega), if_neg (fun z => h4 z.1)]
theorem run_tagL (l : List UInt8) : run all (tagL l) = residue := by
  unfold tagL
  rw [tag_residue]
  rfl
/-- What was tagged is opened as it was. -/
theorem open_tag (l : List UInt8) (h : l.length ≤ 1073741820) : crc_Open.f (ofL (tagL l)) = some (ofL l, true) := by
  rw [open_f _ (by rw [ofL_size, tagL_length]; omega), if_pos ⟨by rw [ofL_size, tagL_length]; omega, by rw [ofL_L, run_tagL]⟩]
  congr 2
  apply ext
  rw [pre_L, ofL_L, ofL_size, tagL_length]
  simp [tagL]
theorem below_f (x n : Int) (h0 : 0 < n) (h1 : n ≤ 4611686018427387904) : gongbook_Below.f x n = some (x % n) := by
  unfold gongbook_Below.f
  rw [if_neg (by omega)]
  have hr := Int.tmod_lt_of_pos x h0
  have hl : -n < Int.tmod x n := by
    have := Int.lt_tmod_of_pos x h0
    omega
  rw [wrap64_id (by omega) (by omega)]
  congr 1
  have e : (Int.tmod x n + n).tmod n = (Int.tmod x n + n) % n := Int.tmod_eq_emod_of_nonneg (by omega)
  rw [e, Int.add_emod_right]
  rcases Int.le_total 0 x with hx | hx
  · rw [Int.tmod_eq_emod_of_nonneg hx, Int.emod_emod_of_dvd _ (Int.dvd_refl n)]
  · have : Int.tmod x n = x - n * Int.tdiv x n := by have := Int.mul_tdiv_add_tmod x n; omega
    rw [this, Int.sub_mul_emod_self_left]
end Go.Proofs.YtjhimmnogjmngaaDoor.CrcB
end
/-! OctF -/
section
/- The printed functions of numbers and texts as bytes are the plain words on lists. -/
namespace Go.Proofs.YtjhimmnogjmngaaDoor.OctF
open Go Go.RowKit Go.Proofs.YtjhimmnogjmngaaDoor.Px Go.Proofs.YtjhimmnogjmngaaDoorW.PrintWords Go.Proofs.YtjhimmnogjmngaaDoor.Str

/-- A number's higher groups, and its groups. -/
def hi (n : Nat) : List UInt8 := if n = 0 then [] else hi (n / 128) ++ [UInt8.ofNat (n % 128 + 128)]
termination_by n
decreasing_by omega
def grp (n : Nat) : List UInt8 := hi (n / 128) ++ [UInt8.ofNat (n % 128)]
theorem hi_zero : hi 0 = [] := by rw [hi]; rfl
theorem hi_pos {n : Nat} (h : n ≠ 0) : hi n = hi (n / 128) ++ [UInt8.ofNat (n % 128 + 128)] := by
  rw [hi, if_neg h]
theorem toNat_ofNat {n : Nat} (h : n < 256) : (UInt8.ofNat n).toNat = n := by rw [UInt8.toNat_ofNat']; omega
theorem go_hi (f : Nat) : ∀ (n : Nat) (acc : List Int), n < 128 ^ f → (Oct.go f (n : Int) acc).map (fun n => UInt8.ofNat n.toNat) = hi n ++ acc.map (fun n => UInt8.ofNat n.toNat) := by
  induction f with
  | zero =>
    intro n acc h
    obtain rfl : n = 0 := by simpa using h
    rw [hi_zero]
    rfl
  | succ f ih =>
    intro n acc h
    by_cases h0 : n = 0
    · subst h0
      rw [show ((0 : Nat) : Int) = 0 from rfl, Oct.go_zero, hi_zero]
      rfl
    · rw [Oct.go_pos _ _ _ (by omega), show (n : Int) / 128 = ((n / 128 : Nat) : Int) by omega, ih (n / 128) _ (by rw [Nat.pow_succ] at h; omega), hi_pos h0, List.map_cons, List.append_assoc]
      congr 1
      rw [Oct.gB_eq]
      show _ = UInt8.ofNat (n % 128 + 128) :: _
      congr 2
theorem groups_ok (n : Nat) (h : n < 9223372036854775808) : octet_Groups.f (n : Int) = some (ofL (grp n), 0) := by
  unfold octet_Groups.f
  rw [if_neg (by omega), if_pos (by omega)]
  congr 2
  apply ext
  rw [nums_L, ofL_L]
  unfold Oct.groupsI
  rw [show (n : Int) / 128 = ((n / 128 : Nat) : Int) by omega, go_hi 8 (n / 128) _ (by omega)]
  unfold grp
  congr 1
theorem groups_no (n : Int) (h : n < 0) : octet_Groups.f n = some (⟨#[]⟩, 1) := by
  unfold octet_Groups.f
  rw [if_pos h]
theorem hi_length (d : Nat) : ∀ n, n < 128 ^ d → (hi n).length ≤ d := by
  induction d with
  | zero => intro n h; obtain rfl : n = 0 := by simpa using h
            rw [hi_zero]; simp
  | succ d ih =>
    intro n h
    by_cases h0 : n = 0
    · subst h0; rw [hi_zero]; simp
    · rw [hi_pos h0, List.length_append]
      have := ih (n / 128) (by rw [Nat.pow_succ] at h; omega)
      simp
      omega
theorem grp_length (n : Nat) (h : n < 9223372036854775808) : 1 ≤ (grp n).length ∧ (grp n).length ≤ 9 := by
  unfold grp
  have := hi_length 8 (n / 128) (by omega)
  simp
  omega

/-- A number's last w bytes, the highest first. -/
def be : Nat → Nat → List UInt8
  | 0, _ => []
  | w + 1, n => be w (n / 256) ++ [UInt8.ofNat n]
theorem be_length (w n : Nat) : (be w n).length = w := by
  induction w generalizing n with
  | zero => rfl
  | succ w ih => simp [be, ih]
theorem be_add (k w n : Nat) : be (k + w) n = be k (n / 256 ^ w) ++ be w n := by
  induction w generalizing n with
  | zero => simp [be]
  | succ w ih =>
    rw [← Nat.add_assoc]
    show be (k + w) (n / 256) ++ _ = _ ++ (be w (n / 256) ++ _)
    rw [ih, List.append_assoc, Nat.div_div_eq_div_mul, Nat.pow_succ, Nat.mul_comm 256]
theorem be_drop (k w n : Nat) : (be (k + w) n).drop k = be w n := by
  rw [be_add, List.drop_left' (be_length _ _)]
theorem wgo_be (f : Nat) : ∀ (n : Nat) (acc : List Int), (Oct.wgo f (n : Int) acc).map (fun n => UInt8.ofNat n.toNat) = be f n ++ acc.map (fun n => UInt8.ofNat n.toNat) := by
  induction f with
  | zero => intro n acc; rfl
  | succ f ih =>
    intro n acc
    show (Oct.wgo f ((n : Int) / 256) ((n : Int) % 256 :: acc)).map _ = _
    rw [show (n : Int) / 256 = ((n / 256 : Nat) : Int) by omega, ih, List.map_cons]
    show _ = (be f (n / 256) ++ [UInt8.ofNat n]) ++ _
    rw [List.append_assoc]
    congr 1
    show _ = UInt8.ofNat n :: _
    congr 1
    apply UInt8.toNat_inj.1
    rw [UInt8.toNat_ofNat', UInt8.toNat_ofNat']
    omega
theorem text_ok (s : ByteArray) (h : s.size ≤ 1073741824) : octet_Text.f s = some (ofL (grp s.size ++ s.data.toList)) := by
  unfold octet_Text.f
  rw [groups_ok s.size (by omega)]
  simp only [Option.bind_some]
  have := grp_length s.size (by omega)
  rw [ofL_size, if_pos (by omega)]
  congr 1

/-! ### Reading groups -/
/-- The number whose groups stand at the beginning; how many bytes these are; why not. -/
def pg (most : Int) : Nat → Nat → List UInt8 → Nat → Int × Int × Int
  | 0, _, _, _ => (0, 0, 3)
  | _ + 1, _, [], _ => (0, 0, 10)
  | f + 1, n, b :: r, i => if i = 0 ∧ b.toNat = 128 then (0, 0, 3) else if ((n * 128 + b.toNat % 128 : Nat) : Int) > most then (0, 0, 2) else if b.toNat < 128 then (((n * 128 + b.toNat % 128 : Nat) : Int), ((i + 1 : Nat) : Int), 0) else pg most f (n * 128 + b.toNat % 128) r (i + 1)
theorem andNot_u8 : ∀ b : Fin 256, Go.bits .andNot .u8 (b.val : Int) 128 = ((b.val % 128 : Nat) : Int) := by decide +kernel
theorem join7 (n b : Nat) (hn : n < 72057594037927936) (hb : b < 256) : Go.bits .or .i64 (wrap64 ((n : Int) * 128)) (wrap64 (Go.bits .andNot .u8 (b : Int) 128)) = ((n * 128 + b % 128 : Nat) : Int) := by
  have h := andNot_u8 ⟨b, hb⟩
  simp only at h
  rw [h, wrap64_id (by omega) (by omega), wrap64_id (by omega) (by omega)]
  rw [bits_join .i64 63 (by decide) (fun n h0 h1 => by rw [IntKind.wrap_i64]; omega) 7 ((n : Int) * 128) ((b % 128 : Nat) : Int) (by omega) (by omega) (by omega) (by omega) (by omega) (by omega)]
  omega
theorem groups_l0 (s : ByteArray) (most : Int) (d : Nat) : ∀ (k i n : Nat), i + d = 9 → i ≤ s.size → n < 128 ^ i → 2 * d + 1 ≤ k → octet_groups.l0 k s most (n : Int) (i : Int) = some (pg most d n (s.data.toList.drop i) i) := by
  induction d with
  | zero =>
    intro k i n hi hle hn hk
    obtain ⟨k, rfl⟩ : ∃ m, k = m + 1 := ⟨k - 1, by omega⟩
    simp only [octet_groups.l0]
    rw [if_neg (by omega)]
    rfl
  | succ d ih =>
    intro k i n hi hle hn hk
    obtain ⟨k, rfl⟩ : ∃ m, k = m + 2 := ⟨k - 2, by omega⟩
    have hn8 : n < 72057594037927936 := Nat.lt_of_lt_of_le hn (Nat.le_trans (Nat.pow_le_pow_right (by decide) (show i ≤ 8 by omega)) (by decide))
    simp only [octet_groups.l0]
    rw [if_pos (by omega)]
    by_cases he : i = s.size
    · rw [if_pos (by omega), List.drop_of_length_le (by simp; omega)]
      rfl
    · have hlt : i < s.size := by omega
      have hd : s.data.toList.drop i = s.data.toList[i]'(by simpa using hlt) :: s.data.toList.drop (i + 1) := List.drop_eq_getElem_cons (by simpa using hlt)
      have hb : bt s (i : Int) = ((s.data.toList[i]'(by simpa using hlt)).toNat : Int) := by
        rw [bt_L hlt]
        simp [List.getD, hlt]
      generalize s.data.toList[i]'(by simpa using hlt) = b at hd hb
      have hbl := b.toNat_lt
      rw [if_neg (by omega), if_pos (by omega), if_pos (by omega), hd, hb, join7 n b.toNat hn8 (by omega), wrap64_id (by omega) (by omega)]
      have hn' : n * 128 + b.toNat % 128 < 128 ^ (i + 1) := by rw [Nat.pow_succ]; omega
      have hj : ∀ q : Bool, q = decide (i = 0 ∧ b.toNat = 128) → octet_groups.j1 (k + 1) s most ((n * 128 + b.toNat % 128 : Nat) : Int) ((i : Int) + 1) (b.toNat : Int) q = some (pg most (d + 1) n (b :: s.data.toList.drop (i + 1)) i) := by
        intro q hq
        subst hq
        simp only [octet_groups.j1, pg, decide_eq_true_eq]
        by_cases c1 : i = 0 ∧ b.toNat = 128
        · rw [if_pos c1, if_pos c1]
        · rw [if_neg c1, if_neg c1]
          by_cases c2 : ((n * 128 + b.toNat % 128 : Nat) : Int) > most
          · rw [if_pos c2, if_pos c2]
          · rw [if_neg c2, if_neg c2]
            by_cases c3 : b.toNat < 128
            · rw [if_pos (by omega), if_pos c3]
              rfl
            · rw [if_neg (by omega), if_neg c3]
              exact ih k (i + 1) _ (by omega) (by omega) hn' (by omega)
      by_cases h0 : i = 0
      · rw [if_pos (by omega)]
        refine hj _ ?_
        by_cases h128 : b.toNat = 128
        · rw [decide_eq_true ⟨h0, h128⟩, h128]
          decide
        · rw [decide_eq_false (fun z => h128 z.2), beq_eq_false_iff_ne]
          omega
      · rw [if_neg (by omega)]
        exact hj _ (decide_eq_false (fun z => h0 z.1)).symm
def rdG (most : Int) (l : List UInt8) : Int × Int × Int := pg most 9 0 l 0
theorem groups_read (s : ByteArray) (most : Int) (k : Nat) (hk : 19 ≤ k) : octet_groups.f k s most = some (rdG most s.data.toList) := by
  unfold octet_groups.f
  have := groups_l0 s most 9 k 0 0 rfl (Nat.zero_le _) (by decide) (by omega)
  simpa [rdG] using this
/-- What is told of it: within the bytes; nothing beside an error. -/
theorem pg_long (most : Int) (f : Nat) : ∀ (n : Nat) (l : List UInt8) (i : Nat), 0 ≤ (pg most f n l i).2.1 ∧ (pg most f n l i).2.1 ≤ ((i + l.length : Nat) : Int) ∧ ((pg most f n l i).2.2 ≠ 0 → (pg most f n l i).1 = 0 ∧ (pg most f n l i).2.1 = 0) ∧ 0 ≤ (pg most f n l i).1 ∧ 0 ≤ (pg most f n l i).2.2 := by
  induction f with
  | zero => intro n l i; simp [pg]; omega
  | succ f ih =>
    intro n l i
    cases l with
    | nil => simp [pg]
    | cons b r =>
      simp only [pg]
      split
      · simp; omega
      · split
        · simp; omega
        · split
          · simp only [List.length_cons]
            refine ⟨by omega, by omega, fun h => absurd rfl h, by omega, by omega⟩
          · have := ih (n * 128 + b.toNat % 128) r (i + 1)
            simp only [List.length_cons]
            refine ⟨this.1, by omega, this.2.2.1, this.2.2.2⟩
theorem rdG_long (most : Int) (l : List UInt8) : 0 ≤ (rdG most l).2.1 ∧ (rdG most l).2.1 ≤ (l.length : Int) ∧ ((rdG most l).2.2 ≠ 0 → (rdG most l).1 = 0 ∧ (rdG most l).2.1 = 0) ∧ 0 ≤ (rdG most l).1 ∧ 0 ≤ (rdG most l).2.2 := by
  have := pg_long most 9 0 l 0
  simpa [rdG] using this
theorem rdG_most (most : Int) (f : Nat) : ∀ (n : Nat) (l : List UInt8) (i : Nat), 0 ≤ most → n < 128 ^ (9 - f) → f ≤ 9 → (pg most f n l i).1 ≤ most ∧ (pg most f n l i).1 < 9223372036854775808 := by
  induction f with
  | zero => intro n l i h _ _; simp [pg]; omega
  | succ f ih =>
    intro n l i h hn hf
    have hn' : n * 128 + 127 < 9223372036854775808 := by
      have : 128 ^ (9 - (f + 1)) * 128 ≤ 9223372036854775808 := by
        rw [← Nat.pow_succ]
        exact Nat.le_trans (Nat.pow_le_pow_right (by decide) (show 9 - (f + 1) + 1 ≤ 9 by omega)) (by decide)
      omega
    cases l with
    | nil => simp [pg]; omega
    | cons b r =>
      simp only [pg]
      split
      · simp; omega
      · split
        · simp; omega
        · split
          · simp only; omega
          · refine ih _ r _ h ?_ (by omega)
            rw [show 9 - f = 9 - (f + 1) + 1 by omega, Nat.pow_succ]
            omega

/-- The reader's calls. -/
theorem rGroups (s : ByteArray) (c most : Int) (k : Nat) (hk : 19 ≤ k) :
    octet_Reader_Groups.f k s c most = some (if c = 0 then ((rdG most s.data.toList).1, ofL (s.data.toList.drop (rdG most s.data.toList).2.1.toNat), (rdG most s.data.toList).2.2) else (0, s, c)) := by
  unfold octet_Reader_Groups.f
  by_cases hc : c = 0
  · rw [if_pos hc, if_pos hc, groups_read s most k hk]
    simp only [Option.bind_some]
    unfold octet_Reader_Refuse.f
    rw [if_pos hc]
    simp only [Option.bind_some]
    have h := rdG_long most s.data.toList
    rw [if_pos h.1, if_pos (by have := h.2.1; simpa using this)]
    congr 3
    apply ext
    rw [post_L, ofL_L]
  · rw [if_neg hc, if_neg hc]
theorem rBytes (s : ByteArray) (c n : Int) : octet_Reader_Bytes.f s c n = some (if c = 0 then (if n < 0 then (⟨#[]⟩, s, 1) else if n > (s.size : Int) then (⟨#[]⟩, s, 10) else (ofL (s.data.toList.take n.toNat), ofL (s.data.toList.drop n.toNat), c)) else (⟨#[]⟩, s, c)) := by
  unfold octet_Reader_Bytes.f octet_Reader_Refuse.f
  by_cases hc : c = 0
  · simp only [if_pos hc, Option.bind_some]
    by_cases h1 : n < 0
    · rw [if_pos h1, if_pos h1]
    · rw [if_neg h1, if_neg h1]
      by_cases h2 : n > (s.size : Int)
      · rw [if_pos h2, if_pos h2]
      · rw [if_neg h2, if_neg h2, if_pos (by omega), if_pos (by omega)]
        congr 2
        · apply ext
          rw [pre_L, ofL_L]
        · congr 1
          apply ext
          rw [post_L, ofL_L]
  · rw [if_neg hc, if_neg hc]
end Go.Proofs.YtjhimmnogjmngaaDoor.OctF
end
/-! OctR -/
section
/- The document's numbers and texts as bytes are the plain words on lists, too. -/
namespace Go.Proofs.YtjhimmnogjmngaaDoor.OctF
open Go Go.RowKit Go.Proofs.YtjhimmnogjmngaaDoor.Px Go.Proofs.YtjhimmnogjmngaaDoorW.PrintWords Go.Proofs.YtjhimmnogjmngaaDoor.Str

theorem ref_Grouped_l0 (n : Nat) : ∀ (s : ByteArray), n < 9223372036854775808 → s.size + (hi (n / 128)).length ≤ 1000 → Ev (fun k => gongref01_Grouped.l0 k (n : Int) s) (ofL (hi (n / 128) ++ s.data.toList)) := by
  induction n using Nat.strongRecOn with
  | _ n ih =>
    intro s hn hs
    by_cases h : n < 128
    · refine Ev.step (f := fun _ => some s) (fun k => ?_) ?_
      · simp only [gongref01_Grouped.l0]
        rw [if_neg (by omega)]
      · rw [show n / 128 = 0 by omega, hi_zero, List.nil_append, ofL_of]
        exact Ev.now _
    · have h1 : n / 128 ≠ 0 := by omega
      have e1 : wrap64 (Int.tdiv (n : Int) 128) = ((n / 128 : Nat) : Int) := by
        rw [Int.tdiv_eq_ediv_of_nonneg (by omega), wrap64_id (by omega) (by omega)]
        omega
      have e2 : strOfNums [wrap64 (Int.tmod ((n / 128 : Nat) : Int) 128 + 128) % 256] = ofL [UInt8.ofNat (n / 128 % 128 + 128)] := by
        apply ext
        rw [nums_L, ofL_L, Int.tmod_eq_emod_of_nonneg (by omega), wrap64_id (by omega) (by omega)]
        simp only [List.map_cons, List.map_nil, List.cons.injEq, and_true]
        congr 1
        omega
      rw [hi_pos h1] at hs ⊢
      rw [List.length_append] at hs
      simp only [List.length_cons, List.length_nil] at hs
      have hsz : (ofL [UInt8.ofNat (n / 128 % 128 + 128)]).size + s.size ≤ 9223372036854775807 := by simp; omega
      have hsum : hi (n / 128 / 128) ++ [UInt8.ofNat (n / 128 % 128 + 128)] ++ s.data.toList = hi (n / 128 / 128) ++ (ofL [UInt8.ofNat (n / 128 % 128 + 128)] ++ s).data.toList := by simp
      rw [hsum]
      have hsz2 : (ofL [UInt8.ofNat (n / 128 % 128 + 128)] ++ s).size = 1 + s.size := by rw [size_L, app_L]; simp; omega
      refine Ev.step (f := fun k => gongref01_Grouped.l0 k ((n / 128 : Nat) : Int) (ofL [UInt8.ofNat (n / 128 % 128 + 128)] ++ s)) (fun k => ?_) (ih (n / 128) (by omega) _ (by omega) (by omega))
      simp only [gongref01_Grouped.l0]
      rw [if_pos (by omega), e1]
      simp only [Option.bind_some]
      rw [e2, if_pos hsz]
theorem ref_Grouped_ev (n : Nat) (hn : n < 9223372036854775808) : Ev (fun k => gongref01_Grouped.f k (n : Int)) (ofL (grp n)) := by
  have e : strOfNums [Int.tmod (n : Int) 128 % 256] = ofL [UInt8.ofNat (n % 128)] := by
    apply ext
    rw [nums_L, ofL_L, Int.tmod_eq_emod_of_nonneg (by omega)]
    simp only [List.map_cons, List.map_nil, List.cons.injEq, and_true]
    congr 1
    omega
  unfold gongref01_Grouped.f
  rw [e]
  have hl := hi_length 8 (n / 128) (by omega)
  exact ref_Grouped_l0 n (ofL [UInt8.ofNat (n % 128)]) hn (by simp; omega)
theorem ref_Padded_l0 (w : Int) (d : Nat) : ∀ (n : Nat) (s : ByteArray) (i : Int), w = i + (d : Int) → w ≤ 1000 → 0 ≤ i → n < 9223372036854775808 → s.size ≤ 2000 - d →
    Ev (fun k => gongref01_Padded.l0 k (n : Int) w s i) (ofL (be d n ++ s.data.toList)) := by
  induction d with
  | zero =>
    intro n s i hi hw h0 hn hs
    refine Ev.step (f := fun _ => some s) (fun k => ?_) ?_
    · simp only [gongref01_Padded.l0]
      rw [if_neg (by omega)]
    · simp only [be, List.nil_append]
      rw [ofL_of]
      exact Ev.now _
  | succ d ih =>
    intro n s i hi hw h0 hn hs
    have e1 : Int.tmod (n : Int) 256 = (n % 256 : Nat) := by rw [Int.tmod_eq_emod_of_nonneg (by omega)]; omega
    have e2 : Int.tdiv (n : Int) 256 = (n / 256 : Nat) := by rw [Int.tdiv_eq_ediv_of_nonneg (by omega)]; omega
    have e3 : (strOfNums [Int.tmod (n : Int) 256 % 256]) = ofL [UInt8.ofNat n] := by
      apply ext
      rw [nums_L, ofL_L, e1]
      simp only [List.map_cons, List.map_nil, List.cons.injEq, and_true]
      apply UInt8.toNat_inj.1
      rw [UInt8.toNat_ofNat', UInt8.toNat_ofNat']
      omega
    have hsz : (ofL [UInt8.ofNat n]).size + s.size ≤ 9223372036854775807 := by simp; omega
    have hsum : be (d + 1) n ++ s.data.toList = be d (n / 256) ++ (ofL [UInt8.ofNat n] ++ s).data.toList := by simp [be]
    rw [hsum]
    refine Ev.step (f := fun k => gongref01_Padded.l0 k ((n / 256 : Nat) : Int) w (ofL [UInt8.ofNat n] ++ s) (i + 1)) (fun k => ?_) (ih (n / 256) _ (i + 1) (by omega) hw (by omega) (by omega) ?_)
    · simp only [gongref01_Padded.l0]
      rw [if_pos (by omega)]
      simp only [Option.bind_some]
      rw [e3, if_pos hsz, e2, wrap64_id (by omega) (by omega), wrap64_id (by omega) (by omega)]
    · have : (ofL [UInt8.ofNat n] ++ s).size = 1 + s.size := by rw [size_L, app_L]; simp; omega
      omega
theorem ref_Padded_ev (n : Nat) (w : Nat) (hn : n < 9223372036854775808) (hw : w ≤ 1000) : Ev (fun k => gongref01_Padded.f k (n : Int) (w : Int)) (ofL (be w n)) := by
  have := ref_Padded_l0 (w : Int) w n ⟨#[]⟩ 0 (by omega) (by omega) (by omega) hn (by simp [size_L])
  simp only [List.append_nil] at this
  exact this

/-- The number of bytes, the highest first. -/
def val (l : List UInt8) : Nat := l.foldl (fun n b => n * 256 + b.toNat) 0
theorem val_snoc (l : List UInt8) (b : UInt8) : val (l ++ [b]) = val l * 256 + b.toNat := by simp [val, List.foldl_append]
theorem snoc_ind {α : Type} {Q : List α → Prop} (h0 : Q []) (h1 : ∀ l b, Q l → Q (l ++ [b])) (l : List α) : Q l := by
  rw [← List.reverse_reverse l]
  induction l.reverse with
  | nil => exact h0
  | cons b r ih => rw [List.reverse_cons]; exact h1 _ _ ih
theorem val_lt (l : List UInt8) : val l < 256 ^ l.length := by
  refine snoc_ind (Q := fun l => val l < 256 ^ l.length) (by decide) (fun l b ih => ?_) l
  rw [val_snoc, List.length_append, List.length_singleton, Nat.pow_succ]
  have := b.toNat_lt
  omega
theorem val_be (w n : Nat) : val (be w n) = n % 256 ^ w := by
  induction w generalizing n with
  | zero => simp [be, val, Nat.mod_one]
  | succ w ih =>
    have e : (UInt8.ofNat n).toNat = n % 256 := UInt8.toNat_ofNat'
    rw [be, val_snoc, ih, e, Nat.pow_succ, Nat.mul_comm (256 ^ w) 256, Nat.mod_mul]
    omega
theorem val_cons (b : UInt8) (l : List UInt8) : val (b :: l) = b.toNat * 256 ^ l.length + val l := by
  refine snoc_ind (Q := fun l => val (b :: l) = b.toNat * 256 ^ l.length + val l) (by simp [val]) (fun l c ih => ?_) l
  rw [← List.cons_append, val_snoc, ih, val_snoc, List.length_append, List.length_singleton, Nat.pow_succ, Nat.add_mul, Nat.mul_assoc]
  omega
/-- Too great a number: eight bytes, the first of them from 128 on. -/
theorem val_big (l : List UInt8) (h : l.length ≤ 8) : val l < 9223372036854775808 ↔ ¬ (l.length = 8 ∧ 128 ≤ (l.getD 0 0).toNat) := by
  by_cases h8 : l.length = 8
  · match l, h8 with
    | b :: r, h8 =>
      have hr : r.length = 7 := by simpa using h8
      have hv := val_lt r
      have h7 : (256 : Nat) ^ 7 = 72057594037927936 := by decide
      rw [hr, h7] at hv
      rw [val_cons, hr, h7, h8]
      have := b.toNat_lt
      simp only [List.getD_cons_zero, true_and]
      omega
  · have hv := val_lt l
    have : (256 : Nat) ^ l.length ≤ 256 ^ 7 := Nat.pow_le_pow_right (by decide) (by omega)
    have h7 : (256 : Nat) ^ 7 = 72057594037927936 := by decide
    constructor
    · intro _ z; exact h8 z.1
    · intro _; omega
theorem val_take (l : List UInt8) (i : Nat) (h : i < l.length) : val (l.take (i + 1)) = val (l.take i) * 256 + (l.getD i 0).toNat := by
  rw [List.take_succ_eq_append_getElem h, val_snoc]
  simp [List.getD, h]
theorem val_take_le (l : List UInt8) (i : Nat) : val (l.take i) ≤ val l := by
  have key : ∀ d i, i + d = l.length → val (l.take i) ≤ val l := by
    intro d
    induction d with
    | zero => intro i hi; rw [List.take_of_length_le (by omega)]; exact Nat.le_refl _
    | succ d ih =>
      intro i hi
      have := ih (i + 1) (by omega)
      rw [val_take l i (by omega)] at this
      omega
  by_cases h : i ≤ l.length
  · exact key (l.length - i) i (by omega)
  · rw [List.take_of_length_le (by omega)]; exact Nat.le_refl _
theorem be_first (w n : Nat) (h : 1 ≤ w) : ∃ r, be w n = UInt8.ofNat (n / 256 ^ (w - 1)) :: r := by
  have := be_add 1 (w - 1) n
  rw [show 1 + (w - 1) = w by omega] at this
  exact ⟨be (w - 1) n, by rw [this]; rfl⟩
end Go.Proofs.YtjhimmnogjmngaaDoor.OctF
end
/-! OctW -/
section
/- A reader's wide numbers and texts. -/
namespace Go.Proofs.YtjhimmnogjmngaaDoor.OctF
open Go Go.RowKit Go.Proofs.YtjhimmnogjmngaaDoor.Px Go.Proofs.YtjhimmnogjmngaaDoorW.PrintWords Go.Proofs.YtjhimmnogjmngaaDoor.Str
theorem join8 (n b : Nat) (hn : n < 72057594037927936) (hb : b < 256) : Go.bits .or .u64 (IntKind.u64.wrap ((n : Int) * 256)) (b : Int) = ((n * 256 + b : Nat) : Int) := by
  have hw : IntKind.u64.wrap ((n : Int) * 256) = (n : Int) * 256 := by rw [IntKind.wrap_u64]; omega
  rw [hw, bits_join .u64 64 (by decide) (fun n h0 h1 => by rw [IntKind.wrap_u64]; omega) 8 ((n : Int) * 256) (b : Int) (by omega) (by omega) (by omega) (by omega) (by omega) (by omega)]
  omega
theorem wideU_val (l : List UInt8) (h : l.length ≤ 8) : Oct.wideU (l.map fun b => (b.toNat : Int)) = (val l : Int) := by
  have key : ∀ l : List UInt8, l.length ≤ 8 → Oct.wideU (l.map fun b => (b.toNat : Int)) = (val l : Int) := fun l => by
    refine snoc_ind (Q := fun l => l.length ≤ 8 → Oct.wideU (l.map fun b => (b.toNat : Int)) = (val l : Int)) (fun _ => rfl) (fun l b ih h => ?_) l
    rw [List.length_append, List.length_singleton] at h
    have h1 := ih (by omega)
    have hv := val_lt l
    have h7 : (256 : Nat) ^ l.length ≤ 72057594037927936 := Nat.le_trans (Nat.pow_le_pow_right (by decide) (show l.length ≤ 7 by omega)) (by decide)
    unfold Oct.wideU at h1 ⊢
    rw [List.map_append, List.foldl_append, h1, val_snoc]
    exact join8 (val l) b.toNat (by omega) (by have := b.toNat_lt; omega)
  exact key l h
theorem rText (s : ByteArray) (c most : Int) : octet_Reader_Text.f s c most = some (if c = 0 then (if (rdG most s.data.toList).2.2 = 0 then (if (rdG most s.data.toList).1 > ((s.data.toList.drop (rdG most s.data.toList).2.1.toNat).length : Int) then (⟨#[]⟩, s, 10) else (ofL ((s.data.toList.drop (rdG most s.data.toList).2.1.toNat).take (rdG most s.data.toList).1.toNat), ofL ((s.data.toList.drop (rdG most s.data.toList).2.1.toNat).drop (rdG most s.data.toList).1.toNat), 0)) else (⟨#[]⟩, s, (rdG most s.data.toList).2.2)) else (⟨#[]⟩, s, c)) := by
  unfold octet_Reader_Text.f
  rw [rGroups s c most 40 (by decide)]
  simp only [Option.bind_some]
  obtain ⟨_, _, _, h4, _⟩ := rdG_long most s.data.toList
  by_cases hc : c = 0
  · simp only [if_pos hc]
    by_cases he : (rdG most s.data.toList).2.2 = 0
    · simp only [he, rBytes, if_true]
      rw [if_neg (by omega), ofL_size]
      by_cases hg : (rdG most s.data.toList).1 > ((s.data.toList.drop (rdG most s.data.toList).2.1.toNat).length : Int)
      · rw [if_pos hg, if_pos hg]
        rfl
      · rw [if_neg hg, if_neg hg]
        simp only [Option.bind_some, if_true, ofL_L]
    · simp only [if_neg he, rBytes, Option.bind_some]
  · simp only [if_neg hc, rBytes, Option.bind_some]
end Go.Proofs.YtjhimmnogjmngaaDoor.OctF
end
/-! OctB -/
section
/- Groups there and back. -/
namespace Go.Proofs.YtjhimmnogjmngaaDoor.OctF
open Go Go.Proofs.YtjhimmnogjmngaaDoor.Str

theorem pg_hi (most : Int) (q : Nat) : ∀ acc : List UInt8, (q : Int) ≤ most → q < 72057594037927936 → pg most 9 0 (hi q ++ acc) 0 = pg most (9 - (hi q).length) q acc (hi q).length := by
  induction q using Nat.strongRecOn with
  | _ q ih =>
    intro acc hm hq
    by_cases h0 : q = 0
    · subst h0
      rw [hi_zero]
      rfl
    · have hl : (hi (q / 128)).length ≤ 7 := hi_length 7 _ (by omega)
      rw [hi_pos h0, List.append_assoc, ih (q / 128) (by omega) _ (by omega) (by omega)]
      generalize hL : (hi (q / 128)).length = L at hl
      obtain ⟨f, hf⟩ : ∃ f, 9 - L = f + 1 := ⟨8 - L, by omega⟩
      have hb : (UInt8.ofNat (q % 128 + 128)).toNat = q % 128 + 128 := toNat_ofNat (by omega)
      have hz : ¬ (L = 0 ∧ q % 128 + 128 = 128) := by
        rintro ⟨z1, z2⟩
        have hq0 : q / 128 = 0 := by
          rcases Nat.eq_zero_or_pos (q / 128) with h | h
          · exact h
          · rw [hi_pos (by omega), List.length_append] at hL
            simp at hL
            omega
        omega
      rw [hf]
      simp only [List.cons_append, List.nil_append, pg, hb]
      rw [if_neg hz, show q / 128 * 128 + (q % 128 + 128) % 128 = q by omega, if_neg (by omega), if_neg (by omega), List.length_append, hL]
      simp only [List.length_cons, List.length_nil, Nat.zero_add]
      congr 1
      omega
/-- A number's groups are read back, with whatever stands behind them. -/
theorem rdG_grp (most : Int) (n : Nat) (r : List UInt8) (hm : (n : Int) ≤ most) (hn : n < 9223372036854775808) : rdG most (grp n ++ r) = ((n : Int), ((grp n).length : Int), 0) := by
  have hl : (hi (n / 128)).length ≤ 8 := hi_length 8 _ (by omega)
  unfold rdG grp
  rw [List.append_assoc, pg_hi most (n / 128) _ (by omega) (by omega)]
  generalize hL : (hi (n / 128)).length = L at hl ⊢
  have hb : (UInt8.ofNat (n % 128)).toNat = n % 128 := toNat_ofNat (by omega)
  obtain ⟨f, hf⟩ : ∃ f, 9 - L = f + 1 := ⟨8 - L, by omega⟩
  rw [hf]
  simp only [List.cons_append, List.nil_append, pg, hb, List.length_append, List.length_cons, List.length_nil]
  rw [if_neg (by omega), show n / 128 * 128 + n % 128 % 128 = n by omega, if_neg (by omega), if_pos (by omega), hL]
/-- What is read as groups is written as just the bytes that were read. -/
theorem pg_inv (most : Int) (f : Nat) : ∀ (n : Nat) (pre l : List UInt8) (i : Nat), i = pre.length → hi n = pre → (i = 0 ↔ n = 0) → (pg most f n l i).2.2 = 0 →
    ∃ m : Nat, (pg most f n l i).1 = (m : Int) ∧ ∃ j : Nat, (pg most f n l i).2.1 = (j : Int) ∧ i ≤ j ∧ j ≤ i + l.length ∧ grp m = pre ++ l.take (j - i) := by
  induction f with
  | zero => intro n pre l i _ _ _ h; simp [pg] at h
  | succ f ih =>
    intro n pre l i hi' hp hz h
    cases l with
    | nil => simp [pg] at h
    | cons b r =>
      simp only [pg] at h ⊢
      have hbl := b.toNat_lt
      split at h
      · simp at h
      · rename_i h1
        rw [if_neg h1]
        split at h
        · simp at h
        · rename_i h2
          rw [if_neg h2]
          split at h
          · rename_i h3
            rw [if_pos h3]
            refine ⟨_, rfl, i + 1, rfl, by omega, by simp, ?_⟩
            unfold grp
            rw [show (n * 128 + b.toNat % 128) / 128 = n by omega, hp, show i + 1 - i = 1 by omega]
            simp only [List.take_succ_cons, List.take_zero]
            congr 2
            apply UInt8.toNat_inj.1
            rw [toNat_ofNat (by omega)]
            omega
          · rename_i h3
            rw [if_neg h3]
            have hn0 : n * 128 + b.toNat % 128 ≠ 0 := by
              intro z
              have : n = 0 := by omega
              exact h1 ⟨hz.2 this, by omega⟩
            have hh : hi (n * 128 + b.toNat % 128) = pre ++ [b] := by
              rw [hi_pos hn0, show (n * 128 + b.toNat % 128) / 128 = n by omega, hp]
              congr 2
              apply UInt8.toNat_inj.1
              rw [toNat_ofNat (by omega)]
              omega
            obtain ⟨m, e1, j, e2, hj1, hj2, e3⟩ := ih (n * 128 + b.toNat % 128) (pre ++ [b]) r (i + 1) (by simp; omega) hh (by omega) h
            refine ⟨m, e1, j, e2, by omega, by simp; omega, ?_⟩
            rw [e3, List.append_assoc]
            congr 1
            rw [show j - i = (j - (i + 1)) + 1 by omega, List.take_succ_cons]
            rfl
theorem rdG_inv (most : Int) (l : List UInt8) (h : (rdG most l).2.2 = 0) : ∃ m j : Nat, (rdG most l).1 = (m : Int) ∧ (rdG most l).2.1 = (j : Int) ∧ j ≤ l.length ∧ grp m = l.take j := by
  obtain ⟨m, e1, j, e2, _, h2, e3⟩ := pg_inv most 9 0 [] l 0 rfl hi_zero (by simp) h
  exact ⟨m, j, e1, e2, by simpa using h2, by simpa using e3⟩
/-- Of two numbers' groups neither begins the other, but if they are the same. -/
theorem grp_prefix {n m : Nat} (hn : n < 9223372036854775808) (hm : m < 9223372036854775808) : (grp m).take (grp n).length = grp n ↔ n = m := by
  constructor
  · intro h
    have h1 := rdG_grp 9223372036854775807 m [] (by omega) hm
    have h2 := rdG_grp 9223372036854775807 n ((grp m).drop (grp n).length) (by omega) hn
    have e : grp n ++ (grp m).drop (grp n).length = grp m := by
      have := List.take_append_drop (grp n).length (grp m)
      rw [h] at this
      exact this
    rw [List.append_nil] at h1
    rw [e, h1] at h2
    have := congrArg Prod.fst h2
    simp at this
    omega
  · rintro rfl
    rw [List.take_of_length_le (Nat.le_refl _)]
end Go.Proofs.YtjhimmnogjmngaaDoor.OctF
end
/-! Rec -/
section
/- Records as lists of bytes: what is put, the next one, and all that stand at the beginning. -/
namespace Go.Proofs.YtjhimmnogjmngaaDoor.Rec
open Go Go.RowKit Go.Proofs.YtjhimmnogjmngaaDoor.Px Go.Proofs.YtjhimmnogjmngaaDoorW.PrintWords Go.Proofs.YtjhimmnogjmngaaDoor.Str Go.Proofs.YtjhimmnogjmngaaDoor.OctF Go.Proofs.YtjhimmnogjmngaaDoor.CrcB
def rc (p : List UInt8) : List UInt8 := tagL (grp p.length ++ p)
theorem rc_length (p : List UInt8) : (rc p).length = (grp p.length).length + p.length + 4 := by unfold rc; rw [tagL_length, List.length_append]
theorem rc_split (p r : List UInt8) : rc p ++ r = grp p.length ++ (p ++ (le4 (sumL (grp p.length ++ p)) ++ r)) := by unfold rc tagL; simp only [List.append_assoc]
theorem put_f (s : ByteArray) (h : s.size ≤ 65536) : record_Put.f s = some (ofL (rc s.data.toList), 0) := by
  unfold record_Put.f
  have hg := grp_length s.size (by omega)
  rw [if_neg (by omega), text_ok s (by omega)]
  simp only [Option.bind_some]
  rw [tag_f _ (by rw [ofL_size, List.length_append]; simp; omega), ofL_L]
  simp only [Option.bind_some, rc]
  rw [← size_L]
theorem put_no (s : ByteArray) (h : 65536 < s.size) : record_Put.f s = some (⟨#[]⟩, 2) := by
  unfold record_Put.f
  rw [if_pos (by omega)]
theorem long_f (x : Int) : record_Long.f x = some (if 0 ≤ x ∧ x ≤ 65536 then ((grp x.toNat).length : Int) + x + 4 else 0) := by
  unfold record_Long.f
  by_cases h0 : x < 0
  · rw [if_pos h0, if_neg (by omega)]
  · by_cases h1 : x > 65536
    · rw [if_neg h0, if_pos h1, if_neg (by omega)]
    · rw [if_neg h0, if_neg h1, if_pos (by omega)]
      obtain ⟨n, rfl⟩ : ∃ n : Nat, x = n := ⟨x.toNat, by omega⟩
      have hg := grp_length n (by omega)
      rw [groups_ok n (by omega)]
      simp only [Option.bind_some, ofL_size, Int.toNat_natCast]
      rw [wrap64_id (x := ((grp n).length : Int) + n) (by omega) (by omega), wrap64_id (by omega) (by omega)]
def gj (l : List UInt8) : Nat := (rdG 65536 l).2.1.toNat
def gm (l : List UInt8) : Nat := (rdG 65536 l).1.toNat
/-- The first record, as its payload and what stands behind. -/
def nx (l : List UInt8) : Option (List UInt8 × List UInt8) :=
  if (rdG 65536 l).2.2 = 0 ∧ gj l + gm l + 4 ≤ l.length ∧ run all (l.take (gj l + gm l + 4)) = residue then some ((l.drop (gj l)).take (gm l), l.drop (gj l + gm l + 4)) else none
def nxR (l : List UInt8) : ByteArray × ByteArray × Int := match nx l with | some (p, r) => (ofL p, ofL r, 0) | none => (⟨#[]⟩, ⟨#[]⟩, 260)
theorem nxR_none {l : List UInt8} (h : nx l = none) : nxR l = (⟨#[]⟩, ⟨#[]⟩, 260) := by unfold nxR; rw [h]
theorem nxR_some {l p r : List UInt8} (h : nx l = some (p, r)) : nxR l = (ofL p, ofL r, 0) := by unfold nxR; rw [h]
theorem next_f (s : ByteArray) (hs : s.size ≤ 1073741824) : record_Next.f s = some (nxR s.data.toList) := by
  have hsl : s.data.toList.length = s.size := by simp
  obtain ⟨g0, g1, g2, g3, g4⟩ := rdG_long 65536 s.data.toList
  have bad : ∀ (t : ByteArray) (c : Int), c ≠ 0 → octet_Reader_Bytes.f t c 4 = some (⟨#[]⟩, t, c) := by
    intro t c hc
    rw [rBytes, if_neg hc]
  unfold record_Next.f octet_Read.f
  simp only [Option.bind_some]
  rw [rText]
  simp only [Option.bind_some, if_true]
  by_cases he : (rdG 65536 s.data.toList).2.2 = 0
  · simp only [if_pos he]
    have hmm : (rdG 65536 s.data.toList).1 = (gm s.data.toList : Int) := by unfold gm; omega
    by_cases hg : (rdG 65536 s.data.toList).1 > ((s.data.toList.drop (rdG 65536 s.data.toList).2.1.toNat).length : Int)
    · simp only [if_pos hg]
      simp only [bad _ 10 (by decide), Option.bind_some, octet_Reader_Code.f, if_neg (show ¬ (10 : Int) = 0 by decide)]
      rw [nxR_none]
      unfold nx
      rw [if_neg]
      rintro ⟨_, h, _⟩
      rw [List.length_drop] at hg
      unfold gj at h
      omega
    · simp only [if_neg hg]
      have hgl : gj s.data.toList + gm s.data.toList ≤ s.size := by
        rw [List.length_drop] at hg
        unfold gj
        omega
      rw [rBytes]
      have e1 : (ofL ((s.data.toList.drop (rdG 65536 s.data.toList).2.1.toNat).drop (rdG 65536 s.data.toList).1.toNat)) = ofL (s.data.toList.drop (gj s.data.toList + gm s.data.toList)) := by rw [List.drop_drop]; rfl
      rw [e1]
      simp only [if_true, if_neg (show ¬ (4 : Int) < 0 by decide), ofL_size, List.length_drop, hsl]
      by_cases h4 : (4 : Int) > ((s.size - (gj s.data.toList + gm s.data.toList) : Nat) : Int)
      · simp only [if_pos h4, Option.bind_some, octet_Reader_Code.f, if_neg (show ¬ (10 : Int) = 0 by decide)]
        rw [nxR_none]
        unfold nx
        rw [if_neg]
        rintro ⟨_, h, _⟩
        omega
      · simp only [if_neg h4, Option.bind_some, octet_Reader_Code.f, octet_Reader_Left.f, if_true, ofL_L, List.drop_drop, ofL_size, List.length_drop, hsl]
        have e2 : wrap64 ((s.size : Int) - ((s.size - (gj s.data.toList + gm s.data.toList + (4 : Int).toNat) : Nat) : Int)) = ((gj s.data.toList + gm s.data.toList + 4 : Nat) : Int) := by
          rw [show (4 : Int).toNat = 4 from rfl, wrap64_id (by omega) (by omega)]
          omega
        rw [e2, if_pos (by omega), if_pos (by omega), Int.toNat_natCast, open_f _ (by rw [size_L, pre_L, List.length_take]; omega)]
        simp only [Option.bind_some, pre_L]
        have e3 : (s.extract 0 (gj s.data.toList + gm s.data.toList + 4)).size = gj s.data.toList + gm s.data.toList + 4 := by rw [size_L, pre_L, List.length_take]; omega
        rw [e3]
        by_cases hr : run all (s.data.toList.take (gj s.data.toList + gm s.data.toList + 4)) = residue
        · simp only [if_pos (show 4 ≤ gj s.data.toList + gm s.data.toList + 4 ∧ run all (s.data.toList.take (gj s.data.toList + gm s.data.toList + 4)) = residue from ⟨by omega, hr⟩), if_true]
          rw [nxR_some (p := (s.data.toList.drop (gj s.data.toList)).take (gm s.data.toList)) (r := s.data.toList.drop (gj s.data.toList + gm s.data.toList + 4)) (by unfold nx; rw [if_pos ⟨he, by omega, hr⟩])]
          congr 3
          apply ext
          rw [post_L, ofL_L]
        · simp only [if_neg (show ¬ (4 ≤ gj s.data.toList + gm s.data.toList + 4 ∧ run all (s.data.toList.take (gj s.data.toList + gm s.data.toList + 4)) = residue) from fun z => hr z.2), Bool.false_eq_true, if_false]
          rw [nxR_none (by unfold nx; rw [if_neg (fun z => hr z.2.2)])]
  · simp only [if_neg he]
    simp only [bad _ _ he, Option.bind_some, octet_Reader_Code.f, if_neg he]
    rw [nxR_none]
    unfold nx
    rw [if_neg (fun z => he z.1)]
theorem nx_rc (p r : List UInt8) (h : p.length ≤ 65536) : nx (rc p ++ r) = some (p, r) := by
  have hg := rdG_grp 65536 p.length (p ++ (le4 (sumL (grp p.length ++ p)) ++ r)) (by omega) (by omega)
  have hj : gj (rc p ++ r) = (grp p.length).length := by unfold gj; rw [rc_split, hg]; rfl
  have hm : gm (rc p ++ r) = p.length := by unfold gm; rw [rc_split, hg]; rfl
  unfold nx
  rw [hj, hm, ← rc_length, List.take_left, List.drop_left, if_pos ⟨by rw [rc_split, hg], by rw [List.length_append]; omega, run_tagL _⟩, rc_split, List.drop_left, List.take_left]
theorem nx_inv {l p r : List UInt8} (h : nx l = some (p, r)) : l = rc p ++ r ∧ p.length ≤ 65536 := by
  unfold nx at h
  by_cases hc : (rdG 65536 l).2.2 = 0 ∧ gj l + gm l + 4 ≤ l.length ∧ run all (l.take (gj l + gm l + 4)) = residue
  · rw [if_pos hc] at h
    obtain ⟨he, hl, hr⟩ := hc
    obtain ⟨m, j, e1, e2, hj, hg⟩ := rdG_inv 65536 l he
    have hgj : gj l = j := by unfold gj; rw [e2]; rfl
    have hgm : gm l = m := by unfold gm; rw [e1]; rfl
    have hm := (rdG_most 65536 9 0 l 0 (by decide) (by decide) (by decide)).1
    rw [show (pg 65536 9 0 l 0).1 = (rdG 65536 l).1 from rfl, e1] at hm
    rw [hgj, hgm] at h hl hr
    simp only [Option.some.injEq, Prod.mk.injEq] at h
    obtain ⟨rfl, rfl⟩ := h
    have hpl : ((l.drop j).take m).length = m := by rw [List.length_take, List.length_drop]; omega
    refine ⟨?_, by rw [hpl]; omega⟩
    have ht := (owns_iff (l.take (j + m + 4)) (by rw [List.length_take]; omega)).2 hr
    have e5 : rc ((l.drop j).take m) = l.take (j + m + 4) := by
      unfold rc
      rw [hpl, hg, ← ht]
      congr 1
      rw [List.take_take, List.length_take, show min (min (j + m + 4) l.length - 4) (j + m + 4) = j + m by omega, List.take_add]
    rw [e5, List.take_append_drop]
  · rw [if_neg hc] at h
    exact absurd h (by simp)
theorem nx_lt {l p r : List UInt8} (h : nx l = some (p, r)) : r.length + 5 ≤ l.length := by
  obtain ⟨e, hp⟩ := nx_inv h
  have := grp_length p.length (by omega)
  rw [e, List.length_append, rc_length]
  omega
theorem nx_nil : nx [] = none := by
  cases h : nx [] with
  | none => rfl
  | some x =>
    have := nx_lt (p := x.1) (r := x.2) h
    simp at this
/-- All records at the beginning: their payloads, and how many bytes they have. -/
def sc (l : List UInt8) : List (List UInt8) × Nat :=
  match h : nx l with
  | none => ([], 0)
  | some (p, r) => have : r.length < l.length := Nat.lt_of_lt_of_le (Nat.lt_add_of_pos_right (by decide)) (nx_lt h); (p :: (sc r).1, (l.length - r.length) + (sc r).2)
termination_by l.length
theorem sc_none {l : List UInt8} (h : nx l = none) : sc l = ([], 0) := by
  rw [sc]
  split
  · rfl
  · rename_i p r h'
    rw [h] at h'
    exact absurd h' (by simp)
theorem sc_some {l p r : List UInt8} (h : nx l = some (p, r)) : sc l = (p :: (sc r).1, (l.length - r.length) + (sc r).2) := by
  rw [sc]
  split
  · rename_i h'
    rw [h] at h'
    exact absurd h' (by simp)
  · rename_i p' r' h'
    rw [h] at h'
    simp only [Option.some.injEq, Prod.mk.injEq] at h'
    obtain ⟨rfl, rfl⟩ := h'
    rfl
theorem sc_len (n : Nat) : ∀ l : List UInt8, l.length ≤ n → 5 * (sc l).1.length ≤ (sc l).2 ∧ (sc l).2 ≤ l.length := by
  induction n with
  | zero =>
    intro l h
    rw [List.length_eq_zero_iff.mp (Nat.le_zero.mp h), sc_none nx_nil]
    simp
  | succ n ih =>
    intro l h
    cases hn : nx l with
    | none => rw [sc_none hn]; simp
    | some x =>
      obtain ⟨p, r⟩ := x
      have := nx_lt hn
      have := ih r (by omega)
      rw [sc_some hn]
      simp only [List.length_cons]
      omega
theorem scan_l0 (s : ByteArray) (hs : s.size ≤ 1073741824) (n : Nat) : ∀ (l : List UInt8) (acc : List ByteArray) (i : Nat), l.length ≤ n → s.data.toList.drop i = l → i ≤ s.size → acc.length ≤ i → Ev (fun k => record_Scan.l0 k s acc (i : Int)) (acc ++ (sc l).1.map ofL, ((i + (sc l).2 : Nat) : Int)) := by
  have hsl : s.data.toList.length = s.size := by simp
  induction n with
  | zero =>
    intro l acc i hl hd hi ha
    have h0 : l = [] := List.length_eq_zero_iff.mp (Nat.le_zero.mp hl)
    have hlen := congrArg List.length hd
    rw [List.length_drop, h0] at hlen
    rw [h0, sc_none nx_nil]
    refine Ev.step (f := fun _ => some (acc, (i : Int))) (fun k => ?_) (by simpa using Ev.now (acc, (i : Int)))
    simp only [record_Scan.l0]
    rw [if_neg (by simp at hlen; omega)]
  | succ n ih =>
    intro l acc i hl hd hi ha
    have hlen := congrArg List.length hd
    rw [List.length_drop, hsl] at hlen
    by_cases h0 : i = s.size
    · have h0 : l = [] := List.length_eq_zero_iff.mp (by omega)
      rw [h0, sc_none nx_nil]
      refine Ev.step (f := fun _ => some (acc, (i : Int))) (fun k => ?_) (by simpa using Ev.now (acc, (i : Int)))
      simp only [record_Scan.l0]
      rw [if_neg (by omega)]
    · have hx : record_Next.f (s.extract ((i : Nat) : Int).toNat s.size) = some (nxR l) := by
        rw [next_f _ (by rw [size_L, post_L, List.length_drop]; omega), post_L, Int.toNat_natCast, hd]
      cases hn : nx l with
      | none =>
        rw [sc_none hn]
        refine Ev.step (f := fun _ => some (acc, (i : Int))) (fun k => ?_) (by simpa using Ev.now (acc, (i : Int)))
        simp only [record_Scan.l0]
        rw [if_pos (by omega), if_pos (by omega), if_pos (by omega), hx, nxR_none hn]
        simp only [Option.bind_some, if_neg (show ¬ (260 : Int) = 0 by decide)]
      | some x =>
        obtain ⟨p, r⟩ := x
        have hlt := nx_lt hn
        obtain ⟨e, _⟩ := nx_inv hn
        have hrd : s.data.toList.drop (s.size - r.length) = r := by
          have e2 : s.size - r.length = i + (l.length - r.length) := by omega
          rw [e2, ← List.drop_drop, hd]
          have e3 : l.length - r.length = (rc p).length := by rw [e, List.length_append]; omega
          rw [e3, e, List.drop_left]
        have h := ih r (acc ++ [ofL p]) (s.size - r.length) (by omega) hrd (by omega) (by rw [List.length_append, List.length_singleton]; omega)
        rw [sc_some hn]
        refine Ev.step (f := fun k => record_Scan.l0 k s (acc ++ [ofL p]) ((s.size - r.length : Nat) : Int)) (fun k => ?_) ?_
        · simp only [record_Scan.l0]
          rw [if_pos (by omega), if_pos (by omega), if_pos (by omega), hx, nxR_some hn]
          simp only [Option.bind_some, if_true]
          rw [if_pos (by omega), ofL_size, wrap64_id (by omega) (by omega)]
          congr 1
          omega
        · simp only [List.map_cons]
          rw [List.append_assoc] at h
          rw [show i + (l.length - r.length + (sc r).2) = s.size - r.length + (sc r).2 by omega]
          exact h
theorem scan_ev (s : ByteArray) (hs : s.size ≤ 1073741824) : Ev (fun k => record_Scan.f k s) ((sc s.data.toList).1.map ofL, ((sc s.data.toList).2 : Int)) := by
  have := scan_l0 s hs s.data.toList.length s.data.toList [] 0 (by omega) rfl (by omega) (by simp)
  unfold record_Scan.f
  simpa using this
def recs (ps : List (List UInt8)) : List UInt8 := ps.flatMap rc
theorem sc_recs (ps : List (List UInt8)) (r : List UInt8) (h : ∀ p ∈ ps, p.length ≤ 65536) : sc (recs ps ++ r) = (ps ++ (sc r).1, (recs ps).length + (sc r).2) := by
  induction ps with
  | nil => simp [recs]
  | cons p ps ih =>
    have e : recs (p :: ps) ++ r = rc p ++ (recs ps ++ r) := by simp [recs, List.append_assoc]
    rw [e, sc_some (nx_rc p (recs ps ++ r) (h p (by simp))), ih (fun q hq => h q (by simp [hq]))]
    simp only [List.cons_append, Prod.mk.injEq, true_and]
    simp only [recs, List.flatMap_cons, List.length_append]
    omega
/-- Cut anywhere: just those are told that are whole. -/
theorem sc_cut (ps : List (List UInt8)) : ∀ k : Nat, (∀ p ∈ ps, p.length ≤ 65536) → ∃ M, M ≤ ps.length ∧ (∀ i, i < ps.length → ((recs (ps.take (i + 1))).length ≤ k ↔ i + 1 ≤ M)) ∧ sc ((recs ps).take k) = (ps.take M, (recs (ps.take M)).length) := by
  induction ps with
  | nil =>
    intro k _
    refine ⟨0, by simp, by simp, ?_⟩
    simp only [recs, List.flatMap_nil, List.take_nil, List.length_nil]
    exact sc_none nx_nil
  | cons p ps ih =>
    intro k h
    have e : recs (p :: ps) = rc p ++ recs ps := by simp [recs]
    by_cases hk : (rc p).length ≤ k
    · obtain ⟨M, hM, hi, hs⟩ := ih (k - (rc p).length) (fun q hq => h q (by simp [hq]))
      refine ⟨M + 1, by simp; omega, ?_, ?_⟩
      · intro i hil
        rw [List.take_succ_cons]
        have e1 : (recs (p :: ps.take i)).length = (rc p).length + (recs (ps.take i)).length := by simp [recs]
        rw [e1]
        cases i with
        | zero => simp [recs]; omega
        | succ i =>
          have := hi i (by simp at hil; omega)
          omega
      · rw [e, List.take_append, List.take_of_length_le hk, sc_some (nx_rc p _ (h p (by simp))), hs, List.take_succ_cons]
        simp only [Prod.mk.injEq, true_and]
        simp only [recs, List.flatMap_cons, List.length_append]
        omega
    · refine ⟨0, by simp, ?_, ?_⟩
      · intro i hil
        rw [List.take_succ_cons]
        have e1 : (recs (p :: ps.take i)).length = (rc p).length + (recs (ps.take i)).length := by simp [recs]
        rw [e1]
        omega
      · rw [List.take_zero, e, List.take_append_of_le_length (by omega)]
        refine sc_none ?_
        cases hn : nx ((rc p).take k) with
        | none => rfl
        | some x =>
          obtain ⟨q, r⟩ := x
          obtain ⟨e2, hq⟩ := nx_inv hn
          have e3 : rc p = rc q ++ (r ++ (rc p).drop k) := by rw [← List.append_assoc, ← e2, List.take_append_drop]
          have h1 := nx_rc p [] (h p (by simp))
          rw [List.append_nil, e3, nx_rc q _ hq] at h1
          simp only [Option.some.injEq, Prod.mk.injEq] at h1
          have h2 := congrArg List.length h1.2
          rw [List.length_append, List.length_drop] at h2
          simp at h2
          omega
end Go.Proofs.YtjhimmnogjmngaaDoor.Rec
end
/-! Cut -/
section
/- A text cut to 200 bytes, and texts compared one by one. -/
namespace Go.Proofs.YtjhimmnogjmngaaDoor.Cut
open Go Go.RowKit Go.Proofs.YtjhimmnogjmngaaDoor.Px Go.Proofs.YtjhimmnogjmngaaDoorW.PrintWords Go.Proofs.YtjhimmnogjmngaaDoor.Str
def cutL (s : ByteArray) : List UInt8 := s.data.toList.take 200
theorem cut_f (s : ByteArray) : gongbook_Cut.f s 200 = some (ofL (cutL s)) := by
  unfold gongbook_Cut.f cutL
  by_cases h : (s.size : Int) > 200
  · rw [if_pos h, if_pos (by omega), if_pos (by omega)]
    congr 1
    apply ext
    rw [pre_L, ofL_L]
    rfl
  · rw [if_neg h, List.take_of_length_le (by simp; omega), ofL_of]
theorem cutL_length (s : ByteArray) : (cutL s).length ≤ 200 := by unfold cutL; rw [List.length_take]; omega
theorem rdOf_getD (l : List ByteArray) (i : Nat) : rdOf ByteArray.empty l (i : Int) = l.getD i ByteArray.empty := by unfold rdOf; rw [Int.toNat_natCast]
theorem same_l0 (a b : List ByteArray) (hb : a.length = b.length) (hl : a.length ≤ 4611686018427387904) (d : Nat) : ∀ (i : Nat) (t : Bool), i + d = a.length → Ev (fun k => gongbook_SameTexts.l0 k a b t (i : Int)) (t && decide (a.drop i = b.drop i)) := by
  induction d with
  | zero =>
    intro i t hi
    refine Ev.step (f := fun _ => some t) (fun k => ?_) ?_
    · simp only [gongbook_SameTexts.l0]
      cases t
      · rw [if_neg (by decide)]
      · rw [if_pos rfl, if_neg (by omega)]
    · rw [List.drop_of_length_le (by omega), List.drop_of_length_le (by omega)]
      simpa using Ev.now t
  | succ d ih =>
    intro i t hi
    cases t with
    | false =>
      refine Ev.step (f := fun _ => some false) (fun k => ?_) (by simpa using Ev.now false)
      simp only [gongbook_SameTexts.l0]
      rw [if_neg (by decide)]
    | true =>
      have h := ih (i + 1) ((rdOf ByteArray.empty a (i : Int)).toList == (rdOf ByteArray.empty b (i : Int)).toList) (by omega)
      refine Ev.step (f := fun k => gongbook_SameTexts.l0 k a b ((rdOf ByteArray.empty a (i : Int)).toList == (rdOf ByteArray.empty b (i : Int)).toList) ((i + 1 : Nat) : Int)) (fun k => ?_) ?_
      · simp only [gongbook_SameTexts.l0]
        rw [if_pos trivial, if_pos (by omega), if_pos (by omega), if_pos (by omega), wrap64_id (by omega) (by omega)]
        rfl
      · have ha : i < a.length := by omega
        have hb' : i < b.length := by omega
        have e : (true && decide (a.drop i = b.drop i)) = (((rdOf ByteArray.empty a (i : Int)).toList == (rdOf ByteArray.empty b (i : Int)).toList) && decide (a.drop (i + 1) = b.drop (i + 1))) := by
          rw [List.drop_eq_getElem_cons ha, List.drop_eq_getElem_cons hb', rdOf_getD, rdOf_getD, List.getD_eq_getElem?_getD, List.getD_eq_getElem?_getD, List.getElem?_eq_getElem ha, List.getElem?_eq_getElem hb', Option.getD_some, Option.getD_some]
          simp only [Bool.true_and, List.cons.injEq, Bool.decide_and]
          congr 1
          rw [Bool.eq_iff_iff, decide_eq_true_eq, beq_iff_eq, toList_iff]
        rw [e]
        exact h
theorem same_ev (a b : List ByteArray) (hl : a.length ≤ 4611686018427387904) (hb : b.length ≤ 4611686018427387904) : Ev (fun k => gongbook_SameTexts.f k a b) (decide (a = b)) := by
  unfold gongbook_SameTexts.f
  by_cases h : a.length = b.length
  · have := same_l0 a b h hl a.length 0 true (by omega)
    rw [List.drop_zero, List.drop_zero, Bool.true_and] at this
    rw [show ((a.length : Int) == (b.length : Int)) = true from beq_iff_eq.mpr (by omega)]
    exact this
  · have hn : ¬ a = b := fun e => h (by rw [e])
    rw [decide_eq_false hn, show ((a.length : Int) == (b.length : Int)) = false from beq_eq_false_iff_ne.mpr (by omega)]
    refine Ev.step (f := fun _ => some false) (fun k => ?_) (Ev.now false)
    simp only [gongbook_SameTexts.l0]
    rw [if_neg (by decide)]
end Go.Proofs.YtjhimmnogjmngaaDoor.Cut
end
/-! RecW -/
section
/- What the laws of records have in common: the example, and records written one behind the other. -/
namespace Go.Proofs.YtjhimmnogjmngaaDoor.Rec
open Go Go.RowKit Go.Proofs.YtjhimmnogjmngaaDoor.Px Go.Proofs.YtjhimmnogjmngaaDoorW.PrintWords Go.Proofs.YtjhimmnogjmngaaDoor.Str Go.Proofs.YtjhimmnogjmngaaDoor.OctF Go.Proofs.YtjhimmnogjmngaaDoor.CrcB Go.Proofs.YtjhimmnogjmngaaDoor.Cut
theorem works_f : gonglaw26_works.f = some true := by
  unfold gonglaw26_works.f
  have hr := rc_length [97, 98, 99]
  have hg := grp_length 3 (by decide)
  have e3 : grp 3 = [3] := by
    unfold grp
    rw [show 3 / 128 = 0 by decide, hi_zero]
    decide
  have e4 : rc [97, 98, 99] = tagL [3, 97, 98, 99] := by
    show tagL (grp 3 ++ [97, 98, 99]) = _
    rw [e3]
    rfl
  rw [put_f _ (by decide)]
  simp only [Option.bind_some]
  rw [show ([97, 98, 99] : List UInt8).length = 3 from rfl] at hr
  have e5 : (ofL (rc [97, 98, 99]) ++ (⟨#[120]⟩ : ByteArray)).data.toList = rc [97, 98, 99] ++ [120] := by rw [app_L, ofL_L]
  rw [if_pos (by rw [ofL_size]; omega), next_f _ (by rw [size_L, e5, List.length_append, List.length_singleton]; omega), e5, nxR_some (nx_rc [97, 98, 99] [120] (by decide)), tag_f _ (by decide)]
  simp only [Option.bind_some, toList_L, ofL_L]
  rw [e4]
  simp only [if_true]
  rfl
def pl (l : List ByteArray) : List (List UInt8) := (l.take 30).map cutL
def ends (ps : List (List UInt8)) (n : Nat) : List Int := (List.range n).map fun i => ((recs (ps.take (i + 1))).length : Int)
theorem pl_length (l : List ByteArray) : (pl l).length = min 30 l.length := by simp [pl]
theorem pl_short (l : List ByteArray) : ∀ p ∈ pl l, p.length ≤ 200 := by
  intro p hp
  unfold pl at hp
  obtain ⟨s, _, rfl⟩ := List.mem_map.mp hp
  exact cutL_length s
theorem pl_short' (l : List ByteArray) : ∀ p ∈ pl l, p.length ≤ 65536 := fun p hp => Nat.le_trans (pl_short l p hp) (by decide)
theorem recs_length (ps : List (List UInt8)) (h : ∀ p ∈ ps, p.length ≤ 200) : (recs ps).length ≤ 213 * ps.length := by
  induction ps with
  | nil => simp [recs]
  | cons p ps ih =>
    have h1 := h p (by simp)
    have h2 := ih (fun q hq => h q (by simp [hq]))
    have h3 := grp_length p.length (by omega)
    have h4 := rc_length p
    simp only [recs, List.flatMap_cons, List.length_append, List.length_cons] at h2 ⊢
    omega
theorem take_snoc {α : Type} (l : List α) (i : Nat) (d : α) (h : i < l.length) : l.take (i + 1) = l.take i ++ [l.getD i d] := by
  rw [List.take_succ_eq_append_getElem h, List.getD_eq_getElem?_getD, List.getElem?_eq_getElem h, Option.getD_some]
theorem recs_snoc (ps : List (List UInt8)) (i : Nat) (h : i < ps.length) : recs (ps.take (i + 1)) = recs (ps.take i) ++ rc (ps.getD i []) := by
  rw [take_snoc ps i [] h]
  simp [recs, List.flatMap_append]
theorem pl_getD (l : List ByteArray) (i : Nat) (h : i < (pl l).length) : (pl l).getD i [] = cutL (l.getD i ByteArray.empty) := by
  have h1 := pl_length l
  have h2 : i < l.length := by omega
  have h3 : i < (l.take 30).length := by rw [List.length_take]; omega
  simp [pl, List.getD_eq_getElem?_getD, show i < 30 by omega, h2]
theorem recs_take (l : List ByteArray) (i : Nat) : (recs ((pl l).take i)).length ≤ 6390 := by
  have h := recs_length ((pl l).take i) (fun p hp => pl_short l p (List.mem_of_mem_take hp))
  have h1 := pl_length l
  rw [List.length_take] at h
  omega
theorem written_l0 (l : List ByteArray) (hl : l.length ≤ 4611686018427387904) (d : Nat) : ∀ i : Nat, i + d = (pl l).length → Ev (fun k => gonglaw26_written.l0 k l (ofL (recs ((pl l).take i))) (((pl l).take i).map ofL) (ends (pl l) i) (i : Int)) (ofL (recs (pl l)), (pl l).map ofL, ends (pl l) (pl l).length) := by
  have hlen := pl_length l
  induction d with
  | zero =>
    intro i hi
    have fin : Ev (fun k => gonglaw26_written.j1 k l (ofL (recs ((pl l).take i))) (((pl l).take i).map ofL) (ends (pl l) i) (i : Int) false) (ofL (recs (pl l)), (pl l).map ofL, ends (pl l) (pl l).length) := by
      refine Ev.step (f := fun _ => some _) (fun k => ?_) (Ev.now _)
      simp only [gonglaw26_written.j1]
      rw [if_neg (by decide), List.take_of_length_le (by omega), show i = (pl l).length by omega]
    refine Ev.step (fun k => ?_) fin
    simp only [gonglaw26_written.l0]
    by_cases h : (i : Int) < (l.length : Int)
    · rw [if_pos h, decide_eq_false (by omega)]
    · rw [if_neg h]
  | succ d ih =>
    intro i hi
    have c1 : (0 : Int) ≤ (i : Int) := by omega
    have c2 : (i : Int) < (l.length : Int) := by omega
    have hc := cutL_length (l.getD i ByteArray.empty)
    have hT := recs_take l i
    have hg := grp_length (cutL (l.getD i ByteArray.empty)).length (by omega)
    have hr := rc_length (cutL (l.getD i ByteArray.empty))
    refine Ev.step (f := fun k => gonglaw26_written.j1 k l (ofL (recs ((pl l).take i))) (((pl l).take i).map ofL) (ends (pl l) i) (i : Int) true) (fun k => ?_) ?_
    · simp only [gonglaw26_written.l0]
      rw [if_pos c2, decide_eq_true (by omega)]
    · refine Ev.step (fun k => ?_) (ih (i + 1) (by omega))
      simp only [gonglaw26_written.j1]
      rw [if_pos trivial, if_pos c1, if_pos c2, rdOf_getD, cut_f]
      simp only [Option.bind_some]
      rw [put_f _ (by rw [ofL_size]; omega), ofL_L]
      simp only [Option.bind_some]
      have hel : (ends (pl l) i).length = i := by simp [ends]
      rw [if_pos (by rw [ofL_size, ofL_size]; omega), if_pos (by rw [List.length_map, List.length_take]; omega), if_pos (by rw [hel]; omega), wrap64_id (by omega) (by omega)]
      have e1 : ofL (recs ((pl l).take i)) ++ ofL (rc (cutL (l.getD i ByteArray.empty))) = ofL (recs ((pl l).take (i + 1))) := by
        apply ext
        rw [app_L, ofL_L, ofL_L, ofL_L, recs_snoc _ i (by omega), pl_getD l i (by omega)]
      have e2 : ((pl l).take i).map ofL ++ [ofL (cutL (l.getD i ByteArray.empty))] = ((pl l).take (i + 1)).map ofL := by
        rw [take_snoc (pl l) i [] (by omega), List.map_append, pl_getD l i (by omega)]
        rfl
      rw [e1, e2, ofL_size]
      congr 1
      simp only [ends]
      rw [List.range_succ, List.map_append]
      rfl
theorem written_ev (l : List ByteArray) (hl : l.length ≤ 4611686018427387904) : Ev (fun k => gonglaw26_written.f k l) (ofL (recs (pl l)), (pl l).map ofL, ends (pl l) (pl l).length) := by
  have h := written_l0 l hl (pl l).length 0 (by omega)
  unfold gonglaw26_written.f
  simpa [recs, ends, ofL] using h
theorem map_ofL {a b : List (List UInt8)} (h : a.map ofL = b.map ofL) : a = b := by
  have := congrArg (List.map fun s : ByteArray => s.data.toList) h
  simpa [List.map_map, Function.comp_def, ofL_L] using this
end Go.Proofs.YtjhimmnogjmngaaDoor.Rec
end
/-! CrcU -/
section
/- What bits turned within 32 that follow one another make of the register behind all. -/
namespace Go.Proofs.YtjhimmnogjmngaaDoor.CrcB
open Go Go.RowKit Go.Proofs.YtjhimmnogjmngaaDoorW.PrintWords Go.Proofs.YtjhimmnogjmngaaDoor.Str

def intsL (l : List UInt8) : List Int := l.map fun b => (b.toNat : Int)
theorem ints_L (s : ByteArray) : BR.ints s = intsL s.data.toList := rfl
theorem nums_intsL (l : List UInt8) : strOfNums (intsL l) = ofL l := by
  apply ext
  rw [nums_L, ofL_L]
  exact map_u8 l
theorem u8_xor (a b : Nat) (ha : a < 256) (hb : b < 256) : Go.bits .xor .u8 (a : Int) (b : Int) = ((a ^^^ b : Nat) : Int) := by
  have hx : a ^^^ b < 2 ^ 8 := Nat.xor_lt_two_pow (by omega) (by omega)
  have h1 : (BitVec.ofInt 8 (a : Int)).toNat = a := by
    rw [BitVec.ofInt_natCast, BitVec.toNat_ofNat]; exact Nat.mod_eq_of_lt (by omega)
  have h2 : (BitVec.ofInt 8 (b : Int)).toNat = b := by
    rw [BitVec.ofInt_natCast, BitVec.toNat_ofNat]; exact Nat.mod_eq_of_lt (by omega)
  show IntKind.u8.wrap ((BitVec.ofInt 8 (a : Int) ^^^ BitVec.ofInt 8 (b : Int)).toNat : Int) = _
  rw [BitVec.toNat_xor, h1, h2, IntKind.wrap_u8]
  omega
theorem flip_list (l : List UInt8) (q : Nat) (hq : q < 8 * l.length) :
    ∃ l' : List UInt8, Turn.flipI (intsL l) q = intsL l' ∧ l'.length = l.length ∧ (∀ i, i ≠ q / 8 → l'[i]? = l[i]?) ∧ ∀ c, run c l' = run c l ^^^ An (8 * l.length + 31 - q) high := by
  have hi : q / 8 < l.length := by omega
  have hj : q % 8 < 8 := Nat.mod_lt _ (by decide)
  generalize hb : l[q / 8] = b
  have hg : l[q / 8]? = some b := by rw [List.getElem?_eq_getElem hi, hb]
  have hbl := b.toNat_lt
  have hp : 2 ^ (q % 8) < 256 := Nat.lt_of_lt_of_le (Nat.pow_lt_pow_right (by decide) hj) (by decide)
  have hx : b.toNat ^^^ 2 ^ (q % 8) < 256 := Nat.xor_lt_two_pow (n := 8) (by omega) (by omega)
  refine ⟨l.set (q / 8) (UInt8.ofNat (b.toNat ^^^ 2 ^ (q % 8))), ?_, by simp, fun i hne => by rw [List.getElem?_set_ne (Ne.symm hne)], fun c => ?_⟩
  · unfold Turn.flipI intsL
    rw [List.map_set]
    have e1 : (l.map fun b => (b.toNat : Int)).getD (q / 8) 0 = (b.toNat : Int) := by
      simp [List.getD, hg]
    have e2 : (2 : Int) ^ (q % 8) % 256 = ((2 ^ (q % 8) : Nat) : Int) := by
      have : ((2 : Int) ^ (q % 8)) = ((2 ^ (q % 8) : Nat) : Int) := by simp
      rw [this]
      exact Int.emod_eq_of_lt (Int.natCast_nonneg _) (Int.ofNat_lt.2 hp)
    rw [e1, e2, u8_xor _ _ hbl hp]
    congr 1
    rw [UInt8.toNat_ofNat', Nat.mod_eq_of_lt hx]
  · have h := run_flip c l (q / 8) b (UInt8.ofNat (b.toNat ^^^ 2 ^ (q % 8))) (q % 8) hj hi hg (by
      unfold byte bit
      rw [UInt8.toNat_ofNat', Nat.mod_eq_of_lt hx]
      apply BitVec.eq_of_toNat_eq
      have m1 : (b.toNat ^^^ 2 ^ (q % 8)) % 2 ^ 32 = b.toNat ^^^ 2 ^ (q % 8) := Nat.mod_eq_of_lt (by omega)
      have m2 : b.toNat % 2 ^ 32 = b.toNat := Nat.mod_eq_of_lt (by omega)
      have m3 : 2 ^ (q % 8) % 2 ^ 32 = 2 ^ (q % 8) := Nat.mod_eq_of_lt (by omega)
      rw [BitVec.toNat_xor, BitVec.toNat_ofNat, BitVec.toNat_ofNat, BitVec.toNat_ofNat, m1, m2, m3])
    rw [h]
    congr 2
    omega

/-- A register's lowest k bits. -/
def low : Nat → W → W
  | 0, _ => 0#32
  | k + 1, x => low k x ^^^ (if x.getLsbD k then bit k else 0#32)
theorem low_get (k : Nat) (hk : k ≤ 32) (x : W) (i : Nat) (hi : i < 32) : (low k x).getLsbD i = (decide (i < k) && x.getLsbD i) := by
  induction k with
  | zero => simp [low]
  | succ k ih =>
    unfold low
    rw [BitVec.getLsbD_xor, ih (by omega)]
    by_cases h : i = k
    · subst h
      cases hx : x.getLsbD i <;> simp [bit_get _ _ hi]
    · have h1 : (i < k + 1) = (i < k) := by apply propext; omega
      simp only [h1]
      split
      · rw [bit_get _ _ (by omega)]; simp [h]
      · simp
theorem low_all (x : W) : low 32 x = x := by
  apply BitVec.eq_of_getLsbD_eq
  intro i hi
  rw [low_get 32 (Nat.le_refl _) x i hi]
  simp [hi]
theorem bit_test (x : W) (k : Nat) : (Go.bits .and .u32 (I x / 2 ^ k) 1 = 1) ↔ x.getLsbD k = true := by
  have e : I x / 2 ^ k = I (x >>> k) := by
    unfold I
    rw [BitVec.toNat_ushiftRight, Nat.shiftRight_eq_div_pow]
    simp
  rw [e, lsb_I, BitVec.getLsbD_ushiftRight, Nat.add_zero]
theorem turn_list (l : List UInt8) (p : Nat) (x : W) (hp : p + 32 ≤ 8 * l.length) (k : Nat) (hk : k ≤ 32) :
    ∃ l' : List UInt8, Turn.turnI (intsL l) p (I x) k = intsL l' ∧ l'.length = l.length ∧ (∀ i, (i < p / 8 ∨ (p + 31) / 8 < i) → l'[i]? = l[i]?) ∧ ∀ c, run c l' = run c l ^^^ An (8 * l.length - p) (low k x) := by
  induction k with
  | zero => exact ⟨l, rfl, rfl, fun _ _ => rfl, fun c => by unfold low; rw [An_zero_arg, BitVec.xor_zero]⟩
  | succ k ih =>
    obtain ⟨l', e, hl, hsame, hr⟩ := ih (by omega)
    by_cases h : x.getLsbD k = true
    · obtain ⟨l2, e2, hl2, hs2, hr2⟩ := flip_list l' (p + k) (by omega)
      refine ⟨l2, by rw [Turn.turnI_yes ((bit_test x k).2 h), e, e2], by omega, fun i hi => ?_, fun c => ?_⟩
      · rw [hs2 i (by omega), hsame i hi]
      · rw [hr2, hr, BitVec.xor_assoc]
        have ee : 8 * l'.length + 31 - (p + k) = (8 * l.length - p) + (31 - k) := by omega
        rw [ee, An_add, ← bit_An (by omega), ← An_xor]
        show _ = run c l ^^^ An _ (low k x ^^^ (if x.getLsbD k then bit k else 0#32))
        rw [if_pos h]
    · refine ⟨l', by rw [Turn.turnI_no (fun z => h ((bit_test x k).1 z)), e], hl, hsame, fun c => ?_⟩
      rw [hr]
      show _ = run c l ^^^ An _ (low k x ^^^ (if x.getLsbD k then bit k else 0#32))
      rw [if_neg h, BitVec.xor_zero]
/-- All 32. -/
theorem turn_all (l : List UInt8) (p : Nat) (x : Int) (h0 : 0 ≤ x) (h1 : x < 4294967296) (hp : p + 32 ≤ 8 * l.length) :
    ∃ l' : List UInt8, Turn.turnI (intsL l) p x 32 = intsL l' ∧ l'.length = l.length ∧ (∀ i, (i < p / 8 ∨ (p + 31) / 8 < i) → l'[i]? = l[i]?) ∧ (∀ c, run c l' = run c l ↔ x = 0) := by
  obtain ⟨l', e, hl, hs, hr⟩ := turn_list l p (B x) hp 32 (Nat.le_refl _)
  rw [I_B h0 h1] at e
  refine ⟨l', e, hl, hs, fun c => ?_⟩
  rw [hr c, low_all]
  constructor
  · intro h
    have h2 : An (8 * l.length - p) (B x) = 0#32 := by
      have h3 : run c l ^^^ (run c l ^^^ An (8 * l.length - p) (B x)) = run c l ^^^ run c l := by rw [h]
      rw [← BitVec.xor_assoc, BitVec.xor_self, BitVec.zero_xor] at h3
      exact h3
    have h4 := An_zero h2
    rw [← I_B h0 h1, h4]
    decide
  · intro h
    subst h
    rw [show B 0 = 0#32 by decide, An_zero_arg, BitVec.xor_zero]
end Go.Proofs.YtjhimmnogjmngaaDoor.CrcB
end
/-! DRecordBack -/
section
/- The statement RecordBack over whole numbers and lists alone. -/
namespace Go.Proofs.YtjhimmnogjmngaaDoor.Px
open Go.RowKit
def gonglaw26_RecordBack.PureL : Prop := ∀ (l0 : List ByteArray) (a1 : Int), (∀ z ∈ l0, z.size ≤ 140737488351232) → l0.length * 16 ≤ 140737488351232 → (Lit.int .i64 a1).wf = true → ∃ k, gonglaw26_RecordBack.f k l0 a1 = some true
end Go.Proofs.YtjhimmnogjmngaaDoor.Px
end
/-! PureRecordBack -/
section
/- The statement RecordBack over whole numbers and lists alone. -/
namespace Go.Proofs.YtjhimmnogjmngaaDoor.Rec
open Go Go.RowKit Go.Proofs.YtjhimmnogjmngaaDoor.Px Go.Proofs.YtjhimmnogjmngaaDoorW.PrintWords Go.Proofs.YtjhimmnogjmngaaDoor.Str Go.Proofs.YtjhimmnogjmngaaDoor.OctF Go.Proofs.YtjhimmnogjmngaaDoor.CrcB Go.Proofs.YtjhimmnogjmngaaDoor.Cut
theorem rd_ends (ps : List (List UInt8)) (i : Nat) (h : i < ps.length) : rd (ends ps ps.length) (i : Int) = ((recs (ps.take (i + 1))).length : Int) := by
  unfold rd ends
  rw [Int.toNat_natCast]
  simp [List.getD_eq_getElem?_getD, h]
theorem back_l0 (l : List ByteArray) (k : Nat) (hk : k ≤ (recs (pl l)).length) (M : Nat) (hM : M ≤ (pl l).length) (hi : ∀ i, i < (pl l).length → ((recs ((pl l).take (i + 1))).length ≤ k ↔ i + 1 ≤ M)) (hs : sc ((recs (pl l)).take k) = ((pl l).take M, (recs ((pl l).take M)).length)) (d : Nat) :
    ∀ i : Nat, i + d = (pl l).length → Ev (fun q => gonglaw26_RecordBack.l0 q (ofL (recs (pl l))) ((pl l).map ofL) (k : Int) ((min i M : Nat) : Int) ((recs ((pl l).take (min i M))).length : Int) (ends (pl l) (pl l).length) ((ends (pl l) (pl l).length).length : Int) (i : Int)) true := by
  have hlen := pl_length l
  have hel : (ends (pl l) (pl l).length).length = (pl l).length := by simp [ends]
  have hT := recs_take l (pl l).length
  rw [List.take_length] at hT
  induction d with
  | zero =>
    intro i he
    have hm : min i M = M := by omega
    rw [hm]
    have e1 : ((ofL (recs (pl l))).extract 0 k).data.toList = (recs (pl l)).take k := by rw [pre_L, ofL_L]
    have ha := scan_ev ((ofL (recs (pl l))).extract 0 k) (by rw [size_L, e1, List.length_take]; omega)
    rw [e1, hs] at ha
    refine Ev.step (f := fun q => (record_Scan.f q ((ofL (recs (pl l))).extract 0 k)).bind fun b => (gongbook_SameTexts.f q b.1 (((pl l).map ofL).take M)).bind fun t => if t = true then some (b.2 == ((recs ((pl l).take M)).length : Int)) else some false) (fun q => ?_) ?_
    · simp only [gonglaw26_RecordBack.l0]
      rw [if_neg (by rw [hel]; omega), if_pos (by omega), if_pos (by rw [ofL_size]; omega), Int.toNat_natCast]
      simp only [if_pos (show (0 : Int) ≤ (M : Int) by omega), if_pos (show (M : Int) ≤ (((pl l).map ofL).length : Int) by rw [List.length_map]; omega), Int.toNat_natCast]
    · refine Ev.bind ha ?_
      refine Ev.bind (same_ev _ _ (by simp only [List.length_map, List.length_take]; omega) (by simp only [List.length_take, List.length_map]; omega)) ?_
      refine Ev.congr (f := fun _ => some true) (fun q => ?_) (Ev.now _)
      rw [if_pos (by simp [List.map_take])]
      simp
  | succ d ih =>
    intro i he
    have hh := hi i (by omega)
    have hn := ih (i + 1) (by omega)
    refine Ev.step (fun q => ?_) hn
    simp only [gonglaw26_RecordBack.l0]
    rw [if_pos (by rw [hel]; omega), if_pos (by omega), if_pos (by rw [hel]; omega), rd_ends _ i (by omega), wrap64_id (by omega) (by omega)]
    by_cases hc : (recs ((pl l).take (i + 1))).length ≤ k
    · have h2 := hh.1 hc
      rw [if_pos (by omega), show min (i + 1) M = i + 1 by omega]
      rfl
    · have h2 : ¬ i + 1 ≤ M := fun z => hc (hh.2 z)
      rw [if_neg (by omega), show min (i + 1) M = min i M by omega]
      rfl
end Go.Proofs.YtjhimmnogjmngaaDoor.Rec
namespace Go.Proofs.YtjhimmnogjmngaaDoor.Pure
open Go Go.RowKit Go.Proofs.YtjhimmnogjmngaaDoor.Px Go.Proofs.YtjhimmnogjmngaaDoorW.PrintWords Go.Proofs.YtjhimmnogjmngaaDoor.Str Go.Proofs.YtjhimmnogjmngaaDoor.OctF Go.Proofs.YtjhimmnogjmngaaDoor.CrcB Go.Proofs.YtjhimmnogjmngaaDoor.Rec Go.Proofs.YtjhimmnogjmngaaDoor.Cut
theorem RecordBack : gonglaw26_RecordBack.PureL := by
  intro l x _ hl _
  apply Ev.rounds
  unfold gonglaw26_RecordBack.f
  rw [works_f]
  simp only [Option.bind_some, if_true]
  refine Ev.bind (written_ev l (by omega)) ?_
  have hT := recs_take l (pl l).length
  rw [List.take_length] at hT
  have hlen := pl_length l
  have ha := scan_ev (ofL (recs (pl l))) (by rw [ofL_size]; omega)
  have hr := sc_recs (pl l) [] (pl_short' l)
  rw [List.append_nil, sc_none nx_nil] at hr
  rw [ofL_L, hr] at ha
  refine Ev.bind ha ?_
  simp only [List.append_nil]
  refine Ev.bind (same_ev _ _ (by simp only [List.length_map]; omega) (by simp only [List.length_map]; omega)) ?_
  have h0 := Int.emod_nonneg x (show ((recs (pl l)).length : Int) + 1 ≠ 0 by omega)
  have h1 := Int.emod_lt_of_pos x (show (0 : Int) < ((recs (pl l)).length : Int) + 1 by omega)
  obtain ⟨k, hk⟩ : ∃ k : Nat, x % (((recs (pl l)).length : Int) + 1) = k := ⟨_, (Int.toNat_of_nonneg h0).symm⟩
  obtain ⟨M, hM, hi, hs⟩ := sc_cut (pl l) k (pl_short' l)
  have hb := back_l0 l k (by omega) M hM hi hs (pl l).length 0 (by omega)
  refine Ev.congr (f := fun q => gonglaw26_RecordBack.j0 q x (ofL (recs (pl l))) ((pl l).map ofL) (ends (pl l) (pl l).length) false) (fun q => ?_) ?_
  · rw [if_pos (by simp)]
    congr 1
    rw [bne_eq_false_iff_eq, ofL_size]
    simp
  · refine Ev.step (fun q => ?_) hb
    simp only [gonglaw26_RecordBack.j0]
    rw [if_neg (by decide), ofL_size, wrap64_id (by omega) (by omega), CrcB.below_f _ _ (by omega) (by omega), hk]
    simp [recs]
end Go.Proofs.YtjhimmnogjmngaaDoor.Pure
end
/-! KTurnedWalk -/
section
/- The walk of the law RecordTurned: records put one behind the other, bits turned in one of them, and all told that are whole. -/
namespace Go.Proofs.YtjhimmnogjmngaaDoor.Px
open Go.RowKit Go.Proofs.YtjhimmnogjmngaaDoorW.PrintWords Go.Proofs.YtjhimmnogjmngaaDoorW.PrintLast Go.Proofs.YtjhimmnogjmngaaDoorW.PrintMore
attribute [local go_sem] max2_int min2_int max_two min_two max_three min_three max_four min_four
set_option linter.unusedVariables false
set_option linter.unusedSimpArgs false
/-- What the plain law tells of it. -/
def RTGood (l : List ByteArray) (q0 q1 a2 : Int) : Prop := gonglaw26_works.f = some true ∧ ∃ (k : Nat) (s : ByteArray) (ps : List ByteArray) (es : List Int),
  gonglaw26_written.f k l = some (s, ps, es) ∧ s.size ≤ 100000 ∧ es.length = ps.length ∧ ps.length ≤ 30 ∧ ((0 < ps.length ∧ a2 ≠ 0) → ∃ (i j fr m k2 : Nat) (so : List ByteArray) (wh : Int),
    gongbook_Below.f q0 (ps.length : Int) = some (i : Int) ∧ i < ps.length ∧ rd es (i : Int) = ((fr + m + 4 : Nat) : Int) ∧ (rdOf ByteArray.empty ps (i : Int)).size = m ∧ fr + m + 4 ≤ s.size ∧
    gongbook_Below.f q1 (8 * ((m : Int) + 4) - 31) = some (j : Int) ∧ 8 * fr + j + 32 ≤ 8 * s.size ∧
    record_Scan.f k2 (strOfNums (Go.Proofs.YtjhimmnogjmngaaDoor.Turn.turnI (Go.Proofs.YtjhimmnogjmngaaDoor.BR.ints s) (8 * fr + j) a2 32)) = some (so, wh) ∧ gongbook_SameTexts.f k2 so (ps.take i) = some true ∧ (i = 0 → wh = 0) ∧ (0 < i → wh = rd es ((i : Int) - 1)))
set_option maxHeartbeats 4000000 in
set_option maxRecDepth 100000 in
theorem gonglaw26_RecordTurned.calls (A0 : Option Addr) (c0 : Nat) (l : List ByteArray) (av : Array Value) (xv : Int × Int) (a2 : Int) (r : Bool) (w : World) (hr0 : Kd.C Kd.string w A0 l.length l) (hc0 : l.length ≤ c0) (hx : (Kd.pair (Kd.int .i64) (Kd.int .i64)).K w xv av.toList) (HT : Aside0 (TabW w)) (h : r = true ∧ RTGood l xv.1 xv.2 a2) :
    Calls Tryd.prog 6 #[.slice A0 l.length c0, .agg av, .int .u32 a2] w fun e w' => e = .returned (.bool r) ∧ Below w.heap.size w w' := by
  obtain ⟨q0, q1⟩ := xv
  obtain ⟨rfl, hw, k, s, ps, es, hwr, hs, hel, hpl, hg⟩ := h
  obtain ⟨b0, b1, hav, hb0, hb1⟩ := hx
  obtain rfl : av = #[.int .i64 q0, .int .i64 q1] := by
    apply Array.ext'
    rw [hav, show b0 = [.int .i64 q0] from hb0, show b1 = [.int .i64 q1] from hb1]
    rfl
  clear hav hb0 hb1
  have HW := Lib.hid hw
  have HWR := Lib.hid hwr
  have HEL := Lib.hid hel
  have HG := Lib.hid hg
  have HC0 := Aside0.mk (Kd.C_alloc hr0 (.cells #[.int .i64 q0, .int .i64 q1] 41))
  have HL0 := Aside0.mk hc0
  have HB0 := Aside0.mk ((Below.refl w.heap.size w).alloc (Nat.le_refl _) (.cells #[.int .i64 q0, .int .i64 q1] 41))
  have hq0 : (w.alloc (.cells #[.int .i64 q0, .int .i64 q1] 41)).cell? ⟨w.heap.size, 0, none⟩ = some (.int .i64 q0) := by rw [Lib.cell_of_heap (heap_alloc_new w _)]; rfl
  have hq1 : (w.alloc (.cells #[.int .i64 q0, .int .i64 q1] 41)).cell? ⟨w.heap.size, 1, none⟩ = some (.int .i64 q1) := by rw [Lib.cell_of_heap (heap_alloc_new w _)]; rfl
  have hz0 : w.heap.size < (w.alloc (.cells #[.int .i64 q0, .int .i64 q1] 41)).heap.size := by simp
  clear hw hwr hel hg hr0 hc0
  go_enter Tryd.func6, Tryd.ntmps6
  go_wp2_with fail
  generalize w.alloc (.cells #[.int .i64 q0, .int .i64 q1] 41) = W0 at HC0 HB0 hq0 hq1 hz0 ⊢
  refine (gonglaw26_works.calls true _ ⟨TabW.now HT.out HB0.out⟩ HW.out).mono ?_
  rintro e W1 ⟨rfl, hb⟩
  have HB1 := Aside0.mk (below_then HB0.out HB0.out.size hb)
  have HC1 := Aside0.mk (Kd.C_below HC0.out hb)
  have hq0' := (hb.cell (p := ⟨w.heap.size, 0, none⟩) hz0).trans hq0
  have hq1' := (hb.cell (p := ⟨w.heap.size, 1, none⟩) hz0).trans hq1
  have hz1 : w.heap.size < W1.heap.size := Nat.lt_of_lt_of_le hz0 hb.size
  clear hb hq0 hq1 hz0 HC0 HB0
  go_wp2_with fail
  refine (gonglaw26_written.calls k A0 c0 l s ps es W1 HC1.out HL0.out ⟨TabW.now HT.out HB1.out⟩ HWR.out).mono ?_
  rintro e W2 ⟨v1, v2, rfl, hp, he, hb⟩
  obtain ⟨Ap, cp, rfl⟩ := Kd.R_slice hp
  obtain ⟨Ae, ce, rfl⟩ := Kd.R_slice he
  have CP := Aside0.mk (Kd.R_reads' hp).2.2
  have CL := Lib.hid (Kd.R_reads' hp).2.1
  have CE := Aside0.mk (Kd.R_reads' he).2.2
  have HB2 := Aside0.mk (below_then HB1.out HB1.out.size hb)
  have hq0 := (hb.cell (p := ⟨w.heap.size, 0, none⟩) hz1).trans hq0'
  have hq1 := (hb.cell (p := ⟨w.heap.size, 1, none⟩) hz1).trans hq1'
  have hz2 : w.heap.size < W2.heap.size := Nat.lt_of_lt_of_le hz1 hb.size
  clear hb hp he hq0' hq1' hz1 HB1 HC1
  by_cases hp0 : ps.length = 0
  · have hpb : ((ps.length : Int) == 0) = true := by rw [beq_iff_eq]; omega
    go_wp2
    go_ret
    exact ⟨rfl, HB2.out⟩
  · have hpb : ((ps.length : Int) == 0) = false := by rw [beq_eq_false_iff_ne]; omega
    by_cases ha : a2 = 0
    · subst ha
      go_wp2
      go_ret
      exact ⟨rfl, HB2.out⟩
    · have hab : (a2 == 0) = false := beq_eq_false_iff_ne.mpr ha
      obtain ⟨i, j, fr, m, k2, so, wh, g1, g2, g3, g4, g5, g6, g7, g8, g9, g10, g11⟩ := HG.out ⟨by omega, ha⟩
      have G1 := Lib.hid g1
      have G3 := Lib.hid g3
      have G4 := Lib.hid g4
      have G6 := Lib.hid g6
      have G8 := Lib.hid g8
      have G9 := Lib.hid g9
      have G10 := Lib.hid g10
      have G11 := Lib.hid g11
      obtain ⟨ade, ee, xe⟩ := Kd.at_int CE.out (i : Int) (by omega) (by have := HEL.out; omega)
      obtain ⟨adp, ep, xp⟩ := Kd.at_string CP.out (i : Int) (by omega) (by omega)
      subst ee
      subst ep
      rw [Int.toNat_natCast] at xe xp
      rw [G3.out] at xe
      generalize hP : rdOf ByteArray.empty ps (i : Int) = P at xp G4
      have hm : P.size = m := G4.out
      subst hm
      have i1 : (i : Int) < (es.length : Int) := by have := HEL.out; omega
      have i2 : (i : Int) < (ps.length : Int) := by omega
      clear g1 g3 g4 g6 g8 g9 g10 g11 HG hP G4 ha HW HWR
      go_upto_region 7 with (first | (refine (gongbook_Below.calls q0 (ps.length : Int) (i : Int) _ G1.out).mono ?_; rintro e W3 ⟨rfl, ⟨nd, rfl⟩⟩))
      go_quiet (fail)
      go_upto_region 9 with (fail)
      rw [show (fr : Int) + (P.size : Int) + 4 - (P.size : Int) - 4 = (fr : Int) from by omega, show 8 * ((fr : Int) + (P.size : Int) + 4 - (fr : Int)) - 31 = 8 * ((P.size : Int) + 4) - 31 from by omega]
      have HB3 := Aside0.mk (pw_below_drewN HB2.out (nd + nq))
      have CP3 := Aside0.mk (Kd.C_drewN CP.out (nd + nq))
      have CE3 := Aside0.mk (Kd.C_drewN CE.out (nd + nq))
      have hq13 : (W2.drewN (nd + nq)).cell? ⟨w.heap.size, 1, none⟩ = some (.int .i64 q1) := by rw [World.cell?_drewN]; exact hq1
      have hz3 : w.heap.size < (W2.drewN (nd + nq)).heap.size := hz2
      clear HB2 CP CE hq0 hq1 hz2 xe xp
      generalize W2.drewN (nd + nq) = W3 at HB3 CP3 CE3 hq13 hz3 ⊢
      have hrow := Go.Proofs.YtjhimmnogjmngaaDoor.BR.bytesWorld_row W3 5 s (by unfold maxLen; omega)
      have hbel := Go.Proofs.YtjhimmnogjmngaaDoor.BR.bytesWorld_below W3 5 s
      have kc := Lib.run_convert_string_bytes (P := Tryd.prog) W3 9 43 5 s Tryd.underlying9 Tryd.underlying43 Tryd.underlying5
      generalize Lib.bytesWorld W3 5 s = W4 at kc hrow hbel
      generalize grownCap W3 s.size 0 5 = c1 at kc hrow
      have HR := Lib.hid hrow
      have hq14 := (hbel.cell (p := ⟨w.heap.size, 1, none⟩) hz3).trans hq13
      have HB4 := Aside0.mk hbel
      clear hrow hbel hq13 hz3
      go_wp2_with fail
      refine (gongbook_Below.calls q1 (8 * ((P.size : Int) + 4) - 31) (j : Int) W4 G6.out).mono ?_
      rintro e W5 ⟨rfl, ⟨nd2, rfl⟩⟩
      obtain ⟨p, hp⟩ : ∃ p : Nat, p = 8 * fr + j := ⟨_, rfl⟩
      rw [← hp] at G8 g7
      have e14 : 8 * (fr : Int) + (j : Int) = (p : Int) := by omega
      have E14 := Lib.hid e14
      have f1 : (fr : Int) ≤ 100000 := by omega
      have f2 : (j : Int) ≤ 800000 := by omega
      have f3 : (p : Int) ≤ 800000 := by omega
      clear e14 hp
      go_upto_region 11 with (fail)
      rw [E14.out]
      go_wp2_with fail
      go_loopw [67, 15] (fun i _ wr => ∃ k : Nat, k ≤ 32 ∧ i = .int .i64 k ∧ Hid (Go.Proofs.YtjhimmnogjmngaaDoor.BR.BRow wr W3.heap.size 5 W3.heap.size c1 (Go.Proofs.YtjhimmnogjmngaaDoor.Turn.turnI (Go.Proofs.YtjhimmnogjmngaaDoor.BR.ints s) p a2 k)) ∧ Aside0 (Below W3.heap.size W3 wr)) (fun i _ _ => 32 - (intOf i).toNat)
      case atStart => exact ⟨0, by omega, rfl, Lib.hid (HR.out.drewN _), Aside0.mk (by exact below_drewN HB4.out _)⟩
      case round =>
        obtain ⟨k, hk, rfl, HR', HB'⟩ := hrel
        by_cases hlt : k < 32
        · by_cases hx : Go.bits .and .u32 (a2 / 2 ^ k) 1 = 1
          · have hxb : (Go.bits .and .u32 (a2 / 2 ^ k) 1 == 1) = true := beq_iff_eq.mpr hx
            have hX := Lib.hid hx
            clear hx
            have hlen : (Go.Proofs.YtjhimmnogjmngaaDoor.Turn.turnI (Go.Proofs.YtjhimmnogjmngaaDoor.BR.ints s) p a2 k).length = s.size := by rw [Go.Proofs.YtjhimmnogjmngaaDoor.Turn.turnI_length]; simp [Go.Proofs.YtjhimmnogjmngaaDoor.BR.ints]
            have i0 : 0 ≤ ((p : Int) + (k : Int)) / 8 := by omega
            have i1' : ((p : Int) + (k : Int)) / 8 < (s.size : Int) := by omega
            have eq8 : (((p : Int) + (k : Int)) / 8).toNat = (p + k) / 8 := by omega
            have hc := HR'.out.cell ((p + k) / 8) (by omega)
            have hf := HR'.out.free ((p + k) / 8) (by have := HR'.out.le; omega)
            have hs' := Lib.hid (HR'.out.set ((p + k) / 8) (Go.bits .xor .u8 ((Go.Proofs.YtjhimmnogjmngaaDoor.Turn.turnI (Go.Proofs.YtjhimmnogjmngaaDoor.BR.ints s) p a2 k).getD ((p + k) / 8) 0) (2 ^ ((p + k) % 8) % 256)))
            have HE := Lib.hid eq8
            have HLn := Lib.hid hlen
            clear eq8 hlen
            go_wp2_with fail
            go_region
            go_wp2_with fail
            exact ⟨⟨k + 1, by omega, rfl, Lib.hid (by rw [Go.Proofs.YtjhimmnogjmngaaDoor.Turn.turnI_yes hX.out]; exact hs'.out.drew), Aside0.mk (HB'.out.setCell (Nat.le_refl _) _).drew⟩, by simp [intOf]; omega⟩
          · have hxb : (Go.bits .and .u32 (a2 / 2 ^ k) 1 == 1) = false := beq_eq_false_iff_ne.mpr hx
            have hX := Lib.hid hx
            clear hx
            go_wp2_with fail
            exact ⟨⟨k + 1, by omega, rfl, Lib.hid (by rw [Go.Proofs.YtjhimmnogjmngaaDoor.Turn.turnI_no hX.out]; exact HR'.out), HB'⟩, by simp [intOf]; omega⟩
        · obtain rfl : k = 32 := by omega
          have hback := HR'.out.own_back (P := Tryd.prog) 43 Tryd.underlying43 Tryd.underlying5 9 Tryd.underlying9
          have hlen : (Go.Proofs.YtjhimmnogjmngaaDoor.Turn.turnI (Go.Proofs.YtjhimmnogjmngaaDoor.BR.ints s) p a2 32).length = s.size := by rw [Go.Proofs.YtjhimmnogjmngaaDoor.Turn.turnI_length]; simp [Go.Proofs.YtjhimmnogjmngaaDoor.BR.ints]
          rw [hlen] at hback
          have HLn := Lib.hid hlen
          clear hlen
          have hbw := below_then HB3.out HB3.out.size HB'.out
          go_wp2_with fail
          refine (record_Scan.calls k2 _ so wh _ ⟨TabW.now HT.out hbw⟩ G8.out).mono ?_
          rintro e W6 ⟨v0, rfl, ho, hb⟩
          obtain ⟨Ao, co, rfl⟩ := Kd.R_slice ho
          have CO := Aside0.mk (Kd.R_reads' ho).2.2
          have COl := Lib.hid (Kd.R_reads' ho).2.1
          have HB6 := Aside0.mk (below_then hbw hbw.size hb)
          have HB36 := Aside0.mk (below_then HB'.out HB'.out.size hb)
          have CP6 := Aside0.mk (Kd.C_below CP3.out HB36.out)
          have CE6 := Aside0.mk (Kd.C_below CE3.out HB36.out)
          clear ho hb hbw hback HR HR' HB' HB4 HB3 CP3 CE3 kc hq14
          obtain ⟨i0i, hi0i, _, _, _⟩ := info_parts info9
          have hcut := cut_to (P := Tryd.prog) 30 9 .i64 Tryd.underlying30 hi0i (some adp) ps.length cp (i : Int) (by omega) (by omega) CL.out
          obtain ⟨y, hyy⟩ : ∃ y, y = ps.take i := ⟨_, rfl⟩
          have hy : y.length = (i : Int).toNat := by rw [hyy, List.length_take]; omega
          rw [← hy] at hcut
          have ct := Kd.C_take (m := i) CP6.out (by omega)
          have g9 := G9.out
          rw [← hyy] at ct g9
          have G9' := Lib.hid g9
          have CT := Aside0.mk ct
          have CTl := Lib.hid (show y.length ≤ cp from by have := CL.out; omega)
          clear hy hi0i ct g9 G9 hyy
          by_cases hi : 0 < i
          · have hib : decide ((i : Int) > 0) = true := decide_eq_true (by omega)
            obtain ⟨ad2, e2, xe⟩ := Kd.at_int CE6.out ((i : Int) - 1) (by omega) (by omega)
            cases e2
            have j0 : 0 ≤ (i : Int) - 1 := by omega
            have j1 : (i : Int) - 1 < (es.length : Int) := by omega
            have hwh := G11.out hi
            rw [← hwh, show ((i : Int) - 1).toNat = i - 1 from by omega] at xe
            have HWH := Lib.hid hwh
            clear hwh
            go_wp2_with (first | (refine (gongbook_SameTexts.calls k2 _ _ so _ _ y true _ CO.out COl.out CT.out CTl.out G9'.out).mono ?_; rintro e W7 ⟨rfl, ⟨nd3, rfl⟩⟩))
            go_ret
            exact ⟨by first | rfl | simp, by repeat (first | exact HB6.out | apply below_drew1 | apply pw_below_drewN)⟩
          · have hib : decide ((i : Int) > 0) = false := decide_eq_false (by omega)
            have hi0 : i = 0 := by omega
            have hwh := G10.out hi0
            subst hwh
            have hib2 : decide (0 < i) = false := decide_eq_false hi
            have hib3 : (0 < i) = False := eq_false hi
            clear hi0 hi
            go_wp2_with (first | (refine (gongbook_SameTexts.calls k2 _ _ so _ _ y true _ CO.out COl.out CT.out CTl.out G9'.out).mono ?_; rintro e W7 ⟨rfl, ⟨nd3, rfl⟩⟩))
            go_ret
            exact ⟨by first | rfl | simp, by repeat (first | exact HB6.out | apply below_drew1 | apply pw_below_drewN)⟩
end Go.Proofs.YtjhimmnogjmngaaDoor.Px
end
/-! KRecordTurned -/
section
/- The statement RecordTurned over whole numbers and lists: of records of one of which bits are turned just those ahead of it are told. -/
namespace Go.Proofs.YtjhimmnogjmngaaDoor.Rec
open Go Go.RowKit Go.Proofs.YtjhimmnogjmngaaDoor.Px Go.Proofs.YtjhimmnogjmngaaDoorW.PrintWords Go.Proofs.YtjhimmnogjmngaaDoor.Str Go.Proofs.YtjhimmnogjmngaaDoor.OctF Go.Proofs.YtjhimmnogjmngaaDoor.CrcB Go.Proofs.YtjhimmnogjmngaaDoor.Cut
theorem flip_mid (a l b : List Int) (q : Nat) (hq : q < 8 * l.length) : Turn.flipI (a ++ (l ++ b)) (8 * a.length + q) = a ++ (Turn.flipI l q ++ b) := by
  have hi : q / 8 < l.length := by omega
  unfold Turn.flipI
  rw [show (8 * a.length + q) / 8 = a.length + q / 8 by omega, show (8 * a.length + q) % 8 = q % 8 by omega]
  have hg : (a ++ (l ++ b)).getD (a.length + q / 8) 0 = l.getD (q / 8) 0 := by
    rw [List.getD_eq_getElem?_getD, List.getD_eq_getElem?_getD, List.getElem?_append_right (by omega), Nat.add_sub_cancel_left, List.getElem?_append_left hi]
  rw [hg, List.set_append_right _ _ (by omega), Nat.add_sub_cancel_left, List.set_append_left _ _ hi]
theorem turn_mid (a l b : List Int) (q : Nat) (x : Int) (hq : q + 32 ≤ 8 * l.length) (k : Nat) : k ≤ 32 → Turn.turnI (a ++ (l ++ b)) (8 * a.length + q) x k = a ++ (Turn.turnI l q x k ++ b) := by
  induction k with
  | zero => intro _; rfl
  | succ k ih =>
    intro hk
    by_cases h : Go.bits .and .u32 (x / 2 ^ k) 1 = 1
    · rw [Turn.turnI_yes h, Turn.turnI_yes h, ih (by omega), Nat.add_assoc, flip_mid _ _ _ _ (by rw [Turn.turnI_length]; omega)]
    · rw [Turn.turnI_no h, Turn.turnI_no h, ih (by omega)]
theorem intsL_app (a b : List UInt8) : intsL (a ++ b) = intsL a ++ intsL b := by simp [intsL]
theorem intsL_length (a : List UInt8) : (intsL a).length = a.length := by simp [intsL]
/-- A record of which bits are turned, behind its length, is none. -/
theorem nx_turned (p r : List UInt8) (q : Nat) (x : Int) (h0 : 0 ≤ x) (h1 : x < 4294967296) (hx : x ≠ 0) (hp : p.length ≤ 65536) (hq0 : 8 * (grp p.length).length ≤ q) (hq : q + 32 ≤ 8 * (rc p).length) :
    ∃ l' : List UInt8, Turn.turnI (intsL (rc p)) q x 32 = intsL l' ∧ l'.length = (rc p).length ∧ nx (l' ++ r) = none := by
  obtain ⟨l', e, hl, hs, hr⟩ := turn_all (rc p) q x h0 h1 hq
  refine ⟨l', e, hl, ?_⟩
  have hgl := grp_length p.length (by omega)
  have hrl := rc_length p
  have htk : l'.take (grp p.length).length = grp p.length := by
    apply List.ext_getElem?
    intro i
    rw [List.getElem?_take]
    by_cases hi : i < (grp p.length).length
    · rw [if_pos hi, hs i (.inl (by omega))]
      unfold rc tagL
      rw [List.append_assoc, List.getElem?_append_left hi]
    · rw [if_neg hi, List.getElem?_eq_none (by omega)]
  have hl' : l' ++ r = grp p.length ++ (l'.drop (grp p.length).length ++ r) := by
    rw [← List.append_assoc]
    congr 1
    conv => lhs; rw [← List.take_append_drop (grp p.length).length l', htk]
  have hg := rdG_grp 65536 p.length (l'.drop (grp p.length).length ++ r) (by omega) (by omega)
  rw [← hl'] at hg
  have hj : gj (l' ++ r) = (grp p.length).length := by unfold gj; rw [hg]; rfl
  have hm : gm (l' ++ r) = p.length := by unfold gm; rw [hg]; rfl
  unfold nx
  rw [hj, hm, ← rc_length, if_neg]
  rintro ⟨_, _, h⟩
  rw [← hl, List.take_left] at h
  have h2 := (hr all).1 (by rw [h]; unfold rc; rw [run_tagL])
  exact hx h2
end Go.Proofs.YtjhimmnogjmngaaDoor.Rec
namespace Go.Proofs.YtjhimmnogjmngaaDoor.Pure
open Go Go.RowKit Go.Proofs.YtjhimmnogjmngaaDoor.Px Go.Proofs.YtjhimmnogjmngaaDoorW.PrintWords Go.Proofs.YtjhimmnogjmngaaDoor.Str Go.Proofs.YtjhimmnogjmngaaDoor.OctF Go.Proofs.YtjhimmnogjmngaaDoor.CrcB Go.Proofs.YtjhimmnogjmngaaDoor.Rec Go.Proofs.YtjhimmnogjmngaaDoor.Cut
theorem RecordTurned (l : List ByteArray) (x : Int × Int) (a2 : Int) (_ : ∀ z ∈ l, z.size ≤ 140737488351232) (hl : l.length * 16 ≤ 140737488351232) (_ : (Lit.int .i64 x.1).wf = true ∧ (Lit.int .i64 x.2).wf = true) (h2 : (Lit.int .u32 a2).wf = true) : true = true ∧ RTGood l x.1 x.2 a2 := by
  obtain ⟨q0, q1⟩ := x
  have h2 := wf_u32 h2
  have hT := recs_take l (pl l).length
  rw [List.take_length] at hT
  have hlen := pl_length l
  obtain ⟨k, hk⟩ := (written_ev l (by omega)).rounds
  refine ⟨rfl, works_f, k, _, _, _, hk, by rw [ofL_size]; omega, by simp [ends], by simp; omega, ?_⟩
  rintro ⟨hp, ha⟩
  rw [List.length_map] at hp
  have e0 := Int.emod_nonneg q0 (show ((pl l).length : Int) ≠ 0 by omega)
  have e1 := Int.emod_lt_of_pos q0 (show (0 : Int) < ((pl l).length : Int) by omega)
  obtain ⟨i, hi⟩ : ∃ i : Nat, q0 % ((pl l).length : Int) = i := ⟨_, (Int.toNat_of_nonneg e0).symm⟩
  have hil : i < (pl l).length := by omega
  obtain ⟨p, hpe⟩ : ∃ p, p = (pl l).getD i [] := ⟨_, rfl⟩
  have hpi : (pl l)[i] = p := by rw [hpe, List.getD_eq_getElem?_getD, List.getElem?_eq_getElem hil]; rfl
  have hpm : p.length ≤ 200 := by rw [← hpi]; exact pl_short l _ (List.getElem_mem hil)
  have hgl := grp_length p.length (by omega)
  have hrl := rc_length p
  have hsn : recs ((pl l).take (i + 1)) = recs ((pl l).take i) ++ rc p := by rw [recs_snoc (pl l) i hil, ← hpe]
  have hsplit : recs (pl l) = recs ((pl l).take i) ++ (rc p ++ recs ((pl l).drop (i + 1))) := by
    rw [← List.append_assoc, ← hsn]
    unfold recs
    rw [← List.flatMap_append, List.take_append_drop]
  have hLl := congrArg List.length hsplit
  rw [List.length_append, List.length_append] at hLl
  have f0 := Int.emod_nonneg q1 (show 8 * ((p.length : Int) + 4) - 31 ≠ 0 by omega)
  have f1 := Int.emod_lt_of_pos q1 (show (0 : Int) < 8 * ((p.length : Int) + 4) - 31 by omega)
  obtain ⟨j, hj⟩ : ∃ j : Nat, q1 % (8 * ((p.length : Int) + 4) - 31) = j := ⟨_, (Int.toNat_of_nonneg f0).symm⟩
  obtain ⟨l', t1, t2, t3⟩ := nx_turned p (recs ((pl l).drop (i + 1))) (8 * (grp p.length).length + j) a2 h2.1 h2.2 ha (by omega) (by omega) (by omega)
  have hturn : Turn.turnI (intsL (recs (pl l))) (8 * ((recs ((pl l).take i)).length + (grp p.length).length) + j) a2 32 = intsL (recs ((pl l).take i) ++ (l' ++ recs ((pl l).drop (i + 1)))) := by
    rw [hsplit, intsL_app, intsL_app, intsL_app, intsL_app, ← t1]
    have := turn_mid (intsL (recs ((pl l).take i))) (intsL (rc p)) (intsL (recs ((pl l).drop (i + 1)))) (8 * (grp p.length).length + j) a2 (by rw [intsL_length]; omega) 32 (by omega)
    rw [intsL_length] at this
    rw [← this]
    congr 1
    omega
  have hsc := sc_recs ((pl l).take i) (l' ++ recs ((pl l).drop (i + 1))) (fun q hq => pl_short' l q (List.mem_of_mem_take hq))
  rw [sc_none t3] at hsc
  simp only [List.append_nil, Nat.add_zero] at hsc
  have hscan := scan_ev (ofL (recs ((pl l).take i) ++ (l' ++ recs ((pl l).drop (i + 1))))) (by rw [ofL_size, List.length_append, List.length_append]; omega)
  rw [ofL_L, hsc] at hscan
  have hsame := same_ev (((pl l).take i).map ofL) (((pl l).map ofL).take i) (by simp only [List.length_map, List.length_take]; omega) (by simp only [List.length_take, List.length_map]; omega)
  obtain ⟨K1, hK1⟩ := hscan
  obtain ⟨K2, hK2⟩ := hsame
  refine ⟨i, j, (recs ((pl l).take i)).length + (grp p.length).length, p.length, max K1 K2, ((pl l).take i).map ofL, ((recs ((pl l).take i)).length : Int), ?_, by rw [List.length_map]; exact hil, ?_, ?_, ?_, ?_, ?_, ?_, ?_, ?_, ?_⟩
  · rw [List.length_map, CrcB.below_f _ _ (by omega) (by omega), hi]
  · rw [rd_ends (pl l) i hil, hsn, List.length_append]
    omega
  · unfold rdOf
    rw [Int.toNat_natCast, List.getD_eq_getElem?_getD, List.getElem?_map, List.getElem?_eq_getElem hil, hpi]
    show (ofL p).size = _
    rw [ofL_size]
  · rw [ofL_size]; omega
  · rw [CrcB.below_f _ _ (by omega) (by omega), hj]
  · rw [ofL_size]; omega
  · rw [ints_L, ofL_L, hturn, nums_intsL]
    exact hK1 _ (Nat.le_max_left _ _)
  · have := hK2 _ (Nat.le_max_right K1 K2)
    rw [decide_eq_true (by rw [List.map_take])] at this
    exact this
  · intro z
    subst z
    rfl
  · intro z
    rw [show ((i : Int) - 1) = ((i - 1 : Nat) : Int) by omega, rd_ends (pl l) (i - 1) (by omega), show i - 1 + 1 = i by omega]
end Go.Proofs.YtjhimmnogjmngaaDoor.Pure
end
/-! Opens -/
section
/- What came in and can be read as data is what the print's kinds say: whole numbers, bools, texts, structs, slices, in one another. -/
namespace Go.Proofs.YtjhimmnogjmngaaDoor.Open
open Go Go.RowKit Go.Proofs.YtjhimmnogjmngaaDoorW.PrintWords

def Opens {α : Type} (d : Kd α) (P : Program) (t : TypeId) (WF : α → Prop) : Prop :=
  P.cellsOf t = d.sz ∧ ∀ (H : Type) (enc : TypeId × Value → H) (W : World) (base : Nat) (sp : Nat → Bool) (held : Bool) (fuel : Nat) (cs : List Value) (y : DataW H) (p : List MemPlace),
    DataW.trod enc P W base sp held fuel t cs = some (y, p) → (∀ n ∈ y.weights P t, n ≤ reachBytes) → ∃ x, d.K W x cs ∧ WF x

theorem int {P : Program} {t : TypeId} {k : IntKind} (h : P.underlying t = some (.int k)) (hc : P.cellsOf t = 1) : Opens (Kd.int k) P t (fun n => (Lit.int k n).wf = true) := by
  refine ⟨hc, fun H enc W base sp held fuel cs y p ht _ => ?_⟩
  obtain ⟨n, rfl, _, hw⟩ := DataW.trod_int h ht
  exact ⟨n, rfl, hw⟩
theorem bool {P : Program} {t : TypeId} (h : P.underlying t = some .bool) (hc : P.cellsOf t = 1) : Opens Kd.bool P t (fun _ => True) := by
  refine ⟨hc, fun H enc W base sp held fuel cs y p ht _ => ?_⟩
  cases fuel with
  | zero => simp [DataW.trod] at ht
  | succ fuel =>
    simp only [DataW.trod, h] at ht
    split at ht <;> first | (rename_i h1 h2; cases h1) | skip
    all_goals first | (cases ht; done) | skip
    all_goals simp_all
    · exact .inl rfl
    · exact .inr rfl
theorem string {P : Program} {t : TypeId} (h : P.underlying t = some .string) (hc : P.cellsOf t = 1) : Opens Kd.string P t (fun s => s.size ≤ 140737488351232) := by
  refine ⟨hc, fun H enc W base sp held fuel cs y p ht hw => ?_⟩
  obtain ⟨s, rfl, he, hs⟩ := DataW.trod_string h ht
  obtain ⟨rfl, rfl⟩ := Prod.mk.inj he
  refine ⟨s, rfl, ?_⟩
  have := hw s.data.toList.length (by simp [DataW.weights])
  have h2 : reachBytes = 140737488351232 := rfl
  rw [h2] at this
  simpa using this

theorem choose_list {α : Type} {Q : Nat → α → Prop} : ∀ n, (∀ i, i < n → ∃ x, Q i x) → ∃ l : List α, l.length = n ∧ ∀ i x, l[i]? = some x → Q i x
  | 0, _ => ⟨[], rfl, fun i x h => by simp at h⟩
  | n + 1, h => by
    obtain ⟨l, hl, hq⟩ := choose_list n (fun i hi => h i (by omega))
    obtain ⟨x, hx⟩ := h n (by omega)
    refine ⟨l ++ [x], by simp [hl], fun i y hy => ?_⟩
    rcases Nat.lt_trichotomy i n with hlt | rfl | hgt
    · rw [List.getElem?_append_left (by omega)] at hy
      exact hq i y hy
    · rw [List.getElem?_append_right (by omega), hl] at hy
      simp at hy
      subst hy
      exact hx
    · rw [List.getElem?_append_right (by omega)] at hy
      rw [List.getElem?_eq_none (by simp; omega)] at hy
      cases hy

theorem weights_all {H : Type} {P : Program} {e : TypeId} : ∀ {l : List (DataW H)} {i : Nat} {d : DataW H}, l[i]? = some d → ∀ n ∈ d.weights P e, n ∈ DataW.weightsAll P e l
  | x :: l, 0, d, h, n, hn => by
    simp only [List.getElem?_cons_zero, Option.some.injEq] at h
    subst h
    simp only [DataW.weightsAll, List.mem_append]
    exact .inl hn
  | x :: l, i + 1, d, h, n, hn => by
    simp only [List.getElem?_cons_succ] at h
    simp only [DataW.weightsAll, List.mem_append]
    exact .inr (weights_all h n hn)
  | [], _, _, h, _, _ => by simp at h

theorem cells_at {w : World} {base : Nat} {a : Addr} {n : Nat} {cs : List Value} (h : w.cells? base a n = some cs) : cs.length = n ∧ ∀ j u, cs[j]? = some u → w.cell? (a.add j) = some u := by
  unfold World.cells? at h
  split at h
  · have hl := Lib.mapM_length h
    simp at hl
    refine ⟨hl, fun j u hu => ?_⟩
    have hj : j < n := by
      rcases Nat.lt_or_ge j n with h' | h'
      · exact h'
      · rw [List.getElem?_eq_none (by omega)] at hu
        cases hu
    obtain ⟨b, hb, hf⟩ := Lib.mapM_at h j j (by simp [hj])
    rw [hu] at hb
    injection hb with hb
    subst hb
    exact hf
  · cases h

/-- A slice's elements, up to its length. -/
theorem slice_elems {α : Type} {d : Kd α} {P : Program} {t e : TypeId} {WF : α → Prop} (ht : P.underlying t = some (.slice e)) (hd : Opens d P e WF)
    {H : Type} {enc : TypeId × Value → H} {W : World} {base : Nat} {sp : Nat → Bool} {held : Bool} {fuel : Nat} {A : Option Addr} {len cap : Nat} {y : DataW H} {p : List MemPlace}
    (h : DataW.trod enc P W base sp held fuel t [.slice A len cap] = some (y, p)) (hw : ∀ n ∈ y.weights P t, n ≤ reachBytes) :
    ∃ l : List α, l.length = len ∧ Kd.C d W A len l ∧ len ≤ cap ∧ (∀ x ∈ l, WF x) ∧ len * P.bytesOf e ≤ 140737488351232 := by
  cases fuel with
  | zero => simp [DataW.trod] at h
  | succ fuel =>
    cases A with
    | none =>
      have h' := h
      simp only [DataW.trod, ht] at h'
      split at h' <;> simp_all
      exact Kd.C_nil d W
    | some a =>
      simp only [DataW.trod, ht] at h
      split at h
      · rename_i hb
        obtain ⟨elems, hm, h⟩ := Option.bind_eq_some_iff.1 h
        obtain ⟨rest, hr, h⟩ := Option.map_eq_some_iff.1 h
        simp only [Prod.mk.injEq] at h
        obtain ⟨rfl, rfl⟩ := h
        have hel : elems.length = len := by simpa using Lib.mapM_length hm
        simp only [DataW.weights, ht, List.mem_cons, List.mem_append] at hw
        have hsz := hw _ (.inl rfl)
        simp only [List.length_map, hel] at hsz
        have hex : ∀ i, i < len → ∃ x, (∃ c, c.length = d.sz ∧ d.K W x c ∧ ∀ j u, c[j]? = some u → W.cell? (a.add (i * d.sz + j)) = some u) ∧ WF x := by
          intro i hi
          obtain ⟨b, hb', hf⟩ := Lib.mapM_at hm i i (by simp [hi])
          obtain ⟨c, hc, hf⟩ := Option.bind_eq_some_iff.1 hf
          obtain ⟨hcl, hcell⟩ := cells_at hc
          obtain ⟨yb, pb⟩ := b
          obtain ⟨x, hx, hwf⟩ := hd.2 H enc W base sp held fuel c yb pb hf (fun n hn => hw n (.inr (.inl (weights_all (i := i) (d := yb) (by simp [hb']) n hn))))
          rw [hd.1] at hcell hcl
          exact ⟨x, ⟨c, hcl, hx, fun j u hu => by rw [← hcell j u hu, Addr.add_add]⟩, hwf⟩
        obtain ⟨l, hl, hq⟩ := choose_list len hex
        refine ⟨l, hl, ⟨hl, by have := hb.2; unfold maxLen at this; omega, fun _ => ⟨a, rfl, fun j x hx => (hq j x hx).1⟩⟩, hb.2.1, fun x hx => ?_, ?_⟩
        · obtain ⟨i, hi⟩ := List.mem_iff_getElem?.1 hx
          exact (hq i x hi).2
        · have h1 : len * P.bytesOf e ≤ (len + rest.length) * P.bytesOf e := Nat.mul_le_mul_right _ (by omega)
          have h2 : reachBytes = 140737488351232 := rfl
          omega
      · cases h
theorem slice {α : Type} {d : Kd α} {P : Program} {t e : TypeId} {WF : α → Prop} (ht : P.underlying t = some (.slice e)) (hd : Opens d P e WF) (hc : P.cellsOf t = 1) :
    Opens (Kd.slice e d) P t (fun l => (∀ x ∈ l, WF x) ∧ l.length * P.bytesOf e ≤ 140737488351232) := by
  refine ⟨hc, fun H enc W base sp held fuel cs y p h hw => ?_⟩
  have hform : ∃ A len cap, cs = [.slice A len cap] := by
    cases fuel with
    | zero => simp [DataW.trod] at h
    | succ fuel =>
      have h' := h
      simp only [DataW.trod, ht] at h'
      split at h' <;> first | exact ⟨_, _, _, rfl⟩ | (simp_all; done) | skip
      all_goals (simp_all)
  obtain ⟨A, len, cap, rfl⟩ := hform
  obtain ⟨l, hl, hC, hcap, hwf, hb⟩ := slice_elems ht hd h hw
  subst hl
  exact ⟨l, ⟨A, cap, rfl, hcap, hC⟩, hwf, hb⟩

/-- A struct's fields from one place on. -/
def Fields {α : Type} (d : Kd α) (P : Program) (fs : List Field) (o : Nat) (WF : α → Prop) : Prop :=
  ∀ (H : Type) (enc : TypeId × Value → H) (W : World) (base : Nat) (sp : Nat → Bool) (held : Bool) (fuel : Nat) (cs : List Value) (xs : List (DataW H × List MemPlace)), cs.length = o + d.sz →
    (fs.mapM fun f => DataW.trod enc P W base sp held fuel f.type ((cs.drop f.offset).take (P.cellsOf f.type))) = some xs → (∀ n ∈ DataW.weightsEach P (fs.map (·.type)) (xs.map (·.1)), n ≤ reachBytes) → ∃ x, d.K W x (cs.drop o) ∧ WF x
theorem field_last {α : Type} {d : Kd α} {P : Program} {f : Field} {o : Nat} {WF : α → Prop} (ho : f.offset = o) (hd : Opens d P f.type WF) : Fields d P [f] o WF := by
  intro H enc W base sp held fuel cs xs hl hm hw
  simp only [List.mapM_cons, List.mapM_nil, Option.bind_eq_bind, Option.bind_eq_some_iff, Option.pure_def, Option.some.injEq] at hm
  obtain ⟨⟨y, p⟩, hy, _, rfl, rfl⟩ := hm
  rw [ho, hd.1, List.take_of_length_le (by simp; omega)] at hy
  exact hd.2 H enc W base sp held fuel _ y p hy (fun n hn => hw n (by simp [DataW.weightsEach, hn]))
theorem field_more {α β : Type} {d0 : Kd α} {d1 : Kd β} {P : Program} {f : Field} {fs : List Field} {o : Nat} {WF0 : α → Prop} {WF1 : β → Prop} (ho : f.offset = o) (h0 : Opens d0 P f.type WF0) (h1 : Fields d1 P fs (o + d0.sz) WF1) :
    Fields (Kd.pair d0 d1) P (f :: fs) o (fun x => WF0 x.1 ∧ WF1 x.2) := by
  intro H enc W base sp held fuel cs xs hl hm hw
  simp only [List.mapM_cons, Option.bind_eq_bind, Option.bind_eq_some_iff, Option.pure_def, Option.some.injEq] at hm
  obtain ⟨⟨y, p⟩, hy, ys, hys, rfl⟩ := hm
  have hl' : cs.length = (o + d0.sz) + d1.sz := by rw [hl]; show o + (d0.sz + d1.sz) = _; omega
  rw [ho, h0.1] at hy
  obtain ⟨x0, hx0, hw0⟩ := h0.2 H enc W base sp held fuel _ y p hy (fun n hn => hw n (by simp [DataW.weightsEach, hn]))
  obtain ⟨x1, hx1, hw1⟩ := h1 H enc W base sp held fuel cs ys hl' hys (fun n hn => hw n (by simp only [List.map_cons, DataW.weightsEach, List.mem_append]; exact .inr hn))
  refine ⟨(x0, x1), ⟨(cs.drop o).take d0.sz, cs.drop (o + d0.sz), ?_, hx0, hx1⟩, hw0, hw1⟩
  rw [← List.drop_drop, List.take_append_drop]
theorem struct {α β : Type} {d : Kd α} {P : Program} {t : TypeId} {fs : Array Field} {WF : α → Prop} (ht : P.underlying t = some (.struct fs)) (hc : P.cellsOf t = d.sz) (hf : Fields d P fs.toList 0 WF) (f : β → α) (g : α → β) (hg : ∀ y, f (g y) = y) :
    Opens (Kd.iso d f) P t (fun b => WF (f b)) := by
  refine ⟨hc, fun H enc W base sp held fuel cs y p h hw => ?_⟩
  cases fuel with
  | zero => simp [DataW.trod] at h
  | succ fuel =>
    simp only [DataW.trod, ht] at h
    split at h
    · rename_i hl
      obtain ⟨xs, hm, hx⟩ := Option.map_eq_some_iff.1 h
      simp only [Prod.mk.injEq] at hx
      obtain ⟨rfl, rfl⟩ := hx
      obtain ⟨x, hK, hwf⟩ := hf H enc W base sp held fuel cs xs (by omega) hm (fun n hn => hw n (by simpa [DataW.weights, ht] using hn))
      rw [List.drop_zero] at hK
      exact ⟨g x, by show d.K W (f (g x)) cs; rw [hg]; exact hK, by show WF (f (g x)); rw [hg]; exact hwf⟩
    · cases h
/-- An argument that is a slice. -/
theorem slice_arg {α : Type} {d : Kd α} {P : Program} {t e : TypeId} {WF : α → Prop} (ht : P.underlying t = some (.slice e)) (hd : Opens d P e WF)
    {H : Type} {enc : TypeId × Value → H} {W : World} {base : Nat} {sp : Nat → Bool} {held : Bool} {A : Option Addr} {len cap : Nat} {y : DataW H} {p : List MemPlace} {ts : List TypeId} {ds : List (DataW H)}
    (h : DataW.Trod enc P W base sp held t (.slice A len cap) y p) (hsz : (DataW.weightsEach P ts ds).all (· ≤ reachBytes) = true) {j : Nat} (htj : ts[j]? = some t) (hdj : ds[j]? = some y) :
    ∃ l : List α, len = l.length ∧ Kd.C d W A l.length l ∧ l.length ≤ cap ∧ (∀ x ∈ l, WF x) ∧ l.length * P.bytesOf e ≤ 140737488351232 := by
  obtain ⟨fuel, hf⟩ := h
  have hw : ∀ n ∈ y.weights P t, n ≤ reachBytes := fun n hn => by simpa using List.all_eq_true.1 hsz n (DataW.weights_mem_each htj hdj n hn)
  obtain ⟨l, hl, hC, hcap, hwf, hb⟩ := slice_elems ht hd (by simpa [Value.cells] using hf) hw
  subst hl
  exact ⟨l, rfl, hC, hcap, hwf, hb⟩
/-- An argument that is a struct or an array by value. -/
theorem agg_arg {α : Type} {d : Kd α} {P : Program} {t : TypeId} {WF : α → Prop} (hd : Opens d P t WF)
    {H : Type} {enc : TypeId × Value → H} {W : World} {base : Nat} {sp : Nat → Bool} {held : Bool} {cs : Array Value} {y : DataW H} {p : List MemPlace} {ts : List TypeId} {ds : List (DataW H)}
    (h : DataW.Trod enc P W base sp held t (.agg cs) y p) (hsz : (DataW.weightsEach P ts ds).all (· ≤ reachBytes) = true) {j : Nat} (htj : ts[j]? = some t) (hdj : ds[j]? = some y) :
    ∃ x, d.K W x cs.toList ∧ WF x := by
  obtain ⟨fuel, hf⟩ := h
  have hw : ∀ n ∈ y.weights P t, n ≤ reachBytes := fun n hn => by simpa using List.all_eq_true.1 hsz n (DataW.weights_mem_each htj hdj n hn)
  exact hd.2 H enc W base sp held fuel cs.toList y p (by simpa [Value.cells] using hf) hw
theorem okWide_array {P : Program} {w : World} {r : Reach} {base : Nat} {t e : TypeId} {n : Nat} {v : Value} (ht : P.underlying t = some (.array n e)) (h : Value.okWide P w r base t v) : ∃ cs, v = .agg cs ∧ cs.size = P.cellsOf t := by
  simp only [Value.okWide, ht] at h
  obtain ⟨cs, h1, h2, _⟩ := h
  exact ⟨cs, h1, h2⟩
theorem array2 {α : Type} {d : Kd α} {P : Program} {t e : TypeId} {WF : α → Prop} (ht : P.underlying t = some (.array 2 e)) (hd : Opens d P e WF) (hc : P.cellsOf t = d.sz + d.sz) :
    Opens (Kd.pair d d) P t (fun x => WF x.1 ∧ WF x.2) := by
  refine ⟨hc, fun H enc W base sp held fuel cs y p h hw => ?_⟩
  cases fuel with
  | zero => simp [DataW.trod] at h
  | succ n =>
    simp only [DataW.trod, ht] at h
    split at h
    · rename_i hl
      obtain ⟨xs, hm, hx⟩ := Option.map_eq_some_iff.1 h
      simp only [Prod.mk.injEq] at hx
      obtain ⟨rfl, rfl⟩ := hx
      have r2 : List.range 2 = [0, 1] := rfl
      simp only [r2, List.mapM_cons, List.mapM_nil, Option.bind_eq_bind, Option.bind_eq_some_iff, Option.pure_def, Option.some.injEq] at hm
      obtain ⟨⟨y0, p0⟩, h0, ys, ⟨⟨y1, p1⟩, h1, zs, rfl, rfl⟩, rfl⟩ := hm
      rw [hd.1] at h0 h1
      simp only [DataW.weights, ht, List.map_cons, List.map_nil, DataW.weightsAll, List.mem_append] at hw
      obtain ⟨x0, k0, w0⟩ := hd.2 H enc W base sp held n _ y0 p0 h0 (fun m hm => hw m (.inl hm))
      obtain ⟨x1, k1, w1⟩ := hd.2 H enc W base sp held n _ y1 p1 h1 (fun m hm => hw m (.inr (.inl hm)))
      refine ⟨(x0, x1), ⟨_, _, ?_, k0, k1⟩, w0, w1⟩
      rw [Nat.zero_mul, List.drop_zero, Nat.one_mul, List.take_of_length_le (l := cs.drop d.sz) (by rw [List.length_drop]; omega), List.take_append_drop]
    · cases h
end Go.Proofs.YtjhimmnogjmngaaDoor.Open
end
/-! Laid -/
section
/- From the rows' condition to the tables that the walks read. -/
namespace Go.Proofs.YtjhimmnogjmngaaDoor.Laid
open Go Go.RowKit
theorem half_data {H : Type} : Rows.laid_gong_crc_half (H := H) = Lib.tabData .u32 Crc.halfL := rfl
theorem tabs {W : World} (h : laidMetH Tryd.prog [("gong/crc.half", Rows.laid_gong_crc_half)] W) : Px.TabW W := by
  rw [MakeChecks.laidMetH_plain _ _ _ (by kernel_rfl), half_data] at h
  exact Lib.tabIs_of_head (g := 0) (t := 70) (e := 42) (n := 16) (by kernel_rfl) (by kernel_rfl) Tryd.underlying70 Tryd.underlying42 (by kernel_rfl) (by kernel_rfl) h
end Go.Proofs.YtjhimmnogjmngaaDoor.Laid
end
/-! RRecordTurned -/
section
/- RecordTurned: for every input that the row speaks of the law returns true, and what came in reads as it did; the variables that it lists are tied to the program's text (the card). Condition: each listed variable reads as the program's own initialisers lay it. -/
namespace Go.Proofs.YtjhimmnogjmngaaDoor.recordTurned
open Go.ChangeShapes Go.WideShapes Go.ChangeAt Go.RowKit Go.Proofs.YtjhimmnogjmngaaDoorW.PrintWords
open Go.ChangeMaps (open_string shut_string)
theorem own : ownKnob Tryd.prog.godebug = none := by kernel_rfl
theorem laidOut : laidOutB Tryd.prog = true := by kernel_rfl
def laidL : List (String × DataW Unit) := [("gong/crc.half", Rows.laid_gong_crc_half)]
/-- The door's own heap meets the condition: three closed facts. -/
theorem door_met (os : Os) (args : Array Value) : laidMetH Tryd.prog laidL ((World.doorLaid Tryd.prog 14 os).forCall (fun _ _ => 0) ⟨#[], args, []⟩).memory :=
  laidMetH_of_parts3 (fuel := 8) (laidMet_of_run' 8 (by kernel_rfl) (by kernel_rfl)) (by kernel_rfl) (by kernel_rfl)
set_option maxRecDepth 100000 in
theorem lifted (os : Os) (started : os.Started) (H : Type) (enc : TypeId × Value → H) :
    ReturnsInHanded {} Tryd.checked os 6 .any (fun w args => (Rows.recordTurnedSpec.pre enc Tryd.prog Tryd.f6 [] false w args ∧ laidMetH Tryd.prog laidL w) ∧ sizedMet enc Tryd.prog Tryd.f6 (OpenSpec.ofChange Rows.recordTurnedSpec) false w args)
      (Rows.recordTurnedSpec.post enc Tryd.prog Tryd.f6 false true false false) := by
  refine returnsInHanded_of_change_and (C := Tryd.checked) (X := fun w _ => laidMetH Tryd.prog laidL w) (fun _ _ _ hh h => h.of_heap hh) own started (by kernel_rfl) Tryd.func6
    (ChangeSpec.witness_shaped (enc := enc) (C := Tryd.checked) (os := os) (X := fun w _ => laidMetH Tryd.prog laidL w) false (World.doorLaid Tryd.prog 14 os) #[.slice none 0 0, .agg #[.int .i64 0, .int .i64 0], .int .u32 0] 8 rfl (World.shaped_of_RefB (by kernel_rfl) (by kernel_rfl)) (by kernel_rfl) (by kernel_rfl) (by kernel_rfl) (door_met os _)) ?_
  intro W base args ds gs before hval0 hW _ hsz0 hL _
  have HT : Px.TabW W := Laid.tabs hL
  have hsz : (DataW.weightsEach Tryd.prog (Tryd.f6.params.toList ++ Rows.recordTurnedSpec.plain.varTypes Tryd.prog) (ds ++ gs)).all (· ≤ reachBytes) = true := hsz0
  have hval : ∀ (j : Nat) t v, Tryd.f6.params[j]? = some t → args[j]? = some v → Value.okWide Tryd.prog W .any base t v := hval0
  have hW' := hW
  obtain ⟨p, q, hA0, hV, rfl, hfz, hnd⟩ := hW
  have hA : DataW.TrodAll enc Tryd.prog W 0 (fun _ => true) true Tryd.f6.params.toList args.toList ds p := hA0
  rw [Tryd.params6] at hA hval hsz
  obtain ⟨v0, vs0, d0, ds0, p0, q0, hargs, rfl, rfl, h0, r0⟩ := trodAll_cons hA
  obtain ⟨v1, vs1, d1, ds1, p1, q1, rfl, rfl, rfl, h1, r1⟩ := trodAll_cons r0
  obtain ⟨v2, vs2, d2, ds2, p2, q2, rfl, rfl, rfl, h2, r2⟩ := trodAll_cons r1
  obtain ⟨rfl, rfl, rfl⟩ := trodAll_nil r2
  obtain rfl : args = #[v0, v1, v2] := by cases args; simp_all
  obtain ⟨rfl, rfl⟩ := trodVars_none hV
  obtain ⟨a0, len0, cap0, rfl⟩ := okWide_slice Tryd.underlying30 (hval 0 30 v0 rfl rfl)
  have k0 := h0
  have lt0 : ∀ x ∈ p0, x.block < W.heap.size := by obtain ⟨m, hm⟩ := k0; exact DataW.trod_lt m _ _ _ hm
  obtain ⟨l0, rfl, hr0, hc0, wf0, y0⟩ := Open.slice_arg (d := Kd.string) Tryd.underlying30 (Open.string Tryd.underlying9 (by kernel_rfl)) h0 hsz (j := 0) (t := 30) rfl rfl
  obtain ⟨a1, rfl, _⟩ := Open.okWide_array Tryd.underlying41 (hval 1 41 v1 rfl rfl)
  have k1 := h1
  have lt1 : ∀ x ∈ p1, x.block < W.heap.size := by obtain ⟨m, hm⟩ := k1; exact DataW.trod_lt m _ _ _ hm
  obtain ⟨x1, hx1, wf1⟩ := Open.agg_arg (d := (Kd.pair (Kd.int .i64) (Kd.int .i64))) (Open.array2 Tryd.underlying41 (Open.int Tryd.underlying3 (by kernel_rfl)) (by kernel_rfl)) h1 hsz (j := 1) (t := 41) rfl rfl
  obtain ⟨a2, rfl, rfl, rfl, w2⟩ := open_int Tryd.underlying42 (hval 2 42 v2 rfl rfl) h2
  clear hA0 hval0 hsz0 hsz
  have hk := Pure.RecordTurned l0 x1 a2 wf0 y0 wf1 w2
  refine (Px.gonglaw26_RecordTurned.calls _ _ l0 a1 x1 a2 true W hr0 hc0 hx1 ⟨HT⟩ hk).mono fun e W' ⟨he, hd⟩ => ?_
  subst he
  have bel : Below W.heap.size W W' := hd
  exact ⟨_, rfl, _, _, _, [], _, [], hW', trodAll_mk1 (shut_bool Tryd.underlying4 _), (trodAll_cons_mk (Below.trod laidOut (by kernel_rfl) (of_decide_eq_true (by kernel_rfl)) k0 bel lt0) (trodAll_cons_mk (Below.trod laidOut (by kernel_rfl) (of_decide_eq_true (by kernel_rfl)) k1 bel lt1) (trodAll_cons_mk (shut_int Tryd.underlying42 w2) trodAll_mk0))), rfl, bel.frame _, fun h => by cases h⟩
theorem over : Rows.recordTurnedRow.holds Tryd.pinned (OpenSpec.ofChange Rows.recordTurnedSpec) :=
  OpenClaim.holds_of_wide 6 Tryd.f6 rfl rfl rfl rfl rfl rfl rfl ⟨rfl, rfl, rfl, rfl, rfl⟩ rfl rfl rfl rfl rfl (by kernel_rfl) Tryd.func6 (by kernel_rfl)
    (of_decide_eq_true (by kernel_rfl)) (by unfold Func.isWrapper; first | (rw [if_pos (by decide +kernel)]; kernel_rfl) | (rw [if_neg (by decide +kernel)]; exact ⟨rfl, rfl⟩))
    (fun os started H enc _ => lifted os started H enc)
/-- The tied card. -/
theorem proved : Rows.RecordTurnedCardSaid :=
  Claim7.holds_tied_plain_at .later [] [.data] true (true, "307483383d0bb71566b017aa74341469999107bc826ace69558276faa85415d5") false
    over (fun _ h => by cases h) (by kernel_rfl) (fun _ h => by cases h) recordTurned_row_tie rfl ⟨rfl, rfl⟩ (by kernel_rfl) rfl
    (fun f fn hf hfn => by
      obtain rfl : f = 6 := Option.some.inj ((show Tryd.prog.funcNamed "gong/gonglaw26.RecordTurned" = some 6 by kernel_rfl).symm.trans hf) |>.symm
      obtain rfl : fn = Tryd.f6 := (Option.some.inj (Tryd.func6.symm.trans hfn)).symm
      exact ⟨by kernel_rfl, fun j t ht => by
        rw [Tryd.params6] at ht
        have hm : t ∈ [30, 41, 42] := by simpa using Array.mem_of_getElem? ht
        have hall : ([30, 41, 42].all fun u => !Tryd.prog.wantsStandIn u) = true := by kernel_rfl
        exact (show Tryd.prog.wantsStandIn t = false by simpa using List.all_eq_true.1 hall t hm)⟩)
    (by kernel_rfl)
#print axioms proved
end Go.Proofs.YtjhimmnogjmngaaDoor.recordTurned
namespace Go.Proofs.YtjhimmnogjmngaaDoor
/-- The row, under a short name, for the claim. -/
theorem recordTurned_holds : Rows.RecordTurnedCardSaid := recordTurned.proved
end Go.Proofs.YtjhimmnogjmngaaDoor
end
