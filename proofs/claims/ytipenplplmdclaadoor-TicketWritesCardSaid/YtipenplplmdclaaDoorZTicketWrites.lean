/- TicketWrites: for every input that the row speaks of the law returns true, and what came in reads as it did; the variables that it lists are tied to the program's text (the card). Condition: each listed variable reads as the program's own initialisers lay it. -/
import Derived.Test.YtipenplplmdclaaDoorZTicketWritesE
import Derived.DataReads
import Derived.DataElems
import Derived.SizedLaws
import Derived.ChangeShapes
import Derived.ChangeMaps
import Derived.Test.YtipenplplmdclaaDoorRows
import Derived.LaidMore
import Derived.Stop.Joined
import Derived.Stop.LaidErr
import Derived.ProofKit
import Derived.OpenShut
import Derived.ShutString
import Derived.ChangeOld
import Derived.SevenTiedAt
import Derived.Test.YtipenplplmdclaaDoorTie
import Derived.Test.YtipenplplmdclaaDoorCards
set_option linter.unusedVariables false
set_option linter.unusedSimpArgs false
section
namespace Go.Proofs.YtipenplplmdclaaDoor.OctF
open Go Go.RowKit Go.Proofs.YtipenplplmdclaaDoor.Px Go.Proofs.YtipenplplmdclaaDoorW.PrintWords Go.Proofs.YtipenplplmdclaaDoor.Str
theorem ref_Grouped_l0 (n : Nat) : ∀ (s : ByteArray), n < 9223372036854775808 → s.size + (hi (n / 128)).length ≤ 1000 → Ev (fun k => gongref01_Grouped.l0 k (n : Int) s) (ofL (hi (n / 128) ++ s.data.toList)) := by
  induction n using Nat.strongRecOn with
  | _ n ih =>
    intro s hn hs
    by_cases h : n < 128
    · refine Ev.step (f := fun _ => some s) (fun k => ?_) ?_
      · simp only [gongref01_Grouped.l0]
        rw [if_neg (by omega)]
      · rw [show n / 128 = 0 by omega, hi_zero, List.nil_append, ofL_of]
        exact Ev.now _
    · have h1 : n / 128 ≠ 0 := by omega
      have e1 : wrap64 (Int.tdiv (n : Int) 128) = ((n / 128 : Nat) : Int) := by
        rw [Int.tdiv_eq_ediv_of_nonneg (by omega), wrap64_id (by omega) (by omega)]
        omega
      have e2 : strOfNums [wrap64 (Int.tmod ((n / 128 : Nat) : Int) 128 + 128) % 256] = ofL [UInt8.ofNat (n / 128 % 128 + 128)] := by
        apply ext
        rw [nums_L, ofL_L, Int.tmod_eq_emod_of_nonneg (by omega), wrap64_id (by omega) (by omega)]
        simp only [List.map_cons, List.map_nil, List.cons.injEq, and_true]
        congr 1
        omega
      rw [hi_pos h1] at hs ⊢
      rw [List.length_append] at hs
      simp only [List.length_cons, List.length_nil] at hs
      have hsz : (ofL [UInt8.ofNat (n / 128 % 128 + 128)]).size + s.size ≤ 9223372036854775807 := by simp; omega
      have hsum : hi (n / 128 / 128) ++ [UInt8.ofNat (n / 128 % 128 + 128)] ++ s.data.toList = hi (n / 128 / 128) ++ (ofL [UInt8.ofNat (n / 128 % 128 + 128)] ++ s).data.toList := by simp
      rw [hsum]
      have hsz2 : (ofL [UInt8.ofNat (n / 128 % 128 + 128)] ++ s).size = 1 + s.size := by rw [size_L, app_L]; simp; omega
      refine Ev.step (f := fun k => gongref01_Grouped.l0 k ((n / 128 : Nat) : Int) (ofL [UInt8.ofNat (n / 128 % 128 + 128)] ++ s)) (fun k => ?_) (ih (n / 128) (by omega) _ (by omega) (by omega))
      simp only [gongref01_Grouped.l0]
      rw [if_pos (by omega), e1]
      simp only [Option.bind_some]
      rw [e2, if_pos hsz]
theorem ref_Grouped_ev (n : Nat) (hn : n < 9223372036854775808) : Ev (fun k => gongref01_Grouped.f k (n : Int)) (ofL (grp n)) := by
  have e : strOfNums [Int.tmod (n : Int) 128 % 256] = ofL [UInt8.ofNat (n % 128)] := by
    apply ext
    rw [nums_L, ofL_L, Int.tmod_eq_emod_of_nonneg (by omega)]
    simp only [List.map_cons, List.map_nil, List.cons.injEq, and_true]
    congr 1
    omega
  unfold gongref01_Grouped.f
  rw [e]
  have hl := hi_length 8 (n / 128) (by omega)
  exact ref_Grouped_l0 n (ofL [UInt8.ofNat (n % 128)]) hn (by simp; omega)
theorem ref_Padded_l0 (w : Int) (d : Nat) : ∀ (n : Nat) (s : ByteArray) (i : Int), w = i + (d : Int) → w ≤ 1000 → 0 ≤ i → n < 9223372036854775808 → s.size ≤ 2000 - d →
    Ev (fun k => gongref01_Padded.l0 k (n : Int) w s i) (ofL (be d n ++ s.data.toList)) := by
  induction d with
  | zero =>
    intro n s i hi hw h0 hn hs
    refine Ev.step (f := fun _ => some s) (fun k => ?_) ?_
    · simp only [gongref01_Padded.l0]
      rw [if_neg (by omega)]
    · simp only [be, List.nil_append]
      rw [ofL_of]
      exact Ev.now _
  | succ d ih =>
    intro n s i hi hw h0 hn hs
    have e1 : Int.tmod (n : Int) 256 = (n % 256 : Nat) := by rw [Int.tmod_eq_emod_of_nonneg (by omega)]; omega
    have e2 : Int.tdiv (n : Int) 256 = (n / 256 : Nat) := by rw [Int.tdiv_eq_ediv_of_nonneg (by omega)]; omega
    have e3 : (strOfNums [Int.tmod (n : Int) 256 % 256]) = ofL [UInt8.ofNat n] := by
      apply ext
      rw [nums_L, ofL_L, e1]
      simp only [List.map_cons, List.map_nil, List.cons.injEq, and_true]
      apply UInt8.toNat_inj.1
      rw [UInt8.toNat_ofNat', UInt8.toNat_ofNat']
      omega
    have hsz : (ofL [UInt8.ofNat n]).size + s.size ≤ 9223372036854775807 := by simp; omega
    have hsum : be (d + 1) n ++ s.data.toList = be d (n / 256) ++ (ofL [UInt8.ofNat n] ++ s).data.toList := by simp [be]
    rw [hsum]
    refine Ev.step (f := fun k => gongref01_Padded.l0 k ((n / 256 : Nat) : Int) w (ofL [UInt8.ofNat n] ++ s) (i + 1)) (fun k => ?_) (ih (n / 256) _ (i + 1) (by omega) hw (by omega) (by omega) ?_)
    · simp only [gongref01_Padded.l0]
      rw [if_pos (by omega)]
      simp only [Option.bind_some]
      rw [e3, if_pos hsz, e2, wrap64_id (by omega) (by omega), wrap64_id (by omega) (by omega)]
    · have : (ofL [UInt8.ofNat n] ++ s).size = 1 + s.size := by rw [size_L, app_L]; simp; omega
      omega
theorem ref_Padded_ev (n : Nat) (w : Nat) (hn : n < 9223372036854775808) (hw : w ≤ 1000) : Ev (fun k => gongref01_Padded.f k (n : Int) (w : Int)) (ofL (be w n)) := by
  have := ref_Padded_l0 (w : Int) w n ⟨#[]⟩ 0 (by omega) (by omega) (by omega) hn (by simp [size_L])
  simp only [List.append_nil] at this
  exact this
def val (l : List UInt8) : Nat := l.foldl (fun n b => n * 256 + b.toNat) 0
end Go.Proofs.YtipenplplmdclaaDoor.OctF
end
section
namespace Go.Proofs.YtipenplplmdclaaDoor.OctF
open Go Go.RowKit Go.Proofs.YtipenplplmdclaaDoor.Px Go.Proofs.YtipenplplmdclaaDoorW.PrintWords Go.Proofs.YtipenplplmdclaaDoor.Str
theorem ref_Text_ev (s : ByteArray) (h : s.size ≤ 1073741824) : Ev (fun k => gongref01_Text.f k s) (ofL (grp s.size ++ s.data.toList)) := by
  unfold gongref01_Text.f
  refine Ev.bind (ref_Grouped_ev s.size (by omega)) ?_
  have := grp_length s.size (by omega)
  refine Ev.congr (f := fun _ => some _) (fun k => ?_) (Ev.now _)
  rw [ofL_size, if_pos (by omega)]
  congr 1
end Go.Proofs.YtipenplplmdclaaDoor.OctF
end
section
namespace Go.Proofs.YtipenplplmdclaaDoor.CrcB
abbrev W := BitVec 32
def poly : W := 0xEDB88320#32
def A (c : W) : W := (c >>> 1) ^^^ (if c.getLsbD 0 then poly else 0#32)
def An : Nat → W → W
  | 0, c => c
  | n + 1, c => An n (A c)
theorem An_add (m n : Nat) (c : W) : An (m + n) c = An m (An n c) := by
  induction n generalizing c with
  | zero => rfl
  | succ n ih => rw [← Nat.add_assoc]; show An (m + n) (A c) = _; rw [ih]; rfl
theorem A_xor (x y : W) : A (x ^^^ y) = A x ^^^ A y := by
  unfold A
  rw [BitVec.ushiftRight_xor_distrib, BitVec.getLsbD_xor]
  cases x.getLsbD 0 <;> cases y.getLsbD 0
  · simp
  · simp only [Bool.false_xor, if_true, Bool.false_eq_true, if_false, BitVec.xor_zero]
    ac_rfl
  · simp only [Bool.xor_false, if_true, Bool.false_eq_true, if_false, BitVec.xor_zero]
    ac_rfl
  · simp only [Bool.xor_self, if_true, Bool.false_eq_true, if_false, BitVec.xor_zero]
    rw [show x >>> 1 ^^^ poly ^^^ (y >>> 1 ^^^ poly) = x >>> 1 ^^^ y >>> 1 ^^^ (poly ^^^ poly) by ac_rfl, BitVec.xor_self, BitVec.xor_zero]
theorem An_xor (n : Nat) (x y : W) : An n (x ^^^ y) = An n x ^^^ An n y := by
  induction n generalizing x y with
  | zero => rfl
  | succ n ih => show An n (A _) = _; rw [A_xor, ih]; rfl
theorem A_zero {x : W} (h : A x = 0#32) : x = 0#32 := by
  have h31 : (A x).getLsbD 31 = false := by rw [h]; simp
  have hl : x.getLsbD 0 = false := by
    unfold A at h31
    rw [BitVec.getLsbD_xor] at h31
    cases hx : x.getLsbD 0 with
    | false => rfl
    | true =>
      rw [hx] at h31
      simp [poly] at h31
  unfold A at h
  rw [hl] at h
  simp at h
  apply BitVec.eq_of_getLsbD_eq
  intro i hi
  cases i with
  | zero => rw [hl]; simp
  | succ i =>
    have := congrArg (fun z => BitVec.getLsbD z i) h
    simp only [BitVec.getLsbD_ushiftRight] at this
    rw [Nat.add_comm 1 i] at this
    rw [this]
    simp
theorem An_zero {n : Nat} {x : W} (h : An n x = 0#32) : x = 0#32 := by
  induction n generalizing x with
  | zero => exact h
  | succ n ih => exact A_zero (ih h)
theorem xor_eq_zero {x y : W} (h : x ^^^ y = 0#32) : x = y := by
  have : x ^^^ y ^^^ y = 0#32 ^^^ y := by rw [h]
  rw [BitVec.xor_assoc, BitVec.xor_self, BitVec.xor_zero, BitVec.zero_xor] at this
  exact this
theorem An_inj {n : Nat} {x y : W} (h : An n x = An n y) : x = y := by
  apply xor_eq_zero
  apply An_zero (n := n)
  rw [An_xor, h, BitVec.xor_self]
theorem A_even {x : W} (h : x.getLsbD 0 = false) : A x = x >>> 1 := by unfold A; rw [h]; simp
theorem An_low (n : Nat) : ∀ x : W, (∀ i, i < n → x.getLsbD i = false) → An n x = x >>> n := by
  induction n with
  | zero => intro x _; simp [An]
  | succ n ih =>
    intro x h
    show An n (A x) = _
    rw [A_even (h 0 (by omega)), ih _ (fun i hi => by rw [BitVec.getLsbD_ushiftRight]; exact h (1 + i) (by omega)), ← BitVec.shiftRight_add]
    congr 1
    omega
theorem split_low (n : Nat) (c : W) : c = ((c >>> n) <<< n) ^^^ (c &&& BitVec.ofNat 32 (2 ^ n - 1)) := by
  apply BitVec.eq_of_getLsbD_eq
  intro i hi
  simp only [BitVec.getLsbD_xor, BitVec.getLsbD_shiftLeft, BitVec.getLsbD_ushiftRight, BitVec.getLsbD_and, BitVec.getLsbD_ofNat, Nat.testBit_two_pow_sub_one]
  by_cases h : i < n
  · simp [h, hi]
  · simp [h, hi, show n + (i - n) = i by omega]
theorem An_split (n : Nat) (c : W) : An n c = (c >>> n) ^^^ An n (c &&& BitVec.ofNat 32 (2 ^ n - 1)) := by
  have e := congrArg (An n) (split_low n c)
  rw [An_xor] at e
  rw [e]
  congr 1
  rw [An_low n _ (fun i hi => by simp [hi])]
  apply BitVec.eq_of_getLsbD_eq
  intro i hi
  simp only [BitVec.getLsbD_ushiftRight, BitVec.getLsbD_shiftLeft]
  by_cases h : n + i < 32
  · simp [h]
  · simp [h, BitVec.getLsbD_of_ge c (n + i) (by omega)]
def halfB : Nat → W := fun i => BitVec.ofNat 32 ([0, 498536548, 997073096, 651767980, 1994146192, 1802195444, 1303535960, 1342533948, 3988292384, 4027552580, 3604390888, 3412177804, 2607071920, 2262029012, 2685067896, 3183342108].getD i 0)
theorem half_An : ∀ i : Fin 16, halfB i.val = An 4 (BitVec.ofNat 32 i.val) := by decide
theorem An4 (c : W) : An 4 c = (c >>> 4) ^^^ halfB (c.toNat % 16) := by
  have h := half_An ⟨c.toNat % 16, Nat.mod_lt _ (by decide)⟩
  simp only at h
  rw [h, An_split]
  congr 2
  apply BitVec.eq_of_toNat_eq
  rw [BitVec.toNat_and, BitVec.toNat_ofNat, BitVec.toNat_ofNat]
  show c.toNat &&& (2 ^ 4 - 1) = _
  rw [Nat.and_two_pow_sub_one_eq_mod]
  omega
def step (c : W) (b : W) : W := An 8 (c ^^^ b)
def byte (b : UInt8) : W := BitVec.ofNat 32 b.toNat
def run (c : W) (l : List UInt8) : W := l.foldl (fun c b => step c (byte b)) c
theorem run_nil (c : W) : run c [] = c := rfl
theorem run_cons (c : W) (b : UInt8) (l : List UInt8) : run c (b :: l) = run (step c (byte b)) l := rfl
theorem run_append (c : W) (l m : List UInt8) : run c (l ++ m) = run (run c l) m := by simp [run, List.foldl_append]
def le4 (x : W) : List UInt8 := [UInt8.ofNat x.toNat, UInt8.ofNat (x.toNat / 256), UInt8.ofNat (x.toNat / 65536), UInt8.ofNat (x.toNat / 16777216)]
theorem byte_ofNat (n : Nat) : byte (UInt8.ofNat n) = BitVec.ofNat 32 (n % 256) := by
  unfold byte
  rw [UInt8.toNat_ofNat']
theorem run_le4 (c x : W) : run c (le4 x) = An 32 (c ^^^ x) := by
  have one : ∀ d y : W, An 8 (d ^^^ y) = step d (BitVec.ofNat 32 (y.toNat % 256)) ^^^ (y >>> 8) := by
    intro d y
    unfold step
    rw [An_split 8 (d ^^^ y), An_split 8 (d ^^^ BitVec.ofNat 32 (y.toNat % 256))]
    have e1 : (d ^^^ BitVec.ofNat 32 (y.toNat % 256)) >>> 8 = d >>> 8 := by
      apply BitVec.eq_of_getLsbD_eq
      intro i hi
      rw [BitVec.getLsbD_ushiftRight, BitVec.getLsbD_ushiftRight, BitVec.getLsbD_xor, BitVec.getLsbD_ofNat]
      have : (y.toNat % 256).testBit (8 + i) = false := Nat.testBit_lt_two_pow (Nat.lt_of_lt_of_le (Nat.mod_lt _ (by decide)) (by rw [show 256 = 2 ^ 8 by rfl]; exact Nat.pow_le_pow_right (by decide) (by omega)))
      rw [this]
      simp
    have e2 : (d ^^^ BitVec.ofNat 32 (y.toNat % 256)) &&& BitVec.ofNat 32 (2 ^ 8 - 1) = (d ^^^ y) &&& BitVec.ofNat 32 (2 ^ 8 - 1) := by
      apply BitVec.eq_of_getLsbD_eq
      intro i hi
      simp only [BitVec.getLsbD_and, BitVec.getLsbD_xor, BitVec.getLsbD_ofNat, Nat.testBit_two_pow_sub_one]
      rw [show 256 = 2 ^ 8 by rfl, Nat.testBit_mod_two_pow]
      by_cases h : i < 8
      · simp [h, hi, BitVec.getLsbD]
      · simp [h]
    rw [e1, e2, BitVec.ushiftRight_xor_distrib, BitVec.xor_assoc, BitVec.xor_assoc, BitVec.xor_comm (y >>> 8)]
  have s8 : ∀ (y : W) (k : Nat), (y >>> k).toNat = y.toNat / 2 ^ k := fun y k => by rw [BitVec.toNat_ushiftRight, Nat.shiftRight_eq_div_pow]
  have z : x >>> 8 >>> 8 >>> 8 >>> 8 = 0#32 := by
    apply BitVec.eq_of_toNat_eq
    rw [s8, s8, s8, s8]
    have := x.isLt
    simp only [BitVec.toNat_ofNat]
    omega
  unfold le4
  rw [run_cons, run_cons, run_cons, run_cons, run_nil, byte_ofNat, byte_ofNat, byte_ofNat, byte_ofNat]
  show _ = An (8 + (8 + (8 + 8))) (c ^^^ x)
  rw [An_add, An_add, An_add, one c x, one _ (x >>> 8), one _ (x >>> 8 >>> 8), one _ (x >>> 8 >>> 8 >>> 8), z, BitVec.xor_zero]
  rw [s8, s8, s8, s8, s8, s8]
  simp only [Nat.div_div_eq_div_mul]
def all : W := 0xFFFFFFFF#32
def residue : W := An 32 all
theorem tag_residue (l : List UInt8) (x : W) : run all (l ++ le4 x) = residue ↔ x = run all l ^^^ all := by
  rw [run_append, run_le4]
  constructor
  · intro h
    have e : x = run all l ^^^ (run all l ^^^ x) := by rw [← BitVec.xor_assoc, BitVec.xor_self, BitVec.zero_xor]
    rw [An_inj h] at e
    exact e
  · intro h
    rw [h, ← BitVec.xor_assoc, BitVec.xor_self, BitVec.zero_xor]
    rfl
end Go.Proofs.YtipenplplmdclaaDoor.CrcB
end
section
namespace Go.Proofs.YtipenplplmdclaaDoor.CrcB
def T : Nat → W → W → W
  | 0, _, _ => 0#32
  | n + 1, a, b => T n a b ^^^ (if a.getLsbD (31 - n) then An n b else 0#32)
open Go
def B (x : Int) : W := BitVec.ofInt 32 x
def I (b : W) : Int := (b.toNat : Int)
theorem I_range (b : W) : 0 ≤ I b ∧ I b < 4294967296 := by
  unfold I
  have := b.isLt
  omega
theorem B_I (b : W) : B (I b) = b := by
  unfold B I
  rw [BitVec.ofInt_natCast]
  simp
theorem I_inj {a b : W} (h : I a = I b) : a = b := by rw [← B_I a, h, B_I]
theorem I_eq {a b : W} : I a = I b ↔ a = b := ⟨I_inj, fun h => by rw [h]⟩
theorem wrapI (b : W) : IntKind.u32.wrap (b.toNat : Int) = I b := by
  rw [IntKind.wrap_u32]
  have := b.isLt
  unfold I
  omega
theorem xor_I (x y : Int) : Go.bits .xor .u32 x y = I (B x ^^^ B y) := wrapI _
theorem and_I (x y : Int) : Go.bits .and .u32 x y = I (B x &&& B y) := wrapI _
theorem xor_II (a b : W) : Go.bits .xor .u32 (I a) (I b) = I (a ^^^ b) := by rw [xor_I, B_I, B_I]
theorem I_half (c : W) : I c / (2 : Int) = I (c >>> 1) := by
  unfold I
  rw [BitVec.toNat_ushiftRight, Nat.shiftRight_eq_div_pow]
  omega
theorem I_16 (c : W) : I c / (16 : Int) = I (c >>> 4) := by
  unfold I
  rw [BitVec.toNat_ushiftRight, Nat.shiftRight_eq_div_pow]
  omega
theorem I_256 (c : W) : I c / (256 : Int) = I (c >>> 8) := by
  unfold I
  rw [BitVec.toNat_ushiftRight, Nat.shiftRight_eq_div_pow]
  omega
theorem I_all : (4294967295 : Int) = I all := by decide
theorem I_poly : (3988292384 : Int) = I poly := by decide
theorem half_I : ∀ i : Fin 16, Crc.halfL.getD i.val 0 = I (halfB i.val) := by decide
theorem nib_I (c : W) : Crc.nib (I c) = I (An 4 c) := by
  unfold Crc.nib
  rw [Crc.and15, I_16]
  have h := half_I ⟨c.toNat % 16, Nat.mod_lt _ (by decide)⟩
  simp only at h
  have e : (I c % 16).toNat = c.toNat % 16 := by unfold I; omega
  rw [e, h, xor_II, An4]
theorem step_I (c : W) (b : UInt8) : Crc.stepI (I c) (b.toNat : Int) = I (step c (byte b)) := by
  unfold Crc.stepI
  have e : ((b.toNat : Nat) : Int) = I (byte b) := by
    unfold I byte
    have := b.toNat_lt
    rw [BitVec.toNat_ofNat]
    omega
  rw [e, xor_II, nib_I, nib_I, ← An_add]
  rfl
theorem behind_I (c : W) (l : List UInt8) : Crc.behindI (I c) l = I (run c l) := by
  induction l generalizing c with
  | nil => rfl
  | cons b l ih =>
    show Crc.behindI (Crc.stepI (I c) (b.toNat : Int)) l = _
    rw [step_I, ih]
    rfl
theorem lsb_I (c : W) : (Go.bits .and .u32 (I c) 1 = 1) ↔ c.getLsbD 0 = true := by
  have h1 : (1 : Int) = I 1#32 := by decide
  rw [h1, and_I, B_I, B_I, I_eq]
  constructor
  · intro h
    have := congrArg (fun z => BitVec.getLsbD z 0) h
    simpa using this
  · intro h
    apply BitVec.eq_of_getLsbD_eq
    intro i hi
    rw [BitVec.getLsbD_and]
    cases i with
    | zero => simp [h]
    | succ i => simp
theorem A_I (c : W) : (if Go.bits .and .u32 (I c) 1 = 1 then Go.bits .xor .u32 (I c / 2) 3988292384 else I c / 2) = I (A c) := by
  unfold A
  by_cases h : c.getLsbD 0 = true
  · rw [if_pos ((lsb_I c).2 h), if_pos h, I_half, I_poly, xor_II]
  · rw [if_neg (fun z => h ((lsb_I c).1 z)), if_neg h, I_half, BitVec.xor_zero]
end Go.Proofs.YtipenplplmdclaaDoor.CrcB
end
section
namespace Go.Proofs.YtipenplplmdclaaDoor.CrcB
open Go Go.RowKit Go.Proofs.YtipenplplmdclaaDoor.Px Go.Proofs.YtipenplplmdclaaDoorW.PrintWords Go.Proofs.YtipenplplmdclaaDoor.Str
def sumL (l : List UInt8) : W := run all l ^^^ all
theorem behind_f (c : W) (s : ByteArray) (h : s.size ≤ 140737488355328) : crc_behind.f (I c) s = some (I (run c s.data.toList)) := by
  unfold crc_behind.f
  rw [if_pos h, behind_I]
theorem sum_f (s : ByteArray) (h : s.size ≤ 140737488355328) : crc_Sum.f s = some (I (sumL s.data.toList)) := by
  unfold crc_Sum.f
  rw [I_all, behind_f _ _ h]
  simp only [Option.bind_some]
  rw [xor_II, BitVec.xor_comm]
  have := I_range (run all s.data.toList ^^^ all)
  rw [wrap64_id (by omega) (by omega)]
  rfl
def tagL (l : List UInt8) : List UInt8 := l ++ le4 (sumL l)
theorem le_I (c : W) : (crc_Tag.le 4 (I c)).map (fun n => UInt8.ofNat n.toNat) = le4 c := by
  simp only [crc_Tag.le, List.range, List.range.loop, List.map_cons, List.map_nil, crc_Tag.sh, le4, I]
  have h := c.isLt
  have e : ∀ (x : Int) (n : Nat), x = ((n % 256 : Nat) : Int) → UInt8.ofNat x.toNat = UInt8.ofNat n := fun x n hx => by
    apply UInt8.toNat_inj.1
    rw [hx, UInt8.toNat_ofNat', UInt8.toNat_ofNat', Int.toNat_natCast]
    omega
  rw [e _ c.toNat (by omega), e _ (c.toNat / 256) (by omega), e _ (c.toNat / 65536) (by omega), e _ (c.toNat / 16777216) (by omega)]
theorem tag_f (s : ByteArray) (h : s.size ≤ 1073741824) : crc_Tag.f s = some (ofL (tagL s.data.toList)) := by
  unfold crc_Tag.f
  rw [if_pos h, sum_f _ (by omega)]
  simp only [Option.bind_some, Option.some.injEq]
  apply ext
  rw [nums_L, List.map_append, le_I, ofL_L]
  unfold BR.ints
  rw [map_u8]
  rfl
theorem tagL_length (l : List UInt8) : (tagL l).length = l.length + 4 := by simp [tagL, le4]
theorem le4_inj {x y : W} (h : le4 x = le4 y) : x = y := by
  have h1 := run_le4 0#32 x
  rw [h, run_le4, BitVec.zero_xor, BitVec.zero_xor] at h1
  exact (An_inj h1).symm
theorem le4_all : ∀ l : List UInt8, l.length = 4 → ∃ x : W, l = le4 x := by
  intro l hl
  match l, hl with
  | [a, b, c, d], _ =>
    have ha := a.toNat_lt
    have hb := b.toNat_lt
    have hc := c.toNat_lt
    have hd := d.toNat_lt
    refine ⟨BitVec.ofNat 32 (a.toNat + 256 * b.toNat + 65536 * c.toNat + 16777216 * d.toNat), ?_⟩
    unfold le4
    rw [BitVec.toNat_ofNat]
    have e : ∀ (u : UInt8) (n : Nat), n % 256 = u.toNat → u = UInt8.ofNat n := fun u n h => by
      apply UInt8.toNat_inj.1
      rw [UInt8.toNat_ofNat', ← h]
    rw [← e a _ (by omega), ← e b _ (by omega), ← e c _ (by omega), ← e d _ (by omega)]
theorem owns_iff (l : List UInt8) (h : 4 ≤ l.length) : tagL (l.take (l.length - 4)) = l ↔ run all l = residue := by
  obtain ⟨x, hx⟩ := le4_all (l.drop (l.length - 4)) (by simp; omega)
  have hl : l = l.take (l.length - 4) ++ le4 x := by rw [← hx, List.take_append_drop]
  generalize l.take (l.length - 4) = m at hl
  subst hl
  rw [tag_residue]
  unfold tagL sumL
  constructor
  · intro h
    exact (le4_inj (List.append_cancel_left h)).symm
  · intro h
    rw [h]
theorem open_f (s : ByteArray) (h : s.size ≤ 1073741824) :
    crc_Open.f s = some (if 4 ≤ s.size ∧ run all s.data.toList = residue then (s.extract 0 (s.size - 4), true) else (⟨#[]⟩, false)) := by
  unfold crc_Open.f
  by_cases h4 : 4 ≤ s.size
  · rw [if_neg (by omega), wrap64_id (by omega) (by omega), if_pos (by omega), if_pos (by omega)]
    have e : ((s.size : Int) - 4).toNat = s.size - 4 := by omega
    rw [e, tag_f _ (by rw [size_L, pre_L, List.length_take]; omega)]
    simp only [Option.bind_some]
    have hk := owns_iff s.data.toList (by simpa using h4)
    rw [toList_L, toList_L, ofL_L, pre_L, show s.size = s.data.toList.length from size_L s]
    by_cases hr : run all s.data.toList = residue
    · rw [if_pos (hk.2 hr), if_pos ⟨by simpa using h4, hr⟩]
    · rw [if_neg (fun z => hr (hk.1 z)), if_neg (fun z => hr z.2)]
  · rw [if_pos (by omega), if_neg (fun z => h4 z.1)]
theorem run_tagL (l : List UInt8) : run all (tagL l) = residue := by
  unfold tagL
  rw [tag_residue]
  rfl
end Go.Proofs.YtipenplplmdclaaDoor.CrcB
end
section
namespace Go.Proofs.YtipenplplmdclaaDoor.CrcB
open Go Go.RowKit Go.Proofs.YtipenplplmdclaaDoor.Px Go.Proofs.YtipenplplmdclaaDoorW.PrintWords Go.Proofs.YtipenplplmdclaaDoor.Str
theorem ref_step_l0 (c : W) (d : Nat) : ∀ (x : W) (i : Int), i = 8 - (d : Int) → d ≤ 8 → Ev (fun k => gongref02_step.l0 k (I c) (I x) i) (I ((c >>> 8) ^^^ An d x)) := by
  induction d with
  | zero =>
    intro x i hi _
    refine Ev.step (f := fun _ => some (I ((c >>> 8) ^^^ x))) (fun k => ?_) (Ev.now _)
    simp only [gongref02_step.l0]
    rw [if_neg (by omega), I_256, xor_II]
  | succ d ih =>
    intro x i hi hd
    refine Ev.step (f := fun k => gongref02_step.l0 k (I c) (I (A x)) (i + 1)) (fun k => ?_) (ih (A x) (i + 1) (by omega) (by omega))
    simp only [gongref02_step.l0]
    rw [if_pos (by omega), wrap64_id (by omega) (by omega), ← A_I]
    split <;> rfl
theorem and255 (c : W) : (c &&& 255#32) = c &&& BitVec.ofNat 32 (2 ^ 8 - 1) := rfl
theorem ref_step_ev (c : W) (b : Int) (u : UInt8) (hb : b = (u.toNat : Int)) : Ev (fun k => gongref02_step.f k (I c) b) (I (step c (byte u))) := by
  subst hb
  have hu := u.toNat_lt
  have e : (u.toNat : Int) % 4294967296 = I (byte u) := by
    unfold I byte
    rw [BitVec.toNat_ofNat]
    omega
  have e2 : Go.bits .and .u32 (Go.bits .xor .u32 (I c) (I (byte u))) 255 = I ((c ^^^ byte u) &&& 255#32) := by
    rw [xor_II, show (255 : Int) = I 255#32 by decide, and_I, B_I, B_I]
  refine Ev.congr (f := fun k => gongref02_step.l0 k (I c) (I ((c ^^^ byte u) &&& 255#32)) 0) (fun k => by unfold gongref02_step.f; rw [e, e2]) ?_
  have h := ref_step_l0 c 8 ((c ^^^ byte u) &&& 255#32) 0 (by omega) (by omega)
  have e3 : (c >>> 8) ^^^ An 8 ((c ^^^ byte u) &&& 255#32) = step c (byte u) := by
    unfold step
    rw [and255, An_split 8 (c ^^^ byte u), BitVec.ushiftRight_xor_distrib]
    have : byte u >>> 8 = 0#32 := by
      apply BitVec.eq_of_toNat_eq
      rw [BitVec.toNat_ushiftRight, Nat.shiftRight_eq_div_pow]
      unfold byte
      simp only [BitVec.toNat_ofNat]
      omega
    rw [this, BitVec.xor_zero]
  rw [e3] at h
  exact h
theorem run_drop (c : W) (l : List UInt8) (i : Nat) (h : i < l.length) : run c (l.drop i) = run (step c (byte (l.getD i 0))) (l.drop (i + 1)) := by
  rw [List.drop_eq_getElem_cons h, run_cons]
  simp [List.getD, h]
theorem ref_Sum_l0 (s : ByteArray) (hs : s.size ≤ 1073741824) (d : Nat) : ∀ (c : W) (i : Nat), s.size = i + d → Ev (fun k => gongref02_Sum.l0 k s (I c) (i : Int)) (I (run c (s.data.toList.drop i) ^^^ all)) := by
  induction d with
  | zero =>
    intro c i hi
    refine Ev.step (f := fun _ => some (I (c ^^^ all))) (fun k => ?_) ?_
    · simp only [gongref02_Sum.l0]
      rw [if_neg (by omega), I_all, xor_II]
      have := I_range (c ^^^ all)
      rw [wrap64_id (by omega) (by omega)]
    · rw [List.drop_of_length_le (by simp; omega), run_nil]
      exact Ev.now _
  | succ d ih =>
    intro c i hi
    have hlt : i < s.size := by omega
    have hc : (i : Int) < (s.size : Int) := by omega
    refine Ev.step (f := fun k => (gongref02_step.f k (I c) (bt s (i : Int))).bind fun t => gongref02_Sum.l0 k s t (wrap64 ((i : Int) + 1))) (fun k => ?_) ?_
    · simp only [gongref02_Sum.l0]
      rw [if_pos hc, if_pos (by omega)]
    · refine Ev.bind (ref_step_ev c _ (s.data.toList.getD i 0) (bt_L hlt)) ?_
      rw [run_drop c _ i (by simpa using hlt), wrap64_id (by omega) (by omega)]
      exact ih _ (i + 1) (by omega)
theorem ref_Sum_ev (s : ByteArray) (hs : s.size ≤ 1073741824) : Ev (fun k => gongref02_Sum.f k s) (I (sumL s.data.toList)) := by
  refine Ev.congr (f := fun k => gongref02_Sum.l0 k s (I all) ((0 : Nat) : Int)) (fun k => by unfold gongref02_Sum.f; rw [I_all]; rfl) ?_
  have := ref_Sum_l0 s hs s.size all 0 (by omega)
  simpa [sumL] using this
def padL : Nat → Nat → List UInt8
  | 0, _ => []
  | w + 1, n => padL w (n / 256) ++ [UInt8.ofNat n]
theorem padL_length (w n : Nat) : (padL w n).length = w := by
  induction w generalizing n with
  | zero => rfl
  | succ w ih => simp [padL, ih]
theorem ref_Padded_l0 (w : Int) (d : Nat) : ∀ (n : Nat) (s : ByteArray) (i : Int), w = i + (d : Int) → w ≤ 1000 → 0 ≤ i → n < 9223372036854775808 → s.size ≤ 2000 - d →
    Ev (fun k => gongref01_Padded.l0 k (n : Int) w s i) (ofL (padL d n ++ s.data.toList)) := by
  induction d with
  | zero =>
    intro n s i hi hw h0 hn hs
    refine Ev.step (f := fun _ => some s) (fun k => ?_) ?_
    · simp only [gongref01_Padded.l0]
      rw [if_neg (by omega)]
    · simp only [padL, List.nil_append]
      rw [ofL_of]
      exact Ev.now _
  | succ d ih =>
    intro n s i hi hw h0 hn hs
    have e1 : Int.tmod (n : Int) 256 = (n % 256 : Nat) := by rw [Int.tmod_eq_emod_of_nonneg (by omega)]; omega
    have e2 : Int.tdiv (n : Int) 256 = (n / 256 : Nat) := by rw [Int.tdiv_eq_ediv_of_nonneg (by omega)]; omega
    have e3 : (strOfNums [Int.tmod (n : Int) 256 % 256]) = ofL [UInt8.ofNat n] := by
      apply ext
      rw [nums_L, ofL_L, e1]
      simp only [List.map_cons, List.map_nil, List.cons.injEq, and_true]
      apply UInt8.toNat_inj.1
      rw [UInt8.toNat_ofNat', UInt8.toNat_ofNat']
      omega
    have hsz : (ofL [UInt8.ofNat n]).size + s.size ≤ 9223372036854775807 := by simp; omega
    have hsum : padL (d + 1) n ++ s.data.toList = padL d (n / 256) ++ (ofL [UInt8.ofNat n] ++ s).data.toList := by simp [padL]
    rw [hsum]
    refine Ev.step (f := fun k => gongref01_Padded.l0 k ((n / 256 : Nat) : Int) w (ofL [UInt8.ofNat n] ++ s) (i + 1)) (fun k => ?_) (ih (n / 256) _ (i + 1) (by omega) hw (by omega) (by omega) ?_)
    · simp only [gongref01_Padded.l0]
      rw [if_pos (by omega)]
      simp only [Option.bind_some]
      rw [e3, if_pos hsz, e2, wrap64_id (by omega) (by omega), wrap64_id (by omega) (by omega)]
    · have : (ofL [UInt8.ofNat n] ++ s).size = 1 + s.size := by rw [size_L, app_L]; simp; omega
      omega
theorem ref_Padded_ev (n : Nat) (w : Nat) (hn : n < 9223372036854775808) (hw : w ≤ 1000) : Ev (fun k => gongref01_Padded.f k (n : Int) (w : Int)) (ofL (padL w n)) := by
  have := ref_Padded_l0 (w : Int) w n ⟨#[]⟩ 0 (by omega) (by omega) (by omega) hn (by simp [size_L])
  simp only [List.append_nil] at this
  exact this
theorem ref_Tag_ev (s : ByteArray) (hs : s.size ≤ 1073741824) : Ev (fun k => gongref02_Tag.f k s) (ofL (tagL s.data.toList)) := by
  unfold gongref02_Tag.f
  refine Ev.bind (ref_Sum_ev s hs) ?_
  have hx := (sumL s.data.toList).isLt
  have hp := ref_Padded_ev (sumL s.data.toList).toNat 4 (by omega) (by omega)
  refine Ev.bind (a := ofL (padL 4 (sumL s.data.toList).toNat)) hp ?_
  have hsz : (ofL (padL 4 (sumL s.data.toList).toNat)).size = 4 := by rw [ofL_size, padL_length]
  have hb : ∀ i : Nat, i < 4 → bt (ofL (padL 4 (sumL s.data.toList).toNat)) (i : Int) = (((padL 4 (sumL s.data.toList).toNat).getD i 0).toNat : Int) := fun i hi => bt_L (by omega)
  refine Ev.congr (f := fun _ => some (ofL (tagL s.data.toList))) (fun k => ?_) (Ev.now _)
  rw [hsz, if_pos (by decide), if_pos (by decide), if_pos (by decide), if_pos (by decide)]
  simp only [Option.bind_some]
  rw [if_pos (by rw [nums_size]; simp; omega)]
  congr 1
  apply ext
  have h3 : bt (ofL (padL 4 (sumL s.data.toList).toNat)) 3 = _ := hb 3 (by omega)
  have h2 : bt (ofL (padL 4 (sumL s.data.toList).toNat)) 2 = _ := hb 2 (by omega)
  have h1 : bt (ofL (padL 4 (sumL s.data.toList).toNat)) 1 = _ := hb 1 (by omega)
  have h0 : bt (ofL (padL 4 (sumL s.data.toList).toNat)) 0 = _ := hb 0 (by omega)
  rw [app_L, nums_L, ofL_L, h3, h2, h1, h0]
  unfold tagL
  congr 1
  simp only [List.map_cons, List.map_nil, u8_nat, padL, List.nil_append, List.cons_append, le4, Nat.div_div_eq_div_mul]
  rfl
end Go.Proofs.YtipenplplmdclaaDoor.CrcB
end
section
namespace Go.Proofs.YtipenplplmdclaaDoor.Tkt
open Go Go.RowKit Go.Proofs.YtipenplplmdclaaDoor.Px Go.Proofs.YtipenplplmdclaaDoorW.PrintWords Go.Proofs.YtipenplplmdclaaDoor.Str Go.Proofs.YtipenplplmdclaaDoor.OctF Go.Proofs.YtipenplplmdclaaDoor.CrcB
set_option linter.unusedSimpArgs false
set_option linter.unusedVariables false
theorem ofL_app (x y : List UInt8) : ofL x ++ ofL y = ofL (x ++ y) := ext (by rw [app_L, ofL_L, ofL_L, ofL_L])
def gi (n : Int) : List UInt8 := grp n.toNat
theorem gi_len {n : Int} (h0 : 0 ≤ n) (h1 : n < 9223372036854775808) : (gi n).length ≤ 9 := (grp_length n.toNat (by omega)).2
theorem groups_int {n : Int} (h0 : 0 ≤ n) (h1 : n < 9223372036854775808) : octet_Groups.f n = some (ofL (gi n), 0) := by
  have := groups_ok n.toNat (by omega)
  rwa [Int.toNat_of_nonneg h0] at this
theorem grouped_int {n : Int} (h0 : 0 ≤ n) (h1 : n < 9223372036854775808) : Ev (fun k => gongref01_Grouped.f k n) (ofL (gi n)) := by
  have := ref_Grouped_ev n.toNat (by omega)
  rwa [Int.toNat_of_nonneg h0] at this
def txt (s : ByteArray) : List UInt8 := grp s.size ++ s.data.toList
theorem txt_len {s : ByteArray} (h : s.size ≤ 100000) : (txt s).length ≤ 100009 := by
  have := (grp_length s.size (by omega)).2
  have e : s.data.toList.length = s.size := by simp
  rw [txt, List.length_append, e]
  omega
theorem tgroups_l0 (l : List Int) (hl : l.length ≤ 1000000) (hx : ∀ x ∈ l, 0 ≤ x ∧ x < 9223372036854775808) (d : Nat) : ∀ (i : Nat) (acc : List UInt8), i + d = l.length → acc.length + 9 * d ≤ 100000000 → Ev (fun k => ticket_groups.l0 k (ofL acc) l (l.length : Int) (i : Int)) (ofL (acc ++ (l.drop i).flatMap gi)) := by
  induction d with
  | zero =>
    intro i acc hi _
    refine ev_succ 0 fun k _ => ?_
    simp only [ticket_groups.l0]
    rw [if_neg (by omega), List.drop_eq_nil_of_le (by omega)]
    simp
  | succ d ih =>
    intro i acc hi ha
    have hm : l.getD i 0 ∈ l := by rw [List.getD_eq_getElem?_getD, List.getElem?_eq_getElem (by omega), Option.getD_some]; exact List.getElem_mem _
    obtain ⟨h0, h1⟩ := hx _ hm
    have hg := gi_len h0 h1
    obtain ⟨K, hK⟩ := ih (i + 1) (acc ++ gi (l.getD i 0)) (by omega) (by rw [List.length_append]; omega)
    refine ev_succ K fun k hk => ?_
    simp only [ticket_groups.l0]
    have hrd : rd l (i : Int) = l.getD i 0 := by simp [rd]
    rw [if_pos (by omega), if_pos (by omega), if_pos (by omega), hrd, groups_int h0 h1, Option.bind_some]
    simp only [ofL_size]
    rw [if_pos (by omega), ofL_app, wrap64_id (by omega) (by omega)]
    have hd : l.drop i = l.getD i 0 :: l.drop (i + 1) := by rw [List.drop_eq_getElem_cons (by omega), List.getD_eq_getElem?_getD, List.getElem?_eq_getElem (by omega), Option.getD_some]
    rw [hd, List.flatMap_cons, ← List.append_assoc]
    exact hK k hk
theorem tgroups_ev (l : List Int) (hl : l.length ≤ 1000000) (hx : ∀ x ∈ l, 0 ≤ x ∧ x < 9223372036854775808) : Ev (fun k => ticket_groups.f k l) (ofL (l.flatMap gi)) := by
  have := tgroups_l0 l hl hx l.length 0 [] (by omega) (by simp; omega)
  simp only [List.nil_append, List.drop_zero] at this
  exact this
theorem otext {s : ByteArray} (h : s.size ≤ 100000) : octet_Text.f s = some (ofL (txt s)) := text_ok s (by omega)
theorem rtext {s : ByteArray} (h : s.size ≤ 100000) : Ev (fun k => gongref01_Text.f k s) (ofL (txt s)) := ref_Text_ev s (by omega)
def evL (a b c : ByteArray) (n : Int) (d : ByteArray) : List UInt8 := txt a ++ (txt b ++ (txt c ++ (txt d ++ gi n)))
theorem evB_n {a b c : ByteArray} {n : Int} {d : ByteArray} (h : evB a b c n d = true) : 0 ≤ n ∧ n ≤ 5 := by
  simp only [evB, Bool.and_eq_true, decide_eq_true_eq] at h
  exact h.2.2.2.2.2.2
theorem evL_len {a b c : ByteArray} {n : Int} {d : ByteArray} (ha : a.size ≤ 100000) (hb : b.size ≤ 100000) (hc : c.size ≤ 100000) (hd : d.size ≤ 100000) (h0 : 0 ≤ n) (h1 : n < 9223372036854775808) : (evL a b c n d).length ≤ 400045 := by
  have l1 := txt_len ha
  have l2 := txt_len hb
  have l3 := txt_len hc
  have l4 := txt_len hd
  have l5 := gi_len h0 h1
  simp only [evL, List.length_append]
  omega
theorem nenc_ev (a b c : ByteArray) (n : Int) (d : ByteArray) (ha : a.size ≤ 100000) (hb : b.size ≤ 100000) (hc : c.size ≤ 100000) (hd : d.size ≤ 100000) :
    Ev (fun k => norm_Encode.f k a b c n d) (if evB a b c n d = true then (ofL (evL a b c n d), 0) else (⟨#[]⟩, 180)) := by
  obtain ⟨K, h⟩ := ncheck_ev a b c n d (by omega) (by omega) (by omega) (by omega)
  refine ⟨K, fun k hk => ?_⟩
  simp only [norm_Encode.f, h k hk, Option.bind_some]
  rcases Bool.eq_false_or_eq_true (evB a b c n d) with p | p
  · have hn := evB_n p
    have l1 := txt_len ha
    have l2 := txt_len hb
    have l3 := txt_len hc
    have l4 := txt_len hd
    have l5 := gi_len hn.1 (by omega)
    simp only [p, if_true, groups_int hn.1 (by omega), otext ha, otext hb, otext hc, otext hd, Option.bind_some, ofL_app, ofL_size, List.length_append]
    rw [if_pos (by omega), if_pos (by omega), if_pos (by omega), if_pos (by omega)]
    simp only [evL, List.append_assoc]
  · simp [p]
theorem rput18_ev (a b c : ByteArray) (n : Int) (d : ByteArray) (ha : a.size ≤ 100000) (hb : b.size ≤ 100000) (hc : c.size ≤ 100000) (hd : d.size ≤ 100000) (h0 : 0 ≤ n) (h1 : n ≤ 5) :
    Ev (fun k => gongref18_Put.f k a b c n d) (ofL (evL a b c n d)) := by
  obtain ⟨K1, e1⟩ := rtext ha
  obtain ⟨K2, e2⟩ := rtext hb
  obtain ⟨K3, e3⟩ := rtext hc
  obtain ⟨K4, e4⟩ := rtext hd
  obtain ⟨K5, e5⟩ := grouped_int h0 (show n < 9223372036854775808 by omega)
  refine ⟨K1 + K2 + K3 + K4 + K5, fun k hk => ?_⟩
  have l1 := txt_len ha
  have l2 := txt_len hb
  have l3 := txt_len hc
  have l4 := txt_len hd
  have l5 := gi_len h0 (by omega)
  simp only [gongref18_Put.f, e1 k (by omega), e2 k (by omega), e3 k (by omega), e4 k (by omega), e5 k (by omega), Option.bind_some, ofL_app, ofL_size, List.length_append]
  rw [if_pos (by omega), if_pos (by omega), if_pos (by omega), if_pos (by omega)]
  simp only [evL, List.append_assoc]
def akL (ak : Bool) : List UInt8 := if ak = true then [1] else [0]
def rowL (id : Int) (a b c : ByteArray) (n : Int) (d : ByteArray) (ta f l : Int) (ak : Bool) (y : ByteArray) : List UInt8 := gi id ++ (gi ta ++ (gi f ++ (gi l ++ (akL ak ++ (txt y ++ evL a b c n d)))))
def payL (w id : Int) (a b c : ByteArray) (n : Int) (d : ByteArray) (ta f l : Int) (ak : Bool) (y : ByteArray) : List UInt8 := UInt8.ofNat w.toNat :: rowL id a b c n d ta f l ak y
theorem num_w {w : Int} (h0 : 0 ≤ w) (h1 : w < 256) : strOfNums ([w % 256] : List Int) = ofL [UInt8.ofNat w.toNat] := by
  apply ext
  rw [nums_L, ofL_L, Int.emod_eq_of_lt h0 h1]
  rfl
theorem num_0 : strOfNums ([0] : List Int) = ofL [0] := ext (by rw [nums_L, ofL_L]; rfl)
theorem num_1 : strOfNums ([1] : List Int) = ofL [1] := ext (by rw [nums_L, ofL_L]; rfl)
theorem timesB_iff {f l : Int} : timesB f l = true ↔ 0 ≤ f ∧ f ≤ 2305843009213693952 ∧ 0 ≤ l ∧ l ≤ 2305843009213693952 ∧ f ≤ l := by unfold timesB; exact decide_eq_true_iff
theorem rowB_iff {id : Int} {a b c : ByteArray} {n : Int} {d : ByteArray} {ta f l : Int} {ak : Bool} {y : ByteArray} : rowB id a b c n d ta f l ak y = true ↔
    1 ≤ id ∧ 1 ≤ n ∧ 1 ≤ ta ∧ ta ≤ 1099511627776 ∧ timesB f l = true ∧ (if ak = true then whoB y else decide (y.toList = [])) = true ∧ evB a b c n d = true := by
  unfold rowB
  simp only [Bool.and_eq_true, Bool.not_eq_true', decide_eq_false_iff_not, Int.not_lt, gt_iff_lt]
theorem tkB_iff {q w id : Int} {a b c : ByteArray} {n : Int} {d : ByteArray} {ta f l : Int} {ak : Bool} {y : ByteArray} : tkB q w id a b c n d ta f l ak y = true ↔
    1 ≤ q ∧ q ≤ 1152921504606846976 ∧ 1 ≤ w ∧ w ≤ 5 ∧ rowB id a b c n d ta f l ak y = true := by
  unfold tkB
  simp only [Bool.and_eq_true, Bool.not_eq_true', decide_eq_false_iff_not, Int.not_lt, gt_iff_lt]
theorem akL_len (ak : Bool) : (akL ak).length = 1 := by cases ak <;> rfl
theorem rowL_len {id : Int} {a b c : ByteArray} {n : Int} {d : ByteArray} {ta f l : Int} {ak : Bool} {y : ByteArray} (ha : a.size ≤ 100000) (hb : b.size ≤ 100000) (hc : c.size ≤ 100000) (hd : d.size ≤ 100000) (hy : y.size ≤ 100000)
    (hid : id < 9223372036854775808) (h : rowB id a b c n d ta f l ak y = true) : (rowL id a b c n d ta f l ak y).length ≤ 600000 := by
  obtain ⟨r1, r2, r3, r4, r5, r6, r7⟩ := rowB_iff.1 h
  obtain ⟨t1, t2, t3, t4, t5⟩ := timesB_iff.1 r5
  have hn := evB_n r7
  have l1 := evL_len ha hb hc hd hn.1 (show n < 9223372036854775808 by omega)
  have l2 := txt_len hy
  have l3 := gi_len (show 0 ≤ id by omega) hid
  have l4 := gi_len (show 0 ≤ ta by omega) (by omega)
  have l5 := gi_len t1 (by omega)
  have l6 := gi_len t3 (by omega)
  simp only [rowL, List.length_append, akL_len]
  omega
theorem flat4 (a b c d : Int) : [a, b, c, d].flatMap gi = gi a ++ (gi b ++ (gi c ++ gi d)) := by simp
theorem flat1 (a : Int) : [a].flatMap gi = gi a := by simp
theorem tpay_ev (q w id : Int) (a b c : ByteArray) (n : Int) (d : ByteArray) (ta f l : Int) (ak : Bool) (y : ByteArray) (ha : a.size ≤ 100000) (hb : b.size ≤ 100000) (hc : c.size ≤ 100000) (hd : d.size ≤ 100000) (hy : y.size ≤ 100000) (hid : id < 9223372036854775808) :
    Ev (fun k => ticket_Payload.f k q w id a b c n d ta f l ak y) (if tkB q w id a b c n d ta f l ak y = true then (ofL (payL w id a b c n d ta f l ak y), 0) else (⟨#[]⟩, 230)) := by
  obtain ⟨K1, h1⟩ := tcheck_ev q w id a b c n d ta f l ak y (by omega) (by omega) (by omega) (by omega) (by omega)
  rcases Bool.eq_false_or_eq_true (tkB q w id a b c n d ta f l ak y) with p | p
  · obtain ⟨q1, q2, q3, q4, hr⟩ := tkB_iff.1 p
    obtain ⟨r1, r2, r3, r4, r5, r6, r7⟩ := rowB_iff.1 hr
    obtain ⟨t1, t2, t3, t4, t5⟩ := timesB_iff.1 r5
    have hn := evB_n r7
    obtain ⟨K2, h2⟩ := nenc_ev a b c n d ha hb hc hd
    obtain ⟨K3, h3⟩ := tgroups_ev [id, ta, f, l] (by simp) (by intro x hx; simp only [List.mem_cons, List.not_mem_nil, or_false] at hx; rcases hx with rfl | rfl | rfl | rfl <;> omega)
    refine ⟨K1 + K2 + K3, fun k hk => ?_⟩
    have l1 := evL_len ha hb hc hd hn.1 (show n < 9223372036854775808 by omega)
    have l2 := txt_len hy
    have l3 := gi_len (show 0 ≤ id by omega) hid
    have l4 := gi_len (show 0 ≤ ta by omega) (show ta < 9223372036854775808 by omega)
    have l5 := gi_len t1 (show f < 9223372036854775808 by omega)
    have l6 := gi_len t3 (show l < 9223372036854775808 by omega)
    cases ak
    · simp only [ticket_Payload.f, h1 k (by omega), h2 k (by omega), h3 k (by omega), flat4, otext hy, p, r7, Option.bind_some, if_true, if_false, num_w (show 0 ≤ w by omega) (show w < 256 by omega), num_0, Bool.false_eq_true, ofL_app, ofL_size, List.length_append, List.length_cons, List.length_nil]
      rw [if_pos (by omega), if_pos (by omega), if_pos (by omega), if_pos (by omega)]
      simp only [payL, rowL, akL, Bool.false_eq_true, if_false, List.append_assoc, List.cons_append, List.nil_append]
    · simp only [ticket_Payload.f, h1 k (by omega), h2 k (by omega), h3 k (by omega), flat4, otext hy, p, r7, Option.bind_some, if_true, if_false, num_w (show 0 ≤ w by omega) (show w < 256 by omega), num_1, ofL_app, ofL_size, List.length_append, List.length_cons, List.length_nil]
      rw [if_pos (by omega), if_pos (by omega), if_pos (by omega), if_pos (by omega)]
      simp only [payL, rowL, akL, if_true, List.append_assoc, List.cons_append, List.nil_append]
  · refine ⟨K1, fun k hk => ?_⟩
    simp [ticket_Payload.f, h1 k hk, p]
theorem rrow_ev (id : Int) (a b c : ByteArray) (n : Int) (d : ByteArray) (ta f l : Int) (ak : Bool) (y : ByteArray) (ha : a.size ≤ 100000) (hb : b.size ≤ 100000) (hc : c.size ≤ 100000) (hd : d.size ≤ 100000) (hy : y.size ≤ 100000) (hid : id < 9223372036854775808) (hr : rowB id a b c n d ta f l ak y = true) :
    Ev (fun k => gongref23_PutRow.f k id a b c n d ta f l ak y) (ofL (rowL id a b c n d ta f l ak y)) := by
  obtain ⟨r1, r2, r3, r4, r5, r6, r7⟩ := rowB_iff.1 hr
  obtain ⟨t1, t2, t3, t4, t5⟩ := timesB_iff.1 r5
  have hn := evB_n r7
  obtain ⟨K1, h1⟩ := grouped_int (show 0 ≤ id by omega) hid
  obtain ⟨K2, h2⟩ := grouped_int (show 0 ≤ ta by omega) (show ta < 9223372036854775808 by omega)
  obtain ⟨K3, h3⟩ := grouped_int t1 (show f < 9223372036854775808 by omega)
  obtain ⟨K4, h4⟩ := grouped_int t3 (show l < 9223372036854775808 by omega)
  obtain ⟨K5, h5⟩ := rtext hy
  obtain ⟨K6, h6⟩ := rput18_ev a b c n d ha hb hc hd hn.1 hn.2
  refine ev_succ (K1 + K2 + K3 + K4 + K5 + K6) fun k hk => ?_
  have l1 := evL_len ha hb hc hd hn.1 (show n < 9223372036854775808 by omega)
  have l2 := txt_len hy
  have l3 := gi_len (show 0 ≤ id by omega) hid
  have l4 := gi_len (show 0 ≤ ta by omega) (show ta < 9223372036854775808 by omega)
  have l5 := gi_len t1 (show f < 9223372036854775808 by omega)
  have l6 := gi_len t3 (show l < 9223372036854775808 by omega)
  have e0 : (⟨#[0]⟩ : ByteArray) = ofL [0] := rfl
  have e1 : (⟨#[1]⟩ : ByteArray) = ofL [1] := rfl
  cases ak
  · simp only [gongref23_PutRow.f, gongref23_PutRow.j0, h1 k (by omega), h2 k (by omega), h3 k (by omega), h4 k (by omega), h5 k (by omega), h6 k (by omega), Option.bind_some, Bool.false_eq_true, if_false, e0, ofL_app, ofL_size, List.length_append, List.length_cons, List.length_nil]
    rw [if_pos (by omega), if_pos (by omega), if_pos (by omega), if_pos (by omega), if_pos (by omega), if_pos (by omega)]
    simp only [rowL, akL, Bool.false_eq_true, if_false, List.append_assoc, List.cons_append, List.nil_append]
  · simp only [gongref23_PutRow.f, gongref23_PutRow.j0, h1 k (by omega), h2 k (by omega), h3 k (by omega), h4 k (by omega), h5 k (by omega), h6 k (by omega), Option.bind_some, if_true, e1, ofL_app, ofL_size, List.length_append, List.length_cons, List.length_nil]
    rw [if_pos (by omega), if_pos (by omega), if_pos (by omega), if_pos (by omega), if_pos (by omega), if_pos (by omega)]
    simp only [rowL, akL, if_true, List.append_assoc, List.cons_append, List.nil_append]
theorem rput_ev (q w id : Int) (a b c : ByteArray) (n : Int) (d : ByteArray) (ta f l : Int) (ak : Bool) (y : ByteArray) (ha : a.size ≤ 100000) (hb : b.size ≤ 100000) (hc : c.size ≤ 100000) (hd : d.size ≤ 100000) (hy : y.size ≤ 100000) (hid : id < 9223372036854775808)
    (h0 : 0 ≤ w) (hw : w < 256) (hr : rowB id a b c n d ta f l ak y = true) : Ev (fun k => gongref23_Put.f k q w id a b c n d ta f l ak y) (ofL (payL w id a b c n d ta f l ak y)) := by
  obtain ⟨K1, h1⟩ := rrow_ev id a b c n d ta f l ak y ha hb hc hd hy hid hr
  refine ⟨K1, fun k hk => ?_⟩
  have l1 := rowL_len ha hb hc hd hy hid hr
  simp only [gongref23_Put.f, h1 k hk, Option.bind_some, num_w h0 hw, ofL_app, ofL_size, List.length_cons, List.length_nil]
  rw [if_pos (by omega)]
  rfl
theorem rpay_ev (q w id : Int) (a b c : ByteArray) (n : Int) (d : ByteArray) (ta f l : Int) (ak : Bool) (y : ByteArray) (ha : a.size ≤ 100000) (hb : b.size ≤ 100000) (hc : c.size ≤ 100000) (hd : d.size ≤ 100000) (hy : y.size ≤ 100000) (hid : id < 9223372036854775808) :
    Ev (fun k => gongref23_Payload.f k q w id a b c n d ta f l ak y) (if tkB q w id a b c n d ta f l ak y = true then (ofL (payL w id a b c n d ta f l ak y), 0) else (⟨#[]⟩, 230)) := by
  obtain ⟨K1, h1⟩ := rcheck_ev q w id a b c n d ta f l ak y (by omega) (by omega) (by omega) (by omega) (by omega)
  rcases Bool.eq_false_or_eq_true (tkB q w id a b c n d ta f l ak y) with p | p
  · obtain ⟨q1, q2, q3, q4, hr⟩ := tkB_iff.1 p
    obtain ⟨K2, h2⟩ := rput_ev q w id a b c n d ta f l ak y ha hb hc hd hy hid (by omega) (by omega) hr
    refine ⟨K1 + K2, fun k hk => ?_⟩
    simp [gongref23_Payload.f, h1 k (by omega), h2 k (by omega), p]
  · refine ⟨K1, fun k hk => ?_⟩
    simp [gongref23_Payload.f, h1 k hk, p]
def msgL (q w id : Int) (a b c : ByteArray) (n : Int) (d : ByteArray) (ta f l : Int) (ak : Bool) (y : ByteArray) : List UInt8 := 71 :: (gi q ++ payL w id a b c n d ta f l ak y)
theorem payL_len {w id : Int} {a b c : ByteArray} {n : Int} {d : ByteArray} {ta f l : Int} {ak : Bool} {y : ByteArray} (ha : a.size ≤ 100000) (hb : b.size ≤ 100000) (hc : c.size ≤ 100000) (hd : d.size ≤ 100000) (hy : y.size ≤ 100000)
    (hid : id < 9223372036854775808) (h : rowB id a b c n d ta f l ak y = true) : (payL w id a b c n d ta f l ak y).length ≤ 600001 := by
  have := rowL_len ha hb hc hd hy hid h
  simp only [payL, List.length_cons]
  omega
theorem g71 : (⟨#[71]⟩ : ByteArray) = ofL [71] := rfl
theorem tenc_ev (q w id : Int) (a b c : ByteArray) (n : Int) (d : ByteArray) (ta f l : Int) (ak : Bool) (y : ByteArray) (ha : a.size ≤ 100000) (hb : b.size ≤ 100000) (hc : c.size ≤ 100000) (hd : d.size ≤ 100000) (hy : y.size ≤ 100000) (hid : id < 9223372036854775808) :
    Ev (fun k => ticket_Encode.f k q w id a b c n d ta f l ak y) (if tkB q w id a b c n d ta f l ak y = true then (ofL (tagL (msgL q w id a b c n d ta f l ak y)), 0) else (⟨#[]⟩, 230)) := by
  obtain ⟨K1, h1⟩ := tpay_ev q w id a b c n d ta f l ak y ha hb hc hd hy hid
  rcases Bool.eq_false_or_eq_true (tkB q w id a b c n d ta f l ak y) with p | p
  · obtain ⟨q1, q2, q3, q4, hr⟩ := tkB_iff.1 p
    obtain ⟨K2, h2⟩ := tgroups_ev [q] (by simp) (by intro x hx; simp only [List.mem_cons, List.not_mem_nil, or_false] at hx; subst hx; omega)
    refine ⟨K1 + K2, fun k hk => ?_⟩
    have l1 := payL_len (w := w) ha hb hc hd hy hid hr
    have l2 := gi_len (show 0 ≤ q by omega) (by omega)
    simp only [ticket_Encode.f, h1 k (by omega), h2 k (by omega), flat1, p, Option.bind_some, if_true, g71, ofL_app, ofL_size, List.length_append, List.length_cons, List.length_nil]
    rw [if_pos (by omega), if_pos (by omega), tag_f _ (by rw [ofL_size]; simp only [List.length_append, List.length_cons, List.length_nil]; omega), Option.bind_some, ofL_L]
    simp only [msgL, List.append_assoc, List.cons_append, List.nil_append]
  · refine ⟨K1, fun k hk => ?_⟩
    simp [ticket_Encode.f, h1 k hk, p]
theorem renc_ev (q w id : Int) (a b c : ByteArray) (n : Int) (d : ByteArray) (ta f l : Int) (ak : Bool) (y : ByteArray) (ha : a.size ≤ 100000) (hb : b.size ≤ 100000) (hc : c.size ≤ 100000) (hd : d.size ≤ 100000) (hy : y.size ≤ 100000) (hid : id < 9223372036854775808) :
    Ev (fun k => gongref23_Encode.f k q w id a b c n d ta f l ak y) (if tkB q w id a b c n d ta f l ak y = true then (ofL (tagL (msgL q w id a b c n d ta f l ak y)), 0) else (⟨#[]⟩, 230)) := by
  obtain ⟨K1, h1⟩ := rcheck_ev q w id a b c n d ta f l ak y (by omega) (by omega) (by omega) (by omega) (by omega)
  rcases Bool.eq_false_or_eq_true (tkB q w id a b c n d ta f l ak y) with p | p
  · obtain ⟨q1, q2, q3, q4, hr⟩ := tkB_iff.1 p
    obtain ⟨K2, h2⟩ := rput_ev q w id a b c n d ta f l ak y ha hb hc hd hy hid (by omega) (by omega) hr
    obtain ⟨K3, h3⟩ := grouped_int (show 0 ≤ q by omega) (show q < 9223372036854775808 by omega)
    have l1 := payL_len (w := w) ha hb hc hd hy hid hr
    have l2 := gi_len (show 0 ≤ q by omega) (show q < 9223372036854775808 by omega)
    obtain ⟨K4, h4⟩ := ref_Tag_ev (ofL ([71] ++ gi q ++ payL w id a b c n d ta f l ak y)) (by rw [ofL_size]; simp only [List.length_append, List.length_cons, List.length_nil]; omega)
    refine ⟨K1 + K2 + K3 + K4, fun k hk => ?_⟩
    simp only [gongref23_Encode.f, h1 k (by omega), h2 k (by omega), h3 k (by omega), p, Option.bind_some, if_true, g71, ofL_app, ofL_size, List.length_append, List.length_cons, List.length_nil]
    rw [if_pos (by omega), if_pos (by omega), show gongref02_Tag.f k (ofL ([71] ++ gi q ++ payL w id a b c n d ta f l ak y)) = _ from h4 k (by omega), Option.bind_some, ofL_L]
    simp only [msgL, List.append_assoc, List.cons_append, List.nil_append]
  · refine ⟨K1, fun k hk => ?_⟩
    simp [gongref23_Encode.f, h1 k hk, p]
def ackB (n : Int) : Bool := decide (1 ≤ n ∧ n ≤ 1152921504606846976)
def ackL (n : Int) : List UInt8 := 65 :: gi n
theorem g65 : (⟨#[65]⟩ : ByteArray) = ofL [65] := rfl
theorem tack_ev (n : Int) : Ev (fun k => ticket_Ack.f k n) (if ackB n = true then (ofL (tagL (ackL n)), 0) else (⟨#[]⟩, 230)) := by
  by_cases r1 : n < 1
  · refine ev_succ 0 fun k _ => ?_
    rw [show ackB n = false from decide_eq_false (by omega)]
    simp [ticket_Ack.f, ticket_Ack.j0, r1]
  by_cases r2 : n > 1152921504606846976
  · refine ev_succ 0 fun k _ => ?_
    rw [show ackB n = false from decide_eq_false (by omega)]
    simp [ticket_Ack.f, ticket_Ack.j0, r1, r2]
  · obtain ⟨K2, h2⟩ := tgroups_ev [n] (by simp) (by intro x hx; simp only [List.mem_cons, List.not_mem_nil, or_false] at hx; subst hx; omega)
    refine ev_succ K2 fun k hk => ?_
    have l2 := gi_len (show 0 ≤ n by omega) (by omega)
    rw [show ackB n = true from decide_eq_true (by omega)]
    simp only [ticket_Ack.f, ticket_Ack.j0, r1, r2, decide_false, Bool.false_eq_true, if_false, if_true, h2 k hk, flat1, Option.bind_some, g65, ofL_app, ofL_size]
    rw [if_pos (by omega), tag_f _ (by rw [ofL_size]; simp only [List.length_append, List.length_cons, List.length_nil]; omega), Option.bind_some, ofL_L]
    rfl
theorem rack_ev (n : Int) : Ev (fun k => gongref23_Ack.f k n) (if ackB n = true then (ofL (tagL (ackL n)), 0) else (⟨#[]⟩, 230)) := by
  by_cases r1 : n < 1
  · refine ev_succ 0 fun k _ => ?_
    rw [show ackB n = false from decide_eq_false (by omega)]
    simp [gongref23_Ack.f, gongref23_Ack.j0, r1]
  by_cases r2 : n > 1152921504606846976
  · refine ev_succ 0 fun k _ => ?_
    rw [show ackB n = false from decide_eq_false (by omega)]
    simp [gongref23_Ack.f, gongref23_Ack.j0, r1, r2]
  · obtain ⟨K2, h2⟩ := grouped_int (show 0 ≤ n by omega) (show n < 9223372036854775808 by omega)
    have l2 := gi_len (show 0 ≤ n by omega) (show n < 9223372036854775808 by omega)
    obtain ⟨K4, h4⟩ := ref_Tag_ev (ofL ([65] ++ gi n)) (by rw [ofL_size]; simp only [List.length_append, List.length_cons, List.length_nil]; omega)
    refine ev_succ (K2 + K4) fun k hk => ?_
    rw [show ackB n = true from decide_eq_true (by omega)]
    simp only [gongref23_Ack.f, gongref23_Ack.j0, r1, r2, decide_false, Bool.false_eq_true, if_false, if_true, h2 k (by omega), Option.bind_some, g65, ofL_app, ofL_size]
    rw [if_pos (by omega), show gongref02_Tag.f k (ofL ([65] ++ gi n)) = _ from h4 k (by omega), Option.bind_some, ofL_L]
    rfl
end Go.Proofs.YtipenplplmdclaaDoor.Tkt
end
section
namespace Go.Proofs.YtipenplplmdclaaDoor.OctF
open Go Go.Proofs.YtipenplplmdclaaDoor.Str
theorem pg_hi (most : Int) (q : Nat) : ∀ acc : List UInt8, (q : Int) ≤ most → q < 72057594037927936 → pg most 9 0 (hi q ++ acc) 0 = pg most (9 - (hi q).length) q acc (hi q).length := by
  induction q using Nat.strongRecOn with
  | _ q ih =>
    intro acc hm hq
    by_cases h0 : q = 0
    · subst h0
      rw [hi_zero]
      rfl
    · have hl : (hi (q / 128)).length ≤ 7 := hi_length 7 _ (by omega)
      rw [hi_pos h0, List.append_assoc, ih (q / 128) (by omega) _ (by omega) (by omega)]
      generalize hL : (hi (q / 128)).length = L at hl
      obtain ⟨f, hf⟩ : ∃ f, 9 - L = f + 1 := ⟨8 - L, by omega⟩
      have hb : (UInt8.ofNat (q % 128 + 128)).toNat = q % 128 + 128 := toNat_ofNat (by omega)
      have hz : ¬ (L = 0 ∧ q % 128 + 128 = 128) := by
        rintro ⟨z1, z2⟩
        have hq0 : q / 128 = 0 := by
          rcases Nat.eq_zero_or_pos (q / 128) with h | h
          · exact h
          · rw [hi_pos (by omega), List.length_append] at hL
            simp at hL
            omega
        omega
      rw [hf]
      simp only [List.cons_append, List.nil_append, pg, hb]
      rw [if_neg hz, show q / 128 * 128 + (q % 128 + 128) % 128 = q by omega, if_neg (by omega), if_neg (by omega), List.length_append, hL]
      simp only [List.length_cons, List.length_nil, Nat.zero_add]
      congr 1
      omega
theorem rdG_grp (most : Int) (n : Nat) (r : List UInt8) (hm : (n : Int) ≤ most) (hn : n < 9223372036854775808) : rdG most (grp n ++ r) = ((n : Int), ((grp n).length : Int), 0) := by
  have hl : (hi (n / 128)).length ≤ 8 := hi_length 8 _ (by omega)
  unfold rdG grp
  rw [List.append_assoc, pg_hi most (n / 128) _ (by omega) (by omega)]
  generalize hL : (hi (n / 128)).length = L at hl ⊢
  have hb : (UInt8.ofNat (n % 128)).toNat = n % 128 := toNat_ofNat (by omega)
  obtain ⟨f, hf⟩ : ∃ f, 9 - L = f + 1 := ⟨8 - L, by omega⟩
  rw [hf]
  simp only [List.cons_append, List.nil_append, pg, hb, List.length_append, List.length_cons, List.length_nil]
  rw [if_neg (by omega), show n / 128 * 128 + n % 128 % 128 = n by omega, if_neg (by omega), if_pos (by omega), hL]
end Go.Proofs.YtipenplplmdclaaDoor.OctF
end
section
namespace Go.Proofs.YtipenplplmdclaaDoor.Tkt
open Go Go.RowKit Go.Proofs.YtipenplplmdclaaDoor.Px Go.Proofs.YtipenplplmdclaaDoorW.PrintWords Go.Proofs.YtipenplplmdclaaDoor.Str Go.Proofs.YtipenplplmdclaaDoor.OctF Go.Proofs.YtipenplplmdclaaDoor.CrcB
set_option linter.unusedSimpArgs false
set_option linter.unusedVariables false
theorem short_f (q w id : Int) (a b c : ByteArray) (n : Int) (d : ByteArray) (ta f l : Int) (ak : Bool) (y : ByteArray) (ha : a.size ≤ 140737488351232) (hb : b.size ≤ 140737488351232) (hc : c.size ≤ 140737488351232) (hd : d.size ≤ 140737488351232) (hy : y.size ≤ 140737488351232) :
    gonglaw23_short.f q w id a b c n d ta f l ak y = some (decide (a.size + b.size + c.size + d.size + y.size < 4000)) := by
  unfold gonglaw23_short.f
  rw [wrap64_id (x := (a.size : Int) + (b.size : Int)) (by omega) (by omega), wrap64_id (x := (a.size : Int) + (b.size : Int) + (c.size : Int)) (by omega) (by omega), wrap64_id (x := (a.size : Int) + (b.size : Int) + (c.size : Int) + (d.size : Int)) (by omega) (by omega), wrap64_id (by omega) (by omega)]
  exact congrArg some (decide_eq_decide.2 ⟨fun z => by omega, fun z => by omega⟩)
def opnR (l : List UInt8) (b : UInt8) : ByteArray × Int × Bool := if 4 ≤ l.length ∧ run all l = residue ∧ (l.take (l.length - 4)).take 1 = [b] then (ofL ((l.take (l.length - 4)).drop 1), 0, true) else (⟨#[]⟩, 0, false)
theorem topen_f (s : ByteArray) (b : UInt8) (hs : s.size ≤ 1000000) : ticket_open.f s (⟨#[b]⟩ : ByteArray) = some (opnR s.data.toList b) := by
  have hl : s.data.toList.length = s.size := by simp
  have h1 : (⟨#[b]⟩ : ByteArray).size = 1 := rfl
  have hbl : (⟨#[b]⟩ : ByteArray).toList = [b] := by rw [toList_L]
  unfold ticket_open.f opnR
  rw [open_f s (by omega), Option.bind_some, h1, hbl]
  by_cases c : 4 ≤ s.size ∧ run all s.data.toList = residue
  · have hx : (s.extract 0 (s.size - 4)).data.toList = s.data.toList.take (s.size - 4) := pre_L s _
    have hxs : (s.extract 0 (s.size - 4)).size = s.size - 4 := by rw [size_L, hx, List.length_take, hl]; omega
    rw [if_pos c]
    simp only [Bool.true_eq_false, if_false]
    rw [hxs, hl]
    by_cases c1 : s.size - 4 < 1
    · rw [if_pos c1, if_neg]
      rintro ⟨_, _, c2⟩
      have := congrArg List.length c2
      simp at this
      omega
    · rw [if_neg c1, toList_L, pre_L, hx]
      by_cases c2 : (s.data.toList.take (s.size - 4)).take 1 = [b]
      · rw [if_pos c2, if_pos ⟨c.1, c.2, c2⟩]
        congr 2
        apply ext
        have := post_L (s.extract 0 (s.size - 4)) 1
        rw [hxs, hx] at this
        rw [this, ofL_L]
      · rw [if_neg c2, if_neg (fun z => c2 z.2.2)]
  · rw [if_neg c, if_pos rfl, if_neg (fun z => c ⟨by have := z.1; omega, z.2.1⟩)]
theorem opnR_tag (l : List UInt8) (b c : UInt8) : opnR (tagL (c :: l)) b = if c = b then (ofL l, 0, true) else (⟨#[]⟩, 0, false) := by
  have hlen := tagL_length (c :: l)
  have ht : (tagL (c :: l)).take ((tagL (c :: l)).length - 4) = c :: l := by
    rw [hlen, Nat.add_sub_cancel]
    show ((c :: l) ++ _).take _ = _
    rw [List.take_left']
    rfl
  unfold opnR
  rw [ht, run_tagL]
  by_cases hc : c = b
  · subst hc
    rw [if_pos ⟨by rw [hlen]; omega, rfl, rfl⟩, if_pos rfl]
    rfl
  · rw [if_neg (fun z => hc (by simpa using z.2.2)), if_neg hc]
def ackR (l : List UInt8) : Int × Int := match opnR l 65 with
  | (s, _, ok) => if ok = true then (if (rdG 1152921504606846976 s.data.toList).2.2 = 0 ∧ s.data.toList.drop (rdG 1152921504606846976 s.data.toList).2.1.toNat = [] ∧ 1 ≤ (rdG 1152921504606846976 s.data.toList).1 then ((rdG 1152921504606846976 s.data.toList).1, 0) else (0, 230)) else (0, 230)
theorem opnR_code (l : List UInt8) (b : UInt8) : (opnR l b).2.1 = 0 := by unfold opnR; split <;> rfl
theorem tacked_k (s : ByteArray) (hs : s.size ≤ 1000000) (k : Nat) (hk : 19 ≤ k) : ticket_Acked.f k s = some (ackR s.data.toList) := by
  unfold ticket_Acked.f ackR
  rw [topen_f s 65 hs, Option.bind_some]
  have hc := opnR_code s.data.toList 65
  generalize opnR s.data.toList 65 = o at hc
  obtain ⟨t, c, ok⟩ := o
  simp only at hc
  subst hc
  simp only
  cases ok with
  | false => simp
  | true =>
    simp only [if_true]
    rw [rGroups t 0 _ k hk, Option.bind_some]
    simp only [if_true]
    obtain ⟨g1, g2, g3, g4, g5⟩ := rdG_long 1152921504606846976 t.data.toList
    by_cases h0 : (rdG 1152921504606846976 t.data.toList).2.2 = 0
    · by_cases hd : t.data.toList.drop (rdG 1152921504606846976 t.data.toList).2.1.toNat = []
      · by_cases h1 : (rdG 1152921504606846976 t.data.toList).1 < 1
        · simp [octet_Reader_Done.f, toList_L, h0, hd, h1, show ¬ (1 ≤ (rdG 1152921504606846976 t.data.toList).1) by omega]
        · simp [octet_Reader_Done.f, toList_L, h0, hd, h1, show 1 ≤ (rdG 1152921504606846976 t.data.toList).1 by omega]
      · simp [octet_Reader_Done.f, octet_Reader_Refuse.f, toList_L, h0, hd]
    · simp [octet_Reader_Done.f, octet_Reader_Refuse.f, toList_L, h0]
theorem tacked_ev (s : ByteArray) (hs : s.size ≤ 1000000) : Ev (fun k => ticket_Acked.f k s) (ackR s.data.toList) := ⟨19, fun k hk => tacked_k s hs k hk⟩
theorem ackR_ack (n : Int) (h0 : 1 ≤ n) (h1 : n ≤ 1152921504606846976) : ackR (tagL (ackL n)) = (n, 0) := by
  unfold ackR ackL
  rw [opnR_tag, if_pos rfl]
  simp only [if_true, ofL_L]
  have hr := rdG_grp 1152921504606846976 n.toNat [] (by omega) (by omega)
  rw [List.append_nil] at hr
  show (if (rdG 1152921504606846976 (gi n)).2.2 = 0 ∧ (gi n).drop (rdG 1152921504606846976 (gi n)).2.1.toNat = [] ∧ 1 ≤ (rdG 1152921504606846976 (gi n)).1 then ((rdG 1152921504606846976 (gi n)).1, (0 : Int)) else (0, 230)) = (n, 0)
  rw [show rdG 1152921504606846976 (gi n) = _ from hr]
  simp only [Int.toNat_natCast]
  rw [if_pos ⟨trivial, by unfold gi; simp, by omega⟩]
  congr 1
  omega
theorem works_ev : Ev (fun k => gonglaw23_works.f k) true := by
  obtain ⟨K1, h1⟩ := tack_ev 1
  have e1 : ackB 1 = true := rfl
  have e2 : ackL 1 = [65, 1] := by
    have : grp 1 = [1] := by rw [grp, hi]; rfl
    show 65 :: grp 1 = _
    rw [this]
  obtain ⟨K2, h2⟩ := tacked_ev (ofL (tagL (ackL 1))) (by rw [ofL_size, tagL_length, e2]; decide)
  rw [ofL_L, ackR_ack 1 (by decide) (by decide)] at h2
  refine ⟨K1 + K2, fun k hk => ?_⟩
  have ht : crc_Tag.f (⟨#[65, 1]⟩ : ByteArray) = some (ofL (tagL (ackL 1))) := by
    rw [e2]
    exact tag_f (⟨#[65, 1]⟩ : ByteArray) (by decide)
  simp only [gonglaw23_works.f, h1 k (by omega), e1, if_true, Option.bind_some, h2 k (by omega), ht]
  rfl
end Go.Proofs.YtipenplplmdclaaDoor.Tkt
end
section
namespace Go.Proofs.YtipenplplmdclaaDoor.Pure
open Go Go.RowKit Go.Proofs.YtipenplplmdclaaDoor.Px Go.Proofs.YtipenplplmdclaaDoorW.PrintWords Go.Proofs.YtipenplplmdclaaDoor.Str Go.Proofs.YtipenplplmdclaaDoor.Tkt
theorem TicketWrites (x : S27) (a1 : Int)
    (h : (Lit.int .i64 x.f0).wf = true ∧ (Lit.int .i64 x.f1).wf = true ∧ (Lit.int .i64 x.f2.f0).wf = true ∧ (x.f2.f1.f0.size ≤ 140737488351232 ∧ x.f2.f1.f1.size ≤ 140737488351232 ∧ x.f2.f1.f2.size ≤ 140737488351232 ∧ (Lit.int .i64 x.f2.f1.f3).wf = true ∧ x.f2.f1.f4.size ≤ 140737488351232) ∧
      (Lit.int .i64 x.f2.f2).wf = true ∧ (Lit.int .i64 x.f2.f3).wf = true ∧ (Lit.int .i64 x.f2.f4).wf = true ∧ True ∧ x.f2.f6.size ≤ 140737488351232) (_ : (Lit.int .i64 a1).wf = true) :
    true = true ∧ ∃ k, gonglaw23_TicketWrites.f k x.f0 x.f1 x.f2.f0 x.f2.f1.f0 x.f2.f1.f1 x.f2.f1.f2 x.f2.f1.f3 x.f2.f1.f4 x.f2.f2 x.f2.f3 x.f2.f4 x.f2.f5 x.f2.f6 a1 = some true := by
  refine ⟨rfl, ?_⟩
  obtain ⟨_, _, h3, ⟨s1, s2, s3, _, s4⟩, _, _, _, _, s5⟩ := h
  have hid : x.f2.f0 < 9223372036854775808 := by have := (wf_i64 h3).2; omega
  generalize x.f0 = q at *
  generalize x.f1 = wh at *
  generalize x.f2.f0 = id at *
  generalize x.f2.f1.f0 = a at *
  generalize x.f2.f1.f1 = b at *
  generalize x.f2.f1.f2 = c at *
  generalize x.f2.f1.f3 = n at *
  generalize x.f2.f1.f4 = d at *
  generalize x.f2.f2 = ta at *
  generalize x.f2.f3 = f at *
  generalize x.f2.f4 = l at *
  generalize x.f2.f5 = ak at *
  generalize x.f2.f6 = y at *
  have hs := short_f q wh id a b c n d ta f l ak y s1 s2 s3 s4 s5
  by_cases hq : a.size + b.size + c.size + d.size + y.size < 4000
  · rw [decide_eq_true hq] at hs
    have ha : a.size ≤ 100000 := by omega
    have hb : b.size ≤ 100000 := by omega
    have hc : c.size ≤ 100000 := by omega
    have hd : d.size ≤ 100000 := by omega
    have hy : y.size ≤ 100000 := by omega
    obtain ⟨K1, h1⟩ := tpay_ev q wh id a b c n d ta f l ak y ha hb hc hd hy hid
    obtain ⟨K2, h2⟩ := rpay_ev q wh id a b c n d ta f l ak y ha hb hc hd hy hid
    obtain ⟨K3, h3⟩ := tenc_ev q wh id a b c n d ta f l ak y ha hb hc hd hy hid
    obtain ⟨K4, h4⟩ := renc_ev q wh id a b c n d ta f l ak y ha hb hc hd hy hid
    obtain ⟨K5, h5⟩ := tack_ev a1
    obtain ⟨K6, h6⟩ := rack_ev a1
    obtain ⟨K7, h7⟩ := tcheck_ev q wh id a b c n d ta f l ak y (by omega) (by omega) (by omega) (by omega) (by omega)
    obtain ⟨K8, h8⟩ := rcheck_ev q wh id a b c n d ta f l ak y (by omega) (by omega) (by omega) (by omega) (by omega)
    obtain ⟨K9, h9⟩ := works_ev
    refine ⟨K1 + K2 + K3 + K4 + K5 + K6 + K7 + K8 + K9, ?_⟩
    simp only [gonglaw23_TicketWrites.f, hs, Option.bind_some, if_true, h1 _ (show K1 ≤ K1 + K2 + K3 + K4 + K5 + K6 + K7 + K8 + K9 by omega), h2 _ (show K2 ≤ K1 + K2 + K3 + K4 + K5 + K6 + K7 + K8 + K9 by omega), h3 _ (show K3 ≤ K1 + K2 + K3 + K4 + K5 + K6 + K7 + K8 + K9 by omega), h4 _ (show K4 ≤ K1 + K2 + K3 + K4 + K5 + K6 + K7 + K8 + K9 by omega),
      h5 _ (show K5 ≤ K1 + K2 + K3 + K4 + K5 + K6 + K7 + K8 + K9 by omega), h6 _ (show K6 ≤ K1 + K2 + K3 + K4 + K5 + K6 + K7 + K8 + K9 by omega), h7 _ (show K7 ≤ K1 + K2 + K3 + K4 + K5 + K6 + K7 + K8 + K9 by omega), h8 _ (show K8 ≤ K1 + K2 + K3 + K4 + K5 + K6 + K7 + K8 + K9 by omega), h9 _ (show K9 ≤ K1 + K2 + K3 + K4 + K5 + K6 + K7 + K8 + K9 by omega)]
  · rw [decide_eq_false hq] at hs
    obtain ⟨K9, h9⟩ := works_ev
    refine ⟨K9, ?_⟩
    simp only [gonglaw23_TicketWrites.f, hs, Option.bind_some, Bool.false_eq_true, if_false, h9 K9 (Nat.le_refl _)]
end Go.Proofs.YtipenplplmdclaaDoor.Pure
end
section
namespace Go.Proofs.YtipenplplmdclaaDoor.Px
open Go Go.RowKit Go.Proofs.YtipenplplmdclaaDoorW.PrintWords
theorem gonglaw23_TicketWrites.whole (cs0 : Array Value) (x0 : S27) (a1 : Int) (r : Bool) (w : World) (hx0 : k27.K w x0 cs0.toList) (HT : Aside0 (TabW w)) (h : r = true ∧ ∃ k, gonglaw23_TicketWrites.f k x0.f0 x0.f1 x0.f2.f0 x0.f2.f1.f0 x0.f2.f1.f1 x0.f2.f1.f2 x0.f2.f1.f3 x0.f2.f1.f4 x0.f2.f2 x0.f2.f3 x0.f2.f4 x0.f2.f5 x0.f2.f6 a1 = some true) :
    Calls Tryd.prog 3 #[.agg cs0, .int .i64 a1] w fun e w' => e = .returned (.bool r) ∧ Below w.heap.size w w' := by
  obtain ⟨rfl, k, hk⟩ := h
  obtain rfl := tk_cells hx0
  exact gonglaw23_TicketWrites.calls k x0.f0 x0.f1 x0.f2.f0 x0.f2.f1.f0 x0.f2.f1.f1 x0.f2.f1.f2 x0.f2.f1.f3 x0.f2.f1.f4 x0.f2.f2 x0.f2.f3 x0.f2.f4 x0.f2.f5 x0.f2.f6 a1 true w HT hk rfl
end Go.Proofs.YtipenplplmdclaaDoor.Px
end
section
namespace Go.Proofs.YtipenplplmdclaaDoor.Open
open Go Go.RowKit Go.Proofs.YtipenplplmdclaaDoorW.PrintWords
def Opens (R : Nat) {α : Type} (d : Kd α) (P : Program) (t : TypeId) (WF : α → Prop) : Prop :=
  P.cellsOf t = d.sz ∧ ∀ (H : Type) (enc : TypeId × Value → H) (W : World) (base : Nat) (sp : Nat → Bool) (held : Bool) (fuel : Nat) (cs : List Value) (y : DataW H) (p : List MemPlace),
    DataW.trod enc P W base sp held fuel t cs = some (y, p) → (∀ n ∈ y.weights P t, n ≤ R) → ∃ x, d.K W x cs ∧ WF x
theorem int {R : Nat} {P : Program} {t : TypeId} {k : IntKind} (h : P.underlying t = some (.int k)) (hc : P.cellsOf t = 1) : Opens R (Kd.int k) P t (fun n => (Lit.int k n).wf = true) := by
  refine ⟨hc, fun H enc W base sp held fuel cs y p ht _ => ?_⟩
  obtain ⟨n, rfl, _, hw⟩ := DataW.trod_int h ht
  exact ⟨n, rfl, hw⟩
theorem bool {R : Nat} {P : Program} {t : TypeId} (h : P.underlying t = some .bool) (hc : P.cellsOf t = 1) : Opens R Kd.bool P t (fun _ => True) := by
  refine ⟨hc, fun H enc W base sp held fuel cs y p ht _ => ?_⟩
  cases fuel with
  | zero => simp [DataW.trod] at ht
  | succ fuel =>
    simp only [DataW.trod, h] at ht
    split at ht <;> first | (rename_i h1 h2; cases h1) | skip
    all_goals first | (cases ht; done) | skip
    all_goals simp_all
    · exact .inl rfl
    · exact .inr rfl
theorem string {R : Nat} {P : Program} {t : TypeId} (h : P.underlying t = some .string) (hc : P.cellsOf t = 1) : Opens R Kd.string P t (fun s => s.size ≤ R) := by
  refine ⟨hc, fun H enc W base sp held fuel cs y p ht hw => ?_⟩
  obtain ⟨s, rfl, he, hs⟩ := DataW.trod_string h ht
  obtain ⟨rfl, rfl⟩ := Prod.mk.inj he
  refine ⟨s, rfl, ?_⟩
  have := hw s.data.toList.length (by simp [DataW.weights])
  simpa using this
theorem choose_list {α : Type} {Q : Nat → α → Prop} : ∀ n, (∀ i, i < n → ∃ x, Q i x) → ∃ l : List α, l.length = n ∧ ∀ i x, l[i]? = some x → Q i x
  | 0, _ => ⟨[], rfl, fun i x h => by simp at h⟩
  | n + 1, h => by
    obtain ⟨l, hl, hq⟩ := choose_list n (fun i hi => h i (by omega))
    obtain ⟨x, hx⟩ := h n (by omega)
    refine ⟨l ++ [x], by simp [hl], fun i y hy => ?_⟩
    rcases Nat.lt_trichotomy i n with hlt | rfl | hgt
    · rw [List.getElem?_append_left (by omega)] at hy
      exact hq i y hy
    · rw [List.getElem?_append_right (by omega), hl] at hy
      simp at hy
      subst hy
      exact hx
    · rw [List.getElem?_append_right (by omega)] at hy
      rw [List.getElem?_eq_none (by simp; omega)] at hy
      cases hy
theorem weights_all {H : Type} {P : Program} {e : TypeId} : ∀ {l : List (DataW H)} {i : Nat} {d : DataW H}, l[i]? = some d → ∀ n ∈ d.weights P e, n ∈ DataW.weightsAll P e l
  | x :: l, 0, d, h, n, hn => by
    simp only [List.getElem?_cons_zero, Option.some.injEq] at h
    subst h
    simp only [DataW.weightsAll, List.mem_append]
    exact .inl hn
  | x :: l, i + 1, d, h, n, hn => by
    simp only [List.getElem?_cons_succ] at h
    simp only [DataW.weightsAll, List.mem_append]
    exact .inr (weights_all h n hn)
  | [], _, _, h, _, _ => by simp at h
theorem cells_at {w : World} {base : Nat} {a : Addr} {n : Nat} {cs : List Value} (h : w.cells? base a n = some cs) : cs.length = n ∧ ∀ j u, cs[j]? = some u → w.cell? (a.add j) = some u := by
  unfold World.cells? at h
  split at h
  · have hl := Lib.mapM_length h
    simp at hl
    refine ⟨hl, fun j u hu => ?_⟩
    have hj : j < n := by
      rcases Nat.lt_or_ge j n with h' | h'
      · exact h'
      · rw [List.getElem?_eq_none (by omega)] at hu
        cases hu
    obtain ⟨b, hb, hf⟩ := Lib.mapM_at h j j (by simp [hj])
    rw [hu] at hb
    injection hb with hb
    subst hb
    exact hf
  · cases h
theorem slice_elems {R : Nat} {α : Type} {d : Kd α} {P : Program} {t e : TypeId} {WF : α → Prop} (ht : P.underlying t = some (.slice e)) (hd : Opens R d P e WF)
    {H : Type} {enc : TypeId × Value → H} {W : World} {base : Nat} {sp : Nat → Bool} {held : Bool} {fuel : Nat} {A : Option Addr} {len cap : Nat} {y : DataW H} {p : List MemPlace}
    (h : DataW.trod enc P W base sp held fuel t [.slice A len cap] = some (y, p)) (hw : ∀ n ∈ y.weights P t, n ≤ R) :
    ∃ l : List α, l.length = len ∧ Kd.C d W A len l ∧ len ≤ cap ∧ (∀ x ∈ l, WF x) ∧ len * P.bytesOf e ≤ R := by
  cases fuel with
  | zero => simp [DataW.trod] at h
  | succ fuel =>
    cases A with
    | none =>
      have h' := h
      simp only [DataW.trod, ht] at h'
      split at h' <;> simp_all
      exact Kd.C_nil d W
    | some a =>
      simp only [DataW.trod, ht] at h
      split at h
      · rename_i hb
        obtain ⟨elems, hm, h⟩ := Option.bind_eq_some_iff.1 h
        obtain ⟨rest, hr, h⟩ := Option.map_eq_some_iff.1 h
        simp only [Prod.mk.injEq] at h
        obtain ⟨rfl, rfl⟩ := h
        have hel : elems.length = len := by simpa using Lib.mapM_length hm
        simp only [DataW.weights, ht, List.mem_cons, List.mem_append] at hw
        have hsz := hw _ (.inl rfl)
        simp only [List.length_map, hel] at hsz
        have hex : ∀ i, i < len → ∃ x, (∃ c, c.length = d.sz ∧ d.K W x c ∧ ∀ j u, c[j]? = some u → W.cell? (a.add (i * d.sz + j)) = some u) ∧ WF x := by
          intro i hi
          obtain ⟨b, hb', hf⟩ := Lib.mapM_at hm i i (by simp [hi])
          obtain ⟨c, hc, hf⟩ := Option.bind_eq_some_iff.1 hf
          obtain ⟨hcl, hcell⟩ := cells_at hc
          obtain ⟨yb, pb⟩ := b
          obtain ⟨x, hx, hwf⟩ := hd.2 H enc W base sp held fuel c yb pb hf (fun n hn => hw n (.inr (.inl (weights_all (i := i) (d := yb) (by simp [hb']) n hn))))
          rw [hd.1] at hcell hcl
          exact ⟨x, ⟨c, hcl, hx, fun j u hu => by rw [← hcell j u hu, Addr.add_add]⟩, hwf⟩
        obtain ⟨l, hl, hq⟩ := choose_list len hex
        refine ⟨l, hl, ⟨hl, by have := hb.2; unfold maxLen at this; omega, fun _ => ⟨a, rfl, fun j x hx => (hq j x hx).1⟩⟩, hb.2.1, fun x hx => ?_, ?_⟩
        · obtain ⟨i, hi⟩ := List.mem_iff_getElem?.1 hx
          exact (hq i x hi).2
        · have h1 : len * P.bytesOf e ≤ (len + rest.length) * P.bytesOf e := Nat.mul_le_mul_right _ (by omega)
          omega
      · cases h
theorem slice {R : Nat} {α : Type} {d : Kd α} {P : Program} {t e : TypeId} {WF : α → Prop} (ht : P.underlying t = some (.slice e)) (hd : Opens R d P e WF) (hc : P.cellsOf t = 1) :
    Opens R (Kd.slice e d) P t (fun l => (∀ x ∈ l, WF x) ∧ l.length * P.bytesOf e ≤ R) := by
  refine ⟨hc, fun H enc W base sp held fuel cs y p h hw => ?_⟩
  have hform : ∃ A len cap, cs = [.slice A len cap] := by
    cases fuel with
    | zero => simp [DataW.trod] at h
    | succ fuel =>
      have h' := h
      simp only [DataW.trod, ht] at h'
      split at h' <;> first | exact ⟨_, _, _, rfl⟩ | (simp_all; done) | skip
      all_goals (simp_all)
  obtain ⟨A, len, cap, rfl⟩ := hform
  obtain ⟨l, hl, hC, hcap, hwf, hb⟩ := slice_elems ht hd h hw
  subst hl
  exact ⟨l, ⟨A, cap, rfl, hcap, hC⟩, hwf, hb⟩
def Fields (R : Nat) {α : Type} (d : Kd α) (P : Program) (fs : List Field) (o : Nat) (WF : α → Prop) : Prop :=
  ∀ (H : Type) (enc : TypeId × Value → H) (W : World) (base : Nat) (sp : Nat → Bool) (held : Bool) (fuel : Nat) (cs : List Value) (xs : List (DataW H × List MemPlace)), cs.length = o + d.sz →
    (fs.mapM fun f => DataW.trod enc P W base sp held fuel f.type ((cs.drop f.offset).take (P.cellsOf f.type))) = some xs → (∀ n ∈ DataW.weightsEach P (fs.map (·.type)) (xs.map (·.1)), n ≤ R) → ∃ x, d.K W x (cs.drop o) ∧ WF x
theorem field_last {R : Nat} {α : Type} {d : Kd α} {P : Program} {f : Field} {o : Nat} {WF : α → Prop} (ho : f.offset = o) (hd : Opens R d P f.type WF) : Fields R d P [f] o WF := by
  intro H enc W base sp held fuel cs xs hl hm hw
  simp only [List.mapM_cons, List.mapM_nil, Option.bind_eq_bind, Option.bind_eq_some_iff, Option.pure_def, Option.some.injEq] at hm
  obtain ⟨⟨y, p⟩, hy, _, rfl, rfl⟩ := hm
  rw [ho, hd.1, List.take_of_length_le (by simp; omega)] at hy
  exact hd.2 H enc W base sp held fuel _ y p hy (fun n hn => hw n (by simp [DataW.weightsEach, hn]))
theorem field_more {R : Nat} {α β : Type} {d0 : Kd α} {d1 : Kd β} {P : Program} {f : Field} {fs : List Field} {o : Nat} {WF0 : α → Prop} {WF1 : β → Prop} (ho : f.offset = o) (h0 : Opens R d0 P f.type WF0) (h1 : Fields R d1 P fs (o + d0.sz) WF1) :
    Fields R (Kd.pair d0 d1) P (f :: fs) o (fun x => WF0 x.1 ∧ WF1 x.2) := by
  intro H enc W base sp held fuel cs xs hl hm hw
  simp only [List.mapM_cons, Option.bind_eq_bind, Option.bind_eq_some_iff, Option.pure_def, Option.some.injEq] at hm
  obtain ⟨⟨y, p⟩, hy, ys, hys, rfl⟩ := hm
  have hl' : cs.length = (o + d0.sz) + d1.sz := by rw [hl]; show o + (d0.sz + d1.sz) = _; omega
  rw [ho, h0.1] at hy
  obtain ⟨x0, hx0, hw0⟩ := h0.2 H enc W base sp held fuel _ y p hy (fun n hn => hw n (by simp [DataW.weightsEach, hn]))
  obtain ⟨x1, hx1, hw1⟩ := h1 H enc W base sp held fuel cs ys hl' hys (fun n hn => hw n (by simp only [List.map_cons, DataW.weightsEach, List.mem_append]; exact .inr hn))
  refine ⟨(x0, x1), ⟨(cs.drop o).take d0.sz, cs.drop (o + d0.sz), ?_, hx0, hx1⟩, hw0, hw1⟩
  rw [← List.drop_drop, List.take_append_drop]
theorem struct {R : Nat} {α β : Type} {d : Kd α} {P : Program} {t : TypeId} {fs : Array Field} {WF : α → Prop} (ht : P.underlying t = some (.struct fs)) (hc : P.cellsOf t = d.sz) (hf : Fields R d P fs.toList 0 WF) (f : β → α) (g : α → β) (hg : ∀ y, f (g y) = y) :
    Opens R (Kd.iso d f) P t (fun b => WF (f b)) := by
  refine ⟨hc, fun H enc W base sp held fuel cs y p h hw => ?_⟩
  cases fuel with
  | zero => simp [DataW.trod] at h
  | succ fuel =>
    simp only [DataW.trod, ht] at h
    split at h
    · rename_i hl
      obtain ⟨xs, hm, hx⟩ := Option.map_eq_some_iff.1 h
      simp only [Prod.mk.injEq] at hx
      obtain ⟨rfl, rfl⟩ := hx
      obtain ⟨x, hK, hwf⟩ := hf H enc W base sp held fuel cs xs (by omega) hm (fun n hn => hw n (by simpa [DataW.weights, ht] using hn))
      rw [List.drop_zero] at hK
      exact ⟨g x, by show d.K W (f (g x)) cs; rw [hg]; exact hK, by show WF (f (g x)); rw [hg]; exact hwf⟩
    · cases h
theorem agg_arg {R : Nat} {α : Type} {d : Kd α} {P : Program} {t : TypeId} {WF : α → Prop} (hd : Opens R d P t WF)
    {H : Type} {enc : TypeId × Value → H} {W : World} {base : Nat} {sp : Nat → Bool} {held : Bool} {cs : Array Value} {y : DataW H} {p : List MemPlace} {ts : List TypeId} {ds : List (DataW H)}
    (h : DataW.Trod enc P W base sp held t (.agg cs) y p) (hsz : (DataW.weightsEach P ts ds).all (· ≤ R) = true) {j : Nat} (htj : ts[j]? = some t) (hdj : ds[j]? = some y) :
    ∃ x, d.K W x cs.toList ∧ WF x := by
  obtain ⟨fuel, hf⟩ := h
  have hw : ∀ n ∈ y.weights P t, n ≤ R := fun n hn => by simpa using List.all_eq_true.1 hsz n (DataW.weights_mem_each htj hdj n hn)
  exact hd.2 H enc W base sp held fuel cs.toList y p (by simpa [Value.cells] using hf) hw
end Go.Proofs.YtipenplplmdclaaDoor.Open
end
section
namespace Go.Proofs.YtipenplplmdclaaDoor.Laid
open Go Go.RowKit
theorem half_data {H : Type} : Rows.laid_gong_crc_half (H := H) = Lib.tabData .u32 Crc.halfL := rfl
def boolData {H : Type} (bs : List Bool) : DataW H := .agg (bs.map fun b => .lit (.bool b))
set_option maxRecDepth 100000 in
theorem whats_data {H : Type} : Rows.laid_gong_ticket_whats (H := H) = boolData Px.whatsL := rfl
theorem trod_bool {H : Type} {enc : TypeId × Value → H} {P : Program} {W : World} {base : Nat} {sp : Nat → Bool} {held : Bool} {fuel : Nat} {t : TypeId} {cs : List Value} {y : DataW H} {p : List MemPlace}
    (h : P.underlying t = some .bool) (ht : DataW.trod enc P W base sp held fuel t cs = some (y, p)) : ∃ b : Bool, cs = [.bool b] ∧ y = .lit (.bool b) := by
  cases fuel with
  | zero => simp [DataW.trod] at ht
  | succ fuel =>
    simp only [DataW.trod, h] at ht
    split at ht <;> first | (rename_i h1 h2; cases h1) | skip
    all_goals first | (cases ht; done) | skip
    all_goals simp_all
theorem cells_of_bools {H : Type} {enc : TypeId × Value → H} {P : Program} {w : World} {base : Nat} {sp : Nat → Bool} {held : Bool} {fuel : Nat} {t e : TypeId} {n : Nat} {cs : List Value} {zs : List Bool} {p : List MemPlace}
    (ht : P.underlying t = some (.array n e)) (he : P.underlying e = some .bool) (hce : P.cellsOf e = 1) (hct : P.cellsOf t = n)
    (h : DataW.trod enc P w base sp held fuel t cs = some (boolData zs, p)) : cs = zs.map Value.bool := by
  cases fuel with
  | zero => simp [DataW.trod] at h
  | succ fuel =>
    simp only [DataW.trod, ht, hce, hct, Nat.mul_one] at h
    split at h
    · rename_i hl
      obtain ⟨xs, hm, hx⟩ := Option.map_eq_some_iff.1 h
      have hxs : xs.map (·.1) = zs.map fun z => (DataW.lit (.bool z) : DataW H) := by
        have := congrArg Prod.fst hx
        simpa [boolData] using this
      have hxl : xs.length = n := by simpa using Lib.mapM_length hm
      have hzl : zs.length = n := by
        have := congrArg List.length hxs
        simp at this
        omega
      apply List.ext_getElem?
      intro i
      by_cases hi : i < n
      · obtain ⟨b, hb, hf⟩ := Lib.mapM_at hm i i (by simp [hi])
        obtain ⟨z, hc, hy⟩ := trod_bool he hf
        have h1 : cs[i]? = some (.bool z) := by
          have := congrArg (·[0]?) hc
          simpa [List.getElem?_take, List.getElem?_drop] using this
        have h2 : (xs.map (·.1))[i]? = some (DataW.lit (.bool z) : DataW H) := by simp [hb, hy]
        rw [hxs] at h2
        simp only [List.getElem?_map, Option.map_eq_some_iff, DataW.lit.injEq, Lit.bool.injEq] at h2
        obtain ⟨z', hz', rfl⟩ := h2
        simp [h1, hz']
      · rw [List.getElem?_eq_none (by omega), List.getElem?_eq_none (by simp; omega)]
    · cases h
theorem tabs {W : World} (h : laidMetH Tryd.prog [("gong/crc.half", Rows.laid_gong_crc_half), ("gong/ticket.whats", Rows.laid_gong_ticket_whats)] W) : Px.TabW W := by
  rw [MakeChecks.laidMetH_plain _ _ _ (by kernel_rfl), half_data, whats_data] at h
  refine ⟨Lib.tabIs_of_head (g := 1) (t := 90) (e := 43) (n := 16) (by kernel_rfl) (by kernel_rfl) Tryd.underlying90 Tryd.underlying43 (by kernel_rfl) (by kernel_rfl) h, ?_⟩
  obtain ⟨ps, ⟨g', t', cs, fuel, p, q, hg', ht', hvar, hd, _, _⟩, _⟩ := h.tail
  obtain rfl := Option.some.inj (Px.whats_at.symm.trans hg')
  obtain rfl := Option.some.inj ((show (Tryd.prog.globals[0]?).map (·.type) = some 54 by kernel_rfl).symm.trans ht')
  show W.var? Tryd.prog "gong/ticket.whats" = some (Px.whatsL.map Value.bool).toArray
  rw [hvar, ← cells_of_bools Tryd.underlying54 Tryd.underlying4 (by kernel_rfl) (by kernel_rfl) hd]
end Go.Proofs.YtipenplplmdclaaDoor.Laid
end
section
namespace Go.Proofs.YtipenplplmdclaaDoor.ticketWrites
open Go.ChangeShapes Go.WideShapes Go.ChangeAt Go.RowKit Go.Proofs.YtipenplplmdclaaDoorW.PrintWords
open Go.ChangeMaps (open_string shut_string)
theorem own : ownKnob Tryd.prog.godebug = none := by kernel_rfl
theorem laidOut : laidOutB Tryd.prog = true := by kernel_rfl
def laidL : List (String × DataW Unit) := [("gong/crc.half", Rows.laid_gong_crc_half), ("gong/ticket.whats", Rows.laid_gong_ticket_whats)]
theorem door_met (os : Os) (args : Array Value) : laidMetH Tryd.prog laidL ((World.doorLaid Tryd.prog 19 os).forCall (fun _ _ => 0) ⟨#[], args, []⟩).memory :=
  laidMetH_of_parts3 (fuel := 8) (laidMet_of_run' 8 (by kernel_rfl) (by kernel_rfl)) (by kernel_rfl) (by kernel_rfl)
set_option maxRecDepth 100000 in
theorem lifted (os : Os) (started : os.Started) (H : Type) (enc : TypeId × Value → H) :
    ReturnsInHanded {} Tryd.checked os 3 .any (fun w args => (Rows.ticketWritesSpec.pre enc Tryd.prog Tryd.f3 [] false w args ∧ laidMetH Tryd.prog laidL w) ∧ sizedMet enc Tryd.prog Tryd.f3 (OpenSpec.ofChange Rows.ticketWritesSpec) false w args)
      (Rows.ticketWritesSpec.post enc Tryd.prog Tryd.f3 false true false false) := by
  refine returnsInHanded_of_change_and (C := Tryd.checked) (X := fun w _ => laidMetH Tryd.prog laidL w) (fun _ _ _ hh h => h.of_heap hh) own started (by kernel_rfl) Tryd.func3
    (ChangeSpec.witness_shaped (enc := enc) (C := Tryd.checked) (os := os) (X := fun w _ => laidMetH Tryd.prog laidL w) false (World.doorLaid Tryd.prog 19 os) #[.agg #[.int .i64 0, .int .i64 0, .int .i64 0, .string ByteArray.empty, .string ByteArray.empty, .string ByteArray.empty, .int .i64 0, .string ByteArray.empty, .int .i64 0, .int .i64 0, .int .i64 0, .bool false, .string ByteArray.empty], .int .i64 0] 8 rfl (World.shaped_of_RefB (by kernel_rfl) (by kernel_rfl)) (by kernel_rfl) (by kernel_rfl) (by kernel_rfl) (door_met os _)) ?_
  intro W base args ds gs before hval0 hW _ hsz0 hL _
  have HT : Px.TabW W := Laid.tabs hL
  have hsz : (DataW.weightsEach Tryd.prog (Tryd.f3.params.toList ++ Rows.ticketWritesSpec.plain.varTypes Tryd.prog) (ds ++ gs)).all (· ≤ reachBytes) = true := hsz0
  have hval : ∀ (j : Nat) t v, Tryd.f3.params[j]? = some t → args[j]? = some v → Value.okWide Tryd.prog W .any base t v := hval0
  have hW' := hW
  obtain ⟨p, q, hA0, hV, rfl, hfz, hnd⟩ := hW
  have hA : DataW.TrodAll enc Tryd.prog W 0 (fun _ => true) true Tryd.f3.params.toList args.toList ds p := hA0
  rw [Tryd.params3] at hA hval hsz
  obtain ⟨v0, vs0, d0, ds0, p0, q0, hargs, rfl, rfl, h0, r0⟩ := trodAll_cons hA
  obtain ⟨v1, vs1, d1, ds1, p1, q1, rfl, rfl, rfl, h1, r1⟩ := trodAll_cons r0
  obtain ⟨rfl, rfl, rfl⟩ := trodAll_nil r1
  obtain rfl : args = #[v0, v1] := by cases args; simp_all
  obtain ⟨rfl, rfl⟩ := trodVars_none hV
  obtain ⟨a0, rfl, _⟩ := okWide_struct Tryd.underlying27 (hval 0 27 v0 rfl rfl)
  have k0 := h0
  have lt0 : ∀ x ∈ p0, x.block < W.heap.size := by obtain ⟨m, hm⟩ := k0; exact DataW.trod_lt m _ _ _ hm
  obtain ⟨x0, hx0, wf0⟩ := Open.agg_arg (d := Px.k27) (Open.struct Tryd.underlying27 (by kernel_rfl) (Open.field_more rfl (Open.int Tryd.underlying3 (by kernel_rfl)) (Open.field_more rfl (Open.int Tryd.underlying3 (by kernel_rfl)) (Open.field_last rfl (Open.struct Tryd.underlying25 (by kernel_rfl) (Open.field_more rfl (Open.int Tryd.underlying3 (by kernel_rfl)) (Open.field_more rfl (Open.struct Tryd.underlying23 (by kernel_rfl) (Open.field_more rfl (Open.string Tryd.underlying9 (by kernel_rfl)) (Open.field_more rfl (Open.string Tryd.underlying9 (by kernel_rfl)) (Open.field_more rfl (Open.string Tryd.underlying9 (by kernel_rfl)) (Open.field_more rfl (Open.int Tryd.underlying3 (by kernel_rfl)) (Open.field_last rfl (Open.string Tryd.underlying9 (by kernel_rfl))))))) (fun x : Px.S23 => (x.f0, x.f1, x.f2, x.f3, x.f4)) (fun y => ⟨y.1, y.2.1, y.2.2.1, y.2.2.2.1, y.2.2.2.2⟩) (fun _ => rfl)) (Open.field_more rfl (Open.int Tryd.underlying3 (by kernel_rfl)) (Open.field_more rfl (Open.int Tryd.underlying3 (by kernel_rfl)) (Open.field_more rfl (Open.int Tryd.underlying3 (by kernel_rfl)) (Open.field_more rfl (Open.bool Tryd.underlying4 (by kernel_rfl)) (Open.field_last rfl (Open.string Tryd.underlying9 (by kernel_rfl))))))))) (fun x : Px.S25 => (x.f0, x.f1, x.f2, x.f3, x.f4, x.f5, x.f6)) (fun y => ⟨y.1, y.2.1, y.2.2.1, y.2.2.2.1, y.2.2.2.2.1, y.2.2.2.2.2.1, y.2.2.2.2.2.2⟩) (fun _ => rfl))))) (fun x : Px.S27 => (x.f0, x.f1, x.f2)) (fun y => ⟨y.1, y.2.1, y.2.2⟩) (fun _ => rfl)) h0 hsz (j := 0) (t := 27) rfl rfl
  obtain ⟨a1, rfl, rfl, rfl, w1⟩ := open_int Tryd.underlying3 (hval 1 3 v1 rfl rfl) h1
  clear hA0 hval0 hsz0 hsz
  have hk := Pure.TicketWrites x0 a1 wf0 w1
  refine (Px.gonglaw23_TicketWrites.whole a0 x0 a1 true W hx0 ⟨HT⟩ hk).mono fun e W' ⟨he, hd⟩ => ?_
  subst he
  have bel : Below W.heap.size W W' := hd
  exact ⟨_, rfl, _, _, _, [], _, [], hW', trodAll_mk1 (shut_bool Tryd.underlying4 _), (trodAll_cons_mk (Below.trod laidOut (by kernel_rfl) (of_decide_eq_true (by kernel_rfl)) k0 bel lt0) (trodAll_cons_mk (shut_int Tryd.underlying3 w1) trodAll_mk0)), rfl, bel.frame _, fun h => by cases h⟩
theorem over : Rows.ticketWritesRow.holds Tryd.pinned (OpenSpec.ofChange Rows.ticketWritesSpec) :=
  OpenClaim.holds_of_wide 3 Tryd.f3 rfl rfl rfl rfl rfl rfl rfl ⟨rfl, rfl, rfl, rfl, rfl⟩ rfl rfl rfl rfl rfl (by kernel_rfl) Tryd.func3 (by kernel_rfl)
    (of_decide_eq_true (by kernel_rfl)) (by unfold Func.isWrapper; first | (rw [if_pos (by decide +kernel)]; kernel_rfl) | (rw [if_neg (by decide +kernel)]; exact ⟨rfl, rfl⟩))
    (fun os started H enc _ => lifted os started H enc)
theorem proved : Rows.TicketWritesCardSaid :=
  Claim7.holds_tied_plain_at .later [] [.data, .data] true (true, "9f82870e36640dfb5702ad76a2b84487ece746f37b5575c84b21c1295ff48b59") false
    over (fun _ h => by cases h) (by kernel_rfl) (fun _ h => by cases h) ticketWrites_row_tie rfl ⟨rfl, rfl⟩ (by kernel_rfl) rfl
    (fun f fn hf hfn => by
      obtain rfl : f = 3 := Option.some.inj ((show Tryd.prog.funcNamed "gong/gonglaw23.TicketWrites" = some 3 by kernel_rfl).symm.trans hf) |>.symm
      obtain rfl : fn = Tryd.f3 := (Option.some.inj (Tryd.func3.symm.trans hfn)).symm
      exact ⟨by kernel_rfl, fun j t ht => by
        rw [Tryd.params3] at ht
        have hm : t ∈ [27, 3] := by simpa using Array.mem_of_getElem? ht
        have hall : ([27, 3].all fun u => !Tryd.prog.wantsStandIn u) = true := by kernel_rfl
        exact (show Tryd.prog.wantsStandIn t = false by simpa using List.all_eq_true.1 hall t hm)⟩)
    (by kernel_rfl)
#print axioms proved
end Go.Proofs.YtipenplplmdclaaDoor.ticketWrites
namespace Go.Proofs.YtipenplplmdclaaDoor
theorem ticketWrites_holds : Rows.TicketWritesCardSaid := ticketWrites.proved
end Go.Proofs.YtipenplplmdclaaDoor
end
