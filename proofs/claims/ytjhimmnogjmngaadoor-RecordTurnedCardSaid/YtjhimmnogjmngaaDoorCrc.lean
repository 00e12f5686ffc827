/- What the sum's register is behind bytes, over whole numbers as the walk tells them. -/
import Derived.Laws.Entries
import Derived.Laws.BitsLemmas
namespace Go.Proofs.YtjhimmnogjmngaaDoor.Crc
open Go

def halfL : List Int := [0, 498536548, 997073096, 651767980, 1994146192, 1802195444, 1303535960, 1342533948, 3988292384, 4027552580, 3604390888, 3412177804, 2607071920, 2262029012, 2685067896, 3183342108]
def nib (c : Int) : Int := Go.bits .xor .u32 (c / 16) (halfL.getD (Go.bits .and .u32 c 15).toNat 0)
def stepI (c : Int) (b : Int) : Int := nib (nib (Go.bits .xor .u32 c b))
def behindI (c : Int) (l : List UInt8) : Int := l.foldl (fun c b => stepI c (b.toNat : Int)) c

theorem u32_range (op : BinOp) (x y : Int) : 0 ≤ Go.bits op .u32 x y ∧ Go.bits op .u32 x y < 4294967296 := by
  unfold Go.bits
  rw [IntKind.wrap_u32]
  exact ⟨Int.emod_nonneg _ (by decide), Int.emod_lt_of_pos _ (by decide)⟩

theorem and15 (c : Int) : Go.bits .and .u32 c 15 = c % 16 := by
  unfold Go.bits
  simp only [IntKind.wrap_u32]
  have h : (BitVec.ofInt 32 c &&& BitVec.ofInt 32 15).toNat = (c % 16).toNat := by
    rw [BitVec.toNat_and]
    show (BitVec.ofInt 32 c).toNat &&& (2 ^ 4 - 1) = (c % 16).toNat
    rw [Nat.and_two_pow_sub_one_eq_mod, BitVec.toNat_ofInt]
    omega
  show ((BitVec.ofInt 32 c &&& BitVec.ofInt 32 15).toNat : Int) % 4294967296 = _
  rw [h]
  omega

theorem behindI_snoc (c : Int) (l : List UInt8) (b : UInt8) : behindI c (l ++ [b]) = stepI (behindI c l) (b.toNat : Int) := by
  simp [behindI, List.foldl_append]

end Go.Proofs.YtjhimmnogjmngaaDoor.Crc
