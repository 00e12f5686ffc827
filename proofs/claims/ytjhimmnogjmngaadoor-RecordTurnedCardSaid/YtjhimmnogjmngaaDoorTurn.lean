/- Bits turned in a row of bytes, one by one, as the loops of the laws do it: over whole numbers. -/
import Derived.Laws.Entries
import Derived.Laws.BitsLemmas
namespace Go.Proofs.YtjhimmnogjmngaaDoor.Turn
open Go
def flipI (l : List Int) (p : Nat) : List Int := l.set (p / 8) (Go.bits .xor .u8 (l.getD (p / 8) 0) (2 ^ (p % 8) % 256))
def turnI (l : List Int) (p : Nat) (x : Int) : Nat → List Int
  | 0 => l
  | k + 1 => if Go.bits .and .u32 (x / 2 ^ k) 1 = 1 then flipI (turnI l p x k) (p + k) else turnI l p x k
theorem turnI_yes {l : List Int} {p : Nat} {x : Int} {k : Nat} (h : Go.bits .and .u32 (x / 2 ^ k) 1 = 1) : turnI l p x (k + 1) = flipI (turnI l p x k) (p + k) := if_pos h
theorem turnI_no {l : List Int} {p : Nat} {x : Int} {k : Nat} (h : ¬ Go.bits .and .u32 (x / 2 ^ k) 1 = 1) : turnI l p x (k + 1) = turnI l p x k := if_neg h
theorem flipI_length (l : List Int) (p : Nat) : (flipI l p).length = l.length := by simp [flipI]
theorem turnI_length (l : List Int) (p : Nat) (x : Int) (k : Nat) : (turnI l p x k).length = l.length := by
  induction k with
  | zero => rfl
  | succ k ih =>
    unfold turnI
    split
    · rw [flipI_length, ih]
    · exact ih
end Go.Proofs.YtjhimmnogjmngaaDoor.Turn
