/- Shorter words for the steps of the print: one operation that comes up when it may, and the rules that write a frame out. -/
import Derived.Test.YtnghebedingjaaaDoorWWords
import Derived.Test.YtnghebedingjaaaDoorWLast
namespace Go.Proofs.YtnghebedingjaaaDoor.Px
open Go Go.RowKit Go.Proofs.YtnghebedingjaaaDoorW.PrintWords Go.Proofs.YtnghebedingjaaaDoorW.PrintLast
theorem s1_ (l : List Value) (i : Nat) (v : Value) : l.toArray.setIfInBounds i v = (l.set i v).toArray := List.setIfInBounds_toArray ..
theorem s2_ (a : Value) (l : List Value) (b : Value) : (a :: l).set 0 b = b :: l := rfl
theorem s3_ (a : Value) (l : List Value) (i : Nat) (b : Value) : (a :: l).set (i + 1) b = a :: l.set i b := rfl
def bl_ : Nat → Nat → List Bool
  | 0, _ => []
  | n + 1, m => (m % 2 == 1) :: bl_ n (m / 2)
/-- So many bits of a number. -/
def bz_ (n m : Nat) : Array Bool := ⟨bl_ n m⟩
end Go.Proofs.YtnghebedingjaaaDoor.Px
