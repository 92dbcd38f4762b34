import Derived.Test.YtphelkciklpakaaK13
import Derived.Test.YtphelkciklpakaaK5
import Derived.Lib.Join
import Derived.Test.YtphelkciklpakaaK12
set_option linter.all false
namespace Go.X
open Go Go.RowKit
set_option maxRecDepth 100000
def strsL (xs : List ByteArray) : List (List D) := xs.map fun s => [.str s]
def nbL (v : Nat → Int) (n : Nat) : List (List D) := arr n fun i => [.int .u8 (v i)]
theorem nb_len (v : Nat → Int) (n : Nat) : (nbL v n).length = n := arr_len ..
theorem nb_get {v : Nat → Int} {n i : Nat} (h : i < n) : get2 (nbL v n) ((i : Nat) : Int).toNat 0 = some (.int .u8 (v i)) := by
  unfold get2 nbL
  rw [Int.toNat_natCast, arr_get h]; rfl
end Go.X
namespace Go.X
open Go Go.RowKit
end Go.X
namespace Go.X
open Go Go.RowKit
end Go.X
