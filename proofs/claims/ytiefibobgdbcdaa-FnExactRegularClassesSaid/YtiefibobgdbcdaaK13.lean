import Derived.Test.YtiefibobgdbcdaaK12
import Derived.Test.YtiefibobgdbcdaaK2
import Derived.Test.YtiefibobgdbcdaaK3
import Derived.Test.YtiefibobgdbcdaaK8
import Derived.Test.YtiefibobgdbcdaaK5
import Derived.Lib.BytesEntry
set_option linter.all false
namespace Go.X
open Go Go.RowKit
def C_gN (P : Program) (N : FN) : Prop := ∀ {sz : Nat} {l : List (List D)} {e off : Nat} {g : Grp}, GrpAt l e off g → Can P N.impl_Group_n [.pd sz l e off] (.val (.int .i64 g.n))
def C_gTimes (P : Program) (N : FN) : Prop := ∀ {sz : Nat} {l : List (List D)} {e off : Nat} {g : Grp} {i j : Nat}, GrpAt l e off g → GrpB g → i < 6 → j < 6 → Can P N.impl_Group_times [.pd sz l e off, .int .i64 i, .int .i64 j] (.val (.int .i64 (g.t i j)))
def C_gInverse (P : Program) (N : FN) : Prop := ∀ {sz : Nat} {l : List (List D)} {e off : Nat} {g : Grp} {i : Nat}, GrpAt l e off g → GrpB g → 0 ≤ g.n ∧ g.n ≤ 6 → i < 6 → Can P N.impl_Group_inverse [.pd sz l e off, .int .i64 i] (.val (.int .i64 (idxF (fun j => decide (g.t i j = 0 ∧ g.t j i = 0)) g.n.toNat)))
def C_gEntries (P : Program) (N : FN) : Prop := ∀ {sz : Nat} {l : List (List D)} {e off : Nat} {g : Grp}, GrpAt l e off g → GrpB g → Can P N.impl_Group_entriesOk [.pd sz l e off] (.val (.bool (dB (entP g))))
def C_IsGroup (P : Program) (N : FN) : Prop := ∀ {g : Grp}, GrpB g → Can P N.impl_IsGroup [grpD g] (.val (.bool (dB (GP g))))
def C_sIsG (P : Program) (N : FN) : Prop := ∀ {g : Grp}, GrpB g → Can P N.spec_l06Is [grpD g] (.val (.bool (dB (GP g))))
end Go.X
namespace Go.X
open Go Go.RowKit
end Go.X
namespace Go.X
open Go Go.RowKit
end Go.X
namespace Go.X
open Go Go.RowKit
section
variable {P : Program} {N : FN}
end
end Go.X
