import Derived.Test.YtckpoeaagbmlbaaGreatK7
import Derived.Test.YtckpoeaagbmlbaaGreatK11
set_option linter.all false
namespace Go.X
open Go Go.RowKit
def C_sAddK (P : Program) (N : FN) : Prop := ∀ {p : Int} {v w : Nat → Int} {k : Int}, Byts v → Byts w → 1 ≤ p ∧ p ≤ 255 → -1000 ≤ k ∧ k ≤ 1000 → Can P N.spec_l01Add [.int .i64 p, vecD v, vecD w, .int .i64 k] (.val (vecD (addV p k v w)))
def spF (a : Alg) (k : Nat) (t : Int) (x : Nat → Int) : Nat → Int := addV a.p (-t) (foldV a (sUnit a) x k) x
def C_sSpace (P : Program) (N : FN) : Prop := ∀ {a : Alg} {k : Nat} {t : Int}, AlgOk a → k ≤ 1000 → 0 ≤ t ∧ t ≤ 1 → Can P N.spec_l05Space [algD a, .int .i64 k, .int .i64 t] (.own 6 ((spaceL a.p a.n.toNat (spF a k t)).map vecL))
def C_prims1 (P : Program) (N : FN) : Prop := ∀ {sz : Nat} {l : List (List D)} {e off : Nat} {a : Alg} {v : Nat → Int}, AlgAt l e off a → AlgOk a → Byts v → Can P N.impl_Algebra_primitives_1 [vecD v, .pd 1 [[.pd sz l e off]] 0 0] (.val (vecD (addV a.p (a.p - 1) (frobI a v 1) v)))
def C_shares (P : Program) (N : FN) : Prop := ∀ {sz : Nat} {l : List (List D)} {e off : Nat} {a : Alg} {b v : Nat → Int}, AlgAt l e off a → CA a → InA a b → InA a v → Can P N.impl_Algebra_shares [.pd sz l e off, vecD v, vecD b] (.own 6 ((sharesL a b v).map vecL))
def C_before (P : Program) (N : FN) : Prop := ∀ {v w : Nat → Int}, Byts v → Byts w → Can P N.spec_l05Before [vecD v, vecD w] (.val (.bool (ltV v w)))
def C_cmp (P : Program) (g : FuncId) : Prop := ∀ {v w : Nat → Int}, Byts v → Byts w → Can P g [vecD v, vecD w] (.val (.int .i64 (cmpV v w)))
def C_prims2 (P : Program) (N : FN) : Prop := C_cmp P N.impl_Algebra_primitives_2
def C_insSort (P : Program) (N : FN) : Prop := ∀ {L : List Row} {g : FuncId}, L.length ≤ 12 → DistV L → (∀ v ∈ L, Byts v) → C_cmp P g →
  Can P N.slices_insertionSortCmpFunc_impl_Vector [.ownA 6 (L.map vecL), .int .i64 0, .int .i64 L.length, .fn g [] []] (.post (some ((sortV L).map vecL)) (.tup []))
def C_pdqSort (P : Program) (N : FN) : Prop := ∀ {L : List Row} {g : FuncId} {k : Int}, L.length ≤ 12 → DistV L → (∀ v ∈ L, Byts v) → C_cmp P g →
  Can P N.slices_pdqsortCmpFunc_impl_Vector [.ownA 6 (L.map vecL), .int .i64 0, .int .i64 L.length, .int .i64 k, .fn g [] []] (.post (some ((sortV L).map vecL)) (.tup []))
def C_SortVec (P : Program) (N : FN) : Prop := ∀ {L : List Row} {g : FuncId}, L.length ≤ 12 → DistV L → (∀ v ∈ L, Byts v) → C_cmp P g →
  Can P N.slices_SortFunc_Limpl_Vector_impl_Vector [.ownA 6 (L.map vecL), .fn g [] []] (.post (some ((sortV L).map vecL)) (.tup []))
def lenU (x : Nat) : UInt8 := if x < 1 then 0 else if x < 2 then 1 else if x < 4 then 2 else if x < 8 then 3 else 4
def lenB (x : Nat) : Int := 0 + ((lenU x).toNat : Int)
def lenS : ByteArray := ⟨#[0, 1, 2, 2, 3, 3, 3, 3, 4, 4, 4, 4, 4, 4, 4, 4, 5, 5, 5, 5, 5, 5, 5, 5, 5, 5, 5, 5, 5, 5, 5, 5, 6, 6, 6, 6, 6, 6, 6, 6, 6, 6, 6, 6, 6, 6, 6, 6, 6, 6, 6, 6, 6, 6, 6, 6, 6, 6, 6, 6, 6, 6, 6, 6, 7, 7, 7, 7, 7, 7, 7, 7, 7, 7, 7, 7, 7, 7, 7, 7, 7, 7, 7, 7, 7, 7, 7, 7, 7, 7, 7, 7, 7, 7, 7, 7, 7, 7, 7, 7, 7, 7, 7, 7, 7, 7, 7, 7, 7, 7, 7, 7, 7, 7, 7, 7, 7, 7, 7, 7, 7, 7, 7, 7, 7, 7, 7, 7, 8, 8, 8, 8, 8, 8, 8, 8, 8, 8, 8, 8, 8, 8, 8, 8, 8, 8, 8, 8, 8, 8, 8, 8, 8, 8, 8, 8, 8, 8, 8, 8, 8, 8, 8, 8, 8, 8, 8, 8, 8, 8, 8, 8, 8, 8, 8, 8, 8, 8, 8, 8, 8, 8, 8, 8, 8, 8, 8, 8, 8, 8, 8, 8, 8, 8, 8, 8, 8, 8, 8, 8, 8, 8, 8, 8, 8, 8, 8, 8, 8, 8, 8, 8, 8, 8, 8, 8, 8, 8, 8, 8, 8, 8, 8, 8, 8, 8, 8, 8, 8, 8, 8, 8, 8, 8, 8, 8, 8, 8, 8, 8, 8, 8, 8, 8, 8, 8, 8, 8, 8, 8, 8, 8, 8, 8, 8, 8]⟩
def C_Len64 (P : Program) (N : FN) : Prop := ∀ {x : Nat}, x ≤ 12 → Can P N.math_bits_Len64 [.int .u64 x] (.val (.int .i64 (lenB x)))
def C_Len (P : Program) (N : FN) : Prop := ∀ {x : Nat}, x ≤ 12 → Can P N.math_bits_Len [.int .u64 x] (.val (.int .i64 (lenB x)))
def bytL (v : Nat → Int) : List (List D) := arr 6 fun i => [.int .u8 (v i)]
def C_bcmp (P : Program) (N : FN) : Prop := ∀ {v w : Nat → Int}, Byts v → Byts w → Can P N.internal_bytealg_Compare [.lst 1 (bytL v), .lst 1 (bytL w)] (.val (.int .i64 (cmpV v w)))
def C_bytesCmp (P : Program) (N : FN) : Prop := ∀ {v w : Nat → Int}, Byts v → Byts w → Can P N.bytes_Compare [.lst 1 (bytL v), .lst 1 (bytL w)] (.val (.int .i64 (cmpV v w)))
def C_prims (P : Program) (N : FN) : Prop := ∀ {sz : Nat} {l : List (List D)} {e off : Nat} {a : Alg}, AlgAt l e off a → CA a → Can P N.impl_Algebra_primitives [.pd sz l e off] (.own 6 ((sortV (primI a)).map vecL))
def C_sPrims (P : Program) (N : FN) : Prop := ∀ {a : Alg}, CA a → Can P N.spec_l05Primitive [algD a] (.own 6 ((sortV (primI a)).map vecL))
end Go.X
