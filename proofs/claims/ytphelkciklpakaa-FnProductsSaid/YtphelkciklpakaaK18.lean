import Derived.Test.YtphelkciklpakaaK15
import Derived.Test.YtphelkciklpakaaK5
import Derived.Test.YtphelkciklpakaaK16
set_option linter.all false
namespace Go.X
open Go Go.RowKit
set_option maxRecDepth 100000
def twoV (v w : Row) (i : Nat) : Row := if i = 0 then v else w
theorem twoV_byt {v w : Row} (hv : Byts v) (hw : Byts w) (i : Nat) : Byts (twoV v w i) := by
  unfold twoV; split
  · exact hv
  · exact hw
def mulR (a : Alg) (v w : Row) (b : Bool) : Res := .tup (if b then [vecD (timesV a v w), .int .i64 0] else [vecD Z, .int .i64 1])
noncomputable def addR (a : Alg) (v w : Row) (k : Int) (b : Bool) : Res := .tup (if b then (if 0 ≤ k ∧ k ≤ a.p - 1 then [vecD (addV a.p k v w), .int .i64 0] else [vecD Z, .int .i64 2]) else [vecD Z, .int .i64 1])
def unitR (u : Row) (b : Bool) : Res := .tup (if b then [vecD u, .int .i64 0] else [vecD Z, .int .i64 1])
def formR (a : Alg) (v : Row) (b : Bool) : Res := .tup (if b then [.int .i64 (formV a v), .int .i64 0] else [.int .i64 0, .int .i64 1])
end Go.X
namespace Go.X
open Go Go.RowKit
def C_next (P : Program) (N : FN) : Prop := ∀ {s : Src} {n : Int}, SrcOk s → n ≤ 1000000000000 → Can P N.spec_l01Next [.int .i64 n] (.postB 3 [srcL s] [srcL (nextT s n)] (.val (.int .i64 (nextV s n))))
def C_pick (P : Program) (N : FN) : Prop := ∀ {s : Src} {m : Nat} {f : Row}, SrcOk s → 1 ≤ m ∧ m ≤ 1000 → Can P N.spec_l01Pick [rowD m f] (.postB 3 [srcL s] [srcL (nextT s m)] (.val (.int .i64 (f (nextV s m).toNat))))
def C_drawPrime (P : Program) (N : FN) : Prop := ∀ {s : Src}, SrcOk s → ∃ p s', p ∈ primes ∧ SrcOk s' ∧ Can P N.spec_l01DrawPrime [] (.postB 3 [srcL s] [srcL s'] (.val (.int .i64 p)))
def C_from (P : Program) (N : FN) : Prop := ∀ {m : Nat} {f : Nat → Int}, m ≤ 4096 → (∀ i, 0 ≤ f i ∧ f i ≤ 255) → ∃ s, SrcOk s ∧ Can P N.spec_l01From [.lst 1 (nbL f m)] (.ownB 3 [srcL s])
end Go.X
namespace Go.X
open Go Go.RowKit
def ir_spec_DrawAddVectors (N : FN) : CF := ⟨1, 28, [(.cell 2 (some 224)), (.cell 3 (some 6)), (.cell 4 (some 6)), (.tmp 5)], (.seq (.reg false [3, 4, 5] [(rO 2 (.alloc algZ)), (rO 3 (.alloc [(.int .u8 0), (.int .u8 0), (.int .u8 0), (.int .u8 0), (.int .u8 0), (.int .u8 0)])), (rO 4 (.alloc [(.int .u8 0), (.int .u8 0), (.int .u8 0), (.int .u8 0), (.int .u8 0), (.int .u8 0)])), (rO 5 (.mov (.c (.int .i64 0))))]) (.seq (.reg false [11] [(rO 9 (.mov (.t 0))), (rO 10 (.call N.spec_l01From [(.t 9)])), (rO 6 (.mov (.t 10)))]) (.seq (.reg false [14, 8, 9] [(rO 12 (.mov (.t 6))), (rO 13 (.callM N.spec_l01With (.t 12) [])), (rO 11 (.mov (.t 13))), (rO 14 (.extract (.t 11) 0)), (rO 15 (.extract (.t 11) 1)), (rO 7 (.alloc algZ)), (rO 8 (.alloc [(.int .u8 0), (.int .u8 0), (.int .u8 0), (.int .u8 0), (.int .u8 0), (.int .u8 0)])), ⟨none, 36, (.store (some 224) (.t 7) (.t 14)), none, [], none⟩, ⟨none, 37, (.store (some 6) (.t 8) (.t 15)), none, [], none⟩]) (.seq (.drawM [21, 28] [⟨(some 16), 17, (.load (some 224) (.t 7)), none, [21, 28], none⟩, ⟨(some 17), 18, (.load (some 6) (.t 8)), none, [21, 28, 3], none⟩, (rO 18 (.mov (.t 6))), ⟨(some 19), 20, (.load (some 224) (.t 7)), none, [21, 28], none⟩, ⟨(some 20), 21, (.call N.spec_l01DrawVector [(.t 18), (.t 19)]), none, [28], none⟩, (rO 21 (.mov (.t 6))), (rO 22 (.faddr 0 (.t 7))), ⟨(some 23), 24, (.load none (.t 22)), none, [21, 28], none⟩, (rO 24 (.arith .sub (.t 23) (.c (.int .i64 1)))), (rO 25 (.mm true (.t 24) (.c (.int .i64 0)))), (rO 26 (.mm false (.t 25) (.c (.int .i64 12)))), (rO 27 (.call N.spec_l01Near [(.t 21), (.t 26)])), ⟨none, 41, (.store (some 224) (.t 2) (.t 16)), none, [], (some [3])⟩, ⟨none, 42, (.store (some 6) (.t 3) (.t 17)), none, [], (some [4])⟩, ⟨none, 43, (.store (some 6) (.t 4) (.t 20)), none, [], (some [5])⟩, (rO 5 (.mov (.t 27)))] [⟨(some 16), 17, (.load (some 224) (.t 7)), none, [11, 21, 28], none⟩, ⟨(some 17), 18, (.load (some 6) (.t 8)), none, [3, 11, 21, 28], none⟩, (rO 18 (.mov (.t 6))), ⟨(some 19), 20, (.load (some 224) (.t 7)), none, [11, 21, 28], none⟩, ⟨(some 20), 21, (.callM N.spec_l01DrawVector (.t 18) [(.t 19)]), none, [3, 4, 5, 21, 28], (some [11])⟩, (rO 21 (.mov (.t 6))), (rO 22 (.faddr 0 (.t 7))), ⟨(some 23), 24, (.load none (.t 22)), none, [11, 21, 28], none⟩, (rO 24 (.arith .sub (.t 23) (.c (.int .i64 1)))), (rO 25 (.mm true (.t 24) (.c (.int .i64 0)))), (rO 26 (.mm false (.t 25) (.c (.int .i64 12)))), ⟨(some 27), 28, (.callM N.spec_l01Near (.t 21) [(.t 26)]), none, [3, 4, 5, 21, 28], (some [11])⟩, ⟨none, 41, (.store (some 224) (.t 2) (.t 16)), none, [11], (some [3])⟩, ⟨none, 42, (.store (some 6) (.t 3) (.t 17)), none, [11], (some [4])⟩, ⟨none, 43, (.store (some 6) (.t 4) (.t 20)), none, [11], (some [5])⟩, (rO 5 (.mov (.t 27)))]) .ret))))⟩
end Go.X
