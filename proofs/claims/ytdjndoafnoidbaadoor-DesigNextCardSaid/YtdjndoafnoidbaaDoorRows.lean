/-
  NARROWER THAN 'FOR EVERY INPUT', by the rows' own cells (each row's printed sentence says how): DesigOrders: laid · DesigTexts: laid · DesigBack: laid · DesigHalves: laid · DesigNames: laid · DesigSorted: laid · DesigNext: laid.
  DERIVED. THE GIVEN ROWS OF THIS SEAT. 7 by the template 'for every input the law returns true; each argument reads behind the call as it read before'; 0 by the template 'total and deterministic' (their statements: YtdjndoafnoidbaaDoorTotals.lean).
  GIVEN WITH THE SEED: the statements are not yours to turn. If you find one false, say at which input.
  Laid BY PROGRAM, IN A SANDBOX (cutbox-rows.mjs): the forced cells as the released guide's own fill.sh prints them over the translation 64e68be339764bdf… (all of the seat's roots in one cut). By AI agents, Wed Nov 11 2026. No macro, syntax, notation, axiom, sorry.
-/
import Derived.Test.YtdjndoafnoidbaaDoorChecked
import GoSem.Claim
import GoSem.ClaimJoined
import GoSem.ClaimMapViews
import Derived.JoinedTies
import Derived.KernelRfl
namespace Go.Proofs.YtdjndoafnoidbaaDoor
/- THE CELL 'sum', in the pinned program and in every row, IS THE sha256 OF THE DUMP (.gsa) THAT YtdjndoafnoidbaaDoorProg.lean LOADS. Nothing in Lean hashes anything: it is a label: what it is worth is what the hold of that sum in a sandbox is worth. -/
noncomputable def Tryd.pinned : Pinned := { name := "ytdjndoafnoidbaadoor", sum := "64e68be339764bdfaf822b7f606ca53a4fa11a1d3c0da5c6c65a0fa841f7b4f7", checked := Tryd.checked }
namespace Rows
def none {H : Type} : Left H := { results := [], args := [] }

/- WHAT THE LISTED PACKAGE-LEVEL VARIABLES READ AS WHEN THE CALL BEGINS. Each datum BY PROGRAM (the guide's laid-datum.mjs) off the statement by which the dump's own 'gosem.cut.vars' lays the variable. In a bare row this is a premise. The card (YtdjndoafnoidbaaDoorCards.lean) ties it to the program's text. -/
def laid_planisphere_desig_orders {H : Type} : DataW H := .agg [.lit (.int .i32 65), .lit (.int .i32 66), .lit (.int .i32 67), .lit (.int .i32 68), .lit (.int .i32 69), .lit (.int .i32 70), .lit (.int .i32 71), .lit (.int .i32 72), .lit (.int .i32 74), .lit (.int .i32 75), .lit (.int .i32 76), .lit (.int .i32 77), .lit (.int .i32 78), .lit (.int .i32 79), .lit (.int .i32 80), .lit (.int .i32 81), .lit (.int .i32 82), .lit (.int .i32 83), .lit (.int .i32 84), .lit (.int .i32 85), .lit (.int .i32 86), .lit (.int .i32 87), .lit (.int .i32 88), .lit (.int .i32 89), .lit (.int .i32 90)]
def laid_math_bits_deBruijn32tab {H : Type} : DataW H := .agg [.lit (.int .u8 0), .lit (.int .u8 1), .lit (.int .u8 28), .lit (.int .u8 2), .lit (.int .u8 29), .lit (.int .u8 14), .lit (.int .u8 24), .lit (.int .u8 3), .lit (.int .u8 30), .lit (.int .u8 22), .lit (.int .u8 20), .lit (.int .u8 15), .lit (.int .u8 25), .lit (.int .u8 17), .lit (.int .u8 4), .lit (.int .u8 8), .lit (.int .u8 31), .lit (.int .u8 27), .lit (.int .u8 13), .lit (.int .u8 23), .lit (.int .u8 21), .lit (.int .u8 19), .lit (.int .u8 16), .lit (.int .u8 7), .lit (.int .u8 26), .lit (.int .u8 12), .lit (.int .u8 18), .lit (.int .u8 6), .lit (.int .u8 11), .lit (.int .u8 5), .lit (.int .u8 10), .lit (.int .u8 9)]
def laid_math_bits_deBruijn64tab {H : Type} : DataW H := .agg [.lit (.int .u8 0), .lit (.int .u8 1), .lit (.int .u8 56), .lit (.int .u8 2), .lit (.int .u8 57), .lit (.int .u8 49), .lit (.int .u8 28), .lit (.int .u8 3), .lit (.int .u8 61), .lit (.int .u8 58), .lit (.int .u8 42), .lit (.int .u8 50), .lit (.int .u8 38), .lit (.int .u8 29), .lit (.int .u8 17), .lit (.int .u8 4), .lit (.int .u8 62), .lit (.int .u8 47), .lit (.int .u8 59), .lit (.int .u8 36), .lit (.int .u8 45), .lit (.int .u8 43), .lit (.int .u8 51), .lit (.int .u8 22), .lit (.int .u8 53), .lit (.int .u8 39), .lit (.int .u8 33), .lit (.int .u8 30), .lit (.int .u8 24), .lit (.int .u8 18), .lit (.int .u8 12), .lit (.int .u8 5), .lit (.int .u8 63), .lit (.int .u8 55), .lit (.int .u8 48), .lit (.int .u8 27), .lit (.int .u8 60), .lit (.int .u8 41), .lit (.int .u8 37), .lit (.int .u8 16), .lit (.int .u8 46), .lit (.int .u8 35), .lit (.int .u8 44), .lit (.int .u8 21), .lit (.int .u8 52), .lit (.int .u8 32), .lit (.int .u8 23), .lit (.int .u8 11), .lit (.int .u8 54), .lit (.int .u8 26), .lit (.int .u8 40), .lit (.int .u8 15), .lit (.int .u8 34), .lit (.int .u8 20), .lit (.int .u8 31), .lit (.int .u8 10), .lit (.int .u8 25), .lit (.int .u8 14), .lit (.int .u8 19), .lit (.int .u8 9), .lit (.int .u8 13), .lit (.int .u8 8), .lit (.int .u8 7), .lit (.int .u8 6)]
def laid_internal_strconv_uint64pow10 {H : Type} : DataW H := .agg [.lit (.int .u64 1), .lit (.int .u64 10), .lit (.int .u64 100), .lit (.int .u64 1000), .lit (.int .u64 10000), .lit (.int .u64 100000), .lit (.int .u64 1000000), .lit (.int .u64 10000000), .lit (.int .u64 100000000), .lit (.int .u64 1000000000), .lit (.int .u64 10000000000), .lit (.int .u64 100000000000), .lit (.int .u64 1000000000000), .lit (.int .u64 10000000000000), .lit (.int .u64 100000000000000), .lit (.int .u64 1000000000000000), .lit (.int .u64 10000000000000000), .lit (.int .u64 100000000000000000), .lit (.int .u64 1000000000000000000), .lit (.int .u64 10000000000000000000)]

/-- 'planispherelaw28.DesigOrders': WHATEVER THE INPUT: true; the input reads as it did. -/
def desigOrdersSpec : ChangeSpec := { name := "desigOrders", fn := fun _ => fun
  | [d1, d2, d3, d4, d5, d6] => { results := [.lit (.bool true)], args := [d1, d2, d3, d4, d5, d6] }
  | _ => none }
def desigOrdersRow : OpenClaim := { program := "ytdjndoafnoidbaadoor", sum := "64e68be339764bdfaf822b7f606ca53a4fa11a1d3c0da5c6c65a0fa841f7b4f7", func := "planisphere/planispherelaw28.DesigOrders", spec := "desigOrders", named := ["planisphere/desig.orders"], apart := false, laid := [("planisphere/desig.orders", laid_planisphere_desig_orders)] }
def DesigOrdersSaid : Prop := desigOrdersRow.holds Tryd.pinned (OpenSpec.ofChange desigOrdersSpec)

/-- ITS FALSE NEIGHBOUR: 'it returns false'. Refute it at one input. -/
def desigOrdersWrong : ChangeSpec := { name := "desigOrders", fn := fun _ => fun
  | [d1, d2, d3, d4, d5, d6] => { results := [.lit (.bool false)], args := [d1, d2, d3, d4, d5, d6] }
  | _ => none }
def DesigOrdersWrongFalsely : Prop := desigOrdersRow.holds Tryd.pinned (OpenSpec.ofChange desigOrdersWrong)

/-- 'planispherelaw28.DesigTexts': WHATEVER THE INPUT: true; the input reads as it did. -/
def desigTextsSpec : ChangeSpec := { name := "desigTexts", fn := fun _ => fun
  | [d1, d2, d3] => { results := [.lit (.bool true)], args := [d1, d2, d3] }
  | _ => none }
def desigTextsRow : OpenClaim := { program := "ytdjndoafnoidbaadoor", sum := "64e68be339764bdfaf822b7f606ca53a4fa11a1d3c0da5c6c65a0fa841f7b4f7", func := "planisphere/planispherelaw28.DesigTexts", spec := "desigTexts", inPlace := ["internal/abi.NoEscape", "internal/bytealg.MakeNoZero", "internal/bytealg.IndexByteString", "internal/bytealg.IndexString"], named := ["planisphere/desig.orders", "internal/strconv.uint64pow10", "math/bits.deBruijn32tab", "math/bits.deBruijn64tab", "internal/bytealg.MaxLen"], apart := false, laid := [("math/bits.deBruijn32tab", laid_math_bits_deBruijn32tab), ("math/bits.deBruijn64tab", laid_math_bits_deBruijn64tab), ("internal/strconv.uint64pow10", laid_internal_strconv_uint64pow10), ("planisphere/desig.orders", laid_planisphere_desig_orders)] }
def DesigTextsSaid : Prop := desigTextsRow.holds Tryd.pinned (OpenSpec.ofChange desigTextsSpec)

/-- ITS FALSE NEIGHBOUR: 'it returns false'. Refute it at one input. -/
def desigTextsWrong : ChangeSpec := { name := "desigTexts", fn := fun _ => fun
  | [d1, d2, d3] => { results := [.lit (.bool false)], args := [d1, d2, d3] }
  | _ => none }
def DesigTextsWrongFalsely : Prop := desigTextsRow.holds Tryd.pinned (OpenSpec.ofChange desigTextsWrong)

/-- 'planispherelaw28.DesigBack': WHATEVER THE INPUT: true; the input reads as it did. -/
def desigBackSpec : ChangeSpec := { name := "desigBack", fn := fun _ => fun
  | [d1, d2, d3] => { results := [.lit (.bool true)], args := [d1, d2, d3] }
  | _ => none }
def desigBackRow : OpenClaim := { program := "ytdjndoafnoidbaadoor", sum := "64e68be339764bdfaf822b7f606ca53a4fa11a1d3c0da5c6c65a0fa841f7b4f7", func := "planisphere/planispherelaw28.DesigBack", spec := "desigBack", inPlace := ["internal/bytealg.IndexByteString", "internal/bytealg.IndexString", "internal/abi.NoEscape", "internal/bytealg.MakeNoZero"], named := ["planisphere/desig.orders", "internal/strconv.uint64pow10", "math/bits.deBruijn32tab", "math/bits.deBruijn64tab", "internal/bytealg.MaxLen"], apart := false, laid := [("math/bits.deBruijn32tab", laid_math_bits_deBruijn32tab), ("math/bits.deBruijn64tab", laid_math_bits_deBruijn64tab), ("internal/strconv.uint64pow10", laid_internal_strconv_uint64pow10), ("planisphere/desig.orders", laid_planisphere_desig_orders)] }
def DesigBackSaid : Prop := desigBackRow.holds Tryd.pinned (OpenSpec.ofChange desigBackSpec)

/-- ITS FALSE NEIGHBOUR: 'it returns false'. Refute it at one input. -/
def desigBackWrong : ChangeSpec := { name := "desigBack", fn := fun _ => fun
  | [d1, d2, d3] => { results := [.lit (.bool false)], args := [d1, d2, d3] }
  | _ => none }
def DesigBackWrongFalsely : Prop := desigBackRow.holds Tryd.pinned (OpenSpec.ofChange desigBackWrong)

/-- 'planispherelaw28.DesigHalves': WHATEVER THE INPUT: true; the input reads as it did. -/
def desigHalvesSpec : ChangeSpec := { name := "desigHalves", fn := fun _ => fun
  | [d1, d2, d3, d4] => { results := [.lit (.bool true)], args := [d1, d2, d3, d4] }
  | _ => none }
def desigHalvesRow : OpenClaim := { program := "ytdjndoafnoidbaadoor", sum := "64e68be339764bdfaf822b7f606ca53a4fa11a1d3c0da5c6c65a0fa841f7b4f7", func := "planisphere/planispherelaw28.DesigHalves", spec := "desigHalves", inPlace := ["internal/bytealg.IndexByteString", "internal/bytealg.IndexString", "internal/abi.NoEscape", "internal/bytealg.MakeNoZero"], named := ["planisphere/desig.orders", "internal/strconv.uint64pow10", "math/bits.deBruijn32tab", "math/bits.deBruijn64tab", "internal/bytealg.MaxLen"], apart := false, laid := [("math/bits.deBruijn32tab", laid_math_bits_deBruijn32tab), ("math/bits.deBruijn64tab", laid_math_bits_deBruijn64tab), ("internal/strconv.uint64pow10", laid_internal_strconv_uint64pow10), ("planisphere/desig.orders", laid_planisphere_desig_orders)] }
def DesigHalvesSaid : Prop := desigHalvesRow.holds Tryd.pinned (OpenSpec.ofChange desigHalvesSpec)

/-- ITS FALSE NEIGHBOUR: 'it returns false'. Refute it at one input. -/
def desigHalvesWrong : ChangeSpec := { name := "desigHalves", fn := fun _ => fun
  | [d1, d2, d3, d4] => { results := [.lit (.bool false)], args := [d1, d2, d3, d4] }
  | _ => none }
def DesigHalvesWrongFalsely : Prop := desigHalvesRow.holds Tryd.pinned (OpenSpec.ofChange desigHalvesWrong)

/-- 'planispherelaw28.DesigNames': WHATEVER THE INPUT: true; the input reads as it did. -/
def desigNamesSpec : ChangeSpec := { name := "desigNames", fn := fun _ => fun
  | [] => { results := [.lit (.bool true)], args := [] }
  | _ => none }
def desigNamesRow : OpenClaim := { program := "ytdjndoafnoidbaadoor", sum := "64e68be339764bdfaf822b7f606ca53a4fa11a1d3c0da5c6c65a0fa841f7b4f7", func := "planisphere/planispherelaw28.DesigNames", spec := "desigNames", inPlace := ["internal/bytealg.IndexByteString", "internal/bytealg.IndexString", "internal/abi.NoEscape", "internal/bytealg.MakeNoZero"], named := ["planisphere/desig.orders", "internal/strconv.uint64pow10", "math/bits.deBruijn32tab", "math/bits.deBruijn64tab", "internal/bytealg.MaxLen"], apart := false, laid := [("math/bits.deBruijn32tab", laid_math_bits_deBruijn32tab), ("math/bits.deBruijn64tab", laid_math_bits_deBruijn64tab), ("internal/strconv.uint64pow10", laid_internal_strconv_uint64pow10), ("planisphere/desig.orders", laid_planisphere_desig_orders)] }
def DesigNamesSaid : Prop := desigNamesRow.holds Tryd.pinned (OpenSpec.ofChange desigNamesSpec)

/-- ITS FALSE NEIGHBOUR: 'it returns false'. Refute it at one input. -/
def desigNamesWrong : ChangeSpec := { name := "desigNames", fn := fun _ => fun
  | [] => { results := [.lit (.bool false)], args := [] }
  | _ => none }
def DesigNamesWrongFalsely : Prop := desigNamesRow.holds Tryd.pinned (OpenSpec.ofChange desigNamesWrong)

/-- 'planispherelaw28.DesigSorted': WHATEVER THE INPUT: true; the input reads as it did. -/
def desigSortedSpec : ChangeSpec := { name := "desigSorted", fn := fun _ => fun
  | [d1, d2, d3] => { results := [.lit (.bool true)], args := [d1, d2, d3] }
  | _ => none }
def desigSortedRow : OpenClaim := { program := "ytdjndoafnoidbaadoor", sum := "64e68be339764bdfaf822b7f606ca53a4fa11a1d3c0da5c6c65a0fa841f7b4f7", func := "planisphere/planispherelaw28.DesigSorted", spec := "desigSorted", inPlace := ["internal/bytealg.IndexByteString", "internal/bytealg.IndexString", "internal/abi.NoEscape", "internal/bytealg.MakeNoZero"], named := ["planisphere/desig.orders", "internal/strconv.uint64pow10", "math/bits.deBruijn32tab", "math/bits.deBruijn64tab", "internal/bytealg.MaxLen"], apart := false, laid := [("math/bits.deBruijn32tab", laid_math_bits_deBruijn32tab), ("math/bits.deBruijn64tab", laid_math_bits_deBruijn64tab), ("internal/strconv.uint64pow10", laid_internal_strconv_uint64pow10), ("planisphere/desig.orders", laid_planisphere_desig_orders)] }
def DesigSortedSaid : Prop := desigSortedRow.holds Tryd.pinned (OpenSpec.ofChange desigSortedSpec)

/-- ITS FALSE NEIGHBOUR: 'it returns false'. Refute it at one input. -/
def desigSortedWrong : ChangeSpec := { name := "desigSorted", fn := fun _ => fun
  | [d1, d2, d3] => { results := [.lit (.bool false)], args := [d1, d2, d3] }
  | _ => none }
def DesigSortedWrongFalsely : Prop := desigSortedRow.holds Tryd.pinned (OpenSpec.ofChange desigSortedWrong)

/-- 'planispherelaw28.DesigNext': WHATEVER THE INPUT: true; the input reads as it did. -/
def desigNextSpec : ChangeSpec := { name := "desigNext", fn := fun _ => fun
  | [d1, d2, d3] => { results := [.lit (.bool true)], args := [d1, d2, d3] }
  | _ => none }
def desigNextRow : OpenClaim := { program := "ytdjndoafnoidbaadoor", sum := "64e68be339764bdfaf822b7f606ca53a4fa11a1d3c0da5c6c65a0fa841f7b4f7", func := "planisphere/planispherelaw28.DesigNext", spec := "desigNext", inPlace := ["internal/bytealg.IndexByteString", "internal/bytealg.IndexString", "internal/abi.NoEscape", "internal/bytealg.MakeNoZero"], named := ["planisphere/desig.orders", "internal/strconv.uint64pow10", "math/bits.deBruijn32tab", "math/bits.deBruijn64tab", "internal/bytealg.MaxLen"], apart := false, laid := [("math/bits.deBruijn32tab", laid_math_bits_deBruijn32tab), ("math/bits.deBruijn64tab", laid_math_bits_deBruijn64tab), ("internal/strconv.uint64pow10", laid_internal_strconv_uint64pow10), ("planisphere/desig.orders", laid_planisphere_desig_orders)] }
def DesigNextSaid : Prop := desigNextRow.holds Tryd.pinned (OpenSpec.ofChange desigNextSpec)

/-- ITS FALSE NEIGHBOUR: 'it returns false'. Refute it at one input. -/
def desigNextWrong : ChangeSpec := { name := "desigNext", fn := fun _ => fun
  | [d1, d2, d3] => { results := [.lit (.bool false)], args := [d1, d2, d3] }
  | _ => none }
def DesigNextWrongFalsely : Prop := desigNextRow.holds Tryd.pinned (OpenSpec.ofChange desigNextWrong)

/- THE SECOND FORM. 'bulk': how many values and letters a reading holds, each counted each time it is reached (what is shared counts as often as it is met; a slice's spare places count too). A statement '..UptoSaid' is the law's where the arguments, and the package variables that the reading takes, are together of bulk at most 1048576: NARROWER than '..Said'. Prove '..Said' where nothing that the law and all that it calls make is longer than what came in: it says more and counts as full. Else prove '..UptoSaid'. A law counts once. -/
mutual
def uptoBulk {H : Type} : DataW H → Nat
  | .lit (.string bytes) => bytes.length + 1
  | .lit _ => 1
  | .nil => 1
  | .ptr d => uptoBulk d + 1
  | .slice elems spare => uptoBulkAll elems + uptoBulkAll spare + 1
  | .agg parts => uptoBulkAll parts + 1
  | .iface _ d => uptoBulk d + 1
  | .map entries => uptoBulkEntries entries + 1
  | .held _ => 1
def uptoBulkAll {H : Type} : List (DataW H) → Nat
  | [] => 0
  | d :: r => uptoBulk d + uptoBulkAll r
def uptoBulkEntries {H : Type} : List (Lit × DataW H) → Nat
  | [] => 0
  | x :: r => uptoBulkEntry x + uptoBulkEntries r
def uptoBulkEntry {H : Type} : Lit × DataW H → Nat
  | (.string bytes, d) => bytes.length + uptoBulk d + 1
  | (_, d) => uptoBulk d + 1
 end
def uptoSmall : (H : Type) → List (DataW H) → Bool := fun _ ds => decide (uptoBulkAll ds ≤ 1048576)
def OpenSpec.upto (s : _root_.Go.ChangeSpec) : _root_.Go.OpenSpec := { _root_.Go.OpenSpec.ofChange s with cond := some uptoSmall }

/-- 'planispherelaw28.DesigOrders', WHERE WHAT IT READS IS OF BULK AT MOST 1048576: true; the input reads as it did. -/
def desigOrdersUptoRow : OpenClaim := { program := "ytdjndoafnoidbaadoor", sum := "64e68be339764bdfaf822b7f606ca53a4fa11a1d3c0da5c6c65a0fa841f7b4f7", func := "planisphere/planispherelaw28.DesigOrders", spec := "desigOrders", named := ["planisphere/desig.orders"], apart := false, laid := [("planisphere/desig.orders", laid_planisphere_desig_orders)], narrowed := true }
def DesigOrdersUptoSaid : Prop := desigOrdersUptoRow.holds Tryd.pinned (OpenSpec.upto desigOrdersSpec)

/-- 'planispherelaw28.DesigTexts', WHERE WHAT IT READS IS OF BULK AT MOST 1048576: true; the input reads as it did. -/
def desigTextsUptoRow : OpenClaim := { program := "ytdjndoafnoidbaadoor", sum := "64e68be339764bdfaf822b7f606ca53a4fa11a1d3c0da5c6c65a0fa841f7b4f7", func := "planisphere/planispherelaw28.DesigTexts", spec := "desigTexts", inPlace := ["internal/abi.NoEscape", "internal/bytealg.MakeNoZero", "internal/bytealg.IndexByteString", "internal/bytealg.IndexString"], named := ["planisphere/desig.orders", "internal/strconv.uint64pow10", "math/bits.deBruijn32tab", "math/bits.deBruijn64tab", "internal/bytealg.MaxLen"], apart := false, laid := [("math/bits.deBruijn32tab", laid_math_bits_deBruijn32tab), ("math/bits.deBruijn64tab", laid_math_bits_deBruijn64tab), ("internal/strconv.uint64pow10", laid_internal_strconv_uint64pow10), ("planisphere/desig.orders", laid_planisphere_desig_orders)], narrowed := true }
def DesigTextsUptoSaid : Prop := desigTextsUptoRow.holds Tryd.pinned (OpenSpec.upto desigTextsSpec)

/-- 'planispherelaw28.DesigBack', WHERE WHAT IT READS IS OF BULK AT MOST 1048576: true; the input reads as it did. -/
def desigBackUptoRow : OpenClaim := { program := "ytdjndoafnoidbaadoor", sum := "64e68be339764bdfaf822b7f606ca53a4fa11a1d3c0da5c6c65a0fa841f7b4f7", func := "planisphere/planispherelaw28.DesigBack", spec := "desigBack", inPlace := ["internal/bytealg.IndexByteString", "internal/bytealg.IndexString", "internal/abi.NoEscape", "internal/bytealg.MakeNoZero"], named := ["planisphere/desig.orders", "internal/strconv.uint64pow10", "math/bits.deBruijn32tab", "math/bits.deBruijn64tab", "internal/bytealg.MaxLen"], apart := false, laid := [("math/bits.deBruijn32tab", laid_math_bits_deBruijn32tab), ("math/bits.deBruijn64tab", laid_math_bits_deBruijn64tab), ("internal/strconv.uint64pow10", laid_internal_strconv_uint64pow10), ("planisphere/desig.orders", laid_planisphere_desig_orders)], narrowed := true }
def DesigBackUptoSaid : Prop := desigBackUptoRow.holds Tryd.pinned (OpenSpec.upto desigBackSpec)

/-- 'planispherelaw28.DesigHalves', WHERE WHAT IT READS IS OF BULK AT MOST 1048576: true; the input reads as it did. -/
def desigHalvesUptoRow : OpenClaim := { program := "ytdjndoafnoidbaadoor", sum := "64e68be339764bdfaf822b7f606ca53a4fa11a1d3c0da5c6c65a0fa841f7b4f7", func := "planisphere/planispherelaw28.DesigHalves", spec := "desigHalves", inPlace := ["internal/bytealg.IndexByteString", "internal/bytealg.IndexString", "internal/abi.NoEscape", "internal/bytealg.MakeNoZero"], named := ["planisphere/desig.orders", "internal/strconv.uint64pow10", "math/bits.deBruijn32tab", "math/bits.deBruijn64tab", "internal/bytealg.MaxLen"], apart := false, laid := [("math/bits.deBruijn32tab", laid_math_bits_deBruijn32tab), ("math/bits.deBruijn64tab", laid_math_bits_deBruijn64tab), ("internal/strconv.uint64pow10", laid_internal_strconv_uint64pow10), ("planisphere/desig.orders", laid_planisphere_desig_orders)], narrowed := true }
def DesigHalvesUptoSaid : Prop := desigHalvesUptoRow.holds Tryd.pinned (OpenSpec.upto desigHalvesSpec)

/-- 'planispherelaw28.DesigNames', WHERE WHAT IT READS IS OF BULK AT MOST 1048576: true; the input reads as it did. -/
def desigNamesUptoRow : OpenClaim := { program := "ytdjndoafnoidbaadoor", sum := "64e68be339764bdfaf822b7f606ca53a4fa11a1d3c0da5c6c65a0fa841f7b4f7", func := "planisphere/planispherelaw28.DesigNames", spec := "desigNames", inPlace := ["internal/bytealg.IndexByteString", "internal/bytealg.IndexString", "internal/abi.NoEscape", "internal/bytealg.MakeNoZero"], named := ["planisphere/desig.orders", "internal/strconv.uint64pow10", "math/bits.deBruijn32tab", "math/bits.deBruijn64tab", "internal/bytealg.MaxLen"], apart := false, laid := [("math/bits.deBruijn32tab", laid_math_bits_deBruijn32tab), ("math/bits.deBruijn64tab", laid_math_bits_deBruijn64tab), ("internal/strconv.uint64pow10", laid_internal_strconv_uint64pow10), ("planisphere/desig.orders", laid_planisphere_desig_orders)], narrowed := true }
def DesigNamesUptoSaid : Prop := desigNamesUptoRow.holds Tryd.pinned (OpenSpec.upto desigNamesSpec)

/-- 'planispherelaw28.DesigSorted', WHERE WHAT IT READS IS OF BULK AT MOST 1048576: true; the input reads as it did. -/
def desigSortedUptoRow : OpenClaim := { program := "ytdjndoafnoidbaadoor", sum := "64e68be339764bdfaf822b7f606ca53a4fa11a1d3c0da5c6c65a0fa841f7b4f7", func := "planisphere/planispherelaw28.DesigSorted", spec := "desigSorted", inPlace := ["internal/bytealg.IndexByteString", "internal/bytealg.IndexString", "internal/abi.NoEscape", "internal/bytealg.MakeNoZero"], named := ["planisphere/desig.orders", "internal/strconv.uint64pow10", "math/bits.deBruijn32tab", "math/bits.deBruijn64tab", "internal/bytealg.MaxLen"], apart := false, laid := [("math/bits.deBruijn32tab", laid_math_bits_deBruijn32tab), ("math/bits.deBruijn64tab", laid_math_bits_deBruijn64tab), ("internal/strconv.uint64pow10", laid_internal_strconv_uint64pow10), ("planisphere/desig.orders", laid_planisphere_desig_orders)], narrowed := true }
def DesigSortedUptoSaid : Prop := desigSortedUptoRow.holds Tryd.pinned (OpenSpec.upto desigSortedSpec)

/-- 'planispherelaw28.DesigNext', WHERE WHAT IT READS IS OF BULK AT MOST 1048576: true; the input reads as it did. -/
def desigNextUptoRow : OpenClaim := { program := "ytdjndoafnoidbaadoor", sum := "64e68be339764bdfaf822b7f606ca53a4fa11a1d3c0da5c6c65a0fa841f7b4f7", func := "planisphere/planispherelaw28.DesigNext", spec := "desigNext", inPlace := ["internal/bytealg.IndexByteString", "internal/bytealg.IndexString", "internal/abi.NoEscape", "internal/bytealg.MakeNoZero"], named := ["planisphere/desig.orders", "internal/strconv.uint64pow10", "math/bits.deBruijn32tab", "math/bits.deBruijn64tab", "internal/bytealg.MaxLen"], apart := false, laid := [("math/bits.deBruijn32tab", laid_math_bits_deBruijn32tab), ("math/bits.deBruijn64tab", laid_math_bits_deBruijn64tab), ("internal/strconv.uint64pow10", laid_internal_strconv_uint64pow10), ("planisphere/desig.orders", laid_planisphere_desig_orders)], narrowed := true }
def DesigNextUptoSaid : Prop := desigNextUptoRow.holds Tryd.pinned (OpenSpec.upto desigNextSpec)

end Rows
end Go.Proofs.YtdjndoafnoidbaaDoor
