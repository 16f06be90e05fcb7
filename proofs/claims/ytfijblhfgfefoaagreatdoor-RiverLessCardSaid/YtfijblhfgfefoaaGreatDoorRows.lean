/-
  NARROWER THAN 'FOR EVERY INPUT', by the rows' own cells (each row's printed sentence says how): RiverGrew: laid · RiverMore: laid · RiverTests: laid · RiverLengths: laid · RiverLong: laid · RiverLess: laid · RiverCoulds: laid · RiverSacks: laid · RiverDeals: laid · RiverRivals: laid · RiverRuns: laid · RiverTested: laid · RiverTrue: laid · RiverPrints: laid · RiverReads: laid · RiverSpoilt: laid.
  DERIVED. THE GIVEN ROWS OF THIS SEAT. 16 by the template 'for every input the law returns true; each argument reads behind the call as it read before'; 0 by the template 'total and deterministic' (their statements: YtfijblhfgfefoaaGreatDoorTotals.lean).
  GIVEN WITH THE SEED: the statements are not yours to turn. If you find one false, say at which input.
  Laid BY PROGRAM, IN A SANDBOX (cutbox-rows.mjs): the forced cells as the released guide's own fill.sh prints them over the translation 663ad6ee760eadb9… (all of the seat's roots in one cut). By AI agents, Wed Nov 11 2026. No macro, syntax, notation, axiom, sorry.
-/
import Derived.Test.YtfijblhfgfefoaaGreatDoorChecked
import GoSem.PinnedTables
import GoSem.Claim
import GoSem.ClaimJoined
import GoSem.ClaimMapViews
import Derived.JoinedTies
import Derived.KernelRfl
namespace Go.Proofs.YtfijblhfgfefoaaGreatDoor
/- THE CELL 'sum', in the pinned program and in every row, IS THE sha256 OF THE DUMP (.gsa) THAT YtfijblhfgfefoaaGreatDoorProg.lean LOADS. Nothing in Lean hashes anything: it is a label: what it is worth is what the hold of that sum in a sandbox is worth. -/
noncomputable def Tryz.pinned : Pinned := { name := "ytfijblhfgfefoaagreatdoor", sum := "663ad6ee760eadb9d8def12e98a7f83fa15c5efbbc9b36864d14a7eb352d1155", checked := Tryz.checked }
namespace Rows
def none {H : Type} : Left H := { results := [], args := [] }

/- WHAT THE LISTED PACKAGE-LEVEL VARIABLES READ AS WHEN THE CALL BEGINS. Each datum BY PROGRAM (the guide's laid-datum.mjs) off the statement by which the dump's own 'gosem.cut.vars' lays the variable. In a bare row this is a premise. The card (YtfijblhfgfefoaaGreatDoorCards.lean) ties it to the program's text. -/
def laid_math_bits_deBruijn32tab {H : Type} : DataW H := .agg [.lit (.int .u8 0), .lit (.int .u8 1), .lit (.int .u8 28), .lit (.int .u8 2), .lit (.int .u8 29), .lit (.int .u8 14), .lit (.int .u8 24), .lit (.int .u8 3), .lit (.int .u8 30), .lit (.int .u8 22), .lit (.int .u8 20), .lit (.int .u8 15), .lit (.int .u8 25), .lit (.int .u8 17), .lit (.int .u8 4), .lit (.int .u8 8), .lit (.int .u8 31), .lit (.int .u8 27), .lit (.int .u8 13), .lit (.int .u8 23), .lit (.int .u8 21), .lit (.int .u8 19), .lit (.int .u8 16), .lit (.int .u8 7), .lit (.int .u8 26), .lit (.int .u8 12), .lit (.int .u8 18), .lit (.int .u8 6), .lit (.int .u8 11), .lit (.int .u8 5), .lit (.int .u8 10), .lit (.int .u8 9)]
def laid_math_bits_deBruijn64tab {H : Type} : DataW H := .agg [.lit (.int .u8 0), .lit (.int .u8 1), .lit (.int .u8 56), .lit (.int .u8 2), .lit (.int .u8 57), .lit (.int .u8 49), .lit (.int .u8 28), .lit (.int .u8 3), .lit (.int .u8 61), .lit (.int .u8 58), .lit (.int .u8 42), .lit (.int .u8 50), .lit (.int .u8 38), .lit (.int .u8 29), .lit (.int .u8 17), .lit (.int .u8 4), .lit (.int .u8 62), .lit (.int .u8 47), .lit (.int .u8 59), .lit (.int .u8 36), .lit (.int .u8 45), .lit (.int .u8 43), .lit (.int .u8 51), .lit (.int .u8 22), .lit (.int .u8 53), .lit (.int .u8 39), .lit (.int .u8 33), .lit (.int .u8 30), .lit (.int .u8 24), .lit (.int .u8 18), .lit (.int .u8 12), .lit (.int .u8 5), .lit (.int .u8 63), .lit (.int .u8 55), .lit (.int .u8 48), .lit (.int .u8 27), .lit (.int .u8 60), .lit (.int .u8 41), .lit (.int .u8 37), .lit (.int .u8 16), .lit (.int .u8 46), .lit (.int .u8 35), .lit (.int .u8 44), .lit (.int .u8 21), .lit (.int .u8 52), .lit (.int .u8 32), .lit (.int .u8 23), .lit (.int .u8 11), .lit (.int .u8 54), .lit (.int .u8 26), .lit (.int .u8 40), .lit (.int .u8 15), .lit (.int .u8 34), .lit (.int .u8 20), .lit (.int .u8 31), .lit (.int .u8 10), .lit (.int .u8 25), .lit (.int .u8 14), .lit (.int .u8 19), .lit (.int .u8 9), .lit (.int .u8 13), .lit (.int .u8 8), .lit (.int .u8 7), .lit (.int .u8 6)]
def laid_internal_strconv_uint64pow10 {H : Type} : DataW H := .agg [.lit (.int .u64 1), .lit (.int .u64 10), .lit (.int .u64 100), .lit (.int .u64 1000), .lit (.int .u64 10000), .lit (.int .u64 100000), .lit (.int .u64 1000000), .lit (.int .u64 10000000), .lit (.int .u64 100000000), .lit (.int .u64 1000000000), .lit (.int .u64 10000000000), .lit (.int .u64 100000000000), .lit (.int .u64 1000000000000), .lit (.int .u64 10000000000000), .lit (.int .u64 100000000000000), .lit (.int .u64 1000000000000000), .lit (.int .u64 10000000000000000), .lit (.int .u64 100000000000000000), .lit (.int .u64 1000000000000000000), .lit (.int .u64 10000000000000000000)]
def laid_unicode_utf8_acceptRanges {H : Type} : DataW H := .agg [.agg [.lit (.int .u8 128), .lit (.int .u8 191)], .agg [.lit (.int .u8 160), .lit (.int .u8 191)], .agg [.lit (.int .u8 128), .lit (.int .u8 159)], .agg [.lit (.int .u8 144), .lit (.int .u8 191)], .agg [.lit (.int .u8 128), .lit (.int .u8 143)], .agg [.lit (.int .u8 0), .lit (.int .u8 0)], .agg [.lit (.int .u8 0), .lit (.int .u8 0)], .agg [.lit (.int .u8 0), .lit (.int .u8 0)], .agg [.lit (.int .u8 0), .lit (.int .u8 0)], .agg [.lit (.int .u8 0), .lit (.int .u8 0)], .agg [.lit (.int .u8 0), .lit (.int .u8 0)], .agg [.lit (.int .u8 0), .lit (.int .u8 0)], .agg [.lit (.int .u8 0), .lit (.int .u8 0)], .agg [.lit (.int .u8 0), .lit (.int .u8 0)], .agg [.lit (.int .u8 0), .lit (.int .u8 0)], .agg [.lit (.int .u8 0), .lit (.int .u8 0)]]
/-- One of Go's own tables, pinned by name: the form's constant. -/
def laid_unicode_utf8_first : DataW Unit := Go.Pinned.utf8First

/-- 'nacrelaw08.RiverGrew': WHATEVER THE INPUT: true; the input reads as it did. -/
def riverGrewSpec : ChangeSpec := { name := "riverGrew", fn := fun _ => fun
  | [d1, d2, d3, d4, d5, d6] => { results := [.lit (.bool true)], args := [d1, d2, d3, d4, d5, d6] }
  | _ => none }
def riverGrewRow : OpenClaim := { program := "ytfijblhfgfefoaagreatdoor", sum := "663ad6ee760eadb9d8def12e98a7f83fa15c5efbbc9b36864d14a7eb352d1155", func := "nacre/nacrelaw08.RiverGrew", spec := "riverGrew", inPlace := ["internal/abi.NoEscape", "internal/bytealg.MakeNoZero"], unfollowed := true, recurses := true, named := ["internal/strconv.uint64pow10", "math/bits.deBruijn32tab", "math/bits.deBruijn64tab"], apart := false, laid := [("math/bits.deBruijn32tab", laid_math_bits_deBruijn32tab), ("math/bits.deBruijn64tab", laid_math_bits_deBruijn64tab), ("internal/strconv.uint64pow10", laid_internal_strconv_uint64pow10)] }
def RiverGrewSaid : Prop := riverGrewRow.holds Tryz.pinned (OpenSpec.ofChange riverGrewSpec)

/-- ITS FALSE NEIGHBOUR: 'it returns false'. Refute it at one input. -/
def riverGrewWrong : ChangeSpec := { name := "riverGrew", fn := fun _ => fun
  | [d1, d2, d3, d4, d5, d6] => { results := [.lit (.bool false)], args := [d1, d2, d3, d4, d5, d6] }
  | _ => none }
def RiverGrewWrongFalsely : Prop := riverGrewRow.holds Tryz.pinned (OpenSpec.ofChange riverGrewWrong)

/-- 'nacrelaw08.RiverMore': WHATEVER THE INPUT: true; the input reads as it did. -/
def riverMoreSpec : ChangeSpec := { name := "riverMore", fn := fun _ => fun
  | [d1, d2, d3, d4, d5] => { results := [.lit (.bool true)], args := [d1, d2, d3, d4, d5] }
  | _ => none }
def riverMoreRow : OpenClaim := { program := "ytfijblhfgfefoaagreatdoor", sum := "663ad6ee760eadb9d8def12e98a7f83fa15c5efbbc9b36864d14a7eb352d1155", func := "nacre/nacrelaw08.RiverMore", spec := "riverMore", inPlace := ["internal/abi.NoEscape", "internal/bytealg.MakeNoZero"], unfollowed := true, recurses := true, named := ["internal/strconv.uint64pow10", "math/bits.deBruijn32tab", "math/bits.deBruijn64tab"], apart := false, laid := [("math/bits.deBruijn32tab", laid_math_bits_deBruijn32tab), ("math/bits.deBruijn64tab", laid_math_bits_deBruijn64tab), ("internal/strconv.uint64pow10", laid_internal_strconv_uint64pow10)] }
def RiverMoreSaid : Prop := riverMoreRow.holds Tryz.pinned (OpenSpec.ofChange riverMoreSpec)

/-- ITS FALSE NEIGHBOUR: 'it returns false'. Refute it at one input. -/
def riverMoreWrong : ChangeSpec := { name := "riverMore", fn := fun _ => fun
  | [d1, d2, d3, d4, d5] => { results := [.lit (.bool false)], args := [d1, d2, d3, d4, d5] }
  | _ => none }
def RiverMoreWrongFalsely : Prop := riverMoreRow.holds Tryz.pinned (OpenSpec.ofChange riverMoreWrong)

/-- 'nacrelaw08.RiverTests': WHATEVER THE INPUT: true; the input reads as it did. -/
def riverTestsSpec : ChangeSpec := { name := "riverTests", fn := fun _ => fun
  | [d1, d2, d3] => { results := [.lit (.bool true)], args := [d1, d2, d3] }
  | _ => none }
def riverTestsRow : OpenClaim := { program := "ytfijblhfgfefoaagreatdoor", sum := "663ad6ee760eadb9d8def12e98a7f83fa15c5efbbc9b36864d14a7eb352d1155", func := "nacre/nacrelaw08.RiverTests", spec := "riverTests", inPlace := ["internal/abi.NoEscape", "internal/bytealg.MakeNoZero"], unfollowed := true, recurses := true, named := ["internal/strconv.uint64pow10", "math/bits.deBruijn32tab", "math/bits.deBruijn64tab"], apart := false, laid := [("math/bits.deBruijn32tab", laid_math_bits_deBruijn32tab), ("math/bits.deBruijn64tab", laid_math_bits_deBruijn64tab), ("internal/strconv.uint64pow10", laid_internal_strconv_uint64pow10)] }
def RiverTestsSaid : Prop := riverTestsRow.holds Tryz.pinned (OpenSpec.ofChange riverTestsSpec)

/-- ITS FALSE NEIGHBOUR: 'it returns false'. Refute it at one input. -/
def riverTestsWrong : ChangeSpec := { name := "riverTests", fn := fun _ => fun
  | [d1, d2, d3] => { results := [.lit (.bool false)], args := [d1, d2, d3] }
  | _ => none }
def RiverTestsWrongFalsely : Prop := riverTestsRow.holds Tryz.pinned (OpenSpec.ofChange riverTestsWrong)

/-- 'nacrelaw08.RiverLengths': WHATEVER THE INPUT: true; the input reads as it did. -/
def riverLengthsSpec : ChangeSpec := { name := "riverLengths", fn := fun _ => fun
  | [d1, d2, d3, d4, d5] => { results := [.lit (.bool true)], args := [d1, d2, d3, d4, d5] }
  | _ => none }
def riverLengthsRow : OpenClaim := { program := "ytfijblhfgfefoaagreatdoor", sum := "663ad6ee760eadb9d8def12e98a7f83fa15c5efbbc9b36864d14a7eb352d1155", func := "nacre/nacrelaw08.RiverLengths", spec := "riverLengths", inPlace := ["internal/abi.NoEscape", "internal/bytealg.MakeNoZero"], unfollowed := true, recurses := true, named := ["internal/strconv.uint64pow10", "math/bits.deBruijn32tab", "math/bits.deBruijn64tab"], apart := false, laid := [("math/bits.deBruijn32tab", laid_math_bits_deBruijn32tab), ("math/bits.deBruijn64tab", laid_math_bits_deBruijn64tab), ("internal/strconv.uint64pow10", laid_internal_strconv_uint64pow10)] }
def RiverLengthsSaid : Prop := riverLengthsRow.holds Tryz.pinned (OpenSpec.ofChange riverLengthsSpec)

/-- ITS FALSE NEIGHBOUR: 'it returns false'. Refute it at one input. -/
def riverLengthsWrong : ChangeSpec := { name := "riverLengths", fn := fun _ => fun
  | [d1, d2, d3, d4, d5] => { results := [.lit (.bool false)], args := [d1, d2, d3, d4, d5] }
  | _ => none }
def RiverLengthsWrongFalsely : Prop := riverLengthsRow.holds Tryz.pinned (OpenSpec.ofChange riverLengthsWrong)

/-- 'nacrelaw08.RiverLong': WHATEVER THE INPUT: true; the input reads as it did. -/
def riverLongSpec : ChangeSpec := { name := "riverLong", fn := fun _ => fun
  | [d1, d2, d3, d4, d5, d6, d7] => { results := [.lit (.bool true)], args := [d1, d2, d3, d4, d5, d6, d7] }
  | _ => none }
def riverLongRow : OpenClaim := { program := "ytfijblhfgfefoaagreatdoor", sum := "663ad6ee760eadb9d8def12e98a7f83fa15c5efbbc9b36864d14a7eb352d1155", func := "nacre/nacrelaw08.RiverLong", spec := "riverLong", inPlace := ["internal/abi.NoEscape", "internal/bytealg.MakeNoZero"], unfollowed := true, recurses := true, named := ["internal/strconv.uint64pow10", "math/bits.deBruijn32tab", "math/bits.deBruijn64tab"], apart := false, laid := [("math/bits.deBruijn32tab", laid_math_bits_deBruijn32tab), ("math/bits.deBruijn64tab", laid_math_bits_deBruijn64tab), ("internal/strconv.uint64pow10", laid_internal_strconv_uint64pow10)] }
def RiverLongSaid : Prop := riverLongRow.holds Tryz.pinned (OpenSpec.ofChange riverLongSpec)

/-- ITS FALSE NEIGHBOUR: 'it returns false'. Refute it at one input. -/
def riverLongWrong : ChangeSpec := { name := "riverLong", fn := fun _ => fun
  | [d1, d2, d3, d4, d5, d6, d7] => { results := [.lit (.bool false)], args := [d1, d2, d3, d4, d5, d6, d7] }
  | _ => none }
def RiverLongWrongFalsely : Prop := riverLongRow.holds Tryz.pinned (OpenSpec.ofChange riverLongWrong)

/-- 'nacrelaw08.RiverLess': WHATEVER THE INPUT: true; the input reads as it did. -/
def riverLessSpec : ChangeSpec := { name := "riverLess", fn := fun _ => fun
  | [d1, d2, d3] => { results := [.lit (.bool true)], args := [d1, d2, d3] }
  | _ => none }
def riverLessRow : OpenClaim := { program := "ytfijblhfgfefoaagreatdoor", sum := "663ad6ee760eadb9d8def12e98a7f83fa15c5efbbc9b36864d14a7eb352d1155", func := "nacre/nacrelaw08.RiverLess", spec := "riverLess", inPlace := ["internal/abi.NoEscape", "internal/bytealg.MakeNoZero"], unfollowed := true, recurses := true, named := ["internal/strconv.uint64pow10", "math/bits.deBruijn32tab", "math/bits.deBruijn64tab"], apart := false, laid := [("math/bits.deBruijn32tab", laid_math_bits_deBruijn32tab), ("math/bits.deBruijn64tab", laid_math_bits_deBruijn64tab), ("internal/strconv.uint64pow10", laid_internal_strconv_uint64pow10)] }
def RiverLessSaid : Prop := riverLessRow.holds Tryz.pinned (OpenSpec.ofChange riverLessSpec)

/-- ITS FALSE NEIGHBOUR: 'it returns false'. Refute it at one input. -/
def riverLessWrong : ChangeSpec := { name := "riverLess", fn := fun _ => fun
  | [d1, d2, d3] => { results := [.lit (.bool false)], args := [d1, d2, d3] }
  | _ => none }
def RiverLessWrongFalsely : Prop := riverLessRow.holds Tryz.pinned (OpenSpec.ofChange riverLessWrong)

/-- 'nacrelaw08.RiverCoulds': WHATEVER THE INPUT: true; the input reads as it did. -/
def riverCouldsSpec : ChangeSpec := { name := "riverCoulds", fn := fun _ => fun
  | [d1, d2] => { results := [.lit (.bool true)], args := [d1, d2] }
  | _ => none }
def riverCouldsRow : OpenClaim := { program := "ytfijblhfgfefoaagreatdoor", sum := "663ad6ee760eadb9d8def12e98a7f83fa15c5efbbc9b36864d14a7eb352d1155", func := "nacre/nacrelaw08.RiverCoulds", spec := "riverCoulds", inPlace := ["internal/abi.NoEscape", "internal/bytealg.MakeNoZero"], unfollowed := true, recurses := true, named := ["internal/strconv.uint64pow10", "math/bits.deBruijn32tab", "math/bits.deBruijn64tab"], apart := false, laid := [("math/bits.deBruijn32tab", laid_math_bits_deBruijn32tab), ("math/bits.deBruijn64tab", laid_math_bits_deBruijn64tab), ("internal/strconv.uint64pow10", laid_internal_strconv_uint64pow10)] }
def RiverCouldsSaid : Prop := riverCouldsRow.holds Tryz.pinned (OpenSpec.ofChange riverCouldsSpec)

/-- ITS FALSE NEIGHBOUR: 'it returns false'. Refute it at one input. -/
def riverCouldsWrong : ChangeSpec := { name := "riverCoulds", fn := fun _ => fun
  | [d1, d2] => { results := [.lit (.bool false)], args := [d1, d2] }
  | _ => none }
def RiverCouldsWrongFalsely : Prop := riverCouldsRow.holds Tryz.pinned (OpenSpec.ofChange riverCouldsWrong)

/-- 'nacrelaw08.RiverSacks': WHATEVER THE INPUT: true; the input reads as it did. -/
def riverSacksSpec : ChangeSpec := { name := "riverSacks", fn := fun _ => fun
  | [d1, d2, d3] => { results := [.lit (.bool true)], args := [d1, d2, d3] }
  | _ => none }
def riverSacksRow : OpenClaim := { program := "ytfijblhfgfefoaagreatdoor", sum := "663ad6ee760eadb9d8def12e98a7f83fa15c5efbbc9b36864d14a7eb352d1155", func := "nacre/nacrelaw08.RiverSacks", spec := "riverSacks", inPlace := ["internal/abi.NoEscape", "internal/bytealg.MakeNoZero"], unfollowed := true, recurses := true, named := ["internal/strconv.uint64pow10", "math/bits.deBruijn32tab", "math/bits.deBruijn64tab"], apart := false, laid := [("math/bits.deBruijn32tab", laid_math_bits_deBruijn32tab), ("math/bits.deBruijn64tab", laid_math_bits_deBruijn64tab), ("internal/strconv.uint64pow10", laid_internal_strconv_uint64pow10)] }
def RiverSacksSaid : Prop := riverSacksRow.holds Tryz.pinned (OpenSpec.ofChange riverSacksSpec)

/-- ITS FALSE NEIGHBOUR: 'it returns false'. Refute it at one input. -/
def riverSacksWrong : ChangeSpec := { name := "riverSacks", fn := fun _ => fun
  | [d1, d2, d3] => { results := [.lit (.bool false)], args := [d1, d2, d3] }
  | _ => none }
def RiverSacksWrongFalsely : Prop := riverSacksRow.holds Tryz.pinned (OpenSpec.ofChange riverSacksWrong)

/-- 'nacrelaw08.RiverDeals': WHATEVER THE INPUT: true; the input reads as it did. -/
def riverDealsSpec : ChangeSpec := { name := "riverDeals", fn := fun _ => fun
  | [d1, d2, d3, d4] => { results := [.lit (.bool true)], args := [d1, d2, d3, d4] }
  | _ => none }
def riverDealsRow : OpenClaim := { program := "ytfijblhfgfefoaagreatdoor", sum := "663ad6ee760eadb9d8def12e98a7f83fa15c5efbbc9b36864d14a7eb352d1155", func := "nacre/nacrelaw08.RiverDeals", spec := "riverDeals", inPlace := ["internal/abi.NoEscape", "internal/bytealg.MakeNoZero"], unfollowed := true, recurses := true, named := ["internal/strconv.uint64pow10", "math/bits.deBruijn32tab", "math/bits.deBruijn64tab"], apart := false, laid := [("math/bits.deBruijn32tab", laid_math_bits_deBruijn32tab), ("math/bits.deBruijn64tab", laid_math_bits_deBruijn64tab), ("internal/strconv.uint64pow10", laid_internal_strconv_uint64pow10)] }
def RiverDealsSaid : Prop := riverDealsRow.holds Tryz.pinned (OpenSpec.ofChange riverDealsSpec)

/-- ITS FALSE NEIGHBOUR: 'it returns false'. Refute it at one input. -/
def riverDealsWrong : ChangeSpec := { name := "riverDeals", fn := fun _ => fun
  | [d1, d2, d3, d4] => { results := [.lit (.bool false)], args := [d1, d2, d3, d4] }
  | _ => none }
def RiverDealsWrongFalsely : Prop := riverDealsRow.holds Tryz.pinned (OpenSpec.ofChange riverDealsWrong)

/-- 'nacrelaw08.RiverRivals': WHATEVER THE INPUT: true; the input reads as it did. -/
def riverRivalsSpec : ChangeSpec := { name := "riverRivals", fn := fun _ => fun
  | [d1, d2, d3, d4, d5] => { results := [.lit (.bool true)], args := [d1, d2, d3, d4, d5] }
  | _ => none }
def riverRivalsRow : OpenClaim := { program := "ytfijblhfgfefoaagreatdoor", sum := "663ad6ee760eadb9d8def12e98a7f83fa15c5efbbc9b36864d14a7eb352d1155", func := "nacre/nacrelaw08.RiverRivals", spec := "riverRivals", inPlace := ["internal/abi.NoEscape", "internal/bytealg.MakeNoZero"], unfollowed := true, recurses := true, named := ["internal/strconv.uint64pow10", "math/bits.deBruijn32tab", "math/bits.deBruijn64tab"], apart := false, laid := [("math/bits.deBruijn32tab", laid_math_bits_deBruijn32tab), ("math/bits.deBruijn64tab", laid_math_bits_deBruijn64tab), ("internal/strconv.uint64pow10", laid_internal_strconv_uint64pow10)] }
def RiverRivalsSaid : Prop := riverRivalsRow.holds Tryz.pinned (OpenSpec.ofChange riverRivalsSpec)

/-- ITS FALSE NEIGHBOUR: 'it returns false'. Refute it at one input. -/
def riverRivalsWrong : ChangeSpec := { name := "riverRivals", fn := fun _ => fun
  | [d1, d2, d3, d4, d5] => { results := [.lit (.bool false)], args := [d1, d2, d3, d4, d5] }
  | _ => none }
def RiverRivalsWrongFalsely : Prop := riverRivalsRow.holds Tryz.pinned (OpenSpec.ofChange riverRivalsWrong)

/-- 'nacrelaw08.RiverRuns': WHATEVER THE INPUT: true; the input reads as it did. -/
def riverRunsSpec : ChangeSpec := { name := "riverRuns", fn := fun _ => fun
  | [d1, d2, d3] => { results := [.lit (.bool true)], args := [d1, d2, d3] }
  | _ => none }
def riverRunsRow : OpenClaim := { program := "ytfijblhfgfefoaagreatdoor", sum := "663ad6ee760eadb9d8def12e98a7f83fa15c5efbbc9b36864d14a7eb352d1155", func := "nacre/nacrelaw08.RiverRuns", spec := "riverRuns", inPlace := ["internal/abi.NoEscape", "internal/bytealg.MakeNoZero"], unfollowed := true, recurses := true, named := ["internal/strconv.uint64pow10", "math/bits.deBruijn32tab", "math/bits.deBruijn64tab"], apart := false, laid := [("math/bits.deBruijn32tab", laid_math_bits_deBruijn32tab), ("math/bits.deBruijn64tab", laid_math_bits_deBruijn64tab), ("internal/strconv.uint64pow10", laid_internal_strconv_uint64pow10)] }
def RiverRunsSaid : Prop := riverRunsRow.holds Tryz.pinned (OpenSpec.ofChange riverRunsSpec)

/-- ITS FALSE NEIGHBOUR: 'it returns false'. Refute it at one input. -/
def riverRunsWrong : ChangeSpec := { name := "riverRuns", fn := fun _ => fun
  | [d1, d2, d3] => { results := [.lit (.bool false)], args := [d1, d2, d3] }
  | _ => none }
def RiverRunsWrongFalsely : Prop := riverRunsRow.holds Tryz.pinned (OpenSpec.ofChange riverRunsWrong)

/-- 'nacrelaw08.RiverTested': WHATEVER THE INPUT: true; the input reads as it did. -/
def riverTestedSpec : ChangeSpec := { name := "riverTested", fn := fun _ => fun
  | [d1, d2, d3, d4] => { results := [.lit (.bool true)], args := [d1, d2, d3, d4] }
  | _ => none }
def riverTestedRow : OpenClaim := { program := "ytfijblhfgfefoaagreatdoor", sum := "663ad6ee760eadb9d8def12e98a7f83fa15c5efbbc9b36864d14a7eb352d1155", func := "nacre/nacrelaw08.RiverTested", spec := "riverTested", inPlace := ["internal/abi.NoEscape", "internal/bytealg.MakeNoZero"], unfollowed := true, recurses := true, named := ["internal/strconv.uint64pow10", "math/bits.deBruijn32tab", "math/bits.deBruijn64tab"], apart := false, laid := [("math/bits.deBruijn32tab", laid_math_bits_deBruijn32tab), ("math/bits.deBruijn64tab", laid_math_bits_deBruijn64tab), ("internal/strconv.uint64pow10", laid_internal_strconv_uint64pow10)] }
def RiverTestedSaid : Prop := riverTestedRow.holds Tryz.pinned (OpenSpec.ofChange riverTestedSpec)

/-- ITS FALSE NEIGHBOUR: 'it returns false'. Refute it at one input. -/
def riverTestedWrong : ChangeSpec := { name := "riverTested", fn := fun _ => fun
  | [d1, d2, d3, d4] => { results := [.lit (.bool false)], args := [d1, d2, d3, d4] }
  | _ => none }
def RiverTestedWrongFalsely : Prop := riverTestedRow.holds Tryz.pinned (OpenSpec.ofChange riverTestedWrong)

/-- 'nacrelaw08.RiverTrue': WHATEVER THE INPUT: true; the input reads as it did. -/
def riverTrueSpec : ChangeSpec := { name := "riverTrue", fn := fun _ => fun
  | [d1, d2, d3] => { results := [.lit (.bool true)], args := [d1, d2, d3] }
  | _ => none }
def riverTrueRow : OpenClaim := { program := "ytfijblhfgfefoaagreatdoor", sum := "663ad6ee760eadb9d8def12e98a7f83fa15c5efbbc9b36864d14a7eb352d1155", func := "nacre/nacrelaw08.RiverTrue", spec := "riverTrue", inPlace := ["internal/abi.NoEscape", "internal/bytealg.MakeNoZero"], unfollowed := true, recurses := true, named := ["internal/strconv.uint64pow10", "math/bits.deBruijn32tab", "math/bits.deBruijn64tab"], apart := false, laid := [("math/bits.deBruijn32tab", laid_math_bits_deBruijn32tab), ("math/bits.deBruijn64tab", laid_math_bits_deBruijn64tab), ("internal/strconv.uint64pow10", laid_internal_strconv_uint64pow10)] }
def RiverTrueSaid : Prop := riverTrueRow.holds Tryz.pinned (OpenSpec.ofChange riverTrueSpec)

/-- ITS FALSE NEIGHBOUR: 'it returns false'. Refute it at one input. -/
def riverTrueWrong : ChangeSpec := { name := "riverTrue", fn := fun _ => fun
  | [d1, d2, d3] => { results := [.lit (.bool false)], args := [d1, d2, d3] }
  | _ => none }
def RiverTrueWrongFalsely : Prop := riverTrueRow.holds Tryz.pinned (OpenSpec.ofChange riverTrueWrong)

/-- 'nacrelaw08.RiverPrints': WHATEVER THE INPUT: true; the input reads as it did. -/
def riverPrintsSpec : ChangeSpec := { name := "riverPrints", fn := fun _ => fun
  | [d] => { results := [.lit (.bool true)], args := [d] }
  | _ => none }
def riverPrintsRow : OpenClaim := { program := "ytfijblhfgfefoaagreatdoor", sum := "663ad6ee760eadb9d8def12e98a7f83fa15c5efbbc9b36864d14a7eb352d1155", func := "nacre/nacrelaw08.RiverPrints", spec := "riverPrints", inPlace := ["internal/abi.NoEscape", "internal/bytealg.MakeNoZero", "internal/bytealg.CountString", "internal/bytealg.IndexByteString", "internal/bytealg.IndexString"], unfollowed := true, recurses := true, named := ["internal/strconv.uint64pow10", "math/bits.deBruijn32tab", "math/bits.deBruijn64tab", "unicode/utf8.first", "unicode/utf8.acceptRanges", "internal/bytealg.MaxLen"], apart := false, laid := [("math/bits.deBruijn32tab", laid_math_bits_deBruijn32tab), ("math/bits.deBruijn64tab", laid_math_bits_deBruijn64tab), ("internal/strconv.uint64pow10", laid_internal_strconv_uint64pow10), ("unicode/utf8.acceptRanges", laid_unicode_utf8_acceptRanges), ("unicode/utf8.first", laid_unicode_utf8_first)] }
def RiverPrintsSaid : Prop := riverPrintsRow.holds Tryz.pinned (OpenSpec.ofChange riverPrintsSpec)

/-- ITS FALSE NEIGHBOUR: 'it returns false'. Refute it at one input. -/
def riverPrintsWrong : ChangeSpec := { name := "riverPrints", fn := fun _ => fun
  | [d] => { results := [.lit (.bool false)], args := [d] }
  | _ => none }
def RiverPrintsWrongFalsely : Prop := riverPrintsRow.holds Tryz.pinned (OpenSpec.ofChange riverPrintsWrong)

/-- 'nacrelaw08.RiverReads': WHATEVER THE INPUT: true; the input reads as it did. -/
def riverReadsSpec : ChangeSpec := { name := "riverReads", fn := fun _ => fun
  | [d] => { results := [.lit (.bool true)], args := [d] }
  | _ => none }
def riverReadsRow : OpenClaim := { program := "ytfijblhfgfefoaagreatdoor", sum := "663ad6ee760eadb9d8def12e98a7f83fa15c5efbbc9b36864d14a7eb352d1155", func := "nacre/nacrelaw08.RiverReads", spec := "riverReads", inPlace := ["internal/abi.NoEscape", "internal/bytealg.MakeNoZero", "internal/bytealg.CountString", "internal/bytealg.IndexByteString", "internal/bytealg.IndexString"], unfollowed := true, recurses := true, named := ["internal/strconv.uint64pow10", "math/bits.deBruijn32tab", "math/bits.deBruijn64tab", "unicode/utf8.first", "unicode/utf8.acceptRanges", "internal/bytealg.MaxLen"], apart := false, laid := [("math/bits.deBruijn32tab", laid_math_bits_deBruijn32tab), ("math/bits.deBruijn64tab", laid_math_bits_deBruijn64tab), ("internal/strconv.uint64pow10", laid_internal_strconv_uint64pow10), ("unicode/utf8.acceptRanges", laid_unicode_utf8_acceptRanges), ("unicode/utf8.first", laid_unicode_utf8_first)] }
def RiverReadsSaid : Prop := riverReadsRow.holds Tryz.pinned (OpenSpec.ofChange riverReadsSpec)

/-- ITS FALSE NEIGHBOUR: 'it returns false'. Refute it at one input. -/
def riverReadsWrong : ChangeSpec := { name := "riverReads", fn := fun _ => fun
  | [d] => { results := [.lit (.bool false)], args := [d] }
  | _ => none }
def RiverReadsWrongFalsely : Prop := riverReadsRow.holds Tryz.pinned (OpenSpec.ofChange riverReadsWrong)

/-- 'nacrelaw08.RiverSpoilt': WHATEVER THE INPUT: true; the input reads as it did. -/
def riverSpoiltSpec : ChangeSpec := { name := "riverSpoilt", fn := fun _ => fun
  | [d1, d2, d3] => { results := [.lit (.bool true)], args := [d1, d2, d3] }
  | _ => none }
def riverSpoiltRow : OpenClaim := { program := "ytfijblhfgfefoaagreatdoor", sum := "663ad6ee760eadb9d8def12e98a7f83fa15c5efbbc9b36864d14a7eb352d1155", func := "nacre/nacrelaw08.RiverSpoilt", spec := "riverSpoilt", inPlace := ["internal/abi.NoEscape", "internal/bytealg.MakeNoZero", "internal/bytealg.CountString", "internal/bytealg.IndexByteString", "internal/bytealg.IndexString"], unfollowed := true, recurses := true, named := ["internal/strconv.uint64pow10", "math/bits.deBruijn32tab", "math/bits.deBruijn64tab", "unicode/utf8.first", "unicode/utf8.acceptRanges", "internal/bytealg.MaxLen"], apart := false, laid := [("math/bits.deBruijn32tab", laid_math_bits_deBruijn32tab), ("math/bits.deBruijn64tab", laid_math_bits_deBruijn64tab), ("internal/strconv.uint64pow10", laid_internal_strconv_uint64pow10), ("unicode/utf8.acceptRanges", laid_unicode_utf8_acceptRanges), ("unicode/utf8.first", laid_unicode_utf8_first)] }
def RiverSpoiltSaid : Prop := riverSpoiltRow.holds Tryz.pinned (OpenSpec.ofChange riverSpoiltSpec)

/-- ITS FALSE NEIGHBOUR: 'it returns false'. Refute it at one input. -/
def riverSpoiltWrong : ChangeSpec := { name := "riverSpoilt", fn := fun _ => fun
  | [d1, d2, d3] => { results := [.lit (.bool false)], args := [d1, d2, d3] }
  | _ => none }
def RiverSpoiltWrongFalsely : Prop := riverSpoiltRow.holds Tryz.pinned (OpenSpec.ofChange riverSpoiltWrong)

/- THE SECOND FORM. 'bulk': how many values and letters a reading holds, each counted each time it is reached (what is shared counts as often as it is met; a slice's spare places count too). A statement '..UptoSaid' is the law's where the arguments, and the package variables that the reading takes, are together of bulk at most 1048576: NARROWER than '..Said'. Prove '..Said' where nothing that the law and all that it calls make is longer than what came in: it says more and counts as full. Else prove '..UptoSaid'. A law counts once. -/
mutual
def uptoBulk {H : Type} : DataW H → Nat
  | .lit (.string bytes) => bytes.length + 1
  | .lit _ => 1
  | .nil => 1
  | .ptr d => uptoBulk d + 1
  | .slice elems spare => uptoBulkAll elems + uptoBulkAll spare + 1
  | .agg parts => uptoBulkAll parts + 1
  | .iface _ d => uptoBulk d + 1
  | .map entries => uptoBulkEntries entries + 1
  | .held _ => 1
def uptoBulkAll {H : Type} : List (DataW H) → Nat
  | [] => 0
  | d :: r => uptoBulk d + uptoBulkAll r
def uptoBulkEntries {H : Type} : List (Lit × DataW H) → Nat
  | [] => 0
  | x :: r => uptoBulkEntry x + uptoBulkEntries r
def uptoBulkEntry {H : Type} : Lit × DataW H → Nat
  | (.string bytes, d) => bytes.length + uptoBulk d + 1
  | (_, d) => uptoBulk d + 1
 end
def uptoSmall : (H : Type) → List (DataW H) → Bool := fun _ ds => decide (uptoBulkAll ds ≤ 1048576)
def OpenSpec.upto (s : _root_.Go.ChangeSpec) : _root_.Go.OpenSpec := { _root_.Go.OpenSpec.ofChange s with cond := some uptoSmall }

/-- 'nacrelaw08.RiverGrew', WHERE WHAT IT READS IS OF BULK AT MOST 1048576: true; the input reads as it did. -/
def riverGrewUptoRow : OpenClaim := { program := "ytfijblhfgfefoaagreatdoor", sum := "663ad6ee760eadb9d8def12e98a7f83fa15c5efbbc9b36864d14a7eb352d1155", func := "nacre/nacrelaw08.RiverGrew", spec := "riverGrew", inPlace := ["internal/abi.NoEscape", "internal/bytealg.MakeNoZero"], unfollowed := true, recurses := true, named := ["internal/strconv.uint64pow10", "math/bits.deBruijn32tab", "math/bits.deBruijn64tab"], apart := false, laid := [("math/bits.deBruijn32tab", laid_math_bits_deBruijn32tab), ("math/bits.deBruijn64tab", laid_math_bits_deBruijn64tab), ("internal/strconv.uint64pow10", laid_internal_strconv_uint64pow10)], narrowed := true }
def RiverGrewUptoSaid : Prop := riverGrewUptoRow.holds Tryz.pinned (OpenSpec.upto riverGrewSpec)

/-- 'nacrelaw08.RiverMore', WHERE WHAT IT READS IS OF BULK AT MOST 1048576: true; the input reads as it did. -/
def riverMoreUptoRow : OpenClaim := { program := "ytfijblhfgfefoaagreatdoor", sum := "663ad6ee760eadb9d8def12e98a7f83fa15c5efbbc9b36864d14a7eb352d1155", func := "nacre/nacrelaw08.RiverMore", spec := "riverMore", inPlace := ["internal/abi.NoEscape", "internal/bytealg.MakeNoZero"], unfollowed := true, recurses := true, named := ["internal/strconv.uint64pow10", "math/bits.deBruijn32tab", "math/bits.deBruijn64tab"], apart := false, laid := [("math/bits.deBruijn32tab", laid_math_bits_deBruijn32tab), ("math/bits.deBruijn64tab", laid_math_bits_deBruijn64tab), ("internal/strconv.uint64pow10", laid_internal_strconv_uint64pow10)], narrowed := true }
def RiverMoreUptoSaid : Prop := riverMoreUptoRow.holds Tryz.pinned (OpenSpec.upto riverMoreSpec)

/-- 'nacrelaw08.RiverTests', WHERE WHAT IT READS IS OF BULK AT MOST 1048576: true; the input reads as it did. -/
def riverTestsUptoRow : OpenClaim := { program := "ytfijblhfgfefoaagreatdoor", sum := "663ad6ee760eadb9d8def12e98a7f83fa15c5efbbc9b36864d14a7eb352d1155", func := "nacre/nacrelaw08.RiverTests", spec := "riverTests", inPlace := ["internal/abi.NoEscape", "internal/bytealg.MakeNoZero"], unfollowed := true, recurses := true, named := ["internal/strconv.uint64pow10", "math/bits.deBruijn32tab", "math/bits.deBruijn64tab"], apart := false, laid := [("math/bits.deBruijn32tab", laid_math_bits_deBruijn32tab), ("math/bits.deBruijn64tab", laid_math_bits_deBruijn64tab), ("internal/strconv.uint64pow10", laid_internal_strconv_uint64pow10)], narrowed := true }
def RiverTestsUptoSaid : Prop := riverTestsUptoRow.holds Tryz.pinned (OpenSpec.upto riverTestsSpec)

/-- 'nacrelaw08.RiverLengths', WHERE WHAT IT READS IS OF BULK AT MOST 1048576: true; the input reads as it did. -/
def riverLengthsUptoRow : OpenClaim := { program := "ytfijblhfgfefoaagreatdoor", sum := "663ad6ee760eadb9d8def12e98a7f83fa15c5efbbc9b36864d14a7eb352d1155", func := "nacre/nacrelaw08.RiverLengths", spec := "riverLengths", inPlace := ["internal/abi.NoEscape", "internal/bytealg.MakeNoZero"], unfollowed := true, recurses := true, named := ["internal/strconv.uint64pow10", "math/bits.deBruijn32tab", "math/bits.deBruijn64tab"], apart := false, laid := [("math/bits.deBruijn32tab", laid_math_bits_deBruijn32tab), ("math/bits.deBruijn64tab", laid_math_bits_deBruijn64tab), ("internal/strconv.uint64pow10", laid_internal_strconv_uint64pow10)], narrowed := true }
def RiverLengthsUptoSaid : Prop := riverLengthsUptoRow.holds Tryz.pinned (OpenSpec.upto riverLengthsSpec)

/-- 'nacrelaw08.RiverLong', WHERE WHAT IT READS IS OF BULK AT MOST 1048576: true; the input reads as it did. -/
def riverLongUptoRow : OpenClaim := { program := "ytfijblhfgfefoaagreatdoor", sum := "663ad6ee760eadb9d8def12e98a7f83fa15c5efbbc9b36864d14a7eb352d1155", func := "nacre/nacrelaw08.RiverLong", spec := "riverLong", inPlace := ["internal/abi.NoEscape", "internal/bytealg.MakeNoZero"], unfollowed := true, recurses := true, named := ["internal/strconv.uint64pow10", "math/bits.deBruijn32tab", "math/bits.deBruijn64tab"], apart := false, laid := [("math/bits.deBruijn32tab", laid_math_bits_deBruijn32tab), ("math/bits.deBruijn64tab", laid_math_bits_deBruijn64tab), ("internal/strconv.uint64pow10", laid_internal_strconv_uint64pow10)], narrowed := true }
def RiverLongUptoSaid : Prop := riverLongUptoRow.holds Tryz.pinned (OpenSpec.upto riverLongSpec)

/-- 'nacrelaw08.RiverLess', WHERE WHAT IT READS IS OF BULK AT MOST 1048576: true; the input reads as it did. -/
def riverLessUptoRow : OpenClaim := { program := "ytfijblhfgfefoaagreatdoor", sum := "663ad6ee760eadb9d8def12e98a7f83fa15c5efbbc9b36864d14a7eb352d1155", func := "nacre/nacrelaw08.RiverLess", spec := "riverLess", inPlace := ["internal/abi.NoEscape", "internal/bytealg.MakeNoZero"], unfollowed := true, recurses := true, named := ["internal/strconv.uint64pow10", "math/bits.deBruijn32tab", "math/bits.deBruijn64tab"], apart := false, laid := [("math/bits.deBruijn32tab", laid_math_bits_deBruijn32tab), ("math/bits.deBruijn64tab", laid_math_bits_deBruijn64tab), ("internal/strconv.uint64pow10", laid_internal_strconv_uint64pow10)], narrowed := true }
def RiverLessUptoSaid : Prop := riverLessUptoRow.holds Tryz.pinned (OpenSpec.upto riverLessSpec)

/-- 'nacrelaw08.RiverCoulds', WHERE WHAT IT READS IS OF BULK AT MOST 1048576: true; the input reads as it did. -/
def riverCouldsUptoRow : OpenClaim := { program := "ytfijblhfgfefoaagreatdoor", sum := "663ad6ee760eadb9d8def12e98a7f83fa15c5efbbc9b36864d14a7eb352d1155", func := "nacre/nacrelaw08.RiverCoulds", spec := "riverCoulds", inPlace := ["internal/abi.NoEscape", "internal/bytealg.MakeNoZero"], unfollowed := true, recurses := true, named := ["internal/strconv.uint64pow10", "math/bits.deBruijn32tab", "math/bits.deBruijn64tab"], apart := false, laid := [("math/bits.deBruijn32tab", laid_math_bits_deBruijn32tab), ("math/bits.deBruijn64tab", laid_math_bits_deBruijn64tab), ("internal/strconv.uint64pow10", laid_internal_strconv_uint64pow10)], narrowed := true }
def RiverCouldsUptoSaid : Prop := riverCouldsUptoRow.holds Tryz.pinned (OpenSpec.upto riverCouldsSpec)

/-- 'nacrelaw08.RiverSacks', WHERE WHAT IT READS IS OF BULK AT MOST 1048576: true; the input reads as it did. -/
def riverSacksUptoRow : OpenClaim := { program := "ytfijblhfgfefoaagreatdoor", sum := "663ad6ee760eadb9d8def12e98a7f83fa15c5efbbc9b36864d14a7eb352d1155", func := "nacre/nacrelaw08.RiverSacks", spec := "riverSacks", inPlace := ["internal/abi.NoEscape", "internal/bytealg.MakeNoZero"], unfollowed := true, recurses := true, named := ["internal/strconv.uint64pow10", "math/bits.deBruijn32tab", "math/bits.deBruijn64tab"], apart := false, laid := [("math/bits.deBruijn32tab", laid_math_bits_deBruijn32tab), ("math/bits.deBruijn64tab", laid_math_bits_deBruijn64tab), ("internal/strconv.uint64pow10", laid_internal_strconv_uint64pow10)], narrowed := true }
def RiverSacksUptoSaid : Prop := riverSacksUptoRow.holds Tryz.pinned (OpenSpec.upto riverSacksSpec)

/-- 'nacrelaw08.RiverDeals', WHERE WHAT IT READS IS OF BULK AT MOST 1048576: true; the input reads as it did. -/
def riverDealsUptoRow : OpenClaim := { program := "ytfijblhfgfefoaagreatdoor", sum := "663ad6ee760eadb9d8def12e98a7f83fa15c5efbbc9b36864d14a7eb352d1155", func := "nacre/nacrelaw08.RiverDeals", spec := "riverDeals", inPlace := ["internal/abi.NoEscape", "internal/bytealg.MakeNoZero"], unfollowed := true, recurses := true, named := ["internal/strconv.uint64pow10", "math/bits.deBruijn32tab", "math/bits.deBruijn64tab"], apart := false, laid := [("math/bits.deBruijn32tab", laid_math_bits_deBruijn32tab), ("math/bits.deBruijn64tab", laid_math_bits_deBruijn64tab), ("internal/strconv.uint64pow10", laid_internal_strconv_uint64pow10)], narrowed := true }
def RiverDealsUptoSaid : Prop := riverDealsUptoRow.holds Tryz.pinned (OpenSpec.upto riverDealsSpec)

/-- 'nacrelaw08.RiverRivals', WHERE WHAT IT READS IS OF BULK AT MOST 1048576: true; the input reads as it did. -/
def riverRivalsUptoRow : OpenClaim := { program := "ytfijblhfgfefoaagreatdoor", sum := "663ad6ee760eadb9d8def12e98a7f83fa15c5efbbc9b36864d14a7eb352d1155", func := "nacre/nacrelaw08.RiverRivals", spec := "riverRivals", inPlace := ["internal/abi.NoEscape", "internal/bytealg.MakeNoZero"], unfollowed := true, recurses := true, named := ["internal/strconv.uint64pow10", "math/bits.deBruijn32tab", "math/bits.deBruijn64tab"], apart := false, laid := [("math/bits.deBruijn32tab", laid_math_bits_deBruijn32tab), ("math/bits.deBruijn64tab", laid_math_bits_deBruijn64tab), ("internal/strconv.uint64pow10", laid_internal_strconv_uint64pow10)], narrowed := true }
def RiverRivalsUptoSaid : Prop := riverRivalsUptoRow.holds Tryz.pinned (OpenSpec.upto riverRivalsSpec)

/-- 'nacrelaw08.RiverRuns', WHERE WHAT IT READS IS OF BULK AT MOST 1048576: true; the input reads as it did. -/
def riverRunsUptoRow : OpenClaim := { program := "ytfijblhfgfefoaagreatdoor", sum := "663ad6ee760eadb9d8def12e98a7f83fa15c5efbbc9b36864d14a7eb352d1155", func := "nacre/nacrelaw08.RiverRuns", spec := "riverRuns", inPlace := ["internal/abi.NoEscape", "internal/bytealg.MakeNoZero"], unfollowed := true, recurses := true, named := ["internal/strconv.uint64pow10", "math/bits.deBruijn32tab", "math/bits.deBruijn64tab"], apart := false, laid := [("math/bits.deBruijn32tab", laid_math_bits_deBruijn32tab), ("math/bits.deBruijn64tab", laid_math_bits_deBruijn64tab), ("internal/strconv.uint64pow10", laid_internal_strconv_uint64pow10)], narrowed := true }
def RiverRunsUptoSaid : Prop := riverRunsUptoRow.holds Tryz.pinned (OpenSpec.upto riverRunsSpec)

/-- 'nacrelaw08.RiverTested', WHERE WHAT IT READS IS OF BULK AT MOST 1048576: true; the input reads as it did. -/
def riverTestedUptoRow : OpenClaim := { program := "ytfijblhfgfefoaagreatdoor", sum := "663ad6ee760eadb9d8def12e98a7f83fa15c5efbbc9b36864d14a7eb352d1155", func := "nacre/nacrelaw08.RiverTested", spec := "riverTested", inPlace := ["internal/abi.NoEscape", "internal/bytealg.MakeNoZero"], unfollowed := true, recurses := true, named := ["internal/strconv.uint64pow10", "math/bits.deBruijn32tab", "math/bits.deBruijn64tab"], apart := false, laid := [("math/bits.deBruijn32tab", laid_math_bits_deBruijn32tab), ("math/bits.deBruijn64tab", laid_math_bits_deBruijn64tab), ("internal/strconv.uint64pow10", laid_internal_strconv_uint64pow10)], narrowed := true }
def RiverTestedUptoSaid : Prop := riverTestedUptoRow.holds Tryz.pinned (OpenSpec.upto riverTestedSpec)

/-- 'nacrelaw08.RiverTrue', WHERE WHAT IT READS IS OF BULK AT MOST 1048576: true; the input reads as it did. -/
def riverTrueUptoRow : OpenClaim := { program := "ytfijblhfgfefoaagreatdoor", sum := "663ad6ee760eadb9d8def12e98a7f83fa15c5efbbc9b36864d14a7eb352d1155", func := "nacre/nacrelaw08.RiverTrue", spec := "riverTrue", inPlace := ["internal/abi.NoEscape", "internal/bytealg.MakeNoZero"], unfollowed := true, recurses := true, named := ["internal/strconv.uint64pow10", "math/bits.deBruijn32tab", "math/bits.deBruijn64tab"], apart := false, laid := [("math/bits.deBruijn32tab", laid_math_bits_deBruijn32tab), ("math/bits.deBruijn64tab", laid_math_bits_deBruijn64tab), ("internal/strconv.uint64pow10", laid_internal_strconv_uint64pow10)], narrowed := true }
def RiverTrueUptoSaid : Prop := riverTrueUptoRow.holds Tryz.pinned (OpenSpec.upto riverTrueSpec)

/-- 'nacrelaw08.RiverPrints', WHERE WHAT IT READS IS OF BULK AT MOST 1048576: true; the input reads as it did. -/
def riverPrintsUptoRow : OpenClaim := { program := "ytfijblhfgfefoaagreatdoor", sum := "663ad6ee760eadb9d8def12e98a7f83fa15c5efbbc9b36864d14a7eb352d1155", func := "nacre/nacrelaw08.RiverPrints", spec := "riverPrints", inPlace := ["internal/abi.NoEscape", "internal/bytealg.MakeNoZero", "internal/bytealg.CountString", "internal/bytealg.IndexByteString", "internal/bytealg.IndexString"], unfollowed := true, recurses := true, named := ["internal/strconv.uint64pow10", "math/bits.deBruijn32tab", "math/bits.deBruijn64tab", "unicode/utf8.first", "unicode/utf8.acceptRanges", "internal/bytealg.MaxLen"], apart := false, laid := [("math/bits.deBruijn32tab", laid_math_bits_deBruijn32tab), ("math/bits.deBruijn64tab", laid_math_bits_deBruijn64tab), ("internal/strconv.uint64pow10", laid_internal_strconv_uint64pow10), ("unicode/utf8.acceptRanges", laid_unicode_utf8_acceptRanges), ("unicode/utf8.first", laid_unicode_utf8_first)], narrowed := true }
def RiverPrintsUptoSaid : Prop := riverPrintsUptoRow.holds Tryz.pinned (OpenSpec.upto riverPrintsSpec)

/-- 'nacrelaw08.RiverReads', WHERE WHAT IT READS IS OF BULK AT MOST 1048576: true; the input reads as it did. -/
def riverReadsUptoRow : OpenClaim := { program := "ytfijblhfgfefoaagreatdoor", sum := "663ad6ee760eadb9d8def12e98a7f83fa15c5efbbc9b36864d14a7eb352d1155", func := "nacre/nacrelaw08.RiverReads", spec := "riverReads", inPlace := ["internal/abi.NoEscape", "internal/bytealg.MakeNoZero", "internal/bytealg.CountString", "internal/bytealg.IndexByteString", "internal/bytealg.IndexString"], unfollowed := true, recurses := true, named := ["internal/strconv.uint64pow10", "math/bits.deBruijn32tab", "math/bits.deBruijn64tab", "unicode/utf8.first", "unicode/utf8.acceptRanges", "internal/bytealg.MaxLen"], apart := false, laid := [("math/bits.deBruijn32tab", laid_math_bits_deBruijn32tab), ("math/bits.deBruijn64tab", laid_math_bits_deBruijn64tab), ("internal/strconv.uint64pow10", laid_internal_strconv_uint64pow10), ("unicode/utf8.acceptRanges", laid_unicode_utf8_acceptRanges), ("unicode/utf8.first", laid_unicode_utf8_first)], narrowed := true }
def RiverReadsUptoSaid : Prop := riverReadsUptoRow.holds Tryz.pinned (OpenSpec.upto riverReadsSpec)

/-- 'nacrelaw08.RiverSpoilt', WHERE WHAT IT READS IS OF BULK AT MOST 1048576: true; the input reads as it did. -/
def riverSpoiltUptoRow : OpenClaim := { program := "ytfijblhfgfefoaagreatdoor", sum := "663ad6ee760eadb9d8def12e98a7f83fa15c5efbbc9b36864d14a7eb352d1155", func := "nacre/nacrelaw08.RiverSpoilt", spec := "riverSpoilt", inPlace := ["internal/abi.NoEscape", "internal/bytealg.MakeNoZero", "internal/bytealg.CountString", "internal/bytealg.IndexByteString", "internal/bytealg.IndexString"], unfollowed := true, recurses := true, named := ["internal/strconv.uint64pow10", "math/bits.deBruijn32tab", "math/bits.deBruijn64tab", "unicode/utf8.first", "unicode/utf8.acceptRanges", "internal/bytealg.MaxLen"], apart := false, laid := [("math/bits.deBruijn32tab", laid_math_bits_deBruijn32tab), ("math/bits.deBruijn64tab", laid_math_bits_deBruijn64tab), ("internal/strconv.uint64pow10", laid_internal_strconv_uint64pow10), ("unicode/utf8.acceptRanges", laid_unicode_utf8_acceptRanges), ("unicode/utf8.first", laid_unicode_utf8_first)], narrowed := true }
def RiverSpoiltUptoSaid : Prop := riverSpoiltUptoRow.holds Tryz.pinned (OpenSpec.upto riverSpoiltSpec)

end Rows
end Go.Proofs.YtfijblhfgfefoaaGreatDoor
