/-
  NARROWER THAN 'FOR EVERY INPUT', by the rows' own cells (each row's printed sentence says how): TreeMays: laid · TreeTexts: laid · TreeApart: laid · ScriptPrints: laid · ScriptBack: laid · RailTurns: laid · RailLies: laid.
  DERIVED. THE GIVEN ROWS OF THIS SEAT. 7 by the template 'for every input the law returns true; each argument reads behind the call as it read before'; 0 by the template 'total and deterministic' (their statements: YtafbmlhgcmlmpaaDoorTotals.lean).
  GIVEN WITH THE SEED: the statements are not yours to turn. If you find one false, say at which input.
  Laid BY PROGRAM, IN A SANDBOX (cutbox-rows.mjs): the forced cells as the released guide's own fill.sh prints them over the translation 996e273763dbb7d7… (all of the seat's roots in one cut). By AI agents, Wed Nov 11 2026. No macro, syntax, notation, axiom, sorry.
-/
import Derived.Test.YtafbmlhgcmlmpaaDoorChecked
import GoSem.PinnedTables
import GoSem.Claim
import GoSem.ClaimJoined
import GoSem.ClaimMapViews
import Derived.JoinedTies
import Derived.KernelRfl
namespace Go.Proofs.YtafbmlhgcmlmpaaDoor
/- THE CELL 'sum', in the pinned program and in every row, IS THE sha256 OF THE DUMP (.gsa) THAT YtafbmlhgcmlmpaaDoorProg.lean LOADS. Nothing in Lean hashes anything: it is a label: what it is worth is what the hold of that sum in a sandbox is worth. -/
noncomputable def Tryd.pinned : Pinned := { name := "ytafbmlhgcmlmpaadoor", sum := "996e273763dbb7d723f729d269e46c800f4155f3a5631d95ccc0206dbf71cc59", checked := Tryd.checked }
namespace Rows
def none {H : Type} : Left H := { results := [], args := [] }

/- WHAT THE LISTED PACKAGE-LEVEL VARIABLES READ AS WHEN THE CALL BEGINS. Each datum BY PROGRAM (the guide's laid-datum.mjs) off the statement by which the dump's own 'gosem.cut.vars' lays the variable. In a bare row this is a premise. The card (YtafbmlhgcmlmpaaDoorCards.lean) ties it to the program's text. -/
def laid_math_bits_deBruijn32tab {H : Type} : DataW H := .agg [.lit (.int .u8 0), .lit (.int .u8 1), .lit (.int .u8 28), .lit (.int .u8 2), .lit (.int .u8 29), .lit (.int .u8 14), .lit (.int .u8 24), .lit (.int .u8 3), .lit (.int .u8 30), .lit (.int .u8 22), .lit (.int .u8 20), .lit (.int .u8 15), .lit (.int .u8 25), .lit (.int .u8 17), .lit (.int .u8 4), .lit (.int .u8 8), .lit (.int .u8 31), .lit (.int .u8 27), .lit (.int .u8 13), .lit (.int .u8 23), .lit (.int .u8 21), .lit (.int .u8 19), .lit (.int .u8 16), .lit (.int .u8 7), .lit (.int .u8 26), .lit (.int .u8 12), .lit (.int .u8 18), .lit (.int .u8 6), .lit (.int .u8 11), .lit (.int .u8 5), .lit (.int .u8 10), .lit (.int .u8 9)]
def laid_math_bits_deBruijn64tab {H : Type} : DataW H := .agg [.lit (.int .u8 0), .lit (.int .u8 1), .lit (.int .u8 56), .lit (.int .u8 2), .lit (.int .u8 57), .lit (.int .u8 49), .lit (.int .u8 28), .lit (.int .u8 3), .lit (.int .u8 61), .lit (.int .u8 58), .lit (.int .u8 42), .lit (.int .u8 50), .lit (.int .u8 38), .lit (.int .u8 29), .lit (.int .u8 17), .lit (.int .u8 4), .lit (.int .u8 62), .lit (.int .u8 47), .lit (.int .u8 59), .lit (.int .u8 36), .lit (.int .u8 45), .lit (.int .u8 43), .lit (.int .u8 51), .lit (.int .u8 22), .lit (.int .u8 53), .lit (.int .u8 39), .lit (.int .u8 33), .lit (.int .u8 30), .lit (.int .u8 24), .lit (.int .u8 18), .lit (.int .u8 12), .lit (.int .u8 5), .lit (.int .u8 63), .lit (.int .u8 55), .lit (.int .u8 48), .lit (.int .u8 27), .lit (.int .u8 60), .lit (.int .u8 41), .lit (.int .u8 37), .lit (.int .u8 16), .lit (.int .u8 46), .lit (.int .u8 35), .lit (.int .u8 44), .lit (.int .u8 21), .lit (.int .u8 52), .lit (.int .u8 32), .lit (.int .u8 23), .lit (.int .u8 11), .lit (.int .u8 54), .lit (.int .u8 26), .lit (.int .u8 40), .lit (.int .u8 15), .lit (.int .u8 34), .lit (.int .u8 20), .lit (.int .u8 31), .lit (.int .u8 10), .lit (.int .u8 25), .lit (.int .u8 14), .lit (.int .u8 19), .lit (.int .u8 9), .lit (.int .u8 13), .lit (.int .u8 8), .lit (.int .u8 7), .lit (.int .u8 6)]
def laid_internal_strconv_uint64pow10 {H : Type} : DataW H := .agg [.lit (.int .u64 1), .lit (.int .u64 10), .lit (.int .u64 100), .lit (.int .u64 1000), .lit (.int .u64 10000), .lit (.int .u64 100000), .lit (.int .u64 1000000), .lit (.int .u64 10000000), .lit (.int .u64 100000000), .lit (.int .u64 1000000000), .lit (.int .u64 10000000000), .lit (.int .u64 100000000000), .lit (.int .u64 1000000000000), .lit (.int .u64 10000000000000), .lit (.int .u64 100000000000000), .lit (.int .u64 1000000000000000), .lit (.int .u64 10000000000000000), .lit (.int .u64 100000000000000000), .lit (.int .u64 1000000000000000000), .lit (.int .u64 10000000000000000000)]
def laid_gramarye_name_keywords {H : Type} : DataW H := .agg [.lit (.string [103, 114, 97, 109, 109, 97, 114]), .lit (.string [108, 111, 111, 107]), .lit (.string [115, 121, 110, 99]), .lit (.string [116, 111, 107, 101, 110])]
def laid_unicode_utf8_acceptRanges {H : Type} : DataW H := .agg [.agg [.lit (.int .u8 128), .lit (.int .u8 191)], .agg [.lit (.int .u8 160), .lit (.int .u8 191)], .agg [.lit (.int .u8 128), .lit (.int .u8 159)], .agg [.lit (.int .u8 144), .lit (.int .u8 191)], .agg [.lit (.int .u8 128), .lit (.int .u8 143)], .agg [.lit (.int .u8 0), .lit (.int .u8 0)], .agg [.lit (.int .u8 0), .lit (.int .u8 0)], .agg [.lit (.int .u8 0), .lit (.int .u8 0)], .agg [.lit (.int .u8 0), .lit (.int .u8 0)], .agg [.lit (.int .u8 0), .lit (.int .u8 0)], .agg [.lit (.int .u8 0), .lit (.int .u8 0)], .agg [.lit (.int .u8 0), .lit (.int .u8 0)], .agg [.lit (.int .u8 0), .lit (.int .u8 0)], .agg [.lit (.int .u8 0), .lit (.int .u8 0)], .agg [.lit (.int .u8 0), .lit (.int .u8 0)], .agg [.lit (.int .u8 0), .lit (.int .u8 0)]]
/-- One of Go's own tables, pinned by name: the form's constant. -/
def laid_unicode_utf8_first : DataW Unit := Go.Pinned.utf8First

/-- 'gramaryelaw22.TreeMays': WHATEVER THE INPUT: true; the input reads as it did. -/
def treeMaysSpec : ChangeSpec := { name := "treeMays", fn := fun _ => fun
  | [d] => { results := [.lit (.bool true)], args := [d] }
  | _ => none }
def treeMaysRow : OpenClaim := { program := "ytafbmlhgcmlmpaadoor", sum := "996e273763dbb7d723f729d269e46c800f4155f3a5631d95ccc0206dbf71cc59", func := "gramarye/gramaryelaw22.TreeMays", spec := "treeMays", inPlace := ["internal/abi.NoEscape"], unfollowed := true, recurses := true, named := ["gramarye/name.keywords", "internal/strconv.uint64pow10", "math/bits.deBruijn32tab", "math/bits.deBruijn64tab"], apart := false, laid := [("math/bits.deBruijn32tab", laid_math_bits_deBruijn32tab), ("math/bits.deBruijn64tab", laid_math_bits_deBruijn64tab), ("internal/strconv.uint64pow10", laid_internal_strconv_uint64pow10), ("gramarye/name.keywords", laid_gramarye_name_keywords)] }
def TreeMaysSaid : Prop := treeMaysRow.holds Tryd.pinned (OpenSpec.ofChange treeMaysSpec)

/-- ITS FALSE NEIGHBOUR: 'it returns false'. Refute it at one input. -/
def treeMaysWrong : ChangeSpec := { name := "treeMays", fn := fun _ => fun
  | [d] => { results := [.lit (.bool false)], args := [d] }
  | _ => none }
def TreeMaysWrongFalsely : Prop := treeMaysRow.holds Tryd.pinned (OpenSpec.ofChange treeMaysWrong)

/-- 'gramaryelaw22.TreeTexts': WHATEVER THE INPUT: true; the input reads as it did. -/
def treeTextsSpec : ChangeSpec := { name := "treeTexts", fn := fun _ => fun
  | [d1, d2, d3, d4] => { results := [.lit (.bool true)], args := [d1, d2, d3, d4] }
  | _ => none }
def treeTextsRow : OpenClaim := { program := "ytafbmlhgcmlmpaadoor", sum := "996e273763dbb7d723f729d269e46c800f4155f3a5631d95ccc0206dbf71cc59", func := "gramarye/gramaryelaw22.TreeTexts", spec := "treeTexts", inPlace := ["internal/abi.NoEscape"], unfollowed := true, recurses := true, named := ["gramarye/name.keywords", "internal/strconv.uint64pow10", "math/bits.deBruijn32tab", "math/bits.deBruijn64tab"], apart := false, laid := [("math/bits.deBruijn32tab", laid_math_bits_deBruijn32tab), ("math/bits.deBruijn64tab", laid_math_bits_deBruijn64tab), ("internal/strconv.uint64pow10", laid_internal_strconv_uint64pow10), ("gramarye/name.keywords", laid_gramarye_name_keywords)] }
def TreeTextsSaid : Prop := treeTextsRow.holds Tryd.pinned (OpenSpec.ofChange treeTextsSpec)

/-- ITS FALSE NEIGHBOUR: 'it returns false'. Refute it at one input. -/
def treeTextsWrong : ChangeSpec := { name := "treeTexts", fn := fun _ => fun
  | [d1, d2, d3, d4] => { results := [.lit (.bool false)], args := [d1, d2, d3, d4] }
  | _ => none }
def TreeTextsWrongFalsely : Prop := treeTextsRow.holds Tryd.pinned (OpenSpec.ofChange treeTextsWrong)

/-- 'gramaryelaw22.TreeApart': WHATEVER THE INPUT: true; the input reads as it did. -/
def treeApartSpec : ChangeSpec := { name := "treeApart", fn := fun _ => fun
  | [d1, d2] => { results := [.lit (.bool true)], args := [d1, d2] }
  | _ => none }
def treeApartRow : OpenClaim := { program := "ytafbmlhgcmlmpaadoor", sum := "996e273763dbb7d723f729d269e46c800f4155f3a5631d95ccc0206dbf71cc59", func := "gramarye/gramaryelaw22.TreeApart", spec := "treeApart", inPlace := ["internal/abi.NoEscape"], unfollowed := true, recurses := true, named := ["gramarye/name.keywords", "internal/strconv.uint64pow10", "math/bits.deBruijn32tab", "math/bits.deBruijn64tab"], apart := false, laid := [("math/bits.deBruijn32tab", laid_math_bits_deBruijn32tab), ("math/bits.deBruijn64tab", laid_math_bits_deBruijn64tab), ("internal/strconv.uint64pow10", laid_internal_strconv_uint64pow10), ("gramarye/name.keywords", laid_gramarye_name_keywords)] }
def TreeApartSaid : Prop := treeApartRow.holds Tryd.pinned (OpenSpec.ofChange treeApartSpec)

/-- ITS FALSE NEIGHBOUR: 'it returns false'. Refute it at one input. -/
def treeApartWrong : ChangeSpec := { name := "treeApart", fn := fun _ => fun
  | [d1, d2] => { results := [.lit (.bool false)], args := [d1, d2] }
  | _ => none }
def TreeApartWrongFalsely : Prop := treeApartRow.holds Tryd.pinned (OpenSpec.ofChange treeApartWrong)

/-- 'gramaryelaw43.ScriptPrints': WHATEVER THE INPUT: true; the input reads as it did. -/
def scriptPrintsSpec : ChangeSpec := { name := "scriptPrints", fn := fun _ => fun
  | [d] => { results := [.lit (.bool true)], args := [d] }
  | _ => none }
def scriptPrintsRow : OpenClaim := { program := "ytafbmlhgcmlmpaadoor", sum := "996e273763dbb7d723f729d269e46c800f4155f3a5631d95ccc0206dbf71cc59", func := "gramarye/gramaryelaw43.ScriptPrints", spec := "scriptPrints", inPlace := ["internal/abi.NoEscape", "internal/bytealg.MakeNoZero", "internal/bytealg.CountString", "internal/bytealg.IndexByteString", "internal/bytealg.IndexString"], unfollowed := true, recurses := true, named := ["unicode/utf8.first", "unicode/utf8.acceptRanges", "internal/bytealg.MaxLen", "gramarye/name.keywords"], apart := false, laid := [("unicode/utf8.acceptRanges", laid_unicode_utf8_acceptRanges), ("gramarye/name.keywords", laid_gramarye_name_keywords), ("unicode/utf8.first", laid_unicode_utf8_first)] }
def ScriptPrintsSaid : Prop := scriptPrintsRow.holds Tryd.pinned (OpenSpec.ofChange scriptPrintsSpec)

/-- ITS FALSE NEIGHBOUR: 'it returns false'. Refute it at one input. -/
def scriptPrintsWrong : ChangeSpec := { name := "scriptPrints", fn := fun _ => fun
  | [d] => { results := [.lit (.bool false)], args := [d] }
  | _ => none }
def ScriptPrintsWrongFalsely : Prop := scriptPrintsRow.holds Tryd.pinned (OpenSpec.ofChange scriptPrintsWrong)

/-- 'gramaryelaw43.ScriptBack': WHATEVER THE INPUT: true; the input reads as it did. -/
def scriptBackSpec : ChangeSpec := { name := "scriptBack", fn := fun _ => fun
  | [d] => { results := [.lit (.bool true)], args := [d] }
  | _ => none }
def scriptBackRow : OpenClaim := { program := "ytafbmlhgcmlmpaadoor", sum := "996e273763dbb7d723f729d269e46c800f4155f3a5631d95ccc0206dbf71cc59", func := "gramarye/gramaryelaw43.ScriptBack", spec := "scriptBack", inPlace := ["internal/bytealg.CountString", "internal/bytealg.IndexByteString", "internal/bytealg.IndexString", "internal/abi.NoEscape", "internal/bytealg.MakeNoZero"], unfollowed := true, recurses := true, named := ["unicode/utf8.first", "unicode/utf8.acceptRanges", "internal/bytealg.MaxLen", "gramarye/name.keywords"], apart := false, laid := [("unicode/utf8.acceptRanges", laid_unicode_utf8_acceptRanges), ("gramarye/name.keywords", laid_gramarye_name_keywords), ("unicode/utf8.first", laid_unicode_utf8_first)] }
def ScriptBackSaid : Prop := scriptBackRow.holds Tryd.pinned (OpenSpec.ofChange scriptBackSpec)

/-- ITS FALSE NEIGHBOUR: 'it returns false'. Refute it at one input. -/
def scriptBackWrong : ChangeSpec := { name := "scriptBack", fn := fun _ => fun
  | [d] => { results := [.lit (.bool false)], args := [d] }
  | _ => none }
def ScriptBackWrongFalsely : Prop := scriptBackRow.holds Tryd.pinned (OpenSpec.ofChange scriptBackWrong)

/-- 'gramaryelaw42.RailTurns': WHATEVER THE INPUT: true; the input reads as it did. -/
def railTurnsSpec : ChangeSpec := { name := "railTurns", fn := fun _ => fun
  | [d1, d2] => { results := [.lit (.bool true)], args := [d1, d2] }
  | _ => none }
def railTurnsRow : OpenClaim := { program := "ytafbmlhgcmlmpaadoor", sum := "996e273763dbb7d723f729d269e46c800f4155f3a5631d95ccc0206dbf71cc59", func := "gramarye/gramaryelaw42.RailTurns", spec := "railTurns", inPlace := ["internal/bytealg.IndexByteString"], unfollowed := true, recurses := true, named := ["gramarye/name.keywords"], apart := false, laid := [("gramarye/name.keywords", laid_gramarye_name_keywords)] }
def RailTurnsSaid : Prop := railTurnsRow.holds Tryd.pinned (OpenSpec.ofChange railTurnsSpec)

/-- ITS FALSE NEIGHBOUR: 'it returns false'. Refute it at one input. -/
def railTurnsWrong : ChangeSpec := { name := "railTurns", fn := fun _ => fun
  | [d1, d2] => { results := [.lit (.bool false)], args := [d1, d2] }
  | _ => none }
def RailTurnsWrongFalsely : Prop := railTurnsRow.holds Tryd.pinned (OpenSpec.ofChange railTurnsWrong)

/-- 'gramaryelaw42.RailLies': WHATEVER THE INPUT: true; the input reads as it did. -/
def railLiesSpec : ChangeSpec := { name := "railLies", fn := fun _ => fun
  | [d1, d2, d3] => { results := [.lit (.bool true)], args := [d1, d2, d3] }
  | _ => none }
def railLiesRow : OpenClaim := { program := "ytafbmlhgcmlmpaadoor", sum := "996e273763dbb7d723f729d269e46c800f4155f3a5631d95ccc0206dbf71cc59", func := "gramarye/gramaryelaw42.RailLies", spec := "railLies", inPlace := ["internal/bytealg.IndexByteString"], unfollowed := true, recurses := true, named := ["gramarye/name.keywords"], apart := false, laid := [("gramarye/name.keywords", laid_gramarye_name_keywords)] }
def RailLiesSaid : Prop := railLiesRow.holds Tryd.pinned (OpenSpec.ofChange railLiesSpec)

/-- ITS FALSE NEIGHBOUR: 'it returns false'. Refute it at one input. -/
def railLiesWrong : ChangeSpec := { name := "railLies", fn := fun _ => fun
  | [d1, d2, d3] => { results := [.lit (.bool false)], args := [d1, d2, d3] }
  | _ => none }
def RailLiesWrongFalsely : Prop := railLiesRow.holds Tryd.pinned (OpenSpec.ofChange railLiesWrong)

/- THE SECOND FORM. 'bulk': how many values and letters a reading holds, each counted each time it is reached (what is shared counts as often as it is met; a slice's spare places count too). A statement '..UptoSaid' is the law's where the arguments, and the package variables that the reading takes, are together of bulk at most 1048576: NARROWER than '..Said'. Prove '..Said' where nothing that the law and all that it calls make is longer than what came in: it says more and counts as full. Else prove '..UptoSaid'. A law counts once. -/
mutual
def uptoBulk {H : Type} : DataW H → Nat
  | .lit (.string bytes) => bytes.length + 1
  | .lit _ => 1
  | .nil => 1
  | .ptr d => uptoBulk d + 1
  | .slice elems spare => uptoBulkAll elems + uptoBulkAll spare + 1
  | .agg parts => uptoBulkAll parts + 1
  | .iface _ d => uptoBulk d + 1
  | .map entries => uptoBulkEntries entries + 1
  | .held _ => 1
def uptoBulkAll {H : Type} : List (DataW H) → Nat
  | [] => 0
  | d :: r => uptoBulk d + uptoBulkAll r
def uptoBulkEntries {H : Type} : List (Lit × DataW H) → Nat
  | [] => 0
  | x :: r => uptoBulkEntry x + uptoBulkEntries r
def uptoBulkEntry {H : Type} : Lit × DataW H → Nat
  | (.string bytes, d) => bytes.length + uptoBulk d + 1
  | (_, d) => uptoBulk d + 1
 end
def uptoSmall : (H : Type) → List (DataW H) → Bool := fun _ ds => decide (uptoBulkAll ds ≤ 1048576)
def OpenSpec.upto (s : _root_.Go.ChangeSpec) : _root_.Go.OpenSpec := { _root_.Go.OpenSpec.ofChange s with cond := some uptoSmall }

/-- 'gramaryelaw22.TreeMays', WHERE WHAT IT READS IS OF BULK AT MOST 1048576: true; the input reads as it did. -/
def treeMaysUptoRow : OpenClaim := { program := "ytafbmlhgcmlmpaadoor", sum := "996e273763dbb7d723f729d269e46c800f4155f3a5631d95ccc0206dbf71cc59", func := "gramarye/gramaryelaw22.TreeMays", spec := "treeMays", inPlace := ["internal/abi.NoEscape"], unfollowed := true, recurses := true, named := ["gramarye/name.keywords", "internal/strconv.uint64pow10", "math/bits.deBruijn32tab", "math/bits.deBruijn64tab"], apart := false, laid := [("math/bits.deBruijn32tab", laid_math_bits_deBruijn32tab), ("math/bits.deBruijn64tab", laid_math_bits_deBruijn64tab), ("internal/strconv.uint64pow10", laid_internal_strconv_uint64pow10), ("gramarye/name.keywords", laid_gramarye_name_keywords)], narrowed := true }
def TreeMaysUptoSaid : Prop := treeMaysUptoRow.holds Tryd.pinned (OpenSpec.upto treeMaysSpec)

/-- 'gramaryelaw22.TreeTexts', WHERE WHAT IT READS IS OF BULK AT MOST 1048576: true; the input reads as it did. -/
def treeTextsUptoRow : OpenClaim := { program := "ytafbmlhgcmlmpaadoor", sum := "996e273763dbb7d723f729d269e46c800f4155f3a5631d95ccc0206dbf71cc59", func := "gramarye/gramaryelaw22.TreeTexts", spec := "treeTexts", inPlace := ["internal/abi.NoEscape"], unfollowed := true, recurses := true, named := ["gramarye/name.keywords", "internal/strconv.uint64pow10", "math/bits.deBruijn32tab", "math/bits.deBruijn64tab"], apart := false, laid := [("math/bits.deBruijn32tab", laid_math_bits_deBruijn32tab), ("math/bits.deBruijn64tab", laid_math_bits_deBruijn64tab), ("internal/strconv.uint64pow10", laid_internal_strconv_uint64pow10), ("gramarye/name.keywords", laid_gramarye_name_keywords)], narrowed := true }
def TreeTextsUptoSaid : Prop := treeTextsUptoRow.holds Tryd.pinned (OpenSpec.upto treeTextsSpec)

/-- 'gramaryelaw22.TreeApart', WHERE WHAT IT READS IS OF BULK AT MOST 1048576: true; the input reads as it did. -/
def treeApartUptoRow : OpenClaim := { program := "ytafbmlhgcmlmpaadoor", sum := "996e273763dbb7d723f729d269e46c800f4155f3a5631d95ccc0206dbf71cc59", func := "gramarye/gramaryelaw22.TreeApart", spec := "treeApart", inPlace := ["internal/abi.NoEscape"], unfollowed := true, recurses := true, named := ["gramarye/name.keywords", "internal/strconv.uint64pow10", "math/bits.deBruijn32tab", "math/bits.deBruijn64tab"], apart := false, laid := [("math/bits.deBruijn32tab", laid_math_bits_deBruijn32tab), ("math/bits.deBruijn64tab", laid_math_bits_deBruijn64tab), ("internal/strconv.uint64pow10", laid_internal_strconv_uint64pow10), ("gramarye/name.keywords", laid_gramarye_name_keywords)], narrowed := true }
def TreeApartUptoSaid : Prop := treeApartUptoRow.holds Tryd.pinned (OpenSpec.upto treeApartSpec)

/-- 'gramaryelaw43.ScriptPrints', WHERE WHAT IT READS IS OF BULK AT MOST 1048576: true; the input reads as it did. -/
def scriptPrintsUptoRow : OpenClaim := { program := "ytafbmlhgcmlmpaadoor", sum := "996e273763dbb7d723f729d269e46c800f4155f3a5631d95ccc0206dbf71cc59", func := "gramarye/gramaryelaw43.ScriptPrints", spec := "scriptPrints", inPlace := ["internal/abi.NoEscape", "internal/bytealg.MakeNoZero", "internal/bytealg.CountString", "internal/bytealg.IndexByteString", "internal/bytealg.IndexString"], unfollowed := true, recurses := true, named := ["unicode/utf8.first", "unicode/utf8.acceptRanges", "internal/bytealg.MaxLen", "gramarye/name.keywords"], apart := false, laid := [("unicode/utf8.acceptRanges", laid_unicode_utf8_acceptRanges), ("gramarye/name.keywords", laid_gramarye_name_keywords), ("unicode/utf8.first", laid_unicode_utf8_first)], narrowed := true }
def ScriptPrintsUptoSaid : Prop := scriptPrintsUptoRow.holds Tryd.pinned (OpenSpec.upto scriptPrintsSpec)

/-- 'gramaryelaw43.ScriptBack', WHERE WHAT IT READS IS OF BULK AT MOST 1048576: true; the input reads as it did. -/
def scriptBackUptoRow : OpenClaim := { program := "ytafbmlhgcmlmpaadoor", sum := "996e273763dbb7d723f729d269e46c800f4155f3a5631d95ccc0206dbf71cc59", func := "gramarye/gramaryelaw43.ScriptBack", spec := "scriptBack", inPlace := ["internal/bytealg.CountString", "internal/bytealg.IndexByteString", "internal/bytealg.IndexString", "internal/abi.NoEscape", "internal/bytealg.MakeNoZero"], unfollowed := true, recurses := true, named := ["unicode/utf8.first", "unicode/utf8.acceptRanges", "internal/bytealg.MaxLen", "gramarye/name.keywords"], apart := false, laid := [("unicode/utf8.acceptRanges", laid_unicode_utf8_acceptRanges), ("gramarye/name.keywords", laid_gramarye_name_keywords), ("unicode/utf8.first", laid_unicode_utf8_first)], narrowed := true }
def ScriptBackUptoSaid : Prop := scriptBackUptoRow.holds Tryd.pinned (OpenSpec.upto scriptBackSpec)

/-- 'gramaryelaw42.RailTurns', WHERE WHAT IT READS IS OF BULK AT MOST 1048576: true; the input reads as it did. -/
def railTurnsUptoRow : OpenClaim := { program := "ytafbmlhgcmlmpaadoor", sum := "996e273763dbb7d723f729d269e46c800f4155f3a5631d95ccc0206dbf71cc59", func := "gramarye/gramaryelaw42.RailTurns", spec := "railTurns", inPlace := ["internal/bytealg.IndexByteString"], unfollowed := true, recurses := true, named := ["gramarye/name.keywords"], apart := false, laid := [("gramarye/name.keywords", laid_gramarye_name_keywords)], narrowed := true }
def RailTurnsUptoSaid : Prop := railTurnsUptoRow.holds Tryd.pinned (OpenSpec.upto railTurnsSpec)

/-- 'gramaryelaw42.RailLies', WHERE WHAT IT READS IS OF BULK AT MOST 1048576: true; the input reads as it did. -/
def railLiesUptoRow : OpenClaim := { program := "ytafbmlhgcmlmpaadoor", sum := "996e273763dbb7d723f729d269e46c800f4155f3a5631d95ccc0206dbf71cc59", func := "gramarye/gramaryelaw42.RailLies", spec := "railLies", inPlace := ["internal/bytealg.IndexByteString"], unfollowed := true, recurses := true, named := ["gramarye/name.keywords"], apart := false, laid := [("gramarye/name.keywords", laid_gramarye_name_keywords)], narrowed := true }
def RailLiesUptoSaid : Prop := railLiesUptoRow.holds Tryd.pinned (OpenSpec.upto railLiesSpec)

end Rows
end Go.Proofs.YtafbmlhgcmlmpaaDoor
