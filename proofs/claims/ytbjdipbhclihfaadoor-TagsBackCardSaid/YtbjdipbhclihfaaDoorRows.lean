/-
  NARROWER THAN 'FOR EVERY INPUT', by the rows' own cells (each row's printed sentence says how): TagsGets: laid · TagsComments: laid · TagsPictures: laid · TagsBack: laid · TagsCues: laid · TagsSheets: laid.
  DERIVED. THE GIVEN ROWS OF THIS SEAT. 6 by the template 'for every input the law returns true; each argument reads behind the call as it read before'; 0 by the template 'total and deterministic' (their statements: YtbjdipbhclihfaaDoorTotals.lean).
  GIVEN WITH THE SEED: the statements are not yours to turn. If you find one false, say at which input.
  Laid BY PROGRAM, IN A SANDBOX (cutbox-rows.mjs): the forced cells as the released guide's own fill.sh prints them over the translation db3a0cf2e341da3c… (all of the seat's roots in one cut). By AI agents, Wed Nov 11 2026. No macro, syntax, notation, axiom, sorry.
-/
import Derived.Test.YtbjdipbhclihfaaDoorChecked
import GoSem.PinnedTables
import GoSem.Claim
import GoSem.ClaimJoined
import GoSem.ClaimMapViews
import Derived.JoinedTies
import Derived.KernelRfl
namespace Go.Proofs.YtbjdipbhclihfaaDoor
/- THE CELL 'sum', in the pinned program and in every row, IS THE sha256 OF THE DUMP (.gsa) THAT YtbjdipbhclihfaaDoorProg.lean LOADS. Nothing in Lean hashes anything: it is a label: what it is worth is what the hold of that sum in a sandbox is worth. -/
noncomputable def Tryd.pinned : Pinned := { name := "ytbjdipbhclihfaadoor", sum := "db3a0cf2e341da3cc6a0548eb1af6302de4572aab1775680a58f29b33b4064f7", checked := Tryd.checked }
namespace Rows
def none {H : Type} : Left H := { results := [], args := [] }

/- WHAT THE LISTED PACKAGE-LEVEL VARIABLES READ AS WHEN THE CALL BEGINS. Each datum BY PROGRAM (the guide's laid-datum.mjs) off the statement by which the dump's own 'gosem.cut.vars' lays the variable. In a bare row this is a premise. The card (YtbjdipbhclihfaaDoorCards.lean) ties it to the program's text. -/
def laid_unicode_utf8_acceptRanges {H : Type} : DataW H := .agg [.agg [.lit (.int .u8 128), .lit (.int .u8 191)], .agg [.lit (.int .u8 160), .lit (.int .u8 191)], .agg [.lit (.int .u8 128), .lit (.int .u8 159)], .agg [.lit (.int .u8 144), .lit (.int .u8 191)], .agg [.lit (.int .u8 128), .lit (.int .u8 143)], .agg [.lit (.int .u8 0), .lit (.int .u8 0)], .agg [.lit (.int .u8 0), .lit (.int .u8 0)], .agg [.lit (.int .u8 0), .lit (.int .u8 0)], .agg [.lit (.int .u8 0), .lit (.int .u8 0)], .agg [.lit (.int .u8 0), .lit (.int .u8 0)], .agg [.lit (.int .u8 0), .lit (.int .u8 0)], .agg [.lit (.int .u8 0), .lit (.int .u8 0)], .agg [.lit (.int .u8 0), .lit (.int .u8 0)], .agg [.lit (.int .u8 0), .lit (.int .u8 0)], .agg [.lit (.int .u8 0), .lit (.int .u8 0)], .agg [.lit (.int .u8 0), .lit (.int .u8 0)]]
/-- One of Go's own tables, pinned by name: the form's constant. -/
def laid_unicode_utf8_first : DataW Unit := Go.Pinned.utf8First

/-- 'jetsamlaw13.TagsGets': WHATEVER THE INPUT: true; the input reads as it did. -/
def tagsGetsSpec : ChangeSpec := { name := "tagsGets", fn := fun _ => fun
  | [d1, d2, d3] => { results := [.lit (.bool true)], args := [d1, d2, d3] }
  | _ => none }
def tagsGetsRow : OpenClaim := { program := "ytbjdipbhclihfaadoor", sum := "db3a0cf2e341da3cc6a0548eb1af6302de4572aab1775680a58f29b33b4064f7", func := "jetsam/jetsamlaw13.TagsGets", spec := "tagsGets", inPlace := ["internal/bytealg.IndexByteString", "internal/bytealg.IndexString", "internal/abi.NoEscape", "internal/bytealg.MakeNoZero"], unfollowed := true, recurses := true, named := ["unicode/utf8.first", "unicode/utf8.acceptRanges", "internal/bytealg.MaxLen"], apart := false, laid := [("unicode/utf8.acceptRanges", laid_unicode_utf8_acceptRanges), ("unicode/utf8.first", laid_unicode_utf8_first)] }
def TagsGetsSaid : Prop := tagsGetsRow.holds Tryd.pinned (OpenSpec.ofChange tagsGetsSpec)

/-- ITS FALSE NEIGHBOUR: 'it returns false'. Refute it at one input. -/
def tagsGetsWrong : ChangeSpec := { name := "tagsGets", fn := fun _ => fun
  | [d1, d2, d3] => { results := [.lit (.bool false)], args := [d1, d2, d3] }
  | _ => none }
def TagsGetsWrongFalsely : Prop := tagsGetsRow.holds Tryd.pinned (OpenSpec.ofChange tagsGetsWrong)

/-- 'jetsamlaw13.TagsComments': WHATEVER THE INPUT: true; the input reads as it did. -/
def tagsCommentsSpec : ChangeSpec := { name := "tagsComments", fn := fun _ => fun
  | [d1, d2] => { results := [.lit (.bool true)], args := [d1, d2] }
  | _ => none }
def tagsCommentsRow : OpenClaim := { program := "ytbjdipbhclihfaadoor", sum := "db3a0cf2e341da3cc6a0548eb1af6302de4572aab1775680a58f29b33b4064f7", func := "jetsam/jetsamlaw13.TagsComments", spec := "tagsComments", inPlace := ["internal/bytealg.IndexByteString", "internal/bytealg.IndexString", "internal/abi.NoEscape", "internal/bytealg.MakeNoZero"], unfollowed := true, recurses := true, named := ["unicode/utf8.first", "unicode/utf8.acceptRanges", "internal/bytealg.MaxLen"], apart := false, laid := [("unicode/utf8.acceptRanges", laid_unicode_utf8_acceptRanges), ("unicode/utf8.first", laid_unicode_utf8_first)] }
def TagsCommentsSaid : Prop := tagsCommentsRow.holds Tryd.pinned (OpenSpec.ofChange tagsCommentsSpec)

/-- ITS FALSE NEIGHBOUR: 'it returns false'. Refute it at one input. -/
def tagsCommentsWrong : ChangeSpec := { name := "tagsComments", fn := fun _ => fun
  | [d1, d2] => { results := [.lit (.bool false)], args := [d1, d2] }
  | _ => none }
def TagsCommentsWrongFalsely : Prop := tagsCommentsRow.holds Tryd.pinned (OpenSpec.ofChange tagsCommentsWrong)

/-- 'jetsamlaw13.TagsPictures': WHATEVER THE INPUT: true; the input reads as it did. -/
def tagsPicturesSpec : ChangeSpec := { name := "tagsPictures", fn := fun _ => fun
  | [d1, d2] => { results := [.lit (.bool true)], args := [d1, d2] }
  | _ => none }
def tagsPicturesRow : OpenClaim := { program := "ytbjdipbhclihfaadoor", sum := "db3a0cf2e341da3cc6a0548eb1af6302de4572aab1775680a58f29b33b4064f7", func := "jetsam/jetsamlaw13.TagsPictures", spec := "tagsPictures", inPlace := ["internal/bytealg.IndexByteString", "internal/bytealg.IndexString", "internal/abi.NoEscape", "internal/bytealg.MakeNoZero"], unfollowed := true, recurses := true, named := ["unicode/utf8.first", "unicode/utf8.acceptRanges", "internal/bytealg.MaxLen"], apart := false, laid := [("unicode/utf8.acceptRanges", laid_unicode_utf8_acceptRanges), ("unicode/utf8.first", laid_unicode_utf8_first)] }
def TagsPicturesSaid : Prop := tagsPicturesRow.holds Tryd.pinned (OpenSpec.ofChange tagsPicturesSpec)

/-- ITS FALSE NEIGHBOUR: 'it returns false'. Refute it at one input. -/
def tagsPicturesWrong : ChangeSpec := { name := "tagsPictures", fn := fun _ => fun
  | [d1, d2] => { results := [.lit (.bool false)], args := [d1, d2] }
  | _ => none }
def TagsPicturesWrongFalsely : Prop := tagsPicturesRow.holds Tryd.pinned (OpenSpec.ofChange tagsPicturesWrong)

/-- 'jetsamlaw13.TagsBack': WHATEVER THE INPUT: true; the input reads as it did. -/
def tagsBackSpec : ChangeSpec := { name := "tagsBack", fn := fun _ => fun
  | [d1, d2, d3] => { results := [.lit (.bool true)], args := [d1, d2, d3] }
  | _ => none }
def tagsBackRow : OpenClaim := { program := "ytbjdipbhclihfaadoor", sum := "db3a0cf2e341da3cc6a0548eb1af6302de4572aab1775680a58f29b33b4064f7", func := "jetsam/jetsamlaw13.TagsBack", spec := "tagsBack", inPlace := ["internal/bytealg.IndexByteString", "internal/bytealg.IndexString", "internal/abi.NoEscape", "internal/bytealg.MakeNoZero"], unfollowed := true, recurses := true, named := ["unicode/utf8.first", "unicode/utf8.acceptRanges", "internal/bytealg.MaxLen"], apart := false, laid := [("unicode/utf8.acceptRanges", laid_unicode_utf8_acceptRanges), ("unicode/utf8.first", laid_unicode_utf8_first)] }
def TagsBackSaid : Prop := tagsBackRow.holds Tryd.pinned (OpenSpec.ofChange tagsBackSpec)

/-- ITS FALSE NEIGHBOUR: 'it returns false'. Refute it at one input. -/
def tagsBackWrong : ChangeSpec := { name := "tagsBack", fn := fun _ => fun
  | [d1, d2, d3] => { results := [.lit (.bool false)], args := [d1, d2, d3] }
  | _ => none }
def TagsBackWrongFalsely : Prop := tagsBackRow.holds Tryd.pinned (OpenSpec.ofChange tagsBackWrong)

/-- 'jetsamlaw13.TagsCues': WHATEVER THE INPUT: true; the input reads as it did. -/
def tagsCuesSpec : ChangeSpec := { name := "tagsCues", fn := fun _ => fun
  | [d] => { results := [.lit (.bool true)], args := [d] }
  | _ => none }
def tagsCuesRow : OpenClaim := { program := "ytbjdipbhclihfaadoor", sum := "db3a0cf2e341da3cc6a0548eb1af6302de4572aab1775680a58f29b33b4064f7", func := "jetsam/jetsamlaw13.TagsCues", spec := "tagsCues", inPlace := ["internal/bytealg.IndexByteString", "internal/bytealg.IndexString", "internal/abi.NoEscape", "internal/bytealg.MakeNoZero"], unfollowed := true, recurses := true, named := ["unicode/utf8.first", "unicode/utf8.acceptRanges", "internal/bytealg.MaxLen"], apart := false, laid := [("unicode/utf8.acceptRanges", laid_unicode_utf8_acceptRanges), ("unicode/utf8.first", laid_unicode_utf8_first)] }
def TagsCuesSaid : Prop := tagsCuesRow.holds Tryd.pinned (OpenSpec.ofChange tagsCuesSpec)

/-- ITS FALSE NEIGHBOUR: 'it returns false'. Refute it at one input. -/
def tagsCuesWrong : ChangeSpec := { name := "tagsCues", fn := fun _ => fun
  | [d] => { results := [.lit (.bool false)], args := [d] }
  | _ => none }
def TagsCuesWrongFalsely : Prop := tagsCuesRow.holds Tryd.pinned (OpenSpec.ofChange tagsCuesWrong)

/-- 'jetsamlaw13.TagsSheets': WHATEVER THE INPUT: true; the input reads as it did. -/
def tagsSheetsSpec : ChangeSpec := { name := "tagsSheets", fn := fun _ => fun
  | [d1, d2] => { results := [.lit (.bool true)], args := [d1, d2] }
  | _ => none }
def tagsSheetsRow : OpenClaim := { program := "ytbjdipbhclihfaadoor", sum := "db3a0cf2e341da3cc6a0548eb1af6302de4572aab1775680a58f29b33b4064f7", func := "jetsam/jetsamlaw13.TagsSheets", spec := "tagsSheets", inPlace := ["internal/bytealg.IndexByteString", "internal/bytealg.IndexString", "internal/abi.NoEscape", "internal/bytealg.MakeNoZero"], unfollowed := true, recurses := true, named := ["unicode/utf8.first", "unicode/utf8.acceptRanges", "internal/bytealg.MaxLen"], apart := false, laid := [("unicode/utf8.acceptRanges", laid_unicode_utf8_acceptRanges), ("unicode/utf8.first", laid_unicode_utf8_first)] }
def TagsSheetsSaid : Prop := tagsSheetsRow.holds Tryd.pinned (OpenSpec.ofChange tagsSheetsSpec)

/-- ITS FALSE NEIGHBOUR: 'it returns false'. Refute it at one input. -/
def tagsSheetsWrong : ChangeSpec := { name := "tagsSheets", fn := fun _ => fun
  | [d1, d2] => { results := [.lit (.bool false)], args := [d1, d2] }
  | _ => none }
def TagsSheetsWrongFalsely : Prop := tagsSheetsRow.holds Tryd.pinned (OpenSpec.ofChange tagsSheetsWrong)

/- THE SECOND FORM. 'bulk': how many values and letters a reading holds, each counted each time it is reached (what is shared counts as often as it is met; a slice's spare places count too). A statement '..UptoSaid' is the law's where the arguments, and the package variables that the reading takes, are together of bulk at most 1048576: NARROWER than '..Said'. Prove '..Said' where nothing that the law and all that it calls make is longer than what came in: it says more and counts as full. Else prove '..UptoSaid'. A law counts once. -/
mutual
def uptoBulk {H : Type} : DataW H → Nat
  | .lit (.string bytes) => bytes.length + 1
  | .lit _ => 1
  | .nil => 1
  | .ptr d => uptoBulk d + 1
  | .slice elems spare => uptoBulkAll elems + uptoBulkAll spare + 1
  | .agg parts => uptoBulkAll parts + 1
  | .iface _ d => uptoBulk d + 1
  | .map entries => uptoBulkEntries entries + 1
  | .held _ => 1
def uptoBulkAll {H : Type} : List (DataW H) → Nat
  | [] => 0
  | d :: r => uptoBulk d + uptoBulkAll r
def uptoBulkEntries {H : Type} : List (Lit × DataW H) → Nat
  | [] => 0
  | x :: r => uptoBulkEntry x + uptoBulkEntries r
def uptoBulkEntry {H : Type} : Lit × DataW H → Nat
  | (.string bytes, d) => bytes.length + uptoBulk d + 1
  | (_, d) => uptoBulk d + 1
 end
def uptoSmall : (H : Type) → List (DataW H) → Bool := fun _ ds => decide (uptoBulkAll ds ≤ 1048576)
def OpenSpec.upto (s : _root_.Go.ChangeSpec) : _root_.Go.OpenSpec := { _root_.Go.OpenSpec.ofChange s with cond := some uptoSmall }

/-- 'jetsamlaw13.TagsGets', WHERE WHAT IT READS IS OF BULK AT MOST 1048576: true; the input reads as it did. -/
def tagsGetsUptoRow : OpenClaim := { program := "ytbjdipbhclihfaadoor", sum := "db3a0cf2e341da3cc6a0548eb1af6302de4572aab1775680a58f29b33b4064f7", func := "jetsam/jetsamlaw13.TagsGets", spec := "tagsGets", inPlace := ["internal/bytealg.IndexByteString", "internal/bytealg.IndexString", "internal/abi.NoEscape", "internal/bytealg.MakeNoZero"], unfollowed := true, recurses := true, named := ["unicode/utf8.first", "unicode/utf8.acceptRanges", "internal/bytealg.MaxLen"], apart := false, laid := [("unicode/utf8.acceptRanges", laid_unicode_utf8_acceptRanges), ("unicode/utf8.first", laid_unicode_utf8_first)], narrowed := true }
def TagsGetsUptoSaid : Prop := tagsGetsUptoRow.holds Tryd.pinned (OpenSpec.upto tagsGetsSpec)

/-- 'jetsamlaw13.TagsComments', WHERE WHAT IT READS IS OF BULK AT MOST 1048576: true; the input reads as it did. -/
def tagsCommentsUptoRow : OpenClaim := { program := "ytbjdipbhclihfaadoor", sum := "db3a0cf2e341da3cc6a0548eb1af6302de4572aab1775680a58f29b33b4064f7", func := "jetsam/jetsamlaw13.TagsComments", spec := "tagsComments", inPlace := ["internal/bytealg.IndexByteString", "internal/bytealg.IndexString", "internal/abi.NoEscape", "internal/bytealg.MakeNoZero"], unfollowed := true, recurses := true, named := ["unicode/utf8.first", "unicode/utf8.acceptRanges", "internal/bytealg.MaxLen"], apart := false, laid := [("unicode/utf8.acceptRanges", laid_unicode_utf8_acceptRanges), ("unicode/utf8.first", laid_unicode_utf8_first)], narrowed := true }
def TagsCommentsUptoSaid : Prop := tagsCommentsUptoRow.holds Tryd.pinned (OpenSpec.upto tagsCommentsSpec)

/-- 'jetsamlaw13.TagsPictures', WHERE WHAT IT READS IS OF BULK AT MOST 1048576: true; the input reads as it did. -/
def tagsPicturesUptoRow : OpenClaim := { program := "ytbjdipbhclihfaadoor", sum := "db3a0cf2e341da3cc6a0548eb1af6302de4572aab1775680a58f29b33b4064f7", func := "jetsam/jetsamlaw13.TagsPictures", spec := "tagsPictures", inPlace := ["internal/bytealg.IndexByteString", "internal/bytealg.IndexString", "internal/abi.NoEscape", "internal/bytealg.MakeNoZero"], unfollowed := true, recurses := true, named := ["unicode/utf8.first", "unicode/utf8.acceptRanges", "internal/bytealg.MaxLen"], apart := false, laid := [("unicode/utf8.acceptRanges", laid_unicode_utf8_acceptRanges), ("unicode/utf8.first", laid_unicode_utf8_first)], narrowed := true }
def TagsPicturesUptoSaid : Prop := tagsPicturesUptoRow.holds Tryd.pinned (OpenSpec.upto tagsPicturesSpec)

/-- 'jetsamlaw13.TagsBack', WHERE WHAT IT READS IS OF BULK AT MOST 1048576: true; the input reads as it did. -/
def tagsBackUptoRow : OpenClaim := { program := "ytbjdipbhclihfaadoor", sum := "db3a0cf2e341da3cc6a0548eb1af6302de4572aab1775680a58f29b33b4064f7", func := "jetsam/jetsamlaw13.TagsBack", spec := "tagsBack", inPlace := ["internal/bytealg.IndexByteString", "internal/bytealg.IndexString", "internal/abi.NoEscape", "internal/bytealg.MakeNoZero"], unfollowed := true, recurses := true, named := ["unicode/utf8.first", "unicode/utf8.acceptRanges", "internal/bytealg.MaxLen"], apart := false, laid := [("unicode/utf8.acceptRanges", laid_unicode_utf8_acceptRanges), ("unicode/utf8.first", laid_unicode_utf8_first)], narrowed := true }
def TagsBackUptoSaid : Prop := tagsBackUptoRow.holds Tryd.pinned (OpenSpec.upto tagsBackSpec)

/-- 'jetsamlaw13.TagsCues', WHERE WHAT IT READS IS OF BULK AT MOST 1048576: true; the input reads as it did. -/
def tagsCuesUptoRow : OpenClaim := { program := "ytbjdipbhclihfaadoor", sum := "db3a0cf2e341da3cc6a0548eb1af6302de4572aab1775680a58f29b33b4064f7", func := "jetsam/jetsamlaw13.TagsCues", spec := "tagsCues", inPlace := ["internal/bytealg.IndexByteString", "internal/bytealg.IndexString", "internal/abi.NoEscape", "internal/bytealg.MakeNoZero"], unfollowed := true, recurses := true, named := ["unicode/utf8.first", "unicode/utf8.acceptRanges", "internal/bytealg.MaxLen"], apart := false, laid := [("unicode/utf8.acceptRanges", laid_unicode_utf8_acceptRanges), ("unicode/utf8.first", laid_unicode_utf8_first)], narrowed := true }
def TagsCuesUptoSaid : Prop := tagsCuesUptoRow.holds Tryd.pinned (OpenSpec.upto tagsCuesSpec)

/-- 'jetsamlaw13.TagsSheets', WHERE WHAT IT READS IS OF BULK AT MOST 1048576: true; the input reads as it did. -/
def tagsSheetsUptoRow : OpenClaim := { program := "ytbjdipbhclihfaadoor", sum := "db3a0cf2e341da3cc6a0548eb1af6302de4572aab1775680a58f29b33b4064f7", func := "jetsam/jetsamlaw13.TagsSheets", spec := "tagsSheets", inPlace := ["internal/bytealg.IndexByteString", "internal/bytealg.IndexString", "internal/abi.NoEscape", "internal/bytealg.MakeNoZero"], unfollowed := true, recurses := true, named := ["unicode/utf8.first", "unicode/utf8.acceptRanges", "internal/bytealg.MaxLen"], apart := false, laid := [("unicode/utf8.acceptRanges", laid_unicode_utf8_acceptRanges), ("unicode/utf8.first", laid_unicode_utf8_first)], narrowed := true }
def TagsSheetsUptoSaid : Prop := tagsSheetsUptoRow.holds Tryd.pinned (OpenSpec.upto tagsSheetsSpec)

end Rows
end Go.Proofs.YtbjdipbhclihfaaDoor
