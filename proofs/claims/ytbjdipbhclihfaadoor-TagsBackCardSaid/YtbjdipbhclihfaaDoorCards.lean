/-
  DERIVED. GIVEN WITH THE SEED: THE CARDS: each row of YtbjdipbhclihfaaDoorRows.lean that lists a variable, with what it lists TIED to the program's text (the seventh form; the later family's looks); each row that meets fmt, with fmt's text TOLD by the authors' own Lean function (tested against real Go, not proved from fmt's source: count such statements apart). THE CARD IS WHAT COUNTS. Prove the row's statement (the work); the ties are given (YtbjdipbhclihfaaDoorTie.lean); close each card by the builder's one call (the guide's Derived/Test/ToyasCard.lean, 'card_holds'). Laid BY PROGRAM, IN A SANDBOX (cutbox-door.mjs). By AI agents, Wed Nov 11 2026. No macro, syntax, notation, axiom, sorry.
-/
import Derived.Test.YtbjdipbhclihfaaDoorRows
import GoSem.ClaimSeven
namespace Go.Proofs.YtbjdipbhclihfaaDoor
namespace Rows

/-- THE TIED CARD OF 'jetsamlaw13.TagsGets'. -/
def tagsGetsCard : Claim7 := { stood := { row := tagsGetsRow, standIns := [], harness := (true, "7f16c1cf2d5924c6daea43160b2346543683471b4b8b442e56be95cdfbb44b65"), looks := false }, kinds := [], alts := [], laidByText := true, laidKinds := [.data, .pinned], laidTests := true, laidLooks := .later }
def TagsGetsCardSaid : Prop := Claim7.holds Tryd.pinned (.plain (OpenSpec.ofChange tagsGetsSpec)) tagsGetsCard

/-- THE TIED CARD OF 'jetsamlaw13.TagsComments'. -/
def tagsCommentsCard : Claim7 := { stood := { row := tagsCommentsRow, standIns := [], harness := (true, "7f16c1cf2d5924c6daea43160b2346543683471b4b8b442e56be95cdfbb44b65"), looks := false }, kinds := [], alts := [], laidByText := true, laidKinds := [.data, .pinned], laidTests := true, laidLooks := .later }
def TagsCommentsCardSaid : Prop := Claim7.holds Tryd.pinned (.plain (OpenSpec.ofChange tagsCommentsSpec)) tagsCommentsCard

/-- THE TIED CARD OF 'jetsamlaw13.TagsPictures'. -/
def tagsPicturesCard : Claim7 := { stood := { row := tagsPicturesRow, standIns := [], harness := (true, "7f16c1cf2d5924c6daea43160b2346543683471b4b8b442e56be95cdfbb44b65"), looks := false }, kinds := [], alts := [], laidByText := true, laidKinds := [.data, .pinned], laidTests := true, laidLooks := .later }
def TagsPicturesCardSaid : Prop := Claim7.holds Tryd.pinned (.plain (OpenSpec.ofChange tagsPicturesSpec)) tagsPicturesCard

/-- THE TIED CARD OF 'jetsamlaw13.TagsBack'. -/
def tagsBackCard : Claim7 := { stood := { row := tagsBackRow, standIns := [], harness := (true, "7f16c1cf2d5924c6daea43160b2346543683471b4b8b442e56be95cdfbb44b65"), looks := false }, kinds := [], alts := [], laidByText := true, laidKinds := [.data, .pinned], laidTests := true, laidLooks := .later }
def TagsBackCardSaid : Prop := Claim7.holds Tryd.pinned (.plain (OpenSpec.ofChange tagsBackSpec)) tagsBackCard

/-- THE TIED CARD OF 'jetsamlaw13.TagsCues'. -/
def tagsCuesCard : Claim7 := { stood := { row := tagsCuesRow, standIns := [], harness := (true, "7f16c1cf2d5924c6daea43160b2346543683471b4b8b442e56be95cdfbb44b65"), looks := false }, kinds := [], alts := [], laidByText := true, laidKinds := [.data, .pinned], laidTests := true, laidLooks := .later }
def TagsCuesCardSaid : Prop := Claim7.holds Tryd.pinned (.plain (OpenSpec.ofChange tagsCuesSpec)) tagsCuesCard

/-- THE TIED CARD OF 'jetsamlaw13.TagsSheets'. -/
def tagsSheetsCard : Claim7 := { stood := { row := tagsSheetsRow, standIns := [], harness := (true, "7f16c1cf2d5924c6daea43160b2346543683471b4b8b442e56be95cdfbb44b65"), looks := false }, kinds := [], alts := [], laidByText := true, laidKinds := [.data, .pinned], laidTests := true, laidLooks := .later }
def TagsSheetsCardSaid : Prop := Claim7.holds Tryd.pinned (.plain (OpenSpec.ofChange tagsSheetsSpec)) tagsSheetsCard

/-- THE SECOND FORM's CARD OF 'jetsamlaw13.TagsGets'. -/
def tagsGetsUptoCard : Claim7 := { stood := { row := tagsGetsUptoRow, standIns := [], harness := (true, "7f16c1cf2d5924c6daea43160b2346543683471b4b8b442e56be95cdfbb44b65"), looks := false }, kinds := [], alts := [], laidByText := true, laidKinds := [.data, .pinned], laidTests := true, laidLooks := .later }
def TagsGetsUptoCardSaid : Prop := Claim7.holds Tryd.pinned (.plain (OpenSpec.upto tagsGetsSpec)) tagsGetsUptoCard

/-- THE SECOND FORM's CARD OF 'jetsamlaw13.TagsComments'. -/
def tagsCommentsUptoCard : Claim7 := { stood := { row := tagsCommentsUptoRow, standIns := [], harness := (true, "7f16c1cf2d5924c6daea43160b2346543683471b4b8b442e56be95cdfbb44b65"), looks := false }, kinds := [], alts := [], laidByText := true, laidKinds := [.data, .pinned], laidTests := true, laidLooks := .later }
def TagsCommentsUptoCardSaid : Prop := Claim7.holds Tryd.pinned (.plain (OpenSpec.upto tagsCommentsSpec)) tagsCommentsUptoCard

/-- THE SECOND FORM's CARD OF 'jetsamlaw13.TagsPictures'. -/
def tagsPicturesUptoCard : Claim7 := { stood := { row := tagsPicturesUptoRow, standIns := [], harness := (true, "7f16c1cf2d5924c6daea43160b2346543683471b4b8b442e56be95cdfbb44b65"), looks := false }, kinds := [], alts := [], laidByText := true, laidKinds := [.data, .pinned], laidTests := true, laidLooks := .later }
def TagsPicturesUptoCardSaid : Prop := Claim7.holds Tryd.pinned (.plain (OpenSpec.upto tagsPicturesSpec)) tagsPicturesUptoCard

/-- THE SECOND FORM's CARD OF 'jetsamlaw13.TagsBack'. -/
def tagsBackUptoCard : Claim7 := { stood := { row := tagsBackUptoRow, standIns := [], harness := (true, "7f16c1cf2d5924c6daea43160b2346543683471b4b8b442e56be95cdfbb44b65"), looks := false }, kinds := [], alts := [], laidByText := true, laidKinds := [.data, .pinned], laidTests := true, laidLooks := .later }
def TagsBackUptoCardSaid : Prop := Claim7.holds Tryd.pinned (.plain (OpenSpec.upto tagsBackSpec)) tagsBackUptoCard

/-- THE SECOND FORM's CARD OF 'jetsamlaw13.TagsCues'. -/
def tagsCuesUptoCard : Claim7 := { stood := { row := tagsCuesUptoRow, standIns := [], harness := (true, "7f16c1cf2d5924c6daea43160b2346543683471b4b8b442e56be95cdfbb44b65"), looks := false }, kinds := [], alts := [], laidByText := true, laidKinds := [.data, .pinned], laidTests := true, laidLooks := .later }
def TagsCuesUptoCardSaid : Prop := Claim7.holds Tryd.pinned (.plain (OpenSpec.upto tagsCuesSpec)) tagsCuesUptoCard

/-- THE SECOND FORM's CARD OF 'jetsamlaw13.TagsSheets'. -/
def tagsSheetsUptoCard : Claim7 := { stood := { row := tagsSheetsUptoRow, standIns := [], harness := (true, "7f16c1cf2d5924c6daea43160b2346543683471b4b8b442e56be95cdfbb44b65"), looks := false }, kinds := [], alts := [], laidByText := true, laidKinds := [.data, .pinned], laidTests := true, laidLooks := .later }
def TagsSheetsUptoCardSaid : Prop := Claim7.holds Tryd.pinned (.plain (OpenSpec.upto tagsSheetsSpec)) tagsSheetsUptoCard
end Rows
end Go.Proofs.YtbjdipbhclihfaaDoor
