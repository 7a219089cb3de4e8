/-
  DERIVED. GIVEN WITH THE SEED: THE CARDS: each row of YtmfaenkjiodkhaaDoorRows.lean that lists a variable, with what it lists TIED to the program's text (the seventh form; the later family's looks); each row that meets fmt, with fmt's text TOLD by the authors' own Lean function (tested against real Go, not proved from fmt's source: count such statements apart). THE CARD IS WHAT COUNTS. Prove the row's statement (the work); the ties are given (YtmfaenkjiodkhaaDoorTie.lean); close each card by the builder's one call (the guide's Derived/Test/ToyasCard.lean, 'card_holds'). Laid BY PROGRAM, IN A SANDBOX (cutbox-door.mjs). By AI agents, Wed Nov 11 2026. No macro, syntax, notation, axiom, sorry.
-/
import Derived.Test.YtmfaenkjiodkhaaDoorRows
import GoSem.ClaimSeven
namespace Go.Proofs.YtmfaenkjiodkhaaDoor
namespace Rows

/-- THE TIED CARD OF 'laws.FnExactParseGrid'. -/
def fnExactParseGridCard : Claim7 := { stood := { row := fnExactParseGridRow, standIns := [], harness := (true, "45821a3d70e818c918c7beb4e4e3d00ed6fe2465fce65770c7c97f7a166d8975"), looks := false }, kinds := [], alts := [], laidByText := true, laidKinds := [.data, .pinned], laidTests := true, laidLooks := .later }
def FnExactParseGridCardSaid : Prop := Claim7.holds Tryd.pinned (.plain (OpenSpec.ofChange fnExactParseGridSpec)) fnExactParseGridCard

/-- THE TIED CARD OF 'laws.FnExactParsePicture'. -/
def fnExactParsePictureCard : Claim7 := { stood := { row := fnExactParsePictureRow, standIns := [], harness := (true, "45821a3d70e818c918c7beb4e4e3d00ed6fe2465fce65770c7c97f7a166d8975"), looks := false }, kinds := [], alts := [], laidByText := true, laidKinds := [.data, .pinned], laidTests := true, laidLooks := .later }
def FnExactParsePictureCardSaid : Prop := Claim7.holds Tryd.pinned (.plain (OpenSpec.ofChange fnExactParsePictureSpec)) fnExactParsePictureCard

/-- THE SECOND FORM's CARD OF 'laws.FnExactParseGrid'. -/
def fnExactParseGridUptoCard : Claim7 := { stood := { row := fnExactParseGridUptoRow, standIns := [], harness := (true, "45821a3d70e818c918c7beb4e4e3d00ed6fe2465fce65770c7c97f7a166d8975"), looks := false }, kinds := [], alts := [], laidByText := true, laidKinds := [.data, .pinned], laidTests := true, laidLooks := .later }
def FnExactParseGridUptoCardSaid : Prop := Claim7.holds Tryd.pinned (.plain (OpenSpec.upto fnExactParseGridSpec)) fnExactParseGridUptoCard

/-- THE SECOND FORM's CARD OF 'laws.FnExactParsePicture'. -/
def fnExactParsePictureUptoCard : Claim7 := { stood := { row := fnExactParsePictureUptoRow, standIns := [], harness := (true, "45821a3d70e818c918c7beb4e4e3d00ed6fe2465fce65770c7c97f7a166d8975"), looks := false }, kinds := [], alts := [], laidByText := true, laidKinds := [.data, .pinned], laidTests := true, laidLooks := .later }
def FnExactParsePictureUptoCardSaid : Prop := Claim7.holds Tryd.pinned (.plain (OpenSpec.upto fnExactParsePictureSpec)) fnExactParsePictureUptoCard
end Rows
end Go.Proofs.YtmfaenkjiodkhaaDoor
