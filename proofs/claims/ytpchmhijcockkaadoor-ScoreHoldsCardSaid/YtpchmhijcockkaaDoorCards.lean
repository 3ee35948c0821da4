/-
  DERIVED. GIVEN WITH THE SEED: THE CARDS: each row of YtpchmhijcockkaaDoorRows.lean that lists a variable, with what it lists TIED to the program's text (the seventh form; the later family's looks); each row that meets fmt, with fmt's text TOLD by the authors' own Lean function (tested against real Go, not proved from fmt's source: count such statements apart). THE CARD IS WHAT COUNTS. Prove the row's statement (the work); the ties are given (YtpchmhijcockkaaDoorTie.lean); close each card by the builder's one call (the guide's Derived/Test/ToyasCard.lean, 'card_holds'). Laid BY PROGRAM, IN A SANDBOX (cutbox-door.mjs). By AI agents, Wed Nov 11 2026. No macro, syntax, notation, axiom, sorry.
-/
import Derived.Test.YtpchmhijcockkaaDoorRows
import GoSem.ClaimSeven
namespace Go.Proofs.YtpchmhijcockkaaDoor
namespace Rows

/-- THE TIED CARD OF 'bandplanlaw29.DescendValid'. -/
def descendValidCard : Claim7 := { stood := { row := descendValidRow, standIns := [], harness := (true, "17ce33168bfdf74452dfd3bcd08a15825dbee28ffcf087ad61c57c3e65dd263a"), looks := false }, kinds := [], alts := [], laidByText := true, laidKinds := [.data], laidTests := true, laidLooks := .later }
def DescendValidCardSaid : Prop := Claim7.holds Tryd.pinned (.plain (OpenSpec.ofChange descendValidSpec)) descendValidCard

/-- THE TIED CARD OF 'bandplanlaw29.DescendNext'. -/
def descendNextCard : Claim7 := { stood := { row := descendNextRow, standIns := [], harness := (true, "17ce33168bfdf74452dfd3bcd08a15825dbee28ffcf087ad61c57c3e65dd263a"), looks := false }, kinds := [], alts := [], laidByText := true, laidKinds := [.data], laidTests := true, laidLooks := .later }
def DescendNextCardSaid : Prop := Claim7.holds Tryd.pinned (.plain (OpenSpec.ofChange descendNextSpec)) descendNextCard

/-- THE TIED CARD OF 'bandplanlaw29.DescendNew'. -/
def descendNewCard : Claim7 := { stood := { row := descendNewRow, standIns := [], harness := (true, "17ce33168bfdf74452dfd3bcd08a15825dbee28ffcf087ad61c57c3e65dd263a"), looks := false }, kinds := [], alts := [], laidByText := true, laidKinds := [.data], laidTests := true, laidLooks := .later }
def DescendNewCardSaid : Prop := Claim7.holds Tryd.pinned (.plain (OpenSpec.ofChange descendNewSpec)) descendNewCard

/-- THE TIED CARD OF 'bandplanlaw28.ScoreRoot'. -/
def scoreRootCard : Claim7 := { stood := { row := scoreRootRow, standIns := [], harness := (true, "17ce33168bfdf74452dfd3bcd08a15825dbee28ffcf087ad61c57c3e65dd263a"), looks := false }, kinds := [], alts := [], laidByText := true, laidKinds := [.data], laidTests := true, laidLooks := .later }
def ScoreRootCardSaid : Prop := Claim7.holds Tryd.pinned (.plain (OpenSpec.ofChange scoreRootSpec)) scoreRootCard

/-- THE TIED CARD OF 'bandplanlaw28.ScoreRaw'. -/
def scoreRawCard : Claim7 := { stood := { row := scoreRawRow, standIns := [], harness := (true, "17ce33168bfdf74452dfd3bcd08a15825dbee28ffcf087ad61c57c3e65dd263a"), looks := false }, kinds := [], alts := [], laidByText := true, laidKinds := [.data], laidTests := true, laidLooks := .later }
def ScoreRawCardSaid : Prop := Claim7.holds Tryd.pinned (.plain (OpenSpec.ofChange scoreRawSpec)) scoreRawCard

/-- THE TIED CARD OF 'bandplanlaw28.ScoreVolumes'. -/
def scoreVolumesCard : Claim7 := { stood := { row := scoreVolumesRow, standIns := [], harness := (true, "17ce33168bfdf74452dfd3bcd08a15825dbee28ffcf087ad61c57c3e65dd263a"), looks := false }, kinds := [], alts := [], laidByText := true, laidKinds := [.data], laidTests := true, laidLooks := .later }
def ScoreVolumesCardSaid : Prop := Claim7.holds Tryd.pinned (.plain (OpenSpec.ofChange scoreVolumesSpec)) scoreVolumesCard

/-- THE TIED CARD OF 'bandplanlaw28.ScoreOffer'. -/
def scoreOfferCard : Claim7 := { stood := { row := scoreOfferRow, standIns := [], harness := (true, "17ce33168bfdf74452dfd3bcd08a15825dbee28ffcf087ad61c57c3e65dd263a"), looks := false }, kinds := [], alts := [], laidByText := true, laidKinds := [.data], laidTests := true, laidLooks := .later }
def ScoreOfferCardSaid : Prop := Claim7.holds Tryd.pinned (.plain (OpenSpec.ofChange scoreOfferSpec)) scoreOfferCard

/-- THE TIED CARD OF 'bandplanlaw28.ScoreOffers'. -/
def scoreOffersCard : Claim7 := { stood := { row := scoreOffersRow, standIns := [], harness := (true, "17ce33168bfdf74452dfd3bcd08a15825dbee28ffcf087ad61c57c3e65dd263a"), looks := false }, kinds := [], alts := [], laidByText := true, laidKinds := [.data], laidTests := true, laidLooks := .later }
def ScoreOffersCardSaid : Prop := Claim7.holds Tryd.pinned (.plain (OpenSpec.ofChange scoreOffersSpec)) scoreOffersCard

/-- THE TIED CARD OF 'bandplanlaw28.ScoreHolds'. -/
def scoreHoldsCard : Claim7 := { stood := { row := scoreHoldsRow, standIns := [], harness := (true, "17ce33168bfdf74452dfd3bcd08a15825dbee28ffcf087ad61c57c3e65dd263a"), looks := false }, kinds := [], alts := [], laidByText := true, laidKinds := [.data], laidTests := true, laidLooks := .later }
def ScoreHoldsCardSaid : Prop := Claim7.holds Tryd.pinned (.plain (OpenSpec.ofChange scoreHoldsSpec)) scoreHoldsCard

/-- THE SECOND FORM's CARD OF 'bandplanlaw29.DescendValid'. -/
def descendValidUptoCard : Claim7 := { stood := { row := descendValidUptoRow, standIns := [], harness := (true, "17ce33168bfdf74452dfd3bcd08a15825dbee28ffcf087ad61c57c3e65dd263a"), looks := false }, kinds := [], alts := [], laidByText := true, laidKinds := [.data], laidTests := true, laidLooks := .later }
def DescendValidUptoCardSaid : Prop := Claim7.holds Tryd.pinned (.plain (OpenSpec.upto descendValidSpec)) descendValidUptoCard

/-- THE SECOND FORM's CARD OF 'bandplanlaw29.DescendNext'. -/
def descendNextUptoCard : Claim7 := { stood := { row := descendNextUptoRow, standIns := [], harness := (true, "17ce33168bfdf74452dfd3bcd08a15825dbee28ffcf087ad61c57c3e65dd263a"), looks := false }, kinds := [], alts := [], laidByText := true, laidKinds := [.data], laidTests := true, laidLooks := .later }
def DescendNextUptoCardSaid : Prop := Claim7.holds Tryd.pinned (.plain (OpenSpec.upto descendNextSpec)) descendNextUptoCard

/-- THE SECOND FORM's CARD OF 'bandplanlaw29.DescendNew'. -/
def descendNewUptoCard : Claim7 := { stood := { row := descendNewUptoRow, standIns := [], harness := (true, "17ce33168bfdf74452dfd3bcd08a15825dbee28ffcf087ad61c57c3e65dd263a"), looks := false }, kinds := [], alts := [], laidByText := true, laidKinds := [.data], laidTests := true, laidLooks := .later }
def DescendNewUptoCardSaid : Prop := Claim7.holds Tryd.pinned (.plain (OpenSpec.upto descendNewSpec)) descendNewUptoCard

/-- THE SECOND FORM's CARD OF 'bandplanlaw28.ScoreRoot'. -/
def scoreRootUptoCard : Claim7 := { stood := { row := scoreRootUptoRow, standIns := [], harness := (true, "17ce33168bfdf74452dfd3bcd08a15825dbee28ffcf087ad61c57c3e65dd263a"), looks := false }, kinds := [], alts := [], laidByText := true, laidKinds := [.data], laidTests := true, laidLooks := .later }
def ScoreRootUptoCardSaid : Prop := Claim7.holds Tryd.pinned (.plain (OpenSpec.upto scoreRootSpec)) scoreRootUptoCard

/-- THE SECOND FORM's CARD OF 'bandplanlaw28.ScoreRaw'. -/
def scoreRawUptoCard : Claim7 := { stood := { row := scoreRawUptoRow, standIns := [], harness := (true, "17ce33168bfdf74452dfd3bcd08a15825dbee28ffcf087ad61c57c3e65dd263a"), looks := false }, kinds := [], alts := [], laidByText := true, laidKinds := [.data], laidTests := true, laidLooks := .later }
def ScoreRawUptoCardSaid : Prop := Claim7.holds Tryd.pinned (.plain (OpenSpec.upto scoreRawSpec)) scoreRawUptoCard

/-- THE SECOND FORM's CARD OF 'bandplanlaw28.ScoreVolumes'. -/
def scoreVolumesUptoCard : Claim7 := { stood := { row := scoreVolumesUptoRow, standIns := [], harness := (true, "17ce33168bfdf74452dfd3bcd08a15825dbee28ffcf087ad61c57c3e65dd263a"), looks := false }, kinds := [], alts := [], laidByText := true, laidKinds := [.data], laidTests := true, laidLooks := .later }
def ScoreVolumesUptoCardSaid : Prop := Claim7.holds Tryd.pinned (.plain (OpenSpec.upto scoreVolumesSpec)) scoreVolumesUptoCard

/-- THE SECOND FORM's CARD OF 'bandplanlaw28.ScoreOffer'. -/
def scoreOfferUptoCard : Claim7 := { stood := { row := scoreOfferUptoRow, standIns := [], harness := (true, "17ce33168bfdf74452dfd3bcd08a15825dbee28ffcf087ad61c57c3e65dd263a"), looks := false }, kinds := [], alts := [], laidByText := true, laidKinds := [.data], laidTests := true, laidLooks := .later }
def ScoreOfferUptoCardSaid : Prop := Claim7.holds Tryd.pinned (.plain (OpenSpec.upto scoreOfferSpec)) scoreOfferUptoCard

/-- THE SECOND FORM's CARD OF 'bandplanlaw28.ScoreOffers'. -/
def scoreOffersUptoCard : Claim7 := { stood := { row := scoreOffersUptoRow, standIns := [], harness := (true, "17ce33168bfdf74452dfd3bcd08a15825dbee28ffcf087ad61c57c3e65dd263a"), looks := false }, kinds := [], alts := [], laidByText := true, laidKinds := [.data], laidTests := true, laidLooks := .later }
def ScoreOffersUptoCardSaid : Prop := Claim7.holds Tryd.pinned (.plain (OpenSpec.upto scoreOffersSpec)) scoreOffersUptoCard

/-- THE SECOND FORM's CARD OF 'bandplanlaw28.ScoreHolds'. -/
def scoreHoldsUptoCard : Claim7 := { stood := { row := scoreHoldsUptoRow, standIns := [], harness := (true, "17ce33168bfdf74452dfd3bcd08a15825dbee28ffcf087ad61c57c3e65dd263a"), looks := false }, kinds := [], alts := [], laidByText := true, laidKinds := [.data], laidTests := true, laidLooks := .later }
def ScoreHoldsUptoCardSaid : Prop := Claim7.holds Tryd.pinned (.plain (OpenSpec.upto scoreHoldsSpec)) scoreHoldsUptoCard
end Rows
end Go.Proofs.YtpchmhijcockkaaDoor
