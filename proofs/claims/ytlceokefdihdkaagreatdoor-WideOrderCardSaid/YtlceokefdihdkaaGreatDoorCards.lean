/-
  DERIVED. GIVEN WITH THE SEED: THE CARDS: each row of YtlceokefdihdkaaGreatDoorRows.lean that lists a variable, with what it lists TIED to the program's text (the seventh form; the later family's looks); each row that meets fmt, with fmt's text TOLD by the authors' own Lean function (tested against real Go, not proved from fmt's source: count such statements apart). THE CARD IS WHAT COUNTS. Prove the row's statement (the work); the ties are given (YtlceokefdihdkaaGreatDoorTie.lean); close each card by the builder's one call (the guide's Derived/Test/ToyasCard.lean, 'card_holds'). Laid BY PROGRAM, IN A SANDBOX (cutbox-door.mjs). By AI agents, Wed Nov 11 2026. No macro, syntax, notation, axiom, sorry.
-/
import Derived.Test.YtlceokefdihdkaaGreatDoorRows
import GoSem.ClaimSeven
namespace Go.Proofs.YtlceokefdihdkaaGreatDoor
namespace Rows

/-- THE TIED CARD OF 'worldmintlaw05.WideTexts'. -/
def wideTextsCard : Claim7 := { stood := { row := wideTextsRow, standIns := [], harness := (true, "410d2223771a613b8b0572f500d3a0272c1bd2a6242dbd07349d81555f8bd43f"), looks := true }, kinds := [], alts := [], laidByText := true, laidKinds := [.data, .data, .data, .data, .sentinel, .sentinel, .pinned], laidTests := true, laidLooks := .later }
def WideTextsCardSaid : Prop := Claim7.holds Tryz.pinned (.plain (OpenSpec.ofChange wideTextsSpec)) wideTextsCard

/-- THE TIED CARD OF 'worldmintlaw05.WideFrom'. -/
def wideFromCard : Claim7 := { stood := { row := wideFromRow, standIns := [], harness := (true, "410d2223771a613b8b0572f500d3a0272c1bd2a6242dbd07349d81555f8bd43f"), looks := true }, kinds := [], alts := [], laidByText := true, laidKinds := [.data, .data, .data, .data, .sentinel, .sentinel, .pinned], laidTests := true, laidLooks := .later }
def WideFromCardSaid : Prop := Claim7.holds Tryz.pinned (.plain (OpenSpec.ofChange wideFromSpec)) wideFromCard

/-- THE TIED CARD OF 'worldmintlaw05.WideProducts'. -/
def wideProductsCard : Claim7 := { stood := { row := wideProductsRow, standIns := [], harness := (true, "410d2223771a613b8b0572f500d3a0272c1bd2a6242dbd07349d81555f8bd43f"), looks := true }, kinds := [], alts := [], laidByText := true, laidKinds := [.data, .data, .data, .data, .sentinel, .sentinel, .pinned], laidTests := true, laidLooks := .later }
def WideProductsCardSaid : Prop := Claim7.holds Tryz.pinned (.plain (OpenSpec.ofChange wideProductsSpec)) wideProductsCard

/-- THE TIED CARD OF 'worldmintlaw05.WideQuotients'. -/
def wideQuotientsCard : Claim7 := { stood := { row := wideQuotientsRow, standIns := [], harness := (true, "410d2223771a613b8b0572f500d3a0272c1bd2a6242dbd07349d81555f8bd43f"), looks := true }, kinds := [], alts := [], laidByText := true, laidKinds := [.data, .data, .data, .data, .sentinel, .sentinel, .pinned], laidTests := true, laidLooks := .later }
def WideQuotientsCardSaid : Prop := Claim7.holds Tryz.pinned (.plain (OpenSpec.ofChange wideQuotientsSpec)) wideQuotientsCard

/-- THE TIED CARD OF 'worldmintlaw05.WideSums'. -/
def wideSumsCard : Claim7 := { stood := { row := wideSumsRow, standIns := [], harness := (true, "410d2223771a613b8b0572f500d3a0272c1bd2a6242dbd07349d81555f8bd43f"), looks := true }, kinds := [], alts := [], laidByText := true, laidKinds := [.data, .data, .data, .data, .sentinel, .sentinel, .pinned], laidTests := true, laidLooks := .later }
def WideSumsCardSaid : Prop := Claim7.holds Tryz.pinned (.plain (OpenSpec.ofChange wideSumsSpec)) wideSumsCard

/-- THE TIED CARD OF 'worldmintlaw05.WideOrder'. -/
def wideOrderCard : Claim7 := { stood := { row := wideOrderRow, standIns := [], harness := (true, "410d2223771a613b8b0572f500d3a0272c1bd2a6242dbd07349d81555f8bd43f"), looks := true }, kinds := [], alts := [], laidByText := true, laidKinds := [.data, .data, .data, .data, .sentinel, .sentinel, .pinned], laidTests := true, laidLooks := .later }
def WideOrderCardSaid : Prop := Claim7.holds Tryz.pinned (.plain (OpenSpec.ofChange wideOrderSpec)) wideOrderCard

/-- THE TIED CARD OF 'worldmintlaw05.WideDivisors'. -/
def wideDivisorsCard : Claim7 := { stood := { row := wideDivisorsRow, standIns := [], harness := (true, "410d2223771a613b8b0572f500d3a0272c1bd2a6242dbd07349d81555f8bd43f"), looks := true }, kinds := [], alts := [], laidByText := true, laidKinds := [.data, .data, .data, .data, .sentinel, .sentinel, .pinned], laidTests := true, laidLooks := .later }
def WideDivisorsCardSaid : Prop := Claim7.holds Tryz.pinned (.plain (OpenSpec.ofChange wideDivisorsSpec)) wideDivisorsCard

/-- THE TIED CARD OF 'worldmintlaw05.WideRing'. -/
def wideRingCard : Claim7 := { stood := { row := wideRingRow, standIns := [], harness := (true, "410d2223771a613b8b0572f500d3a0272c1bd2a6242dbd07349d81555f8bd43f"), looks := true }, kinds := [], alts := [], laidByText := true, laidKinds := [.data, .data, .data, .data, .sentinel, .sentinel, .pinned], laidTests := true, laidLooks := .later }
def WideRingCardSaid : Prop := Claim7.holds Tryz.pinned (.plain (OpenSpec.ofChange wideRingSpec)) wideRingCard

/-- THE TIED CARD OF 'worldmintlaw05.WideLimits'. -/
def wideLimitsCard : Claim7 := { stood := { row := wideLimitsRow, standIns := [], harness := (true, "410d2223771a613b8b0572f500d3a0272c1bd2a6242dbd07349d81555f8bd43f"), looks := true }, kinds := [], alts := [], laidByText := true, laidKinds := [.data, .data, .data, .data, .sentinel, .sentinel, .pinned], laidTests := true, laidLooks := .later }
def WideLimitsCardSaid : Prop := Claim7.holds Tryz.pinned (.plain (OpenSpec.ofChange wideLimitsSpec)) wideLimitsCard

/-- THE SECOND FORM's CARD OF 'worldmintlaw05.WideTexts'. -/
def wideTextsUptoCard : Claim7 := { stood := { row := wideTextsUptoRow, standIns := [], harness := (true, "410d2223771a613b8b0572f500d3a0272c1bd2a6242dbd07349d81555f8bd43f"), looks := true }, kinds := [], alts := [], laidByText := true, laidKinds := [.data, .data, .data, .data, .sentinel, .sentinel, .pinned], laidTests := true, laidLooks := .later }
def WideTextsUptoCardSaid : Prop := Claim7.holds Tryz.pinned (.plain (OpenSpec.upto wideTextsSpec)) wideTextsUptoCard

/-- THE SECOND FORM's CARD OF 'worldmintlaw05.WideFrom'. -/
def wideFromUptoCard : Claim7 := { stood := { row := wideFromUptoRow, standIns := [], harness := (true, "410d2223771a613b8b0572f500d3a0272c1bd2a6242dbd07349d81555f8bd43f"), looks := true }, kinds := [], alts := [], laidByText := true, laidKinds := [.data, .data, .data, .data, .sentinel, .sentinel, .pinned], laidTests := true, laidLooks := .later }
def WideFromUptoCardSaid : Prop := Claim7.holds Tryz.pinned (.plain (OpenSpec.upto wideFromSpec)) wideFromUptoCard

/-- THE SECOND FORM's CARD OF 'worldmintlaw05.WideProducts'. -/
def wideProductsUptoCard : Claim7 := { stood := { row := wideProductsUptoRow, standIns := [], harness := (true, "410d2223771a613b8b0572f500d3a0272c1bd2a6242dbd07349d81555f8bd43f"), looks := true }, kinds := [], alts := [], laidByText := true, laidKinds := [.data, .data, .data, .data, .sentinel, .sentinel, .pinned], laidTests := true, laidLooks := .later }
def WideProductsUptoCardSaid : Prop := Claim7.holds Tryz.pinned (.plain (OpenSpec.upto wideProductsSpec)) wideProductsUptoCard

/-- THE SECOND FORM's CARD OF 'worldmintlaw05.WideQuotients'. -/
def wideQuotientsUptoCard : Claim7 := { stood := { row := wideQuotientsUptoRow, standIns := [], harness := (true, "410d2223771a613b8b0572f500d3a0272c1bd2a6242dbd07349d81555f8bd43f"), looks := true }, kinds := [], alts := [], laidByText := true, laidKinds := [.data, .data, .data, .data, .sentinel, .sentinel, .pinned], laidTests := true, laidLooks := .later }
def WideQuotientsUptoCardSaid : Prop := Claim7.holds Tryz.pinned (.plain (OpenSpec.upto wideQuotientsSpec)) wideQuotientsUptoCard

/-- THE SECOND FORM's CARD OF 'worldmintlaw05.WideSums'. -/
def wideSumsUptoCard : Claim7 := { stood := { row := wideSumsUptoRow, standIns := [], harness := (true, "410d2223771a613b8b0572f500d3a0272c1bd2a6242dbd07349d81555f8bd43f"), looks := true }, kinds := [], alts := [], laidByText := true, laidKinds := [.data, .data, .data, .data, .sentinel, .sentinel, .pinned], laidTests := true, laidLooks := .later }
def WideSumsUptoCardSaid : Prop := Claim7.holds Tryz.pinned (.plain (OpenSpec.upto wideSumsSpec)) wideSumsUptoCard

/-- THE SECOND FORM's CARD OF 'worldmintlaw05.WideOrder'. -/
def wideOrderUptoCard : Claim7 := { stood := { row := wideOrderUptoRow, standIns := [], harness := (true, "410d2223771a613b8b0572f500d3a0272c1bd2a6242dbd07349d81555f8bd43f"), looks := true }, kinds := [], alts := [], laidByText := true, laidKinds := [.data, .data, .data, .data, .sentinel, .sentinel, .pinned], laidTests := true, laidLooks := .later }
def WideOrderUptoCardSaid : Prop := Claim7.holds Tryz.pinned (.plain (OpenSpec.upto wideOrderSpec)) wideOrderUptoCard

/-- THE SECOND FORM's CARD OF 'worldmintlaw05.WideDivisors'. -/
def wideDivisorsUptoCard : Claim7 := { stood := { row := wideDivisorsUptoRow, standIns := [], harness := (true, "410d2223771a613b8b0572f500d3a0272c1bd2a6242dbd07349d81555f8bd43f"), looks := true }, kinds := [], alts := [], laidByText := true, laidKinds := [.data, .data, .data, .data, .sentinel, .sentinel, .pinned], laidTests := true, laidLooks := .later }
def WideDivisorsUptoCardSaid : Prop := Claim7.holds Tryz.pinned (.plain (OpenSpec.upto wideDivisorsSpec)) wideDivisorsUptoCard

/-- THE SECOND FORM's CARD OF 'worldmintlaw05.WideRing'. -/
def wideRingUptoCard : Claim7 := { stood := { row := wideRingUptoRow, standIns := [], harness := (true, "410d2223771a613b8b0572f500d3a0272c1bd2a6242dbd07349d81555f8bd43f"), looks := true }, kinds := [], alts := [], laidByText := true, laidKinds := [.data, .data, .data, .data, .sentinel, .sentinel, .pinned], laidTests := true, laidLooks := .later }
def WideRingUptoCardSaid : Prop := Claim7.holds Tryz.pinned (.plain (OpenSpec.upto wideRingSpec)) wideRingUptoCard

/-- THE SECOND FORM's CARD OF 'worldmintlaw05.WideLimits'. -/
def wideLimitsUptoCard : Claim7 := { stood := { row := wideLimitsUptoRow, standIns := [], harness := (true, "410d2223771a613b8b0572f500d3a0272c1bd2a6242dbd07349d81555f8bd43f"), looks := true }, kinds := [], alts := [], laidByText := true, laidKinds := [.data, .data, .data, .data, .sentinel, .sentinel, .pinned], laidTests := true, laidLooks := .later }
def WideLimitsUptoCardSaid : Prop := Claim7.holds Tryz.pinned (.plain (OpenSpec.upto wideLimitsSpec)) wideLimitsUptoCard
end Rows
end Go.Proofs.YtlceokefdihdkaaGreatDoor
