/-
  DERIVED. GIVEN WITH THE SEED: THE CARDS: each row of YtohbmkppfbbngaaDoorRows.lean that lists a variable, with what it lists TIED to the program's text (the seventh form; the later family's looks); each row that meets fmt, with fmt's text TOLD by the authors' own Lean function (tested against real Go, not proved from fmt's source: count such statements apart). THE CARD IS WHAT COUNTS. Prove the row's statement (the work); the ties are given (YtohbmkppfbbngaaDoorTie.lean); close each card by the builder's one call (the guide's Derived/Test/ToyasCard.lean, 'card_holds'). Laid BY PROGRAM, IN A SANDBOX (cutbox-door.mjs). By AI agents, Wed Nov 11 2026. No macro, syntax, notation, axiom, sorry.
-/
import Derived.Test.YtohbmkppfbbngaaDoorRows
import GoSem.ClaimSeven
namespace Go.Proofs.YtohbmkppfbbngaaDoor
namespace Rows

/-- THE TIED CARD OF 'laws.FnLockFair'. -/
def fnLockFairCard : Claim7 := { stood := { row := fnLockFairRow, standIns := [], harness := (true, "fd219a4eecc19e492c7072ada655a3aa7ecd2044f72ce86499180df418ab7ac8"), looks := true }, kinds := [], alts := [], laidByText := true, laidKinds := [.handle], laidTests := true, laidLooks := .later }
def FnLockFairCardSaid : Prop := Claim7.holds Tryd.pinned (.plain (OpenSpec.ofChange fnLockFairSpec)) fnLockFairCard

/-- THE TIED CARD OF 'laws.FnExactLockAsk'. -/
def fnExactLockAskCard : Claim7 := { stood := { row := fnExactLockAskRow, standIns := [], harness := (true, "fd219a4eecc19e492c7072ada655a3aa7ecd2044f72ce86499180df418ab7ac8"), looks := true }, kinds := [], alts := [], laidByText := true, laidKinds := [.handle], laidTests := true, laidLooks := .later }
def FnExactLockAskCardSaid : Prop := Claim7.holds Tryd.pinned (.plain (OpenSpec.ofChange fnExactLockAskSpec)) fnExactLockAskCard

/-- THE TIED CARD OF 'laws.FnLockAsk'. -/
def fnLockAskCard : Claim7 := { stood := { row := fnLockAskRow, standIns := [], harness := (true, "fd219a4eecc19e492c7072ada655a3aa7ecd2044f72ce86499180df418ab7ac8"), looks := true }, kinds := [], alts := [], laidByText := true, laidKinds := [.handle], laidTests := true, laidLooks := .later }
def FnLockAskCardSaid : Prop := Claim7.holds Tryd.pinned (.plain (OpenSpec.ofChange fnLockAskSpec)) fnLockAskCard

/-- THE TIED CARD OF 'laws.FnExactLockFree'. -/
def fnExactLockFreeCard : Claim7 := { stood := { row := fnExactLockFreeRow, standIns := [], harness := (true, "fd219a4eecc19e492c7072ada655a3aa7ecd2044f72ce86499180df418ab7ac8"), looks := true }, kinds := [], alts := [], laidByText := true, laidKinds := [.handle], laidTests := true, laidLooks := .later }
def FnExactLockFreeCardSaid : Prop := Claim7.holds Tryd.pinned (.plain (OpenSpec.ofChange fnExactLockFreeSpec)) fnExactLockFreeCard

/-- THE TIED CARD OF 'laws.FnLockAskRefused'. -/
def fnLockAskRefusedCard : Claim7 := { stood := { row := fnLockAskRefusedRow, standIns := [], harness := (true, "fd219a4eecc19e492c7072ada655a3aa7ecd2044f72ce86499180df418ab7ac8"), looks := true }, kinds := [], alts := [], laidByText := true, laidKinds := [.handle], laidTests := true, laidLooks := .later }
def FnLockAskRefusedCardSaid : Prop := Claim7.holds Tryd.pinned (.plain (OpenSpec.ofChange fnLockAskRefusedSpec)) fnLockAskRefusedCard

/-- THE TIED CARD OF 'laws.FnLockFree'. -/
def fnLockFreeCard : Claim7 := { stood := { row := fnLockFreeRow, standIns := [], harness := (true, "fd219a4eecc19e492c7072ada655a3aa7ecd2044f72ce86499180df418ab7ac8"), looks := true }, kinds := [], alts := [], laidByText := true, laidKinds := [.handle], laidTests := true, laidLooks := .later }
def FnLockFreeCardSaid : Prop := Claim7.holds Tryd.pinned (.plain (OpenSpec.ofChange fnLockFreeSpec)) fnLockFreeCard

/-- THE TIED CARD OF 'laws.FnLockLeave'. -/
def fnLockLeaveCard : Claim7 := { stood := { row := fnLockLeaveRow, standIns := [], harness := (true, "fd219a4eecc19e492c7072ada655a3aa7ecd2044f72ce86499180df418ab7ac8"), looks := true }, kinds := [], alts := [], laidByText := true, laidKinds := [.handle], laidTests := true, laidLooks := .later }
def FnLockLeaveCardSaid : Prop := Claim7.holds Tryd.pinned (.plain (OpenSpec.ofChange fnLockLeaveSpec)) fnLockLeaveCard

/-- THE TIED CARD OF 'laws.FnLockBack'. -/
def fnLockBackCard : Claim7 := { stood := { row := fnLockBackRow, standIns := [], harness := (true, "fd219a4eecc19e492c7072ada655a3aa7ecd2044f72ce86499180df418ab7ac8"), looks := true }, kinds := [], alts := [], laidByText := true, laidKinds := [.handle], laidTests := true, laidLooks := .later }
def FnLockBackCardSaid : Prop := Claim7.holds Tryd.pinned (.plain (OpenSpec.ofChange fnLockBackSpec)) fnLockBackCard

/-- THE TIED CARD OF 'laws.FnLockFences'. -/
def fnLockFencesCard : Claim7 := { stood := { row := fnLockFencesRow, standIns := [], harness := (true, "fd219a4eecc19e492c7072ada655a3aa7ecd2044f72ce86499180df418ab7ac8"), looks := true }, kinds := [], alts := [], laidByText := true, laidKinds := [.handle], laidTests := true, laidLooks := .later }
def FnLockFencesCardSaid : Prop := Claim7.holds Tryd.pinned (.plain (OpenSpec.ofChange fnLockFencesSpec)) fnLockFencesCard

/-- THE TIED CARD OF 'laws.FnLockValid'. -/
def fnLockValidCard : Claim7 := { stood := { row := fnLockValidRow, standIns := [], harness := (true, "fd219a4eecc19e492c7072ada655a3aa7ecd2044f72ce86499180df418ab7ac8"), looks := true }, kinds := [], alts := [], laidByText := true, laidKinds := [.handle], laidTests := true, laidLooks := .later }
def FnLockValidCardSaid : Prop := Claim7.holds Tryd.pinned (.plain (OpenSpec.ofChange fnLockValidSpec)) fnLockValidCard

/-- THE SECOND FORM's CARD OF 'laws.FnLockFair'. -/
def fnLockFairUptoCard : Claim7 := { stood := { row := fnLockFairUptoRow, standIns := [], harness := (true, "fd219a4eecc19e492c7072ada655a3aa7ecd2044f72ce86499180df418ab7ac8"), looks := true }, kinds := [], alts := [], laidByText := true, laidKinds := [.handle], laidTests := true, laidLooks := .later }
def FnLockFairUptoCardSaid : Prop := Claim7.holds Tryd.pinned (.plain (OpenSpec.upto fnLockFairSpec)) fnLockFairUptoCard

/-- THE SECOND FORM's CARD OF 'laws.FnExactLockAsk'. -/
def fnExactLockAskUptoCard : Claim7 := { stood := { row := fnExactLockAskUptoRow, standIns := [], harness := (true, "fd219a4eecc19e492c7072ada655a3aa7ecd2044f72ce86499180df418ab7ac8"), looks := true }, kinds := [], alts := [], laidByText := true, laidKinds := [.handle], laidTests := true, laidLooks := .later }
def FnExactLockAskUptoCardSaid : Prop := Claim7.holds Tryd.pinned (.plain (OpenSpec.upto fnExactLockAskSpec)) fnExactLockAskUptoCard

/-- THE SECOND FORM's CARD OF 'laws.FnLockAsk'. -/
def fnLockAskUptoCard : Claim7 := { stood := { row := fnLockAskUptoRow, standIns := [], harness := (true, "fd219a4eecc19e492c7072ada655a3aa7ecd2044f72ce86499180df418ab7ac8"), looks := true }, kinds := [], alts := [], laidByText := true, laidKinds := [.handle], laidTests := true, laidLooks := .later }
def FnLockAskUptoCardSaid : Prop := Claim7.holds Tryd.pinned (.plain (OpenSpec.upto fnLockAskSpec)) fnLockAskUptoCard

/-- THE SECOND FORM's CARD OF 'laws.FnExactLockFree'. -/
def fnExactLockFreeUptoCard : Claim7 := { stood := { row := fnExactLockFreeUptoRow, standIns := [], harness := (true, "fd219a4eecc19e492c7072ada655a3aa7ecd2044f72ce86499180df418ab7ac8"), looks := true }, kinds := [], alts := [], laidByText := true, laidKinds := [.handle], laidTests := true, laidLooks := .later }
def FnExactLockFreeUptoCardSaid : Prop := Claim7.holds Tryd.pinned (.plain (OpenSpec.upto fnExactLockFreeSpec)) fnExactLockFreeUptoCard

/-- THE SECOND FORM's CARD OF 'laws.FnLockAskRefused'. -/
def fnLockAskRefusedUptoCard : Claim7 := { stood := { row := fnLockAskRefusedUptoRow, standIns := [], harness := (true, "fd219a4eecc19e492c7072ada655a3aa7ecd2044f72ce86499180df418ab7ac8"), looks := true }, kinds := [], alts := [], laidByText := true, laidKinds := [.handle], laidTests := true, laidLooks := .later }
def FnLockAskRefusedUptoCardSaid : Prop := Claim7.holds Tryd.pinned (.plain (OpenSpec.upto fnLockAskRefusedSpec)) fnLockAskRefusedUptoCard

/-- THE SECOND FORM's CARD OF 'laws.FnLockFree'. -/
def fnLockFreeUptoCard : Claim7 := { stood := { row := fnLockFreeUptoRow, standIns := [], harness := (true, "fd219a4eecc19e492c7072ada655a3aa7ecd2044f72ce86499180df418ab7ac8"), looks := true }, kinds := [], alts := [], laidByText := true, laidKinds := [.handle], laidTests := true, laidLooks := .later }
def FnLockFreeUptoCardSaid : Prop := Claim7.holds Tryd.pinned (.plain (OpenSpec.upto fnLockFreeSpec)) fnLockFreeUptoCard

/-- THE SECOND FORM's CARD OF 'laws.FnLockLeave'. -/
def fnLockLeaveUptoCard : Claim7 := { stood := { row := fnLockLeaveUptoRow, standIns := [], harness := (true, "fd219a4eecc19e492c7072ada655a3aa7ecd2044f72ce86499180df418ab7ac8"), looks := true }, kinds := [], alts := [], laidByText := true, laidKinds := [.handle], laidTests := true, laidLooks := .later }
def FnLockLeaveUptoCardSaid : Prop := Claim7.holds Tryd.pinned (.plain (OpenSpec.upto fnLockLeaveSpec)) fnLockLeaveUptoCard

/-- THE SECOND FORM's CARD OF 'laws.FnLockBack'. -/
def fnLockBackUptoCard : Claim7 := { stood := { row := fnLockBackUptoRow, standIns := [], harness := (true, "fd219a4eecc19e492c7072ada655a3aa7ecd2044f72ce86499180df418ab7ac8"), looks := true }, kinds := [], alts := [], laidByText := true, laidKinds := [.handle], laidTests := true, laidLooks := .later }
def FnLockBackUptoCardSaid : Prop := Claim7.holds Tryd.pinned (.plain (OpenSpec.upto fnLockBackSpec)) fnLockBackUptoCard

/-- THE SECOND FORM's CARD OF 'laws.FnLockFences'. -/
def fnLockFencesUptoCard : Claim7 := { stood := { row := fnLockFencesUptoRow, standIns := [], harness := (true, "fd219a4eecc19e492c7072ada655a3aa7ecd2044f72ce86499180df418ab7ac8"), looks := true }, kinds := [], alts := [], laidByText := true, laidKinds := [.handle], laidTests := true, laidLooks := .later }
def FnLockFencesUptoCardSaid : Prop := Claim7.holds Tryd.pinned (.plain (OpenSpec.upto fnLockFencesSpec)) fnLockFencesUptoCard

/-- THE SECOND FORM's CARD OF 'laws.FnLockValid'. -/
def fnLockValidUptoCard : Claim7 := { stood := { row := fnLockValidUptoRow, standIns := [], harness := (true, "fd219a4eecc19e492c7072ada655a3aa7ecd2044f72ce86499180df418ab7ac8"), looks := true }, kinds := [], alts := [], laidByText := true, laidKinds := [.handle], laidTests := true, laidLooks := .later }
def FnLockValidUptoCardSaid : Prop := Claim7.holds Tryd.pinned (.plain (OpenSpec.upto fnLockValidSpec)) fnLockValidUptoCard
end Rows
end Go.Proofs.YtohbmkppfbbngaaDoor
