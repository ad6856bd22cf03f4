/-
  DERIVED. GIVEN WITH THE SEED: THE CARDS: each row of YtbpfmlckddhgbaaGreatDoorRows.lean that lists a variable, with what it lists TIED to the program's text (the seventh form; the later family's looks); each row that meets fmt, with fmt's text TOLD by the authors' own Lean function (tested against real Go, not proved from fmt's source: count such statements apart). THE CARD IS WHAT COUNTS. Prove the row's statement (the work); the ties are given (YtbpfmlckddhgbaaGreatDoorTie.lean); close each card by the builder's one call (the guide's Derived/Test/ToyasCard.lean, 'card_holds'). Laid BY PROGRAM, IN A SANDBOX (cutbox-door.mjs). By AI agents, Wed Nov 11 2026. No macro, syntax, notation, axiom, sorry.
-/
import Derived.Test.YtbpfmlckddhgbaaGreatDoorRows
import GoSem.ClaimSeven
namespace Go.Proofs.YtbpfmlckddhgbaaGreatDoor
namespace Rows

/-- THE TIED CARD OF 'retortlaw6.TreeBuilds'. -/
def treeBuildsCard : Claim7 := { stood := { row := treeBuildsRow, standIns := [], harness := (true, "557c6a11f6bf82ca5954b247db47b84d050459443f579e5bcd10cdc29e2cbf8b"), looks := true }, kinds := [], alts := [], laidByText := true, laidKinds := [.data, .pinned], laidTests := true, laidLooks := .later }
def TreeBuildsCardSaid : Prop := Claim7.holds Tryz.pinned (.plain (OpenSpec.ofChange treeBuildsSpec)) treeBuildsCard

/-- THE TIED CARD OF 'retortlaw6.TreeBack'. -/
def treeBackCard : Claim7 := { stood := { row := treeBackRow, standIns := [], harness := (true, "557c6a11f6bf82ca5954b247db47b84d050459443f579e5bcd10cdc29e2cbf8b"), looks := true }, kinds := [], alts := [], laidByText := true, laidKinds := [.data, .pinned], laidTests := true, laidLooks := .later }
def TreeBackCardSaid : Prop := Claim7.holds Tryz.pinned (.plain (OpenSpec.ofChange treeBackSpec)) treeBackCard

/-- THE TIED CARD OF 'retortlaw6.TreeAgain'. -/
def treeAgainCard : Claim7 := { stood := { row := treeAgainRow, standIns := [], harness := (true, "557c6a11f6bf82ca5954b247db47b84d050459443f579e5bcd10cdc29e2cbf8b"), looks := true }, kinds := [], alts := [], laidByText := true, laidKinds := [.data, .pinned], laidTests := true, laidLooks := .later }
def TreeAgainCardSaid : Prop := Claim7.holds Tryz.pinned (.plain (OpenSpec.ofChange treeAgainSpec)) treeAgainCard

/-- THE TIED CARD OF 'retortlaw6.TreeCuts'. -/
def treeCutsCard : Claim7 := { stood := { row := treeCutsRow, standIns := [], harness := (true, "557c6a11f6bf82ca5954b247db47b84d050459443f579e5bcd10cdc29e2cbf8b"), looks := true }, kinds := [], alts := [], laidByText := true, laidKinds := [.data, .pinned], laidTests := true, laidLooks := .later }
def TreeCutsCardSaid : Prop := Claim7.holds Tryz.pinned (.plain (OpenSpec.ofChange treeCutsSpec)) treeCutsCard

/-- THE TIED CARD OF 'retortlaw6.TreeTaken'. -/
def treeTakenCard : Claim7 := { stood := { row := treeTakenRow, standIns := [], harness := (true, "557c6a11f6bf82ca5954b247db47b84d050459443f579e5bcd10cdc29e2cbf8b"), looks := true }, kinds := [], alts := [], laidByText := true, laidKinds := [.data, .pinned], laidTests := true, laidLooks := .later }
def TreeTakenCardSaid : Prop := Claim7.holds Tryz.pinned (.plain (OpenSpec.ofChange treeTakenSpec)) treeTakenCard

/-- THE TIED CARD OF 'retortlaw6.TreeOwn'. -/
def treeOwnCard : Claim7 := { stood := { row := treeOwnRow, standIns := [], harness := (true, "557c6a11f6bf82ca5954b247db47b84d050459443f579e5bcd10cdc29e2cbf8b"), looks := true }, kinds := [], alts := [], laidByText := true, laidKinds := [.data, .pinned], laidTests := true, laidLooks := .later }
def TreeOwnCardSaid : Prop := Claim7.holds Tryz.pinned (.plain (OpenSpec.ofChange treeOwnSpec)) treeOwnCard

/-- THE TIED CARD OF 'retortlaw6.TreeMany'. -/
def treeManyCard : Claim7 := { stood := { row := treeManyRow, standIns := [], harness := (true, "557c6a11f6bf82ca5954b247db47b84d050459443f579e5bcd10cdc29e2cbf8b"), looks := true }, kinds := [], alts := [], laidByText := true, laidKinds := [.data, .pinned], laidTests := true, laidLooks := .later }
def TreeManyCardSaid : Prop := Claim7.holds Tryz.pinned (.plain (OpenSpec.ofChange treeManySpec)) treeManyCard

/-- THE TIED CARD OF 'retortlaw6.TreeLoads'. -/
def treeLoadsCard : Claim7 := { stood := { row := treeLoadsRow, standIns := [], harness := (true, "557c6a11f6bf82ca5954b247db47b84d050459443f579e5bcd10cdc29e2cbf8b"), looks := true }, kinds := [], alts := [], laidByText := true, laidKinds := [.data, .pinned], laidTests := true, laidLooks := .later }
def TreeLoadsCardSaid : Prop := Claim7.holds Tryz.pinned (.plain (OpenSpec.ofChange treeLoadsSpec)) treeLoadsCard

/-- THE TIED CARD OF 'retortlaw6.TreeKeeps'. -/
def treeKeepsCard : Claim7 := { stood := { row := treeKeepsRow, standIns := [], harness := (true, "557c6a11f6bf82ca5954b247db47b84d050459443f579e5bcd10cdc29e2cbf8b"), looks := true }, kinds := [], alts := [], laidByText := true, laidKinds := [.data, .pinned], laidTests := true, laidLooks := .later }
def TreeKeepsCardSaid : Prop := Claim7.holds Tryz.pinned (.plain (OpenSpec.ofChange treeKeepsSpec)) treeKeepsCard

/-- THE TIED CARD OF 'retortlaw7.DiffGets'. -/
def diffGetsCard : Claim7 := { stood := { row := diffGetsRow, standIns := [], harness := (true, "557c6a11f6bf82ca5954b247db47b84d050459443f579e5bcd10cdc29e2cbf8b"), looks := true }, kinds := [], alts := [], laidByText := true, laidKinds := [.data, .pinned], laidTests := true, laidLooks := .later }
def DiffGetsCardSaid : Prop := Claim7.holds Tryz.pinned (.plain (OpenSpec.ofChange diffGetsSpec)) diffGetsCard

/-- THE TIED CARD OF 'retortlaw7.DiffFew'. -/
def diffFewCard : Claim7 := { stood := { row := diffFewRow, standIns := [], harness := (true, "557c6a11f6bf82ca5954b247db47b84d050459443f579e5bcd10cdc29e2cbf8b"), looks := true }, kinds := [], alts := [], laidByText := true, laidKinds := [.data, .pinned], laidTests := true, laidLooks := .later }
def DiffFewCardSaid : Prop := Claim7.holds Tryz.pinned (.plain (OpenSpec.ofChange diffFewSpec)) diffFewCard

/-- THE TIED CARD OF 'retortlaw7.DiffThere'. -/
def diffThereCard : Claim7 := { stood := { row := diffThereRow, standIns := [], harness := (true, "557c6a11f6bf82ca5954b247db47b84d050459443f579e5bcd10cdc29e2cbf8b"), looks := true }, kinds := [], alts := [], laidByText := true, laidKinds := [.data, .pinned], laidTests := true, laidLooks := .later }
def DiffThereCardSaid : Prop := Claim7.holds Tryz.pinned (.plain (OpenSpec.ofChange diffThereSpec)) diffThereCard

/-- THE TIED CARD OF 'retortlaw7.DiffBook'. -/
def diffBookCard : Claim7 := { stood := { row := diffBookRow, standIns := [], harness := (true, "557c6a11f6bf82ca5954b247db47b84d050459443f579e5bcd10cdc29e2cbf8b"), looks := true }, kinds := [], alts := [], laidByText := true, laidKinds := [.data, .pinned], laidTests := true, laidLooks := .later }
def DiffBookCardSaid : Prop := Claim7.holds Tryz.pinned (.plain (OpenSpec.ofChange diffBookSpec)) diffBookCard

/-- THE SECOND FORM's CARD OF 'retortlaw6.TreeBuilds'. -/
def treeBuildsUptoCard : Claim7 := { stood := { row := treeBuildsUptoRow, standIns := [], harness := (true, "557c6a11f6bf82ca5954b247db47b84d050459443f579e5bcd10cdc29e2cbf8b"), looks := true }, kinds := [], alts := [], laidByText := true, laidKinds := [.data, .pinned], laidTests := true, laidLooks := .later }
def TreeBuildsUptoCardSaid : Prop := Claim7.holds Tryz.pinned (.plain (OpenSpec.upto treeBuildsSpec)) treeBuildsUptoCard

/-- THE SECOND FORM's CARD OF 'retortlaw6.TreeBack'. -/
def treeBackUptoCard : Claim7 := { stood := { row := treeBackUptoRow, standIns := [], harness := (true, "557c6a11f6bf82ca5954b247db47b84d050459443f579e5bcd10cdc29e2cbf8b"), looks := true }, kinds := [], alts := [], laidByText := true, laidKinds := [.data, .pinned], laidTests := true, laidLooks := .later }
def TreeBackUptoCardSaid : Prop := Claim7.holds Tryz.pinned (.plain (OpenSpec.upto treeBackSpec)) treeBackUptoCard

/-- THE SECOND FORM's CARD OF 'retortlaw6.TreeAgain'. -/
def treeAgainUptoCard : Claim7 := { stood := { row := treeAgainUptoRow, standIns := [], harness := (true, "557c6a11f6bf82ca5954b247db47b84d050459443f579e5bcd10cdc29e2cbf8b"), looks := true }, kinds := [], alts := [], laidByText := true, laidKinds := [.data, .pinned], laidTests := true, laidLooks := .later }
def TreeAgainUptoCardSaid : Prop := Claim7.holds Tryz.pinned (.plain (OpenSpec.upto treeAgainSpec)) treeAgainUptoCard

/-- THE SECOND FORM's CARD OF 'retortlaw6.TreeCuts'. -/
def treeCutsUptoCard : Claim7 := { stood := { row := treeCutsUptoRow, standIns := [], harness := (true, "557c6a11f6bf82ca5954b247db47b84d050459443f579e5bcd10cdc29e2cbf8b"), looks := true }, kinds := [], alts := [], laidByText := true, laidKinds := [.data, .pinned], laidTests := true, laidLooks := .later }
def TreeCutsUptoCardSaid : Prop := Claim7.holds Tryz.pinned (.plain (OpenSpec.upto treeCutsSpec)) treeCutsUptoCard

/-- THE SECOND FORM's CARD OF 'retortlaw6.TreeTaken'. -/
def treeTakenUptoCard : Claim7 := { stood := { row := treeTakenUptoRow, standIns := [], harness := (true, "557c6a11f6bf82ca5954b247db47b84d050459443f579e5bcd10cdc29e2cbf8b"), looks := true }, kinds := [], alts := [], laidByText := true, laidKinds := [.data, .pinned], laidTests := true, laidLooks := .later }
def TreeTakenUptoCardSaid : Prop := Claim7.holds Tryz.pinned (.plain (OpenSpec.upto treeTakenSpec)) treeTakenUptoCard

/-- THE SECOND FORM's CARD OF 'retortlaw6.TreeOwn'. -/
def treeOwnUptoCard : Claim7 := { stood := { row := treeOwnUptoRow, standIns := [], harness := (true, "557c6a11f6bf82ca5954b247db47b84d050459443f579e5bcd10cdc29e2cbf8b"), looks := true }, kinds := [], alts := [], laidByText := true, laidKinds := [.data, .pinned], laidTests := true, laidLooks := .later }
def TreeOwnUptoCardSaid : Prop := Claim7.holds Tryz.pinned (.plain (OpenSpec.upto treeOwnSpec)) treeOwnUptoCard

/-- THE SECOND FORM's CARD OF 'retortlaw6.TreeMany'. -/
def treeManyUptoCard : Claim7 := { stood := { row := treeManyUptoRow, standIns := [], harness := (true, "557c6a11f6bf82ca5954b247db47b84d050459443f579e5bcd10cdc29e2cbf8b"), looks := true }, kinds := [], alts := [], laidByText := true, laidKinds := [.data, .pinned], laidTests := true, laidLooks := .later }
def TreeManyUptoCardSaid : Prop := Claim7.holds Tryz.pinned (.plain (OpenSpec.upto treeManySpec)) treeManyUptoCard

/-- THE SECOND FORM's CARD OF 'retortlaw6.TreeLoads'. -/
def treeLoadsUptoCard : Claim7 := { stood := { row := treeLoadsUptoRow, standIns := [], harness := (true, "557c6a11f6bf82ca5954b247db47b84d050459443f579e5bcd10cdc29e2cbf8b"), looks := true }, kinds := [], alts := [], laidByText := true, laidKinds := [.data, .pinned], laidTests := true, laidLooks := .later }
def TreeLoadsUptoCardSaid : Prop := Claim7.holds Tryz.pinned (.plain (OpenSpec.upto treeLoadsSpec)) treeLoadsUptoCard

/-- THE SECOND FORM's CARD OF 'retortlaw6.TreeKeeps'. -/
def treeKeepsUptoCard : Claim7 := { stood := { row := treeKeepsUptoRow, standIns := [], harness := (true, "557c6a11f6bf82ca5954b247db47b84d050459443f579e5bcd10cdc29e2cbf8b"), looks := true }, kinds := [], alts := [], laidByText := true, laidKinds := [.data, .pinned], laidTests := true, laidLooks := .later }
def TreeKeepsUptoCardSaid : Prop := Claim7.holds Tryz.pinned (.plain (OpenSpec.upto treeKeepsSpec)) treeKeepsUptoCard

/-- THE SECOND FORM's CARD OF 'retortlaw7.DiffGets'. -/
def diffGetsUptoCard : Claim7 := { stood := { row := diffGetsUptoRow, standIns := [], harness := (true, "557c6a11f6bf82ca5954b247db47b84d050459443f579e5bcd10cdc29e2cbf8b"), looks := true }, kinds := [], alts := [], laidByText := true, laidKinds := [.data, .pinned], laidTests := true, laidLooks := .later }
def DiffGetsUptoCardSaid : Prop := Claim7.holds Tryz.pinned (.plain (OpenSpec.upto diffGetsSpec)) diffGetsUptoCard

/-- THE SECOND FORM's CARD OF 'retortlaw7.DiffFew'. -/
def diffFewUptoCard : Claim7 := { stood := { row := diffFewUptoRow, standIns := [], harness := (true, "557c6a11f6bf82ca5954b247db47b84d050459443f579e5bcd10cdc29e2cbf8b"), looks := true }, kinds := [], alts := [], laidByText := true, laidKinds := [.data, .pinned], laidTests := true, laidLooks := .later }
def DiffFewUptoCardSaid : Prop := Claim7.holds Tryz.pinned (.plain (OpenSpec.upto diffFewSpec)) diffFewUptoCard

/-- THE SECOND FORM's CARD OF 'retortlaw7.DiffThere'. -/
def diffThereUptoCard : Claim7 := { stood := { row := diffThereUptoRow, standIns := [], harness := (true, "557c6a11f6bf82ca5954b247db47b84d050459443f579e5bcd10cdc29e2cbf8b"), looks := true }, kinds := [], alts := [], laidByText := true, laidKinds := [.data, .pinned], laidTests := true, laidLooks := .later }
def DiffThereUptoCardSaid : Prop := Claim7.holds Tryz.pinned (.plain (OpenSpec.upto diffThereSpec)) diffThereUptoCard

/-- THE SECOND FORM's CARD OF 'retortlaw7.DiffBook'. -/
def diffBookUptoCard : Claim7 := { stood := { row := diffBookUptoRow, standIns := [], harness := (true, "557c6a11f6bf82ca5954b247db47b84d050459443f579e5bcd10cdc29e2cbf8b"), looks := true }, kinds := [], alts := [], laidByText := true, laidKinds := [.data, .pinned], laidTests := true, laidLooks := .later }
def DiffBookUptoCardSaid : Prop := Claim7.holds Tryz.pinned (.plain (OpenSpec.upto diffBookSpec)) diffBookUptoCard
end Rows
end Go.Proofs.YtbpfmlckddhgbaaGreatDoor
