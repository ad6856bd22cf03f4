/- retort/retortlaw6.TreeCuts: the row's closed facts. -/
import Derived.Test.YtbpfmlckddhgbaaGreatDoorQi
namespace Go.Proofs.YtbpfmlckddhgbaaGreatDoor.fCuts
open Go Go.RowKit
theorem a1 : Rows.treeCutsUptoRow.wf (OpenSpec.ofChange (Rows.OpenSpec.upto Rows.treeCutsSpec).bare) = true := by kernel_rfl
theorem a4 : Tryz.f6.params.all (Tryz.pinned.checked.prog.readableRec ·) = true := by kernel_rfl
theorem a5 : namedTie Tryz.pinned.checked.prog Rows.treeCutsUptoRow.named (Rows.OpenSpec.upto Rows.treeCutsSpec).bare.vars = true := by kernel_rfl
theorem a10 : (Rows.treeCutsUptoRow.inPlace == Tryz.pinned.checked.prog.inPlace 6) = true := by kernel_rfl
theorem a11 : (Rows.treeCutsUptoRow.unfollowed == Tryz.pinned.checked.prog.unfollowed 6) = true := by kernel_rfl
theorem a12 : (Rows.treeCutsUptoRow.recurses == Tryz.pinned.checked.prog.recurses 6) = true := by kernel_rfl
theorem a13 : (Rows.treeCutsUptoRow.named == Tryz.pinned.checked.prog.varsNamed 6) = true := by kernel_rfl
theorem a14 : (Rows.treeCutsUptoRow.maps == (Tryz.f6.params.toList ++ (Rows.OpenSpec.upto Rows.treeCutsSpec).bare.plain.varTypes Tryz.pinned.checked.prog).any (Tryz.pinned.checked.prog.mapsRec ·)) = true := by kernel_rfl
theorem a15 : (Rows.treeCutsUptoRow.ifaces == (Tryz.f6.params.toList ++ (Rows.OpenSpec.upto Rows.treeCutsSpec).bare.plain.varTypes Tryz.pinned.checked.prog).any (Tryz.pinned.checked.prog.ifacesRec ·)) = true := by kernel_rfl
theorem a16 : (Rows.treeCutsUptoRow.mapsOut == Tryz.pinned.checked.prog.mapsAmong Tryz.f6.resultTypes.toList) = true := by kernel_rfl
theorem a17 : (Rows.treeCutsUptoRow.loops == (Tryz.f6.params.toList ++ (Rows.OpenSpec.upto Rows.treeCutsSpec).bare.plain.varTypes Tryz.pinned.checked.prog).any (Tryz.pinned.checked.prog.loopsFrom ·)) = true := by kernel_rfl
theorem a18 : (Rows.treeCutsUptoRow.wideKeys == (Tryz.f6.params.toList ++ (Rows.OpenSpec.upto Rows.treeCutsSpec).bare.plain.varTypes Tryz.pinned.checked.prog ++ Tryz.f6.resultTypes.toList).any (Tryz.pinned.checked.prog.wideKeysFrom ·)) = true := by kernel_rfl
theorem a19 : (Rows.OpenSpec.upto Rows.treeCutsSpec).bare.vars.all (Tryz.pinned.checked.prog.varReadable ·) = true := by kernel_rfl
theorem a20 : Tryz.f6.resultTypes.all (fun t => Tryz.pinned.checked.prog.readableRec t && decide (t < Tryz.pinned.checked.prog.types.size)) = true := by kernel_rfl
theorem a21 : (Rows.treeCutsUptoRow.ifacesOut == Tryz.f6.resultTypes.toList.any (Tryz.pinned.checked.prog.ifacesRec ·)) = true := by kernel_rfl
theorem a22 : (Rows.treeCutsUptoRow.loopsOut == Tryz.f6.resultTypes.toList.any (Tryz.pinned.checked.prog.loopsFrom ·)) = true := by kernel_rfl
theorem a27 : (Rows.treeCutsUptoRow.lifted == Tryz.pinned.checked.prog.liftsFinal) = true := by kernel_rfl
theorem a28 : (Tryz.pinned.checked.prog.make == some Rows.treeCutsUptoRow.make) = true := by kernel_rfl
theorem a29 : (Rows.treeCutsUptoRow.kinds == (if Rows.treeCutsUptoRow.domain.isEmpty then [] else Tryz.f6.params.toList.map fun t => match Tryz.pinned.checked.prog.underlying t with | some (.int k) => some k | _ => none)) = true := by kernel_rfl
theorem a31 : (Rows.treeCutsUptoRow.veiled == (Tryz.f6.params.toList ++ (Rows.OpenSpec.upto Rows.treeCutsSpec).bare.plain.varTypes Tryz.pinned.checked.prog ++ Tryz.f6.resultTypes.toList).any (Tryz.pinned.checked.prog.veiledRec ·)) = true := by kernel_rfl
theorem a32 : Rows.treeCutsUptoRow.veiledFits Tryz.pinned.checked.prog Tryz.f6.params.toList (Tryz.f6.params.toList ++ (Rows.OpenSpec.upto Rows.treeCutsSpec).bare.plain.varTypes Tryz.pinned.checked.prog ++ Tryz.f6.resultTypes.toList) = true := by kernel_rfl
theorem named : Tryz.pinned.checked.prog.funcNamed "retort/retortlaw6.TreeCuts" = some 6 := by kernel_rfl
theorem inst : Tryz.f6.isInstance Tryz.pinned.checked.prog Rows.treeCutsUptoRow.origin Rows.treeCutsUptoRow.targs := of_decide_eq_true (by kernel_rfl)
theorem wrap : Tryz.f6.isWrapper Tryz.pinned.checked.prog Rows.treeCutsUptoRow.wrapper Rows.treeCutsUptoRow.mainSum := by unfold Func.isWrapper; first | (rw [if_pos (by decide +kernel)]; kernel_rfl) | (rw [if_neg (by decide +kernel)]; exact ⟨rfl, rfl⟩)
set_option maxRecDepth 100000 in
theorem joined : joinedFacts Tryz.pinned.checked.prog 6 Tryz.f6 (Rows.OpenSpec.upto Rows.treeCutsSpec).bare Rows.treeCutsUptoRow = true :=
  joined_of a1 p2 p3 a4 a5 rfl p7 rfl p9 a10 a11 a12 a13 a14 a15 a16 a17 a18 a19 a20 a21 a22 p23 rfl p25 p26 a27 a28 a29 rfl a31 a32
end Go.Proofs.YtbpfmlckddhgbaaGreatDoor.fCuts
