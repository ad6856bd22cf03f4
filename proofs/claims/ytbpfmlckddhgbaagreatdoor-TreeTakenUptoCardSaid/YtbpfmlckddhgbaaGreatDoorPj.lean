/- retort/retortlaw6.TreeTaken: the row's closed facts. -/
import Derived.Test.YtbpfmlckddhgbaaGreatDoorPi
namespace Go.Proofs.YtbpfmlckddhgbaaGreatDoor.fTaken
open Go Go.RowKit

theorem a1 : Rows.treeTakenUptoRow.wf (OpenSpec.ofChange (Rows.OpenSpec.upto Rows.treeTakenSpec).bare) = true := by kernel_rfl
theorem a4 : Tryz.f7.params.all (Tryz.pinned.checked.prog.readableRec ·) = true := by kernel_rfl
theorem a5 : namedTie Tryz.pinned.checked.prog Rows.treeTakenUptoRow.named (Rows.OpenSpec.upto Rows.treeTakenSpec).bare.vars = true := by kernel_rfl
theorem a10 : (Rows.treeTakenUptoRow.inPlace == Tryz.pinned.checked.prog.inPlace 7) = true := by kernel_rfl
theorem a11 : (Rows.treeTakenUptoRow.unfollowed == Tryz.pinned.checked.prog.unfollowed 7) = true := by kernel_rfl
theorem a12 : (Rows.treeTakenUptoRow.recurses == Tryz.pinned.checked.prog.recurses 7) = true := by kernel_rfl
theorem a13 : (Rows.treeTakenUptoRow.named == Tryz.pinned.checked.prog.varsNamed 7) = true := by kernel_rfl
theorem a14 : (Rows.treeTakenUptoRow.maps == (Tryz.f7.params.toList ++ (Rows.OpenSpec.upto Rows.treeTakenSpec).bare.plain.varTypes Tryz.pinned.checked.prog).any (Tryz.pinned.checked.prog.mapsRec ·)) = true := by kernel_rfl
theorem a15 : (Rows.treeTakenUptoRow.ifaces == (Tryz.f7.params.toList ++ (Rows.OpenSpec.upto Rows.treeTakenSpec).bare.plain.varTypes Tryz.pinned.checked.prog).any (Tryz.pinned.checked.prog.ifacesRec ·)) = true := by kernel_rfl
theorem a16 : (Rows.treeTakenUptoRow.mapsOut == Tryz.pinned.checked.prog.mapsAmong Tryz.f7.resultTypes.toList) = true := by kernel_rfl
theorem a17 : (Rows.treeTakenUptoRow.loops == (Tryz.f7.params.toList ++ (Rows.OpenSpec.upto Rows.treeTakenSpec).bare.plain.varTypes Tryz.pinned.checked.prog).any (Tryz.pinned.checked.prog.loopsFrom ·)) = true := by kernel_rfl
theorem a18 : (Rows.treeTakenUptoRow.wideKeys == (Tryz.f7.params.toList ++ (Rows.OpenSpec.upto Rows.treeTakenSpec).bare.plain.varTypes Tryz.pinned.checked.prog ++ Tryz.f7.resultTypes.toList).any (Tryz.pinned.checked.prog.wideKeysFrom ·)) = true := by kernel_rfl
theorem a19 : (Rows.OpenSpec.upto Rows.treeTakenSpec).bare.vars.all (Tryz.pinned.checked.prog.varReadable ·) = true := by kernel_rfl
theorem a20 : Tryz.f7.resultTypes.all (fun t => Tryz.pinned.checked.prog.readableRec t && decide (t < Tryz.pinned.checked.prog.types.size)) = true := by kernel_rfl
theorem a21 : (Rows.treeTakenUptoRow.ifacesOut == Tryz.f7.resultTypes.toList.any (Tryz.pinned.checked.prog.ifacesRec ·)) = true := by kernel_rfl
theorem a22 : (Rows.treeTakenUptoRow.loopsOut == Tryz.f7.resultTypes.toList.any (Tryz.pinned.checked.prog.loopsFrom ·)) = true := by kernel_rfl
theorem a27 : (Rows.treeTakenUptoRow.lifted == Tryz.pinned.checked.prog.liftsFinal) = true := by kernel_rfl
theorem a28 : (Tryz.pinned.checked.prog.make == some Rows.treeTakenUptoRow.make) = true := by kernel_rfl
theorem a29 : (Rows.treeTakenUptoRow.kinds == (if Rows.treeTakenUptoRow.domain.isEmpty then [] else Tryz.f7.params.toList.map fun t => match Tryz.pinned.checked.prog.underlying t with | some (.int k) => some k | _ => none)) = true := by kernel_rfl
theorem a31 : (Rows.treeTakenUptoRow.veiled == (Tryz.f7.params.toList ++ (Rows.OpenSpec.upto Rows.treeTakenSpec).bare.plain.varTypes Tryz.pinned.checked.prog ++ Tryz.f7.resultTypes.toList).any (Tryz.pinned.checked.prog.veiledRec ·)) = true := by kernel_rfl
theorem a32 : Rows.treeTakenUptoRow.veiledFits Tryz.pinned.checked.prog Tryz.f7.params.toList (Tryz.f7.params.toList ++ (Rows.OpenSpec.upto Rows.treeTakenSpec).bare.plain.varTypes Tryz.pinned.checked.prog ++ Tryz.f7.resultTypes.toList) = true := by kernel_rfl
theorem named : Tryz.pinned.checked.prog.funcNamed "retort/retortlaw6.TreeTaken" = some 7 := by kernel_rfl
theorem inst : Tryz.f7.isInstance Tryz.pinned.checked.prog Rows.treeTakenUptoRow.origin Rows.treeTakenUptoRow.targs := of_decide_eq_true (by kernel_rfl)
theorem wrap : Tryz.f7.isWrapper Tryz.pinned.checked.prog Rows.treeTakenUptoRow.wrapper Rows.treeTakenUptoRow.mainSum := by unfold Func.isWrapper; first | (rw [if_pos (by decide +kernel)]; kernel_rfl) | (rw [if_neg (by decide +kernel)]; exact ⟨rfl, rfl⟩)
set_option maxRecDepth 100000 in
theorem joined : joinedFacts Tryz.pinned.checked.prog 7 Tryz.f7 (Rows.OpenSpec.upto Rows.treeTakenSpec).bare Rows.treeTakenUptoRow = true :=
  joined_of a1 p2 p3 a4 a5 rfl p7 rfl p9 a10 a11 a12 a13 a14 a15 a16 a17 a18 a19 a20 a21 a22 p23 rfl p25 p26 a27 a28 a29 rfl a31 a32
end Go.Proofs.YtbpfmlckddhgbaaGreatDoor.fTaken
