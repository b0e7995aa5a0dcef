/- The closed facts of ViewNobody's row, one by one. -/
import Derived.Test.YtdgccipcandojaaGreatRows
import Derived.ProofKit
namespace Go.Proofs.YtdgccipcandojaaGreat
open Go

theorem fact0 : (Rows.viewNobodyRow.wf (OpenSpec.ofChange Rows.viewNobodySpec)) = true := by kernel_rfl
theorem fact1 : (laidOutB Tryz.checked.prog) = true := by kernel_rfl
theorem fact2 : (mapsRowed Tryz.checked.prog) = true := by kernel_rfl
theorem fact3 : (Tryz.f3.params.all (Tryz.checked.prog.readableRec ·)) = true := by kernel_rfl
theorem fact4 : (namedTie Tryz.checked.prog Rows.viewNobodyRow.named Rows.viewNobodySpec.vars) = true := by kernel_rfl
theorem fact5 : ((Rows.viewNobodyRow.stops == [])) = true := by kernel_rfl
theorem fact6 : ((Tryz.checked.prog.stops == [])) = true := by kernel_rfl
theorem fact7 : ((Rows.viewNobodyRow.knobs == [])) = true := by kernel_rfl
theorem fact8 : ((Tryz.checked.prog.stopKnobs == [])) = true := by kernel_rfl
theorem fact9 : ((Rows.viewNobodyRow.inPlace == Tryz.checked.prog.inPlace 3)) = true := by kernel_rfl
theorem fact10 : ((Rows.viewNobodyRow.unfollowed == Tryz.checked.prog.unfollowed 3)) = true := by kernel_rfl
theorem fact11 : ((Rows.viewNobodyRow.recurses == Tryz.checked.prog.recurses 3)) = true := by kernel_rfl
theorem fact12 : ((Rows.viewNobodyRow.named == Tryz.checked.prog.varsNamed 3)) = true := by kernel_rfl
theorem fact13 : ((Rows.viewNobodyRow.maps == (Tryz.f3.params.toList ++ Rows.viewNobodySpec.plain.varTypes Tryz.checked.prog).any (Tryz.checked.prog.mapsRec ·))) = true := by kernel_rfl
theorem fact14 : ((Rows.viewNobodyRow.ifaces == (Tryz.f3.params.toList ++ Rows.viewNobodySpec.plain.varTypes Tryz.checked.prog).any (Tryz.checked.prog.ifacesRec ·))) = true := by kernel_rfl
theorem fact15 : ((Rows.viewNobodyRow.mapsOut == Tryz.checked.prog.mapsAmong Tryz.f3.resultTypes.toList)) = true := by kernel_rfl
theorem fact16 : ((Rows.viewNobodyRow.loops == (Tryz.f3.params.toList ++ Rows.viewNobodySpec.plain.varTypes Tryz.checked.prog).any (Tryz.checked.prog.loopsFrom ·))) = true := by kernel_rfl
theorem fact17 : ((Rows.viewNobodyRow.wideKeys == (Tryz.f3.params.toList ++ Rows.viewNobodySpec.plain.varTypes Tryz.checked.prog ++ Tryz.f3.resultTypes.toList).any (Tryz.checked.prog.wideKeysFrom ·))) = true := by kernel_rfl
theorem fact18 : (Rows.viewNobodySpec.vars.all (Tryz.checked.prog.varReadable ·)) = true := by kernel_rfl
theorem fact19 : (Tryz.f3.resultTypes.all (fun t => Tryz.checked.prog.readableRec t && decide (t < Tryz.checked.prog.types.size))) = true := by kernel_rfl
theorem fact20 : ((Rows.viewNobodyRow.ifacesOut == Tryz.f3.resultTypes.toList.any (Tryz.checked.prog.ifacesRec ·))) = true := by kernel_rfl
theorem fact21 : ((Rows.viewNobodyRow.loopsOut == Tryz.f3.resultTypes.toList.any (Tryz.checked.prog.loopsFrom ·))) = true := by kernel_rfl
theorem fact22 : ((Rows.viewNobodyRow.plainKeys == Tryz.checked.prog.plainKeys)) = true := by kernel_rfl
theorem fact23 : (Rows.viewNobodyRow.shortTexts.isNone) = true := by kernel_rfl
theorem fact24 : (Tryz.checked.prog.stopsHeard) = true := by kernel_rfl
theorem fact25 : (Tryz.checked.prog.mayEnter) = true := by kernel_rfl
theorem fact26 : ((Rows.viewNobodyRow.lifted == Tryz.checked.prog.liftsFinal)) = true := by kernel_rfl
theorem fact27 : ((Tryz.checked.prog.make == some Rows.viewNobodyRow.make)) = true := by kernel_rfl
theorem fact28 : ((Rows.viewNobodyRow.kinds == (if Rows.viewNobodyRow.domain.isEmpty then [] else Tryz.f3.params.toList.map fun t => match Tryz.checked.prog.underlying t with | some (.int k) => some k | _ => none))) = true := by kernel_rfl
theorem fact29 : ((Rows.viewNobodyRow.pinned == Rows.viewNobodyRow.pinnedBy)) = true := by kernel_rfl
theorem fact30 : ((Rows.viewNobodyRow.veiled == (Tryz.f3.params.toList ++ Rows.viewNobodySpec.plain.varTypes Tryz.checked.prog ++ Tryz.f3.resultTypes.toList).any (Tryz.checked.prog.veiledRec ·))) = true := by kernel_rfl
theorem fact31 : (Rows.viewNobodyRow.veiledFits Tryz.checked.prog Tryz.f3.params.toList (Tryz.f3.params.toList ++ Rows.viewNobodySpec.plain.varTypes Tryz.checked.prog ++ Tryz.f3.resultTypes.toList)) = true := by kernel_rfl
theorem rowFunc : Tryz.checked.prog.funcNamed Rows.viewNobodyRow.func = some 3 := by kernel_rfl
theorem rowInst : Func.isInstance Tryz.checked.prog Tryz.f3 Rows.viewNobodyRow.origin Rows.viewNobodyRow.targs := of_decide_eq_true (by kernel_rfl)
theorem rowWrap : Func.isWrapper Tryz.checked.prog Tryz.f3 Rows.viewNobodyRow.wrapper Rows.viewNobodyRow.mainSum := by unfold Func.isWrapper; first | (rw [if_pos (by decide +kernel)]; kernel_rfl) | (rw [if_neg (by decide +kernel)]; exact ⟨rfl, rfl⟩)
end Go.Proofs.YtdgccipcandojaaGreat

