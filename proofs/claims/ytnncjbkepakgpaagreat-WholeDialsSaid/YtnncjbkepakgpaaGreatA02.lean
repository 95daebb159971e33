/- PROVED: the closed facts of WholeDials' frame, one by one. -/
import Derived.Test.YtnncjbkepakgpaaGreatRows
import Derived.OpenShut
import Derived.JoinedOf
import Derived.Test.YtnncjbkepakgpaaGreatA01
set_option linter.unusedVariables false
set_option linter.unusedSimpArgs false
set_option maxRecDepth 100000
namespace Go.Proofs.YtnncjbkepakgpaaGreat.wholeDials
theorem fact0:(Rows.wholeDialsRow.wf (OpenSpec.ofChange Rows.wholeDialsSpec))=true:=af
theorem fact1:(laidOutB Tryz.prog)=true:=af
theorem fact2:(mapsRowed Tryz.prog)=true:=af
theorem fact3:(Tryz.f4.params.all (Tryz.prog.readableRec ·))=true:=af
theorem fact4:(namedTie Tryz.prog Rows.wholeDialsRow.named Rows.wholeDialsSpec.vars)=true:=af
theorem fact5:((Rows.wholeDialsRow.stops==[]))=true:=af
theorem fact6:((Tryz.prog.stops==[]))=true:=af
theorem fact7:((Rows.wholeDialsRow.knobs==[]))=true:=af
theorem fact8:((Tryz.prog.stopKnobs==[]))=true:=af
theorem fact9:((Rows.wholeDialsRow.inPlace==Tryz.prog.inPlace 4))=true:=af
theorem fact10:((Rows.wholeDialsRow.unfollowed==Tryz.prog.unfollowed 4))=true:=af
theorem fact11:((Rows.wholeDialsRow.recurses==Tryz.prog.recurses 4))=true:=af
theorem fact12:((Rows.wholeDialsRow.named==Tryz.prog.varsNamed 4))=true:=af
theorem fact13:((Rows.wholeDialsRow.maps==(Tryz.f4.params.toList++Rows.wholeDialsSpec.plain.varTypes Tryz.prog).any (Tryz.prog.mapsRec ·)))=true:=af
theorem fact14:((Rows.wholeDialsRow.ifaces==(Tryz.f4.params.toList++Rows.wholeDialsSpec.plain.varTypes Tryz.prog).any (Tryz.prog.ifacesRec ·)))=true:=af
theorem fact15:((Rows.wholeDialsRow.mapsOut==Tryz.prog.mapsAmong Tryz.f4.resultTypes.toList))=true:=af
theorem fact16:((Rows.wholeDialsRow.loops==(Tryz.f4.params.toList++Rows.wholeDialsSpec.plain.varTypes Tryz.prog).any (Tryz.prog.loopsFrom ·)))=true:=af
theorem fact17:((Rows.wholeDialsRow.wideKeys==(Tryz.f4.params.toList++Rows.wholeDialsSpec.plain.varTypes Tryz.prog++Tryz.f4.resultTypes.toList).any (Tryz.prog.wideKeysFrom ·)))=true:=af
theorem fact18:(Rows.wholeDialsSpec.vars.all (Tryz.prog.varReadable ·))=true:=af
theorem fact19:(Tryz.f4.resultTypes.all (fun t=>Tryz.prog.readableRec t&&decide (t<Tryz.prog.types.size)))=true:=af
theorem fact20:((Rows.wholeDialsRow.ifacesOut==Tryz.f4.resultTypes.toList.any (Tryz.prog.ifacesRec ·)))=true:=af
theorem fact21:((Rows.wholeDialsRow.loopsOut==Tryz.f4.resultTypes.toList.any (Tryz.prog.loopsFrom ·)))=true:=af
theorem fact22:((Rows.wholeDialsRow.plainKeys==Tryz.prog.plainKeys))=true:=af
theorem fact23:(Rows.wholeDialsRow.shortTexts.isNone)=true:=af
theorem fact24:(Tryz.prog.stopsHeard)=true:=af
theorem fact25:(Tryz.prog.mayEnter)=true:=af
theorem fact26:((Rows.wholeDialsRow.lifted==Tryz.prog.liftsFinal))=true:=af
theorem fact27:((Tryz.prog.make==some Rows.wholeDialsRow.make))=true:=af
theorem fact28:((Rows.wholeDialsRow.kinds==(if Rows.wholeDialsRow.domain.isEmpty then[]else Tryz.f4.params.toList.map fun t=>match Tryz.prog.underlying t with|some (.int k)=>some k|_=>none)))=true:=af
theorem fact29:((Rows.wholeDialsRow.pinned==Rows.wholeDialsRow.pinnedBy))=true:=af
theorem fact30:((Rows.wholeDialsRow.veiled==(Tryz.f4.params.toList++Rows.wholeDialsSpec.plain.varTypes Tryz.prog++Tryz.f4.resultTypes.toList).any (Tryz.prog.veiledRec ·)))=true:=af
theorem fact31:(Rows.wholeDialsRow.veiledFits Tryz.prog Tryz.f4.params.toList (Tryz.f4.params.toList++Rows.wholeDialsSpec.plain.varTypes Tryz.prog++Tryz.f4.resultTypes.toList))=true:=af
theorem named4:Tryz.prog.funcNamed Rows.wholeDialsRow.func=some 4:=af
theorem inst4:Tryz.f4.isInstance Tryz.prog Rows.wholeDialsRow.origin Rows.wholeDialsRow.targs:=of_decide_eq_true af
theorem wrap4:Tryz.f4.isWrapper Tryz.prog Rows.wholeDialsRow.wrapper Rows.wholeDialsRow.mainSum:=by unfold Func.isWrapper;first|(rw[if_pos (by decide+kernel)];kernel_rfl)|(rw[if_neg (by decide+kernel)];exact⟨rfl,rfl⟩)
end Go.Proofs.YtnncjbkepakgpaaGreat.wholeDials
