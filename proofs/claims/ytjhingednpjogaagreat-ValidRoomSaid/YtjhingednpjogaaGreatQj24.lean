/- Lemmas for ValidRoom; laid together by a program. -/
import Derived.Test.YtjhingednpjogaaGreatAu
set_option linter.all false
set_option maxRecDepth 100000
namespace Go.Proofs.YtjhingednpjogaaGreat
open Go.Proofs.Tryz
open Go.ChangeShapes Go.WideShapes Go.ChangeAt Go.RowKit
theorem qL{a b:Bool}(h:a=true)(k:b=true):(a && b)=true:=by rw[h,k];rfl
theorem Jz:(Rows.validRoomRow.wf (OpenSpec.ofChange Rows.validRoomSpec))=true:=by kernel_rfl
theorem Iq:(laidOutB Tryz.pinned.checked.prog)=true:=by kernel_rfl
theorem IK:(mapsRowed Tryz.pinned.checked.prog)=true:=by kernel_rfl
theorem Jv:(f3.params.all (Tryz.pinned.checked.prog.readableRec ·))=true:=by kernel_rfl
theorem IW:(namedTie Tryz.pinned.checked.prog Rows.validRoomRow.named Rows.validRoomSpec.vars)=true:=by kernel_rfl
theorem I9:((Rows.validRoomRow.stops == []))=true:=by kernel_rfl
theorem Iu:((Tryz.pinned.checked.prog.stops == []))=true:=by kernel_rfl
theorem JG:((Rows.validRoomRow.knobs == []))=true:=by kernel_rfl
theorem IJ:((Tryz.pinned.checked.prog.stopKnobs == []))=true:=by kernel_rfl
theorem Iy:((Rows.validRoomRow.inPlace == Tryz.pinned.checked.prog.inPlace 3))=true:=by kernel_rfl
theorem FH:((Rows.validRoomRow.unfollowed == Tryz.pinned.checked.prog.unfollowed 3))=true:=by kernel_rfl
theorem Gb:((Rows.validRoomRow.recurses == Tryz.pinned.checked.prog.recurses 3))=true:=by kernel_rfl
theorem Fu:((Rows.validRoomRow.named == Tryz.pinned.checked.prog.varsNamed 3))=true:=by kernel_rfl
theorem FE:((Rows.validRoomRow.maps == (f3.params.toList++Rows.validRoomSpec.plain.varTypes Tryz.pinned.checked.prog).any (Tryz.pinned.checked.prog.mapsRec ·)))=true:=by kernel_rfl
theorem F8:((Rows.validRoomRow.ifaces == (f3.params.toList++Rows.validRoomSpec.plain.varTypes Tryz.pinned.checked.prog).any (Tryz.pinned.checked.prog.ifacesRec ·)))=true:=by kernel_rfl
theorem FL:((Rows.validRoomRow.mapsOut == Tryz.pinned.checked.prog.mapsAmong f3.resultTypes.toList))=true:=by kernel_rfl
theorem Fz:((Rows.validRoomRow.loops == (f3.params.toList++Rows.validRoomSpec.plain.varTypes Tryz.pinned.checked.prog).any (Tryz.pinned.checked.prog.loopsFrom ·)))=true:=by kernel_rfl
theorem Gi:((Rows.validRoomRow.wideKeys == (f3.params.toList++Rows.validRoomSpec.plain.varTypes Tryz.pinned.checked.prog++f3.resultTypes.toList).any (Tryz.pinned.checked.prog.wideKeysFrom ·)))=true:=by kernel_rfl
theorem Gj:(Rows.validRoomSpec.vars.all (Tryz.pinned.checked.prog.varReadable ·))=true:=by kernel_rfl
theorem Fi:(f3.resultTypes.all (λt=>Tryz.pinned.checked.prog.readableRec t && decide (t<Tryz.pinned.checked.prog.types.size)))=true:=by kernel_rfl
theorem FO:((Rows.validRoomRow.ifacesOut == f3.resultTypes.toList.any (Tryz.pinned.checked.prog.ifacesRec ·)))=true:=by kernel_rfl
theorem Gh:((Rows.validRoomRow.loopsOut == f3.resultTypes.toList.any (Tryz.pinned.checked.prog.loopsFrom ·)))=true:=by kernel_rfl
theorem FK:((Rows.validRoomRow.plainKeys == Tryz.pinned.checked.prog.plainKeys))=true:=by kernel_rfl
theorem FM:(Rows.validRoomRow.shortTexts.isNone)=true:=by kernel_rfl
theorem FJ:(Tryz.pinned.checked.prog.stopsHeard)=true:=by kernel_rfl
theorem Fw:(Tryz.pinned.checked.prog.mayEnter)=true:=by kernel_rfl
theorem Fm:((Rows.validRoomRow.lifted == Tryz.pinned.checked.prog.liftsFinal))=true:=by kernel_rfl
theorem FZ:((Tryz.pinned.checked.prog.make == some Rows.validRoomRow.make))=true:=by kernel_rfl
theorem Ga:((Rows.validRoomRow.kinds == (if Rows.validRoomRow.domain.isEmpty then []else f3.params.toList.map λt=>match Tryz.pinned.checked.prog.underlying t with | some (.int k)=>some k | _=>none)))=true:=by kernel_rfl
theorem Fs:((Rows.validRoomRow.pinned == Rows.validRoomRow.pinnedBy))=true:=by kernel_rfl
theorem Fj:((Rows.validRoomRow.veiled == (f3.params.toList++Rows.validRoomSpec.plain.varTypes Tryz.pinned.checked.prog++f3.resultTypes.toList).any (Tryz.pinned.checked.prog.veiledRec ·)))=true:=by kernel_rfl
theorem Fv:(Rows.validRoomRow.veiledFits Tryz.pinned.checked.prog f3.params.toList (f3.params.toList++Rows.validRoomSpec.plain.varTypes Tryz.pinned.checked.prog++f3.resultTypes.toList))=true:=by kernel_rfl
theorem BB:joinedFacts Tryz.pinned.checked.prog 3 f3 Rows.validRoomSpec Rows.validRoomRow=true:=(qL (qL (qL (qL (qL (qL (qL (qL (qL (qL (qL (qL (qL (qL (qL (qL (qL (qL (qL (qL (qL (qL (qL (qL (qL (qL (qL (qL (qL (qL (qL Jz Iq) IK) Jv) IW) I9) Iu) JG) IJ) Iy) FH) Gb) Fu) FE) F8) FL) Fz) Gi) Gj) Fi) FO) Gh) FK) FM) FJ) Fw) Fm) FZ) Ga) Fs) Fj) Fv)
end Go.Proofs.YtjhingednpjogaaGreat
