/-
  Proved here: closed facts of the row that are read off its types. Conditions: none beyond the statement's own.
-/
import Derived.Test.YtpndlkjdolbccaaGreatDoorZ18
import GoSem.ClaimGoes
set_option maxRecDepth 100000
namespace Go.Proofs.YtpndlkjdolbccaaGreatDoor
open Go
theorem j1 : (Rows.clusterNoneRow.wf (OpenSpec.ofChange Rows.clusterNoneSpec) : Bool) = true := by kernel_rfl
theorem j4 : (Tryz.f3.params.all (Tryz.prog.readableRec ·) : Bool) = true := by kernel_rfl
theorem j5 : (namedTie Tryz.prog Rows.clusterNoneRow.named Rows.clusterNoneSpec.vars : Bool) = true := by kernel_rfl
theorem j6 : ((Rows.clusterNoneRow.stops == []) : Bool) = true := by kernel_rfl
theorem j7 : ((Tryz.prog.stops == []) : Bool) = true := by kernel_rfl
theorem j8 : ((Rows.clusterNoneRow.knobs == []) : Bool) = true := by kernel_rfl
theorem j9 : ((Tryz.prog.stopKnobs == []) : Bool) = true := by kernel_rfl
theorem j14 : ((Rows.clusterNoneRow.maps == (Tryz.f3.params.toList ++ Rows.clusterNoneSpec.plain.varTypes Tryz.prog).any (Tryz.prog.mapsRec ·)) : Bool) = true := by kernel_rfl
theorem j15 : ((Rows.clusterNoneRow.ifaces == (Tryz.f3.params.toList ++ Rows.clusterNoneSpec.plain.varTypes Tryz.prog).any (Tryz.prog.ifacesRec ·)) : Bool) = true := by kernel_rfl
theorem j16 : ((Rows.clusterNoneRow.mapsOut == Tryz.prog.mapsAmong Tryz.f3.resultTypes.toList) : Bool) = true := by kernel_rfl
theorem j17 : ((Rows.clusterNoneRow.loops == (Tryz.f3.params.toList ++ Rows.clusterNoneSpec.plain.varTypes Tryz.prog).any (Tryz.prog.loopsFrom ·)) : Bool) = true := by kernel_rfl
theorem j18 : ((Rows.clusterNoneRow.wideKeys == (Tryz.f3.params.toList ++ Rows.clusterNoneSpec.plain.varTypes Tryz.prog ++ Tryz.f3.resultTypes.toList).any (Tryz.prog.wideKeysFrom ·)) : Bool) = true := by kernel_rfl
theorem j19 : (Rows.clusterNoneSpec.vars.all (Tryz.prog.varReadable ·) : Bool) = true := by kernel_rfl
theorem j20 : (Tryz.f3.resultTypes.all (fun t => Tryz.prog.readableRec t && decide (t < Tryz.prog.types.size)) : Bool) = true := by kernel_rfl
theorem j21 : ((Rows.clusterNoneRow.ifacesOut == Tryz.f3.resultTypes.toList.any (Tryz.prog.ifacesRec ·)) : Bool) = true := by kernel_rfl
theorem j22 : ((Rows.clusterNoneRow.loopsOut == Tryz.f3.resultTypes.toList.any (Tryz.prog.loopsFrom ·)) : Bool) = true := by kernel_rfl
theorem j23 : ((Rows.clusterNoneRow.plainKeys == Tryz.prog.plainKeys) : Bool) = true := by kernel_rfl
theorem j24 : (Rows.clusterNoneRow.shortTexts.isNone : Bool) = true := by kernel_rfl
theorem j25 : (Tryz.prog.stopsHeard : Bool) = true := by kernel_rfl
theorem j26 : (Tryz.prog.mayEnter : Bool) = true := by kernel_rfl
theorem j27 : ((Rows.clusterNoneRow.lifted == Tryz.prog.liftsFinal) : Bool) = true := by kernel_rfl
theorem j28 : ((Tryz.prog.make == some Rows.clusterNoneRow.make) : Bool) = true := by kernel_rfl
theorem j29 : ((Rows.clusterNoneRow.kinds == (if Rows.clusterNoneRow.domain.isEmpty then [] else Tryz.f3.params.toList.map fun t => match Tryz.prog.underlying t with | some (.int k) => some k | _ => none)) : Bool) = true := by kernel_rfl
theorem j30 : ((Rows.clusterNoneRow.pinned == Rows.clusterNoneRow.pinnedBy) : Bool) = true := by kernel_rfl
theorem j31 : ((Rows.clusterNoneRow.veiled == (Tryz.f3.params.toList ++ Rows.clusterNoneSpec.plain.varTypes Tryz.prog ++ Tryz.f3.resultTypes.toList).any (Tryz.prog.veiledRec ·)) : Bool) = true := by kernel_rfl
theorem j32 : (Rows.clusterNoneRow.veiledFits Tryz.prog Tryz.f3.params.toList (Tryz.f3.params.toList ++ Rows.clusterNoneSpec.plain.varTypes Tryz.prog ++ Tryz.f3.resultTypes.toList) : Bool) = true := by kernel_rfl
end Go.Proofs.YtpndlkjdolbccaaGreatDoor
