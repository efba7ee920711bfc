/-
  Proved here: a start that meets the row's condition. Conditions: none beyond the statement's own.
-/
import Derived.Test.YtpndlkjdolbccaaGreatDoorZ25
import Derived.LaidMore
import Derived.OpenShut
import Derived.Lay
import Derived.Stop.Joined
set_option maxRecDepth 100000
namespace Go.Proofs.YtpndlkjdolbccaaGreatDoor
open Go

theorem own : ownKnob Tryz.prog.godebug = none := by kernel_rfl
theorem noInit : Tryz.prog.inits.idxOf? 3 = none := by kernel_rfl
theorem reads31 : Tryz.prog.readableRec 31 = true := by kernel_rfl
theorem row31 : decide (31 < Tryz.prog.types.size) = true := by kernel_rfl
/-- The event that is all zeros. -/
abbrev ev0 : Value := .agg #[.int .i8 0, .int .i8 0, .int .i8 0, .int .i64 0, .int .i64 0, .int .u8 0, .slice none 0 0, .int .i8 0, .string ⟨#[]⟩, .slice none 0 0, .slice none 0 0, .int .i32 0, .bool false, .bool false, .int .i64 0, .int .i32 0, .slice none 0 0, .slice none 0 0, .int .i8 0]

theorem sizeIs (os : Os) : (World.holding Tryz.prog os ⟨#[], #[], []⟩).heap.size = 15 := by
  simp only [World.holding, World.settled, begin, waitsIs]
  kernel_rfl
noncomputable abbrev start (os : Os) : World := World.laidAll Tryz.prog os laid

noncomputable abbrev begun (os : Os) : World := (start os).forCall (fun _ _ => 0) ⟨#[], #[ev0, .int .i8 0], []⟩

theorem layVars_of {P : Program} {w : World} {l : List (String × DataW Unit)} {y : List (Nat × List Value) × List Obj} (h : Lay.layList P w.heap.size l = some y) : w.layVars P l = { w with heap := ⟨Lay.setRows w.heap.toList y.1 ++ y.2⟩ } := by
  unfold World.layVars
  rw [h]
theorem layAt (os : Os) : Lay.layList Tryz.prog (World.holding Tryz.prog os ⟨#[], #[], []⟩).heap.size laid = some (laidRows, laidBlocks) := by
  rw [sizeIs]
  exact layIs
/-- The start, its listed variables written out. -/
noncomputable def startIn (os : Os) : World := { World.holding Tryz.prog os ⟨#[], #[], []⟩ with heap := ⟨Lay.setRows (World.holding Tryz.prog os ⟨#[], #[], []⟩).heap.toList (laidRows, laidBlocks).1 ++ (laidRows, laidBlocks).2⟩ }
theorem startIs (os : Os) : World.laidAll Tryz.prog os laid = startIn os := by
  unfold World.laidAll startIn
  exact layVars_of (layAt os)
noncomputable abbrev begunIn (os : Os) : World := (startIn os).forCall (fun _ _ => 0) ⟨#[], #[ev0, .int .i8 0], []⟩
theorem begunIs (os : Os) : begun os = begunIn os := by
  show (World.laidAll Tryz.prog os laid).forCall (fun _ _ => 0) ⟨#[], #[ev0, .int .i8 0], []⟩ = (startIn os).forCall (fun _ _ => 0) ⟨#[], #[ev0, .int .i8 0], []⟩
  rw [startIs]
theorem s2 (os : Os) : ((begun os).heap.toList.drop Tryz.prog.globals.size).take ((begin Tryz.prog (fun _ _ => 0) default).world.heap.size - Tryz.prog.globals.size) =
      (begin Tryz.prog (fun _ _ => 0) default).world.heap.toList.drop Tryz.prog.globals.size := by
  rw [begunIs]
  kernel_rfl
theorem s3 (os : Os) : Input.okWideB Tryz.prog (begun os) 3 ⟨#[], #[ev0, .int .i8 0], []⟩ = true := by
  rw [begunIs]
  kernel_rfl
theorem s4 (os : Os) (H : Type) (enc : TypeId × Value → H) : Rows.clusterNoneSpec.preB enc Tryz.prog Tryz.f3 [] false (begun os).memory #[ev0, .int .i8 0] 8 = true := by
  rw [begunIs]
  kernel_rfl
theorem s5 (os : Os) (H : Type) (enc : TypeId × Value → H) : Rows.clusterNoneSpec.sizedB enc Tryz.prog Tryz.f3 false (begun os).memory #[ev0, .int .i8 0] 8 = true := by
  rw [begunIs]
  kernel_rfl
theorem layFits_of {P : Program} {w : World} {l : List (String × DataW Unit)} {B : List Nat} {y : List (Nat × List Value) × List Obj} (h : Lay.layList P w.heap.size l = some y) :
    w.layFits P l B = (decide (y.1.map (·.1)).Nodup && (y.1.all fun r => Lay.isRow w.heap.toList[r.1]? && !B.contains r.1) && B.all (· < w.heap.size)) := by
  unfold World.layFits
  rw [h]
theorem layIfaces_of {P : Program} {w w' : World} {l : List (String × DataW Unit)} {y : List (Nat × List Value) × List Obj} (h : Lay.layList P w.heap.size l = some y) :
    w.layIfaces P l w' = ((y.1.all fun r => r.2.all (Lay.okV P w')) && y.2.all (Lay.okO P w')) := by
  unfold World.layIfaces
  rw [h]
theorem fitsIn (os : Os) : (decide ((laidRows, laidBlocks).1.map (·.1)).Nodup && ((laidRows, laidBlocks).1.all fun r => Lay.isRow (World.holding Tryz.prog os ⟨#[], #[], []⟩).heap.toList[r.1]? && !([] : List Nat).contains r.1) && ([] : List Nat).all (· < (World.holding Tryz.prog os ⟨#[], #[], []⟩).heap.size)) = true := by kernel_rfl
theorem ifacesIn (os : Os) : (((laidRows, laidBlocks).1.all fun r => r.2.all (Lay.okV Tryz.prog (startIn os))) && (laidRows, laidBlocks).2.all (Lay.okO Tryz.prog (startIn os))) = true := by kernel_rfl
theorem s6 (os : Os) : (World.holding Tryz.prog os ⟨#[], #[], []⟩).layFits Tryz.prog laid [] = true := (layFits_of (layAt os)).trans (fitsIn os)
theorem s7 (os : Os) : (World.holding Tryz.prog os ⟨#[], #[], []⟩).layIfaces Tryz.prog laid (World.laidAll Tryz.prog os laid) = true := by
  rw [startIs]
  exact (layIfaces_of (layAt os)).trans (ifacesIn os)
theorem s8 (os : Os) : laidMetH Tryz.prog laid (begun os).memory := by
  rw [MakeChecks.laidMetH_plain _ _ _ (by kernel_rfl)]
  exact laidMet_laidAll _ (s6 os) (s7 os)
end Go.Proofs.YtpndlkjdolbccaaGreatDoor
