/-
  Proved here: closed facts of the row that are read off the functions that it can come to. Conditions: none beyond the statement's own.
-/
import Derived.Test.YtpndlkjdolbccaaGreatDoorZ18
import GoSem.ClaimGoes
set_option maxRecDepth 100000
namespace Go.Proofs.YtpndlkjdolbccaaGreatDoor
open Go
theorem unfollowedIs : Tryz.prog.unfollowed 3 = true := by
  unfold Program.unfollowed
  rw [closureIs]
  kernel_rfl
theorem j10 : ((Rows.clusterNoneRow.inPlace == Tryz.prog.inPlace 3) : Bool) = true := by
  unfold Program.inPlace
  rw [closureIs]
  kernel_rfl
theorem j11 : ((Rows.clusterNoneRow.unfollowed == Tryz.prog.unfollowed 3) : Bool) = true := by
  rw [unfollowedIs]
  kernel_rfl
theorem j12 : ((Rows.clusterNoneRow.recurses == Tryz.prog.recurses 3) : Bool) = true := by
  unfold Program.recurses
  rw [unfollowedIs]
  kernel_rfl
theorem j13 : ((Rows.clusterNoneRow.named == Tryz.prog.varsNamed 3) : Bool) = true := by
  unfold Program.varsNamed
  rw [closureIs]
  kernel_rfl
theorem goes3 : Tryz.prog.goes 3 = true := by
  unfold Program.goes
  rw [closureIs]
  kernel_rfl
end Go.Proofs.YtpndlkjdolbccaaGreatDoor
