/-
  Proved here: all closed facts of the row. Conditions: none beyond the statement's own.
-/
import Derived.Test.YtpndlkjdolbccaaGreatDoorZ20
import Derived.Test.YtpndlkjdolbccaaGreatDoorZ21
import Derived.Test.YtpndlkjdolbccaaGreatDoorZ22
set_option maxRecDepth 100000
namespace Go.Proofs.YtpndlkjdolbccaaGreatDoor
open Go
theorem both {a b : Bool} (ha : a = true) (hb : b = true) : (a && b) = true := by rw [ha, hb]; rfl
theorem closed : joinedFacts Tryz.prog 3 Tryz.f3 Rows.clusterNoneSpec Rows.clusterNoneRow = true := by
  unfold joinedFacts
  exact (both (both (both (both (both (both (both (both (both (both (both (both (both (both (both (both (both (both (both (both (both (both (both (both (both (both (both (both (both (both (both j1 j2) j3) j4) j5) j6) j7) j8) j9) j10) j11) j12) j13) j14) j15) j16) j17) j18) j19) j20) j21) j22) j23) j24) j25) j26) j27) j28) j29) j30) j31) j32)
theorem named3 : Tryz.prog.funcNamed Rows.clusterNoneRow.func = some 3 := by kernel_rfl
theorem goesIs : true = Rows.clusterNoneRow.goesBy Tryz.prog := by
  unfold OpenClaim.goesBy Program.goesAt Program.goesFrom
  rw [named3, Option.any_some, goes3]
  rfl
end Go.Proofs.YtpndlkjdolbccaaGreatDoor
