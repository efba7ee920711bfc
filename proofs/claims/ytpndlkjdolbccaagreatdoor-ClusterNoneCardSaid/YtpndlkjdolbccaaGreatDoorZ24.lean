/-
  Proved here: no listed variable of the program waits. Conditions: none beyond the statement's own.
-/
import Derived.Test.YtpndlkjdolbccaaGreatDoorRows
import Derived.JoinedOf
set_option maxRecDepth 100000
namespace Go.Proofs.YtpndlkjdolbccaaGreatDoor
open Go
theorem waitsIs : waiting Tryz.prog = #[false, false, false, false, false, false, false, false, false, false] := by kernel_rfl
end Go.Proofs.YtpndlkjdolbccaaGreatDoor
