/-
  Proved here: cluster.Check of the written configuration of one server. Conditions: none beyond the statement's own.
-/
import Derived.Test.YtpndlkjdolbccaaGreatDoorZ3
namespace Go.Proofs.YtpndlkjdolbccaaGreatDoor
open Go.RowKit

abbrev cfg (a1 a2 : Addr) (c1 c2 : Nat) : Value := .agg #[.slice (some a1) 1 c1, .slice (some a2) 1 c2, .int .i64 0, .float .f64 0, .int .i64 16, .int .i64 1, .int .i64 1000, .int .u32 1, .int .u32 1]

set_option maxHeartbeats 1000000 in
set_option maxRecDepth 10000 in
theorem check_one (a1 a2 : Addr) (c1 c2 : Nat) (w : World) (h1 : w.cell? a1 = some (.int .i64 1)) (h2 : w.cell? a2 = some (.int .i64 0)) (l1 : a1.block < w.heap.size) (l2 : a2.block < w.heap.size) :
    Calls Tryz.prog 24 #[cfg a1 a2 c1 c2] w fun e w' => e = .returned (.int .i64 0) ∧ Below w.heap.size w w' := by
  go_enter Tryz.func24, Tryz.ntmps24
  go_wp2_with fail
  refine (quorum_one a1 a2 c1 c2 _ ((World.cell?_alloc_lt _ _ _ l1).trans h1) ((World.cell?_alloc_lt _ _ _ l2).trans h2) (by simp; omega) (by simp; omega)).mono ?_
  rintro e w1 ⟨p, rfl, hb⟩
  have hB : Below w.heap.size w w1 := ((Below.refl _ _).alloc (Nat.le_refl _) _).trans (hb.mono (by simp))
  clear hb
  go_wp2
  go_ret
  exact ⟨rfl, hB⟩
end Go.Proofs.YtpndlkjdolbccaaGreatDoor
