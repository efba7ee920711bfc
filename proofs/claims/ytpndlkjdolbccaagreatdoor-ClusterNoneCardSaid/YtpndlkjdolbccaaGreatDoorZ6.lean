/-
  Proved here: EqTxns of two empty logs and EqView of two zero views. Conditions: none beyond the statement's own.
-/
import Derived.Test.YtpndlkjdolbccaaGreatDoorZ5
import Derived.Laws.StructEq
namespace Go.Proofs.YtpndlkjdolbccaaGreatDoor
open Go.RowKit

set_option maxHeartbeats 400000 in
theorem eqtxns_nil (w : World) : Calls Tryz.prog 29 #[.slice none 0 0, .slice none 0 0] w fun e w' => e = .returned (.bool true) ∧ w = w' := by
  go_enter Tryz.func29, Tryz.ntmps29
  go_wp2
  refine wp_loop_rounds 1 ?_
  rw [rounds_succ]
  go_wp2
  go_ret
  exact ⟨rfl, rfl⟩

abbrev view0 : Value := .agg #[.int .i8 0, .int .i8 0, .int .u32 0, .int .u32 0, .int .u32 0, .int .u32 0, .int .u32 0, .int .u32 0, .int .u32 0, .slice none 0 0, .int .u32 0, .int .u32 0, .int .u32 0, .int .u32 0, .bool false, .int .u64 0]

theorem neq53 (W : World) : (binOp .neq 53 (.agg #[.int .u32 0, .int .u32 0, .int .u32 0, .int .u32 0, .int .u32 0, .int .u32 0, .int .u32 0]) (.agg #[.int .u32 0, .int .u32 0, .int .u32 0, .int .u32 0, .int .u32 0, .int .u32 0, .int .u32 0])).run Tryz.prog W = .ok (.bool false) W := by kernel_rfl
theorem neq51 (W : World) : (binOp .neq 51 (.agg #[.int .u32 0, .int .u32 0]) (.agg #[.int .u32 0, .int .u32 0])).run Tryz.prog W = .ok (.bool false) W := by kernel_rfl

set_option maxHeartbeats 1000000 in
set_option maxRecDepth 10000 in
theorem eqview_zero (w : World) : Calls Tryz.prog 9 #[view0, view0] w fun e w' => e = .returned (.bool true) ∧ Below w.heap.size w w' := by
  have q1 := neq53
  have q2 := neq51
  go_enter Tryz.func9, Tryz.ntmps9
  go_wp2_with (go_at_call 29; refine (eqtxns_nil _).mono ?_; rintro e w' ⟨rfl, rfl⟩)
  go_ret
  exact ⟨rfl, ((Below.refl _ _).alloc (Nat.le_refl _) _).alloc (by simp) _⟩
end Go.Proofs.YtpndlkjdolbccaaGreatDoor
