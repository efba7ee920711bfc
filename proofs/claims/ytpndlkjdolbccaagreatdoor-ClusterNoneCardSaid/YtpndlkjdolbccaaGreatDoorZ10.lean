/-
  Proved here: Parts and Large of a request. Conditions: none beyond the statement's own.
-/
import Derived.Test.YtpndlkjdolbccaaGreatDoorZ9
namespace Go.Proofs.YtpndlkjdolbccaaGreatDoor
open Go.RowKit

set_option maxHeartbeats 1000000 in
theorem Parts_any (d : Nat) (r : RQ) (w : World) (h : Good d w r) : Calls Tryz.prog 13 #[r.val] w (SomeInt w) := by
  have H := Lib.hid h
  have hb0 : Below w.heap.size w (w.alloc (.cells #[.int .i8 r.k, .string r.p, .slice r.A2 r.n2 r.c2, .slice r.A3 r.n3 r.c3, .int .i32 r.v, .bool r.e, .bool r.q, .int .i64 r.s, .int .i32 r.t, .slice r.A9 r.n9 r.c9, .slice r.A10 r.n10 r.c10] 29)) := (Below.refl _ _).alloc (Nat.le_refl _) _
  have HB := Lib.hid hb0
  clear h hb0
  go_enter Tryz.func13, Tryz.ntmps13
  go_wp2_with (go_at_call 33; refine (parts_any d r 0 _ (Good.below HB.out d r H.out)).mono ?_; rintro e1 w1 ⟨m, rfl, hb1⟩)
  go_ret
  exact ⟨m, rfl, HB.out.trans (hb1.mono (by simp))⟩

/-- Some truth value is handed back; nothing that was there has changed. -/
def SomeBool (w : World) (e : Ending) (w' : World) : Prop := ∃ b : Bool, e = .returned (.bool b) ∧ Below w.heap.size w w'

set_option maxHeartbeats 1000000 in
theorem Large_any (d : Nat) (r : RQ) (w : World) (h : Good d w r) : Calls Tryz.prog 4 #[r.val] w (SomeBool w) := by
  have H := Lib.hid h
  have hb0 : Below w.heap.size w (w.alloc (.cells #[.int .i8 r.k, .string r.p, .slice r.A2 r.n2 r.c2, .slice r.A3 r.n3 r.c3, .int .i32 r.v, .bool r.e, .bool r.q, .int .i64 r.s, .int .i32 r.t, .slice r.A9 r.n9 r.c9, .slice r.A10 r.n10 r.c10] 29)) := (Below.refl _ _).alloc (Nat.le_refl _) _
  have HB := Lib.hid hb0
  clear h hb0
  go_enter Tryz.func4, Tryz.ntmps4
  go_wp2_with (go_at_call 13; refine (Parts_any d r _ (Good.below HB.out d r H.out)).mono ?_; rintro e1 w1 ⟨m, rfl, hb1⟩)
  go_ret
  exact ⟨_, rfl, HB.out.trans (hb1.mono (by simp))⟩

/-- A request's value is handed back; nothing that was there has changed. -/
def SomeReq (w : World) (e : Ending) (w' : World) : Prop := ∃ (r : RQ), e = .returned r.val ∧ Below w.heap.size w w'

theorem info29 : (Tryz.prog.info? 29).map (fun i => (i.zero, i.size, i.bytes)) = some (some (.agg #[(.int .i8 0), (.string ⟨#[]⟩), (.slice none 0 0), (.slice none 0 0), (.int .i32 0), (.bool false), (.bool false), (.int .i64 0), (.int .i32 0), (.slice none 0 0), (.slice none 0 0)]), 11, 144) := by kernel_rfl
end Go.Proofs.YtpndlkjdolbccaaGreatDoor
