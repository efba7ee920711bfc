/-
  Proved here: ClusterNone returns true for each event that reads, and leaves what was there as it was. Conditions: none beyond the statement's own.
-/
import Derived.Test.YtpndlkjdolbccaaGreatDoorZ12
namespace Go.Proofs.YtpndlkjdolbccaaGreatDoor
open Go.RowKit

set_option maxHeartbeats 4000000 in
set_option maxRecDepth 20000 in
theorem none_true (d : Nat) (x : EV) (s : Int) (w : World) (h : GoodE d w x) : Calls Tryz.prog 3 #[x.val, .int .i8 s] w fun e w' => e = .returned (.bool true) ∧ Below w.heap.size w w' := by
  obtain ⟨k0, s0, o0, p0, n0, x0, AK, nK, cK, ⟨k, p, A2, n2, c2, A3, n3, c3, v, e, q, s, t, A9, n9, c9, A10, n10, c10⟩, t0⟩ := x
  have HG := Lib.hid h
  have HR0 := Lib.hid ((Blk.new w 31 #[.int .i8 k0, .int .i8 s0, .int .i8 o0, .int .i64 p0, .int .i64 n0, .int .u8 x0, .slice AK nK cK, .int .i8 k, .string p, .slice A2 n2 c2, .slice A3 n3 c3, .int .i32 v, .bool e, .bool q, .int .i64 s, .int .i32 t, .slice A9 n9 c9, .slice A10 n10 c10, .int .i8 t0]).range 7 [.int .i8 k, .string p, .slice A2 n2 c2, .slice A3 n3 c3, .int .i32 v, .bool e, .bool q, .int .i64 s, .int .i32 t, .slice A9 n9 c9, .slice A10 n10 c10] (by simp))
  have hB0 : Below w.heap.size w (w.alloc (.cells #[.int .i8 k0, .int .i8 s0, .int .i8 o0, .int .i64 p0, .int .i64 n0, .int .u8 x0, .slice AK nK cK, .int .i8 k, .string p, .slice A2 n2 c2, .slice A3 n3 c3, .int .i32 v, .bool e, .bool q, .int .i64 s, .int .i32 t, .slice A9 n9 c9, .slice A10 n10 c10, .int .i8 t0] 31)) := (Below.refl _ _).alloc (Nat.le_refl _) _
  have HB0 := Lib.hid hB0
  clear h hB0
  go_enter Tryz.func3, Tryz.ntmps3
  go_wp2_with (refine wpList_load_mid rfl 29 (.tmp 12) (by rfl) w.heap.size 7 (by rfl) [.int .i8 k, .string p, .slice A2 n2 c2, .slice A3 n3 c3, .int .i32 v, .bool e, .bool q, .int .i64 s, .int .i32 t, .slice A9 n9 c9, .slice A10 n10 c10] _ HR0.out Tryz.underlying29 rfl info29s ?_)
  refine (Large_any d ⟨k, p, A2, n2, c2, A3, n3, c3, v, e, q, s, t, A9, n9, c9, A10, n10, c10⟩ _ (Good.below HB0.out d _ HG.out.2.2)).mono ?_
  rintro ee w1 ⟨b, rfl, hb1⟩
  have bN := (Blk.new w 31 #[.int .i8 k0, .int .i8 s0, .int .i8 o0, .int .i64 p0, .int .i64 n0, .int .u8 x0, .slice AK nK cK, .int .i8 k, .string p, .slice A2 n2 c2, .slice A3 n3 c3, .int .i32 v, .bool e, .bool q, .int .i64 s, .int .i32 t, .slice A9 n9 c9, .slice A10 n10 c10, .int .i8 t0]).below hb1 (by simp)
  have hbw := HB0.out.trans (hb1.mono (by simp))
  have hsz : w.heap.size + 1 ≤ w1.heap.size := by have := hb1.size; simpa using this
  have HR := Lib.hid (bN.range 0 [.int .i8 k0, .int .i8 s0, .int .i8 o0, .int .i64 p0, .int .i64 n0, .int .u8 x0, .slice AK nK cK, .int .i8 k, .string p, .slice A2 n2 c2, .slice A3 n3 c3, .int .i32 v, .bool e, .bool q, .int .i64 s, .int .i32 t, .slice A9 n9 c9, .slice A10 n10 c10, .int .i8 t0] (by simp))
  have HB := Lib.hid hbw
  have HS := Lib.hid hsz
  clear HB0 HR0 hb1 bN hbw hsz
  rcases b with _ | _
  · -- no request of a great many parts
    go_wp2_with (refine wpList_load_mid rfl 31 (.tmp 2) (by rfl) w.heap.size 0 (by rfl) [.int .i8 k0, .int .i8 s0, .int .i8 o0, .int .i64 p0, .int .i64 n0, .int .u8 x0, .slice AK nK cK, .int .i8 k, .string p, .slice A2 n2 c2, .slice A3 n3 c3, .int .i32 v, .bool e, .bool q, .int .i64 s, .int .i32 t, .slice A9 n9 c9, .slice A10 n10 c10, .int .i8 t0] _ HR.out Tryz.underlying31 rfl info31s ?_)
    refine (copyEvent_any d ⟨k0, s0, o0, p0, n0, x0, AK, nK, cK, ⟨k, p, A2, n2, c2, A3, n3, c3, v, e, q, s, t, A9, n9, c9, A10, n10, c10⟩, t0⟩ _ (GoodE.below HB.out d _ HG.out)).mono ?_
    rintro ee w2 ⟨cs, rfl, hb2⟩
    have hbw2 := HB.out.trans (hb2.mono (by have := HS.out; omega))
    have HB2 := Lib.hid hbw2
    clear hb2 HB HS HR hbw2
    go_wp2_with (go_at_call 5; refine (do_nil _ _).mono ?_; rintro ee w3 ⟨rfl, hb3⟩)
    have hbw3 := HB2.out.trans (hb3.mono HB2.out.size)
    have HB3 := Lib.hid hbw3
    clear hb3 HB2 hbw3
    go_wp2_with (go_at_call 7; refine (tree_nil _ _).mono ?_; rintro ee w4 ⟨rfl, rfl⟩)
    go_wp2_with fail
    refine (new_one ⟨w3.heap.size, 0, none⟩ ⟨w3.heap.size + 1, 0, none⟩ 1 1 _ (by simp) (by simp) (by simp; omega) (by simp) (by simp)).mono ?_
    rintro ee w5 ⟨pp, rfl, hb5⟩
    have hbw5 := ((HB3.out.alloc HB3.out.size (.cells #[.int .i64 1] 3)).alloc (by have := HB3.out.size; simp; omega) (.cells #[.int .i64 0] 3)).trans (hb5.mono (by have := HB3.out.size; simp; omega))
    have HB5 := Lib.hid hbw5
    clear hb5 HB3 hbw5
    go_wp2_with (first
      | (go_at_call 10; refine (view_nil _ _).mono ?_; rintro ee w6 ⟨rfl, hb6⟩; have HB6 := Lib.hid (HB5.out.trans (hb6.mono HB5.out.size)); clear hb6)
      | (go_at_call 9; refine (eqview_zero _).mono ?_; rintro ee w7 ⟨rfl, hb7⟩; have HB7 := Lib.hid (HB6.out.trans (hb7.mono HB6.out.size)); clear hb7)
      | (go_at_call 11; refine (image_nil _ _).mono ?_; rintro ee w8 ⟨rfl, rfl⟩)
      | (go_at_call 12; refine (messages_nil _).mono ?_; rintro ee w9 ⟨rfl, rfl⟩))
    go_ret
    exact ⟨rfl, HB7.out⟩
  · go_wp2
    go_ret
    exact ⟨rfl, HB.out⟩
end Go.Proofs.YtpndlkjdolbccaaGreatDoor
