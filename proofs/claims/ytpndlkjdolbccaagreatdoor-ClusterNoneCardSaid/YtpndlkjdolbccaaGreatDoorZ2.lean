/-
  Proved here: View of a nil cluster and slices.Clone of a slice of one number. Conditions: none beyond the statement's own.
-/
import Derived.Test.YtpndlkjdolbccaaGreatDoorZ1
import Derived.Laws.AppendOwn
import Derived.Laws.OwnMore
import Derived.OwnWalk
namespace Go.Proofs.YtpndlkjdolbccaaGreatDoor
open Go.RowKit

theorem info3 : (Tryz.prog.info? 3).map (fun i => (i.zero, i.size, i.bytes)) = some (some (.int .i64 0), 1, 8) := by kernel_rfl

set_option maxHeartbeats 400000 in
theorem view_nil (n : Int) (w : World) : Calls Tryz.prog 10 #[.pointer none, .int .i8 n] w fun e w' => e = .returned (.agg #[.int .i8 0, .int .i8 0, .int .u32 0, .int .u32 0, .int .u32 0, .int .u32 0, .int .u32 0, .int .u32 0, .int .u32 0, .slice none 0 0, .int .u32 0, .int .u32 0, .int .u32 0, .int .u32 0, .bool false, .int .u64 0]) ∧ Below w.heap.size w w' := by
  go_enter Tryz.func10, Tryz.ntmps10
  go_wp2_with (go_at_call 14; refine (made_nil _).mono ?_; rintro e w' ⟨rfl, rfl⟩)
  exact bodyPost_ret (v := .agg #[.int .i8 0, .int .i8 0, .int .u32 0, .int .u32 0, .int .u32 0, .int .u32 0, .int .u32 0, .int .u32 0, .int .u32 0, .slice none 0 0, .int .u32 0, .int .u32 0, .int .u32 0, .int .u32 0, .bool false, .int .u64 0]) (by simp [results, Tryz.results10, go_sem]) rfl ⟨rfl, (Below.refl _ _).alloc (Nat.le_refl _) _⟩

set_option maxHeartbeats 400000 in
set_option maxRecDepth 10000 in
theorem clone_one (ad : Addr) (c : Nat) (x : Int) (w : World) (hc : w.cell? ad = some (.int .i64 x)) (hlt : ad.block < w.heap.size) : Calls Tryz.prog 25 #[.slice (some ad) 1 c] w fun e w' => ∃ g cap, e = .returned (.slice (some ⟨g, 0, none⟩) 1 cap) ∧ w.heap.size ≤ g ∧ w'.cell? ⟨g, 0, none⟩ = some (.int .i64 x) ∧ Below w.heap.size w w' := by
  obtain ⟨i0, hi, hzz⟩ := Option.map_eq_some_iff.1 info3
  simp only [Prod.mk.injEq] at hzz
  obtain ⟨hz0, hz1, hz2⟩ := hzz
  have hq : ∀ W : World, (binOp .eql 23 (.slice (some ad) 1 c) (.slice none 0 0)).run Tryz.prog W = .ok (.bool false) W := fun W => Lib.run_eql_slice_nil (P := Tryz.prog) W 23 3 (some ad) 1 c 0 0 Tryz.underlying23
  go_enter Tryz.func25, Tryz.ntmps25
  go_wp2_with (at_builtin; refine wpList_append_own _ rfl _ _ 23 rfl w.heap.size 3 i0 (.int .i64 0) 1 8 Tryz.underlying23 hi hz0 hz1 hz2 rfl (by decide) _ _ _ rfl (World.ownsRow_lit w #[] 0 (Nat.le_refl _) (by decide) rfl) ad 1 c [.int .i64 x] rfl rfl ?c1 ?c2 ?c3 ?c4 ?c5 ?_)
  case c1 => intro j u hj; cases j with
    | zero => simp at hj; subst hj; exact (by first | exact (World.cell?_alloc_lt _ hlt).trans hc | exact (World.cell?_alloc_lt _ _ hlt).trans hc | exact (World.cell?_alloc_lt _ _ _ hlt).trans hc)
    | succ j => simp at hj
  case c2 => intro u hu; simp at hu; subst hu; rfl
  case c3 => decide
  case c4 => decide
  case c5 => simp
  intro v' w' hown hgrow _
  obtain ⟨g, cap, rfl, hge⟩ : ∃ g cap, v' = .slice (some ⟨g, 0, none⟩) 1 cap ∧ w.heap.size ≤ g := by
    rcases hown.2 with ⟨_, h⟩ | ⟨g, cap, _, h, h', _⟩
    · omega
    · exact ⟨g, cap, h, h'⟩
  have hcell := World.ownsRow.cells hown (g := g) rfl 0 _ rfl
  have hb : Below w.heap.size w w' := ((Below.refl _ _).alloc (Nat.le_refl _) _).grown hgrow (by simp) (by intro k hk; simp [Value.ownBlock] at hk; omega)
  clear hgrow
  go_wp2
  go_ret
  exact ⟨g, cap, rfl, hge, by simpa [Addr.add] using hcell, hb⟩
end Go.Proofs.YtpndlkjdolbccaaGreatDoor
