/-
  Proved here: quorum.New over one weight and one group. Conditions: none beyond the statement's own.
-/
import Derived.Test.YtpndlkjdolbccaaGreatDoorZ2
import Derived.LoopN
import Derived.RegionTactic
namespace Go.Proofs.YtpndlkjdolbccaaGreatDoor
open Go.RowKit

theorem bdrew {B : Nat} {w W : World} (h : Below B w W) : Below B w W.drew := ⟨h.os, h.tape, h.output, h.size, h.block⟩
theorem bdrewN {B : Nat} {w W : World} (h : Below B w W) (n : Nat) : Below B w (W.drewN n) := ⟨h.os, h.tape, h.output, h.size, h.block⟩
theorem own_form {w : World} {base : Nat} {e : TypeId} {size n : Nat} {v : Value} {xs : List Value} (h : w.ownsRow base e size v n xs) (hn : 0 < n) : ∃ g cap, v = .slice (some ⟨g, 0, none⟩) n cap := by
  rcases h.2 with ⟨_, h⟩ | ⟨g, cap, _, h, _⟩
  · omega
  · exact ⟨g, cap, h⟩

theorem eq7 (W : World) : (binOp .eql 157 (.agg #[.int .i64 1, .int .i64 0, .int .i64 0, .int .i64 0, .int .i64 0, .int .i64 0, .int .i64 0]) (.agg #[.int .i64 0, .int .i64 0, .int .i64 0, .int .i64 0, .int .i64 0, .int .i64 0, .int .i64 0])).run Tryz.prog W = .ok (.bool false) W := by kernel_rfl

set_option maxHeartbeats 1000000 in
set_option maxRecDepth 10000 in
theorem quorum_one (a1 a2 : Addr) (c1 c2 : Nat) (w : World) (h1 : w.cell? a1 = some (.int .i64 1)) (h2 : w.cell? a2 = some (.int .i64 0)) (l1 : a1.block < w.heap.size) (l2 : a2.block < w.heap.size) :
    Calls Tryz.prog 26 #[.slice (some a1) 1 c1, .slice (some a2) 1 c2] w fun e w' => ∃ p : Addr, e = .returned (.tuple #[.pointer (some p), .int .i64 0]) ∧ Below w.heap.size w w' := by
  obtain ⟨i0, hi, hzz⟩ := Option.map_eq_some_iff.1 info3
  simp only [Prod.mk.injEq] at hzz
  obtain ⟨hz0, hz1, hz2⟩ := hzz
  have hq := eq7
  go_enter Tryz.func26, Tryz.ntmps26
  go_wp2_with (at_builtin; refine wpList_append_own _ rfl (.const (.slice none 0 0)) (.tmp 24) 23 rfl w.heap.size 3 i0 (.int .i64 0) 1 8 Tryz.underlying23 hi hz0 hz1 hz2 rfl (by decide) _ _ _ rfl (World.ownsRow_nil w _ _ _) a1 1 c1 [.int .i64 1] rfl rfl ?c1 ?c2 ?c3 ?c4 ?c5 ?_)
  case c1 => intro j u hj; cases j with
    | zero => simp at hj; subst hj; exact h1
    | succ j => simp at hj
  case c2 => intro u hu; simp at hu; subst hu; rfl
  case c3 => decide
  case c4 => decide
  case c5 => exact Nat.le_refl _
  intro v1 w1 hown1 hgrow1 _
  obtain ⟨g1, k1, rfl⟩ := own_form hown1 (by omega)
  have hb1 : Below w.heap.size w w1 := (Below.refl _ _).grown hgrow1 (by simp) (by intro k hk; simp [Value.ownBlock] at hk)
  have h2' : w1.cell? a2 = some (.int .i64 0) := (hb1.cell l2).trans h2
  have h1' : w1.cell? a1 = some (.int .i64 1) := (hb1.cell l1).trans h1
  have l2' : a2.block < w1.heap.size := Nat.lt_of_lt_of_le l2 hb1.size
  have l1' : a1.block < w1.heap.size := Nat.lt_of_lt_of_le l1 hb1.size
  clear hgrow1
  go_wp2_with (at_builtin; refine wpList_append_own _ rfl (.const (.slice none 0 0)) (.tmp 26) 23 rfl w1.heap.size 3 i0 (.int .i64 0) 1 8 Tryz.underlying23 hi hz0 hz1 hz2 rfl (by decide) _ _ _ rfl (World.ownsRow_nil w1 _ _ _) a2 1 c2 [.int .i64 0] rfl rfl ?d1 ?d2 ?d3 ?d4 ?d5 ?_)
  case d1 => intro j u hj; cases j with
    | zero => simp at hj; subst hj; exact h2'
    | succ j => simp at hj
  case d2 => intro u hu; simp at hu; subst hu; rfl
  case d3 => decide
  case d4 => decide
  case d5 => exact Nat.le_refl _
  intro v2 w2 hown2 hgrow2 _
  obtain ⟨g2, k2, rfl⟩ := own_form hown2 (by omega)
  have hb2 : Below w.heap.size w w2 := hb1.grown hgrow2 hb1.size (by intro k hk; simp [Value.ownBlock] at hk)
  have h2'' : w2.cell? a2 = some (.int .i64 0) := (hb2.cell l2).trans h2
  have h1'' : w2.cell? a1 = some (.int .i64 1) := (hb2.cell l1).trans h1
  have l2'' : a2.block < w2.heap.size := Nat.lt_of_lt_of_le l2 hb2.size
  have l1'' : a1.block < w2.heap.size := Nat.lt_of_lt_of_le l1 hb2.size
  clear hgrow2 h1 h2 h1' h2' hown1 hown2 hi
  have hz : w.heap.size ≤ w2.heap.size := hb2.size
  have hB := Lib.hid hb2
  clear hb1 hb2
  go_wp2
  refine wp_loop_rounds 2 ?_
  rw [rounds_succ]
  go_wp2
  go_quiet (fail)
  go_wp2
  have hne : ∀ i, a2 ≠ (⟨w2.heap.size, i, none⟩ : Addr) := fun i e => by rw [e] at l2''; exact absurd l2'' (Nat.lt_irrefl _)
  have hc2 : ∀ (o : Obj) (n : Nat) (v : Value), (((w2.alloc o).drewN n).setCell ⟨w2.heap.size, 9, none⟩ v).cell? a2 = some (.int .i64 0) := by
    intro o n v
    rw [World.cell?_setCell_other _ _ _ _ (fun e => hne 9 e.symm)]
    show ((w2.alloc o)).cell? a2 = _
    exact (World.cell?_alloc_lt _ _ _ l2'').trans h2''
  go_region
  go_wp2
  rw [rounds_succ]
  go_wp2
  go_ret2
  refine ⟨_, rfl, ?_⟩
  exact bdrew (Below.setCell (Below.setCell (bdrewN (hB.out.alloc hz _) _) hz _) hz _)
end Go.Proofs.YtpndlkjdolbccaaGreatDoor
