/-
  Proved here: CopyInts and CopyBytes hand back some slice. Conditions: none beyond the statement's own.
-/
import Derived.Test.YtpndlkjdolbccaaGreatDoorZ6
import Derived.LoopTactic
import Derived.Deep.AppendLies
namespace Go.Proofs.YtpndlkjdolbccaaGreatDoor
open Go.RowKit

/-- Some slice is handed back; nothing that was there has changed. -/
def SomeSlice (w : World) (e : Ending) (w' : World) : Prop := ∃ (A : Option Addr) (n c : Nat), e = .returned (.slice A n c) ∧ Below w.heap.size w w'

/-- The first n numbers of a slice are there. -/
def Nums (k : IntKind) (w : World) (A : Option Addr) (n : Nat) (z : Nat → Int) : Prop := 0 < n → ∃ ad, A = some ad ∧ ∀ j, j < n → w.cell? (ad.add j) = some (.int k (z j))

theorem Nums.below {k : IntKind} {w w' : World} {A : Option Addr} {n : Nat} {z : Nat → Int} (h : Nums k w A n z) (hb : Below w.heap.size w w') : Nums k w' A n z := fun hn => by
  obtain ⟨ad, e, hc⟩ := h hn
  exact ⟨ad, e, fun j hj => (hb.cell (World.block_lt_of_cell? w _ (hc j hj))).trans (hc j hj)⟩

theorem info5 : (Tryz.prog.info? 5).map (fun i => (i.zero, i.size, i.bytes)) = some (some (.int .u8 0), 1, 1) := by kernel_rfl
theorem info147 : (Tryz.prog.info? 147).map (fun i => (i.zero, i.size, i.bytes)) = some (some (.agg #[(.string ⟨#[]⟩), (.string ⟨#[]⟩)]), 2, 32) := by kernel_rfl
theorem info149 : (Tryz.prog.info? 149).map (fun i => (i.zero, i.size, i.bytes)) = some (some (.agg #[(.int .i8 0), (.string ⟨#[]⟩), (.string ⟨#[]⟩)]), 3, 40) := by kernel_rfl
set_option maxHeartbeats 1000000 in
theorem copyInts (A : Option Addr) (n c : Nat) (z : Nat → Int) (w : World) (hz : Nums .i64 w A n z) (hn : n * 8 ≤ 140737488351232) :
    Calls Tryz.prog 18 #[.slice A n c] w (SomeSlice w) := by
  obtain ⟨i0, hi, hzz⟩ := Option.map_eq_some_iff.1 info3
  simp only [Prod.mk.injEq] at hzz
  obtain ⟨hz0, hz1, hz2⟩ := hzz
  go_enter Tryz.func18, Tryz.ntmps18
  go_wp2
  go_loopw [3, 4] (fun v i wr => ∃ k : Nat, k ≤ n ∧ i = .int .i64 k ∧ Below w.heap.size w wr ∧ ∃ xs, wr.ownsRow w.heap.size 3 1 v k xs) (fun _ i _ => n - (intOf i).toNat)
  case atStart => exact ⟨0, Nat.zero_le _, rfl, Below.refl _ _, [], World.ownsRow_nil _ _ _ _⟩
  case round =>
    obtain ⟨k, hk, rfl, hb, xs, hown⟩ := hrel
    by_cases hlt : k < n
    · obtain ⟨ad, rfl, hc⟩ := hz (by omega)
      have hcell : wr.cell? (ad.add k) = some (.int .i64 (z k)) := (hb.cell (World.block_lt_of_cell? w _ (hc k hlt))).trans (hc k hlt)
      have HB := Lib.hid hb
      have hbs := hb.size
      clear hb hc hz
      go_wp2_with (at_builtin; refine wpList_append_own _ rfl _ _ 23 rfl w.heap.size 3 i0 (.int .i64 0) 1 8 Tryz.underlying23 hi hz0 hz1 hz2 rfl (by decide) _ _ _ rfl (hown.alloc _) ⟨wr.heap.size, 0, none⟩ 1 1 [.int .i64 (z k)] rfl rfl ?c1 ?c2 ?c3 ?c4 ?c5 ?_)
      case c1 => exact World.news_of_block (cs := #[.int .i64 (z k)]) (t := 3) (fr := (0, 0)) (heap_alloc_new wr _)
      case c2 => intro u hu; simp at hu; subst hu; rfl
      case c3 => simp only [maxLen]; omega
      case c4 => omega
      case c5 => simp; omega
      intro v' w1 hown1 hgrow _
      have hb1 : Below w.heap.size w w1 := (HB.out.alloc hbs _).grown hgrow (by simp; omega) (fun q hq => (World.ownsRow.lt hown q hq).1)
      clear hgrow hown HB
      go_wp2
      go_roundw
      case rel => exact ⟨k + 1, by omega, by go_num, hb1, _, hown1⟩
      case measure => simp [intOf]; omega
    · go_wp2
      go_ret
      rcases hown.2 with ⟨rfl, _⟩ | ⟨g, cap, _, rfl, _⟩
      · exact ⟨_, _, _, rfl, hb⟩
      · exact ⟨_, _, _, rfl, hb⟩
set_option maxHeartbeats 1000000 in
theorem copyBytes (A : Option Addr) (n c : Nat) (z : Nat → Int) (w : World) (hz : Nums .u8 w A n z) (hn : n ≤ 140737488351232) :
    Calls Tryz.prog 58 #[.slice A n c] w (SomeSlice w) := by
  obtain ⟨i0, hi, hzz⟩ := Option.map_eq_some_iff.1 info5
  simp only [Prod.mk.injEq] at hzz
  obtain ⟨hz0, hz1, hz2⟩ := hzz
  go_enter Tryz.func58, Tryz.ntmps58
  go_wp2
  go_loopw [3, 4] (fun v i wr => ∃ k : Nat, k ≤ n ∧ i = .int .i64 k ∧ Below w.heap.size w wr ∧ ∃ xs, wr.ownsRow w.heap.size 5 1 v k xs) (fun _ i _ => n - (intOf i).toNat)
  case atStart => exact ⟨0, Nat.zero_le _, rfl, Below.refl _ _, [], World.ownsRow_nil _ _ _ _⟩
  case round =>
    obtain ⟨k, hk, rfl, hb, xs, hown⟩ := hrel
    by_cases hlt : k < n
    · obtain ⟨ad, rfl, hc⟩ := hz (by omega)
      have hcell : wr.cell? (ad.add k) = some (.int .u8 (z k)) := (hb.cell (World.block_lt_of_cell? w _ (hc k hlt))).trans (hc k hlt)
      have HB := Lib.hid hb
      have hbs := hb.size
      clear hb hc hz
      go_wp2_with (at_builtin; refine wpList_append_own _ rfl _ _ 24 rfl w.heap.size 5 i0 (.int .u8 0) 1 1 Tryz.underlying24 hi hz0 hz1 hz2 rfl (by decide) _ _ _ rfl (hown.alloc _) ⟨wr.heap.size, 0, none⟩ 1 1 [.int .u8 (z k)] rfl rfl ?c1 ?c2 ?c3 ?c4 ?c5 ?_)
      case c1 => exact World.news_of_block (cs := #[.int .u8 (z k)]) (t := 5) (fr := (0, 0)) (heap_alloc_new wr _)
      case c2 => intro u hu; simp at hu; subst hu; rfl
      case c3 => simp only [maxLen]; omega
      case c4 => omega
      case c5 => simp; omega
      intro v' w1 hown1 hgrow _
      have hb1 : Below w.heap.size w w1 := (HB.out.alloc hbs _).grown hgrow (by simp; omega) (fun q hq => (World.ownsRow.lt hown q hq).1)
      clear hgrow hown HB
      go_wp2
      go_roundw
      case rel => exact ⟨k + 1, by omega, by go_num, hb1, _, hown1⟩
      case measure => simp [intOf]; omega
    · go_wp2
      go_ret
      rcases hown.2 with ⟨rfl, _⟩ | ⟨g, cap, _, rfl, _⟩
      · exact ⟨_, _, _, rfl, hb⟩
      · exact ⟨_, _, _, rfl, hb⟩
end Go.Proofs.YtpndlkjdolbccaaGreatDoor
