/-
  Proved here: CopyAcl and CopyIds hand back some slice. Conditions: none beyond the statement's own.
-/
import Derived.Test.YtpndlkjdolbccaaGreatDoorZ7
namespace Go.Proofs.YtpndlkjdolbccaaGreatDoor
open Go.RowKit

/-- The first n entries of a slice are there: a number and two texts each. -/
def Trips (w : World) (A : Option Addr) (n : Nat) (z : Nat → Int) (s t : Nat → ByteArray) : Prop := 0 < n → ∃ ad, A = some ad ∧ ∀ j, j < n →
  w.cell? (ad.add (j * 3)) = some (.int .i8 (z j)) ∧ w.cell? ⟨(ad.add (j * 3)).block, (ad.add (j * 3)).off + 1, none⟩ = some (.string (s j)) ∧ w.cell? ⟨(ad.add (j * 3)).block, (ad.add (j * 3)).off + 2, none⟩ = some (.string (t j))
/-- The first n ids of a slice are there: two texts each. -/
def Pairs (w : World) (A : Option Addr) (n : Nat) (s t : Nat → ByteArray) : Prop := 0 < n → ∃ ad, A = some ad ∧ ∀ j, j < n →
  w.cell? (ad.add (j * 2)) = some (.string (s j)) ∧ w.cell? ⟨(ad.add (j * 2)).block, (ad.add (j * 2)).off + 1, none⟩ = some (.string (t j))

theorem cell_later {w w' : World} (hb : Below w.heap.size w w') {a : Addr} {v : Value} (h : w.cell? a = some v) : w'.cell? a = some v := (hb.cell (World.block_lt_of_cell? w _ h)).trans h

theorem Trips.below {w w' : World} {A : Option Addr} {n : Nat} {z : Nat → Int} {s t : Nat → ByteArray} (h : Trips w A n z s t) (hb : Below w.heap.size w w') : Trips w' A n z s t := fun hn => by
  obtain ⟨ad, e, hc⟩ := h hn
  exact ⟨ad, e, fun j hj => ⟨cell_later hb (hc j hj).1, cell_later hb (hc j hj).2.1, cell_later hb (hc j hj).2.2⟩⟩
theorem Pairs.below {w w' : World} {A : Option Addr} {n : Nat} {s t : Nat → ByteArray} (h : Pairs w A n s t) (hb : Below w.heap.size w w') : Pairs w' A n s t := fun hn => by
  obtain ⟨ad, e, hc⟩ := h hn
  exact ⟨ad, e, fun j hj => ⟨cell_later hb (hc j hj).1, cell_later hb (hc j hj).2⟩⟩

set_option maxHeartbeats 1000000 in
theorem copyAcl (A : Option Addr) (n c : Nat) (z : Nat → Int) (s t : Nat → ByteArray) (w : World) (hz : Trips w A n z s t) (hn : n * 40 ≤ 140737488351232) :
    Calls Tryz.prog 59 #[.slice A n c] w (SomeSlice w) := by
  obtain ⟨i0, hi, hzz⟩ := Option.map_eq_some_iff.1 info149
  simp only [Prod.mk.injEq] at hzz
  obtain ⟨hz0, hz1, hz2⟩ := hzz
  go_enter Tryz.func59, Tryz.ntmps59
  go_wp2
  go_loopw [3, 4] (fun v i wr => ∃ k : Nat, k ≤ n ∧ i = .int .i64 k ∧ Below w.heap.size w wr ∧ ∃ xs, wr.ownsRow w.heap.size 149 3 v k xs) (fun _ i _ => n - (intOf i).toNat)
  case atStart => exact ⟨0, Nat.zero_le _, rfl, Below.refl _ _, [], World.ownsRow_nil _ _ _ _⟩
  case round =>
    obtain ⟨k, hk, rfl, hb, xs, hown⟩ := hrel
    by_cases hlt : k < n
    · obtain ⟨ad, rfl, hc⟩ := hz (by omega)
      have hcell := cell_later hb (hc k hlt).1
      have hcell1 := cell_later hb (hc k hlt).2.1
      have hcell2 := cell_later hb (hc k hlt).2.2
      have HB := Lib.hid hb
      have hbs := hb.size
      clear hb hc hz
      go_wp2_with (at_builtin; refine wpList_append_own _ rfl _ _ 25 rfl w.heap.size 149 i0 (.agg #[(.int .i8 0), (.string ⟨#[]⟩), (.string ⟨#[]⟩)]) 3 40 Tryz.underlying25 hi hz0 hz1 hz2 rfl (by decide) _ _ _ rfl (hown.alloc _) ⟨wr.heap.size, 0, none⟩ 1 1 [.int .i8 (z k), .string (s k), .string (t k)] rfl rfl ?c1 ?c2 ?c3 ?c4 ?c5 ?_)
      case c1 => exact World.news_of_block (cs := #[.int .i8 (z k), .string (s k), .string (t k)]) (t := 149) (fr := (0, 0)) (heap_alloc_new wr _)
      case c2 => intro u hu; simp at hu; rcases hu with rfl | rfl | rfl <;> rfl
      case c3 => simp only [maxLen]; omega
      case c4 => omega
      case c5 => simp; omega
      intro v' w1 hown1 hgrow _
      have hb1 : Below w.heap.size w w1 := (HB.out.alloc hbs _).grown hgrow (by simp; omega) (fun q hq => (World.ownsRow.lt hown q hq).1)
      clear hgrow hown HB
      go_wp2
      go_roundw
      case rel => exact ⟨k + 1, by omega, by go_num, hb1, _, hown1⟩
      case measure => simp [intOf]; omega
    · go_wp2
      go_ret
      rcases hown.2 with ⟨rfl, _⟩ | ⟨g, cap, _, rfl, _⟩
      · exact ⟨_, _, _, rfl, hb⟩
      · exact ⟨_, _, _, rfl, hb⟩

set_option maxHeartbeats 1000000 in
theorem copyIds (A : Option Addr) (n c : Nat) (s t : Nat → ByteArray) (w : World) (hz : Pairs w A n s t) (hn : n * 32 ≤ 140737488351232) :
    Calls Tryz.prog 60 #[.slice A n c] w (SomeSlice w) := by
  obtain ⟨i0, hi, hzz⟩ := Option.map_eq_some_iff.1 info147
  simp only [Prod.mk.injEq] at hzz
  obtain ⟨hz0, hz1, hz2⟩ := hzz
  go_enter Tryz.func60, Tryz.ntmps60
  go_wp2
  go_loopw [3, 4] (fun v i wr => ∃ k : Nat, k ≤ n ∧ i = .int .i64 k ∧ Below w.heap.size w wr ∧ ∃ xs, wr.ownsRow w.heap.size 147 2 v k xs) (fun _ i _ => n - (intOf i).toNat)
  case atStart => exact ⟨0, Nat.zero_le _, rfl, Below.refl _ _, [], World.ownsRow_nil _ _ _ _⟩
  case round =>
    obtain ⟨k, hk, rfl, hb, xs, hown⟩ := hrel
    by_cases hlt : k < n
    · obtain ⟨ad, rfl, hc⟩ := hz (by omega)
      have hcell := cell_later hb (hc k hlt).1
      have hcell1 := cell_later hb (hc k hlt).2
      have HB := Lib.hid hb
      have hbs := hb.size
      clear hb hc hz
      go_wp2_with (at_builtin; refine wpList_append_own _ rfl _ _ 26 rfl w.heap.size 147 i0 (.agg #[(.string ⟨#[]⟩), (.string ⟨#[]⟩)]) 2 32 Tryz.underlying26 hi hz0 hz1 hz2 rfl (by decide) _ _ _ rfl (hown.alloc _) ⟨wr.heap.size, 0, none⟩ 1 1 [.string (s k), .string (t k)] rfl rfl ?c1 ?c2 ?c3 ?c4 ?c5 ?_)
      case c1 => exact World.news_of_block (cs := #[.string (s k), .string (t k)]) (t := 147) (fr := (0, 0)) (heap_alloc_new wr _)
      case c2 => intro u hu; simp at hu; rcases hu with rfl | rfl <;> rfl
      case c3 => simp only [maxLen]; omega
      case c4 => omega
      case c5 => simp; omega
      intro v' w1 hown1 hgrow _
      have hb1 : Below w.heap.size w w1 := (HB.out.alloc hbs _).grown hgrow (by simp; omega) (fun q hq => (World.ownsRow.lt hown q hq).1)
      clear hgrow hown HB
      go_wp2
      go_roundw
      case rel => exact ⟨k + 1, by omega, by go_num, hb1, _, hown1⟩
      case measure => simp [intOf]; omega
    · go_wp2
      go_ret
      rcases hown.2 with ⟨rfl, _⟩ | ⟨g, cap, _, rfl, _⟩
      · exact ⟨_, _, _, rfl, hb⟩
      · exact ⟨_, _, _, rfl, hb⟩
end Go.Proofs.YtpndlkjdolbccaaGreatDoor
