/-
  Proved here: cluster.New of the written configuration of one server hands back a cluster. Conditions: none beyond the statement's own.
-/
import Derived.Test.YtpndlkjdolbccaaGreatDoorZ4
import Derived.Deep.DeepCutAuto
import Derived.Deep.RegionWith
import Derived.Deep.RegionHeld3
import Derived.Deep.DeepFit
namespace Go.Proofs.YtpndlkjdolbccaaGreatDoor
open Go.RowKit

theorem clone_it (ad : Addr) (c : Nat) (x : Int) (w : World) (hc : w.cell? ad = some (.int .i64 x)) : Calls Tryz.prog 25 #[.slice (some ad) 1 c] w fun e w' => ∃ g cap, e = .returned (.slice (some ⟨g, 0, none⟩) 1 cap) ∧ w.heap.size ≤ g ∧ w'.cell? ⟨g, 0, none⟩ = some (.int .i64 x) ∧ Below w.heap.size w w' :=
  clone_one ad c x w hc (World.block_lt_of_cell? w _ hc)

theorem after {w w1 wA wB : World} {g1 q1 g2 q2 : Nat} {arr : Array Value} {u0 u1 : Value} (hsz : w.heap.size + 1 ≤ w1.heap.size) (hB : Below w.heap.size w w1) (hA : Below w1.drew.heap.size w1.drew wA) (hbB : Below wA.heap.size wA wB)
    (hge1 : w1.drew.heap.size ≤ g1) (hge2 : wA.heap.size ≤ g2) (hg1 : wA.cell? ⟨g1, 0, none⟩ = some (.int .i64 1)) (hg2 : wB.cell? ⟨g2, 0, none⟩ = some (.int .i64 0))
    (ha0 : arr[0]? = some u0) (ha1 : arr[1]? = some u1) (hcell : ∀ i, i < 9 → w1.cell? ⟨w.heap.size, i, none⟩ = arr[i]?) :
    ∃ h1 r1 h2 r2, ((wB.setCell ⟨w.heap.size, 0, none⟩ (.slice (some ⟨g1, 0, none⟩) 1 q1)).setCell ⟨w.heap.size, 1, none⟩ (.slice (some ⟨g2, 0, none⟩) 1 q2)).cell? ⟨w.heap.size, 0, none⟩ = some (.slice (some ⟨h1, 0, none⟩) 1 r1) ∧ 
    ((wB.setCell ⟨w.heap.size, 0, none⟩ (.slice (some ⟨g1, 0, none⟩) 1 q1)).setCell ⟨w.heap.size, 1, none⟩ (.slice (some ⟨g2, 0, none⟩) 1 q2)).cell? ⟨w.heap.size, 1, none⟩ = some (.slice (some ⟨h2, 0, none⟩) 1 r2) ∧ 
    ((wB.setCell ⟨w.heap.size, 0, none⟩ (.slice (some ⟨g1, 0, none⟩) 1 q1)).setCell ⟨w.heap.size, 1, none⟩ (.slice (some ⟨g2, 0, none⟩) 1 q2)).cell? ⟨h1, 0, none⟩ = some (.int .i64 1) ∧ 
    ((wB.setCell ⟨w.heap.size, 0, none⟩ (.slice (some ⟨g1, 0, none⟩) 1 q1)).setCell ⟨w.heap.size, 1, none⟩ (.slice (some ⟨g2, 0, none⟩) 1 q2)).cell? ⟨h2, 0, none⟩ = some (.int .i64 0) ∧
    (∀ i, 2 ≤ i → i < 9 → ((wB.setCell ⟨w.heap.size, 0, none⟩ (.slice (some ⟨g1, 0, none⟩) 1 q1)).setCell ⟨w.heap.size, 1, none⟩ (.slice (some ⟨g2, 0, none⟩) 1 q2)).cell? ⟨w.heap.size, i, none⟩ = arr[i]?) ∧ 
    Below w.heap.size w ((wB.setCell ⟨w.heap.size, 0, none⟩ (.slice (some ⟨g1, 0, none⟩) 1 q1)).setCell ⟨w.heap.size, 1, none⟩ (.slice (some ⟨g2, 0, none⟩) 1 q2)) ∧ 
    w.heap.size + 1 ≤ ((wB.setCell ⟨w.heap.size, 0, none⟩ (.slice (some ⟨g1, 0, none⟩) 1 q1)).setCell ⟨w.heap.size, 1, none⟩ (.slice (some ⟨g2, 0, none⟩) 1 q2)).heap.size := by
  have z1 : w1.heap.size ≤ wA.heap.size := hA.size
  have z2 : wA.heap.size ≤ wB.heap.size := hbB.size
  have hge1' : w1.heap.size ≤ g1 := hge1
  have cB : ∀ i, i < 9 → wB.cell? ⟨w.heap.size, i, none⟩ = arr[i]? := fun i hi =>
    (hbB.cell (p := ⟨w.heap.size, i, none⟩) (show w.heap.size < wA.heap.size by omega)).trans ((hA.cell (p := ⟨w.heap.size, i, none⟩) (show w.heap.size < w1.heap.size by omega)).trans (hcell i hi))
  have c0 : wB.cell? ⟨w.heap.size, 0, none⟩ = some u0 := (cB 0 (by decide)).trans ha0
  have c1 : wB.cell? ⟨w.heap.size, 1, none⟩ = some u1 := (cB 1 (by decide)).trans ha1
  have d1 : g1 < wA.heap.size := World.block_lt_of_cell? wA _ hg1
  have d2 : g2 < wB.heap.size := World.block_lt_of_cell? wB _ hg2
  have e1 : wB.cell? ⟨g1, 0, none⟩ = some (.int .i64 1) := (hbB.cell (p := ⟨g1, 0, none⟩) d1).trans hg1
  refine ⟨g1, q1, g2, q2, ?_, ?_, ?_, ?_, ?_, ?_, ?_⟩
  · rw [World.cell?_setCell_other _ _ _ _ (by simp)]
    exact World.cell?_setCell_same _ _ _ c0
  · refine World.cell?_setCell_same _ _ _ (u := u1) ?_
    rw [World.cell?_setCell_other _ _ _ _ (by simp)]
    exact c1
  · rw [World.cell?_setCell_other _ _ _ _ (by simp <;> omega), World.cell?_setCell_other _ _ _ _ (by simp <;> omega)]
    exact e1
  · rw [World.cell?_setCell_other _ _ _ _ (by simp <;> omega), World.cell?_setCell_other _ _ _ _ (by simp <;> omega)]
    exact hg2
  · intro i h2 h9
    rw [World.cell?_setCell_other _ _ _ _ (by simp <;> omega), World.cell?_setCell_other _ _ _ _ (by simp <;> omega)]
    exact cB i h9
  · refine Below.setCell (p := ⟨w.heap.size, 1, none⟩) (Below.setCell (p := ⟨w.heap.size, 0, none⟩) ?_ (Nat.le_refl _) _) (Nat.le_refl _) _
    exact (hB.trans ((show Below w1.heap.size w1 wA from ⟨hA.os, hA.tape, hA.output, hA.size, hA.block⟩).mono (by omega))).trans (hbB.mono (by omega))
  · simp [World.setCell]; omega

set_option maxHeartbeats 4000000 in
set_option maxRecDepth 10000 in
theorem new_one (a1 a2 : Addr) (c1 c2 : Nat) (w : World) (h1 : w.cell? a1 = some (.int .i64 1)) (h2 : w.cell? a2 = some (.int .i64 0)) (l1 : a1.block < w.heap.size) (l2 : a2.block < w.heap.size) (_hne : a1 ≠ a2) :
    Calls Tryz.prog 8 #[cfg a1 a2 c1 c2] w fun e w' => ∃ p : Addr, e = .returned (.tuple #[.pointer (some p), .int .i64 0]) ∧ Below w.heap.size w w' := by
  go_enter Tryz.func8, Tryz.ntmps8
  go_wp2_with fail
  have l1a : a1.block < (w.alloc (.cells #[.slice (some a1) 1 c1, .slice (some a2) 1 c2, .int .i64 0, .float .f64 0, .int .i64 16, .int .i64 1, .int .i64 1000, .int .u32 1, .int .u32 1] 48)).heap.size := by simp; omega
  have l2a : a2.block < (w.alloc (.cells #[.slice (some a1) 1 c1, .slice (some a2) 1 c2, .int .i64 0, .float .f64 0, .int .i64 16, .int .i64 1, .int .i64 1000, .int .u32 1, .int .u32 1] 48)).heap.size := by simp; omega
  have h1a := (World.cell?_alloc_lt w (.cells #[.slice (some a1) 1 c1, .slice (some a2) 1 c2, .int .i64 0, .float .f64 0, .int .i64 16, .int .i64 1, .int .i64 1000, .int .u32 1, .int .u32 1] 48) _ l1).trans h1
  have h2a := (World.cell?_alloc_lt w (.cells #[.slice (some a1) 1 c1, .slice (some a2) 1 c2, .int .i64 0, .float .f64 0, .int .i64 16, .int .i64 1, .int .i64 1000, .int .u32 1, .int .u32 1] 48) _ l2).trans h2
  refine (check_one a1 a2 c1 c2 _ h1a h2a l1a l2a).mono ?_
  rintro e w1 ⟨rfl, hb⟩
  have hB : Below w.heap.size w w1 := ((Below.refl _ _).alloc (Nat.le_refl _) _).trans (hb.mono (by simp))
  have hcell : ∀ i, i < 9 → w1.cell? ⟨w.heap.size, i, none⟩ = (#[.slice (some a1) 1 c1, .slice (some a2) 1 c2, .int .i64 0, .float .f64 0, .int .i64 16, .int .i64 1, .int .i64 1000, .int .u32 1, .int .u32 1] : Array Value)[i]? := fun i hi => by
    rw [hb.cell (by simp), World.cell?_alloc_new]
  have hfz : ∀ i, w1.frozen? ⟨w.heap.size, i, none⟩ = false := fun i => (hb.frozen (p := ⟨w.heap.size, i, none⟩) (by simp)).trans (by simp)
  have hsz : w.heap.size + 1 ≤ w1.heap.size := by have := hb.size; simpa using this
  have k1 : w1.cell? a1 = some (.int .i64 1) := (hB.cell l1).trans h1
  have k2 : w1.cell? a2 = some (.int .i64 0) := (hB.cell l2).trans h2
  clear hb h1a h2a l1a l2a
  go_upto_region 4 with fail
  have hc0 : w1.cell? ⟨w.heap.size, 0, none⟩ = some (.slice (some a1) 1 c1) := hcell 0 (by decide)
  have hc1 : w1.cell? ⟨w.heap.size, 1, none⟩ = some (.slice (some a2) 1 c2) := hcell 1 (by decide)
  have hf0 : w1.frozen? ⟨w.heap.size, 0, none⟩ = false := hfz 0
  have hf1 : w1.frozen? ⟨w.heap.size, 1, none⟩ = false := hfz 1
  have HC := Lib.hid hcell
  have HF := Lib.hid hfz
  clear hcell hfz
  go_cut [] (fun wx => ∃ g1 q1 g2 q2, wx.cell? ⟨w.heap.size, 0, none⟩ = some (.slice (some ⟨g1, 0, none⟩) 1 q1) ∧ wx.cell? ⟨w.heap.size, 1, none⟩ = some (.slice (some ⟨g2, 0, none⟩) 1 q2) ∧ wx.cell? ⟨g1, 0, none⟩ = some (.int .i64 1) ∧ wx.cell? ⟨g2, 0, none⟩ = some (.int .i64 0) ∧
    (∀ i, 2 ≤ i → i < 9 → wx.cell? ⟨w.heap.size, i, none⟩ = (#[.slice (some a1) 1 c1, .slice (some a2) 1 c2, .int .i64 0, .float .f64 0, .int .i64 16, .int .i64 1, .int .i64 1000, .int .u32 1, .int .u32 1] : Array Value)[i]?) ∧ Below w.heap.size w wx ∧ w.heap.size + 1 ≤ wx.heap.size)
  case first =>
    go_region_with (first
      | (go_at_call_of 25 (Value.slice (some a1) 1 c1); refine (clone_it a1 c1 1 _ (by exact k1)).mono ?_; rintro e wA ⟨g1, q1, rfl, hge1, hg1, hbA⟩
         have hA0 : wA.cell? ⟨w.heap.size, 0, none⟩ = some (.slice (some a1) 1 c1) := (hbA.cell (p := ⟨w.heap.size, 0, none⟩) hsz).trans hc0
         have hA1 : wA.cell? ⟨w.heap.size, 1, none⟩ = some (.slice (some a2) 1 c2) := (hbA.cell (p := ⟨w.heap.size, 1, none⟩) hsz).trans hc1
         have hAz : w1.heap.size ≤ wA.heap.size := hbA.size)
      | (go_at_call_of 25 (Value.slice (some a2) 1 c2); refine (clone_it a2 c2 0 _ (by exact (hbA.cell (p := a2) (show a2.block < w1.heap.size by omega)).trans k2)).mono ?_; rintro e wB ⟨g2, q2, rfl, hge2, hg2, hbB⟩
         have hB0 : wB.cell? ⟨w.heap.size, 0, none⟩ = some (.slice (some a1) 1 c1) := (hbB.cell (p := ⟨w.heap.size, 0, none⟩) (show w.heap.size < wA.heap.size by omega)).trans hA0
         have hB1 : wB.cell? ⟨w.heap.size, 1, none⟩ = some (.slice (some a2) 1 c2) := (hbB.cell (p := ⟨w.heap.size, 1, none⟩) (show w.heap.size < wA.heap.size by omega)).trans hA1
         have hBf0 : wB.frozen? ⟨w.heap.size, 0, none⟩ = false := (hbB.frozen (p := ⟨w.heap.size, 0, none⟩) (show w.heap.size < wA.heap.size by omega)).trans ((hbA.frozen (p := ⟨w.heap.size, 0, none⟩) hsz).trans hf0)
         have hBf1 : wB.frozen? ⟨w.heap.size, 1, none⟩ = false := (hbB.frozen (p := ⟨w.heap.size, 1, none⟩) (show w.heap.size < wA.heap.size by omega)).trans ((hbA.frozen (p := ⟨w.heap.size, 1, none⟩) hsz).trans hf1)))
    all_goals (go_wp2_with fail; go_meet; exact after hsz hB hbA hbB hge1 hge2 hg1 hg2 rfl rfl HC.out)
  case rest =>
    obtain ⟨g1, q1, g2, q2, e0, e1, d1, d2, e29, bx, zx⟩ := hcut
    have e2 : wc.cell? ⟨w.heap.size, 2, none⟩ = some (.int .i64 0) := e29 2 (by decide) (by decide)
    have e3 : wc.cell? ⟨w.heap.size, 3, none⟩ = some (.float .f64 0) := e29 3 (by decide) (by decide)
    have e4 : wc.cell? ⟨w.heap.size, 4, none⟩ = some (.int .i64 16) := e29 4 (by decide) (by decide)
    have e5 : wc.cell? ⟨w.heap.size, 5, none⟩ = some (.int .i64 1) := e29 5 (by decide) (by decide)
    have e6 : wc.cell? ⟨w.heap.size, 6, none⟩ = some (.int .i64 1000) := e29 6 (by decide) (by decide)
    have e7 : wc.cell? ⟨w.heap.size, 7, none⟩ = some (.int .u32 1) := e29 7 (by decide) (by decide)
    have e8 : wc.cell? ⟨w.heap.size, 8, none⟩ = some (.int .u32 1) := e29 8 (by decide) (by decide)
    have y1 : g1 < wc.heap.size := World.block_lt_of_cell? wc _ d1
    have y2 : g2 < wc.heap.size := World.block_lt_of_cell? wc _ d2
    have BX := Lib.hid bx
    have zy : w.heap.size < wc.heap.size := zx
    clear e29 bx zx k1 k2 hc0 hc1 hf0 hf1 HC HF
    go_wp2_with fail
    refine (quorum_one ⟨g1, 0, none⟩ ⟨g2, 0, none⟩ q1 q2 _ ((World.cell?_alloc_lt _ _ _ y1).trans d1) ((World.cell?_alloc_lt _ _ _ y2).trans d2) (by simp; omega) (by simp; omega)).mono ?_
    rintro e wq ⟨p, rfl, bq⟩
    have hbq : Below wc.heap.size wc wq := ((Below.refl _ _).alloc (Nat.le_refl _) _).trans (bq.mono (by simp))
    have f0 : wq.cell? ⟨w.heap.size, 0, none⟩ = some (.slice (some ⟨g1, 0, none⟩) 1 q1) := (hbq.cell (p := ⟨w.heap.size, 0, none⟩) zy).trans e0
    have f6 : wq.cell? ⟨w.heap.size, 6, none⟩ = some (.int .i64 1000) := (hbq.cell (p := ⟨w.heap.size, 6, none⟩) zy).trans e6
    have sq : wc.heap.size + 1 ≤ wq.heap.size := by have := bq.size; simpa using this
    have m0 : wq.cell? ⟨wc.heap.size, 0, none⟩ = some (.pointer none) := (bq.cell (p := ⟨wc.heap.size, 0, none⟩) (by simp)).trans (by simp)
    have m1 : wq.cell? ⟨wc.heap.size, 1, none⟩ = some (.pointer none) := (bq.cell (p := ⟨wc.heap.size, 1, none⟩) (by simp)).trans (by simp)
    have m11 : wq.cell? ⟨wc.heap.size, 11, none⟩ = some (.pointer none) := (bq.cell (p := ⟨wc.heap.size, 11, none⟩) (by simp)).trans (by simp)
    have n0 : wq.frozen? ⟨wc.heap.size, 0, none⟩ = false := (bq.frozen (p := ⟨wc.heap.size, 0, none⟩) (by simp)).trans (by simp)
    have n1 : wq.frozen? ⟨wc.heap.size, 1, none⟩ = false := (bq.frozen (p := ⟨wc.heap.size, 1, none⟩) (by simp)).trans (by simp)
    have n11 : wq.frozen? ⟨wc.heap.size, 11, none⟩ = false := (bq.frozen (p := ⟨wc.heap.size, 11, none⟩) (by simp)).trans (by simp)
    have hNM : w.heap.size ≠ wc.heap.size := Nat.ne_of_lt zy
    have hMN : wc.heap.size ≠ w.heap.size := Ne.symm hNM
    have sM : wc.heap.size < wq.heap.size := sq
    have sN : w.heap.size < wq.heap.size := by omega
    have BQ := Lib.hid hbq
    clear hbq bq e0 e1 e2 e3 e4 e5 e6 e7 e8 d1 d2 y1 y2 sq
    go_wp2_with (go_at_call 27; refine (link_one _).mono ?_; rintro e w' ⟨rfl, rfl⟩)
    refine wp_loop_rounds 2 ?_
    rw [rounds_succ]
    go_wp2_with fail
    go_region_with (go_at_call 28; refine (disk_one _).mono ?_; rintro e w' ⟨rfl, rfl⟩)
    have hbig : Below w.heap.size w wq := BX.out.trans (BQ.out.mono (Nat.le_of_lt zy))
    go_wp2
    rw [rounds_succ]
    go_wp2
    go_ret2
    refine ⟨_, rfl, ?_⟩
    have hle : w.heap.size ≤ wc.heap.size := Nat.le_of_lt zy
    first
      | exact bdrew (Below.alloc (Below.alloc (Below.setCell (p := ⟨wc.heap.size, 11, none⟩) (Below.setCell (p := ⟨wc.heap.size, 0, none⟩) (Below.setCell (p := ⟨wc.heap.size, 1, none⟩) hbig hle _) hle _) hle _) (by simp; omega) _) (by simp; omega) _)
      | exact Below.alloc (Below.alloc (Below.setCell (p := ⟨wc.heap.size, 11, none⟩) (Below.setCell (p := ⟨wc.heap.size, 0, none⟩) (Below.setCell (p := ⟨wc.heap.size, 1, none⟩) hbig hle _) hle _) hle _) (by simp; omega) _) (by simp; omega) _
end Go.Proofs.YtpndlkjdolbccaaGreatDoor
