/-
  Proved here: CopyRequest hands back some request, by induction on the request's depth. Conditions: none beyond the statement's own.
-/
import Derived.Test.YtpndlkjdolbccaaGreatDoorZ10
import Derived.Deep.Draws
import Derived.Laws.Rows
import Derived.Deep.AppendLies
import Derived.Deep.RegionHeld3
import Derived.Deep.DeepCutAuto
import Derived.Deep.RegionLaw
namespace Go.Proofs.YtpndlkjdolbccaaGreatDoor
open Go.RowKit

def Blk (w : World) (g : Nat) (t : TypeId) (cs : Array Value) : Prop := w.heap[g]? = some (.cells cs t (0, 0))
section
variable {w w' : World} {g : Nat} {t : TypeId} {cs : Array Value}
theorem Blk.lt (h : Blk w g t cs) : g < w.heap.size := by
  rcases Nat.lt_or_ge g w.heap.size with hlt | hge
  · exact hlt
  · unfold Blk at h; rw [Array.getElem?_eq_none hge] at h; cases h
theorem Blk.cell (h : Blk w g t cs) (i : Nat) : w.cell? ⟨g, i, none⟩ = cs[i]? := cell_of_row w g i cs t (0, 0) h
theorem Blk.frozen (h : Blk w g t cs) (i : Nat) : w.frozen? ⟨g, i, none⟩ = false := by
  unfold Blk at h
  simp [World.frozen?, h]
theorem Blk.new (w : World) (t : TypeId) (cs : Array Value) : Blk (w.alloc (.cells cs t)) w.heap.size t cs := heap_alloc_new w _
theorem Blk.drew (h : Blk w g t cs) : Blk w.drew g t cs := h
theorem Blk.drewN (h : Blk w g t cs) (n : Nat) : Blk (w.drewN n) g t cs := h
theorem Blk.alloc (h : Blk w g t cs) (o : Obj) : Blk (w.alloc o) g t cs := (Below.heap_alloc w o g h.lt).trans h
theorem Blk.set_ (h : Blk w g t cs) (i : Nat) (u : Value) : Blk (w.setCell ⟨g, i, none⟩ u) g t (cs.setIfInBounds i u) := by
  unfold Blk at h ⊢
  simp [World.setCell, Array.getElem?_modify, h]
theorem Blk.far (h : Blk w g t cs) {p : Addr} (hp : g ≠ p.block) (u : Value) : Blk (w.setCell p u) g t cs := (Below.heap_setCell w p u g hp).trans h
theorem Blk.below {B : Nat} (h : Blk w g t cs) (hb : Below B w w') (hg : g < B) : Blk w' g t cs := (hb.block g hg).trans h
end

theorem three_blocks (w w1 : World) (R Z : Array Value) (hb : Below (((w.alloc (.cells R 29)).alloc (.cells Z 29)).alloc (.cells R 29)).heap.size (((w.alloc (.cells R 29)).alloc (.cells Z 29)).alloc (.cells R 29)) w1) :
    Blk w1 w.heap.size 29 R ∧ Blk w1 (w.heap.size + 1) 29 Z ∧ Blk w1 (w.heap.size + 1 + 1) 29 R ∧ Below w.heap.size w w1 ∧ w.heap.size + 3 ≤ w1.heap.size := by
  have z1 : (w.alloc (.cells R 29)).heap.size = w.heap.size + 1 := by simp
  have z2 : ((w.alloc (.cells R 29)).alloc (.cells Z 29)).heap.size = w.heap.size + 1 + 1 := by simp
  have z3 : (((w.alloc (.cells R 29)).alloc (.cells Z 29)).alloc (.cells R 29)).heap.size = w.heap.size + 1 + 1 + 1 := by simp
  have b1 : Blk (((w.alloc (.cells R 29)).alloc (.cells Z 29)).alloc (.cells R 29)) w.heap.size 29 R := ((Blk.new w 29 R).alloc _).alloc _
  have b2 : Blk (((w.alloc (.cells R 29)).alloc (.cells Z 29)).alloc (.cells R 29)) (w.heap.size + 1) 29 Z := by
    have := (Blk.new (w.alloc (.cells R 29)) 29 Z).alloc (.cells R 29)
    rwa [z1] at this
  have b3 : Blk (((w.alloc (.cells R 29)).alloc (.cells Z 29)).alloc (.cells R 29)) (w.heap.size + 1 + 1) 29 R := by
    have := Blk.new ((w.alloc (.cells R 29)).alloc (.cells Z 29)) 29 R
    rwa [z2] at this
  have hs := hb.size
  exact ⟨b1.below hb (by omega), b2.below hb (by omega), b3.below hb (by omega),
    ((((Below.refl w.heap.size w).alloc (Nat.le_refl _) _).alloc (by omega) _).alloc (by omega) _).trans (hb.mono (by omega)), by omega⟩

theorem below_set11 {B : Nat} {w W : World} (h : Below B w W) (g : Nat) (hg : B ≤ g) (a0 a1 a2 a3 a4 a5 a6 a7 a8 a9 a10 : Value) : Below B w (((((((((((W.setCell ⟨g, 0, none⟩ a0).setCell ⟨g, 1, none⟩ a1).setCell ⟨g, 2, none⟩ a2).setCell ⟨g, 3, none⟩ a3).setCell ⟨g, 4, none⟩ a4).setCell ⟨g, 5, none⟩ a5).setCell ⟨g, 6, none⟩ a6).setCell ⟨g, 7, none⟩ a7).setCell ⟨g, 8, none⟩ a8).setCell ⟨g, 9, none⟩ a9).setCell ⟨g, 10, none⟩ a10) :=
  (Below.setCell (p := ⟨g, 10, none⟩) (Below.setCell (p := ⟨g, 9, none⟩) (Below.setCell (p := ⟨g, 8, none⟩) (Below.setCell (p := ⟨g, 7, none⟩) (Below.setCell (p := ⟨g, 6, none⟩) (Below.setCell (p := ⟨g, 5, none⟩) (Below.setCell (p := ⟨g, 4, none⟩) (Below.setCell (p := ⟨g, 3, none⟩) (Below.setCell (p := ⟨g, 2, none⟩) (Below.setCell (p := ⟨g, 1, none⟩) (Below.setCell (p := ⟨g, 0, none⟩) h hg _) hg _) hg _) hg _) hg _) hg _) hg _) hg _) hg _) hg _) hg _)

theorem step_blocks {w w1 w2 : World} {R Z C : Array Value} {i : Nat} {u : Value} (bN : Blk w1 w.heap.size 29 R) (bZ : Blk w1 (w.heap.size + 1) 29 Z) (bC : Blk (w1.setCell ⟨w.heap.size + 1 + 1, i, none⟩ u) (w.heap.size + 1 + 1) 29 C) (hb : Below w.heap.size w w1) (hs : w.heap.size + 3 ≤ w1.heap.size)
    (h2 : Below (w1.setCell ⟨w.heap.size + 1 + 1, i, none⟩ u).heap.size (w1.setCell ⟨w.heap.size + 1 + 1, i, none⟩ u) w2) :
    Blk w2 w.heap.size 29 R ∧ Blk w2 (w.heap.size + 1) 29 Z ∧ Blk w2 (w.heap.size + 1 + 1) 29 C ∧ Below w.heap.size w w2 ∧ w.heap.size + 3 ≤ w2.heap.size := by
  have e : (w1.setCell ⟨w.heap.size + 1 + 1, i, none⟩ u).heap.size = w1.heap.size := by simp [World.setCell]
  have hs2 := h2.size
  rw [e] at h2 hs2
  exact ⟨(bN.far (p := ⟨w.heap.size + 1 + 1, i, none⟩) (by simp <;> omega) u).below h2 (by omega), (bZ.far (p := ⟨w.heap.size + 1 + 1, i, none⟩) (by simp <;> omega) u).below h2 (by omega), bC.below h2 (by omega),
    (hb.setCell (p := ⟨w.heap.size + 1 + 1, i, none⟩) (by simp <;> omega) u).trans (h2.mono (by omega)), by omega⟩

theorem Blk.grown {w w' : World} {g : Nat} {t : TypeId} {cs : Array Value} {row : Option Nat} (h : Blk w g t cs) (hg : w.grownBy w' row) (hne : some g ≠ row) : Blk w' g t cs := (hg.block g h.lt hne).trans h

theorem undrew {w w1 : World} (h : Below w.drew.heap.size w.drew w1) : Below w.heap.size w w1 := ⟨h.os, h.tape, h.output, h.size, h.block⟩

theorem own_later {w w' : World} {base : Nat} {e : TypeId} {size : Nat} {v : Value} {n : Nat} {xs : List Value} (h : w.ownsRow base e size v n xs) (hb : Below w.heap.size w w') : w'.ownsRow base e size v n xs := by
  refine ⟨h.1, ?_⟩
  rcases h.2 with h2 | ⟨g, cap, cur, hv, hbg, hg, hr⟩
  · exact .inl h2
  · refine .inr ⟨g, cap, cur, hv, hbg, ?_, hr⟩
    have hlt : g < w.heap.size := by
      rcases Nat.lt_or_ge g w.heap.size with hlt | hge
      · exact hlt
      · rw [Array.getElem?_eq_none hge] at hg; cases hg
    exact (hb.block g hlt).trans hg

/-- What a round of the copy's loop leaves behind. -/
theorem req_round {w wr w1 w2 : World} {R Z C : Array Value} {o : Obj} {V V' : Value} {j : Nat} {xs xs' : List Value} (hb : Below w.heap.size w wr) (hs : w.heap.size + 3 ≤ wr.heap.size)
    (bN : Blk wr w.heap.size 29 R) (bZ : Blk wr (w.heap.size + 1) 29 Z) (bC : Blk wr (w.heap.size + 1 + 1) 29 C) (hown : wr.ownsRow (w.heap.size + 3) 29 11 V j xs)
    (hb1 : Below wr.drew.heap.size wr.drew w1) (hgrow : (w1.alloc o).grownBy w2 V.ownBlock) (hown2 : w2.ownsRow (w.heap.size + 3) 29 11 V' (j + 1) xs') :
    Below w.heap.size w (w2.setCell ⟨w.heap.size + 1 + 1, 10, none⟩ V') ∧ w.heap.size + 3 ≤ (w2.setCell ⟨w.heap.size + 1 + 1, 10, none⟩ V').heap.size ∧ Blk (w2.setCell ⟨w.heap.size + 1 + 1, 10, none⟩ V') w.heap.size 29 R ∧
    Blk (w2.setCell ⟨w.heap.size + 1 + 1, 10, none⟩ V') (w.heap.size + 1) 29 Z ∧ Blk (w2.setCell ⟨w.heap.size + 1 + 1, 10, none⟩ V') (w.heap.size + 1 + 1) 29 (C.setIfInBounds 10 V') ∧
    (w2.setCell ⟨w.heap.size + 1 + 1, 10, none⟩ V').ownsRow (w.heap.size + 3) 29 11 V' (j + 1) xs' := by
  have hb2 := undrew hb1
  have hs1 : wr.heap.size ≤ w1.heap.size := hb2.size
  have hsa : (w1.alloc o).heap.size = w1.heap.size + 1 := by simp
  have hs2 : w1.heap.size + 1 ≤ w2.heap.size := by have := hgrow.size; omega
  have hne : ∀ g, g < w.heap.size + 3 → some g ≠ V.ownBlock := fun g hg he => by
    have := (hown.lt g he.symm).1
    omega
  have cN := ((bN.below hb2 bN.lt).alloc o).grown hgrow (hne _ (by omega))
  have cZ := ((bZ.below hb2 bZ.lt).alloc o).grown hgrow (hne _ (by omega))
  have cC := ((bC.below hb2 bC.lt).alloc o).grown hgrow (hne _ (by omega))
  have hB : Below w.heap.size w w2 := ((hb.trans (hb2.mono (by omega))).alloc (by omega) o).grown hgrow (by omega) (fun k hk => by have := (hown.lt k hk).1; omega)
  refine ⟨hB.setCell (p := ⟨w.heap.size + 1 + 1, 10, none⟩) (by simp <;> omega) _, by simp [World.setCell]; omega, cN.far (p := ⟨w.heap.size + 1 + 1, 10, none⟩) (by simp <;> omega) _, cZ.far (p := ⟨w.heap.size + 1 + 1, 10, none⟩) (by simp <;> omega) _, cC.set_ 10 V', ?_⟩
  exact ownsRow_setCell_below hown2 (a := ⟨w.heap.size + 1 + 1, 10, none⟩) (by simp <;> omega) V'

/-- A cell of a block that is known whole, behind the call, the new element's block and the append. -/
theorem blk_far {wr w1 w2 : World} {g : Nat} {t : TypeId} {C : Array Value} {o : Obj} {V : Value} {base : Nat} {e : TypeId} {size j : Nat} {xs : List Value} (b : Blk wr g t C) (hb1 : Below wr.drew.heap.size wr.drew w1) (hown : wr.ownsRow base e size V j xs) (hlt : g < base) (hgrow : (w1.alloc o).grownBy w2 V.ownBlock) : Blk w2 g t C :=
  ((b.below (undrew hb1) b.lt).alloc o).grown hgrow (fun he => by have := (hown.lt g he.symm).1; omega)

set_option maxHeartbeats 2000000 in
set_option maxRecDepth 10000 in
theorem copyReq_any (d : Nat) : ∀ (r : RQ) (w : World), Good d w r → Calls Tryz.prog 19 #[r.val] w (SomeReq w) := by
  induction d with
  | zero => intro r w h; exact h.elim
  | succ d ih =>
    rintro ⟨k, p, A2, n2, c2, A3, n3, c3, v, e, q, s, t, A9, n9, c9, A10, n10, c10⟩ w ⟨⟨z2, h2⟩, l2, ⟨z3, s3, t3, h3⟩, l3, ⟨s9, t9, h9⟩, l9, l10, h10⟩
    simp only at h2 l2 h3 l3 h9 l9 l10 h10
    have IH := Lib.hid ih
    have H10 := Lib.hid h10
    have H2 := Lib.hid h2
    have H3 := Lib.hid h3
    have H9 := Lib.hid h9
    clear ih h10 h2 h3 h9
    go_enter Tryz.func19, Tryz.ntmps19
    go_wp2_with fail
    refine (copyBytes A2 n2 c2 z2 _ (H2.out.below (((Below.refl _ _).alloc (Nat.le_refl _) _).alloc (by simp) _ |>.alloc (by simp; omega) _)) l2).mono ?_
    rintro e1 w1 ⟨B2, m2, d2, rfl, hb1⟩
    obtain ⟨bN, bZ, bC, hbw, hsz⟩ := three_blocks w w1 _ _ hb1
    clear hb1
    have x3 := bN.cell 3
    have x9 := bN.cell 9
    have x10 := bN.cell 10
    have y2 := bC.cell 2
    have f2 := bC.frozen 2
    simp only [List.getElem?_toArray, List.getElem?_cons_succ, List.getElem?_cons_zero] at x3 x9 x10 y2
    have BN := Lib.hid bN
    have BZ := Lib.hid bZ
    have BC := Lib.hid (bC.set_ 2 (.slice B2 m2 d2))
    have HB := Lib.hid hbw
    clear bN bZ bC hbw
    go_wp2_with fail
    refine (copyAcl A3 n3 c3 z3 s3 t3 _ (H3.out.below (HB.out.setCell (p := ⟨w.heap.size + 1 + 1, 2, none⟩) (by simp <;> omega) _)) l3).mono ?_
    rintro e1 w2 ⟨B3, m3, d3, rfl, hb1⟩
    obtain ⟨bN, bZ, bC, hbw, hsz2⟩ := step_blocks BN.out BZ.out BC.out HB.out hsz hb1
    clear hb1 x3 x9 x10 y2 f2 BN BZ BC HB hsz
    have x9 := bN.cell 9
    have x10 := bN.cell 10
    have y3 := bC.cell 3
    have f3 := bC.frozen 3
    simp only [List.getElem?_toArray, List.getElem?_cons_succ, List.getElem?_cons_zero, List.setIfInBounds_toArray, List.set_cons_succ, List.set_cons_zero] at x9 x10 y3 bC
    have BN := Lib.hid bN
    have BZ := Lib.hid bZ
    have BC := Lib.hid (bC.set_ 3 (.slice B3 m3 d3))
    have HB := Lib.hid hbw
    clear bN bZ bC hbw
    go_wp2_with fail
    refine (copyIds A9 n9 c9 s9 t9 _ (H9.out.below (HB.out.setCell (p := ⟨w.heap.size + 1 + 1, 3, none⟩) (by simp <;> omega) _)) l9).mono ?_
    rintro e1 w3 ⟨B9, m9, d9, rfl, hb1⟩
    obtain ⟨bN, bZ, bC, hbw, hsz3⟩ := step_blocks BN.out BZ.out BC.out HB.out hsz2 hb1
    clear hb1 x9 x10 y3 f3 BN BZ BC HB hsz2
    have x10 := bN.cell 10
    have y9 := bC.cell 9
    have f9 := bC.frozen 9
    have y10 := bC.cell 10
    have f10 := bC.frozen 10
    simp only [List.getElem?_toArray, List.getElem?_cons_succ, List.getElem?_cons_zero, List.setIfInBounds_toArray, List.set_cons_succ, List.set_cons_zero] at x10 y9 y10 bC
    have BN := Lib.hid bN
    have BZ := Lib.hid bZ
    have BC := Lib.hid ((bC.set_ 9 (.slice B9 m9 d9)).set_ 10 (.slice none 0 0))
    have HB := Lib.hid hbw
    clear bN bZ bC hbw
    go_wp2_with fail
    obtain ⟨i0, hi, hzz⟩ := Option.map_eq_some_iff.1 info29
    simp only [Prod.mk.injEq] at hzz
    obtain ⟨hz0, hz1, hz2⟩ := hzz
    have BCo := BC.out
    simp only [List.setIfInBounds_toArray, List.set_cons_succ, List.set_cons_zero] at BCo
    have h0 : Below w.heap.size w ((w3.setCell ⟨w.heap.size + 1 + 1, 9, none⟩ (.slice B9 m9 d9)).setCell ⟨w.heap.size + 1 + 1, 10, none⟩ (.slice none 0 0)) := (HB.out.setCell (p := ⟨w.heap.size + 1 + 1, 9, none⟩) (by simp <;> omega) _).setCell (p := ⟨w.heap.size + 1 + 1, 10, none⟩) (by simp <;> omega) _
    have BNo : Blk ((w3.setCell ⟨w.heap.size + 1 + 1, 9, none⟩ (.slice B9 m9 d9)).setCell ⟨w.heap.size + 1 + 1, 10, none⟩ (.slice none 0 0)) w.heap.size 29 _ := (BN.out.far (p := ⟨w.heap.size + 1 + 1, 9, none⟩) (by simp <;> omega) _).far (p := ⟨w.heap.size + 1 + 1, 10, none⟩) (by simp <;> omega) _
    have BZo : Blk ((w3.setCell ⟨w.heap.size + 1 + 1, 9, none⟩ (.slice B9 m9 d9)).setCell ⟨w.heap.size + 1 + 1, 10, none⟩ (.slice none 0 0)) (w.heap.size + 1) 29 _ := (BZ.out.far (p := ⟨w.heap.size + 1 + 1, 9, none⟩) (by simp <;> omega) _).far (p := ⟨w.heap.size + 1 + 1, 10, none⟩) (by simp <;> omega) _
    have hs0 : w.heap.size + 3 ≤ ((w3.setCell ⟨w.heap.size + 1 + 1, 9, none⟩ (.slice B9 m9 d9)).setCell ⟨w.heap.size + 1 + 1, 10, none⟩ (.slice none 0 0)).heap.size := by simpa [World.setCell] using hsz3
    have H0 := Lib.hid h0
    have HN := Lib.hid BNo
    have HZ := Lib.hid BZo
    have HC := Lib.hid BCo
    have HS := Lib.hid hs0
    clear h0 BNo BZo BCo hs0 BN BZ BC HB f9 f10 x10 y9 y10 hsz3 H2 H3 H9
    go_loopw [4] (fun i wr => ∃ (j : Nat) (V : Value) (xs : List Value), j ≤ n10 ∧ i = .int .i64 j ∧ Below w.heap.size w wr ∧ w.heap.size + 3 ≤ wr.heap.size ∧ Blk wr w.heap.size 29 #[.int .i8 k, .string p, .slice A2 n2 c2, .slice A3 n3 c3, .int .i32 v, .bool e, .bool q, .int .i64 s, .int .i32 t, .slice A9 n9 c9, .slice A10 n10 c10] ∧
      Blk wr (w.heap.size + 1) 29 #[.int .i8 0, .string ⟨#[]⟩, .slice none 0 0, .slice none 0 0, .int .i32 0, .bool false, .bool false, .int .i64 0, .int .i32 0, .slice none 0 0, .slice none 0 0] ∧
      Blk wr (w.heap.size + 1 + 1) 29 #[.int .i8 k, .string p, .slice B2 m2 d2, .slice B3 m3 d3, .int .i32 v, .bool e, .bool q, .int .i64 s, .int .i32 t, .slice B9 m9 d9, V] ∧ wr.ownsRow (w.heap.size + 3) 29 11 V j xs) (fun i _ => n10 - (intOf i).toNat)
    case atStart => exact ⟨0, _, [], Nat.zero_le _, rfl, H0.out, HS.out, HN.out, HZ.out, HC.out, World.ownsRow_nil _ _ _ _⟩
    case round =>
      obtain ⟨j, V, xs, hj, rfl, hb, hs, bN, bZ, bC, hown⟩ := hrel
      have x10 := bN.cell 10
      simp only [List.getElem?_toArray, List.getElem?_cons_succ, List.getElem?_cons_zero] at x10
      by_cases hlt : j < n10
      · obtain ⟨ad, rfl, hc⟩ := H10.out (by omega)
        obtain ⟨r', hat, hg⟩ := hc j hlt
        have hat' := hat.below hb
        have HG := Lib.hid (Good.below ((Below.refl wr.heap.size wr).drew) d r' (Good.below hb d r' hg))
        obtain ⟨a0, a1, a2, a3, a4, a5, a6, a7, a8, a9, a10⟩ := hat'
        have cc10 := bC.cell 10
        have f10 := bC.frozen 10
        simp only [List.getElem?_toArray, List.getElem?_cons_succ, List.getElem?_cons_zero] at cc10
        have HOWN := Lib.hid hown
        have HB := Lib.hid hb
        have HS := Lib.hid hs
        have HBN := Lib.hid bN
        have HBZ := Lib.hid bZ
        have HBC := Lib.hid bC
        have hj0 : (0 : Int) ≤ (j : Int) := Int.natCast_nonneg j
        have hj1 : (j : Int) < (n10 : Int) := by exact_mod_cast hlt
        clear hown hb bN bZ bC hat hg hc hs
        go_upto_region 9 with fail
        go_region_law (first
          | (refine step_append_lies _ (by rfl) (.tmp 27) (.tmp 34) 27 (by rfl) (w.heap.size + 3) 29 i0 (.agg #[.int .i8 0, .string ⟨#[]⟩, .slice none 0 0, .slice none 0 0, .int .i32 0, .bool false, .bool false, .int .i64 0, .int .i32 0, .slice none 0 0, .slice none 0 0]) 11 144 Tryz.underlying27 hi hz0 hz1 hz2 rfl (by decide) V j xs (by rfl) ((own_later HOWN.out (undrew HB1.out)).alloc _)
              ⟨w1.heap.size, 0, none⟩ 1 1 [.int .i8 k1, .string p1, .slice A21 n21 c21, .slice A31 n31 c31, .int .i32 v1, .bool e1, .bool q1, .int .i64 s1, .int .i32 t1, .slice A91 n91 c91, .slice A101 n101 c101] (by rfl) (by rfl) (World.news_of_block (cs := #[.int .i8 k1, .string p1, .slice A21 n21 c21, .slice A31 n31 c31, .int .i32 v1, .bool e1, .bool q1, .int .i64 s1, .int .i32 t1, .slice A91 n91 c91, .slice A101 n101 c101]) (t := 29) (fr := (0, 0)) (heap_alloc_new w1 _)) HONE.out (by decide) (by simp only [maxLen]; omega) (by omega) (by have := HS.out; have := (undrew HB1.out).size; simp; omega) _ rfl ?_
             intro g cap w2 hown2 hgrow hat hglt
             have HGROW := Lib.hid hgrow
             have HOWN2 := Lib.hid hown2
             have bC2 := blk_far HBC.out HB1.out HOWN.out (by omega) hgrow
             have z10 := bC2.cell 10
             have g10 := bC2.frozen 10
             simp only [List.getElem?_toArray, List.getElem?_cons_succ, List.getElem?_cons_zero] at z10
             clear hgrow hown2 bC2 hat)
          | (go_simp
             go_wp2_with (go_at_call 19; refine (IH.out r' _ HG.out).mono ?_
                          rintro ee w1 ⟨⟨k1, p1, A21, n21, c21, A31, n31, c31, v1, e1, q1, s1, t1, A91, n91, c91, A101, n101, c101⟩, hee, hb1⟩
                          have hee : ee = .returned (.agg #[.int .i8 k1, .string p1, .slice A21 n21 c21, .slice A31 n31 c31, .int .i32 v1, .bool e1, .bool q1, .int .i64 s1, .int .i32 t1, .slice A91 n91 c91, .slice A101 n101 c101]) := hee
                          subst hee
                          have HB1 := Lib.hid hb1
                          have bC1 := HBC.out.below (undrew hb1) HBC.out.lt
                          have v10 := bC1.cell 10
                          simp only [List.getElem?_toArray, List.getElem?_cons_succ, List.getElem?_cons_zero] at v10
                          have lv : w.heap.size + 1 + 1 < w1.heap.size := bC1.lt
                          have HONE : Hid (∀ u ∈ ([.int .i8 k1, .string p1, .slice A21 n21 c21, .slice A31 n31 c31, .int .i32 v1, .bool e1, .bool q1, .int .i64 s1, .int .i32 t1, .slice A91 n91 c91, .slice A101 n101 c101] : List Value), u.oneCell' = true) := Lib.hid (by intro u hu; simp at hu; rcases hu with rfl | rfl | rfl | rfl | rfl | rfl | rfl | rfl | rfl | rfl | rfl <;> rfl)
                          clear hb1 bC1)))
        all_goals
          obtain ⟨b1, b2, b3, b4, b5, b6⟩ := req_round HB.out HS.out HBN.out HBZ.out HBC.out HOWN.out HB1.out HGROW.out HOWN2.out
          have X1 := Lib.hid b1
          have X2 := Lib.hid b2
          have X3 := Lib.hid b3
          have X4 := Lib.hid b4
          have X5 := Lib.hid b5
          have X6 := Lib.hid b6
          clear b1 b2 b3 b4 b5 b6
          go_wp2
          go_roundw
          case rel => exact ⟨j + 1, _, _, by omega, by go_num, X1.out, X2.out, X3.out, X4.out, X5.out, X6.out⟩
          case measure => simp [intOf]; omega
      · have HOWN := Lib.hid hown
        have HB := Lib.hid hb
        have HS := Lib.hid hs
        obtain ⟨AV, lV, cV, rfl⟩ : ∃ AV lV cV, V = .slice AV lV cV := by
          rcases hown.2 with ⟨h, _⟩ | ⟨g, cap, _, h, _⟩
          · exact ⟨_, _, _, h⟩
          · exact ⟨_, _, _, h⟩
        have u0 := bC.cell 0
        have y0 := bZ.cell 0
        have g0 := bZ.frozen 0
        have u1 := bC.cell 1
        have y1 := bZ.cell 1
        have g1 := bZ.frozen 1
        have u2 := bC.cell 2
        have y2 := bZ.cell 2
        have g2 := bZ.frozen 2
        have u3 := bC.cell 3
        have y3 := bZ.cell 3
        have g3 := bZ.frozen 3
        have u4 := bC.cell 4
        have y4 := bZ.cell 4
        have g4 := bZ.frozen 4
        have u5 := bC.cell 5
        have y5 := bZ.cell 5
        have g5 := bZ.frozen 5
        have u6 := bC.cell 6
        have y6 := bZ.cell 6
        have g6 := bZ.frozen 6
        have u7 := bC.cell 7
        have y7 := bZ.cell 7
        have g7 := bZ.frozen 7
        have u8 := bC.cell 8
        have y8 := bZ.cell 8
        have g8 := bZ.frozen 8
        have u9 := bC.cell 9
        have y9 := bZ.cell 9
        have g9 := bZ.frozen 9
        have cc10 := bC.cell 10
        have y10 := bZ.cell 10
        have g10 := bZ.frozen 10
        simp only [List.getElem?_toArray, List.getElem?_cons_succ, List.getElem?_cons_zero] at u0 y0 u1 y1 u2 y2 u3 y3 u4 y4 u5 y5 u6 y6 u7 y7 u8 y8 u9 y9 cc10 y10
        clear hown hb bN bZ bC
        go_wp2
        refine bodyPost_ret (v := RQ.val ⟨k, p, B2, m2, d2, B3, m3, d3, v, e, q, s, t, B9, m9, d9, AV, lV, cV⟩) (by simp [results, Tryz.results19, go_sem, y0, y1, y2, y3, y4, y5, y6, y7, y8, y9, y10]) rfl ⟨⟨k, p, B2, m2, d2, B3, m3, d3, v, e, q, s, t, B9, m9, d9, AV, lV, cV⟩, rfl, ?_⟩
        exact below_set11 HB.out (w.heap.size + 1) (Nat.le_succ _) _ _ _ _ _ _ _ _ _ _ _
end Go.Proofs.YtpndlkjdolbccaaGreatDoor
