/-
  Proved here: CopyEvent hands back some event. Conditions: none beyond the statement's own.
-/
import Derived.Test.YtpndlkjdolbccaaGreatDoorZ11
import Derived.Deep.MidRow
namespace Go.Proofs.YtpndlkjdolbccaaGreatDoor
open Go.RowKit

/-- Some struct is handed back; nothing that was there has changed. -/
def SomeAgg (w : World) (e : Ending) (w' : World) : Prop := ∃ cs : Array Value, e = .returned (.agg cs) ∧ Below w.heap.size w w'

theorem two_blocks (w w1 : World) (R Z : Array Value) (hb : Below ((w.alloc (.cells R 31)).alloc (.cells Z 31)).heap.size ((w.alloc (.cells R 31)).alloc (.cells Z 31)) w1) :
    Blk w1 w.heap.size 31 R ∧ Blk w1 (w.heap.size + 1) 31 Z ∧ Below w.heap.size w w1 ∧ w.heap.size + 2 ≤ w1.heap.size := by
  have z1 : (w.alloc (.cells R 31)).heap.size = w.heap.size + 1 := by simp
  have z2 : ((w.alloc (.cells R 31)).alloc (.cells Z 31)).heap.size = w.heap.size + 1 + 1 := by simp
  have b1 : Blk ((w.alloc (.cells R 31)).alloc (.cells Z 31)) w.heap.size 31 R := (Blk.new w 31 R).alloc _
  have b2 : Blk ((w.alloc (.cells R 31)).alloc (.cells Z 31)) (w.heap.size + 1) 31 Z := by
    have := Blk.new (w.alloc (.cells R 31)) 31 Z
    rwa [z1] at this
  have hs := hb.size
  exact ⟨b1.below hb (by omega), b2.below hb (by omega),
    (((Below.refl w.heap.size w).alloc (Nat.le_refl _) _).alloc (by omega) _).trans (hb.mono (by omega)), by omega⟩

theorem below_set19 {B : Nat} {w W : World} (h : Below B w W) (g : Nat) (hg : B ≤ g) (a0 a1 a2 a3 a4 a5 a6 a7 a8 a9 a10 a11 a12 a13 a14 a15 a16 a17 a18 : Value) : Below B w (((((((((((((((((((W.setCell ⟨g, 0, none⟩ a0).setCell ⟨g, 1, none⟩ a1).setCell ⟨g, 2, none⟩ a2).setCell ⟨g, 3, none⟩ a3).setCell ⟨g, 4, none⟩ a4).setCell ⟨g, 5, none⟩ a5).setCell ⟨g, 6, none⟩ a6).setCell ⟨g, 7, none⟩ a7).setCell ⟨g, 8, none⟩ a8).setCell ⟨g, 9, none⟩ a9).setCell ⟨g, 10, none⟩ a10).setCell ⟨g, 11, none⟩ a11).setCell ⟨g, 12, none⟩ a12).setCell ⟨g, 13, none⟩ a13).setCell ⟨g, 14, none⟩ a14).setCell ⟨g, 15, none⟩ a15).setCell ⟨g, 16, none⟩ a16).setCell ⟨g, 17, none⟩ a17).setCell ⟨g, 18, none⟩ a18) := by
  repeat' (refine Below.setCell ?_ ?_ _)
  all_goals first | exact h | exact hg

theorem below_cells {B : Nat} {a : World} (b : Nat) (hb : B ≤ b) : ∀ (vs : List Value) (o : Nat) {w : World}, Below B a w → Below B a (w.setCells b o vs)
  | [], _, _, h => h
  | v :: r, o, _, h => below_cells b hb r (o + 1) (h.setCell (p := ⟨b, o, none⟩) hb v)

/-- A function's one result is read out of its cells. -/
theorem results_cell {P : Program} {fn : Func} {tmps : Array Value} {a : Tmp} {t : TypeId} {b o : Nat} {cs : List Value} {d : TypeDesc} {w : World} (hr : fn.results = #[.cell a t]) (hp : tmps.getD a undef = .pointer (some ⟨b, o, none⟩))
    (hc : w.rangeAt b o cs) (hu : P.underlying t = some d) (hd : d.isRow = true) (hi : (P.info? t).map (·.size) = some cs.length) : (results fn tmps).run P w = .ok (.agg cs.toArray) w := by
  have hl := run_loadVar_mid w b o t cs d hc hu hd hi
  have hp' : tmps[a]?.getD undef = .pointer (some ⟨b, o, none⟩) := by simpa using hp
  simp [results, hr, hp', asAddr, hl]


/-- What an event's nineteen cells hold. -/
structure EV where
  k : Int
  s : Int
  o : Int
  p : Int
  n : Int
  x : Int
  AK : Option Addr
  nK : Nat
  cK : Nat
  r : RQ
  t : Int

abbrev EV.val (x : EV) : Value := .agg #[.int .i8 x.k, .int .i8 x.s, .int .i8 x.o, .int .i64 x.p, .int .i64 x.n, .int .u8 x.x, .slice x.AK x.nK x.cK, .int .i8 x.r.k, .string x.r.p, .slice x.r.A2 x.r.n2 x.r.c2, .slice x.r.A3 x.r.n3 x.r.c3, .int .i32 x.r.v, .bool x.r.e, .bool x.r.q, .int .i64 x.r.s, .int .i32 x.r.t, .slice x.r.A9 x.r.n9 x.r.c9, .slice x.r.A10 x.r.n10 x.r.c10, .int .i8 x.t]

/-- An event, and all in it, reads. -/
def GoodE (d : Nat) (w : World) (x : EV) : Prop := (∃ z, Nums .i64 w x.AK x.nK z) ∧ x.nK * 8 ≤ 140737488351232 ∧ Good d w x.r

theorem GoodE.below {w w' : World} (hb : Below w.heap.size w w') (d : Nat) (x : EV) (h : GoodE d w x) : GoodE d w' x := by
  obtain ⟨⟨z, hz⟩, hl, hg⟩ := h
  exact ⟨⟨z, hz.below hb⟩, hl, Good.below hb d x.r hg⟩

theorem Blk.there {w : World} {g : Nat} {t : TypeId} {cs : Array Value} (h : Blk w g t cs) (o n : Nat) (hn : o + n ≤ cs.size) : w.there g o n := fun j hj => by
  refine ⟨?_, h.frozen _⟩
  rw [h.cell, Array.getElem?_eq_getElem (by omega)]
  rfl
theorem Blk.range {w : World} {g : Nat} {t : TypeId} {cs : Array Value} (h : Blk w g t cs) (o : Nat) (l : List Value) (hl : (cs.extract o (o + l.length)).toList = l) : w.rangeAt g o l := by
  have := World.rangeAt_of_block (w := w) (b := g) (C := cs) (t := t) (fr := (0, 0)) h o l.length
  rwa [hl] at this
theorem info29s : (Tryz.prog.info? 29).map (·.size) = some 11 := by kernel_rfl
theorem info31s : (Tryz.prog.info? 31).map (·.size) = some 19 := by kernel_rfl

set_option maxHeartbeats 4000000 in
set_option maxRecDepth 20000 in
theorem copyEvent_any (d : Nat) (x : EV) (w : World) (h : GoodE d w x) : Calls Tryz.prog 6 #[x.val] w (SomeAgg w) := by
  obtain ⟨⟨z, hz⟩, hl, hg⟩ := h
  obtain ⟨k0, s0, o0, p0, n0, x0, AK, nK, cK, ⟨k, p, A2, n2, c2, A3, n3, c3, v, e, q, s, t, A9, n9, c9, A10, n10, c10⟩, t0⟩ := x
  simp only at hz hl hg
  have HZ := Lib.hid hz
  have HG := Lib.hid hg
  clear hz hg
  go_enter Tryz.func6, Tryz.ntmps6
  go_wp2_with fail
  refine (copyInts AK nK cK z _ (HZ.out.below (((Below.refl _ _).alloc (Nat.le_refl _) _).alloc (by simp) _)) hl).mono ?_
  rintro ee w1 ⟨B, m, c', rfl, hb1⟩
  obtain ⟨bN, bZ, hbw, hsz⟩ := two_blocks w w1 _ _ hb1
  clear hb1
  have x6' := bN.cell 6
  have f6 := bN.frozen 6
  simp only [List.getElem?_toArray, List.getElem?_cons_succ, List.getElem?_cons_zero] at x6'
  have BN := Lib.hid (bN.set_ 6 (.slice B m c'))
  have BZ := Lib.hid (bZ.far (p := ⟨w.heap.size, 6, none⟩) (by simp) (.slice B m c'))
  have HB := Lib.hid (hbw.setCell (p := ⟨w.heap.size, 6, none⟩) (Nat.le_refl _) (.slice B m c'))
  have HS := Lib.hid hsz
  have HR := Lib.hid ((bN.set_ 6 (.slice B m c')).range 7 [.int .i8 k, .string p, .slice A2 n2 c2, .slice A3 n3 c3, .int .i32 v, .bool e, .bool q, .int .i64 s, .int .i32 t, .slice A9 n9 c9, .slice A10 n10 c10] (by simp))
  clear bN bZ hbw hsz
  go_wp2_with (refine wpList_load_mid rfl 29 (.tmp 7) (by rfl) w.heap.size 7 (by rfl) [.int .i8 k, .string p, .slice A2 n2 c2, .slice A3 n3 c3, .int .i32 v, .bool e, .bool q, .int .i64 s, .int .i32 t, .slice A9 n9 c9, .slice A10 n10 c10] _ HR.out Tryz.underlying29 rfl info29s ?_)
  refine (copyReq_any d ⟨k, p, A2, n2, c2, A3, n3, c3, v, e, q, s, t, A9, n9, c9, A10, n10, c10⟩ _ (Good.below HB.out d _ HG.out)).mono ?_
  rintro ee w2 ⟨⟨k1, p1, A21, n21, c21, A31, n31, c31, v1, e1, q1, s1, t1, A91, n91, c91, A101, n101, c101⟩, hee, hb1⟩
  have hee : ee = .returned (.agg #[.int .i8 k1, .string p1, .slice A21 n21 c21, .slice A31 n31 c31, .int .i32 v1, .bool e1, .bool q1, .int .i64 s1, .int .i32 t1, .slice A91 n91 c91, .slice A101 n101 c101]) := hee
  subst hee
  have hs' : (w1.setCell ⟨w.heap.size, 6, none⟩ (.slice B m c')).heap.size = w1.heap.size := by simp [World.setCell]
  have hsz := HS.out
  have bN := BN.out.below hb1 (by omega)
  have bZ := BZ.out.below hb1 (by omega)
  have hbw := HB.out.trans (hb1.mono (by omega))
  have hsz2 : w.heap.size + 2 ≤ w2.heap.size := by have := hb1.size; omega
  simp only [List.setIfInBounds_toArray, List.set_cons_succ, List.set_cons_zero] at bN
  clear hb1 x6' f6 BN BZ HB HS hs' HR hsz
  have HT := Lib.hid (bN.there 7 11 (by simp))
  have hBN : Blk (w2.setCells w.heap.size 7 [.int .i8 k1, .string p1, .slice A21 n21 c21, .slice A31 n31 c31, .int .i32 v1, .bool e1, .bool q1, .int .i64 s1, .int .i32 t1, .slice A91 n91 c91, .slice A101 n101 c101]) w.heap.size 31 _ := (((((((((((bN.set_ 7 (.int .i8 k1)).set_ 8 (.string p1)).set_ 9 (.slice A21 n21 c21)).set_ 10 (.slice A31 n31 c31)).set_ 11 (.int .i32 v1)).set_ 12 (.bool e1)).set_ 13 (.bool q1)).set_ 14 (.int .i64 s1)).set_ 15 (.int .i32 t1)).set_ 16 (.slice A91 n91 c91)).set_ 17 (.slice A101 n101 c101))
  have hBZ : Blk (w2.setCells w.heap.size 7 [.int .i8 k1, .string p1, .slice A21 n21 c21, .slice A31 n31 c31, .int .i32 v1, .bool e1, .bool q1, .int .i64 s1, .int .i32 t1, .slice A91 n91 c91, .slice A101 n101 c101]) (w.heap.size + 1) 31 _ := (((((((((((bZ.far (p := ⟨w.heap.size, 7, none⟩) (by simp) (.int .i8 k1)).far (p := ⟨w.heap.size, 8, none⟩) (by simp) (.string p1)).far (p := ⟨w.heap.size, 9, none⟩) (by simp) (.slice A21 n21 c21)).far (p := ⟨w.heap.size, 10, none⟩) (by simp) (.slice A31 n31 c31)).far (p := ⟨w.heap.size, 11, none⟩) (by simp) (.int .i32 v1)).far (p := ⟨w.heap.size, 12, none⟩) (by simp) (.bool e1)).far (p := ⟨w.heap.size, 13, none⟩) (by simp) (.bool q1)).far (p := ⟨w.heap.size, 14, none⟩) (by simp) (.int .i64 s1)).far (p := ⟨w.heap.size, 15, none⟩) (by simp) (.int .i32 t1)).far (p := ⟨w.heap.size, 16, none⟩) (by simp) (.slice A91 n91 c91)).far (p := ⟨w.heap.size, 17, none⟩) (by simp) (.slice A101 n101 c101))
  have hHB : Below w.heap.size w (w2.setCells w.heap.size 7 [.int .i8 k1, .string p1, .slice A21 n21 c21, .slice A31 n31 c31, .int .i32 v1, .bool e1, .bool q1, .int .i64 s1, .int .i32 t1, .slice A91 n91 c91, .slice A101 n101 c101]) := (((((((((((hbw.setCell (p := ⟨w.heap.size, 7, none⟩) (Nat.le_refl _) (.int .i8 k1)).setCell (p := ⟨w.heap.size, 8, none⟩) (Nat.le_refl _) (.string p1)).setCell (p := ⟨w.heap.size, 9, none⟩) (Nat.le_refl _) (.slice A21 n21 c21)).setCell (p := ⟨w.heap.size, 10, none⟩) (Nat.le_refl _) (.slice A31 n31 c31)).setCell (p := ⟨w.heap.size, 11, none⟩) (Nat.le_refl _) (.int .i32 v1)).setCell (p := ⟨w.heap.size, 12, none⟩) (Nat.le_refl _) (.bool e1)).setCell (p := ⟨w.heap.size, 13, none⟩) (Nat.le_refl _) (.bool q1)).setCell (p := ⟨w.heap.size, 14, none⟩) (Nat.le_refl _) (.int .i64 s1)).setCell (p := ⟨w.heap.size, 15, none⟩) (Nat.le_refl _) (.int .i32 t1)).setCell (p := ⟨w.heap.size, 16, none⟩) (Nat.le_refl _) (.slice A91 n91 c91)).setCell (p := ⟨w.heap.size, 17, none⟩) (Nat.le_refl _) (.slice A101 n101 c101))
  simp only [List.setIfInBounds_toArray, List.set_cons_succ, List.set_cons_zero] at hBN
  have HBN := Lib.hid hBN
  have HBZ := Lib.hid hBZ
  have HHB := Lib.hid hHB
  have HO : Hid (((#[.int .i8 k1, .string p1, .slice A21 n21 c21, .slice A31 n31 c31, .int .i32 v1, .bool e1, .bool q1, .int .i64 s1, .int .i32 t1, .slice A91 n91 c91, .slice A101 n101 c101] : Array Value)).all (·.oneCell') = true) := Lib.hid (by simp [Value.oneCell'])
  clear hBN hBZ hHB bN bZ hbw hsz2
  go_upto_region 3 with (refine wpList_store_mid rfl 29 (.tmp 10) (.tmp 9) (by rfl) w.heap.size 7 #[.int .i8 k1, .string p1, .slice A21 n21 c21, .slice A31 n31 c31, .int .i32 v1, .bool e1, .bool q1, .int .i64 s1, .int .i32 t1, .slice A91 n91 c91, .slice A101 n101 c101] (by rfl) (by rfl) HT.out info29s HO.out ?_)
  have hBN := HBN.out
  have hBZ := HBZ.out
  have hHB := HHB.out
  clear HBN HBZ HHB HT HO
  change Code.wp _ _ _ _ (w2.setCells w.heap.size 7 [.int .i8 k1, .string p1, .slice A21 n21 c21, .slice A31 n31 c31, .int .i32 v1, .bool e1, .bool q1, .int .i64 s1, .int .i32 t1, .slice A91 n91 c91, .slice A101 n101 c101])
  generalize w2.setCells w.heap.size 7 [.int .i8 k1, .string p1, .slice A21 n21 c21, .slice A31 n31 c31, .int .i32 v1, .bool e1, .bool q1, .int .i64 s1, .int .i32 t1, .slice A91 n91 c91, .slice A101 n101 c101] = w3 at hBN hBZ hHB ⊢
  have HR := Lib.hid (hBN.range 0 [.int .i8 k0, .int .i8 s0, .int .i8 o0, .int .i64 p0, .int .i64 n0, .int .u8 x0, .slice B m c', .int .i8 k1, .string p1, .slice A21 n21 c21, .slice A31 n31 c31, .int .i32 v1, .bool e1, .bool q1, .int .i64 s1, .int .i32 t1, .slice A91 n91 c91, .slice A101 n101 c101, .int .i8 t0] (by simp))
  have ht := hBZ.there 0 19 (by simp)
  have HT := Lib.hid ht
  have hrs := World.rangeAt_setCells_same w3 (w.heap.size + 1) 0 [.int .i8 k0, .int .i8 s0, .int .i8 o0, .int .i64 p0, .int .i64 n0, .int .u8 x0, .slice B m c', .int .i8 k1, .string p1, .slice A21 n21 c21, .slice A31 n31 c31, .int .i32 v1, .bool e1, .bool q1, .int .i64 s1, .int .i32 t1, .slice A91 n91 c91, .slice A101 n101 c101, .int .i8 t0] ht
  have HO : Hid (((#[.int .i8 k0, .int .i8 s0, .int .i8 o0, .int .i64 p0, .int .i64 n0, .int .u8 x0, .slice B m c', .int .i8 k1, .string p1, .slice A21 n21 c21, .slice A31 n31 c31, .int .i32 v1, .bool e1, .bool q1, .int .i64 s1, .int .i32 t1, .slice A91 n91 c91, .slice A101 n101 c101, .int .i8 t0] : Array Value)).all (·.oneCell') = true) := Lib.hid (by simp [Value.oneCell'])
  have HE := Lib.hid (below_cells (w.heap.size + 1) (Nat.le_succ _) [.int .i8 k0, .int .i8 s0, .int .i8 o0, .int .i64 p0, .int .i64 n0, .int .u8 x0, .slice B m c', .int .i8 k1, .string p1, .slice A21 n21 c21, .slice A31 n31 c31, .int .i32 v1, .bool e1, .bool q1, .int .i64 s1, .int .i32 t1, .slice A91 n91 c91, .slice A101 n101 c101, .int .i8 t0] 0 hHB)
  clear hBN hBZ hHB ht
  go_wp2_with (first
    | (refine wpList_load_mid rfl 31 (.tmp 1) (by rfl) w.heap.size 0 (by rfl) [.int .i8 k0, .int .i8 s0, .int .i8 o0, .int .i64 p0, .int .i64 n0, .int .u8 x0, .slice B m c', .int .i8 k1, .string p1, .slice A21 n21 c21, .slice A31 n31 c31, .int .i32 v1, .bool e1, .bool q1, .int .i64 s1, .int .i32 t1, .slice A91 n91 c91, .slice A101 n101 c101, .int .i8 t0] _ HR.out Tryz.underlying31 rfl info31s ?_)
    | (refine wpList_store_mid rfl 31 (.tmp 2) (.tmp 11) (by rfl) (w.heap.size + 1) 0 #[.int .i8 k0, .int .i8 s0, .int .i8 o0, .int .i64 p0, .int .i64 n0, .int .u8 x0, .slice B m c', .int .i8 k1, .string p1, .slice A21 n21 c21, .slice A31 n31 c31, .int .i32 v1, .bool e1, .bool q1, .int .i64 s1, .int .i32 t1, .slice A91 n91 c91, .slice A101 n101 c101, .int .i8 t0] (by rfl) (by rfl) HT.out info31s HO.out ?_))
  exact bodyPost_ret (v := .agg #[.int .i8 k0, .int .i8 s0, .int .i8 o0, .int .i64 p0, .int .i64 n0, .int .u8 x0, .slice B m c', .int .i8 k1, .string p1, .slice A21 n21 c21, .slice A31 n31 c31, .int .i32 v1, .bool e1, .bool q1, .int .i64 s1, .int .i32 t1, .slice A91 n91 c91, .slice A101 n101 c101, .int .i8 t0]) (results_cell Tryz.results6 (by rfl) hrs Tryz.underlying31 rfl info31s) rfl ⟨_, rfl, HE.out⟩
end Go.Proofs.YtpndlkjdolbccaaGreatDoor
