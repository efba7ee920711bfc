/-
  Proved here: a request read to a depth; parts counts it. Conditions: none beyond the statement's own.
-/
import Derived.Test.YtpndlkjdolbccaaGreatDoorZ8
namespace Go.Proofs.YtpndlkjdolbccaaGreatDoor
open Go.RowKit

/-- What a request's eleven cells hold. -/
structure RQ where
  k : Int
  p : ByteArray
  A2 : Option Addr
  n2 : Nat
  c2 : Nat
  A3 : Option Addr
  n3 : Nat
  c3 : Nat
  v : Int
  e : Bool
  q : Bool
  s : Int
  t : Int
  A9 : Option Addr
  n9 : Nat
  c9 : Nat
  A10 : Option Addr
  n10 : Nat
  c10 : Nat

/-- The eleven cells at an address. -/
def RQ.At (w : World) (a : Addr) (r : RQ) : Prop :=
  w.cell? a = some (.int .i8 r.k) ∧ w.cell? ⟨a.block, a.off + 1, none⟩ = some (.string r.p) ∧ w.cell? ⟨a.block, a.off + 2, none⟩ = some (.slice r.A2 r.n2 r.c2) ∧
  w.cell? ⟨a.block, a.off + 3, none⟩ = some (.slice r.A3 r.n3 r.c3) ∧ w.cell? ⟨a.block, a.off + 4, none⟩ = some (.int .i32 r.v) ∧ w.cell? ⟨a.block, a.off + 5, none⟩ = some (.bool r.e) ∧
  w.cell? ⟨a.block, a.off + 6, none⟩ = some (.bool r.q) ∧ w.cell? ⟨a.block, a.off + 7, none⟩ = some (.int .i64 r.s) ∧ w.cell? ⟨a.block, a.off + 8, none⟩ = some (.int .i32 r.t) ∧
  w.cell? ⟨a.block, a.off + 9, none⟩ = some (.slice r.A9 r.n9 r.c9) ∧ w.cell? ⟨a.block, a.off + 10, none⟩ = some (.slice r.A10 r.n10 r.c10)

/-- A request, and all in it, reads, to a depth; each list is of the form's reach. -/
def Good : Nat → World → RQ → Prop
  | 0, _, _ => False
  | d + 1, w, r => (∃ z, Nums .u8 w r.A2 r.n2 z) ∧ r.n2 ≤ 140737488351232 ∧ (∃ z s t, Trips w r.A3 r.n3 z s t) ∧ r.n3 * 40 ≤ 140737488351232 ∧ (∃ s t, Pairs w r.A9 r.n9 s t) ∧ r.n9 * 32 ≤ 140737488351232 ∧
    r.n10 * 144 ≤ 140737488351232 ∧ (0 < r.n10 → ∃ ad, r.A10 = some ad ∧ ∀ j, j < r.n10 → ∃ r' : RQ, RQ.At w (ad.add (j * 11)) r' ∧ Good d w r')

theorem RQ.At.below {w w' : World} {a : Addr} {r : RQ} (h : RQ.At w a r) (hb : Below w.heap.size w w') : RQ.At w' a r := by
  obtain ⟨h0, h1, h2, h3, h4, h5, h6, h7, h8, h9, h10⟩ := h
  exact ⟨cell_later hb h0, cell_later hb h1, cell_later hb h2, cell_later hb h3, cell_later hb h4, cell_later hb h5, cell_later hb h6, cell_later hb h7, cell_later hb h8, cell_later hb h9, cell_later hb h10⟩

theorem Good.below {w w' : World} (hb : Below w.heap.size w w') : ∀ (d : Nat) (r : RQ), Good d w r → Good d w' r
  | 0, _, h => h
  | d + 1, r, ⟨⟨z, h2⟩, l2, ⟨z3, s3, t3, h3⟩, l3, ⟨s9, t9, h9⟩, l9, l10, h10⟩ => ⟨⟨z, h2.below hb⟩, l2, ⟨z3, s3, t3, h3.below hb⟩, l3, ⟨s9, t9, h9.below hb⟩, l9, l10, fun hn => by
      obtain ⟨ad, e, hc⟩ := h10 hn
      refine ⟨ad, e, fun j hj => ?_⟩
      obtain ⟨r', ha, hg⟩ := hc j hj
      exact ⟨r', ha.below hb, Good.below hb d r' hg⟩⟩

abbrev RQ.val (r : RQ) : Value := .agg #[.int .i8 r.k, .string r.p, .slice r.A2 r.n2 r.c2, .slice r.A3 r.n3 r.c3, .int .i32 r.v, .bool r.e, .bool r.q, .int .i64 r.s, .int .i32 r.t, .slice r.A9 r.n9 r.c9, .slice r.A10 r.n10 r.c10]

/-- Some number is handed back; nothing that was there has changed. -/
def SomeInt (w : World) (e : Ending) (w' : World) : Prop := ∃ m : Int, e = .returned (.int .i64 m) ∧ Below w.heap.size w w'

set_option maxHeartbeats 2000000 in
set_option maxRecDepth 10000 in
theorem parts_any (d : Nat) : ∀ (r : RQ) (n : Int) (w : World), Good d w r → Calls Tryz.prog 33 #[r.val, .int .i64 n] w (SomeInt w) := by
  induction d with
  | zero => intro r n w h; exact h.elim
  | succ d ih =>
    rintro ⟨k, p, A2, n2, c2, A3, n3, c3, v, e, q, s, t, A9, n9, c9, A10, n10, c10⟩ n w ⟨_, l2, _, l3, _, l9, l10, h10⟩
    simp only at l2 l3 l9 l10 h10
    have IH := Lib.hid ih
    have H10 := Lib.hid h10
    clear ih h10
    go_enter Tryz.func33, Tryz.ntmps33
    go_wp2
    go_loopw [1, 5] (fun m i wr => ∃ (j : Nat) (x : Int), j ≤ n10 ∧ i = .int .i64 j ∧ m = .int .i64 x ∧ Below (w.heap.size + 1) (w.alloc (.cells #[.int .i8 k, .string p, .slice A2 n2 c2, .slice A3 n3 c3, .int .i32 v, .bool e, .bool q, .int .i64 s, .int .i32 t, .slice A9 n9 c9, .slice A10 n10 c10] 29)) wr) (fun _ i _ => n10 - (intOf i).toNat)
    case atStart => exact ⟨0, _, Nat.zero_le _, rfl, rfl, Below.refl _ _⟩
    case round =>
      obtain ⟨j, x, hj, rfl, rfl, hb⟩ := hrel
      have hc10 : wr.cell? ⟨w.heap.size, 10, none⟩ = some (.slice A10 n10 c10) := (hb.cell (p := ⟨w.heap.size, 10, none⟩) (by simp)).trans (by simp)
      have hbw : Below w.heap.size w wr := ((Below.refl _ _).alloc (Nat.le_refl _) _).trans (hb.mono (by simp))
      have hsz := hb.size
      by_cases hlt : j < n10
      · by_cases hx : x ≤ 20000
        · obtain ⟨ad, rfl, hc⟩ := H10.out (by omega)
          obtain ⟨r', hat, hg⟩ := hc j hlt
          have hat' := hat.below hbw
          have hg' := Good.below hbw d r' hg
          obtain ⟨a0, a1, a2, a3, a4, a5, a6, a7, a8, a9, a10⟩ := hat'
          have HB := Lib.hid hb
          have HG := Lib.hid hg'
          clear hb hbw hc hat hg hg'
          go_wp2_with (go_at_call 33; refine (IH.out r' x _ HG.out).mono ?_; rintro e1 w1 ⟨m, rfl, hb1⟩)
          have hb2 : Below (w.heap.size + 1) (w.alloc (.cells #[.int .i8 k, .string p, .slice A2 n2 c2, .slice A3 n3 c3, .int .i32 v, .bool e, .bool q, .int .i64 s, .int .i32 t, .slice A9 n9 c9, .slice (some ad) n10 c10] 29)) w1 := HB.out.trans (hb1.mono (by simpa using hsz))
          clear hb1 HB
          go_wp2
          go_roundw
          case rel => exact ⟨j + 1, m, by omega, by go_num, rfl, hb2⟩
          case measure => simp [intOf]; omega
        · go_wp2
          go_ret
          exact ⟨x, rfl, hbw⟩
      · go_wp2
        go_ret
        exact ⟨x, rfl, hbw⟩
end Go.Proofs.YtpndlkjdolbccaaGreatDoor
