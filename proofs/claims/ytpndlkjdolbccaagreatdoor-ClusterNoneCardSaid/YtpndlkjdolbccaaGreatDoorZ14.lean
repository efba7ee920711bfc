/-
  Proved here: what came in by the form's own reading is an event that reads. Conditions: none beyond the statement's own.
-/
import Derived.Test.YtpndlkjdolbccaaGreatDoorZ13
import Derived.ProofKit
import Derived.SizedLaws
import Derived.Deep.Slices
namespace Go.Proofs.YtpndlkjdolbccaaGreatDoor
open Go.ChangeShapes Go.WideShapes Go.ChangeAt Go.RowKit Go.Deep

/-! ### Opening what came in -/
section
variable {H : Type} {enc : TypeId × Value → H} {P : Program} {w : World}

/-- No weight beyond the form's reach. -/
def Light (P : Program) (t : TypeId) (d : DataW H) : Prop := ∀ m ∈ d.weights P t, m ≤ 140737488351232

theorem weightsAll_in {e : TypeId} : ∀ {l : List (DataW H)} {d : DataW H}, d ∈ l → ∀ n ∈ d.weights P e, n ∈ DataW.weightsAll P e l
  | d0 :: l, d, h, n, hn => by
    simp only [DataW.weightsAll, List.mem_append]
    rcases List.mem_cons.1 h with rfl | h
    · exact .inl hn
    · exact .inr (weightsAll_in h n hn)
  | [], _, h, _, _ => by cases h

theorem st_open {t : TypeId} {fs : Array Field} {f : Nat} {cs : List Value} {x : DataW H × List MemPlace} (ht : P.underlying t = some (.struct fs)) (h : DataW.trod enc P w 0 (fun _ => true) true f t cs = some x) (hw : Light P t x.1) :
    ∃ g, f = g + 1 ∧ cs.length = P.cellsOf t ∧ ∀ (i : Nat) (fl : Field), fs[i]? = some fl → ∃ y, DataW.trod enc P w 0 (fun _ => true) true g fl.type ((cs.drop fl.offset).take (P.cellsOf fl.type)) = some y ∧ Light P fl.type y.1 := by
  obtain ⟨xs, n, hn, rfl, hl, hlen, hf⟩ := DataW.trod_struct ht h
  refine ⟨n, hn, hl, fun i fl hfl => ?_⟩
  have hi : i < xs.length := by
    rw [hlen]
    rcases Nat.lt_or_ge i fs.size with h1 | h1
    · exact h1
    · rw [Array.getElem?_eq_none h1] at hfl; cases hfl
  have hx : xs[i]? = some xs[i] := List.getElem?_eq_getElem hi
  refine ⟨xs[i], (hf i fl hfl).trans hx, fun m hm => hw m ?_⟩
  show m ∈ DataW.weights P t (.agg (xs.map (·.1)))
  unfold DataW.weights
  rw [ht]
  exact DataW.weights_mem_each (j := i) (t := fl.type) (d := xs[i].1) (by simp [hfl]) (by simp [hx]) m hm

theorem sl_open {t e : TypeId} {f : Nat} {cs : List Value} {x : DataW H × List MemPlace} (ht : P.underlying t = some (.slice e)) (h : DataW.trod enc P w 0 (fun _ => true) true f t cs = some x) (hw : Light P t x.1) :
    ∃ (A : Option Addr) (n c : Nat), cs = [.slice A n c] ∧ n * P.bytesOf e ≤ 140737488351232 ∧
      (0 < n → ∃ a g, f = g + 1 ∧ A = some a ∧ ∀ j, j < n → ∃ cs' y, w.cells? 0 (a.add (j * P.cellsOf e)) (P.cellsOf e) = some cs' ∧ DataW.trod enc P w 0 (fun _ => true) true g e cs' = some y ∧ Light P e y.1) := by
  rcases DataW.trod_slice ht h with ⟨rfl, rfl⟩ | ⟨a, len, cap, elems, rest, g, hg, rfl, rfl, hb, hl, hm, hlen, hel, _, _⟩
  · exact ⟨none, 0, 0, rfl, by omega, fun h => by omega⟩
  have hws : ∀ m ∈ (elems.length + rest.length) * P.bytesOf e :: (DataW.weightsAll P e (elems.map (·.1)) ++ DataW.weightsAll P e (rest.map (·.1))), m ≤ 140737488351232 := fun m hm => hw m (by
    show m ∈ DataW.weights P t (.slice (elems.map (·.1)) (rest.map (·.1)))
    unfold DataW.weights
    rw [ht]
    simpa using hm)
  refine ⟨some a, len, cap, rfl, ?_, fun _ => ⟨a, g, hg, rfl, fun j hj => ?_⟩⟩
  · have := hws _ (List.mem_cons_self ..)
    exact Nat.le_trans (Nat.mul_le_mul_right _ (by omega)) this
  · have hje : j < elems.length := by omega
    have hx : elems[j]? = some elems[j] := List.getElem?_eq_getElem hje
    have := hel j hj
    rw [hx] at this
    obtain ⟨cs', h1, h2⟩ := Option.bind_eq_some_iff.1 this
    exact ⟨cs', elems[j], h1, h2, fun m hm => hws m (List.mem_cons_of_mem _ (List.mem_append_left _ (weightsAll_in (List.mem_map.2 ⟨elems[j], List.getElem_mem hje, rfl⟩) m hm)))⟩

/-- Numbers. -/
theorem nums_open {t e : TypeId} {k : IntKind} {f : Nat} {cs : List Value} {x : DataW H × List MemPlace} (ht : P.underlying t = some (.slice e)) (he : P.underlying e = some (.int k)) (hc : P.cellsOf e = 1)
    (h : DataW.trod enc P w 0 (fun _ => true) true f t cs = some x) (hw : Light P t x.1) : ∃ (A : Option Addr) (n c : Nat), cs = [.slice A n c] ∧ n * P.bytesOf e ≤ 140737488351232 ∧ ∃ z, Nums k w A n z := by
  obtain ⟨A, n, c, rfl, hb, hx⟩ := sl_open ht h hw
  refine ⟨A, n, c, rfl, hb, ?_⟩
  rcases Nat.eq_zero_or_pos n with rfl | hn
  · exact ⟨fun _ => 0, fun h => absurd h (by omega)⟩
  obtain ⟨a, g, _, rfl, hall⟩ := hx hn
  rw [hc] at hall
  obtain ⟨z, hz⟩ := choose_lt (α := Int) (p := fun i u => w.cell? (a.add i) = some (.int k u)) (fun i hi => by
    obtain ⟨cs', y, h1, h2, _⟩ := hall i hi
    obtain ⟨u, rfl, _, _⟩ := DataW.trod_int he h2
    obtain ⟨_, _, h3⟩ := World.cells?_some h1
    have h4 := h3 0 (by omega)
    simp only [Nat.mul_one, Addr.add_zero', List.getElem?_cons_zero] at h4
    exact ⟨u, h4⟩)
  exact ⟨z, fun _ => ⟨a, rfl, hz⟩⟩
end

theorem cells3 : Tryz.prog.cellsOf 3 = 1 := by kernel_rfl
theorem cells5 : Tryz.prog.cellsOf 5 = 1 := by kernel_rfl
theorem cells2 : Tryz.prog.cellsOf 2 = 1 := by kernel_rfl
theorem cells4 : Tryz.prog.cellsOf 4 = 1 := by kernel_rfl
theorem cells9 : Tryz.prog.cellsOf 9 = 1 := by kernel_rfl
theorem cells21 : Tryz.prog.cellsOf 21 = 1 := by kernel_rfl
theorem cells22 : Tryz.prog.cellsOf 22 = 1 := by kernel_rfl
theorem cells23 : Tryz.prog.cellsOf 23 = 1 := by kernel_rfl
theorem cells24 : Tryz.prog.cellsOf 24 = 1 := by kernel_rfl
theorem cells25 : Tryz.prog.cellsOf 25 = 1 := by kernel_rfl
theorem cells26 : Tryz.prog.cellsOf 26 = 1 := by kernel_rfl
theorem cells27 : Tryz.prog.cellsOf 27 = 1 := by kernel_rfl
theorem cells29 : Tryz.prog.cellsOf 29 = 11 := by kernel_rfl
theorem cells31 : Tryz.prog.cellsOf 31 = 19 := by kernel_rfl
theorem cells147 : Tryz.prog.cellsOf 147 = 2 := by kernel_rfl
theorem cells149 : Tryz.prog.cellsOf 149 = 3 := by kernel_rfl
theorem bytes3 : Tryz.prog.bytesOf 3 = 8 := by kernel_rfl
theorem bytes5 : Tryz.prog.bytesOf 5 = 1 := by kernel_rfl
theorem bytes29 : Tryz.prog.bytesOf 29 = 144 := by kernel_rfl
theorem bytes147 : Tryz.prog.bytesOf 147 = 32 := by kernel_rfl
theorem bytes149 : Tryz.prog.bytesOf 149 = 40 := by kernel_rfl

section
variable {H : Type} {enc : TypeId × Value → H} {w : World}

theorem trips_open {f : Nat} {cs : List Value} {x : DataW H × List MemPlace} (h : DataW.trod enc Tryz.prog w 0 (fun _ => true) true f 25 cs = some x) (hw : Light Tryz.prog 25 x.1) :
    ∃ (A : Option Addr) (n c : Nat), cs = [.slice A n c] ∧ n * 40 ≤ 140737488351232 ∧ ∃ z s t, Trips w A n z s t := by
  obtain ⟨A, n, c, rfl, hb, hx⟩ := sl_open Tryz.underlying25 h hw
  rw [bytes149] at hb
  refine ⟨A, n, c, rfl, hb, ?_⟩
  rcases Nat.eq_zero_or_pos n with rfl | hn
  · exact ⟨fun _ => 0, fun _ => ⟨#[]⟩, fun _ => ⟨#[]⟩, fun h => absurd h (by omega)⟩
  obtain ⟨a, g, _, rfl, hall⟩ := hx hn
  rw [cells149] at hall
  obtain ⟨zz, hz⟩ := choose_lt (α := Int × ByteArray × ByteArray) (p := fun j u => w.cell? (a.add (j * 3)) = some (.int .i8 u.1) ∧ w.cell? ⟨(a.add (j * 3)).block, (a.add (j * 3)).off + 1, none⟩ = some (.string u.2.1) ∧ w.cell? ⟨(a.add (j * 3)).block, (a.add (j * 3)).off + 2, none⟩ = some (.string u.2.2)) (fun i hi => by
    obtain ⟨cs', y, h1, h2, h2w⟩ := hall i hi
    obtain ⟨_, hlen, h3⟩ := World.cells?_some h1
    match cs', hlen with
    | [c0, c1, c2], _ =>
      obtain ⟨g', _, _, hf⟩ := st_open Tryz.underlying149 h2 h2w
      obtain ⟨y0, t0, _⟩ := hf 0 _ rfl
      obtain ⟨y1, t1, l1⟩ := hf 1 _ rfl
      simp only [List.getElem_toArray, List.getElem_cons_zero, List.getElem_cons_succ, cells22, cells147, List.drop, List.take] at t0 t1 l1
      obtain ⟨g2, _, _, hf2⟩ := st_open Tryz.underlying147 t1 l1
      obtain ⟨q1, r1, _⟩ := hf2 0 _ rfl
      obtain ⟨q2, r2, _⟩ := hf2 1 _ rfl
      simp only [List.getElem_toArray, List.getElem_cons_zero, List.getElem_cons_succ, cells9, List.drop, List.take] at r1 r2
      obtain ⟨u0, e0, _⟩ := DataW.trod_int Tryz.underlying22 t0
      obtain ⟨u1, e1, _⟩ := DataW.trod_string Tryz.underlying9 r1
      obtain ⟨u2, e2, _⟩ := DataW.trod_string Tryz.underlying9 r2
      simp only [List.cons.injEq, and_true] at e0 e1 e2
      subst e0; subst e1; subst e2
      exact ⟨(u0, u1, u2), by simpa [Addr.add] using h3 0 (by omega), by simpa [Addr.add] using h3 1 (by omega), by simpa [Addr.add] using h3 2 (by omega)⟩)
  exact ⟨fun j => (zz j).1, fun j => (zz j).2.1, fun j => (zz j).2.2, fun _ => ⟨a, rfl, hz⟩⟩

theorem pairs_open {f : Nat} {cs : List Value} {x : DataW H × List MemPlace} (h : DataW.trod enc Tryz.prog w 0 (fun _ => true) true f 26 cs = some x) (hw : Light Tryz.prog 26 x.1) :
    ∃ (A : Option Addr) (n c : Nat), cs = [.slice A n c] ∧ n * 32 ≤ 140737488351232 ∧ ∃ s t, Pairs w A n s t := by
  obtain ⟨A, n, c, rfl, hb, hx⟩ := sl_open Tryz.underlying26 h hw
  rw [bytes147] at hb
  refine ⟨A, n, c, rfl, hb, ?_⟩
  rcases Nat.eq_zero_or_pos n with rfl | hn
  · exact ⟨fun _ => ⟨#[]⟩, fun _ => ⟨#[]⟩, fun h => absurd h (by omega)⟩
  obtain ⟨a, g, _, rfl, hall⟩ := hx hn
  rw [cells147] at hall
  obtain ⟨zz, hz⟩ := choose_lt (α := ByteArray × ByteArray) (p := fun j u => w.cell? (a.add (j * 2)) = some (.string u.1) ∧ w.cell? ⟨(a.add (j * 2)).block, (a.add (j * 2)).off + 1, none⟩ = some (.string u.2)) (fun i hi => by
    obtain ⟨cs', y, h1, h2, h2w⟩ := hall i hi
    obtain ⟨_, hlen, h3⟩ := World.cells?_some h1
    match cs', hlen with
    | [c0, c1], _ =>
      obtain ⟨g', _, _, hf⟩ := st_open Tryz.underlying147 h2 h2w
      obtain ⟨y0, t0, _⟩ := hf 0 _ rfl
      obtain ⟨y1, t1, _⟩ := hf 1 _ rfl
      simp only [List.getElem_toArray, List.getElem_cons_zero, List.getElem_cons_succ, cells9, List.drop, List.take] at t0 t1
      obtain ⟨u0, e0, _⟩ := DataW.trod_string Tryz.underlying9 t0
      obtain ⟨u1, e1, _⟩ := DataW.trod_string Tryz.underlying9 t1
      simp only [List.cons.injEq, and_true] at e0 e1
      subst e0; subst e1
      exact ⟨(u0, u1), by simpa [Addr.add] using h3 0 (by omega), by simpa [Addr.add] using h3 1 (by omega)⟩)
  exact ⟨fun j => (zz j).1, fun j => (zz j).2, fun _ => ⟨a, rfl, hz⟩⟩

/-- A request's cells. -/
abbrev RQ.cells (r : RQ) : List Value := [.int .i8 r.k, .string r.p, .slice r.A2 r.n2 r.c2, .slice r.A3 r.n3 r.c3, .int .i32 r.v, .bool r.e, .bool r.q, .int .i64 r.s, .int .i32 r.t, .slice r.A9 r.n9 r.c9, .slice r.A10 r.n10 r.c10]

set_option maxHeartbeats 1000000 in
set_option maxRecDepth 20000 in
theorem req_open (d : Nat) : ∀ (f : Nat) (cs : List Value) (x : DataW H × List MemPlace), f ≤ 2 * d → DataW.trod enc Tryz.prog w 0 (fun _ => true) true f 29 cs = some x → Light Tryz.prog 29 x.1 → ∃ r : RQ, cs = r.cells ∧ Good d w r := by
  induction d with
  | zero =>
    intro f cs x hf h _
    obtain rfl : f = 0 := by omega
    simp [DataW.trod] at h
  | succ d ih =>
    intro f cs x hfd h hw
    obtain ⟨g, rfl, hlen, hf⟩ := st_open Tryz.underlying29 h hw
    rw [cells29] at hlen
    match cs, hlen with
    | [b0, b1, b2, b3, b4, b5, b6, b7, b8, b9, b10], _ =>
      obtain ⟨y0, t0, _⟩ := hf 0 _ rfl
      obtain ⟨y1, t1, _⟩ := hf 1 _ rfl
      obtain ⟨y2, t2, l2⟩ := hf 2 _ rfl
      obtain ⟨y3, t3, l3⟩ := hf 3 _ rfl
      obtain ⟨y4, t4, _⟩ := hf 4 _ rfl
      obtain ⟨y5, t5, _⟩ := hf 5 _ rfl
      obtain ⟨y6, t6, _⟩ := hf 6 _ rfl
      obtain ⟨y7, t7, _⟩ := hf 7 _ rfl
      obtain ⟨y8, t8, _⟩ := hf 8 _ rfl
      obtain ⟨y9, t9, l9⟩ := hf 9 _ rfl
      obtain ⟨y10, t10, l10⟩ := hf 10 _ rfl
      clear hf
      simp only [List.getElem_toArray, List.getElem_cons_zero, List.getElem_cons_succ, cells22, cells9, cells24, cells25, cells21, cells4, cells2, cells26, cells27, List.drop, List.take] at t0 t1 t2 t3 t4 t5 t6 t7 t8 t9 t10 l2 l3 l9 l10
      obtain ⟨u0, e0, _⟩ := DataW.trod_int Tryz.underlying22 t0
      obtain ⟨u1, e1, _⟩ := DataW.trod_string Tryz.underlying9 t1
      obtain ⟨A2, n2, c2, e2, h2, z2⟩ := nums_open Tryz.underlying24 Tryz.underlying5 cells5 t2 l2
      obtain ⟨A3, n3, c3, e3, h3, z3⟩ := trips_open t3 l3
      obtain ⟨u4, e4, _⟩ := DataW.trod_int Tryz.underlying21 t4
      obtain ⟨u5, e5, _⟩ := DataW.trod_bool Tryz.underlying4 t5
      obtain ⟨u6, e6, _⟩ := DataW.trod_bool Tryz.underlying4 t6
      obtain ⟨u7, e7, _⟩ := DataW.trod_int Tryz.underlying2 t7
      obtain ⟨u8, e8, _⟩ := DataW.trod_int Tryz.underlying21 t8
      obtain ⟨A9, n9, c9, e9, h9, z9⟩ := pairs_open t9 l9
      obtain ⟨A10, n10, c10, e10, h10, hx⟩ := sl_open Tryz.underlying27 t10 l10
      simp only [List.cons.injEq, and_true] at e0 e1 e2 e3 e4 e5 e6 e7 e8 e9 e10
      subst e0; subst e1; subst e2; subst e3; subst e4; subst e5; subst e6; subst e7; subst e8; subst e9; subst e10
      rw [bytes5] at h2
      rw [bytes29] at h10
      rw [cells29] at hx
      refine ⟨⟨u0, u1, A2, n2, c2, A3, n3, c3, u4, u5, u6, u7, u8, A9, n9, c9, A10, n10, c10⟩, rfl, z2, by simpa using h2, z3, h3, z9, h9, h10, fun hn => ?_⟩
      obtain ⟨a, g', rfl, ha, hall⟩ := hx hn
      refine ⟨a, ha, fun j hj => ?_⟩
      obtain ⟨cs', y, q1, q2, q3⟩ := hall j hj
      obtain ⟨r', rfl, hg⟩ := ih g' cs' y (by omega) q2 q3
      obtain ⟨_, _, q4⟩ := World.cells?_some q1
      refine ⟨r', ⟨by simpa [Addr.add] using q4 0 (by omega), by simpa [Addr.add] using q4 1 (by omega), by simpa [Addr.add] using q4 2 (by omega), by simpa [Addr.add] using q4 3 (by omega), by simpa [Addr.add] using q4 4 (by omega), by simpa [Addr.add] using q4 5 (by omega),
        by simpa [Addr.add] using q4 6 (by omega), by simpa [Addr.add] using q4 7 (by omega), by simpa [Addr.add] using q4 8 (by omega), by simpa [Addr.add] using q4 9 (by omega), by simpa [Addr.add] using q4 10 (by omega)⟩, hg⟩

/-- An event's cells. -/
abbrev EV.cells (x : EV) : List Value := [.int .i8 x.k, .int .i8 x.s, .int .i8 x.o, .int .i64 x.p, .int .i64 x.n, .int .u8 x.x, .slice x.AK x.nK x.cK] ++ x.r.cells ++ [.int .i8 x.t]

set_option maxHeartbeats 1000000 in
set_option maxRecDepth 20000 in
theorem event_open {f : Nat} {cs : List Value} {x : DataW H × List MemPlace} (h : DataW.trod enc Tryz.prog w 0 (fun _ => true) true f 31 cs = some x) (hw : Light Tryz.prog 31 x.1) : ∃ (d : Nat) (ev : EV), cs = ev.cells ∧ GoodE d w ev := by
  obtain ⟨g, rfl, hlen, hf⟩ := st_open Tryz.underlying31 h hw
  rw [cells31] at hlen
  match cs, hlen with
  | [b0, b1, b2, b3, b4, b5, b6, b7, b8, b9, b10, b11, b12, b13, b14, b15, b16, b17, b18], _ =>
    obtain ⟨y0, t0, _⟩ := hf 0 _ rfl
    obtain ⟨y1, t1, _⟩ := hf 1 _ rfl
    obtain ⟨y2, t2, _⟩ := hf 2 _ rfl
    obtain ⟨y3, t3, _⟩ := hf 3 _ rfl
    obtain ⟨y4, t4, _⟩ := hf 4 _ rfl
    obtain ⟨y5, t5, _⟩ := hf 5 _ rfl
    obtain ⟨y6, t6, l6⟩ := hf 6 _ rfl
    obtain ⟨y7, t7, l7⟩ := hf 7 _ rfl
    obtain ⟨y8, t8, _⟩ := hf 8 _ rfl
    clear hf
    simp only [List.getElem_toArray, List.getElem_cons_zero, List.getElem_cons_succ, cells22, cells3, cells5, cells23, cells29, List.drop, List.take] at t0 t1 t2 t3 t4 t5 t6 t7 t8 l6 l7
    obtain ⟨u0, e0, _⟩ := DataW.trod_int Tryz.underlying22 t0
    obtain ⟨u1, e1, _⟩ := DataW.trod_int Tryz.underlying22 t1
    obtain ⟨u2, e2, _⟩ := DataW.trod_int Tryz.underlying22 t2
    obtain ⟨u3, e3, _⟩ := DataW.trod_int Tryz.underlying3 t3
    obtain ⟨u4, e4, _⟩ := DataW.trod_int Tryz.underlying3 t4
    obtain ⟨u5, e5, _⟩ := DataW.trod_int Tryz.underlying5 t5
    obtain ⟨A6, n6, c6, e6, h6, z6⟩ := nums_open Tryz.underlying23 Tryz.underlying3 cells3 t6 l6
    obtain ⟨r, e7, h7⟩ := req_open g g _ _ (by omega) t7 l7
    obtain ⟨u8, e8, _⟩ := DataW.trod_int Tryz.underlying22 t8
    simp only [RQ.cells, List.cons.injEq, and_true] at e0 e1 e2 e3 e4 e5 e6 e7 e8
    obtain ⟨rfl, rfl, rfl, rfl, rfl, rfl, rfl, rfl, rfl, rfl, rfl⟩ := e7
    subst e0; subst e1; subst e2; subst e3; subst e4; subst e5; subst e6; subst e8
    rw [bytes3] at h6
    exact ⟨g, ⟨u0, u1, u2, u3, u4, u5, A6, n6, c6, r, u8⟩, rfl, z6, h6, h7⟩
end
end Go.Proofs.YtpndlkjdolbccaaGreatDoor
