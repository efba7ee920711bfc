/-
  Proved here: the start is of the program's shape. Conditions: none beyond the statement's own.
-/
import Derived.Test.YtpndlkjdolbccaaGreatDoorZ23
set_option maxRecDepth 100000
namespace Go.Proofs.YtpndlkjdolbccaaGreatDoor
open Go
/-- What 'variablesZipB' asks of one variable. -/
noncomputable def zipAt (w : World) (g : Nat) : Bool :=
  match ((begin Tryz.prog (fun _ _ => 0) default).world.heap[g]?).bind Obj.row? with
  | none => true
  | some (zero, t) =>
    match w.heap[g]? with
    | some (.cells cs t' frozen) => decide (t' = t) && decide (frozen = (0, 0)) && cs.size == zero.size && (!Tryz.prog.buildable t || match Tryz.prog.cellTypes Tryz.prog.depth t with | some ts => Lay.zipOk Tryz.prog w cs.toList ts | none => false)
    | _ => false
theorem z0 (os : Os) : (List.range' 0 3).all (zipAt (begunIn os)) = true := by kernel_rfl
theorem z3 (os : Os) : (List.range' 3 1).all (zipAt (begunIn os)) = true := by kernel_rfl
theorem z4 (os : Os) : (List.range' 4 2).all (zipAt (begunIn os)) = true := by kernel_rfl
theorem z6 (os : Os) : (List.range' 6 2).all (zipAt (begunIn os)) = true := by kernel_rfl
theorem z8 (os : Os) : (List.range' 8 2).all (zipAt (begunIn os)) = true := by kernel_rfl
theorem globalsN : Tryz.prog.globals.size = 10 := by kernel_rfl
theorem s1 (os : Os) : (begun os).variablesZipB Tryz.prog = true := by
  rw [begunIs]
  show (List.range Tryz.prog.globals.size).all (zipAt (begunIn os)) = true
  rw [globalsN, List.all_eq_true]
  intro g hg
  have h := List.mem_range.1 hg
  rcases Nat.lt_or_ge g 3 with h1 | h1
  · exact List.all_eq_true.1 (z0 os) g (List.mem_range'_1.2 ⟨by omega, by omega⟩)
  rcases Nat.lt_or_ge g 4 with h2 | h2
  · exact List.all_eq_true.1 (z3 os) g (List.mem_range'_1.2 ⟨by omega, by omega⟩)
  rcases Nat.lt_or_ge g 6 with h3 | h3
  · exact List.all_eq_true.1 (z4 os) g (List.mem_range'_1.2 ⟨by omega, by omega⟩)
  rcases Nat.lt_or_ge g 8 with h4 | h4
  · exact List.all_eq_true.1 (z6 os) g (List.mem_range'_1.2 ⟨by omega, by omega⟩)
  · exact List.all_eq_true.1 (z8 os) g (List.mem_range'_1.2 ⟨by omega, by omega⟩)
end Go.Proofs.YtpndlkjdolbccaaGreatDoor
