/-
  Proved here: closed facts of the row: the program is laid out. Conditions: none beyond the statement's own.
-/
import Derived.Test.YtpndlkjdolbccaaGreatDoorZ18
import GoSem.ClaimGoes
set_option maxRecDepth 100000
namespace Go.Proofs.YtpndlkjdolbccaaGreatDoor
open Go
theorem typesN : Tryz.prog.types.size = 836 := by kernel_rfl
theorem laidG : Tryz.prog.globals.all (fun g => decide (g.type < Tryz.prog.types.size)) = true := by kernel_rfl
theorem laidF : Tryz.prog.funcs.all (fun f => f.params.all fun t => decide (t < Tryz.prog.types.size)) = true := by kernel_rfl
theorem laidA : (List.range' 0 280).all (rowFine Tryz.prog) = true := by kernel_rfl
theorem laidB : (List.range' 280 280).all (rowFine Tryz.prog) = true := by kernel_rfl
theorem laidC : (List.range' 560 276).all (rowFine Tryz.prog) = true := by kernel_rfl
theorem laidT : (List.range Tryz.prog.types.size).all (rowFine Tryz.prog) = true := by
  rw [typesN, List.all_eq_true]
  intro t ht
  have h := List.mem_range.1 ht
  rcases Nat.lt_or_ge t 280 with h1 | h1
  · exact List.all_eq_true.1 laidA t (List.mem_range'_1.2 ⟨by omega, by omega⟩)
  · rcases Nat.lt_or_ge t 560 with h2 | h2
    · exact List.all_eq_true.1 laidB t (List.mem_range'_1.2 ⟨by omega, by omega⟩)
    · exact List.all_eq_true.1 laidC t (List.mem_range'_1.2 ⟨by omega, by omega⟩)
theorem laidOut : laidOutB Tryz.prog = true := by
  unfold laidOutB
  rw [laidT, laidG, laidF]
  rfl
theorem j2 : (laidOutB Tryz.prog : Bool) = true := laidOut
theorem j3 : (mapsRowed Tryz.prog : Bool) = true := by kernel_rfl
end Go.Proofs.YtpndlkjdolbccaaGreatDoor
