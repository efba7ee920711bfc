/-
  Proved here: the program's tie for the listed variables, in pieces. Conditions: none beyond the statement's own.
-/
import Derived.Test.YtpndlkjdolbccaaGreatDoorRows
import Derived.LaidByTextLater
import Derived.SevenTiedAt
import Derived.LaidSub
import Derived.LaidOnce
namespace Go.Proofs.YtpndlkjdolbccaaGreatDoor
open Go
set_option maxRecDepth 100000
abbrev listed : List (String × DataW Unit) := [("math/bits.deBruijn32tab", Rows.laid_math_bits_deBruijn32tab), ("math/bits.deBruijn64tab", Rows.laid_math_bits_deBruijn64tab), ("internal/strconv.uint64pow10", Rows.laid_internal_strconv_uint64pow10), ("unicode/utf8.acceptRanges", Rows.laid_unicode_utf8_acceptRanges), ("strconv.ErrRange", Rows.laid_strconv_ErrRange), ("strconv.ErrSyntax", Rows.laid_strconv_ErrSyntax), ("lagoon/txn.names", Rows.laid_lagoon_txn_names), ("lagoon/packet.named", Rows.laid_lagoon_packet_named)]
abbrev listedKinds : List LaidKind := [.data, .data, .data, .data, .sentinel, .sentinel, .data, .data]
theorem k1 : Tryz.prog.worded (varsWordLater true) = true := by kernel_rfl
theorem k2 : Tryz.prog.worded (varsWordLater !true) = false := by kernel_rfl
theorem k3 : Tryz.prog.worded rootWordLater = true := by kernel_rfl
theorem k4 : listed.map (fun x => Tryz.prog.kindOfLater x.1) = listedKinds.map some := by kernel_rfl
theorem doorIs : Tryz.prog.funcNamed "gosem.cut.vars" = some 797 := by kernel_rfl
theorem k6 : varsNamedLaterB Tryz.prog 797 listed = true := by kernel_rfl
theorem r1 : ∀ os tape, varsDone Tryz.prog 82 797 os tape = true := fun os tape => by kernel_rfl
theorem h1 : ∀ os tape, (DataW.laidRun Tryz.prog (varsWorld Tryz.prog 82 797 os tape).memory 8 (listed.map (·.1))).map (·.1) = some listed := fun os tape => by kernel_rfl
theorem h2 : ∀ os tape, (DataW.laidRun Tryz.prog (varsWorld Tryz.prog 82 797 os tape).memory 8 (listed.map (·.1))).map (fun x => nodupBits 65 x.2 0 && laidRowsB Tryz.prog (varsWorld Tryz.prog 82 797 os tape).memory x.2) = some true := fun os tape => by kernel_rfl
theorem noHandle : (listed.all fun x => x.2.handleName?.isNone) = true := by kernel_rfl
theorem h3 : ∀ os tape, (DataW.laidRun Tryz.prog (varsWorld Tryz.prog 82 797 os tape).memory 8 (listed.map (·.1))).map (fun x => decide x.2.Nodup && laidRowsB Tryz.prog (varsWorld Tryz.prog 82 797 os tape).memory x.2) = some true := fun os tape => by
  have h := h2 os tape
  revert h
  generalize DataW.laidRun Tryz.prog (varsWorld Tryz.prog 82 797 os tape).memory 8 (listed.map (·.1)) = y
  intro h
  cases y with
  | none => cases h
  | some x =>
    have h' : (nodupBits 65 x.2 0 && laidRowsB Tryz.prog (varsWorld Tryz.prog 82 797 os tape).memory x.2) = true := Option.some.inj h
    rw [Bool.and_eq_true] at h'
    have hd : decide x.2.Nodup = true := decide_eq_true (nodupBits_sound h'.1).1
    show some (decide x.2.Nodup && laidRowsB Tryz.prog (varsWorld Tryz.prog 82 797 os tape).memory x.2) = some true
    rw [hd, h'.2]
    rfl
theorem seatTie : Tryz.prog.laidByTextLater listed listedKinds true :=
  Program.laidByTextLater_of_run 797 82 8 k1 k2 k3 k4 doorIs k6 r1 h1 h3 noHandle
end Go.Proofs.YtpndlkjdolbccaaGreatDoor
