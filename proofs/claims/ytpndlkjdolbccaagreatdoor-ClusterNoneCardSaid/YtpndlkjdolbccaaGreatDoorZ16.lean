/-
  Proved here: the program's tie for the listed variables, in pieces. Conditions: none beyond the statement's own.
-/
import Derived.Test.YtpndlkjdolbccaaGreatDoorRows
import Derived.LaidByTextLater
import Derived.SevenTiedAt
import Derived.LaidSub
import Derived.LaidOnce
namespace Go.Proofs.YtpndlkjdolbccaaGreatDoor
open Go
set_option maxRecDepth 100000
abbrev listed : List (String × DataW Unit) := [("math/bits.deBruijn32tab", Rows.laid_math_bits_deBruijn32tab), ("math/bits.deBruijn64tab", Rows.laid_math_bits_deBruijn64tab), ("internal/strconv.uint64pow10", Rows.laid_internal_strconv_uint64pow10), ("unicode/utf8.acceptRanges", Rows.laid_unicode_utf8_acceptRanges), ("strconv.ErrRange", Rows.laid_strconv_ErrRange), ("strconv.ErrSyntax", Rows.laid_strconv_ErrSyntax), ("lagoon/txn.names", Rows.laid_lagoon_txn_names), ("lagoon/packet.named", Rows.laid_lagoon_packet_named)]
abbrev listedKinds : List LaidKind := [.data, .data, .data, .data, .sentinel, .sentinel, .data, .data]
theorem k1 : Tryz.prog.worded (varsWordLater true) = true := by kernel_rfl
theorem k2 : Tryz.prog.worded (varsWordLater !true) = false := by kernel_rfl
theorem k3 : Tryz.prog.worded rootWordLater = true := by kernel_rfl
theorem k4 : listed.map (fun x => Tryz.prog.kindOfLater x.1) = listedKinds.map some := by kernel_rfl
theorem k5 : (Tryz.prog.funcNamed "gosem.cut.vars").isSome = true := by kernel_rfl
theorem varsIdIs : varsId Tryz.prog = 797 := by kernel_rfl
theorem k6 : varsNamedLaterB Tryz.prog (varsId Tryz.prog) listed = true := by
  rw [varsIdIs]
  kernel_rfl
theorem k7 : ∀ os tape, doorLeaves Tryz.prog 82 8 65 listed os tape = some (listed.filter fun x => x.2.handleName?.isNone, (funcsListed listed).map (·.2.funcsOut)) := fun os tape => by
  unfold doorLeaves
  rw [varsIdIs]
  kernel_rfl
end Go.Proofs.YtpndlkjdolbccaaGreatDoor
