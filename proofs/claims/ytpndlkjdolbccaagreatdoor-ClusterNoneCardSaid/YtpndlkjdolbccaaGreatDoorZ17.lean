/-
  Proved here: ClusterNoneCardSaid: for every event and server number lagoonlaw25.ClusterNone returns true and its arguments read as they did, the listed variables tied to the program's text. Conditions: none beyond the statement's own.
-/
import Derived.Test.YtpndlkjdolbccaaGreatDoorZ15
import Derived.Test.YtpndlkjdolbccaaGreatDoorCards
import Derived.Test.YtpndlkjdolbccaaGreatDoorZ16
import Derived.Test.YtpndlkjdolbccaaGreatDoorZ19
namespace Go.Proofs.YtpndlkjdolbccaaGreatDoor
open Go

theorem pin1 : Tryz.pinned.checked.prog.pinnedFits "unicode/utf8.first" = true := by kernel_rfl
theorem noOwn : Tryz.pinned.checked.prog.headLifts.contains "ownunsafe" = false := by kernel_rfl
theorem fits9 : Tryz.pinned.checked.prog.listedFits Rows.clusterNoneRow.laid = true := by
  unfold Program.listedFits
  rw [noOwn]
  kernel_rfl
theorem row_tie : Rows.clusterNoneRow.laidByTextAt .later Tryz.pinned [.data, .data, .data, .data, .sentinel, .sentinel, .data, .data, .pinned] true :=
  OpenClaim.laidByTextAt_pinned rfl rfl seatTie rfl rfl rfl rfl (fun y hy _e => by
    simp only [Rows.clusterNoneRow, List.zip_cons_cons, List.zip_nil_right, List.mem_cons, List.mem_nil_iff, or_false] at hy
    rcases hy with rfl | rfl | rfl | rfl | rfl | rfl | rfl | rfl | rfl
    · cases _e
    · cases _e
    · cases _e
    · cases _e
    · cases _e
    · cases _e
    · cases _e
    · cases _e
    · exact ⟨pin1, by kernel_rfl⟩) fits9

/-- 'Claim7.holds_tied_plain_at' (Derived/SevenTiedAt.lean) for a card that says 'goes'. -/
theorem tied_goes (Lk : Looks) {p : Pinned} {s : OpenSpec} {c : OpenClaim} (kinds : List LaidKind) (tests : Bool) (har : Bool × String) (lk : Bool)
    (hc : c.holds p s) (hw : c.wfByText s = true) (htie : c.laidByTextAt Lk p kinds tests)
    (hst : c.start = .entering) (hnb : c.noBlocks = false ∧ c.again = false) (hm : p.checked.prog.mainIs = some (har.1, har.2.toList)) (hn : (!har.1 && har.2.isEmpty && !lk) = false)
    (hl : ∀ f fn, p.checked.prog.funcNamed c.func = some f → p.checked.prog.funcs[f]? = some fn → lk = p.checked.prog.looks [] ∧ ∀ (j : Nat) t, fn.params[j]? = some t → p.checked.prog.wantsStandIn t = false)
    (hg : true = c.goesBy p.checked.prog) :
    Claim7.holds p (.plain s) { stood := { row := c, standIns := [], harness := har, looks := lk }, kinds := [], alts := [], goes := true, laidByText := true, laidKinds := kinds, laidTests := tests, laidLooks := Lk } := by
  have h6 : ∀ r : OpenClaim, Claim7.isSixth { stood := { row := r, standIns := [], harness := har, looks := lk }, kinds := [] } = false := fun r => by simpa [Claim7.isSixth] using hn
  exact ⟨Claim7.tied_new_at Lk kinds tests (Claim7.new_of_sixth hc har lk hst hnb hm (h6 c) hl) hw, (fun D hD => by cases hD), htie, (fun h => by cases h), hg⟩

theorem wfIs : Rows.clusterNoneRow.wfByText (OpenSpec.ofChange Rows.clusterNoneSpec) = true := by kernel_rfl
theorem mainIs : Tryz.prog.mainIs = some (true, "0dadb67aaca02871f1f46c2f9d2b653bcbd98f56bb6240a35bec744f94ffc2b9".toList) := by kernel_rfl
theorem looksIs : true = Tryz.prog.looks [] := by kernel_rfl
theorem standIns : ([31, 22].all fun u => !Tryz.prog.wantsStandIn u) = true := by kernel_rfl

theorem card_holds : Rows.ClusterNoneCardSaid :=
  tied_goes .later [.data, .data, .data, .data, .sentinel, .sentinel, .data, .data, .pinned] true (true, "0dadb67aaca02871f1f46c2f9d2b653bcbd98f56bb6240a35bec744f94ffc2b9") true
    clusterNone_holds wfIs row_tie rfl ⟨rfl, rfl⟩ mainIs rfl
    (fun f fn hf hfn => by
      obtain rfl : f = 3 := Option.some.inj (named3.symm.trans hf) |>.symm
      obtain rfl : fn = Tryz.f3 := (Option.some.inj (Tryz.func3.symm.trans hfn)).symm
      exact ⟨looksIs, fun j t ht => by
        rw [Tryz.params3] at ht
        have hm : t ∈ [31, 22] := by simpa using Array.mem_of_getElem? ht
        exact (show Tryz.prog.wantsStandIn t = false by simpa using List.all_eq_true.1 standIns t hm)⟩)
    goesIs
#print axioms card_holds
end Go.Proofs.YtpndlkjdolbccaaGreatDoor
