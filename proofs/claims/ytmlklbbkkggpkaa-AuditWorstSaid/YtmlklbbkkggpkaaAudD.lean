/- Contracts of the orders on findings (layer 25): the document's Worse. -/
import Derived.Test.YtmlklbbkkggpkaaAudC
namespace Go.Proofs.Ytmlklbbkkggpkaa.aud
open Go.RowKit kit
set_option linter.unusedVariables false

def worseR (a b : Fd) : Bool :=
  if rankR a.kind = rankR b.kind then
    if a.whole = b.whole then
      if sumZ a = sumZ b then Op.bytesLess a.key.toList b.key.toList
      else decide (sumZ b < sumZ a)
    else decide (a.whole < b.whole)
  else decide (rankR b.kind < rankR a.kind)

theorem bw {w : World} (o o' : Obj) : Below w.heap.size w ((w.alloc o).alloc o') := (((Below.refl _ _).alloc (Nat.le_refl _) _).alloc (by simp) _)
theorem bwN {w : World} (o o' : Obj) (n : Nat) : Below w.heap.size w (((w.alloc o).alloc o').drewN n) := ⟨rfl, rfl, rfl, (bw o o').size, (bw o o').block⟩

set_option maxHeartbeats 1000000 in
theorem worseR_any (a b : Fd) (w : World) : Calls Try.prog 14 #[a.val, b.val] w fun e w' => e = .returned (.bool (worseR a b)) ∧ Below w.heap.size w w' := by
  unfold Fd.val
  by_cases h1 : rankR a.kind = rankR b.kind
  · have e1 : (rankR a.kind != rankR b.kind) = false := by simpa using h1
    by_cases h2 : a.whole = b.whole
    · have e2 : (a.whole != b.whole) = false := by simpa using h2
      by_cases h3 : sumZ a = sumZ b
      · have HF : Hid (worseR a b = Op.bytesLess a.key.toList b.key.toList) := Lib.hid (by unfold worseR; rw [if_pos h1, if_pos h2, if_pos h3])
        have e3 : (wrap64 (wrap64 (a.stale + a.spoilt) + a.silent) != wrap64 (wrap64 (b.stale + b.spoilt) + b.silent)) = false := by
          have := h3; unfold sumZ at this; simpa using this
        clear h1 h2 h3
        go_enter Try.func14, Try.ntmps14
        go_wp2
        go_quiet ((go_at_call 22; exact Calls.quiet_of_same (rankR_any _ _)))
        go_wp2
        go_ret
        exact ⟨congrArg (fun z => Ending.returned (.bool z)) HF.out.symm, bwN _ _ _⟩
      · have HF : Hid (worseR a b = decide (sumZ b < sumZ a)) := Lib.hid (by unfold worseR; rw [if_pos h1, if_pos h2, if_neg h3])
        have e3 : (wrap64 (wrap64 (a.stale + a.spoilt) + a.silent) != wrap64 (wrap64 (b.stale + b.spoilt) + b.silent)) = true := by
          have := h3; unfold sumZ at this; simpa using this
        clear h1 h2 h3
        go_enter Try.func14, Try.ntmps14
        go_wp2
        go_quiet ((go_at_call 22; exact Calls.quiet_of_same (rankR_any _ _)))
        go_wp2
        go_ret
        exact ⟨congrArg (fun z => Ending.returned (.bool z)) HF.out.symm, bwN _ _ _⟩
    · have HF : Hid (worseR a b = decide (a.whole < b.whole)) := Lib.hid (by unfold worseR; rw [if_pos h1, if_neg h2])
      have e2 : (a.whole != b.whole) = true := by simpa using h2
      clear h1 h2
      go_enter Try.func14, Try.ntmps14
      go_wp2
      go_quiet ((go_at_call 22; exact Calls.quiet_of_same (rankR_any _ _)))
      go_wp2
      go_ret
      exact ⟨congrArg (fun z => Ending.returned (.bool z)) HF.out.symm, bwN _ _ _⟩
  · have HF : Hid (worseR a b = decide (rankR b.kind < rankR a.kind)) := Lib.hid (by unfold worseR; rw [if_neg h1])
    have e1 : (rankR a.kind != rankR b.kind) = true := by simpa using h1
    clear h1
    go_enter Try.func14, Try.ntmps14
    go_wp2
    go_quiet ((go_at_call 22; exact Calls.quiet_of_same (rankR_any _ _)))
    go_wp2
    go_quiet ((go_at_call 22; exact quiet_add_same (rankR_any _ _)))
    go_wp2
    go_ret
    exact ⟨congrArg (fun z => Ending.returned (.bool z)) HF.out.symm, below_drewN (bwN _ _ _) _⟩
end Go.Proofs.Ytmlklbbkkggpkaa.aud
