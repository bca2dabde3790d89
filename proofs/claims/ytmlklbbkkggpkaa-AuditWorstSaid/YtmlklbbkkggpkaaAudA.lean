/- Contracts of the small functions that order findings (layer 25). No condition beyond the values' kinds. -/
import Derived.Test.YtmlklbbkkggpkaaRows
import Derived.Test.YtmlklbbkkggpkaaShelf
import Derived.Test.YtmlklbbkkggpkaaKit
namespace Go.Proofs.Ytmlklbbkkggpkaa.aud
open Go.RowKit kit
set_option linter.unusedVariables false

/-- A finding as plain data. -/
structure Fd where
  key : ByteArray
  kind : Int
  epoch : Int
  count : Int
  whole : Int
  stale : Int
  spoilt : Int
  silent : Int

def Fd.val (a : Fd) : Value := .agg #[.string a.key, .int .i64 a.kind, .int .i64 a.epoch, .int .i64 a.count, .int .i64 a.whole, .int .i64 a.stale, .int .i64 a.spoilt, .int .i64 a.silent]

def rankZ (k : Int) : Int := if k = 2 then 0 else if k = 1 then 1 else 2
theorem rank_any (k : Int) (w : World) : Calls Try.prog 25 #[.int .i64 k] w fun e w' => e = .returned (.int .i64 (rankZ k)) ∧ w' = w := by
  unfold rankZ
  by_cases h2 : k = 2
  · subst h2
    go_enter Try.func25, Try.ntmps25
    go_wp2
    go_ret
    exact ⟨rfl, rfl⟩
  · by_cases h1 : k = 1
    · subst h1
      go_enter Try.func25, Try.ntmps25
      go_wp2
      go_ret
      exact ⟨rfl, rfl⟩
    · have e2 : (k == 2) = false := by simpa using h2
      have e1 : (k == 1) = false := by simpa using h1
      rw [if_neg h2, if_neg h1]
      go_enter Try.func25, Try.ntmps25
      go_wp2
      go_ret
      exact ⟨rfl, rfl⟩

def rankR (k : Int) : Int := if k = 2 then 2 else if k = 1 then 1 else 0
theorem rankR_any (k : Int) (w : World) : Calls Try.prog 22 #[.int .i64 k] w fun e w' => e = .returned (.int .i64 (rankR k)) ∧ w' = w := by
  unfold rankR
  by_cases h2 : k = 2
  · subst h2
    go_enter Try.func22, Try.ntmps22
    go_wp2
    go_ret
    exact ⟨rfl, rfl⟩
  · by_cases h1 : k = 1
    · subst h1
      go_enter Try.func22, Try.ntmps22
      go_wp2
      go_ret
      exact ⟨rfl, rfl⟩
    · have e2 : (k == 2) = false := by simpa using h2
      have e1 : (k == 1) = false := by simpa using h1
      rw [if_neg h2, if_neg h1]
      go_enter Try.func22, Try.ntmps22
      go_wp2
      go_ret
      exact ⟨rfl, rfl⟩
end Go.Proofs.Ytmlklbbkkggpkaa.aud
