/- Contracts of the small functions under Quote: wire.plain, blank, printable, the document's letter. -/
import Derived.Test.YtmlklbbkkggpkaaDoorWordH
import Derived.Test.YtmlklbbkkggpkaaDoorKit
import Derived.Test.YtmlklbbkkggpkaaDoorProg
import Derived.Lib.Strings
import Derived.Lib.IndexBytes
import Derived.Laws.Concat
import Derived.Laws.DeepStrings4
namespace Go.Proofs.YtmlklbbkkggpkaaDoor.show_
open Go.RowKit kit
set_option linter.unusedVariables false

theorem bat_get (s : ByteArray) (i : Nat) (h : i < s.size) : bat s.data.toList i = (s[i]'h).toNat := by
  unfold bat
  rw [Lib.data_getElem? s i h]
  rfl

theorem wplain_any (v : Nat) (w : World) : Calls Tryd.prog 47 #[.int .i32 v] w fun e w' => e = .returned (.bool (plainN v)) ∧ w' = w := by
  go_enter Tryd.func47, Tryd.ntmps47
  by_cases h1 : 32 ≤ v
  · by_cases h2 : v ≤ 126
    · go_wp2
      go_ret
      exact ⟨by simp [plainN, h1, h2], rfl⟩
    · by_cases h3 : 160 ≤ v
      · go_wp2
        go_ret
        refine ⟨?_, rfl⟩
        simp [plainN, h3]
        omega
      · go_wp2
        go_ret
        refine ⟨?_, rfl⟩
        simp [plainN, h2, h3]
        omega
  · have h3 : ¬ 160 ≤ v := by omega
    go_wp2
    go_ret
    refine ⟨?_, rfl⟩
    simp [plainN, h1, h3]
    omega

theorem blank_any (v : Nat) (w : World) : Calls Tryd.prog 7 #[.int .u8 v] w fun e w' => e = .returned (.bool (blankN v)) ∧ w' = w := by
  go_enter Tryd.func7, Tryd.ntmps7
  by_cases h1 : v = 32
  · subst h1
    go_wp2
    go_ret
    exact ⟨by simp [blankN], rfl⟩
  · by_cases h2 : v = 9
    · subst h2
      go_wp2
      go_ret
      exact ⟨by simp [blankN], rfl⟩
    · have e1 : ((v : Int) == 32) = false := by simp; omega
      have e2 : ((v : Int) == 9) = false := by simp; omega
      go_wp2
      go_ret
      exact ⟨by simp [blankN, h1, h2], rfl⟩

theorem printable_any (s : ByteArray) (hs : s.size ≤ 4611686018427387904) (w : World) : Calls Tryd.prog 22 #[.string s] w fun e w' => e = .returned (.bool (allSeen s.data.toList)) ∧ w' = w := by
  have HL := Lib.hid (Lib.size_eq s)
  go_enter Tryd.func22, Tryd.ntmps22
  go_wp2
  go_loop [2, 3] (fun _ i => ∃ k : Nat, k ≤ s.size ∧ i = .int .i64 k ∧ allSeen s.data.toList = allSeen (s.data.toList.drop k)) (fun _ i => s.size - (intOf i).toNat)
  case atStart => exact ⟨0, by omega, rfl, rfl⟩
  case round =>
    obtain ⟨k, hk, rfl, hz⟩ := hrel
    have HZ := Lib.hid hz; clear hz
    by_cases hlt : k < s.size
    · have HB := Lib.hid (Lib.data_getElem? s k hlt)
      obtain ⟨c, hc⟩ : ∃ c : Nat, (s[k]'hlt).toNat = c := ⟨_, rfl⟩
      by_cases h1 : c < 33
      · go_wp2
        go_ret
        refine ⟨?_, rfl⟩
        have : seen s[k] = false := by simp [seen, hc, h1]
        show Ending.returned (.bool false) = Ending.returned (.bool (allSeen s.data.toList))
        rw [HZ.out, all_drop _ _ _ HB.out, this]
        rfl
      · by_cases h2 : 126 < c
        · go_wp2
          go_ret
          refine ⟨?_, rfl⟩
          have : seen s[k] = false := by simp [seen, hc, h2]
          show Ending.returned (.bool false) = Ending.returned (.bool (allSeen s.data.toList))
          rw [HZ.out, all_drop _ _ _ HB.out, this]
          rfl
        · go_wp2
          go_round
          case rel =>
            refine ⟨k + 1, by omega, by go_num, ?_⟩
            have : seen s[k] = true := by simp [seen, hc]; omega
            rw [HZ.out, all_drop _ _ _ HB.out, this]
            simp
          case measure => simp [intOf]; omega
    · have hkn : k = s.size := by omega
      subst hkn
      go_wp2
      go_ret
      refine ⟨?_, rfl⟩
      show Ending.returned (.bool true) = Ending.returned (.bool (allSeen s.data.toList))
      rw [HZ.out, List.drop_of_length_le (by rw [← HL.out]; omega)]
      rfl
end Go.Proofs.YtmlklbbkkggpkaaDoor.show_
