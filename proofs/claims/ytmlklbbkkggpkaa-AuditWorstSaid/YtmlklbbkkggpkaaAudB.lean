/- Contracts of the orders on findings (layer 25). -/
import Derived.Test.YtmlklbbkkggpkaaAudA
namespace Go.Proofs.Ytmlklbbkkggpkaa.aud
open Go.RowKit kit
set_option linter.unusedVariables false

def orZ : List Int → Int
  | [] => 0
  | x :: r => if x = 0 then orZ r else x

theorem orZ_drop (zs : List Int) (k : Nat) (hk : k < zs.length) : orZ (zs.drop k) = if zs.getD k 0 = 0 then orZ (zs.drop (k + 1)) else zs.getD k 0 := by
  rw [List.drop_eq_getElem_cons hk]
  simp [orZ, List.getD, hk]

set_option maxHeartbeats 400000 in
theorem or_any (b : Nat) (zs : List Int) (n c : Nat) (w : World) (hn : zs.length = n) (hm : n ≤ 9223372036854775807)
    (hc : ∀ k, k < n → w.cell? ⟨b, k, none⟩ = some (.int .i64 (zs.getD k 0))) :
    Calls Try.prog 23 #[.slice (some ⟨b, 0, none⟩) n c] w fun e w' => e = .returned (.int .i64 (orZ zs)) ∧ w' = w := by
  have HN := Lib.hid hn; clear hn
  have HC := Lib.hid hc; clear hc
  go_enter Try.func23, Try.ntmps23
  go_wp2
  go_loop [5, 8] (fun _ i => ∃ k : Nat, k ≤ n ∧ i = .int .i64 k ∧ orZ zs = orZ (zs.drop k)) (fun _ i => n - (intOf i).toNat)
  case atStart => exact ⟨0, by omega, rfl, rfl⟩
  case round =>
    obtain ⟨k, hk, rfl, hz⟩ := hrel
    have HZ := Lib.hid hz; clear hz
    by_cases hlt : k < n
    · have hcell := HC.out k hlt
      by_cases h0 : zs.getD k 0 = 0
      · rw [h0] at hcell
        go_wp2
        go_round
        case rel => exact ⟨k + 1, by omega, by go_num, by rw [HZ.out, orZ_drop zs k (by rw [HN.out]; exact hlt), if_pos h0]⟩
        case measure => simp [intOf]; omega
      · have HF : Hid (orZ zs = zs.getD k 0) := Lib.hid (by rw [HZ.out, orZ_drop zs k (by rw [HN.out]; exact hlt), if_neg h0])
        generalize zs.getD k 0 = z at *
        have hb : (z != 0) = true := by simpa using h0
        clear h0
        go_wp2
        go_ret
        exact ⟨congrArg (fun z => Ending.returned (.int .i64 z)) HF.out.symm, rfl⟩
    · have hkn : k = n := by omega
      subst hkn
      have HF : Hid (orZ zs = 0) := Lib.hid (by rw [HZ.out, List.drop_of_length_le (by rw [HN.out]; omega)]; rfl)
      go_wp2
      go_ret
      exact ⟨congrArg (fun z => Ending.returned (.int .i64 z)) HF.out.symm, rfl⟩
end Go.Proofs.Ytmlklbbkkggpkaa.aud
