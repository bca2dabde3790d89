/- Contract: the document's plain word. -/
import Derived.Test.YtmlklbbkkggpkaaDoorShowA
namespace Go.Proofs.YtmlklbbkkggpkaaDoor.show_
open Go.RowKit kit
set_option linter.unusedVariables false

def plainV (p : List UInt8 × Nat) : Value := .tuple #[.string ⟨p.1.toArray⟩, .int .i64 p.2]

set_option maxRecDepth 1000000 in
set_option maxHeartbeats 2000000 in
theorem rplain_any (s : ByteArray) (a : Nat) (ha : a ≤ s.size) (hs : s.size ≤ 4611686018427387904) (w : World) :
    Calls Tryd.prog 8 #[.string s, .int .i64 a] w fun e w' => e = .returned (plainV (plainR (s.data.toList.drop a))) ∧ w' = w := by
  have HL := Lib.hid (Lib.size_eq s)
  obtain ⟨R, hR⟩ : ∃ R, R = s.data.toList.drop a := ⟨_, rfl⟩
  rw [← hR]
  have HR := Lib.hid hR; clear hR
  have hto : a + (headW R).length ≤ s.size := by
    have := headW_len R
    rw [HR.out, List.length_drop, ← HL.out] at this
    rw [HR.out]
    omega
  obtain ⟨to, hto2⟩ : ∃ to, to = a + (headW R).length := ⟨_, rfl⟩
  have HT := Lib.hid hto2
  rw [← hto2] at hto
  have hat : a ≤ to := by omega
  clear hto2
  have HG : Hid (∀ (k : Nat) (_ : a ≤ k) (_ : k < to) (h : k < s.size), (headW R)[k - a]? = some (s[k]'h)) := by
    refine Lib.hid fun k h1 h2 h => ?_
    rw [HR.out, headW_get _ a k h1 (by rw [← HR.out, ← HT.out]; exact h2)]
    exact Lib.data_getElem? s k h
  have cB : ∀ (v : Nat) (wx : World), Calls Tryd.prog 7 #[.int .u8 (v : Int)] wx fun e w' => e = .returned (.bool (blankN v)) ∧ wx = w' := fun v wx => (blank_any v wx).mono fun _ _ h => ⟨h.1, h.2.symm⟩
  go_enter Tryd.func8, Tryd.ntmps8
  go_wp2
  go_loop [6] (fun i => ∃ k : Nat, a ≤ k ∧ k ≤ s.size ∧ i = .int .i64 k ∧ to = k + (headW (s.data.toList.drop k)).length) (fun i => s.size - (intOf i).toNat)
  case atStart => exact ⟨a, by omega, ha, rfl, by rw [← HR.out]; exact HT.out⟩
  case round =>
    obtain ⟨k, hak, hk, rfl, hz⟩ := hrel
    have HZ := Lib.hid hz; clear hz
    by_cases hgo : k < s.size ∧ ∃ h : k < s.size, nb (s[k]'h) = true
    · obtain ⟨hlt, _, hnb⟩ := hgo
      have HB := Lib.hid (headW_go _ k _ (Lib.data_getElem? s k hlt) hnb)
      have hbl : blankN (s[k]'hlt).toNat = false := by simpa [nb] using hnb
      clear hnb
      go_wp2_with (go_at_call 7; refine (cB _ _).mono ?_; rintro e w' ⟨rfl, rfl⟩)
      go_round
      case rel => exact ⟨k + 1, by omega, by omega, by go_num, by rw [HZ.out, HB.out, List.length_cons]; omega⟩
      case measure => simp [intOf]; omega
    · have hto3 : k = to := by
        have : headW (s.data.toList.drop k) = [] := by
          refine headW_stop _ fun h => hgo ?_
          rw [List.getElem?_drop, Nat.add_zero] at h
          by_cases hlt : k < s.size
          · rw [Lib.data_getElem? s k hlt] at h
            exact ⟨hlt, hlt, by simpa using h⟩
          · rw [List.getElem?_eq_none (by rw [← HL.out]; omega)] at h
            cases h
        have h := HZ.out
        rw [this] at h
        simpa using h.symm
      have hbl : ∀ hlt : k < s.size, blankN (s[k]'hlt).toNat = true := fun hlt => by
        cases hb : blankN (s[k]'hlt).toNat
        · exact absurd ⟨hlt, hlt, by simp [nb, hb]⟩ hgo
        · rfl
      clear hgo HZ
      subst hto3
      by_cases hlt : k < s.size
      · have hbl2 := hbl hlt
        go_wp2_with (go_at_call 7; refine (cB _ _).mono ?_; rintro e w' ⟨rfl, rfl⟩)
        go_loop [4, 5, 7] (fun _ _ i => ∃ j : Nat, a ≤ j ∧ j ≤ k ∧ i = .int .i64 j ∧ hasQ (headW R) = hasQ ((headW R).drop (j - a))) (fun _ _ i => k - (intOf i).toNat)
        case atStart => exact ⟨a, by omega, by omega, rfl, by rw [Nat.sub_self]; rfl⟩
        case round =>
          obtain ⟨j, haj, hj, rfl, hq⟩ := hrel
          have HQ := Lib.hid hq; clear hq
          by_cases hjk : j < k
          · have hjs : j < s.size := by omega
            have HB := Lib.hid (hasQ_drop _ _ _ (HG.out j haj hjk hjs))
            obtain ⟨b, hb⟩ : ∃ b, s[j]'hjs = b := ⟨_, rfl⟩
            by_cases h34 : b.toNat = 34
            · go_wp2
              go_ret2
              refine ⟨?_, rfl⟩
              have e : b = 34 := UInt8.toNat_inj.1 h34
              rw [plain_q (by rw [HQ.out, HB.out, hb, e]; rfl)]
              rfl
            · have e34 : ((b.toNat : Int) == 34) = false := by simp; omega
              go_wp2
              go_round
              case rel =>
                refine ⟨j + 1, by omega, by omega, by go_num, ?_⟩
                have e : (b == 34) = false := by
                  cases hbb : b == 34
                  · rfl
                  · have := eq_of_beq hbb
                    subst this
                    exact absurd rfl h34
                rw [HQ.out, HB.out, hb, e, show j + 1 - a = j - a + 1 by omega]
                rfl
              case measure => simp [intOf]; omega
          · have hjk2 : j = k := by omega
            have HN : Hid (hasQ (headW R) = false) := Lib.hid (by rw [HQ.out, List.drop_of_length_le (by have := HT.out; omega)]; rfl)
            clear HQ
            subst hjk2
            go_wp2
            go_loop [4, 5, 8] (fun _ _ i => ∃ m : Nat, a ≤ m ∧ m ≤ j ∧ i = .int .i64 m ∧ allSeen (headW R) = allSeen ((headW R).drop (m - a))) (fun _ _ i => j - (intOf i).toNat)
            case atStart => exact ⟨a, by omega, by omega, rfl, by rw [Nat.sub_self]; rfl⟩
            case round =>
              obtain ⟨m, ham, hm, rfl, hq⟩ := hrel
              have HQ := Lib.hid hq; clear hq
              by_cases hmj : m < j
              · have hms : m < s.size := by omega
                have HB := Lib.hid (seen_drop _ _ _ (HG.out m ham hmj hms))
                obtain ⟨b, hb⟩ : ∃ b, s[m]'hms = b := ⟨_, rfl⟩
                obtain ⟨c, hc⟩ : ∃ c, b.toNat = c := ⟨_, rfl⟩
                by_cases h1 : c < 33
                · go_wp2
                  go_ret2
                  refine ⟨?_, rfl⟩
                  have e : seen b = false := by simp [seen, hc, h1]
                  rw [plain_w HN.out (by rw [HQ.out, HB.out, hb, e]; rfl)]
                  rfl
                · by_cases h2 : 126 < c
                  · go_wp2
                    go_ret2
                    refine ⟨?_, rfl⟩
                    have e : seen b = false := by simp [seen, hc, h2]
                    rw [plain_w HN.out (by rw [HQ.out, HB.out, hb, e]; rfl)]
                    rfl
                  · go_wp2
                    go_round
                    case rel =>
                      refine ⟨m + 1, by omega, by omega, by go_num, ?_⟩
                      have e : seen b = true := by simp [seen, hc]; omega
                      rw [HQ.out, HB.out, hb, e, show m + 1 - a = m - a + 1 by omega]
                      rfl
                    case measure => simp [intOf]; omega
              · have hmj2 : m = j := by omega
                have HS : Hid (allSeen (headW R) = true) := Lib.hid (by rw [HQ.out, List.drop_of_length_le (by have := HT.out; omega)]; rfl)
                clear HQ
                subst hmj2
                go_wp2
                go_ret2
                refine ⟨?_, rfl⟩
                rw [plain_ok HN.out HS.out]
                have e : s.extract a m = ⟨(headW R).toArray⟩ := by
                  have h2 := headW_take R
                  rw [Lib.extract_eq, ← HR.out, show m - a = (headW R).length by have := HT.out; omega, ← h2]
                show Ending.returned (.tuple #[.string (s.extract a m), .int .i64 0]) = Ending.returned (.tuple #[.string ⟨(headW R).toArray⟩, .int .i64 0])
                rw [e]
      · go_wp2
        go_loop [4, 5, 7] (fun _ _ i => ∃ j : Nat, a ≤ j ∧ j ≤ k ∧ i = .int .i64 j ∧ hasQ (headW R) = hasQ ((headW R).drop (j - a))) (fun _ _ i => k - (intOf i).toNat)
        case atStart => exact ⟨a, by omega, by omega, rfl, by rw [Nat.sub_self]; rfl⟩
        case round =>
          obtain ⟨j, haj, hj, rfl, hq⟩ := hrel
          have HQ := Lib.hid hq; clear hq
          by_cases hjk : j < k
          · have hjs : j < s.size := by omega
            have HB := Lib.hid (hasQ_drop _ _ _ (HG.out j haj hjk hjs))
            obtain ⟨b, hb⟩ : ∃ b, s[j]'hjs = b := ⟨_, rfl⟩
            by_cases h34 : b.toNat = 34
            · go_wp2
              go_ret2
              refine ⟨?_, rfl⟩
              have e : b = 34 := UInt8.toNat_inj.1 h34
              rw [plain_q (by rw [HQ.out, HB.out, hb, e]; rfl)]
              rfl
            · have e34 : ((b.toNat : Int) == 34) = false := by simp; omega
              go_wp2
              go_round
              case rel =>
                refine ⟨j + 1, by omega, by omega, by go_num, ?_⟩
                have e : (b == 34) = false := by
                  cases hbb : b == 34
                  · rfl
                  · have := eq_of_beq hbb
                    subst this
                    exact absurd rfl h34
                rw [HQ.out, HB.out, hb, e, show j + 1 - a = j - a + 1 by omega]
                rfl
              case measure => simp [intOf]; omega
          · have hjk2 : j = k := by omega
            have HN : Hid (hasQ (headW R) = false) := Lib.hid (by rw [HQ.out, List.drop_of_length_le (by have := HT.out; omega)]; rfl)
            clear HQ
            subst hjk2
            go_wp2
            go_loop [4, 5, 8] (fun _ _ i => ∃ m : Nat, a ≤ m ∧ m ≤ j ∧ i = .int .i64 m ∧ allSeen (headW R) = allSeen ((headW R).drop (m - a))) (fun _ _ i => j - (intOf i).toNat)
            case atStart => exact ⟨a, by omega, by omega, rfl, by rw [Nat.sub_self]; rfl⟩
            case round =>
              obtain ⟨m, ham, hm, rfl, hq⟩ := hrel
              have HQ := Lib.hid hq; clear hq
              by_cases hmj : m < j
              · have hms : m < s.size := by omega
                have HB := Lib.hid (seen_drop _ _ _ (HG.out m ham hmj hms))
                obtain ⟨b, hb⟩ : ∃ b, s[m]'hms = b := ⟨_, rfl⟩
                obtain ⟨c, hc⟩ : ∃ c, b.toNat = c := ⟨_, rfl⟩
                by_cases h1 : c < 33
                · go_wp2
                  go_ret2
                  refine ⟨?_, rfl⟩
                  have e : seen b = false := by simp [seen, hc, h1]
                  rw [plain_w HN.out (by rw [HQ.out, HB.out, hb, e]; rfl)]
                  rfl
                · by_cases h2 : 126 < c
                  · go_wp2
                    go_ret2
                    refine ⟨?_, rfl⟩
                    have e : seen b = false := by simp [seen, hc, h2]
                    rw [plain_w HN.out (by rw [HQ.out, HB.out, hb, e]; rfl)]
                    rfl
                  · go_wp2
                    go_round
                    case rel =>
                      refine ⟨m + 1, by omega, by omega, by go_num, ?_⟩
                      have e : seen b = true := by simp [seen, hc]; omega
                      rw [HQ.out, HB.out, hb, e, show m + 1 - a = m - a + 1 by omega]
                      rfl
                    case measure => simp [intOf]; omega
              · have hmj2 : m = j := by omega
                have HS : Hid (allSeen (headW R) = true) := Lib.hid (by rw [HQ.out, List.drop_of_length_le (by have := HT.out; omega)]; rfl)
                clear HQ
                subst hmj2
                go_wp2
                go_ret2
                refine ⟨?_, rfl⟩
                rw [plain_ok HN.out HS.out]
                have e : s.extract a m = ⟨(headW R).toArray⟩ := by
                  have h2 := headW_take R
                  rw [Lib.extract_eq, ← HR.out, show m - a = (headW R).length by have := HT.out; omega, ← h2]
                show Ending.returned (.tuple #[.string (s.extract a m), .int .i64 0]) = Ending.returned (.tuple #[.string ⟨(headW R).toArray⟩, .int .i64 0])
                rw [e]
end Go.Proofs.YtmlklbbkkggpkaaDoor.show_
