/- Contracts: the digits of both sides, the document's end of a quoted word. -/
import Derived.Test.YtmlklbbkkggpkaaDoorShowA
import Derived.Test.YtmlklbbkkggpkaaDoorWordR
namespace Go.Proofs.YtmlklbbkkggpkaaDoor.show_
open Go.RowKit kit
set_option linter.unusedVariables false

def digZ (c : Nat) : Int := if hexV c < 16 then (hexV c : Int) else -1
theorem hexV_1 {c : Nat} (h1 : 48 ≤ c) (h2 : c ≤ 57) : hexV c = c - 48 := by unfold hexV; exact if_pos ⟨h1, h2⟩
theorem hexV_2 {c : Nat} (h1 : 97 ≤ c) (h2 : c ≤ 102) : hexV c = c - 87 := by unfold hexV; exact (if_neg (by omega)).trans (if_pos ⟨h1, h2⟩)
theorem hexV_3 {c : Nat} (h1 : ¬ (48 ≤ c ∧ c ≤ 57)) (h2 : ¬ (97 ≤ c ∧ c ≤ 102)) : hexV c = 16 := by unfold hexV; exact (if_neg h1).trans (if_neg h2)
theorem digZ_1 {c : Nat} (h1 : 48 ≤ c) (h2 : c ≤ 57) : digZ c = (c : Int) - 48 := by unfold digZ; rw [hexV_1 h1 h2, if_pos (by omega)]; omega
theorem digZ_2 {c : Nat} (h1 : 97 ≤ c) (h2 : c ≤ 102) : digZ c = (c : Int) - 87 := by unfold digZ; rw [hexV_2 h1 h2, if_pos (by omega)]; omega
theorem digZ_3 {c : Nat} (h1 : ¬ (48 ≤ c ∧ c ≤ 57)) (h2 : ¬ (97 ≤ c ∧ c ≤ 102)) : digZ c = -1 := by unfold digZ; rw [hexV_3 h1 h2]; rfl

set_option maxRecDepth 100000 in
theorem rdigit_any (c : Nat) (w : World) : Calls Tryd.prog 24 #[.int .u8 c] w fun e w' => e = .returned (.int .i64 (digZ c)) ∧ w' = w := by
  go_enter Tryd.func24, Tryd.ntmps24
  by_cases h1 : c < 48
  · have hz := Lib.hid (digZ_3 (c := c) (by omega) (by omega))
    go_wp2
    go_ret
    exact ⟨by rw [hz.out]; rfl, rfl⟩
  · by_cases h2 : c ≤ 57
    · have hz := Lib.hid (digZ_1 (c := c) (by omega) h2)
      go_wp2
      go_ret
      exact ⟨by rw [hz.out]; rfl, rfl⟩
    · by_cases h3 : c < 97
      · have hz := Lib.hid (digZ_3 (c := c) (by omega) (by omega))
        go_wp2
        go_ret
        exact ⟨by rw [hz.out]; rfl, rfl⟩
      · by_cases h4 : c ≤ 102
        · have hz := Lib.hid (digZ_2 (c := c) (by omega) h4)
          go_wp2
          go_ret
          refine ⟨?_, rfl⟩
          rw [hz.out]
          show Ending.returned (.int .i64 _) = Ending.returned (.int .i64 _)
          congr 2
          omega
        · have hz := Lib.hid (digZ_3 (c := c) (by omega) (by omega))
          go_wp2
          go_ret
          exact ⟨by rw [hz.out]; rfl, rfl⟩

set_option maxRecDepth 100000 in
theorem wdigit_any (c : Nat) (w : World) : Calls Tryd.prog 44 #[.int .i32 c] w fun e w' => e = .returned (.int .i64 (digZ c)) ∧ w' = w := by
  go_enter Tryd.func44, Tryd.ntmps44
  by_cases h1 : c < 48
  · have hz := Lib.hid (digZ_3 (c := c) (by omega) (by omega))
    go_wp2
    go_ret
    exact ⟨by rw [hz.out]; rfl, rfl⟩
  · by_cases h2 : c ≤ 57
    · have hz := Lib.hid (digZ_1 (c := c) (by omega) h2)
      go_wp2
      go_ret
      exact ⟨by rw [hz.out]; rfl, rfl⟩
    · by_cases h3 : c < 97
      · have hz := Lib.hid (digZ_3 (c := c) (by omega) (by omega))
        go_wp2
        go_ret
        exact ⟨by rw [hz.out]; rfl, rfl⟩
      · by_cases h4 : c ≤ 102
        · have hz := Lib.hid (digZ_2 (c := c) (by omega) h4)
          go_wp2
          go_ret
          refine ⟨?_, rfl⟩
          rw [hz.out]
          show Ending.returned (.int .i64 _) = Ending.returned (.int .i64 _)
          congr 2
          omega
        · have hz := Lib.hid (digZ_3 (c := c) (by omega) (by omega))
          go_wp2
          go_ret
          exact ⟨by rw [hz.out]; rfl, rfl⟩

def endZ (a : Nat) : Option Nat → Int
  | none => -1
  | some k => (a : Int) + 1 + k
theorem closeR_nil (s : Nat) : closeR s [] = none := rfl
theorem closeR_cons (s : Nat) (b : UInt8) (t : List UInt8) : closeR s (b :: t) = if b = 34 ∧ s % 2 = 0 then some 0 else (closeR (if b = 92 then s + 1 else 0) t).map (· + 1) := rfl
theorem endZ_next (j : Nat) (o : Option Nat) (p : Option Nat) (h : p = (o.map (· + 1)).map (· + j)) : p = o.map (· + (j + 1)) := by
  subst h
  cases o with
  | none => rfl
  | some k => simp; omega
theorem drop_at (L : List UInt8) (k : Nat) (b : UInt8) (h : L[k]? = some b) : L.drop k = b :: L.drop (k + 1) := by
  have hl : k < L.length := (List.getElem?_eq_some_iff.1 h).1
  have e : L[k] = b := (List.getElem?_eq_some_iff.1 h).2
  rw [List.drop_eq_getElem_cons hl, e]

set_option maxRecDepth 1000000 in
set_option maxHeartbeats 1000000 in
theorem end_any (s : ByteArray) (a : Nat) (ha : a < s.size) (hs : s.size ≤ 1099511627776) (w : World) :
    Calls Tryd.prog 9 #[.string s, .int .i64 a] w fun e w' => e = .returned (.int .i64 (endZ a (closeR 0 (s.data.toList.drop (a + 1))))) ∧ w' = w := by
  have HL := Lib.hid (Lib.size_eq s)
  obtain ⟨ans, hans⟩ : ∃ ans, closeR 0 (s.data.toList.drop (a + 1)) = ans := ⟨_, rfl⟩
  rw [hans]
  have HA := Lib.hid hans; clear hans
  go_enter Tryd.func9, Tryd.ntmps9
  go_wp2
  go_loop [4, 5, 6] (fun _ sl i => ∃ k sn : Nat, k + a + 1 ≤ s.size ∧ sn ≤ k ∧ i = .int .i64 ((k + a + 1 : Nat) : Int) ∧ sl = .int .i64 sn ∧ ans = (closeR sn (s.data.toList.drop (k + a + 1))).map (· + k)) (fun _ _ i => s.size - (intOf i).toNat)
  case atStart =>
    refine ⟨0, 0, by omega, by omega, by go_num, rfl, ?_⟩
    rw [← HA.out, show 0 + a + 1 = a + 1 by omega]
    cases closeR 0 (s.data.toList.drop (a + 1)) <;> rfl
  case round =>
    obtain ⟨k, sn, hk, hsn, rfl, rfl, hz⟩ := hrel
    have HZ := Lib.hid hz; clear hz
    by_cases hlt : k + a + 1 < s.size
    · have HB := Lib.hid (drop_at _ _ _ (Lib.data_getElem? s (k + a + 1) hlt))
      obtain ⟨b, hb⟩ : ∃ b, s[k + a + 1]'hlt = b := ⟨_, rfl⟩
      obtain ⟨c, hc⟩ : ∃ c, b.toNat = c := ⟨_, rfl⟩
      by_cases h34 : c = 34
      · subst h34
        by_cases hev : sn % 2 = 0
        · have hm : ((sn : Int) % 2 == 0) = true := by simp; omega
          go_wp2
          go_ret
          refine ⟨?_, rfl⟩
          have e : b = 34 := UInt8.toNat_inj.1 hc
          rw [HZ.out, HB.out, hb, closeR_cons, if_pos ⟨e, hev⟩]
          show Ending.returned (.int .i64 _) = Ending.returned (.int .i64 _)
          congr 2
          show _ = (a : Int) + 1 + ((0 + k : Nat) : Int)
          omega
        · have hm : ((sn : Int) % 2 == 0) = false := by simp; omega
          go_wp2
          go_round
          case rel =>
            have e : b = 34 := UInt8.toNat_inj.1 hc
            refine ⟨k + 1, 0, by omega, by omega, by go_num, rfl, ?_⟩
            rw [HZ.out, HB.out, hb, closeR_cons, if_neg (fun h => hev h.2), if_neg (by rw [e]; decide), show k + 1 + a + 1 = k + a + 1 + 1 by omega]
            exact endZ_next k _ _ rfl
          case measure => simp [intOf]; omega
      · have e34 : ((c : Int) == 34) = false := by simp; omega
        have hb34 : b ≠ 34 := fun e => h34 (by rw [← hc, e]; rfl)
        by_cases h92 : c = 92
        · subst h92
          go_wp2
          go_round
          case rel =>
            have e : b = 92 := UInt8.toNat_inj.1 hc
            refine ⟨k + 1, sn + 1, by omega, by omega, by go_num, by go_num, ?_⟩
            rw [HZ.out, HB.out, hb, closeR_cons, if_neg (fun h => hb34 h.1), if_pos e, show k + 1 + a + 1 = k + a + 1 + 1 by omega]
            exact endZ_next k _ _ rfl
          case measure => simp [intOf]; omega
        · have e92 : ((c : Int) == 92) = false := by simp; omega
          have hb92 : b ≠ 92 := fun e => h92 (by rw [← hc, e]; rfl)
          go_wp2
          go_round
          case rel =>
            refine ⟨k + 1, 0, by omega, by omega, by go_num, rfl, ?_⟩
            rw [HZ.out, HB.out, hb, closeR_cons, if_neg (fun h => hb34 h.1), if_neg hb92, show k + 1 + a + 1 = k + a + 1 + 1 by omega]
            exact endZ_next k _ _ rfl
          case measure => simp [intOf]; omega
    · have hN := Lib.hid (show ans = none by rw [HZ.out, List.drop_of_length_le (by rw [← HL.out]; omega)]; rfl)
      go_wp2
      go_ret
      exact ⟨by rw [hN.out]; rfl, rfl⟩
end Go.Proofs.YtmlklbbkkggpkaaDoor.show_
