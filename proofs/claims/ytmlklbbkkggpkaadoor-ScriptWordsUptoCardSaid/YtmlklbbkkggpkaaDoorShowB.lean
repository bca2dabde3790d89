/- Contracts: the document's letter. -/
import Derived.Test.YtmlklbbkkggpkaaDoorShowA
namespace Go.Proofs.YtmlklbbkkggpkaaDoor.show_
open Go.RowKit kit
set_option linter.unusedVariables false

def more (L : List UInt8) (i : Nat) : Nat → Nat → Option Nat
  | 0, v => some v
  | k + 1, v => if cont (bat L i) then more L (i + 1) k (v * 64 + bat L i - 128) else none
def letM (L : List UInt8) (n v least : Nat) : Nat × Nat := match more L 1 (n - 1) v with
  | none => (0, 0)
  | some v => fin_ v n least
theorem letL_1 (L : List UInt8) (h : bat L 0 < 128) : letL L = (bat L 0, 1) := by
  unfold letL letN
  rw [if_pos h]
theorem letL_2 (L : List UInt8) (h : 192 ≤ bat L 0 ∧ bat L 0 < 224) : letL L = if L.length < 2 then (0, 0) else letM L 2 (bat L 0 - 192) 128 := by
  unfold letL letN
  rw [if_neg (by omega), if_pos h]
  by_cases h1 : L.length < 2
  · simp [h1]
  · cases hb : cont (bat L 1)
    · simp [letM, more, hb]
    · simp [letM, more, hb, h1]
theorem letL_3 (L : List UInt8) (h : 224 ≤ bat L 0 ∧ bat L 0 < 240) : letL L = if L.length < 3 then (0, 0) else letM L 3 (bat L 0 - 224) 2048 := by
  unfold letL letN
  rw [if_neg (by omega), if_neg (by omega), if_pos h]
  by_cases h1 : L.length < 3
  · simp [h1]
  · cases hb : cont (bat L 1)
    · simp [letM, more, hb]
    · cases hc : cont (bat L 2)
      · simp [letM, more, hb, hc]
      · simp [letM, more, hb, hc, h1]
theorem letL_4 (L : List UInt8) (h : 240 ≤ bat L 0 ∧ bat L 0 < 248) : letL L = if L.length < 4 then (0, 0) else letM L 4 (bat L 0 - 240) 65536 := by
  unfold letL letN
  rw [if_neg (by omega), if_neg (by omega), if_neg (by omega), if_pos h]
  by_cases h1 : L.length < 4
  · simp [h1]
  · cases hb : cont (bat L 1)
    · simp [letM, more, hb]
    · cases hc : cont (bat L 2)
      · simp [letM, more, hb, hc]
      · cases hd : cont (bat L 3)
        · simp [letM, more, hb, hc, hd]
        · simp [letM, more, hb, hc, hd, h1]
theorem letL_0 (L : List UInt8) (h1 : ¬ bat L 0 < 128) (h2 : ¬ (192 ≤ bat L 0 ∧ bat L 0 < 224)) (h3 : ¬ (224 ≤ bat L 0 ∧ bat L 0 < 240)) (h4 : ¬ (240 ≤ bat L 0 ∧ bat L 0 < 248)) : letL L = (0, 0) := by
  unfold letL letN
  rw [if_neg h1, if_neg h2, if_neg h3, if_neg h4]
theorem letM_done {L : List UInt8} {n v least x : Nat} (h : more L 1 (n - 1) v = some x) : letM L n v least = fin_ x n least := by unfold letM; rw [h]
theorem letM_none {L : List UInt8} {n v least : Nat} (h : more L 1 (n - 1) v = none) : letM L n v least = (0, 0) := by unfold letM; rw [h]
theorem more_succ (L : List UInt8) (i k v : Nat) : more L i (k + 1) v = if cont (bat L i) then more L (i + 1) k (v * 64 + bat L i - 128) else none := rfl
theorem fin_bad {v n least : Nat} (h : v < least ∨ v > 1114111 ∨ (55296 ≤ v ∧ v < 57344)) : fin_ v n least = (0, 0) := by unfold fin_; rw [if_pos h]
theorem fin_good {v n least : Nat} (h : ¬ (v < least ∨ v > 1114111 ∨ (55296 ≤ v ∧ v < 57344))) : fin_ v n least = (v, n) := by unfold fin_; rw [if_neg h]

/-- The two numbers, as the letter's answer. -/
def letV (p : Nat × Nat) : Value := .tuple #[.int .i64 p.1, .int .i64 p.2]

set_option maxRecDepth 1000000 in
set_option maxHeartbeats 4000000 in
theorem letter_any (s : ByteArray) (h0 : 0 < s.size) (hs : s.size ≤ 4611686018427387904) (w : World) :
    Calls Tryd.prog 25 #[.string s] w fun e w' => e = .returned (letV (letL s.data.toList)) ∧ w' = w := by
  have HL := Lib.hid (Lib.size_eq s)
  have HA := Lib.hid (bat_get s 0 h0)
  obtain ⟨a, ha⟩ : ∃ a : Nat, (s[0]'h0).toNat = a := ⟨_, rfl⟩
  have ha2 : a < 256 := by rw [← ha]; exact UInt8.toNat_lt _
  go_enter Tryd.func25, Tryd.ntmps25
  by_cases h1 : a < 128
  · have HR := Lib.hid (letL_1 s.data.toList (by rw [HA.out, ha]; exact h1))
    go_wp2
    go_ret2
    refine ⟨?_, rfl⟩
    rw [HR.out, HA.out, ha]
    rfl
  by_cases h2 : 192 ≤ a ∧ a < 224
  · have HR := Lib.hid (letL_2 s.data.toList (by rw [HA.out, ha]; exact h2))
    by_cases hsz : s.size < 2
    · go_wp2
      go_ret2
      refine ⟨?_, rfl⟩
      rw [HR.out, if_pos (by rw [← HL.out]; exact hsz)]
      rfl
    go_wp2
    go_loop [2, 3, 6, 8, 9] (fun _ _ v i _ => ∃ (k x : Nat), 1 ≤ k ∧ k ≤ 2 ∧ i = .int .i64 k ∧ v = .int .i64 x ∧ more s.data.toList 1 (2 - 1) (a - 192) = more s.data.toList k (2 - k) x ∧ ((k = 1 ∧ x < 64) ∨ (k = 2 ∧ x < 4096) ∨ (k = 3 ∧ x < 262144) ∨ (k = 4 ∧ x < 16777216))) (fun _ _ _ i _ => 2 - (intOf i).toNat)
    case atStart => exact ⟨1, a - 192, by omega, by omega, rfl, by go_num, rfl, Or.inl ⟨rfl, by omega⟩⟩
    case round =>
      obtain ⟨k, x, hk1, hkn, rfl, rfl, hm, hx⟩ := hrel
      have HM := Lib.hid hm; clear hm
      by_cases hlt : k < 2
      · have hks : k < s.size := by omega
        have HB := Lib.hid (bat_get s k hks)
        obtain ⟨c, hc⟩ : ∃ c : Nat, (s[k]'hks).toNat = c := ⟨_, rfl⟩
        have hc2 : c < 256 := by rw [← hc]; exact UInt8.toNat_lt _
        have HS : Hid (more s.data.toList k (2 - k) x = if cont c then more s.data.toList (k + 1) (2 - (k + 1)) (x * 64 + c - 128) else none) := by
          refine Lib.hid ?_
          have : 2 - k = (2 - (k + 1)) + 1 := by omega
          rw [this, more_succ, HB.out, hc]
        by_cases c1 : c < 128
        · go_wp2
          go_ret2
          refine ⟨?_, rfl⟩
          rw [HR.out, if_neg (by rw [← HL.out]; exact hsz), HA.out, ha, letM_none (by rw [HM.out, HS.out, if_neg (by unfold cont; simp; omega)])]
          rfl
        · by_cases c3 : 192 ≤ c
          · go_wp2
            go_ret2
            refine ⟨?_, rfl⟩
            rw [HR.out, if_neg (by rw [← HL.out]; exact hsz), HA.out, ha, letM_none (by rw [HM.out, HS.out, if_neg (by unfold cont; simp; omega)])]
            rfl
          · go_wp2
            go_round
            case rel =>
              refine ⟨_, _, _, _, ⟨k + 1, by omega, by omega, rfl, x * 64 + c - 128, rfl, ?_, by omega⟩, rfl, rfl, by go_num, by go_num⟩
              show more s.data.toList 1 (2 - 1) (a - 192) = more s.data.toList (k + 1) (2 - (k + 1)) (x * 64 + c - 128)
              rw [HM.out, HS.out, if_pos (by unfold cont; simp; omega)]
            case measure => simp [intOf]; omega
      · have hkn' : k = 2 := by omega
        subst hkn'
        have HE : Hid (letL s.data.toList = fin_ x 2 128) := by
          refine Lib.hid ?_
          rw [HR.out, if_neg (by rw [← HL.out]; exact hsz), HA.out, ha, letM_done (x := x) (by rw [HM.out]; rfl)]
        have hx' : x < 16777216 := by omega
        clear hx
        by_cases v1 : x < 128
        · go_wp2
          go_ret2
          refine ⟨?_, rfl⟩
          rw [HE.out, fin_bad (Or.inl v1)]
          rfl
        · by_cases v2 : 1114111 < x
          · go_wp2
            go_ret2
            refine ⟨?_, rfl⟩
            rw [HE.out, fin_bad (Or.inr (Or.inl v2))]
            rfl
          · by_cases v3 : 55296 ≤ x
            · by_cases v4 : x < 57344
              · go_wp2
                all_goals (go_ret2; refine ⟨?_, rfl⟩; rw [HE.out, fin_bad (Or.inr (Or.inr ⟨v3, v4⟩))]; rfl)
              · go_wp2
                all_goals (go_ret2; refine ⟨?_, rfl⟩; rw [HE.out, fin_good (by omega)]; rfl)
            · go_wp2
              all_goals (go_ret2; refine ⟨?_, rfl⟩; rw [HE.out, fin_good (by omega)]; rfl)
  by_cases h3 : 224 ≤ a ∧ a < 240
  · have HR := Lib.hid (letL_3 s.data.toList (by rw [HA.out, ha]; exact h3))
    by_cases hsz : s.size < 3
    · go_wp2
      go_ret2
      refine ⟨?_, rfl⟩
      rw [HR.out, if_pos (by rw [← HL.out]; exact hsz)]
      rfl
    go_wp2
    go_loop [2, 3, 6, 8, 9] (fun _ _ v i _ => ∃ (k x : Nat), 1 ≤ k ∧ k ≤ 3 ∧ i = .int .i64 k ∧ v = .int .i64 x ∧ more s.data.toList 1 (3 - 1) (a - 224) = more s.data.toList k (3 - k) x ∧ ((k = 1 ∧ x < 64) ∨ (k = 2 ∧ x < 4096) ∨ (k = 3 ∧ x < 262144) ∨ (k = 4 ∧ x < 16777216))) (fun _ _ _ i _ => 3 - (intOf i).toNat)
    case atStart => exact ⟨1, a - 224, by omega, by omega, rfl, by go_num, rfl, Or.inl ⟨rfl, by omega⟩⟩
    case round =>
      obtain ⟨k, x, hk1, hkn, rfl, rfl, hm, hx⟩ := hrel
      have HM := Lib.hid hm; clear hm
      by_cases hlt : k < 3
      · have hks : k < s.size := by omega
        have HB := Lib.hid (bat_get s k hks)
        obtain ⟨c, hc⟩ : ∃ c : Nat, (s[k]'hks).toNat = c := ⟨_, rfl⟩
        have hc2 : c < 256 := by rw [← hc]; exact UInt8.toNat_lt _
        have HS : Hid (more s.data.toList k (3 - k) x = if cont c then more s.data.toList (k + 1) (3 - (k + 1)) (x * 64 + c - 128) else none) := by
          refine Lib.hid ?_
          have : 3 - k = (3 - (k + 1)) + 1 := by omega
          rw [this, more_succ, HB.out, hc]
        by_cases c1 : c < 128
        · go_wp2
          go_ret2
          refine ⟨?_, rfl⟩
          rw [HR.out, if_neg (by rw [← HL.out]; exact hsz), HA.out, ha, letM_none (by rw [HM.out, HS.out, if_neg (by unfold cont; simp; omega)])]
          rfl
        · by_cases c3 : 192 ≤ c
          · go_wp2
            go_ret2
            refine ⟨?_, rfl⟩
            rw [HR.out, if_neg (by rw [← HL.out]; exact hsz), HA.out, ha, letM_none (by rw [HM.out, HS.out, if_neg (by unfold cont; simp; omega)])]
            rfl
          · go_wp2
            go_round
            case rel =>
              refine ⟨_, _, _, _, ⟨k + 1, by omega, by omega, rfl, x * 64 + c - 128, rfl, ?_, by omega⟩, rfl, rfl, by go_num, by go_num⟩
              show more s.data.toList 1 (3 - 1) (a - 224) = more s.data.toList (k + 1) (3 - (k + 1)) (x * 64 + c - 128)
              rw [HM.out, HS.out, if_pos (by unfold cont; simp; omega)]
            case measure => simp [intOf]; omega
      · have hkn' : k = 3 := by omega
        subst hkn'
        have HE : Hid (letL s.data.toList = fin_ x 3 2048) := by
          refine Lib.hid ?_
          rw [HR.out, if_neg (by rw [← HL.out]; exact hsz), HA.out, ha, letM_done (x := x) (by rw [HM.out]; rfl)]
        have hx' : x < 16777216 := by omega
        clear hx
        by_cases v1 : x < 2048
        · go_wp2
          go_ret2
          refine ⟨?_, rfl⟩
          rw [HE.out, fin_bad (Or.inl v1)]
          rfl
        · by_cases v2 : 1114111 < x
          · go_wp2
            go_ret2
            refine ⟨?_, rfl⟩
            rw [HE.out, fin_bad (Or.inr (Or.inl v2))]
            rfl
          · by_cases v3 : 55296 ≤ x
            · by_cases v4 : x < 57344
              · go_wp2
                all_goals (go_ret2; refine ⟨?_, rfl⟩; rw [HE.out, fin_bad (Or.inr (Or.inr ⟨v3, v4⟩))]; rfl)
              · go_wp2
                all_goals (go_ret2; refine ⟨?_, rfl⟩; rw [HE.out, fin_good (by omega)]; rfl)
            · go_wp2
              all_goals (go_ret2; refine ⟨?_, rfl⟩; rw [HE.out, fin_good (by omega)]; rfl)
  by_cases h4 : 240 ≤ a ∧ a < 248
  · have HR := Lib.hid (letL_4 s.data.toList (by rw [HA.out, ha]; exact h4))
    by_cases hsz : s.size < 4
    · go_wp2
      go_ret2
      refine ⟨?_, rfl⟩
      rw [HR.out, if_pos (by rw [← HL.out]; exact hsz)]
      rfl
    go_wp2
    go_loop [2, 3, 6, 8, 9] (fun _ _ v i _ => ∃ (k x : Nat), 1 ≤ k ∧ k ≤ 4 ∧ i = .int .i64 k ∧ v = .int .i64 x ∧ more s.data.toList 1 (4 - 1) (a - 240) = more s.data.toList k (4 - k) x ∧ ((k = 1 ∧ x < 64) ∨ (k = 2 ∧ x < 4096) ∨ (k = 3 ∧ x < 262144) ∨ (k = 4 ∧ x < 16777216))) (fun _ _ _ i _ => 4 - (intOf i).toNat)
    case atStart => exact ⟨1, a - 240, by omega, by omega, rfl, by go_num, rfl, Or.inl ⟨rfl, by omega⟩⟩
    case round =>
      obtain ⟨k, x, hk1, hkn, rfl, rfl, hm, hx⟩ := hrel
      have HM := Lib.hid hm; clear hm
      by_cases hlt : k < 4
      · have hks : k < s.size := by omega
        have HB := Lib.hid (bat_get s k hks)
        obtain ⟨c, hc⟩ : ∃ c : Nat, (s[k]'hks).toNat = c := ⟨_, rfl⟩
        have hc2 : c < 256 := by rw [← hc]; exact UInt8.toNat_lt _
        have HS : Hid (more s.data.toList k (4 - k) x = if cont c then more s.data.toList (k + 1) (4 - (k + 1)) (x * 64 + c - 128) else none) := by
          refine Lib.hid ?_
          have : 4 - k = (4 - (k + 1)) + 1 := by omega
          rw [this, more_succ, HB.out, hc]
        by_cases c1 : c < 128
        · go_wp2
          go_ret2
          refine ⟨?_, rfl⟩
          rw [HR.out, if_neg (by rw [← HL.out]; exact hsz), HA.out, ha, letM_none (by rw [HM.out, HS.out, if_neg (by unfold cont; simp; omega)])]
          rfl
        · by_cases c3 : 192 ≤ c
          · go_wp2
            go_ret2
            refine ⟨?_, rfl⟩
            rw [HR.out, if_neg (by rw [← HL.out]; exact hsz), HA.out, ha, letM_none (by rw [HM.out, HS.out, if_neg (by unfold cont; simp; omega)])]
            rfl
          · go_wp2
            go_round
            case rel =>
              refine ⟨_, _, _, _, ⟨k + 1, by omega, by omega, rfl, x * 64 + c - 128, rfl, ?_, by omega⟩, rfl, rfl, by go_num, by go_num⟩
              show more s.data.toList 1 (4 - 1) (a - 240) = more s.data.toList (k + 1) (4 - (k + 1)) (x * 64 + c - 128)
              rw [HM.out, HS.out, if_pos (by unfold cont; simp; omega)]
            case measure => simp [intOf]; omega
      · have hkn' : k = 4 := by omega
        subst hkn'
        have HE : Hid (letL s.data.toList = fin_ x 4 65536) := by
          refine Lib.hid ?_
          rw [HR.out, if_neg (by rw [← HL.out]; exact hsz), HA.out, ha, letM_done (x := x) (by rw [HM.out]; rfl)]
        have hx' : x < 16777216 := by omega
        clear hx
        by_cases v1 : x < 65536
        · go_wp2
          go_ret2
          refine ⟨?_, rfl⟩
          rw [HE.out, fin_bad (Or.inl v1)]
          rfl
        · by_cases v2 : 1114111 < x
          · go_wp2
            go_ret2
            refine ⟨?_, rfl⟩
            rw [HE.out, fin_bad (Or.inr (Or.inl v2))]
            rfl
          · by_cases v3 : 55296 ≤ x
            · by_cases v4 : x < 57344
              · go_wp2
                all_goals (go_ret2; refine ⟨?_, rfl⟩; rw [HE.out, fin_bad (Or.inr (Or.inr ⟨v3, v4⟩))]; rfl)
              · go_wp2
                all_goals (go_ret2; refine ⟨?_, rfl⟩; rw [HE.out, fin_good (by omega)]; rfl)
            · go_wp2
              all_goals (go_ret2; refine ⟨?_, rfl⟩; rw [HE.out, fin_good (by omega)]; rfl)
  have HR := Lib.hid (letL_0 s.data.toList (by rw [HA.out, ha]; exact h1) (by rw [HA.out, ha]; exact h2) (by rw [HA.out, ha]; exact h3) (by rw [HA.out, ha]; exact h4))
  by_cases g1 : a < 192
  · go_wp2
    go_ret2
    refine ⟨?_, rfl⟩
    rw [HR.out]
    rfl
  · have g2 : 248 ≤ a := by omega
    go_wp2
    go_ret2
    refine ⟨?_, rfl⟩
    rw [HR.out]
    rfl
end Go.Proofs.YtmlklbbkkggpkaaDoor.show_
