/- Plain facts of layer 30's Show: the program's way (by Go's own decoding of letters) and the document's (by bytes) tell the same. No program in sight. -/
import GoSem.Core.Utf8
import Derived.Lib.RuneBytes
import Derived.Laws.RangeString
namespace Go.Proofs.YtmlklbbkkggpkaaDoor.show_
set_option linter.unusedVariables false

/-- A byte that goes on a letter. -/
def cont (b : Nat) : Bool := 128 ≤ b && b < 192
/-- A letter's number, if it may be one of that length. -/
def fin_ (v n least : Nat) : Nat × Nat := if v < least ∨ v > 1114111 ∨ (55296 ≤ v ∧ v < 57344) then (0, 0) else (v, n)
/-- The document's letter: so many bytes are there, these are the first four. -/
def letN (size a b c d : Nat) : Nat × Nat :=
  if a < 128 then (a, 1)
  else if 192 ≤ a ∧ a < 224 then if size < 2 ∨ cont b = false then (0, 0) else fin_ ((a - 192) * 64 + b - 128) 2 128
  else if 224 ≤ a ∧ a < 240 then if size < 3 ∨ cont b = false ∨ cont c = false then (0, 0) else fin_ (((a - 224) * 64 + b - 128) * 64 + c - 128) 3 2048
  else if 240 ≤ a ∧ a < 248 then if size < 4 ∨ cont b = false ∨ cont c = false ∨ cont d = false then (0, 0) else fin_ ((((a - 240) * 64 + b - 128) * 64 + c - 128) * 64 + d - 128) 4 65536
  else (0, 0)

/-- Go's decoding, over the same numbers. -/
def decN (size a b c d : Nat) : Nat × Nat :=
  let k1 : Bool := 1 < size && b / 64 == 2
  let k2 : Bool := 2 < size && c / 64 == 2
  let k3 : Bool := 3 < size && d / 64 == 2
  if a < 0x80 then (a, 1)
  else if a / 32 == 6 && k1 then
    let v := (a % 32) * 64 + b % 64
    if v ≥ 0x80 then (v, 2) else (65533, 1)
  else if a / 16 == 14 && k1 && k2 then
    let v := (a % 16) * 4096 + (b % 64) * 64 + c % 64
    if v ≥ 0x800 && Utf8.valid v then (v, 3) else (65533, 1)
  else if a / 8 == 30 && k1 && k2 && k3 then
    let v := (a % 8) * 262144 + (b % 64) * 4096 + (c % 64) * 64 + d % 64
    if v ≥ 0x10000 && Utf8.valid v then (v, 4) else (65533, 1)
  else (65533, 1)

theorem cont_iff (b : Nat) : cont b = (b / 64 == 2) := by
  unfold cont
  rw [Bool.eq_iff_iff]
  simp
  omega

theorem valid_iff (v : Nat) : Utf8.valid (v : Int) = true ↔ ¬ (v > 1114111 ∨ (55296 ≤ v ∧ v < 57344)) := by
  unfold Utf8.valid
  simp
  omega

/-- No letter: Go's decoding gives the replacement, one byte long; a letter: the very same. -/
theorem dec_let (size a b c d : Nat) (ha : a < 256) (hb : b < 256) (hc : c < 256) (hd : d < 256) :
    decN size a b c d = if (letN size a b c d).2 = 0 then (65533, 1) else letN size a b c d := by
  unfold decN letN
  by_cases h1 : a < 128
  · simp [h1]
  · simp only [h1, if_false]
    by_cases h2 : 192 ≤ a ∧ a < 224
    · have e : (a / 32 == 6) = true := by simp; omega
      have e3 : (a / 16 == 14) = false := by simp; omega
      have e4 : (a / 8 == 30) = false := by simp; omega
      rw [if_pos h2]
      simp only [e, e3, e4, Bool.true_and, Bool.false_and, Bool.false_eq_true, if_false, cont_iff]
      by_cases hs : size < 2
      · have : decide (1 < size) = false := by simp; omega
        simp [this, hs]
      · have hs' : decide (1 < size) = true := by simp; omega
        by_cases hk : (b / 64 == 2) = true
        · have hk' : b / 64 = 2 := by simpa using hk
          have ev : a % 32 * 64 + b % 64 = (a - 192) * 64 + b - 128 := by omega
          simp only [hs', hk, Bool.true_and, if_true, hs, false_or, Bool.true_eq_false, if_false, fin_, ev]
          generalize hv : (a - 192) * 64 + b - 128 = v
          have hv2 : v < 2048 := by omega
          by_cases hl : v < 128
          · have : ¬ v ≥ 128 := by omega
            simp [hl, this]
          · have h5 : ¬ (v < 128 ∨ v > 1114111 ∨ (55296 ≤ v ∧ v < 57344)) := by omega
            have : v ≥ 128 := by omega
            rw [if_neg h5]
            simp [this]
        · have hk' : (b / 64 == 2) = false := by simpa using hk
          simp [hs', hk']
    · have e : (a / 32 == 6) = false := by simp; omega
      rw [if_neg h2]
      simp only [e, Bool.false_and, Bool.false_eq_true, if_false]
      by_cases h3 : 224 ≤ a ∧ a < 240
      · have e3 : (a / 16 == 14) = true := by simp; omega
        have e4 : (a / 8 == 30) = false := by simp; omega
        rw [if_pos h3]
        simp only [e3, e4, Bool.true_and, Bool.false_and, Bool.false_eq_true, if_false, cont_iff]
        by_cases hs : size < 3
        · have : decide (2 < size) = false := by simp; omega
          simp [this, hs]
        · have hs1 : decide (1 < size) = true := by simp; omega
          have hs2 : decide (2 < size) = true := by simp; omega
          by_cases hk : (b / 64 == 2) = true
          · by_cases hk2 : (c / 64 == 2) = true
            · have hk' : b / 64 = 2 := by simpa using hk
              have hk2' : c / 64 = 2 := by simpa using hk2
              have ev : a % 16 * 4096 + b % 64 * 64 + c % 64 = ((a - 224) * 64 + b - 128) * 64 + c - 128 := by omega
              simp only [hs1, hs2, hk, hk2, Bool.true_and, if_true, hs, false_or, Bool.true_eq_false, if_false, fin_, ev]
              generalize hv : ((a - 224) * 64 + b - 128) * 64 + c - 128 = v
              by_cases hl : v < 2048 ∨ v > 1114111 ∨ (55296 ≤ v ∧ v < 57344)
              · rw [if_pos hl]
                have : (decide (v ≥ 2048) && Utf8.valid (v : Int)) = false := by
                  rcases Bool.eq_false_or_eq_true (Utf8.valid (v : Int)) with hh | hh
                  · have := (valid_iff v).1 hh
                    simp
                    omega
                  · simp [hh]
                simp [this]
              · rw [if_neg hl]
                have hh : Utf8.valid (v : Int) = true := (valid_iff v).2 (by omega)
                have : v ≥ 2048 := by omega
                simp [hh, this]
            · have hk2' : (c / 64 == 2) = false := by simpa using hk2
              simp [hs1, hs2, hk, hk2']
          · have hk' : (b / 64 == 2) = false := by simpa using hk
            simp [hs1, hk']
      · have e3 : (a / 16 == 14) = false := by simp; omega
        rw [if_neg h3]
        simp only [e3, Bool.false_and, Bool.false_eq_true, if_false]
        by_cases h4 : 240 ≤ a ∧ a < 248
        · have e4 : (a / 8 == 30) = true := by simp; omega
          rw [if_pos h4]
          simp only [e4, Bool.true_and, cont_iff]
          by_cases hs : size < 4
          · have : decide (3 < size) = false := by simp; omega
            simp [this, hs]
          · have hs1 : decide (1 < size) = true := by simp; omega
            have hs2 : decide (2 < size) = true := by simp; omega
            have hs3 : decide (3 < size) = true := by simp; omega
            by_cases hk : (b / 64 == 2) = true
            · by_cases hk2 : (c / 64 == 2) = true
              · by_cases hk3 : (d / 64 == 2) = true
                · have hk' : b / 64 = 2 := by simpa using hk
                  have hk2' : c / 64 = 2 := by simpa using hk2
                  have hk3' : d / 64 = 2 := by simpa using hk3
                  have ev : a % 8 * 262144 + b % 64 * 4096 + c % 64 * 64 + d % 64 = (((a - 240) * 64 + b - 128) * 64 + c - 128) * 64 + d - 128 := by omega
                  simp only [hs1, hs2, hs3, hk, hk2, hk3, Bool.true_and, if_true, hs, false_or, Bool.true_eq_false, if_false, fin_, ev]
                  generalize hv : (((a - 240) * 64 + b - 128) * 64 + c - 128) * 64 + d - 128 = v
                  by_cases hl : v < 65536 ∨ v > 1114111 ∨ (55296 ≤ v ∧ v < 57344)
                  · rw [if_pos hl]
                    have : (decide (v ≥ 65536) && Utf8.valid (v : Int)) = false := by
                      rcases Bool.eq_false_or_eq_true (Utf8.valid (v : Int)) with hh | hh
                      · have := (valid_iff v).1 hh
                        simp
                        omega
                      · simp [hh]
                    simp [this]
                  · rw [if_neg hl]
                    have hh : Utf8.valid (v : Int) = true := (valid_iff v).2 (by omega)
                    have : v ≥ 65536 := by omega
                    simp [hh, this]
                · have hk3' : (d / 64 == 2) = false := by simpa using hk3
                  simp [hs1, hs2, hs3, hk, hk2, hk3']
              · have hk2' : (c / 64 == 2) = false := by simpa using hk2
                simp [hs1, hs2, hk, hk2']
            · have hk' : (b / 64 == 2) = false := by simpa using hk
              simp [hs1, hk']
        · have e4 : (a / 8 == 30) = false := by simp; omega
          rw [if_neg h4]
          simp [e4]
end Go.Proofs.YtmlklbbkkggpkaaDoor.show_
