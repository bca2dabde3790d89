/- Plain facts of a plain word: its bytes, its head. No program in sight. -/
import Derived.Test.YtmlklbbkkggpkaaDoorShowQ
namespace Go.Proofs.YtmlklbbkkggpkaaDoor.show_
set_option linter.unusedVariables false

def blankN (v : Nat) : Bool := v == 32 || v == 9
/-- Each byte may be seen. -/
def seen (b : UInt8) : Bool := !(b.toNat < 33 || 126 < b.toNat)
def allSeen (L : List UInt8) : Bool := L.all seen
theorem all_drop (L : List UInt8) (k : Nat) (b : UInt8) (h : L[k]? = some b) : allSeen (L.drop k) = (seen b && allSeen (L.drop (k + 1))) := by
  have hl : k < L.length := by
    apply Classical.byContradiction
    intro hn
    rw [List.getElem?_eq_none (by omega)] at h
    cases h
  unfold allSeen
  rw [List.drop_eq_getElem_cons hl]
  have : L[k] = b := by
    have := List.getElem?_eq_getElem hl
    rw [this] at h
    injection h
  simp [this]

def nb (b : UInt8) : Bool := !(blankN b.toNat)
def headW (R : List UInt8) : List UInt8 := R.takeWhile nb
def hasQ (l : List UInt8) : Bool := l.any (· == 34)
/-- The document's plain word at the head of R, and its error. -/
def plainR (R : List UInt8) : List UInt8 × Nat :=
  if hasQ (headW R) then ([], 320) else if allSeen (headW R) then (headW R, 0) else ([], 321)

theorem headW_stop (R : List UInt8) (h : R[0]?.map nb ≠ some true) : headW R = [] := by
  cases R with
  | nil => rfl
  | cons b R =>
    have : nb b = false := by
      cases hb : nb b
      · rfl
      · exact absurd (by simp [hb]) h
    simp [headW, List.takeWhile, this]
theorem headW_go (L : List UInt8) (k : Nat) (b : UInt8) (h : L[k]? = some b) (hb : nb b = true) : headW (L.drop k) = b :: headW (L.drop (k + 1)) := by
  have hl : k < L.length := (List.getElem?_eq_some_iff.1 h).1
  have e : L[k] = b := (List.getElem?_eq_some_iff.1 h).2
  rw [List.drop_eq_getElem_cons hl, e]
  simp [headW, List.takeWhile, hb]
theorem headW_len (R : List UInt8) : (headW R).length ≤ R.length := (List.takeWhile_sublist _).length_le
theorem headW_take (R : List UInt8) : headW R = R.take (headW R).length := by
  have h : headW R ++ R.dropWhile nb = R := List.takeWhile_append_dropWhile
  have h2 : List.take (headW R).length (headW R ++ R.dropWhile nb) = headW R := by simp
  rw [h] at h2
  exact h2.symm
theorem headW_get (L : List UInt8) (a k : Nat) (ha : a ≤ k) (hk : k < a + (headW (L.drop a)).length) : (headW (L.drop a))[k - a]? = L[k]? := by
  rw [headW_take, List.getElem?_take, if_pos (by omega), List.getElem?_drop, show a + (k - a) = k by omega]
theorem hasQ_drop (T : List UInt8) (k : Nat) (b : UInt8) (h : T[k]? = some b) : hasQ (T.drop k) = (b == 34 || hasQ (T.drop (k + 1))) := by
  have hl : k < T.length := (List.getElem?_eq_some_iff.1 h).1
  have e : T[k] = b := (List.getElem?_eq_some_iff.1 h).2
  unfold hasQ
  rw [List.drop_eq_getElem_cons hl, e]
  simp
theorem seen_drop (T : List UInt8) (k : Nat) (b : UInt8) (h : T[k]? = some b) : allSeen (T.drop k) = (seen b && allSeen (T.drop (k + 1))) := all_drop T k b h
theorem plain_q {R : List UInt8} (h : hasQ (headW R) = true) : plainR R = ([], 320) := by unfold plainR; rw [if_pos h]
theorem plain_w {R : List UInt8} (h : hasQ (headW R) = false) (h2 : allSeen (headW R) = false) : plainR R = ([], 321) := by
  unfold plainR
  rw [h, h2]
  rfl
theorem plain_ok {R : List UInt8} (h : hasQ (headW R) = false) (h2 : allSeen (headW R) = true) : plainR R = (headW R, 0) := by
  unfold plainR
  rw [h, h2]
  rfl
end Go.Proofs.YtmlklbbkkggpkaaDoor.show_
