/- The plain law of the worst finding: the first one of which none is worse is the least by the order. -/
import Derived.Test.YtmlklbbkkggpkaaAudG
namespace Go.Proofs.Ytmlklbbkkggpkaa.aud
open Go.RowKit kit
set_option linter.unusedVariables false

theorem bl_irrefl : ∀ l : List UInt8, Op.bytesLess l l = false
  | [] => rfl
  | a :: l => by simp [Op.bytesLess, bl_irrefl l]

theorem bl_trans : ∀ a b c : List UInt8, Op.bytesLess a b = true → Op.bytesLess b c = true → Op.bytesLess a c = true
  | _, _, [], _, h => by simp [Op.bytesLess] at h
  | [], _, _ :: _, _, _ => by simp [Op.bytesLess]
  | x :: a, [], _ :: _, h, _ => by simp [Op.bytesLess] at h
  | x :: a, y :: b, z :: c, h1, h2 => by
    simp only [Op.bytesLess, Bool.or_eq_true, Bool.and_eq_true, decide_eq_true_eq, beq_iff_eq, UInt8.lt_iff_toNat_lt] at *
    rcases h1 with h1 | ⟨rfl, h1⟩ <;> rcases h2 with h2 | ⟨rfl, h2⟩
    · left; omega
    · left; exact h1
    · left; exact h2
    · right; exact ⟨rfl, bl_trans a b c h1 h2⟩

theorem bl_tri : ∀ a b : List UInt8, Op.bytesLess a b = false → Op.bytesLess b a = false → a = b
  | [], [], _, _ => rfl
  | [], _ :: _, h, _ => by simp [Op.bytesLess] at h
  | _ :: _, [], _, h => by simp [Op.bytesLess] at h
  | x :: a, y :: b, h1, h2 => by
    simp only [Op.bytesLess, Bool.or_eq_false_iff, Bool.and_eq_false_iff, decide_eq_false_iff_not, beq_eq_false_iff_ne, UInt8.lt_iff_toNat_lt] at *
    have hxy : x = y := UInt8.toNat.inj (by omega)
    subst hxy
    rw [bl_tri a b (by rcases h1.2 with h | h; · exact absurd rfl h
                       · exact h) (by rcases h2.2 with h | h; · exact absurd rfl h
                                      · exact h)]

theorem cmp_lt : ∀ a b : List UInt8, (Lib.compareBytes a b < 0) = (Op.bytesLess a b = true)
  | [], [] => by simp [Lib.compareBytes, Op.bytesLess]
  | [], _ :: _ => by simp [Lib.compareBytes, Op.bytesLess]
  | _ :: _, [] => by simp [Lib.compareBytes, Op.bytesLess]
  | x :: a, y :: b => by
    have ih := cmp_lt a b
    simp only [Lib.compareBytes, Op.bytesLess]
    by_cases h1 : x < y
    · simp [h1]
    · by_cases h2 : y < x
      · have hne : x ≠ y := by rintro rfl; exact absurd h2 h1
        simp [h1, h2, hne]
      · have hxy : x = y := UInt8.toNat.inj (by simp only [UInt8.lt_iff_toNat_lt] at h1 h2; omega)
        subst hxy
        simp [h1, ih]

theorem rank_two (k : Int) : rankZ k = 2 - rankR k := by
  unfold rankZ rankR
  split
  · rfl
  · split <;> rfl

theorem worse_iff (x m : Fd) : worseZ x m < 0 ↔ worseR x m = true := by
  have hc := cmp_lt x.key.data.toList m.key.data.toList
  unfold worseZ worseR cmpB
  simp only [orZ, Lib.compareInt, ByteArray.toList_eq, rank_two]
  revert hc
  generalize rankR x.kind = p
  generalize rankR m.kind = q
  generalize sumZ x = s
  generalize sumZ m = u
  generalize Lib.compareBytes x.key.data.toList m.key.data.toList = C
  generalize Op.bytesLess x.key.data.toList m.key.data.toList = L
  generalize x.whole = y
  generalize m.whole = z
  intro hc
  by_cases h1 : p = q
  · subst h1
    by_cases h2 : y = z
    · subst h2
      by_cases h3 : s = u
      · subst h3
        by_cases h4 : C = 0
        · subst h4
          simpa using hc
        · simp [h4, hc]
      · rcases Int.lt_or_gt_of_ne h3 with h | h
        · have : ¬ u < s := by omega
          simp [h3, this, h]
        · simp [h3, h]
    · rcases Int.lt_or_gt_of_ne h2 with h | h
      · simp [h2, h]
      · have : ¬ y < z := by omega
        simp [h2, this, h]
  · rcases Int.lt_or_gt_of_ne h1 with h | h
    · have a1 : ¬ 2 - p < 2 - q := by omega
      have a2 : 2 - q < 2 - p := by omega
      have a3 : ¬ q < p := by omega
      simp [h1, a1, a2, a3]
    · have a1 : 2 - p < 2 - q := by omega
      simp [h1, a1, h]

theorem worse_irrefl (a : Fd) : worseR a a = false := by simp [worseR, bl_irrefl]
theorem worse_prop (a b : Fd) : worseR a b = true ↔ (rankR b.kind < rankR a.kind ∨ (rankR a.kind = rankR b.kind ∧ (a.whole < b.whole ∨ (a.whole = b.whole ∧ (sumZ b < sumZ a ∨ (sumZ a = sumZ b ∧ Op.bytesLess a.key.toList b.key.toList = true)))))) := by
  unfold worseR
  by_cases h1 : rankR a.kind = rankR b.kind
  · by_cases h2 : a.whole = b.whole
    · by_cases h3 : sumZ a = sumZ b
      · simp [h1, h2, h3]
      · simp [h1, h2, h3]
    · simp [h1, h2]
  · simp [h1]
/-- Not worse, and then worse: the order is a weak one. -/
theorem worse_step (x m z : Fd) (h1 : worseR x m = true) (h2 : worseR z m = false) : worseR x z = true := by
  have ht : Op.bytesLess x.key.toList m.key.toList = true → Op.bytesLess z.key.toList m.key.toList = false → Op.bytesLess x.key.toList z.key.toList = true := by
    intro a b
    cases hmz : Op.bytesLess m.key.toList z.key.toList
    · rw [bl_tri _ _ b hmz]; exact a
    · exact bl_trans _ _ _ a hmz
  have h2' : ¬ worseR z m = true := by rw [h2]; simp
  rw [worse_prop] at *
  revert h1 h2' ht
  generalize Op.bytesLess x.key.toList m.key.toList = A
  generalize Op.bytesLess z.key.toList m.key.toList = B
  generalize Op.bytesLess x.key.toList z.key.toList = C
  intro ht h1 h2'
  cases A <;> cases B <;> cases C <;> simp at ht h1 h2' ⊢ <;> omega
theorem worse_asym (m z : Fd) (h1 : worseR m z = true) : worseR z m = false := by
  cases h : worseR z m
  · rfl
  · exfalso
    have ht : Op.bytesLess m.key.toList z.key.toList = true → Op.bytesLess z.key.toList m.key.toList = true → False := by
      intro a b
      have := bl_trans _ _ _ a b
      rw [bl_irrefl] at this
      cases this
    rw [worse_prop] at h h1
    revert ht h h1
    generalize Op.bytesLess m.key.toList z.key.toList = A
    generalize Op.bytesLess z.key.toList m.key.toList = B
    intro ht h h1
    cases A <;> cases B <;> simp at ht h h1 <;> omega
theorem worse_trans (x m z : Fd) (h1 : worseR x m = true) (h2 : worseR m z = true) : worseR x z = true := worse_step x m z h1 (worse_asym m z h2)

/-- The fold's state: what stands ahead of the least one is greater, what stands behind it is not less. -/
def Least (p : List Fd) (m : Fd) : Prop := ∃ u v, p = u ++ m :: v ∧ (∀ z ∈ u, worseR m z = true) ∧ (∀ z ∈ v, worseR z m = false)

theorem least_min : ∀ (l p : List Fd) (m : Fd), Least p m → Least (p ++ l) (minF m l)
  | [], p, m, h => by simpa [minF] using h
  | x :: l, p, m, h => by
    have e : minF m (x :: l) = minF (if worseZ x m < 0 then x else m) l := rfl
    rw [e, show p ++ x :: l = (p ++ [x]) ++ l by simp]
    refine least_min l (p ++ [x]) _ ?_
    obtain ⟨u, v, rfl, hu, hv⟩ := h
    by_cases hx : worseZ x m < 0
    · rw [if_pos hx]
      have hx' := (worse_iff x m).1 hx
      refine ⟨u ++ m :: v, [], rfl, ?_, by simp⟩
      intro z hz
      rcases List.mem_append.1 hz with hz | hz
      · exact worse_trans x m z hx' (hu z hz)
      · rcases List.mem_cons.1 hz with rfl | hz
        · exact hx'
        · exact worse_step x m z hx' (hv z hz)
    · rw [if_neg hx]
      refine ⟨u, v ++ [x], by simp, hu, ?_⟩
      intro z hz
      rcases List.mem_append.1 hz with hz | hz
      · exact hv z hz
      · have : z = x := by simpa using hz
        subst this
        cases h : worseR z m
        · rfl
        · exact absurd ((worse_iff z m).2 h) hx

theorem refW_min (a : Fd) (l : List Fd) : refW (a :: l) = some (minF a l) := by
  have h0 : Least [a] a := ⟨[], [], rfl, by simp, by simp⟩
  have h := least_min l [a] a h0
  simp only [List.singleton_append] at h
  generalize minF a l = m at h
  generalize a :: l = L at h
  obtain ⟨u, v, rfl, hu, hv⟩ := h
  have hne : ∀ z ∈ u, ¬ refBest (u ++ m :: v) z = true := by
    intro z hz hb
    simp only [refBest, List.all_eq_true] at hb
    have := hb m (by simp)
    rw [hu z hz] at this
    simp at this
  have hm : refBest (u ++ m :: v) m = true := by
    simp only [refBest, List.all_eq_true]
    intro y hy
    rcases List.mem_append.1 hy with hy | hy
    · cases h : worseR y m
      · rfl
      · have h1 := worse_trans m y m (hu y hy) h
        rw [worse_irrefl] at h1
        cases h1
    · rcases List.mem_cons.1 hy with rfl | hy
      · rw [worse_irrefl]; rfl
      · rw [hv y hy]; rfl
  unfold refW
  generalize refBest (u ++ m :: v) = q at *
  clear h0
  rw [List.find?_append, List.find?_eq_none.2 hne, List.find?_cons, hm]
  rfl
end Go.Proofs.Ytmlklbbkkggpkaa.aud
