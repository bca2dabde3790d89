/- Plain facts of the worst finding for AuditOrder; rows of findings. -/
import Derived.Test.YtmlklbbkkggpkaaAudP
namespace Go.Proofs.Ytmlklbbkkggpkaa.aud
open Go.RowKit kit
set_option linter.unusedVariables false

theorem least_mem {p : List Fd} {m : Fd} (h : Least p m) : m ∈ p ∧ ∀ x ∈ p, worseR x m = false := by
  obtain ⟨u, v, rfl, hu, hv⟩ := h
  refine ⟨by simp, fun x hx => ?_⟩
  rcases List.mem_append.1 hx with hx | hx
  · exact worse_asym _ _ (hu x hx)
  · rcases List.mem_cons.1 hx with rfl | hx
    · exact worse_irrefl _
    · exact hv x hx
theorem min_mem (a : Fd) (l : List Fd) : minF a l ∈ a :: l ∧ ∀ x ∈ a :: l, worseR x (minF a l) = false :=
  least_mem (least_min l [a] a ⟨[], [], rfl, by simp, by simp⟩)

theorem not_worse {x m : Fd} (h : worseR x m = false) : ¬ (x.kind = m.kind ∧ x.whole < m.whole) := by
  rintro ⟨h1, h2⟩
  have : worseR x m = true := (worse_prop x m).2 (Or.inr ⟨by rw [h1], Or.inl h2⟩)
  rw [h] at this
  cases this
theorem rank_le (k : Int) : rankR k ≤ 2 := by
  unfold rankR
  split
  · omega
  · split <;> omega
theorem rank_of_two (k : Int) (h : 2 ≤ rankR k) : k = 2 := by
  unfold rankR at h
  split at h
  · assumption
  · split at h <;> omega
theorem maybe_least {x m : Fd} (h : worseR x m = false) (hx : x.kind = 2) : m.kind = 2 := by
  have h' : ¬ worseR x m = true := by rw [h]; simp
  rw [worse_prop] at h'
  have hr : rankR x.kind = 2 := by rw [hx]; rfl
  have hl := rank_le m.kind
  exact rank_of_two _ (by omega)
theorem alike {a b : Fd} (h1 : worseR a b = false) (h2 : worseR b a = false) : a.key.toList = b.key.toList ∧ a.whole = b.whole ∧ sumZ a = sumZ b := by
  have h1' : ¬ worseR a b = true := by rw [h1]; simp
  have h2' : ¬ worseR b a = true := by rw [h2]; simp
  rw [worse_prop] at h1' h2'
  have hk : Op.bytesLess a.key.toList b.key.toList = false → Op.bytesLess b.key.toList a.key.toList = false → a.key.toList = b.key.toList := bl_tri _ _
  generalize a.key.toList = X at *
  generalize b.key.toList = Y at *
  cases h3 : Op.bytesLess X Y <;> cases h4 : Op.bytesLess Y X <;> simp [h3, h4] at h1' h2' hk ⊢
  · exact ⟨hk, by omega, by omega⟩
  all_goals omega

/-- The cells of findings, one behind the other. -/
def fcs (l : List Fd) : List Value := l.flatMap fun a => a.cs.toList
theorem cs_len (a : Fd) : a.cs.toList.length = 8 := rfl
theorem fcs_len : ∀ l : List Fd, (fcs l).length = l.length * 8
  | [] => rfl
  | a :: l => by
    have := fcs_len l
    simp only [fcs, List.flatMap_cons, List.length_append, cs_len, List.length_cons] at *
    omega
theorem fcs_get : ∀ (l : List Fd) (i : Nat) (a : Fd) (j : Nat), l[i]? = some a → j < 8 → (fcs l)[i * 8 + j]? = a.cs.toList[j]?
  | [], i, a, j, h, _ => by simp at h
  | x :: l, 0, a, j, h, hj => by
    have hx : x = a := by simpa using h
    subst hx
    simp only [fcs, List.flatMap_cons, Nat.zero_mul, Nat.zero_add]
    rw [List.getElem?_append_left (by rw [cs_len]; exact hj)]
  | x :: l, i + 1, a, j, h, hj => by
    have ih := fcs_get l i a j (by simpa using h) hj
    simp only [fcs, List.flatMap_cons] at *
    rw [List.getElem?_append_right (by rw [cs_len]; omega), cs_len, ← ih]
    congr 1
    omega
theorem one_cells (l : List Fd) : ∀ u ∈ fcs l, u.oneCell' = true := by
  intro u hu
  simp only [fcs, List.mem_flatMap] at hu
  obtain ⟨a, _, hu⟩ := hu
  simp only [Fd.cs, List.mem_cons, List.not_mem_nil, or_false] at hu
  rcases hu with rfl | rfl | rfl | rfl | rfl | rfl | rfl | rfl <;> rfl
/-- Cells that lie so are findings. -/
theorem at_of_cells {w : World} {b off : Nat} {l : List Fd} (h : ∀ j u, (fcs l)[j]? = some u → w.cell? ⟨b, off + j, none⟩ = some u) : FdAt w b off l := fun i a hi => by
  have g : ∀ j, j < 8 → w.cell? ⟨b, off + i * 8 + j, none⟩ = a.cs.toList[j]? := fun j hj => by
    have e := fcs_get l i a j hi hj
    obtain ⟨u, hu⟩ : ∃ u, a.cs.toList[j]? = some u := ⟨_, List.getElem?_eq_getElem (by rw [cs_len]; exact hj)⟩
    rw [hu] at e ⊢
    rw [Nat.add_assoc]
    exact h _ u e
  exact ⟨g 0 (by omega), g 1 (by omega), g 2 (by omega), g 3 (by omega), g 4 (by omega), g 5 (by omega), g 6 (by omega), g 7 (by omega)⟩
theorem own_sl {w : World} {base : Nat} {A : Option Addr} {n c : Nat} {l : List Fd} (h : w.ownsRow base 27 8 (.slice A n c) n (fcs l)) : FdSl w w.heap.size A l := fun hne => by
  have hn : l.length * 8 = n * 8 := by rw [← fcs_len]; exact h.1
  have hpos : 0 < l.length := by cases l with | nil => exact absurd rfl hne | cons _ _ => simp
  obtain ⟨g, cap, hv, _, hlt⟩ := h.form (by omega)
  injection hv with hA
  subst hA
  refine ⟨g, 0, rfl, hlt, at_of_cells fun j u hu => ?_⟩
  have := h.cells (g := g) rfl j u hu
  unfold Addr.add at this
  split at this
  · subst_vars; simpa using this
  · simpa using this
theorem at_cells {w : World} {b off : Nat} {l : List Fd} (h : FdAt w b off l) : ∀ j u, (fcs l)[j]? = some u → w.cell? ⟨b, off + j, none⟩ = some u := by
  intro j u hu
  have hlt : j < l.length * 8 := by
    rw [← fcs_len]
    exact (List.getElem?_eq_some_iff.1 hu).1
  obtain ⟨a, ha⟩ : ∃ a, l[j / 8]? = some a := ⟨_, List.getElem?_eq_getElem (by omega)⟩
  have e := fcs_get l (j / 8) a (j % 8) ha (by omega)
  rw [show j / 8 * 8 + j % 8 = j by omega, hu] at e
  obtain ⟨c0, c1, c2, c3, c4, c5, c6, c7⟩ := h _ a ha
  have hj : off + j = off + j / 8 * 8 + j % 8 := by omega
  rw [hj]
  have h8 : j % 8 < 8 := by omega
  revert e h8
  generalize j % 8 = r
  intro e h8
  match r, h8 with
  | 0, _ => rw [e]; exact c0
  | 1, _ => rw [e]; exact c1
  | 2, _ => rw [e]; exact c2
  | 3, _ => rw [e]; exact c3
  | 4, _ => rw [e]; exact c4
  | 5, _ => rw [e]; exact c5
  | 6, _ => rw [e]; exact c6
  | 7, _ => rw [e]; exact c7
theorem info27 : (Try.prog.info? 27).map (fun i => (i.zero, i.size, i.bytes)) = some (some Fd.zero.val, 8, 72) := by kernel_rfl
end Go.Proofs.Ytmlklbbkkggpkaa.aud
