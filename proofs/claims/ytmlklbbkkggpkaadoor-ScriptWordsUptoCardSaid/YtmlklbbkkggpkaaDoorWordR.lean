/- Plain facts of a line's words: where a quoted word ends, told by the program's way and by the document's; one step; all words. No program in sight. -/
import Derived.Test.YtmlklbbkkggpkaaDoorWordQ
import Derived.Test.YtmlklbbkkggpkaaDoorWordH
namespace Go.Proofs.YtmlklbbkkggpkaaDoor.show_
set_option linter.unusedVariables false

/-- Where the quote stands that ends what begins: a backslash hides what follows. -/
def closeP : Nat → List UInt8 → Option Nat
  | 0, _ => none
  | f + 1, [] => none
  | f + 1, b :: t => if b = 34 then some 0 else if b = 92 then (closeP f (t.drop 1)).map (· + 2) else (closeP f t).map (· + 1)
theorem closeP_more : ∀ (f g : Nat) (L : List UInt8), L.length < f → L.length < g → closeP f L = closeP g L
  | 0, _, _, h, _ => absurd h (Nat.not_lt_zero _)
  | _ + 1, 0, _, _, h => absurd h (Nat.not_lt_zero _)
  | f + 1, g + 1, [], _, _ => rfl
  | f + 1, g + 1, b :: t, hf, hg => by
    simp only [List.length_cons] at hf hg
    unfold closeP
    rw [closeP_more f g t (by omega) (by omega), closeP_more f g (t.drop 1) (by rw [List.length_drop]; omega) (by rw [List.length_drop]; omega)]
def closeL (L : List UInt8) : Option Nat := closeP (L.length + 1) L
theorem closeL_nil : closeL [] = none := rfl
theorem closeL_cons (b : UInt8) (t : List UInt8) : closeL (b :: t) = if b = 34 then some 0 else if b = 92 then (closeL (t.drop 1)).map (· + 2) else (closeL t).map (· + 1) := by
  show closeP (t.length + 1 + 1) (b :: t) = _
  unfold closeP closeL
  rw [closeP_more (t.length + 1) ((t.drop 1).length + 1) (t.drop 1) (by rw [List.length_drop]; omega) (by omega)]
/-- The document counts the backslashes ahead. -/
def closeR : Nat → List UInt8 → Option Nat
  | _, [] => none
  | s, b :: t => if b = 34 ∧ s % 2 = 0 then some 0 else (closeR (if b = 92 then s + 1 else 0) t).map (· + 1)
theorem closeR_odd (s : Nat) (b : UInt8) (t : List UInt8) (h : s % 2 = 1) : ∃ s', s' % 2 = 0 ∧ closeR s (b :: t) = (closeR s' t).map (· + 1) := by
  refine ⟨if b = 92 then s + 1 else 0, ?_, ?_⟩
  · split <;> omega
  · show (if b = 34 ∧ s % 2 = 0 then some 0 else _) = _
    rw [if_neg (by omega)]
theorem close_same : ∀ (f : Nat) (L : List UInt8) (s : Nat), L.length ≤ f → s % 2 = 0 → closeR s L = closeL L
  | _, [], _, _, _ => rfl
  | 0, b :: t, _, h, _ => absurd h (by simp)
  | f + 1, b :: t, s, h, hs => by
    simp only [List.length_cons] at h
    rw [closeL_cons]
    show (if b = 34 ∧ s % 2 = 0 then some 0 else (closeR (if b = 92 then s + 1 else 0) t).map (· + 1)) = _
    by_cases h34 : b = 34
    · rw [if_pos ⟨h34, hs⟩, if_pos h34]
    · rw [if_neg (fun e => h34 e.1), if_neg h34]
      by_cases h92 : b = 92
      · rw [if_pos h92, if_pos h92]
        cases t with
        | nil => rfl
        | cons c t =>
          obtain ⟨s', hs', e⟩ := closeR_odd (s + 1) c t (by omega)
          simp only [List.length_cons] at h
          rw [e, close_same f t s' (by omega) hs']
          show _ = Option.map _ (closeL t)
          cases closeL t <;> rfl
      · rw [if_neg h92, if_neg h92, close_same f t 0 (by omega) rfl]
theorem closeL_lt : ∀ (f : Nat) (L : List UInt8) (k : Nat), L.length ≤ f → closeL L = some k → k < L.length
  | _, [], _, _, h => by cases h
  | 0, b :: t, _, hf, _ => absurd hf (by simp)
  | f + 1, b :: t, k, hf, h => by
    simp only [List.length_cons] at hf ⊢
    rw [closeL_cons] at h
    split at h
    · injection h with h
      omega
    · split at h
      · cases hc : closeL (t.drop 1) with
        | none => rw [hc] at h; cases h
        | some j =>
          rw [hc] at h
          have h : j + 2 = k := Option.some.inj h
          have := closeL_lt f (t.drop 1) j (by rw [List.length_drop]; omega) hc
          rw [List.length_drop] at this
          omega
      · cases hc : closeL t with
        | none => rw [hc] at h; cases h
        | some j =>
          rw [hc] at h
          have h : j + 1 = k := Option.some.inj h
          have := closeL_lt f t j (by omega) hc
          omega

/-- A word off a line that begins with no blank and no remark: the word, the rest, the error. -/
def quotedW (M : List UInt8) : List UInt8 × List UInt8 × Nat :=
  match closeL M with
  | none => ([], [], 320)
  | some k => match unR (M.take k) with
    | none => ([], [], 321)
    | some K => if (M.drop (k + 1)).head?.any nb then ([], [], 320) else (K, M.drop (k + 1), 0)
def bareW_ (L : List UInt8) : List UInt8 × List UInt8 × Nat :=
  if (plainR L).2 ≠ 0 then ([], [], (plainR L).2) else ((plainR L).1, L.drop (headW L).length, 0)
def stepW (L : List UInt8) : List UInt8 × List UInt8 × Nat := if L.head? = some 34 then quotedW (L.drop 1) else bareW_ L
def strip (L : List UInt8) : List UInt8 := L.dropWhile (fun b => !(nb b))
theorem strip_len (L : List UInt8) : (strip L).length ≤ L.length := (List.dropWhile_sublist _).length_le
theorem strip_head (L : List UInt8) (b : UInt8) (t : List UInt8) (h : strip L = b :: t) : nb b = true := by
  induction L with
  | nil => cases h
  | cons a L ih =>
    unfold strip at h
    rw [List.dropWhile_cons] at h
    split at h
    · exact ih h
    · rename_i hn
      injection h with h _
      subst h
      simpa using hn
theorem headW_pos (b : UInt8) (t : List UInt8) (h : nb b = true) : 1 ≤ (headW (b :: t)).length := by
  have := headW_go (b :: t) 0 b rfl h
  simp only [List.drop_zero] at this
  rw [this]
  simp
theorem stepW_len (L : List UInt8) (b : UInt8) (t : List UInt8) (hL : L = b :: t) (hb : nb b = true) (h : (stepW L).2.2 = 0) : (stepW L).2.1.length < L.length := by
  subst hL
  unfold stepW at h ⊢
  split
  · rename_i hq
    rw [if_pos hq] at h
    unfold quotedW at h ⊢
    simp only [List.drop_succ_cons, List.drop_zero] at h ⊢
    cases hc : closeL t with
    | none => simp
    | some k =>
      simp only
      cases unR (t.take k) with
      | none => simp
      | some K =>
        simp only
        split
        · simp
        · simp only [List.length_drop, List.length_cons]
          omega
  · unfold bareW_
    split
    · simp
    · have := headW_pos b t hb
      simp only [List.length_drop]
      have h2 := headW_len (b :: t)
      omega
def wordsF : Nat → List UInt8 → List (List UInt8) × Nat
  | 0, _ => ([], 0)
  | f + 1, L =>
    if strip L = [] ∨ (strip L).head? = some 35 then ([], 0)
    else if (stepW (strip L)).2.2 ≠ 0 then ([], (stepW (strip L)).2.2)
    else if (wordsF f (stepW (strip L)).2.1).2 ≠ 0 then ([], (wordsF f (stepW (strip L)).2.1).2)
    else ((stepW (strip L)).1 :: (wordsF f (stepW (strip L)).2.1).1, 0)
theorem wordsF_more : ∀ (f g : Nat) (L : List UInt8), L.length < f → L.length < g → wordsF f L = wordsF g L
  | 0, _, _, h, _ => absurd h (Nat.not_lt_zero _)
  | _ + 1, 0, _, _, h => absurd h (Nat.not_lt_zero _)
  | f + 1, g + 1, L, hf, hg => by
    unfold wordsF
    by_cases h0 : strip L = [] ∨ (strip L).head? = some 35
    · rw [if_pos h0, if_pos h0]
    · rw [if_neg h0, if_neg h0]
      by_cases h1 : (stepW (strip L)).2.2 ≠ 0
      · rw [if_pos h1, if_pos h1]
      · rw [if_neg h1, if_neg h1]
        obtain ⟨b, t, hbt⟩ := List.exists_cons_of_ne_nil (fun e => h0 (Or.inl e))
        have h2 := stepW_len (strip L) b t hbt (strip_head L b t hbt) (by simpa using h1)
        have h3 := strip_len L
        rw [wordsF_more f g (stepW (strip L)).2.1 (by omega) (by omega)]
/-- The words of a line, and the error. -/
def wordsL (L : List UInt8) : List (List UInt8) × Nat := wordsF (L.length + 1) L
/-- Words gathered, then those of the rest. -/
def after_ (acc : List (List UInt8)) (p : List (List UInt8) × Nat) : List (List UInt8) × Nat := if p.2 ≠ 0 then ([], p.2) else (acc ++ p.1, 0)
theorem wordsL_end (L : List UInt8) (h : strip L = [] ∨ (strip L).head? = some 35) : wordsL L = ([], 0) := by
  show wordsF (L.length + 1) L = _
  unfold wordsF
  rw [if_pos h]
theorem wordsL_err (L : List UInt8) (h : ¬ (strip L = [] ∨ (strip L).head? = some 35)) (he : (stepW (strip L)).2.2 ≠ 0) : wordsL L = ([], (stepW (strip L)).2.2) := by
  show wordsF (L.length + 1) L = _
  unfold wordsF
  rw [if_neg h, if_pos he]
theorem wordsL_step (L : List UInt8) (h : ¬ (strip L = [] ∨ (strip L).head? = some 35)) (he : (stepW (strip L)).2.2 = 0) (acc : List (List UInt8)) :
    after_ acc (wordsL L) = after_ (acc ++ [(stepW (strip L)).1]) (wordsL (stepW (strip L)).2.1) ∧ (stepW (strip L)).2.1.length < L.length := by
  obtain ⟨b, t, hbt⟩ := List.exists_cons_of_ne_nil (fun e => h (Or.inl e))
  have h2 := stepW_len (strip L) b t hbt (strip_head L b t hbt) he
  have h3 := strip_len L
  refine ⟨?_, by omega⟩
  have e : wordsL L = if (wordsL (stepW (strip L)).2.1).2 ≠ 0 then ([], (wordsL (stepW (strip L)).2.1).2) else ((stepW (strip L)).1 :: (wordsL (stepW (strip L)).2.1).1, 0) := by
    show wordsF (L.length + 1) L = _
    unfold wordsF
    rw [if_neg h, if_neg (by simpa using he)]
    unfold wordsL
    rw [wordsF_more L.length ((stepW (strip L)).2.1.length + 1) _ (by omega) (by omega)]
  rw [e]
  generalize wordsL (stepW (strip L)).2.1 = q
  unfold after_
  by_cases hq : q.2 ≠ 0
  · rw [if_pos hq, if_pos hq, if_pos hq]
  · rw [if_neg hq, if_neg hq]
    simp
end Go.Proofs.YtmlklbbkkggpkaaDoor.show_
