/- Plain facts of Unshow: what is told by Show is valid UTF-8; of valid text the reading by runes and that by bytes give the same. No program in sight. -/
import Derived.Test.YtmlklbbkkggpkaaDoorShowQ
import Derived.Lib.ValidU
namespace Go.Proofs.YtmlklbbkkggpkaaDoor.show_
set_option linter.unusedVariables false

/-- A letter stays the letter whatever follows its bytes. -/
theorem letL_pre (L R : List UInt8) (v n : Nat) (h : letL L = (v, n)) (hn : n ≠ 0) (hL : L ≠ []) : letL (L.take n ++ R) = (v, n) := by
  obtain ⟨hle, h1, h4, _⟩ := let_enc L v n h hL hn
  have hb : ∀ i, i < n → bat (L.take n ++ R) i = bat L i := fun i hi => by
    unfold bat
    rw [List.getElem?_append_left (by rw [List.length_take]; omega), List.getElem?_take, if_pos hi]
  have hlen : n ≤ (L.take n ++ R).length := by rw [List.length_append, List.length_take]; omega
  have h0 := hb 0 (by omega)
  unfold letL letN at h ⊢
  rw [h0]
  by_cases c1 : bat L 0 < 128
  · rw [if_pos c1] at h ⊢
    exact h
  · rw [if_neg c1] at h ⊢
    by_cases c2 : 192 ≤ bat L 0 ∧ bat L 0 < 224
    · rw [if_pos c2] at h ⊢
      split at h
      · injection h with _ e
        exact absurd e.symm hn
      · rename_i hs
        have hn2 : n = 2 := (fin_some h hn).2.1
        rw [hb 1 (by omega), if_neg (fun e => hs (e.imp (fun e => by omega) id))]
        exact h
    · rw [if_neg c2] at h ⊢
      by_cases c3 : 224 ≤ bat L 0 ∧ bat L 0 < 240
      · rw [if_pos c3] at h ⊢
        split at h
        · injection h with _ e
          exact absurd e.symm hn
        · rename_i hs
          have hn2 : n = 3 := (fin_some h hn).2.1
          rw [hb 1 (by omega), hb 2 (by omega), if_neg (fun e => hs (e.imp (fun e => by omega) id))]
          exact h
      · rw [if_neg c3] at h ⊢
        by_cases c4 : 240 ≤ bat L 0 ∧ bat L 0 < 248
        · rw [if_pos c4] at h ⊢
          split at h
          · injection h with _ e
            exact absurd e.symm hn
          · rename_i hs
            have hn2 : n = 4 := (fin_some h hn).2.1
            rw [hb 1 (by omega), hb 2 (by omega), hb 3 (by omega), if_neg (fun e => hs (e.imp (fun e => by omega) id))]
            exact h
        · rw [if_neg c4] at h ⊢
          exact h
theorem letL_ascii (b : UInt8) (R : List UInt8) (h : b.toNat < 128) : letL (b :: R) = (b.toNat, 1) := by
  unfold letL letN
  have : bat (b :: R) 0 = b.toNat := rfl
  rw [this, if_pos h]
/-- A letter of more bytes is no ASCII letter, and begins with none. -/
theorem letL_wide (b : UInt8) (R : List UInt8) (v n : Nat) (h : letL (b :: R) = (v, n)) (hn : n ≠ 0) (hb : ¬ b.toNat < 128) : 128 ≤ v ∧ 2 ≤ n := by
  obtain ⟨_, h1, _, henc, hrl, _, hsm⟩ := let_enc _ v n h (by simp) hn
  have hv : 128 ≤ v := by
    apply Classical.byContradiction
    intro hlt
    have := (hsm (by omega)).1
    simp only [List.take_succ_cons, List.take_zero, List.cons.injEq, and_true] at this
    rw [this] at hb
    apply hb
    simp
    omega
  refine ⟨hv, ?_⟩
  unfold Lib.runeLen at hrl
  rw [if_neg (by omega), if_neg (by omega)] at hrl
  repeat' split at hrl
  all_goals omega

/-- All of it is letters. -/
def vF : Nat → List UInt8 → Bool
  | 0, _ => true
  | f + 1, L => if L = [] then true else if (letL L).2 = 0 then false else vF f (L.drop (letL L).2)
theorem decL_bad (L : List UInt8) (hL : L ≠ []) : ((decL L).1 = 65533 ∧ (decL L).2 = 1) ↔ (letL L).2 = 0 := by
  rw [decL_eq]
  by_cases h0 : (letL L).2 = 0
  · rw [if_pos h0]
    simp [h0]
  · rw [if_neg h0]
    refine ⟨fun ⟨h1, h2⟩ => ?_, fun h => absurd h h0⟩
    obtain ⟨_, _, _, _, hrl, _⟩ := let_enc L (letL L).1 (letL L).2 rfl hL h0
    rw [h1, h2] at hrl
    exact absurd hrl (by decide)
theorem vF_more : ∀ (f g : Nat) (L : List UInt8), L.length ≤ f → L.length ≤ g → vF f L = vF g L
  | 0, 0, _, _, _ => rfl
  | 0, g + 1, L, h, _ => by
    have : L = [] := List.eq_nil_of_length_eq_zero (by omega)
    subst this
    rfl
  | f + 1, 0, L, _, h => by
    have : L = [] := List.eq_nil_of_length_eq_zero (by omega)
    subst this
    rfl
  | f + 1, g + 1, L, hf, hg => by
    by_cases hL : L = []
    · simp [vF, hL]
    · by_cases h0 : (letL L).2 = 0
      · simp [vF, hL, h0]
      · simp only [vF, hL, h0, if_false]
        exact vF_more f g _ (by rw [List.length_drop]; omega) (by rw [List.length_drop]; omega)
def valid_ (L : List UInt8) : Bool := vF L.length L
theorem valid_nil : valid_ [] = true := rfl
theorem valid_step (L : List UInt8) (hL : L ≠ []) : valid_ L = if (letL L).2 = 0 then false else valid_ (L.drop (letL L).2) := by
  have hpos : 1 ≤ L.length := by cases L with | nil => exact absurd rfl hL | cons _ _ => simp
  unfold valid_
  obtain ⟨f, hf⟩ : ∃ f, L.length = f + 1 := ⟨L.length - 1, by omega⟩
  rw [hf]
  by_cases h0 : (letL L).2 = 0
  · simp [vF, hL, h0]
  · simp only [vF, hL, h0, if_false]
    exact vF_more f _ _ (by rw [List.length_drop]; omega) (Nat.le_refl _)
theorem valid_ascii (b : UInt8) (R : List UInt8) (h : b.toNat < 128) : valid_ (b :: R) = valid_ R := by
  rw [valid_step _ (by simp), letL_ascii b R h]
  rfl
theorem valid_asciis : ∀ (P R : List UInt8), (∀ b ∈ P, b.toNat < 128) → valid_ (P ++ R) = valid_ R
  | [], R, _ => rfl
  | b :: P, R, h => by
    rw [List.cons_append, valid_ascii b _ (h b (by simp)), valid_asciis P R (fun c hc => h c (by simp [hc]))]
theorem hexD_ascii (n : Nat) : (hexD n).toNat < 128 := by
  by_cases h : n < 16
  · revert n
    decide
  · have : hexD n = 0 := by
      unfold hexD
      rw [List.getD_eq_getElem?_getD, List.getElem?_eq_none (by simp; omega)]
      rfl
    rw [this]
    decide
theorem told_ascii (l : List UInt8) : ∀ b ∈ toldL l, b.toNat < 128 := by
  intro b hb
  unfold toldL at hb
  rw [List.mem_flatMap] at hb
  obtain ⟨a, _, h⟩ := hb
  unfold told1 at h
  simp only [List.mem_cons, List.not_mem_nil, or_false] at h
  rcases h with rfl | rfl | rfl | rfl
  · decide
  · decide
  · exact hexD_ascii _
  · exact hexD_ascii _
theorem showL_valid (K : List UInt8) : valid_ (showL K) = true := by
  suffices h : ∀ f (L : List UInt8), L.length ≤ f → valid_ (showL L) = true from h _ K (Nat.le_refl _)
  intro f
  induction f with
  | zero =>
    intro L h
    have : L = [] := List.eq_nil_of_length_eq_zero (by omega)
    subst this
    rfl
  | succ f ih =>
    intro L h
    by_cases hL : L = []
    · subst hL
      rfl
    · have h1 := piece_adv L hL
      have h3 := ih (L.drop (pieceR L).2) (by rw [List.length_drop]; omega)
      rw [showL_step L hL]
      generalize showL (L.drop (pieceR L).2) = R at h3 ⊢
      by_cases h0 : (letL L).2 = 0
      · have e : pieceR L = (toldL (L.take 1), 1) := by unfold pieceR; rw [if_pos h0]
        rw [e, valid_asciis _ _ (told_ascii _)]
        exact h3
      · by_cases h34 : (letL L).1 = 34 ∨ (letL L).1 = 92
        · have e : pieceR L = (92 :: L.take 1, (letL L).2) := by unfold pieceR; rw [if_neg h0, if_pos h34]
          obtain ⟨_, _, _, _, _, _, hsm⟩ := let_enc L (letL L).1 (letL L).2 rfl hL h0
          have ht := (hsm (by omega)).1
          rw [e, valid_asciis _ _ (fun b hb => by
            rw [ht] at hb
            simp only [List.mem_cons, List.not_mem_nil, or_false] at hb
            rcases hb with rfl | rfl
            · decide
            · rcases h34 with h | h <;> rw [h] <;> decide)]
          exact h3
        · by_cases hp : plainN (letL L).1 = true
          · have e : pieceR L = (L.take (letL L).2, (letL L).2) := by unfold pieceR; rw [if_neg h0, if_neg h34, if_pos hp]
            rw [e]
            have hpre := letL_pre L R (letL L).1 (letL L).2 rfl h0 hL
            obtain ⟨hle, hn1, _⟩ := let_enc L (letL L).1 (letL L).2 rfl hL h0
            have hne : L.take (letL L).2 ++ R ≠ [] := by
              intro hh
              have := congrArg List.length hh
              rw [List.length_append, List.length_take, Nat.min_eq_left hle, List.length_nil] at this
              omega
            rw [valid_step _ hne, hpre, if_neg h0]
            have hd : (L.take (letL L).2 ++ R).drop (letL L).2 = R := by
              rw [List.drop_append, List.length_take, Nat.min_eq_left hle, List.drop_of_length_le (by rw [List.length_take]; omega)]
              simp
            show valid_ ((L.take (letL L).2 ++ R).drop (letL L).2) = true
            rw [hd]
            exact h3
          · have e : pieceR L = (toldL (L.take (letL L).2), (letL L).2) := by unfold pieceR; rw [if_neg h0, if_neg h34, if_neg hp]
            rw [e, valid_asciis _ _ (told_ascii _)]
            exact h3
end Go.Proofs.YtmlklbbkkggpkaaDoor.show_
