/- Plain facts of layer 30's Show, over lists of bytes: the program's pieces are the document's. No program in sight. -/
import Derived.Test.YtmlklbbkkggpkaaDoorShowP
import Derived.Lib.Small
namespace Go.Proofs.YtmlklbbkkggpkaaDoor.show_
set_option linter.unusedVariables false

def bat (L : List UInt8) (i : Nat) : Nat := (L[i]?.getD 0).toNat
theorem bat_lt (L : List UInt8) (i : Nat) : bat L i < 256 := UInt8.toNat_lt _
def letL (L : List UInt8) : Nat × Nat := letN L.length (bat L 0) (bat L 1) (bat L 2) (bat L 3)
def decL (L : List UInt8) : Nat × Nat := decN L.length (bat L 0) (bat L 1) (bat L 2) (bat L 3)
theorem decL_eq (L : List UInt8) : decL L = if (letL L).2 = 0 then (65533, 1) else letL L := dec_let _ _ _ _ _ (bat_lt _ _) (bat_lt _ _) (bat_lt _ _) (bat_lt _ _)

def hexD (n : Nat) : UInt8 := [48, 49, 50, 51, 52, 53, 54, 55, 56, 57, 97, 98, 99, 100, 101, 102].getD n 0
def told1 (b : UInt8) : List UInt8 := [92, 120, hexD (b.toNat / 16), hexD (b.toNat % 16)]
def toldL (l : List UInt8) : List UInt8 := l.flatMap told1
def plainN (v : Nat) : Bool := (32 ≤ v && v ≤ 126) || 160 ≤ v

/-- The document's piece at the head of the bytes, and how far it goes. -/
def pieceR (L : List UInt8) : List UInt8 × Nat :=
  if (letL L).2 = 0 then (toldL (L.take 1), 1)
  else if (letL L).1 = 34 ∨ (letL L).1 = 92 then (92 :: L.take 1, (letL L).2)
  else if plainN (letL L).1 then (L.take (letL L).2, (letL L).2)
  else (toldL (L.take (letL L).2), (letL L).2)
/-- Is the replacement that was read no letter of its own? -/
def badP (L : List UInt8) : Prop := (decL L).1 = 65533 ∧ (L.length < 3 ∨ L.take 3 ≠ [239, 191, 189])
instance (L : List UInt8) : Decidable (badP L) := by unfold badP; exact inferInstance
def pieceP (L : List UInt8) : List UInt8 × Nat :=
  if badP L then (toldL (L.take 1), (decL L).2)
  else if (decL L).1 = 34 ∨ (decL L).1 = 92 then ([92, (decL L).1.toUInt8], (decL L).2)
  else if plainN (decL L).1 then (Lib.encodeRune (decL L).1, (decL L).2)
  else (toldL (L.take (Lib.runeLen (decL L).1).toNat), (decL L).2)

theorem u8_of (a : UInt8) (z : Int) (h : z = (a.toNat : Int)) : z.toNat.toUInt8 = a := by
  subst h
  simp

theorem fin_some {v n least x y : Nat} (h : fin_ v n least = (x, y)) (hn : y ≠ 0) : x = v ∧ y = n ∧ ¬ (v < least ∨ v > 1114111 ∨ (55296 ≤ v ∧ v < 57344)) := by
  unfold fin_ at h
  split at h
  · have := congrArg Prod.snd h
    exact absurd this.symm hn
  · rename_i hh
    exact ⟨(congrArg Prod.fst h).symm, (congrArg Prod.snd h).symm, hh⟩

set_option maxRecDepth 100000 in
theorem more1 (a : UInt8) (t : List UInt8) (h : 2 ≤ (a :: t).length) : ∃ b t', t = b :: t' := by
  cases t with
  | nil => simp at h
  | cons b t => exact ⟨b, t, rfl⟩
theorem more2 (a : UInt8) (t : List UInt8) (h : 3 ≤ (a :: t).length) : ∃ b c t', t = b :: c :: t' := by
  cases t with
  | nil => simp at h
  | cons b t => cases t with
    | nil => simp at h
    | cons c t => exact ⟨b, c, t, rfl⟩
theorem more3 (a : UInt8) (t : List UInt8) (h : 4 ≤ (a :: t).length) : ∃ b c d t', t = b :: c :: d :: t' := by
  cases t with
  | nil => simp at h
  | cons b t => cases t with
    | nil => simp at h
    | cons c t => cases t with
      | nil => simp at h
      | cons d t => exact ⟨b, c, d, t, rfl⟩

/-- A letter's bytes are its encoding. -/
theorem let_enc (L : List UInt8) (v n : Nat) (h : letL L = (v, n)) (hL : L ≠ []) (hn : n ≠ 0) : n ≤ L.length ∧ 1 ≤ n ∧ n ≤ 4 ∧ Lib.encodeRune v = L.take n ∧ Lib.runeLen v = n ∧ v ≤ 1114111 ∧ (v < 128 → L.take 1 = [v.toUInt8] ∧ n = 1) := by
  unfold letL letN at h
  obtain ⟨a, t, rfl⟩ := List.exists_cons_of_ne_nil hL
  have ha : bat (a :: t) 0 = a.toNat := rfl
  have ha' := UInt8.toNat_lt a
  rw [ha] at h
  by_cases h1 : a.toNat < 128
  · rw [if_pos h1] at h
    injection h with hv hn'
    subst hv hn'
    refine ⟨by simp, by omega, by omega, ?_, ?_, by omega, fun _ => ⟨by simp, rfl⟩⟩
    · unfold Lib.encodeRune
      rw [Lib.encodeRuneZ_one (by omega) (by omega)]
      simp
    · unfold Lib.runeLen
      rw [if_neg (by omega), if_pos (by omega)]
      rfl
  · rw [if_neg h1] at h
    by_cases h2 : 192 ≤ a.toNat ∧ a.toNat < 224
    · rw [if_pos h2] at h
      split at h
      · injection h with _ hn'
        exact absurd hn'.symm hn
      · rename_i hs
        obtain ⟨hv, hn2, hf⟩ := fin_some h hn
        rw [← hv] at hf
        clear h
        subst hn2
        obtain ⟨b, t', ht'⟩ := more1 a t (Nat.not_lt.1 fun e => hs (Or.inl e))
        subst ht'
        have hb : bat (a :: b :: t') 1 = b.toNat := rfl
        rw [hb] at hs hv
        have hb' := UInt8.toNat_lt b
        have hcb : ¬ cont b.toNat = false := fun e => hs (Or.inr e)
        unfold cont at hcb
        simp at hcb
        refine ⟨by simp, by omega, by omega, ?_, ?_, by omega, fun hlt => by omega⟩
        · unfold Lib.encodeRune
          rw [Lib.encodeRuneZ_two (by omega) (by omega)]
          simp only [List.map_cons, List.map_nil, List.take_succ_cons, List.take_zero]
          rw [u8_of a _ (by omega), u8_of b _ (by omega)]
        · unfold Lib.runeLen
          rw [if_neg (by omega), if_neg (by omega), if_pos (by omega)]
          rfl
    · rw [if_neg h2] at h
      by_cases h3 : 224 ≤ a.toNat ∧ a.toNat < 240
      · rw [if_pos h3] at h
        split at h
        · injection h with _ hn'
          exact absurd hn'.symm hn
        · rename_i hs
          obtain ⟨hv, hn2, hf⟩ := fin_some h hn
          rw [← hv] at hf
          clear h
          subst hn2
          obtain ⟨b, c, t', ht'⟩ := more2 a t (Nat.not_lt.1 fun e => hs (Or.inl e))
          subst ht'
          have hb : bat (a :: b :: c :: t') 1 = b.toNat := rfl
          have hc : bat (a :: b :: c :: t') 2 = c.toNat := rfl
          rw [hb, hc] at hs hv
          have hb' := UInt8.toNat_lt b
          have hc' := UInt8.toNat_lt c
          have hcb : ¬ cont b.toNat = false := fun e => hs (Or.inr (Or.inl e))
          have hcc : ¬ cont c.toNat = false := fun e => hs (Or.inr (Or.inr e))
          unfold cont at hcb hcc
          simp at hcb hcc
          refine ⟨by simp, by omega, by omega, ?_, ?_, by omega, fun hlt => by omega⟩
          · unfold Lib.encodeRune
            rw [Lib.encodeRuneZ_three (by omega)]
            simp only [List.map_cons, List.map_nil, List.take_succ_cons, List.take_zero]
            rw [u8_of a _ (by omega), u8_of b _ (by omega), u8_of c _ (by omega)]
          · unfold Lib.runeLen
            rw [if_neg (by omega), if_neg (by omega), if_neg (by omega), if_neg (by omega), if_pos (by omega)]
            rfl
      · rw [if_neg h3] at h
        by_cases h4 : 240 ≤ a.toNat ∧ a.toNat < 248
        · rw [if_pos h4] at h
          split at h
          · injection h with _ hn'
            exact absurd hn'.symm hn
          · rename_i hs
            obtain ⟨hv, hn2, hf⟩ := fin_some h hn
            rw [← hv] at hf
            clear h
            subst hn2
            obtain ⟨b, c, d, t', ht'⟩ := more3 a t (Nat.not_lt.1 fun e => hs (Or.inl e))
            subst ht'
            have hb : bat (a :: b :: c :: d :: t') 1 = b.toNat := rfl
            have hc : bat (a :: b :: c :: d :: t') 2 = c.toNat := rfl
            have hd : bat (a :: b :: c :: d :: t') 3 = d.toNat := rfl
            rw [hb, hc, hd] at hs hv
            have hb' := UInt8.toNat_lt b
            have hc' := UInt8.toNat_lt c
            have hd' := UInt8.toNat_lt d
            have hcb : ¬ cont b.toNat = false := fun e => hs (Or.inr (Or.inl e))
            have hcc : ¬ cont c.toNat = false := fun e => hs (Or.inr (Or.inr (Or.inl e)))
            have hcd : ¬ cont d.toNat = false := fun e => hs (Or.inr (Or.inr (Or.inr e)))
            unfold cont at hcb hcc hcd
            simp at hcb hcc hcd
            refine ⟨by simp, by omega, by omega, ?_, ?_, by omega, fun hlt => by omega⟩
            · unfold Lib.encodeRune
              rw [Lib.encodeRuneZ_four (by omega) (by omega)]
              simp only [List.map_cons, List.map_nil, List.take_succ_cons, List.take_zero]
              rw [u8_of a _ (by omega), u8_of b _ (by omega), u8_of c _ (by omega), u8_of d _ (by omega)]
            · unfold Lib.runeLen
              rw [if_neg (by omega), if_neg (by omega), if_neg (by omega), if_neg (by omega), if_neg (by omega), if_pos (by omega)]
              rfl
        · rw [if_neg h4] at h
          injection h with _ hn'
          exact absurd hn'.symm hn

theorem let_fffd (t : List UInt8) : letL (239 :: 191 :: 189 :: t) = (65533, 3) := by
  unfold letL
  have h0 : bat (239 :: 191 :: 189 :: t) 0 = 239 := rfl
  have h1 : bat (239 :: 191 :: 189 :: t) 1 = 191 := rfl
  have h2 : bat (239 :: 191 :: 189 :: t) 2 = 189 := rfl
  rw [h0, h1, h2]
  simp [letN, cont, fin_]

theorem piece_eq (L : List UInt8) (hL : L ≠ []) : pieceP L = pieceR L := by
  have hd := decL_eq L
  unfold pieceP pieceR
  by_cases h0 : (letL L).2 = 0
  · rw [if_pos h0] at hd
    rw [if_pos h0]
    have hb : badP L := by
      unfold badP
      rw [hd]
      refine ⟨rfl, ?_⟩
      by_cases h3 : L.length < 3
      · exact Or.inl h3
      · refine Or.inr fun he => ?_
        match L, h3 with
        | a :: b :: c :: t, _ =>
          simp only [List.take_succ_cons, List.take_zero, List.cons.injEq, and_true] at he
          obtain ⟨rfl, rfl, rfl⟩ := he
          rw [let_fffd] at h0
          cases h0
        | [], h => simp at h
        | [_], h => simp at h
        | [_, _], h => simp at h
    rw [if_pos hb, hd]
  · rw [if_neg h0] at hd
    rw [if_neg h0]
    obtain ⟨hle, h1, h4, henc, hrl, hmax, hsm⟩ := let_enc L (letL L).1 (letL L).2 rfl hL h0
    have hb : ¬ badP L := by
      unfold badP
      rw [hd]
      rintro ⟨hv, hor⟩
      rw [hv] at henc hrl
      have hn : (letL L).2 = 3 := by
        have : Lib.runeLen ((65533 : Nat) : Int) = 3 := by decide
        rw [this] at hrl
        omega
      rw [hn] at henc hle
      rcases hor with h | h
      · omega
      · apply h
        rw [← henc]
        decide
    rw [if_neg hb, hd]
    by_cases h34 : (letL L).1 = 34 ∨ (letL L).1 = 92
    · rw [if_pos h34, if_pos h34]
      have := (hsm (by omega)).1
      rw [this]
    · rw [if_neg h34, if_neg h34, henc, hrl]
      simp

theorem piece_adv (L : List UInt8) (hL : L ≠ []) : 1 ≤ (pieceR L).2 ∧ (pieceR L).2 ≤ L.length := by
  have hpos : 1 ≤ L.length := by cases L with | nil => exact absurd rfl hL | cons _ _ => simp
  unfold pieceR
  by_cases h0 : (letL L).2 = 0
  · rw [if_pos h0]
    exact ⟨Nat.le_refl _, hpos⟩
  · obtain ⟨hle, h1, _⟩ := let_enc L (letL L).1 (letL L).2 rfl hL h0
    rw [if_neg h0]
    split
    · exact ⟨h1, hle⟩
    · split <;> exact ⟨h1, hle⟩

def showF : Nat → List UInt8 → List UInt8
  | 0, _ => []
  | f + 1, L => if L = [] then [] else (pieceR L).1 ++ showF f (L.drop (pieceR L).2)
theorem showF_more : ∀ (f g : Nat) (L : List UInt8), L.length ≤ f → L.length ≤ g → showF f L = showF g L
  | 0, 0, _, _, _ => rfl
  | 0, g + 1, L, h, _ => by
    have : L = [] := List.eq_nil_of_length_eq_zero (by omega)
    subst this
    simp [showF]
  | f + 1, 0, L, _, h => by
    have : L = [] := List.eq_nil_of_length_eq_zero (by omega)
    subst this
    simp [showF]
  | f + 1, g + 1, L, hf, hg => by
    by_cases hL : L = []
    · simp [showF, hL]
    · have ha := piece_adv L hL
      simp only [showF, hL, if_false]
      rw [showF_more f g _ (by rw [List.length_drop]; omega) (by rw [List.length_drop]; omega)]
/-- What Show tells. -/
def showL (L : List UInt8) : List UInt8 := showF L.length L
theorem showL_nil : showL [] = [] := rfl
theorem showL_step (L : List UInt8) (hL : L ≠ []) : showL L = (pieceR L).1 ++ showL (L.drop (pieceR L).2) := by
  have hpos : 1 ≤ L.length := by cases L with | nil => exact absurd rfl hL | cons _ _ => simp
  have ha := piece_adv L hL
  unfold showL
  obtain ⟨f, hf⟩ : ∃ f, L.length = f + 1 := ⟨L.length - 1, by omega⟩
  rw [hf]
  simp only [showF, hL, if_false]
  rw [showF_more f (L.drop (pieceR L).2).length _ (by rw [List.length_drop]; omega) (Nat.le_refl _)]
theorem toldL_len : ∀ l : List UInt8, (toldL l).length = 4 * l.length
  | [] => rfl
  | a :: l => by
    have := toldL_len l
    simp only [toldL, List.flatMap_cons, List.length_append, List.length_cons] at *
    rw [this]
    simp [told1]
    omega
theorem piece_len (L : List UInt8) (hL : L ≠ []) : (pieceR L).1.length ≤ 4 * (pieceR L).2 := by
  have ha := piece_adv L hL
  unfold pieceR at ha ⊢
  split
  · rw [toldL_len, List.length_take]
    omega
  · rename_i h0
    rw [if_neg h0] at ha
    obtain ⟨hle, h1, _⟩ := let_enc L (letL L).1 (letL L).2 rfl hL h0
    split
    · simp
      omega
    · split
      · rw [List.length_take]
        show min (letL L).2 L.length ≤ 4 * (letL L).2
        omega
      · rw [toldL_len, List.length_take]
        show 4 * min (letL L).2 L.length ≤ 4 * (letL L).2
        omega
end Go.Proofs.YtmlklbbkkggpkaaDoor.show_
