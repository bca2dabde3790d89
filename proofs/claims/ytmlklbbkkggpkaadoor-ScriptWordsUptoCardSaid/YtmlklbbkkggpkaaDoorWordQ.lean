/- Plain facts of Unshow: reading a text by runes and by bytes gives the same key wherever the text is valid. No program in sight. -/
import Derived.Test.YtmlklbbkkggpkaaDoorWordP
namespace Go.Proofs.YtmlklbbkkggpkaaDoor.show_
set_option linter.unusedVariables false

def hexV (c : Nat) : Nat := if 48 ≤ c ∧ c ≤ 57 then c - 48 else if 97 ≤ c ∧ c ≤ 102 then c - 87 else 16
/-- What stands behind a backslash: how many letters, and the byte that they say; 0: nothing. -/
def escL : List Nat → Nat × Nat
  | [] => (0, 0)
  | a :: t =>
    if a = 92 ∨ a = 34 then (1, a)
    else if a = 120 then (match t with
      | d :: e :: _ => if hexV d < 16 ∧ hexV e < 16 then (3, 16 * hexV d + hexV e) else (0, 0)
      | _ => (0, 0))
    else (0, 0)
theorem escL_le (t : List Nat) : (escL t).1 ≤ t.length := by
  unfold escL
  split
  · simp
  · split
    · simp
    · split
      · split
        · split
          · simp
          · simp
        · simp
      · simp
/-- The key, by a list of letters. -/
def unesc (enc : Nat → List UInt8) : Nat → List Nat → Option (List UInt8)
  | 0, _ => some []
  | f + 1, [] => some []
  | f + 1, r :: t =>
    if r = 92 then (if (escL t).1 = 0 then none else (unesc enc f (t.drop (escL t).1)).map ((escL t).2.toUInt8 :: ·))
    else (unesc enc f t).map (enc r ++ ·)
theorem unesc_more (enc : Nat → List UInt8) : ∀ (f g : Nat) (L : List Nat), L.length ≤ f → L.length ≤ g → unesc enc f L = unesc enc g L
  | 0, 0, _, _, _ => rfl
  | 0, g + 1, L, h, _ => by
    have : L = [] := List.eq_nil_of_length_eq_zero (by omega)
    subst this
    rfl
  | f + 1, 0, L, _, h => by
    have : L = [] := List.eq_nil_of_length_eq_zero (by omega)
    subst this
    rfl
  | f + 1, g + 1, [], _, _ => rfl
  | f + 1, g + 1, r :: t, hf, hg => by
    have h := escL_le t
    simp only [List.length_cons] at hf hg
    unfold unesc
    rw [unesc_more enc f g t (by omega) (by omega), unesc_more enc f g (t.drop (escL t).1) (by rw [List.length_drop]; omega) (by rw [List.length_drop]; omega)]
def unescL (enc : Nat → List UInt8) (R : List Nat) : Option (List UInt8) := unesc enc R.length R
theorem unescL_nil (enc : Nat → List UInt8) : unescL enc [] = some [] := rfl
theorem unescL_slash (enc : Nat → List UInt8) (t : List Nat) : unescL enc (92 :: t) = if (escL t).1 = 0 then none else (unescL enc (t.drop (escL t).1)).map ((escL t).2.toUInt8 :: ·) := by
  show unesc enc (t.length + 1) (92 :: t) = _
  unfold unesc
  rw [if_pos rfl]
  unfold unescL
  rw [unesc_more enc t.length (t.drop (escL t).1).length _ (by rw [List.length_drop]; omega) (Nat.le_refl _)]
theorem unescL_other (enc : Nat → List UInt8) (r : Nat) (t : List Nat) (h : r ≠ 92) : unescL enc (r :: t) = (unescL enc t).map (enc r ++ ·) := by
  show unesc enc (t.length + 1) (r :: t) = _
  unfold unesc
  rw [if_neg h]
  rfl

def encB (c : Nat) : List UInt8 := [c.toUInt8]
def encR (c : Nat) : List UInt8 := Lib.encodeRune c
def natsL (L : List UInt8) : List Nat := L.map UInt8.toNat
/-- The document's key. -/
def keyB (L : List UInt8) : Option (List UInt8) := unescL encB (natsL L)

def runesF : Nat → List UInt8 → List Nat
  | 0, _ => []
  | f + 1, L => if L = [] then [] else (decL L).1 :: runesF f (L.drop (decL L).2)
theorem decL_adv (L : List UInt8) (hL : L ≠ []) : 1 ≤ (decL L).2 ∧ (decL L).2 ≤ L.length := by
  have hpos : 1 ≤ L.length := by cases L with | nil => exact absurd rfl hL | cons _ _ => simp
  rw [decL_eq]
  by_cases h0 : (letL L).2 = 0
  · rw [if_pos h0]
    exact ⟨Nat.le_refl _, hpos⟩
  · rw [if_neg h0]
    obtain ⟨a, b, _⟩ := let_enc L (letL L).1 (letL L).2 rfl hL h0
    exact ⟨b, a⟩
theorem runesF_more : ∀ (f g : Nat) (L : List UInt8), L.length ≤ f → L.length ≤ g → runesF f L = runesF g L
  | 0, 0, _, _, _ => rfl
  | 0, g + 1, L, h, _ => by
    have : L = [] := List.eq_nil_of_length_eq_zero (by omega)
    subst this
    rfl
  | f + 1, 0, L, _, h => by
    have : L = [] := List.eq_nil_of_length_eq_zero (by omega)
    subst this
    rfl
  | f + 1, g + 1, L, hf, hg => by
    by_cases hL : L = []
    · simp [runesF, hL]
    · have ha := decL_adv L hL
      simp only [runesF, hL, if_false]
      rw [runesF_more f g _ (by rw [List.length_drop]; omega) (by rw [List.length_drop]; omega)]
def runesL (L : List UInt8) : List Nat := runesF L.length L
theorem runesL_step (L : List UInt8) (hL : L ≠ []) : runesL L = (decL L).1 :: runesL (L.drop (decL L).2) := by
  have hpos : 1 ≤ L.length := by cases L with | nil => exact absurd rfl hL | cons _ _ => simp
  have ha := decL_adv L hL
  unfold runesL
  obtain ⟨f, hf⟩ : ∃ f, L.length = f + 1 := ⟨L.length - 1, by omega⟩
  rw [hf]
  simp only [runesF, hL, if_false]
  rw [runesF_more f (L.drop (decL L).2).length _ (by rw [List.length_drop]; omega) (Nat.le_refl _)]
theorem runes_ascii (b : UInt8) (t : List UInt8) (h : b.toNat < 128) : runesL (b :: t) = b.toNat :: runesL t := by
  have hl := letL_ascii b t h
  have hd : decL (b :: t) = (b.toNat, 1) := by rw [decL_eq, hl]; rfl
  rw [runesL_step _ (by simp), hd]
  rfl
/-- Of a valid text that begins with no ASCII letter the first rune is none. -/
theorem runes_wide (b : UInt8) (t : List UInt8) (hv : valid_ (b :: t) = true) (h : ¬ b.toNat < 128) : ∃ r l, runesL (b :: t) = r :: l ∧ 128 ≤ r := by
  refine ⟨_, _, runesL_step _ (by simp), ?_⟩
  rw [valid_step _ (by simp)] at hv
  by_cases h0 : (letL (b :: t)).2 = 0
  · rw [if_pos h0] at hv
    cases hv
  · rw [decL_eq, if_neg h0]
    exact (letL_wide b t _ _ rfl h0 h).1

theorem hexV_big {c : Nat} (h : 128 ≤ c) : hexV c = 16 := by
  unfold hexV
  rw [if_neg (by omega), if_neg (by omega)]
theorem esc_120 (d e : Nat) (l : List Nat) : escL (120 :: d :: e :: l) = if hexV d < 16 ∧ hexV e < 16 then (3, 16 * hexV d + hexV e) else (0, 0) := rfl
theorem esc_120_1 (d : Nat) : escL [120, d] = (0, 0) := rfl
theorem esc_120_0 : escL [120] = (0, 0) := rfl
theorem esc_q {a : Nat} (l : List Nat) (h : a = 92 ∨ a = 34) : escL (a :: l) = (1, a) := if_pos h
theorem esc_no {a : Nat} (l : List Nat) (h : ¬ (a = 92 ∨ a = 34)) (h2 : a ≠ 120) : escL (a :: l) = (0, 0) := (if_neg h).trans (if_neg h2)

/-- Behind a backslash bytes and runes say the same; and where they say something it is of ASCII bytes. -/
theorem esc_same (t : List UInt8) (hv : valid_ t = true) : escL (runesL t) = escL (natsL t) ∧ ((escL (natsL t)).1 ≠ 0 → valid_ (t.drop (escL (natsL t)).1) = true ∧ (runesL t).drop (escL (natsL t)).1 = runesL (t.drop (escL (natsL t)).1)) := by
  match t, hv with
  | [], hv => exact ⟨rfl, fun h => absurd rfl h⟩
  | a :: t, hv =>
    by_cases ha : a.toNat < 128
    · have hv1 : valid_ t = true := by rw [valid_ascii a t ha] at hv; exact hv
      rw [runes_ascii a t ha]
      have hn : natsL (a :: t) = a.toNat :: natsL t := rfl
      rw [hn]
      by_cases hq : a.toNat = 92 ∨ a.toNat = 34
      · rw [esc_q _ hq, esc_q _ hq]
        exact ⟨rfl, fun _ => ⟨hv1, rfl⟩⟩
      · by_cases hx : a.toNat = 120
        · rw [hx]
          match t, hv1 with
          | [], hv1 => exact ⟨rfl, fun h => absurd rfl h⟩
          | d :: t, hv1 =>
            by_cases hd : d.toNat < 128
            · have hv2 : valid_ t = true := by rw [valid_ascii d t hd] at hv1; exact hv1
              rw [runes_ascii d t hd]
              have hn : natsL (d :: t) = d.toNat :: natsL t := rfl
              rw [hn]
              match t, hv2 with
              | [], hv2 => exact ⟨rfl, fun h => absurd rfl h⟩
              | e :: t, hv2 =>
                have hn : natsL (e :: t) = e.toNat :: natsL t := rfl
                by_cases he : e.toNat < 128
                · have hv3 : valid_ t = true := by rw [valid_ascii e t he] at hv2; exact hv2
                  rw [runes_ascii e t he, hn, esc_120, esc_120]
                  refine ⟨rfl, fun h => ?_⟩
                  by_cases hh : hexV d.toNat < 16 ∧ hexV e.toNat < 16
                  · rw [if_pos hh]
                    exact ⟨hv3, rfl⟩
                  · rw [if_neg hh] at h
                    exact absurd rfl h
                · obtain ⟨r, l, hr, hr2⟩ := runes_wide e t hv2 he
                  rw [hr, hn, esc_120, esc_120, if_neg (by rw [hexV_big hr2]; omega), if_neg (by rw [hexV_big (c := e.toNat) (by omega)]; omega)]
                  exact ⟨rfl, fun h => absurd rfl h⟩
            · obtain ⟨r, l, hr, hr2⟩ := runes_wide d t hv1 hd
              have hn : natsL (d :: t) = d.toNat :: natsL t := rfl
              rw [hr, hn]
              have e1 : escL (120 :: r :: l) = (0, 0) := by
                cases l with
                | nil => rfl
                | cons e l => rw [esc_120, if_neg (by rw [hexV_big hr2]; omega)]
              have e2 : escL (120 :: d.toNat :: natsL t) = (0, 0) := by
                cases hl : natsL t with
                | nil => rfl
                | cons e l => rw [esc_120, if_neg (by rw [hexV_big (c := d.toNat) (by omega)]; omega)]
              rw [e1, e2]
              exact ⟨rfl, fun h => absurd rfl h⟩
        · rw [esc_no _ hq hx, esc_no _ hq hx]
          exact ⟨rfl, fun h => absurd rfl h⟩
    · obtain ⟨r, l, hr, hr2⟩ := runes_wide a t hv ha
      have hn : natsL (a :: t) = a.toNat :: natsL t := rfl
      rw [hr, hn, esc_no _ (by omega) (by omega), esc_no _ (by omega) (by omega)]
      exact ⟨rfl, fun h => absurd rfl h⟩

theorem keyB_nil : keyB [] = some [] := rfl
theorem keyB_other (b : UInt8) (t : List UInt8) (h : b.toNat ≠ 92) : keyB (b :: t) = (keyB t).map (b :: ·) := by
  show unescL encB (b.toNat :: natsL t) = _
  rw [unescL_other _ _ _ h]
  have : encB b.toNat = [b] := by simp [encB]
  rw [this]
  rfl
theorem keyB_slash (t : List UInt8) : keyB (92 :: t) = if (escL (natsL t)).1 = 0 then none else (keyB (t.drop (escL (natsL t)).1)).map ((escL (natsL t)).2.toUInt8 :: ·) := by
  show unescL encB (92 :: natsL t) = _
  rw [unescL_slash]
  have : (natsL t).drop (escL (natsL t)).1 = natsL (t.drop (escL (natsL t)).1) := by simp [natsL, List.map_drop]
  rw [this]
  rfl
theorem keyB_others : ∀ (P R : List UInt8), (∀ b ∈ P, b.toNat ≠ 92) → keyB (P ++ R) = (keyB R).map (P ++ ·)
  | [], R, _ => by cases h : keyB R <;> simp [h]
  | b :: P, R, h => by
    rw [List.cons_append, keyB_other _ _ (h b (by simp)), keyB_others P R (fun c hc => h c (by simp [hc]))]
    cases keyB R <;> rfl

/-- A letter's bytes hold no backslash, unless it is one. -/
theorem let_bytes (L : List UInt8) (v n : Nat) (h : letL L = (v, n)) (hn : n ≠ 0) (hL : L ≠ []) (hv : v ≠ 92) : ∀ b ∈ L.take n, b.toNat ≠ 92 := by
  obtain ⟨a, t, rfl⟩ := List.exists_cons_of_ne_nil hL
  by_cases ha : a.toNat < 128
  · rw [letL_ascii a t ha] at h
    obtain ⟨rfl, rfl⟩ := Prod.mk.inj h
    intro b hb
    simp only [List.take_succ_cons, List.take_zero, List.mem_cons, List.not_mem_nil, or_false] at hb
    rw [hb]
    exact hv
  · have hw := (letL_wide a t v n h hn ha).1
    obtain ⟨_, _, _, henc, _, hmax, _⟩ := let_enc _ v n h hL hn
    intro b hb
    rw [← henc] at hb
    unfold Lib.encodeRune at hb
    rw [List.mem_map] at hb
    obtain ⟨x, hx, rfl⟩ := hb
    have hx2 : 128 ≤ x ∧ x < 256 := by
      refine ⟨?_, (Lib.encodeRuneZ_byte _ x hx).2⟩
      unfold Lib.encodeRuneZ at hx
      rw [if_neg (by omega)] at hx
      repeat' split at hx
      all_goals (simp at hx; omega)
    have : x.toNat.toUInt8.toNat = x.toNat := by
      rw [Nat.toUInt8_eq, UInt8.toNat_ofNat_of_lt' (by show x.toNat < 256; omega)]
    rw [this]
    omega

/-- THE LAW: of a valid text runes and bytes give the same key. -/
theorem key_same (T : List UInt8) (hT : valid_ T = true) : unescL encR (runesL T) = keyB T := by
  suffices h : ∀ f (L : List UInt8), L.length ≤ f → valid_ L = true → unescL encR (runesL L) = keyB L from h _ T (Nat.le_refl _) hT
  intro f
  induction f with
  | zero =>
    intro L h _
    have : L = [] := List.eq_nil_of_length_eq_zero (by omega)
    subst this
    rfl
  | succ f ih =>
    intro L h hv
    by_cases hL : L = []
    · subst hL
      rfl
    · have hv' := hv
      rw [valid_step L hL] at hv'
      by_cases h0 : (letL L).2 = 0
      · rw [if_pos h0] at hv'
        cases hv'
      · rw [if_neg h0] at hv'
        obtain ⟨v, n, hvn⟩ : ∃ v n, letL L = (v, n) := ⟨_, _, rfl⟩
        rw [hvn] at hv' h0
        simp only at hv' h0
        obtain ⟨hle, hn1, _, henc, _, _, hsm⟩ := let_enc L v n hvn hL h0
        have hd : decL L = (v, n) := by rw [decL_eq, hvn, if_neg h0]
        rw [runesL_step L hL, hd]
        simp only
        by_cases h92 : v = 92
        · have hs := hsm (by omega)
          obtain ⟨a, t, rfl⟩ := List.exists_cons_of_ne_nil hL
          have ha : a = 92 := by
            have := hs.1
            simp only [List.take_succ_cons, List.take_zero, List.cons.injEq, and_true] at this
            rw [this, h92]
            rfl
          have hn : n = 1 := hs.2
          subst ha hn h92
          have hvt : valid_ t = true := hv'
          show unescL encR (92 :: runesL t) = _
          obtain ⟨he, hk⟩ := esc_same t hvt
          rw [unescL_slash, keyB_slash, he]
          by_cases hz : (escL (natsL t)).1 = 0
          · rw [if_pos hz, if_pos hz]
          · rw [if_neg hz, if_neg hz]
            obtain ⟨k1, k2⟩ := hk hz
            rw [k2, ih _ (by rw [List.length_drop]; simp only [List.length_cons] at h; omega) k1]
        · rw [unescL_other _ _ _ h92, ih _ (by rw [List.length_drop]; omega) hv']
          have hP := keyB_others (L.take n) (L.drop n) (let_bytes L v n hvn h0 hL h92)
          rw [List.take_append_drop] at hP
          rw [hP]
          show Option.map (fun x => Lib.encodeRune (v : Int) ++ x) _ = _
          rw [henc]

/-- The program's Unshow and the document's. -/
def unP (T : List UInt8) : Option (List UInt8) := if valid_ T then (unescL encR (runesL T)).bind fun K => if showL K = T then some K else none else none
def unR (T : List UInt8) : Option (List UInt8) := (keyB T).bind fun K => if showL K = T then some K else none
theorem un_same (T : List UInt8) : unP T = unR T := by
  unfold unP unR
  by_cases hv : valid_ T = true
  · rw [if_pos hv, key_same T hv]
  · rw [if_neg hv]
    cases hk : keyB T with
    | none => rfl
    | some K =>
      show none = if showL K = T then some K else none
      rw [if_neg (fun e => hv (by rw [← e]; exact showL_valid K))]
end Go.Proofs.YtmlklbbkkggpkaaDoor.show_
