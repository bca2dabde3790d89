/- Plain facts of directories as rising lists: insertion, look-up, loading. No program in sight. -/
import Derived.Sort.Walk0
import Derived.Lib.Hide
import Derived.Lib.Bytealg
namespace Go.Proofs.YtiaecfdfjhjgiaaGreat.hp
set_option linter.unusedVariables false

/-- A name's bytes. -/
def nk (s : ByteArray) : List UInt8 := s.data.toList
theorem nk_inj {a b : ByteArray} (h : nk a = nk b) : a = b := by
  obtain ⟨⟨a⟩⟩ := a
  obtain ⟨⟨b⟩⟩ := b
  unfold nk at h
  simp only at h
  rw [h]
/-- An entry: a name, the number of its body. -/
structure En where
  name : ByteArray
  body : Nat
def En.k (e : En) : List UInt8 := nk e.name
/-- The directory in which a name leads there. -/
def setE (es : List En) (nm : ByteArray) (i : Nat) : List En :=
  es.takeWhile (fun e => decide (e.k < nk nm)) ++ (⟨nm, i⟩ :: (match es.dropWhile (fun e => decide (e.k < nk nm)) with
    | [] => []
    | e :: r => if e.k = nk nm then r else e :: r))
def Rising (es : List En) : Prop := (es.map En.k).Pairwise (· < ·)
def hasN (es : List En) (nm : ByteArray) : Bool := es.any (fun e => decide (e.k = nk nm))
theorem hasN_iff (es : List En) (nm : ByteArray) : hasN es nm = true ↔ ∃ e ∈ es, e.k = nk nm := by
  unfold hasN
  simp
theorem lt_irr (a : List UInt8) : ¬ a < a := List.lt_irrefl a
theorem lt_tr {a b c : List UInt8} (h : a < b) (h2 : b < c) : a < c := List.lt_trans h h2
theorem lt_of_not {a b : List UInt8} (h : ¬ a < b) (hne : a ≠ b) : b < a := by
  apply Classical.byContradiction
  intro h2
  exact hne (List.le_antisymm h2 h)
theorem drop_head (es : List En) (nm : ByteArray) (e : En) (r : List En) (h : es.dropWhile (fun e => decide (e.k < nk nm)) = e :: r) : ¬ e.k < nk nm := by
  induction es with
  | nil => cases h
  | cons a es ih =>
    rw [List.dropWhile_cons] at h
    split at h
    · exact ih h
    · rename_i hn
      injection h with h _
      subst h
      simpa using hn
/-- Where the name isn't there the new entry comes between what is less and what is greater. -/
theorem setE_new (es : List En) (nm : ByteArray) (i : Nat) (h : hasN es nm = false) :
    setE es nm i = es.takeWhile (fun e => decide (e.k < nk nm)) ++ (⟨nm, i⟩ :: es.dropWhile (fun e => decide (e.k < nk nm))) := by
  unfold setE
  cases hd : es.dropWhile (fun e => decide (e.k < nk nm)) with
  | nil => rfl
  | cons e r =>
    simp only
    rw [if_neg]
    intro he
    have hm : e ∈ es := (List.dropWhile_sublist _).mem (by rw [hd]; exact List.mem_cons_self)
    have := (hasN_iff es nm).2 ⟨e, hm, he⟩
    rw [h] at this
    cases this
theorem setE_mem (es : List En) (nm : ByteArray) (i : Nat) (h : hasN es nm = false) (e : En) : e ∈ setE es nm i ↔ e = ⟨nm, i⟩ ∨ e ∈ es := by
  rw [setE_new es nm i h]
  have : e ∈ es ↔ e ∈ es.takeWhile (fun e => decide (e.k < nk nm)) ∨ e ∈ es.dropWhile (fun e => decide (e.k < nk nm)) := by
    rw [← List.mem_append, List.takeWhile_append_dropWhile]
  rw [this]
  simp only [List.mem_append, List.mem_cons]
  constructor
  · rintro (h | h | h)
    · exact Or.inr (Or.inl h)
    · exact Or.inl h
    · exact Or.inr (Or.inr h)
  · rintro (h | h | h)
    · exact Or.inr (Or.inl h)
    · exact Or.inl h
    · exact Or.inr (Or.inr h)
theorem setE_len (es : List En) (nm : ByteArray) (i : Nat) (h : hasN es nm = false) : (setE es nm i).length = es.length + 1 := by
  rw [setE_new es nm i h, List.length_append, List.length_cons]
  have := congrArg List.length (List.takeWhile_append_dropWhile (p := fun e : En => decide (e.k < nk nm)) (l := es))
  rw [List.length_append] at this
  omega
theorem take_all (es : List En) (nm : ByteArray) : ∀ e ∈ es.takeWhile (fun e => decide (e.k < nk nm)), e.k < nk nm := by
  induction es with
  | nil => intro e h; cases h
  | cons a es ih =>
    intro e h
    rw [List.takeWhile_cons] at h
    split at h
    · rename_i ha
      rcases List.mem_cons.1 h with rfl | h
      · simpa using ha
      · exact ih e h
    · cases h
theorem setE_rising (es : List En) (nm : ByteArray) (i : Nat) (h : hasN es nm = false) (hr : Rising es) : Rising (setE es nm i) := by
  rw [setE_new es nm i h]
  unfold Rising at hr ⊢
  have hsplit : es.map En.k = (es.takeWhile (fun e => decide (e.k < nk nm))).map En.k ++ (es.dropWhile (fun e => decide (e.k < nk nm))).map En.k := by
    rw [← List.map_append, List.takeWhile_append_dropWhile]
  rw [hsplit] at hr
  obtain ⟨h1, h2, h3⟩ := List.pairwise_append.1 hr
  have hgt : ∀ x ∈ (es.dropWhile (fun e => decide (e.k < nk nm))).map En.k, nk nm < x := by
    cases hd : es.dropWhile (fun e => decide (e.k < nk nm)) with
    | nil => intro x hx; cases hx
    | cons e r =>
      rw [hd] at h2
      have hne : e.k ≠ nk nm := fun he => by
        have hm : e ∈ es := (List.dropWhile_sublist _).mem (by rw [hd]; exact List.mem_cons_self)
        have := (hasN_iff es nm).2 ⟨e, hm, he⟩
        rw [h] at this
        cases this
      have hlt := lt_of_not (drop_head es nm e r hd) hne
      intro x hx
      rw [List.map_cons] at hx h2
      rcases List.mem_cons.1 hx with rfl | hx
      · exact hlt
      · exact lt_tr hlt ((List.pairwise_cons.1 h2).1 x hx)
  rw [List.map_append, List.map_cons]
  refine List.pairwise_append.2 ⟨h1, List.pairwise_cons.2 ⟨hgt, h2⟩, fun a ha b hb => ?_⟩
  rcases List.mem_cons.1 hb with rfl | hb
  · obtain ⟨e, he, rfl⟩ := List.mem_map.1 ha
    exact take_all es nm e he
  · exact h3 a ha b hb
theorem all_take {α : Type} (l : List α) (p : α → Bool) (h : ∀ e ∈ l, p e = true) : l.takeWhile p = l ∧ l.dropWhile p = [] := by
  induction l with
  | nil => exact ⟨rfl, rfl⟩
  | cons a l ih =>
    have ha := h a (by simp)
    obtain ⟨h1, h2⟩ := ih (fun e he => h e (by simp [he]))
    rw [List.takeWhile_cons, List.dropWhile_cons, if_pos ha, if_pos ha, h1, h2]
    exact ⟨rfl, rfl⟩
/-- A name that is greater than the last one is not there; it comes to the end. -/
theorem rising_last (es : List En) (nm : ByteArray) (i : Nat) (hr : Rising es) (h : ∀ e, es.getLast? = some e → e.k < nk nm) : hasN es nm = false ∧ setE es nm i = es ++ [⟨nm, i⟩] := by
  have hall : ∀ e ∈ es, e.k < nk nm := by
    intro e he
    cases hl : es.getLast? with
    | none =>
      rw [List.getLast?_eq_none_iff] at hl
      rw [hl] at he
      cases he
    | some z =>
      have hz := h z hl
      obtain ⟨pre, rfl⟩ : ∃ pre, es = pre ++ [z] := List.getLast?_eq_some_iff.1 hl
      unfold Rising at hr
      rw [List.map_append] at hr
      rcases List.mem_append.1 he with he | he
      · exact lt_tr ((List.pairwise_append.1 hr).2.2 e.k (List.mem_map.2 ⟨e, he, rfl⟩) z.k (by simp)) hz
      · simp only [List.mem_singleton] at he
        subst he
        exact hz
  have hno : hasN es nm = false := by
    cases hh : hasN es nm with
    | false => rfl
    | true =>
      obtain ⟨e, he, hk⟩ := (hasN_iff es nm).1 hh
      have := hall e he
      rw [hk] at this
      exact absurd this (lt_irr _)
  refine ⟨hno, ?_⟩
  rw [setE_new es nm i hno]
  obtain ⟨h1, h2⟩ := all_take es (fun e => decide (e.k < nk nm)) (fun e he => decide_eq_true (hall e he))
  rw [h1, h2]

def namedB (nm : ByteArray) : Bool := decide (1 ≤ nm.size ∧ nm.size ≤ 1024)
/-- What the loading of names one by one comes to: none, if one may not be, or is there already. -/
def loadE : List ByteArray → Nat → List En → Option (List En)
  | [], _, es => some es
  | nm :: r, k, es => if namedB nm = true ∧ hasN es nm = false then loadE r (k + 1) (setE es nm k) else none
theorem loadE_bad {nm : ByteArray} {r : List ByteArray} {k : Nat} {es : List En} (h : ¬ (namedB nm = true ∧ hasN es nm = false)) : loadE (nm :: r) k es = none := if_neg h
theorem loadE_ok {nm : ByteArray} {r : List ByteArray} {k : Nat} {es : List En} (h1 : namedB nm = true) (h2 : hasN es nm = false) : loadE (nm :: r) k es = loadE r (k + 1) (setE es nm k) := if_pos ⟨h1, h2⟩
/-- The number of a name's body; -1: it is not there. -/
def findZ (es : List En) (nm : ByteArray) : Int := match es.find? (fun e => decide (e.k = nk nm)) with
  | some e => (e.body : Int)
  | none => -1
theorem findZ_neg (es : List En) (nm : ByteArray) : findZ es nm < 0 ↔ hasN es nm = false := by
  unfold findZ hasN
  cases h : es.find? (fun e => decide (e.k = nk nm)) with
  | none =>
    simp only
    constructor
    · intro _
      rw [List.find?_eq_none] at h
      simp only [List.any_eq_false]
      exact h
    · intro _
      omega
  | some e =>
    simp only
    constructor
    · intro h'
      omega
    · intro hn
      have h1 := List.find?_some h
      have h2 := List.mem_of_find?_eq_some h
      rw [List.any_eq_false] at hn
      exact absurd h1 (hn e h2)
theorem findZ_cons (e : En) (es : List En) (nm : ByteArray) : findZ (e :: es) nm = if e.k = nk nm then (e.body : Int) else findZ es nm := by
  unfold findZ
  rw [List.find?_cons]
  by_cases h : e.k = nk nm
  · rw [if_pos h, decide_eq_true h]
  · rw [if_neg h, decide_eq_false h]
end Go.Proofs.YtiaecfdfjhjgiaaGreat.hp
