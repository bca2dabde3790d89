/- Words of this seat on memory: a stretch of cells, a slice whose elements are stretches; and the small contracts: names, copies. Plain lemmas. -/
import Derived.Test.YtiaecfdfjhjgiaaGreatWords
import Derived.Test.YtiaecfdfjhjgiaaGreatProg
import Derived.WalkSmall
import Derived.Deep.RegionLaw
import Derived.Lib.OthersKept
import Derived.Laws.BytesArg
namespace Go.Proofs.YtiaecfdfjhjgiaaGreat.hp
open Go.RowKit kit
set_option linter.unusedVariables false

/-- These cells stand in block b from o on. -/
def Seg (w : World) (b o : Nat) (cs : List Value) : Prop := ∀ (j : Nat) (u : Value), cs[j]? = some u → w.cell? ⟨b, o + j, none⟩ = some u
section
variable {w w' : World} {b o : Nat} {cs : List Value}
theorem Seg.keep (h : Seg w b o cs) (hb : Below w.heap.size w w') : Seg w' b o cs := fun j u hj => cell_later hb (h j u hj)
theorem Seg.same (h : Seg w b o cs) (hk : w'.heap[b]? = w.heap[b]?) : Seg w' b o cs := fun j u hj => by
  have := h j u hj
  simp only [World.cell?] at this ⊢
  rw [hk]
  exact this
theorem Seg.drew (h : Seg w b o cs) : Seg w.drew b o cs := h
theorem Seg.drewN (h : Seg w b o cs) (n : Nat) : Seg (w.drewN n) b o cs := h
theorem Seg.alloc (h : Seg w b o cs) (ob : Obj) : Seg (w.alloc ob) b o cs := h.keep ((Below.refl _ _).alloc (Nat.le_refl _) _)
theorem Seg.lt (h : Seg w b o cs) (hne : cs ≠ []) : b < w.heap.size := by
  cases cs with
  | nil => exact absurd rfl hne
  | cons u r =>
    have := h 0 u rfl
    exact block_lt_of_cell this
theorem Seg.of_bk {t : TypeId} {l : List Value} (h : Bk w b t l.toArray) : Seg w b 0 l := fun j u hj => by
  have := h.cell (0 + j)
  rw [this]
  simpa using hj
end

/-- v is a slice whose elements, each of k cells, are those of l; it lies in a block of S. -/
def Sl {α : Type} (w : World) (S : Nat → Prop) (k : Nat) (cs : α → List Value) (v : Value) (l : List α) : Prop :=
  ∃ A c, v = .slice A l.length c ∧ (l ≠ [] → ∃ b o, A = some ⟨b, o, none⟩ ∧ S b ∧ ∀ (i : Nat) (x : α), l[i]? = some x → Seg w b (o + i * k) (cs x))
/-- What lies in S is as it was. -/
def Kept (S : Nat → Prop) (w w' : World) : Prop := ∀ b, S b → w'.heap[b]? = w.heap[b]?
section
variable {α : Type} {w w' : World} {S S' : Nat → Prop} {k : Nat} {cs : α → List Value} {v : Value} {l : List α}
theorem Sl.keep (h : Sl w S k cs v l) (hb : Below w.heap.size w w') : Sl w' S k cs v l := by
  obtain ⟨A, c, hv, hc⟩ := h
  refine ⟨A, c, hv, fun hne => ?_⟩
  obtain ⟨b, o, hA, hS, hs⟩ := hc hne
  exact ⟨b, o, hA, hS, fun i x hi => (hs i x hi).keep hb⟩
theorem Sl.kept (h : Sl w S k cs v l) (hk : Kept S w w') : Sl w' S k cs v l := by
  obtain ⟨A, c, hv, hc⟩ := h
  refine ⟨A, c, hv, fun hne => ?_⟩
  obtain ⟨b, o, hA, hS, hs⟩ := hc hne
  exact ⟨b, o, hA, hS, fun i x hi => (hs i x hi).same (hk b hS)⟩
theorem Sl.mono (h : Sl w S k cs v l) (hS : ∀ b, S b → S' b) : Sl w S' k cs v l := by
  obtain ⟨A, c, hv, hc⟩ := h
  refine ⟨A, c, hv, fun hne => ?_⟩
  obtain ⟨b, o, hA, h1, hs⟩ := hc hne
  exact ⟨b, o, hA, hS b h1, hs⟩
theorem Sl.nil (w : World) (S : Nat → Prop) (k : Nat) (cs : α → List Value) (A : Option Addr) (c : Nat) : Sl w S k cs (.slice A 0 c) [] := ⟨A, c, rfl, fun h => absurd rfl h⟩
theorem flat_at (cs : α → List Value) (k : Nat) (hk : ∀ x, (cs x).length = k) : ∀ (l : List α) (i j : Nat) (x : α), l[i]? = some x → j < k → (l.flatMap cs)[i * k + j]? = (cs x)[j]?
  | [], i, j, x, h, _ => by simp at h
  | a :: l, 0, j, x, h, hj => by
    simp only [List.getElem?_cons_zero, Option.some.injEq] at h
    subst h
    rw [List.flatMap_cons, Nat.zero_mul, Nat.zero_add, List.getElem?_append_left (by rw [hk]; exact hj)]
  | a :: l, i + 1, j, x, h, hj => by
    simp only [List.getElem?_cons_succ] at h
    rw [List.flatMap_cons, List.getElem?_append_right (by rw [hk, Nat.succ_mul]; omega), hk, Nat.succ_mul, show i * k + k + j - k = i * k + j by omega]
    exact flat_at cs k hk l i j x h hj
theorem flat_len (cs : α → List Value) (k : Nat) (hk : ∀ x, (cs x).length = k) (l : List α) : (l.flatMap cs).length = l.length * k := by
  induction l with
  | nil => simp
  | cons a l ih => rw [List.flatMap_cons, List.length_append, ih, hk, List.length_cons, Nat.succ_mul]; omega
/-- A row that the call owns is such a slice. -/
theorem Sl.of_own {base : Nat} {e : TypeId} (hk : ∀ x, (cs x).length = k) (h : w.ownsRow base e k v l.length (l.flatMap cs)) (hS : ∀ g, base ≤ g → g < w.heap.size → S g) : Sl w S k cs v l := by
  have hown := h
  rcases h.2 with ⟨rfl, h0⟩ | ⟨g, cap, cur, rfl, _⟩
  · have : l = [] := List.eq_nil_of_length_eq_zero h0
    subst this
    exact Sl.nil _ _ _ _ _ _
  · refine ⟨_, _, rfl, fun hne => ⟨g, 0, rfl, hS g (hown.lt g rfl).1 (hown.lt g rfl).2, fun i x hi j u hj => ?_⟩⟩
    have hjk : j < k := by
      have := (List.getElem?_eq_some_iff.1 hj).1
      rw [hk] at this
      exact this
    have := hown.cells (g := g) rfl (i * k + j) u (by rw [flat_at cs k hk l i j x hi hjk]; exact hj)
    have e : (⟨g, 0, none⟩ : Addr).add (i * k + j) = ⟨g, 0 + i * k + j, none⟩ := by
      unfold Addr.add
      split
      · rename_i h0; rw [show 0 + i * k + j = 0 by omega]
      · simp
    rw [e] at this
    exact this
/-- .. and serves as the source of an append. -/
theorem Sl.reads (hk : ∀ x, (cs x).length = k) (hpos : 0 < k) (h : Sl w S k cs v l) : ∃ A c, v = .slice A l.length c ∧ words.Reads w w.heap.size k A l.length (l.flatMap cs) := by
  obtain ⟨A, c, hv, hc⟩ := h
  refine ⟨A, c, hv, flat_len cs k hk l, fun hn => ?_⟩
  have hne : l ≠ [] := by
    intro e
    rw [e] at hn
    simp at hn
  obtain ⟨b, o, hA, _, hs⟩ := hc hne
  refine ⟨_, hA, ?_, fun j u hj => ?_⟩
  · cases l with
    | nil => exact absurd rfl hne
    | cons x r =>
      refine (hs 0 x rfl).lt ?_
      intro e
      have := hk x
      rw [e] at this
      simp at this
      omega
  · have hjl : j < (l.flatMap cs).length := (List.getElem?_eq_some_iff.1 hj).1
    rw [flat_len cs k hk] at hjl
    have hi : j / k < l.length := Nat.div_lt_of_lt_mul (by rw [Nat.mul_comm]; exact hjl)
    have hx := List.getElem?_eq_getElem hi
    have hm := Nat.mod_lt j hpos
    have hdm : j / k * k + j % k = j := by rw [Nat.mul_comm]; exact Nat.div_add_mod j k
    have h1 := flat_at cs k hk l (j / k) (j % k) _ hx hm
    rw [hdm, hj] at h1
    have h2 := hs (j / k) _ hx (j % k) u h1.symm
    have e : (⟨b, o, none⟩ : Addr).add j = ⟨b, o + j / k * k + j % k, none⟩ := by
      have : o + j / k * k + j % k = o + j := by omega
      rw [this]
      unfold Addr.add
      split
      · rename_i h0; rw [h0]; simp
      · rfl
    rw [e]
    exact h2
end

/-- A byte's cell. -/
def bC (b : UInt8) : List Value := [.int .u8 (b.toNat : Int)]
theorem bC_len (b : UInt8) : (bC b).length = 1 := rfl
theorem bC_flat (l : List UInt8) : l.flatMap bC = Lib.byteCells l := by
  induction l with
  | nil => rfl
  | cons a l ih => rw [List.flatMap_cons, ih]; rfl
/-- A slice's length is within its capacity. -/
def Capy (v : Value) : Prop := ∀ (A : Option Addr) (n c : Nat), v = .slice A n c → n ≤ c
theorem capy_nil : Capy (.slice none 0 0) := fun A n c h => by injection h with _ h1 h2; omega
theorem capy_own {w : World} {B e k n : Nat} {v : Value} {xs : List Value} (h : w.ownsRow B e k v n xs) : Capy v := by
  rcases h.2 with ⟨rfl, _⟩ | ⟨g, cap, cur, rfl, _, _, hnc, _⟩
  · exact capy_nil
  · intro A n' c hv
    injection hv with _ h1 h2
    omega
/-- A slice of bytes. -/
def By (w : World) (S : Nat → Prop) (v : Value) (l : List UInt8) : Prop := Sl w S 1 bC v l ∧ Capy v
theorem By.of_own {w : World} {S : Nat → Prop} {base : Nat} {v : Value} {l : List UInt8} (h : w.ownsRow base 5 1 v l.length (Lib.byteCells l)) (hS : ∀ g, base ≤ g → g < w.heap.size → S g) : By w S v l := ⟨Sl.of_own (e := 5) bC_len (by rw [bC_flat]; exact h) hS, capy_own h⟩
theorem By.reads {w : World} {S : Nat → Prop} {v : Value} {l : List UInt8} (h : By w S v l) : ∃ A c, v = .slice A l.length c ∧ words.Reads w w.heap.size 1 A l.length (Lib.byteCells l) := by
  have := Sl.reads bC_len (by decide) h.1
  rw [bC_flat] at this
  exact this
theorem By.keep {w w' : World} {S : Nat → Prop} {v : Value} {l : List UInt8} (h : By w S v l) (hb : Below w.heap.size w w') : By w' S v l := ⟨Sl.keep h.1 hb, h.2⟩
theorem By.kept {w w' : World} {S : Nat → Prop} {v : Value} {l : List UInt8} (h : By w S v l) (hb : Kept S w w') : By w' S v l := ⟨Sl.kept h.1 hb, h.2⟩
theorem By.mono {w : World} {S S' : Nat → Prop} {v : Value} {l : List UInt8} (h : By w S v l) (hS : ∀ b, S b → S' b) : By w S' v l := ⟨Sl.mono h.1 hS, h.2⟩
/-- The blocks that are new since w. -/
def New (w w' : World) (b : Nat) : Prop := w.heap.size ≤ b ∧ b < w'.heap.size
theorem byte_one (l : List UInt8) : ∀ u ∈ Lib.byteCells l, u.oneCell' = true := by
  intro u hu
  unfold Lib.byteCells at hu
  obtain ⟨a, _, rfl⟩ := List.mem_map.1 hu
  rfl

theorem info5 : (Tryz.prog.info? 5).map (fun i => (i.zero, i.size, i.bytes)) = some (some (Value.int .u8 0), 1, 1) := by kernel_rfl

theorem rnamed_any (s : ByteArray) (w : World) : Calls Tryz.prog 42 #[.string s] w fun e w' => e = .returned (.bool (decide (1 ≤ s.size ∧ s.size ≤ 1024))) ∧ w' = w := by
  by_cases h1 : 1 ≤ s.size
  · by_cases h2 : s.size ≤ 1024
    · rw [decide_eq_true ⟨h1, h2⟩]
      have g1 : decide ((1 : Int) ≤ (s.size : Int)) = true := by simp; omega
      have g2 : decide ((s.size : Int) ≤ 1024) = true := by simp; omega
      go_enter Tryz.func42, Tryz.ntmps42
      go_wp2
      go_ret
      exact ⟨rfl, rfl⟩
    · rw [decide_eq_false (fun h => h2 h.2)]
      have g1 : decide ((1 : Int) ≤ (s.size : Int)) = true := by simp; omega
      have g2 : decide ((s.size : Int) ≤ 1024) = false := by simp; omega
      go_enter Tryz.func42, Tryz.ntmps42
      go_wp2
      go_ret
      exact ⟨rfl, rfl⟩
  · rw [decide_eq_false (fun h => h1 h.1)]
    have g1 : decide ((1 : Int) ≤ (s.size : Int)) = false := by simp; omega
    go_enter Tryz.func42, Tryz.ntmps42
    go_wp2
    go_ret
    exact ⟨rfl, rfl⟩
theorem pnamed_any (s : ByteArray) (w : World) : Calls Tryz.prog 47 #[.string s] w fun e w' => e = .returned (.bool (decide (1 ≤ s.size ∧ s.size ≤ 1024))) ∧ w' = w := by
  by_cases h1 : 1 ≤ s.size
  · by_cases h2 : s.size ≤ 1024
    · rw [decide_eq_true ⟨h1, h2⟩]
      have g1 : decide ((1 : Int) ≤ (s.size : Int)) = true := by simp; omega
      have g2 : decide ((s.size : Int) ≤ 1024) = true := by simp; omega
      go_enter Tryz.func47, Tryz.ntmps47
      go_wp2
      go_ret
      exact ⟨rfl, rfl⟩
    · rw [decide_eq_false (fun h => h2 h.2)]
      have g1 : decide ((1 : Int) ≤ (s.size : Int)) = true := by simp; omega
      have g2 : decide ((s.size : Int) ≤ 1024) = false := by simp; omega
      go_enter Tryz.func47, Tryz.ntmps47
      go_wp2
      go_ret
      exact ⟨rfl, rfl⟩
  · rw [decide_eq_false (fun h => h1 h.1)]
    have g1 : decide ((1 : Int) ≤ (s.size : Int)) = false := by simp; omega
    go_enter Tryz.func47, Tryz.ntmps47
    go_wp2
    go_ret
    exact ⟨rfl, rfl⟩

theorem own_made (w : World) (e : TypeId) (k : Nat) : (w.alloc (.cells #[] e)).ownsRow w.heap.size e k (.slice (some ⟨w.heap.size, 0, none⟩) 0 0) 0 [] :=
  ⟨by simp, Or.inr ⟨w.heap.size, 0, #[], rfl, Nat.le_refl _, heap_alloc_new w _, Nat.le_refl _, Nat.zero_le _, by simp, by simp⟩⟩
set_option maxRecDepth 100000 in
/-- A copy of bytes: a row of the call's own. -/
theorem copied_any (v : Value) (l : List UInt8) (hl : l.length ≤ 1099511627776) (w : World) (S : Nat → Prop) (h : By w S v l) :
    Calls Tryz.prog 44 #[v] w fun e w' => ∃ v', e = .returned v' ∧ By w' (New w w') v' l ∧ Below w.heap.size w w' := by
  obtain ⟨A, c, rfl, hr⟩ := h.reads
  obtain ⟨i0, hi, hz0, hz1, hz2⟩ := info_parts info5
  have HI := Lib.hid hi; clear hi
  have HZ0 := Lib.hid hz0; clear hz0
  have HZ1 := Lib.hid hz1; clear hz1
  have HZ2 := Lib.hid hz2; clear hz2
  have HR := Lib.hid hr; clear hr
  have hn1 : 0 + l.length ≤ maxLen := by unfold maxLen; omega
  have hn2 : (0 + l.length) * 1 ≤ 140737488355328 := by omega
  go_enter Tryz.func44, Tryz.ntmps44
  go_wp2_with (at_builtin; refine words.wpList_append_any _ rfl (.tmp 3) (.tmp 4) 72 (by rfl) w.heap.size 5 i0 (.int .u8 0) 1 1 Tryz.underlying72 HI.out HZ0.out HZ1.out HZ2.out rfl (by decide) _ 0 [] (by rfl) (own_made w 5 1) w.heap.size A l.length c (Lib.byteCells l) (by rfl) (HR.out.alloc (Nat.le_refl _) _) (byte_one l) hn1 hn2 (by simp) ?_; intro v1 w1 ho hg _)
  go_ret
  refine ⟨_, rfl, By.of_own (base := w.heap.size) ?_ (fun g h1 h2 => ⟨h1, h2⟩), ?_⟩
  · simpa using ho
  · exact Below.grown ((Below.refl _ _).alloc (Nat.le_refl _) _) hg (by simp) (fun j hj => by simp [Value.ownBlock] at hj; omega)

set_option maxRecDepth 100000 in
/-- bytes.Clone: likewise. -/
theorem clone_any (v : Value) (l : List UInt8) (hl : l.length ≤ 1099511627776) (w : World) (S : Nat → Prop) (h : By w S v l) :
    Calls Tryz.prog 48 #[v] w fun e w' => ∃ v', e = .returned v' ∧ By w' (New w w') v' l ∧ Below w.heap.size w w' := by
  obtain ⟨A, c, rfl, hr⟩ := h.reads
  obtain ⟨i0, hi, hz0, hz1, hz2⟩ := info_parts info5
  have HI := Lib.hid hi; clear hi
  have HZ0 := Lib.hid hz0; clear hz0
  have HZ1 := Lib.hid hz1; clear hz1
  have HZ2 := Lib.hid hz2; clear hz2
  have HR := Lib.hid hr; clear hr
  have hn1 : 0 + l.length ≤ maxLen := by unfold maxLen; omega
  have hn2 : (0 + l.length) * 1 ≤ 140737488355328 := by omega
  cases A with
  | none =>
    have hnil : l = [] := by
      apply Classical.byContradiction
      intro hne
      have : 0 < l.length := by cases l with | nil => exact absurd rfl hne | cons _ _ => simp
      obtain ⟨ad, e, _⟩ := HR.out.2 this
      cases e
    subst hnil
    clear HR hn1 hn2 h
    have he : ∀ (wx : World) (n c : Nat), (binOp .eql 72 (.slice none n c) (.slice none 0 0)).run Tryz.prog wx = .ok (.bool true) wx := fun wx n c => Lib.run_eql_slice_nil wx 72 5 none n c 0 0 Tryz.underlying72
    go_enter Tryz.func48, Tryz.ntmps48
    go_wp2
    go_ret
    exact ⟨_, rfl, ⟨Sl.nil _ _ _ _ _ _, capy_nil⟩, Below.refl _ _⟩
  | some ad =>
    clear h
    have he : ∀ (wx : World) (n c : Nat), (binOp .eql 72 (.slice (some ad) n c) (.slice none 0 0)).run Tryz.prog wx = .ok (.bool false) wx := fun wx n c => Lib.run_eql_slice_nil wx 72 5 (some ad) n c 0 0 Tryz.underlying72
    go_enter Tryz.func48, Tryz.ntmps48
    go_wp2_with (at_builtin; refine words.wpList_append_any _ rfl (.tmp 5) (.tmp 6) 72 (by rfl) w.heap.size 5 i0 (.int .u8 0) 1 1 Tryz.underlying72 HI.out HZ0.out HZ1.out HZ2.out rfl (by decide) _ 0 [] (by rfl) (own_made w 5 1) w.heap.size (some ad) l.length c (Lib.byteCells l) (by rfl) (HR.out.alloc (Nat.le_refl _) _) (byte_one l) hn1 hn2 (by simp) ?_; intro v1 w1 ho hg _)
    go_ret
    refine ⟨_, rfl, By.of_own (base := w.heap.size) ?_ (fun g h1 h2 => ⟨h1, h2⟩), ?_⟩
    · simpa using ho
    · exact Below.grown ((Below.refl _ _).alloc (Nat.le_refl _) _) hg (by simp) (fun j hj => by simp [Value.ownBlock] at hj; omega)
end Go.Proofs.YtiaecfdfjhjgiaaGreat.hp
