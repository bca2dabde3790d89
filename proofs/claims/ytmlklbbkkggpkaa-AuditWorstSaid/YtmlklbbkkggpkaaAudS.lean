/- For AuditWorst: both Worst at any list; findings written in place. -/
import Derived.Test.YtmlklbbkkggpkaaAudQ
import Derived.Test.YtmlklbbkkggpkaaWords
namespace Go.Proofs.Ytmlklbbkkggpkaa.aud
open Go.RowKit kit words
set_option linter.unusedVariables false

theorem worst_any (A : Option Addr) (l : List Fd) (n c : Nat) (w : World) (hn : l.length = n) (hm : n ≤ 9223372036854775807) (h1 : FdSl w w.heap.size A l) :
    Calls Try.prog 10 #[.slice A n c] w fun e w' => e = .returned (.tuple #[((refW l).getD Fd.zero).val, .bool (refW l).isSome]) ∧ Below w.heap.size w w' := by
  cases l with
  | nil =>
    subst hn
    exact worst_none A c w
  | cons a l =>
    obtain ⟨b, off, rfl, hb, ha⟩ := h1 (by simp)
    rw [refW_min]
    exact worst_some b off a l n c w hn hm hb ha

section
variable {w : World} {g : Nat}
theorem cell_set_eq {j : Nat} {v u : Value} (h : w.cell? ⟨g, j, none⟩ = some v) : (w.setCell ⟨g, j, none⟩ u).cell? ⟨g, j, none⟩ = some u := World.cell?_setCell_same w _ _ h
theorem cell_set_ne {j j' : Nat} {u : Value} (h : j ≠ j') : (w.setCell ⟨g, j, none⟩ u).cell? ⟨g, j', none⟩ = w.cell? ⟨g, j', none⟩ :=
  World.cell?_setCell_other w _ _ u (fun e => h (by injection e))

def stepFd (t i : Nat) (a : Fd) : Fd := { a with key := a.key ++ ⟨#[46]⟩, kind := 1 + ((i : Int) + t) % 3, whole := ((i : Int) * 7 + 3) % 5 }

theorem at_set {L : List Fd} {i t : Nat} {a : Fd} (h : FdAt w g 0 L) (hi : L[i]? = some a) :
    FdAt (((w.setCell ⟨g, i * 8 + 1, none⟩ (.int .i64 (1 + ((i : Int) + t) % 3))).setCell ⟨g, i * 8 + 4, none⟩ (.int .i64 (((i : Int) * 7 + 3) % 5))).setCell ⟨g, i * 8, none⟩ (.string (a.key ++ ⟨#[46]⟩))) g 0 (L.set i (stepFd t i a)) := by
  intro k b hk
  rw [List.getElem?_set] at hk
  by_cases hik : i = k
  · subst hik
    have hlt := (List.getElem?_eq_some_iff.1 hi).1
    rw [if_pos rfl, if_pos hlt] at hk
    obtain rfl := Option.some.inj hk
    obtain ⟨c0, c1, c2, c3, c4, c5, c6, c7⟩ := h i a hi
    simp only [Nat.zero_add] at c0 c1 c2 c3 c4 c5 c6 c7
    refine ⟨?_, ?_, ?_, ?_, ?_, ?_, ?_, ?_⟩ <;> simp only [Nat.zero_add, stepFd]
    · exact cell_set_eq (by rw [cell_set_ne (by omega), cell_set_ne (by omega)]; exact c0)
    · rw [cell_set_ne (by omega), cell_set_ne (by omega)]
      exact cell_set_eq c1
    · rw [cell_set_ne (by omega), cell_set_ne (by omega), cell_set_ne (by omega)]; exact c2
    · rw [cell_set_ne (by omega), cell_set_ne (by omega), cell_set_ne (by omega)]; exact c3
    · rw [cell_set_ne (by omega)]
      exact cell_set_eq (by rw [cell_set_ne (by omega)]; exact c4)
    · rw [cell_set_ne (by omega), cell_set_ne (by omega), cell_set_ne (by omega)]; exact c5
    · rw [cell_set_ne (by omega), cell_set_ne (by omega), cell_set_ne (by omega)]; exact c6
    · rw [cell_set_ne (by omega), cell_set_ne (by omega), cell_set_ne (by omega)]; exact c7
  · rw [if_neg hik] at hk
    have hc := h k b hk
    refine ⟨?_, ?_, ?_, ?_, ?_, ?_, ?_, ?_⟩ <;> (rw [cell_set_ne (by omega), cell_set_ne (by omega), cell_set_ne (by omega)])
    · exact hc.c0
    · exact hc.c1
    · exact hc.c2
    · exact hc.c3
    · exact hc.c4
    · exact hc.c5
    · exact hc.c6
    · exact hc.c7
end
/-- A block of findings' cells that may be written. -/
def Cells27 (w : World) (g : Nat) : Prop := ∃ cs, Bk w g 27 cs
theorem Cells27.set {w : World} {g : Nat} (h : Cells27 w g) (j : Nat) (u : Value) : Cells27 (w.setCell ⟨g, j, none⟩ u) g := by
  obtain ⟨cs, h⟩ := h
  exact ⟨_, h.put j u⟩
theorem reads_sl {w : World} {B : Nat} {A : Option Addr} {l : List Fd} (h : FdSl w B A l) : Reads w B 8 A l.length (fcs l) := by
  refine ⟨fcs_len l, fun hn => ?_⟩
  obtain ⟨b, off, rfl, hlt, hat⟩ := h (by rintro rfl; simp at hn)
  refine ⟨_, rfl, hlt, fun j u hu => ?_⟩
  have := at_cells hat j u hu
  unfold Addr.add
  split
  · subst_vars; simpa using this
  · exact this
def markFd : Fd := ⟨⟨#[109, 97, 114, 107]⟩, 0, 0, 0, -1, 0, 0, 0⟩
theorem at_app {w : World} {b off : Nat} {l r : List Fd} (h : FdAt w b off (l ++ r)) : FdAt w b off l := fun i a hi => h i a (by
  rw [List.getElem?_append_left (List.getElem?_eq_some_iff.1 hi).1]
  exact hi)
theorem set_app {l r : List Fd} {i : Nat} {x : Fd} (h : i < l.length) : (l ++ r).set i x = l.set i x ++ r := List.set_append_left _ _ h
end Go.Proofs.Ytmlklbbkkggpkaa.aud
