/- Contracts: audit.Worst; two lists of findings compared. -/
import Derived.Test.YtmlklbbkkggpkaaAudE
namespace Go.Proofs.Ytmlklbbkkggpkaa.aud
open Go.RowKit kit
set_option linter.unusedVariables false

theorem worst_none (A : Option Addr) (c : Nat) (w : World) :
    Calls Try.prog 10 #[.slice A 0 c] w fun e w' => e = .returned (.tuple #[Fd.zero.val, .bool false]) ∧ Below w.heap.size w w' := by
  go_enter Try.func10, Try.ntmps10
  go_wp2
  exact bodyPost_ret (v := .tuple #[Fd.zero.val, .bool false]) (by simp [results, Try.results10, go_sem, Fd.val, Fd.zero]) rfl ⟨rfl, (Below.refl _ _).alloc (Nat.le_refl _) _⟩

set_option maxHeartbeats 1000000 in
theorem worst_some (b off : Nat) (a : Fd) (l : List Fd) (n c : Nat) (w : World) (hn : (a :: l).length = n) (hm : n ≤ 9223372036854775807) (hb : b < w.heap.size) (hl : FdAt w b off (a :: l)) :
    Calls Try.prog 10 #[.slice (some ⟨b, off, none⟩) n c] w fun e w' => e = .returned (.tuple #[(minF a l).val, .bool true]) ∧ Below w.heap.size w w' := by
  have h0 : ((n : Int) == 0) = false := by simp at hn; simp; omega
  have HN := Lib.hid hn; clear hn
  have HL := Lib.hid hl; clear hl
  go_enter Try.func10, Try.ntmps10
  go_wp2_with fail
  refine (min_any b off a l n c _ HN.out hm (by simp; omega) (HL.out.below ((Below.refl _ _).alloc (Nat.le_refl _) _) hb)).mono ?_
  rintro e w1 ⟨rfl, hb1⟩
  have hz : Bk w1 w.heap.size 27 Fd.zero.cs := (Bk.mk_new w 27 Fd.zero.cs).below hb1 (by simp)
  have hw1 : Below w.heap.size w w1 := ((Below.refl _ _).alloc (Nat.le_refl _) _).trans (hb1.mono (by simp))
  clear hb1
  have HZ := Lib.hid hz
  have HW := Lib.hid hw1; clear hw1
  obtain ⟨z0, z1, z2, z3, z4, z5, z6, z7⟩ := FdCells.of_bk hz
  simp only [Nat.zero_add] at z0 z1 z2 z3 z4 z5 z6 z7
  have f0 := hz.free 0
  have f1 := hz.free 1
  have f2 := hz.free 2
  have f3 := hz.free 3
  have f4 := hz.free 4
  have f5 := hz.free 5
  have f6 := hz.free 6
  have f7 := hz.free 7
  clear hz
  generalize hm : minF a l = m
  have HM := Lib.hid hm; clear hm
  unfold Fd.val
  go_wp2
  have hz := bk_fd (x := m) HZ.out
  have hw8 := below_fd (x := m) HW.out (Nat.le_refl _)
  clear z0 z1 z2 z3 z4 z5 z6 z7 f0 f1 f2 f3 f4 f5 f6 f7
  revert hz hw8
  generalize ((((((((w1.setCell ⟨w.heap.size, 0, none⟩ (.string m.key)).setCell ⟨w.heap.size, 1, none⟩ (.int .i64 m.kind)).setCell ⟨w.heap.size, 2, none⟩ (.int .i64 m.epoch)).setCell ⟨w.heap.size, 3, none⟩ (.int .i64 m.count)).setCell ⟨w.heap.size, 4, none⟩ (.int .i64 m.whole)).setCell ⟨w.heap.size, 5, none⟩ (.int .i64 m.stale)).setCell ⟨w.heap.size, 6, none⟩ (.int .i64 m.spoilt)).setCell ⟨w.heap.size, 7, none⟩ (.int .i64 m.silent)) = W8
  intro hz hw8
  obtain ⟨c0, c1, c2, c3, c4, c5, c6, c7⟩ := FdCells.of_bk hz
  simp only [Nat.zero_add] at c0 c1 c2 c3 c4 c5 c6 c7
  exact bodyPost_ret (v := .tuple #[m.val, .bool true]) (by simp [results, Try.results10, go_sem, c0, c1, c2, c3, c4, c5, c6, c7, Fd.val]) rfl ⟨by rw [HM.out], hw8⟩

/-- The slice is the list of findings: nil or empty, or in block b from off on. -/
def FdSl (w : World) (B : Nat) (A : Option Addr) (l : List Fd) : Prop := l ≠ [] → ∃ b off, A = some ⟨b, off, none⟩ ∧ b < B ∧ FdAt w b off l
theorem FdSl.below {w w' : World} {B B' : Nat} {A : Option Addr} {l : List Fd} (h : FdSl w B A l) (hb : Below B' w w') (hB : B ≤ B') : FdSl w' B A l := fun hne => by
  obtain ⟨b, off, rfl, hlt, hat⟩ := h hne
  exact ⟨b, off, rfl, hlt, hat.below hb (by omega)⟩

set_option maxHeartbeats 1000000 in
theorem same_true (A1 A2 : Option Addr) (l : List Fd) (n c1 c2 B : Nat) (w : World) (hn : l.length = n) (hm : n ≤ 9223372036854775807) (h1 : FdSl w B A1 l) (h2 : FdSl w B A2 l) :
    Calls Try.prog 11 #[.slice A1 n c1, .slice A2 n c2] w fun e w' => e = .returned (.bool true) ∧ ∃ m, w' = w.drewN m := by
  have HN := Lib.hid hn; clear hn
  have H1 := Lib.hid h1; clear h1
  have H2 := Lib.hid h2; clear h2
  go_enter Try.func11, Try.ntmps11
  go_wp2
  go_loopw [5] (fun i wr => ∃ k m : Nat, k ≤ n ∧ i = .int .i64 k ∧ wr = w.drewN m) (fun i _ => n - (intOf i).toNat)
  case atStart => exact ⟨0, 0, by omega, rfl, rfl⟩
  case round =>
    obtain ⟨k, mm, hk, rfl, rfl⟩ := hrel
    by_cases hlt : k < n
    · have hne : l ≠ [] := by rintro rfl; have := HN.out; simp at this; omega
      obtain ⟨b1, o1, rfl, hb1, ha1⟩ := H1.out hne
      obtain ⟨b2, o2, rfl, hb2, ha2⟩ := H2.out hne
      obtain ⟨x, hx⟩ : ∃ x, l[k]? = some x := ⟨_, List.getElem?_eq_getElem (by rw [HN.out]; exact hlt)⟩
      obtain ⟨e0, e1, e2, e3, e4, e5, e6, e7⟩ := ha1 k x hx
      obtain ⟨c0, c1, c2, c3, c4, c5, c6, c7⟩ := ha2 k x hx
      clear hx ha1 ha2 hb1 hb2 hne
      go_wp2
      go_quiet (fail)
      go_wp2
      go_roundw
      case rel => exact ⟨k + 1, _, by omega, by go_num, rfl⟩
      case measure => simp [intOf]; omega
    · go_wp2
      go_ret
      exact ⟨rfl, mm, rfl⟩
end Go.Proofs.Ytmlklbbkkggpkaa.aud
