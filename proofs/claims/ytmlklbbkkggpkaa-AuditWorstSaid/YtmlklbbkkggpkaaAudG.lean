/- Contracts: the document's Worst. -/
import Derived.Test.YtmlklbbkkggpkaaAudF
namespace Go.Proofs.Ytmlklbbkkggpkaa.aud
open Go.RowKit kit
set_option linter.unusedVariables false

def refBest (l : List Fd) (x : Fd) : Bool := l.all fun y => !worseR y x
def refW (l : List Fd) : Option Fd := l.find? (refBest l)

/-- What holds at the head of the outer round. -/
def RefRel (w : World) (l : List Fd) (n : Nat) (i : Value) (wr : World) : Prop :=
  ∃ k : Nat, k ≤ n ∧ i = .int .i64 k ∧ refW l = (l.drop k).find? (refBest l) ∧ Bk wr w.heap.size 27 Fd.zero.cs ∧ Below w.heap.size w wr
/-- .. and of the inner one, at the finding x. -/
def RefIn (wo : World) (l : List Fd) (x : Fd) (n : Nat) (i b : Value) (wr : World) : Prop :=
  ∃ j : Nat, j ≤ n ∧ i = .int .i64 j ∧ b = .bool ((l.take j).all fun y => !worseR y x) ∧ Below wo.heap.size wo wr

theorem all_take_succ (l : List Fd) (p : Fd → Bool) (j : Nat) (y : Fd) (h : l[j]? = some y) : (l.take (j + 1)).all p = ((l.take j).all p && p y) := by
  rw [List.take_add_one, h]
  simp

set_option maxHeartbeats 2000000 in
theorem refWorst_any (A : Option Addr) (l : List Fd) (n c : Nat) (w : World) (hn : l.length = n) (hm : n ≤ 9223372036854775807) (h1 : FdSl w w.heap.size A l) :
    Calls Try.prog 9 #[.slice A n c] w fun e w' => e = .returned (.tuple #[((refW l).getD Fd.zero).val, .bool (refW l).isSome]) ∧ Below w.heap.size w w' := by
  have HN := Lib.hid hn; clear hn
  have H1 := Lib.hid h1; clear h1
  go_enter Try.func9, Try.ntmps9
  go_wp2
  go_loopw [4, 5, 6, 7] (fun i _ _ _ wr => RefRel w l n i wr) (fun i _ _ _ _ => n - (intOf i).toNat)
  case atStart => exact ⟨0, by omega, rfl, rfl, Bk.mk_new w 27 Fd.zero.cs, (Below.refl _ _).alloc (Nat.le_refl _) _⟩
  case round =>
    obtain ⟨k, hk, rfl, hf, hz, hw⟩ := hrel
    have HF := Lib.hid hf; clear hf
    have hlt0 : w.heap.size < wr.heap.size := hz.lt
    have HZ := Lib.hid hz; clear hz
    have HW := Lib.hid hw; clear hw
    obtain ⟨wo, rfl⟩ : ∃ wo : World, wo = wr := ⟨_, rfl⟩
    by_cases hlt : k < n
    · have hne : l ≠ [] := by rintro rfl; have := HN.out; simp at this; omega
      obtain ⟨b, off, rfl, hb, ha⟩ := H1.out hne
      have HA := Lib.hid ha; clear ha
      obtain ⟨x, hx⟩ : ∃ x, l[k]? = some x := ⟨_, List.getElem?_eq_getElem (by rw [HN.out]; exact hlt)⟩
      have HX := Lib.hid hx; clear hx
      clear hne
      go_wp2
      go_loopw [5, 6, 7] (fun bb j _ wr => RefIn wo l x n j bb wr) (fun _ j _ _ => n - (intOf j).toNat)
      case atStart => exact ⟨0, by omega, rfl, by simp, Below.refl _ _⟩
      case round =>
        obtain ⟨j, hj, rfl, rfl, hin⟩ := hrel
        have HIN := Lib.hid hin
        by_cases hjl : j < n
        · obtain ⟨y, hy⟩ : ∃ y, l[j]? = some y := ⟨_, List.getElem?_eq_getElem (by rw [HN.out]; exact hjl)⟩
          have HY := Lib.hid hy; clear hy
          obtain ⟨e0, e1, e2, e3, e4, e5, e6, e7⟩ := ((HA.out j y HY.out).below HW.out hb).below HIN.out (by omega)
          obtain ⟨c0, c1, c2, c3, c4, c5, c6, c7⟩ := ((HA.out k x HX.out).below HW.out hb).below HIN.out (by omega)
          clear hin
          go_wp2
          refine region_tail 8 (by kernel_rfl) (by kernel_rfl) ?_
          simp only [List.take_succ_cons, List.take_zero, List.drop_succ_cons, List.drop_zero]
          repeat still_step
          refine wpStill_nil ?_
          go_wp2_with fail
          refine (worseR_any y x _).mono ?_
          rintro e w1 ⟨rfl, hb1⟩
          have hs1 : wr.heap.size ≤ w1.heap.size := hb1.size
          have HB1 := Lib.hid hb1; clear hb1
          have HT : Hid ((l.take (j + 1)).all (fun y => !worseR y x) = ((l.take j).all (fun y => !worseR y x) && !worseR y x)) := Lib.hid (all_take_succ l _ j y HY.out)
          have hs0 : wo.heap.size ≤ wr.heap.size := HIN.out.size
          have HI2 : Hid (Below wo.heap.size wo w1) := Lib.hid ((HIN.out.drew).trans (HB1.out.mono (by show _ ≤ wr.heap.size; omega)))
          generalize worseR y x = bb at *
          cases bb
          · go_wp2
            go_roundw
            case rel => exact ⟨j + 1, by omega, by go_num, by rw [HT.out]; simp, HI2.out⟩
            case measure => simp [intOf]; omega
          · go_wp2
            go_roundw
            case rel => exact ⟨j + 1, by omega, by go_num, by rw [HT.out]; simp, HI2.out⟩
            case measure => simp [intOf]; omega
        · have hjn : j = n := by omega
          subst hjn
          have HT : Hid ((l.take j).all (fun y => !worseR y x) = refBest l x) := Lib.hid (by rw [List.take_of_length_le (by rw [HN.out]; omega)]; rfl)
          rw [HT.out]
          clear HT
          have HD : Hid ((l.drop k).find? (refBest l) = if refBest l x = true then some x else (l.drop (k + 1)).find? (refBest l)) := Lib.hid (by
            obtain ⟨hlt', he⟩ := List.getElem?_eq_some_iff.1 HX.out
            rw [List.drop_eq_getElem_cons hlt', he, List.find?_cons]
            cases refBest l x <;> simp)
          have hs0 : wo.heap.size ≤ wr.heap.size := HIN.out.size
          clear hin
          generalize hbb : refBest l x = bb at *
          have HBB := Lib.hid hbb; clear hbb
          cases bb
          · go_wp2
            go_roundw
            case rel => exact ⟨k + 1, by omega, by go_num, by rw [HF.out, HD.out]; simp, HZ.out.below HIN.out hlt0, HW.out.trans (HIN.out.mono (by omega))⟩
            case measure => simp [intOf]; omega
          · have HZ2 : Hid (Bk wr w.heap.size 27 Fd.zero.cs) := Lib.hid (HZ.out.below HIN.out hlt0)
            have HW2 : Hid (Below w.heap.size w wr) := Lib.hid (HW.out.trans (HIN.out.mono (by omega)))
            have HR : Hid (refW l = some x) := Lib.hid (by rw [HF.out, HD.out]; simp)
            obtain ⟨e0, e1, e2, e3, e4, e5, e6, e7⟩ := ((HA.out k x HX.out).below HW.out hb).below HIN.out (by omega)
            obtain ⟨z0, z1, z2, z3, z4, z5, z6, z7⟩ := FdCells.of_bk HZ2.out
            simp only [Nat.zero_add, Fd.zero] at z0 z1 z2 z3 z4 z5 z6 z7
            have f0 := HZ2.out.free 0
            have f1 := HZ2.out.free 1
            have f2 := HZ2.out.free 2
            have f3 := HZ2.out.free 3
            have f4 := HZ2.out.free 4
            have f5 := HZ2.out.free 5
            have f6 := HZ2.out.free 6
            have f7 := HZ2.out.free 7
            go_wp2
            have hz := bk_fd (x := x) HZ2.out
            have hw8 := below_fd (x := x) HW2.out (Nat.le_refl _)
            clear z0 z1 z2 z3 z4 z5 z6 z7 f0 f1 f2 f3 f4 f5 f6 f7
            revert hz hw8
            generalize ((((((((wr.setCell ⟨w.heap.size, 0, none⟩ (.string x.key)).setCell ⟨w.heap.size, 1, none⟩ (.int .i64 x.kind)).setCell ⟨w.heap.size, 2, none⟩ (.int .i64 x.epoch)).setCell ⟨w.heap.size, 3, none⟩ (.int .i64 x.count)).setCell ⟨w.heap.size, 4, none⟩ (.int .i64 x.whole)).setCell ⟨w.heap.size, 5, none⟩ (.int .i64 x.stale)).setCell ⟨w.heap.size, 6, none⟩ (.int .i64 x.spoilt)).setCell ⟨w.heap.size, 7, none⟩ (.int .i64 x.silent)) = W8
            intro hz hw8
            obtain ⟨c0, c1, c2, c3, c4, c5, c6, c7⟩ := FdCells.of_bk hz
            simp only [Nat.zero_add] at c0 c1 c2 c3 c4 c5 c6 c7
            exact bodyPost_ret (v := .tuple #[x.val, .bool true]) (by simp [results, Try.results9, go_sem, c0, c1, c2, c3, c4, c5, c6, c7, Fd.val]) rfl ⟨by rw [HR.out]; rfl, hw8⟩
    · have hkn : k = n := by omega
      subst hkn
      have HR : Hid (refW l = none) := Lib.hid (by rw [HF.out, List.drop_of_length_le (by rw [HN.out]; omega)]; rfl)
      have HZ2 : Hid (Bk wo w.heap.size 27 Fd.zero.cs) := Lib.hid HZ.out
      have HW2 : Hid (Below w.heap.size w wo) := Lib.hid HW.out
      obtain ⟨z0, z1, z2, z3, z4, z5, z6, z7⟩ := FdCells.of_bk HZ2.out
      simp only [Nat.zero_add, Fd.zero] at z0 z1 z2 z3 z4 z5 z6 z7
      have f0 := HZ2.out.free 0
      have f1 := HZ2.out.free 1
      have f2 := HZ2.out.free 2
      have f3 := HZ2.out.free 3
      have f4 := HZ2.out.free 4
      have f5 := HZ2.out.free 5
      have f6 := HZ2.out.free 6
      have f7 := HZ2.out.free 7
      go_wp2
      have hz := bk_fd (x := Fd.zero) HZ2.out
      have hw8 := below_fd (x := Fd.zero) HW2.out (Nat.le_refl _)
      clear z0 z1 z2 z3 z4 z5 z6 z7 f0 f1 f2 f3 f4 f5 f6 f7
      simp only [Fd.zero] at hz hw8
      revert hz hw8
      generalize ((((((((wo.setCell ⟨w.heap.size, 0, none⟩ (.string { data := #[] })).setCell ⟨w.heap.size, 1, none⟩ (.int .i64 0)).setCell ⟨w.heap.size, 2, none⟩ (.int .i64 0)).setCell ⟨w.heap.size, 3, none⟩ (.int .i64 0)).setCell ⟨w.heap.size, 4, none⟩ (.int .i64 0)).setCell ⟨w.heap.size, 5, none⟩ (.int .i64 0)).setCell ⟨w.heap.size, 6, none⟩ (.int .i64 0)).setCell ⟨w.heap.size, 7, none⟩ (.int .i64 0)) = W8
      intro hz hw8
      obtain ⟨c0, c1, c2, c3, c4, c5, c6, c7⟩ := FdCells.of_bk hz
      simp only [Nat.zero_add] at c0 c1 c2 c3 c4 c5 c6 c7
      exact bodyPost_ret (v := .tuple #[Fd.zero.val, .bool false]) (by simp [results, Try.results9, go_sem, c0, c1, c2, c3, c4, c5, c6, c7, Fd.val, Fd.zero]) rfl ⟨by rw [HR.out]; rfl, hw8⟩
end Go.Proofs.Ytmlklbbkkggpkaa.aud
