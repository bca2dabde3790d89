/- Contracts: slices.MinFunc at findings, audit.Worst. -/
import Derived.Test.YtmlklbbkkggpkaaAudD
namespace Go.Proofs.Ytmlklbbkkggpkaa.aud
open Go.RowKit kit
set_option linter.unusedVariables false

def Fd.cs (a : Fd) : Array Value := #[.string a.key, .int .i64 a.kind, .int .i64 a.epoch, .int .i64 a.count, .int .i64 a.whole, .int .i64 a.stale, .int .i64 a.spoilt, .int .i64 a.silent]
/-- Eight cells from o on are the finding a. -/
structure FdCells (w : World) (b o : Nat) (a : Fd) : Prop where
  c0 : w.cell? ⟨b, o, none⟩ = some (.string a.key)
  c1 : w.cell? ⟨b, o + 1, none⟩ = some (.int .i64 a.kind)
  c2 : w.cell? ⟨b, o + 2, none⟩ = some (.int .i64 a.epoch)
  c3 : w.cell? ⟨b, o + 3, none⟩ = some (.int .i64 a.count)
  c4 : w.cell? ⟨b, o + 4, none⟩ = some (.int .i64 a.whole)
  c5 : w.cell? ⟨b, o + 5, none⟩ = some (.int .i64 a.stale)
  c6 : w.cell? ⟨b, o + 6, none⟩ = some (.int .i64 a.spoilt)
  c7 : w.cell? ⟨b, o + 7, none⟩ = some (.int .i64 a.silent)
theorem FdCells.of {w w' : World} {b o : Nat} {a : Fd} (h : FdCells w b o a) (hk : ∀ j, w'.cell? ⟨b, j, none⟩ = w.cell? ⟨b, j, none⟩) : FdCells w' b o a :=
  ⟨(hk _).trans h.c0, (hk _).trans h.c1, (hk _).trans h.c2, (hk _).trans h.c3, (hk _).trans h.c4, (hk _).trans h.c5, (hk _).trans h.c6, (hk _).trans h.c7⟩
theorem FdCells.below {w w' : World} {B b o : Nat} {a : Fd} (h : FdCells w b o a) (hb : Below B w w') (hlt : b < B) : FdCells w' b o a := h.of fun j => hb.cell (p := ⟨b, j, none⟩) hlt
theorem FdCells.of_bk {w : World} {g : Nat} {t : TypeId} {a : Fd} (h : Bk w g t a.cs) : FdCells w g 0 a :=
  ⟨h.cell 0, h.cell 1, h.cell 2, h.cell 3, h.cell 4, h.cell 5, h.cell 6, h.cell 7⟩
/-- The findings lie in block b from off on, one behind the other. -/
def FdAt (w : World) (b off : Nat) (l : List Fd) : Prop := ∀ i a, l[i]? = some a → FdCells w b (off + i * 8) a
theorem FdAt.below {w w' : World} {B b off : Nat} {l : List Fd} (h : FdAt w b off l) (hb : Below B w w') (hlt : b < B) : FdAt w' b off l := fun i a hi => (h i a hi).below hb hlt

def minF (m : Fd) (l : List Fd) : Fd := l.foldl (fun m x => if worseZ x m < 0 then x else m) m

def Fd.zero : Fd := ⟨⟨#[]⟩, 0, 0, 0, 0, 0, 0, 0⟩
theorem bk_fd {w : World} {g : Nat} {m x : Fd} (h : Bk w g 27 m.cs) : Bk ((((((((w.setCell ⟨g, 0, none⟩ (.string x.key)).setCell ⟨g, 1, none⟩ (.int .i64 x.kind)).setCell ⟨g, 2, none⟩ (.int .i64 x.epoch)).setCell ⟨g, 3, none⟩ (.int .i64 x.count)).setCell ⟨g, 4, none⟩ (.int .i64 x.whole)).setCell ⟨g, 5, none⟩ (.int .i64 x.stale)).setCell ⟨g, 6, none⟩ (.int .i64 x.spoilt)).setCell ⟨g, 7, none⟩ (.int .i64 x.silent)) g 27 x.cs := by
  have := (((((((h.put 0 (.string x.key)).put 1 (.int .i64 x.kind)).put 2 (.int .i64 x.epoch)).put 3 (.int .i64 x.count)).put 4 (.int .i64 x.whole)).put 5 (.int .i64 x.stale)).put 6 (.int .i64 x.spoilt)).put 7 (.int .i64 x.silent)
  simpa [Fd.cs] using this
theorem bk_far {w : World} {g g' : Nat} {cs : Array Value} {t : TypeId} {x : Fd} (h : Bk w g' t cs) (hne : g' ≠ g) : Bk ((((((((w.setCell ⟨g, 0, none⟩ (.string x.key)).setCell ⟨g, 1, none⟩ (.int .i64 x.kind)).setCell ⟨g, 2, none⟩ (.int .i64 x.epoch)).setCell ⟨g, 3, none⟩ (.int .i64 x.count)).setCell ⟨g, 4, none⟩ (.int .i64 x.whole)).setCell ⟨g, 5, none⟩ (.int .i64 x.stale)).setCell ⟨g, 6, none⟩ (.int .i64 x.spoilt)).setCell ⟨g, 7, none⟩ (.int .i64 x.silent)) g' t cs :=
  (((((((h.other (p := ⟨g, 0, none⟩) hne _).other (p := ⟨g, 1, none⟩) hne _).other (p := ⟨g, 2, none⟩) hne _).other (p := ⟨g, 3, none⟩) hne _).other (p := ⟨g, 4, none⟩) hne _).other (p := ⟨g, 5, none⟩) hne _).other (p := ⟨g, 6, none⟩) hne _).other (p := ⟨g, 7, none⟩) hne _
theorem below_fd {B : Nat} {a w : World} {g : Nat} {x : Fd} (h : Below B a w) (hB : B ≤ g) : Below B a ((((((((w.setCell ⟨g, 0, none⟩ (.string x.key)).setCell ⟨g, 1, none⟩ (.int .i64 x.kind)).setCell ⟨g, 2, none⟩ (.int .i64 x.epoch)).setCell ⟨g, 3, none⟩ (.int .i64 x.count)).setCell ⟨g, 4, none⟩ (.int .i64 x.whole)).setCell ⟨g, 5, none⟩ (.int .i64 x.stale)).setCell ⟨g, 6, none⟩ (.int .i64 x.spoilt)).setCell ⟨g, 7, none⟩ (.int .i64 x.silent)) :=
  (((((((h.setCell (p := ⟨g, 0, none⟩) hB _).setCell (p := ⟨g, 1, none⟩) hB _).setCell (p := ⟨g, 2, none⟩) hB _).setCell (p := ⟨g, 3, none⟩) hB _).setCell (p := ⟨g, 4, none⟩) hB _).setCell (p := ⟨g, 5, none⟩) hB _).setCell (p := ⟨g, 6, none⟩) hB _).setCell (p := ⟨g, 7, none⟩) hB _

/-- What holds at the head of MinFunc's round. -/
def MinRel (w : World) (a : Fd) (l : List Fd) (n : Nat) (i : Value) (wr : World) : Prop :=
  ∃ (k : Nat) (m : Fd), 1 ≤ k ∧ k ≤ n ∧ i = .int .i64 k ∧ minF a l = minF m (l.drop (k - 1)) ∧ Bk wr (w.heap.size + 1) 27 m.cs ∧ Bk wr w.heap.size 27 Fd.zero.cs ∧ Below w.heap.size w wr

set_option maxHeartbeats 1000000 in
theorem min_any (b off : Nat) (a : Fd) (l : List Fd) (n c : Nat) (w : World) (hn : (a :: l).length = n) (hm : n ≤ 9223372036854775807) (hb : b < w.heap.size) (hl : FdAt w b off (a :: l)) :
    Calls Try.prog 15 #[.slice (some ⟨b, off, none⟩) n c, .func (.func 16) #[] #[]] w fun e w' => e = .returned (minF a l).val ∧ Below w.heap.size w w' := by
  have h0 : 0 < n := by rw [← hn]; simp
  have HN := Lib.hid hn; clear hn
  have HL := Lib.hid hl; clear hl
  obtain ⟨d0, d1, d2, d3, d4, d5, d6, d7⟩ := HL.out 0 a rfl
  simp only [Nat.zero_mul, Nat.add_zero] at d0 d1 d2 d3 d4 d5 d6 d7
  have HB := Lib.hid hb
  go_enter Try.func15, Try.ntmps15
  go_wp2
  go_loopw [6] (fun i wr => MinRel w a l n i wr) (fun i _ => n - (intOf i).toNat)
  case atStart =>
    refine ⟨1, a, by omega, by omega, rfl, rfl, ?_, ?_, ?_⟩
    · have h := Bk.mk_new (w.alloc (.cells #[.string { data := #[] }, .int .i64 0, .int .i64 0, .int .i64 0, .int .i64 0, .int .i64 0, .int .i64 0, .int .i64 0] 27)) 27 a.cs
      simpa [Fd.cs] using h
    · exact (Bk.mk_new _ _ _).alloc _
    · exact bw _ _
  case round =>
    obtain ⟨k, m, hk1, hkn, rfl, hmin, hbm, hbz, hbw⟩ := hrel
    have HMIN := Lib.hid hmin; clear hmin d0 d1 d2 d3 d4 d5 d6 d7
    have hsz : w.heap.size + 1 < wr.heap.size := hbm.lt
    by_cases hlt : k < n
    · obtain ⟨x, hx⟩ : ∃ x, (a :: l)[k]? = some x := ⟨_, List.getElem?_eq_getElem (by rw [HN.out]; exact hlt)⟩
      obtain ⟨e0, e1, e2, e3, e4, e5, e6, e7⟩ := (HL.out k x hx).below hbw hb
      obtain ⟨c0, c1, c2, c3, c4, c5, c6, c7⟩ := FdCells.of_bk hbm
      simp only [Nat.zero_add] at c0 c1 c2 c3 c4 c5 c6 c7
      have HX := Lib.hid hx; clear hx
      have HM := Lib.hid hbm; clear hbm
      have HZ := Lib.hid hbz; clear hbz
      have HW := Lib.hid hbw; clear hbw
      go_wp2
      refine region_tail 6 (by kernel_rfl) (by kernel_rfl) ?_
      simp only [List.take_succ_cons, List.take_zero, List.drop_succ_cons, List.drop_zero]
      repeat still_step
      refine wpStill_nil ?_
      go_wp2_with fail
      refine (worse_any x m _).mono ?_
      rintro e w1 ⟨rfl, hb1⟩
      have hbw1 : Below w.heap.size w w1 := (HW.out.drew).trans (hb1.mono (by show w.heap.size ≤ wr.heap.size; omega))
      have HM1 : Hid (Bk w1 (w.heap.size + 1) 27 m.cs) := Lib.hid ((Bk.drew HM.out).below hb1 (by show _ < wr.heap.size; omega))
      have HZ1 := Lib.hid ((Bk.drew HZ.out).below hb1 (by show _ < wr.heap.size; omega))
      have hk' : (a :: l)[k]? = l[k - 1]? := by
        obtain ⟨k', rfl⟩ : ∃ k', k = k' + 1 := ⟨k - 1, by omega⟩
        simp
      have HD : Hid (l.drop (k - 1) = x :: l.drop k) := Lib.hid (by
        have h := HX.out
        rw [hk'] at h
        obtain ⟨hlt', he⟩ := List.getElem?_eq_some_iff.1 h
        rw [List.drop_eq_getElem_cons hlt', he, Nat.sub_add_cancel hk1])
      clear hk' e0 e1 e2 e3 e4 e5 e6 e7 c0 c1 c2 c3 c4 c5 c6 c7 HM HZ
      obtain ⟨e0, e1, e2, e3, e4, e5, e6, e7⟩ := (HL.out k x HX.out).below hbw1 hb
      obtain ⟨c0, c1, c2, c3, c4, c5, c6, c7⟩ := FdCells.of_bk HM1.out
      simp only [Nat.zero_add] at c0 c1 c2 c3 c4 c5 c6 c7
      have f0 := HM1.out.free 0
      have f1 := HM1.out.free 1
      have f2 := HM1.out.free 2
      have f3 := HM1.out.free 3
      have f4 := HM1.out.free 4
      have f5 := HM1.out.free 5
      have f6 := HM1.out.free 6
      have f7 := HM1.out.free 7
      have HB1 := Lib.hid hbw1; clear hbw1 hb1
      by_cases hz : worseZ x m < 0
      · go_wp2
        go_roundw
        case rel =>
          refine ⟨k + 1, x, by omega, by omega, by go_num, ?_, ?_, ?_, ?_⟩
          · rw [HMIN.out, HD.out]
            show minF (if worseZ x m < 0 then x else m) _ = _
            rw [if_pos hz]
            rfl
          · exact bk_fd HM1.out
          · exact bk_far HZ1.out (by omega)
          · exact below_fd HB1.out (by omega)
        case measure => simp [intOf]; omega
      · go_wp2
        go_roundw
        case rel =>
          refine ⟨k + 1, m, by omega, by omega, by go_num, ?_, HM1.out, HZ1.out, HB1.out⟩
          rw [HMIN.out, HD.out]
          show minF (if worseZ x m < 0 then x else m) _ = _
          rw [if_neg (by omega)]
          rfl
        case measure => simp [intOf]; omega
    · have hkn' : k = n := by omega
      have HF : Hid (minF a l = m) := Lib.hid (by
        rw [HMIN.out, List.drop_of_length_le (by have := HN.out; simp at this; omega)]
        rfl)
      obtain ⟨c0, c1, c2, c3, c4, c5, c6, c7⟩ := FdCells.of_bk hbm
      simp only [Nat.zero_add] at c0 c1 c2 c3 c4 c5 c6 c7
      obtain ⟨z0, z1, z2, z3, z4, z5, z6, z7⟩ : wr.cell? ⟨w.heap.size, 0, none⟩ = some (.string { data := #[] }) ∧ wr.cell? ⟨w.heap.size, 1, none⟩ = some (.int .i64 0) ∧ wr.cell? ⟨w.heap.size, 2, none⟩ = some (.int .i64 0) ∧ wr.cell? ⟨w.heap.size, 3, none⟩ = some (.int .i64 0) ∧ wr.cell? ⟨w.heap.size, 4, none⟩ = some (.int .i64 0) ∧ wr.cell? ⟨w.heap.size, 5, none⟩ = some (.int .i64 0) ∧ wr.cell? ⟨w.heap.size, 6, none⟩ = some (.int .i64 0) ∧ wr.cell? ⟨w.heap.size, 7, none⟩ = some (.int .i64 0) :=
        ⟨hbz.cell 0, hbz.cell 1, hbz.cell 2, hbz.cell 3, hbz.cell 4, hbz.cell 5, hbz.cell 6, hbz.cell 7⟩
      have f0 := hbz.free 0
      have f1 := hbz.free 1
      have f2 := hbz.free 2
      have f3 := hbz.free 3
      have f4 := hbz.free 4
      have f5 := hbz.free 5
      have f6 := hbz.free 6
      have f7 := hbz.free 7
      have HM := Lib.hid hbm; clear hbm
      have HZ := Lib.hid hbz; clear hbz
      have HW := Lib.hid hbw; clear hbw
      subst hkn'
      go_wp2
      have hz := bk_fd (x := m) HZ.out
      have hw8 := below_fd (x := m) HW.out (Nat.le_refl _)
      clear c0 c1 c2 c3 c4 c5 c6 c7 z0 z1 z2 z3 z4 z5 z6 z7 f0 f1 f2 f3 f4 f5 f6 f7
      revert hz hw8
      generalize ((((((((wr.setCell ⟨w.heap.size, 0, none⟩ (.string m.key)).setCell ⟨w.heap.size, 1, none⟩ (.int .i64 m.kind)).setCell ⟨w.heap.size, 2, none⟩ (.int .i64 m.epoch)).setCell ⟨w.heap.size, 3, none⟩ (.int .i64 m.count)).setCell ⟨w.heap.size, 4, none⟩ (.int .i64 m.whole)).setCell ⟨w.heap.size, 5, none⟩ (.int .i64 m.stale)).setCell ⟨w.heap.size, 6, none⟩ (.int .i64 m.spoilt)).setCell ⟨w.heap.size, 7, none⟩ (.int .i64 m.silent)) = W8
      intro hz hw8
      obtain ⟨c0, c1, c2, c3, c4, c5, c6, c7⟩ := FdCells.of_bk hz
      simp only [Nat.zero_add] at c0 c1 c2 c3 c4 c5 c6 c7
      exact bodyPost_ret (v := m.val) (by simp [results, Try.results15, go_sem, c0, c1, c2, c3, c4, c5, c6, c7, Fd.val]) rfl ⟨by rw [HF.out], hw8⟩
end Go.Proofs.Ytmlklbbkkggpkaa.aud
