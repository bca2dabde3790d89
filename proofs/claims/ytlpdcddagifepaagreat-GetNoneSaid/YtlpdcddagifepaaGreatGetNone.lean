/- GetNone: of a set that is not there all calls of package get answer ErrNil, whatever else they are handed. No condition. -/
import Derived.Test.YtlpdcddagifepaaGreatNone
namespace Go.Proofs.YtlpdcddagifepaaGreat.none
open Go.ChangeShapes Go.WideShapes Go.ChangeAt Go.RowKit Go.Deep Go.Conc kit frame
open Go.ChangeMaps (open_string)
set_option linter.unusedVariables false

theorem num20_any (n : Int) (w : World) : Calls Tryz.prog 17 #[.int .i64 n] w fun e w' => e = .returned (.int .i64 n) ∧ w' = w := by
  go_enter Tryz.func17, Tryz.ntmps17
  go_wp2
  go_ret
  exact ⟨rfl, rfl⟩
theorem askednil_any (key : ByteArray) (w : World) : Calls Tryz.prog 27 #[.pointer none, .string key] w fun e w' => e = .returned (.int .i64 1) ∧ w' = w := by
  go_enter Tryz.func27, Tryz.ntmps27
  go_wp2_with (go_at_call 23; refine (rawnil_any _).mono ?_; rintro e w' ⟨rfl, rfl⟩)
  go_ret
  exact ⟨rfl, rfl⟩
def noVerdict : Value := .agg #[.int .i64 0, .int .i64 0, .int .i64 0, .int .i64 0, .slice none 0 0]
theorem looknil_any (key : ByteArray) (c : Option Nat) (w : World) : Calls Tryz.prog 13 #[.pointer none, .chan c, .string key] w fun e w' => e = .returned (.tuple #[noVerdict, .slice none 0 0, .int .i64 1]) ∧ Below w.heap.size w w' := by
  go_enter Tryz.func13, Tryz.ntmps13
  go_wp2_with (go_at_call 27; refine (askednil_any _ _).mono ?_; rintro e w' ⟨rfl, rfl⟩)
  exact bodyPost_ret (v := .tuple #[noVerdict, .slice none 0 0, .int .i64 1]) (by simp [results, Tryz.results13, go_sem, noVerdict]) rfl ⟨rfl, ((((Below.refl _ _).alloc (Nat.le_refl _) _).alloc (by simp) _).alloc (by simp; omega) _)⟩
theorem shardsnil_any (key : ByteArray) (c : Option Nat) (w : World) : Calls Tryz.prog 32 #[.pointer none, .chan c, .string key] w fun e w' => e = .returned (.tuple #[noVerdict, .slice none 0 0, .int .i64 1]) ∧ Below w.heap.size w w' := by
  go_enter Tryz.func32, Tryz.ntmps32
  go_wp2_with fail
  refine (looknil_any _ _ _).mono ?_
  rintro e w1 ⟨rfl, hb1⟩
  have hbk : Bk w1 w.heap.size 32 #[.int .i64 0, .int .i64 0, .int .i64 0, .int .i64 0, .slice none 0 0] := (Bk.mk_new w 32 _).below hb1 (by simp)
  have hw1 : Below w.heap.size w w1 := ((Below.refl _ _).alloc (Nat.le_refl _) _).trans (hb1.mono (by simp))
  have c0 := hbk.cell 0
  have c1 := hbk.cell 1
  have c2 := hbk.cell 2
  have c3 := hbk.cell 3
  have c4 := hbk.cell 4
  have f0 := hbk.free 0
  have f1 := hbk.free 1
  have f2 := hbk.free 2
  have f3 := hbk.free 3
  have f4 := hbk.free 4
  have hlt := hbk.lt
  simp only [List.getElem?_toArray, List.getElem?_cons_zero, List.getElem?_cons_succ] at c0 c1 c2 c3 c4
  have HW := Lib.hid hw1; clear hw1 hb1
  have HB := Lib.hid hbk; clear hbk
  unfold noVerdict
  go_wp2
  have hz : Bk ((((((w1.setCell ⟨w.heap.size, 0, none⟩ (.int .i64 0)).setCell ⟨w.heap.size, 1, none⟩ (.int .i64 0)).setCell ⟨w.heap.size, 2, none⟩ (.int .i64 0)).setCell ⟨w.heap.size, 3, none⟩ (.int .i64 0)).setCell ⟨w.heap.size, 4, none⟩ (.slice none 0 0)).alloc (.cells #[.int .i64 0, .int .i64 0, .int .i64 0, .int .i64 0, .slice none 0 0] 32)) w.heap.size 32 #[.int .i64 0, .int .i64 0, .int .i64 0, .int .i64 0, .slice none 0 0] := by
    have h := (((((HB.out.put 0 (.int .i64 0)).put 1 (.int .i64 0)).put 2 (.int .i64 0)).put 3 (.int .i64 0)).put 4 (.slice none 0 0)).alloc (.cells #[.int .i64 0, .int .i64 0, .int .i64 0, .int .i64 0, .slice none 0 0] 32)
    simpa using h
  have hw8 : Below w.heap.size w ((((((w1.setCell ⟨w.heap.size, 0, none⟩ (.int .i64 0)).setCell ⟨w.heap.size, 1, none⟩ (.int .i64 0)).setCell ⟨w.heap.size, 2, none⟩ (.int .i64 0)).setCell ⟨w.heap.size, 3, none⟩ (.int .i64 0)).setCell ⟨w.heap.size, 4, none⟩ (.slice none 0 0)).alloc (.cells #[.int .i64 0, .int .i64 0, .int .i64 0, .int .i64 0, .slice none 0 0] 32)) := by
    have h := ((((HW.out.setCell (p := ⟨w.heap.size, 0, none⟩) (Nat.le_refl _) (.int .i64 0)).setCell (p := ⟨w.heap.size, 1, none⟩) (Nat.le_refl _) (.int .i64 0)).setCell (p := ⟨w.heap.size, 2, none⟩) (Nat.le_refl _) (.int .i64 0)).setCell (p := ⟨w.heap.size, 3, none⟩) (Nat.le_refl _) (.int .i64 0)).setCell (p := ⟨w.heap.size, 4, none⟩) (Nat.le_refl _) (.slice none 0 0)
    exact h.alloc h.size _
  clear c0 c1 c2 c3 c4 f0 f1 f2 f3 f4
  revert hz hw8
  generalize ((((((w1.setCell ⟨w.heap.size, 0, none⟩ (.int .i64 0)).setCell ⟨w.heap.size, 1, none⟩ (.int .i64 0)).setCell ⟨w.heap.size, 2, none⟩ (.int .i64 0)).setCell ⟨w.heap.size, 3, none⟩ (.int .i64 0)).setCell ⟨w.heap.size, 4, none⟩ (.slice none 0 0)).alloc (.cells #[.int .i64 0, .int .i64 0, .int .i64 0, .int .i64 0, .slice none 0 0] 32)) = W8
  intro hz hw8
  have c0 := hz.cell 0
  have c1 := hz.cell 1
  have c2 := hz.cell 2
  have c3 := hz.cell 3
  have c4 := hz.cell 4
  simp only [List.getElem?_toArray, List.getElem?_cons_zero, List.getElem?_cons_succ] at c0 c1 c2 c3 c4
  exact bodyPost_ret (v := .tuple #[noVerdict, .slice none 0 0, .int .i64 1]) (by simp [results, Tryz.results32, go_sem, c0, c1, c2, c3, c4, noVerdict]) rfl ⟨rfl, hw8⟩

theorem getnil_any (key : ByteArray) (c : Option Nat) (w : World) : Calls Tryz.prog 15 #[.pointer none, .chan c, .string key] w fun e w' => e = .returned (.tuple #[.slice none 0 0, .agg #[.int .i64 0, .int .i64 0], .int .i64 1]) ∧ Below w.heap.size w w' := by
  go_enter Tryz.func15, Tryz.ntmps15
  go_wp2_with fail
  refine (shardsnil_any _ _ _).mono ?_
  rintro e w1 ⟨rfl, hb1⟩
  have hbk : Bk w1 w.heap.size 27 #[.int .i64 0, .int .i64 0] := (Bk.mk_new w 27 _).below hb1 (by simp)
  have hw1 : Below w.heap.size w w1 := ((Below.refl _ _).alloc (Nat.le_refl _) _).trans (hb1.mono (by simp))
  have c0 := hbk.cell 0
  have c1 := hbk.cell 1
  have f0 := hbk.free 0
  have f1 := hbk.free 1
  have hlt := hbk.lt
  simp only [List.getElem?_toArray, List.getElem?_cons_zero, List.getElem?_cons_succ] at c0 c1
  have HW := Lib.hid hw1; clear hw1 hb1
  have HB := Lib.hid hbk; clear hbk
  unfold noVerdict
  go_wp2
  have hz : Bk (((w1.setCell ⟨w.heap.size, 0, none⟩ (.int .i64 0)).setCell ⟨w.heap.size, 1, none⟩ (.int .i64 0)).alloc (.cells #[.int .i64 0, .int .i64 0, .int .i64 0, .int .i64 0, .slice none 0 0] 32)) w.heap.size 27 #[.int .i64 0, .int .i64 0] := by
    have h := ((HB.out.put 0 (.int .i64 0)).put 1 (.int .i64 0)).alloc (.cells #[.int .i64 0, .int .i64 0, .int .i64 0, .int .i64 0, .slice none 0 0] 32)
    simpa using h
  have hw8 : Below w.heap.size w (((w1.setCell ⟨w.heap.size, 0, none⟩ (.int .i64 0)).setCell ⟨w.heap.size, 1, none⟩ (.int .i64 0)).alloc (.cells #[.int .i64 0, .int .i64 0, .int .i64 0, .int .i64 0, .slice none 0 0] 32)) := by
    have h := (HW.out.setCell (p := ⟨w.heap.size, 0, none⟩) (Nat.le_refl _) (.int .i64 0)).setCell (p := ⟨w.heap.size, 1, none⟩) (Nat.le_refl _) (.int .i64 0)
    exact h.alloc h.size _
  clear c0 c1 f0 f1
  revert hz hw8
  generalize (((w1.setCell ⟨w.heap.size, 0, none⟩ (.int .i64 0)).setCell ⟨w.heap.size, 1, none⟩ (.int .i64 0)).alloc (.cells #[.int .i64 0, .int .i64 0, .int .i64 0, .int .i64 0, .slice none 0 0] 32)) = W8
  intro hz hw8
  have c0 := hz.cell 0
  have c1 := hz.cell 1
  simp only [List.getElem?_toArray, List.getElem?_cons_zero, List.getElem?_cons_succ] at c0 c1
  exact bodyPost_ret (v := .tuple #[.slice none 0 0, .agg #[.int .i64 0, .int .i64 0], .int .i64 1]) (by simp [results, Tryz.results15, go_sem, c0, c1]) rfl ⟨rfl, hw8⟩

theorem rangenil_any (key : ByteArray) (c : Option Nat) (off n : Int) (w : World) : Calls Tryz.prog 16 #[.pointer none, .chan c, .string key, .int .i64 off, .int .i64 n] w fun e w' => e = .returned (.tuple #[.slice none 0 0, .int .i64 1]) ∧ w' = w := by
  go_enter Tryz.func16, Tryz.ntmps16
  go_wp2_with (go_at_call 27; refine (askednil_any _ _).mono ?_; rintro e w' ⟨rfl, rfl⟩)
  go_ret2
  exact ⟨rfl, rfl⟩

set_option maxRecDepth 100000 in
theorem getnone_walk (key : ByteArray) (off n : Int) (stopped : Bool) (w : World) : Calls Tryz.prog 4 #[.string key, .int .i64 off, .int .i64 n, .bool stopped] w fun e w' => e = .returned (.bool true) ∧ Below w.heap.size w w' := by
  go_enter Tryz.func4, Tryz.ntmps4
  go_wp2_with fail
  refine (done_any stopped _).mono ?_
  rintro e w1 ⟨rfl, hb1, _⟩
  have HB1 := Lib.hid hb1; clear hb1
  go_wp2_with fail
  refine (looknil_any _ _ _).mono ?_
  rintro e w2 ⟨rfl, hb2⟩
  have HB2 : Hid (Below w.heap.size w w2) := Lib.hid (HB1.out.trans (hb2.mono HB1.out.size))
  clear hb2
  unfold noVerdict
  go_wp2_with fail
  refine (getnil_any _ _ _).mono ?_
  rintro e w3 ⟨rfl, hb3⟩
  have hbv : Bk w3 w2.heap.size 32 #[.int .i64 0, .int .i64 0, .int .i64 0, .int .i64 0, .slice none 0 0] := (Bk.mk_new w2 32 _).below hb3 (by simp)
  have HV := Lib.hid hbv; clear hbv
  have h2 := HB2.out.alloc HB2.out.size (.cells #[.int .i64 0, .int .i64 0, .int .i64 0, .int .i64 0, .slice none 0 0] 32)
  have HB3 : Hid (Below w.heap.size w w3) := Lib.hid (h2.trans (hb3.mono h2.size))
  have hlt3 := HV.out.lt
  clear hb3 h2
  go_wp2_with fail
  refine (done_any stopped _).mono ?_
  rintro e w4 ⟨rfl, hb4, _⟩
  have HG : Hid (Bk w4 w3.heap.size 27 #[.int .i64 0, .int .i64 0]) := Lib.hid ((Bk.mk_new w3 27 _).below hb4 (by simp))
  have HV4 : Hid (Bk w4 w2.heap.size 32 #[.int .i64 0, .int .i64 0, .int .i64 0, .int .i64 0, .slice none 0 0]) := Lib.hid ((HV.out.alloc _).below hb4 (by simp; omega))
  have h3 := HB3.out.alloc HB3.out.size (.cells #[.int .i64 0, .int .i64 0] 27)
  have HB4 : Hid (Below w.heap.size w w4) := Lib.hid (h3.trans (hb4.mono h3.size))
  clear hb4 h3
  go_wp2_with fail
  refine (rangenil_any _ _ _ _ _).mono ?_
  rintro e w5 ⟨rfl, rfl⟩
  have v0 := HV4.out.cell 0
  have v1 := HV4.out.cell 1
  have v2 := HV4.out.cell 2
  have v3 := HV4.out.cell 3
  have v4 := HV4.out.cell 4
  have g0 := HG.out.cell 0
  have g1 := HG.out.cell 1
  simp only [List.getElem?_toArray, List.getElem?_cons_zero, List.getElem?_cons_succ] at v0 v1 v2 v3 v4 g0 g1
  go_wp2_with (go_at_call 17; refine (num20_any _ _).mono ?_; rintro e w' ⟨rfl, rfl⟩)
  go_ret
  exact ⟨rfl, HB4.out⟩

set_option maxRecDepth 100000 in
theorem getnone_lifted (os : Os) (started : os.Started) (H : Type) (enc : TypeId × Value → H) :
    ReturnsInHanded {} Tryz.checked os 4 .any (Rows.getNoneSpec.pre6 enc Tryz.prog Tryz.f4 Rows.getNoneRow.domain false) (Rows.getNoneSpec.post enc Tryz.prog Tryz.f4 false true false false) := by
  refine returnsInHanded_of_change_sized (C := Tryz.checked) own started (by kernel_rfl) Tryz.func4
    (ChangeSpec.witness6 (enc := enc) (C := Tryz.checked) false ⟨#[], #[.string .empty, .int .i64 0, .int .i64 0, .bool false], []⟩ 8 (by kernel_rfl) (by kernel_rfl) (by kernel_rfl) (by kernel_rfl)) ?_
  intro W base args ds gs before hval hW hcnd hsz _
  have hW' := hW
  obtain ⟨p, q, hA, hV, rfl, hfz, hnd⟩ := hW'
  obtain ⟨rfl, rfl⟩ := trodVars_none hV
  have hA0 : DataW.TrodAll enc Tryz.prog W 0 (fun _ => true) true Tryz.f4.params.toList args.toList ds p := hA
  rw [Tryz.params4] at hA0 hval
  obtain ⟨v0, v1, v2, v3, d0, d1, d2, d3, p0, p1, p2, p3, hargs, rfl, rfl, h0, h1, h2, h3⟩ := trodAll_four hA0
  obtain rfl : args = #[v0, v1, v2, v3] := by cases args; simp_all
  obtain ⟨key, rfl, _, _, _⟩ := open_string Tryz.underlying9 (hval 0 9 v0 rfl rfl) h0
  obtain ⟨off, rfl, _, _, _⟩ := open_int Tryz.underlying3 (hval 1 3 v1 rfl rfl) h1
  obtain ⟨n, rfl, _, _, _⟩ := open_int Tryz.underlying3 (hval 2 3 v2 rfl rfl) h2
  obtain ⟨s, rfl, _, _⟩ := open_bool Tryz.underlying4 (hval 3 4 v3 rfl rfl) h3
  refine (getnone_walk key off n s W).mono fun e W' ⟨he, hb⟩ => ?_
  exact ⟨_, he, post_law laidOut hW rfl (by decide +kernel) rfl Tryz.underlying4 rfl rfl rfl hb⟩

theorem getnone_proved : Rows.GetNoneSaid :=
  OpenClaim.holds_of_wide_leaving 4 Tryz.f4 rfl rfl rfl rfl rfl rfl rfl ⟨rfl, rfl, rfl, rfl, rfl⟩ rfl rfl rfl rfl rfl (by kernel_rfl) Tryz.func4 (by kernel_rfl)
    (of_decide_eq_true (by kernel_rfl)) (by unfold Func.isWrapper; first | (rw [if_pos (by decide +kernel)]; kernel_rfl) | (rw [if_neg (by decide +kernel)]; exact ⟨rfl, rfl⟩))
    (fun os started H enc _ => leaving_of_handed (getnone_lifted os started H enc))
#print axioms getnone_proved
end Go.Proofs.YtlpdcddagifepaaGreat.none
