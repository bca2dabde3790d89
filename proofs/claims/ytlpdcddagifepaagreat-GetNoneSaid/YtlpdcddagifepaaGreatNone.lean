/- HealNone: of a set that is not there a Heal answers ErrNil. No condition. -/
import Derived.Test.YtlpdcddagifepaaGreatFrame
import Derived.Conc.SmallLaws
import Derived.Conc.EventLaws
namespace Go.Proofs.YtlpdcddagifepaaGreat.none
open Go.ChangeShapes Go.WideShapes Go.ChangeAt Go.RowKit Go.Deep Go.Conc kit frame
set_option linter.unusedVariables false

theorem info216 : (Tryz.prog.info? 216).map (fun i => (i.zero, i.size, i.bytes)) = some (some (.agg #[]), 0, 0) := by kernel_rfl

theorem below_setObj {B : Nat} {a w : World} (h : Below B a w) (r : Nat) (hr : B ≤ r) (o : Obj) : Below B a { w with heap := w.heap.setIfInBounds r o } :=
  h.trans ⟨rfl, rfl, rfl, by simp, fun k hk => by
    show (w.heap.setIfInBounds r o)[k]? = _
    rw [Array.getElem?_setIfInBounds_ne (by omega)]⟩

/-- fan.Done: a new channel, closed if it is to be. -/
theorem done_any (stopped : Bool) (w : World) : Calls Tryz.prog 14 #[.bool stopped] w fun e w' => e = .returned (.chan (some w.heap.size)) ∧ Below w.heap.size w w' ∧ w'.heap[w.heap.size]? = some (.chan 0 #[] stopped 0 0 false) := by
  obtain ⟨i0, hi, hz0, hz1, hz2⟩ := info_parts info216
  have hmk : ∀ W : World, (Instr.makeChan 99 (.int .i64 0)).run Tryz.prog W = .ok (.chan (some W.heap.size)) (W.alloc (.chan 0 #[] false 0 0 false)) := fun W =>
    run_makeChan (P := Tryz.prog) (w := W) Tryz.underlying99 hi .i64 0 (by omega) (by omega)
  clear hi hz0 hz1 hz2
  have hnew : (w.alloc (.chan 0 #[] false 0 0 false)).heap[w.heap.size]? = some (.chan 0 #[] false 0 0 false) := heap_alloc_new w _
  have hcl := fun ats ty => run_close_open (P := Tryz.prog) (w := w.alloc (.chan 0 #[] false 0 0 false)) ats ty hnew
  cases stopped
  · go_enter Tryz.func14, Tryz.ntmps14
    go_wp2
    go_ret
    exact ⟨rfl, (Below.refl _ _).alloc (Nat.le_refl _) _, hnew⟩
  · go_enter Tryz.func14, Tryz.ntmps14
    go_wp2
    go_ret
    exact ⟨rfl, below_setObj ((Below.refl _ _).alloc (Nat.le_refl _) _) _ (Nat.le_refl _) _, by simp⟩

theorem rawnil_any (w : World) : Calls Tryz.prog 23 #[.pointer none] w fun e w' => e = .returned (.int .i64 1) ∧ w' = w := by
  go_enter Tryz.func23, Tryz.ntmps23
  go_wp2
  go_ret
  exact ⟨rfl, rfl⟩
theorem num_any (n : Int) (w : World) : Calls Tryz.prog 19 #[.int .i64 n] w fun e w' => e = .returned (.int .i64 n) ∧ w' = w := by
  go_enter Tryz.func19, Tryz.ntmps19
  go_wp2
  go_ret
  exact ⟨rfl, rfl⟩
theorem healnil_any (c : Option Nat) (w : World) : Calls Tryz.prog 18 #[.pointer none, .chan c] w fun e w' => e = .returned (.tuple #[.agg #[.int .i64 0, .int .i64 0, .int .i64 0, .int .i64 0], .int .i64 1]) ∧ Below w.heap.size w w' := by
  go_enter Tryz.func18, Tryz.ntmps18
  go_wp2_with (go_at_call 23; refine (rawnil_any _).mono ?_; rintro e w' ⟨rfl, rfl⟩)
  exact bodyPost_ret (v := .tuple #[.agg #[.int .i64 0, .int .i64 0, .int .i64 0, .int .i64 0], .int .i64 1]) (by simp [results, Tryz.results18, go_sem]) rfl ⟨rfl, (Below.refl _ _).alloc (Nat.le_refl _) _⟩

theorem healnone_walk (stopped : Bool) (w : World) : Calls Tryz.prog 5 #[.bool stopped] w fun e w' => e = .returned (.bool true) ∧ Below w.heap.size w w' := by
  go_enter Tryz.func5, Tryz.ntmps5
  go_wp2_with fail
  refine (done_any stopped _).mono ?_
  rintro e w1 ⟨rfl, hb1, _⟩
  have HB1 := Lib.hid hb1; clear hb1
  go_wp2_with fail
  refine (healnil_any _ _).mono ?_
  rintro e w2 ⟨rfl, hb2⟩
  have HB2 : Hid (Below w.heap.size w w2) := Lib.hid (HB1.out.trans (hb2.mono HB1.out.size))
  clear hb2
  go_wp2_with (go_at_call 19; refine (num_any _ _).mono ?_; rintro e w' ⟨rfl, rfl⟩)
  go_ret
  exact ⟨rfl, HB2.out.alloc HB2.out.size _⟩

set_option maxRecDepth 100000 in
theorem healnone_lifted (os : Os) (started : os.Started) (H : Type) (enc : TypeId × Value → H) :
    ReturnsInHanded {} Tryz.checked os 5 .any (Rows.healNoneSpec.pre6 enc Tryz.prog Tryz.f5 Rows.healNoneRow.domain false) (Rows.healNoneSpec.post enc Tryz.prog Tryz.f5 false true false false) := by
  refine returnsInHanded_of_change_sized (C := Tryz.checked) own started (by kernel_rfl) Tryz.func5
    (ChangeSpec.witness6 (enc := enc) (C := Tryz.checked) false ⟨#[], #[.bool false], []⟩ 8 (by kernel_rfl) (by kernel_rfl) (by kernel_rfl) (by kernel_rfl)) ?_
  intro W base args ds gs before hval hW hcnd hsz _
  have hW' := hW
  obtain ⟨p, q, hA, hV, rfl, hfz, hnd⟩ := hW'
  obtain ⟨rfl, rfl⟩ := trodVars_none hV
  have hA0 : DataW.TrodAll enc Tryz.prog W 0 (fun _ => true) true Tryz.f5.params.toList args.toList ds p := hA
  rw [Tryz.params5] at hA0 hval
  obtain ⟨v0, d0, hargs, rfl, h0⟩ := trodAll_one hA0
  obtain rfl : args = #[v0] := by cases args; simp_all
  obtain ⟨s, rfl, _, _⟩ := open_bool Tryz.underlying4 (hval 0 4 v0 rfl rfl) h0
  refine (healnone_walk s W).mono fun e W' ⟨he, hb⟩ => ?_
  exact ⟨_, he, post_law laidOut hW rfl (by decide +kernel) rfl Tryz.underlying4 rfl rfl rfl hb⟩

theorem healnone_proved : Rows.HealNoneSaid :=
  OpenClaim.holds_of_wide_leaving 5 Tryz.f5 rfl rfl rfl rfl rfl rfl rfl ⟨rfl, rfl, rfl, rfl, rfl⟩ rfl rfl rfl rfl rfl (by kernel_rfl) Tryz.func5 (by kernel_rfl)
    (of_decide_eq_true (by kernel_rfl)) (by unfold Func.isWrapper; first | (rw [if_pos (by decide +kernel)]; kernel_rfl) | (rw [if_neg (by decide +kernel)]; exact ⟨rfl, rfl⟩))
    (fun os started H enc _ => leaving_of_handed (healnone_lifted os started H enc))
#print axioms healnone_proved
end Go.Proofs.YtlpdcddagifepaaGreat.none
