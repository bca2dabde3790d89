/- HealPlans where what it reads is of bulk at most 1048576: heal.Plan and the document's Plan tell the same two lists of places, of whatever set, verdict and places; nothing that is handed in is changed. Condition: the Upto form's bound. -/
import Derived.Test.YtiaecfdfjhjgiaaGreatHqL
namespace Go.Proofs.YtiaecfdfjhjgiaaGreat.hp
open Go.ChangeShapes Go.WideShapes Go.ChangeAt Go.RowKit Go.Deep kit frame
set_option linter.unusedVariables false

set_option maxRecDepth 1000000 in
theorem plans_lifted (os : Os) (started : os.Started) (H : Type) (enc : TypeId × Value → H) (F : Stop.Interp) :
    ReturnsInHanded {} Tryz.checked os 3 .any ((Rows.OpenSpec.upto Rows.healPlansSpec).pre6 enc Tryz.prog Tryz.f3 Rows.healPlansUptoRow.domain false) (((Rows.OpenSpec.upto Rows.healPlansSpec).at F).post enc Tryz.prog Tryz.f3 false true false false) := by
  refine returnsInHanded_of_cond (C := Tryz.checked) (s := Rows.OpenSpec.upto Rows.healPlansSpec) (k := Rows.uptoSmall) rfl own started (by kernel_rfl) Tryz.func3
    (OpenSpec.witness (enc := enc) (C := Tryz.checked) (s := Rows.OpenSpec.upto Rows.healPlansSpec) (k := Rows.uptoSmall) rfl false ⟨#[], #[.agg #[.slice none 0 0, .int .i64 0, .int .i64 0, .int .i64 0, .int .u8 0, .int .u8 0, .int .u8 0, .int .u8 0, .int .u8 0, .int .u8 0, .int .u8 0, .int .u8 0, .int .i64 0, .int .i64 0, .bool false, .int .i64 0, .int .i64 0, .int .i64 0, .int .i64 0, .slice none 0 0, .slice none 0 0]], []⟩ 12 (by kernel_rfl) (by kernel_rfl) (by kernel_rfl)
      (x := ([.agg [.agg [.nil, .agg [.lit (.int .i64 0), .lit (.int .i64 0), .lit (.int .i64 0)], .agg [.lit (.int .u8 0), .lit (.int .u8 0), .lit (.int .u8 0), .lit (.int .u8 0), .lit (.int .u8 0), .lit (.int .u8 0), .lit (.int .u8 0), .lit (.int .u8 0)], .agg [.lit (.int .i64 0), .lit (.int .i64 0)]], .lit (.bool false), .agg [.lit (.int .i64 0), .agg [.lit (.int .i64 0), .lit (.int .i64 0)], .lit (.int .i64 0), .nil], .nil]], [], [])) (by kernel_rfl) rfl (by kernel_rfl)) ?_
  intro W base args ds gs before hval hW _ hk _
  have hW' := hW
  obtain ⟨p, q, hA, hV, rfl, hfz, hnd⟩ := hW'
  obtain ⟨rfl, rfl⟩ := trodVars_none hV
  have hA0 : DataW.TrodAll enc Tryz.prog W 0 (fun _ => true) true Tryz.f3.params.toList args.toList ds p := hA
  rw [Tryz.params3] at hA0 hval
  obtain ⟨v0, d0, hargs, rfl, h0⟩ := trodAll_one hA0
  obtain rfl : args = #[v0] := by cases args; simp_all
  obtain ⟨cs, rfl, hcs⟩ := okWide_struct Tryz.underlying35 (hval 0 35 v0 rfl rfl)
  obtain ⟨fuel, hf⟩ := h0
  obtain ⟨pv, ps, K, M, B, s0, s1, s2, s3, s4, s5, s6, s7, ep, ct, nn, v, plv, pl, lv, l, hvs, g1, g2, g3, g4, g5, g6, g7, g8⟩ := el_plan (x := (d0, p)) hf
  have hb : Rows.uptoBulk d0 ≤ 1048576 := by
    have hk1 : Rows.uptoSmall H [d0] = true := by simpa using hk
    have h : Rows.uptoBulkAll [d0] ≤ 1048576 := of_decide_eq_true hk1
    simp only [Rows.uptoBulkAll] at h
    omega
  have hcl : cs = #[pv, .int .i64 K, .int .i64 M, .int .i64 B, .int .u8 s0, .int .u8 s1, .int .u8 s2, .int .u8 s3, .int .u8 s4, .int .u8 s5, .int .u8 s6, .int .u8 s7, .int .i64 ep, .int .i64 ct, .bool nn, .int .i64 v.kind, .int .i64 v.ep, .int .i64 v.ct, .int .i64 v.size, plv, lv] := by
    obtain ⟨cl⟩ := cs
    have h : cl = _ := hvs
    rw [h]
  subst hcl
  have hmax : (1048576 : Nat) ≤ maxLen := by decide
  refine (heal_any pv ps K M B ep ct s0 s1 s2 s3 s4 s5 s6 s7 nn v plv pl lv l (by simp only at g2; omega) (fun p hp => ?_) (by simp only at g5; omega) (by simp only at g7; omega) W (fun b => b < W.heap.size) (fun b h => h) ⟨g1, fun p hp => ⟨(g3 p hp).fs, (g3 p hp).pl⟩⟩ g4 g6 (fun s hs => ?_)).mono fun e W' ⟨he, hb⟩ => ?_
  · have h := g3 p hp
    refine ⟨?_, fun f hf => ?_, fun f hf => ?_, ?_⟩
    · have := h.fl
      simp only at this
      omega
    · have := (h.ds f hf).1
      simp only at this
      omega
    · have := (h.ds f hf).2
      simp only at this
      omega
    · have := h.pn
      simp only at this
      omega
  · have h := g8 s hs
    refine ⟨h.bl, ?_, fun p hp => ?_⟩
    · have := h.bn
      simp only at this
      omega
    · have := h.l p hp
      simp only at this
      omega
  · exact ⟨_, he, post_law laidOut hW rfl (by decide +kernel) rfl Tryz.underlying4 rfl rfl rfl hb⟩

theorem healplans_proved : Rows.HealPlansUptoSaid :=
  OpenClaim.holds_of_cond 3 Tryz.f3 rfl rfl rfl rfl rfl rfl rfl ⟨rfl, rfl, rfl, rfl, rfl⟩ rfl rfl rfl rfl rfl (by kernel_rfl) Tryz.func3 (by kernel_rfl)
    (of_decide_eq_true (by kernel_rfl)) (by unfold Func.isWrapper; first | (rw [if_pos (by decide +kernel)]; kernel_rfl) | (rw [if_neg (by decide +kernel)]; exact ⟨rfl, rfl⟩))
    (fun os started H enc _ F => plans_lifted os started H enc F)
#print axioms healplans_proved
end Go.Proofs.YtiaecfdfjhjgiaaGreat.hp
