/- ScriptQuotes where what it reads is of bulk at most 1048576: script.Quote and the document's Quote tell the same of every word. Condition: the Upto form's bound. -/
import Derived.Test.YtmlklbbkkggpkaaFrame
import Derived.Test.YtmlklbbkkggpkaaShowY
import Derived.JoinedCond
namespace Go.Proofs.Ytmlklbbkkggpkaa.show_
open Go.ChangeShapes Go.WideShapes Go.ChangeAt Go.RowKit Go.Deep kit frame
open Go.ChangeMaps (open_string shut_string)
set_option linter.unusedVariables false

theorem quotes_any (s : ByteArray) (hs : s.size ≤ 1048576) (w : World) :
    Calls Try.prog 8 #[.string s] w fun e w' => e = .returned (.bool true) ∧ Below w.heap.size w w' := by
  have HA : Hid (∀ wx : World, Calls Try.prog 12 #[.string s] wx fun e w' => e = .returned (.string ⟨(quoteL s.data.toList).toArray⟩) ∧ Below wx.heap.size wx w') := Lib.hid fun wx => quote_any s (by omega) wx
  have HB : Hid (∀ wx : World, Calls Try.prog 13 #[.string s] wx fun e w' => e = .returned (.string ⟨(quoteL s.data.toList).toArray⟩) ∧ Below wx.heap.size wx w') := Lib.hid fun wx => rquote_any s (by omega) wx
  generalize quoteL s.data.toList = X at HA HB
  go_enter Try.func8, Try.ntmps8
  go_wp2_with (first
    | (go_at_call 12; refine (HA.out _).mono ?_; rintro e w1 ⟨rfl, h1⟩)
    | (go_at_call 13; refine (HB.out _).mono ?_; rintro e w2 ⟨rfl, h2⟩))
  go_ret
  exact ⟨rfl, h1.trans (h2.mono h1.size)⟩

/-- The bound gives the word's length. -/
theorem short {H : Type} {s : ByteArray} (hk : Rows.uptoSmall H [.lit (.string s.data.toList)] = true) : s.size ≤ 1048576 := by
  have h : Rows.uptoBulkAll [DataW.lit (H := H) (.string s.data.toList)] ≤ 1048576 := of_decide_eq_true hk
  simp only [Rows.uptoBulkAll, Rows.uptoBulk] at h
  have e : s.data.toList.length = s.size := by rw [Array.length_toList]; rfl
  omega

set_option maxRecDepth 100000 in
theorem quotes_lifted (os : Os) (started : os.Started) (H : Type) (enc : TypeId × Value → H) (F : Stop.Interp) :
    ReturnsInHanded {} Try.checked os 8 .any ((Rows.OpenSpec.upto Rows.scriptQuotesSpec).pre6 enc Try.prog Try.f8 Rows.scriptQuotesUptoRow.domain false) (((Rows.OpenSpec.upto Rows.scriptQuotesSpec).at F).post enc Try.prog Try.f8 false true false false) := by
  refine returnsInHanded_of_cond (C := Try.checked) (s := Rows.OpenSpec.upto Rows.scriptQuotesSpec) (k := Rows.uptoSmall) rfl own started (by kernel_rfl) Try.func8
    (OpenSpec.witness (enc := enc) (C := Try.checked) (s := Rows.OpenSpec.upto Rows.scriptQuotesSpec) (k := Rows.uptoSmall) rfl false ⟨#[], #[.string .empty], []⟩ 8 (by kernel_rfl) (by kernel_rfl) (by kernel_rfl)
      (x := ([.lit (.string [])], [], [])) (by kernel_rfl) rfl (by kernel_rfl)) ?_
  intro W base args ds gs before hval hW _ hk _
  have hW' := hW
  obtain ⟨p, q, hA, hV, rfl, hfz, hnd⟩ := hW'
  obtain ⟨rfl, rfl⟩ := trodVars_none hV
  have hA0 : DataW.TrodAll enc Try.prog W 0 (fun _ => true) true Try.f8.params.toList args.toList ds p := hA
  rw [Try.params8] at hA0 hval
  obtain ⟨v0, d0, hargs, rfl, h0⟩ := trodAll_one hA0
  obtain rfl : args = #[v0] := by cases args; simp_all
  obtain ⟨s, rfl, hd, rfl, hmax⟩ := open_string Try.underlying9 (hval 0 9 v0 rfl rfl) h0
  have hs : s.size ≤ 1048576 := by
    subst hd
    exact short (by simpa using hk)
  refine (quotes_any s hs W).mono fun e W' ⟨he, hb⟩ => ?_
  exact ⟨_, he, post_law laidOut hW rfl (by decide +kernel) rfl Try.underlying4 rfl rfl rfl hb⟩

theorem quotes_proved : Rows.ScriptQuotesUptoSaid :=
  OpenClaim.holds_of_cond 8 Try.f8 rfl rfl rfl rfl rfl rfl rfl ⟨rfl, rfl, rfl, rfl, rfl⟩ rfl rfl rfl rfl rfl (by kernel_rfl) Try.func8 (by kernel_rfl)
    (of_decide_eq_true (by kernel_rfl)) (by unfold Func.isWrapper; first | (rw [if_pos (by decide +kernel)]; kernel_rfl) | (rw [if_neg (by decide +kernel)]; exact ⟨rfl, rfl⟩))
    (fun os started H enc _ F => quotes_lifted os started H enc F)
#print axioms quotes_proved
end Go.Proofs.Ytmlklbbkkggpkaa.show_
