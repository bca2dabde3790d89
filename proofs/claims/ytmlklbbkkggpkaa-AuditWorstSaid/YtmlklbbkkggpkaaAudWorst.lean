/- AuditWorst: of any list of findings audit.Worst answers what the document's Worst answers; what is handed in stays, and what lies behind it; and again when the same memory holds others. No condition beyond the form's own reach. -/
import Derived.Test.YtmlklbbkkggpkaaAudT
import Derived.Test.YtmlklbbkkggpkaaAudRead
namespace Go.Proofs.Ytmlklbbkkggpkaa.aud
open Go.ChangeShapes Go.WideShapes Go.ChangeAt Go.RowKit Go.Deep kit frame
set_option linter.unusedVariables false

set_option maxRecDepth 100000 in
theorem worst_lifted (os : Os) (started : os.Started) (H : Type) (enc : TypeId × Value → H) :
    ReturnsInHanded {} Try.checked os 6 .any (Rows.auditWorstSpec.pre6 enc Try.prog Try.f6 Rows.auditWorstRow.domain false) (Rows.auditWorstSpec.post enc Try.prog Try.f6 false true false false) := by
  refine returnsInHanded_of_change_sized (C := Try.checked) own started (by kernel_rfl) Try.func6
    (ChangeSpec.witness6 (enc := enc) (C := Try.checked) false ⟨#[], #[.slice none 0 0], []⟩ 8 (by kernel_rfl) (by kernel_rfl) (by kernel_rfl) (by kernel_rfl)) ?_
  intro W base args ds gs before hval hW hcnd hsz _
  have hW' := hW
  obtain ⟨p, q, hA, hV, rfl, hfz, hnd⟩ := hW'
  obtain ⟨rfl, rfl⟩ := trodVars_none hV
  have hA0 : DataW.TrodAll enc Try.prog W 0 (fun _ => true) true Try.f6.params.toList args.toList ds p := hA
  rw [Try.params6] at hA0 hval
  obtain ⟨v0, d0, hargs, rfl, h0⟩ := trodAll_one hA0
  obtain rfl : args = #[v0] := by cases args; simp_all
  obtain ⟨A, len, cap, rfl⟩ := okWide_slice Try.underlying23 (hval 0 23 v0 rfl rfl)
  obtain ⟨fuel, hf⟩ := h0
  obtain ⟨l, hl, hsl, hd⟩ := open_fds (x := (d0, p)) hf
  have hroom : (len + 2) * 72 ≤ 140737488355328 := by
    rcases hd with ⟨_, rfl⟩ | ⟨elems, spare, hx, hcl, hle, _⟩
    · omega
    · have h72 : (elems.length + spare.length) * Try.prog.bytesOf 27 ≤ reachBytes := sized_slice (j := 0) (t := 23) (e := 27) (elems := elems) (spare := spare) hsz (by rfl) (by simpa using hx) Try.underlying23
      rw [bytes27, hcl] at h72
      have hr : reachBytes = 140737488351232 := rfl
      have := Nat.mul_le_mul_right 72 hle
      omega
  have hkeys : ∀ (i : Nat) (a : Fd), l[i]? = some a → a.key.size ≤ 140737488351232 := by
    intro i a hi
    rcases hd with ⟨_, h0⟩ | ⟨elems, spare, hx, hcl, hle, hel⟩
    · subst h0
      rw [List.eq_nil_of_length_eq_zero hl] at hi
      simp at hi
    · obtain ⟨d, rest, hm, rfl⟩ := hel i a hi
      have := key_reach (ds := [d0]) hsz (by simpa using hx) hm
      have hr : reachBytes = 140737488351232 := rfl
      have he : a.key.data.toList.length = a.key.size := by rw [Array.length_toList]; rfl
      omega
  refine (lent_walk A l len cap W hl hroom hsl hkeys).mono fun e W' ⟨he, hb⟩ => ?_
  exact ⟨_, he, post_law laidOut hW rfl (by decide +kernel) rfl Try.underlying4 rfl rfl rfl hb⟩

theorem worst_proved : Rows.AuditWorstSaid :=
  OpenClaim.holds_of_wide 6 Try.f6 rfl rfl rfl rfl rfl rfl rfl ⟨rfl, rfl, rfl, rfl, rfl⟩ rfl rfl rfl rfl rfl (by kernel_rfl) Try.func6 (by kernel_rfl)
    (of_decide_eq_true (by kernel_rfl)) (by unfold Func.isWrapper; first | (rw [if_pos (by decide +kernel)]; kernel_rfl) | (rw [if_neg (by decide +kernel)]; exact ⟨rfl, rfl⟩))
    (fun os started H enc _ => worst_lifted os started H enc)
#print axioms worst_proved
end Go.Proofs.Ytmlklbbkkggpkaa.aud
