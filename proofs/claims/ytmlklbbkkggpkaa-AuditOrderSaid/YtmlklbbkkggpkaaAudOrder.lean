/- AuditOrder: of any list of findings the worst is one of them, and stays the worst when the others are turned round or it is left alone. No condition beyond the form's own reach. -/
import Derived.Test.YtmlklbbkkggpkaaAudR
import Derived.Test.YtmlklbbkkggpkaaAudRead
namespace Go.Proofs.Ytmlklbbkkggpkaa.aud
open Go.ChangeShapes Go.WideShapes Go.ChangeAt Go.RowKit Go.Deep kit frame
set_option linter.unusedVariables false

theorem order_any (A : Option Addr) (l : List Fd) (n c : Nat) (w : World) (hn : l.length = n) (hm : n * 72 ≤ 140737488355328) (hl : FdSl w w.heap.size A l) :
    Calls Try.prog 7 #[.slice A n c] w fun e w' => e = .returned (.bool true) ∧ Below w.heap.size w w' := by
  cases l with
  | nil =>
    subst hn
    exact order_none A c w
  | cons a l =>
    obtain ⟨b, off, rfl, hb, ha⟩ := hl (by simp)
    exact order_some b off a l n c w hn hm hb ha

set_option maxRecDepth 100000 in
theorem order_lifted (os : Os) (started : os.Started) (H : Type) (enc : TypeId × Value → H) :
    ReturnsInHanded {} Try.checked os 7 .any (Rows.auditOrderSpec.pre6 enc Try.prog Try.f7 Rows.auditOrderRow.domain false) (Rows.auditOrderSpec.post enc Try.prog Try.f7 false true false false) := by
  refine returnsInHanded_of_change_sized (C := Try.checked) own started (by kernel_rfl) Try.func7
    (ChangeSpec.witness6 (enc := enc) (C := Try.checked) false ⟨#[], #[.slice none 0 0], []⟩ 8 (by kernel_rfl) (by kernel_rfl) (by kernel_rfl) (by kernel_rfl)) ?_
  intro W base args ds gs before hval hW hcnd hsz _
  have hW' := hW
  obtain ⟨p, q, hA, hV, rfl, hfz, hnd⟩ := hW'
  obtain ⟨rfl, rfl⟩ := trodVars_none hV
  have hA0 : DataW.TrodAll enc Try.prog W 0 (fun _ => true) true Try.f7.params.toList args.toList ds p := hA
  rw [Try.params7] at hA0 hval
  obtain ⟨v0, d0, hargs, rfl, h0⟩ := trodAll_one hA0
  obtain rfl : args = #[v0] := by cases args; simp_all
  obtain ⟨A, len, cap, rfl⟩ := okWide_slice Try.underlying23 (hval 0 23 v0 rfl rfl)
  obtain ⟨fuel, hf⟩ := h0
  obtain ⟨l, hl, hsl, hd⟩ := open_fds (x := (d0, p)) hf
  have hroom : len * 72 ≤ 140737488355328 := by
    rcases hd with ⟨_, rfl⟩ | ⟨elems, spare, hx, hcl, hle, _⟩
    · omega
    · have h72 : (elems.length + spare.length) * Try.prog.bytesOf 27 ≤ reachBytes := sized_slice (j := 0) (t := 23) (e := 27) (elems := elems) (spare := spare) hsz (by rfl) (by simpa using hx) Try.underlying23
      rw [bytes27, hcl] at h72
      have hr := reachBytes_lt
      have := Nat.mul_le_mul_right 72 hle
      omega
  refine (order_any A l len cap W hl hroom hsl).mono fun e W' ⟨he, hb⟩ => ?_
  exact ⟨_, he, post_law laidOut hW rfl (by decide +kernel) rfl Try.underlying4 rfl rfl rfl hb⟩

theorem order_proved : Rows.AuditOrderSaid :=
  OpenClaim.holds_of_wide 7 Try.f7 rfl rfl rfl rfl rfl rfl rfl ⟨rfl, rfl, rfl, rfl, rfl⟩ rfl rfl rfl rfl rfl (by kernel_rfl) Try.func7 (by kernel_rfl)
    (of_decide_eq_true (by kernel_rfl)) (by unfold Func.isWrapper; first | (rw [if_pos (by decide +kernel)]; kernel_rfl) | (rw [if_neg (by decide +kernel)]; exact ⟨rfl, rfl⟩))
    (fun os started H enc _ => order_lifted os started H enc)
#print axioms order_proved
end Go.Proofs.Ytmlklbbkkggpkaa.aud
