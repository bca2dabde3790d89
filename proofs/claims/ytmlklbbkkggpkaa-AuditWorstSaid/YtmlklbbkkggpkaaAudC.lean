/- Contracts of the orders on findings (layer 25): audit.worse. -/
import Derived.Test.YtmlklbbkkggpkaaAudB
namespace Go.Proofs.Ytmlklbbkkggpkaa.aud
open Go.RowKit kit
set_option linter.unusedVariables false

def sumZ (a : Fd) : Int := wrap64 (wrap64 (a.stale + a.spoilt) + a.silent)
def cmpB (a b : ByteArray) : Int := Lib.compareBytes a.data.toList b.data.toList
def worseZ (a b : Fd) : Int := orZ [Lib.compareInt (rankZ a.kind) (rankZ b.kind), Lib.compareInt a.whole b.whole, Lib.compareInt (sumZ b) (sumZ a), cmpB a.key b.key]

theorem cmpI_any (x y : Int) (w : World) : Calls Try.prog 24 #[.int .i64 x, .int .i64 y] w fun e w' => e = .returned (.int .i64 (Lib.compareInt x y)) ∧ w' = w := Try.cmp_Compare_int x y w
theorem cmpS_any (x y : ByteArray) (w : World) : Calls Try.prog 26 #[.string x, .string y] w fun e w' => e = .returned (.int .i64 (cmpB x y)) ∧ w' = w := Try.strings_Compare x y w

set_option maxHeartbeats 1000000 in
theorem worse_any (a b : Fd) (w : World) : Calls Try.prog 16 #[a.val, b.val] w fun e w' => e = .returned (.int .i64 (worseZ a b)) ∧ Below w.heap.size w w' := by
  unfold Fd.val
  go_enter Try.func16, Try.ntmps16
  go_wp2
  refine region_tail 34 (by kernel_rfl) (by kernel_rfl) ?_
  simp only [List.take_succ_cons, List.take_zero, List.drop_succ_cons, List.drop_zero]
  repeat (first | still_step | (refine wpStill_step (fun K hK => ?_); go_simp; apply Exists.intro; refine ⟨?_, hK _ ?_⟩; (first | (go_at_call 25; exact rank_any _ _) | (go_at_call 24; exact cmpI_any _ _ _) | (go_at_call 26; exact cmpS_any _ _ _)); clear hK K))
  refine wpStill_nil ?_
  go_wp2_with fail
  refine (or_any _ [Lib.compareInt (rankZ a.kind) (rankZ b.kind), Lib.compareInt a.whole b.whole, Lib.compareInt (sumZ b) (sumZ a), cmpB a.key b.key] 4 4 _ rfl (by omega) ?_).mono ?_
  · intro k hk
    unfold sumZ
    match k, hk with
    | 0, _ => go_simp
    | 1, _ => go_simp
    | 2, _ => go_simp
    | 3, _ => go_simp
  rintro e w' ⟨rfl, rfl⟩
  go_wp2
  go_ret
  exact ⟨rfl, ((((Below.refl _ _).alloc (Nat.le_refl _) _).alloc (by simp) _).alloc (by simp; omega) _).drew⟩
end Go.Proofs.Ytmlklbbkkggpkaa.aud
