/- Comparisons of shapes, generations and names that are the same: they are found so. -/
import Derived.Laws.BytesString
import Derived.Deep.CutRange
import Derived.Deep.RegionHeld3
import Derived.Deep.CutBlock
import Derived.DeepKeys
import Derived.Deep.MidRow
import Derived.Deep.WholeRow
import Derived.Test.YtiaecfdfjhjgiaaGreatHqC
import Derived.Test.YtiaecfdfjhjgiaaGreatHpG
import Derived.Test.YtiaecfdfjhjgiaaGreatHpO
import Derived.Test.YtiaecfdfjhjgiaaGreatHpP
namespace Go.Proofs.YtiaecfdfjhjgiaaGreat.hp
open Go.RowKit kit Go.ChangeMaps Go.Maps Go.Sort
set_option linter.unusedVariables false

theorem neq24 (K M B : Int) (w : World) : (binOp .neq 24 (.agg #[.int .i64 K, .int .i64 M, .int .i64 B]) (.agg #[.int .i64 K, .int .i64 M, .int .i64 B])).run Tryz.prog w = .ok (.bool false) w := by
  go_simp
theorem neq27 (K M : Int) (w : World) : (binOp .neq 27 (.agg #[.int .i64 K, .int .i64 M]) (.agg #[.int .i64 K, .int .i64 M])).run Tryz.prog w = .ok (.bool false) w := by
  go_simp
theorem eqItems_same (w : World) (xs : Array Value) : ∀ (is : List Nat), (∀ i ∈ is, ∃ x : Int, (part 5 xs (i * Tryz.prog.cellsOf 5)).run Tryz.prog w = .ok (.int .u8 x) w) → (Op.eqItems 9999 5 (Tryz.prog.cellsOf 5) xs xs is).run Tryz.prog w = .ok true w
  | [], _ => rfl
  | i :: is, h => by
    obtain ⟨x, hx⟩ := h i (List.mem_cons_self ..)
    have ih := eqItems_same w xs is (fun j hj => h j (List.mem_cons_of_mem _ hj))
    have he : (Op.equalIn 9999 5 (.int .u8 x) (.int .u8 x)).run Tryz.prog w = .ok true w := by
      rw [run_equalIn_int w 9998 5 .u8 .u8 x x Tryz.underlying5]
      simp
    simp only [Op.eqItems, Sem.run_bind, hx, Result.andThen_ok, he]
    simpa using ih
theorem neq25 (s0 s1 s2 s3 s4 s5 s6 s7 : Int) (w : World) : (binOp .neq 25 (.agg #[.int .u8 s0, .int .u8 s1, .int .u8 s2, .int .u8 s3, .int .u8 s4, .int .u8 s5, .int .u8 s6, .int .u8 s7]) (.agg #[.int .u8 s0, .int .u8 s1, .int .u8 s2, .int .u8 s3, .int .u8 s4, .int .u8 s5, .int .u8 s6, .int .u8 s7])).run Tryz.prog w = .ok (.bool false) w := by
  have hi : ∃ i, Tryz.prog.info? 5 = some i := info_of_underlying Tryz.underlying5
  obtain ⟨i, hi⟩ := hi
  rw [run_neq_struct, run_equalIn_array w 9999 _ _ Tryz.underlying25 hi, eqItems_same]
  · rfl
  · intro j hj
    have hc : Tryz.prog.cellsOf 5 = 1 := by kernel_rfl
    rw [hc, Nat.mul_one]
    have hj8 : j < 8 := List.mem_range.1 hj
    have h5 : j = 0 ∨ j = 1 ∨ j = 2 ∨ j = 3 ∨ j = 4 ∨ j = 5 ∨ j = 6 ∨ j = 7 := by omega
    rcases h5 with rfl | rfl | rfl | rfl | rfl | rfl | rfl | rfl
    · exact ⟨s0, by go_simp⟩
    · exact ⟨s1, by go_simp⟩
    · exact ⟨s2, by go_simp⟩
    · exact ⟨s3, by go_simp⟩
    · exact ⟨s4, by go_simp⟩
    · exact ⟨s5, by go_simp⟩
    · exact ⟨s6, by go_simp⟩
    · exact ⟨s7, by go_simp⟩
end Go.Proofs.YtiaecfdfjhjgiaaGreat.hp
