/- Contracts: the makers of empty drives and wounds, on both sides; the document's find. -/
import Derived.Test.YtiaecfdfjhjgiaaGreatHpB
namespace Go.Proofs.YtiaecfdfjhjgiaaGreat.hp
open Go.RowKit kit
set_option linter.unusedVariables false

/-- May a drive have so much room? -/
def roomOk (n : Int) : Bool := decide (0 ≤ n ∧ n ≤ 1073741824)
theorem rnew_no (n : Int) (h : roomOk n = false) (w : World) : Calls Tryz.prog 41 #[.int .i64 n] w fun e w' => e = .returned (.pointer none) ∧ w' = w := by
  have h : ¬ (0 ≤ n ∧ n ≤ 1073741824) := of_decide_eq_false h
  by_cases h1 : n < 0
  · go_enter Tryz.func41, Tryz.ntmps41
    go_wp2
    go_ret
    exact ⟨rfl, rfl⟩
  · have h2 : 1073741824 < n := by omega
    clear h
    go_enter Tryz.func41, Tryz.ntmps41
    go_wp2
    go_ret
    exact ⟨rfl, rfl⟩
theorem rnew_yes (n : Int) (h : roomOk n = true) (w : World) : Calls Tryz.prog 41 #[.int .i64 n] w fun e w' => e = .returned (.pointer (some ⟨w.heap.size, 0, none⟩)) ∧ w' = w.alloc (.cells #[.int .i64 n, .slice none 0 0, .slice none 0 0, .slice none 0 0, .slice none 0 0] 123) := by
  obtain ⟨h1, h2⟩ : 0 ≤ n ∧ n ≤ 1073741824 := of_decide_eq_true h
  clear h
  have h3 : ¬ (n < 0) := by omega
  have h4 : ¬ (1073741824 < n) := by omega
  go_enter Tryz.func41, Tryz.ntmps41
  go_wp2
  go_ret
  exact ⟨rfl, rfl⟩
theorem pnew_no (n : Int) (h : roomOk n = false) (w : World) : Calls Tryz.prog 46 #[.int .i64 n] w fun e w' => e = .returned (.pointer none) ∧ w' = w := by
  have h : ¬ (0 ≤ n ∧ n ≤ 1073741824) := of_decide_eq_false h
  by_cases h1 : n < 0
  · go_enter Tryz.func46, Tryz.ntmps46
    go_wp2
    go_ret
    exact ⟨rfl, rfl⟩
  · have h2 : 1073741824 < n := by omega
    clear h
    go_enter Tryz.func46, Tryz.ntmps46
    go_wp2
    go_ret
    exact ⟨rfl, rfl⟩
theorem pnew_yes (n : Int) (h : roomOk n = true) (w : World) : Calls Tryz.prog 46 #[.int .i64 n] w fun e w' => e = .returned (.pointer (some ⟨w.heap.size + 2, 0, none⟩)) ∧ w' = ((w.alloc (.map #[] 0)).alloc (.map #[] 0)).alloc (.cells #[.int .i64 n, .int .i64 0, .map (some w.heap.size), .map (some (w.heap.size + 1)), .slice none 0 0] 136) := by
  obtain ⟨h1, h2⟩ : 0 ≤ n ∧ n ≤ 1073741824 := of_decide_eq_true h
  clear h
  have h3 : ¬ (n < 0) := by omega
  have h4 : ¬ (1073741824 < n) := by omega
  have hmm := @run_makeMap Tryz.prog
  go_enter Tryz.func46, Tryz.ntmps46
  go_wp2
  go_ret
  exact ⟨rfl, rfl⟩
theorem rdisk_no (w : World) : Calls Tryz.prog 18 #[.pointer none] w fun e w' => e = .returned (.pointer none) ∧ w' = w := by
  go_enter Tryz.func18, Tryz.ntmps18
  go_wp2
  go_ret
  exact ⟨rfl, rfl⟩
theorem rdisk_yes (a : Addr) (w : World) : Calls Tryz.prog 18 #[.pointer (some a)] w fun e w' => e = .returned (.pointer (some ⟨w.heap.size, 0, none⟩)) ∧ w' = w.alloc (.cells #[.pointer (some a), .bool false, .bool false, .slice none 0 0, .int .i64 0, .int .i64 0, .bool false, .int .i64 0, .int .i64 0, .int .i64 0] 102) := by
  go_enter Tryz.func18, Tryz.ntmps18
  go_wp2
  go_ret
  exact ⟨rfl, rfl⟩
theorem wound_no (w : World) : Calls Tryz.prog 20 #[.pointer none] w fun e w' => e = .returned (.pointer none) ∧ w' = w := by
  go_enter Tryz.func20, Tryz.ntmps20
  go_wp2
  go_ret
  exact ⟨rfl, rfl⟩
theorem wound_yes (a : Addr) (w : World) : Calls Tryz.prog 20 #[.pointer (some a)] w fun e w' => e = .returned (.pointer (some ⟨w.heap.size, 0, none⟩)) ∧ w' = w.alloc (.cells #[.pointer (some a), .bool false, .bool false, .slice none 0 0, .int .i64 0, .int .i64 0, .pointer none] 107) := by
  go_enter Tryz.func20, Tryz.ntmps20
  go_wp2
  go_ret
  exact ⟨rfl, rfl⟩
end Go.Proofs.YtiaecfdfjhjgiaaGreat.hp
