/- Contracts: Raw of the document, raw.Set of the program. -/
import Derived.Laws.BytesString
import Derived.Deep.CutRange
import Derived.Deep.RegionHeld3
import Derived.Deep.CutBlock
import Derived.Deep.MidRow
import Derived.Deep.WholeRow
import Derived.Test.YtiaecfdfjhjgiaaGreatHpZ
import Derived.Test.YtiaecfdfjhjgiaaGreatHpG
import Derived.Test.YtiaecfdfjhjgiaaGreatHpO
import Derived.Test.YtiaecfdfjhjgiaaGreatHpP
namespace Go.Proofs.YtiaecfdfjhjgiaaGreat.hp
open Go.RowKit kit Go.ChangeMaps Go.Maps Go.Sort
set_option linter.unusedVariables false

/-- What kind of set it is, by number. -/
def rawN (n : Nat) (K M B ep ct : Int) : Int := if fitsB K M B = true ∧ (n : Int) = K + M ∧ 1 ≤ ep ∧ ep ≤ 4294967295 ∧ 0 ≤ ct ∧ ct ≤ 4294967295 then 0 else 2
theorem fitsB_le {K M B : Int} (h : fitsB K M B = true) : 1 ≤ M ∧ M ≤ K ∧ K ≤ 255 := by
  have := of_decide_eq_true h
  exact ⟨this.1, this.2.1, this.2.2.1⟩
set_option maxRecDepth 100000 in
set_option maxHeartbeats 4000000 in
theorem raw_nil (w : World) : Calls Tryz.prog 12 #[.pointer none] w fun e w' => e = .returned (.int .i64 1) ∧ Below w.heap.size w w' := by
  go_enter Tryz.func12, Tryz.ntmps12
  go_wp2
  go_ret
  exact ⟨rfl, Below.refl _ _⟩
set_option maxRecDepth 100000 in
set_option maxHeartbeats 4000000 in
theorem set_nil (w : World) : Calls Tryz.prog 14 #[.pointer none] w fun e w' => e = .returned (.int .i64 1) ∧ Below w.heap.size w w' := by
  go_enter Tryz.func14, Tryz.ntmps14
  go_wp2
  go_ret
  exact ⟨rfl, Below.refl _ _⟩
set_option maxRecDepth 100000 in
set_option maxHeartbeats 4000000 in
theorem raw_any (A : Option Addr) (n c : Nat) (hn : (n : Int) ≤ 1099511627776) (K M B ep ct s0 s1 s2 s3 s4 s5 s6 s7 : Int) (w : World) (mb : Nat) (hb : Bk w mb 60 #[.slice A n c, .int .i64 K, .int .i64 M, .int .i64 B, .int .u8 s0, .int .u8 s1, .int .u8 s2, .int .u8 s3, .int .u8 s4, .int .u8 s5, .int .u8 s6, .int .u8 s7, .int .i64 ep, .int .i64 ct]) :
    Calls Tryz.prog 12 #[.pointer (some ⟨mb, 0, none⟩)] w fun e w' => e = .returned (.int .i64 (rawN n K M B ep ct)) ∧ Below w.heap.size w w' := by
  obtain ⟨N, hN⟩ : ∃ N, rawN n K M B ep ct = N := ⟨_, rfl⟩
  rw [hN]
  have HN := Lib.hid hN; clear hN
  have HB := Lib.hid hb
  have c1 : w.cell? ⟨mb, 1, none⟩ = some (.int .i64 K) := hb.cell 1
  have c2 : w.cell? ⟨mb, 1 + 1, none⟩ = some (.int .i64 M) := hb.cell 2
  have c3 : w.cell? ⟨mb, 1 + 2, none⟩ = some (.int .i64 B) := hb.cell 3
  clear hb
  go_enter Tryz.func12, Tryz.ntmps12
  go_upto_region 4 with (go_at_call 24; refine (fits_any K M B _).mono ?_; intro e w1 h1; obtain ⟨rfl, hb1⟩ := h1; have HB1 := Lib.hid hb1; clear hb1)
  have hbk := HB.out.below HB1.out HB.out.lt
  have d0 : w1.cell? ⟨mb, 0, none⟩ = some (.slice A n c) := hbk.cell 0
  have d1 : w1.cell? ⟨mb, 1, none⟩ = some (.int .i64 K) := hbk.cell 1
  have d2 : w1.cell? ⟨mb, 1 + 1, none⟩ = some (.int .i64 M) := hbk.cell 2
  have d12 : w1.cell? ⟨mb, 12, none⟩ = some (.int .i64 ep) := hbk.cell 12
  have d13 : w1.cell? ⟨mb, 13, none⟩ = some (.int .i64 ct) := hbk.cell 13
  clear c1 c2 c3 hbk
  cases hf : fitsB K M B with
  | false =>
    have HN2 := Lib.hid (show N = 2 by rw [← HN.out]; unfold rawN; rw [hf]; simp)
    clear hf
    go_quiet (fail)
    go_wp2
    go_ret
    exact ⟨congrArg (fun z => Ending.returned (.int .i64 z)) HN2.out.symm, below_drewN HB1.out _⟩
  | true =>
    have ⟨l1, l2, l3⟩ := fitsB_le hf
    have HF := Lib.hid hf; clear hf
    by_cases hq : (n : Int) = K + M
    · have q1 : ((n : Int) == K + M) = true := by simp [hq]
      have q2 : ((n : Int) != K + M) = false := by simp [hq]
      have HQ := Lib.hid hq; clear hq
      by_cases e1 : ep < 1
      · have g1 : decide (ep < 1) = true := decide_eq_true e1
        have HN2 := Lib.hid (show N = 2 by rw [← HN.out]; unfold rawN; rw [if_neg (by omega)])
        clear e1
        go_quiet (fail)
        go_wp2
        go_ret
        exact ⟨congrArg (fun z => Ending.returned (.int .i64 z)) HN2.out.symm, below_drewN HB1.out _⟩
      · have g1 : decide (ep < 1) = false := decide_eq_false e1
        have HE1 := Lib.hid e1; clear e1
        by_cases e2 : 4294967295 < ep
        · have g2 : decide (4294967295 < ep) = true := decide_eq_true e2
          have HN2 := Lib.hid (show N = 2 by rw [← HN.out]; unfold rawN; rw [if_neg (by omega)])
          clear e2
          go_quiet (fail)
          go_wp2
          go_ret
          exact ⟨congrArg (fun z => Ending.returned (.int .i64 z)) HN2.out.symm, below_drewN HB1.out _⟩
        · have g2 : decide (4294967295 < ep) = false := decide_eq_false e2
          have HE2 := Lib.hid e2; clear e2
          by_cases e3 : ct < 0
          · have g3 : decide (ct < 0) = true := decide_eq_true e3
            have HN2 := Lib.hid (show N = 2 by rw [← HN.out]; unfold rawN; rw [if_neg (by omega)])
            clear e3
            go_quiet (fail)
            go_wp2
            go_ret
            exact ⟨congrArg (fun z => Ending.returned (.int .i64 z)) HN2.out.symm, below_drewN HB1.out _⟩
          · have g3 : decide (ct < 0) = false := decide_eq_false e3
            have HE3 := Lib.hid e3; clear e3
            by_cases e4 : 4294967295 < ct
            · have g4 : decide (4294967295 < ct) = true := decide_eq_true e4
              have HN2 := Lib.hid (show N = 2 by rw [← HN.out]; unfold rawN; rw [if_neg (by omega)])
              clear e4
              go_quiet (fail)
              go_wp2
              go_ret
              exact ⟨congrArg (fun z => Ending.returned (.int .i64 z)) HN2.out.symm, below_drewN HB1.out _⟩
            · have g4 : decide (4294967295 < ct) = false := decide_eq_false e4
              have HN2 := Lib.hid (show N = 0 by rw [← HN.out]; unfold rawN; rw [if_pos (by have a1 := HE1.out; have a2 := HE2.out; have a3 := HE3.out; exact ⟨HF.out, HQ.out, by omega, by omega, by omega, by omega⟩)])
              clear e4
              go_quiet (fail)
              go_wp2
              go_ret
              exact ⟨congrArg (fun z => Ending.returned (.int .i64 z)) HN2.out.symm, below_drewN HB1.out _⟩
    · have q1 : ((n : Int) == K + M) = false := by simp [hq]
      have q2 : ((n : Int) != K + M) = true := by simp [hq]
      have HN2 := Lib.hid (show N = 2 by rw [← HN.out]; unfold rawN; rw [if_neg (fun h => hq h.2.1)])
      clear hq
      go_quiet (fail)
      go_wp2
      go_ret
      exact ⟨congrArg (fun z => Ending.returned (.int .i64 z)) HN2.out.symm, below_drewN HB1.out _⟩
set_option maxRecDepth 100000 in
set_option maxHeartbeats 4000000 in
theorem pset_any (A : Option Addr) (n c : Nat) (hn : (n : Int) ≤ 1099511627776) (K M B ep ct s0 s1 s2 s3 s4 s5 s6 s7 : Int) (w : World) (sb : Nat) (hb : Bk w sb 58 #[.slice A n c, .int .i64 K, .int .i64 M, .int .i64 B, .int .u8 s0, .int .u8 s1, .int .u8 s2, .int .u8 s3, .int .u8 s4, .int .u8 s5, .int .u8 s6, .int .u8 s7, .int .i64 ep, .int .i64 ct]) :
    Calls Tryz.prog 14 #[.pointer (some ⟨sb, 0, none⟩)] w fun e w' => e = .returned (.int .i64 (rawN n K M B ep ct)) ∧ Below w.heap.size w w' := by
  obtain ⟨N, hN⟩ : ∃ N, rawN n K M B ep ct = N := ⟨_, rfl⟩
  rw [hN]
  have HN := Lib.hid hN; clear hN
  have HB := Lib.hid hb
  have c1 : w.cell? ⟨sb, 1, none⟩ = some (.int .i64 K) := hb.cell 1
  have c2 : w.cell? ⟨sb, 1 + 1, none⟩ = some (.int .i64 M) := hb.cell 2
  have c3 : w.cell? ⟨sb, 1 + 2, none⟩ = some (.int .i64 B) := hb.cell 3
  clear hb
  cases hf : fitsB K M B with
  | false =>
    have HN2 := Lib.hid (show N = 2 by rw [← HN.out]; unfold rawN; rw [hf]; simp)
    have cF : ∀ W, Calls Tryz.prog 25 #[.agg #[.int .i64 K, .int .i64 M, .int .i64 B]] W fun e w' => e = .returned (.bool false) ∧ Hid (Below W.heap.size W w') := fun W => (shape_any K M B W).mono fun _ _ h => ⟨by rw [← hf]; exact h.1, Lib.hid h.2⟩
    clear hf
    go_enter Tryz.func14, Tryz.ntmps14
    go_wp2_with (go_at_call 25; refine (cF _).mono ?_; intro e w1 h1; obtain ⟨rfl, hb1⟩ := h1; have HB1 := hb1; clear hb1)
    go_ret
    exact ⟨congrArg (fun z => Ending.returned (.int .i64 z)) HN2.out.symm, HB1.out⟩
  | true =>
    have cF : ∀ W, Calls Tryz.prog 25 #[.agg #[.int .i64 K, .int .i64 M, .int .i64 B]] W fun e w' => e = .returned (.bool true) ∧ Hid (Below W.heap.size W w') := fun W => (shape_any K M B W).mono fun _ _ h => ⟨by rw [← hf]; exact h.1, Lib.hid h.2⟩
    have HF := Lib.hid hf; 
    have ⟨l1, l2, l3⟩ := fitsB_le hf
    clear hf
    go_enter Tryz.func14, Tryz.ntmps14
    go_upto_region 4 with (go_at_call 25; refine (cF _).mono ?_; intro e w1 h1; obtain ⟨rfl, hb1⟩ := h1; have HB1 := hb1; clear hb1)
    have hbk := HB.out.below HB1.out HB.out.lt
    have d0 : w1.cell? ⟨sb, 0, none⟩ = some (.slice A n c) := hbk.cell 0
    have d1 : w1.cell? ⟨sb, 1, none⟩ = some (.int .i64 K) := hbk.cell 1
    have d2 : w1.cell? ⟨sb, 1 + 1, none⟩ = some (.int .i64 M) := hbk.cell 2
    have d12 : w1.cell? ⟨sb, 12, none⟩ = some (.int .i64 ep) := hbk.cell 12
    have d13 : w1.cell? ⟨sb, 12 + 1, none⟩ = some (.int .i64 ct) := hbk.cell 13
    clear c1 c2 c3 hbk cF
    by_cases hq : (n : Int) = K + M
    · have q1 : ((n : Int) == K + M) = true := by simp [hq]
      have q2 : ((n : Int) != K + M) = false := by simp [hq]
      have HQ := Lib.hid hq; clear hq
      by_cases e1 : ep < 1
      · have g1 : decide (ep < 1) = true := decide_eq_true e1
        have HN2 := Lib.hid (show N = 2 by rw [← HN.out]; unfold rawN; rw [if_neg (by omega)])
        clear e1
        go_quiet (fail)
        go_wp2
        go_ret
        exact ⟨congrArg (fun z => Ending.returned (.int .i64 z)) HN2.out.symm, below_drewN HB1.out _⟩
      · have g1 : decide (ep < 1) = false := decide_eq_false e1
        have HE1 := Lib.hid e1; clear e1
        by_cases e2 : 4294967295 < ep
        · have g2 : decide (4294967295 < ep) = true := decide_eq_true e2
          have HN2 := Lib.hid (show N = 2 by rw [← HN.out]; unfold rawN; rw [if_neg (by omega)])
          clear e2
          go_quiet (fail)
          go_wp2
          go_ret
          exact ⟨congrArg (fun z => Ending.returned (.int .i64 z)) HN2.out.symm, below_drewN HB1.out _⟩
        · have g2 : decide (4294967295 < ep) = false := decide_eq_false e2
          have HE2 := Lib.hid e2; clear e2
          by_cases e3 : ct < 0
          · have g3 : decide (ct < 0) = true := decide_eq_true e3
            have HN2 := Lib.hid (show N = 2 by rw [← HN.out]; unfold rawN; rw [if_neg (by omega)])
            clear e3
            go_quiet (fail)
            go_wp2
            go_ret
            exact ⟨congrArg (fun z => Ending.returned (.int .i64 z)) HN2.out.symm, below_drewN HB1.out _⟩
          · have g3 : decide (ct < 0) = false := decide_eq_false e3
            have HE3 := Lib.hid e3; clear e3
            by_cases e4 : 4294967295 < ct
            · have g4 : decide (4294967295 < ct) = true := decide_eq_true e4
              have HN2 := Lib.hid (show N = 2 by rw [← HN.out]; unfold rawN; rw [if_neg (by omega)])
              clear e4
              go_quiet (fail)
              go_wp2
              go_ret
              exact ⟨congrArg (fun z => Ending.returned (.int .i64 z)) HN2.out.symm, below_drewN HB1.out _⟩
            · have g4 : decide (4294967295 < ct) = false := decide_eq_false e4
              have HN2 := Lib.hid (show N = 0 by rw [← HN.out]; unfold rawN; rw [if_pos (by have a1 := HE1.out; have a2 := HE2.out; have a3 := HE3.out; exact ⟨HF.out, HQ.out, by omega, by omega, by omega, by omega⟩)])
              clear e4
              go_quiet (fail)
              go_wp2
              go_ret
              exact ⟨congrArg (fun z => Ending.returned (.int .i64 z)) HN2.out.symm, below_drewN HB1.out _⟩
    · have q1 : ((n : Int) == K + M) = false := by simp [hq]
      have q2 : ((n : Int) != K + M) = true := by simp [hq]
      have HN2 := Lib.hid (show N = 2 by rw [← HN.out]; unfold rawN; rw [if_neg (fun h => hq h.2.1)])
      clear hq
      go_quiet (fail)
      go_wp2
      go_ret
      exact ⟨congrArg (fun z => Ending.returned (.int .i64 z)) HN2.out.symm, below_drewN HB1.out _⟩
end Go.Proofs.YtiaecfdfjhjgiaaGreat.hp
