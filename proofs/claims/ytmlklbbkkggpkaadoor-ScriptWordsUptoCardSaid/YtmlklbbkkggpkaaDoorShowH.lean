/- Contract: wire.hex, onto a row of bytes that the call owns. -/
import Derived.Test.YtmlklbbkkggpkaaDoorShowC
import Derived.Test.YtmlklbbkkggpkaaDoorWords
import Derived.Deep.RegionLaw
namespace Go.Proofs.YtmlklbbkkggpkaaDoor.show_
open Go.RowKit kit
set_option linter.unusedVariables false

theorem info5 : (Tryd.prog.info? 5).map (fun i => (i.zero, i.size, i.bytes)) = some (some (Value.int .u8 0), 1, 1) := by kernel_rfl
theorem reads_four (w : World) (a b c d : Value) : words.Reads (w.alloc (.cells #[a, b, c, d] 5)) (w.heap.size + 1) 1 (some ⟨w.heap.size, 0, none⟩) 4 [a, b, c, d] := by
  refine ⟨rfl, fun _ => ⟨_, rfl, Nat.lt_succ_self _, fun j u hu => ?_⟩⟩
  have h := (Bk.mk_new w 5 #[a, b, c, d]).cell j
  have e : (⟨w.heap.size, 0, none⟩ : Addr).add j = ⟨w.heap.size, j, none⟩ := by
    unfold Addr.add
    split
    · rename_i h0; subst h0; rfl
    · simp
  rw [e, h]
  match j, hu with
  | 0, hu => simpa using hu
  | 1, hu => simpa using hu
  | 2, hu => simpa using hu
  | 3, hu => simpa using hu
  | j + 4, hu => simp at hu
theorem hex_own {B n k : Nat} {v : Value} {xs : List Value} {T : List UInt8} {b : UInt8} {w : World}
    (h : w.ownsRow B 5 1 v (n + 4 * k + 4) (xs ++ Lib.byteCells T ++ [.int .u8 92, .int .u8 120, .int .u8 (hexD (b.toNat / 16)).toNat, .int .u8 (hexD (b.toNat % 16)).toNat])) :
    w.ownsRow B 5 1 v (n + 4 * (k + 1)) (xs ++ Lib.byteCells (T ++ told1 b)) := by
  have e : n + 4 * (k + 1) = n + 4 * k + 4 := by omega
  rw [e]
  have e2 : xs ++ Lib.byteCells (T ++ told1 b) = xs ++ Lib.byteCells T ++ [Value.int .u8 92, .int .u8 120, .int .u8 (hexD (b.toNat / 16)).toNat, .int .u8 (hexD (b.toNat % 16)).toNat] := by
    simp [Lib.byteCells, told1]
  rw [e2]
  exact h
theorem hex_bel {B n : Nat} {v : Value} {xs : List Value} {w wr w1 : World} {o : Obj} (h : Below B w wr) (ho : wr.ownsRow B 5 1 v n xs) (hg : (wr.alloc o).drew.grownBy w1 v.ownBlock) (hB : B ≤ wr.heap.size) : Below B w w1 :=
  Below.grown (h.alloc hB o).drew hg (by simp; omega) (fun j hj => (ho.lt j hj).1)
theorem one_four (a b c d : Int) : ∀ u ∈ [Value.int .u8 a, .int .u8 b, .int .u8 c, .int .u8 d], u.oneCell' = true := by
  intro u hu
  simp at hu
  rcases hu with rfl | rfl | rfl | rfl <;> rfl
theorem dig_at (j : Nat) (w : World) (h : j < 16) : (Instr.index 9 (.string { data := #[48, 49, 50, 51, 52, 53, 54, 55, 56, 57, 97, 98, 99, 100, 101, 102] }) (.int .u8 j)).run Tryd.prog w = .ok (.int .u8 (hexD j).toNat) w := by
  have hd : ∀ (j : Nat) (h : j < digs.size), digs[j]'h = hexD j := by decide
  rw [run_index_string w 9 _ .u8 j Tryd.underlying9]
  have h2 : j < digs.size := h
  have h3 : (0 : Int) ≤ (j : Int) ∧ (j : Int) < ((ByteArray.mk #[48, 49, 50, 51, 52, 53, 54, 55, 56, 57, 97, 98, 99, 100, 101, 102]).size : Nat) := ⟨by omega, by exact_mod_cast h2⟩
  rw [dif_pos h3]
  have := hd j h2
  show Result.ok (Value.int .u8 ((digs[((j : Int)).toNat]'(by simpa using h2)).toNat : Nat)) w = _
  simp only [Int.toNat_natCast, this]
set_option maxRecDepth 100000 in
theorem and15 (c : Nat) (h : c < 256) : bits BinOp.and IntKind.u8 (c : Int) 15 = (c : Int) % 16 := by
  revert c
  decide

set_option maxRecDepth 1000000 in
set_option maxHeartbeats 4000000 in
theorem hex_any (B : Nat) (v : Value) (n : Nat) (xs : List Value) (s : ByteArray) (w : World) (hown : w.ownsRow B 5 1 v n xs) (hB : B ≤ w.heap.size) (hlen : n + 4 * s.size ≤ 1099511627776) :
    Calls Tryd.prog 46 #[v, .string s] w fun e w' => ∃ v', e = .returned v' ∧ w'.ownsRow B 5 1 v' (n + 4 * s.size) (xs ++ Lib.byteCells (toldL s.data.toList)) ∧ Below B w w' := by
  have HL := Lib.hid (Lib.size_eq s)
  obtain ⟨i0, hi, hz0, hz1, hz2⟩ := info_parts info5
  have HI := Lib.hid hi; clear hi
  have HZ0 := Lib.hid hz0; clear hz0
  have HZ1 := Lib.hid hz1; clear hz1
  have HZ2 := Lib.hid hz2; clear hz2
  go_enter Tryd.func46, Tryd.ntmps46
  go_wp2
  go_loopw [0, 5] (fun v i wr => ∃ k : Nat, k ≤ s.size ∧ i = .int .i64 k ∧ wr.ownsRow B 5 1 v (n + 4 * k) (xs ++ Lib.byteCells (toldL (s.data.toList.take k))) ∧ Below B w wr) (fun _ i _ => s.size - (intOf i).toNat)
  case atStart => exact ⟨0, by omega, rfl, by simpa [toldL, Lib.byteCells] using hown, Below.refl _ _⟩
  case round =>
    obtain ⟨k, hk, rfl, hown, hbel⟩ := hrel
    by_cases hlt : k < s.size
    · have HB := Lib.hid (toldL_snoc _ k _ (Lib.data_getElem? s k hlt))
      obtain ⟨b, hb⟩ : ∃ b : UInt8, s[k]'hlt = b := ⟨_, rfl⟩
      have hb2 : b.toNat < 256 := UInt8.toNat_lt _
      have HO := Lib.hid hown; clear hown
      have hBs : B ≤ wr.heap.size := Nat.le_trans hB hbel.size
      have HW := Lib.hid hbel; clear hbel
      have hI : ∀ (j : Nat) (wx : World), j < 16 → (Instr.index 9 (.string { data := #[48, 49, 50, 51, 52, 53, 54, 55, 56, 57, 97, 98, 99, 100, 101, 102] }) (.int .u8 j)).run Tryd.prog wx = .ok (.int .u8 (hexD j).toNat) wx := dig_at
      have hI1 : ∀ (wx : World), (Instr.index 9 (.string { data := #[48, 49, 50, 51, 52, 53, 54, 55, 56, 57, 97, 98, 99, 100, 101, 102] }) (.int .u8 ((b.toNat : Int) / 16))).run Tryd.prog wx = .ok (.int .u8 (hexD (b.toNat / 16)).toNat) wx := fun wx => hI (b.toNat / 16) wx (by omega)
      have hI2 : ∀ (wx : World), (Instr.index 9 (.string { data := #[48, 49, 50, 51, 52, 53, 54, 55, 56, 57, 97, 98, 99, 100, 101, 102] }) (.int .u8 ((b.toNat : Int) % 16))).run Tryd.prog wx = .ok (.int .u8 (hexD (b.toNat % 16)).toNat) wx := fun wx => hI (b.toNat % 16) wx (by omega)
      clear hI
      have hn1 : n + 4 * k + 4 ≤ maxLen := by unfold maxLen; omega
      have hn2 : (n + 4 * k + 4) * 1 ≤ 140737488355328 := by omega
      have hand : bits BinOp.and IntKind.u8 (b.toNat : Int) 15 = (b.toNat : Int) % 16 := and15 _ hb2
      go_wp2
      go_region_law ((refine words.step_append_any _ (by rfl) (.tmp 12) (.tmp 23) 50 (by rfl) B 5 i0 (.int .u8 0) 1 1 Tryd.underlying50 HI.out HZ0.out HZ1.out HZ2.out rfl (by decide) u0 (n + 4 * k) _ (by rfl) (HO.out.alloc _) (wr.heap.size + 1) _ 4 4 [.int .u8 92, .int .u8 120, .int .u8 (hexD (b.toNat / 16)).toNat, .int .u8 (hexD (b.toNat % 16)).toNat] (by rfl) (reads_four _ _ _ _ _) (one_four _ _ _ _) hn1 hn2 ?_ ?_); (focus (simp; omega)); intro v1 w1 hown1 hg1 hat1)
      all_goals (
        go_wp2
        go_roundw
        case rel =>
          refine ⟨k + 1, by omega, by go_num, ?_, hex_bel HW.out HO.out hg1 hBs⟩
          rw [HB.out, hb]
          exact hex_own hown1
        case measure => simp [intOf]; omega)
    · have hkn : k = s.size := by omega
      subst hkn
      have HO := Lib.hid hown; clear hown
      have HW := Lib.hid hbel; clear hbel
      go_wp2
      go_ret
      refine ⟨_, rfl, ?_, HW.out⟩
      have h := HO.out
      rw [List.take_of_length_le (by rw [← HL.out]; omega)] at h
      exact h
end Go.Proofs.YtmlklbbkkggpkaaDoor.show_
