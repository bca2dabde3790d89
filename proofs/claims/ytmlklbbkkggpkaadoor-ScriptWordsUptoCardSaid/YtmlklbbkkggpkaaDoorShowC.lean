/- Contracts: the document's told, and its Show. -/
import Derived.Test.YtmlklbbkkggpkaaDoorShowA
namespace Go.Proofs.YtmlklbbkkggpkaaDoor.show_
open Go.RowKit kit
set_option linter.unusedVariables false

def digs : ByteArray := ⟨#[48, 49, 50, 51, 52, 53, 54, 55, 56, 57, 97, 98, 99, 100, 101, 102]⟩
theorem dig_cut (n : Nat) (h : n < 16) : digs.extract n (n + 1) = ⟨#[hexD n]⟩ := by
  revert n
  decide
theorem toldL_snoc (L : List UInt8) (k : Nat) (b : UInt8) (h : L[k]? = some b) : toldL (L.take (k + 1)) = toldL (L.take k) ++ told1 b := by
  rw [List.take_add_one, h]
  simp [toldL]

set_option maxRecDepth 1000000 in
set_option maxHeartbeats 2000000 in
theorem told_any (s : ByteArray) (hs : s.size ≤ 1099511627776) (w : World) :
    Calls Tryd.prog 26 #[.string s] w fun e w' => e = .returned (.string ⟨(toldL s.data.toList).toArray⟩) ∧ ∃ n, w' = w.drewN n := by
  have HL := Lib.hid (Lib.size_eq s)
  go_enter Tryd.func26, Tryd.ntmps26
  go_wp2
  go_loopw [3, 4] (fun r i wr => ∃ k m : Nat, k ≤ s.size ∧ i = .int .i64 k ∧ r = .string ⟨(toldL (s.data.toList.take k)).toArray⟩ ∧ wr = w.drewN m) (fun _ i _ => s.size - (intOf i).toNat)
  case atStart => exact ⟨0, 0, by omega, rfl, rfl, rfl⟩
  case round =>
    obtain ⟨k, m, hk, rfl, rfl, rfl⟩ := hrel
    by_cases hlt : k < s.size
    · have HB := Lib.hid (toldL_snoc _ k _ (Lib.data_getElem? s k hlt))
      obtain ⟨b, hb⟩ : ∃ b : UInt8, s[k]'hlt = b := ⟨_, rfl⟩
      have hb2 : b.toNat < 256 := UInt8.toNat_lt _
      have HC1 := Lib.hid (dig_cut (b.toNat / 16) (by omega))
      have HC2 := Lib.hid (dig_cut (b.toNat % 16) (by omega))
      have hX : (toldL (s.data.toList.take k)).length ≤ 4398046511104 := by rw [toldL_len, List.length_take]; omega
      obtain ⟨X, hXe⟩ : ∃ X, X = toldL (s.data.toList.take k) := ⟨_, rfl⟩
      rw [← hXe] at hX ⊢
      have HX := Lib.hid hXe; clear hXe
      go_wp2
      go_quiet (fail)
      go_wp2
      go_roundw
      case rel =>
        refine ⟨k + 1, _, by omega, by go_num, ?_, rfl⟩
        show Value.string ((((⟨X.toArray⟩ ++ ⟨[92, 120].toArray⟩ : ByteArray) ++ digs.extract (b.toNat / 16) (b.toNat / 16 + 1)) ++ digs.extract (b.toNat % 16) (b.toNat % 16 + 1))) = _
        rw [HC1.out, HC2.out, HB.out, hb, HX.out]
        show Value.string ((((⟨(toldL (s.data.toList.take k)).toArray⟩ ++ ⟨[92, 120].toArray⟩ : ByteArray) ++ ⟨[hexD (b.toNat / 16)].toArray⟩) ++ ⟨[hexD (b.toNat % 16)].toArray⟩)) = _
        rw [ByteArray.mk_append_mk, ByteArray.mk_append_mk, ByteArray.mk_append_mk]
        simp [told1]
      case measure => simp [intOf]; omega
    · have hkn : k = s.size := by omega
      subst hkn
      go_wp2
      go_ret
      refine ⟨?_, m, rfl⟩
      rw [List.take_of_length_le (by rw [← HL.out]; omega)]
      rfl

theorem cut_data (s : ByteArray) (a b : Nat) : (s.extract a b).data.toList = (s.data.toList.drop a).take (b - a) := Lib.extract_data s a b

end Go.Proofs.YtmlklbbkkggpkaaDoor.show_
