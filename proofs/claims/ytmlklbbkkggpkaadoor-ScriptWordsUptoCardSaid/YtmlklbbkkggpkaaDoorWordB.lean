/- Contract: the document's text without its backslashes. -/
import Derived.Test.YtmlklbbkkggpkaaDoorWordA
import Derived.WalkSmall
import Derived.Lib.OthersKept
import Derived.Laws.IdiomStrings
import Derived.Laws.BytesArg
import Derived.Laws.RangeAny
import Derived.Deep.RegionLaw
namespace Go.Proofs.YtmlklbbkkggpkaaDoor.show_
open Go.RowKit kit
set_option linter.unusedVariables false

def keyV : Option (List UInt8) → Value
  | none => .tuple #[.string ⟨#[]⟩, .bool false]
  | some K => .tuple #[.string ⟨K.toArray⟩, .bool true]
theorem key_none {acc : List UInt8} {o p : Option (List UInt8)} (h : o = p.map (acc ++ ·)) (hp : p = none) : o = none := by
  subst hp
  exact h
theorem key_map {acc x : List UInt8} {o p q : Option (List UInt8)} (h : o = p.map (acc ++ ·)) (hp : p = q.map (x ++ ·)) : o = q.map ((acc ++ x) ++ ·) := by
  subst hp h
  cases q <;> simp
theorem esc_short {a : Nat} (l : List Nat) (h : ¬ (a = 92 ∨ a = 34)) (hl : l.length < 2) : escL (a :: l) = (0, 0) := by
  by_cases h2 : a = 120
  · subst h2
    match l, hl with
    | [], _ => rfl
    | [d], _ => rfl
    | _ :: _ :: _, hl => simp at hl; omega
  · exact esc_no l h h2

theorem wrap_u8 (X : Int) : 0 ≤ IntKind.u8.wrap X ∧ IntKind.u8.wrap X < 256 := by
  unfold IntKind.wrap
  simp [IntKind.bits, IntKind.signed]
  omega
theorem byte_of {d2 d3 : Int} {u2 u3 : Nat} (h2 : d2 = (u2 : Int)) (h3 : d3 = (u3 : Int)) (l2 : u2 < 16) (l3 : u3 < 16) :
    IntKind.u8.wrap (IntKind.i64.wrap (IntKind.i64.wrap (16 * d2) + d3)) = ((16 * u2 + u3 : Nat) : Int) := by
  subst h2 h3
  rw [IntKind.wrap_i64, IntKind.wrap_i64]
  unfold IntKind.wrap
  simp [IntKind.bits, IntKind.signed]
  omega
theorem byte_of' {d2 d3 : Int} {u2 u3 : Nat} (h2 : d2 = (u2 : Int)) (h3 : d3 = (u3 : Int)) (l2 : u2 < 16) (l3 : u3 < 16) :
    wrap64 (wrap64 (16 * d2) + d3) % 256 = ((16 * u2 + u3 : Nat) : Int) := by
  subst h2 h3
  unfold wrap64
  omega
theorem one_byte {acc : List UInt8} {X : Int} {n : Nat} (h : X = (n : Int)) : Value.string (⟨acc.toArray⟩ ++ ⟨#[UInt8.ofNat X.toNat]⟩) = .string ⟨(acc ++ [n.toUInt8]).toArray⟩ := by
  subst h
  show Value.string (⟨acc.toArray⟩ ++ ⟨[UInt8.ofNat n].toArray⟩) = _
  rw [ByteArray.mk_append_mk]
theorem conv_one (X : Int) (w : World) : (convert 50 9 (.slice (some ⟨w.heap.size, 0, none⟩) 1 1)).run Tryd.prog ((w.alloc (.cells #[.int .u8 (IntKind.u8.wrap X)] 5)).drew) = .ok (.string ⟨#[(IntKind.u8.wrap X).toNat.toUInt8]⟩) ((w.alloc (.cells #[.int .u8 (IntKind.u8.wrap X)] 5)).drew) := by
  have hw := wrap_u8 X
  refine run_convert_bytes_back _ 50 9 5 _ _ [(IntKind.u8.wrap X).toNat.toUInt8] Tryd.underlying50 Tryd.underlying5 Tryd.underlying9 fun j hj => ?_
  have : j = 0 := by simp at hj; exact hj
  subst this
  have h := (Bk.mk_new w 5 #[.int .u8 (IntKind.u8.wrap X)]).cell 0
  show (w.alloc _).cell? _ = _
  rw [show (⟨w.heap.size, 0, none⟩ : Addr).add 0 = ⟨w.heap.size, 0, none⟩ from rfl, h]
  simp
  omega

set_option maxRecDepth 1000000 in
set_option maxHeartbeats 2000000 in
theorem rkey_any (s : ByteArray) (hs : s.size ≤ 1099511627776) (w : World) :
    Calls Tryd.prog 14 #[.string s] w fun e w' => e = .returned (keyV (keyB s.data.toList)) ∧ Below w.heap.size w w' := by
  have HL := Lib.hid (Lib.size_eq s)
  obtain ⟨ans, hans⟩ : ∃ ans, keyB s.data.toList = ans := ⟨_, rfl⟩
  rw [hans]
  have HA := Lib.hid hans; clear hans
  have cD : ∀ (c : Nat) (wx : World), Calls Tryd.prog 24 #[.int .u8 (c : Int)] wx fun e w' => e = .returned (.int .i64 (digZ c)) ∧ wx = w' := fun c wx => (rdigit_any c wx).mono fun _ _ h => ⟨h.1, h.2.symm⟩
  go_enter Tryd.func14, Tryd.ntmps14
  go_wp2
  go_loopw [4, 5] (fun r i wr => ∃ (k : Nat) (acc : List UInt8), k ≤ s.size ∧ i = .int .i64 k ∧ r = .string ⟨acc.toArray⟩ ∧ ans = (keyB (s.data.toList.drop k)).map (acc ++ ·) ∧ acc.length ≤ k ∧ Below w.heap.size w wr) (fun _ i _ => s.size - (intOf i).toNat)
  case atStart =>
    refine ⟨0, [], by omega, rfl, rfl, ?_, by simp, Below.refl _ _⟩
    rw [← HA.out]
    show keyB s.data.toList = (keyB s.data.toList).map ([] ++ ·)
    cases keyB s.data.toList <;> simp
  case round =>
    obtain ⟨k, acc, hk, rfl, rfl, hz, hal, hbw⟩ := hrel
    have HZ := Lib.hid hz; clear hz
    have HW := Lib.hid hbw; clear hbw
    by_cases hlt : k < s.size
    · have HB := Lib.hid (drop_at _ _ _ (Lib.data_getElem? s k hlt))
      obtain ⟨b, hb⟩ : ∃ b, s[k]'hlt = b := ⟨_, rfl⟩
      rw [hb] at HB
      obtain ⟨c, hc⟩ : ∃ c, b.toNat = c := ⟨_, rfl⟩
      have hc2 : c < 256 := by rw [← hc]; exact UInt8.toNat_lt _
      have HE : Hid (∀ a b : Nat, s.extract a b = ⟨((s.data.toList.drop a).take (b - a)).toArray⟩) := Lib.hid fun a b => Lib.extract_eq s a b
      by_cases h92 : c = 92
      · have e92 : b = 92 := UInt8.toNat_inj.1 (by rw [hc, h92]; rfl)
        subst h92
        have HS := Lib.hid ((congrArg keyB (HB.out.trans (by rw [e92]))).trans (keyB_slash (s.data.toList.drop (k + 1))))
        have HN : Hid ((escL (natsL (s.data.toList.drop (k + 1)))).1 = 0 → ans = none) := Lib.hid fun h => key_none HZ.out (by rw [HS.out, if_pos h])
        by_cases hl1 : k + 1 < s.size
        · have HB1 := Lib.hid (drop_at _ _ _ (Lib.data_getElem? s (k + 1) hl1))
          obtain ⟨b1, hb1⟩ : ∃ b1, s[k + 1]'hl1 = b1 := ⟨_, rfl⟩
          rw [hb1] at HB1
          obtain ⟨c1, hc1⟩ : ∃ c1, b1.toNat = c1 := ⟨_, rfl⟩
          have HN1 := Lib.hid (show natsL (s.data.toList.drop (k + 1)) = c1 :: natsL (s.data.toList.drop (k + 1 + 1)) by rw [HB1.out, ← hc1]; rfl)
          by_cases hq : c1 = 92 ∨ c1 = 34
          · have HQ := Lib.hid (show keyB (s.data.toList.drop k) = (keyB (s.data.toList.drop (k + 2))).map ([b1] ++ ·) by
              rw [HS.out, HN1.out, esc_q _ hq, if_neg (show ¬ (1 : Nat) = 0 by decide), List.drop_drop]
              have : c1.toUInt8 = b1 := by rw [← hc1]; simp
              rw [this]
              rfl)
            rcases hq with hq | hq
            · subst hq
              go_wp2
              go_roundw
              case rel =>
                refine ⟨k + 2, acc ++ [b1], by omega, by go_num, ?_, ?_, by simp; omega, HW.out⟩
                · refine congrArg Value.string ?_
                  show (⟨acc.toArray⟩ ++ s.extract (k + 1) (k + 2) : ByteArray) = _
                  rw [HE.out, HB1.out, show k + 2 - (k + 1) = 1 by omega, ByteArray.mk_append_mk]
                  rfl
                · exact key_map HZ.out HQ.out
              case measure => simp [intOf]; omega
            · subst hq
              have e92' : ((34 : Int) == 92) = false := rfl
              go_wp2
              go_roundw
              case rel =>
                refine ⟨k + 2, acc ++ [b1], by omega, by go_num, ?_, ?_, by simp; omega, HW.out⟩
                · refine congrArg Value.string ?_
                  show (⟨acc.toArray⟩ ++ s.extract (k + 1) (k + 2) : ByteArray) = _
                  rw [HE.out, HB1.out, show k + 2 - (k + 1) = 1 by omega, ByteArray.mk_append_mk]
                  rfl
                · exact key_map HZ.out HQ.out
              case measure => simp [intOf]; omega
          · have q1 : ((c1 : Int) == 92) = false := by simp; omega
            have q2 : ((c1 : Int) == 34) = false := by simp; omega
            by_cases hl3 : k + 3 < s.size
            · have HB2 := Lib.hid (drop_at _ _ _ (Lib.data_getElem? s (k + 2) (by omega)))
              have HB3 := Lib.hid (drop_at _ _ _ (Lib.data_getElem? s (k + 3) hl3))
              have hl2 : k + 2 < s.size := by omega
              obtain ⟨b2, hb2⟩ : ∃ b2, s[k + 2]'hl2 = b2 := ⟨_, rfl⟩
              obtain ⟨b3, hb3⟩ : ∃ b3, s[k + 3]'hl3 = b3 := ⟨_, rfl⟩
              rw [hb2] at HB2
              rw [hb3] at HB3
              obtain ⟨c2, hc2'⟩ : ∃ c2, b2.toNat = c2 := ⟨_, rfl⟩
              obtain ⟨c3, hc3'⟩ : ∃ c3, b3.toNat = c3 := ⟨_, rfl⟩
              have hc2b : c2 < 256 := by rw [← hc2']; exact UInt8.toNat_lt _
              have hc3b : c3 < 256 := by rw [← hc3']; exact UInt8.toNat_lt _
              have HN2 := Lib.hid (show natsL (s.data.toList.drop (k + 1 + 1)) = c2 :: c3 :: natsL (s.data.toList.drop (k + 3 + 1)) by
                show natsL (s.data.toList.drop (k + 2)) = _
                rw [HB2.out]
                show b2.toNat :: natsL (s.data.toList.drop (k + 3)) = _
                rw [HB3.out, ← hc2', ← hc3']
                rfl)
              by_cases hx : c1 = 120
              · subst hx
                have HX := Lib.hid (show escL (natsL (s.data.toList.drop (k + 1))) = if hexV c2 < 16 ∧ hexV c3 < 16 then (3, 16 * hexV c2 + hexV c3) else (0, 0) by rw [HN1.out, HN2.out]; rfl)
                by_cases hd2 : hexV c2 < 16
                · have hz2 : digZ c2 = (hexV c2 : Int) := by unfold digZ; rw [if_pos hd2]
                  by_cases hd3 : hexV c3 < 16
                  · have hz3 : digZ c3 = (hexV c3 : Int) := by unfold digZ; rw [if_pos hd3]
                    have HQ := Lib.hid (show keyB (s.data.toList.drop k) = (keyB (s.data.toList.drop (k + 4))).map ([(16 * hexV c2 + hexV c3).toUInt8] ++ ·) by
                      rw [HS.out, HX.out.trans (if_pos ⟨hd2, hd3⟩), if_neg (show ¬ (3 : Nat) = 0 by decide), List.drop_drop]
                      rfl)
                    generalize hexV c2 = u2 at *
                    generalize hexV c3 = u3 at *
                    go_wp2_with (go_at_call 24; refine (cD _ _).mono ?_; rintro e w' ⟨rfl, rfl⟩)
                    have w2 : IntKind.i64.wrap ((k : Int) + 2) = ((k + 2 : Nat) : Int) := by rw [IntKind.wrap_i64]; omega
                    have w3 : IntKind.i64.wrap ((k : Int) + 3) = ((k + 3 : Nat) : Int) := by rw [IntKind.wrap_i64]; omega
                    have i2 : (0 : Int) ≤ ((k + 2 : Nat) : Int) ∧ ((k + 2 : Nat) : Int) < (s.size : Int) := by omega
                    have i3 : (0 : Int) ≤ ((k + 3 : Nat) : Int) ∧ ((k + 3 : Nat) : Int) < (s.size : Int) := by omega
                    have hsum : ¬ (9223372036854775807 < acc.length + 1) := by omega
                    have hcv : ∀ (X : Int) (wx : World), (convert 50 9 (.slice (some ⟨wx.heap.size, 0, none⟩) 1 1)).run Tryd.prog ((wx.alloc (.cells #[.int .u8 (IntKind.u8.wrap X)] 5)).drew) = .ok (.string ⟨#[(IntKind.u8.wrap X).toNat.toUInt8]⟩) ((wx.alloc (.cells #[.int .u8 (IntKind.u8.wrap X)] 5)).drew) := conv_one
                    go_region_law (go_simp; go_at_call 24; refine (cD _ _).mono ?_; rintro e w' ⟨rfl, rfl⟩)
                    all_goals (
                      go_wp2
                      go_roundw
                      case rel =>
                        refine ⟨k + 4, acc ++ [(16 * u2 + u3).toUInt8], by omega, by go_num, ?_, key_map HZ.out HQ.out, by simp; omega, (HW.out.alloc (by have := HW.out.size; omega) _).drew⟩
                        have e2 : digZ (s[k + 2]'hl2).toNat = (u2 : Int) := by rw [hb2, hc2', hz2]
                        have e3 : digZ (s[k + 3]'hl3).toNat = (u3 : Int) := by rw [hb3, hc3', hz3]
                        exact one_byte (byte_of' e2 e3 hd2 hd3)
                      case measure => simp [intOf]; omega)
                  · have hz3 : digZ c3 = -1 := by unfold digZ; rw [if_neg hd3]
                    have hN := Lib.hid (HN.out (by rw [HX.out, if_neg (fun h => hd3 h.2)]))
                    go_wp2_with (go_at_call 24; refine (cD _ _).mono ?_; rintro e w' ⟨rfl, rfl⟩)
                    go_ret2
                    refine ⟨?_, HW.out⟩
                    rw [hN.out]
                    rfl
                · have hz2 : digZ c2 = -1 := by unfold digZ; rw [if_neg hd2]
                  have hN := Lib.hid (HN.out (by rw [HX.out, if_neg (fun h => hd2 h.1)]))
                  go_wp2_with (go_at_call 24; refine (cD _ _).mono ?_; rintro e w' ⟨rfl, rfl⟩)
                  go_ret2
                  refine ⟨?_, HW.out⟩
                  rw [hN.out]
                  rfl
              · have e120 : ((c1 : Int) != 120) = true := by simp; omega
                have hN := Lib.hid (HN.out (by rw [HN1.out, esc_no _ hq hx]))
                go_wp2
                go_ret2
                refine ⟨?_, HW.out⟩
                rw [hN.out]
                rfl
            · have hN := Lib.hid (HN.out (by
                rw [HN1.out, esc_short _ hq (by
                  unfold natsL
                  rw [List.length_map, List.length_drop, ← HL.out]
                  omega)]))
              go_wp2
              go_ret2
              refine ⟨?_, HW.out⟩
              rw [hN.out]
              rfl
        · have hN := Lib.hid (HN.out (by
            rw [List.drop_of_length_le (by rw [← HL.out]; omega)]
            rfl))
          go_wp2
          go_ret2
          refine ⟨?_, HW.out⟩
          rw [hN.out]
          rfl
      · have e92 : ((c : Int) != 92) = true := by simp; omega
        go_wp2
        go_roundw
        case rel =>
          refine ⟨k + 1, acc ++ [b], by omega, by go_num, ?_, ?_, by simp; omega, HW.out⟩
          · refine congrArg Value.string ?_
            show (⟨acc.toArray⟩ ++ s.extract k (k + 1) : ByteArray) = _
            rw [HE.out, HB.out, show k + 1 - k = 1 by omega, ByteArray.mk_append_mk]
            rfl
          · exact key_map HZ.out (by rw [HB.out, keyB_other b _ (by rw [hc]; exact h92)]; rfl)
        case measure => simp [intOf]; omega
    · have HN := Lib.hid (show ans = some acc by rw [HZ.out, List.drop_of_length_le (by rw [← HL.out]; omega)]; simp [keyB_nil])
      go_wp2
      go_ret2
      refine ⟨?_, HW.out⟩
      rw [HN.out]
      rfl
end Go.Proofs.YtmlklbbkkggpkaaDoor.show_
