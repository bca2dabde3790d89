/- Contract: script.quoted. -/
import Derived.Test.YtmlklbbkkggpkaaDoorWordG
namespace Go.Proofs.YtmlklbbkkggpkaaDoor.show_
open Go.RowKit kit
set_option linter.unusedVariables false

theorem quoted_none {M : List UInt8} (h : closeL M = none) : quotedW M = ([], [], 320) := by unfold quotedW; rw [h]
theorem quoted_bad {M : List UInt8} {k : Nat} (h : closeL M = some k) (hu : unR (M.take k) = none) : quotedW M = ([], [], 321) := by
  unfold quotedW
  rw [h]
  simp only [hu]
theorem quoted_tail {M K : List UInt8} {k : Nat} (h : closeL M = some k) (hu : unR (M.take k) = some K) (hn : (M.drop (k + 1)).head?.any nb = true) : quotedW M = ([], [], 320) := by
  unfold quotedW
  rw [h]
  simp only [hu]
  rw [if_pos hn]
theorem quoted_ok {M K : List UInt8} {k : Nat} (h : closeL M = some k) (hu : unR (M.take k) = some K) (hn : (M.drop (k + 1)).head?.any nb = false) : quotedW M = (K, M.drop (k + 1), 0) := by
  unfold quotedW
  rw [h]
  simp only [hu]
  rw [if_neg (by rw [hn]; decide)]

set_option maxRecDepth 1000000 in
set_option maxHeartbeats 2000000 in
theorem quoted_any (s : ByteArray) (h0 : 0 < s.size) (hs : s.size ≤ 17179869184) (w : World) (hT : Lib.Utf8Tabs 0 1 w) :
    Calls Tryd.prog 13 #[.string s] w fun e w' => e = .returned (stepV (quotedW (s.data.toList.drop 1))) ∧ Below w.heap.size w w' := by
  have HL := Lib.hid (Lib.size_eq s)
  have HT := Lib.hid hT
  clear hT
  obtain ⟨ans, hans⟩ : ∃ ans, quotedW (s.data.toList.drop 1) = ans := ⟨_, rfl⟩
  rw [hans]
  have HA := Lib.hid hans; clear hans
  obtain ⟨cl, hcl⟩ : ∃ cl, closeL (s.data.toList.drop 1) = cl := ⟨_, rfl⟩
  have HCL := Lib.hid hcl; clear hcl
  have fin1 : Hid (stepV ([], [], 320) = .tuple #[.string ⟨#[]⟩, .string ⟨#[]⟩, .int .i64 320]) := Lib.hid rfl
  have fin2 : Hid (stepV ([], [], 321) = .tuple #[.string ⟨#[]⟩, .string ⟨#[]⟩, .int .i64 321]) := Lib.hid rfl
  go_enter Tryd.func13, Tryd.ntmps13
  go_wp2
  go_loop [5] (fun i => ∃ k : Nat, k + 1 ≤ s.size + 1 ∧ i = .int .i64 ((k + 1 : Nat) : Int) ∧ cl = (closeL (s.data.toList.drop (k + 1))).map (· + k)) (fun i => s.size + 1 - (intOf i).toNat)
  case atStart =>
    refine ⟨0, by omega, rfl, ?_⟩
    rw [← HCL.out]
    show closeL (s.data.toList.drop 1) = (closeL (s.data.toList.drop 1)).map (· + 0)
    cases closeL (s.data.toList.drop 1) <;> rfl
  case round =>
    obtain ⟨k, hk, rfl, hz⟩ := hrel
    have HZ := Lib.hid hz; clear hz
    by_cases hlt : k + 1 < s.size
    · have HB := Lib.hid (drop_at _ _ _ (Lib.data_getElem? s (k + 1) hlt))
      obtain ⟨b, hb⟩ : ∃ b, s[k + 1]'hlt = b := ⟨_, rfl⟩
      rw [hb] at HB
      obtain ⟨c, hc⟩ : ∃ c, b.toNat = c := ⟨_, rfl⟩
      by_cases h34 : c = 34
      · subst h34
        have hb34 : b = 34 := UInt8.toNat_inj.1 (by rw [hc]; rfl)
        have HK := Lib.hid (show cl = some k by
          rw [HZ.out, HB.out, closeL_cons, if_pos hb34]
          show some (0 + k) = some k
          rw [Nat.zero_add])
        clear HZ HB
        obtain ⟨un, hun⟩ : ∃ un, unR ((s.data.toList.drop 1).take k) = un := ⟨_, rfl⟩
        have cU : Calls Tryd.prog 23 #[.string (s.extract 1 (k + 1))] w fun e w' => e = .returned (keyV un) ∧ Hid (Below w.heap.size w w') := (wunshow_any (s.extract 1 (k + 1)) (by simp; omega) w HT.out).mono fun _ _ h => ⟨by
          rw [h.1, un_same, Lib.extract_data, show k + 1 - 1 = k by omega, hun], Lib.hid h.2⟩
        have hkk : closeL (s.data.toList.drop 1) = some k := HCL.out.trans HK.out
        cases un with
        | none =>
          have hN := Lib.hid (show ans = ([], [], 321) by rw [← HA.out]; exact quoted_bad hkk hun)
          have hv : keyV none = .tuple #[.string ⟨#[]⟩, .bool false] := rfl
          rw [hv] at cU
          clear hun hkk hv
          go_wp2_with (go_at_call 23; refine cU.mono ?_; rintro e w1 ⟨rfl, hb1⟩)
          go_ret3
          exact ⟨by rw [hN.out, fin2.out]; rfl, hb1.out⟩
        | some K =>
          have hv : keyV (some K) = .tuple #[.string ⟨K.toArray⟩, .bool true] := rfl
          rw [hv] at cU
          have hdd : (s.data.toList.drop 1).drop (k + 1) = s.data.toList.drop (k + 2) := by rw [List.drop_drop, show 1 + (k + 1) = k + 2 by omega]
          obtain ⟨E, hE⟩ : ∃ E, s.extract (k + 1 + 1) s.size = E := ⟨_, rfl⟩
          have hEd : E.data.toList = s.data.toList.drop (k + 2) := by
            rw [← hE, Lib.extract_data]
            exact List.take_of_length_le (by rw [List.length_drop, ← HL.out]; omega)
          have HE := Lib.hid hEd
          have hEs := Lib.size_eq E
          have hEL : E.toList = E.data.toList := Lib.toList_data E
          have hok := fun hn => quoted_ok (M := s.data.toList.drop 1) (K := K) hkk hun hn
          have hta := fun hn => quoted_tail (M := s.data.toList.drop 1) (K := K) hkk hun hn
          rw [hdd, ← hEd, HA.out] at hok
          rw [hdd, ← hEd, HA.out] at hta
          clear hun hkk hv hdd hEd
          by_cases hz : E.size = 0
          · have hnil : E.data.toList = [] := List.length_eq_zero_iff.1 (by rw [← hEs]; exact hz)
            have hN := Lib.hid (hok (by rw [hnil]; rfl))
            have hemp : E.toList = [] := hEL.trans hnil
            have hEe : Hid (Value.string E = .string ⟨E.data.toList.toArray⟩) := Lib.hid rfl
            clear hok hta hEL hEs hnil
            go_wp2_with (go_at_call 23; refine cU.mono ?_; rintro e w1 ⟨rfl, hb1⟩)
            go_ret3
            exact ⟨by rw [hN.out]; subst hE; rfl, hb1.out⟩
          · have hz0 : 0 < E.size := by omega
            have hg := Lib.data_getElem? E 0 hz0
            obtain ⟨e0, he0⟩ : ∃ e0, E[0]'hz0 = e0 := ⟨_, rfl⟩
            rw [he0] at hg
            obtain ⟨c0, hc0⟩ : ∃ c0, e0.toNat = c0 := ⟨_, rfl⟩
            have hhd : E.data.toList.head? = some e0 := by rw [List.head?_eq_getElem?]; exact hg
            have hnb : E.data.toList.head?.any nb = nb e0 := by rw [hhd]; rfl
            rw [hnb] at hok hta
            have hzi : (0 : Int) < (E.size : Int) := by omega
            have hemp : E.toList.isEmpty = false := by
              rw [hEL]
              cases h : E.data.toList with
              | nil => rw [h] at hhd; cases hhd
              | cons _ _ => rfl
            have hemp2 : ¬ (E.toList = []) := by
              rw [hEL]
              intro h
              rw [h] at hhd
              cases hhd
            by_cases hbl : c0 = 32 ∨ c0 = 9
            · have hN := Lib.hid (hok (by unfold nb blankN; rw [hc0]; rcases hbl with h | h <;> rw [h] <;> rfl))
              clear hok hta hEL hEs hg hhd hnb hz
              rcases hbl with rfl | rfl
              · go_wp2_with (go_at_call 23; refine cU.mono ?_; rintro e w1 ⟨rfl, hb1⟩)
                go_ret3
                exact ⟨by rw [hN.out]; subst hE; rfl, hb1.out⟩
              · have e32 : ((9 : Int) != 32) = true := rfl
                go_wp2_with (go_at_call 23; refine cU.mono ?_; rintro e w1 ⟨rfl, hb1⟩)
                go_ret3
                exact ⟨by rw [hN.out]; subst hE; rfl, hb1.out⟩
            · have hN := Lib.hid (hta (by unfold nb blankN; rw [hc0]; simp; omega))
              have e32 : ((c0 : Int) != 32) = true := by simp; omega
              have e9 : ((c0 : Int) != 9) = true := by simp; omega
              clear hok hta hEL hEs hg hhd hnb hz hbl
              go_wp2_with (go_at_call 23; refine cU.mono ?_; rintro e w1 ⟨rfl, hb1⟩)
              go_ret3
              exact ⟨by rw [hN.out, fin1.out]; rfl, hb1.out⟩
      · have e34 : ((c : Int) != 34) = true := by simp; omega
        have hb34 : b ≠ 34 := fun e => h34 (by rw [← hc, e]; rfl)
        by_cases h92 : c = 92
        · subst h92
          have hb92 : b = 92 := UInt8.toNat_inj.1 (by rw [hc]; rfl)
          go_wp2
          go_round
          case rel =>
            by_cases hl2 : k + 2 ≤ s.size
            · refine ⟨k + 2, by omega, by go_num, ?_⟩
              rw [HZ.out, HB.out, closeL_cons, if_neg hb34, if_pos hb92, List.drop_drop]
              show Option.map _ (Option.map _ (closeL (s.data.toList.drop (k + 3)))) = Option.map _ (closeL (s.data.toList.drop (k + 3)))
              cases closeL (s.data.toList.drop (k + 3)) with
              | none => rfl
              | some q => simp; omega
            · exact absurd hlt (by omega)
          case measure => simp [intOf]; omega
        · have e92 : ((c : Int) == 92) = false := by simp; omega
          have hb92 : b ≠ 92 := fun e => h92 (by rw [← hc, e]; rfl)
          go_wp2
          go_round
          case rel =>
            refine ⟨k + 1, by omega, by go_num, ?_⟩
            rw [HZ.out, HB.out, closeL_cons, if_neg hb34, if_neg hb92]
            show Option.map _ (Option.map _ (closeL (s.data.toList.drop (k + 2)))) = Option.map _ (closeL (s.data.toList.drop (k + 2)))
            cases closeL (s.data.toList.drop (k + 2)) with
            | none => rfl
            | some q => simp; omega
          case measure => simp [intOf]; omega
    · have hN := Lib.hid (show ans = ([], [], 320) by
        rw [← HA.out]
        refine quoted_none ?_
        rw [HCL.out, HZ.out, List.drop_of_length_le (by rw [← HL.out]; omega)]
        rfl)
      go_wp2
      go_ret3
      exact ⟨by rw [hN.out, fin1.out]; rfl, Below.refl _ _⟩
end Go.Proofs.YtmlklbbkkggpkaaDoor.show_
