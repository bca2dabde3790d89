/- Contract: the document's Words. -/
import Derived.Test.YtmlklbbkkggpkaaDoorWordJ
import Derived.Test.YtmlklbbkkggpkaaDoorShowX
namespace Go.Proofs.YtmlklbbkkggpkaaDoor.show_
open Go.RowKit kit
set_option linter.unusedVariables false

theorem strip_blank (b : UInt8) (t : List UInt8) (h : nb b = false) : strip (b :: t) = strip t := by
  unfold strip
  rw [List.dropWhile_cons, if_pos (by rw [h]; rfl)]
theorem strip_stop (b : UInt8) (t : List UInt8) (h : nb b = true) : strip (b :: t) = b :: t := by
  unfold strip
  rw [List.dropWhile_cons, if_neg (by rw [h]; decide)]
theorem bareW_err {L p : List UInt8} {e : Nat} (h : plainR L = (p, e)) (he : e ≠ 0) : bareW_ L = ([], [], e) := by
  unfold bareW_
  rw [h, if_pos he]
theorem bareW_ok {L p : List UInt8} (h : plainR L = (p, 0)) : bareW_ L = (p, L.drop p.length, 0) := by
  have hp : p = headW L := by
    unfold plainR at h
    split at h
    · cases h
    · split at h
      · exact (Prod.mk.inj h).1.symm
      · cases h
  unfold bareW_
  rw [h, if_neg (by simp), hp]
theorem plainR_len (L : List UInt8) : (plainR L).1.length ≤ L.length := by
  unfold plainR
  split
  · simp
  · split
    · exact headW_len L
    · simp

set_option maxRecDepth 1000000 in
set_option maxHeartbeats 4000000 in
theorem rwords_any (s : ByteArray) (hs : s.size ≤ 4294967280) (w : World) :
    Calls Tryd.prog 4 #[.string s] w fun e w' => WordsPost w w' e (wordsL s.data.toList) := by
  have HL := Lib.hid (Lib.size_eq s)
  obtain ⟨i0, hi, hz0, hz1, hz2⟩ := info_parts info9
  have HI := Lib.hid hi; clear hi
  have HZ0 := Lib.hid hz0; clear hz0
  have HZ1 := Lib.hid hz1; clear hz1
  have HZ2 := Lib.hid hz2; clear hz2
  obtain ⟨ans, hans⟩ : ∃ ans, wordsL s.data.toList = ans := ⟨_, rfl⟩
  rw [hans]
  have HA := Lib.hid hans; clear hans
  have cB : ∀ (v : Nat) (wx : World), Calls Tryd.prog 7 #[.int .u8 (v : Int)] wx fun e w' => e = .returned (.bool (blankN v)) ∧ wx = w' := fun v wx => (blank_any v wx).mono fun _ _ h => ⟨h.1, h.2.symm⟩
  go_enter Tryd.func4, Tryd.ntmps4
  go_wp2
  go_loopw [4, 5] (fun v i wr => ∃ (k : Nat) (acc : List (List UInt8)), k ≤ s.size ∧ i = .int .i64 (k : Int) ∧ WoRel w wr s.size ans (s.data.toList.drop k) acc v) (fun _ i _ => s.size - (intOf i).toNat)
  case atStart =>
    refine ⟨0, [], by omega, rfl, World.ownsRow_nil _ _ _ _, Below.refl _ _, ?_, by rw [List.drop_zero, ← HL.out]; exact Nat.le_of_eq (Nat.zero_add _)⟩
    rw [List.drop_zero, HA.out]
    exact (after_nil (fun h => by rw [← HA.out] at h ⊢; exact wordsF_err _ _ h)).symm
  case round =>
    obtain ⟨k, acc, hk, rfl, hrel⟩ := hrel
    have HR := Lib.hid hrel
    have hln := hrel.len
    have hbs := hrel.bel.size
    rw [List.length_drop, ← HL.out] at hln
    clear hrel
    obtain ⟨wo, rfl⟩ : ∃ wo : World, wo = wr := ⟨_, rfl⟩
    go_wp2
    go_loop [5] (fun i => ∃ j : Nat, k ≤ j ∧ j ≤ s.size ∧ i = .int .i64 (j : Int) ∧ strip (s.data.toList.drop k) = strip (s.data.toList.drop j)) (fun i => s.size - (intOf i).toNat)
    case atStart => exact ⟨k, Nat.le_refl _, hk, rfl, rfl⟩
    case round =>
      obtain ⟨j, hkj, hj, rfl, hst⟩ := hrel
      have HST := Lib.hid hst; clear hst
      by_cases hlt : j < s.size
      · have HB := Lib.hid (drop_at _ _ _ (Lib.data_getElem? s j hlt))
        obtain ⟨b, hb⟩ : ∃ b, s[j]'hlt = b := ⟨_, rfl⟩
        rw [hb] at HB
        obtain ⟨c, hc⟩ : ∃ c, b.toNat = c := ⟨_, rfl⟩
        obtain ⟨T2, hT2⟩ : ∃ T2, s.data.toList.drop (j + 1) = T2 := ⟨_, rfl⟩
        have HT2 := Lib.hid hT2
        rw [hT2] at HB
        clear hT2
        by_cases hbl : blankN c = true
        · have hnb : nb b = false := by unfold nb; rw [hc, hbl]; rfl
          go_wp2_with (go_at_call 7; refine (cB _ _).mono ?_; rintro e w' ⟨rfl, rfl⟩)
          go_round
          case rel => exact ⟨j + 1, by omega, by omega, by go_num, by rw [HST.out, HB.out, strip_blank _ _ hnb, HT2.out]⟩
          case measure => simp [intOf]; omega
        · have hblf : blankN c = false := by simpa using hbl
          have hnb : nb b = true := by unfold nb; rw [hc, hblf]; rfl
          have HS2 := Lib.hid (HST.out.trans ((congrArg strip HB.out).trans (strip_stop b T2 hnb)))
          clear hbl hnb
          by_cases h35 : c = 35
          · subst h35
            have hb35 : b = 35 := UInt8.toNat_inj.1 (by rw [hc]; rfl)
            go_wp2_with (go_at_call 7; refine (cB _ _).mono ?_; rintro e w' ⟨rfl, rfl⟩)
            go_ret2
            exact HR.out.done (Below.refl _ _) (wordsL_end _ (Or.inr (by rw [HS2.out, hb35]; rfl)))
          · have e35 : ((c : Int) == 35) = false := by simp; omega
            have hns : Hid (¬ (strip (s.data.toList.drop k) = [] ∨ (strip (s.data.toList.drop k)).head? = some 35)) := Lib.hid (by
              rw [HS2.out]
              rintro (h | h)
              · cases h
              · injection h with h
                exact h35 (by rw [← hc, h]; rfl))
            have hsw : Hid (stepW (strip (s.data.toList.drop k)) = if b = 34 then quotedW T2 else bareW_ (b :: T2)) := Lib.hid (by
              rw [HS2.out]
              unfold stepW
              by_cases h : b = 34
              · rw [if_pos h, h]
                rfl
              · rw [if_neg h, if_neg (by simpa using h)])
            have hT2l : T2.length = s.size - (j + 1) := by rw [← HT2.out, List.length_drop, HL.out]
            have hn1 : acc.length + 1 ≤ maxLen := by unfold maxLen; omega
            have hn2 : (acc.length + 1) * 16 ≤ 140737488355328 := by omega
            clear h35
            by_cases h34 : c = 34
            · subst h34
              have hb34 : b = 34 := UInt8.toNat_inj.1 (by rw [hc]; rfl)
              have hse := hsw.out
              rw [if_pos hb34] at hse
              obtain ⟨cl, hcl⟩ : ∃ cl, closeL T2 = cl := ⟨_, rfl⟩
              have cE : Calls Tryd.prog 9 #[.string s, .int .i64 (j : Int)] wo fun e w' => e = .returned (.int .i64 (endZ j cl)) ∧ wo = w' := (end_any s j hlt (by omega) wo).mono fun _ _ h => ⟨by rw [h.1, HT2.out, close_same T2.length T2 0 (Nat.le_refl _) rfl, hcl], h.2.symm⟩
              cases cl with
              | none =>
                have hN := Lib.hid (hse.trans (quoted_none hcl))
                have hz : endZ j none = -1 := rfl
                rw [hz] at cE
                clear hse hcl
                go_wp2_with (first
                  | (go_at_call 7; refine (cB _ _).mono ?_; rintro e w' ⟨rfl, rfl⟩)
                  | (go_at_call 9; refine cE.mono ?_; rintro e w' ⟨rfl, rfl⟩))
                go_ret2
                exact HR.out.err' (Below.refl _ _) hns.out hN.out (by decide)
              | some q =>
                have hq := closeL_lt T2.length T2 q (Nat.le_refl _) hcl
                have hz : endZ j (some q) = ((j + 1 + q : Nat) : Int) := by show (j : Int) + 1 + q = _; omega
                rw [hz] at cE
                obtain ⟨un, hun⟩ : ∃ un, unR (T2.take q) = un := ⟨_, rfl⟩
                have cU : Calls Tryd.prog 10 #[.string (s.extract (j + 1) (j + 1 + q))] wo fun e w' => e = .returned (keyV un) ∧ Hid (Below wo.heap.size wo w') := (runshow_any (s.extract (j + 1) (j + 1 + q)) (by simp; omega) wo).mono fun _ _ h => ⟨by
                  rw [h.1, Lib.extract_data, show j + 1 + q - (j + 1) = q by omega, HT2.out, hun], Lib.hid h.2⟩
                have hng : ¬ (((j + 1 + q : Nat) : Int) < 0) := by omega
                cases un with
                | none =>
                  have hN := Lib.hid (hse.trans (quoted_bad hcl hun))
                  have hv : keyV none = .tuple #[.string ⟨#[]⟩, .bool false] := rfl
                  rw [hv] at cU
                  clear hse hcl hun hv
                  go_wp2_with (first
                    | (go_at_call 7; refine (cB _ _).mono ?_; rintro e w' ⟨rfl, rfl⟩)
                    | (go_at_call 9; refine cE.mono ?_; rintro e w' ⟨rfl, rfl⟩)
                    | (go_at_call 10; refine cU.mono ?_; rintro e w1 ⟨rfl, hb1⟩))
                  go_ret2
                  exact HR.out.err' hb1.out hns.out hN.out (by decide)
                | some K =>
                  have hv : keyV (some K) = .tuple #[.string ⟨K.toArray⟩, .bool true] := rfl
                  rw [hv] at cU
                  have hok := fun hn => hse.trans (quoted_ok (M := T2) (K := K) hcl hun hn)
                  have hta := fun hn => hse.trans (quoted_tail (M := T2) (K := K) hcl hun hn)
                  have hd2 : T2.drop (q + 1) = s.data.toList.drop (j + 1 + q + 1) := by rw [← HT2.out, List.drop_drop]; rfl
                  rw [hd2] at hok hta
                  clear hse hcl hun hv
                  by_cases hl3 : j + 1 + q + 1 < s.size
                  · have HB3 := drop_at _ _ _ (Lib.data_getElem? s (j + 1 + q + 1) hl3)
                    obtain ⟨b3, hb3⟩ : ∃ b3, s[j + 1 + q + 1]'hl3 = b3 := ⟨_, rfl⟩
                    rw [hb3] at HB3
                    obtain ⟨c3, hc3⟩ : ∃ c3, b3.toNat = c3 := ⟨_, rfl⟩
                    have hnb : (s.data.toList.drop (j + 1 + q + 1)).head?.any nb = !(blankN c3) := by
                      rw [HB3]
                      show nb b3 = _
                      unfold nb
                      rw [hc3]
                    rw [hnb] at hok hta
                    clear HB3 hnb
                    obtain ⟨bb, hbb⟩ : ∃ bb, blankN c3 = bb := ⟨_, rfl⟩
                    rw [hbb] at hok hta
                    cases bb with
                    | true =>
                      have hN := Lib.hid (hok rfl)
                      clear hok hta
                      go_wp2_with (first
                        | (go_at_call 7; refine (cB _ _).mono ?_; rintro e w' ⟨rfl, rfl⟩)
                        | (go_at_call 9; refine cE.mono ?_; rintro e w' ⟨rfl, rfl⟩)
                        | (go_at_call 10; refine cU.mono ?_; rintro e w1 ⟨rfl, hb1⟩)
                        | (at_builtin; refine wpList_append_own _ rfl _ _ 22 rfl w.heap.size 9 i0 (.string ⟨#[]⟩) 1 16 Tryd.underlying22 HI.out HZ0.out HZ1.out HZ2.out rfl (by decide) _ _ _ rfl (own9_below HR.out.own hb1.out _) ⟨w1.heap.size, 0, none⟩ 1 1 [.string ⟨K.toArray⟩] rfl rfl (str_new _ _) (one_str _) hn1 hn2 ?_ ?_; (focus (simp; have := hb1.out.size; omega)); intro v' w3 ho hg _))
                      obtain ⟨nx1, nx2⟩ := HR.out.next' hb1.out hns.out hN.out ho hg
                      go_roundw
                      case rel => exact ⟨j + 1 + q + 1, _, by omega, by go_num, nx1⟩
                      case measure => simp [intOf]; omega
                    | false =>
                      have hN := Lib.hid (hta rfl)
                      clear hok hta
                      go_wp2_with (first
                        | (go_at_call 7; refine (cB _ _).mono ?_; rintro e w' ⟨rfl, rfl⟩)
                        | (go_at_call 9; refine cE.mono ?_; rintro e w' ⟨rfl, rfl⟩)
                        | (go_at_call 10; refine cU.mono ?_; rintro e w1 ⟨rfl, hb1⟩))
                      go_ret2
                      exact HR.out.err' hb1.out hns.out hN.out (by decide)
                  · have hN := Lib.hid (hok (by rw [List.drop_of_length_le (by rw [← HL.out]; omega)]; rfl))
                    clear hok hta
                    go_wp2_with (first
                      | (go_at_call 7; refine (cB _ _).mono ?_; rintro e w' ⟨rfl, rfl⟩)
                      | (go_at_call 9; refine cE.mono ?_; rintro e w' ⟨rfl, rfl⟩)
                      | (go_at_call 10; refine cU.mono ?_; rintro e w1 ⟨rfl, hb1⟩)
                      | (at_builtin; refine wpList_append_own _ rfl _ _ 22 rfl w.heap.size 9 i0 (.string ⟨#[]⟩) 1 16 Tryd.underlying22 HI.out HZ0.out HZ1.out HZ2.out rfl (by decide) _ _ _ rfl (own9_below HR.out.own hb1.out _) ⟨w1.heap.size, 0, none⟩ 1 1 [.string ⟨K.toArray⟩] rfl rfl (str_new _ _) (one_str _) hn1 hn2 ?_ ?_; (focus (simp; have := hb1.out.size; omega)); intro v' w3 ho hg _))
                    obtain ⟨nx1, nx2⟩ := HR.out.next' hb1.out hns.out hN.out ho hg
                    go_roundw
                    case rel => exact ⟨j + 1 + q + 1, _, by omega, by go_num, nx1⟩
                    case measure => simp [intOf]; omega
            · have e34 : ((c : Int) != 34) = true := by simp; omega
              have hb34 : b ≠ 34 := fun e => h34 (by rw [← hc, e]; rfl)
              have hse := hsw.out
              rw [if_neg hb34] at hse
              clear hb34 h34
              obtain ⟨pw, pe, hpe⟩ : ∃ pw pe, plainR (b :: T2) = (pw, pe) := ⟨_, _, rfl⟩
              have hpl := plainR_len (b :: T2)
              rw [hpe, List.length_cons] at hpl
              simp only at hpl
              have cP : Calls Tryd.prog 8 #[.string s, .int .i64 (j : Int)] wo fun e w' => e = .returned (.tuple #[.string ⟨pw.toArray⟩, .int .i64 pe]) ∧ wo = w' := (rplain_any s j hj (by omega) wo).mono fun _ _ h => ⟨by rw [h.1, HB.out, hpe]; rfl, h.2.symm⟩
              by_cases he : pe = 0
              · subst he
                have hN := Lib.hid (hse.trans (bareW_ok hpe))
                clear hse hpe
                go_wp2_with (first
                  | (go_at_call 7; refine (cB _ _).mono ?_; rintro e w' ⟨rfl, rfl⟩)
                  | (go_at_call 8; refine cP.mono ?_; rintro e w' ⟨rfl, rfl⟩)
                  | (at_builtin; refine wpList_append_own _ rfl _ _ 22 rfl w.heap.size 9 i0 (.string ⟨#[]⟩) 1 16 Tryd.underlying22 HI.out HZ0.out HZ1.out HZ2.out rfl (by decide) _ _ _ rfl (own9_below HR.out.own (Below.refl _ _) _) ⟨wo.heap.size, 0, none⟩ 1 1 [.string ⟨pw.toArray⟩] rfl rfl (str_new _ _) (one_str _) hn1 hn2 ?_ ?_; (focus (simp; omega)); intro v' w3 ho hg _))
                obtain ⟨nx1, nx2⟩ := HR.out.next' (Below.refl _ _) hns.out hN.out ho hg
                have hdj : (b :: T2).drop pw.length = s.data.toList.drop (j + pw.length) := by rw [← HB.out, List.drop_drop]
                rw [hdj] at nx1
                rw [hdj, List.length_drop, List.length_drop, ← HL.out] at nx2
                go_roundw
                case rel => exact ⟨j + pw.length, _, by omega, by go_num, nx1⟩
                case measure => simp [intOf]; omega
              · have hne : ((pe : Int) != 0) = true := by simp; omega
                have hN := Lib.hid (hse.trans (bareW_err hpe he))
                clear hse hpe
                go_wp2_with (first
                  | (go_at_call 7; refine (cB _ _).mono ?_; rintro e w' ⟨rfl, rfl⟩)
                  | (go_at_call 8; refine cP.mono ?_; rintro e w' ⟨rfl, rfl⟩))
                go_ret2
                exact HR.out.err' (Below.refl _ _) hns.out hN.out he
      · have HE := Lib.hid (show strip (s.data.toList.drop k) = [] by
          rw [HST.out, List.drop_of_length_le (by rw [← HL.out]; omega)]
          rfl)
        go_wp2
        go_ret2
        exact HR.out.done (Below.refl _ _) (wordsL_end _ (Or.inl HE.out))
end Go.Proofs.YtmlklbbkkggpkaaDoor.show_
