/- Contracts: strings.IndexAny at the two blanks, every string; script.bare. -/
import Derived.Test.YtmlklbbkkggpkaaDoorWordC
namespace Go.Proofs.YtmlklbbkkggpkaaDoor.show_
open Go.RowKit kit
set_option linter.unusedVariables false

theorem ixR_lt (r : Nat) : ixR r < 0 ↔ ¬ (r = 32 ∨ r = 9) := by
  unfold ixR
  by_cases h1 : r = 32
  · simp [h1]
  · by_cases h2 : r = 9
    · simp [h2]
    · simp [h1, h2]
theorem idxr_all (r : Nat) (hr : r ≤ 1114111) (w : World) :
    Calls Tryd.prog 30 #[.string ⟨#[32, 9]⟩, .int .i32 r] w fun e w' => e = .returned (.int .i64 (ixR r)) ∧ Below w.heap.size w w' := by
  by_cases h1 : r < 128
  · refine (Tryd.strings_IndexRune_ascii bl2 r w (by omega) (by omega)).mono ?_
    rintro e w' ⟨rfl, rfl⟩
    refine ⟨?_, Below.refl _ _⟩
    rw [bl_data, idxr_small r h1]
  · have hx : ixR r = -1 := by unfold ixR; rw [if_neg (by omega), if_neg (by omega)]
    rw [hx]
    by_cases h2 : r = 65533
    · subst h2
      exact idxr_fffd bl2 rfl rfl rfl w
    · by_cases hv : Lib.validRune (r : Int) = true
      · exact idxr_wide bl2 rfl rfl r (by omega) h2 hr hv w
      · exact idxr_bad bl2 r (by omega) h2 (by simpa using hv) w
theorem decL_le (D : List UInt8) (hD : D ≠ []) : (decL D).1 ≤ 1114111 := by
  rw [decL_eq]
  by_cases h0 : (letL D).2 = 0
  · rw [if_pos h0]
    decide
  · rw [if_neg h0]
    obtain ⟨_, _, _, _, _, h, _⟩ := let_enc D (letL D).1 (letL D).2 rfl hD h0
    exact h

set_option maxRecDepth 1000000 in
set_option maxHeartbeats 1000000 in
theorem ixany_short (s : ByteArray) (h8 : s.size ≤ 8) (w : World) :
    Calls Tryd.prog 20 #[.string s, .string ⟨#[32, 9]⟩] w fun e w' => e = .returned (.int .i64 (ixW s.data.toList)) ∧ Below w.heap.size w w' := by
  have HL := Lib.hid (Lib.size_eq s)
  have h8z : decide ((8 : Int) < (s.size : Int)) = false := decide_eq_false (by omega)
  have cS : ∀ wx, Calls Tryd.prog 31 #[.int .i64 (s.size : Int)] wx fun e w' => e = .returned (.bool false) ∧ wx = w' := fun wx => (Tryd.strings_shouldUseASCIISet _ wx).mono fun _ _ h => ⟨by rw [h.1, h8z], h.2.symm⟩
  obtain ⟨ans, hans⟩ : ∃ ans, ixW s.data.toList = ans := ⟨_, rfl⟩
  rw [hans]
  have HA := Lib.hid hans; clear hans h8z
  go_enter Tryd.func20, Tryd.ntmps20
  go_wp2_with (go_at_call 31; refine (cS _).mono ?_; rintro e w' ⟨rfl, rfl⟩)
  go_loopw [4, 9, 10] (fun _ _ _ wr => ∃ pos : Nat, pos ≤ s.size ∧ wr.heap[w.heap.size]? = some (.stringIter s pos) ∧ Below w.heap.size w wr ∧ (headW s.data.toList).length = pos + (headW (s.data.toList.drop pos)).length) (fun _ _ _ wr => s.size - wr.iterPos w.heap.size)
  case atStart => exact ⟨0, by omega, World.iter_heap w s 0, (Below.refl _ _).alloc (Nat.le_refl _) _, by simp⟩
  case round =>
    obtain ⟨pos, hpz, hit, hbw, hh⟩ := hrel
    have hpos0 := iterPos_of hit
    by_cases hp : pos < s.size
    · have hnx : ∀ ty, (Instr.next (.pointer (some ⟨w.heap.size, 0, none⟩)) true ty).run Tryd.prog wr = _ := fun ty => Lib.run_next_any_at wr w.heap.size s pos ty hit hp
      have hit2 := Lib.iterAt_heap wr w.heap.size s pos (pos + (Utf8.decode s pos).2) hit
      have hbw2 := Lib.below_iterAt hbw (k := w.heap.size) (Nat.le_refl _) s (pos + (Utf8.decode s pos).2)
      rw [decode_eq] at hnx hit2 hbw2
      obtain ⟨D, hD⟩ : ∃ D, D = s.data.toList.drop pos := ⟨_, rfl⟩
      rw [← hD] at hnx hit2 hbw2 hh
      have hDl : D.length = s.size - pos := by rw [hD, List.length_drop, HL.out]
      have hDne : D ≠ [] := by
        intro e
        rw [e] at hDl
        simp at hDl
        omega
      have hle := decL_le D hDne
      obtain ⟨r, wd, hrw⟩ : ∃ r wd, decL D = (r, wd) := ⟨_, _, rfl⟩
      obtain ⟨hw1, hwl, hw⟩ := dec_head D hDne r wd hrw
      rw [hrw] at hnx hit2 hbw2 hle
      simp only at hnx hit2 hbw2 hle
      have hDD : D.drop wd = s.data.toList.drop (pos + wd) := by rw [hD, List.drop_drop]
      rw [hDD] at hw
      obtain ⟨W1, hW1⟩ : ∃ W1, W1 = wr.iterAt w.heap.size s (pos + wd) := ⟨_, rfl⟩
      rw [← hW1] at hnx hit2 hbw2
      have hBlt : w.heap.size < W1.heap.size := lt_of_block hit2
      have HIT := Lib.hid hit2; have HBW := Lib.hid hbw2
      have HH := Lib.hid hh; have HW := Lib.hid hw
      have cR : Calls Tryd.prog 30 #[.string ⟨#[32, 9]⟩, .int .i32 (r : Int)] W1 fun e w' => e = .returned (.int .i64 (ixR r)) ∧ Hid (Below W1.heap.size W1 w') := (idxr_all r hle W1).mono fun _ _ h => ⟨h.1, Lib.hid h.2⟩
      clear hW1 hit hbw hit2 hbw2 hD hrw hDD hDne hh hw
      by_cases hr : r = 32 ∨ r = 9
      · have hx : ¬ (ixR r < 0) := fun h => (ixR_lt r).1 h hr
        have hA : Hid (ans = (pos : Int)) := by
          refine Lib.hid ?_
          have h1 := HW.out
          rw [if_pos hr] at h1
          have h2 := HH.out
          rw [h1] at h2
          rw [← HA.out]
          unfold ixW
          rw [if_pos (by rw [← HL.out]; simp at h2; omega), h2]
          simp
        have hx0 : 0 ≤ ixR r := by omega
        clear hr hx
        go_wp2_with (go_at_call 30; refine cR.mono ?_; rintro e w2 ⟨rfl, hb⟩)
        go_ret
        exact ⟨by rw [hA.out]; rfl, HBW.out.trans (hb.out.mono (by omega))⟩
      · have hx : ixR r < 0 := (ixR_lt r).2 hr
        have hx0 : ¬ (0 ≤ ixR r) := by omega
        have hN : Hid ((headW s.data.toList).length = pos + wd + (headW (s.data.toList.drop (pos + wd))).length) := by
          refine Lib.hid ?_
          have h1 := HW.out
          rw [if_neg hr] at h1
          have h2 := HH.out
          rw [h1, List.length_append, List.length_take, Nat.min_eq_left hwl] at h2
          omega
        clear hr hx
        go_wp2_with (go_at_call 30; refine cR.mono ?_; rintro e w2 ⟨rfl, hb⟩)
        go_roundw
        case rel => exact ⟨pos + wd, by omega, (hb.out.block w.heap.size hBlt).trans HIT.out, HBW.out.trans (hb.out.mono (by omega)), hN.out⟩
        case measure => rw [iterPos_of ((hb.out.block w.heap.size hBlt).trans HIT.out), hpos0]; omega
    · have hnx : ∀ ty, (Instr.next (.pointer (some ⟨w.heap.size, 0, none⟩)) true ty).run Tryd.prog wr = _ := fun ty => Lib.run_next_end_at wr w.heap.size s pos ty hit hp
      have hA : Hid (ans = -1) := by
        refine Lib.hid ?_
        rw [← HA.out]
        unfold ixW
        rw [if_neg (by rw [hh, ← HL.out]; omega)]
      clear hh
      go_wp2
      go_ret
      exact ⟨by rw [hA.out]; rfl, hbw⟩

theorem ixany_any (s : ByteArray) (hs : s.size < 4294967281) (w : World) :
    Calls Tryd.prog 20 #[.string s, .string ⟨#[32, 9]⟩] w fun e w' => e = .returned (.int .i64 (ixW s.data.toList)) ∧ Below w.heap.size w w' := by
  by_cases h8 : s.size ≤ 8
  · exact ixany_short s h8 w
  · refine (Tryd.strings_IndexAny_long (zero_of_info (n := 256) (by kernel_rfl)).1 s bl2 w (by decide) (by omega) hs (by decide) (fun j b hb => ?_)).mono ?_
    · have : j = 0 ∨ j = 1 := by
        have := (List.getElem?_eq_some_iff.1 hb).1
        rw [bl_data] at this
        simp at this
        omega
      rw [bl_data] at hb
      rcases this with rfl | rfl
      · injection hb with hb
        subst hb
        decide
      · injection hb with hb
        subst hb
        decide
    · rintro e w' ⟨rfl, rfl⟩
      refine ⟨?_, ((Below.refl _ _).alloc (Nat.le_refl _) _).alloc (by simp) _⟩
      rw [bl_data, indexAny_ix]

/-- A word, the rest, the error. -/
def stepV (p : List UInt8 × List UInt8 × Nat) : Value := .tuple #[.string ⟨p.1.toArray⟩, .string ⟨p.2.1.toArray⟩, .int .i64 p.2.2]
set_option maxRecDepth 1000000 in
set_option maxHeartbeats 1000000 in
theorem bare_any (s : ByteArray) (hs : s.size < 4294967281) (w : World) :
    Calls Tryd.prog 12 #[.string s] w fun e w' => e = .returned (stepV (bareW_ s.data.toList)) ∧ Below w.heap.size w w' := by
  have HL := Lib.hid (Lib.size_eq s)
  obtain ⟨L, hL⟩ : ∃ L, s.data.toList = L := ⟨_, rfl⟩
  have hwl := headW_len L
  obtain ⟨n, hn⟩ : ∃ n, (headW L).length = n := ⟨_, rfl⟩
  have hsL : s.size = L.length := by rw [HL.out, hL]
  have hns : n ≤ s.size := by omega
  have hX1 : Hid (s.extract 0 n = ⟨(headW L).toArray⟩) := by
    refine Lib.hid ?_
    rw [Lib.extract_eq, hL, headW_take L, hn]
    simp
  have hX2 : Hid (s.extract n s.size = ⟨(L.drop n).toArray⟩) := by
    refine Lib.hid ?_
    rw [Lib.extract_eq, hL, List.take_of_length_le (by rw [List.length_drop]; omega)]
  have cA : ∀ wx, Calls Tryd.prog 20 #[.string s, .string ⟨#[32, 9]⟩] wx fun e w' => e = .returned (.int .i64 (ixW L)) ∧ Hid (Below wx.heap.size wx w') := fun wx => (ixany_any s hs wx).mono fun _ _ h => ⟨by rw [h.1, hL], Lib.hid h.2⟩
  have cI : ∀ wx, Calls Tryd.prog 21 #[.string (s.extract 0 n), .int .u8 34] wx fun e w' => e = .returned (.int .i64 (Lib.indexByte (headW L) 34)) ∧ wx = w' := fun wx => (Tryd.strings_IndexByte _ 34 wx).mono fun _ _ h => ⟨by
    rw [h.1, hX1.out]
    rfl, h.2.symm⟩
  have cP : ∀ wx, Calls Tryd.prog 22 #[.string (s.extract 0 n)] wx fun e w' => e = .returned (.bool (allSeen (headW L))) ∧ wx = w' := fun wx => (printable_any _ (by simp; omega) wx).mono fun _ _ h => ⟨by
    rw [h.1, hX1.out], h.2.symm⟩
  rw [hL]
  have HQ := Lib.hid (idx_neg2 (headW L))
  obtain ⟨ans, hans⟩ : ∃ ans, bareW_ L = ans := ⟨_, rfl⟩
  rw [hans]
  have hq : Hid (hasQ (headW L) = true → ans = ([], [], 320)) := Lib.hid fun h => by
    rw [← hans]
    unfold bareW_
    rw [plain_q h]
    rfl
  have hw : Hid (hasQ (headW L) = false → allSeen (headW L) = false → ans = ([], [], 321)) := Lib.hid fun h h2 => by
    rw [← hans]
    unfold bareW_
    rw [plain_w h h2]
    rfl
  have ho : Hid (hasQ (headW L) = false → allSeen (headW L) = true → ans = (headW L, L.drop n, 0)) := Lib.hid fun h h2 => by
    rw [← hans, ← hn]
    unfold bareW_
    rw [plain_ok h h2]
    rfl
  have hix : Hid (ixW L = if n < s.size then (n : Int) else -1) := by
    refine Lib.hid ?_
    unfold ixW
    rw [hn, hsL]
  clear hans hL hn hwl hsL
  have hc1 : ((n : Nat) : Int) ≤ (s.size : Int) := by omega
  obtain ⟨ix, hixe⟩ : ∃ ix, ixW L = ix := ⟨_, rfl⟩
  rw [hixe] at hix
  simp only [hixe] at cA
  clear hixe
  obtain ⟨qx, hqx⟩ : ∃ qx, Lib.indexByte (headW L) 34 = qx := ⟨_, rfl⟩
  rw [hqx] at HQ
  simp only [hqx] at cI
  clear hqx
  obtain ⟨hQ, hQe⟩ : ∃ hQ, hasQ (headW L) = hQ := ⟨_, rfl⟩
  rw [hQe] at HQ hq hw ho
  clear hQe
  obtain ⟨hS, hSe⟩ : ∃ hS, allSeen (headW L) = hS := ⟨_, rfl⟩
  simp only [hSe] at cP
  rw [hSe] at hw ho
  clear hSe
  have fin1 : Hid (stepV ([], [], 320) = .tuple #[.string ⟨#[]⟩, .string ⟨#[]⟩, .int .i64 320]) := Lib.hid rfl
  have fin2 : Hid (stepV ([], [], 321) = .tuple #[.string ⟨#[]⟩, .string ⟨#[]⟩, .int .i64 321]) := Lib.hid rfl
  have fin3 : Hid (stepV (headW L, L.drop n, 0) = .tuple #[.string (s.extract 0 n), .string (s.extract n s.size), .int .i64 0]) := Lib.hid (by rw [hX1.out, hX2.out]; rfl)
  by_cases hlt : n < s.size
  · obtain rfl : ix = n := by have := hix.out; rw [if_pos hlt] at this; exact this
    have hng : ¬ ((n : Int) < 0) := by omega
    clear hix
    by_cases hQt : hQ = true
    · have hz : 0 ≤ qx := by
        apply Classical.byContradiction
        intro h
        have := HQ.out.1 (by omega)
        rw [hQt] at this
        cases this
      have HF := Lib.hid (hq.out hQt)
      clear hQt
      go_enter Tryd.func12, Tryd.ntmps12
      go_wp2_with (first
        | (go_at_call 20; refine (cA _).mono ?_; rintro e w1 ⟨rfl, hb⟩)
        | (go_at_call 21; refine (cI _).mono ?_; rintro e w' ⟨rfl, rfl⟩)
        | (go_at_call 22; refine (cP _).mono ?_; rintro e w' ⟨rfl, rfl⟩))
      go_ret3
      exact ⟨by rw [HF.out, fin1.out]; rfl, hb.out⟩
    · have hQf : hQ = false := by simpa using hQt
      have hz : ¬ (0 ≤ qx) := by
        have := HQ.out.2 hQf
        omega
      by_cases hSt : hS = true
      · have HF := Lib.hid (ho.out hQf hSt)
        subst hSt
        clear hQt hQf
        go_enter Tryd.func12, Tryd.ntmps12
        go_wp2_with (first
          | (go_at_call 20; refine (cA _).mono ?_; rintro e w1 ⟨rfl, hb⟩)
          | (go_at_call 21; refine (cI _).mono ?_; rintro e w' ⟨rfl, rfl⟩)
          | (go_at_call 22; refine (cP _).mono ?_; rintro e w' ⟨rfl, rfl⟩))
        go_quiet (fail)
        go_wp2
        go_ret3
        exact ⟨by rw [HF.out, fin3.out]; rfl, below_drewN hb.out _⟩
      · have hSf : hS = false := by simpa using hSt
        have HF := Lib.hid (hw.out hQf hSf)
        subst hSf
        clear hQt hQf hSt
        go_enter Tryd.func12, Tryd.ntmps12
        go_wp2_with (first
          | (go_at_call 20; refine (cA _).mono ?_; rintro e w1 ⟨rfl, hb⟩)
          | (go_at_call 21; refine (cI _).mono ?_; rintro e w' ⟨rfl, rfl⟩)
          | (go_at_call 22; refine (cP _).mono ?_; rintro e w' ⟨rfl, rfl⟩))
        go_ret3
        exact ⟨by rw [HF.out, fin2.out]; rfl, hb.out⟩
  · obtain rfl : ix = -1 := by have := hix.out; rw [if_neg hlt] at this; exact this
    obtain rfl : n = s.size := by omega
    have hse : s.extract 0 s.size = s := by simp
    have hee : s.extract s.size s.size = ByteArray.empty := by simp
    simp only [hse] at cI cP
    rw [hse, hee] at fin3
    clear hix hse hee
    by_cases hQt : hQ = true
    · have hz : 0 ≤ qx := by
        apply Classical.byContradiction
        intro h
        have := HQ.out.1 (by omega)
        rw [hQt] at this
        cases this
      have HF := Lib.hid (hq.out hQt)
      clear hQt
      go_enter Tryd.func12, Tryd.ntmps12
      go_wp2_with (first
        | (go_at_call 20; refine (cA _).mono ?_; rintro e w1 ⟨rfl, hb⟩)
        | (go_at_call 21; refine (cI _).mono ?_; rintro e w' ⟨rfl, rfl⟩)
        | (go_at_call 22; refine (cP _).mono ?_; rintro e w' ⟨rfl, rfl⟩))
      go_ret3
      exact ⟨by rw [HF.out, fin1.out]; rfl, hb.out⟩
    · have hQf : hQ = false := by simpa using hQt
      have hz : ¬ (0 ≤ qx) := by
        have := HQ.out.2 hQf
        omega
      by_cases hSt : hS = true
      · have HF := Lib.hid (ho.out hQf hSt)
        subst hSt
        clear hQt hQf
        go_enter Tryd.func12, Tryd.ntmps12
        go_wp2_with (first
          | (go_at_call 20; refine (cA _).mono ?_; rintro e w1 ⟨rfl, hb⟩)
          | (go_at_call 21; refine (cI _).mono ?_; rintro e w' ⟨rfl, rfl⟩)
          | (go_at_call 22; refine (cP _).mono ?_; rintro e w' ⟨rfl, rfl⟩))
        go_quiet (fail)
        go_wp2
        go_ret3
        exact ⟨by rw [HF.out, fin3.out]; rfl, below_drewN hb.out _⟩
      · have hSf : hS = false := by simpa using hSt
        have HF := Lib.hid (hw.out hQf hSf)
        subst hSf
        clear hQt hQf hSt
        go_enter Tryd.func12, Tryd.ntmps12
        go_wp2_with (first
          | (go_at_call 20; refine (cA _).mono ?_; rintro e w1 ⟨rfl, hb⟩)
          | (go_at_call 21; refine (cI _).mono ?_; rintro e w' ⟨rfl, rfl⟩)
          | (go_at_call 22; refine (cP _).mono ?_; rintro e w' ⟨rfl, rfl⟩))
        go_ret3
        exact ⟨by rw [HF.out, fin2.out]; rfl, hb.out⟩
end Go.Proofs.YtmlklbbkkggpkaaDoor.show_
