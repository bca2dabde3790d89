/- Contract: wire.Show. -/
import Derived.Test.YtmlklbbkkggpkaaDoorShowR
namespace Go.Proofs.YtmlklbbkkggpkaaDoor.show_
open Go.RowKit kit
set_option linter.unusedVariables false

theorem rl_fffd : Lib.runeLen (65533 : Int) = 3 := by decide
theorem enc_fffd : Utf8.encode (65533 : Int) = ⟨#[239, 191, 189]⟩ := by decide
theorem beq_lists (a b : ByteArray) : (a.toList == b.toList) = decide (a.data.toList = b.data.toList) := by
  rw [Lib.toList_data, Lib.toList_data, Bool.eq_iff_iff]
  simp

theorem two_new (w : World) (a b : Value) : ∀ j u, [a, b][j]? = some u → (w.alloc (.cells #[a, b] 5)).cell? ((⟨w.heap.size, 0, none⟩ : Addr).add j) = some u := by
  intro j u hj
  match j, hj with
  | 0, hj => simp at hj; subst hj; simp [Addr.add]
  | 1, hj => simp at hj; subst hj; simp [Addr.add]
  | j + 2, hj => simp at hj
theorem one_two (a b : Int) : ∀ u ∈ [Value.int .u8 a, .int .u8 b], u.oneCell' = true := by
  intro u hu
  simp at hu
  rcases hu with rfl | rfl <;> rfl
theorem two_fin {w W1 w3 : World} {B : Nat} {s : ByteArray} {p : Nat} {acc P : List UInt8} {v v' : Value} {o : Obj} {news : List Value} (h : w3.ownsRow (B + 1) 5 1 v' (acc.length + 2) (Lib.byteCells acc ++ news)) (hP : news = Lib.byteCells P)
    (hit : W1.heap[B]? = some (.stringIter s p)) (hw : Below B w W1) (hg : (W1.alloc o).grownBy w3 v.ownBlock) (hown : W1.ownsRow (B + 1) 5 1 v acc.length (Lib.byteCells acc)) (hlt : B < W1.heap.size) : Fin_ w B s p acc P v' w3 := by
  have hl : P.length = 2 := by
    have h1 := h.1
    have h2 := hown.1
    rw [List.length_append, h2, hP] at h1
    simp [Lib.byteCells] at h1
    omega
  refine fin_of h (by rw [List.length_append, hl]) (by rw [cells_app, hP]) ?_ hit hw
  exact Below.grown ((Below.refl _ _).alloc (by omega) _) hg (by simp; omega) (fun j hj => (hown.lt j hj).1)

set_option maxRecDepth 1000000 in
set_option maxHeartbeats 1600000 in
theorem show_any (s : ByteArray) (hs : s.size ≤ 68719476736) (w : World) :
    Calls Tryd.prog 36 #[.string s] w fun e w' => e = .returned (.string ⟨(showL s.data.toList).toArray⟩) ∧ Below w.heap.size w w' := by
  have HL := Lib.hid (Lib.size_eq s)
  obtain ⟨i0, hi, hz0, hz1, hz2⟩ := info_parts info5
  have HI := Lib.hid hi; clear hi
  have HZ0 := Lib.hid hz0; clear hz0
  have HZ1 := Lib.hid hz1; clear hz1
  have HZ2 := Lib.hid hz2; clear hz2
  go_enter Tryd.func36, Tryd.ntmps36
  go_wp2
  go_loopw [3] (fun v wr => ∃ (pos : Nat) (acc : List UInt8), pos ≤ s.size ∧ wr.heap[w.heap.size]? = some (.stringIter s pos) ∧ wr.ownsRow (w.heap.size + 1) 5 1 v acc.length (Lib.byteCells acc) ∧ Below w.heap.size w wr ∧ acc ++ showL (s.data.toList.drop pos) = showL s.data.toList ∧ acc.length ≤ 4 * pos) (fun _ wr => s.size - wr.iterPos w.heap.size)
  case atStart => exact ⟨0, [], by omega, World.iter_heap w s 0, World.ownsRow_nil _ _ _ _, (Below.refl _ _).alloc (Nat.le_refl _) _, by simp, by simp⟩
  case round =>
    obtain ⟨pos, acc, hpz, hit, hown, hbw, hacc, hal⟩ := hrel
    have hpos0 := iterPos_of hit
    by_cases hp : pos < s.size
    · have hnx : ∀ ty, (Instr.next (.pointer (some ⟨w.heap.size, 0, none⟩)) true ty).run Tryd.prog wr = _ := fun ty => Lib.run_next_any_at wr w.heap.size s pos ty hit hp
      have hit2 := Lib.iterAt_heap wr w.heap.size s pos (pos + (Utf8.decode s pos).2) hit
      have hbw2 := Lib.below_iterAt hbw (k := w.heap.size) (Nat.le_refl _) s (pos + (Utf8.decode s pos).2)
      have hown2 := ownsRow_iterAt hown (k := w.heap.size) (by omega) s (pos + (Utf8.decode s pos).2)
      have hrm := decode_le s pos
      rw [decode_eq] at hnx hit2 hbw2 hown2 hrm
      have HR := Lib.hid (fun P a hp' => step_rel (P := P) (a := a) hacc (by rw [← HL.out]; exact hp) hp' hal)
      clear hacc
      obtain ⟨D, hD⟩ : ∃ D, D = s.data.toList.drop pos := ⟨_, rfl⟩
      rw [← hD] at HR hnx hit2 hbw2 hown2 hrm
      have hDl : D.length = s.size - pos := by rw [hD, List.length_drop, HL.out]
      have hDne : D ≠ [] := by
        intro e
        rw [e] at hDl
        simp at hDl
        omega
      obtain ⟨r, wd, hrw⟩ : ∃ r wd, decL D = (r, wd) := ⟨_, _, rfl⟩
      have HRP := Lib.hid (fun P a (h : pieceP D = (P, a)) => HR.out P a ((piece_eq D hDne) ▸ h))
      rw [hrw] at hnx hit2 hbw2 hown2 hrm
      simp only at hnx hit2 hbw2 hown2 hrm
      obtain ⟨W1, hW1⟩ : ∃ W1, W1 = wr.iterAt w.heap.size s (pos + wd) := ⟨_, rfl⟩
      rw [← hW1] at hnx hit2 hbw2 hown2
      have hBlt : w.heap.size < W1.heap.size := lt_of_block hit2
      have HIT := Lib.hid hit2; have HBW := Lib.hid hbw2; have HOWN := Lib.hid hown2
      have cR : ∀ wx, Calls Tryd.prog 45 #[.int .i32 (r : Int)] wx fun e w' => e = .returned (.int .i64 (Lib.runeLen r)) ∧ wx = w' := fun wx => (Tryd.utf8_RuneLen r wx).mono fun _ _ h => ⟨h.1, h.2.symm⟩
      have cH : ∀ c : Nat, pos + c ≤ s.size → Calls Tryd.prog 46 #[u3, .string (s.extract pos (pos + c))] W1 fun e w' => ∃ v', e = .returned v' ∧ Hid (Fin_ w w.heap.size s (pos + wd) acc (toldL (D.take c)) v' w') := fun c hc => by
        have hsz : (s.extract pos (pos + c)).size = c := by simp; omega
        refine (hex_any (w.heap.size + 1) u3 acc.length (Lib.byteCells acc) (s.extract pos (pos + c)) W1 HOWN.out (by omega) (by omega)).mono ?_
        rintro e w' ⟨v', rfl, ho, hb⟩
        have hdt : (s.extract pos (pos + c)).data.toList = D.take c := by rw [cut_data, ← hD, show pos + c - pos = c by omega]
        rw [hdt, hsz] at ho
        exact ⟨v', rfl, Lib.hid (fin_of ho (by rw [List.length_append, toldL_len, List.length_take]; omega) (cells_app _ _).symm hb HIT.out HBW.out)⟩
      have cA : Calls Tryd.prog 34 #[u3, .int .i32 (r : Int)] W1 fun e w' => ∃ v', e = .returned v' ∧ Hid (Fin_ w w.heap.size s (pos + wd) acc (Lib.encodeRune r) v' w') := by
        refine (Tryd.utf8_AppendRune_plain (w.heap.size + 1) u3 acc.length (Lib.byteCells acc) r (by omega) (by omega) W1 HOWN.out (by omega) (by omega)).mono ?_
        rintro e w' ⟨v', rfl, ho, o, hg⟩
        refine ⟨v', rfl, Lib.hid (fin_of ho (by rw [List.length_append, Lib.runeCells_length]) (by rw [cells_app, Lib.byteCells_encodeRune]) ?_ HIT.out HBW.out)⟩
        exact Below.grown ((Below.refl _ _).alloc (by omega) _) hg (by simp; omega) (fun j hj => (HOWN.out.lt j hj).1)
      have HC : Hid (∀ c, (s.extract pos (pos + c)).data.toList = D.take c) := Lib.hid fun c => by rw [cut_data, ← hD, show pos + c - pos = c by omega]
      have HRW := Lib.hid hrw
      clear hW1 hit hown hbw hit2 hbw2 hown2 HR
      by_cases hr : r = 65533
      · subst hr
        by_cases hb : badP D
        · have HP := Lib.hid (HRP.out _ _ (pP_bad hrw hb))
          have cH1 := cH 1 (by omega)
          have hn2 : ((65533 : Nat) : Int) = 65533 := rfl
          have hrl := rl_fffd
          by_cases h3 : D.length < 3
          · have h3' : s.size - pos < 3 := by omega
            clear cH cA hDne hD hrw
            go_wp2_with (first
              | (go_at_call 45; refine (cR _).mono ?_; rintro e w' ⟨rfl, rfl⟩)
              | (go_at_call 47; refine (wplain_any _ _).mono ?_; rintro e w' ⟨rfl, rfl⟩)
              | (go_at_call 46; refine cH1.mono ?_; rintro e w3 ⟨v', rfl, X⟩)
              | (go_at_call 34; refine cA.mono ?_; rintro e w3 ⟨v', rfl, X⟩))
            go_roundw
            case rel => exact ⟨pos + wd, _, by have := HP.out.2.2.1; rw [← HL.out] at this; exact this, X.out.2.1, X.out.1, X.out.2.2, HP.out.1, HP.out.2.1⟩
            case measure => rw [iterPos_of X.out.2.1, hpos0]; have := HP.out.2.2.2; omega
          · have hcmp : ((s.extract pos (pos + 3)).toList == (Utf8.encode (65533 : Int)).toList) = false := by
              rw [beq_lists, HC.out, enc_fffd]
              exact decide_eq_false (hb.2.resolve_left h3)
            have h3' : ¬ s.size - pos < 3 := by omega
            have h3'' : pos + 3 ≤ s.size := by omega
            clear cH cA hDne hD hrw
            go_wp2_with (first
              | (go_at_call 45; refine (cR _).mono ?_; rintro e w' ⟨rfl, rfl⟩)
              | (go_at_call 47; refine (wplain_any _ _).mono ?_; rintro e w' ⟨rfl, rfl⟩)
              | (go_at_call 46; refine cH1.mono ?_; rintro e w3 ⟨v', rfl, X⟩)
              | (go_at_call 34; refine cA.mono ?_; rintro e w3 ⟨v', rfl, X⟩))
            go_roundw
            case rel => exact ⟨pos + wd, _, by have := HP.out.2.2.1; rw [← HL.out] at this; exact this, X.out.2.1, X.out.1, X.out.2.2, HP.out.1, HP.out.2.1⟩
            case measure => rw [iterPos_of X.out.2.1, hpos0]; have := HP.out.2.2.2; omega
        · have hn3 : ¬ D.length < 3 := fun h => hb ⟨by rw [hrw], Or.inl h⟩
          have ht3 : D.take 3 = [239, 191, 189] := Classical.byContradiction fun h => hb ⟨by rw [hrw], Or.inr h⟩
          have HP := Lib.hid (HRP.out _ _ (pP_p hrw hb (by omega) (by decide)))
          have hrl := rl_fffd
          have hcmp : ((s.extract pos (pos + 3)).toList == (Utf8.encode (65533 : Int)).toList) = true := by
            rw [beq_lists, HC.out, enc_fffd, ht3]
            rfl
          have h3' : ¬ s.size - pos < 3 := by omega
          have h3'' : pos + 3 ≤ s.size := by omega
          clear cH hDne hD hrw
          go_wp2_with (first
            | (go_at_call 45; refine (cR _).mono ?_; rintro e w' ⟨rfl, rfl⟩)
            | (go_at_call 47; refine (wplain_any _ _).mono ?_; rintro e w' ⟨rfl, rfl⟩)
            | (go_at_call 46; refine cH1.mono ?_; rintro e w3 ⟨v', rfl, X⟩)
            | (go_at_call 34; refine cA.mono ?_; rintro e w3 ⟨v', rfl, X⟩))
          go_roundw
          case rel => exact ⟨pos + wd, _, by have := HP.out.2.2.1; rw [← HL.out] at this; exact this, X.out.2.1, X.out.1, X.out.2.2, HP.out.1, HP.out.2.1⟩
          case measure => rw [iterPos_of X.out.2.1, hpos0]; have := HP.out.2.2.2; omega
      · obtain ⟨hwl, hw1, hw4, hrl, hr4⟩ := dec_letter hrw hDne hr
        have hb : ¬ badP D := fun h => hr (by have h1 := h.1; rw [hrw] at h1; exact h1)
        have e0 : ((r : Int) == 65533) = false := by simp; omega
        by_cases h34 : r = 34
        · subst h34
          have HP := Lib.hid (HRP.out _ _ (pP_q hrw hb (by omega)))
          have hn1 : acc.length + 2 ≤ maxLen := by unfold maxLen; omega
          have hn2 : (acc.length + 2) * 1 ≤ 140737488355328 := by omega
          have hB2 : w.heap.size + 1 ≤ (W1.alloc (.cells #[.int .u8 92, .int .u8 34] 5)).heap.size := by simp; omega
          clear cH cA hDne hD hrw hrl
          go_wp2_with (first
            | (go_at_call 45; refine (cR _).mono ?_; rintro e w' ⟨rfl, rfl⟩)
            | (at_builtin; refine wpList_append_own _ rfl _ _ 50 rfl (w.heap.size + 1) 5 i0 (.int .u8 0) 1 1 Tryd.underlying50 HI.out HZ0.out HZ1.out HZ2.out rfl (by decide) _ _ _ rfl (HOWN.out.alloc _) ⟨W1.heap.size, 0, none⟩ 2 2 [.int .u8 92, .int .u8 34] rfl rfl (two_new _ _ _) (one_two _ _) hn1 hn2 hB2 ?_; intro v' w3 ho hg _; have X := Lib.hid (two_fin (P := [92, 34]) ho rfl HIT.out HBW.out hg HOWN.out hBlt); clear ho hg))
          go_roundw
          case rel => exact ⟨pos + wd, _, by have := HP.out.2.2.1; rw [← HL.out] at this; exact this, X.out.2.1, X.out.1, X.out.2.2, HP.out.1, HP.out.2.1⟩
          case measure => rw [iterPos_of X.out.2.1, hpos0]; have := HP.out.2.2.2; omega
        by_cases h92 : r = 92
        · subst h92
          have HP := Lib.hid (HRP.out _ _ (pP_q hrw hb (by omega)))
          have hn1 : acc.length + 2 ≤ maxLen := by unfold maxLen; omega
          have hn2 : (acc.length + 2) * 1 ≤ 140737488355328 := by omega
          have hB2 : w.heap.size + 1 ≤ (W1.alloc (.cells #[.int .u8 92, .int .u8 92] 5)).heap.size := by simp; omega
          clear cH cA hDne hD hrw hrl
          go_wp2_with (first
            | (go_at_call 45; refine (cR _).mono ?_; rintro e w' ⟨rfl, rfl⟩)
            | (at_builtin; refine wpList_append_own _ rfl _ _ 50 rfl (w.heap.size + 1) 5 i0 (.int .u8 0) 1 1 Tryd.underlying50 HI.out HZ0.out HZ1.out HZ2.out rfl (by decide) _ _ _ rfl (HOWN.out.alloc _) ⟨W1.heap.size, 0, none⟩ 2 2 [.int .u8 92, .int .u8 92] rfl rfl (two_new _ _ _) (one_two _ _) hn1 hn2 hB2 ?_; intro v' w3 ho hg _; have X := Lib.hid (two_fin (P := [92, 92]) ho rfl HIT.out HBW.out hg HOWN.out hBlt); clear ho hg))
          go_roundw
          case rel => exact ⟨pos + wd, _, by have := HP.out.2.2.1; rw [← HL.out] at this; exact this, X.out.2.1, X.out.1, X.out.2.2, HP.out.1, HP.out.2.1⟩
          case measure => rw [iterPos_of X.out.2.1, hpos0]; have := HP.out.2.2.2; omega
        have e34 : ((r : Int) == 34) = false := by simp; omega
        have e92 : ((r : Int) == 92) = false := by simp; omega
        have hq : ¬ (r = 34 ∨ r = 92) := by omega
        by_cases hpl : plainN r = true
        · have HP := Lib.hid (HRP.out _ _ (pP_p hrw hb hq hpl))
          clear cH hDne hD hrw
          go_wp2_with (first
            | (go_at_call 45; refine (cR _).mono ?_; rintro e w' ⟨rfl, rfl⟩)
            | (go_at_call 47; refine (wplain_any _ _).mono ?_; rintro e w' ⟨rfl, rfl⟩)
            | (go_at_call 46; refine cH1.mono ?_; rintro e w3 ⟨v', rfl, X⟩)
            | (go_at_call 34; refine cA.mono ?_; rintro e w3 ⟨v', rfl, X⟩))
          go_roundw
          case rel => exact ⟨pos + wd, _, by have := HP.out.2.2.1; rw [← HL.out] at this; exact this, X.out.2.1, X.out.1, X.out.2.2, HP.out.1, HP.out.2.1⟩
          case measure => rw [iterPos_of X.out.2.1, hpos0]; have := HP.out.2.2.2; omega
        · have hpl' : plainN r = false := by simpa using hpl
          have HP := Lib.hid (HRP.out _ _ (pP_t hrw hb hq hpl'))
          have hwz : (Lib.runeLen (r : Int)).toNat = wd := by rw [hrl]; rfl
          rw [hwz] at HP
          have cH1 := cH wd (by omega)
          have hws : pos + wd ≤ s.size := by omega
          clear cH cA hDne hD hrw hpl hwz
          go_wp2_with (first
            | (go_at_call 45; refine (cR _).mono ?_; rintro e w' ⟨rfl, rfl⟩)
            | (go_at_call 47; refine (wplain_any _ _).mono ?_; rintro e w' ⟨rfl, rfl⟩)
            | (go_at_call 46; refine cH1.mono ?_; rintro e w3 ⟨v', rfl, X⟩)
            | (go_at_call 34; refine cA.mono ?_; rintro e w3 ⟨v', rfl, X⟩))
          go_roundw
          case rel => exact ⟨pos + wd, _, by have := HP.out.2.2.1; rw [← HL.out] at this; exact this, X.out.2.1, X.out.1, X.out.2.2, HP.out.1, HP.out.2.1⟩
          case measure => rw [iterPos_of X.out.2.1, hpos0]; have := HP.out.2.2.2; omega
    · have hpn : pos = s.size := by omega
      subst hpn
      have hnx : ∀ ty, (Instr.next (.pointer (some ⟨w.heap.size, 0, none⟩)) true ty).run Tryd.prog wr = _ := fun ty => Lib.run_next_end_at wr w.heap.size s s.size ty hit hp
      have hcv := conv_own wr (w.heap.size + 1) u3 acc hown
      have HA : Hid (acc = showL s.data.toList) := by
        refine Lib.hid ?_
        rw [List.drop_of_length_le (by rw [← HL.out]; omega), showL_nil, List.append_nil] at hacc
        exact hacc
      clear hacc hown
      go_wp2
      go_ret
      refine ⟨?_, hbw⟩
      rw [← HA.out]
      rfl
end Go.Proofs.YtmlklbbkkggpkaaDoor.show_
