/- Contract: the document's Show. -/
import Derived.Test.YtmlklbbkkggpkaaDoorShowB
import Derived.Test.YtmlklbbkkggpkaaDoorShowC
namespace Go.Proofs.YtmlklbbkkggpkaaDoor.show_
open Go.RowKit kit
set_option linter.unusedVariables false

theorem step_rel {acc L P : List UInt8} {k a : Nat} (h : acc ++ showL (L.drop k) = showL L) (hk : k < L.length) (hp : pieceR (L.drop k) = (P, a)) (hl : acc.length ≤ 4 * k) :
    (acc ++ P) ++ showL (L.drop (k + a)) = showL L ∧ (acc ++ P).length ≤ 4 * (k + a) ∧ k + a ≤ L.length ∧ 1 ≤ a := by
  have hne : L.drop k ≠ [] := by
    intro e
    have := congrArg List.length e
    rw [List.length_drop] at this
    simp at this
    omega
  have h1 := showL_step _ hne
  have h2 := piece_adv _ hne
  have h3 := piece_len _ hne
  rw [hp] at h1 h2 h3
  dsimp only at h1 h2 h3
  rw [List.length_drop] at h2
  rw [List.drop_drop] at h1
  refine ⟨?_, ?_, by omega, h2.1⟩
  · rw [← h, h1, List.append_assoc]
  · rw [List.length_append]
    omega

theorem piece_0 {D : List UInt8} {v : Nat} (h : letL D = (v, 0)) : pieceR D = (toldL (D.take 1), 1) := by
  unfold pieceR
  rw [h]
  rfl
theorem piece_q {D : List UInt8} {v n : Nat} (h : letL D = (v, n)) (hn : n ≠ 0) (hv : v = 34 ∨ v = 92) : pieceR D = (92 :: D.take 1, n) := by
  unfold pieceR
  rw [h, if_neg hn, if_pos hv]
theorem piece_p {D : List UInt8} {v n : Nat} (h : letL D = (v, n)) (hn : n ≠ 0) (hv : ¬ (v = 34 ∨ v = 92)) (hp : plainN v = true) : pieceR D = (D.take n, n) := by
  unfold pieceR
  rw [h, if_neg hn, if_neg hv]
  simp [hp]
theorem piece_t {D : List UInt8} {v n : Nat} (h : letL D = (v, n)) (hn : n ≠ 0) (hv : ¬ (v = 34 ∨ v = 92)) (hp : plainN v = false) : pieceR D = (toldL (D.take n), n) := by
  unfold pieceR
  rw [h, if_neg hn, if_neg hv]
  simp [hp]

set_option maxRecDepth 1000000 in
set_option maxHeartbeats 4000000 in
theorem rshow_any (s : ByteArray) (hs : s.size ≤ 274877906944) (w : World) :
    Calls Tryd.prog 15 #[.string s] w fun e w' => e = .returned (.string ⟨(showL s.data.toList).toArray⟩) ∧ ∃ n, w' = w.drewN n := by
  have HL := Lib.hid (Lib.size_eq s)
  go_enter Tryd.func15, Tryd.ntmps15
  go_wp2
  go_loopw [3, 4] (fun r i wr => ∃ (k m : Nat) (acc : List UInt8), k ≤ s.size ∧ i = .int .i64 k ∧ r = .string ⟨acc.toArray⟩ ∧ acc ++ showL (s.data.toList.drop k) = showL s.data.toList ∧ acc.length ≤ 4 * k ∧ wr = w.drewN m) (fun _ i _ => s.size - (intOf i).toNat)
  case atStart => exact ⟨0, 0, [], by omega, rfl, rfl, rfl, by simp, rfl⟩
  case round =>
    obtain ⟨k, m, acc, hk, rfl, rfl, hacc, hal, rfl⟩ := hrel
    by_cases hlt : k < s.size
    · have HR := Lib.hid (fun P a hp => step_rel (P := P) (a := a) hacc (by rw [← HL.out]; exact hlt) hp hal)
      clear hacc
      obtain ⟨D, hD⟩ : ∃ D, D = s.data.toList.drop k := ⟨_, rfl⟩
      rw [← hD] at HR
      have hDl : D.length = s.size - k := by rw [hD, List.length_drop, HL.out]
      have hDne : D ≠ [] := by
        intro e
        rw [e] at hDl
        simp at hDl
        omega
      obtain ⟨v, n, hvn⟩ : ∃ v n, letL D = (v, n) := ⟨_, _, rfl⟩
      have cl : ∀ wx, Calls Tryd.prog 25 #[.string (s.extract k s.size)] wx fun e w' => e = .returned (.tuple #[.int .i64 v, .int .i64 n]) ∧ w' = wx := fun wx => by
        have h := letter_any (s.extract k s.size) (by simp; omega) (by simp; omega) wx
        rw [Lib.extract_to_end, ← hD, hvn] at h
        exact h
      have ct : ∀ (c : Nat) (wx : World), Calls Tryd.prog 26 #[.string (s.extract k (k + c))] wx fun e w' => e = .returned (.string ⟨(toldL (D.take c)).toArray⟩) ∧ ∃ n, w' = wx.drewN n := fun c wx => by
        have h := told_any (s.extract k (k + c)) (by simp; omega) wx
        rw [cut_data, ← hD, show k + c - k = c by omega] at h
        exact h
      have hX : ∀ c, c ≤ D.length → (toldL (D.take c)).length ≤ 4 * s.size := fun c hc => by rw [toldL_len, List.length_take]; omega
      have HE : Hid (∀ c, s.extract k (k + c) = ⟨(D.take c).toArray⟩) := Lib.hid fun c => by rw [Lib.extract_eq, ← hD, show k + c - k = c by omega]
      have HV : Hid (letL D = (v, n)) := Lib.hid hvn
      by_cases hn : n = 0
      · subst hn
        have X1 := hX 1 (by omega)
        have CT := ct 1
        have HP := Lib.hid (HR.out _ _ (piece_0 hvn))
        clear hX ct hvn hDl hDne hD
        go_wp2_with (first
          | (go_at_call 25; refine (cl _).mono ?_; rintro e w' ⟨rfl, rfl⟩)
          | (go_at_call 26; refine (CT _).mono ?_; rintro e w' ⟨rfl, nq, rfl⟩))
        go_roundw
        case rel => exact ⟨k + 1, _, _, by have := HP.out.2.2.1; rw [← HL.out] at this; omega, by go_num, congrArg Value.string (ByteArray.mk_append_mk _ _), HP.out.1, HP.out.2.1, rfl⟩
        case measure => simp [intOf]; omega
      · obtain ⟨hn1, hn2, hn3, henc, hrl, hvm, _⟩ := let_enc D v n hvn hDne hn
        clear henc hrl
        have hkn : k + n ≤ s.size := by omega
        have Xn := hX n hn1
        have CT := ct n
        have hn0 : ((n : Int) == 0) = false := by simp; omega
        by_cases h34 : v = 34
        · have HP := Lib.hid (HR.out _ _ (piece_q hvn hn (Or.inl h34)))
          clear hX ct hDl hDne hD hvn
          subst h34
          go_wp2_with (first
            | (go_at_call 25; refine (cl _).mono ?_; rintro e w' ⟨rfl, rfl⟩)
            | (go_at_call 26; refine (CT _).mono ?_; rintro e w' ⟨rfl, nq, rfl⟩))
          all_goals (
            go_roundw
            case rel => exact ⟨k + n, _, _, hkn, by go_num, (by first | (refine congrArg Value.string ?_; show (⟨acc.toArray⟩ ++ ⟨[92].toArray⟩ ++ s.extract k (k + 1) : ByteArray) = _; rw [HE.out 1, ByteArray.mk_append_mk, ByteArray.mk_append_mk, List.append_assoc]; rfl)), HP.out.1, HP.out.2.1, rfl⟩
            case measure => simp [intOf]; omega)
        by_cases h92 : v = 92
        · have HP := Lib.hid (HR.out _ _ (piece_q hvn hn (Or.inr h92)))
          clear hX ct hDl hDne hD hvn
          subst h92
          go_wp2_with (first
            | (go_at_call 25; refine (cl _).mono ?_; rintro e w' ⟨rfl, rfl⟩)
            | (go_at_call 26; refine (CT _).mono ?_; rintro e w' ⟨rfl, nq, rfl⟩))
          all_goals (
            go_roundw
            case rel => exact ⟨k + n, _, _, hkn, by go_num, (by first | (refine congrArg Value.string ?_; show (⟨acc.toArray⟩ ++ ⟨[92].toArray⟩ ++ s.extract k (k + 1) : ByteArray) = _; rw [HE.out 1, ByteArray.mk_append_mk, ByteArray.mk_append_mk, List.append_assoc]; rfl)), HP.out.1, HP.out.2.1, rfl⟩
            case measure => simp [intOf]; omega)
        have e34 : ((v : Int) == 34) = false := by simp; omega
        have e92 : ((v : Int) == 92) = false := by simp; omega
        by_cases hp1 : 32 ≤ v ∧ v ≤ 126
        · have HP := Lib.hid (HR.out _ _ (piece_p hvn hn (by omega) (by simp [plainN]; omega)))
          clear hX ct hDl hDne hD hvn
          go_wp2_with (first
            | (go_at_call 25; refine (cl _).mono ?_; rintro e w' ⟨rfl, rfl⟩)
            | (go_at_call 26; refine (CT _).mono ?_; rintro e w' ⟨rfl, nq, rfl⟩))
          all_goals (
            go_roundw
            case rel => exact ⟨k + n, _, _, hkn, by go_num, (by first | (refine congrArg Value.string ?_; show (⟨acc.toArray⟩ ++ s.extract k (k + n) : ByteArray) = _; rw [HE.out n, ByteArray.mk_append_mk])), HP.out.1, HP.out.2.1, rfl⟩
            case measure => simp [intOf]; omega)
        by_cases hp2 : 160 ≤ v
        · have HP := Lib.hid (HR.out _ _ (piece_p hvn hn (by omega) (by simp [plainN]; omega)))
          clear hX ct hDl hDne hD hvn
          go_wp2_with (first
            | (go_at_call 25; refine (cl _).mono ?_; rintro e w' ⟨rfl, rfl⟩)
            | (go_at_call 26; refine (CT _).mono ?_; rintro e w' ⟨rfl, nq, rfl⟩))
          all_goals (
            go_roundw
            case rel => exact ⟨k + n, _, _, hkn, by go_num, (by first | (refine congrArg Value.string ?_; show (⟨acc.toArray⟩ ++ s.extract k (k + n) : ByteArray) = _; rw [HE.out n, ByteArray.mk_append_mk])), HP.out.1, HP.out.2.1, rfl⟩
            case measure => simp [intOf]; omega)
        have HP := Lib.hid (HR.out _ _ (piece_t hvn hn (by omega) (by simp [plainN]; omega)))
        clear hX ct hDl hDne hD hvn
        by_cases g1 : v < 32
        · go_wp2_with (first
            | (go_at_call 25; refine (cl _).mono ?_; rintro e w' ⟨rfl, rfl⟩)
            | (go_at_call 26; refine (CT _).mono ?_; rintro e w' ⟨rfl, nq, rfl⟩))
          go_roundw
          case rel => exact ⟨k + n, _, _, hkn, by go_num, congrArg Value.string (ByteArray.mk_append_mk _ _), HP.out.1, HP.out.2.1, rfl⟩
          case measure => simp [intOf]; omega
        · have g2 : 126 < v := by omega
          have g3 : v < 160 := by omega
          go_wp2_with (first
            | (go_at_call 25; refine (cl _).mono ?_; rintro e w' ⟨rfl, rfl⟩)
            | (go_at_call 26; refine (CT _).mono ?_; rintro e w' ⟨rfl, nq, rfl⟩))
          go_roundw
          case rel => exact ⟨k + n, _, _, hkn, by go_num, congrArg Value.string (ByteArray.mk_append_mk _ _), HP.out.1, HP.out.2.1, rfl⟩
          case measure => simp [intOf]; omega
    · have hkn : k = s.size := by omega
      subst hkn
      have HA := Lib.hid hacc; clear hacc
      go_wp2
      go_ret
      refine ⟨?_, m, rfl⟩
      have h := HA.out
      rw [List.drop_of_length_le (by rw [← HL.out]; omega), showL_nil, List.append_nil] at h
      rw [← h]
      rfl
end Go.Proofs.YtmlklbbkkggpkaaDoor.show_
