/- Plain facts: validity, runes and keys of a text, in the words of the library. -/
import Derived.Test.YtmlklbbkkggpkaaDoorWordD
import Derived.Lib.ValidU
import Derived.Test.YtmlklbbkkggpkaaDoorWordB
import Derived.Test.YtmlklbbkkggpkaaDoorShowW
namespace Go.Proofs.YtmlklbbkkggpkaaDoor.show_
open Go.RowKit kit
set_option linter.unusedVariables false

theorem decodeL_dec (L : List UInt8) : Lib.decodeL L = decL L := by
  unfold Lib.decodeL
  rw [decode_eq]
  rfl
theorem validG_eq : ∀ (f : Nat) (L : List UInt8), Lib.validGoD f L = vF f L
  | 0, _ => rfl
  | f + 1, L => by
    unfold Lib.validGoD vF
    by_cases hL : L = []
    · rw [if_pos hL, if_pos hL]
    · rw [if_neg hL, if_neg hL, decodeL_dec]
      have h := decL_bad L hL
      by_cases h0 : (letL L).2 = 0
      · rw [if_pos (h.2 h0), if_pos h0]
      · rw [if_neg (fun e => h0 (h.1 e)), if_neg h0, validG_eq f]
        have : (decL L).2 = (letL L).2 := by rw [decL_eq, if_neg h0]
        rw [this]
theorem valid_eq (L : List UInt8) : Lib.validD L = valid_ L := validG_eq _ L

def runeCells_ (R : List Nat) : List Value := R.map fun (r : Nat) => Value.int .i32 (r : Int)
theorem runesFrom_eq (s : ByteArray) : ∀ (f i : Nat) (acc : Array Value), i ≤ s.size → s.size - i ≤ f → Conv.runesFrom s f i acc = acc ++ (runeCells_ (runesL (s.data.toList.drop i))).toArray
  | 0, i, acc, h1, h2 => by
    have : s.data.toList.drop i = [] := List.drop_of_length_le (by rw [← Lib.size_eq]; omega)
    rw [this]
    simp [Conv.runesFrom, runesL, runesF, runeCells_]
  | f + 1, i, acc, h1, h2 => by
    unfold Conv.runesFrom
    by_cases hi : i < s.size
    · rw [if_pos hi, decode_eq]
      have hne : s.data.toList.drop i ≠ [] := by
        intro e
        have := congrArg List.length e
        rw [List.length_drop, ← Lib.size_eq, List.length_nil] at this
        omega
      have ha := decL_adv _ hne
      rw [List.length_drop, ← Lib.size_eq] at ha
      show Conv.runesFrom s f (i + (decL (s.data.toList.drop i)).2) (acc.push (.int .i32 (Int.ofNat (decL (s.data.toList.drop i)).1))) = _
      rw [runesFrom_eq s f _ _ (by omega) (by omega), runesL_step _ hne, List.drop_drop]
      generalize decL (s.data.toList.drop i) = q
      obtain ⟨r, wd⟩ := q
      simp [runeCells_]
    · rw [if_neg hi]
      have : s.data.toList.drop i = [] := List.drop_of_length_le (by rw [← Lib.size_eq]; omega)
      rw [this]
      simp [runesL, runesF, runeCells_]
theorem runes_all (s : ByteArray) : Conv.runesFrom s s.size 0 #[] = (runeCells_ (runesL s.data.toList)).toArray := by
  rw [runesFrom_eq s s.size 0 #[] (by omega) (by omega)]
  simp
theorem runesF_len : ∀ (f : Nat) (L : List UInt8), (runesF f L).length ≤ L.length
  | 0, L => by simp [runesF]
  | f + 1, L => by
    unfold runesF
    by_cases hL : L = []
    · simp [hL]
    · rw [if_neg hL]
      have ha := decL_adv L hL
      have := runesF_len f (L.drop (decL L).2)
      rw [List.length_drop] at this
      simp only [List.length_cons]
      omega
theorem runesL_len (L : List UInt8) : (runesL L).length ≤ L.length := runesF_len _ L
theorem runesF_le : ∀ (f : Nat) (L : List UInt8), ∀ r ∈ runesF f L, r ≤ 1114111
  | 0, L => by simp [runesF]
  | f + 1, L => by
    unfold runesF
    by_cases hL : L = []
    · simp [hL]
    · rw [if_neg hL]
      intro r hr
      rcases List.mem_cons.1 hr with rfl | h
      · exact decL_le L hL
      · exact runesF_le f _ r h
theorem runesL_le (L : List UInt8) : ∀ r ∈ runesL L, r ≤ 1114111 := runesF_le _ L
theorem enc_len (r : Nat) : (encR r).length ≤ 4 := by
  unfold encR Lib.encodeRune
  rw [List.length_map]
  exact (Lib.encodeRuneZ_length r).2
theorem unesc_len (enc : Nat → List UInt8) (m : Nat) (hm : 1 ≤ m) (he : ∀ r, (enc r).length ≤ m) : ∀ (f : Nat) (R : List Nat) (K : List UInt8), unesc enc f R = some K → K.length ≤ m * R.length
  | 0, R, K, h => by
    injection h with h
    subst h
    simp
  | f + 1, [], K, h => by
    injection h with h
    subst h
    simp
  | f + 1, r :: t, K, h => by
    unfold unesc at h
    simp only [List.length_cons]
    by_cases h92 : r = 92
    · rw [if_pos h92] at h
      by_cases h0 : (escL t).1 = 0
      · rw [if_pos h0] at h
        cases h
      · rw [if_neg h0] at h
        cases hk : unesc enc f (t.drop (escL t).1) with
        | none => rw [hk] at h; cases h
        | some K' =>
          rw [hk] at h
          have h := Option.some.inj h
          have ih := unesc_len enc m hm he f _ K' hk
          have hle := escL_le t
          rw [List.length_drop] at ih
          rw [← h, List.length_cons]
          have h1 : m * (t.length - (escL t).1) ≤ m * t.length := Nat.mul_le_mul_left m (by omega)
          rw [Nat.mul_add]
          omega
    · rw [if_neg h92] at h
      cases hk : unesc enc f t with
      | none => rw [hk] at h; cases h
      | some K' =>
        rw [hk] at h
        have h := Option.some.inj h
        have ih := unesc_len enc m hm he f _ K' hk
        have h2 := he r
        rw [← h, List.length_append, Nat.mul_add]
        omega
theorem keyB_len {L K : List UInt8} (h : keyB L = some K) : K.length ≤ L.length := by
  have := unesc_len encB 1 (Nat.le_refl _) (fun r => by simp [encB]) _ _ K h
  rw [Nat.one_mul] at this
  simpa [natsL] using this

theorem unR_none {T : List UInt8} (h : keyB T = none) : unR T = none := by unfold unR; rw [h]; rfl
theorem unR_some {T K : List UInt8} (h : keyB T = some K) : unR T = if showL K = T then some K else none := by unfold unR; rw [h]; rfl
theorem beq_data (a b : List UInt8) (t : ByteArray) (h : t.data.toList = b) : ((⟨a.toArray⟩ : ByteArray).toList == t.toList) = decide (a = b) := by
  rw [beq_lists, ← h]

set_option maxRecDepth 1000000 in
set_option maxHeartbeats 1000000 in
theorem runshow_any (s : ByteArray) (hs : s.size ≤ 68719476736) (w : World) :
    Calls Tryd.prog 10 #[.string s] w fun e w' => e = .returned (keyV (unR s.data.toList)) ∧ Below w.heap.size w w' := by
  have HL := Lib.hid (Lib.size_eq s)
  have cK : ∀ wx, Calls Tryd.prog 14 #[.string s] wx fun e w' => e = .returned (keyV (keyB s.data.toList)) ∧ Hid (Below wx.heap.size wx w') := fun wx => (rkey_any s (by omega) wx).mono fun _ _ h => ⟨h.1, Lib.hid h.2⟩
  obtain ⟨ans, hans⟩ : ∃ ans, unR s.data.toList = ans := ⟨_, rfl⟩
  rw [hans]
  cases hk : keyB s.data.toList with
  | none =>
    have HA := Lib.hid (hans.symm.trans (unR_none hk))
    rw [hk] at cK
    have hv : keyV none = .tuple #[.string ⟨#[]⟩, .bool false] := rfl
    rw [hv] at cK
    clear hans hk hv
    go_enter Tryd.func10, Tryd.ntmps10
    go_wp2_with (go_at_call 14; refine (cK _).mono ?_; rintro e w1 ⟨rfl, hb⟩)
    go_ret2
    exact ⟨by rw [HA.out]; rfl, hb.out⟩
  | some K =>
    have hA := hans.symm.trans (unR_some hk)
    have hl := keyB_len hk
    rw [hk] at cK
    have hv : keyV (some K) = .tuple #[.string ⟨K.toArray⟩, .bool true] := rfl
    rw [hv] at cK
    have cS : ∀ wx, Calls Tryd.prog 15 #[.string ⟨K.toArray⟩] wx fun e w' => e = .returned (.string ⟨(showL K).toArray⟩) ∧ Hid (Below wx.heap.size wx w') := fun wx => (rshow_any ⟨K.toArray⟩ (by
      show K.length ≤ _
      rw [← HL.out] at hl
      omega) wx).mono fun _ _ ⟨h, n, hn⟩ => ⟨h, Lib.hid (by rw [hn]; exact below_drewN (Below.refl _ _) n)⟩
    have hcmp : (showL K == s.toList) = decide (showL K = s.data.toList) := by
      rw [Lib.toList_data, Bool.eq_iff_iff]
      simp
    by_cases hT : showL K = s.data.toList
    · have HA := Lib.hid (hA.trans (if_pos hT))
      rw [decide_eq_true hT] at hcmp
      clear hans hk hv hA hl hT
      go_enter Tryd.func10, Tryd.ntmps10
      go_wp2_with (first
        | (go_at_call 14; refine (cK _).mono ?_; rintro e w1 ⟨rfl, hb⟩)
        | (go_at_call 15; refine (cS _).mono ?_; rintro e w2 ⟨rfl, hb2⟩))
      go_ret2
      exact ⟨by rw [HA.out]; rfl, hb.out.trans (hb2.out.mono hb.out.size)⟩
    · have HA := Lib.hid (hA.trans (if_neg hT))
      rw [decide_eq_false hT] at hcmp
      clear hans hk hv hA hl hT
      go_enter Tryd.func10, Tryd.ntmps10
      go_wp2_with (first
        | (go_at_call 14; refine (cK _).mono ?_; rintro e w1 ⟨rfl, hb⟩)
        | (go_at_call 15; refine (cS _).mono ?_; rintro e w2 ⟨rfl, hb2⟩))
      go_ret2
      exact ⟨by rw [HA.out]; rfl, hb.out.trans (hb2.out.mono hb.out.size)⟩
end Go.Proofs.YtmlklbbkkggpkaaDoor.show_
