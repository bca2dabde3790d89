/- Contracts: both Quotes. -/
import Derived.Test.YtmlklbbkkggpkaaShowW
import Derived.Test.YtmlklbbkkggpkaaShowX
import Derived.Lib.IndexLaws
namespace Go.Proofs.Ytmlklbbkkggpkaa.show_
open Go.RowKit kit
set_option linter.unusedVariables false

/-- May the word stand as it is? -/
def bareW (L : List UInt8) : Bool := !(L.isEmpty) && !(L[0]? == some 35) && allSeen L && !(hasQ L)
/-- How a line has a word. -/
def quoteL (L : List UInt8) : List UInt8 := if bareW L then L else 34 :: (showL L ++ [34])
theorem quote_bare {L : List UInt8} (h : bareW L = true) : quoteL L = L := by unfold quoteL; rw [if_pos h]
theorem quote_shown {L : List UInt8} (h : bareW L = false) : quoteL L = 34 :: (showL L ++ [34]) := by unfold quoteL; rw [h]; rfl
theorem idx_neg (L : List UInt8) : (Lib.indexByte L 34 < 0) ↔ hasQ L = false := by
  induction L with
  | nil => simp [Lib.indexByte, hasQ]
  | cons b L ih =>
    have hg := Lib.indexByte_ge L 34
    unfold Lib.indexByte
    by_cases hb : (b == 34) = true
    · rw [if_pos hb]
      simp [hasQ] at *
      simp [hb]
    · have hb' : (b == 34) = false := by simpa using hb
      rw [if_neg hb]
      have e : hasQ (b :: L) = hasQ L := by simp [hasQ, hb']
      rw [e, ← ih]
      by_cases h1 : (Lib.indexByte L 34 == -1) = true
      · rw [if_pos h1]
        have : Lib.indexByte L 34 = -1 := by simpa using h1
        omega
      · rw [if_neg h1]
        have : Lib.indexByte L 34 ≠ -1 := by simpa using h1
        omega
theorem seen_nb {b : UInt8} (h : seen b = true) : nb b = true := by
  unfold seen at h
  unfold nb blankN
  simp at h ⊢
  omega
theorem seen_head : ∀ {L : List UInt8}, allSeen L = true → headW L = L
  | [], _ => rfl
  | b :: L, h => by
    unfold allSeen at h
    rw [List.all_cons, Bool.and_eq_true] at h
    have ih := seen_head (L := L) h.2
    unfold headW at *
    rw [List.takeWhile_cons, seen_nb h.1, if_pos rfl, ih]
theorem strcat (a : List UInt8) : (⟨[34].toArray⟩ ++ ⟨a.toArray⟩ ++ ⟨[34].toArray⟩ : ByteArray) = ⟨(34 :: (a ++ [34])).toArray⟩ := by
  rw [ByteArray.mk_append_mk, ByteArray.mk_append_mk]
  rfl
theorem showL_len (L : List UInt8) : (showL L).length ≤ 4 * L.length := by
  suffices h : ∀ f (L : List UInt8), L.length ≤ f → (showL L).length ≤ 4 * L.length from h _ L (Nat.le_refl _)
  intro f
  induction f with
  | zero =>
    intro L h
    have : L = [] := List.eq_nil_of_length_eq_zero (by omega)
    subst this
    simp [showL_nil]
  | succ f ih =>
    intro L h
    by_cases hL : L = []
    · subst hL
      simp [showL_nil]
    · have h1 := piece_adv L hL
      have h2 := piece_len L hL
      have h3 := ih (L.drop (pieceR L).2) (by rw [List.length_drop]; omega)
      rw [showL_step L hL, List.length_append]
      rw [List.length_drop] at h3
      omega

theorem empty_of (s : ByteArray) : s.toList.isEmpty = s.data.toList.isEmpty := by rw [Lib.toList_data]
theorem get0 (s : ByteArray) (h : 0 < s.size) : s.data.toList[0]? = some (s[0]'h) := Lib.data_getElem? s 0 h

set_option maxRecDepth 1000000 in
set_option maxHeartbeats 1000000 in
theorem quote_any (s : ByteArray) (hs : s.size ≤ 68719476736) (w : World) :
    Calls Try.prog 12 #[.string s] w fun e w' => e = .returned (.string ⟨(quoteL s.data.toList).toArray⟩) ∧ Below w.heap.size w w' := by
  have HL := Lib.hid (Lib.size_eq s)
  have cP : ∀ wx, Calls Try.prog 17 #[.string s] wx fun e w' => e = .returned (.bool (allSeen s.data.toList)) ∧ wx = w' := fun wx => (printable_any s (by omega) wx).mono fun _ _ h => ⟨h.1, h.2.symm⟩
  have cI : ∀ wx, Calls Try.prog 18 #[.string s, .int .u8 34] wx fun e w' => e = .returned (.int .i64 (Lib.indexByte s.data.toList 34)) ∧ wx = w' := fun wx => (Try.strings_IndexByte s 34 wx).mono fun _ _ h => ⟨h.1, h.2.symm⟩
  have hX : (showL s.data.toList).length ≤ 4 * s.size := by rw [HL.out]; exact showL_len _
  have HS : Hid (∀ wx : World, Calls Try.prog 19 #[.string s] wx fun e w' => e = .returned (.string ⟨(showL s.data.toList).toArray⟩) ∧ Below wx.heap.size wx w') := Lib.hid fun wx => show_any s hs wx
  have HQ := Lib.hid (idx_neg s.data.toList)
  obtain ⟨L, hL⟩ : ∃ L, L = s.data.toList := ⟨_, rfl⟩
  have HE : Hid (s = ⟨L.toArray⟩) := Lib.hid (by subst hL; exact (Lib.mk_data s).symm)
  have HG : Hid (∀ h : 0 < s.size, L[0]? = some (s[0]'h)) := Lib.hid fun h => (congrArg (fun l : List UInt8 => l[0]?) hL).trans (get0 s h)
  have HM : Hid (s.toList.isEmpty = L.isEmpty) := Lib.hid (by subst hL; exact empty_of s)
  rw [← hL] at cP cI hX HS HQ HL ⊢
  clear hL
  obtain ⟨X, hXe⟩ : ∃ X, X = showL L := ⟨_, rfl⟩
  rw [← hXe] at hX HS
  have HX := Lib.hid hXe; clear hXe
  go_enter Try.func12, Try.ntmps12
  by_cases h0 : 0 < s.size
  · have hne : L ≠ [] := by
      intro e
      rw [HL.out, e] at h0
      simp at h0
    have hie : L.isEmpty = false := by
      cases L with
      | nil => exact absurd rfl hne
      | cons _ _ => rfl
    have hem : s.toList.isEmpty = false := by rw [HM.out]; exact hie
    have hg := HG.out h0
    obtain ⟨c, hc⟩ : ∃ c, s[0]'h0 = c := ⟨_, rfl⟩
    rw [hc] at hg
    by_cases h35 : c.toNat = 35
    · have HB : Hid (bareW L = false) := Lib.hid (by
        have : c = 35 := UInt8.toNat_inj.1 h35
        unfold bareW
        rw [hg, this]
        simp)
      clear hg hne hie
      go_wp2_with (first
        | (go_at_call 17; refine (cP _).mono ?_; rintro e w' ⟨rfl, rfl⟩)
        | (go_at_call 18; refine (cI _).mono ?_; rintro e w' ⟨rfl, rfl⟩)
        | (go_at_call 19; refine (HS.out _).mono ?_; rintro e w' ⟨rfl, hb⟩))
      go_ret
      refine ⟨?_, hb⟩
      rw [quote_shown HB.out]
      show Ending.returned (.string (⟨[34].toArray⟩ ++ ⟨X.toArray⟩ ++ ⟨[34].toArray⟩)) = _
      rw [strcat, HX.out]
    · have e35 : ((c.toNat : Int) != 35) = true := by simp; omega
      have hc35 : (L[0]? == some 35) = false := by
        rw [hg]
        have : c ≠ 35 := fun e => h35 (by rw [e]; rfl)
        simp [this]
      have hbw : bareW L = (allSeen L && !(hasQ L)) := by
        unfold bareW
        rw [hie, hc35]
        simp
      have HBW := Lib.hid hbw
      clear hg hne hie hbw
      by_cases hsn : allSeen L = true
      · by_cases hq : hasQ L = true
        · have HB : Hid (bareW L = false) := Lib.hid (by rw [HBW.out, hsn, hq]; rfl)
          have hix : ¬ Lib.indexByte L 34 < 0 := fun h => by rw [HQ.out.1 h] at hq; cases hq
          clear hq
          go_wp2_with (first
            | (go_at_call 17; refine (cP _).mono ?_; rintro e w' ⟨rfl, rfl⟩)
            | (go_at_call 18; refine (cI _).mono ?_; rintro e w' ⟨rfl, rfl⟩)
            | (go_at_call 19; refine (HS.out _).mono ?_; rintro e w' ⟨rfl, hb⟩))
          go_ret
          refine ⟨?_, hb⟩
          rw [quote_shown HB.out]
          show Ending.returned (.string (⟨[34].toArray⟩ ++ ⟨X.toArray⟩ ++ ⟨[34].toArray⟩)) = _
          rw [strcat, HX.out]
        · have hq' : hasQ L = false := by simpa using hq
          have HB : Hid (bareW L = true) := Lib.hid (by rw [HBW.out, hsn, hq']; rfl)
          have hix : Lib.indexByte L 34 < 0 := HQ.out.2 hq'
          clear hq hq'
          go_wp2_with (first
            | (go_at_call 17; refine (cP _).mono ?_; rintro e w' ⟨rfl, rfl⟩)
            | (go_at_call 18; refine (cI _).mono ?_; rintro e w' ⟨rfl, rfl⟩)
            | (go_at_call 19; refine (HS.out _).mono ?_; rintro e w' ⟨rfl, hb⟩))
          go_ret
          refine ⟨?_, Below.refl _ _⟩
          rw [quote_bare HB.out, ← HE.out]
          rfl
      · have hsn' : allSeen L = false := by simpa using hsn
        have HB : Hid (bareW L = false) := Lib.hid (by rw [HBW.out, hsn']; rfl)
        clear hsn
        go_wp2_with (first
          | (go_at_call 17; refine (cP _).mono ?_; rintro e w' ⟨rfl, rfl⟩)
          | (go_at_call 18; refine (cI _).mono ?_; rintro e w' ⟨rfl, rfl⟩)
          | (go_at_call 19; refine (HS.out _).mono ?_; rintro e w' ⟨rfl, hb⟩))
        go_ret
        refine ⟨?_, hb⟩
        rw [quote_shown HB.out]
        show Ending.returned (.string (⟨[34].toArray⟩ ++ ⟨X.toArray⟩ ++ ⟨[34].toArray⟩)) = _
        rw [strcat, HX.out]
  · have hnil : L = [] := List.eq_nil_of_length_eq_zero (by rw [← HL.out]; omega)
    have hem : s.toList.isEmpty = true := by rw [HM.out, hnil]; rfl
    have HB : Hid (bareW L = false) := Lib.hid (by rw [hnil]; rfl)
    clear hnil
    go_wp2_with (first
      | (go_at_call 17; refine (cP _).mono ?_; rintro e w' ⟨rfl, rfl⟩)
      | (go_at_call 18; refine (cI _).mono ?_; rintro e w' ⟨rfl, rfl⟩)
      | (go_at_call 19; refine (HS.out _).mono ?_; rintro e w' ⟨rfl, hb⟩))
    go_ret
    refine ⟨?_, hb⟩
    rw [quote_shown HB.out]
    show Ending.returned (.string (⟨[34].toArray⟩ ++ ⟨X.toArray⟩ ++ ⟨[34].toArray⟩)) = _
    rw [strcat, HX.out]

set_option maxRecDepth 1000000 in
set_option maxHeartbeats 1000000 in
theorem rquote_any (s : ByteArray) (hs : s.size ≤ 68719476736) (w : World) :
    Calls Try.prog 13 #[.string s] w fun e w' => e = .returned (.string ⟨(quoteL s.data.toList).toArray⟩) ∧ Below w.heap.size w w' := by
  have HL := Lib.hid (Lib.size_eq s)
  have hX : (showL s.data.toList).length ≤ 4 * s.size := by rw [HL.out]; exact showL_len _
  have HS : Hid (∀ wx : World, Calls Try.prog 21 #[.string s] wx fun e w' => e = .returned (.string ⟨(showL s.data.toList).toArray⟩) ∧ Below wx.heap.size wx w') := Lib.hid fun wx => (rshow_any s (by omega) wx).mono fun _ _ ⟨h, n, hn⟩ => ⟨h, by rw [hn]; exact below_drewN (Below.refl _ _) n⟩
  have cP : ∀ wx, Calls Try.prog 20 #[.string s, .int .i64 0] wx fun e w' => e = .returned (plainV (plainR s.data.toList)) ∧ wx = w' := fun wx => (rplain_any s 0 (by omega) (by omega) wx).mono fun _ _ h => ⟨h.1, h.2.symm⟩
  obtain ⟨L, hL⟩ : ∃ L, L = s.data.toList := ⟨_, rfl⟩
  have HE : Hid (s = ⟨L.toArray⟩) := Lib.hid (by subst hL; exact (Lib.mk_data s).symm)
  have HG : Hid (∀ h : 0 < s.size, L[0]? = some (s[0]'h)) := Lib.hid fun h => (congrArg (fun l : List UInt8 => l[0]?) hL).trans (get0 s h)
  rw [← hL] at cP hX HS HL ⊢
  clear hL
  obtain ⟨X, hXe⟩ : ∃ X, X = showL L := ⟨_, rfl⟩
  rw [← hXe] at hX HS
  have HX := Lib.hid hXe; clear hXe
  go_enter Try.func13, Try.ntmps13
  by_cases h0 : 0 < s.size
  · have hie : L.isEmpty = false := by
      cases L with
      | nil => rw [HL.out] at h0; simp at h0
      | cons _ _ => rfl
    have hg := HG.out h0
    obtain ⟨c, hc⟩ : ∃ c, s[0]'h0 = c := ⟨_, rfl⟩
    rw [hc] at hg
    by_cases h35 : c.toNat = 35
    · have HB : Hid (bareW L = false) := Lib.hid (by
        have : c = 35 := UInt8.toNat_inj.1 h35
        unfold bareW
        rw [hg, this]
        simp)
      clear hg hie cP
      go_wp2_with (first
        | (go_at_call 20; refine (cP _).mono ?_; rintro e w' ⟨rfl, rfl⟩)
        | (go_at_call 21; refine (HS.out _).mono ?_; rintro e w' ⟨rfl, hb⟩))
      go_ret
      refine ⟨?_, hb⟩
      rw [quote_shown HB.out]
      show Ending.returned (.string (⟨[34].toArray⟩ ++ ⟨X.toArray⟩ ++ ⟨[34].toArray⟩)) = _
      rw [strcat, HX.out]
    · have e35 : ((c.toNat : Int) != 35) = true := by simp; omega
      have hc35 : (L[0]? == some 35) = false := by
        rw [hg]
        have : c ≠ 35 := fun e => h35 (by rw [e]; rfl)
        simp [this]
      have hbw : bareW L = (allSeen L && !(hasQ L)) := by
        unfold bareW
        rw [hie, hc35]
        simp
      have HBW := Lib.hid hbw
      clear hg hie hbw
      obtain ⟨p, e, hpe⟩ : ∃ p e, plainR L = (p, e) := ⟨_, _, rfl⟩
      rw [hpe] at cP
      have cP : ∀ wx, Calls Try.prog 20 #[.string s, .int .i64 0] wx fun e' w' => e' = .returned (.tuple #[.string ⟨p.toArray⟩, .int .i64 (e : Int)]) ∧ wx = w' := cP
      by_cases hall : bareW L = true
      · have HB := Lib.hid hall
        rw [HBW.out, Bool.and_eq_true] at hall
        have hq : hasQ L = false := by simpa using hall.2
        have hh := seen_head hall.1
        have h2 : plainR L = (L, 0) := by
          rw [plain_ok (by rw [hh]; exact hq) (by rw [hh]; exact hall.1), hh]
        rw [hpe] at h2
        obtain ⟨rfl, rfl⟩ := Prod.mk.inj h2
        have hbe : (p == s.toList) = true := by
          rw [Lib.toList_data, HE.out]
          simp
        clear hall hq hh h2 hpe
        go_wp2_with (first
          | (go_at_call 20; refine (cP _).mono ?_; rintro e w' ⟨rfl, rfl⟩)
          | (go_at_call 21; refine (HS.out _).mono ?_; rintro e w' ⟨rfl, hb⟩))
        go_ret
        refine ⟨?_, Below.refl _ _⟩
        rw [quote_bare HB.out, ← HE.out]
        rfl
      · have hall' : bareW L = false := by simpa using hall
        have HB := Lib.hid hall'
        have hno : ¬ (e = 0 ∧ p = L) := by
          rintro ⟨he, hpL⟩
          apply hall
          subst he hpL
          rw [HBW.out]
          unfold plainR at hpe
          split at hpe
          · cases hpe
          · rename_i h1
            split at hpe
            · rename_i h2
              have hw : headW p = p := congrArg Prod.fst hpe
              rw [hw] at h1 h2
              rw [h2]
              simpa using h1
            · cases hpe
        clear hall hall' hpe
        by_cases he : e = 0
        · subst he
          have hpL : p ≠ L := fun h => hno ⟨rfl, h⟩
          have hbe : (p == s.toList) = false := by
            rw [Lib.toList_data, HE.out]
            simpa using hpL
          clear hno hpL
          go_wp2_with (first
            | (go_at_call 20; refine (cP _).mono ?_; rintro e w' ⟨rfl, rfl⟩)
            | (go_at_call 21; refine (HS.out _).mono ?_; rintro e w' ⟨rfl, hb⟩))
          go_ret
          refine ⟨?_, hb⟩
          rw [quote_shown HB.out]
          show Ending.returned (.string (⟨[34].toArray⟩ ++ ⟨X.toArray⟩ ++ ⟨[34].toArray⟩)) = _
          rw [strcat, HX.out]
        · have he' : ((e : Int) == 0) = false := by simp; omega
          clear hno
          go_wp2_with (first
            | (go_at_call 20; refine (cP _).mono ?_; rintro e w' ⟨rfl, rfl⟩)
            | (go_at_call 21; refine (HS.out _).mono ?_; rintro e w' ⟨rfl, hb⟩))
          go_ret
          refine ⟨?_, hb⟩
          rw [quote_shown HB.out]
          show Ending.returned (.string (⟨[34].toArray⟩ ++ ⟨X.toArray⟩ ++ ⟨[34].toArray⟩)) = _
          rw [strcat, HX.out]
  · have hnil : L = [] := List.eq_nil_of_length_eq_zero (by rw [← HL.out]; omega)
    have HB : Hid (bareW L = false) := Lib.hid (by rw [hnil]; rfl)
    have hz : s.size = 0 := by omega
    clear hnil cP
    go_wp2_with (first
      | (go_at_call 20; refine (cP _).mono ?_; rintro e w' ⟨rfl, rfl⟩)
      | (go_at_call 21; refine (HS.out _).mono ?_; rintro e w' ⟨rfl, hb⟩))
    go_ret
    refine ⟨?_, hb⟩
    rw [quote_shown HB.out]
    show Ending.returned (.string (⟨[34].toArray⟩ ++ ⟨X.toArray⟩ ++ ⟨[34].toArray⟩)) = _
    rw [strcat, HX.out]
end Go.Proofs.Ytmlklbbkkggpkaa.show_
