/- Contracts: sameTexts at two slices that hold the same texts; the law. -/
import Derived.Test.YtmlklbbkkggpkaaDoorWordK
namespace Go.Proofs.YtmlklbbkkggpkaaDoor.show_
open Go.RowKit kit
set_option linter.unusedVariables false

set_option maxRecDepth 100000 in
theorem same_nil (A1 A2 : Option Addr) (c1 c2 : Nat) (w : World) :
    Calls Tryd.prog 6 #[.slice A1 0 c1, .slice A2 0 c2] w fun e w' => e = .returned (.bool true) ∧ Below w.heap.size w w' := by
  go_enter Tryd.func6, Tryd.ntmps6
  go_wp2
  go_loop [4, 5] (fun _ i => i = .int .i64 0) (fun _ _ => 0)
  case atStart => rfl
  case round =>
    obtain rfl := hrel
    go_wp2
    go_ret
    exact ⟨rfl, Below.refl _ _⟩

set_option maxRecDepth 100000 in
set_option maxHeartbeats 1000000 in
theorem same_some (g1 g2 c1 c2 : Nat) (xs : List (List UInt8)) (hl : xs.length ≤ 4294967296) (w : World) (h1 : ∀ (k : Nat) (t : List UInt8), xs[k]? = some t → w.cell? ⟨g1, k, none⟩ = some (.string ⟨t.toArray⟩)) (h2 : ∀ (k : Nat) (t : List UInt8), xs[k]? = some t → w.cell? ⟨g2, k, none⟩ = some (.string ⟨t.toArray⟩)) :
    Calls Tryd.prog 6 #[.slice (some ⟨g1, 0, none⟩) xs.length c1, .slice (some ⟨g2, 0, none⟩) xs.length c2] w fun e w' => e = .returned (.bool true) ∧ Below w.heap.size w w' := by
  have H1 := Lib.hid h1
  have H2 := Lib.hid h2
  clear h1 h2
  go_enter Tryd.func6, Tryd.ntmps6
  go_wp2
  go_loopw [4, 5] (fun _ i wr => ∃ k : Nat, k ≤ xs.length ∧ i = .int .i64 (k : Int) ∧ Below w.heap.size w wr) (fun _ i _ => xs.length - (intOf i).toNat)
  case atStart => exact ⟨0, by omega, rfl, Below.refl _ _⟩
  case round =>
    obtain ⟨k, hk, rfl, hb⟩ := hrel
    have HB := Lib.hid hb; clear hb
    by_cases hlt : k < xs.length
    · obtain ⟨t, ht⟩ : ∃ t, xs[k]? = some t := ⟨_, List.getElem?_eq_getElem hlt⟩
      have g1c : wr.cell? ⟨g1, k, none⟩ = some (.string ⟨t.toArray⟩) := cell_later HB.out (H1.out k t ht)
      have g2c : wr.cell? ⟨g2, k, none⟩ = some (.string ⟨t.toArray⟩) := cell_later HB.out (H2.out k t ht)
      have hi1 : (k : Int) < (xs.length : Int) := by omega
      have hi0 : (0 : Int) ≤ (k : Int) := by omega
      clear ht
      generalize xs.length = n at *
      go_wp2
      go_quiet (fail)
      go_wp2
      go_roundw
      case rel => exact ⟨k + 1, by omega, by go_num, below_drewN HB.out _⟩
      case measure => simp [intOf]; omega
    · go_wp2
      go_ret
      exact ⟨rfl, HB.out⟩

theorem same_any (v1 v2 : Value) (xs : List (List UInt8)) (B1 B2 : Nat) (hl : xs.length ≤ 4294967296) (w : World) (h1 : w.ownsRow B1 9 1 v1 xs.length (strCells xs)) (h2 : w.ownsRow B2 9 1 v2 xs.length (strCells xs)) :
    Calls Tryd.prog 6 #[v1, v2] w fun e w' => e = .returned (.bool true) ∧ Below w.heap.size w w' := by
  have hcell : ∀ (B : Nat) (v : Value) (g : Nat), w.ownsRow B 9 1 v xs.length (strCells xs) → v.ownBlock = some g → ∀ (k : Nat) (t : List UInt8), xs[k]? = some t → w.cell? ⟨g, k, none⟩ = some (.string ⟨t.toArray⟩) := fun B v g h hg k t ht => by
    have := h.cells hg k (.string ⟨t.toArray⟩) (by simp [strCells, ht])
    have e : (⟨g, 0, none⟩ : Addr).add k = ⟨g, k, none⟩ := by
      unfold Addr.add
      split
      · rename_i h0; rw [h0]
      · simp
    rw [e] at this
    exact this
  have f1 := hcell B1 v1
  have f2 := hcell B2 v2
  rcases h1.2 with ⟨rfl, hn⟩ | ⟨g1, cap1, cur1, rfl, _⟩
  · rcases h2.2 with ⟨rfl, _⟩ | ⟨g2, cap2, cur2, rfl, _⟩
    · exact same_nil _ _ _ _ w
    · rw [hn]
      exact same_nil _ _ _ _ w
  · rcases h2.2 with ⟨rfl, hn⟩ | ⟨g2, cap2, cur2, rfl, _⟩
    · rw [hn]
      exact same_nil _ _ _ _ w
    · exact same_some g1 g2 cap1 cap2 xs hl w (f1 g1 h1 rfl) (f2 g2 h2 rfl)

theorem wordsF_len : ∀ (f : Nat) (L : List UInt8), (wordsF f L).1.length ≤ f
  | 0, L => Nat.le_refl _
  | f + 1, L => by
    unfold wordsF
    repeat' split
    · simp
    · simp
    · simp
    · simp only [List.length_cons]
      have := wordsF_len f (stepW (strip L)).2.1
      omega

theorem own9_keep {w w' : World} {B n : Nat} {v : Value} {xs : List Value} (h : w.ownsRow B 9 1 v n xs) (hb : Below w.heap.size w w') : w'.ownsRow B 9 1 v n xs := by
  refine ⟨h.1, h.2.imp id ?_⟩
  rintro ⟨g, cap, cur, hv, hB, hg, rest⟩
  exact ⟨g, cap, cur, hv, hB, (hb.block g (lt_of_block hg)).trans hg, rest⟩
set_option maxRecDepth 100000 in
theorem scriptwords_any (s : ByteArray) (hs : s.size ≤ 4294967280) (w : World) (hT : Lib.Utf8Tabs 0 1 w) :
    Calls Tryd.prog 3 #[.string s] w fun e w' => e = .returned (.bool true) ∧ Below w.heap.size w w' := by
  have HL := Lib.hid (Lib.size_eq s)
  have hll : (wordsL s.data.toList).1.length ≤ 4294967296 := by
    have := wordsF_len (s.data.toList.length + 1) s.data.toList
    unfold wordsL
    rw [← HL.out] at this ⊢
    omega
  have HT := Lib.hid hT
  clear hT
  have cR : Calls Tryd.prog 4 #[.string s] w fun e w' => ∃ v, e = .returned (.tuple #[v, .int .i64 (wordsL s.data.toList).2]) ∧ Hid (w'.ownsRow w.heap.size 9 1 v (wordsL s.data.toList).1.length (strCells (wordsL s.data.toList).1) ∧ Below w.heap.size w w') := (rwords_any s hs w).mono fun _ _ ⟨v, h1, h2⟩ => ⟨v, h1, Lib.hid h2⟩
  have cW : ∀ wx, Below w.heap.size w wx → Calls Tryd.prog 5 #[.string s] wx fun e w' => ∃ v, e = .returned (.tuple #[v, .int .i64 (wordsL s.data.toList).2]) ∧ Hid (w'.ownsRow wx.heap.size 9 1 v (wordsL s.data.toList).1.length (strCells (wordsL s.data.toList).1) ∧ Below wx.heap.size wx w') := fun wx hb => (words_any s hs wx (Utf8Tabs_below HT.out hb)).mono fun _ _ ⟨v, h1, h2⟩ => ⟨v, h1, Lib.hid h2⟩
  generalize wordsL s.data.toList = p at *
  have HLL := Lib.hid hll
  clear hll
  go_enter Tryd.func3, Tryd.ntmps3
  go_wp2_with (first
    | (go_at_call 4; refine cR.mono ?_; rintro e w1 ⟨v1, rfl, X1⟩)
    | (go_at_call 5; refine (cW _ X1.out.2).mono ?_; rintro e w2 ⟨v2, rfl, X2⟩)
    | (go_at_call 6; refine (same_any v2 v1 p.1 _ _ HLL.out _ X2.out.1 (own9_keep X1.out.1 X2.out.2)).mono ?_; rintro e w3 ⟨rfl, h3⟩))
  go_ret
  exact ⟨rfl, X1.out.2.trans ((X2.out.2.mono X1.out.2.size).trans (h3.mono (Nat.le_trans X1.out.2.size X2.out.2.size)))⟩
end Go.Proofs.YtmlklbbkkggpkaaDoor.show_
