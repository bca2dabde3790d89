/- Contract: script.Words. -/
import Derived.Test.YtmlklbbkkggpkaaDoorWordI
namespace Go.Proofs.YtmlklbbkkggpkaaDoor.show_
open Go.RowKit kit
set_option linter.unusedVariables false

def strCells (l : List (List UInt8)) : List Value := l.map fun t => Value.string ⟨t.toArray⟩
theorem strCells_snoc (l : List (List UInt8)) (t : List UInt8) : strCells l ++ [Value.string ⟨t.toArray⟩] = strCells (l ++ [t]) := by simp [strCells]
def strLen : Value → Nat
  | .string s => s.size
  | _ => 0
theorem info9 : (Tryd.prog.info? 9).map (fun i => (i.zero, i.size, i.bytes)) = some (some (Value.string ⟨#[]⟩), 1, 16) := by kernel_rfl
theorem one_str (t : ByteArray) : ∀ u ∈ [Value.string t], u.oneCell' = true := by
  intro u hu
  simp at hu
  subst hu
  rfl
theorem str_new (w : World) (a : Value) : ∀ j u, [a][j]? = some u → (w.alloc (.cells #[a] 9)).cell? ((⟨w.heap.size, 0, none⟩ : Addr).add j) = some u := by
  intro j u hj
  match j, hj with
  | 0, hj => simp at hj; subst hj; simp [Addr.add]
theorem strip_trim (L : List UInt8) : Lib.trimLeftS L [32, 9] = strip L := by
  unfold Lib.trimLeftS strip
  congr 1
  funext b
  rw [nb_iff]
  simp
/-- Words gathered: their slice, and the error. -/
def WordsPost (w w' : World) (e : Ending) (p : List (List UInt8) × Nat) : Prop :=
  ∃ v, e = .returned (.tuple #[v, .int .i64 p.2]) ∧ w'.ownsRow w.heap.size 9 1 v p.1.length (strCells p.1) ∧ Below w.heap.size w w'
theorem after_err {acc : List (List UInt8)} {p : List (List UInt8) × Nat} {n : Nat} (h : p.2 = n) (hn : n ≠ 0) : after_ acc p = ([], n) := by
  unfold after_
  rw [if_pos (by omega), h]
theorem after_ok {acc : List (List UInt8)} : after_ acc ([], 0) = (acc, 0) := by
  unfold after_
  rw [if_neg (by decide)]
  simp
theorem after_nil {p : List (List UInt8) × Nat} (h : p.2 ≠ 0 → p.1 = []) : after_ [] p = p := by
  obtain ⟨a, b⟩ := p
  unfold after_
  by_cases hb : b = 0
  · subst hb
    rw [if_neg (by simp)]
    simp
  · rw [if_pos hb]
    have := h hb
    simp only at this
    subst this
    rfl
theorem wordsF_err : ∀ (f : Nat) (L : List UInt8), (wordsF f L).2 ≠ 0 → (wordsF f L).1 = []
  | 0, L, h => rfl
  | f + 1, L, h => by
    unfold wordsF at h ⊢
    by_cases h0 : strip L = [] ∨ (strip L).head? = some 35
    · rw [if_pos h0]
    · rw [if_neg h0] at h ⊢
      by_cases h1 : (stepW (strip L)).2.2 ≠ 0
      · rw [if_pos h1]
      · rw [if_neg h1] at h ⊢
        by_cases h2 : (wordsF f (stepW (strip L)).2.1).2 ≠ 0
        · rw [if_pos h2]
        · rw [if_neg h2] at h
          exact absurd rfl h
theorem own9_below {w w' : World} {B n : Nat} {v : Value} {xs : List Value} (h : w.ownsRow B 9 1 v n xs) (hb : Below w.heap.size w w') (o : Obj) : (w'.alloc o).ownsRow B 9 1 v n xs := by
  refine World.ownsRow.alloc (w := w') ⟨h.1, h.2.imp id ?_⟩ _
  rintro ⟨g, cap, cur, hv, hB, hg, rest⟩
  exact ⟨g, cap, cur, hv, hB, (hb.block g (lt_of_block hg)).trans hg, rest⟩
/-- What holds at the head of a round. -/
structure WoRel (w wr : World) (n : Nat) (ans : List (List UInt8) × Nat) (Lk : List UInt8) (acc : List (List UInt8)) (v : Value) : Prop where
  own : wr.ownsRow w.heap.size 9 1 v acc.length (strCells acc)
  bel : Below w.heap.size w wr
  ans_ : ans = after_ acc (wordsL Lk)
  len : acc.length + Lk.length ≤ n
theorem WoRel.err {w wr w' : World} {n m : Nat} {ans : List (List UInt8) × Nat} {Lk : List UInt8} {acc : List (List UInt8)} {v : Value} (h : WoRel w wr n ans Lk acc v) (hb : Below wr.heap.size wr w') (he : (wordsL Lk).2 = m) (hm : m ≠ 0) :
    WordsPost w w' (.returned (.tuple #[.slice none 0 0, .int .i64 m])) ans := by
  rw [h.ans_, after_err he hm]
  exact ⟨_, rfl, World.ownsRow_nil _ _ _ _, h.bel.trans (hb.mono h.bel.size)⟩
theorem WoRel.done {w wr w' : World} {n : Nat} {ans : List (List UInt8) × Nat} {Lk : List UInt8} {acc : List (List UInt8)} {v : Value} (h : WoRel w wr n ans Lk acc v) (hb : Below wr.heap.size wr w') (he : wordsL Lk = ([], 0)) :
    WordsPost w w' (.returned (.tuple #[v, .int .i64 0])) ans := by
  rw [h.ans_, he, after_ok]
  refine ⟨v, rfl, ?_, h.bel.trans (hb.mono h.bel.size)⟩
  refine ⟨h.own.1, h.own.2.imp id ?_⟩
  rintro ⟨g, cap, cur, hv, hB, hg, rest⟩
  exact ⟨g, cap, cur, hv, hB, (hb.block g (lt_of_block hg)).trans hg, rest⟩
theorem WoRel.next {w wr w1 w2 : World} {n : Nat} {ans : List (List UInt8) × Nat} {Lk : List UInt8} {acc : List (List UInt8)} {v v2 : Value} {o : Obj} (h : WoRel w wr n ans Lk acc v) (hb : Below wr.heap.size wr w1) (h0 : ¬ (strip Lk = [] ∨ (strip Lk).head? = some 35)) (hs : (stepW (strip Lk)).2.2 = 0)
    (ho : w2.ownsRow w.heap.size 9 1 v2 (acc.length + 1) (strCells acc ++ [.string ⟨(stepW (strip Lk)).1.toArray⟩])) (hg : (w1.alloc o).grownBy w2 v.ownBlock) : WoRel w w2 n ans (stepW (strip Lk)).2.1 (acc ++ [(stepW (strip Lk)).1]) v2 ∧ (stepW (strip Lk)).2.1.length < Lk.length := by
  obtain ⟨e, hl⟩ := wordsL_step Lk h0 hs acc
  rw [strCells_snoc] at ho
  have hbw : Below w.heap.size w w1 := h.bel.trans (hb.mono h.bel.size)
  refine ⟨⟨by rw [List.length_append]; exact ho, ?_, h.ans_.trans e, by rw [List.length_append, List.length_singleton]; have := h.len; omega⟩, hl⟩
  exact Below.grown (hbw.alloc hbw.size o) hg (by simp; have := hbw.size; omega) (fun j hj => (h.own.lt j hj).1)

theorem WoRel.next' {w wr w1 w2 : World} {n : Nat} {ans : List (List UInt8) × Nat} {Lk sw sr : List UInt8} {acc : List (List UInt8)} {v v2 : Value} {o : Obj} (h : WoRel w wr n ans Lk acc v) (hb : Below wr.heap.size wr w1) (h0 : ¬ (strip Lk = [] ∨ (strip Lk).head? = some 35)) (hst : stepW (strip Lk) = (sw, sr, 0))
    (ho : w2.ownsRow w.heap.size 9 1 v2 (acc.length + 1) (strCells acc ++ [.string ⟨sw.toArray⟩])) (hg : (w1.alloc o).grownBy w2 v.ownBlock) : WoRel w w2 n ans sr (acc ++ [sw]) v2 ∧ sr.length < Lk.length := by
  have h1 := h.next (v2 := v2) hb h0 (by rw [hst]) (by rw [hst]; exact ho) hg
  rw [hst] at h1
  exact h1
theorem WoRel.err' {w wr w' : World} {n m : Nat} {ans : List (List UInt8) × Nat} {Lk sw sr : List UInt8} {acc : List (List UInt8)} {v : Value} (h : WoRel w wr n ans Lk acc v) (hb : Below wr.heap.size wr w') (h0 : ¬ (strip Lk = [] ∨ (strip Lk).head? = some 35)) (hst : stepW (strip Lk) = (sw, sr, m)) (hm : m ≠ 0) :
    WordsPost w w' (.returned (.tuple #[.slice none 0 0, .int .i64 m])) ans := by
  refine h.err hb ?_ hm
  rw [wordsL_err Lk h0 (by rw [hst]; exact hm), hst]

set_option maxRecDepth 1000000 in
set_option maxHeartbeats 2000000 in
theorem words_any (s : ByteArray) (hs : s.size ≤ 4294967280) (w : World) (hT : Lib.Utf8Tabs 0 1 w) :
    Calls Tryd.prog 5 #[.string s] w fun e w' => WordsPost w w' e (wordsL s.data.toList) := by
  have HL := Lib.hid (Lib.size_eq s)
  have HT := Lib.hid hT
  clear hT
  obtain ⟨i0, hi, hz0, hz1, hz2⟩ := info_parts info9
  have HI := Lib.hid hi; clear hi
  have HZ0 := Lib.hid hz0; clear hz0
  have HZ1 := Lib.hid hz1; clear hz1
  have HZ2 := Lib.hid hz2; clear hz2
  obtain ⟨ans, hans⟩ : ∃ ans, wordsL s.data.toList = ans := ⟨_, rfl⟩
  rw [hans]
  have HA := Lib.hid hans; clear hans
  go_enter Tryd.func5, Tryd.ntmps5
  go_wp2
  go_loopw [0, 4] (fun ln v wr => ∃ (Lk : List UInt8) (acc : List (List UInt8)), ln = .string ⟨Lk.toArray⟩ ∧ WoRel w wr s.size ans Lk acc v) (fun ln _ _ => strLen ln)
  case atStart =>
    refine ⟨s.data.toList, [], rfl, World.ownsRow_nil _ _ _ _, Below.refl _ _, ?_, by rw [← HL.out]; exact Nat.le_of_eq (Nat.zero_add _)⟩
    rw [HA.out]
    exact (after_nil (fun h => by rw [← HA.out] at h ⊢; exact wordsF_err _ _ h)).symm
  case round =>
    obtain ⟨Lk, acc, rfl, hrel⟩ := hrel
    have HR := Lib.hid hrel
    have hln := hrel.len
    have hbs := hrel.bel.size
    obtain ⟨T, hTe⟩ : ∃ T, strip Lk = T := ⟨_, rfl⟩
    have hsl := strip_len Lk
    have HTe := Lib.hid hTe
    have cT : Calls Tryd.prog 11 #[.string ⟨Lk.toArray⟩, .string ⟨#[32, 9]⟩] wr fun e w' => e = .returned (.string ⟨T.toArray⟩) ∧ Hid (Below wr.heap.size wr w') := (Tryd.strings_TrimLeft_laid ⟨Lk.toArray⟩ bl2 wr (by decide) (fun j b hb => by
      have : j = 0 ∨ j = 1 := by
        have := (List.getElem?_eq_some_iff.1 hb).1
        rw [bl_data] at this
        simp at this
        omega
      rw [bl_data] at hb
      rcases this with rfl | rfl
      · injection hb with hb
        subst hb
        decide
      · injection hb with hb
        subst hb
        decide)).mono fun _ _ h => ⟨by rw [h.1, bl_data]; show _ = Ending.returned (.string ⟨T.toArray⟩); rw [← hTe, ← strip_trim], Lib.hid h.2⟩
    clear hrel hTe
    match T, HTe, cT, hsl with
    | [], HTe, cT, hsl =>
      go_wp2_with (go_at_call 11; refine cT.mono ?_; rintro e w1 ⟨rfl, hb⟩)
      go_ret2
      exact HR.out.done hb.out (wordsL_end Lk (Or.inl HTe.out))
    | b :: T2, HTe, cT, hsl =>
      obtain ⟨X, hX⟩ : ∃ X : ByteArray, ⟨(b :: T2).toArray⟩ = X := ⟨_, rfl⟩
      rw [hX] at cT
      have hXd : X.data.toList = b :: T2 := by rw [← hX]
      have hXs : X.size = T2.length + 1 := by rw [Lib.size_eq, hXd]; rfl
      have hXl : X.toList = b :: T2 := by rw [Lib.toList_data, hXd]
      have hz0 : 0 < X.size := by omega
      have hzi : (0 : Int) < (X.size : Int) := by omega
      have hX0 : X[0]'hz0 = b := by
        have := Lib.data_getElem? X 0 hz0
        rw [hXd] at this
        exact (Option.some.inj this).symm
      obtain ⟨c, hc⟩ : ∃ c, b.toNat = c := ⟨_, rfl⟩
      have hXn : X.size ≤ 4294967280 := by
        rw [HTe.out, List.length_cons] at hsl
        omega
      have HXD := Lib.hid hXd
      clear hX hXd hXs hsl
      by_cases h35 : c = 35
      · subst h35
        have hb35 : b = 35 := UInt8.toNat_inj.1 (by rw [hc]; rfl)
        go_wp2_with (go_at_call 11; refine cT.mono ?_; rintro e w1 ⟨rfl, hb⟩)
        go_ret2
        exact HR.out.done hb.out (wordsL_end Lk (Or.inr (by rw [HTe.out, hb35]; rfl)))
      · have e35 : ((c : Int) == 35) = false := by simp; omega
        have hns : Hid (¬ (strip Lk = [] ∨ (strip Lk).head? = some 35)) := Lib.hid (by
          rw [HTe.out]
          rintro (h | h)
          · cases h
          · injection h with h
            exact h35 (by rw [← hc, h]; rfl))
        have hsw : Hid (stepW (strip Lk) = if b = 34 then quotedW T2 else bareW_ (b :: T2)) := Lib.hid (by
          rw [HTe.out]
          unfold stepW
          by_cases h : b = 34
          · rw [if_pos h, h]
            rfl
          · rw [if_neg h, if_neg (by simpa using h)])
        clear h35
        obtain ⟨st, hst⟩ : ∃ st, stepW (strip Lk) = st := ⟨_, rfl⟩
        have HST := Lib.hid hst
        rw [hst] at hsw
        clear hst
        obtain ⟨stw, str, ste⟩ := st
        have hBA : w.heap.size ≤ w.heap.size := Nat.le_refl _
        have hn1 : acc.length + 1 ≤ maxLen := by unfold maxLen; omega
        have hn2 : (acc.length + 1) * 16 ≤ 140737488355328 := by omega
        by_cases h34 : c = 34
        · subst h34
          have hb34 : b = 34 := UInt8.toNat_inj.1 (by rw [hc]; rfl)
          have hse := hsw.out
          rw [if_pos hb34] at hse
          have cQ : ∀ wx, Below w.heap.size w wx → Calls Tryd.prog 13 #[.string X] wx fun e w' => e = .returned (.tuple #[.string ⟨stw.toArray⟩, .string ⟨str.toArray⟩, .int .i64 ste]) ∧ Hid (Below wx.heap.size wx w') := fun wx hwx => (quoted_any X hz0 (by omega) wx (Utf8Tabs_below HT.out hwx)).mono fun _ _ h => ⟨by
            rw [h.1, HXD.out]
            show Ending.returned (stepV (quotedW T2)) = _
            rw [← hse]
            rfl, Lib.hid h.2⟩
          clear hse hb34
          by_cases he : ste = 0
          · subst he
            go_wp2_with (first
              | (go_at_call 11; refine cT.mono ?_; rintro e w1 ⟨rfl, hb⟩)
              | (go_at_call 13; refine (cQ _ (HR.out.bel.trans (hb.out.mono HR.out.bel.size))).mono ?_; rintro e w2 ⟨rfl, hb2⟩)
              | (at_builtin; refine wpList_append_own _ rfl _ _ 22 rfl w.heap.size 9 i0 (.string ⟨#[]⟩) 1 16 Tryd.underlying22 HI.out HZ0.out HZ1.out HZ2.out rfl (by decide) _ _ _ rfl (own9_below HR.out.own (hb.out.trans (hb2.out.mono hb.out.size)) _) ⟨w2.heap.size, 0, none⟩ 1 1 [.string ⟨stw.toArray⟩] rfl rfl (str_new _ _) (one_str _) hn1 hn2 ?_ ?_; (focus (simp; have := hb.out.size; have := hb2.out.size; omega)); intro v' w3 ho hg _))
            obtain ⟨nx1, nx2⟩ := HR.out.next' (hb.out.trans (hb2.out.mono hb.out.size)) hns.out HST.out ho hg
            go_roundw
            case rel => exact ⟨str, _, rfl, nx1⟩
            case measure => exact nx2
          · have hne : ((ste : Int) != 0) = true := by simp; omega
            go_wp2_with (first
              | (go_at_call 11; refine cT.mono ?_; rintro e w1 ⟨rfl, hb⟩)
              | (go_at_call 13; refine (cQ _ (HR.out.bel.trans (hb.out.mono HR.out.bel.size))).mono ?_; rintro e w2 ⟨rfl, hb2⟩))
            go_ret2
            exact HR.out.err' (hb.out.trans (hb2.out.mono hb.out.size)) hns.out HST.out he
        · have e34 : ((c : Int) == 34) = false := by simp; omega
          have hb34 : b ≠ 34 := fun e => h34 (by rw [← hc, e]; rfl)
          have hse := hsw.out
          rw [if_neg hb34] at hse
          have cB : ∀ wx, Calls Tryd.prog 12 #[.string X] wx fun e w' => e = .returned (.tuple #[.string ⟨stw.toArray⟩, .string ⟨str.toArray⟩, .int .i64 ste]) ∧ Hid (Below wx.heap.size wx w') := fun wx => (bare_any X (by omega) wx).mono fun _ _ h => ⟨by rw [h.1, HXD.out, ← hse]; rfl, Lib.hid h.2⟩
          clear hse hb34 h34
          by_cases he : ste = 0
          · subst he
            go_wp2_with (first
              | (go_at_call 11; refine cT.mono ?_; rintro e w1 ⟨rfl, hb⟩)
              | (go_at_call 12; refine (cB _).mono ?_; rintro e w2 ⟨rfl, hb2⟩)
              | (at_builtin; refine wpList_append_own _ rfl _ _ 22 rfl w.heap.size 9 i0 (.string ⟨#[]⟩) 1 16 Tryd.underlying22 HI.out HZ0.out HZ1.out HZ2.out rfl (by decide) _ _ _ rfl (own9_below HR.out.own (hb.out.trans (hb2.out.mono hb.out.size)) _) ⟨w2.heap.size, 0, none⟩ 1 1 [.string ⟨stw.toArray⟩] rfl rfl (str_new _ _) (one_str _) hn1 hn2 ?_ ?_; (focus (simp; have := hb.out.size; have := hb2.out.size; omega)); intro v' w3 ho hg _))
            obtain ⟨nx1, nx2⟩ := HR.out.next' (hb.out.trans (hb2.out.mono hb.out.size)) hns.out HST.out ho hg
            go_roundw
            case rel => exact ⟨str, _, rfl, nx1⟩
            case measure => exact nx2
          · have hne : ((ste : Int) != 0) = true := by simp; omega
            go_wp2_with (first
              | (go_at_call 11; refine cT.mono ?_; rintro e w1 ⟨rfl, hb⟩)
              | (go_at_call 12; refine (cB _).mono ?_; rintro e w2 ⟨rfl, hb2⟩))
            go_ret2
            exact HR.out.err' (hb.out.trans (hb2.out.mono hb.out.size)) hns.out HST.out he
end Go.Proofs.YtmlklbbkkggpkaaDoor.show_
