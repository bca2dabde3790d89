/- Contract: wire.Unshow. -/
import Derived.Test.YtmlklbbkkggpkaaDoorWordF
namespace Go.Proofs.YtmlklbbkkggpkaaDoor.show_
open Go.RowKit kit
set_option linter.unusedVariables false

theorem unP_bad {T : List UInt8} (h : valid_ T = false) : unP T = none := by unfold unP; rw [h]; rfl
theorem unP_none {T : List UInt8} (h : valid_ T = true) (hk : unescL encR (runesL T) = none) : unP T = none := by unfold unP; rw [if_pos h, hk]; rfl
theorem unP_some {T K : List UInt8} (h : valid_ T = true) (hk : unescL encR (runesL T) = some K) : unP T = if showL K = T then some K else none := by unfold unP; rw [if_pos h, hk]; rfl
theorem runes_conv (s : ByteArray) (hs : s.size ≤ 17179869184) : ∃ (gc : World → Nat) (CC : World → Array Value), (∀ wx : World, (convert 9 58 (.string s)).run Tryd.prog wx = .ok (.slice (some ⟨wx.heap.size, 0, none⟩) (runesL s.data.toList).length (gc wx)) (wx.drew.alloc (.cells (CC wx) 21)))
    ∧ (∀ wx (j r : Nat), (runesL s.data.toList)[j]? = some r → (CC wx)[j]? = some (.int .i32 (r : Int))) ∧ ∀ wx, (runesL s.data.toList).length ≤ gc wx := by
  have hl := runesL_len s.data.toList
  rw [← Lib.size_eq] at hl
  have hsz : (Conv.runesFrom s s.size 0 #[]).size = (runesL s.data.toList).length := by
    rw [runes_all]
    simp [runeCells_]
  refine ⟨fun wx => grownCap wx (runesL s.data.toList).length 0 21, fun wx => (runeCells_ (runesL s.data.toList)).toArray ++ Array.replicate (grownCap wx (runesL s.data.toList).length 0 21 - (runesL s.data.toList).length) (.int .i32 0), fun wx => ?_, fun wx j r h => ?_, fun wx => ?_⟩
  · have h := run_runes_of_string (P := Tryd.prog) wx 9 58 21 s Tryd.underlying9 Tryd.underlying58 Tryd.underlying21 (by rw [hsz]; omega)
    rw [hsz, runes_all] at h
    exact h
  · rw [Array.getElem?_append_left (by
      have := (List.getElem?_eq_some_iff.1 h).1
      simpa [runeCells_] using this)]
    simp [runeCells_, h]
  · exact grownCap_ge wx _ 0 21

theorem app_fin {w w1 : World} {kb B : Nat} {v v1 : Value} {acc : List UInt8} {o : Obj} {r : Nat} (hk : Bk w kb 50 #[v]) (hkB : kb < B) (hB : B ≤ w.heap.size) (ho : w.ownsRow B 5 1 v acc.length (Lib.byteCells acc))
    (ho1 : w1.ownsRow B 5 1 v1 (acc.length + (Lib.runeCells (r : Int)).length) (Lib.byteCells acc ++ Lib.runeCells (r : Int))) (hg : (w.drew.alloc o).grownBy w1 v.ownBlock) :
    EscPost w (w1.setCell ⟨kb, 0, none⟩ v1) kb B (acc ++ encR r) ∧ w1.cell? ⟨kb, 0, none⟩ = some v ∧ w1.frozen? ⟨kb, 0, none⟩ = false := by
  have hne : some kb ≠ v.ownBlock := fun e => by have := (ho.lt kb e.symm).1; omega
  have hk1 : Bk w1 kb 50 #[v] := Bk.grown (w := w.drew.alloc o) (hk.drew.alloc o) hg hne
  have hc : Lib.byteCells acc ++ Lib.runeCells (r : Int) = Lib.byteCells (acc ++ encR r) := by rw [cells_app, ← Lib.byteCells_encodeRune]; rfl
  have hl : acc.length + (Lib.runeCells (r : Int)).length = (acc ++ encR r).length := by rw [List.length_append, Lib.runeCells_length]; rfl
  rw [hc, hl] at ho1
  have hbel : Below kb w w1 := Below.grown (Below.alloc (Below.drew (Below.refl kb w)) (by show kb ≤ w.heap.size; omega) o) hg (by simp; omega) (fun j hj => by have := (ho.lt j hj).1; omega)
  refine ⟨⟨v1, hk1.put 0 v1, ?_, fun c hc1 hc2 => ?_, hbel.setCell (by simp) _⟩, hk1.cell 0, hk1.free 0⟩
  · exact ownsRow_setCell_below ho1 (a := ⟨kb, 0, none⟩) (by exact hkB) v1
  · have h1 : (w1.setCell ⟨kb, 0, none⟩ v1).heap[c]? = w1.heap[c]? := Below.heap_setCell w1 _ v1 c hc2
    have h2 : w1.heap[c]? = (w.drew.alloc o).heap[c]? := hg.block c (by simp; omega) (fun e => by have := (ho.lt c e.symm).1; omega)
    have h3 : (w.drew.alloc o).heap[c]? = w.heap[c]? := Below.heap_alloc w.drew o c (by show c < w.heap.size; omega)
    exact h1.trans (h2.trans h3)
theorem own_below {w w' : World} {B n : Nat} {v : Value} {xs : List Value} (h : w.ownsRow B 5 1 v n xs) (hb : Below w.heap.size w w') : w'.ownsRow B 5 1 v n xs := by
  refine ⟨h.1, h.2.imp id ?_⟩
  rintro ⟨g, cap, cur, hv, hB, hg, rest⟩
  exact ⟨g, cap, cur, hv, hB, (hb.block g (lt_of_block hg)).trans hg, rest⟩
/-- What holds at the head of a round. -/
structure UnRel (w w1 wr : World) (C : Array Value) (ans : Option (List UInt8)) (R : List Nat) (k : Nat) (acc : List UInt8) (v : Value) : Prop where
  key : Bk wr w1.heap.size 50 #[v]
  own : wr.ownsRow (w1.heap.size + 2) 5 1 v acc.length (Lib.byteCells acc)
  run : Bk wr (w1.heap.size + 1) 21 C
  bel : Below w.heap.size w wr
  ans_ : ans = (unescL encR (R.drop k)).map (acc ++ ·)
  len : acc.length ≤ 4 * k
theorem UnRel.next {w w1 wr w' : World} {C : Array Value} {ans : Option (List UInt8)} {R : List Nat} {k k' : Nat} {acc x : List UInt8} {v : Value} (h : UnRel w w1 wr C ans R k acc v) (hw : w.heap.size ≤ w1.heap.size)
    (hp : EscPost wr w' w1.heap.size (w1.heap.size + 2) (acc ++ x)) (ha : unescL encR (R.drop k) = (unescL encR (R.drop k')).map (x ++ ·)) (hx : x.length ≤ 4) (hk : k < k') : ∃ v', UnRel w w1 w' C ans R k' (acc ++ x) v' := by
  obtain ⟨v', h1, h2, h3, h4⟩ := hp
  exact ⟨v', h1, h2, (h3 _ (by omega) (by omega)).trans h.run, h.bel.trans (h4.mono hw), key_map h.ans_ ha, by have := h.len; rw [List.length_append]; omega⟩

set_option maxRecDepth 1000000 in
set_option maxHeartbeats 1000000 in
theorem wunshow_any (s : ByteArray) (hs : s.size ≤ 17179869184) (w : World) (hT : Lib.Utf8Tabs 0 1 w) :
    Calls Tryd.prog 23 #[.string s] w fun e w' => e = .returned (keyV (unP s.data.toList)) ∧ Below w.heap.size w w' := by
  have HL := Lib.hid (Lib.size_eq s)
  have cV : Calls Tryd.prog 33 #[.string s] w fun e w' => e = .returned (.bool (valid_ s.data.toList)) ∧ Hid (Below w.heap.size w w') := (Tryd.utf8_ValidString s w (by omega) hT).mono fun _ _ h => ⟨by rw [h.1, valid_eq], Lib.hid h.2⟩
  clear hT
  obtain ⟨ans, hans⟩ : ∃ ans, unP s.data.toList = ans := ⟨_, rfl⟩
  rw [hans]
  by_cases hv : valid_ s.data.toList = true
  · rw [hv] at cV
    obtain ⟨gc, CC, hcv, hCC, hgc⟩ := runes_conv s hs
    have hRl := runesL_len s.data.toList
    rw [← HL.out] at hRl
    have HRb := Lib.hid (runesL_le s.data.toList)
    have HN := Lib.hid (fun hk => hans.symm.trans (unP_none hv hk))
    have HS := Lib.hid (fun K hk => hans.symm.trans (unP_some (K := K) hv hk))
    generalize runesL s.data.toList = R at *
    have HC := Lib.hid hCC
    have HG := Lib.hid hgc
    clear hCC hgc hans hv
    go_enter Tryd.func23, Tryd.ntmps23
    go_wp2_with (go_at_call 33; refine cV.mono ?_; rintro e w1 ⟨rfl, hb⟩)
    have hbs := hb.out.size
    obtain ⟨cap, hcap⟩ : ∃ cap, gc (w1.alloc (.cells #[.slice none 0 0] 50)) = cap := ⟨_, rfl⟩
    obtain ⟨C, hC⟩ : ∃ C, CC (w1.alloc (.cells #[.slice none 0 0] 50)) = C := ⟨_, rfl⟩
    have HCC : Hid (∀ j r : Nat, R[j]? = some r → C[j]? = some (.int .i32 (r : Int))) := Lib.hid fun j r h => hC ▸ HC.out _ j r h
    have hcl : R.length ≤ cap := hcap ▸ HG.out _
    rw [hcap, hC]
    clear HC HG hcap hC hcv
    obtain ⟨ansU, hansU⟩ : ∃ ansU, unescL encR R = ansU := ⟨_, rfl⟩
    rw [hansU] at HN
    simp only [hansU] at HS
    go_loopw [6] (fun i wr => ∃ (k : Nat) (acc : List UInt8) (v : Value), k ≤ R.length ∧ i = .int .i64 k ∧ UnRel w w1 wr C ansU R k acc v) (fun i _ => R.length - (intOf i).toNat)
    case atStart =>
      refine ⟨0, [], _, by omega, rfl, ((Bk.mk_new w1 _ _).alloc _).drew, World.ownsRow_nil _ _ _ _, ?_, ((hb.out.alloc hbs _).alloc (by simp; omega) _).drew, ?_, by simp⟩
      · have h := Bk.mk_new (w1.alloc (.cells #[.slice none 0 0] 50)) 21 C
        rw [show (w1.alloc (.cells #[.slice none 0 0] 50)).heap.size = w1.heap.size + 1 by simp] at h
        exact h.drew
      · rw [← hansU]
        show unescL encR R = (unescL encR R).map ([] ++ ·)
        cases unescL encR R <;> simp
    case round =>
      obtain ⟨k, acc, v, hk, rfl, hrel⟩ := hrel
      have HR := Lib.hid hrel
      have hsz : w1.heap.size + 2 ≤ wr.heap.size := by have := hrel.run.lt; omega
      have hkc : wr.cell? ⟨w1.heap.size, 0, none⟩ = some v := hrel.key.cell 0
      have hlen := hrel.len
      clear hrel hansU
      by_cases hlt : k < R.length
      · obtain ⟨r, hr⟩ : ∃ r, R[k]? = some r := ⟨_, List.getElem?_eq_getElem hlt⟩
        have hrc : wr.cell? ⟨w1.heap.size + 1, k, none⟩ = some (.int .i32 (r : Int)) := (HR.out.run.cell k).trans (HCC.out k r hr)
        have hr1 : r ≤ 1114111 := HRb.out r (List.mem_of_getElem? hr)
        have HD := Lib.hid (show R.drop k = r :: R.drop (k + 1) by
          have hl := (List.getElem?_eq_some_iff.1 hr).1
          have e := (List.getElem?_eq_some_iff.1 hr).2
          rw [List.drop_eq_getElem_cons hl, e])
        clear hr
        by_cases h92 : r = 92
        · subst h92
          have hv92 : unescL encR (R.drop k) = if (escL (R.drop (k + 1))).1 = 0 then none else (unescL encR ((R.drop (k + 1)).drop (escL (R.drop (k + 1))).1)).map ([(escL (R.drop (k + 1))).2.toUInt8] ++ ·) := by
            rw [HD.out, unescL_slash]
            rfl
          have HV := Lib.hid hv92
          have cE : ∀ off c : Nat, (∀ (j q : Nat), (R.drop (k + 1))[j]? = some q → wr.cell? ⟨w1.heap.size + 1, off + j, none⟩ = some (.int .i32 (q : Int))) → Calls Tryd.prog 35 #[.pointer (some ⟨w1.heap.size, 0, none⟩), .slice (some ⟨w1.heap.size + 1, off, none⟩) (R.length - (k + 1)) c] wr fun e w' => e = .returned (.int .i64 (escL (R.drop (k + 1))).1) ∧ Hid (EscPost wr w' w1.heap.size (w1.heap.size + 2) (escA acc (R.drop (k + 1)))) := fun off c hc => by
            have hld : (R.drop (k + 1)).length = R.length - (k + 1) := List.length_drop
            rw [← hld]
            exact (escape_any w1.heap.size (w1.heap.size + 2) (w1.heap.size + 1) off c v acc (R.drop (k + 1)) wr HR.out.key (by omega) hsz HR.out.own hc (by omega) (by omega)).mono fun _ _ h => ⟨h.1, Lib.hid h.2⟩
          have hle := escL_le (R.drop (k + 1))
          rw [List.length_drop] at hle
          have hEA : Hid (∀ n b, escL (R.drop (k + 1)) = (n + 1, b) → escA acc (R.drop (k + 1)) = acc ++ [b.toUInt8]) := Lib.hid fun n b h => escA_ok h
          obtain ⟨en, eb, heb⟩ : ∃ en eb, escL (R.drop (k + 1)) = (en, eb) := ⟨_, _, rfl⟩
          rw [heb] at hle HV hEA
          simp only [heb] at cE
          simp only at hle HV
          clear heb hv92
          have hc0 : Hid (∀ (j q : Nat), (R.drop (k + 1))[j]? = some q → wr.cell? ⟨w1.heap.size + 1, k + 1 + j, none⟩ = some (.int .i32 (q : Int))) := Lib.hid fun j q hj => by
            rw [List.getElem?_drop] at hj
            exact (HR.out.run.cell (k + 1 + j)).trans (HCC.out _ q hj)
          by_cases hc : cap = k + 1
          · have cE2 := cE 0 (cap - (k + 1)) fun j q hj => by
              have := (List.getElem?_eq_some_iff.1 hj).1
              rw [List.length_drop] at this
              omega
            have hcT : (cap = k + 1) = True := eq_true hc
            clear cE hc0 hc
            by_cases h0 : en = 0
            · subst h0
              have HA := Lib.hid (show ansU = none from key_none HR.out.ans_ (HV.out.trans (if_pos rfl)))
              go_wp2_with (go_at_call 35; refine cE2.mono ?_; rintro e w2 ⟨rfl, hp⟩)
              go_ret2
              refine ⟨by rw [HN.out HA.out]; rfl, ?_⟩
              obtain ⟨_, _, _, _, h4⟩ := hp.out
              exact HR.out.bel.trans (h4.mono hbs)
            · have hne : ((en : Int) == 0) = false := by simp; omega
              have HX := Lib.hid (HV.out.trans (if_neg h0))
              have hEA2 : Hid (escA acc (R.drop (k + 1)) = acc ++ [eb.toUInt8]) := by
                obtain ⟨m, rfl⟩ : ∃ m, en = m + 1 := ⟨en - 1, by omega⟩
                exact Lib.hid (hEA.out m eb rfl)
              clear h0
              go_wp2_with (go_at_call 35; refine cE2.mono ?_; rintro e w2 ⟨rfl, hp⟩)
              go_roundw
              case rel =>
                rw [hEA2.out] at hp
                have hx := HX.out
                rw [List.drop_drop] at hx
                obtain ⟨v', hv'⟩ := HR.out.next (x := [eb.toUInt8]) (k' := k + 1 + en) hbs hp.out hx (by simp) (by omega)
                exact ⟨k + 1 + en, _, v', by omega, by go_num, hv'⟩
              case measure => simp [intOf]; omega
          · have cE2 := cE (k + 1) (cap - (k + 1)) hc0.out
            clear cE hc0
            by_cases h0 : en = 0
            · subst h0
              have HA := Lib.hid (show ansU = none from key_none HR.out.ans_ (HV.out.trans (if_pos rfl)))
              go_wp2_with (go_at_call 35; refine cE2.mono ?_; rintro e w2 ⟨rfl, hp⟩)
              go_ret2
              refine ⟨by rw [HN.out HA.out]; rfl, ?_⟩
              obtain ⟨_, _, _, _, h4⟩ := hp.out
              exact HR.out.bel.trans (h4.mono hbs)
            · have hne : ((en : Int) == 0) = false := by simp; omega
              have HX := Lib.hid (HV.out.trans (if_neg h0))
              have hEA2 : Hid (escA acc (R.drop (k + 1)) = acc ++ [eb.toUInt8]) := by
                obtain ⟨m, rfl⟩ : ∃ m, en = m + 1 := ⟨en - 1, by omega⟩
                exact Lib.hid (hEA.out m eb rfl)
              clear h0
              go_wp2_with (go_at_call 35; refine cE2.mono ?_; rintro e w2 ⟨rfl, hp⟩)
              go_roundw
              case rel =>
                rw [hEA2.out] at hp
                have hx := HX.out
                rw [List.drop_drop] at hx
                obtain ⟨v', hv'⟩ := HR.out.next (x := [eb.toUInt8]) (k' := k + 1 + en) hbs hp.out hx (by simp) (by omega)
                exact ⟨k + 1 + en, _, v', by omega, by go_num, hv'⟩
              case measure => simp [intOf]; omega
        · have h92' : ((r : Int) != 92) = true := by simp; omega
          have HV := Lib.hid (show unescL encR (R.drop k) = (unescL encR (R.drop (k + 1))).map (encR r ++ ·) by rw [HD.out, unescL_other _ _ _ h92])
          have cA : Calls Tryd.prog 34 #[v, .int .i32 (r : Int)] wr.drew fun e w' => ∃ A l c, e = .returned (.slice A l c) ∧ w'.cell? ⟨w1.heap.size, 0, none⟩ = some v ∧ w'.frozen? ⟨w1.heap.size, 0, none⟩ = false ∧ Hid (EscPost wr (w'.setCell ⟨w1.heap.size, 0, none⟩ (.slice A l c)) w1.heap.size (w1.heap.size + 2) (acc ++ encR r)) := by
            refine (Tryd.utf8_AppendRune_plain (w1.heap.size + 2) v acc.length (Lib.byteCells acc) r (by omega) (by omega) wr.drew HR.out.own (by omega) hsz).mono ?_
            rintro e w' ⟨v', rfl, ho, o, hg⟩
            obtain ⟨A, l, c, rfl⟩ := own_slice ho
            obtain ⟨f1, f2, f3⟩ := app_fin HR.out.key (by omega) hsz HR.out.own ho hg
            exact ⟨A, l, c, rfl, f2, f3, Lib.hid f1⟩
          clear h92
          go_wp2
          go_still_tail 5, (by kernel_rfl)
          change wpList _ _ _ _ _ wr.drew
          generalize wr.drew = w2 at *
          go_wp2_with (go_at_call 34; refine cA.mono ?_; rintro e w3 ⟨A, l, c, rfl, hc1, hf1, hp⟩)
          go_roundw
          case rel =>
            obtain ⟨v', hv'⟩ := HR.out.next (x := encR r) (k' := k + 1) hbs hp.out HV.out (enc_len r) (by omega)
            exact ⟨k + 1, _, v', by omega, by go_num, hv'⟩
          case measure => simp [intOf]; omega
      · obtain rfl : k = R.length := by omega
        have hs1 := HS.out acc (by
          rw [HR.out.ans_, List.drop_of_length_le (Nat.le_refl _)]
          show some (acc ++ []) = some acc
          rw [List.append_nil])
        have hcv1 := conv_own wr (w1.heap.size + 2) v acc HR.out.own
        have cS : Calls Tryd.prog 36 #[.string ⟨acc.toArray⟩] wr fun e w' => e = .returned (.string ⟨(showL acc).toArray⟩) ∧ Hid (Below w.heap.size w w') ∧ w'.cell? ⟨w1.heap.size, 0, none⟩ = some v ∧ (convert 50 9 v).run Tryd.prog w' = .ok (.string ⟨acc.toArray⟩) w' := (show_any ⟨acc.toArray⟩ (by show acc.length ≤ _; omega) wr).mono fun _ w' h =>
          ⟨h.1, Lib.hid (HR.out.bel.trans (h.2.mono HR.out.bel.size)), (HR.out.key.below h.2 (by omega)).cell 0, conv_own w' (w1.heap.size + 2) v acc (own_below HR.out.own h.2)⟩
        have hcmp : (showL acc == s.toList) = decide (showL acc = s.data.toList) := by
          rw [Lib.toList_data, Bool.eq_iff_iff]
          simp
        by_cases hT : showL acc = s.data.toList
        · have HA := Lib.hid (hs1.trans (if_pos hT))
          rw [decide_eq_true hT] at hcmp
          clear hs1 hT
          go_wp2_with (go_at_call 36; refine cS.mono ?_; rintro e w2 ⟨rfl, hb2, hk2, hc2⟩)
          go_ret2
          exact ⟨by rw [HA.out]; rfl, hb2.out⟩
        · have HA := Lib.hid (hs1.trans (if_neg hT))
          rw [decide_eq_false hT] at hcmp
          clear hs1 hT
          go_wp2_with (go_at_call 36; refine cS.mono ?_; rintro e w2 ⟨rfl, hb2, hk2, hc2⟩)
          go_ret2
          exact ⟨by rw [HA.out]; rfl, hb2.out⟩
  · have hvf : valid_ s.data.toList = false := by simpa using hv
    have HA := Lib.hid (hans.symm.trans (unP_bad hvf))
    rw [hvf] at cV
    clear hans hvf hv
    go_enter Tryd.func23, Tryd.ntmps23
    go_wp2_with (go_at_call 33; refine cV.mono ?_; rintro e w1 ⟨rfl, hb⟩)
    go_ret2
    exact ⟨by rw [HA.out]; rfl, hb.out⟩
end Go.Proofs.YtmlklbbkkggpkaaDoor.show_
