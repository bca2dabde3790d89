/- Contract: the program's drive.Load, a room that may be. -/
import Derived.Test.YtiaecfdfjhjgiaaGreatHpN
namespace Go.Proofs.YtiaecfdfjhjgiaaGreat.hp
open Go.RowKit kit
open Go.ChangeMaps
set_option linter.unusedVariables false

theorem pld_start (w : World) (room : Int) (fs : List Fi) : PLd w (((w.alloc (.map #[] 0)).alloc (.map #[] 0)).alloc (.cells #[.int .i64 room, .int .i64 0, .map (some w.heap.size), .map (some (w.heap.size + 1)), .slice none 0 0] 136)) room 0 fs 0 [] [] := by
  have z1 : (w.alloc (.map #[] 0)).heap.size = w.heap.size + 1 := by simp
  have z2 : ((w.alloc (.map #[] 0)).alloc (.map #[] 0)).heap.size = w.heap.size + 2 := by simp
  have b0 := Bk.mk_new ((w.alloc (.map #[] 0)).alloc (.map #[] 0)) 136 #[.int .i64 room, .int .i64 0, .map (some w.heap.size), .map (some (w.heap.size + 1)), .slice none 0 0]
  rw [z2] at b0
  have m2 := Dm.made (w.alloc (.map #[] 0))
  rw [z1] at m2
  refine ⟨b0, (Dm.made w).same ?_, m2.same ?_, ⟨rfl, fun i f b hf hb => by simp at hb⟩, (((Below.refl _ _).alloc (Nat.le_refl _) _).alloc (by rw [z1]; omega) _).alloc (by rw [z2]; omega) _⟩
  · rw [Below.heap_alloc _ _ w.heap.size (by rw [z2]; omega), Below.heap_alloc _ _ w.heap.size (by rw [z1]; omega)]
  · rw [Below.heap_alloc _ _ (w.heap.size + 1) (by rw [z2]; omega)]

set_option maxRecDepth 1000000 in
set_option maxHeartbeats 8000000 in
theorem pload_yes (room : Int) (v : Value) (fs : List Fi) (hroom : roomOk room = true) (hl : fs.length ≤ 1099511627776) (hd : ∀ f ∈ fs, f.data.length ≤ 1099511627776) (hnl : ∀ f ∈ fs, f.name.size ≤ maxLen) (w : World) (S : Nat → Prop) (h : Fs w S v fs) :
    Calls Tryz.prog 21 #[.int .i64 room, v] w fun e w' => PPost w w' e fs (loadE (fs.map Fi.name) 0 []) := by
  have HF := Lib.hid h
  obtain ⟨A, c, rfl, hc⟩ := h.1
  have HC := Lib.hid hc
  have HDt := Lib.hid hd
  have HNL := Lib.hid hnl
  have cN := pnew_yes room hroom w
  have cNm : ∀ nm wx, Calls Tryz.prog 47 #[.string nm] wx fun e w' => e = .returned (.bool (namedB nm)) ∧ wx = w' := fun nm wx => (pnamed_any nm wx).mono fun _ _ h => ⟨h.1, h.2.symm⟩
  clear h hc hd hroom hnl
  obtain ⟨ans, hans⟩ : ∃ ans, loadE (fs.map Fi.name) 0 [] = ans := ⟨_, rfl⟩
  rw [hans]
  have HA := Lib.hid hans
  clear hans
  go_enter Tryz.func21, Tryz.ntmps21
  go_wp2_with (go_at_call 46; refine cN.mono ?_; rintro e w' ⟨rfl, rfl⟩)
  go_loopw [17] (fun i wr => ∃ (k : Nat) (u : Int) (bl : List Nat) (es : List En), k ≤ fs.length ∧ i = .int .i64 (k : Int) ∧ PLd w wr room u fs k bl es ∧ es.length = k ∧ bl.length = k ∧ Rising es ∧ ans = loadE ((fs.map Fi.name).drop k) k es) (fun i _ => fs.length - (intOf i).toNat)
  case atStart => exact ⟨0, 0, [], [], by omega, rfl, pld_start w room fs, rfl, rfl, List.Pairwise.nil, HA.out.symm⟩
  case round =>
    obtain ⟨k, u, bl, es, hk, rfl, hrel, hel, hbl, hris, hans⟩ := hrel
    have HR := Lib.hid hrel
    have HRI := Lib.hid hris
    have HAN := Lib.hid hans
    clear hrel hris hans
    by_cases hlt : k < fs.length
    · obtain ⟨f, hf⟩ : ∃ f, fs[k]? = some f := ⟨_, List.getElem?_eq_getElem hlt⟩
      have hne : fs ≠ [] := by intro e; rw [e] at hlt; simp at hlt
      obtain ⟨b, o, rfl, hSb, hcs⟩ := HC.out hne
      have hseg := (hcs k f hf).keep HR.out.bel
      have a0 : wr.cell? ⟨b, o + k * 2, none⟩ = some (.string f.name) := hseg 0 _ rfl
      have a1 : wr.cell? ⟨b, o + k * 2 + 1, none⟩ = some f.val := hseg 1 _ rfl
      have hby := (HF.out.2 f (List.mem_of_getElem? hf)).keep HR.out.bel
      obtain ⟨A2, cc, hval, hrd⟩ := hby.reads
      have hdl := HDt.out f (List.mem_of_getElem? hf)
      have hnm0 := HNL.out f (List.mem_of_getElem? hf)
      have HFk := Lib.hid hf
      have hstep : ans = loadE (f.name :: (fs.map Fi.name).drop (k + 1)) k es := by
        rw [HAN.out, drop_get (fs.map Fi.name) k f.name (by rw [List.getElem?_map, hf]; rfl)]
      have HST := Lib.hid hstep
      have hi0 : (0 : Int) ≤ (k : Int) := by omega
      have hi1 : (k : Int) < (fs.length : Int) := by omega
      have hsw := HR.out.bel.size
      obtain ⟨nm, hnm⟩ : ∃ nm, f.name = nm := ⟨_, rfl⟩
      rw [hnm] at a0 HST hnm0
      obtain ⟨dl, hdle⟩ : ∃ dl, f.data.length = dl := ⟨_, rfl⟩
      have HDL := Lib.hid hdle
      rw [hval, hdle] at a1
      have HBY : Hid (By wr S (.slice A2 dl cc) f.data) := by
        rw [hval, hdle] at hby
        exact Lib.hid hby
      clear hseg hby hrd hf hcs hval hne hnm hdle hstep
      go_upto_region 7 with fail
      have hbF := Bk.mk_new wr 112 #[.string nm, .slice A2 dl cc]
      have hPL := HR.out.alloc (.cells #[.string nm, .slice A2 dl cc] 112)
      have hBY := HBY.out.keep ((Below.refl _ _).alloc (Nat.le_refl _) (.cells #[.string nm, .slice A2 dl cc] 112))
      have hlow := HR.out.blk.lt
      obtain ⟨fa, hfa⟩ : ∃ fa, wr.heap.size = fa := ⟨_, rfl⟩
      rw [hfa] at hbF hlow ⊢
      generalize wr.alloc (.cells #[.string nm, .slice A2 dl cc] 112) = W0 at *
      have hPL : PLd w W0.drew room u fs k bl es := ⟨hPL.blk, hPL.d1.same rfl, hPL.d2.same rfl, hPL.bod, hPL.bel.drew⟩
      have hbF := hbF.drew
      have hBY := hBY.keep ((Below.refl _ _).drew)
      have c2 : W0.drew.cell? ⟨w.heap.size + 2, 2, none⟩ = some (.map (some w.heap.size)) := hPL.blk.cell 2
      have f0 : W0.drew.cell? ⟨fa, 0, none⟩ = some (.string nm) := hbF.cell 0
      have hlk := hPL.d1.lookup nm hnm0
      have PL := Lib.hid hPL
      have BF := Lib.hid hbF
      clear hPL hbF
      have c2' : W0.cell? ⟨w.heap.size + 2, 2, none⟩ = some (.map (some w.heap.size)) := c2
      have f0' : W0.cell? ⟨fa, 0, none⟩ = some (.string nm) := f0
      cases hhas : hasN es nm with
      | true =>
        obtain ⟨bb, hbb⟩ := look_yes es bl nm PL.out.d1.1 hhas
        rw [hbb] at hlk
        have HB := Lib.hid (HST.out.trans (loadE_bad (fun h => by rw [hhas] at h; cases h.2)))
        clear hhas
        go_region
        go_wp2
        go_ret
        exact ⟨PL.out.bel, by rw [HB.out]; rfl⟩
      | false =>
        rw [look_no es bl nm hhas] at hlk
        have HN := Lib.hid hhas
        clear hhas
        obtain ⟨nb, hnb⟩ : ∃ nb, namedB nm = nb := ⟨_, rfl⟩
        have cNn : ∀ wx, Calls Tryz.prog 47 #[.string nm] wx fun e w' => e = .returned (.bool nb) ∧ wx = w' := fun wx => hnb ▸ cNm nm wx
        cases nb with
        | false =>
          have HB := Lib.hid (HST.out.trans (loadE_bad (fun h => by rw [hnb] at h; cases h.1)))
          clear hnb
          go_region
          go_wp2_with (go_at_call 47; refine (cNn _).mono ?_; rintro e w' ⟨rfl, rfl⟩)
          go_ret
          exact ⟨PL.out.bel, by rw [HB.out]; rfl⟩
        | true =>
          have HL2 := Lib.hid (HST.out.trans (loadE_ok hnb HN.out))
          clear hnb
          go_region
          clear c2' f0' hlk c2 f0
          generalize W0.drew = W at *
          have f0 : W.cell? ⟨fa, 0, none⟩ = some (.string nm) := BF.out.cell 0
          go_upto_region 10 with (go_at_call 47; refine (cNn _).mono ?_; rintro e w' ⟨rfl, rfl⟩)
          go_cut [10] from 18 to 75 (fun s10 wx => ∃ (b : Nat) (v1 : Value), s10 = .pointer (some ⟨b, 0, none⟩) ∧ PLd w wx room u fs k bl es ∧ Bk wx fa 112 #[.string nm, .slice A2 dl cc] ∧ (w.heap.size + 3 ≤ b ∧ b < wx.heap.size) ∧ Bk wx b 138 #[v1, .int .i64 (dl : Int)] ∧ By wx (fun g => w.heap.size + 3 ≤ g ∧ g < wx.heap.size) v1 f.data)
          case first =>
            have f1 : W.drew.cell? ⟨fa, 1, none⟩ = some (.slice A2 dl cc) := BF.out.cell 1
            have f1' : W.cell? ⟨fa, 1, none⟩ = some (.slice A2 dl cc) := BF.out.cell 1
            have cC : Calls Tryz.prog 48 #[.slice A2 dl cc] W.drew fun e w' => ∃ A1 c1', e = .returned (.slice A1 dl c1') ∧ w'.cell? ⟨fa, 1, none⟩ = some (.slice A2 dl cc) ∧ Hid (By w' (New W w') (.slice A1 dl c1') f.data ∧ Below W.heap.size W w') := by
              refine (clone_any (.slice A2 dl cc) f.data hdl W.drew S hBY).mono ?_
              rintro e w' ⟨v', rfl, h1, h2⟩
              have hbw : Below W.heap.size W w' := (Below.drew (Below.refl _ _)).trans h2
              obtain ⟨A1, c1', hv', _⟩ := h1.reads
              rw [HDL.out] at hv'
              refine ⟨A1, c1', by rw [hv'], cell_later hbw f1', Lib.hid ⟨?_, hbw⟩⟩
              rw [← hv']
              exact h1
            go_region_law (go_simp; go_at_call 48; refine cC.mono ?_; rintro e w1 ⟨A1, c1', rfl, f2, X1⟩)
            all_goals (go_wp2_with fail; go_meet; case rel =>
              have hs := X1.out.2.size
              have hsW := PL.out.blk.lt
              exact ⟨_, _, rfl, (PL.out.later X1.out.2).alloc _, (BF.out.below X1.out.2 BF.out.lt).alloc _, ⟨by omega, by simp⟩, Bk.mk_new _ _ _, (X1.out.1.keep ((Below.refl _ _).alloc (Nat.le_refl _) _)).mono fun g hg => ⟨by have := hg.1; omega, by have := hg.2; simp; omega⟩⟩)
          case rest =>
            obtain ⟨b2, v1, rfl, q1, q2, q3, q4, q5⟩ := hcut
            obtain ⟨v0, v9, s0, s1, W1, W2, W3, W4, e1, e2, e3, e4, hK, D1, D2, hbel, hsz⟩ := Dm.two (w := wc.drew) (q1.d1.same rfl) (q1.d2.same rfl) (by omega) nm hnm0 HN.out (by unfold maxLen; omega) b2
            have hKd : ∀ g, g ≠ w.heap.size → g ≠ w.heap.size + 1 → wc.drew.heap[g]? = wc.heap[g]? := fun g _ _ => rfl
            have hK1 : ∀ g, g ≠ w.heap.size → g ≠ w.heap.size + 1 → W1.heap[g]? = wc.heap[g]? := fun g h1 h2 => (hK g h1 h2).1
            have hK2 : ∀ g, g ≠ w.heap.size → g ≠ w.heap.size + 1 → W2.heap[g]? = wc.heap[g]? := fun g h1 h2 => (hK g h1 h2).2.1
            have hK3 : ∀ g, g ≠ w.heap.size → g ≠ w.heap.size + 1 → W3.heap[g]? = wc.heap[g]? := fun g h1 h2 => (hK g h1 h2).2.2.1
            have hK4 : ∀ g, g ≠ w.heap.size → g ≠ w.heap.size + 1 → W4.heap[g]? = wc.heap[g]? := fun g h1 h2 => (hK g h1 h2).2.2.2
            have k02 : wc.drew.cell? ⟨w.heap.size + 2, 2, none⟩ = some (.map (some w.heap.size)) := (cell_same (hKd _ (by simp) (by simp))).trans (q1.blk.cell 2)
            have k03 : wc.drew.cell? ⟨w.heap.size + 2, 3, none⟩ = some (.map (some (w.heap.size + 1))) := (cell_same (hKd _ (by simp) (by simp))).trans (q1.blk.cell 3)
            have k00 : wc.drew.cell? ⟨fa, 0, none⟩ = some (.string nm) := (cell_same (hKd _ (by simp; omega) (by simp; omega))).trans (q2.cell 0)
            have k12 : W1.cell? ⟨w.heap.size + 2, 2, none⟩ = some (.map (some w.heap.size)) := (cell_same (hK1 _ (by simp) (by simp))).trans (q1.blk.cell 2)
            have k13 : W1.cell? ⟨w.heap.size + 2, 3, none⟩ = some (.map (some (w.heap.size + 1))) := (cell_same (hK1 _ (by simp) (by simp))).trans (q1.blk.cell 3)
            have k10 : W1.cell? ⟨fa, 0, none⟩ = some (.string nm) := (cell_same (hK1 _ (by simp; omega) (by simp; omega))).trans (q2.cell 0)
            have k22 : W2.cell? ⟨w.heap.size + 2, 2, none⟩ = some (.map (some w.heap.size)) := (cell_same (hK2 _ (by simp) (by simp))).trans (q1.blk.cell 2)
            have k23 : W2.cell? ⟨w.heap.size + 2, 3, none⟩ = some (.map (some (w.heap.size + 1))) := (cell_same (hK2 _ (by simp) (by simp))).trans (q1.blk.cell 3)
            have k20 : W2.cell? ⟨fa, 0, none⟩ = some (.string nm) := (cell_same (hK2 _ (by simp; omega) (by simp; omega))).trans (q2.cell 0)
            have k32 : W3.cell? ⟨w.heap.size + 2, 2, none⟩ = some (.map (some w.heap.size)) := (cell_same (hK3 _ (by simp) (by simp))).trans (q1.blk.cell 2)
            have k33 : W3.cell? ⟨w.heap.size + 2, 3, none⟩ = some (.map (some (w.heap.size + 1))) := (cell_same (hK3 _ (by simp) (by simp))).trans (q1.blk.cell 3)
            have k30 : W3.cell? ⟨fa, 0, none⟩ = some (.string nm) := (cell_same (hK3 _ (by simp; omega) (by simp; omega))).trans (q2.cell 0)
            have k02' : wc.cell? ⟨w.heap.size + 2, 2, none⟩ = some (.map (some w.heap.size)) := k02
            have k03' : wc.cell? ⟨w.heap.size + 2, 3, none⟩ = some (.map (some (w.heap.size + 1))) := k03
            have k00' : wc.cell? ⟨fa, 0, none⟩ = some (.string nm) := k00
            have Q1 := Lib.hid q1
            have Q4 := Lib.hid q4
            have Q5 := Lib.hid q5
            have DD1 := Lib.hid D1
            have DD2 := Lib.hid D2
            have HBEL := Lib.hid hbel
            have HK4 := Lib.hid hK4
            have HSZ := Lib.hid hsz
            clear q1 q2 q4 q5 D1 D2 hbel hK4 hK hKd hK1 hK2 hK3 hsz
            go_upto_region 11 with fail
            go_region
            clear e1 e2 e3 e4 k02 k03 k00 k12 k13 k10 k22 k23 k20 k32 k33 k30 k02' k03' k00'
            have hB4 : Bk W4 (w.heap.size + 2) 136 #[.int .i64 room, .int .i64 u, .map (some w.heap.size), .map (some (w.heap.size + 1)), .slice none 0 0] := (HK4.out _ (by omega) (by omega)).trans Q1.out.blk
            have hb4 : Bk W4 b2 138 #[v1, .int .i64 (dl : Int)] := (HK4.out _ (by omega) (by omega)).trans Q4.out
            have g1 : W4.drew.cell? ⟨w.heap.size + 2, 1, none⟩ = some (.int .i64 u) := hB4.cell 1
            have g1' : W4.cell? ⟨w.heap.size + 2, 1, none⟩ = some (.int .i64 u) := hB4.cell 1
            have g2 : W4.drew.cell? ⟨b2, 1, none⟩ = some (.int .i64 (dl : Int)) := hb4.cell 1
            have g2' : W4.cell? ⟨b2, 1, none⟩ = some (.int .i64 (dl : Int)) := hb4.cell 1
            have g3 : W4.drew.frozen? ⟨w.heap.size + 2, 1, none⟩ = false := hB4.free 1
            have g3' : W4.frozen? ⟨w.heap.size + 2, 1, none⟩ = false := hB4.free 1
            clear hB4 hb4
            go_upto_region 12 with fail
            go_region
            go_wp2
            go_roundw
            case rel =>
              have hX := Q1.out.next (W4 := W4) (nm := nm) HFk.out q3 (by rw [HDL.out]; exact Q4.out) Q5.out HK4.out (by rw [← hbl]; exact DD1.out) (by rw [← hbl]; exact DD2.out) (HBEL.out w.heap.size w (Nat.le_refl _) (Nat.le_succ _) Q1.out.bel.drew) HSZ.out (wrap64 (u + (dl : Int)))
              exact ⟨k + 1, _, bl ++ [b2], setE es nm k, by omega, by go_num, ⟨hX.blk, hX.d1.same rfl, hX.d2.same rfl, hX.bod, hX.bel.drew⟩, by rw [setE_len es nm k HN.out, hel], by simp [hbl], setE_rising es nm k HN.out HRI.out, HL2.out⟩
            case measure => simp [intOf]; omega
    · have hkf : k = fs.length := by omega
      subst hkf
      have HB := Lib.hid (show ans = some es by rw [HAN.out, List.drop_of_length_le (by simp)]; rfl)
      go_wp2
      go_ret
      exact ⟨HR.out.bel, by rw [HB.out]; exact ⟨rfl, HR.out.done⟩⟩
end Go.Proofs.YtiaecfdfjhjgiaaGreat.hp
