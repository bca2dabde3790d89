/- Contract: the program's Stale. -/
import Derived.Laws.BytesString
import Derived.Deep.CutRange
import Derived.Deep.RegionHeld3
import Derived.Deep.CutBlock
import Derived.Deep.MidRow
import Derived.Deep.WholeRow
import Derived.Test.YtiaecfdfjhjgiaaGreatHpY
import Derived.Test.YtiaecfdfjhjgiaaGreatHpG
import Derived.Test.YtiaecfdfjhjgiaaGreatHpO
import Derived.Test.YtiaecfdfjhjgiaaGreatHpP
namespace Go.Proofs.YtiaecfdfjhjgiaaGreat.hp
open Go.RowKit kit Go.ChangeMaps Go.Maps Go.Sort
set_option linter.unusedVariables false

set_option maxRecDepth 1000000 in
set_option maxHeartbeats 4000000 in
theorem pstale_any (v : Vd) (plv lv : Value) (l : List Sn) (hbl : ∀ s ∈ l, ∃ A n c, s.blv = .slice A n c) (hl : l.length ≤ 1099511627776) (w : World) (S : Nat → Prop) (hs : Sl w S 19 snC lv l) :
    Calls Tryz.prog 15 #[lv, .agg #[.int .i64 v.kind, .int .i64 v.ep, .int .i64 v.ct, .int .i64 v.size, plv]] w fun e w' => ∃ r, e = .returned r ∧ Is w' (New w w') r (staleL v l 0) ∧ Below w.heap.size w w' := by
  obtain ⟨i0, hi, hz0, hz1, hz2⟩ := info_parts info3
  have HI := Lib.hid hi; clear hi
  have HZ0 := Lib.hid hz0; clear hz0
  have HZ1 := Lib.hid hz1; clear hz1
  have HZ2 := Lib.hid hz2; clear hz2
  obtain ⟨A, c, rfl, hc⟩ := hs
  have HC := Lib.hid hc; clear hc
  have HBLV := Lib.hid hbl; clear hbl
  obtain ⟨X, hX⟩ : ∃ X, w.alloc (.cells #[.int .i64 v.kind, .int .i64 v.ep, .int .i64 v.ct, .int .i64 v.size, plv] 32) = X := ⟨_, rfl⟩
  have hXB : Below w.heap.size w X := by
    subst hX
    exact (Below.refl _ _).alloc (Nat.le_refl _) _
  have hbx : Bk X w.heap.size 32 #[.int .i64 v.kind, .int .i64 v.ep, .int .i64 v.ct, .int .i64 v.size, plv] := by
    subst hX
    exact Bk.mk_new _ _ _
  have HX := Lib.hid hX
  have HXB := Lib.hid hXB
  have HBX := Lib.hid hbx
  have HBL := Lib.hid hbx.lt
  clear hX hXB hbx
  go_enter Tryz.func15, Tryz.ntmps15
  go_upto_region 1 with fail
  rw [HX.out]
  go_wp2
  go_loopw [5, 12] (fun out i wr => ∃ k : Nat, k ≤ l.length ∧ i = .int .i64 (k : Int) ∧ NumRel X wr out (staleL v (l.take k) 0)) (fun _ i _ => l.length - (intOf i).toNat)
  case atStart => exact ⟨0, by omega, rfl, NumRel.start X X (Below.refl _ _)⟩
  case round =>
    obtain ⟨k, hk, rfl, hrel⟩ := hrel
    have HR := Lib.hid hrel
    have hbx := HBX.out.below hrel.bel HBL.out
    have HBW := Lib.hid hbx
    have hws := hrel.bel.size
    have hln := staleL_len v (l.take k) 0
    have htl : (l.take k).length ≤ k := List.length_take_le _ _
    clear hrel hbx
    by_cases hlt : k < l.length
    · obtain ⟨s, hs⟩ : ∃ s, l[k]? = some s := ⟨_, List.getElem?_eq_getElem hlt⟩
      obtain ⟨g, o, rfl, _, hcs⟩ := HC.out (by intro e; rw [e] at hlt; simp at hlt)
      have hat : ∀ (j : Nat) (u : Value), (snC s)[j]? = some u → wr.cell? ⟨g, o + k * 19 + j, none⟩ = some u := fun j u hj => cell_later (HXB.out.trans (HR.out.bel.mono HXB.out.size)) (hcs k s hs j u hj)
      obtain ⟨Ab, nb, cb, hblv⟩ := HBLV.out s (List.mem_of_getElem? hs)
      have hnext : staleL v (l.take (k + 1)) 0 = staleL v (l.take k) 0 ++ (if staleB v s = true then [(k : Int)] else []) := by
        rw [take_get l k s hs, staleL_app, List.length_take]
        rw [show 0 + min k l.length = k by omega]
      have HN := Lib.hid hnext
      have hi0 : (0 : Int) ≤ (k : Int) := by omega
      have hi1 : (k : Int) < (l.length : Int) := by omega
      have hn3 : (staleL v (l.take k) 0).length + 1 ≤ maxLen := by unfold maxLen; omega
      have hn4 : ((staleL v (l.take k) 0).length + 1) * 8 ≤ 140737488355328 := by omega
      have hc0 : wr.rangeAt g (o + k * 19) (snC s) := hat
      have HRG := Lib.hid hc0
      clear hnext hcs hat hs hc0
      have cO : ∀ W, Calls Tryz.prog 26 #[.agg (snC s).toArray] W fun e w' => e = .returned (.tuple #[.agg #[.int .i64 s.ep, .int .i64 s.ct, .int .i64 s.size], .bool (s.kind == 2)]) ∧ Hid (Below W.heap.size W w') := by
        intro W
        obtain ⟨kind, s0, s1, s2, s3, s4, s5, s6, s7, kk, m, b, key, size, idx, ep, ct, blv, bls, err⟩ := s
        obtain rfl : blv = .slice Ab nb cb := hblv
        exact (of_any kind size ep ct err _ _ _ _ _ _ _ _ _ _ _ _ _ _ W).mono fun _ _ h => ⟨h.1, Lib.hid h.2⟩
      have hone : (snC s).toArray.all (·.oneCell') = true := by
        show ([_, _, _, _, _, _, _, _, _, _, _, _, _, _, _, _, _, s.blv, _] : List Value).toArray.all (·.oneCell') = true
        rw [hblv]
        simp [Value.oneCell']
      have HONE := Lib.hid hone
      clear hblv hone
      go_upto_region 6 with (first | (refine wp_store_row 71 _ _ rfl wr.heap.size (snC s).toArray rfl rfl 71 _ (heap_alloc_last _ _) rfl rfl HONE.out ?_; rw [World.setRow_alloc_new]) | (refine wp_load_row 71 _ rfl wr.heap.size rfl 71 (snC s).toArray (0, 0) _ (heap_alloc_last _ _) rfl rfl rfl ?_) | (refine wp_load_mid 71 _ rfl g (o + k * 19) rfl (snC s) _ HRG.out rfl rfl rfl ?_) | (refine wpList_load_mid rfl 71 _ rfl g (o + k * 19) rfl (snC s) _ HRG.out rfl rfl rfl ?_) | (refine wpList_store_row rfl 71 _ _ rfl wr.heap.size (snC s).toArray rfl rfl 71 _ (heap_alloc_last _ _) rfl rfl HONE.out ?_; rw [World.setRow_alloc_new]) | (refine wpList_load_row rfl 71 _ rfl wr.heap.size rfl 71 (snC s).toArray (0, 0) _ (heap_alloc_last _ _) rfl rfl rfl ?_) | (go_at_call 26; refine (cO _).mono ?_; intro e w5 h5; obtain ⟨rfl, hb5⟩ := h5; have HB5 := hb5; clear hb5))
      have hbp : Bk (w5.alloc (.cells #[.int .i64 s.ep, .int .i64 s.ct, .int .i64 s.size] 95)) w5.heap.size 95 #[.int .i64 s.ep, .int .i64 s.ct, .int .i64 s.size] := Bk.mk_new _ _ _
      have hlo : wr.heap.size < (wr.alloc (.cells (snC s).toArray 71)).heap.size := by rw [World.size_alloc]; exact Nat.lt_succ_self _
      have hb2 : Below wr.heap.size wr (w5.alloc (.cells #[.int .i64 s.ep, .int .i64 s.ct, .int .i64 s.size] 95)) := (((Below.refl _ wr).alloc (Nat.le_refl _) _).trans (HB5.out.mono (Nat.le_of_lt hlo))).alloc (Nat.le_trans (Nat.le_of_lt hlo) HB5.out.size) _
      have hbk : Bk (w5.alloc (.cells #[.int .i64 s.ep, .int .i64 s.ct, .int .i64 s.size] 95)) wr.heap.size 71 (snC s).toArray := (Bk.mk_new wr 71 (snC s).toArray).below (HB5.out.alloc HB5.out.size _) hlo
      have hhb : w5.heap.size < (w5.alloc (.cells #[.int .i64 s.ep, .int .i64 s.ct, .int .i64 s.size] 95)).heap.size := by rw [World.size_alloc]; exact Nat.lt_succ_self _
      clear HB5 hlo
      generalize w5.heap.size = b5 at *
      generalize w5.alloc (.cells #[.int .i64 s.ep, .int .i64 s.ct, .int .i64 s.size] 95) = W2 at *
      have hbv := HBW.out.below hb2 (Nat.lt_of_lt_of_le HBL.out hws)
      have v0 : W2.cell? ⟨w.heap.size, 0, none⟩ = some (.int .i64 v.kind) := hbv.cell 0
      have v1 : W2.cell? ⟨w.heap.size, 1, none⟩ = some (.int .i64 v.ep) := hbv.cell 1
      have v2 : W2.cell? ⟨w.heap.size, 2, none⟩ = some (.int .i64 v.ct) := hbv.cell 2
      have v3 : W2.cell? ⟨w.heap.size, 3, none⟩ = some (.int .i64 v.size) := hbv.cell 3
      have n0 : W2.cell? ⟨wr.heap.size, 0, none⟩ = some (.int .i64 s.kind) := hbk.cell 0
      have p0 : W2.cell? ⟨b5, 0, none⟩ = some (.int .i64 s.ep) := hbp.cell 0
      have p1 : W2.cell? ⟨b5, 1, none⟩ = some (.int .i64 s.ct) := hbp.cell 1
      have p2 : W2.cell? ⟨b5, 2, none⟩ = some (.int .i64 s.size) := hbp.cell 2
      have hwe := fun W => writing_eql s.ep s.ct s.size v.ep v.ct v.size W
      have HB2 := Lib.hid hb2
      clear hbv hbk hbp hb2 hhb HBW HRG HONE cO
      go_upto_block 2 with fail
      go_cut [9] from 13 to 47 (fun t wx => t = .bool (!(staleB v s)) ∧ Below W2.heap.size W2 wx)
      case first =>
        cases h1 : v.kind == 1 with
        | true =>
          have h12 : (v.kind == 2) = false := by
            have : v.kind = 1 := eq_of_beq h1
            rw [this]; rfl
          cases hk2 : s.kind == 2 with
          | false =>
            go_wp2_with fail
            go_meet
            exact ⟨by simp [staleB, showsB, h1, h12, hk2], by first | exact Below.refl _ _ | exact below_drewN (Below.refl _ _) _⟩
          | true =>
            cases hw3 : ((s.ep == v.ep && s.ct == v.ct) && s.size == v.size) with
            | false =>
              rw [hw3] at hwe
              go_wp2_with fail
              go_meet
              exact ⟨by simp [staleB, showsB, h1, h12, hk2, hw3], by first | exact Below.refl _ _ | exact below_drewN (Below.refl _ _) _⟩
            | true =>
              rw [hw3] at hwe
              go_wp2_with fail
              go_meet
              exact ⟨by simp [staleB, showsB, h1, h12, hk2, hw3], by first | exact Below.refl _ _ | exact below_drewN (Below.refl _ _) _⟩
        | false =>
          cases h2 : v.kind == 2 with
          | true =>
            cases h3 : s.kind == 1 <;> (
              go_wp2_with fail
              go_meet
              exact ⟨by simp [staleB, h1, h2, bne, h3], by first | exact Below.refl _ _ | exact below_drewN (Below.refl _ _) _⟩)
          | false =>
            go_wp2_with fail
            go_meet
            exact ⟨by simp [staleB, h1, h2], by first | exact Below.refl _ _ | exact below_drewN (Below.refl _ _) _⟩
      case rest =>
        obtain ⟨rfl, hwc⟩ := hcut
        have HWC := Lib.hid (HB2.out.trans (hwc.mono HB2.out.size))
        clear v0 v1 v2 v3 n0 p0 p1 p2 hwe hwc
        have HRC := Lib.hid (HR.out.later HWC.out)
        have hsz := HRC.out.bel.size
        obtain ⟨st, hst⟩ : ∃ st, staleB v s = st := ⟨_, rfl⟩
        rw [hst]
        cases st with
        | false =>
          have HN2 := Lib.hid (show staleL v (l.take (k + 1)) 0 = staleL v (l.take k) 0 by rw [HN.out, hst]; simp)
          clear hst
          rw [show (!false) = true from rfl]
          go_wp2
          go_roundw
          case rel => exact ⟨k + 1, by omega, by go_num, by rw [HN2.out]; exact HRC.out⟩
          case measure => simp [intOf]; omega
        | true =>
          have HN2 := Lib.hid (show staleL v (l.take (k + 1)) 0 = staleL v (l.take k) 0 ++ [(k : Int)] by rw [HN.out, hst]; rfl)
          clear hst
          rw [show (!true) = false from rfl]
          go_wp2_with (at_builtin; refine words.wpList_append_any _ rfl (.tmp 43) (.tmp 45) 30 (by rfl) X.heap.size 3 i0 (.int .i64 0) 1 8 Tryz.underlying30 HI.out HZ0.out HZ1.out HZ2.out rfl (by decide) u5 (staleL v (l.take k) 0).length ((staleL v (l.take k) 0).map (Value.int .i64)) (by rfl) (HRC.out.own.alloc _) (wc.heap.size + 1) _ 1 1 [.int .i64 (k : Int)] (by rfl) (reads_new _ _ _) (one_one rfl) hn3 hn4 ?_ ?_; (focus (simp; omega)); intro v4 w4 ho hg _; have X4 := Lib.hid (HRC.out.add ho hg); clear ho hg)
          go_roundw
          case rel => exact ⟨k + 1, by omega, by go_num, by rw [HN2.out]; exact X4.out⟩
          case measure => simp [intOf]; omega
    · obtain rfl : k = l.length := by omega
      go_wp2
      go_ret
      have hr := HR.out
      rw [List.take_of_length_le (Nat.le_refl _)] at hr
      exact ⟨_, rfl, hr.is.mono (fun b hb => ⟨Nat.le_trans HXB.out.size hb.1, hb.2⟩), HXB.out.trans (hr.bel.mono HXB.out.size)⟩

end Go.Proofs.YtiaecfdfjhjgiaaGreat.hp
