/- Contract: Plan of the document. -/
import Derived.Laws.BytesString
import Derived.Deep.CutRange
import Derived.Deep.RegionHeld3
import Derived.Deep.CutBlock
import Derived.Deep.MidRow
import Derived.Deep.WholeRow
import Derived.Test.YtiaecfdfjhjgiaaGreatHqB
import Derived.Test.YtiaecfdfjhjgiaaGreatHpG
import Derived.Test.YtiaecfdfjhjgiaaGreatHpO
import Derived.Test.YtiaecfdfjhjgiaaGreatHpP
namespace Go.Proofs.YtiaecfdfjhjgiaaGreat.hp
open Go.RowKit kit Go.ChangeMaps Go.Maps Go.Sort
set_option linter.unusedVariables false

set_option maxRecDepth 1000000 in
set_option maxHeartbeats 4000000 in
theorem rplan_any (v : Vd) (plv lv : Value) (l : List Sn) (hl : l.length ≤ 1099511627776) (dv : Value) (ds : List (Option Nat)) (hdl : ds.length ≤ 1099511627776) (K M B ep ct s0 s1 s2 s3 s4 s5 s6 s7 : Int) (w : World) (S D : Nat → Prop) (hs : Sl w S 19 snC lv l) (hd : Sl w D 1 (fun o => [pV o]) dv ds) (sb : Nat)
    (hb : Bk w sb 60 #[dv, .int .i64 K, .int .i64 M, .int .i64 B, .int .u8 s0, .int .u8 s1, .int .u8 s2, .int .u8 s3, .int .u8 s4, .int .u8 s5, .int .u8 s6, .int .u8 s7, .int .i64 ep, .int .i64 ct]) :
    Calls Tryz.prog 5 #[.pointer (some ⟨sb, 0, none⟩), .agg #[.int .i64 v.kind, .int .i64 v.ep, .int .i64 v.ct, .int .i64 v.size, plv], lv] w fun e w' => ∃ p q, e = .returned (.tuple #[p, q]) ∧
      Is w' (New w w') p (if v.kind = 1 ∧ rawN ds.length K M B ep ct = 0 ∧ l.length = ds.length then planL v l ds else []) ∧ Is w' (New w w') q (if v.kind ≠ 1 ∧ rawN ds.length K M B ep ct = 0 ∧ l.length = ds.length then planL v l ds else []) ∧ Below w.heap.size w w' := by
  obtain ⟨i0, hi, hz0, hz1, hz2⟩ := info_parts info3
  have HI := Lib.hid hi; clear hi
  have HZ0 := Lib.hid hz0; clear hz0
  have HZ1 := Lib.hid hz1; clear hz1
  have HZ2 := Lib.hid hz2; clear hz2
  have HS := Lib.hid hs
  obtain ⟨A, c, rfl, hc⟩ := hs
  obtain ⟨A2, c2, rfl, hc2⟩ := hd
  have HC := Lib.hid hc; clear hc
  have HC2 := Lib.hid hc2; clear hc2
  obtain ⟨X, hX⟩ : ∃ X, w.alloc (.cells #[.int .i64 v.kind, .int .i64 v.ep, .int .i64 v.ct, .int .i64 v.size, plv] 32) = X := ⟨_, rfl⟩
  have hXB : Below w.heap.size w X := by
    subst hX
    exact (Below.refl _ _).alloc (Nat.le_refl _) _
  have hbx : Bk X w.heap.size 32 #[.int .i64 v.kind, .int .i64 v.ep, .int .i64 v.ct, .int .i64 v.size, plv] := by
    subst hX
    exact Bk.mk_new _ _ _
  have hbs := hb.below hXB hb.lt
  have HX := Lib.hid hX
  have HXB := Lib.hid hXB
  have HBX := Lib.hid hbx
  have HBS := Lib.hid hbs
  have HBL := Lib.hid hbx.lt
  have HSX := Lib.hid (HS.out.keep hXB)
  have hraw := fun W hW => raw_any A2 ds.length c2 (by omega) K M B ep ct s0 s1 s2 s3 s4 s5 s6 s7 W sb hW
  obtain ⟨N, hN⟩ : ∃ N, rawN ds.length K M B ep ct = N := ⟨_, rfl⟩
  rw [hN] at hraw ⊢
  obtain ⟨pl, hpl⟩ : ∃ pl, (if v.kind = 1 ∧ N = 0 ∧ l.length = ds.length then planL v l ds else []) = pl := ⟨_, rfl⟩
  obtain ⟨ql, hql⟩ : ∃ ql, (if v.kind ≠ 1 ∧ N = 0 ∧ l.length = ds.length then planL v l ds else []) = ql := ⟨_, rfl⟩
  rw [hpl, hql]
  have HPL := Lib.hid hpl; clear hpl
  have HQL := Lib.hid hql; clear hql
  have HRAW := Lib.hid hraw
  clear hX hXB hbx hb hbs hraw hN
  by_cases hN0 : N = 0
  · subst hN0
    by_cases hll : l.length = ds.length
    · have HLL := Lib.hid hll
      go_enter Tryz.func5, Tryz.ntmps5
      go_upto_region 1 with fail
      rw [HX.out]
      have g0 : X.cell? ⟨sb, 0, none⟩ = some (.slice A2 ds.length c2) := HBS.out.cell 0
      have q2 : ((l.length : Int) != (ds.length : Int)) = false := by simp [hll]
      clear hll
      go_upto_region 6 with (go_at_call 12; refine (HRAW.out _ HBS.out).mono ?_; intro e w1 h1; obtain ⟨rfl, hb1⟩ := h1; have HB1 := Lib.hid hb1; clear hb1; have g1 : w1.cell? ⟨sb, 0, none⟩ = some (.slice A2 ds.length c2) := (HBS.out.below HB1.out HBS.out.lt).cell 0)
      have hbv := HBX.out.below HB1.out HBL.out
      have x0 : w1.cell? ⟨w.heap.size, 0, none⟩ = some (.int .i64 v.kind) := hbv.cell 0
      have x1 : w1.cell? ⟨w.heap.size, 1, none⟩ = some (.int .i64 v.ep) := hbv.cell 1
      have x2 : w1.cell? ⟨w.heap.size, 2, none⟩ = some (.int .i64 v.ct) := hbv.cell 2
      have x3 : w1.cell? ⟨w.heap.size, 3, none⟩ = some (.int .i64 v.size) := hbv.cell 3
      have x4 : w1.cell? ⟨w.heap.size, 4, none⟩ = some plv := hbv.cell 4
      have HS1 := Lib.hid (HSX.out.keep HB1.out)
      clear g0 q2 g1 hbv
      go_wp2_with (go_at_call 13; refine (rstale_any v plv _ l hl _ S HS1.out).mono ?_; intro e w2 h2; obtain ⟨r, rfl, hr, hb2⟩ := h2; obtain ⟨A3, c3, rfl, hc3⟩ := hr; have HR3 := Lib.hid hc3; have HB2 := Lib.hid hb2; clear hc3 hb2)
      have HX2 := Lib.hid (HB1.out.trans (HB2.out.mono HB1.out.size))
      have HW2 := Lib.hid (HXB.out.trans (HX2.out.mono HXB.out.size))
      have HJL := Lib.hid (staleL_len v l 0)
      clear x0 x1 x2 x3 x4
      by_cases hk1 : v.kind = 1
      · have HK1 := Lib.hid hk1; clear hk1
        have HBX1 : Hid (Bk X w.heap.size 32 #[.int .i64 1, .int .i64 v.ep, .int .i64 v.ct, .int .i64 v.size, plv]) := by
          rw [← HK1.out]
          exact HBX
        go_loopw [9, 10, 12] (fun p q i wr => ∃ k : Nat, k ≤ (staleL v l 0).length ∧ i = .int .i64 (k : Int) ∧ q = .slice none 0 0 ∧ NumRel w2 wr p (((staleL v l 0).take k).filter (adds v l ds))) (fun _ _ i _ => (staleL v l 0).length - (intOf i).toNat)
        case atStart => exact ⟨0, by omega, rfl, rfl, NumRel.start w2 w2 (Below.refl _ _)⟩
        case round =>
          obtain ⟨k, hk, rfl, rfl, hrel⟩ := hrel
          have HR := Lib.hid hrel; clear hrel
          by_cases hlt : k < (staleL v l 0).length
          · obtain ⟨x, hx⟩ : ∃ x, (staleL v l 0)[k]? = some x := ⟨_, List.getElem?_eq_getElem hlt⟩
            obtain ⟨j, rfl, _, hj⟩ := staleL_mem v l 0 x (List.mem_of_getElem? hx)
            have hj : j < l.length := by omega
            have hj2 : j < ds.length := by rw [← HLL.out]; exact hj
            obtain ⟨s, hs⟩ : ∃ s, l[j]? = some s := ⟨_, List.getElem?_eq_getElem hj⟩
            obtain ⟨d, hd⟩ : ∃ d, ds[j]? = some d := ⟨_, List.getElem?_eq_getElem hj2⟩
            obtain ⟨g, o, rfl, _, hcs⟩ := HC.out (by intro e; rw [e] at hj; simp at hj)
            obtain ⟨g2, o2, rfl, _, hcd⟩ := HC2.out (by intro e; rw [e] at hj2; simp at hj2)
            obtain ⟨g3, o3, rfl, _, hcj⟩ := HR3.out (by intro e; rw [e] at hlt; simp at hlt)
            have hw := HW2.out.trans (HR.out.bel.mono HW2.out.size)
            have hwX := HX2.out.trans (HR.out.bel.mono HX2.out.size)
            have c0 : wr.cell? ⟨g, o + j * 19, none⟩ = some (.int .i64 s.kind) := cell_later hw (hcs j s hs 0 _ rfl)
            have c1 : wr.cell? ⟨g2, o2 + j, none⟩ = some (pV d) := by have := cell_later hw (hcd j d hd 0 _ rfl); rwa [Nat.mul_one] at this
            have c2' : wr.cell? ⟨g3, o3 + k, none⟩ = some (.int .i64 (j : Int)) := by have := cell_later HR.out.bel (hcj k _ hx 0 _ rfl); rwa [Nat.mul_one] at this
            have c3' : wr.cell? ⟨sb, 0, none⟩ = some (.slice (some ⟨g2, o2, none⟩) ds.length c2) := (HBS.out.below hwX HBS.out.lt).cell 0
            have c4' : wr.cell? ⟨w.heap.size, 0, none⟩ = some (.int .i64 1) := by rw [← HK1.out]; exact (HBX.out.below hwX HBL.out).cell 0
            have HN := Lib.hid (filter_take (adds v l ds) (staleL v l 0) k _ hx)
            have hle := filter_le (adds v l ds) (staleL v l 0) k
            have hjl := HJL.out
            have hn3 : (((staleL v l 0).take k).filter (adds v l ds)).length + 1 ≤ maxLen := by unfold maxLen; omega
            have hn4 : ((((staleL v l 0).take k).filter (adds v l ds)).length + 1) * 8 ≤ 140737488355328 := by omega
            have j0 : (0 : Int) ≤ (j : Int) := by omega
            have j1 : (j : Int) < (l.length : Int) := by omega
            have j2 : (j : Int) < (ds.length : Int) := by omega
            have k0 : (0 : Int) ≤ (k : Int) := by omega
            have k1 : (k : Int) < ((staleL v l 0).length : Int) := by omega
            have k2 : (k : Int) < 1099511627776 := by omega
            have HADD := Lib.hid (show adds v l ds (j : Int) = d.isSome by unfold adds; rw [Int.toNat_natCast, hs, hd, HK1.out]; cases d <;> rfl)
            clear hcs hcd hcj hx hs hd hw hwX hle hjl
            have hsz := HR.out.bel.size
            cases d with
            | none =>
              replace c1 : wr.cell? ⟨g2, o2 + j, none⟩ = some (.pointer none) := c1
              have HN2 := Lib.hid (show ((staleL v l 0).take (k + 1)).filter (adds v l ds) = ((staleL v l 0).take k).filter (adds v l ds) by rw [HN.out, HADD.out]; simp)
              cases hk2 : s.kind == 2 <;> cases hk3 : s.kind == 3
              all_goals (
                go_wp2
                go_roundw
                case rel => exact ⟨k + 1, by omega, by go_num, rfl, by rw [HN2.out]; exact HR.out⟩
                case measure => simp [intOf]; omega)
            | some b =>
              replace c1 : wr.cell? ⟨g2, o2 + j, none⟩ = some (.pointer (some ⟨b, 0, none⟩)) := c1
              have HN2 := Lib.hid (show ((staleL v l 0).take (k + 1)).filter (adds v l ds) = ((staleL v l 0).take k).filter (adds v l ds) ++ [(j : Int)] by rw [HN.out, HADD.out]; rfl)
              cases hk2 : s.kind == 2 <;> cases hk3 : s.kind == 3
              all_goals (
                go_wp2_with (at_builtin; refine words.wpList_append_any _ rfl (.tmp 52) (.tmp 54) 30 (by rfl) w2.heap.size 3 i0 (.int .i64 0) 1 8 Tryz.underlying30 HI.out HZ0.out HZ1.out HZ2.out rfl (by decide) u9 (((staleL v l 0).take k).filter (adds v l ds)).length ((((staleL v l 0).take k).filter (adds v l ds)).map (Value.int .i64)) (by rfl) (HR.out.own.alloc _) (wr.heap.size + 1) _ 1 1 [.int .i64 (j : Int)] (by rfl) (reads_new _ _ _) (one_one rfl) hn3 hn4 ?_ ?_; (focus (simp; omega)); intro v4 w4 ho hg _; have X4 := Lib.hid (HR.out.add ho hg); clear ho hg; have c5 : w4.cell? ⟨w.heap.size, 0, none⟩ = some (.int .i64 1) := (HBX1.out.below (HX2.out.trans (X4.out.bel.mono HX2.out.size)) HBL.out).cell 0)
                go_roundw
                case rel => exact ⟨k + 1, by omega, by go_num, rfl, by rw [HN2.out]; exact X4.out⟩
                case measure => simp [intOf]; omega)
          · obtain rfl : k = (staleL v l 0).length := by omega
            go_wp2
            go_ret2
            have hr := HR.out
            rw [List.take_of_length_le (Nat.le_refl _)] at hr
            refine ⟨_, _, rfl, ?_, ?_, HW2.out.trans (hr.bel.mono HW2.out.size)⟩
            · rw [← HPL.out, if_pos ⟨HK1.out, trivial, HLL.out⟩]
              exact hr.is.mono (fun b hb => ⟨Nat.le_trans HW2.out.size hb.1, hb.2⟩)
            · rw [← HQL.out, if_neg (fun h => h.1 HK1.out)]
              exact Sl.nil _ _ _ _ _ _
      · have HK1 := Lib.hid hk1
        have HB1k := Lib.hid (show (v.kind == 1) = false by simp [hk1]); clear hk1
        go_loopw [9, 10, 12] (fun p q i wr => ∃ k : Nat, k ≤ (staleL v l 0).length ∧ i = .int .i64 (k : Int) ∧ p = .slice none 0 0 ∧ NumRel w2 wr q (((staleL v l 0).take k).filter (adds v l ds))) (fun _ _ i _ => (staleL v l 0).length - (intOf i).toNat)
        case atStart => exact ⟨0, by omega, rfl, rfl, NumRel.start w2 w2 (Below.refl _ _)⟩
        case round =>
          obtain ⟨k, hk, rfl, rfl, hrel⟩ := hrel
          have HR := Lib.hid hrel; clear hrel
          by_cases hlt : k < (staleL v l 0).length
          · obtain ⟨x, hx⟩ : ∃ x, (staleL v l 0)[k]? = some x := ⟨_, List.getElem?_eq_getElem hlt⟩
            obtain ⟨j, rfl, _, hj⟩ := staleL_mem v l 0 x (List.mem_of_getElem? hx)
            have hj : j < l.length := by omega
            have hj2 : j < ds.length := by rw [← HLL.out]; exact hj
            obtain ⟨s, hs⟩ : ∃ s, l[j]? = some s := ⟨_, List.getElem?_eq_getElem hj⟩
            obtain ⟨d, hd⟩ : ∃ d, ds[j]? = some d := ⟨_, List.getElem?_eq_getElem hj2⟩
            obtain ⟨g, o, rfl, _, hcs⟩ := HC.out (by intro e; rw [e] at hj; simp at hj)
            obtain ⟨g2, o2, rfl, _, hcd⟩ := HC2.out (by intro e; rw [e] at hj2; simp at hj2)
            obtain ⟨g3, o3, rfl, _, hcj⟩ := HR3.out (by intro e; rw [e] at hlt; simp at hlt)
            have hw := HW2.out.trans (HR.out.bel.mono HW2.out.size)
            have hwX := HX2.out.trans (HR.out.bel.mono HX2.out.size)
            have c0 : wr.cell? ⟨g, o + j * 19, none⟩ = some (.int .i64 s.kind) := cell_later hw (hcs j s hs 0 _ rfl)
            have c1 : wr.cell? ⟨g2, o2 + j, none⟩ = some (pV d) := by have := cell_later hw (hcd j d hd 0 _ rfl); rwa [Nat.mul_one] at this
            have c2' : wr.cell? ⟨g3, o3 + k, none⟩ = some (.int .i64 (j : Int)) := by have := cell_later HR.out.bel (hcj k _ hx 0 _ rfl); rwa [Nat.mul_one] at this
            have c3' : wr.cell? ⟨sb, 0, none⟩ = some (.slice (some ⟨g2, o2, none⟩) ds.length c2) := (HBS.out.below hwX HBS.out.lt).cell 0
            have c4' : wr.cell? ⟨w.heap.size, 0, none⟩ = some (.int .i64 v.kind) := (HBX.out.below hwX HBL.out).cell 0
            have hv1 := HB1k.out
            have HN := Lib.hid (filter_take (adds v l ds) (staleL v l 0) k _ hx)
            have hle := filter_le (adds v l ds) (staleL v l 0) k
            have hjl := HJL.out
            have hn3 : (((staleL v l 0).take k).filter (adds v l ds)).length + 1 ≤ maxLen := by unfold maxLen; omega
            have hn4 : ((((staleL v l 0).take k).filter (adds v l ds)).length + 1) * 8 ≤ 140737488355328 := by omega
            have j0 : (0 : Int) ≤ (j : Int) := by omega
            have j1 : (j : Int) < (l.length : Int) := by omega
            have j2 : (j : Int) < (ds.length : Int) := by omega
            have k0 : (0 : Int) ≤ (k : Int) := by omega
            have k1 : (k : Int) < ((staleL v l 0).length : Int) := by omega
            have k2 : (k : Int) < 1099511627776 := by omega
            have HADD := Lib.hid (show adds v l ds (j : Int) = (d.isSome && (v.kind == 2 && (s.kind == 2 || s.kind == 3))) by unfold adds; rw [Int.toNat_natCast, hs, hd]; cases d <;> simp only [HB1k.out, Bool.false_or, Option.isSome, Bool.true_and, Bool.false_and])
            clear hcs hcd hcj hx hs hd hw hwX hle hjl
            have hsz := HR.out.bel.size
            cases d with
            | none =>
              replace c1 : wr.cell? ⟨g2, o2 + j, none⟩ = some (.pointer none) := c1
              cases hk2 : s.kind == 2 <;> cases hk3 : s.kind == 3
              all_goals (
                have HN2 := Lib.hid (show ((staleL v l 0).take (k + 1)).filter (adds v l ds) = ((staleL v l 0).take k).filter (adds v l ds) by rw [HN.out, HADD.out]; simp)
                go_wp2
                go_roundw
                case rel => exact ⟨k + 1, by omega, by go_num, rfl, by rw [HN2.out]; exact HR.out⟩
                case measure => simp [intOf]; omega)
            | some b =>
              replace c1 : wr.cell? ⟨g2, o2 + j, none⟩ = some (.pointer (some ⟨b, 0, none⟩)) := c1
              cases hv2 : v.kind == 2 with
              | false =>
                cases hk2 : s.kind == 2 <;> cases hk3 : s.kind == 3
                all_goals (
                  have HN2 := Lib.hid (show ((staleL v l 0).take (k + 1)).filter (adds v l ds) = ((staleL v l 0).take k).filter (adds v l ds) by rw [HN.out, HADD.out, hv2, hk2, hk3]; simp)
                  go_wp2
                  go_roundw
                  case rel => exact ⟨k + 1, by omega, by go_num, rfl, by rw [HN2.out]; exact HR.out⟩
                  case measure => simp [intOf]; omega)
              | true =>
                cases hk2 : s.kind == 2 with
                | true =>
                  have HN2 := Lib.hid (show ((staleL v l 0).take (k + 1)).filter (adds v l ds) = ((staleL v l 0).take k).filter (adds v l ds) ++ [(j : Int)] by rw [HN.out, HADD.out, hv2, hk2]; rfl)
                  go_wp2_with (at_builtin; refine words.wpList_append_any _ rfl (.tmp 75) (.tmp 77) 30 (by rfl) w2.heap.size 3 i0 (.int .i64 0) 1 8 Tryz.underlying30 HI.out HZ0.out HZ1.out HZ2.out rfl (by decide) u10 (((staleL v l 0).take k).filter (adds v l ds)).length ((((staleL v l 0).take k).filter (adds v l ds)).map (Value.int .i64)) (by rfl) (HR.out.own.alloc _) (wr.heap.size + 1) _ 1 1 [.int .i64 (j : Int)] (by rfl) (reads_new _ _ _) (one_one rfl) hn3 hn4 ?_ ?_; (focus (simp; omega)); intro v4 w4 ho hg _; have X4 := Lib.hid (HR.out.add ho hg); clear ho hg)
                  go_roundw
                  case rel => exact ⟨k + 1, by omega, by go_num, rfl, by rw [HN2.out]; exact X4.out⟩
                  case measure => simp [intOf]; omega
                | false =>
                  cases hk3 : s.kind == 3 with
                  | true =>
                    have HN2 := Lib.hid (show ((staleL v l 0).take (k + 1)).filter (adds v l ds) = ((staleL v l 0).take k).filter (adds v l ds) ++ [(j : Int)] by rw [HN.out, HADD.out, hv2, hk2, hk3]; rfl)
                    go_wp2_with (at_builtin; refine words.wpList_append_any _ rfl (.tmp 75) (.tmp 77) 30 (by rfl) w2.heap.size 3 i0 (.int .i64 0) 1 8 Tryz.underlying30 HI.out HZ0.out HZ1.out HZ2.out rfl (by decide) u10 (((staleL v l 0).take k).filter (adds v l ds)).length ((((staleL v l 0).take k).filter (adds v l ds)).map (Value.int .i64)) (by rfl) (HR.out.own.alloc _) (wr.heap.size + 1) _ 1 1 [.int .i64 (j : Int)] (by rfl) (reads_new _ _ _) (one_one rfl) hn3 hn4 ?_ ?_; (focus (simp; omega)); intro v4 w4 ho hg _; have X4 := Lib.hid (HR.out.add ho hg); clear ho hg)
                    go_roundw
                    case rel => exact ⟨k + 1, by omega, by go_num, rfl, by rw [HN2.out]; exact X4.out⟩
                    case measure => simp [intOf]; omega
                  | false =>
                    have HN2 := Lib.hid (show ((staleL v l 0).take (k + 1)).filter (adds v l ds) = ((staleL v l 0).take k).filter (adds v l ds) by rw [HN.out, HADD.out, hv2, hk2, hk3]; simp)
                    go_wp2
                    go_roundw
                    case rel => exact ⟨k + 1, by omega, by go_num, rfl, by rw [HN2.out]; exact HR.out⟩
                    case measure => simp [intOf]; omega
          · obtain rfl : k = (staleL v l 0).length := by omega
            go_wp2
            go_ret2
            have hr := HR.out
            rw [List.take_of_length_le (Nat.le_refl _)] at hr
            refine ⟨_, _, rfl, ?_, ?_, HW2.out.trans (hr.bel.mono HW2.out.size)⟩
            · rw [← HPL.out, if_neg (fun h => HK1.out h.1)]
              exact Sl.nil _ _ _ _ _ _
            · rw [← HQL.out, if_pos ⟨HK1.out, trivial, HLL.out⟩]
              exact hr.is.mono (fun b hb => ⟨Nat.le_trans HW2.out.size hb.1, hb.2⟩)
    · go_enter Tryz.func5, Tryz.ntmps5
      go_upto_region 1 with fail
      rw [HX.out]
      have g0 : X.cell? ⟨sb, 0, none⟩ = some (.slice A2 ds.length c2) := HBS.out.cell 0
      have HLL := Lib.hid hll
      have q2 : ((l.length : Int) != (ds.length : Int)) = true := by simp; omega
      have q3 : ((l.length : Int) == (ds.length : Int)) = false := by simp; omega
      clear hll
      go_wp2_with (go_at_call 12; refine (HRAW.out _ HBS.out).mono ?_; intro e w1 h1; obtain ⟨rfl, hb1⟩ := h1; have HB1 := Lib.hid hb1; clear hb1; have g1 : w1.cell? ⟨sb, 0, none⟩ = some (.slice A2 ds.length c2) := (HBS.out.below HB1.out HBS.out.lt).cell 0)
      go_ret2
      refine ⟨_, _, rfl, ?_, ?_, HXB.out.trans (HB1.out.mono HXB.out.size)⟩
      · rw [← HPL.out, if_neg (fun h => HLL.out h.2.2)]
        exact Sl.nil _ _ _ _ _ _
      · rw [← HQL.out, if_neg (fun h => HLL.out h.2.2)]
        exact Sl.nil _ _ _ _ _ _
  · go_enter Tryz.func5, Tryz.ntmps5
    go_upto_region 1 with fail
    rw [HX.out]
    have HN0 := Lib.hid hN0
    have q2 : (N != 0) = true := by simp [hN0]
    have q3 : (N == 0) = false := by simp [hN0]
    clear hN0
    go_wp2_with (go_at_call 12; refine (HRAW.out _ HBS.out).mono ?_; intro e w1 h1; obtain ⟨rfl, hb1⟩ := h1; have HB1 := Lib.hid hb1; clear hb1)
    go_ret2
    refine ⟨_, _, rfl, ?_, ?_, HXB.out.trans (HB1.out.mono HXB.out.size)⟩
    · rw [← HPL.out, if_neg (fun h => HN0.out h.2.1)]
      exact Sl.nil _ _ _ _ _ _
    · rw [← HQL.out, if_neg (fun h => HN0.out h.2.1)]
      exact Sl.nil _ _ _ _ _ _
end Go.Proofs.YtiaecfdfjhjgiaaGreat.hp
