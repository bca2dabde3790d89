/- Contract: cairnplay's SameSet: the sets and the drives that are alike on both sides are found so. -/
import Derived.Laws.BytesString
import Derived.Deep.CutRange
import Derived.Deep.RegionHeld3
import Derived.Deep.CutBlock
import Derived.BigQuiet
import Derived.Test.YtiaecfdfjhjgiaaGreatHqD
namespace Go.Proofs.YtiaecfdfjhjgiaaGreat.hp
open Go.RowKit kit Go.ChangeMaps Go.Maps Go.Sort
set_option linter.unusedVariables false

set_option maxRecDepth 1000000 in
set_option maxHeartbeats 4000000 in
theorem sameSet_any (dv wv mv : Value) (prs : List (Option Nat × Option Nat)) (hl : prs.length ≤ 1099511627776) (K M B ep ct s0 s1 s2 s3 s4 s5 s6 s7 : Int) (sb mb : Nat) (w : World) (F : Nat → Prop) (hF : ∀ b, F b → b < w.heap.size) (hd : Sl w F 1 (fun o => [dV o]) dv (prs.map Prod.snd)) (hs : Sl w F 1 (fun o => [pV o]) wv (prs.map Prod.snd)) (hm : Sl w F 1 (fun o => [pV o]) mv (prs.map Prod.fst)) (hone : ∀ p ∈ prs, One w F p.1 p.2)
    (hb1 : Bk w sb 58 #[dv, .int .i64 K, .int .i64 M, .int .i64 B, .int .u8 s0, .int .u8 s1, .int .u8 s2, .int .u8 s3, .int .u8 s4, .int .u8 s5, .int .u8 s6, .int .u8 s7, .int .i64 ep, .int .i64 ct])
    (hb2 : Bk w mb 60 #[mv, .int .i64 K, .int .i64 M, .int .i64 B, .int .u8 s0, .int .u8 s1, .int .u8 s2, .int .u8 s3, .int .u8 s4, .int .u8 s5, .int .u8 s6, .int .u8 s7, .int .i64 ep, .int .i64 ct]) :
    Calls Tryz.prog 10 #[.agg #[dv, wv, mv, .pointer (some ⟨sb, 0, none⟩), .pointer (some ⟨mb, 0, none⟩)]] w fun e w' => e = .returned (.bool true) ∧ Below w.heap.size w w' := by
  have HS := Lib.hid hs
  have HM := Lib.hid hm
  obtain ⟨A1, c1, rfl, hc1⟩ := hd
  obtain ⟨A2, c2, rfl, hc2⟩ := hs
  have HC1 := Lib.hid hc1; clear hc1
  have HC2 := Lib.hid hc2; clear hc2
  rw [List.length_map] at *
  obtain ⟨X, hX⟩ : ∃ X, w.alloc (.cells #[.slice A1 prs.length c1, .slice A2 prs.length c2, mv, .pointer (some ⟨sb, 0, none⟩), .pointer (some ⟨mb, 0, none⟩)] 44) = X := ⟨_, rfl⟩
  have hXB : Below w.heap.size w X := by
    subst hX
    exact (Below.refl _ _).alloc (Nat.le_refl _) _
  have hbx : Bk X w.heap.size 44 #[.slice A1 prs.length c1, .slice A2 prs.length c2, mv, .pointer (some ⟨sb, 0, none⟩), .pointer (some ⟨mb, 0, none⟩)] := by
    subst hX
    exact Bk.mk_new _ _ _
  have h1 := hb1.below hXB hb1.lt
  have h2 := hb2.below hXB hb2.lt
  have HX := Lib.hid hX
  have HXB := Lib.hid hXB
  have HBX := Lib.hid hbx
  have HB1 := Lib.hid h1
  have HB2 := Lib.hid h2
  have HF := Lib.hid hF
  have HONE := Lib.hid hone
  clear hX hXB hbx hb1 hb2 h1 h2 hm hF hone
  have a0 : X.cell? ⟨w.heap.size, 1, none⟩ = some (.slice A2 prs.length c2) := HBX.out.cell 1
  have a3 : X.cell? ⟨w.heap.size, 3, none⟩ = some (.pointer (some ⟨sb, 0, none⟩)) := HBX.out.cell 3
  have a4 : X.cell? ⟨w.heap.size, 4, none⟩ = some (.pointer (some ⟨mb, 0, none⟩)) := HBX.out.cell 4
  have b0 : X.cell? ⟨sb, 0, none⟩ = some (.slice A1 prs.length c1) := HB1.out.cell 0
  have sb_1 : X.cell? ⟨sb, 1, none⟩ = some (.int .i64 K) := HB1.out.cell 1
  have sb_2 : X.cell? ⟨sb, 1 + 1, none⟩ = some (.int .i64 M) := HB1.out.cell 2
  have sb_3 : X.cell? ⟨sb, 1 + 2, none⟩ = some (.int .i64 B) := HB1.out.cell 3
  have sb_4 : X.cell? ⟨sb, 4, none⟩ = some (.int .u8 s0) := HB1.out.cell 4
  have sb_5 : X.cell? ⟨sb, 4 + 1, none⟩ = some (.int .u8 s1) := HB1.out.cell 5
  have sb_6 : X.cell? ⟨sb, 4 + 2, none⟩ = some (.int .u8 s2) := HB1.out.cell 6
  have sb_7 : X.cell? ⟨sb, 4 + 3, none⟩ = some (.int .u8 s3) := HB1.out.cell 7
  have sb_8 : X.cell? ⟨sb, 4 + 4, none⟩ = some (.int .u8 s4) := HB1.out.cell 8
  have sb_9 : X.cell? ⟨sb, 4 + 5, none⟩ = some (.int .u8 s5) := HB1.out.cell 9
  have sb_10 : X.cell? ⟨sb, 4 + 6, none⟩ = some (.int .u8 s6) := HB1.out.cell 10
  have sb_11 : X.cell? ⟨sb, 4 + 7, none⟩ = some (.int .u8 s7) := HB1.out.cell 11
  have sb_12 : X.cell? ⟨sb, 12, none⟩ = some (.int .i64 ep) := HB1.out.cell 12
  have sb_13 : X.cell? ⟨sb, 12 + 1, none⟩ = some (.int .i64 ct) := HB1.out.cell 13
  have mb_1 : X.cell? ⟨mb, 1, none⟩ = some (.int .i64 K) := HB2.out.cell 1
  have mb_2 : X.cell? ⟨mb, 1 + 1, none⟩ = some (.int .i64 M) := HB2.out.cell 2
  have mb_3 : X.cell? ⟨mb, 1 + 2, none⟩ = some (.int .i64 B) := HB2.out.cell 3
  have mb_4 : X.cell? ⟨mb, 4, none⟩ = some (.int .u8 s0) := HB2.out.cell 4
  have mb_5 : X.cell? ⟨mb, 4 + 1, none⟩ = some (.int .u8 s1) := HB2.out.cell 5
  have mb_6 : X.cell? ⟨mb, 4 + 2, none⟩ = some (.int .u8 s2) := HB2.out.cell 6
  have mb_7 : X.cell? ⟨mb, 4 + 3, none⟩ = some (.int .u8 s3) := HB2.out.cell 7
  have mb_8 : X.cell? ⟨mb, 4 + 4, none⟩ = some (.int .u8 s4) := HB2.out.cell 8
  have mb_9 : X.cell? ⟨mb, 4 + 5, none⟩ = some (.int .u8 s5) := HB2.out.cell 9
  have mb_10 : X.cell? ⟨mb, 4 + 6, none⟩ = some (.int .u8 s6) := HB2.out.cell 10
  have mb_11 : X.cell? ⟨mb, 4 + 7, none⟩ = some (.int .u8 s7) := HB2.out.cell 11
  have mb_12 : X.cell? ⟨mb, 12, none⟩ = some (.int .i64 ep) := HB2.out.cell 12
  have mb_13 : X.cell? ⟨mb, 12 + 1, none⟩ = some (.int .i64 ct) := HB2.out.cell 13
  have n1 := neq24 K M B
  have n2 := neq25 s0 s1 s2 s3 s4 s5 s6 s7
  have n3 := neq27 ep ct
  go_enter Tryz.func10, Tryz.ntmps10
  go_upto_region 1 with fail
  rw [HX.out]
  go_upto_region 1 with fail
  go_quiet (fail)
  have hd0 : X.cell? ⟨w.heap.size, 1, none⟩ = some (.slice A2 prs.length c2) := a0
  clear sb_1 sb_2 sb_3 sb_4 sb_5 sb_6 sb_7 sb_8 sb_9 sb_10 sb_11 sb_12 sb_13 mb_1 mb_2 mb_3 mb_4 mb_5 mb_6 mb_7 mb_8 mb_9 mb_10 mb_11 mb_12 mb_13 n1 n2 n3
  go_wp2
  go_loopw [3] (fun i wr => ∃ k m : Nat, k ≤ prs.length ∧ i = .int .i64 k ∧ wr = X.drewN m) (fun i _ => prs.length - (intOf i).toNat)
  case atStart => exact ⟨0, _, by omega, rfl, rfl⟩
  case round =>
    obtain ⟨i, mm, hkk, rfl, rfl⟩ := hrel
    by_cases hlt : i < prs.length
    · obtain ⟨d, hx⟩ : ∃ d, (prs.map Prod.snd)[i]? = some d := ⟨_, List.getElem?_eq_getElem (by rw [List.length_map]; exact hlt)⟩
      obtain ⟨g1, o1, rfl, _, hc1⟩ := HC1.out (by intro e; rw [List.map_eq_nil_iff] at e; rw [e] at hlt; simp at hlt)
      obtain ⟨g2, o2, rfl, _, hc2⟩ := HC2.out (by intro e; rw [List.map_eq_nil_iff] at e; rw [e] at hlt; simp at hlt)
      have e1 : X.cell? ⟨g1, o1 + i, none⟩ = some (dV d) := by have := cell_later HXB.out (hc1 i d hx 0 _ rfl); rwa [Nat.mul_one] at this
      have e2 : X.cell? ⟨g2, o2 + i, none⟩ = some (pV d) := by have := cell_later HXB.out (hc2 i d hx 0 _ rfl); rwa [Nat.mul_one] at this
      have hi0 : (0 : Int) ≤ (i : Int) := by omega
      have hi1 : (i : Int) < (prs.length : Int) := by omega
      clear hx hc1 hc2
      cases d with
      | none =>
        replace e1 : X.cell? ⟨g1, o1 + i, none⟩ = some .nilIface := e1
        replace e2 : X.cell? ⟨g2, o2 + i, none⟩ = some (.pointer none) := e2
        go_wp2
        go_quiet (fail)
        go_wp2
        go_roundw
        case rel => exact ⟨i + 1, _, by omega, by go_num, rfl⟩
        case measure => simp [intOf]; omega
      | some pb =>
        replace e1 : X.cell? ⟨g1, o1 + i, none⟩ = some (.iface 77 (.pointer (some ⟨pb, 0, none⟩))) := e1
        replace e2 : X.cell? ⟨g2, o2 + i, none⟩ = some (.pointer (some ⟨pb, 0, none⟩)) := e2
        go_wp2
        go_quiet (fail)
        go_wp2
        go_roundw
        case rel => exact ⟨i + 1, _, by omega, by go_num, rfl⟩
        case measure => simp [intOf]; omega
    · obtain rfl : i = prs.length := by omega
      have z1 : (X.drewN mm).cell? ⟨w.heap.size, 0, none⟩ = some (.slice A1 prs.length c1) := HBX.out.cell 0
      have z2 : (X.drewN mm).cell? ⟨w.heap.size, 1, none⟩ = some (.slice A2 prs.length c2) := HBX.out.cell 1
      have z3 : (X.drewN mm).cell? ⟨w.heap.size, 2, none⟩ = some mv := HBX.out.cell 2
      have HMM := Lib.hid (below_drewN HXB.out mm)
      go_wp2_with (go_at_call 17; refine (same_any _ _ mv prs hl (X.drewN mm) F (fun b hb => Nat.lt_of_lt_of_le (HF.out b hb) HMM.out.size) (HS.out.keep HMM.out) (HM.out.keep HMM.out) (fun p hp => (HONE.out p hp).kept (fun b hb => HMM.out.block b (HF.out b hb)))).mono ?_; intro e w1 h1; obtain ⟨rfl, hb1⟩ := h1)
      go_ret
      exact ⟨rfl, HMM.out.trans (hb1.mono HMM.out.size)⟩
end Go.Proofs.YtiaecfdfjhjgiaaGreat.hp
