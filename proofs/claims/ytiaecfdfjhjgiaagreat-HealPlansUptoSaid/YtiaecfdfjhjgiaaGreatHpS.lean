/- Contracts: the acts done to both worlds at one place: armed, offline, fused. -/
import Derived.Test.YtiaecfdfjhjgiaaGreatHpN
import Derived.Test.YtiaecfdfjhjgiaaGreatHpR
import Derived.Deep.CutRange
import Derived.Deep.RegionHeld3
import Derived.Sort.KeysCollected
import Derived.Test.YtiaecfdfjhjgiaaGreatShelf
namespace Go.Proofs.YtiaecfdfjhjgiaaGreat.hp
open Go.RowKit kit Go.ChangeMaps Go.Maps Go.Sort
set_option linter.unusedVariables false

theorem nine_put {w : World} {b : Nat} {t : TypeId} {x0 x1 x2 x3 x4 x5 x6 x7 x8 x9 : Value} (h : Bk w b t #[x0, x1, x2, x3, x4, x5, x6, x7, x8, x9]) (u1 u2 u3 u4 u5 u6 u7 u8 u9 : Value) : Bk (((((((((w.setCell ⟨b, 1, none⟩ u1).setCell ⟨b, 2, none⟩ u2).setCell ⟨b, 3, none⟩ u3).setCell ⟨b, 4, none⟩ u4).setCell ⟨b, 5, none⟩ u5).setCell ⟨b, 6, none⟩ u6).setCell ⟨b, 7, none⟩ u7).setCell ⟨b, 8, none⟩ u8).setCell ⟨b, 9, none⟩ u9) b t #[x0, u1, u2, u3, u4, u5, u6, u7, u8, u9] := by
  have h1 : Bk _ b t #[x0, u1, x2, x3, x4, x5, x6, x7, x8, x9] := h.put 1 u1
  have h2 : Bk _ b t #[x0, u1, u2, x3, x4, x5, x6, x7, x8, x9] := h1.put 2 u2
  have h3 : Bk _ b t #[x0, u1, u2, u3, x4, x5, x6, x7, x8, x9] := h2.put 3 u3
  have h4 : Bk _ b t #[x0, u1, u2, u3, u4, x5, x6, x7, x8, x9] := h3.put 4 u4
  have h5 : Bk _ b t #[x0, u1, u2, u3, u4, u5, x6, x7, x8, x9] := h4.put 5 u5
  have h6 : Bk _ b t #[x0, u1, u2, u3, u4, u5, u6, x7, x8, x9] := h5.put 6 u6
  have h7 : Bk _ b t #[x0, u1, u2, u3, u4, u5, u6, u7, x8, x9] := h6.put 7 u7
  have h8 : Bk _ b t #[x0, u1, u2, u3, u4, u5, u6, u7, u8, x9] := h7.put 8 u8
  have h9 : Bk _ b t #[x0, u1, u2, u3, u4, u5, u6, u7, u8, u9] := h8.put 9 u9
  exact h9
theorem nine_set {a w : World} {b : Nat} (h : Side (some b) a w) (u1 u2 u3 u4 u5 u6 u7 u8 u9 : Value) : Side (some b) a (((((((((w.setCell ⟨b, 1, none⟩ u1).setCell ⟨b, 2, none⟩ u2).setCell ⟨b, 3, none⟩ u3).setCell ⟨b, 4, none⟩ u4).setCell ⟨b, 5, none⟩ u5).setCell ⟨b, 6, none⟩ u6).setCell ⟨b, 7, none⟩ u7).setCell ⟨b, 8, none⟩ u8).setCell ⟨b, 9, none⟩ u9) :=
  (((((((((h.set 1 u1).set 2 u2).set 3 u3).set 4 u4).set 5 u5).set 6 u6).set 7 u7).set 8 u8).set 9 u9)
/-- What a wound and a model have in common, as their two blocks say it. -/
def Gates (w : World) (F : Nat → Prop) (wb mb : Nat) (pb rb : Nat) : Prop :=
  ∃ (aw aw' la : Bool) (A1 A2 : Option Addr) (n1 n2 c1 c2 : Nat) (r k i : Int) (fz : Option Addr),
    Bk w wb 107 #[.pointer (some ⟨pb, 0, none⟩), .bool false, .bool aw, .slice A1 n1 c1, .int .i64 0, .int .i64 0, .pointer fz] ∧
    Bk w mb 102 #[.pointer (some ⟨rb, 0, none⟩), .bool false, .bool aw', .slice A2 n2 c2, .int .i64 0, .int .i64 0, .bool la, .int .i64 r, .int .i64 k, .int .i64 i] ∧
    ((fz = none ∧ (la && r == 0) = false) ∨ ∃ f : Nat, fz = some ⟨f, 0, none⟩ ∧ F f ∧ f ≠ wb ∧ f ≠ mb ∧ w.cell? ⟨f, 0, none⟩ = some (.int .i64 r) ∧ la = true)
theorem Side.trans {r : Option Nat} {a b c : World} (h : Side r a b) (h2 : Side r b c) : Side r a c := ⟨h.low.trans h2.low, fun g h1 hr => (h2.block g (Nat.lt_of_lt_of_le h1 h.size) hr).trans (h.block g h1 hr)⟩
set_option maxRecDepth 1000000 in
set_option maxHeartbeats 4000000 in
theorem doArm_any (D : Value) (gw ow gm om n cw cm i wb mb pb rb : Nat) (v : Value) (l : List Flt) (hl : l.length ≤ 1099511627776) (hi : i < n) (w : World) (S : Nat → Prop)
    (hw : w.cell? ⟨gw, ow + i, none⟩ = some (.pointer (some ⟨wb, 0, none⟩))) (hm : w.cell? ⟨gm, om + i, none⟩ = some (.pointer (some ⟨mb, 0, none⟩))) (h : Sl w S 2 flC v l) (hS : ∀ b, S b → b < w.heap.size ∧ b ≠ wb) (F : Nat → Prop) (hg : Gates w F wb mb pb rb) (hne : wb ≠ mb)
    (hgw : gw ≠ wb ∧ gw ≠ mb) (hgm : gm ≠ wb ∧ gm ≠ mb) :
    Calls Tryz.prog 23 #[.agg #[D, .slice (some ⟨gw, ow, none⟩) n cw, .slice (some ⟨gm, om, none⟩) n cm], .agg #[.int .i64 1, .int .i64 (i : Int), .int .i64 0, .int .i64 0, .slice none 0 0, v, .int .i64 0, .int .i64 0, .int .i64 0, .slice none 0 0]] w
      fun e w' => e = .returned (.tuple #[]) ∧ Gates w' (fun b => F b ∨ w.heap.size ≤ b) wb mb pb rb ∧ Below 0 w w' ∧ ∀ g, g < w.heap.size → g ≠ wb → g ≠ mb → w'.heap[g]? = w.heap[g]? := by
  obtain ⟨A, c, rfl, hr⟩ := h.reads flC_len (by decide)
  obtain ⟨i0, hi0, hz0, hz1, hz2⟩ := info_parts info220
  have HI := Lib.hid hi0; clear hi0
  have HZ0 := Lib.hid hz0; clear hz0
  have HZ1 := Lib.hid hz1; clear hz1
  have HZ2 := Lib.hid hz2; clear hz2
  have HR := Lib.hid hr; clear hr
  have HS0 := Lib.hid (h.mono hS)
  have hn1 : 0 + l.length ≤ maxLen := by unfold maxLen; omega
  have hn2 : (0 + l.length) * 16 ≤ 140737488355328 := by omega
  have hi1 : (0 : Int) ≤ (i : Int) := by omega
  have hi2 : (i : Int) < (n : Int) := by omega
  have hi3 : decide (n ≤ i) = false := by simp; omega
  have l1 : gw < w.heap.size := block_lt_of_cell hw
  have l2 : gm < w.heap.size := block_lt_of_cell hm
  have q1 : ¬ (gw = w.heap.size) := by omega
  have q2 : ¬ (gw = w.heap.size + 1) := by omega
  have q3 : ¬ (gm = w.heap.size) := by omega
  have q4 : ¬ (gm = w.heap.size + 1) := by omega
  obtain ⟨aw, aw', la, A1, A2, n1, n2, c1, c2, r, k, j, fz, g1, g2, g3⟩ := hg
  have HG1 := Lib.hid g1
  have HG2 := Lib.hid g2
  have HG3 := Lib.hid g3
  have m1 : wb < w.heap.size := g1.lt
  have m2 : mb < w.heap.size := g2.lt
  have HW := Lib.hid hw
  have HM := Lib.hid hm
  clear g1 g2 g3
  have cP := fun wx => pick_in (i : Int) (n : Int) (by omega) (by omega) wx
  go_enter Tryz.func23, Tryz.ntmps23
  go_upto_region 12 with (go_at_call 50; refine (cP _).mono ?_; rintro e w' ⟨rfl, rfl⟩)
  obtain ⟨X, hX⟩ : ∃ X, ((w.alloc (.cells #[D, .slice (some ⟨gw, ow, none⟩) n cw, .slice (some ⟨gm, om, none⟩) n cm] 40)).alloc (.cells #[.int .i64 1, .int .i64 (i : Int), .int .i64 0, .int .i64 0, .slice none 0 0, .slice A l.length c, .int .i64 0, .int .i64 0, .int .i64 0, .slice none 0 0] 92)) = X := ⟨_, rfl⟩
  rw [hX]
  have hXB : Below w.heap.size w X := by
    subst hX
    exact ((Below.refl _ _).alloc (Nat.le_refl _) _).alloc (by simp) _
  have hbx : Bk X (w.heap.size + 1) 92 #[.int .i64 1, .int .i64 (i : Int), .int .i64 0, .int .i64 0, .slice none 0 0, .slice A l.length c, .int .i64 0, .int .i64 0, .int .i64 0, .slice none 0 0] := by
    subst hX
    have := Bk.mk_new (w.alloc (.cells #[D, .slice (some ⟨gw, ow, none⟩) n cw, .slice (some ⟨gm, om, none⟩) n cm] 40)) 92 #[.int .i64 1, .int .i64 (i : Int), .int .i64 0, .int .i64 0, .slice none 0 0, .slice A l.length c, .int .i64 0, .int .i64 0, .int .i64 0, .slice none 0 0]
    simpa using this
  have hXs := hbx.lt
  have x5 : X.cell? ⟨w.heap.size + 1, 5, none⟩ = some (.slice A l.length c) := hbx.cell 5
  have hRX : words.Reads X w.heap.size 2 A l.length (l.flatMap flC) := HR.out.below hXB
  have HXB := Lib.hid hXB
  have HBX := Lib.hid hbx
  have HRX := Lib.hid hRX
  have cA : ∀ (v1 : Value) (w1 : World), Hid (w1.ownsRow X.heap.size 220 2 v1 (0 + l.length) ([] ++ l.flatMap flC)) → Hid (X.grownBy w1 (Value.slice none 0 0).ownBlock) → Calls Tryz.prog 51 #[.pointer (some ⟨wb, 0, none⟩), v1] w1 fun e w2 => e = .returned (.tuple #[]) ∧
      Hid ((∃ A' n' c', Bk w2 wb 107 #[.pointer (some ⟨pb, 0, none⟩), .bool false, .bool aw, .slice A' n' c', .int .i64 0, .int .i64 0, .pointer fz]) ∧ Side (some wb) X w2) := by
    intro v1 w1 ho hg
    have hbel : Below X.heap.size X w1 := Below.grown (Below.refl _ _) hg.out (Nat.le_refl _) (fun j hj => by simp [Value.ownBlock] at hj)
    have ho' : w1.ownsRow X.heap.size 220 2 v1 l.length (l.flatMap flC) := by simpa using ho.out
    refine (warm_any wb v1 _ _ _ _ _ _ _ l hl w1 (New X w1) (Sl.of_own flC_len ho' (fun g h1 h2 => ⟨h1, h2⟩)) (fun b hb => ⟨hb.2, by have := hb.1; have := HXB.out.size; omega⟩) ((HG1.out.below HXB.out m1).below hbel (by have := HXB.out.size; omega))).mono ?_
    rintro e w2 ⟨rfl, h1, h2⟩
    exact ⟨rfl, Lib.hid ⟨h1, (Side.of_below (some wb) hbel).trans h2⟩⟩
  clear hX hXB hbx hRX hw hm h
  go_wp2_with (first
    | (at_builtin; refine words.wpList_append_any _ rfl (.const (.slice none 0 0)) (.tmp 64) 79 (by rfl) X.heap.size 220 i0 (.agg #[.int .i64 0, .int .i64 0]) 2 16 Tryz.underlying79 HI.out HZ0.out HZ1.out HZ2.out rfl (by decide) _ 0 [] (by rfl) (World.ownsRow_nil _ _ _ _) w.heap.size A l.length c (l.flatMap flC) (by rfl) HRX.out (flat_one flC flC_one l) hn1 hn2 (Nat.le_refl _) ?_; intro v1 w1 ho hg _; have HO := Lib.hid ho; have HGR := Lib.hid hg; clear ho hg)
    | (go_at_call 51; refine (cA _ _ HO HGR).mono ?_; rintro e w2 ⟨rfl, H2⟩))
  obtain ⟨⟨A', n', c', hb2⟩, hs2⟩ := H2.out
  have hm2 : Bk w2 mb 102 #[.pointer (some ⟨rb, 0, none⟩), .bool false, .bool aw', .slice A2 n2 c2, .int .i64 0, .int .i64 0, .bool la, .int .i64 r, .int .i64 k, .int .i64 j] := hs2.bk (HG2.out.below HXB.out m2) (fun e => hne (by injection e with e; exact e.symm))
  have hx2 := hs2.bk HBX.out (fun e => by injection e with e; omega)
  have hw2 := hs2.size
  have x6 : ∀ W, Side (some mb) w2 W → W.cell? ⟨w.heap.size + 1, 5, none⟩ = some (.slice A l.length c) := fun W hW => (hW.bk hx2 (fun e => by injection e with e; omega)).cell 5
  have e1 : w2.cell? ⟨mb, 1, none⟩ = some (.bool false) := hm2.cell 1
  have e2 : w2.cell? ⟨mb, 2, none⟩ = some (.bool aw') := hm2.cell 2
  have e3 : w2.cell? ⟨mb, 3, none⟩ = some (.slice A2 n2 c2) := hm2.cell 3
  have e4 : w2.cell? ⟨mb, 4, none⟩ = some (.int .i64 0) := hm2.cell 4
  have e5 : w2.cell? ⟨mb, 5, none⟩ = some (.int .i64 0) := hm2.cell 5
  have e6 : w2.cell? ⟨mb, 6, none⟩ = some (.bool la) := hm2.cell 6
  have e7 : w2.cell? ⟨mb, 7, none⟩ = some (.int .i64 r) := hm2.cell 7
  have e8 : w2.cell? ⟨mb, 8, none⟩ = some (.int .i64 k) := hm2.cell 8
  have e9 : w2.cell? ⟨mb, 9, none⟩ = some (.int .i64 j) := hm2.cell 9
  have f2 := hm2.free
  have hRw2 : Sl w2 (fun b => b < w.heap.size ∧ b ≠ wb) 2 flC (.slice A l.length c) l := (HS0.out.kept (fun b hb => (hs2.block b (by have := HXB.out.size; omega) (fun e => hb.2 (by injection e))).trans (HXB.out.block b hb.1)))
  have cG : Calls Tryz.prog 52 #[.agg #[.bool false, .bool aw', .slice A2 n2 c2, .int .i64 0, .int .i64 0, .bool la, .int .i64 r, .int .i64 k, .int .i64 j], .slice A l.length c] w2.drew fun e w3 => ∃ A3 n3 c3, e = .returned (.agg #[.bool false, .bool aw', .slice A3 n3 c3, .int .i64 0, .int .i64 0, .bool la, .int .i64 r, .int .i64 k, .int .i64 j]) ∧ Hid (Below w2.heap.size w2 w3) := by
    refine (garm_any _ _ _ _ _ _ _ _ _ _ _ _ l hl w2.drew _ (hRw2.keep (Below.drew (Below.refl _ _)))).mono ?_
    rintro e w3 ⟨A3, n3, c3, rfl, h3⟩
    exact ⟨A3, n3, c3, rfl, Lib.hid ((Below.drew (Below.refl _ _)).trans h3)⟩
  have HM2 := Lib.hid hm2
  have HB2 := Lib.hid hb2
  have HS2 := Lib.hid hs2
  have HM2L := Lib.hid hm2.lt
  have CF : Hid (∀ (Z : World) (A3 : Option Addr) (n3 c3 : Nat), Side (some mb) w2 Z → Bk Z mb 102 #[.pointer (some ⟨rb, 0, none⟩), .bool false, .bool aw', .slice A3 n3 c3, .int .i64 0, .int .i64 0, .bool la, .int .i64 r, .int .i64 k, .int .i64 j] →
      Gates Z (fun b => F b ∨ w.heap.size ≤ b) wb mb pb rb ∧ Below 0 w Z ∧ ∀ g, g < w.heap.size → g ≠ wb → g ≠ mb → Z.heap[g]? = w.heap[g]?) := Lib.hid (by
    intro Z A3 n3 c3 hZS hZB
    refine ⟨⟨aw, aw', la, A', A3, n', n3, c', c3, r, k, j, fz, hZS.bk hb2 (fun e => hne (by injection e)), hZB, ?_⟩, ?_, ?_⟩
    · refine HG3.out.imp id ?_
      rintro ⟨f, hf, hF, h1, h2, h3, h4⟩
      refine ⟨f, hf, Or.inl hF, h1, h2, ?_, h4⟩
      have hfl : f < w.heap.size := block_lt_of_cell h3
      have h5 := HXB.out.cell (p := ⟨f, 0, none⟩) hfl
      exact hZS.cell (hs2.cell (h5.trans h3) (fun e => h1 (by injection e))) (fun e => h2 (by injection e))
    · exact (HXB.out.mono (Nat.zero_le _)).trans (hs2.low.trans hZS.low)
    · intro g hg hg1 hg2
      have hgX : g < X.heap.size := Nat.lt_of_lt_of_le hg HXB.out.size
      exact (hZS.block g (Nat.lt_of_lt_of_le hgX hw2) (fun e => hg2 (by injection e))).trans ((hs2.block g hgX (fun e => hg1 (by injection e))).trans (HXB.out.block g hg)))
  clear hb2 hs2 hm2 hx2 hRw2 H2
  have x7 : w2.cell? ⟨w.heap.size + 1, 5, none⟩ = some (.slice A l.length c) := x6 w2 (Side.refl _ _)
  clear x6
  go_region_with
    (first
      | (go_at_call 52; refine cG.mono ?_; rintro e w3 ⟨A3, n3, c3, rfl, H3⟩; have hS3 := Side.of_below (some mb) H3.out; have b3 := HM2.out.below H3.out HM2L.out; have e1 : w3.cell? ⟨mb, 1, none⟩ = some (.bool false) := b3.cell 1; have e2 : w3.cell? ⟨mb, 2, none⟩ = some (.bool aw') := b3.cell 2; have e3 : w3.cell? ⟨mb, 3, none⟩ = some (.slice A2 n2 c2) := b3.cell 3; have e4 : w3.cell? ⟨mb, 4, none⟩ = some (.int .i64 0) := b3.cell 4; have e5 : w3.cell? ⟨mb, 5, none⟩ = some (.int .i64 0) := b3.cell 5; have e6 : w3.cell? ⟨mb, 6, none⟩ = some (.bool la) := b3.cell 6; have e7 : w3.cell? ⟨mb, 7, none⟩ = some (.int .i64 r) := b3.cell 7; have e8 : w3.cell? ⟨mb, 8, none⟩ = some (.int .i64 k) := b3.cell 8; have e9 : w3.cell? ⟨mb, 9, none⟩ = some (.int .i64 j) := b3.cell 9; have f3 := b3.free; have HB3 := Lib.hid b3; clear b3))
  all_goals (go_wp2_with fail; go_end0)
  all_goals exact ⟨rfl, CF.out _ A3 n3 c3 (nine_set hS3 _ _ _ _ _ _ _ _ _) (nine_put HB3.out _ _ _ _ _ _ _ _ _)⟩
set_option maxRecDepth 1000000 in
set_option maxHeartbeats 4000000 in
theorem doOff_any (D : Value) (gw ow gm om n cw cm i wb mb pb rb : Nat) (hi : i < n) (w : World)
    (hw : w.cell? ⟨gw, ow + i, none⟩ = some (.pointer (some ⟨wb, 0, none⟩))) (hm : w.cell? ⟨gm, om + i, none⟩ = some (.pointer (some ⟨mb, 0, none⟩))) (F : Nat → Prop) (hg : Gates w F wb mb pb rb) (hne : wb ≠ mb)
    (hgw : gw ≠ wb ∧ gw ≠ mb) (hgm : gm ≠ wb ∧ gm ≠ mb) :
    Calls Tryz.prog 23 #[.agg #[D, .slice (some ⟨gw, ow, none⟩) n cw, .slice (some ⟨gm, om, none⟩) n cm], .agg #[.int .i64 2, .int .i64 (i : Int), .int .i64 0, .int .i64 0, .slice none 0 0, .slice none 0 0, .int .i64 0, .int .i64 0, .int .i64 0, .slice none 0 0]] w
      fun e w' => e = .returned (.tuple #[]) ∧ Gates w' (fun b => F b ∨ w.heap.size ≤ b) wb mb pb rb ∧ Below 0 w w' ∧ ∀ g, g < w.heap.size → g ≠ wb → g ≠ mb → w'.heap[g]? = w.heap[g]? := by
  have hi1 : (0 : Int) ≤ (i : Int) := by omega
  have hi2 : (i : Int) < (n : Int) := by omega
  have hi3 : decide (n ≤ i) = false := by simp; omega
  have l1 : gw < w.heap.size := block_lt_of_cell hw
  have l2 : gm < w.heap.size := block_lt_of_cell hm
  have q1 : ¬ (gw = w.heap.size) := by omega
  have q2 : ¬ (gw = w.heap.size + 1) := by omega
  have q3 : ¬ (gm = w.heap.size) := by omega
  have q4 : ¬ (gm = w.heap.size + 1) := by omega
  obtain ⟨aw, aw', la, A1, A2, n1, n2, c1, c2, r, k, j, fz, g1, g2, g3⟩ := hg
  have HG1 := Lib.hid g1
  have HG2 := Lib.hid g2
  have HG3 := Lib.hid g3
  have m1 : wb < w.heap.size := g1.lt
  have m2 : mb < w.heap.size := g2.lt
  have HW := Lib.hid hw
  have HM := Lib.hid hm
  clear g1 g2 g3
  have cP := fun wx => pick_in (i : Int) (n : Int) (by omega) (by omega) wx
  go_enter Tryz.func23, Tryz.ntmps23
  go_upto_region 16 with (go_at_call 50; refine (cP _).mono ?_; rintro e w' ⟨rfl, rfl⟩)
  obtain ⟨X, hX⟩ : ∃ X, ((w.alloc (.cells #[D, .slice (some ⟨gw, ow, none⟩) n cw, .slice (some ⟨gm, om, none⟩) n cm] 40)).alloc (.cells #[.int .i64 2, .int .i64 (i : Int), .int .i64 0, .int .i64 0, .slice none 0 0, .slice none 0 0, .int .i64 0, .int .i64 0, .int .i64 0, .slice none 0 0] 92)) = X := ⟨_, rfl⟩
  rw [hX]
  have hXB : Below w.heap.size w X := by
    subst hX
    exact ((Below.refl _ _).alloc (Nat.le_refl _) _).alloc (by simp) _
  have hbx : Bk X (w.heap.size + 1) 92 #[.int .i64 2, .int .i64 (i : Int), .int .i64 0, .int .i64 0, .slice none 0 0, .slice none 0 0, .int .i64 0, .int .i64 0, .int .i64 0, .slice none 0 0] := by
    subst hX
    have := Bk.mk_new (w.alloc (.cells #[D, .slice (some ⟨gw, ow, none⟩) n cw, .slice (some ⟨gm, om, none⟩) n cm] 40)) 92 #[.int .i64 2, .int .i64 (i : Int), .int .i64 0, .int .i64 0, .slice none 0 0, .slice none 0 0, .int .i64 0, .int .i64 0, .int .i64 0, .slice none 0 0]
    simpa using this
  have hXs := hbx.lt
  have x5 : X.cell? ⟨w.heap.size + 1, 0, none⟩ = some (.int .i64 2) := hbx.cell 0
  have HXB := Lib.hid hXB
  have HBX := Lib.hid hbx
  have cA : Calls Tryz.prog 53 #[.pointer (some ⟨wb, 0, none⟩), .bool true] X fun e w2 => e = .returned (.tuple #[]) ∧
      Hid (Bk w2 wb 107 #[.pointer (some ⟨pb, 0, none⟩), .bool false, .bool true, .slice A1 n1 c1, .int .i64 0, .int .i64 0, .pointer fz] ∧ Side (some wb) X w2) := by
    refine (woff_any wb _ _ _ _ _ _ aw true X (HG1.out.below HXB.out m1)).mono ?_
    rintro e w2 ⟨rfl, h1, h2⟩
    exact ⟨rfl, Lib.hid ⟨h1, h2⟩⟩
  clear hX hXB hbx hw hm
  go_wp2_with (go_at_call 53; refine cA.mono ?_; rintro e w2 ⟨rfl, H2⟩)
  obtain ⟨hb2, hs2⟩ := H2.out
  have hm2 : Bk w2 mb 102 #[.pointer (some ⟨rb, 0, none⟩), .bool false, .bool aw', .slice A2 n2 c2, .int .i64 0, .int .i64 0, .bool la, .int .i64 r, .int .i64 k, .int .i64 j] := hs2.bk (HG2.out.below HXB.out m2) (fun e => hne (by injection e with e; exact e.symm))
  have hx2 := hs2.bk HBX.out (fun e => by injection e with e; omega)
  have hw2 := hs2.size
  have x7 : w2.cell? ⟨w.heap.size + 1, 0, none⟩ = some (.int .i64 2) := hx2.cell 0
  have e1 : w2.cell? ⟨mb, 1, none⟩ = some (.bool false) := hm2.cell 1
  have e2 : w2.cell? ⟨mb, 2, none⟩ = some (.bool aw') := hm2.cell 2
  have e3 : w2.cell? ⟨mb, 3, none⟩ = some (.slice A2 n2 c2) := hm2.cell 3
  have e4 : w2.cell? ⟨mb, 4, none⟩ = some (.int .i64 0) := hm2.cell 4
  have e5 : w2.cell? ⟨mb, 5, none⟩ = some (.int .i64 0) := hm2.cell 5
  have e6 : w2.cell? ⟨mb, 6, none⟩ = some (.bool la) := hm2.cell 6
  have e7 : w2.cell? ⟨mb, 7, none⟩ = some (.int .i64 r) := hm2.cell 7
  have e8 : w2.cell? ⟨mb, 8, none⟩ = some (.int .i64 k) := hm2.cell 8
  have e9 : w2.cell? ⟨mb, 9, none⟩ = some (.int .i64 j) := hm2.cell 9
  have f2 := hm2.free
  have cG : Calls Tryz.prog 54 #[.agg #[.bool false, .bool aw', .slice A2 n2 c2, .int .i64 0, .int .i64 0, .bool la, .int .i64 r, .int .i64 k, .int .i64 j], .bool true] w2.drew fun e w3 => e = .returned (.agg #[.bool false, .bool true, .slice A2 n2 c2, .int .i64 0, .int .i64 0, .bool la, .int .i64 r, .int .i64 k, .int .i64 j]) ∧ Hid (Below w2.heap.size w2 w3) := by
    refine (goff_any _ _ _ _ _ _ _ _ _ _ _ _ w2.drew).mono ?_
    rintro e w3 ⟨rfl, h3⟩
    exact ⟨rfl, Lib.hid ((Below.drew (Below.refl _ _)).trans h3)⟩
  have HM2 := Lib.hid hm2
  have HB2 := Lib.hid hb2
  have HS2 := Lib.hid hs2
  have HM2L := Lib.hid hm2.lt
  have CF : Hid (∀ (Z : World), Side (some mb) w2 Z → Bk Z mb 102 #[.pointer (some ⟨rb, 0, none⟩), .bool false, .bool true, .slice A2 n2 c2, .int .i64 0, .int .i64 0, .bool la, .int .i64 r, .int .i64 k, .int .i64 j] →
      Gates Z (fun b => F b ∨ w.heap.size ≤ b) wb mb pb rb ∧ Below 0 w Z ∧ ∀ g, g < w.heap.size → g ≠ wb → g ≠ mb → Z.heap[g]? = w.heap[g]?) := Lib.hid (by
    intro Z hZS hZB
    refine ⟨⟨true, true, la, A1, A2, n1, n2, c1, c2, r, k, j, fz, hZS.bk hb2 (fun e => hne (by injection e)), hZB, ?_⟩, ?_, ?_⟩
    · refine HG3.out.imp id ?_
      rintro ⟨f, hf, hF, h1, h2, h3, h4⟩
      refine ⟨f, hf, Or.inl hF, h1, h2, ?_, h4⟩
      have hfl : f < w.heap.size := block_lt_of_cell h3
      have h5 := HXB.out.cell (p := ⟨f, 0, none⟩) hfl
      exact hZS.cell (hs2.cell (h5.trans h3) (fun e => h1 (by injection e))) (fun e => h2 (by injection e))
    · exact (HXB.out.mono (Nat.zero_le _)).trans (hs2.low.trans hZS.low)
    · intro g hg hg1 hg2
      have hgX : g < X.heap.size := Nat.lt_of_lt_of_le hg HXB.out.size
      exact (hZS.block g (Nat.lt_of_lt_of_le hgX hw2) (fun e => hg2 (by injection e))).trans ((hs2.block g hgX (fun e => hg1 (by injection e))).trans (HXB.out.block g hg)))
  clear hb2 hs2 hm2 hx2 H2
  go_region_with
    (first
      | (go_at_call 54; refine cG.mono ?_; rintro e w3 ⟨rfl, H3⟩; have hS3 := Side.of_below (some mb) H3.out; have b3 := HM2.out.below H3.out HM2L.out; have e1 : w3.cell? ⟨mb, 1, none⟩ = some (.bool false) := b3.cell 1; have e2 : w3.cell? ⟨mb, 2, none⟩ = some (.bool aw') := b3.cell 2; have e3 : w3.cell? ⟨mb, 3, none⟩ = some (.slice A2 n2 c2) := b3.cell 3; have e4 : w3.cell? ⟨mb, 4, none⟩ = some (.int .i64 0) := b3.cell 4; have e5 : w3.cell? ⟨mb, 5, none⟩ = some (.int .i64 0) := b3.cell 5; have e6 : w3.cell? ⟨mb, 6, none⟩ = some (.bool la) := b3.cell 6; have e7 : w3.cell? ⟨mb, 7, none⟩ = some (.int .i64 r) := b3.cell 7; have e8 : w3.cell? ⟨mb, 8, none⟩ = some (.int .i64 k) := b3.cell 8; have e9 : w3.cell? ⟨mb, 9, none⟩ = some (.int .i64 j) := b3.cell 9; have f3 := b3.free; have HB3 := Lib.hid b3; clear b3))
  all_goals (go_wp2_with fail; go_end0)
  all_goals exact ⟨rfl, CF.out _ (nine_set hS3 _ _ _ _ _ _ _ _ _) (nine_put HB3.out _ _ _ _ _ _ _ _ _)⟩
set_option maxRecDepth 1000000 in
set_option maxHeartbeats 4000000 in
theorem doFuse_any (D : Value) (gw ow gm om n cw cm i wb mb pb rb : Nat) (r0 k0 j0 : Int) (hi : i < n) (w : World)
    (hw : w.cell? ⟨gw, ow + i, none⟩ = some (.pointer (some ⟨wb, 0, none⟩))) (hm : w.cell? ⟨gm, om + i, none⟩ = some (.pointer (some ⟨mb, 0, none⟩))) (F : Nat → Prop) (hg : Gates w F wb mb pb rb) (hne : wb ≠ mb)
    (hgw : gw ≠ wb ∧ gw ≠ mb) (hgm : gm ≠ wb ∧ gm ≠ mb) :
    Calls Tryz.prog 23 #[.agg #[D, .slice (some ⟨gw, ow, none⟩) n cw, .slice (some ⟨gm, om, none⟩) n cm], .agg #[.int .i64 4, .int .i64 (i : Int), .int .i64 0, .int .i64 0, .slice none 0 0, .slice none 0 0, .int .i64 r0, .int .i64 k0, .int .i64 j0, .slice none 0 0]] w
      fun e w' => e = .returned (.tuple #[]) ∧ Gates w' (fun b => F b ∨ w.heap.size ≤ b) wb mb pb rb ∧ Below 0 w w' ∧ ∀ g, g < w.heap.size → g ≠ wb → g ≠ mb → w'.heap[g]? = w.heap[g]? := by
  have hi1 : (0 : Int) ≤ (i : Int) := by omega
  have hi2 : (i : Int) < (n : Int) := by omega
  have hi3 : decide (n ≤ i) = false := by simp; omega
  have l1 : gw < w.heap.size := block_lt_of_cell hw
  have l2 : gm < w.heap.size := block_lt_of_cell hm
  have q1 : ¬ (gw = w.heap.size) := by omega
  have q2 : ¬ (gw = w.heap.size + 1) := by omega
  have q3 : ¬ (gm = w.heap.size) := by omega
  have q4 : ¬ (gm = w.heap.size + 1) := by omega
  obtain ⟨aw, aw', la, A1, A2, n1, n2, c1, c2, r, k, j, fz, g1, g2, g3⟩ := hg
  have HG1 := Lib.hid g1
  have HG2 := Lib.hid g2
  have HG3 := Lib.hid g3
  have m1 : wb < w.heap.size := g1.lt
  have m2 : mb < w.heap.size := g2.lt
  have HW := Lib.hid hw
  have HM := Lib.hid hm
  clear g1 g2 g3
  have cP := fun wx => pick_in (i : Int) (n : Int) (by omega) (by omega) wx
  go_enter Tryz.func23, Tryz.ntmps23
  go_upto_region 19 with (go_at_call 50; refine (cP _).mono ?_; rintro e w' ⟨rfl, rfl⟩)
  obtain ⟨X, hX⟩ : ∃ X, ((w.alloc (.cells #[D, .slice (some ⟨gw, ow, none⟩) n cw, .slice (some ⟨gm, om, none⟩) n cm] 40)).alloc (.cells #[.int .i64 4, .int .i64 (i : Int), .int .i64 0, .int .i64 0, .slice none 0 0, .slice none 0 0, .int .i64 r0, .int .i64 k0, .int .i64 j0, .slice none 0 0] 92)) = X := ⟨_, rfl⟩
  rw [hX]
  have hXB : Below w.heap.size w X := by
    subst hX
    exact ((Below.refl _ _).alloc (Nat.le_refl _) _).alloc (by simp) _
  have hbx : Bk X (w.heap.size + 1) 92 #[.int .i64 4, .int .i64 (i : Int), .int .i64 0, .int .i64 0, .slice none 0 0, .slice none 0 0, .int .i64 r0, .int .i64 k0, .int .i64 j0, .slice none 0 0] := by
    subst hX
    have := Bk.mk_new (w.alloc (.cells #[D, .slice (some ⟨gw, ow, none⟩) n cw, .slice (some ⟨gm, om, none⟩) n cm] 40)) 92 #[.int .i64 4, .int .i64 (i : Int), .int .i64 0, .int .i64 0, .slice none 0 0, .slice none 0 0, .int .i64 r0, .int .i64 k0, .int .i64 j0, .slice none 0 0]
    simpa using this
  have hXs := hbx.lt
  have x6 : X.cell? ⟨w.heap.size + 1, 6, none⟩ = some (.int .i64 r0) := hbx.cell 6
  have x7 : X.cell? ⟨w.heap.size + 1, 7, none⟩ = some (.int .i64 k0) := hbx.cell 7
  have x8 : X.cell? ⟨w.heap.size + 1, 8, none⟩ = some (.int .i64 j0) := hbx.cell 8
  have HXB := Lib.hid hXB
  have HBX := Lib.hid hbx
  have cA : Calls Tryz.prog 55 #[.pointer (some ⟨wb, 0, none⟩), .int .i64 r0, .int .i64 k0, .int .i64 j0] X fun e w2 => e = .returned (.tuple #[]) ∧
      Hid ((∃ fz', Bk w2 wb 107 #[.pointer (some ⟨pb, 0, none⟩), .bool false, .bool aw, .slice A1 n1 c1, .int .i64 0, .int .i64 0, .pointer fz'] ∧ ((fz' = none ∧ (decide (0 ≤ r0) && r0 == 0) = false) ∨ ∃ f : Nat, fz' = some ⟨f, 0, none⟩ ∧ w.heap.size ≤ f ∧ f ≠ wb ∧ f ≠ mb ∧ w2.cell? ⟨f, 0, none⟩ = some (.int .i64 r0) ∧ decide (0 ≤ r0) = true)) ∧ Side (some wb) X w2) := by
    have hXs := HXB.out.size
    by_cases hr0 : r0 < 0
    · refine (wfuse_no wb _ _ _ _ _ _ fz r0 k0 j0 hr0 X (HG1.out.below HXB.out m1)).mono ?_
      rintro e w2 ⟨rfl, h1, h2⟩
      exact ⟨rfl, Lib.hid ⟨⟨none, h1, Or.inl ⟨rfl, by rw [decide_eq_false (by omega)]; rfl⟩⟩, h2⟩⟩
    · refine (wfuse_yes wb _ _ _ _ _ _ fz r0 k0 j0 (by omega) X (HG1.out.below HXB.out m1)).mono ?_
      rintro e w2 ⟨rfl, h1, h2, h3, _⟩
      exact ⟨rfl, Lib.hid ⟨⟨_, h1, Or.inr ⟨X.heap.size, rfl, by omega, by omega, by omega, h2.cell 0, decide_eq_true (by omega)⟩⟩, h3⟩⟩
  clear hX hXB hbx hw hm
  go_wp2_with (go_at_call 55; refine cA.mono ?_; rintro e w2 ⟨rfl, H2⟩)
  obtain ⟨⟨fz', hb2, hf2⟩, hs2⟩ := H2.out
  have hm2 : Bk w2 mb 102 #[.pointer (some ⟨rb, 0, none⟩), .bool false, .bool aw', .slice A2 n2 c2, .int .i64 0, .int .i64 0, .bool la, .int .i64 r, .int .i64 k, .int .i64 j] := hs2.bk (HG2.out.below HXB.out m2) (fun e => hne (by injection e with e; exact e.symm))
  have hx2 := hs2.bk HBX.out (fun e => by injection e with e; omega)
  have hw2 := hs2.size
  have y6 : w2.cell? ⟨w.heap.size + 1, 6, none⟩ = some (.int .i64 r0) := hx2.cell 6
  have y7 : w2.cell? ⟨w.heap.size + 1, 7, none⟩ = some (.int .i64 k0) := hx2.cell 7
  have y8 : w2.cell? ⟨w.heap.size + 1, 8, none⟩ = some (.int .i64 j0) := hx2.cell 8
  have e1 : w2.cell? ⟨mb, 1, none⟩ = some (.bool false) := hm2.cell 1
  have e2 : w2.cell? ⟨mb, 2, none⟩ = some (.bool aw') := hm2.cell 2
  have e3 : w2.cell? ⟨mb, 3, none⟩ = some (.slice A2 n2 c2) := hm2.cell 3
  have e4 : w2.cell? ⟨mb, 4, none⟩ = some (.int .i64 0) := hm2.cell 4
  have e5 : w2.cell? ⟨mb, 5, none⟩ = some (.int .i64 0) := hm2.cell 5
  have e6 : w2.cell? ⟨mb, 6, none⟩ = some (.bool la) := hm2.cell 6
  have e7 : w2.cell? ⟨mb, 7, none⟩ = some (.int .i64 r) := hm2.cell 7
  have e8 : w2.cell? ⟨mb, 8, none⟩ = some (.int .i64 k) := hm2.cell 8
  have e9 : w2.cell? ⟨mb, 9, none⟩ = some (.int .i64 j) := hm2.cell 9
  have f2 := hm2.free
  have cG : Calls Tryz.prog 56 #[.agg #[.bool false, .bool aw', .slice A2 n2 c2, .int .i64 0, .int .i64 0, .bool la, .int .i64 r, .int .i64 k, .int .i64 j], .int .i64 r0, .int .i64 k0, .int .i64 j0] w2.drew fun e w3 => ∃ la' : Bool, e = .returned (.agg #[.bool false, .bool aw', .slice A2 n2 c2, .int .i64 0, .int .i64 0, .bool la', .int .i64 r0, .int .i64 k0, .int .i64 j0]) ∧ Hid (decide (0 ≤ r0) = la') ∧ Hid (Below w2.heap.size w2 w3) := by
    refine (gfuse_any _ _ _ _ _ _ _ _ _ _ _ _ _ _ w2.drew).mono ?_
    rintro e w3 ⟨rfl, h3⟩
    exact ⟨_, rfl, Lib.hid rfl, Lib.hid ((Below.drew (Below.refl _ _)).trans h3)⟩
  have HM2 := Lib.hid hm2
  have HX2 := Lib.hid hx2
  have HB2 := Lib.hid hb2
  have HS2 := Lib.hid hs2
  have HM2L := Lib.hid hm2.lt
  have CF : Hid (∀ (Z : World) (la' : Bool), decide (0 ≤ r0) = la' → Side (some mb) w2 Z → Bk Z mb 102 #[.pointer (some ⟨rb, 0, none⟩), .bool false, .bool aw', .slice A2 n2 c2, .int .i64 0, .int .i64 0, .bool la', .int .i64 r0, .int .i64 k0, .int .i64 j0] →
      Gates Z (fun b => F b ∨ w.heap.size ≤ b) wb mb pb rb ∧ Below 0 w Z ∧ ∀ g, g < w.heap.size → g ≠ wb → g ≠ mb → Z.heap[g]? = w.heap[g]?) := Lib.hid (by
    intro Z la' hla hZS hZB
    subst hla
    refine ⟨⟨aw, aw', decide (0 ≤ r0), A1, A2, n1, n2, c1, c2, r0, k0, j0, fz', hZS.bk hb2 (fun e => hne (by injection e)), hZB, ?_⟩, ?_, ?_⟩
    · refine hf2.imp id ?_
      rintro ⟨f, hf, hF, h1, h2, h3, h4⟩
      exact ⟨f, hf, Or.inr hF, h1, h2, hZS.cell h3 (fun e => h2 (by injection e)), h4⟩
    · exact (HXB.out.mono (Nat.zero_le _)).trans (hs2.low.trans hZS.low)
    · intro g hg hg1 hg2
      have hgX : g < X.heap.size := Nat.lt_of_lt_of_le hg HXB.out.size
      exact (hZS.block g (Nat.lt_of_lt_of_le hgX hw2) (fun e => hg2 (by injection e))).trans ((hs2.block g hgX (fun e => hg1 (by injection e))).trans (HXB.out.block g hg)))
  clear hb2 hs2 hm2 hx2 H2 hf2
  have z6 : ∀ W, Side (some mb) w2 W → W.cell? ⟨w.heap.size + 1, 6, none⟩ = some (.int .i64 r0) := fun W hW => (hW.bk HX2.out (fun e => by injection e with e; omega)).cell 6
  have z7 : ∀ W, Side (some mb) w2 W → W.cell? ⟨w.heap.size + 1, 7, none⟩ = some (.int .i64 k0) := fun W hW => (hW.bk HX2.out (fun e => by injection e with e; omega)).cell 7
  have z8 : ∀ W, Side (some mb) w2 W → W.cell? ⟨w.heap.size + 1, 8, none⟩ = some (.int .i64 j0) := fun W hW => (hW.bk HX2.out (fun e => by injection e with e; omega)).cell 8
  clear y6 y7 y8
  refine wp_region_held_drew (S := fun W => Side (some mb) w2 W) (by kernel_rfl) (Side.refl _ _).drew (fun hHeld => ?_)
  refine wpAnyH_take (i := 0) (oi := { dst := some 106, op := Op.move (Operand.tmp 7), type := 63, pos := "play.go:139", after := #[], guard := none }) (v := ?_) rfl (by kernel_rfl) (by kernel_rfl) (by kernel_rfl) (fun _ _ _ h => h) (Or.inl ⟨by rfl, ?_⟩) (by assumption) ?_
  rotate_left
  · intro w hSw
    (try dsimp only at hSw)
    go_simp
    try with_reducible rfl
  try simp only [Act.put, List.setIfInBounds_toArray, List.set_cons_zero, List.set_cons_succ]
  refine wpAnyH_take (i := 1) (oi := { dst := some 107, op := Op.move (Operand.tmp 7), type := 63, pos := "play.go:139", after := #[], guard := none }) (v := ?_) rfl (by kernel_rfl) (by kernel_rfl) (by kernel_rfl) (fun _ _ _ h => h) (Or.inl ⟨by rfl, ?_⟩) (by assumption) ?_
  rotate_left
  · intro w hSw
    (try dsimp only at hSw)
    go_simp
    try with_reducible rfl
  try simp only [Act.put, List.setIfInBounds_toArray, List.set_cons_zero, List.set_cons_succ]
  refine wpAnyH_take (i := 2) (oi := { dst := some 108, op := Op.nilCheck (Operand.tmp 107), type := 0, pos := "play.go:139", after := #[{ on := 1, ground := Ground.data }], guard := none }) (v := ?_) rfl (by kernel_rfl) (by kernel_rfl) (by kernel_rfl) (fun _ _ _ h => h) (Or.inl ⟨by rfl, ?_⟩) (by assumption) ?_
  rotate_left
  · intro w hSw
    (try dsimp only at hSw)
    go_simp
    try with_reducible rfl
  try simp only [Act.put, List.setIfInBounds_toArray, List.set_cons_zero, List.set_cons_succ]
  refine wpAnyH_take (i := 3) (oi := { dst := some 109, op := Op.fieldAddr 102 (Operand.tmp 108) 1, type := 0, pos := "play.go:139", after := #[{ on := 2, ground := Ground.data }], guard := none }) (v := ?_) rfl (by kernel_rfl) (by kernel_rfl) (by kernel_rfl) (fun _ _ _ h => h) (Or.inl ⟨by rfl, ?_⟩) (by assumption) ?_
  rotate_left
  · intro w hSw
    (try dsimp only at hSw)
    go_simp
    try with_reducible rfl
  try simp only [Act.put, List.setIfInBounds_toArray, List.set_cons_zero, List.set_cons_succ]
  refine wpAnyH_take (i := 5) (oi := { dst := some 111, op := Op.fieldAddr 92 (Operand.tmp 3) 6, type := 0, pos := "play.go:139", after := #[], guard := none }) (v := ?_) rfl (by kernel_rfl) (by kernel_rfl) (by kernel_rfl) (fun _ _ _ h => h) (Or.inl ⟨by rfl, ?_⟩) (by assumption) ?_
  rotate_left
  · intro w hSw
    (try dsimp only at hSw)
    go_simp
    try with_reducible rfl
  try simp only [Act.put, List.setIfInBounds_toArray, List.set_cons_zero, List.set_cons_succ]
  refine wpAnyH_take (i := 6) (oi := { dst := some 112, op := Op.load 3 (Operand.tmp 111), type := 3, pos := "play.go:139", after := #[{ on := 5, ground := Ground.data }], guard := none }) (v := ?_) rfl (by kernel_rfl) (by kernel_rfl) (by kernel_rfl) (fun _ _ _ h => h) (Or.inl ⟨by rfl, ?_⟩) (by assumption) ?_
  rotate_left
  · intro w hSw
    (try dsimp only at hSw)
    go_simp
    try with_reducible rfl
  try simp only [Act.put, List.setIfInBounds_toArray, List.set_cons_zero, List.set_cons_succ]
  refine wpAnyH_take (i := 7) (oi := { dst := some 113, op := Op.fieldAddr 92 (Operand.tmp 3) 7, type := 0, pos := "play.go:139", after := #[], guard := none }) (v := ?_) rfl (by kernel_rfl) (by kernel_rfl) (by kernel_rfl) (fun _ _ _ h => h) (Or.inl ⟨by rfl, ?_⟩) (by assumption) ?_
  rotate_left
  · intro w hSw
    (try dsimp only at hSw)
    go_simp
    try with_reducible rfl
  try simp only [Act.put, List.setIfInBounds_toArray, List.set_cons_zero, List.set_cons_succ]
  refine wpAnyH_take (i := 8) (oi := { dst := some 114, op := Op.load 3 (Operand.tmp 113), type := 3, pos := "play.go:139", after := #[{ on := 7, ground := Ground.data }], guard := none }) (v := ?_) rfl (by kernel_rfl) (by kernel_rfl) (by kernel_rfl) (fun _ _ _ h => h) (Or.inl ⟨by rfl, ?_⟩) (by assumption) ?_
  rotate_left
  · intro w hSw
    (try dsimp only at hSw)
    go_simp
    try with_reducible rfl
  try simp only [Act.put, List.setIfInBounds_toArray, List.set_cons_zero, List.set_cons_succ]
  refine wpAnyH_take (i := 9) (oi := { dst := some 115, op := Op.fieldAddr 92 (Operand.tmp 3) 8, type := 0, pos := "play.go:139", after := #[], guard := none }) (v := ?_) rfl (by kernel_rfl) (by kernel_rfl) (by kernel_rfl) (fun _ _ _ h => h) (Or.inl ⟨by rfl, ?_⟩) (by assumption) ?_
  rotate_left
  · intro w hSw
    (try dsimp only at hSw)
    go_simp
    try with_reducible rfl
  try simp only [Act.put, List.setIfInBounds_toArray, List.set_cons_zero, List.set_cons_succ]
  refine wpAnyH_take (i := 10) (oi := { dst := some 116, op := Op.load 3 (Operand.tmp 115), type := 3, pos := "play.go:139", after := #[{ on := 9, ground := Ground.data }], guard := none }) (v := ?_) rfl (by kernel_rfl) (by kernel_rfl) (by kernel_rfl) (fun _ _ _ h => h) (Or.inl ⟨by rfl, ?_⟩) (by assumption) ?_
  rotate_left
  · intro w hSw
    (try dsimp only at hSw)
    go_simp
    try with_reducible rfl
  try simp only [Act.put, List.setIfInBounds_toArray, List.set_cons_zero, List.set_cons_succ]
  refine wpAnyH_ready (rs := [4]) (by kernel_rfl) (by simp) ?_
  refine AllReadyH.cons rfl (fun K hK => ?_) AllReadyH.nil
  go_simp
  refine hK.out _ _ (by assumption) (fun hHeld2 => ?_)
  clear hK K
  try simp only [Act.put, List.setIfInBounds_toArray, List.set_cons_zero, List.set_cons_succ]
  refine wpAnyH_ready (rs := [11]) (by kernel_rfl) (by simp) ?_
  refine AllReadyH.cons rfl (fun K hK => ?_) AllReadyH.nil
  go_simp
  (go_at_call 56; refine cG.mono ?_; rintro e w3 ⟨la', rfl, HL, H3⟩; have hS3 := Side.of_below (some mb) H3.out; have b3 := HM2.out.below H3.out HM2L.out; have e1 : w3.cell? ⟨mb, 1, none⟩ = some (.bool false) := b3.cell 1; have e2 : w3.cell? ⟨mb, 2, none⟩ = some (.bool aw') := b3.cell 2; have e3 : w3.cell? ⟨mb, 3, none⟩ = some (.slice A2 n2 c2) := b3.cell 3; have e4 : w3.cell? ⟨mb, 4, none⟩ = some (.int .i64 0) := b3.cell 4; have e5 : w3.cell? ⟨mb, 5, none⟩ = some (.int .i64 0) := b3.cell 5; have e6 : w3.cell? ⟨mb, 6, none⟩ = some (.bool la) := b3.cell 6; have e7 : w3.cell? ⟨mb, 7, none⟩ = some (.int .i64 r) := b3.cell 7; have e8 : w3.cell? ⟨mb, 8, none⟩ = some (.int .i64 k) := b3.cell 8; have e9 : w3.cell? ⟨mb, 9, none⟩ = some (.int .i64 j) := b3.cell 9; have f3 := b3.free; have HB3 := Lib.hid b3; clear b3)
  refine hK.out _ _ (by assumption) (fun hHeld2 => ?_)
  clear hK K
  try simp only [Act.put, List.setIfInBounds_toArray, List.set_cons_zero, List.set_cons_succ]
  refine wpAnyH_take (i := 12) (oi := { dst := some 118, op := Op.nilCheck (Operand.tmp 106), type := 0, pos := "play.go:139", after := #[{ on := 0, ground := Ground.data }, { on := 0, ground := Ground.phase }, { on := 1, ground := Ground.phase }, { on := 2, ground := Ground.phase }, { on := 3, ground := Ground.phase }, { on := 4, ground := Ground.phase }, { on := 5, ground := Ground.phase }, { on := 6, ground := Ground.phase }, { on := 7, ground := Ground.phase }, { on := 8, ground := Ground.phase }, { on := 9, ground := Ground.phase }, { on := 10, ground := Ground.phase }, { on := 11, ground := Ground.phase }], guard := none }) (v := ?_) rfl (by kernel_rfl) (by kernel_rfl) (by kernel_rfl) (fun _ _ _ h => h) (Or.inl ⟨by rfl, ?_⟩) (by assumption) ?_
  rotate_left
  · intro w hSw
    (try dsimp only at hSw)
    go_simp
    try with_reducible rfl
  try simp only [Act.put, List.setIfInBounds_toArray, List.set_cons_zero, List.set_cons_succ]
  refine wpAnyH_take (i := 13) (oi := { dst := some 119, op := Op.fieldAddr 102 (Operand.tmp 118) 1, type := 0, pos := "play.go:139", after := #[{ on := 12, ground := Ground.data }, { on := 0, ground := Ground.phase }, { on := 1, ground := Ground.phase }, { on := 2, ground := Ground.phase }, { on := 3, ground := Ground.phase }, { on := 4, ground := Ground.phase }, { on := 5, ground := Ground.phase }, { on := 6, ground := Ground.phase }, { on := 7, ground := Ground.phase }, { on := 8, ground := Ground.phase }, { on := 9, ground := Ground.phase }, { on := 10, ground := Ground.phase }, { on := 11, ground := Ground.phase }], guard := none }) (v := ?_) rfl (by kernel_rfl) (by kernel_rfl) (by kernel_rfl) (fun _ _ _ h => h) (Or.inl ⟨by rfl, ?_⟩) (by assumption) ?_
  rotate_left
  · intro w hSw
    (try dsimp only at hSw)
    go_simp
    try with_reducible rfl
  try simp only [Act.put, List.setIfInBounds_toArray, List.set_cons_zero, List.set_cons_succ]
  refine wpAnyH_ready (rs := [14]) (by kernel_rfl) (by simp) ?_
  refine AllReadyH.cons rfl (fun K hK => ?_) AllReadyH.nil
  go_simp
  refine hK.out _ _ (by with_reducible (repeat (first | assumption | exact Side.refl _ _ | apply Side.drew | apply Side.alloc | apply Side.set))) (fun hHeld2 => ?_)
  clear hK K
  try simp only [Act.put, List.setIfInBounds_toArray, List.set_cons_zero, List.set_cons_succ]
  refine wpAnyH_done (by kernel_rfl) ?_ _
  all_goals (go_wp2_with fail; go_end0)
  all_goals exact ⟨rfl, CF.out _ la' HL.out (nine_set hS3 _ _ _ _ _ _ _ _ _) (nine_put HB3.out _ _ _ _ _ _ _ _ _)⟩
end Go.Proofs.YtiaecfdfjhjgiaaGreat.hp
