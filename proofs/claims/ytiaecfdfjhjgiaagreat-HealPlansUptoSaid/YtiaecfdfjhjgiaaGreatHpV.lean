/- Contract: cairnplay.MakeSet. -/
import Derived.Deep.CutRange
import Derived.Deep.RegionHeld3
import Derived.Test.YtiaecfdfjhjgiaaGreatHpU
import Derived.Test.YtiaecfdfjhjgiaaGreatHpG
import Derived.Test.YtiaecfdfjhjgiaaGreatHpO
import Derived.Test.YtiaecfdfjhjgiaaGreatHpP
namespace Go.Proofs.YtiaecfdfjhjgiaaGreat.hp
open Go.RowKit kit Go.ChangeMaps Go.Maps Go.Sort
set_option linter.unusedVariables false

theorem Made.later {a b W W' : World} {dv wv mv : Value} {prs : List (Option Nat × Option Nat)} (h : Made b W dv wv mv prs) (ha : Below a.heap.size a b) (hb : Below W.heap.size W W') : Made a W' dv wv mv prs := by
  have h1 := ha.size
  have h2 := hb.size
  have hN : ∀ x, New b W x → New a W' x := fun x hx => ⟨Nat.le_trans h1 hx.1, Nat.lt_of_lt_of_le hx.2 h2⟩
  exact ⟨(h.d.keep hb).mono hN, (h.s.keep hb).mono hN, (h.m.keep hb).mono hN, fun p hp => ((h.one p hp).kept (fun x hx => hb.block x hx.2)).mono hN, ha.trans ((h.bel.mono h1).trans (hb.mono (Nat.le_trans h1 h.bel.size)))⟩
theorem Made.keep {a b W Z : World} {dv wv mv : Value} {prs : List (Option Nat × Option Nat)} (h : Made b W dv wv mv prs) (ha : a.heap.size ≤ b.heap.size) (hk : ∀ x, New b W x → Z.heap[x]? = W.heap[x]?) (hs : W.heap.size ≤ Z.heap.size) (hZ : Below a.heap.size a Z) : Made a Z dv wv mv prs := by
  have hN : ∀ x, New b W x → New a Z x := fun x hx => ⟨Nat.le_trans ha hx.1, Nat.lt_of_lt_of_le hx.2 hs⟩
  exact ⟨(h.d.kept hk).mono hN, (h.s.kept hk).mono hN, (h.m.kept hk).mono hN, fun p hp => ((h.one p hp).kept hk).mono hN, hZ⟩
theorem five_sets (Y : World) (g : Nat) (u0 u1 u2 u3 u4 : Value) (o1 o2 : Obj) : ∃ Z0 : World, Z0.heap.size = Y.heap.size ∧ (∀ x, x ≠ g → Z0.heap[x]? = Y.heap[x]?) ∧ Below g Y Z0 ∧
    ((((((Y.setCell ⟨g, 0, none⟩ u0).setCell ⟨g, 1, none⟩ u1).setCell ⟨g, 2, none⟩ u2).setCell ⟨g, 3, none⟩ u3).setCell ⟨g, 4, none⟩ u4).alloc o1).alloc o2 = (Z0.alloc o1).alloc o2 := by
  refine ⟨_, ?_, fun x hx => ?_, ?_, rfl⟩
  · simp
  · exact (Below.heap_setCell _ _ _ x hx).trans ((Below.heap_setCell _ _ _ x hx).trans ((Below.heap_setCell _ _ _ x hx).trans ((Below.heap_setCell _ _ _ x hx).trans (Below.heap_setCell _ _ _ x hx))))
  · have h0 : Below g Y (Y.setCell ⟨g, 0, none⟩ u0) := (Below.refl g Y).setCell (p := ⟨g, 0, none⟩) (Nat.le_refl g) u0
    have h1 := h0.setCell (p := ⟨g, 1, none⟩) (Nat.le_refl g) u1
    have h2 := h1.setCell (p := ⟨g, 2, none⟩) (Nat.le_refl g) u2
    have h3 := h2.setCell (p := ⟨g, 3, none⟩) (Nat.le_refl g) u3
    exact h3.setCell (p := ⟨g, 4, none⟩) (Nat.le_refl g) u4
set_option maxRecDepth 100000 in
set_option maxHeartbeats 4000000 in
theorem makeSet_any (v : Value) (ps : List Pl) (K M B ep ct : Int) (s0 s1 s2 s3 s4 s5 s6 s7 : Int) (hl : ps.length ≤ 1099511627776) (hok : ∀ p ∈ ps, PlOk p) (w : World) (S : Nat → Prop) (hSw : ∀ b, S b → b < w.heap.size) (h : Pls w S v ps) :
    Calls Tryz.prog 4 #[.agg #[v, .int .i64 K, .int .i64 M, .int .i64 B, .int .u8 s0, .int .u8 s1, .int .u8 s2, .int .u8 s3, .int .u8 s4, .int .u8 s5, .int .u8 s6, .int .u8 s7, .int .i64 ep, .int .i64 ct]] w fun e w' =>
      ∃ dv wv mv prs sb mb, e = .returned (.tuple #[.agg #[dv, wv, mv, .pointer (some ⟨sb, 0, none⟩), .pointer (some ⟨mb, 0, none⟩)], .bool true]) ∧ Made w w' dv wv mv prs ∧ prs.length = ps.length ∧
        Bk w' sb 58 #[dv, .int .i64 K, .int .i64 M, .int .i64 B, .int .u8 s0, .int .u8 s1, .int .u8 s2, .int .u8 s3, .int .u8 s4, .int .u8 s5, .int .u8 s6, .int .u8 s7, .int .i64 ep, .int .i64 ct] ∧
        Bk w' mb 60 #[mv, .int .i64 K, .int .i64 M, .int .i64 B, .int .u8 s0, .int .u8 s1, .int .u8 s2, .int .u8 s3, .int .u8 s4, .int .u8 s5, .int .u8 s6, .int .u8 s7, .int .i64 ep, .int .i64 ct] ∧ w.heap.size ≤ sb ∧ w.heap.size ≤ mb := by
  obtain ⟨A, c, rfl, hc⟩ := h.1
  obtain ⟨X, hX⟩ : ∃ X, (w.alloc (.cells #[.slice A ps.length c, .int .i64 K, .int .i64 M, .int .i64 B, .int .u8 s0, .int .u8 s1, .int .u8 s2, .int .u8 s3, .int .u8 s4, .int .u8 s5, .int .u8 s6, .int .u8 s7, .int .i64 ep, .int .i64 ct] 29)).alloc (.cells #[.slice none 0 0, .slice none 0 0, .slice none 0 0, .pointer none, .pointer none] 44) = X := ⟨_, rfl⟩
  have hXB : Below w.heap.size w X := by
    subst hX
    exact ((Below.refl _ _).alloc (Nat.le_refl _) _).alloc (by simp) _
  have hXs : X.heap.size = w.heap.size + 2 := by subst hX; simp
  have hb0 : Bk X w.heap.size 29 #[.slice A ps.length c, .int .i64 K, .int .i64 M, .int .i64 B, .int .u8 s0, .int .u8 s1, .int .u8 s2, .int .u8 s3, .int .u8 s4, .int .u8 s5, .int .u8 s6, .int .u8 s7, .int .i64 ep, .int .i64 ct] := by
    subst hX
    exact (Bk.mk_new w 29 _).alloc _
  have hb1 : Bk X (w.heap.size + 1) 44 #[.slice none 0 0, .slice none 0 0, .slice none 0 0, .pointer none, .pointer none] := by
    subst hX
    have := Bk.mk_new (w.alloc (.cells #[.slice A ps.length c, .int .i64 K, .int .i64 M, .int .i64 B, .int .u8 s0, .int .u8 s1, .int .u8 s2, .int .u8 s3, .int .u8 s4, .int .u8 s5, .int .u8 s6, .int .u8 s7, .int .i64 ep, .int .i64 ct] 29)) 44 #[.slice none 0 0, .slice none 0 0, .slice none 0 0, .pointer none, .pointer none]
    simpa using this
  have cM : Calls Tryz.prog 11 #[.slice A ps.length c] X fun e w' => ∃ A0 n0 c0 A1 n1 c1 A2 n2 c2 prs, e = .returned (.tuple #[.agg #[.slice A0 n0 c0, .slice A1 n1 c1, .slice A2 n2 c2], .bool true]) ∧ Hid (Made X w' (.slice A0 n0 c0) (.slice A1 n1 c1) (.slice A2 n2 c2) prs ∧ prs.length = ps.length) := by
    refine (make_any (.slice A ps.length c) ps hl hok X S (fun b hb => by have := hSw b hb; omega) ⟨h.1.keep hXB, fun p hp => ⟨(h.2 p hp).1.keep hXB, (h.2 p hp).2.keep hXB⟩⟩).mono ?_
    rintro e w' ⟨dv, wv, mv, prs, rfl, hM, hn⟩
    obtain ⟨A0, c0, h0, _⟩ := hM.d
    obtain ⟨A1, c1, h1, _⟩ := hM.s
    obtain ⟨A2, c2, h2, _⟩ := hM.m
    subst h0 h1 h2
    exact ⟨_, _, _, _, _, _, _, _, _, prs, rfl, Lib.hid ⟨hM, hn⟩⟩
  have x0 : X.cell? ⟨w.heap.size, 0, none⟩ = some (.slice A ps.length c) := hb0.cell 0
  have HB0 := Lib.hid hb0
  have HB1 := Lib.hid hb1
  have HXB := Lib.hid hXB
  have HX := Lib.hid hX
  have HXS := Lib.hid hXs
  clear hb0 hb1 hXB hX h hc hXs
  go_enter Tryz.func4, Tryz.ntmps4
  go_upto_region 1 with fail
  rw [HX.out]
  go_upto_region 2 with (go_at_call 11; refine cM.mono ?_; rintro e W ⟨A0, n0, c0, A1, n1, c1, A2, n2, c2, prs, rfl, HM⟩)
  obtain ⟨Y, hY⟩ : ∃ Y, W.alloc (.cells #[.slice A0 n0 c0, .slice A1 n1 c1, .slice A2 n2 c2] 40) = Y := ⟨_, rfl⟩
  rw [hY]
  have hWB : Below W.heap.size W Y := by
    subst hY
    exact (Below.refl _ _).alloc (Nat.le_refl _) _
  have hXW : Below X.heap.size X W := HM.out.1.bel
  have hs1 := hXW.size
  have hs2 := HXS.out
  have hYs : Y.heap.size = W.heap.size + 1 := by subst hY; simp
  have hY0 := ((HB0.out.below hXW (by omega)).below hWB (by omega) : Bk Y w.heap.size 29 _)
  have hY1 := ((HB1.out.below hXW (by omega)).below hWB (by omega) : Bk Y (w.heap.size + 1) 44 _)
  have hY2 : Bk Y W.heap.size 40 #[.slice A0 n0 c0, .slice A1 n1 c1, .slice A2 n2 c2] := by
    subst hY
    exact Bk.mk_new _ _ _
  have x0 : Y.cell? ⟨w.heap.size, 0, none⟩ = some (.slice A ps.length c) := hY0.cell 0
  have x1 : Y.cell? ⟨w.heap.size, 1, none⟩ = some (.int .i64 K) := hY0.cell 1
  have x2 : Y.cell? ⟨w.heap.size, 2, none⟩ = some (.int .i64 M) := hY0.cell 2
  have x3 : Y.cell? ⟨w.heap.size, 3, none⟩ = some (.int .i64 B) := hY0.cell 3
  have x4 : Y.cell? ⟨w.heap.size, 4, none⟩ = some (.int .u8 s0) := hY0.cell 4
  have x5 : Y.cell? ⟨w.heap.size, 5, none⟩ = some (.int .u8 s1) := hY0.cell 5
  have x6 : Y.cell? ⟨w.heap.size, 6, none⟩ = some (.int .u8 s2) := hY0.cell 6
  have x7 : Y.cell? ⟨w.heap.size, 7, none⟩ = some (.int .u8 s3) := hY0.cell 7
  have x8 : Y.cell? ⟨w.heap.size, 8, none⟩ = some (.int .u8 s4) := hY0.cell 8
  have x9 : Y.cell? ⟨w.heap.size, 9, none⟩ = some (.int .u8 s5) := hY0.cell 9
  have x10 : Y.cell? ⟨w.heap.size, 10, none⟩ = some (.int .u8 s6) := hY0.cell 10
  have x11 : Y.cell? ⟨w.heap.size, 11, none⟩ = some (.int .u8 s7) := hY0.cell 11
  have x12 : Y.cell? ⟨w.heap.size, 12, none⟩ = some (.int .i64 ep) := hY0.cell 12
  have x13 : Y.cell? ⟨w.heap.size, 13, none⟩ = some (.int .i64 ct) := hY0.cell 13
  have y0 : Y.cell? ⟨w.heap.size + 1, 0, none⟩ = some (.slice none 0 0) := hY1.cell 0
  have y1 : Y.cell? ⟨w.heap.size + 1, 1, none⟩ = some (.slice none 0 0) := hY1.cell 1
  have y2 : Y.cell? ⟨w.heap.size + 1, 2, none⟩ = some (.slice none 0 0) := hY1.cell 2
  have y3 : Y.cell? ⟨w.heap.size + 1, 3, none⟩ = some (.pointer none) := hY1.cell 3
  have y4 : Y.cell? ⟨w.heap.size + 1, 4, none⟩ = some (.pointer none) := hY1.cell 4
  have z0 : Y.cell? ⟨W.heap.size, 0, none⟩ = some (.slice A0 n0 c0) := hY2.cell 0
  have z1 : Y.cell? ⟨W.heap.size, 1, none⟩ = some (.slice A1 n1 c1) := hY2.cell 1
  have z2 : Y.cell? ⟨W.heap.size, 2, none⟩ = some (.slice A2 n2 c2) := hY2.cell 2
  have yf := hY1.free
  have hq : ¬ (W.heap.size = w.heap.size + 1) := by omega
  have HYS := Lib.hid hYs
  have p1 : W.heap.size < Y.heap.size := by omega
  have p2 : W.heap.size < Y.heap.size + 1 := by omega
  have p3 : w.heap.size < Y.heap.size := by omega
  have p4 : w.heap.size < Y.heap.size + 1 := by omega
  have p5 : w.heap.size + 1 < Y.heap.size := by omega
  have p6 : w.heap.size + 1 < Y.heap.size + 1 := by omega
  have HWB := Lib.hid hWB
  have HS1 := Lib.hid (show w.heap.size + 2 ≤ W.heap.size by omega)
  clear hY hWB hXW hY0 hY1 hY2 hYs hs1 hs2 x0
  go_wp2
  clear yf
  obtain ⟨Z0, hz1, hz2, hz3, hz4⟩ := five_sets Y (w.heap.size + 1) (.slice A0 n0 c0) (.slice A1 n1 c1) (.slice A2 n2 c2) (.pointer (some ⟨Y.heap.size, 0, none⟩)) (.pointer (some ⟨Y.heap.size + 1, 0, none⟩)) (.cells #[.slice A0 n0 c0, .int .i64 K, .int .i64 M, .int .i64 B, .int .u8 s0, .int .u8 s1, .int .u8 s2, .int .u8 s3, .int .u8 s4, .int .u8 s5, .int .u8 s6, .int .u8 s7, .int .i64 ep, .int .i64 ct] 58) (.cells #[.slice A2 n2 c2, .int .i64 K, .int .i64 M, .int .i64 B, .int .u8 s0, .int .u8 s1, .int .u8 s2, .int .u8 s3, .int .u8 s4, .int .u8 s5, .int .u8 s6, .int .u8 s7, .int .i64 ep, .int .i64 ct] 60)
  have hXWs := HM.out.1.bel.size
  have hXS := HXS.out
  have hYS := HYS.out
  have hZM : Made w ((Z0.alloc (.cells #[.slice A0 n0 c0, .int .i64 K, .int .i64 M, .int .i64 B, .int .u8 s0, .int .u8 s1, .int .u8 s2, .int .u8 s3, .int .u8 s4, .int .u8 s5, .int .u8 s6, .int .u8 s7, .int .i64 ep, .int .i64 ct] 58)).alloc (.cells #[.slice A2 n2 c2, .int .i64 K, .int .i64 M, .int .i64 B, .int .u8 s0, .int .u8 s1, .int .u8 s2, .int .u8 s3, .int .u8 s4, .int .u8 s5, .int .u8 s6, .int .u8 s7, .int .i64 ep, .int .i64 ct] 60)) (.slice A0 n0 c0) (.slice A1 n1 c1) (.slice A2 n2 c2) prs := by
    refine HM.out.1.keep HXB.out.size (fun x hx => ?_) (by simp; omega) ?_
    · have hx1 := hx.1
      have hx2 := hx.2
      rw [Below.heap_alloc _ _ x (by simp; omega), Below.heap_alloc _ _ x (by omega), hz2 x (by omega), HWB.out.block x hx2]
    · refine (((HXB.out.trans (HM.out.1.bel.mono HXB.out.size)).trans (HWB.out.mono (by omega))).trans (hz3.mono (by omega))).alloc (by omega) _ |>.alloc (by simp; omega) _
  have hZ1 := Bk.mk_new Z0 58 #[.slice A0 n0 c0, .int .i64 K, .int .i64 M, .int .i64 B, .int .u8 s0, .int .u8 s1, .int .u8 s2, .int .u8 s3, .int .u8 s4, .int .u8 s5, .int .u8 s6, .int .u8 s7, .int .i64 ep, .int .i64 ct]
  have hZ2 := Bk.mk_new (Z0.alloc (.cells #[.slice A0 n0 c0, .int .i64 K, .int .i64 M, .int .i64 B, .int .u8 s0, .int .u8 s1, .int .u8 s2, .int .u8 s3, .int .u8 s4, .int .u8 s5, .int .u8 s6, .int .u8 s7, .int .i64 ep, .int .i64 ct] 58)) 60 #[.slice A2 n2 c2, .int .i64 K, .int .i64 M, .int .i64 B, .int .u8 s0, .int .u8 s1, .int .u8 s2, .int .u8 s3, .int .u8 s4, .int .u8 s5, .int .u8 s6, .int .u8 s7, .int .i64 ep, .int .i64 ct]
  have hZs : (Z0.alloc (.cells #[.slice A0 n0 c0, .int .i64 K, .int .i64 M, .int .i64 B, .int .u8 s0, .int .u8 s1, .int .u8 s2, .int .u8 s3, .int .u8 s4, .int .u8 s5, .int .u8 s6, .int .u8 s7, .int .i64 ep, .int .i64 ct] 58)).heap.size = Y.heap.size + 1 := by simp [hz1]
  rw [hz1] at hZ1
  rw [hZs] at hZ2
  refine bodyPost_ret (v := .tuple #[.agg #[.slice A0 n0 c0, .slice A1 n1 c1, .slice A2 n2 c2, .pointer (some ⟨Y.heap.size, 0, none⟩), .pointer (some ⟨Y.heap.size + 1, 0, none⟩)], .bool true]) ?_ rfl ⟨.slice A0 n0 c0, .slice A1 n1 c1, .slice A2 n2 c2, prs, Y.heap.size, Y.heap.size + 1, rfl, ?_, HM.out.2, ?_, ?_, by omega, by omega⟩
  · simp [results, Tryz.results4, go_sem, y0, y1, y2, y3, y4, p5, p6]
  · rw [hz4]
    exact hZM
  · rw [hz4]
    exact hZ1.alloc _
  · rw [hz4]
    exact hZ2
end Go.Proofs.YtiaecfdfjhjgiaaGreat.hp
