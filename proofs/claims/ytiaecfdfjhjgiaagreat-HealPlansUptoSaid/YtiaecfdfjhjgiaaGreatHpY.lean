/- What a place shows, and a verdict's numbers; contract: the document's Stale. -/
import Derived.Laws.BytesString
import Derived.Deep.CutRange
import Derived.Deep.RegionHeld3
import Derived.Test.YtiaecfdfjhjgiaaGreatHpX
import Derived.Test.YtiaecfdfjhjgiaaGreatHpG
import Derived.Test.YtiaecfdfjhjgiaaGreatHpO
import Derived.Test.YtiaecfdfjhjgiaaGreatHpP
namespace Go.Proofs.YtiaecfdfjhjgiaaGreat.hp
open Go.RowKit kit Go.ChangeMaps Go.Maps Go.Sort
set_option linter.unusedVariables false

/-- What a place shows. -/
structure Sn where
  kind : Int
  s0 : Int
  s1 : Int
  s2 : Int
  s3 : Int
  s4 : Int
  s5 : Int
  s6 : Int
  s7 : Int
  k : Int
  m : Int
  b : Int
  key : ByteArray
  size : Int
  idx : Int
  ep : Int
  ct : Int
  blv : Value
  bls : List (Value × List UInt8)
  err : Int
def snC (s : Sn) : List Value := [.int .i64 s.kind, .int .u8 s.s0, .int .u8 s.s1, .int .u8 s.s2, .int .u8 s.s3, .int .u8 s.s4, .int .u8 s.s5, .int .u8 s.s6, .int .u8 s.s7, .int .i64 s.k, .int .i64 s.m, .int .i64 s.b, .string s.key, .int .i64 s.size, .int .i64 s.idx, .int .i64 s.ep, .int .i64 s.ct, s.blv, .int .i64 s.err]
theorem snC_len (s : Sn) : (snC s).length = 19 := rfl
/-- The verdict's numbers. -/
structure Vd where
  kind : Int
  ep : Int
  ct : Int
  size : Int
/-- Does the place show just that writing? -/
def showsB (v : Vd) (s : Sn) : Bool := s.kind == 2 && ((s.ep == v.ep && s.ct == v.ct) && s.size == v.size)
/-- Is a place stale? -/
def staleB (v : Vd) (s : Sn) : Bool := (v.kind == 1 && !(showsB v s)) || (v.kind == 2 && s.kind != 1)
def staleL (v : Vd) : List Sn → Nat → List Int
  | [], _ => []
  | s :: r, i => if staleB v s = true then (i : Int) :: staleL v r (i + 1) else staleL v r (i + 1)
theorem staleL_app (v : Vd) (s : Sn) : ∀ (l : List Sn) (i : Nat), staleL v (l ++ [s]) i = staleL v l i ++ (if staleB v s = true then [((i + l.length : Nat) : Int)] else [])
  | [], i => by
    simp only [List.nil_append, staleL, List.length_nil, Nat.add_zero]
  | a :: l, i => by
    have ih := staleL_app v s l (i + 1)
    simp only [List.cons_append, staleL, List.length_cons]
    rw [ih, show i + 1 + l.length = i + (l.length + 1) by omega]
    split <;> rfl
theorem staleL_len (v : Vd) : ∀ (l : List Sn) (i : Nat), (staleL v l i).length ≤ l.length
  | [], _ => Nat.le_refl _
  | s :: r, i => by
    have := staleL_len v r (i + 1)
    simp only [staleL, List.length_cons]
    split
    · rw [List.length_cons]; omega
    · omega
theorem gen_eql (a b c d : Int) (w : World) : (binOp .eql 27 (.agg #[.int .i64 a, .int .i64 b]) (.agg #[.int .i64 c, .int .i64 d])).run Tryz.prog w = .ok (.bool (a == c && b == d)) w := by
  go_simp
  by_cases h1 : a = c <;> simp [h1]
  by_cases h2 : b = d <;> simp [h2]
theorem writing_eql (a b e c d f : Int) (w : World) : (binOp .eql 95 (.agg #[.int .i64 a, .int .i64 b, .int .i64 e]) (.agg #[.int .i64 c, .int .i64 d, .int .i64 f])).run Tryz.prog w = .ok (.bool ((a == c && b == d) && e == f)) w := by
  go_simp
  by_cases h1 : a = c <;> simp [h1]
  by_cases h2 : b = d <;> simp [h2]
  by_cases h3 : e = f <;> simp [h3]
theorem info3 : (Tryz.prog.info? 3).map (fun i => (i.zero, i.size, i.bytes)) = some (some (Value.int .i64 0), 1, 8) := by kernel_rfl
/-- Numbers gathered in a row of the call's own. -/
structure NumRel (w wr : World) (out : Value) (xs : List Int) : Prop where
  own : wr.ownsRow w.heap.size 3 1 out xs.length (xs.map (Value.int .i64))
  bel : Below w.heap.size w wr
theorem NumRel.start (w wr : World) (hb : Below w.heap.size w wr) : NumRel w wr (.slice none 0 0) [] := ⟨World.ownsRow_nil _ _ _ _, hb⟩
theorem NumRel.later {w wr wx : World} {out : Value} {xs : List Int} (h : NumRel w wr out xs) (hb : Below wr.heap.size wr wx) : NumRel w wx out xs := ⟨own_keep h.own hb, h.bel.trans (hb.mono h.bel.size)⟩
theorem NumRel.add {w wr w2 : World} {out v2 : Value} {xs : List Int} {x : Int} {o : Obj} (h : NumRel w wr out xs) (ho : w2.ownsRow w.heap.size 3 1 v2 (xs.length + 1) (xs.map (Value.int .i64) ++ [.int .i64 x])) (hg : (wr.alloc o).grownBy w2 out.ownBlock) : NumRel w w2 v2 (xs ++ [x]) := by
  have hs := h.bel.size
  refine ⟨by rw [List.map_append, List.length_append]; exact ho, ?_⟩
  exact Below.grown (h.bel.alloc hs o) hg (by simp; omega) (fun j hj => (h.own.lt j hj).1)
theorem NumRel.is {w wr : World} {out : Value} {xs : List Int} (h : NumRel w wr out xs) : Is wr (New w wr) out xs :=
  Sl.of_own iC_len (by rw [iC_flat]; exact h.own) (fun g h1 h2 => ⟨h1, h2⟩)
set_option maxRecDepth 1000000 in
set_option maxHeartbeats 4000000 in
theorem rstale_any (v : Vd) (plv lv : Value) (l : List Sn) (hl : l.length ≤ 1099511627776) (w : World) (S : Nat → Prop) (hs : Sl w S 19 snC lv l) :
    Calls Tryz.prog 13 #[lv, .agg #[.int .i64 v.kind, .int .i64 v.ep, .int .i64 v.ct, .int .i64 v.size, plv]] w fun e w' => ∃ r, e = .returned r ∧ Is w' (New w w') r (staleL v l 0) ∧ Below w.heap.size w w' := by
  obtain ⟨i0, hi, hz0, hz1, hz2⟩ := info_parts info3
  have HI := Lib.hid hi; clear hi
  have HZ0 := Lib.hid hz0; clear hz0
  have HZ1 := Lib.hid hz1; clear hz1
  have HZ2 := Lib.hid hz2; clear hz2
  obtain ⟨A, c, rfl, hc⟩ := hs
  have HC := Lib.hid hc; clear hc
  obtain ⟨X, hX⟩ : ∃ X, w.alloc (.cells #[.int .i64 v.kind, .int .i64 v.ep, .int .i64 v.ct, .int .i64 v.size, plv] 32) = X := ⟨_, rfl⟩
  have hXB : Below w.heap.size w X := by
    subst hX
    exact (Below.refl _ _).alloc (Nat.le_refl _) _
  have hbx : Bk X w.heap.size 32 #[.int .i64 v.kind, .int .i64 v.ep, .int .i64 v.ct, .int .i64 v.size, plv] := by
    subst hX
    exact Bk.mk_new _ _ _
  have HX := Lib.hid hX
  have HXB := Lib.hid hXB
  have HBX := Lib.hid hbx
  have HBL := Lib.hid hbx.lt
  clear hX hXB hbx
  go_enter Tryz.func13, Tryz.ntmps13
  go_upto_region 1 with fail
  rw [HX.out]
  go_wp2
  go_loopw [5, 6] (fun out i wr => ∃ k : Nat, k ≤ l.length ∧ i = .int .i64 (k : Int) ∧ NumRel X wr out (staleL v (l.take k) 0)) (fun _ i _ => l.length - (intOf i).toNat)
  case atStart => exact ⟨0, by omega, rfl, NumRel.start X X (Below.refl _ _)⟩
  case round =>
    obtain ⟨k, hk, rfl, hrel⟩ := hrel
    have HR := Lib.hid hrel
    have hbx := HBX.out.below hrel.bel HBL.out
    have v0 : wr.cell? ⟨w.heap.size, 0, none⟩ = some (.int .i64 v.kind) := hbx.cell 0
    have v1 : wr.cell? ⟨w.heap.size, 1, none⟩ = some (.int .i64 v.ep) := hbx.cell 1
    have v2 : wr.cell? ⟨w.heap.size, 2, none⟩ = some (.int .i64 v.ct) := hbx.cell 2
    have v3 : wr.cell? ⟨w.heap.size, 3, none⟩ = some (.int .i64 v.size) := hbx.cell 3
    have hws := hrel.bel.size
    have hln := staleL_len v (l.take k) 0
    have htl : (l.take k).length ≤ k := List.length_take_le _ _
    clear hrel hbx
    by_cases hlt : k < l.length
    · obtain ⟨s, hs⟩ : ∃ s, l[k]? = some s := ⟨_, List.getElem?_eq_getElem hlt⟩
      obtain ⟨g, o, rfl, _, hcs⟩ := HC.out (by intro e; rw [e] at hlt; simp at hlt)
      have hat : ∀ (j : Nat) (u : Value), (snC s)[j]? = some u → wr.cell? ⟨g, o + k * 19 + j, none⟩ = some u := fun j u hj => cell_later (HXB.out.trans (HR.out.bel.mono HXB.out.size)) (hcs k s hs j u hj)
      have c0 : wr.cell? ⟨g, o + k * 19, none⟩ = some (.int .i64 s.kind) := hat 0 _ rfl
      have c13 : wr.cell? ⟨g, o + k * 19 + 1 + 12, none⟩ = some (.int .i64 s.size) := hat 13 _ rfl
      have c15 : wr.cell? ⟨g, o + k * 19 + 1 + 14, none⟩ = some (.int .i64 s.ep) := hat 15 _ rfl
      have c16 : wr.cell? ⟨g, o + k * 19 + 1 + 14 + 1, none⟩ = some (.int .i64 s.ct) := hat 16 _ rfl
      have hge := fun W => gen_eql s.ep s.ct v.ep v.ct W
      have hnext : staleL v (l.take (k + 1)) 0 = staleL v (l.take k) 0 ++ (if staleB v s = true then [(k : Int)] else []) := by
        rw [take_get l k s hs, staleL_app, List.length_take]
        rw [show 0 + min k l.length = k by omega]
      have HN := Lib.hid hnext
      have hi0 : (0 : Int) ≤ (k : Int) := by omega
      have hi1 : (k : Int) < (l.length : Int) := by omega
      have hn3 : (staleL v (l.take k) 0).length + 1 ≤ maxLen := by unfold maxLen; omega
      have hn4 : ((staleL v (l.take k) 0).length + 1) * 8 ≤ 140737488355328 := by omega
      clear hnext hcs hat hs
      go_wp2
      go_upto_region 5 with fail
      go_cut [7] from 8 to 67 (fun t wx => t = .bool (showsB v s) ∧ Below wr.heap.size wr wx)
      case first =>
        cases hk2 : s.kind == 2 with
        | false =>
          go_quiet (fail)
          go_wp2_with fail
          go_meet
          exact ⟨by unfold showsB; rw [hk2]; rfl, below_drewN (Below.refl _ _) _⟩
        | true =>
          cases hg : (s.ep == v.ep && s.ct == v.ct) with
          | false =>
            rw [hg] at hge
            go_quiet (fail)
            go_wp2_with fail
            go_meet
            exact ⟨by unfold showsB; rw [hk2, hg]; rfl, below_drewN (Below.refl _ _) _⟩
          | true =>
            rw [hg] at hge
            go_quiet (fail)
            go_wp2_with fail
            go_meet
            exact ⟨by unfold showsB; rw [hk2, hg]; rfl, below_drewN (Below.refl _ _) _⟩
      case rest =>
        obtain ⟨rfl, hwc⟩ := hcut
        have HWC := Lib.hid hwc
        obtain ⟨sh, hsh⟩ : ∃ sh, showsB v s = sh := ⟨_, rfl⟩
        rw [hsh]
        have HSH := Lib.hid hsh
        have v0' : wc.cell? ⟨w.heap.size, 0, none⟩ = some (.int .i64 v.kind) := cell_later hwc v0
        have c0' : wc.cell? ⟨g, o + k * 19, none⟩ = some (.int .i64 s.kind) := cell_later hwc c0
        clear v0 v1 v2 v3 c0 c13 c15 c16 hge hsh hwc
        go_upto_region 6 with fail
        go_cut [63] from 8 to 67 (fun t wx => t = .bool (staleB v s) ∧ wx = wc)
        case first =>
          cases h1 : v.kind == 1 <;> cases sh <;> cases h2 : v.kind == 2 <;> cases h3 : s.kind != 1
          all_goals (
            go_wp2_with fail
            go_meet
            exact ⟨by simp [staleB, h1, h2, h3, HSH.out], rfl⟩)
        case rest =>
          obtain ⟨rfl, rfl⟩ := hcut
          clear v0' c0'
          have HRC := Lib.hid (HR.out.later HWC.out)
          have hsz := HRC.out.bel.size
          cases hst : staleB v s with
          | true =>
            have HN2 := Lib.hid (show staleL v (l.take (k + 1)) 0 = staleL v (l.take k) 0 ++ [(k : Int)] by rw [HN.out, hst]; rfl)
            clear hst
            go_wp2_with (at_builtin; refine words.wpList_append_any _ rfl (.tmp 64) (.tmp 66) 30 (by rfl) X.heap.size 3 i0 (.int .i64 0) 1 8 Tryz.underlying30 HI.out HZ0.out HZ1.out HZ2.out rfl (by decide) u5 (staleL v (l.take k) 0).length ((staleL v (l.take k) 0).map (Value.int .i64)) (by rfl) (HRC.out.own.alloc _) (wc.heap.size + 1) _ 1 1 [.int .i64 (k : Int)] (by rfl) (reads_new _ _ _) (one_one rfl) hn3 hn4 ?_ ?_; (focus (simp; omega)); intro v4 w4 ho hg _; have X4 := Lib.hid (HRC.out.add ho hg); clear ho hg)
            go_roundw
            case rel => exact ⟨k + 1, by omega, by go_num, by rw [HN2.out]; exact X4.out⟩
            case measure => simp [intOf]; omega
          | false =>
            have HN2 := Lib.hid (show staleL v (l.take (k + 1)) 0 = staleL v (l.take k) 0 by rw [HN.out, hst]; simp)
            clear hst
            go_wp2
            go_roundw
            case rel => exact ⟨k + 1, by omega, by go_num, by rw [HN2.out]; exact HRC.out⟩
            case measure => simp [intOf]; omega
    · obtain rfl : k = l.length := by omega
      go_wp2
      go_ret
      have hr := HR.out
      rw [List.take_of_length_le (Nat.le_refl _)] at hr
      exact ⟨_, rfl, hr.is.mono (fun b hb => ⟨Nat.le_trans HXB.out.size hb.1, hb.2⟩), HXB.out.trans (hr.bel.mono HXB.out.size)⟩
end Go.Proofs.YtiaecfdfjhjgiaaGreat.hp
