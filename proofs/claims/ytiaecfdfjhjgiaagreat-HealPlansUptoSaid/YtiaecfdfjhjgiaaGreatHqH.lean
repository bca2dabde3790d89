/- Contract: cairnharm's Lent, walked. -/
import Derived.Laws.BytesString
import Derived.Deep.CutRange
import Derived.Deep.RegionHeld3
import Derived.Deep.CutBlock
import Derived.Deep.MidRow
import Derived.Deep.WholeRow
import Derived.Test.YtiaecfdfjhjgiaaGreatHqG
namespace Go.Proofs.YtiaecfdfjhjgiaaGreat.hp
open Go.RowKit kit Go.ChangeMaps Go.Maps Go.Sort
set_option linter.unusedVariables false

theorem info72 : (Tryz.prog.info? 72).map (fun i => (i.zero, i.size, i.bytes)) = some (some (.slice none 0 0), 1, 24) := by kernel_rfl
theorem info71 : (Tryz.prog.info? 71).map (fun i => (i.zero, i.size, i.bytes)) = some (some (.agg (snC ⟨0, 0, 0, 0, 0, 0, 0, 0, 0, 0, 0, 0, ⟨#[]⟩, 0, 0, 0, 0, .slice none 0 0, [], 0⟩).toArray), 19, 120) := by kernel_rfl
theorem one_three : ∀ u ∈ ([.int .u8 81, .int .u8 82, .int .u8 83] : List Value), u.oneCell' = true := by
  intro u hu
  simp at hu
  rcases hu with rfl | rfl | rfl <;> rfl
theorem lbk_made {w : World} {B B' g cap : Nat} {l : List UInt8} (h : w.ownsRow B 5 1 (.slice (some ⟨g, 0, none⟩) (0 + l.length + 3) cap) (0 + l.length + 3) ([] ++ Lib.byteCells l ++ [.int .u8 81, .int .u8 82, .int .u8 83])) (hB : B' ≤ B) : LBk w B' (.slice (some ⟨g, 0, none⟩) l.length cap) l := by
  rw [Nat.zero_add, List.nil_append] at h
  exact ⟨g, cap, rfl, own_base h hB⟩
theorem lent_two {wr x1 x2 : World} {v1 : Value} {n1 : Nat} {xs : List Value} {o : Obj} (hg1 : (wr.alloc (.cells #[] 5)).grownBy x1 (Value.slice (some ⟨wr.heap.size, 0, none⟩) 0 0).ownBlock) (ho1 : x1.ownsRow wr.heap.size 5 1 v1 n1 xs) (hg2 : (x1.alloc o).grownBy x2 v1.ownBlock) : Below wr.heap.size wr x2 := by
  have h1 : Below wr.heap.size wr x1 := Below.grown ((Below.refl _ _).alloc (Nat.le_refl _) _) hg1 (by simp) (fun j hj => by simp [Value.ownBlock] at hj; omega)
  have := h1.size
  exact Below.grown (h1.alloc h1.size o) hg2 (by simp; omega) (fun j hj => (ho1.lt j hj).1)
theorem reads_set {x : World} {p : Addr} {u : Value} {t k : Nat} {cs : List Value} (hk : cs.length = 1 * k) : words.Reads ((x.setCell p u).alloc (.cells cs.toArray t)) (x.heap.size + 1) k (some ⟨x.heap.size, 0, none⟩) 1 cs := by
  have := reads_many (x.setCell p u) t k 1 cs hk
  simpa using this
theorem reads_over {x : World} {o : Obj} {t : Nat} {u : Value} : words.Reads ((x.alloc o).alloc (.cells #[u] t)) (x.heap.size + 1 + 1) 1 (some ⟨x.heap.size + 1, 0, none⟩) 1 [u] := by
  have := reads_many (x.alloc o) t 1 1 [u] rfl
  simpa using this
theorem sn_one {s : Sn} {A : Option Addr} {n c : Nat} (h : s.blv = .slice A n c) : ∀ u ∈ snC s, u.oneCell' = true := by
  intro u hu
  unfold snC at hu
  simp only [List.mem_cons, List.not_mem_nil, or_false] at hu
  rw [h] at hu
  rcases hu with rfl | rfl | rfl | rfl | rfl | rfl | rfl | rfl | rfl | rfl | rfl | rfl | rfl | rfl | rfl | rfl | rfl | rfl | rfl <;> rfl
theorem LBs.set {w : World} {B n0 i e : Nat} {u v : Value} {bls : List (Value × List UInt8)} {cs : Array Value} (h : LBs w B v bls) (hn : n0 < B) (hb : Bk w n0 e cs) (he : 5 ≠ e) : LBs (w.setCell ⟨n0, i, none⟩ u) B v bls := by
  obtain ⟨g, cap, vs, g4, c4, h1, h2, h3, h4, h5⟩ := h
  have hk : ∀ g, g ≠ n0 → (w.setCell ⟨n0, i, none⟩ u).heap[g]? = w.heap[g]? := fun g hg => Below.heap_setCell w _ u g hg
  refine ⟨g, cap, vs, g4, c4, h1, own_same h2 fun x hx => hk x (by have := (h2.lt x hx).1; omega), h3, fun j v p hv hp => ?_, (hk g4 ?_).trans h5⟩
  · obtain ⟨gg, cc, k1, k2⟩ := h4 j v p hv hp
    exact ⟨gg, cc, k1, own_same k2 fun x hx => hk x (by have := (k2.lt x hx).1; omega)⟩
  · intro e1
    subst e1
    unfold Bk at h5 hb
    rw [h5] at hb
    injection hb with hb
    injection hb with _ hb _
    exact he hb
/-- The place's box, its list of blocks turned. -/
theorem box_turned {w : World} {n0 : Nat} {s : Sn} {v : Value} (h : Bk w n0 71 (snC s).toArray) : Bk (w.setCell ⟨n0, 17, none⟩ v) n0 71 (snC { s with blv := v }).toArray := h.put 17 v
theorem lent_box {wo w1 x : World} {n0 : Nat} {u : Value} (h1 : Below wo.heap.size wo w1) (hn : wo.heap.size = n0) (h2 : Below w1.heap.size w1 x) : Below wo.heap.size wo (x.setCell ⟨n0, 17, none⟩ u) :=
  (h1.trans (h2.mono h1.size)).setCell (by simp; omega) _
def mk77 : Sn := ⟨77, 0, 0, 0, 0, 0, 0, 0, 0, 0, 0, 0, ⟨#[]⟩, 0, 0, 0, 0, .slice none 0 0, [], 0⟩
def mk78 : Sn := ⟨78, 0, 0, 0, 0, 0, 0, 0, 0, 0, 0, 0, ⟨#[]⟩, 0, 0, 0, 0, .slice none 0 0, [], 0⟩
theorem marks_one : ∀ u ∈ snC mk77 ++ snC mk78, u.oneCell' = true := by
  intro u hu
  rcases List.mem_append.1 hu with h | h
  · exact sn_one (s := mk77) rfl u h
  · exact sn_one (s := mk78) rfl u h
/-- What is asked of a place. -/
structure SnOk (w : World) (S : Nat → Prop) (s : Sn) : Prop where
  bl : Blks w S s.blv s.bls
  n : s.bls.length ≤ 1099511627776
  l : ∀ p ∈ s.bls, p.2.length ≤ 1099511627776
theorem SnOk.keep {w w' : World} {S : Nat → Prop} {s : Sn} (h : SnOk w S s) (hb : Below w.heap.size w w') : SnOk w' S s := ⟨h.bl.keep hb, h.n, h.l⟩
set_option maxRecDepth 1000000 in
set_option maxHeartbeats 4000000 in
theorem lent_any (lv : Value) (l : List Sn) (hl : l.length ≤ 1099511627776) (w : World) (S : Nat → Prop) (hs : Sl w S 19 snC lv l) (hok : ∀ s ∈ l, SnOk w S s) :
    Calls Tryz.prog 6 #[lv] w fun e w' => ∃ (g cap : Nat) (ls : List Sn), e = .returned (.slice (some ⟨g, 0, none⟩) l.length cap) ∧
      w'.ownsRow w.heap.size 71 19 (.slice (some ⟨g, 0, none⟩) (l.length + 2) cap) (l.length + 2) (ls.flatMap snC ++ (snC mk77 ++ snC mk78)) ∧
      ls.length = l.length ∧ (∀ (i : Nat) (s s' : Sn), l[i]? = some s → ls[i]? = some s' → ∃ bv, s' = { s with blv := bv } ∧ LBs w' w.heap.size bv s.bls) ∧ Below w.heap.size w w' := by
  obtain ⟨i5, hi, hz0, hz1, hz2⟩ := info_parts info5
  have HI5 := Lib.hid hi; clear hi
  have HZ50 := Lib.hid hz0; clear hz0
  have HZ51 := Lib.hid hz1; clear hz1
  have HZ52 := Lib.hid hz2; clear hz2
  obtain ⟨i72, hi, hz0, hz1, hz2⟩ := info_parts info72
  have HI72 := Lib.hid hi; clear hi
  have HZ720 := Lib.hid hz0; clear hz0
  have HZ721 := Lib.hid hz1; clear hz1
  have HZ722 := Lib.hid hz2; clear hz2
  obtain ⟨i71, hi, hz0, hz1, hz2⟩ := info_parts info71
  have HI71 := Lib.hid hi; clear hi
  have HZ710 := Lib.hid hz0; clear hz0
  have HZ711 := Lib.hid hz1; clear hz1
  have HZ712 := Lib.hid hz2; clear hz2
  obtain ⟨A, c, rfl, hc⟩ := hs
  have HC := Lib.hid hc; clear hc
  have HOK := Lib.hid hok; clear hok
  go_enter Tryz.func6, Tryz.ntmps6
  go_wp2
  go_loopw [3, 4] (fun out i wr => ∃ (k : Nat) (ls : List Sn), k ≤ l.length ∧ i = .int .i64 (k : Int) ∧ LRel w wr out k l ls) (fun _ i _ => l.length - (intOf i).toNat)
  case atStart => exact ⟨0, [], by omega, rfl, LRel.start w l⟩
  case round =>
    obtain ⟨k, ls, hk, rfl, hrel⟩ := hrel
    have HR := Lib.hid hrel
    have hws := hrel.bel.size
    clear hrel
    by_cases hlt : k < l.length
    · obtain ⟨s, hs⟩ : ∃ s, l[k]? = some s := ⟨_, List.getElem?_eq_getElem hlt⟩
      obtain ⟨g, o, rfl, _, hcs⟩ := HC.out (by intro e; rw [e] at hlt; simp at hlt)
      have hrg : wr.rangeAt g (o + k * 19) (snC s) := fun j u hj => cell_later HR.out.bel (hcs k s hs j u hj)
      have HRG := Lib.hid hrg
      have HOKs := Lib.hid ((HOK.out s (List.mem_of_getElem? hs)).keep HR.out.bel)
      obtain ⟨Ab, cb, hblv, _⟩ := HOKs.out.bl.1
      have hi0 : (0 : Int) ≤ (k : Int) := by omega
      have hi1 : (k : Int) < (l.length : Int) := by omega
      have hone : (snC s).toArray.all (·.oneCell') = true := by
        show ([_, _, _, _, _, _, _, _, _, _, _, _, _, _, _, _, _, s.blv, _] : List Value).toArray.all (·.oneCell') = true
        rw [hblv]
        simp [Value.oneCell']
      have HONE := Lib.hid hone
      have HSK := Lib.hid hs
      have HBLV := Lib.hid hblv
      clear hs hcs hrg hblv hone
      go_upto_region 6 with (first | (refine wp_store_row 71 _ _ rfl wr.heap.size (snC s).toArray rfl rfl 71 _ (heap_alloc_last _ _) rfl rfl HONE.out ?_; rw [World.setRow_alloc_new]) | (refine wp_load_mid 71 _ rfl g (o + k * 19) rfl (snC s) _ HRG.out rfl rfl rfl ?_) | (refine wpList_load_mid rfl 71 _ rfl g (o + k * 19) rfl (snC s) _ HRG.out rfl rfl rfl ?_) | (refine wpList_store_row rfl 71 _ _ rfl wr.heap.size (snC s).toArray rfl rfl 71 _ (heap_alloc_last _ _) rfl rfl HONE.out ?_; rw [World.setRow_alloc_new]))
      have hbx : Bk (wr.alloc (.cells (snC s).toArray 71)) wr.heap.size 71 (snC s).toArray := Bk.mk_new _ _ _
      have hb1 : Below wr.heap.size wr (wr.alloc (.cells (snC s).toArray 71)) := (Below.refl _ _).alloc (Nat.le_refl _) _
      have hsz1 : (wr.alloc (.cells (snC s).toArray 71)).heap.size = wr.heap.size + 1 := by simp
      generalize wr.alloc (.cells (snC s).toArray 71) = w1 at *
      obtain ⟨n0, hn0⟩ : ∃ n, wr.heap.size = n := ⟨_, rfl⟩
      have HN0 := Lib.hid hn0
      rw [hn0] at hbx hsz1 ⊢
      have HBX := Lib.hid hbx
      have HB1 := Lib.hid hb1
      have HSZ1 := Lib.hid hsz1
      have HOK1 := Lib.hid (HOKs.out.keep hb1)
      have HBL := Lib.hid HOK1.out.bl.1
      have hnb := HOKs.out.n
      clear HRG HONE hbx hb1 hn0
      go_wp2
      go_loopw [6, 7] (fun bv q wx => ∃ (j : Nat) (vs : List Value), j ≤ s.bls.length ∧ q = .int .i64 (j : Int) ∧ LIn w1 wx bv j s.bls vs) (fun _ q _ => s.bls.length - (intOf q).toNat)
      case atStart => exact ⟨0, [], by omega, rfl, LIn.start w1 _⟩
      case round =>
        obtain ⟨j, vs, hj, rfl, hrel⟩ := hrel
        have HI := Lib.hid hrel
        have hwx := hrel.bel.size
        have c17 : wr.cell? ⟨n0, 17, none⟩ = some (.slice Ab s.bls.length cb) := by
          rw [← HBLV.out]
          exact (HBX.out.below hrel.bel (by omega)).cell 17
        clear hrel
        by_cases hlt2 : j < s.bls.length
        · obtain ⟨p, hp⟩ : ∃ p, s.bls[j]? = some p := ⟨_, List.getElem?_eq_getElem hlt2⟩
          obtain ⟨A', cb', hA, hcc⟩ := HBL.out
          have hA2 := hA.symm.trans HBLV.out
          injection hA2 with hA3 _ hA4
          subst hA3 hA4
          obtain ⟨g2, o2, rfl, _, hc2⟩ := hcc (by intro e; rw [e] at hlt2; simp at hlt2)
          have hby := (HOK1.out.bl.2 p (List.mem_of_getElem? hp)).keep HI.out.bel
          obtain ⟨Ap, cp, hpv, hrd⟩ := hby.reads
          have c1 : wr.cell? ⟨g2, o2 + j, none⟩ = some (.slice Ap p.2.length cp) := by
            have := cell_later HI.out.bel (hc2 j p hp 0 _ rfl)
            rw [Nat.mul_one] at this
            rw [← hpv]
            exact this
          have hn0l : n0 < wr.heap.size := block_lt_of_cell c17
          have hg2l : g2 < wr.heap.size := block_lt_of_cell c1
          have hpl := HOK1.out.l p (List.mem_of_getElem? hp)
          have HP := Lib.hid hp
          have HRD := Lib.hid hrd
          have j0 : (0 : Int) ≤ (j : Int) := by omega
          have j1 : (j : Int) < (s.bls.length : Int) := by omega
          clear hA hcc hc2 hby hpv hrd hp
          have hm1 : 0 + p.2.length ≤ maxLen := by unfold maxLen; omega
          have hm2 : (0 + p.2.length) * 1 ≤ 140737488355328 := by omega
          have hm3 : 0 + p.2.length + 3 ≤ maxLen := by unfold maxLen; omega
          have hm4 : (0 + p.2.length + 3) * 1 ≤ 140737488355328 := by omega
          have hm5 : j + 1 ≤ maxLen := by unfold maxLen; omega
          have hm6 : (j + 1) * 24 ≤ 140737488355328 := by omega
          go_wp2_with (first
            | (at_builtin; refine words.wpList_append_any _ rfl (.tmp 27) (.tmp 33) 72 (by rfl) wr.heap.size 5 i5 (.int .u8 0) 1 1 Tryz.underlying72 HI5.out HZ50.out HZ51.out HZ52.out rfl (by decide) _ 0 [] (by rfl) (own_made wr 5 1) wr.heap.size Ap p.2.length cp (Lib.byteCells p.2) (by rfl) (HRD.out.alloc (Nat.le_refl _) _) (byte_one p.2) hm1 hm2 (by simp) ?_; intro v1 x1 ho1 hg1 _; have HO1 := Lib.hid ho1; have HG1 := Lib.hid hg1; have hx1 : wr.heap.size + 1 ≤ x1.heap.size := (by have := hg1.size; simpa using this); clear ho1 hg1)
            | (at_builtin; refine words.wpList_append_any _ rfl (.tmp 35) (.tmp 36) 72 (by rfl) wr.heap.size 5 i5 (.int .u8 0) 1 1 Tryz.underlying72 HI5.out HZ50.out HZ51.out HZ52.out rfl (by decide) v1 _ _ (by rfl) (HO1.out.alloc _) (x1.heap.size + 1) _ 3 3 [.int .u8 81, .int .u8 82, .int .u8 83] (by rfl) (reads_many _ _ 1 3 _ rfl) one_three hm3 hm4 ?_ ?_; (focus (simp; omega)); intro v2 x2 ho2 hg2 _; obtain ⟨gb, capb, hv2, hcb⟩ := own_some ho2 (Nat.succ_pos _); subst hv2; have HX2 := Lib.hid (lent_two HG1.out HO1.out hg2); have HV2 := Lib.hid (lbk_made ho2 hwx); have hx2 := HX2.out.size; clear ho2 hg2)
            | (at_builtin; refine words.wpList_append_any _ rfl (.tmp 38) (.tmp 44) 66 (by rfl) w1.heap.size 72 i72 (.slice none 0 0) 1 24 Tryz.underlying66 HI72.out HZ720.out HZ721.out HZ722.out rfl (by decide) u6 j vs (by rfl) ((own_keep HI.out.row HX2.out).alloc _) (x2.heap.size + 1) _ 1 1 [.slice (some ⟨gb, 0, none⟩) p.2.length capb] (by rfl) (reads_new _ _ _) (one_one rfl) hm5 hm6 ?_ ?_; (focus (simp; omega)); intro v3 x3 ho3 hg3 _; have HI3 := Lib.hid (HI.out.add HX2.out HP.out HV2.out ho3 hg3); clear ho3 hg3))
          go_roundw
          case rel => exact ⟨j + 1, vs ++ [_], by omega, by go_num, HI3.out⟩
          case measure => simp [intOf]; omega
        · obtain rfl : j = s.bls.length := by omega
          have hm5 : s.bls.length + 1 ≤ maxLen := by unfold maxLen; omega
          have hm6 : (s.bls.length + 1) * 24 ≤ 140737488355328 := by omega
          have hm7 : k + 1 ≤ maxLen := by unfold maxLen; omega
          have hm8 : (k + 1) * 120 ≤ 140737488355328 := by omega
          have HWW := Lib.hid hws
          have HC17 : Hid (∀ W, Below w1.heap.size w1 W → W.cell? ⟨n0, 17, none⟩ = some (.slice Ab s.bls.length cb)) := Lib.hid (fun W hW => by
            rw [← HBLV.out]
            exact (HBX.out.below hW (by omega)).cell 17)
          have hnl : n0 < w1.heap.size := by omega
          have HNL := Lib.hid hnl
          have HBA : Hid (Below wr.heap.size wr (wr.alloc (.cells #[.int .u8 84] 5))) := Lib.hid ((Below.refl _ _).alloc (Nat.le_refl _) _)
          clear hsz1
          go_upto_region 15 with (at_builtin; refine words.wpList_append_any _ rfl (.tmp 46) (.tmp 48) 66 (by rfl) w1.heap.size 72 i72 (.slice none 0 0) 1 24 Tryz.underlying66 HI72.out HZ720.out HZ721.out HZ722.out rfl (by decide) u6 s.bls.length vs (by rfl) ((own_keep HI.out.row HBA.out).alloc _) (wr.heap.size + 1 + 1) (some ⟨wr.heap.size + 1, 0, none⟩) 1 1 [.slice (some ⟨wr.heap.size, 0, none⟩) 1 1] (by rfl) reads_over (one_one rfl) hm5 hm6 ?_ ?_; (focus (simp; omega)); intro v3 x3 ho3 hg3 _; obtain ⟨gv, capv, hv3, hcv⟩ := own_some ho3 (Nat.succ_pos _); subst hv3; have HM := Lib.hid (HI.out.mark ho3 hg3); have c18 := HC17.out _ HM.out.2; have hnx : n0 < x3.heap.size := block_lt_of_cell c18; have HB3 := Lib.hid (HBX.out.below HM.out.2 HNL.out); have f18 : x3.frozen? ⟨n0, 17, none⟩ = false := HB3.out.free 17; have HBT : Hid ((x3.setCell ⟨n0, 17, none⟩ (.slice (some ⟨gv, 0, none⟩) s.bls.length capv)).heap[n0]? = some (.cells #[.int .i64 s.kind, .int .u8 s.s0, .int .u8 s.s1, .int .u8 s.s2, .int .u8 s.s3, .int .u8 s.s4, .int .u8 s.s5, .int .u8 s.s6, .int .u8 s.s7, .int .i64 s.k, .int .i64 s.m, .int .i64 s.b, .string s.key, .int .i64 s.size, .int .i64 s.idx, .int .i64 s.ep, .int .i64 s.ct, .slice (some ⟨gv, 0, none⟩) s.bls.length capv, .int .i64 s.err] 71 (0, 0))) := Lib.hid (box_turned HB3.out); clear ho3 hg3)
          go_wp2_with (first
            | (refine wpList_load_row rfl 71 _ rfl n0 rfl 71 #[.int .i64 s.kind, .int .u8 s.s0, .int .u8 s.s1, .int .u8 s.s2, .int .u8 s.s3, .int .u8 s.s4, .int .u8 s.s5, .int .u8 s.s6, .int .u8 s.s7, .int .i64 s.k, .int .i64 s.m, .int .i64 s.b, .string s.key, .int .i64 s.size, .int .i64 s.idx, .int .i64 s.ep, .int .i64 s.ct, .slice (some ⟨gv, 0, none⟩) s.bls.length capv, .int .i64 s.err] (0, 0) _ HBT.out rfl rfl rfl ?_)
            | (at_builtin; refine words.wpList_append_any _ rfl (.tmp 57) (.tmp 59) 33 (by rfl) w.heap.size 71 i71 _ 19 120 Tryz.underlying33 HI71.out HZ710.out HZ711.out HZ712.out rfl (by decide) u3 k (ls.flatMap snC) (by rfl) ((own_keep HR.out.row (lent_box HB1.out HN0.out HM.out.2)).alloc _) (x3.heap.size + 1) (some ⟨x3.heap.size, 0, none⟩) 1 1 (snC { s with blv := .slice (some ⟨gv, 0, none⟩) s.bls.length capv }) (by rfl) (reads_set rfl) (sn_one rfl) hm7 hm8 ?_ ?_; (focus (rw [World.size_alloc, World.size_setCell]; exact Nat.le_trans (Nat.le_trans HWW.out (Nat.le_trans HB1.out.size HM.out.2.size)) (Nat.le_succ _))); intro v4 x4 ho4 hg4 _; have HL4 := Lib.hid (HR.out.add (lent_box HB1.out HN0.out HM.out.2) HSK.out ((HM.out.1.set HNL.out HB3.out (by decide)).base (Nat.le_trans HWW.out HB1.out.size)) ho4 hg4); clear ho4 hg4))
          go_roundw
          case rel => exact ⟨k + 1, ls ++ [_], by omega, by go_num, HL4.out⟩
          case measure => simp [intOf]; omega
    · obtain rfl : k = l.length := by omega
      have hm7 : l.length + 2 ≤ maxLen := by unfold maxLen; omega
      have hm8 : (l.length + 2) * 120 ≤ 140737488355328 := by omega
      go_wp2_with (at_builtin; refine words.wpList_append_any _ rfl (.tmp 61) (.tmp 64) 33 (by rfl) w.heap.size 71 i71 _ 19 120 Tryz.underlying33 HI71.out HZ710.out HZ711.out HZ712.out rfl (by decide) u3 l.length (ls.flatMap snC) (by rfl) (HR.out.row.alloc _) (wr.heap.size + 1) _ 2 2 (snC mk77 ++ snC mk78) (by rfl) (reads_many _ _ 19 2 _ rfl) marks_one hm7 hm8 ?_ ?_; (focus (simp; omega)); intro v3 x3 ho3 hg3 _; obtain ⟨gv, capv, hv3, hcv⟩ := own_some ho3 (Nat.succ_pos _); subst hv3; have HO := Lib.hid ho3; have HG := Lib.hid hg3; clear ho3 hg3)
      have hr := HR.out
      have hbo : Below w.heap.size w x3 := Below.grown (hr.bel.alloc hr.bel.size _) HG.out (by simp; have := hr.bel.size; omega) (fun j hj => (hr.row.lt j hj).1)
      go_ret
      exact ⟨gv, capv, ls, rfl, HO.out, hr.len, fun i s s' h1 h2 => by
        obtain ⟨bv, h3, h4⟩ := hr.at_ i s s' h1 h2
        exact ⟨bv, h3, h4.far hr.row (by decide) (by decide) HG.out⟩, hbo⟩
end Go.Proofs.YtiaecfdfjhjgiaaGreat.hp
