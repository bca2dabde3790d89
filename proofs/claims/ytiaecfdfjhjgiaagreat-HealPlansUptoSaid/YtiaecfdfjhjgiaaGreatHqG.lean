/- Contract: cairnharm's Lent: places that show the same, each block and each list with marks behind its end. -/
import Derived.Laws.BytesString
import Derived.Deep.CutRange
import Derived.Deep.RegionHeld3
import Derived.Deep.CutBlock
import Derived.Deep.MidRow
import Derived.Deep.WholeRow
import Derived.Test.YtiaecfdfjhjgiaaGreatHpY
import Derived.Test.YtiaecfdfjhjgiaaGreatHqE
namespace Go.Proofs.YtiaecfdfjhjgiaaGreat.hp
open Go.RowKit kit Go.ChangeMaps Go.Maps Go.Sort
set_option linter.unusedVariables false

theorem reads_many (w : World) (t : TypeId) (k n : Nat) (cs : List Value) (hn : cs.length = n * k) : words.Reads (w.alloc (.cells cs.toArray t)) (w.heap.size + 1) k (some ⟨w.heap.size, 0, none⟩) n cs := by
  refine ⟨hn, fun _ => ⟨_, rfl, Nat.lt_succ_self _, fun j u hu => ?_⟩⟩
  have h := (Bk.mk_new w t cs.toArray).cell j
  have e : (⟨w.heap.size, 0, none⟩ : Addr).add j = ⟨w.heap.size, j, none⟩ := by
    unfold Addr.add
    split
    · rename_i h0; rw [h0]
    · simp
  rw [e, h]
  simpa using hu
theorem own_some {w : World} {B e k n : Nat} {v : Value} {xs : List Value} (h : w.ownsRow B e k v n xs) (hn : 0 < n) : ∃ g cap, v = .slice (some ⟨g, 0, none⟩) n cap ∧ n ≤ cap := by
  rcases h.2 with ⟨_, h0⟩ | ⟨g, cap, cur, hv, _, _, hc, _⟩
  · omega
  · exact ⟨g, cap, hv, hc⟩
/-- What another row's append leaves. -/
theorem own_grown {w w' : World} {B e k n B0 e0 k0 n0 : Nat} {v v0 : Value} {xs x0 : List Value} {o : Obj} (h : w.ownsRow B e k v n xs) (h0 : w.ownsRow B0 e0 k0 v0 n0 x0) (he : e ≠ e0) (hg : (w.alloc o).grownBy w' v0.ownBlock) : w'.ownsRow B e k v n xs :=
  own_same h fun g hgv => (hg.block g (by have := (h.lt g hgv).2; simp; omega) (own_ne h h0 he g hgv)).trans (Below.heap_alloc w o g (h.lt g hgv).2)
theorem bk_grown {w w' : World} {g e B0 e0 k0 n0 : Nat} {v0 : Value} {cs : Array Value} {x0 : List Value} {o : Obj} (h : Bk w g e cs) (h0 : w.ownsRow B0 e0 k0 v0 n0 x0) (he : e ≠ e0) (hg : (w.alloc o).grownBy w' v0.ownBlock) : Bk w' g e cs := by
  refine ((hg.block g (by have := h.lt; simp; omega) ?_).trans (Below.heap_alloc w o g h.lt)).trans h
  intro e1
  rcases h0.2 with ⟨rfl, _⟩ | ⟨g2, cap2, cur2, rfl, _, b2, _⟩
  · simp [Value.ownBlock] at e1
  · simp [Value.ownBlock] at e1
    subst e1
    unfold Bk at h
    rw [h] at b2
    injection b2 with b2
    injection b2 with _ b2 _
    exact he b2
/-- A block that was lent: its bytes, three marks behind them. -/
def LBk (w : World) (B : Nat) (v : Value) (l : List UInt8) : Prop :=
  ∃ g cap, v = .slice (some ⟨g, 0, none⟩) l.length cap ∧ w.ownsRow B 5 1 (.slice (some ⟨g, 0, none⟩) (l.length + 3) cap) (l.length + 3) (Lib.byteCells l ++ [.int .u8 81, .int .u8 82, .int .u8 83])
/-- A place's blocks that were lent: a mark behind them. -/
def LBs (w : World) (B : Nat) (v : Value) (bls : List (Value × List UInt8)) : Prop :=
  ∃ (g cap : Nat) (vs : List Value) (g4 c4 : Nat), v = .slice (some ⟨g, 0, none⟩) bls.length cap ∧ w.ownsRow B 72 1 (.slice (some ⟨g, 0, none⟩) (bls.length + 1) cap) (bls.length + 1) (vs ++ [.slice (some ⟨g4, 0, none⟩) 1 c4]) ∧ vs.length = bls.length ∧
    (∀ (i : Nat) (v : Value) (p : Value × List UInt8), vs[i]? = some v → bls[i]? = some p → LBk w B v p.2) ∧ Bk w g4 5 #[.int .u8 84]
section
variable {w w' : World} {B B' : Nat} {v : Value} {l : List UInt8} {bls : List (Value × List UInt8)}
theorem LBk.keep (h : LBk w B v l) (hb : Below w.heap.size w w') : LBk w' B v l := by
  obtain ⟨g, cap, h1, h2⟩ := h
  exact ⟨g, cap, h1, own_keep h2 hb⟩
theorem LBk.base (h : LBk w B v l) (hb : B' ≤ B) : LBk w B' v l := by
  obtain ⟨g, cap, h1, h2⟩ := h
  exact ⟨g, cap, h1, own_base h2 hb⟩
theorem LBk.far {B0 e0 k0 n0 : Nat} {v0 : Value} {x0 : List Value} {o : Obj} (h : LBk w B v l) (h0 : w.ownsRow B0 e0 k0 v0 n0 x0) (he : 5 ≠ e0) (hg : (w.alloc o).grownBy w' v0.ownBlock) : LBk w' B v l := by
  obtain ⟨g, cap, h1, h2⟩ := h
  exact ⟨g, cap, h1, own_grown h2 h0 he hg⟩
theorem LBs.keep (h : LBs w B v bls) (hb : Below w.heap.size w w') : LBs w' B v bls := by
  obtain ⟨g, cap, vs, g4, c4, h1, h2, h3, h4, h5⟩ := h
  exact ⟨g, cap, vs, g4, c4, h1, own_keep h2 hb, h3, fun i v p hv hp => (h4 i v p hv hp).keep hb, h5.below hb h5.lt⟩
theorem LBs.base (h : LBs w B v bls) (hb : B' ≤ B) : LBs w B' v bls := by
  obtain ⟨g, cap, vs, g4, c4, h1, h2, h3, h4, h5⟩ := h
  exact ⟨g, cap, vs, g4, c4, h1, own_base h2 hb, h3, fun i v p hv hp => (h4 i v p hv hp).base hb, h5⟩
theorem LBs.far {B0 e0 k0 n0 : Nat} {v0 : Value} {x0 : List Value} {o : Obj} (h : LBs w B v bls) (h0 : w.ownsRow B0 e0 k0 v0 n0 x0) (he : 5 ≠ e0) (he2 : 72 ≠ e0) (hg : (w.alloc o).grownBy w' v0.ownBlock) : LBs w' B v bls := by
  obtain ⟨g, cap, vs, g4, c4, h1, h2, h3, h4, h5⟩ := h
  exact ⟨g, cap, vs, g4, c4, h1, own_grown h2 h0 he2 hg, h3, fun i v p hv hp => (h4 i v p hv hp).far h0 he hg, bk_grown h5 h0 he hg⟩
end
/-- Within a place: so many blocks are lent. -/
structure LIn (w1 wr : World) (bv : Value) (k : Nat) (bls : List (Value × List UInt8)) (vs : List Value) : Prop where
  row : wr.ownsRow w1.heap.size 72 1 bv k vs
  len : vs.length = k
  blk : ∀ (i : Nat) (v : Value) (p : Value × List UInt8), vs[i]? = some v → bls[i]? = some p → LBk wr w1.heap.size v p.2
  bel : Below w1.heap.size w1 wr
/-- So many places are lent. -/
structure LRel (w wr : World) (out : Value) (k : Nat) (l ls : List Sn) : Prop where
  row : wr.ownsRow w.heap.size 71 19 out k (ls.flatMap snC)
  len : ls.length = k
  at_ : ∀ (i : Nat) (s s' : Sn), l[i]? = some s → ls[i]? = some s' → ∃ bv, s' = { s with blv := bv } ∧ LBs wr w.heap.size bv s.bls
  bel : Below w.heap.size w wr
theorem LIn.start (w1 : World) (bls : List (Value × List UInt8)) : LIn w1 w1 (.slice none 0 0) 0 bls [] := ⟨World.ownsRow_nil _ _ _ _, rfl, fun i v p h => by simp at h, Below.refl _ _⟩
theorem LRel.start (w : World) (l : List Sn) : LRel w w (.slice none 0 0) 0 l [] := ⟨World.ownsRow_nil _ _ _ _, rfl, fun i v p _ h => by simp at h, Below.refl _ _⟩
theorem LIn.add {w1 wr wx w2 : World} {bv v v2 : Value} {k : Nat} {bls : List (Value × List UInt8)} {vs : List Value} {p : Value × List UInt8} {o : Obj} (h : LIn w1 wr bv k bls vs) (hb : Below wr.heap.size wr wx) (hp : bls[k]? = some p) (hv : LBk wx w1.heap.size v p.2)
    (ho : w2.ownsRow w1.heap.size 72 1 v2 (k + 1) (vs ++ [v])) (hg : (wx.alloc o).grownBy w2 bv.ownBlock) : LIn w1 w2 v2 (k + 1) bls (vs ++ [v]) := by
  have hrow : wx.ownsRow w1.heap.size 72 1 bv k vs := own_keep h.row hb
  have hs := h.bel.size
  have hs2 := hb.size
  refine ⟨ho, by rw [List.length_append, h.len]; rfl, fun i u q hu hq => ?_, ?_⟩
  · by_cases hi : i < k
    · rw [List.getElem?_append_left (by rw [h.len]; exact hi)] at hu
      exact ((h.blk i u q hu hq).keep hb).far hrow (by decide) hg
    · have hik : i = k := by
        have := (List.getElem?_eq_some_iff.1 hu).1
        rw [List.length_append, h.len] at this
        simp at this
        omega
      subst hik
      rw [List.getElem?_append_right (by rw [h.len]; exact Nat.le_refl _), h.len] at hu
      simp at hu
      subst hu
      rw [hp] at hq
      injection hq with hq
      subst hq
      exact hv.far hrow (by decide) hg
  · exact Below.grown ((h.bel.trans (hb.mono hs)).alloc (by omega) o) hg (by simp; omega) (fun j hj => (h.row.lt j hj).1)
/-- Behind the mark. -/
theorem LIn.mark {w1 wr w2 : World} {bv : Value} {bls : List (Value × List UInt8)} {vs : List Value} {o : Obj} {c4 g cap : Nat} (h : LIn w1 wr bv bls.length bls vs)
    (ho : w2.ownsRow w1.heap.size 72 1 (.slice (some ⟨g, 0, none⟩) (bls.length + 1) cap) (bls.length + 1) (vs ++ [.slice (some ⟨wr.heap.size, 0, none⟩) 1 c4])) (hg : ((wr.alloc (.cells #[.int .u8 84] 5)).alloc o).grownBy w2 bv.ownBlock) : LBs w2 w1.heap.size (.slice (some ⟨g, 0, none⟩) bls.length cap) bls ∧ Below w1.heap.size w1 w2 := by
  have hb : Below wr.heap.size wr (wr.alloc (.cells #[.int .u8 84] 5)) := (Below.refl _ _).alloc (Nat.le_refl _) _
  have hrow := own_keep h.row hb
  have hs := h.bel.size
  refine ⟨⟨g, cap, vs, wr.heap.size, c4, rfl, ho, h.len, fun i u q hu hq => ((h.blk i u q hu hq).keep hb).far hrow (by decide) hg, bk_grown (Bk.mk_new _ _ _) hrow (by decide) hg⟩, ?_⟩
  exact Below.grown ((h.bel.trans (hb.mono hs)).alloc (by simp; omega) o) hg (by simp; omega) (fun j hj => (h.row.lt j hj).1)
theorem LRel.add {w wr wx w2 : World} {out v2 bv : Value} {k : Nat} {l ls : List Sn} {s : Sn} {o : Obj} (h : LRel w wr out k l ls) (hb : Below wr.heap.size wr wx) (hp : l[k]? = some s) (hv : LBs wx w.heap.size bv s.bls)
    (ho : w2.ownsRow w.heap.size 71 19 v2 (k + 1) (ls.flatMap snC ++ snC { s with blv := bv })) (hg : (wx.alloc o).grownBy w2 out.ownBlock) : LRel w w2 v2 (k + 1) l (ls ++ [{ s with blv := bv }]) := by
  have hrow : wx.ownsRow w.heap.size 71 19 out k (ls.flatMap snC) := own_keep h.row hb
  have hs := h.bel.size
  have hs2 := hb.size
  refine ⟨by rw [List.flatMap_append, List.flatMap_singleton]; exact ho, by rw [List.length_append, h.len]; rfl, fun i u q hq hu => ?_, ?_⟩
  · by_cases hi : i < k
    · rw [List.getElem?_append_left (by rw [h.len]; exact hi)] at hu
      obtain ⟨bw, h1, h2⟩ := h.at_ i u q hq hu
      exact ⟨bw, h1, (h2.keep hb).far hrow (by decide) (by decide) hg⟩
    · have hik : i = k := by
        have := (List.getElem?_eq_some_iff.1 hu).1
        rw [List.length_append, h.len] at this
        simp at this
        omega
      subst hik
      rw [List.getElem?_append_right (by rw [h.len]; exact Nat.le_refl _), h.len] at hu
      simp at hu
      rw [hp] at hq
      injection hq with hq
      subst hq
      exact ⟨bv, hu.symm, hv.far hrow (by decide) (by decide) hg⟩
  · exact Below.grown ((h.bel.trans (hb.mono hs)).alloc (by omega) o) hg (by simp; omega) (fun j hj => (h.row.lt j hj).1)
end Go.Proofs.YtiaecfdfjhjgiaaGreat.hp
