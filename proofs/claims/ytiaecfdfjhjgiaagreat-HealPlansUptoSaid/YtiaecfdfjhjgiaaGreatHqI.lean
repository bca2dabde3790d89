/- Contract: cairnharm's Kept: what was lent and not changed is found so. -/
import Derived.Laws.BytesString
import Derived.Deep.CutRange
import Derived.Deep.RegionHeld3
import Derived.Deep.CutBlock
import Derived.Deep.MidRow
import Derived.Deep.WholeRow
import Derived.Test.YtiaecfdfjhjgiaaGreatHqH
namespace Go.Proofs.YtiaecfdfjhjgiaaGreat.hp
open Go.RowKit kit Go.ChangeMaps Go.Maps Go.Sort
set_option linter.unusedVariables false

theorem own_seg {w : World} {B e k n g cap : Nat} {xs : List Value} (h : w.ownsRow B e k (.slice (some ⟨g, 0, none⟩) n cap) n xs) (j : Nat) (u : Value) (hj : xs[j]? = some u) : w.cell? ⟨g, 0 + j, none⟩ = some u := by
  have := h.cells (g := g) rfl j u hj
  have e : (⟨g, 0, none⟩ : Addr).add j = ⟨g, 0 + j, none⟩ := by
    unfold Addr.add
    split
    · rename_i h0; rw [h0]
    · rfl
  rw [e] at this
  exact this
theorem own_cap {w : World} {B e k n m g cap : Nat} {xs : List Value} (h : w.ownsRow B e k (.slice (some ⟨g, 0, none⟩) n cap) m xs) : n ≤ cap := by
  rcases h.2 with ⟨hv, _⟩ | ⟨g1, cap1, cur, hv, _, _, hc, _⟩
  · cases hv
  · injection hv with _ h2 h3
    omega
/-- What Kept reads of a block that was lent. -/
theorem LBk.at {w : World} {B : Nat} {v : Value} {l : List UInt8} (h : LBk w B v l) : ∃ g o cap, v = .slice (some ⟨g, o, none⟩) l.length cap ∧ l.length + 3 ≤ cap ∧ Sl w (fun _ => True) 1 bC v l ∧
    w.cell? ⟨g, o + l.length, none⟩ = some (.int .u8 81) ∧ w.cell? ⟨g, o + (l.length + 1), none⟩ = some (.int .u8 82) ∧ w.cell? ⟨g, o + (l.length + 2), none⟩ = some (.int .u8 83) := by
  obtain ⟨g, cap, rfl, ho⟩ := h
  have hbl : (Lib.byteCells l).length = l.length := by unfold Lib.byteCells; simp
  have hat : ∀ i, i < 3 → (Lib.byteCells l ++ [Value.int .u8 81, .int .u8 82, .int .u8 83])[l.length + i]? = ([Value.int .u8 81, .int .u8 82, .int .u8 83] : List Value)[i]? := fun i hi => by
    rw [List.getElem?_append_right (by rw [hbl]; omega), hbl]
    congr 1
    omega
  refine ⟨g, 0, cap, rfl, own_cap ho, ⟨_, _, rfl, fun hne => ⟨g, 0, rfl, trivial, fun i x hi j u hj => ?_⟩⟩, own_seg ho l.length _ (hat 0 (by omega)), own_seg ho (l.length + 1) _ (hat 1 (by omega)), own_seg ho (l.length + 2) _ (hat 2 (by omega))⟩
  have hil : i < l.length := (List.getElem?_eq_some_iff.1 hi).1
  have hj0 : j = 0 := by
    have := (List.getElem?_eq_some_iff.1 hj).1
    rw [bC_len] at this
    omega
  subst hj0
  have := own_seg ho i (.int .u8 x.toNat) (by
    rw [List.getElem?_append_left (by rw [hbl]; exact hil)]
    unfold Lib.byteCells
    rw [List.getElem?_map, hi]
    rfl)
  rw [Nat.mul_one, Nat.add_zero, this]
  exact hj
theorem LBk.by_ {w : World} {B : Nat} {v : Value} {l : List UInt8} (h : LBk w B v l) : By w (fun _ => True) v l := by
  obtain ⟨g, o, cap, hv, hc, hs, _⟩ := h.at
  refine ⟨hs, fun A n c e => ?_⟩
  rw [hv] at e
  injection e with _ h2 h3
  omega
/-- What Kept reads of a place's blocks that were lent. -/
theorem LBs.at {w : World} {B : Nat} {v : Value} {bls : List (Value × List UInt8)} (h : LBs w B v bls) : ∃ (g o cap g4 o4 c4 : Nat) (al : List (Value × List UInt8)), v = .slice (some ⟨g, o, none⟩) bls.length cap ∧ bls.length + 1 ≤ cap ∧ Blks w (fun _ => True) v al ∧ al.map Prod.snd = bls.map Prod.snd ∧
    (∀ (i : Nat) (p : Value × List UInt8), bls[i]? = some p → ∃ u, w.cell? ⟨g, o + i, none⟩ = some u ∧ LBk w B u p.2) ∧
    w.cell? ⟨g, o + bls.length, none⟩ = some (.slice (some ⟨g4, o4, none⟩) 1 c4) ∧ w.cell? ⟨g4, o4, none⟩ = some (.int .u8 84) := by
  obtain ⟨g, cap, vs, g4, c4, rfl, ho, hvl, hb, h4⟩ := h
  have hzl : (List.zipWith (fun v p => ((v, Prod.snd p) : Value × List UInt8)) vs bls).length = bls.length := by rw [List.length_zipWith]; omega
  have hat : ∀ (i : Nat) (p : Value × List UInt8), bls[i]? = some p → ∃ u, vs[i]? = some u ∧ w.cell? ⟨g, 0 + i, none⟩ = some u ∧ LBk w B u p.2 := fun i p hp => by
    have hi : i < bls.length := (List.getElem?_eq_some_iff.1 hp).1
    have hu : vs[i]? = some vs[i] := List.getElem?_eq_getElem (by omega)
    exact ⟨_, hu, own_seg ho i _ (by rw [List.getElem?_append_left (by omega)]; exact hu), hb i _ p hu hp⟩
  have hz : ∀ (i : Nat) (q : Value × List UInt8), (List.zipWith (fun v p => ((v, Prod.snd p) : Value × List UInt8)) vs bls)[i]? = some q → w.cell? ⟨g, 0 + i, none⟩ = some q.1 ∧ LBk w B q.1 q.2 := fun i q hq => by
    have hi : i < bls.length := by have := (List.getElem?_eq_some_iff.1 hq).1; omega
    obtain ⟨u, h1, h2, h3⟩ := hat i _ (List.getElem?_eq_getElem hi)
    rw [List.getElem?_zipWith, h1, List.getElem?_eq_getElem hi] at hq
    simp at hq
    subst hq
    exact ⟨h2, h3⟩
  refine ⟨g, 0, cap, g4, 0, c4, _, rfl, own_cap ho, ⟨⟨some ⟨g, 0, none⟩, cap, by rw [hzl], fun hne => ⟨g, 0, rfl, trivial, fun i q hq j u hj => ?_⟩⟩, fun q hq => ?_⟩, ?_, fun i p hp => ?_, own_seg ho _ _ (by rw [List.getElem?_append_right (by omega), hvl, Nat.sub_self]; rfl), h4.cell 0⟩
  · have hj0 : j = 0 := by
      have := (List.getElem?_eq_some_iff.1 hj).1
      rw [blC_len] at this
      omega
    subst hj0
    rw [Nat.mul_one, Nat.add_zero, (hz i q hq).1]
    exact hj
  · obtain ⟨i, hi⟩ := List.getElem?_of_mem hq
    exact (hz i q hi).2.by_
  · apply List.ext_getElem?
    intro i
    rw [List.getElem?_map, List.getElem?_map, List.getElem?_zipWith]
    cases hb2 : bls[i]? with
    | none =>
      cases vs[i]? <;> rfl
    | some p =>
      obtain ⟨u, h1, _⟩ := hat i p hb2
      rw [h1]
      rfl
  · obtain ⟨u, _, h2, h3⟩ := hat i p hp
    exact ⟨u, h2, h3⟩
end Go.Proofs.YtiaecfdfjhjgiaaGreat.hp
