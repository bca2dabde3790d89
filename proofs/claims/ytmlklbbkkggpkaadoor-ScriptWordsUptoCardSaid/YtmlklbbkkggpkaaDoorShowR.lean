/- Plain facts for wire.Show's walk: Go's decoding at a place is that of the rest; what its pieces are. -/
import Derived.Test.YtmlklbbkkggpkaaDoorShowD
import Derived.Test.YtmlklbbkkggpkaaDoorShowH
import Derived.Test.YtmlklbbkkggpkaaDoorShelf
import Derived.WalkSmall
import Derived.Lib.OthersKept
import Derived.Laws.IdiomStrings
import Derived.Laws.BytesArg
import Derived.Laws.RangeAny
namespace Go.Proofs.YtmlklbbkkggpkaaDoor.show_
open Go.RowKit kit
set_option linter.unusedVariables false

theorem get_bat (s : ByteArray) (pos k : Nat) : (s.get! (pos + k)).toNat = bat (s.data.toList.drop pos) k := by
  unfold bat
  rw [List.getElem?_drop]
  show (s.data[pos + k]!).toNat = _
  by_cases h : pos + k < s.data.size
  · rw [getElem!_pos s.data (pos + k) h]
    have e : s.data.toList[pos + k]? = some s.data[pos + k] := by rw [Array.getElem?_toList]; exact Array.getElem?_eq_getElem h
    rw [e]
    rfl
  · rw [getElem!_neg s.data (pos + k) h]
    have : s.data.toList[pos + k]? = none := by rw [Array.getElem?_toList]; exact Array.getElem?_eq_none (by omega)
    rw [this]
    rfl

theorem decode_eq (s : ByteArray) (pos : Nat) : Utf8.decode s pos = decL (s.data.toList.drop pos) := by
  unfold Utf8.decode decL decN
  have hs : (s.data.toList.drop pos).length = s.size - pos := by rw [List.length_drop, ← Lib.size_eq]
  have hd : ∀ k, decide (pos + k < s.size) = decide (k < (s.data.toList.drop pos).length) := fun k => by rw [hs]; exact decide_eq_decide.2 (by omega)
  simp only [get_bat, hd]
  rfl

theorem pP_bad {D : List UInt8} {r wd : Nat} (h : decL D = (r, wd)) (hb : badP D) : pieceP D = (toldL (D.take 1), wd) := by
  unfold pieceP
  rw [if_pos hb, h]
theorem pP_q {D : List UInt8} {r wd : Nat} (h : decL D = (r, wd)) (hb : ¬ badP D) (hq : r = 34 ∨ r = 92) : pieceP D = ([92, r.toUInt8], wd) := by
  unfold pieceP
  rw [if_neg hb, h, if_pos hq]
theorem pP_p {D : List UInt8} {r wd : Nat} (h : decL D = (r, wd)) (hb : ¬ badP D) (hq : ¬ (r = 34 ∨ r = 92)) (hp : plainN r = true) : pieceP D = (Lib.encodeRune r, wd) := by
  unfold pieceP
  rw [if_neg hb, h, if_neg hq]
  simp [hp]
theorem pP_t {D : List UInt8} {r wd : Nat} (h : decL D = (r, wd)) (hb : ¬ badP D) (hq : ¬ (r = 34 ∨ r = 92)) (hp : plainN r = false) : pieceP D = (toldL (D.take (Lib.runeLen r).toNat), wd) := by
  unfold pieceP
  rw [if_neg hb, h, if_neg hq]
  simp [hp]

/-- What is no replacement is a letter. -/
theorem dec_letter {D : List UInt8} {r wd : Nat} (h : decL D = (r, wd)) (hD : D ≠ []) (hr : r ≠ 65533) :
    wd ≤ D.length ∧ 1 ≤ wd ∧ wd ≤ 4 ∧ Lib.runeLen r = wd ∧ r ≤ 1114111 := by
  have e := decL_eq D
  rw [h] at e
  by_cases h0 : (letL D).2 = 0
  · rw [if_pos h0] at e
    exact absurd (congrArg Prod.fst e) hr
  · rw [if_neg h0] at e
    obtain ⟨a, b, c, _, d, e2, _⟩ := let_enc D r wd e.symm hD (by rw [← e] at h0; exact h0)
    exact ⟨a, b, c, d, e2⟩

/-- The bytes gathered, the iterator's place, all else as it was. -/
def Fin_ (w : World) (B : Nat) (s : ByteArray) (p : Nat) (acc P : List UInt8) (v' : Value) (w' : World) : Prop :=
  w'.ownsRow (B + 1) 5 1 v' (acc ++ P).length (Lib.byteCells (acc ++ P)) ∧ w'.heap[B]? = some (.stringIter s p) ∧ Below B w w'
theorem fin_of {w W1 w' : World} {B : Nat} {s : ByteArray} {p n : Nat} {acc P : List UInt8} {v' : Value} {xs : List Value} (h : w'.ownsRow (B + 1) 5 1 v' n xs) (hn : n = (acc ++ P).length) (hx : xs = Lib.byteCells (acc ++ P))
    (hb : Below (B + 1) W1 w') (hit : W1.heap[B]? = some (.stringIter s p)) (hw : Below B w W1) : Fin_ w B s p acc P v' w' := by
  subst hn hx
  exact ⟨h, (hb.block B (Nat.lt_succ_self _)).trans hit, hw.trans (hb.mono (Nat.le_succ _))⟩
theorem cells_app (a b : List UInt8) : Lib.byteCells (a ++ b) = Lib.byteCells a ++ Lib.byteCells b := by simp [Lib.byteCells]

theorem conv_own (w : World) (B : Nat) (v : Value) (acc : List UInt8) (h : w.ownsRow B 5 1 v acc.length (Lib.byteCells acc)) :
    (convert 50 9 v).run Tryd.prog w = .ok (.string ⟨acc.toArray⟩) w := by
  rcases h.2 with ⟨rfl, h0⟩ | ⟨g, cap, cur, rfl, _⟩
  · have : acc = [] := List.eq_nil_of_length_eq_zero h0
    subst this
    exact run_convert_bytes_nil w 50 5 Tryd.underlying50 Tryd.underlying5 0 0 9 Tryd.underlying9
  · refine run_convert_bytes_back w 50 9 5 _ _ acc Tryd.underlying50 Tryd.underlying5 Tryd.underlying9 fun j hj => ?_
    exact h.cells (g := g) rfl j _ (by simp [Lib.byteCells, hj])
end Go.Proofs.YtmlklbbkkggpkaaDoor.show_
