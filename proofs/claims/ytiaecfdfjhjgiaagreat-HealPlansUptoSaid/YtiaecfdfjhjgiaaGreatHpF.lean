/- The document's Load: what holds at the head of a round, and the steps. -/
import Derived.Test.YtiaecfdfjhjgiaaGreatHpE
namespace Go.Proofs.YtiaecfdfjhjgiaaGreat.hp
open Go.RowKit kit
set_option linter.unusedVariables false

/-- A body: the slice of its data, its data, all of it safe. -/
structure Bd where
  val : Value
  data : List UInt8
def bdC (b : Bd) : List Value := [b.val, .int .i64 (b.data.length : Int)]
theorem bdC_len (b : Bd) : (bdC b).length = 2 := rfl

theorem own_ne {w : World} {B1 B2 e1 e2 k1 k2 n1 n2 : Nat} {v1 v2 : Value} {x1 x2 : List Value} (h1 : w.ownsRow B1 e1 k1 v1 n1 x1) (h2 : w.ownsRow B2 e2 k2 v2 n2 x2) (he : e1 ≠ e2) (g : Nat) (hg : v1.ownBlock = some g) : some g ≠ v2.ownBlock := by
  intro hg2
  rcases h1.2 with ⟨rfl, _⟩ | ⟨g1, cap1, cur1, rfl, _, b1, _⟩
  · simp [Value.ownBlock] at hg
  · rcases h2.2 with ⟨rfl, _⟩ | ⟨g2, cap2, cur2, rfl, _, b2, _⟩
    · simp [Value.ownBlock] at hg2
    · simp [Value.ownBlock] at hg hg2
      subst hg hg2
      rw [b1] at b2
      injection b2 with b2
      injection b2 with _ b2 _
      exact he b2
theorem own_same {w w' : World} {B e k n : Nat} {v : Value} {xs : List Value} (h : w.ownsRow B e k v n xs) (hk : ∀ g, v.ownBlock = some g → w'.heap[g]? = w.heap[g]?) : w'.ownsRow B e k v n xs := by
  refine ⟨h.1, h.2.imp id ?_⟩
  rintro ⟨g, cap, cur, rfl, hB, hg, rest⟩
  exact ⟨g, cap, cur, rfl, hB, (hk g rfl).trans hg, rest⟩
theorem own_base {w : World} {B B' e k n : Nat} {v : Value} {xs : List Value} (h : w.ownsRow B e k v n xs) (hB : B' ≤ B) : w.ownsRow B' e k v n xs := by
  refine ⟨h.1, h.2.imp id ?_⟩
  rintro ⟨g, cap, cur, rfl, hb, rest⟩
  exact ⟨g, cap, cur, rfl, Nat.le_trans hB hb, rest⟩

/-- What holds of the drive under way: so many bodies, these entries. -/
structure LdRel (w wr : World) (room : Int) (fs : List Fi) (k : Nat) (bv nv : Value) (bs : List Bd) (es : List En) : Prop where
  blk : Bk wr w.heap.size 123 #[.int .i64 room, bv, nv, .slice none 0 0, .slice none 0 0]
  bo : wr.ownsRow (w.heap.size + 1) 127 2 bv k (bs.flatMap bdC)
  no : wr.ownsRow (w.heap.size + 1) 118 2 nv es.length (es.flatMap eC)
  bys : ∀ b ∈ bs, By wr (fun g => New w wr g ∧ g ≠ w.heap.size ∧ some g ≠ bv.ownBlock ∧ some g ≠ nv.ownBlock) b.val b.data
  dat : bs.map Bd.data = (fs.take k).map Fi.data
  bel : Below w.heap.size w wr

theorem LdRel.len {w wr : World} {room : Int} {fs : List Fi} {k : Nat} {bv nv : Value} {bs : List Bd} {es : List En} (h : LdRel w wr room fs k bv nv bs es) (hk : k ≤ fs.length) : bs.length = k := by
  have := congrArg List.length h.dat
  simpa [Nat.min_eq_left hk] using this

/-- One body more. -/
theorem LdRel.body {w wr w1 w2 : World} {room : Int} {fs : List Fi} {k : Nat} {bv nv v1 v2 : Value} {bs : List Bd} {es : List En} {f : Fi} {o : Obj} (h : LdRel w wr room fs k bv nv bs es) (hf : fs[k]? = some f)
    (hby : By w1 (New wr w1) v1 f.data) (hb1 : Below wr.heap.size wr w1)
    (ho : w2.ownsRow (w.heap.size + 1) 127 2 v2 (k + 1) (bs.flatMap bdC ++ [v1, .int .i64 (f.data.length : Int)])) (hg : (w1.alloc o).grownBy w2 bv.ownBlock) (hb2 : v2.ownBlock = bv.ownBlock ∨ v2.ownBlock = some (w1.alloc o).heap.size) :
    LdRel w (w2.setCell ⟨w.heap.size, 1, none⟩ v2) room fs (k + 1) v2 nv (bs ++ [⟨v1, f.data⟩]) es := by
  have hs1 : wr.heap.size ≤ w1.heap.size := hb1.size
  have hs2 : w1.heap.size + 1 ≤ w2.heap.size := by have := hg.size; simpa using this
  have hsw := h.bel.size
  have hlt := h.blk.lt
  have hbv : ∀ b, bv.ownBlock = some b → w.heap.size + 1 ≤ b ∧ b < wr.heap.size := fun b hb => h.bo.lt b hb
  have hnv : ∀ b, nv.ownBlock = some b → w.heap.size + 1 ≤ b ∧ b < wr.heap.size := fun b hb => h.no.lt b hb
  have hkeep : ∀ g, g < wr.heap.size → some g ≠ bv.ownBlock → w2.heap[g]? = wr.heap[g]? := fun g hg1 hg2 =>
    ((hg.block g (by simp; omega) hg2).trans (Below.heap_alloc w1 o g (by omega))).trans (hb1.block g hg1)
  have hrb : some w.heap.size ≠ bv.ownBlock := fun e => by have := (hbv _ e.symm).1; omega
  have hne2 : ∀ b, b < w1.heap.size + 1 → some b ≠ bv.ownBlock → some b ≠ v2.ownBlock := fun b hb hne e => by
    rcases hb2 with h2 | h2
    · exact hne (by rw [e, h2])
    · rw [h2] at e
      injection e with e
      simp at e
      omega
  have hblk2 : Bk w2 w.heap.size 123 #[.int .i64 room, bv, nv, .slice none 0 0, .slice none 0 0] := (hkeep _ hlt hrb).trans h.blk
  have hv2lt : ∀ b, v2.ownBlock = some b → w.heap.size + 1 ≤ b ∧ b < w2.heap.size := fun b hb => ho.lt b hb
  have hset : ∀ g, g ≠ w.heap.size → (w2.setCell ⟨w.heap.size, 1, none⟩ v2).heap[g]? = w2.heap[g]? := fun g hg => Below.heap_setCell w2 _ v2 g hg
  have hsz3 : (w2.setCell ⟨w.heap.size, 1, none⟩ v2).heap.size = w2.heap.size := by simp
  have hno := own_same h.no (w' := w2.setCell ⟨w.heap.size, 1, none⟩ v2) fun g hg0 => by
    have hg1 := hnv g hg0
    refine (hset g (by omega)).trans (hkeep g hg1.2 ?_)
    exact own_ne h.no h.bo (by decide) g hg0
  have hnv2 : ∀ b, nv.ownBlock = some b → some b ≠ v2.ownBlock := fun b hb => hne2 b (by have := (hnv b hb).2; omega) (own_ne h.no h.bo (by decide) b hb)
  refine ⟨hblk2.put 1 v2, ?_, hno, ?_, ?_, ?_⟩
  · rw [List.flatMap_append]
    exact own_same ho (w' := w2.setCell ⟨w.heap.size, 1, none⟩ v2) fun g hg0 => hset g (by have := (hv2lt g hg0).1; omega)
  · intro b hb
    rcases List.mem_append.1 hb with hb | hb
    · have hk1 := h.bys b hb
      refine (hk1.kept (w' := w2.setCell ⟨w.heap.size, 1, none⟩ v2) fun g hg => (hset g hg.2.1).trans (hkeep g hg.1.2 hg.2.2.1)).mono fun g hg => ⟨⟨hg.1.1, by rw [hsz3]; have := hg.1.2; omega⟩, hg.2.1, hne2 g (by have := hg.1.2; omega) hg.2.2.1, hg.2.2.2⟩
    · simp only [List.mem_singleton] at hb
      subst hb
      have hno : ∀ g, New wr w1 g → some g ≠ bv.ownBlock := fun g hg e => by have := (hbv g e.symm).2; have := hg.1; omega
      refine (hby.kept (w' := w2.setCell ⟨w.heap.size, 1, none⟩ v2) fun g hg0 => (hset g (by have := hg0.1; omega)).trans ((hg.block g (by simp; have := hg0.2; omega) (hno g hg0)).trans (Below.heap_alloc w1 o g hg0.2))).mono fun g hg0 => ⟨⟨by have := hg0.1; omega, by rw [hsz3]; have := hg0.2; omega⟩, by have := hg0.1; omega, hne2 g (by have := hg0.2; omega) (hno g hg0), fun e => by have := (hnv g e.symm).2; have := hg0.1; omega⟩
  · rw [List.map_append, h.dat, List.take_add_one, hf]
    simp
  · have hbb : Below w.heap.size w (w1.alloc o) := (h.bel.trans (hb1.mono hsw)).alloc (by omega) o
    exact (Below.grown hbb hg (by simp; omega) (fun j hj => by have := (hbv j hj).1; omega)).setCell (Nat.le_refl _) _

/-- One entry more, at the end. -/
theorem LdRel.put {w wr w2 : World} {room : Int} {fs : List Fi} {k : Nat} {bv nv v2 : Value} {bs : List Bd} {es es' : List En} (h : LdRel w wr room fs k bv nv bs es)
    (ho : w2.ownsRow (w.heap.size + 1) 118 2 v2 es'.length (es'.flatMap eC)) (hb : Below w.heap.size wr w2) (hkeep : ∀ g, g < wr.heap.size → some g ≠ nv.ownBlock → w2.heap[g]? = wr.heap[g]?)
    (hv : ∀ b, v2.ownBlock = some b → nv.ownBlock = some b ∨ wr.heap.size ≤ b) : LdRel w (w2.setCell ⟨w.heap.size, 2, none⟩ v2) room fs k bv v2 bs es' := by
  have hsw := h.bel.size
  have hlt := h.blk.lt
  have hs2 : wr.heap.size ≤ w2.heap.size := hb.size
  have hbv : ∀ b, bv.ownBlock = some b → w.heap.size + 1 ≤ b ∧ b < wr.heap.size := fun b hb => h.bo.lt b hb
  have hnv : ∀ b, nv.ownBlock = some b → w.heap.size + 1 ≤ b ∧ b < wr.heap.size := fun b hb => h.no.lt b hb
  have hrb : some w.heap.size ≠ nv.ownBlock := fun e => by have := (hnv _ e.symm).1; omega
  have hne : ∀ b, b < wr.heap.size → some b ≠ nv.ownBlock → some b ≠ v2.ownBlock := fun b hb hne e => by
    rcases hv b e.symm with h2 | h2
    · exact hne h2.symm
    · omega
  have hset : ∀ g, g ≠ w.heap.size → (w2.setCell ⟨w.heap.size, 2, none⟩ v2).heap[g]? = w2.heap[g]? := fun g hg => Below.heap_setCell w2 _ v2 g hg
  have hsz3 : (w2.setCell ⟨w.heap.size, 2, none⟩ v2).heap.size = w2.heap.size := by simp
  have hblk2 : Bk w2 w.heap.size 123 #[.int .i64 room, bv, nv, .slice none 0 0, .slice none 0 0] := (hkeep _ hlt hrb).trans h.blk
  refine ⟨hblk2.put 2 v2, ?_, ?_, ?_, h.dat, ?_⟩
  · exact own_same h.bo (w' := w2.setCell ⟨w.heap.size, 2, none⟩ v2) fun g hg0 => (hset g (by have := (hbv g hg0).1; omega)).trans (hkeep g (hbv g hg0).2 (own_ne h.bo h.no (by decide) g hg0))
  · exact own_same ho (w' := w2.setCell ⟨w.heap.size, 2, none⟩ v2) fun g hg0 => hset g (by have := (ho.lt g hg0).1; omega)
  · intro b hb0
    exact ((h.bys b hb0).kept (w' := w2.setCell ⟨w.heap.size, 2, none⟩ v2) fun g hg => (hset g hg.2.1).trans (hkeep g hg.1.2 hg.2.2.2)).mono fun g hg => ⟨⟨hg.1.1, by rw [hsz3]; have := hg.1.2; omega⟩, hg.2.1, hg.2.2.1, hne g hg.1.2 hg.2.2.2⟩
  · exact (h.bel.trans hb).setCell (Nat.le_refl _) _

/-- The document's drive behind its loading. -/
def RDrive (W : World) (S : Nat → Prop) (rb : Nat) (fs : List Fi) (es : List En) : Prop :=
  S rb ∧ ∃ room bv nv bs, Seg W rb 0 [.int .i64 room, bv, nv, nv, .slice none 0 0] ∧ Sl W S 2 bdC bv bs ∧ Sl W S 2 eC nv es ∧ bs.map Bd.data = fs.map Fi.data ∧ ∀ b ∈ bs, By W S b.val b.data
theorem LdRel.done {w wr : World} {room : Int} {fs : List Fi} {bv nv : Value} {bs : List Bd} {es : List En} (h : LdRel w wr room fs fs.length bv nv bs es) :
    RDrive (wr.setCell ⟨w.heap.size, 3, none⟩ nv) (New w (wr.setCell ⟨w.heap.size, 3, none⟩ nv)) w.heap.size fs es ∧ Below w.heap.size w (wr.setCell ⟨w.heap.size, 3, none⟩ nv) := by
  have hlt := h.blk.lt
  have hsz : (wr.setCell ⟨w.heap.size, 3, none⟩ nv).heap.size = wr.heap.size := by simp
  have hset : ∀ g, g ≠ w.heap.size → (wr.setCell ⟨w.heap.size, 3, none⟩ nv).heap[g]? = wr.heap[g]? := fun g hg => Below.heap_setCell wr _ nv g hg
  have hbl := h.len (Nat.le_refl _)
  have hbo := own_same h.bo (w' := wr.setCell ⟨w.heap.size, 3, none⟩ nv) fun g hg0 => hset g (by have := (h.bo.lt g hg0).1; omega)
  have hno := own_same h.no (w' := wr.setCell ⟨w.heap.size, 3, none⟩ nv) fun g hg0 => hset g (by have := (h.no.lt g hg0).1; omega)
  rw [← hbl] at hbo
  refine ⟨⟨⟨Nat.le_refl _, by rw [hsz]; exact hlt⟩, room, bv, nv, bs, ?_, Sl.of_own bdC_len hbo (fun g h1 h2 => ⟨by omega, h2⟩), Sl.of_own eC_len hno (fun g h1 h2 => ⟨by omega, h2⟩), ?_, fun b hb => ?_⟩, h.bel.setCell (Nat.le_refl _) _⟩
  · have := h.blk.put 3 nv
    exact Seg.of_bk (t := 123) (l := [.int .i64 room, bv, nv, nv, .slice none 0 0]) this
  · rw [h.dat, List.take_of_length_le (Nat.le_refl _)]
  · exact ((h.bys b hb).kept (w' := wr.setCell ⟨w.heap.size, 3, none⟩ nv) fun g hg => hset g hg.2.1).mono fun g hg => ⟨hg.1.1, by rw [hsz]; exact hg.1.2⟩
end Go.Proofs.YtiaecfdfjhjgiaaGreat.hp
