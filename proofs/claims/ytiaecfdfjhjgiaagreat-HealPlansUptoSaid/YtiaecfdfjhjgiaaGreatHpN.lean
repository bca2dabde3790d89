/- Contract: the program's drive.Load. -/
import Derived.Test.YtiaecfdfjhjgiaaGreatHpM
import Derived.Deep.CutRange
import Derived.BigRegion
namespace Go.Proofs.YtiaecfdfjhjgiaaGreat.hp
open Go.RowKit kit
open Go.ChangeMaps
set_option linter.unusedVariables false

theorem cell_same {w w' : World} {p : Addr} (h : w'.heap[p.block]? = w.heap[p.block]?) : w'.cell? p = w.cell? p := by
  unfold World.cell?
  rw [h]

/-- Both maps get the new name, one behind the other. -/
theorem Dm.two {w : World} {mb kb : Nat} {es : List En} {bl : List Nat} (h1 : Dm w mb es bl) (h2 : Dm w kb es bl) (hne : mb ≠ kb) (nm : ByteArray) (hs : nm.size ≤ maxLen) (hno : hasN es nm = false) (hn : es.length < maxLen) (b : Nat) :
    ∃ (v0 v1 : Value) (s0 s1 : Nat) (W1 W2 W3 W4 : World),
      (Instr.mapEntry 133 (.map (some mb)) (.string nm)).run Tryz.prog w = .ok (.tuple #[v0, .int .i64 (s0 : Int)]) W1 ∧
      (Instr.entryStore 133 (.map (some mb)) (.int .i64 (s0 : Int)) (.pointer (some ⟨b, 0, none⟩))).run Tryz.prog W1 = .ok () W2 ∧
      (Instr.mapEntry 133 (.map (some kb)) (.string nm)).run Tryz.prog W2 = .ok (.tuple #[v1, .int .i64 (s1 : Int)]) W3 ∧
      (Instr.entryStore 133 (.map (some kb)) (.int .i64 (s1 : Int)) (.pointer (some ⟨b, 0, none⟩))).run Tryz.prog W3 = .ok () W4 ∧
      (∀ g, g ≠ mb → g ≠ kb → W1.heap[g]? = w.heap[g]? ∧ W2.heap[g]? = w.heap[g]? ∧ W3.heap[g]? = w.heap[g]? ∧ W4.heap[g]? = w.heap[g]?) ∧
      Dm W4 mb (setE es nm bl.length) (bl ++ [b]) ∧ Dm W4 kb (setE es nm bl.length) (bl ++ [b]) ∧ (∀ B a, B ≤ mb → B ≤ kb → Below B a w → Below B a W4) ∧ W4.heap.size = w.heap.size := by
  have hm := h1.lt
  have hk := h2.lt
  obtain ⟨v0, s0, M1, e1, f1⟩ := h1.enter nm hs hno hn b
  have hat : ∀ (W : World) (g : Nat) (o : Obj), g < W.heap.size → (setBlock W g o).heap[g]? = some o := fun W g o hg => by
    unfold setBlock
    simp [hg]
  have hoff : ∀ (W : World) (g j : Nat) (o : Obj), j ≠ g → (setBlock W g o).heap[j]? = W.heap[j]? := fun W g j o hj => by
    unfold setBlock
    simp only
    rw [Array.getElem?_setIfInBounds_ne (fun e => hj e.symm)]
  have hsz : ∀ (W : World) (g : Nat) (o : Obj), (setBlock W g o).heap.size = W.heap.size := fun W g o => by
    unfold setBlock
    simp
  obtain ⟨M2, e2, d2⟩ := f1 (setBlock w mb M1) (hat w mb M1 hm)
  have hk2 : Dm (setBlock (setBlock w mb M1) mb M2) kb es bl := h2.same (by rw [hoff _ _ _ _ hne.symm, hoff _ _ _ _ hne.symm])
  obtain ⟨v1, s1, N1, e3, f3⟩ := hk2.enter nm hs hno hn b
  obtain ⟨N2, e4, d4⟩ := f3 (setBlock (setBlock (setBlock w mb M1) mb M2) kb N1) (hat _ kb N1 (by rw [hsz, hsz]; exact hk))
  refine ⟨v0, v1, s0, s1, _, _, _, _, e1, e2, e3, e4, fun g g1 g2 => ?_, ?_, d4, fun B a hB1 hB2 hb => ?_, ?_⟩
  · refine ⟨hoff _ _ _ _ g1, ?_, ?_, ?_⟩
    · rw [hoff _ _ _ _ g1, hoff _ _ _ _ g1]
    · rw [hoff _ _ _ _ g2, hoff _ _ _ _ g1, hoff _ _ _ _ g1]
    · rw [hoff _ _ _ _ g2, hoff _ _ _ _ g2, hoff _ _ _ _ g1, hoff _ _ _ _ g1]
  · exact d2.same (by rw [hoff _ _ _ _ hne, hoff _ _ _ _ hne])
  · have hgr : ∀ (W : World) (g : Nat) (o : Obj), W.grownBy (setBlock W g o) (some g) := fun W g o => ⟨rfl, rfl, rfl, by rw [hsz]; exact Nat.le_refl _, fun j _ hj => hoff W g j o (fun e => hj (by rw [e]))⟩
    have st : ∀ (W : World) (g : Nat) (o : Obj), B ≤ g → g < W.heap.size → Below B a W → Below B a (setBlock W g o) := fun W g o hg hl h => Below.grown h (hgr W g o) (by omega) (fun j hj => by injection hj with hj; omega)
    exact st _ _ _ hB2 (by rw [hsz, hsz, hsz]; exact hk) (st _ _ _ hB2 (by rw [hsz, hsz]; exact hk) (st _ _ _ hB1 (by rw [hsz]; exact hm) (st _ _ _ hB1 hm hb)))
  · rw [hsz, hsz, hsz, hsz]

/-- The bodies: each file's data, copied, in its block. -/
def Bodies (w : World) (S : Nat → Prop) (fs : List Fi) (bl : List Nat) : Prop :=
  bl.length = fs.length ∧ ∀ (i : Nat) (f : Fi) (b : Nat), fs[i]? = some f → bl[i]? = some b → S b ∧ ∃ v, Bk w b 138 #[v, .int .i64 (f.data.length : Int)] ∧ By w S v f.data
theorem Bodies.kept {w w' : World} {S : Nat → Prop} {fs : List Fi} {bl : List Nat} (h : Bodies w S fs bl) (hk : Kept S w w') : Bodies w' S fs bl :=
  ⟨h.1, fun i f b hf hb => ⟨(h.2 i f b hf hb).1, by obtain ⟨h1, v, h2, h3⟩ := h.2 i f b hf hb; exact ⟨v, (hk b h1).trans h2, h3.kept hk⟩⟩⟩
theorem Bodies.mono {w : World} {S S' : Nat → Prop} {fs : List Fi} {bl : List Nat} (h : Bodies w S fs bl) (hS : ∀ b, S b → S' b) : Bodies w S' fs bl :=
  ⟨h.1, fun i f b hf hb => ⟨hS _ (h.2 i f b hf hb).1, by obtain ⟨h1, v, h2, h3⟩ := h.2 i f b hf hb; exact ⟨v, h2, h3.mono hS⟩⟩⟩
theorem Bodies.add {w : World} {S : Nat → Prop} {fs : List Fi} {bl : List Nat} (h : Bodies w S fs bl) (f : Fi) (b : Nat) (v : Value) (hS : S b) (hb : Bk w b 138 #[v, .int .i64 (f.data.length : Int)]) (hy : By w S v f.data) : Bodies w S (fs ++ [f]) (bl ++ [b]) := by
  refine ⟨by simp [h.1], fun i f' b' hf hb' => ?_⟩
  rcases Nat.lt_or_ge i fs.length with hi | hi
  · rw [List.getElem?_append_left hi] at hf
    rw [List.getElem?_append_left (by rw [h.1]; exact hi)] at hb'
    exact h.2 i f' b' hf hb'
  · have hi0 : i = fs.length := by
      have := (List.getElem?_eq_some_iff.1 hf).1
      simp at this
      omega
    subst hi0
    rw [List.getElem?_append_right (Nat.le_refl _)] at hf
    rw [List.getElem?_append_right (by rw [h.1]; exact Nat.le_refl _)] at hb'
    rw [h.1] at hb'
    simp at hf hb'
    subst hf hb'
    exact ⟨hS, v, hb, hy⟩

/-- The program's drive behind its loading. -/
def PDrive (W : World) (S : Nat → Prop) (pb : Nat) (fs : List Fi) (es : List En) : Prop :=
  S pb ∧ ∃ (room u : Int) (mb kb : Nat) (bl : List Nat), Bk W pb 136 #[.int .i64 room, .int .i64 u, .map (some mb), .map (some kb), .slice none 0 0] ∧ S mb ∧ S kb ∧ Dm W mb es bl ∧ Dm W kb es bl ∧ Bodies W S fs bl
/-- What holds at the head of a round. -/
structure PLd (w wr : World) (room u : Int) (fs : List Fi) (k : Nat) (bl : List Nat) (es : List En) : Prop where
  blk : Bk wr (w.heap.size + 2) 136 #[.int .i64 room, .int .i64 u, .map (some w.heap.size), .map (some (w.heap.size + 1)), .slice none 0 0]
  d1 : Dm wr w.heap.size es bl
  d2 : Dm wr (w.heap.size + 1) es bl
  bod : Bodies wr (fun g => w.heap.size + 3 ≤ g ∧ g < wr.heap.size) (fs.take k) bl
  bel : Below w.heap.size w wr
/-- What the loading comes to. -/
def PPost (w w' : World) (e : Ending) (fs : List Fi) (ans : Option (List En)) : Prop :=
  Below w.heap.size w w' ∧ match ans with
    | none => e = .returned (.pointer none)
    | some es => e = .returned (.pointer (some ⟨w.heap.size + 2, 0, none⟩)) ∧ PDrive w' (New w w') (w.heap.size + 2) fs es
theorem PLd.done {w wr : World} {room u : Int} {fs : List Fi} {bl : List Nat} {es : List En} (h : PLd w wr room u fs fs.length bl es) : PDrive wr (New w wr) (w.heap.size + 2) fs es := by
  have hl := h.blk.lt
  refine ⟨⟨by omega, hl⟩, room, u, _, _, bl, h.blk, ⟨Nat.le_refl _, by omega⟩, ⟨by omega, by omega⟩, h.d1, h.d2, ?_⟩
  have := h.bod
  rw [List.take_of_length_le (Nat.le_refl _)] at this
  exact this.mono fun g hg => ⟨by omega, hg.2⟩
theorem PLd.alloc {w wr : World} {room u : Int} {fs : List Fi} {k : Nat} {bl : List Nat} {es : List En} (h : PLd w wr room u fs k bl es) (o : Obj) : PLd w (wr.alloc o) room u fs k bl es := by
  have hk : Kept (fun g => w.heap.size + 3 ≤ g ∧ g < wr.heap.size) wr (wr.alloc o) := fun g hg => Below.heap_alloc wr o g hg.2
  exact ⟨h.blk.alloc o, h.d1.same (Below.heap_alloc wr o _ h.d1.lt), h.d2.same (Below.heap_alloc wr o _ h.d2.lt), (h.bod.kept hk).mono fun g hg => ⟨hg.1, by simp; omega⟩, h.bel.alloc h.bel.size o⟩
theorem PLd.later {w wr w' : World} {room u : Int} {fs : List Fi} {k : Nat} {bl : List Nat} {es : List En} (h : PLd w wr room u fs k bl es) (hb : Below wr.heap.size wr w') : PLd w w' room u fs k bl es := by
  have hs := hb.size
  have hk : Kept (fun g => w.heap.size + 3 ≤ g ∧ g < wr.heap.size) wr w' := fun g hg => hb.block g hg.2
  exact ⟨(hb.block _ h.blk.lt).trans h.blk, h.d1.same (hb.block _ h.d1.lt), h.d2.same (hb.block _ h.d2.lt), (h.bod.kept hk).mono fun g hg => ⟨hg.1, by omega⟩, h.bel.trans (hb.mono h.bel.size)⟩
/-- One body more. -/
theorem PLd.next {w wx W4 : World} {room u : Int} {fs : List Fi} {k b : Nat} {bl : List Nat} {es : List En} {f : Fi} {nm : ByteArray} {v : Value} (h : PLd w wx room u fs k bl es) (hf : fs[k]? = some f) (hb : w.heap.size + 3 ≤ b ∧ b < wx.heap.size)
    (hB : Bk wx b 138 #[v, .int .i64 (f.data.length : Int)]) (hy : By wx (fun g => w.heap.size + 3 ≤ g ∧ g < wx.heap.size) v f.data) (hkeep : ∀ g, g ≠ w.heap.size → g ≠ w.heap.size + 1 → W4.heap[g]? = wx.heap[g]?)
    (d1 : Dm W4 w.heap.size (setE es nm k) (bl ++ [b])) (d2 : Dm W4 (w.heap.size + 1) (setE es nm k) (bl ++ [b])) (hbel : Below w.heap.size w W4) (hsz : W4.heap.size = wx.heap.size) (u' : Int) :
    PLd w (W4.setCell ⟨w.heap.size + 2, 1, none⟩ (.int .i64 u')) room u' fs (k + 1) (bl ++ [b]) (setE es nm k) := by
  have hset : ∀ g, g ≠ w.heap.size + 2 → (W4.setCell ⟨w.heap.size + 2, 1, none⟩ (.int .i64 u')).heap[g]? = W4.heap[g]? := fun g hg => Below.heap_setCell W4 _ _ g hg
  have hs2 : (W4.setCell ⟨w.heap.size + 2, 1, none⟩ (.int .i64 u')).heap.size = wx.heap.size := by simp [hsz]
  have hk : Kept (fun g => w.heap.size + 3 ≤ g ∧ g < wx.heap.size) wx (W4.setCell ⟨w.heap.size + 2, 1, none⟩ (.int .i64 u')) := fun g hg => (hset g (by omega)).trans (hkeep g (by omega) (by omega))
  have hblk : Bk W4 (w.heap.size + 2) 136 #[.int .i64 room, .int .i64 u, .map (some w.heap.size), .map (some (w.heap.size + 1)), .slice none 0 0] := (hkeep _ (by omega) (by omega)).trans h.blk
  refine ⟨hblk.put 1 (.int .i64 u'), d1.same (hset _ (by omega)), d2.same (hset _ (by omega)), ?_, hbel.setCell (by simp) _⟩
  rw [take_get fs k f hf]
  refine ((h.bod.kept hk).add f b v hb ((hk b hb).trans hB) (hy.kept hk)).mono fun g hg => ⟨hg.1, by rw [hs2]; exact hg.2⟩
theorem pload_no (room : Int) (v : Value) (h : roomOk room = false) (w : World) : Calls Tryz.prog 21 #[.int .i64 room, v] w fun e w' => e = .returned (.pointer none) ∧ w' = w := by
  have cN : ∀ wx, Calls Tryz.prog 46 #[.int .i64 room] wx fun e w' => e = .returned (.pointer none) ∧ wx = w' := fun wx => (pnew_no room h wx).mono fun _ _ h => ⟨h.1, h.2.symm⟩
  clear h
  go_enter Tryz.func21, Tryz.ntmps21
  go_wp2_with (go_at_call 46; refine (cN _).mono ?_; rintro e w' ⟨rfl, rfl⟩)
  go_ret
  exact ⟨rfl, rfl⟩
end Go.Proofs.YtiaecfdfjhjgiaaGreat.hp
