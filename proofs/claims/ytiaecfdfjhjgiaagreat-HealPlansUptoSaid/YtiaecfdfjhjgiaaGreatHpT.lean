/- Words on the worlds that are made: places, drives alike on both sides, the three lists under way. Plain lemmas; the loads of both sides, put together. -/
import Derived.Test.YtiaecfdfjhjgiaaGreatHpS
import Derived.Test.YtiaecfdfjhjgiaaGreatHpG
import Derived.Test.YtiaecfdfjhjgiaaGreatHpO
import Derived.Test.YtiaecfdfjhjgiaaGreatHpP
namespace Go.Proofs.YtiaecfdfjhjgiaaGreat.hp
open Go.RowKit kit Go.ChangeMaps Go.Maps Go.Sort
set_option linter.unusedVariables false

/-- What the loading of files comes to, on both sides. -/
def loadA (room : Int) (fs : List Fi) : Option (List En) := if roomOk room = true then loadE (fs.map Fi.name) 0 [] else none
theorem names_of_keys {fs fs' : List Fi} (h : fs'.map Fi.key = fs.map Fi.key) : fs'.map Fi.name = fs.map Fi.name := by
  have h1 : fs'.map (fun f => nk f.name) = fs.map (fun f => nk f.name) := by
    have := congrArg (List.map Prod.fst) h
    simpa [Fi.key, nk, Function.comp_def] using this
  induction fs generalizing fs' with
  | nil => simpa using h1
  | cons a fs ih =>
    cases fs' with
    | nil => simp at h1
    | cons b fs' =>
      simp only [List.map_cons, List.cons.injEq] at h1 h ⊢
      exact ⟨nk_inj h1.1, ih h.2 h1.2⟩
theorem datas_of_keys {fs fs' : List Fi} (h : fs'.map Fi.key = fs.map Fi.key) : fs'.map Fi.data = fs.map Fi.data := by
  have := congrArg (List.map Prod.snd) h
  simpa [Fi.key, Function.comp_def] using this
theorem loadA_keys {fs fs' : List Fi} (room : Int) (h : fs'.map Fi.key = fs.map Fi.key) : loadA room fs' = loadA room fs := by
  unfold loadA
  rw [names_of_keys h]
/-- What holds of the entries of a loaded drive. -/
structure GoodE (es : List En) (n : Nat) : Prop where
  ris : Rising es
  nam : ∀ e ∈ es, namedB e.name = true
  bod : ∀ e ∈ es, e.body < n
  len : es.length ≤ n
theorem GoodE.add {es : List En} {n : Nat} (h : GoodE es n) (nm : ByteArray) (hn : namedB nm = true) (hno : hasN es nm = false) : GoodE (setE es nm n) (n + 1) := by
  refine ⟨setE_rising es nm n hno h.ris, fun e he => ?_, fun e he => ?_, by rw [setE_len es nm n hno]; have := h.len; omega⟩
  · rcases (setE_mem es nm n hno e).1 he with rfl | he
    · exact hn
    · exact h.nam e he
  · rcases (setE_mem es nm n hno e).1 he with rfl | he
    · exact Nat.lt_succ_self n
    · exact Nat.lt_succ_of_lt (h.bod e he)
theorem loadE_good : ∀ (l : List ByteArray) (k : Nat) (es es' : List En), GoodE es k → loadE l k es = some es' → GoodE es' (k + l.length)
  | [], k, es, es', hg, h => by
    simp only [loadE, Option.some.injEq] at h
    subst h
    exact hg
  | nm :: r, k, es, es', hg, h => by
    by_cases hc : namedB nm = true ∧ hasN es nm = false
    · rw [loadE_ok hc.1 hc.2] at h
      have := loadE_good r (k + 1) _ es' (hg.add nm hc.1 hc.2) h
      rw [List.length_cons, show k + (r.length + 1) = k + 1 + r.length by omega]
      exact this
    · rw [loadE_bad hc] at h
      cases h
theorem loadA_good {room : Int} {fs : List Fi} {es : List En} (h : loadA room fs = some es) : GoodE es fs.length := by
  unfold loadA at h
  split at h
  · have := loadE_good _ 0 [] es ⟨List.Pairwise.nil, (fun e he => by cases he), (fun e he => by cases he), Nat.le_refl _⟩ h
    simpa using this
  · cases h
theorem GoodE.small {es : List En} {n : Nat} (h : GoodE es n) : ∀ e ∈ es, e.name.size ≤ 1024 := fun e he => by
  have := h.nam e he
  unfold namedB at this
  simp at this
  exact this.2
theorem rload_none (room : Int) (v : Value) (fs : List Fi) (hl : fs.length ≤ 1099511627776) (hd : ∀ f ∈ fs, f.data.length ≤ 1099511627776) (w : World) (S : Nat → Prop) (h : Fs w S v fs) (ha : loadA room fs = none) :
    Calls Tryz.prog 19 #[.int .i64 room, v] w fun e w' => e = .returned (.pointer none) ∧ Below w.heap.size w w' := by
  unfold loadA at ha
  cases hr : roomOk room with
  | false => exact (rload_no room v hr w).mono fun e w' ⟨h1, h2⟩ => ⟨h1, h2 ▸ Below.refl _ _⟩
  | true =>
    rw [if_pos hr] at ha
    refine (rload_yes room v fs hr hl hd w S h).mono fun e w' h1 => ?_
    rw [ha] at h1
    exact ⟨h1.2, h1.1⟩
theorem rload_some (room : Int) (v : Value) (fs : List Fi) (hl : fs.length ≤ 1099511627776) (hd : ∀ f ∈ fs, f.data.length ≤ 1099511627776) (w : World) (S : Nat → Prop) (h : Fs w S v fs) {es : List En} (ha : loadA room fs = some es) :
    Calls Tryz.prog 19 #[.int .i64 room, v] w fun e w' => e = .returned (.pointer (some ⟨w.heap.size, 0, none⟩)) ∧ RDrive w' (New w w') w.heap.size fs es ∧ Below w.heap.size w w' := by
  unfold loadA at ha
  cases hr : roomOk room with
  | false => rw [hr] at ha; cases ha
  | true =>
    rw [if_pos hr] at ha
    refine (rload_yes room v fs hr hl hd w S h).mono fun e w' h1 => ?_
    rw [ha] at h1
    exact ⟨h1.2.1, h1.2.2, h1.1⟩
theorem pload_none (room : Int) (v : Value) (fs : List Fi) (hl : fs.length ≤ 1099511627776) (hd : ∀ f ∈ fs, f.data.length ≤ 1099511627776) (hnl : ∀ f ∈ fs, f.name.size ≤ maxLen) (w : World) (S : Nat → Prop) (h : Fs w S v fs) (ha : loadA room fs = none) :
    Calls Tryz.prog 21 #[.int .i64 room, v] w fun e w' => e = .returned (.pointer none) ∧ Below w.heap.size w w' := by
  unfold loadA at ha
  cases hr : roomOk room with
  | false => exact (pload_no room v hr w).mono fun e w' ⟨h1, h2⟩ => ⟨h1, h2 ▸ Below.refl _ _⟩
  | true =>
    rw [if_pos hr] at ha
    refine (pload_yes room v fs hr hl hd hnl w S h).mono fun e w' h1 => ?_
    rw [ha] at h1
    exact ⟨h1.2, h1.1⟩
theorem pload_some (room : Int) (v : Value) (fs : List Fi) (hl : fs.length ≤ 1099511627776) (hd : ∀ f ∈ fs, f.data.length ≤ 1099511627776) (hnl : ∀ f ∈ fs, f.name.size ≤ maxLen) (w : World) (S : Nat → Prop) (h : Fs w S v fs) {es : List En} (ha : loadA room fs = some es) :
    Calls Tryz.prog 21 #[.int .i64 room, v] w fun e w' => e = .returned (.pointer (some ⟨w.heap.size + 2, 0, none⟩)) ∧ PDrive w' (New w w') (w.heap.size + 2) fs es ∧ Below w.heap.size w w' := by
  unfold loadA at ha
  cases hr : roomOk room with
  | false => rw [hr] at ha; cases ha
  | true =>
    rw [if_pos hr] at ha
    refine (pload_yes room v fs hr hl hd hnl w S h).mono fun e w' h1 => ?_
    rw [ha] at h1
    exact ⟨h1.2.1, h1.2.2, h1.1⟩
/-- The drives of one place, on both sides: alike. -/
def Pair (w : World) (F : Nat → Prop) (mb wb : Nat) : Prop :=
  ∃ (pb rb : Nat) (fs1 fs2 : List Fi) (es : List En), F mb ∧ F wb ∧ wb ≠ mb ∧ Gates w F wb mb pb rb ∧ RDrive w (fun b => F b ∧ b ≠ wb ∧ b ≠ mb) rb fs1 es ∧ PDrive w (fun b => F b ∧ b ≠ wb ∧ b ≠ mb) pb fs2 es ∧
    fs2.map Fi.data = fs1.map Fi.data ∧ GoodE es fs1.length ∧ fs1.length ≤ 1099511627776 ∧ ∀ f ∈ fs1, f.data.length ≤ 1099511627776
/-- .. or there is none on either side. -/
def One (w : World) (F : Nat → Prop) (mo wo : Option Nat) : Prop := (mo = none ∧ wo = none) ∨ ∃ mb wb : Nat, mo = some mb ∧ wo = some wb ∧ Pair w F mb wb
theorem Gates.kept {w w' : World} {F : Nat → Prop} {wb mb pb rb : Nat} (h : Gates w F wb mb pb rb) (h1 : F wb) (h2 : F mb) (hk : Kept F w w') : Gates w' F wb mb pb rb := by
  obtain ⟨aw, aw', la, A1, A2, n1, n2, c1, c2, r, k, i, fz, g1, g2, g3⟩ := h
  refine ⟨aw, aw', la, A1, A2, n1, n2, c1, c2, r, k, i, fz, (hk _ h1).trans g1, (hk _ h2).trans g2, g3.imp id ?_⟩
  rintro ⟨f, a, b, c, d, e, g⟩
  exact ⟨f, a, b, c, d, (World.cell?_of_block (hk f b)).trans e, g⟩
theorem Gates.mono {w : World} {F G : Nat → Prop} {wb mb pb rb : Nat} (h : Gates w F wb mb pb rb) (hF : ∀ b, b < w.heap.size → F b → G b) : Gates w G wb mb pb rb := by
  obtain ⟨aw, aw', la, A1, A2, n1, n2, c1, c2, r, k, i, fz, g1, g2, g3⟩ := h
  refine ⟨aw, aw', la, A1, A2, n1, n2, c1, c2, r, k, i, fz, g1, g2, g3.imp id ?_⟩
  rintro ⟨f, a, b, c, d, e, g⟩
  exact ⟨f, a, hF f (block_lt_of_cell e) b, c, d, e, g⟩
theorem RDrive.kept {w w' : World} {F : Nat → Prop} {rb : Nat} {fs : List Fi} {es : List En} (h : RDrive w F rb fs es) (hk : Kept F w w') : RDrive w' F rb fs es := by
  obtain ⟨h0, room, bv, nv, bs, h1, h2, h3, h4, h5⟩ := h
  exact ⟨h0, room, bv, nv, bs, h1.same (hk rb h0), h2.kept hk, h3.kept hk, h4, fun b hb => (h5 b hb).kept hk⟩
theorem RDrive.mono {w : World} {F G : Nat → Prop} {rb : Nat} {fs : List Fi} {es : List En} (h : RDrive w F rb fs es) (hF : ∀ b, F b → G b) : RDrive w G rb fs es := by
  obtain ⟨h0, room, bv, nv, bs, h1, h2, h3, h4, h5⟩ := h
  exact ⟨hF _ h0, room, bv, nv, bs, h1, h2.mono hF, h3.mono hF, h4, fun b hb => (h5 b hb).mono hF⟩
theorem PDrive.kept {w w' : World} {F : Nat → Prop} {pb : Nat} {fs : List Fi} {es : List En} (h : PDrive w F pb fs es) (hk : Kept F w w') : PDrive w' F pb fs es := by
  obtain ⟨h0, room, u, mb, kb, bl, h1, h2, h3, h4, h5, h6⟩ := h
  exact ⟨h0, room, u, mb, kb, bl, (hk pb h0).trans h1, h2, h3, h4.same (hk _ h2), h5.same (hk _ h3), h6.kept hk⟩
theorem PDrive.mono {w : World} {F G : Nat → Prop} {pb : Nat} {fs : List Fi} {es : List En} (h : PDrive w F pb fs es) (hF : ∀ b, F b → G b) : PDrive w G pb fs es := by
  obtain ⟨h0, room, u, mb, kb, bl, h1, h2, h3, h4, h5, h6⟩ := h
  exact ⟨hF _ h0, room, u, mb, kb, bl, h1, hF _ h2, hF _ h3, h4, h5, h6.mono hF⟩
theorem Pair.kept {w w' : World} {F : Nat → Prop} {mb wb : Nat} (h : Pair w F mb wb) (hk : Kept F w w') : Pair w' F mb wb := by
  obtain ⟨pb, rb, fs1, fs2, es, h3, h4, h5, h6, h7, h8, h9⟩ := h
  exact ⟨pb, rb, fs1, fs2, es, h3, h4, h5, h6.kept h4 h3 hk, h7.kept (fun b hb => hk b hb.1), h8.kept (fun b hb => hk b hb.1), h9⟩
theorem Pair.mono {w : World} {F G : Nat → Prop} {mb wb : Nat} (h : Pair w F mb wb) (hF : ∀ b, F b → G b) : Pair w G mb wb := by
  obtain ⟨pb, rb, fs1, fs2, es, h3, h4, h5, h6, h7, h8, h9⟩ := h
  exact ⟨pb, rb, fs1, fs2, es, hF _ h3, hF _ h4, h5, h6.mono (fun b _ => hF b), h7.mono (fun b hb => ⟨hF b hb.1, hb.2⟩), h8.mono (fun b hb => ⟨hF b hb.1, hb.2⟩), h9⟩
theorem One.kept {w w' : World} {F : Nat → Prop} {mo wo : Option Nat} (h : One w F mo wo) (hk : Kept F w w') : One w' F mo wo := by
  refine h.imp id ?_
  rintro ⟨mb, wb, h1, h2, h3⟩
  exact ⟨mb, wb, h1, h2, h3.kept hk⟩
theorem One.mono {w : World} {F G : Nat → Prop} {mo wo : Option Nat} (h : One w F mo wo) (hF : ∀ b, F b → G b) : One w G mo wo := by
  refine h.imp id ?_
  rintro ⟨mb, wb, h1, h2, h3⟩
  exact ⟨mb, wb, h1, h2, h3.mono hF⟩
/-- .. behind an act at the place. -/
theorem Pair.turn {w : World} {F : Nat → Prop} {mb wb : Nat} (h : Pair w F mb wb) (hF : ∀ b, F b → b < w.heap.size) : ∃ pb rb : Nat, Gates w F wb mb pb rb ∧ ∀ (w' : World) (G : Nat → Prop), Gates w' G wb mb pb rb → (∀ b, F b → G b) → (∀ g, g < w.heap.size → g ≠ wb → g ≠ mb → w'.heap[g]? = w.heap[g]?) → Pair w' G mb wb := by
  obtain ⟨pb, rb, fs1, fs2, es, h3, h4, h5, h6, h7, h8, h9⟩ := h
  refine ⟨pb, rb, h6, fun w' G hg hG hk => ?_⟩
  exact ⟨pb, rb, fs1, fs2, es, hG _ h3, hG _ h4, h5, hg, (h7.kept (fun b hb => hk b (hF b hb.1) hb.2.1 hb.2.2)).mono (fun b hb => ⟨hG b hb.1, hb.2⟩), (h8.kept (fun b hb => hk b (hF b hb.1) hb.2.1 hb.2.2)).mono (fun b hb => ⟨hG b hb.1, hb.2⟩), h9⟩
/-- A place, as it comes in. -/
structure Pl where
  there : Bool
  room : Int
  files : Value
  fs : List Fi
  plan : Value
  flts : List Flt
  off : Bool
  fused : Bool
  round : Int
  call : Int
  inside : Int
def plC (p : Pl) : List Value := [.bool p.there, .int .i64 p.room, p.files, p.plan, .bool p.off, .bool p.fused, .int .i64 p.round, .int .i64 p.call, .int .i64 p.inside]
theorem plC_len (p : Pl) : (plC p).length = 9 := rfl
/-- A slice of places. -/
def Pls (w : World) (S : Nat → Prop) (v : Value) (ps : List Pl) : Prop := Sl w S 9 plC v ps ∧ ∀ p ∈ ps, Fs w S p.files p.fs ∧ Sl w S 2 flC p.plan p.flts
/-- Lengths are within what can be. -/
structure PlOk (p : Pl) : Prop where
  fl : p.fs.length ≤ 1099511627776
  dl : ∀ f ∈ p.fs, f.data.length ≤ 1099511627776
  nl : ∀ f ∈ p.fs, f.name.size ≤ maxLen
  pl : p.flts.length ≤ 1099511627776
/-- A pointer to a block, or nil; a drive as the program has it. -/
def pV (o : Option Nat) : Value := .pointer (o.map fun b => ⟨b, 0, none⟩)
def dV : Option Nat → Value
  | none => .nilIface
  | some b => .iface 77 (.pointer (some ⟨b, 0, none⟩))
/-- Blocks that are the drives' own. -/
def Free (lo hi : Nat) (dv wv mv : Value) (b : Nat) : Prop := lo ≤ b ∧ b < hi ∧ some b ≠ dv.ownBlock ∧ some b ≠ wv.ownBlock ∧ some b ≠ mv.ownBlock
/-- The three lists under way. -/
structure MkRows (w wx : World) (dv wv mv : Value) (ds ws ms : List (Option Nat)) : Prop where
  bb : Bk wx (w.heap.size + 1) 40 #[dv, wv, mv]
  rb : Bk wx w.heap.size 40 #[.slice none 0 0, .slice none 0 0, .slice none 0 0]
  d : wx.ownsRow (w.heap.size + 2) 75 1 dv ds.length (ds.map dV)
  s : wx.ownsRow (w.heap.size + 2) 77 1 wv ws.length (ws.map pV)
  m : wx.ownsRow (w.heap.size + 2) 63 1 mv ms.length (ms.map pV)
  bel : Below w.heap.size w wx
/-- At a round's head. -/
structure MkHead (w wr : World) (dv wv mv : Value) (prs : List (Option Nat × Option Nat)) : Prop where
  rows : MkRows w wr dv wv mv (prs.map Prod.snd) (prs.map Prod.snd) (prs.map Prod.fst)
  one : ∀ p ∈ prs, One wr (Free (w.heap.size + 2) wr.heap.size dv wv mv) p.1 p.2
/-- Within a round: n0: its place's box. -/
structure MkMid (w : World) (n0 : Nat) (wx : World) (cs : Array Value) (dv wv mv : Value) (ds ws ms : List (Option Nat)) (prs : List (Option Nat × Option Nat)) (mo wo : Option Nat) : Prop where
  rows : MkRows w wx dv wv mv ds ws ms
  lo : w.heap.size + 2 ≤ n0
  box : Bk wx n0 81 cs
  nrow : some n0 ≠ dv.ownBlock ∧ some n0 ≠ wv.ownBlock ∧ some n0 ≠ mv.ownBlock
  old : ∀ p ∈ prs, One wx (Free (w.heap.size + 2) n0 dv wv mv) p.1 p.2
  new : One wx (Free (n0 + 1) wx.heap.size dv wv mv) mo wo

theorem MkRows.below {w wx wy : World} {dv wv mv : Value} {ds ws ms : List (Option Nat)} (h : MkRows w wx dv wv mv ds ws ms) (hb : Below wx.heap.size wx wy) : MkRows w wy dv wv mv ds ws ms :=
  ⟨h.bb.below hb h.bb.lt, h.rb.below hb h.rb.lt, own_keep h.d hb, own_keep h.s hb, own_keep h.m hb, h.bel.trans (hb.mono h.bel.size)⟩
theorem Free.mono {lo lo' hi hi' : Nat} {dv wv mv : Value} (h1 : lo' ≤ lo) (h2 : hi ≤ hi') (b : Nat) (h : Free lo hi dv wv mv b) : Free lo' hi' dv wv mv b := ⟨Nat.le_trans h1 h.1, Nat.lt_of_lt_of_le h.2.1 h2, h.2.2⟩
theorem MkMid.below {w : World} {n0 : Nat} {wx wy : World} {cs : Array Value} {dv wv mv : Value} {ds ws ms : List (Option Nat)} {prs : List (Option Nat × Option Nat)} {mo wo : Option Nat} (h : MkMid w n0 wx cs dv wv mv ds ws ms prs mo wo) (hb : Below wx.heap.size wx wy) : MkMid w n0 wy cs dv wv mv ds ws ms prs mo wo := by
  have hn : n0 < wx.heap.size := h.box.lt
  exact ⟨h.rows.below hb, h.lo, h.box.below hb h.box.lt, h.nrow, fun p hp => (h.old p hp).kept (fun b hB => hb.block b (Nat.lt_trans hB.2.1 hn)), (h.new.kept (fun b hB => hb.block b hB.2.1)).mono (fun b hB => hB.mono (Nat.le_refl _) hb.size b)⟩
theorem MkMid.pair {w : World} {n0 : Nat} {wx : World} {cs : Array Value} {dv wv mv : Value} {ds ws ms : List (Option Nat)} {prs : List (Option Nat × Option Nat)} {mo wo mo' wo' : Option Nat} (h : MkMid w n0 wx cs dv wv mv ds ws ms prs mo wo) (hn : One wx (Free (n0 + 1) wx.heap.size dv wv mv) mo' wo') : MkMid w n0 wx cs dv wv mv ds ws ms prs mo' wo' :=
  ⟨h.rows, h.lo, h.box, h.nrow, h.old, hn⟩
theorem MkHead.mid {w wr : World} {dv wv mv : Value} {prs : List (Option Nat × Option Nat)} (h : MkHead w wr dv wv mv prs) (cs : Array Value) : MkMid w wr.heap.size (wr.alloc (.cells cs 81)) cs dv wv mv (prs.map Prod.snd) (prs.map Prod.snd) (prs.map Prod.fst) prs none none := by
  have hb : Below wr.heap.size wr (wr.alloc (.cells cs 81)) := (Below.refl _ _).alloc (Nat.le_refl _) _
  refine ⟨h.rows.below hb, by have := h.rows.bb.lt; omega, Bk.mk_new _ _ _, ⟨fun e => ?_, fun e => ?_, fun e => ?_⟩, fun p hp => (h.one p hp).kept (fun b hB => hb.block b hB.2.1), Or.inl ⟨rfl, rfl⟩⟩
  · exact Nat.lt_irrefl _ (h.rows.d.lt _ e.symm).2
  · exact Nat.lt_irrefl _ (h.rows.s.lt _ e.symm).2
  · exact Nat.lt_irrefl _ (h.rows.m.lt _ e.symm).2
theorem MkMid.head {w : World} {n0 : Nat} {wx : World} {cs : Array Value} {dv wv mv : Value} {prs : List (Option Nat × Option Nat)} {mo wo : Option Nat} (h : MkMid w n0 wx cs dv wv mv (prs.map Prod.snd ++ [wo]) (prs.map Prod.snd ++ [wo]) (prs.map Prod.fst ++ [mo]) prs mo wo) : MkHead w wx dv wv mv (prs ++ [(mo, wo)]) := by
  have hn : n0 < wx.heap.size := h.box.lt
  refine ⟨?_, fun p hp => ?_⟩
  · have := h.rows
    simpa using this
  · rcases List.mem_append.1 hp with hp | hp
    · exact (h.old p hp).mono (fun b hB => hB.mono (Nat.le_refl _) (Nat.le_of_lt hn) b)
    · simp only [List.mem_singleton] at hp
      subst hp
      exact h.new.mono (fun b hB => hB.mono (by have := h.lo; omega) (Nat.le_refl _) b)
/-- One element more in the list of disks. -/
theorem MkMid.addDisk {w : World} {n0 : Nat} {wx w2 : World} {cs : Array Value} {dv wv mv v2 : Value} {ds ws ms : List (Option Nat)} {prs : List (Option Nat × Option Nat)} {mo wo : Option Nat} {o : Obj} (x : Option Nat) (h : MkMid w n0 wx cs dv wv mv ds ws ms prs mo wo)
    (ho : w2.ownsRow (w.heap.size + 2) 75 1 v2 (ds.length + 1) (ds.map dV ++ [dV x])) (hg : (wx.alloc o).grownBy w2 dv.ownBlock) (hb2 : v2.ownBlock = dv.ownBlock ∨ v2.ownBlock = some (wx.alloc o).heap.size) :
    Bk w2 (w.heap.size + 1) 40 #[dv, wv, mv] ∧ MkMid w n0 (w2.setCell ⟨w.heap.size + 1, 0, none⟩ v2) cs v2 wv mv (ds ++ [x]) ws ms prs mo wo := by
  have hR := h.rows
  have hlo := h.lo
  have hn0 : n0 < wx.heap.size := h.box.lt
  have hs : wx.heap.size + 1 ≤ w2.heap.size := by have := hg.size; simpa using this
  have hkeep : ∀ g, g < wx.heap.size → some g ≠ dv.ownBlock → w2.heap[g]? = wx.heap[g]? := fun g h1 h2 => (hg.block g (by simp; omega) h2).trans (Below.heap_alloc wx o g h1)
  have hlt : ∀ b, dv.ownBlock = some b → w.heap.size + 2 ≤ b ∧ b < wx.heap.size := fun b hb => hR.d.lt b hb
  have hv2 : ∀ b, b < wx.heap.size → some b ≠ dv.ownBlock → some b ≠ v2.ownBlock := fun b hb hne e => by
    rcases hb2 with h2 | h2
    · exact hne (by rw [e, h2])
    · rw [h2] at e
      injection e with e
      simp at e
      omega
  have hv2lt : ∀ b, v2.ownBlock = some b → w.heap.size + 2 ≤ b ∧ b < w2.heap.size := fun b hb => ho.lt b hb
  have hset : ∀ g, g ≠ w.heap.size + 1 → (w2.setCell ⟨w.heap.size + 1, 0, none⟩ v2).heap[g]? = w2.heap[g]? := fun g hg => Below.heap_setCell w2 _ v2 g hg
  have hsz : (w2.setCell ⟨w.heap.size + 1, 0, none⟩ v2).heap.size = w2.heap.size := by simp
  have hno : ∀ b, b < w.heap.size + 2 → some b ≠ dv.ownBlock := fun b hb e => by have := (hlt b e.symm).1; omega
  have hbb : Bk w2 (w.heap.size + 1) 40 #[dv, wv, mv] := (hkeep _ hR.bb.lt (hno _ (by omega))).trans hR.bb
  have hrow : ∀ {B e k n : Nat} {v : Value} {xs : List Value}, wx.ownsRow B e k v n xs → e ≠ 75 → w.heap.size + 2 ≤ B → (w2.setCell ⟨w.heap.size + 1, 0, none⟩ v2).ownsRow B e k v n xs := fun hr he hB => own_same hr fun g hg0 => by
    have h1 := hr.lt g hg0
    exact (hset g (by omega)).trans (hkeep g h1.2 (own_ne hr hR.d he g hg0))
  have hnn : ∀ {B e k n : Nat} {v : Value} {xs : List Value}, wx.ownsRow B e k v n xs → e ≠ 75 → ∀ b, v.ownBlock = some b → some b ≠ v2.ownBlock := fun hr he b hb => hv2 b (hr.lt b hb).2 (own_ne hr hR.d he b hb)
  refine ⟨hbb, ⟨?_, ?_, own_same (w := w2) (by rw [List.map_append, List.length_append]; exact ho) (fun g hg0 => hset g (by have := (hv2lt g hg0).1; omega)), hrow hR.s (by decide) (Nat.le_refl _), hrow hR.m (by decide) (Nat.le_refl _), ?_⟩, hlo, ?_, ?_, fun p hp => ?_, ?_⟩
  · exact hbb.put 0 v2
  · exact ((hset _ (by omega)).trans (hkeep _ hR.rb.lt (hno _ (by omega)))).trans hR.rb
  · exact (Below.grown ((hR.bel).alloc hR.bel.size o) hg (by simp; have := hR.bel.size; omega) (fun j hj => by have := (hlt j hj).1; omega)).setCell (by simp) _
  · exact ((hset _ (by omega)).trans (hkeep _ hn0 h.nrow.1)).trans h.box
  · exact ⟨hv2 n0 hn0 h.nrow.1, h.nrow.2.1, h.nrow.2.2⟩
  · exact ((h.old p hp).kept (w' := w2.setCell ⟨w.heap.size + 1, 0, none⟩ v2) (fun b hB => (hset b (by have := hB.1; omega)).trans (hkeep b (Nat.lt_trans hB.2.1 hn0) hB.2.2.1))).mono (fun b hB => ⟨hB.1, hB.2.1, hv2 b (Nat.lt_trans hB.2.1 hn0) hB.2.2.1, hB.2.2.2.1, hB.2.2.2.2⟩)
  · exact (h.new.kept (w' := w2.setCell ⟨w.heap.size + 1, 0, none⟩ v2) (fun b hB => (hset b (by have := hB.1; omega)).trans (hkeep b hB.2.1 hB.2.2.1))).mono (fun b hB => ⟨hB.1, by rw [hsz]; have := hB.2.1; omega, hv2 b hB.2.1 hB.2.2.1, hB.2.2.2.1, hB.2.2.2.2⟩)
/-- One element more in the list of wounds. -/
theorem MkMid.addWound {w : World} {n0 : Nat} {wx w2 : World} {cs : Array Value} {dv wv mv v2 : Value} {ds ws ms : List (Option Nat)} {prs : List (Option Nat × Option Nat)} {mo wo : Option Nat} {o : Obj} (x : Option Nat) (h : MkMid w n0 wx cs dv wv mv ds ws ms prs mo wo)
    (ho : w2.ownsRow (w.heap.size + 2) 77 1 v2 (ws.length + 1) (ws.map pV ++ [pV x])) (hg : (wx.alloc o).grownBy w2 wv.ownBlock) (hb2 : v2.ownBlock = wv.ownBlock ∨ v2.ownBlock = some (wx.alloc o).heap.size) :
    Bk w2 (w.heap.size + 1) 40 #[dv, wv, mv] ∧ MkMid w n0 (w2.setCell ⟨w.heap.size + 1, 1, none⟩ v2) cs dv v2 mv ds (ws ++ [x]) ms prs mo wo := by
  have hR := h.rows
  have hlo := h.lo
  have hn0 : n0 < wx.heap.size := h.box.lt
  have hs : wx.heap.size + 1 ≤ w2.heap.size := by have := hg.size; simpa using this
  have hkeep : ∀ g, g < wx.heap.size → some g ≠ wv.ownBlock → w2.heap[g]? = wx.heap[g]? := fun g h1 h2 => (hg.block g (by simp; omega) h2).trans (Below.heap_alloc wx o g h1)
  have hlt : ∀ b, wv.ownBlock = some b → w.heap.size + 2 ≤ b ∧ b < wx.heap.size := fun b hb => hR.s.lt b hb
  have hv2 : ∀ b, b < wx.heap.size → some b ≠ wv.ownBlock → some b ≠ v2.ownBlock := fun b hb hne e => by
    rcases hb2 with h2 | h2
    · exact hne (by rw [e, h2])
    · rw [h2] at e
      injection e with e
      simp at e
      omega
  have hv2lt : ∀ b, v2.ownBlock = some b → w.heap.size + 2 ≤ b ∧ b < w2.heap.size := fun b hb => ho.lt b hb
  have hset : ∀ g, g ≠ w.heap.size + 1 → (w2.setCell ⟨w.heap.size + 1, 1, none⟩ v2).heap[g]? = w2.heap[g]? := fun g hg => Below.heap_setCell w2 _ v2 g hg
  have hsz : (w2.setCell ⟨w.heap.size + 1, 1, none⟩ v2).heap.size = w2.heap.size := by simp
  have hno : ∀ b, b < w.heap.size + 2 → some b ≠ wv.ownBlock := fun b hb e => by have := (hlt b e.symm).1; omega
  have hbb : Bk w2 (w.heap.size + 1) 40 #[dv, wv, mv] := (hkeep _ hR.bb.lt (hno _ (by omega))).trans hR.bb
  have hrow : ∀ {B e k n : Nat} {v : Value} {xs : List Value}, wx.ownsRow B e k v n xs → e ≠ 77 → w.heap.size + 2 ≤ B → (w2.setCell ⟨w.heap.size + 1, 1, none⟩ v2).ownsRow B e k v n xs := fun hr he hB => own_same hr fun g hg0 => by
    have h1 := hr.lt g hg0
    exact (hset g (by omega)).trans (hkeep g h1.2 (own_ne hr hR.s he g hg0))
  have hnn : ∀ {B e k n : Nat} {v : Value} {xs : List Value}, wx.ownsRow B e k v n xs → e ≠ 77 → ∀ b, v.ownBlock = some b → some b ≠ v2.ownBlock := fun hr he b hb => hv2 b (hr.lt b hb).2 (own_ne hr hR.s he b hb)
  refine ⟨hbb, ⟨?_, ?_, hrow hR.d (by decide) (Nat.le_refl _), own_same (w := w2) (by rw [List.map_append, List.length_append]; exact ho) (fun g hg0 => hset g (by have := (hv2lt g hg0).1; omega)), hrow hR.m (by decide) (Nat.le_refl _), ?_⟩, hlo, ?_, ?_, fun p hp => ?_, ?_⟩
  · exact hbb.put 1 v2
  · exact ((hset _ (by omega)).trans (hkeep _ hR.rb.lt (hno _ (by omega)))).trans hR.rb
  · exact (Below.grown ((hR.bel).alloc hR.bel.size o) hg (by simp; have := hR.bel.size; omega) (fun j hj => by have := (hlt j hj).1; omega)).setCell (by simp) _
  · exact ((hset _ (by omega)).trans (hkeep _ hn0 h.nrow.2.1)).trans h.box
  · exact ⟨h.nrow.1, hv2 n0 hn0 h.nrow.2.1, h.nrow.2.2⟩
  · exact ((h.old p hp).kept (w' := w2.setCell ⟨w.heap.size + 1, 1, none⟩ v2) (fun b hB => (hset b (by have := hB.1; omega)).trans (hkeep b (Nat.lt_trans hB.2.1 hn0) hB.2.2.2.1))).mono (fun b hB => ⟨hB.1, hB.2.1, hB.2.2.1, hv2 b (Nat.lt_trans hB.2.1 hn0) hB.2.2.2.1, hB.2.2.2.2⟩)
  · exact (h.new.kept (w' := w2.setCell ⟨w.heap.size + 1, 1, none⟩ v2) (fun b hB => (hset b (by have := hB.1; omega)).trans (hkeep b hB.2.1 hB.2.2.2.1))).mono (fun b hB => ⟨hB.1, by rw [hsz]; have := hB.2.1; omega, hB.2.2.1, hv2 b hB.2.1 hB.2.2.2.1, hB.2.2.2.2⟩)
/-- One element more in the list of models. -/
theorem MkMid.addModel {w : World} {n0 : Nat} {wx w2 : World} {cs : Array Value} {dv wv mv v2 : Value} {ds ws ms : List (Option Nat)} {prs : List (Option Nat × Option Nat)} {mo wo : Option Nat} {o : Obj} (x : Option Nat) (h : MkMid w n0 wx cs dv wv mv ds ws ms prs mo wo)
    (ho : w2.ownsRow (w.heap.size + 2) 63 1 v2 (ms.length + 1) (ms.map pV ++ [pV x])) (hg : (wx.alloc o).grownBy w2 mv.ownBlock) (hb2 : v2.ownBlock = mv.ownBlock ∨ v2.ownBlock = some (wx.alloc o).heap.size) :
    Bk w2 (w.heap.size + 1) 40 #[dv, wv, mv] ∧ MkMid w n0 (w2.setCell ⟨w.heap.size + 1, 2, none⟩ v2) cs dv wv v2 ds ws (ms ++ [x]) prs mo wo := by
  have hR := h.rows
  have hlo := h.lo
  have hn0 : n0 < wx.heap.size := h.box.lt
  have hs : wx.heap.size + 1 ≤ w2.heap.size := by have := hg.size; simpa using this
  have hkeep : ∀ g, g < wx.heap.size → some g ≠ mv.ownBlock → w2.heap[g]? = wx.heap[g]? := fun g h1 h2 => (hg.block g (by simp; omega) h2).trans (Below.heap_alloc wx o g h1)
  have hlt : ∀ b, mv.ownBlock = some b → w.heap.size + 2 ≤ b ∧ b < wx.heap.size := fun b hb => hR.m.lt b hb
  have hv2 : ∀ b, b < wx.heap.size → some b ≠ mv.ownBlock → some b ≠ v2.ownBlock := fun b hb hne e => by
    rcases hb2 with h2 | h2
    · exact hne (by rw [e, h2])
    · rw [h2] at e
      injection e with e
      simp at e
      omega
  have hv2lt : ∀ b, v2.ownBlock = some b → w.heap.size + 2 ≤ b ∧ b < w2.heap.size := fun b hb => ho.lt b hb
  have hset : ∀ g, g ≠ w.heap.size + 1 → (w2.setCell ⟨w.heap.size + 1, 2, none⟩ v2).heap[g]? = w2.heap[g]? := fun g hg => Below.heap_setCell w2 _ v2 g hg
  have hsz : (w2.setCell ⟨w.heap.size + 1, 2, none⟩ v2).heap.size = w2.heap.size := by simp
  have hno : ∀ b, b < w.heap.size + 2 → some b ≠ mv.ownBlock := fun b hb e => by have := (hlt b e.symm).1; omega
  have hbb : Bk w2 (w.heap.size + 1) 40 #[dv, wv, mv] := (hkeep _ hR.bb.lt (hno _ (by omega))).trans hR.bb
  have hrow : ∀ {B e k n : Nat} {v : Value} {xs : List Value}, wx.ownsRow B e k v n xs → e ≠ 63 → w.heap.size + 2 ≤ B → (w2.setCell ⟨w.heap.size + 1, 2, none⟩ v2).ownsRow B e k v n xs := fun hr he hB => own_same hr fun g hg0 => by
    have h1 := hr.lt g hg0
    exact (hset g (by omega)).trans (hkeep g h1.2 (own_ne hr hR.m he g hg0))
  have hnn : ∀ {B e k n : Nat} {v : Value} {xs : List Value}, wx.ownsRow B e k v n xs → e ≠ 63 → ∀ b, v.ownBlock = some b → some b ≠ v2.ownBlock := fun hr he b hb => hv2 b (hr.lt b hb).2 (own_ne hr hR.m he b hb)
  refine ⟨hbb, ⟨?_, ?_, hrow hR.d (by decide) (Nat.le_refl _), hrow hR.s (by decide) (Nat.le_refl _), own_same (w := w2) (by rw [List.map_append, List.length_append]; exact ho) (fun g hg0 => hset g (by have := (hv2lt g hg0).1; omega)), ?_⟩, hlo, ?_, ?_, fun p hp => ?_, ?_⟩
  · exact hbb.put 2 v2
  · exact ((hset _ (by omega)).trans (hkeep _ hR.rb.lt (hno _ (by omega)))).trans hR.rb
  · exact (Below.grown ((hR.bel).alloc hR.bel.size o) hg (by simp; have := hR.bel.size; omega) (fun j hj => by have := (hlt j hj).1; omega)).setCell (by simp) _
  · exact ((hset _ (by omega)).trans (hkeep _ hn0 h.nrow.2.2)).trans h.box
  · exact ⟨h.nrow.1, h.nrow.2.1, hv2 n0 hn0 h.nrow.2.2⟩
  · exact ((h.old p hp).kept (w' := w2.setCell ⟨w.heap.size + 1, 2, none⟩ v2) (fun b hB => (hset b (by have := hB.1; omega)).trans (hkeep b (Nat.lt_trans hB.2.1 hn0) hB.2.2.2.2))).mono (fun b hB => ⟨hB.1, hB.2.1, hB.2.2.1, hB.2.2.2.1, hv2 b (Nat.lt_trans hB.2.1 hn0) hB.2.2.2.2⟩)
  · exact (h.new.kept (w' := w2.setCell ⟨w.heap.size + 1, 2, none⟩ v2) (fun b hB => (hset b (by have := hB.1; omega)).trans (hkeep b hB.2.1 hB.2.2.2.2))).mono (fun b hB => ⟨hB.1, by rw [hsz]; have := hB.2.1; omega, hB.2.2.1, hB.2.2.2.1, hv2 b hB.2.1 hB.2.2.2.2⟩)
/-- .. behind an act at the new place. -/
theorem MkMid.turn {w : World} {n0 : Nat} {wx : World} {cs : Array Value} {dv wv mv : Value} {ds ws ms : List (Option Nat)} {prs : List (Option Nat × Option Nat)} {mb wb : Nat} (h : MkMid w n0 wx cs dv wv mv ds ws ms prs (some mb) (some wb)) :
    wb ≠ mb ∧ (n0 < wb ∧ n0 < mb) ∧ (some wb ≠ wv.ownBlock ∧ some mb ≠ wv.ownBlock) ∧ (some wb ≠ mv.ownBlock ∧ some mb ≠ mv.ownBlock) ∧ ∃ pb rb : Nat, Gates wx (Free (n0 + 1) wx.heap.size dv wv mv) wb mb pb rb ∧ ∀ w' : World, Gates w' (fun b => Free (n0 + 1) wx.heap.size dv wv mv b ∨ wx.heap.size ≤ b) wb mb pb rb → Below 0 wx w' →
      (∀ g, g < wx.heap.size → g ≠ wb → g ≠ mb → w'.heap[g]? = wx.heap[g]?) → MkMid w n0 w' cs dv wv mv ds ws ms prs (some mb) (some wb) := by
  have hR := h.rows
  have hn0 : n0 < wx.heap.size := h.box.lt
  have hlo := h.lo
  rcases h.new with ⟨h0, _⟩ | ⟨mb', wb', h1, h2, hp⟩
  · cases h0
  injection h1 with h1
  injection h2 with h2
  subst h1 h2
  obtain ⟨pb, rb, hg, hturn⟩ := hp.turn (fun b hb => hb.2.1)
  obtain ⟨_, _, _, _, _, hm, hw, hne, _⟩ := hp
  refine ⟨hne, ⟨by have := hw.1; omega, by have := hm.1; omega⟩, ⟨hw.2.2.2.1, hm.2.2.2.1⟩, ⟨hw.2.2.2.2, hm.2.2.2.2⟩, pb, rb, hg, fun w' hg' hb hk => ?_⟩
  have hsz := hb.size
  have hout : ∀ {B e k n : Nat} {v : Value} {xs : List Value}, wx.ownsRow B e k v n xs → some wb ≠ v.ownBlock → some mb ≠ v.ownBlock → w'.ownsRow B e k v n xs := fun hr h1 h2 => own_same hr fun g hg0 => hk g (hr.lt g hg0).2 (fun e => h1 (e ▸ hg0.symm)) (fun e => h2 (e ▸ hg0.symm))
  have hlow : ∀ g, g < n0 + 1 → w'.heap[g]? = wx.heap[g]? := fun g hg0 => hk g (by omega) (by have := hw.1; omega) (by have := hm.1; omega)
  refine ⟨⟨(hlow _ (by omega)).trans hR.bb, (hlow _ (by omega)).trans hR.rb, hout hR.d hw.2.2.1 hm.2.2.1, hout hR.s hw.2.2.2.1 hm.2.2.2.1, hout hR.m hw.2.2.2.2 hm.2.2.2.2, ?_⟩, hlo, (hlow _ (by omega)).trans h.box, h.nrow, fun p hp => (h.old p hp).kept (fun b hB => hlow b (by have := hB.2.1; omega)), Or.inr ⟨mb, wb, rfl, rfl, ?_⟩⟩
  · have hb1 := hR.bel
    exact ⟨hb.os.trans hb1.os, hb.tape.trans hb1.tape, hb.output.trans hb1.output, Nat.le_trans hb1.size hsz, fun g hg0 => (hlow g (by omega)).trans (hb1.block g hg0)⟩
  · refine hturn w' _ (hg'.mono fun b hb1 hb2 => ?_) (fun b hB => hB.mono (Nat.le_refl _) hsz b) hk
    rcases hb2 with hb2 | hb2
    · exact hb2.mono (Nat.le_refl _) hsz b
    · refine ⟨by omega, hb1, fun e => ?_, fun e => ?_, fun e => ?_⟩
      · have := (hR.d.lt b e.symm).2; omega
      · have := (hR.s.lt b e.symm).2; omega
      · have := (hR.m.lt b e.symm).2; omega
/-- What Make tells. -/
structure Made (w w' : World) (dv wv mv : Value) (prs : List (Option Nat × Option Nat)) : Prop where
  d : Sl w' (New w w') 1 (fun o => [dV o]) dv (prs.map Prod.snd)
  s : Sl w' (New w w') 1 (fun o => [pV o]) wv (prs.map Prod.snd)
  m : Sl w' (New w w') 1 (fun o => [pV o]) mv (prs.map Prod.fst)
  one : ∀ p ∈ prs, One w' (New w w') p.1 p.2
  bel : Below w.heap.size w w'
theorem flat_map {α : Type} (f : α → Value) (l : List α) : l.flatMap (fun o => [f o]) = l.map f := by
  induction l with
  | nil => rfl
  | cons a l ih => rw [List.flatMap_cons, ih]; rfl
theorem MkHead.made {w wr W : World} {dv wv mv : Value} {prs : List (Option Nat × Option Nat)} (h : MkHead w wr dv wv mv prs) (hb : Below w.heap.size wr W) (hk : ∀ g, g ≠ w.heap.size → W.heap[g]? = wr.heap[g]?) : Made w W dv wv mv prs := by
  have hR := h.rows
  have hsz := hb.size
  have hrow : ∀ {B e k n : Nat} {v : Value} {xs : List Value}, wr.ownsRow B e k v n xs → w.heap.size + 2 ≤ B → W.ownsRow B e k v n xs := fun hr hB => own_same hr fun g hg0 => hk g (by have := (hr.lt g hg0).1; omega)
  refine ⟨?_, ?_, ?_, fun p hp => ?_, hR.bel.trans hb⟩
  · exact Sl.of_own (fun _ => rfl) (by rw [flat_map]; exact hrow hR.d (Nat.le_refl _)) (fun g h1 h2 => ⟨by omega, h2⟩)
  · exact Sl.of_own (fun _ => rfl) (by rw [flat_map]; exact hrow hR.s (Nat.le_refl _)) (fun g h1 h2 => ⟨by omega, h2⟩)
  · exact Sl.of_own (fun _ => rfl) (by rw [flat_map]; exact hrow hR.m (Nat.le_refl _)) (fun g h1 h2 => ⟨by omega, h2⟩)
  · exact ((h.one p hp).kept (fun b hB => hk b (by have := hB.1; omega))).mono (fun b hB => ⟨by have := hB.1; omega, by have := hB.2.1; omega⟩)
theorem info63 : (Tryz.prog.info? 63).map (fun i => (i.zero, i.size, i.bytes)) = some (some (.pointer none), 1, 8) := by kernel_rfl
theorem info77 : (Tryz.prog.info? 77).map (fun i => (i.zero, i.size, i.bytes)) = some (some (.pointer none), 1, 8) := by kernel_rfl
theorem info75 : (Tryz.prog.info? 75).map (fun i => (i.zero, i.size, i.bytes)) = some (some .nilIface, 1, 16) := by kernel_rfl
end Go.Proofs.YtiaecfdfjhjgiaaGreat.hp
