/- Contract: cairnplay.Make: both worlds, place by place alike. -/
import Derived.Deep.CutRange
import Derived.Deep.RegionHeld3
import Derived.Test.YtiaecfdfjhjgiaaGreatHpT
import Derived.Test.YtiaecfdfjhjgiaaGreatHpG
import Derived.Test.YtiaecfdfjhjgiaaGreatHpO
import Derived.Test.YtiaecfdfjhjgiaaGreatHpP
namespace Go.Proofs.YtiaecfdfjhjgiaaGreat.hp
open Go.RowKit kit Go.ChangeMaps Go.Maps Go.Sort
set_option linter.unusedVariables false

theorem keys_len {fs fs' : List Fi} (h : fs'.map Fi.key = fs.map Fi.key) : fs.length = fs'.length := by
  have := congrArg List.length h
  simpa using this.symm
theorem keys_all {fs fs' : List Fi} (h : fs'.map Fi.key = fs.map Fi.key) (P : ByteArray → List UInt8 → Prop) (hp : ∀ f ∈ fs, P f.name f.data) : ∀ f ∈ fs', P f.name f.data := by
  intro f hf
  obtain ⟨i, hi⟩ := List.getElem?_of_mem hf
  have h1 : (fs'.map Fi.key)[i]? = some f.key := by rw [List.getElem?_map, hi]; rfl
  rw [h, List.getElem?_map] at h1
  cases hg : fs[i]? with
  | none => rw [hg] at h1; cases h1
  | some g =>
    rw [hg] at h1
    simp only [Option.map_some, Option.some.injEq, Fi.key, Prod.mk.injEq] at h1
    have := hp g (List.mem_of_getElem? hg)
    rw [nk_inj h1.1, h1.2] at this
    exact this
theorem keys_dl {fs fs' : List Fi} (h : fs'.map Fi.key = fs.map Fi.key) (hp : ∀ f ∈ fs, f.data.length ≤ 1099511627776) : ∀ f ∈ fs', f.data.length ≤ 1099511627776 := keys_all h (fun _ d => d.length ≤ 1099511627776) hp
theorem keys_nl {fs fs' : List Fi} (h : fs'.map Fi.key = fs.map Fi.key) (hp : ∀ f ∈ fs, f.name.size ≤ maxLen) : ∀ f ∈ fs', f.name.size ≤ maxLen := keys_all h (fun n _ => n.size ≤ maxLen) hp
/-- Two drives made, one behind the other, each with what lies about it. -/
theorem Pair.made {X Y0 Y Y1 Y2 Y3 : World} {rb pb : Nat} {fs1 fs2 : List Fi} {es : List En} (h0 : Below X.heap.size X Y0) (hr : RDrive Y0 (New X Y0) rb fs1 es)
    (hY : Y = Y0.alloc (.cells #[.pointer (some ⟨rb, 0, none⟩), .bool false, .bool false, .slice none 0 0, .int .i64 0, .int .i64 0, .bool false, .int .i64 0, .int .i64 0, .int .i64 0] 102))
    (h1 : Below (Y0.heap.size + 1) Y Y1) (h2 : Below Y1.heap.size Y1 Y2) (hp : PDrive Y2 (New Y1 Y2) pb fs2 es)
    (hZ : Y3 = Y2.alloc (.cells #[.pointer (some ⟨pb, 0, none⟩), .bool false, .bool false, .slice none 0 0, .int .i64 0, .int .i64 0, .pointer none] 107))
    (hd : fs2.map Fi.data = fs1.map Fi.data) (hg : GoodE es fs1.length) (hl : fs1.length ≤ 1099511627776) (hdl : ∀ f ∈ fs1, f.data.length ≤ 1099511627776) : Pair Y3 (New X Y3) Y0.heap.size Y2.heap.size := by
  have s0 := h0.size
  have sY : Y.heap.size = Y0.heap.size + 1 := by rw [hY]; simp
  have s1 := h1.size
  have s2 := h2.size
  have s3 : Y3.heap.size = Y2.heap.size + 1 := by rw [hZ]; simp
  have k1 : ∀ g, g < Y0.heap.size + 1 → Y3.heap[g]? = Y.heap[g]? := fun g hg0 => by
    rw [hZ, Below.heap_alloc Y2 _ g (by omega), h2.block g (by omega), h1.block g hg0]
  have k0 : ∀ g, g < Y0.heap.size → Y3.heap[g]? = Y0.heap[g]? := fun g hg0 => by
    rw [k1 g (by omega), hY, Below.heap_alloc Y0 _ g hg0]
  have k2 : ∀ g, g < Y2.heap.size → Y3.heap[g]? = Y2.heap[g]? := fun g hg0 => by
    rw [hZ, Below.heap_alloc Y2 _ g hg0]
  refine ⟨pb, rb, fs1, fs2, es, ⟨s0, by omega⟩, ⟨by omega, by omega⟩, by omega, ?_, ?_, ?_, hd, hg, hl, hdl⟩
  · refine ⟨false, false, false, none, none, 0, 0, 0, 0, 0, 0, 0, none, ?_, ?_, Or.inl ⟨rfl, rfl⟩⟩
    · rw [hZ]
      exact Bk.mk_new _ _ _
    · refine (k1 _ (by omega)).trans ?_
      rw [hY]
      exact Bk.mk_new Y0 102 _
  · exact (hr.kept (fun b hb => k0 b hb.2)).mono (fun b hb => ⟨⟨hb.1, by have := hb.2; omega⟩, by have := hb.2; omega, by have := hb.2; omega⟩)
  · exact (hp.kept (fun b hb => k2 b hb.2)).mono (fun b hb => ⟨⟨by have := hb.1; omega, by have := hb.2; omega⟩, by have := hb.2; omega, by have := hb.1; omega⟩)
theorem MkMid.fresh {w : World} {n0 : Nat} {X Z : World} {cs : Array Value} {dv wv mv : Value} {ds ws ms : List (Option Nat)} {prs : List (Option Nat × Option Nat)} {mo wo : Option Nat} (h : MkMid w n0 X cs dv wv mv ds ws ms prs mo wo) {b : Nat} (hb : New X Z b) : Free (n0 + 1) Z.heap.size dv wv mv b := by
  have hn := h.box.lt
  have h1 := hb.1
  refine ⟨by omega, hb.2, fun e => ?_, fun e => ?_, fun e => ?_⟩
  · have := (h.rows.d.lt b e.symm).2; omega
  · have := (h.rows.s.lt b e.symm).2; omega
  · have := (h.rows.m.lt b e.symm).2; omega
theorem MkMid.slots {w : World} {n0 k : Nat} {wx : World} {cs : Array Value} {dv wv mv : Value} {ds ws ms : List (Option Nat)} {prs : List (Option Nat × Option Nat)} {mb wb : Nat} (h : MkMid w n0 wx cs dv wv mv ds (ws ++ [some wb]) (ms ++ [some mb]) prs (some mb) (some wb)) (hw : ws.length = k) (hm : ms.length = k) :
    ∃ gw cw gm cm, wv = .slice (some ⟨gw, 0, none⟩) (k + 1) cw ∧ mv = .slice (some ⟨gm, 0, none⟩) (k + 1) cm ∧ wx.cell? ⟨gw, 0 + k, none⟩ = some (.pointer (some ⟨wb, 0, none⟩)) ∧ wx.cell? ⟨gm, 0 + k, none⟩ = some (.pointer (some ⟨mb, 0, none⟩)) ∧ wv.ownBlock = some gw ∧ mv.ownBlock = some gm := by
  have key : ∀ {B e : Nat} {v : Value} {l : List (Option Nat)} {x : Nat}, wx.ownsRow B e 1 v (l ++ [some x]).length ((l ++ [some x]).map pV) → l.length = k → ∃ g c, v = .slice (some ⟨g, 0, none⟩) (k + 1) c ∧ wx.cell? ⟨g, 0 + k, none⟩ = some (.pointer (some ⟨x, 0, none⟩)) ∧ v.ownBlock = some g := fun {B e v l x} ho hl => by
    have hlen : (l ++ [some x]).length = k + 1 := by simp [hl]
    rw [hlen] at ho
    obtain ⟨g, cap, hv, _, _⟩ := ho.form (by omega)
    refine ⟨g, cap, hv, ?_, by rw [hv]; rfl⟩
    subst hv
    have := ho.cells (g := g) rfl k (.pointer (some ⟨x, 0, none⟩)) (by rw [List.map_append, List.getElem?_append_right (by simp [hl])]; simp [hl, pV])
    have e : (⟨g, 0, none⟩ : Addr).add k = ⟨g, 0 + k, none⟩ := by
      unfold Addr.add
      split
      · rename_i h0; rw [h0]
      · simp
    rw [e] at this
    exact this
  obtain ⟨gw, cw, h1, h2, h3⟩ := key h.rows.s hw
  obtain ⟨gm, cm, h4, h5, h6⟩ := key h.rows.m hm
  exact ⟨gw, cw, gm, cm, h1, h4, h2, h5, h3, h6⟩
section
variable {w : World} {n0 k : Nat} {wx : World} {cs : Array Value} {dv wv mv : Value} {ds ws ms : List (Option Nat)} {prs : List (Option Nat × Option Nat)} {mb wb : Nat}
theorem MkMid.doArm (h : MkMid w n0 wx cs dv wv mv ds (ws ++ [some wb]) (ms ++ [some mb]) prs (some mb) (some wb)) (hw : ws.length = k) (hm : ms.length = k) (v : Value) (l : List Flt) (hl : l.length ≤ 1099511627776) (S : Nat → Prop) (hv : Sl wx S 2 flC v l) (hS : ∀ b, S b → b < w.heap.size) :
    Calls Tryz.prog 23 #[.agg #[dv, wv, mv], .agg #[.int .i64 1, .int .i64 (k : Int), .int .i64 0, .int .i64 0, .slice none 0 0, v, .int .i64 0, .int .i64 0, .int .i64 0, .slice none 0 0]] wx fun e w' => e = .returned (.tuple #[]) ∧ Hid (MkMid w n0 w' cs dv wv mv ds (ws ++ [some wb]) (ms ++ [some mb]) prs (some mb) (some wb)) := by
  obtain ⟨gw, cw, gm, cm, h1, h2, h3, h4, h5, h6⟩ := h.slots hw hm
  obtain ⟨hne, ⟨hnw, hnm⟩, ⟨a1, a2⟩, ⟨a3, a4⟩, pb, rb, hg, hturn⟩ := h.turn
  have hlo := h.lo
  have hbs := h.rows.bel.size
  rw [h5] at a1 a2
  rw [h6] at a3 a4
  subst h1 h2
  refine (doArm_any dv gw 0 gm 0 (k + 1) cw cm k wb mb pb rb v l hl (by omega) wx S h3 h4 hv (fun b hb => ⟨by have := hS b hb; omega, by have := hS b hb; omega⟩) _ hg hne ⟨fun e => a1 (by rw [e]), fun e => a2 (by rw [e])⟩ ⟨fun e => a3 (by rw [e]), fun e => a4 (by rw [e])⟩).mono ?_
  rintro e w' ⟨he, h7, h8, h9⟩
  exact ⟨he, Lib.hid (hturn w' h7 h8 h9)⟩
theorem MkMid.doOff (h : MkMid w n0 wx cs dv wv mv ds (ws ++ [some wb]) (ms ++ [some mb]) prs (some mb) (some wb)) (hw : ws.length = k) (hm : ms.length = k) :
    Calls Tryz.prog 23 #[.agg #[dv, wv, mv], .agg #[.int .i64 2, .int .i64 (k : Int), .int .i64 0, .int .i64 0, .slice none 0 0, .slice none 0 0, .int .i64 0, .int .i64 0, .int .i64 0, .slice none 0 0]] wx fun e w' => e = .returned (.tuple #[]) ∧ Hid (MkMid w n0 w' cs dv wv mv ds (ws ++ [some wb]) (ms ++ [some mb]) prs (some mb) (some wb)) := by
  obtain ⟨gw, cw, gm, cm, h1, h2, h3, h4, h5, h6⟩ := h.slots hw hm
  obtain ⟨hne, ⟨hnw, hnm⟩, ⟨a1, a2⟩, ⟨a3, a4⟩, pb, rb, hg, hturn⟩ := h.turn
  rw [h5] at a1 a2
  rw [h6] at a3 a4
  subst h1 h2
  refine (doOff_any dv gw 0 gm 0 (k + 1) cw cm k wb mb pb rb (by omega) wx h3 h4 _ hg hne ⟨fun e => a1 (by rw [e]), fun e => a2 (by rw [e])⟩ ⟨fun e => a3 (by rw [e]), fun e => a4 (by rw [e])⟩).mono ?_
  rintro e w' ⟨he, h7, h8, h9⟩
  exact ⟨he, Lib.hid (hturn w' h7 h8 h9)⟩
theorem MkMid.doFuse (h : MkMid w n0 wx cs dv wv mv ds (ws ++ [some wb]) (ms ++ [some mb]) prs (some mb) (some wb)) (hw : ws.length = k) (hm : ms.length = k) (r0 k0 j0 : Int) :
    Calls Tryz.prog 23 #[.agg #[dv, wv, mv], .agg #[.int .i64 4, .int .i64 (k : Int), .int .i64 0, .int .i64 0, .slice none 0 0, .slice none 0 0, .int .i64 r0, .int .i64 k0, .int .i64 j0, .slice none 0 0]] wx fun e w' => e = .returned (.tuple #[]) ∧ Hid (MkMid w n0 w' cs dv wv mv ds (ws ++ [some wb]) (ms ++ [some mb]) prs (some mb) (some wb)) := by
  obtain ⟨gw, cw, gm, cm, h1, h2, h3, h4, h5, h6⟩ := h.slots hw hm
  obtain ⟨hne, ⟨hnw, hnm⟩, ⟨a1, a2⟩, ⟨a3, a4⟩, pb, rb, hg, hturn⟩ := h.turn
  rw [h5] at a1 a2
  rw [h6] at a3 a4
  subst h1 h2
  refine (doFuse_any dv gw 0 gm 0 (k + 1) cw cm k wb mb pb rb r0 k0 j0 (by omega) wx h3 h4 _ hg hne ⟨fun e => a1 (by rw [e]), fun e => a2 (by rw [e])⟩ ⟨fun e => a3 (by rw [e]), fun e => a4 (by rw [e])⟩).mono ?_
  rintro e w' ⟨he, h7, h8, h9⟩
  exact ⟨he, Lib.hid (hturn w' h7 h8 h9)⟩
end
theorem three_sets (wr : World) (g : Nat) (u0 u1 u2 : Value) : Below g wr (((wr.setCell ⟨g, 0, none⟩ u0).setCell ⟨g, 1, none⟩ u1).setCell ⟨g, 2, none⟩ u2) := by
  have h0 : Below g wr (wr.setCell ⟨g, 0, none⟩ u0) := (Below.refl g wr).setCell (p := ⟨g, 0, none⟩) (Nat.le_refl g) u0
  have h1 : Below g wr ((wr.setCell ⟨g, 0, none⟩ u0).setCell ⟨g, 1, none⟩ u1) := h0.setCell (p := ⟨g, 1, none⟩) (Nat.le_refl g) u1
  exact h1.setCell (p := ⟨g, 2, none⟩) (Nat.le_refl g) u2
set_option maxRecDepth 1000000 in
set_option maxHeartbeats 8000000 in
theorem make_any (v : Value) (ps : List Pl) (hl : ps.length ≤ 1099511627776) (hok : ∀ p ∈ ps, PlOk p) (w : World) (S : Nat → Prop) (hSw : ∀ b, S b → b < w.heap.size) (h : Pls w S v ps) :
    Calls Tryz.prog 11 #[v] w fun e w' => ∃ dv wv mv prs, e = .returned (.tuple #[.agg #[dv, wv, mv], .bool true]) ∧ Made w w' dv wv mv prs ∧ prs.length = ps.length := by
  obtain ⟨i0, hi, hz0, hz1, hz2⟩ := info_parts info63
  have HI := Lib.hid hi; clear hi
  have HZ0 := Lib.hid hz0; clear hz0
  have HZ1 := Lib.hid hz1; clear hz1
  have HZ2 := Lib.hid hz2; clear hz2
  obtain ⟨j0, hi, hz0, hz1, hz2⟩ := info_parts info77
  have JI := Lib.hid hi; clear hi
  have JZ0 := Lib.hid hz0; clear hz0
  have JZ1 := Lib.hid hz1; clear hz1
  have JZ2 := Lib.hid hz2; clear hz2
  obtain ⟨k0, hi, hz0, hz1, hz2⟩ := info_parts info75
  have KI := Lib.hid hi; clear hi
  have KZ0 := Lib.hid hz0; clear hz0
  have KZ1 := Lib.hid hz1; clear hz1
  have KZ2 := Lib.hid hz2; clear hz2
  have HSW := Lib.hid hSw
  clear hSw
  have HOK := Lib.hid hok
  have HP := Lib.hid h.2
  obtain ⟨A, c, rfl, hc⟩ := h.1
  have HC := Lib.hid hc
  clear hc hok h
  go_enter Tryz.func11, Tryz.ntmps11
  go_wp2
  go_loopw [5] (fun i wr => ∃ (k : Nat) (dv wv mv : Value) (prs : List (Option Nat × Option Nat)), k ≤ ps.length ∧ i = .int .i64 (k : Int) ∧ prs.length = k ∧ MkHead w wr dv wv mv prs) (fun i _ => ps.length - (intOf i).toNat)
  case atStart =>
    refine ⟨0, _, _, _, [], by omega, rfl, rfl, ⟨?_, ?_, World.ownsRow_nil _ _ _ _, World.ownsRow_nil _ _ _ _, World.ownsRow_nil _ _ _ _, ((Below.refl _ _).alloc (Nat.le_refl _) _).alloc (by simp) _⟩, (fun p hp => by cases hp)⟩
    · have := Bk.mk_new (w.alloc (.cells #[.slice none 0 0, .slice none 0 0, .slice none 0 0] 40)) 40 #[.slice none 0 0, .slice none 0 0, .slice none 0 0]
      simpa using this
    · exact (Bk.mk_new w 40 _).alloc _
  case round =>
    obtain ⟨k, dv, wv, mv, prs, hk, rfl, hkl, hrel⟩ := hrel
    have HR := Lib.hid hrel; clear hrel
    have HKL := Lib.hid hkl; clear hkl
    by_cases hlt : k < ps.length
    · obtain ⟨p, hp⟩ : ∃ p, ps[k]? = some p := ⟨_, List.getElem?_eq_getElem hlt⟩
      obtain ⟨b, o, rfl, _, hcs⟩ := HC.out (by intro e; rw [e] at hlt; simp at hlt)
      have hseg := (hcs k p hp).keep HR.out.rows.bel
      have hpm := List.mem_of_getElem? hp
      obtain ⟨hfs, hfl⟩ := HP.out p hpm
      have hbnd := HOK.out p hpm
      obtain ⟨Af, cf, hfv, _⟩ := hfs.1
      obtain ⟨Ap, cp, hpv, _⟩ := hfl
      have c0 : wr.cell? ⟨b, o + k * 9, none⟩ = some (.bool p.there) := hseg 0 _ rfl
      have c1 : wr.cell? ⟨b, o + k * 9 + 1, none⟩ = some (.int .i64 p.room) := hseg 1 _ rfl
      have c2 : wr.cell? ⟨b, o + k * 9 + 2, none⟩ = some (.slice Af p.fs.length cf) := by rw [← hfv]; exact hseg 2 _ rfl
      have c3 : wr.cell? ⟨b, o + k * 9 + 3, none⟩ = some (.slice Ap p.flts.length cp) := by rw [← hpv]; exact hseg 3 _ rfl
      have c4 : wr.cell? ⟨b, o + k * 9 + 4, none⟩ = some (.bool p.off) := hseg 4 _ rfl
      have c5 : wr.cell? ⟨b, o + k * 9 + 5, none⟩ = some (.bool p.fused) := hseg 5 _ rfl
      have c6 : wr.cell? ⟨b, o + k * 9 + 6, none⟩ = some (.int .i64 p.round) := hseg 6 _ rfl
      have c7 : wr.cell? ⟨b, o + k * 9 + 7, none⟩ = some (.int .i64 p.call) := hseg 7 _ rfl
      have c8 : wr.cell? ⟨b, o + k * 9 + 8, none⟩ = some (.int .i64 p.inside) := hseg 8 _ rfl
      have hi0 : (0 : Int) ≤ (k : Int) := by omega
      have hi1 : (k : Int) < (ps.length : Int) := by omega
      have HFV := Lib.hid hfv
      have HPL : Hid (Sl w S 2 flC (.slice Ap p.flts.length cp) p.flts) := Lib.hid (by rw [← hpv]; exact (HP.out p hpm).2)
      have HPV := Lib.hid hpv
      clear hseg hcs hfv hpv hp
      go_upto_if 20 with fail
      obtain ⟨X, hX⟩ : ∃ X, wr.alloc (.cells #[.bool p.there, .int .i64 p.room, .slice Af p.fs.length cf, .slice Ap p.flts.length cp, .bool p.off, .bool p.fused, .int .i64 p.round, .int .i64 p.call, .int .i64 p.inside] 81) = X := ⟨_, rfl⟩
      rw [hX]
      have hM : MkMid w wr.heap.size X #[.bool p.there, .int .i64 p.room, .slice Af p.fs.length cf, .slice Ap p.flts.length cp, .bool p.off, .bool p.fused, .int .i64 p.round, .int .i64 p.call, .int .i64 p.inside] dv wv mv (prs.map Prod.snd) (prs.map Prod.snd) (prs.map Prod.fst) prs none none := hX ▸ HR.out.mid _
      have hXB : Below wr.heap.size wr X := by
        subst hX
        exact (Below.refl _ _).alloc (Nat.le_refl _) _
      have HM := Lib.hid hM
      have HXB := Lib.hid hXB
      have hbx := hM.box
      have HFS := Lib.hid (hfs.keep HR.out.rows.bel)
      have x1 : X.cell? ⟨wr.heap.size, 1, none⟩ = some (.int .i64 p.room) := hbx.cell 1
      have x2 : X.cell? ⟨wr.heap.size, 2, none⟩ = some (.slice Af p.fs.length cf) := hbx.cell 2
      have hbxl := hbx.lt
      have HBX := Lib.hid hbx
      clear hX hM hXB hbx hfs c0 c1 c2 c3 c4 c5 c6 c7 c8
      go_cut [7, 8] from 9 to 93 (fun s7 s8 wx => ∃ mo wo, s7 = pV mo ∧ s8 = pV wo ∧ MkMid w wr.heap.size wx #[.bool p.there, .int .i64 p.room, .slice Af p.fs.length cf, .slice Ap p.flts.length cp, .bool p.off, .bool p.fused, .int .i64 p.round, .int .i64 p.call, .int .i64 p.inside] dv wv mv (prs.map Prod.snd) (prs.map Prod.snd) (prs.map Prod.fst) prs mo wo ∧ (mo = none ↔ wo = none))
      case first =>
        cases hth : p.there with
        | false =>
          go_wp2_with fail
          go_meet
          exact ⟨none, none, rfl, rfl, HM.out, Iff.rfl⟩
        | true =>
          clear hth
          obtain ⟨la, hla⟩ : ∃ la, loadA p.room p.fs = la := ⟨_, rfl⟩
          have HLA := Lib.hid hla
          clear hla
          cases la with
          | none =>
            have cR : Calls Tryz.prog 19 #[.int .i64 p.room, .slice Af p.fs.length cf] X fun e w' => e = .returned (.pointer none) ∧ Hid (Below X.heap.size X w') := by
              rw [← HFV.out]
              refine (rload_none p.room p.files p.fs hbnd.fl hbnd.dl X S (HFS.out.keep HXB.out) HLA.out).mono ?_
              rintro e w' ⟨h1, h2⟩
              exact ⟨h1, Lib.hid h2⟩
            have cD : ∀ wx, Calls Tryz.prog 18 #[.pointer none] wx fun e w' => e = .returned (.pointer none) ∧ wx = w' := fun wx => (rdisk_no wx).mono fun _ _ h => ⟨h.1, h.2.symm⟩
            have cW : ∀ wx, Calls Tryz.prog 20 #[.pointer none] wx fun e w' => e = .returned (.pointer none) ∧ wx = w' := fun wx => (wound_no wx).mono fun _ _ h => ⟨h.1, h.2.symm⟩
            go_upto_region 10 with (first
              | (go_at_call 19; refine cR.mono ?_; rintro e Y ⟨rfl, HY⟩)
              | (go_at_call 18; refine (cD _).mono ?_; rintro e w' ⟨rfl, rfl⟩))
            have y1 : ∀ W, Below Y.heap.size Y W → W.cell? ⟨wr.heap.size, 1, none⟩ = some (.int .i64 p.room) := fun W hW => cell_later hW (cell_later HY.out (HBX.out.cell 1))
            have y2 : ∀ W, Below Y.heap.size Y W → W.cell? ⟨wr.heap.size, 2, none⟩ = some (.slice Af p.fs.length cf) := fun W hW => cell_later hW (cell_later HY.out (HBX.out.cell 2))
            have cF : Calls Tryz.prog 22 #[.slice Af p.fs.length cf] Y.drew fun e w' => ∃ v2 fs2, e = .returned v2 ∧ Below Y.heap.size Y w' ∧ Hid (Fs w' (New Y.drew w') v2 fs2 ∧ fs2.map Fi.key = p.fs.map Fi.key) := by
              rw [← HFV.out]
              refine (files_any p.files p.fs hbnd.fl hbnd.dl Y.drew S ((HFS.out.keep (HXB.out.trans (HY.out.mono HXB.out.size))).keep (Below.drew (Below.refl _ _)))).mono ?_
              rintro e w' ⟨v2, fs2, h1, h2, h3, h4⟩
              exact ⟨v2, fs2, h1, (Below.drew (Below.refl _ _)).trans h4, Lib.hid ⟨h2, h3⟩⟩
            have cL : ∀ (wx : World) (v2 : Value) (fs2 : List Fi), Below Y.heap.size Y wx → Hid (Fs wx (New Y.drew wx) v2 fs2 ∧ fs2.map Fi.key = p.fs.map Fi.key) → Calls Tryz.prog 21 #[.int .i64 p.room, v2] wx fun e w' => e = .returned (.pointer none) ∧ Below Y.heap.size Y w' := by
              intro wx v2 fs2 hb hf
              have hk := hf.out.2
              refine (pload_none p.room v2 fs2 ?_ ?_ ?_ wx _ hf.out.1 ((loadA_keys p.room hk).trans HLA.out)).mono ?_
              · exact keys_len hk ▸ hbnd.fl
              · exact keys_dl hk hbnd.dl
              · exact keys_nl hk hbnd.nl
              · rintro e w' ⟨h1, h2⟩
                exact ⟨h1, hb.trans (h2.mono hb.size)⟩
            go_region_held3 (fun W => Below Y.heap.size Y W) (with_reducible (repeat (first | assumption | exact Below.refl _ _ | apply sB_drew | apply sB_alloc)))
              (first
                | (go_at_call 22; refine cF.mono ?_; rintro e Y1 ⟨v2, fs2, rfl, HB1, HF1⟩)
                | (go_at_call 21; refine (cL _ _ _ HB1 HF1).mono ?_; rintro e Y2 ⟨rfl, HB2⟩)
                | (go_at_call 20; refine (cW _).mono ?_; rintro e w' ⟨rfl, rfl⟩))
            all_goals (go_wp2_with fail; go_meet)
            all_goals exact ⟨none, none, rfl, rfl, (HM.out.below HY.out).below HB2, Iff.rfl⟩
          | some es =>
            have cR : Calls Tryz.prog 19 #[.int .i64 p.room, .slice Af p.fs.length cf] X fun e w' => e = .returned (.pointer (some ⟨X.heap.size, 0, none⟩)) ∧ Hid (RDrive w' (New X w') X.heap.size p.fs es ∧ Below X.heap.size X w') := by
              rw [← HFV.out]
              refine (rload_some p.room p.files p.fs hbnd.fl hbnd.dl X S (HFS.out.keep HXB.out) HLA.out).mono ?_
              rintro e w' ⟨h1, h2⟩
              exact ⟨h1, Lib.hid h2⟩
            have cD : ∀ wx : World, Calls Tryz.prog 18 #[.pointer (some ⟨X.heap.size, 0, none⟩)] wx fun e w' => e = .returned (.pointer (some ⟨wx.heap.size, 0, none⟩)) ∧ Hid (w' = wx.alloc (.cells #[.pointer (some ⟨X.heap.size, 0, none⟩), .bool false, .bool false, .slice none 0 0, .int .i64 0, .int .i64 0, .bool false, .int .i64 0, .int .i64 0, .int .i64 0] 102)) := fun wx => (rdisk_yes ⟨X.heap.size, 0, none⟩ wx).mono fun _ _ h => ⟨h.1, Lib.hid h.2⟩
            have cW : ∀ (pb : Nat) (wx : World), Calls Tryz.prog 20 #[.pointer (some ⟨pb, 0, none⟩)] wx fun e w' => e = .returned (.pointer (some ⟨wx.heap.size, 0, none⟩)) ∧ Below wx.heap.size wx w' ∧ Hid (w' = wx.alloc (.cells #[.pointer (some ⟨pb, 0, none⟩), .bool false, .bool false, .slice none 0 0, .int .i64 0, .int .i64 0, .pointer none] 107)) := fun pb wx => (wound_yes ⟨pb, 0, none⟩ wx).mono fun _ _ h => ⟨h.1, h.2 ▸ (Below.refl _ _).alloc (Nat.le_refl _) _, Lib.hid h.2⟩
            go_upto_region 10 with (first
              | (go_at_call 19; refine cR.mono ?_; rintro e Y0 ⟨rfl, HY0⟩)
              | (go_at_call 18; refine (cD _).mono ?_; rintro e Y ⟨rfl, HYE⟩))
            have HY : Hid (Below X.heap.size X Y) := Lib.hid (by rw [HYE.out]; exact HY0.out.2.alloc HY0.out.2.size _)
            have y1 : ∀ W, Below Y.heap.size Y W → W.cell? ⟨wr.heap.size, 1, none⟩ = some (.int .i64 p.room) := fun W hW => cell_later hW (cell_later HY.out (HBX.out.cell 1))
            have y2 : ∀ W, Below Y.heap.size Y W → W.cell? ⟨wr.heap.size, 2, none⟩ = some (.slice Af p.fs.length cf) := fun W hW => cell_later hW (cell_later HY.out (HBX.out.cell 2))
            have cF : Calls Tryz.prog 22 #[.slice Af p.fs.length cf] Y.drew fun e w' => ∃ v2 fs2, e = .returned v2 ∧ Below Y.heap.size Y w' ∧ Hid (Fs w' (New Y.drew w') v2 fs2 ∧ fs2.map Fi.key = p.fs.map Fi.key) := by
              rw [← HFV.out]
              refine (files_any p.files p.fs hbnd.fl hbnd.dl Y.drew S ((HFS.out.keep (HXB.out.trans (HY.out.mono HXB.out.size))).keep (Below.drew (Below.refl _ _)))).mono ?_
              rintro e w' ⟨v2, fs2, h1, h2, h3, h4⟩
              exact ⟨v2, fs2, h1, (Below.drew (Below.refl _ _)).trans h4, Lib.hid ⟨h2, h3⟩⟩
            have cL : ∀ (wx : World) (v2 : Value) (fs2 : List Fi), Below Y.heap.size Y wx → Hid (Fs wx (New Y.drew wx) v2 fs2 ∧ fs2.map Fi.key = p.fs.map Fi.key) → Calls Tryz.prog 21 #[.int .i64 p.room, v2] wx fun e w' => ∃ pb, e = .returned (.pointer (some ⟨pb, 0, none⟩)) ∧ Below Y.heap.size Y w' ∧ Hid (PDrive w' (New wx w') pb fs2 es ∧ Below wx.heap.size wx w') := by
              intro wx v2 fs2 hb hf
              have hk := hf.out.2
              refine (pload_some p.room v2 fs2 ?_ ?_ ?_ wx _ hf.out.1 ((loadA_keys p.room hk).trans HLA.out)).mono ?_
              · exact keys_len hk ▸ hbnd.fl
              · exact keys_dl hk hbnd.dl
              · exact keys_nl hk hbnd.nl
              · rintro e w' ⟨h1, h2, h3⟩
                exact ⟨_, h1, hb.trans (h3.mono hb.size), Lib.hid ⟨h2, h3⟩⟩
            go_region_held3 (fun W => Below Y.heap.size Y W) (with_reducible (repeat (first | assumption | exact Below.refl _ _ | apply sB_drew | apply sB_alloc)))
              (first
                | (go_at_call 22; refine cF.mono ?_; rintro e Y1 ⟨v2, fs2, rfl, HB1, HF1⟩)
                | (go_at_call 21; refine (cL _ _ _ HB1 HF1).mono ?_; rintro e Y2 ⟨pb, rfl, HB2, HP2⟩)
                | (go_at_call 20; refine (cW _ _).mono ?_; rintro e Y3 ⟨rfl, HB3a, HYZ⟩; have HB3 := HB2.trans (HB3a.mono HB2.size)))
            all_goals (go_wp2_with fail; go_meet)
            all_goals exact ⟨some Y0.heap.size, some Y2.heap.size, rfl, rfl, ((HM.out.below HY.out).below HB3).pair (Or.inr ⟨_, _, rfl, rfl, (Pair.made HY0.out.2 HY0.out.1 HYE.out (HB1.mono (by rw [HYE.out]; simp)) HP2.out.2 HP2.out.1 HYZ.out (datas_of_keys HF1.out.2) (loadA_good HLA.out) hbnd.fl hbnd.dl).mono (fun b hb => HM.out.fresh hb)⟩), by simp⟩
      case rest =>
        obtain ⟨mo, wo, rfl, rfl, hM2, hiff⟩ := hcut
        have HM2 := Lib.hid hM2
        have HIF := Lib.hid hiff
        have e2 : wc.cell? ⟨w.heap.size + 1, 2, none⟩ = some mv := hM2.rows.bb.cell 2
        have hkl : (prs.map Prod.fst).length = k := by rw [List.length_map]; exact HKL.out
        have hks : (prs.map Prod.snd).length = k := by rw [List.length_map]; exact HKL.out
        have hn3 : (prs.map Prod.fst).length + 1 ≤ maxLen := by unfold maxLen; omega
        have hn4 : ((prs.map Prod.fst).length + 1) * 8 ≤ 140737488355328 := by omega
        have hn5 : (prs.map Prod.snd).length + 1 ≤ maxLen := by unfold maxLen; omega
        have hn6 : ((prs.map Prod.snd).length + 1) * 8 ≤ 140737488355328 := by omega
        have hn7 : ((prs.map Prod.snd).length + 1) * 16 ≤ 140737488355328 := by omega
        have hws := hM2.rows.bel.size
        have hwb := hM2.rows.bb.lt
        have hpo : (pV mo).oneCell' = true := rfl
        have hpo2 : (pV wo).oneCell' = true := rfl
        obtain ⟨mp, hmp⟩ : ∃ mp, mo.map (fun b => (⟨b, 0, none⟩ : Addr)) = mp := ⟨_, rfl⟩
        obtain ⟨wp, hwp⟩ : ∃ wp, wo.map (fun b => (⟨b, 0, none⟩ : Addr)) = wp := ⟨_, rfl⟩
        have hmv : pV mo = .pointer mp := by unfold pV; rw [hmp]
        have hwv : pV wo = .pointer wp := by unfold pV; rw [hwp]
        have HMV := Lib.hid hmv
        have HWV := Lib.hid hwv
        rw [hmv, hwv]
        clear hM2 hiff hmv hwv hmp hwp hkl hks
        go_upto_region 14 with (at_builtin; refine words.wpList_append_any _ rfl (.tmp 41) (.tmp 43) 38 (by rfl) (w.heap.size + 2) 63 i0 (.pointer none) 1 8 Tryz.underlying38 HI.out HZ0.out HZ1.out HZ2.out rfl (by decide) mv (prs.map Prod.fst).length ((prs.map Prod.fst).map pV) (by rfl) (HM2.out.rows.m.alloc _) (wc.heap.size + 1) _ 1 1 [.pointer mp] (by rfl) (reads_new _ _ _) (one_one rfl) hn3 hn4 ?_ ?_; (focus (simp; omega)); intro v2 w2 ho2 hg2 hb2; obtain ⟨Am, lm, cm, rfl⟩ := own_slice ho2; have X3 := Lib.hid (HM2.out.addModel mo (by rw [HMV.out]; exact ho2) hg2 hb2); have g2 : w2.cell? ⟨w.heap.size + 1, 2, none⟩ = some mv := X3.out.1.cell 2; have g3 : w2.frozen? ⟨w.heap.size + 1, 2, none⟩ = false := X3.out.1.free 2; clear ho2 hg2 hb2)
        obtain ⟨W1, hW1⟩ : ∃ W1, w2.setCell ⟨w.heap.size + 1, 2, none⟩ (.slice Am lm cm) = W1 := ⟨_, rfl⟩
        rw [hW1]
        have HM3 := Lib.hid (hW1 ▸ X3.out.2)
        have e1 : W1.cell? ⟨w.heap.size + 1, 1, none⟩ = some wv := HM3.out.rows.bb.cell 1
        have hs1 := HM3.out.rows.bel.size
        have hl1 := HM3.out.rows.bb.lt
        clear hW1 g2 g3 X3 e2
        go_upto_region 15 with (at_builtin; refine words.wpList_append_any _ rfl (.tmp 47) (.tmp 49) 37 (by rfl) (w.heap.size + 2) 77 j0 (.pointer none) 1 8 Tryz.underlying37 JI.out JZ0.out JZ1.out JZ2.out rfl (by decide) wv (prs.map Prod.snd).length ((prs.map Prod.snd).map pV) (by rfl) (HM3.out.rows.s.alloc _) (W1.heap.size + 1) _ 1 1 [.pointer wp] (by rfl) (reads_new _ _ _) (one_one rfl) hn5 hn6 ?_ ?_; (focus (simp; omega)); intro v2' w2' ho2 hg2 hb2; obtain ⟨Aw, lw, cw, rfl⟩ := own_slice ho2; have X3 := Lib.hid (HM3.out.addWound wo (by rw [HWV.out]; exact ho2) hg2 hb2); have g2 : w2'.cell? ⟨w.heap.size + 1, 1, none⟩ = some wv := X3.out.1.cell 1; have g3 : w2'.frozen? ⟨w.heap.size + 1, 1, none⟩ = false := X3.out.1.free 1; clear ho2 hg2 hb2)
        obtain ⟨W2, hW2⟩ : ∃ W2, w2'.setCell ⟨w.heap.size + 1, 1, none⟩ (.slice Aw lw cw) = W2 := ⟨_, rfl⟩
        rw [hW2]
        have HM4 := Lib.hid (hW2 ▸ X3.out.2)
        have e0 : W2.cell? ⟨w.heap.size + 1, 0, none⟩ = some dv := HM4.out.rows.bb.cell 0
        have hs2 := HM4.out.rows.bel.size
        have hl2 := HM4.out.rows.bb.lt
        clear hW2 g2 g3 X3 e1 HM3
        cases wo with
        | none =>
          have hmo : mo = none := HIF.out.2 rfl
          have hwp : wp = none := by have := HWV.out; unfold pV at this; injection this with this; exact this.symm
          subst hmo hwp
          go_wp2_with (at_builtin; refine words.wpList_append_any _ rfl (.tmp 55) (.tmp 56) 36 (by rfl) (w.heap.size + 2) 75 k0 .nilIface 1 16 Tryz.underlying36 KI.out KZ0.out KZ1.out KZ2.out rfl (by decide) dv (prs.map Prod.snd).length ((prs.map Prod.snd).map dV) (by rfl) (HM4.out.rows.d.alloc _) (W2.heap.size + 1) _ 1 1 [.nilIface] (by rfl) (reads_new _ _ _) (one_one rfl) hn5 hn7 ?_ ?_; (focus (simp; omega)); intro v3 w3 ho3 hg3 hb3; obtain ⟨Ad, ld, cd, rfl⟩ := own_slice ho3; have X4 := Lib.hid (HM4.out.addDisk none ho3 hg3 hb3); have g2 : w3.cell? ⟨w.heap.size + 1, 0, none⟩ = some dv := X4.out.1.cell 0; have g3 : w3.frozen? ⟨w.heap.size + 1, 0, none⟩ = false := X4.out.1.free 0; clear ho3 hg3 hb3)
          go_roundw
          case rel => exact ⟨k + 1, _, _, _, prs ++ [(none, none)], by omega, by go_num, by rw [List.length_append, HKL.out]; rfl, X4.out.2.head⟩
          case measure => simp [intOf]; omega
        | some wb =>
          obtain ⟨mb, rfl⟩ : ∃ mb, mo = some mb := by
            cases mo with
            | none => exact absurd (HIF.out.1 rfl) (by simp)
            | some mb => exact ⟨mb, rfl⟩
          have hwp : wp = some ⟨wb, 0, none⟩ := by have := HWV.out; unfold pV at this; injection this with this; exact this.symm
          subst hwp
          have hkf : (prs.map Prod.fst).length = k := by rw [List.length_map]; exact HKL.out
          have hks : (prs.map Prod.snd).length = k := by rw [List.length_map]; exact HKL.out
          have HKF := Lib.hid hkf
          have HKS := Lib.hid hks
          clear hkf hks
          go_upto_region 18 with (at_builtin; refine words.wpList_append_any _ rfl (.tmp 60) (.tmp 63) 36 (by rfl) (w.heap.size + 2) 75 k0 .nilIface 1 16 Tryz.underlying36 KI.out KZ0.out KZ1.out KZ2.out rfl (by decide) dv (prs.map Prod.snd).length ((prs.map Prod.snd).map dV) (by rfl) (HM4.out.rows.d.alloc _) (W2.heap.size + 1) _ 1 1 [.iface 77 (.pointer (some ⟨wb, 0, none⟩))] (by rfl) (reads_new _ _ _) (one_one rfl) hn5 hn7 ?_ ?_; (focus (simp; omega)); intro v3 w3 ho3 hg3 hb3; obtain ⟨Ad, ld, cd, rfl⟩ := own_slice ho3; have X4 := Lib.hid (HM4.out.addDisk (some wb) ho3 hg3 hb3); have g2 : w3.cell? ⟨w.heap.size + 1, 0, none⟩ = some dv := X4.out.1.cell 0; have g3 : w3.frozen? ⟨w.heap.size + 1, 0, none⟩ = false := X4.out.1.free 0; clear ho3 hg3 hb3)
          obtain ⟨W3, hW3⟩ : ∃ W3, w3.setCell ⟨w.heap.size + 1, 0, none⟩ (.slice Ad ld cd) = W3 := ⟨_, rfl⟩
          rw [hW3]
          have HM5 := Lib.hid (hW3 ▸ X4.out.2)
          clear hW3 g2 g3 X4 e0 HM4
          obtain ⟨po, hpo⟩ : ∃ po, p.off = po := ⟨_, rfl⟩
          obtain ⟨pf, hpf⟩ : ∃ pf, p.fused = pf := ⟨_, rfl⟩
          rw [hpo, hpf] at HM5
          clear hpo hpf HM2 HM HBX
          have d0 : W3.cell? ⟨w.heap.size + 1, 0, none⟩ = some (.slice Ad ld cd) := HM5.out.rows.bb.cell 0
          have d1 : W3.cell? ⟨w.heap.size + 1, 1, none⟩ = some (.slice Aw lw cw) := HM5.out.rows.bb.cell 1
          have d2 : W3.cell? ⟨w.heap.size + 1, 2, none⟩ = some (.slice Am lm cm) := HM5.out.rows.bb.cell 2
          have b3 : W3.cell? ⟨wr.heap.size, 3, none⟩ = some (.slice Ap p.flts.length cp) := HM5.out.box.cell 3
          have cA : Calls Tryz.prog 23 #[.agg #[.slice Ad ld cd, .slice Aw lw cw, .slice Am lm cm], .agg #[.int .i64 1, .int .i64 (k : Int), .int .i64 0, .int .i64 0, .slice none 0 0, .slice Ap p.flts.length cp, .int .i64 0, .int .i64 0, .int .i64 0, .slice none 0 0]] W3 fun e w' => e = .returned (.tuple #[]) ∧ Hid (MkMid w wr.heap.size w' #[.bool p.there, .int .i64 p.room, .slice Af p.fs.length cf, .slice Ap p.flts.length cp, .bool po, .bool pf, .int .i64 p.round, .int .i64 p.call, .int .i64 p.inside] (.slice Ad ld cd) (.slice Aw lw cw) (.slice Am lm cm) (prs.map Prod.snd ++ [some wb]) (prs.map Prod.snd ++ [some wb]) (prs.map Prod.fst ++ [some mb]) prs (some mb) (some wb)) :=
            HM5.out.doArm HKS.out HKF.out _ p.flts hbnd.pl S (HPL.out.keep HM5.out.rows.bel) HSW.out
          go_upto_if 69 with fail
          go_cut [] from 9 to 93 (fun wx => MkMid w wr.heap.size wx #[.bool p.there, .int .i64 p.room, .slice Af p.fs.length cf, .slice Ap p.flts.length cp, .bool po, .bool pf, .int .i64 p.round, .int .i64 p.call, .int .i64 p.inside] (.slice Ad ld cd) (.slice Aw lw cw) (.slice Am lm cm) (prs.map Prod.snd ++ [some wb]) (prs.map Prod.snd ++ [some wb]) (prs.map Prod.fst ++ [some mb]) prs (some mb) (some wb))
          case first =>
            by_cases hpl : 0 < p.flts.length
            · have hpl' : decide (0 < p.flts.length) = true := decide_eq_true hpl
              go_wp2_with (go_at_call 23; refine cA.mono ?_; rintro e w' ⟨rfl, H6⟩)
              go_meet
              exact H6.out
            · have hpl' : decide (0 < p.flts.length) = false := decide_eq_false hpl
              go_wp2_with fail
              go_meet
              exact HM5.out
          case rest =>
            have HM6 := Lib.hid hcut
            clear hcut d0 d1 d2 b3 cA HM5
            have d0 : wc.cell? ⟨w.heap.size + 1, 0, none⟩ = some (.slice Ad ld cd) := HM6.out.rows.bb.cell 0
            have d1 : wc.cell? ⟨w.heap.size + 1, 1, none⟩ = some (.slice Aw lw cw) := HM6.out.rows.bb.cell 1
            have d2 : wc.cell? ⟨w.heap.size + 1, 2, none⟩ = some (.slice Am lm cm) := HM6.out.rows.bb.cell 2
            have b4 : wc.cell? ⟨wr.heap.size, 4, none⟩ = some (.bool po) := HM6.out.box.cell 4
            have cA : Calls Tryz.prog 23 #[.agg #[.slice Ad ld cd, .slice Aw lw cw, .slice Am lm cm], .agg #[.int .i64 2, .int .i64 (k : Int), .int .i64 0, .int .i64 0, .slice none 0 0, .slice none 0 0, .int .i64 0, .int .i64 0, .int .i64 0, .slice none 0 0]] wc fun e w' => e = .returned (.tuple #[]) ∧ Hid (MkMid w wr.heap.size w' #[.bool p.there, .int .i64 p.room, .slice Af p.fs.length cf, .slice Ap p.flts.length cp, .bool po, .bool pf, .int .i64 p.round, .int .i64 p.call, .int .i64 p.inside] (.slice Ad ld cd) (.slice Aw lw cw) (.slice Am lm cm) (prs.map Prod.snd ++ [some wb]) (prs.map Prod.snd ++ [some wb]) (prs.map Prod.fst ++ [some mb]) prs (some mb) (some wb)) :=
              HM6.out.doOff HKS.out HKF.out
            obtain ⟨V1, hV1⟩ : ∃ V1, wc = V1 := ⟨_, rfl⟩
            subst hV1
            go_upto_if 77 with fail
            go_cut [] from 9 to 93 (fun wx => MkMid w wr.heap.size wx #[.bool p.there, .int .i64 p.room, .slice Af p.fs.length cf, .slice Ap p.flts.length cp, .bool po, .bool pf, .int .i64 p.round, .int .i64 p.call, .int .i64 p.inside] (.slice Ad ld cd) (.slice Aw lw cw) (.slice Am lm cm) (prs.map Prod.snd ++ [some wb]) (prs.map Prod.snd ++ [some wb]) (prs.map Prod.fst ++ [some mb]) prs (some mb) (some wb))
            case first =>
              cases po with
              | true =>
                go_wp2_with (go_at_call 23; refine cA.mono ?_; rintro e w' ⟨rfl, H6⟩)
                go_meet
                exact H6.out
              | false =>
                go_wp2_with fail
                go_meet
                exact HM6.out
            case rest =>
              have HM7 := Lib.hid hcut
              clear hcut d0 d1 d2 b4 cA HM6
              have d0 : wc.cell? ⟨w.heap.size + 1, 0, none⟩ = some (.slice Ad ld cd) := HM7.out.rows.bb.cell 0
              have d1 : wc.cell? ⟨w.heap.size + 1, 1, none⟩ = some (.slice Aw lw cw) := HM7.out.rows.bb.cell 1
              have d2 : wc.cell? ⟨w.heap.size + 1, 2, none⟩ = some (.slice Am lm cm) := HM7.out.rows.bb.cell 2
              have b5 : wc.cell? ⟨wr.heap.size, 5, none⟩ = some (.bool pf) := HM7.out.box.cell 5
              have b6 : wc.cell? ⟨wr.heap.size, 6, none⟩ = some (.int .i64 p.round) := HM7.out.box.cell 6
              have b7 : wc.cell? ⟨wr.heap.size, 7, none⟩ = some (.int .i64 p.call) := HM7.out.box.cell 7
              have b8 : wc.cell? ⟨wr.heap.size, 8, none⟩ = some (.int .i64 p.inside) := HM7.out.box.cell 8
              have cA : Calls Tryz.prog 23 #[.agg #[.slice Ad ld cd, .slice Aw lw cw, .slice Am lm cm], .agg #[.int .i64 4, .int .i64 (k : Int), .int .i64 0, .int .i64 0, .slice none 0 0, .slice none 0 0, .int .i64 p.round, .int .i64 p.call, .int .i64 p.inside, .slice none 0 0]] wc fun e w' => e = .returned (.tuple #[]) ∧ Hid (MkMid w wr.heap.size w' #[.bool p.there, .int .i64 p.room, .slice Af p.fs.length cf, .slice Ap p.flts.length cp, .bool po, .bool pf, .int .i64 p.round, .int .i64 p.call, .int .i64 p.inside] (.slice Ad ld cd) (.slice Aw lw cw) (.slice Am lm cm) (prs.map Prod.snd ++ [some wb]) (prs.map Prod.snd ++ [some wb]) (prs.map Prod.fst ++ [some mb]) prs (some mb) (some wb)) :=
                HM7.out.doFuse HKS.out HKF.out p.round p.call p.inside
              go_upto_if 83 with fail
              cases pf with
              | true =>
                go_wp2_with (go_at_call 23; refine cA.mono ?_; rintro e w' ⟨rfl, H6⟩)
                go_roundw
                case rel => exact ⟨k + 1, _, _, _, prs ++ [(some mb, some wb)], by omega, by go_num, by rw [List.length_append, HKL.out]; rfl, H6.out.head⟩
                case measure => simp [intOf]; omega
              | false =>
                go_wp2_with fail
                go_roundw
                case rel => exact ⟨k + 1, _, _, _, prs ++ [(some mb, some wb)], by omega, by go_num, by rw [List.length_append, HKL.out]; rfl, HM7.out.head⟩
                case measure => simp [intOf]; omega
    · obtain rfl : k = ps.length := by omega
      have hR := HR.out.rows
      obtain ⟨A0, l0, c0, rfl⟩ := own_slice hR.d
      obtain ⟨A1, l1, c1, rfl⟩ := own_slice hR.s
      obtain ⟨A2, l2, c2, rfl⟩ := own_slice hR.m
      have d0 : wr.cell? ⟨w.heap.size + 1, 0, none⟩ = some (.slice A0 l0 c0) := hR.bb.cell 0
      have d1 : wr.cell? ⟨w.heap.size + 1, 1, none⟩ = some (.slice A1 l1 c1) := hR.bb.cell 1
      have d2 : wr.cell? ⟨w.heap.size + 1, 2, none⟩ = some (.slice A2 l2 c2) := hR.bb.cell 2
      have e0 : wr.cell? ⟨w.heap.size, 0, none⟩ = some (.slice none 0 0) := hR.rb.cell 0
      have e1 : wr.cell? ⟨w.heap.size, 1, none⟩ = some (.slice none 0 0) := hR.rb.cell 1
      have e2 : wr.cell? ⟨w.heap.size, 2, none⟩ = some (.slice none 0 0) := hR.rb.cell 2
      have ef := hR.rb.free
      clear hR
      go_wp2
      clear ef
      refine bodyPost_ret (v := .tuple #[.agg #[.slice A0 l0 c0, .slice A1 l1 c1, .slice A2 l2 c2], .bool true]) ?_ rfl ⟨.slice A0 l0 c0, .slice A1 l1 c1, .slice A2 l2 c2, prs, rfl, ?_, HKL.out⟩
      · simp [results, Tryz.results11, go_sem, e0, e1, e2]
      · refine HR.out.made ?_ (fun g hg => ?_)
        · exact three_sets _ _ _ _ _
        · exact (Below.heap_setCell _ _ _ g hg).trans ((Below.heap_setCell _ _ _ g hg).trans (Below.heap_setCell _ _ _ g hg))
end Go.Proofs.YtiaecfdfjhjgiaaGreat.hp
