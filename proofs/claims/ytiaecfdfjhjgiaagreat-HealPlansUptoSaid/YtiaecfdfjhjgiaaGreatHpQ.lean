/- Contracts: what stands on a drive, and what is safe: the files of both sides, by name. -/
import Derived.Test.YtiaecfdfjhjgiaaGreatHpN
import Derived.Test.YtiaecfdfjhjgiaaGreatHpF
import Derived.Deep.CutRange
import Derived.Deep.RegionHeld3
import Derived.Sort.KeysCollected
import Derived.Test.YtiaecfdfjhjgiaaGreatShelf
namespace Go.Proofs.YtiaecfdfjhjgiaaGreat.hp
open Go.RowKit kit Go.ChangeMaps Go.Maps Go.Sort
set_option linter.unusedVariables false

theorem sB_drew {w0 X : World} (h : Below w0.heap.size w0 X) : Below w0.heap.size w0 X.drew := h.drew
theorem sB_alloc {w0 X : World} (h : Below w0.heap.size w0 X) (o : Obj) : Below w0.heap.size w0 (X.alloc o) := h.alloc h.size o
theorem sB_set {w0 X : World} (h : Below w0.heap.size w0 X) (p : Addr) (u : Value) (hp : w0.heap.size ≤ p.block) : Below w0.heap.size w0 (X.setCell p u) := h.setCell hp u
/-- The files that the entries tell, the bodies' data being these. -/
def tellE (es : List En) (ds : List (List UInt8)) : List (List UInt8 × List UInt8) := es.map fun e => (nk e.name, ds.getD e.body [])
/-- Files gathered in a row of the call's own. -/
structure ImRel (w wr : World) (out : Value) (fs' : List Fi) (ks : List (List UInt8 × List UInt8)) : Prop where
  own : wr.ownsRow w.heap.size 112 2 out fs'.length (fs'.flatMap fC)
  keys : fs'.map Fi.key = ks
  bys : ∀ f ∈ fs', By wr (fun b => New w wr b ∧ some b ≠ out.ownBlock) f.val f.data
  bel : Below w.heap.size w wr
theorem ImRel.start (w : World) : ImRel w w (.slice none 0 0) [] [] := ⟨World.ownsRow_nil _ _ _ _, rfl, (fun f hf => by cases hf), Below.refl _ _⟩
theorem ImRel.next {w wr w1 w2 : World} {out v1 v2 : Value} {fs' : List Fi} {ks : List (List UInt8 × List UInt8)} {nm : ByteArray} {d : List UInt8} {o : Obj} (h : ImRel w wr out fs' ks)
    (hby : By w1 (New wr w1) v1 d) (hb1 : Below wr.heap.size wr w1)
    (ho2 : w2.ownsRow w.heap.size 112 2 v2 (fs'.length + 1) (fs'.flatMap fC ++ [.string nm, v1])) (hg2 : (w1.alloc o).grownBy w2 out.ownBlock) (hb2 : v2.ownBlock = out.ownBlock ∨ v2.ownBlock = some (w1.alloc o).heap.size) :
    ImRel w w2 v2 (fs' ++ [⟨nm, v1, d⟩]) (ks ++ [(nk nm, d)]) := by
  have hs1 : wr.heap.size ≤ w1.heap.size := hb1.size
  have hs2 : w1.heap.size + 1 ≤ w2.heap.size := by have := hg2.size; simpa using this
  have hsw := h.bel.size
  have hout : ∀ b, out.ownBlock = some b → w.heap.size ≤ b ∧ b < wr.heap.size := fun b hb => h.own.lt b hb
  have hk1 : ∀ (S : Nat → Prop), (∀ b, S b → b < wr.heap.size ∧ some b ≠ out.ownBlock) → Kept S wr w2 := fun S hS =>
    ((kept_below hb1 (fun b hb => (hS b hb).1)).trans (kept_alloc o (fun b hb => by have := (hS b hb).1; omega))).trans (kept_grown hg2 (fun b hb => ⟨by have := (hS b hb).1; simp; omega, (hS b hb).2⟩))
  have hne2 : ∀ b, b < w1.heap.size + 1 → some b ≠ out.ownBlock → some b ≠ v2.ownBlock := fun b hb hne e => by
    rcases hb2 with h2 | h2
    · exact hne (by rw [e, h2])
    · rw [h2] at e
      injection e with e
      simp at e
      omega
  refine ⟨by rw [List.flatMap_append, List.length_append]; exact ho2, ?_, ?_, ?_⟩
  · rw [List.map_append, h.keys]
    rfl
  · intro g hg
    rcases List.mem_append.1 hg with hg | hg
    · refine ((h.bys g hg).kept (hk1 _ (fun b hb => ⟨hb.1.2, hb.2⟩))).mono fun b hb => ⟨⟨hb.1.1, by have := hb.1.2; omega⟩, hne2 b (by have := hb.1.2; omega) hb.2⟩
    · simp only [List.mem_singleton] at hg
      subst hg
      have hno : ∀ b, New wr w1 b → some b ≠ out.ownBlock := fun b hb e => by have := (hout b e.symm).2; have := hb.1; omega
      refine (hby.kept ((kept_alloc o (fun b hb => hb.2)).trans (kept_grown hg2 (fun b hb => ⟨by have := hb.2; simp; omega, hno b hb⟩)))).mono fun b hb => ⟨⟨by have := hb.1; omega, by have := hb.2; omega⟩, hne2 b (by have := hb.2; omega) (hno b hb)⟩
  · exact Below.grown ((h.bel.trans (hb1.mono hsw)).alloc (by omega) o) hg2 (by simp; omega) (fun j hj => (hout j hj).1)
theorem ImRel.later {w wr wx : World} {out : Value} {fs' : List Fi} {ks : List (List UInt8 × List UInt8)} (h : ImRel w wr out fs' ks) (hb : Below wr.heap.size wr wx) : ImRel w wx out fs' ks := by
  refine ⟨own_keep h.own hb, h.keys, fun f hf => ((h.bys f hf).keep hb).mono fun b hb' => ⟨⟨hb'.1.1, Nat.lt_of_lt_of_le hb'.1.2 hb.size⟩, hb'.2⟩, h.bel.trans (hb.mono h.bel.size)⟩
theorem ImRel.done {w wr : World} {out : Value} {fs' : List Fi} {ks : List (List UInt8 × List UInt8)} (h : ImRel w wr out fs' ks) : Fs wr (New w wr) out fs' :=
  ⟨Sl.of_own fC_len h.own (fun g h1 h2 => ⟨h1, h2⟩), fun f hf => (h.bys f hf).mono fun b hb => hb.1⟩
theorem tell_next (es : List En) (ds : List (List UInt8)) (k : Nat) (e : En) (h : es[k]? = some e) : tellE (es.take (k + 1)) ds = tellE (es.take k) ds ++ [(nk e.name, ds.getD e.body [])] := by
  unfold tellE
  rw [take_get es k e h, List.map_append]
  rfl
set_option maxRecDepth 1000000 in
set_option maxHeartbeats 4000000 in
theorem rimage_any (rb : Nat) (bv nv : Value) (bs : List Bd) (es : List En) (hl : es.length ≤ 1099511627776) (hd : ∀ b ∈ bs, b.data.length ≤ 1099511627776) (hv : ∀ e ∈ es, e.body < bs.length) (w : World) (S : Nat → Prop)
    (h1 : w.cell? ⟨rb, 1, none⟩ = some bv) (h2 : w.cell? ⟨rb, 2, none⟩ = some nv) (hb : Sl w S 2 bdC bv bs) (hn : Sl w S 2 eC nv es) (hy : ∀ b ∈ bs, By w S b.val b.data) :
    Calls Tryz.prog 28 #[.pointer (some ⟨rb, 0, none⟩)] w fun e w' => ∃ v' fs', e = .returned v' ∧ Fs w' (New w w') v' fs' ∧ fs'.map Fi.key = tellE es (bs.map Bd.data) ∧ Below w.heap.size w w' := by
  obtain ⟨j0, hi, hz0, hz1, hz2⟩ := info_parts info112
  have JI := Lib.hid hi; clear hi
  have JZ0 := Lib.hid hz0; clear hz0
  have JZ1 := Lib.hid hz1; clear hz1
  have JZ2 := Lib.hid hz2; clear hz2
  obtain ⟨A1, c1, rfl, hc1⟩ := hb
  obtain ⟨A2, c2, rfl, hc2⟩ := hn
  have HB := Lib.hid hc1; clear hc1
  have HN := Lib.hid hc2; clear hc2
  have HD := Lib.hid hd; clear hd
  have HV := Lib.hid hv; clear hv
  have HY := Lib.hid hy; clear hy
  have H1 := Lib.hid h1; clear h1
  have H2 := Lib.hid h2
  go_enter Tryz.func28, Tryz.ntmps28
  go_wp2
  clear h2
  go_loopw [3, 4] (fun out i wr => ∃ (k : Nat) (fs' : List Fi), k ≤ es.length ∧ i = .int .i64 (k : Int) ∧ fs'.length = k ∧ ImRel w wr out fs' (tellE (es.take k) (bs.map Bd.data))) (fun _ i _ => es.length - (intOf i).toNat)
  case atStart => exact ⟨0, [], by omega, rfl, rfl, ImRel.start w⟩
  case round =>
    obtain ⟨k, fs', hk, rfl, hfl, hrel⟩ := hrel
    have HR := Lib.hid hrel; clear hrel
    have HFL := Lib.hid hfl; clear hfl
    have d2 : wr.cell? ⟨rb, 2, none⟩ = some (.slice A2 es.length c2) := cell_later HR.out.bel H2.out
    by_cases hlt : k < es.length
    · obtain ⟨e, he⟩ : ∃ e, es[k]? = some e := ⟨_, List.getElem?_eq_getElem hlt⟩
      have hbi := HV.out e (List.mem_of_getElem? he)
      obtain ⟨x, hx⟩ : ∃ x, bs[e.body]? = some x := ⟨_, List.getElem?_eq_getElem hbi⟩
      obtain ⟨g1, o1, rfl, _, hcs1⟩ := HB.out (by intro e; rw [e] at hx; simp at hx)
      obtain ⟨g2, o2, rfl, _, hcs2⟩ := HN.out (by intro e; rw [e] at he; simp at he)
      have d1 : wr.cell? ⟨rb, 1, none⟩ = some (.slice (some ⟨g1, o1, none⟩) bs.length c1) := cell_later HR.out.bel H1.out
      have n0 : w.cell? ⟨g2, o2 + k * 2, none⟩ = some (.string e.name) := hcs2 k e he 0 _ rfl
      have n1 : w.cell? ⟨g2, o2 + k * 2 + 1, none⟩ = some (.int .i64 (e.body : Int)) := hcs2 k e he 1 _ rfl
      have hby := (HY.out x (List.mem_of_getElem? hx)).keep HR.out.bel
      obtain ⟨A3, c3, hval, hrd⟩ := hby.reads
      have b0 : w.cell? ⟨g1, o1 + e.body * 2, none⟩ = some (.slice A3 x.data.length c3) := by rw [← hval]; exact hcs1 e.body x hx 0 _ rfl
      obtain ⟨dl, hdle⟩ : ∃ dl, x.data.length = dl := ⟨_, rfl⟩
      have HDL := Lib.hid hdle
      rw [hval] at hby
      rw [hdle] at b0 hby
      have hdl := HD.out x (List.mem_of_getElem? hx)
      have HST : Hid (tellE (es.take (k + 1)) (bs.map Bd.data) = tellE (es.take k) (bs.map Bd.data) ++ [(nk e.name, x.data)]) := Lib.hid (by
        rw [tell_next es _ k e he]
        congr 3
        simp [List.getD, hx])
      have hi0 : (0 : Int) ≤ (k : Int) := by omega
      have hi1 : (k : Int) < (es.length : Int) := by omega
      have hi2 : (0 : Int) ≤ (e.body : Int) := by omega
      have hi3 : (e.body : Int) < (bs.length : Int) := by omega
      have hn3 : fs'.length + 1 ≤ maxLen := by have := HFL.out; unfold maxLen; omega
      have hn4 : (fs'.length + 1) * 40 ≤ 140737488355328 := by have := HFL.out; omega
      obtain ⟨nm, hnm⟩ : ∃ nm, e.name = nm := ⟨_, rfl⟩
      rw [hnm] at n0 HST
      obtain ⟨ib, hib⟩ : ∃ ib, e.body = ib := ⟨_, rfl⟩
      rw [hib] at n1 b0 hi2 hi3
      have hsw := HR.out.bel.size
      have cC : ∀ wx, Below wr.heap.size wr wx → Calls Tryz.prog 44 #[.slice A3 dl c3] wx fun e w' => ∃ A4 l4 c4, e = .returned (.slice A4 l4 c4) ∧ Hid (Below wr.heap.size wr w') ∧ Below w.heap.size w w' ∧ Hid (By w' (New wr w') (.slice A4 l4 c4) x.data) := by
        intro wx hwx
        refine (copied_any (.slice A3 dl c3) x.data hdl wx S (hby.keep hwx)).mono ?_
        rintro e w' ⟨v', rfl, h1, h2⟩
        obtain ⟨A4, c4, hv', _⟩ := h1.reads
        subst hv'
        have hX := hwx.trans (h2.mono hwx.size)
        exact ⟨A4, _, c4, rfl, Lib.hid hX, HR.out.bel.trans (hX.mono HR.out.bel.size), Lib.hid (h1.mono fun b hb => ⟨Nat.le_trans hwx.size hb.1, hb.2⟩)⟩
      clear hval hrd hdle hnm hib he hx hcs1 hcs2 hbi hby
      go_wp2
      go_upto_region 7 with fail
      have hBel := HR.out.bel
      have f1 : ∀ W, Below w.heap.size w W → W.cell? ⟨rb, 1, none⟩ = some (.slice (some ⟨g1, o1, none⟩) bs.length c1) := fun W hb => cell_later hb H1.out
      have f2 : ∀ W, Below w.heap.size w W → W.cell? ⟨rb, 2, none⟩ = some (.slice (some ⟨g2, o2, none⟩) es.length c2) := fun W hb => cell_later hb H2.out
      have f3 : ∀ W, Below w.heap.size w W → W.cell? ⟨g2, o2 + k * 2, none⟩ = some (.string nm) := fun W hb => cell_later hb n0
      have f4 : ∀ W, Below w.heap.size w W → W.cell? ⟨g2, o2 + k * 2 + 1, none⟩ = some (.int .i64 (ib : Int)) := fun W hb => cell_later hb n1
      have f5 : ∀ W, Below w.heap.size w W → W.cell? ⟨g1, o1 + ib * 2, none⟩ = some (.slice A3 dl c3) := fun W hb => cell_later hb b0
      clear n0 n1 b0 d1 d2
      go_region_held3 (fun W => Below w.heap.size w W) (with_reducible (repeat (first | assumption | exact Below.refl _ _ | apply sB_drew | apply sB_alloc)))
        (first
          | ((refine words.step_append_any _ (by rfl) (.tmp 16) (.tmp 42) 78 (by rfl) w.heap.size 112 j0 (.agg #[.string ⟨#[]⟩, .slice none 0 0]) 2 40 Tryz.underlying78 JI.out JZ0.out JZ1.out JZ2.out rfl (by decide) u3 fs'.length (fs'.flatMap fC) (by rfl) ((own_keep HR.out.own X0.out).alloc _) (w1.heap.size + 1) _ 1 1 [.string nm, .slice A4 l4 c4] (by rfl) (reads_new _ _ _) (one_two rfl rfl) hn3 hn4 ?_ ?_); (focus (simp; have := X0.out.size; omega)); intro v2 w2 ho2 hg2 hb2; have X2 := Lib.hid (HR.out.next (nm := nm) X1.out X0.out ho2 hg2 hb2); have hB2 := X2.out.bel; clear ho2 hg2 hb2)
          | (go_at_call 44; refine (cC _ (Below.drew (Below.refl _ _))).mono ?_; rintro e w1 ⟨A4, l4, c4, rfl, X0, hB1, X1⟩))
      all_goals (
        go_wp2
        go_roundw
        case rel => exact ⟨k + 1, fs' ++ [⟨nm, .slice A4 l4 c4, x.data⟩], by omega, by go_num, by rw [List.length_append, HFL.out]; rfl, by rw [HST.out]; exact X2.out⟩
        case measure => simp [intOf]; omega)
    · obtain rfl : k = es.length := by omega
      go_wp2
      go_ret
      exact ⟨_, fs', rfl, HR.out.done, by rw [HR.out.keys, List.take_of_length_le (Nat.le_refl _)], HR.out.bel⟩

theorem Dm.get {w : World} {mb : Nat} {es : List En} {bl : List Nat} (h : Dm w mb es bl) (nm : ByteArray) (hs : nm.size ≤ maxLen) :
    (Instr.lookup 133 (.map (some mb)) (.string nm) false).run Tryz.prog w = .ok (lookV (look es bl (nk nm))) w := by
  obtain ⟨hv, D, ho, hD⟩ := h
  obtain ⟨v, ps, hrun, hR⟩ := ho.lookup (Maps.string_keyed Tryz.underlying9) Tryz.underlying133 (Tryz.zeroValue130 w) (zd := .lit (.int .i64 (-1))) (zp := []) rfl (key9 nm hs)
  rw [hrun]
  rw [(hD (nk nm)).2] at hR
  cases hl : look es bl (nk nm) with
  | none =>
    rw [hl] at hR
    rw [Rp_nil hR]
    rfl
  | some b =>
    rw [hl] at hR
    rw [Rp_at hR]
    rfl
def nC (e : En) : List Value := [.string e.name]
theorem nC_len (e : En) : (nC e).length = 1 := rfl
theorem nC_flat (es : List En) : es.flatMap nC = (es.map En.k).map encStr := by
  induction es with
  | nil => rfl
  | cons a es ih =>
    rw [List.flatMap_cons, ih]
    rfl
theorem look_mem (es : List En) (bl : List Nat) (hv : ∀ e ∈ es, e.body < bl.length) (x : List UInt8) : (look es bl x).isSome = true ↔ x ∈ es.map En.k := by
  unfold look
  cases hf : es.find? (fun e => decide (e.k = x)) with
  | none =>
    rw [List.find?_eq_none] at hf
    simp only [Option.bind_none, Option.isSome_none, Bool.false_eq_true, false_iff, List.mem_map, not_exists, not_and]
    intro e he hx
    exact hf e he (decide_eq_true hx)
  | some e =>
    have hm := List.mem_of_find?_eq_some hf
    have hk : e.k = x := of_decide_eq_true (List.find?_some (p := fun e : En => decide (e.k = x)) hf)
    rw [Option.bind_some, List.getElem?_eq_getElem (hv e hm)]
    simp only [Option.isSome_some, true_iff]
    exact List.mem_map.2 ⟨e, hm, hk⟩
theorem sort_rising (es : List En) (hr : Rising es) : (es.map En.k).mergeSort (fun x y => decide (x ≤ y)) = es.map En.k :=
  List.mergeSort_of_pairwise (hr.imp fun h => decide_eq_true (List.le_of_lt h))
theorem Dm.keys {w : World} {mb : Nat} {es : List En} {bl : List Nat} (hr : Rising es) {D : DataW Unit} (hv : ∀ e ∈ es, e.body < bl.length) (ho : w.ownsMap Tryz.prog 9 Rp mb es.length D) (hD : ∀ x, Maps.has D (.string x) = (look es bl x).isSome) :
    (es.map En.k).Perm (strKeys D) := by
  refine Collected.perm (left := fun _ => false) ⟨?_, fun x => ?_⟩ ho (Maps.string_keyed Tryz.underlying9) Tryz.underlying9 (fun _ => rfl)
  · exact hr.imp fun h e => by rw [e] at h; exact absurd h (List.lt_irrefl _)
  · rw [hD x, look_mem es bl hv x]
    simp
set_option maxHeartbeats 1000000 in
theorem names_any (mb : Nat) (es : List En) (bl : List Nat) (hr : Rising es) (hl : es.length ≤ 1099511627776) (w : World) (h : Dm w mb es bl) :
    Calls Tryz.prog 63 #[.map (some mb)] w fun e w' => ∃ v, e = .returned v ∧ Sl w' (New w w') 1 nC v es ∧ Below w.heap.size w w' := by
  obtain ⟨hv, D, ho, hD⟩ := h
  have hk := Dm.keys hr hv ho (fun x => (hD x).1)
  have hsz := ho.size_le
  have cK := callsIn_wide.1 (Tryz.maps_Keys_71 (some mb) w)
  have cS := callsIn_wide.1 (Tryz.slices_Sorted_keys_70_71 mb es.length D Rp w ho (by unfold maxLen; omega) (by omega))
  have HK := Lib.hid hk
  have HR := Lib.hid hr
  clear hv hD hsz ho hk hr
  go_enter Tryz.func63, Tryz.ntmps63
  go_wp2_with (first
    | (go_at_call 71; refine cK.mono ?_; rintro e w' ⟨rfl, rfl⟩)
    | (go_at_call 70; refine cS.mono ?_; rintro e w' ⟨v, ss, rfl, hS, hrow, hnil, hb⟩))
  go_ret
  have hsort : ss.mergeSort (fun x y => decide (x ≤ y)) = es.map En.k := (mergeSort_of_perm (hS.trans HK.out.symm)).trans (sort_rising es HR.out)
  have hss : ss.length = es.length := by rw [(hS.trans HK.out.symm).length_eq, List.length_map]
  rw [hsort, hss, ← nC_flat] at hrow
  have hbw : Below w.heap.size w w' := ((Below.refl _ w).alloc (Nat.le_refl _) _).trans (hb.mono (by simp))
  exact ⟨v, rfl, Sl.of_own nC_len hrow (fun g h1 h2 => ⟨by simp at h1; omega, h2⟩), hbw⟩
theorem info138 : (Tryz.prog.info? 138).map (fun i => (i.zero, i.size, i.bytes)) = some (some (Value.agg #[.slice none 0 0, .int .i64 0]), 2, 32) := by kernel_rfl
/-- bytes.Clone at what reads as bytes, the value a slice. -/
theorem clone_at {w wx : World} {S : Nat → Prop} {A : Option Addr} {n c : Nat} {l : List UInt8} (hl : l.length ≤ 1099511627776) (hby : By w S (.slice A n c) l) (hwx : Below w.heap.size w wx) :
    Calls Tryz.prog 48 #[.slice A n c] wx fun e w' => ∃ A4 l4 c4, e = .returned (.slice A4 l4 c4) ∧ Hid (Below w.heap.size w w' ∧ Below wx.heap.size wx w') ∧ Hid (By w' (New wx w') (.slice A4 l4 c4) l) := by
  refine (clone_any (.slice A n c) l hl wx S (hby.keep hwx)).mono ?_
  rintro e w' ⟨v', rfl, h1, h2⟩
  obtain ⟨A4, c4, hv', _⟩ := h1.reads
  subst hv'
  exact ⟨A4, _, c4, rfl, Lib.hid ⟨hwx.trans (h2.mono hwx.size), h2⟩, Lib.hid h1⟩
theorem copied_at {w wx : World} {S : Nat → Prop} {A : Option Addr} {n c : Nat} {l : List UInt8} (hl : l.length ≤ 1099511627776) (hby : By w S (.slice A n c) l) (hwx : Below w.heap.size w wx) :
    Calls Tryz.prog 44 #[.slice A n c] wx fun e w' => ∃ A4 l4 c4, e = .returned (.slice A4 l4 c4) ∧ Hid (Below w.heap.size w w' ∧ Below wx.heap.size wx w') ∧ Hid (By w' (New wx w') (.slice A4 l4 c4) l) := by
  refine (copied_any (.slice A n c) l hl wx S (hby.keep hwx)).mono ?_
  rintro e w' ⟨v', rfl, h1, h2⟩
  obtain ⟨A4, c4, hv', _⟩ := h1.reads
  subst hv'
  exact ⟨A4, _, c4, rfl, Lib.hid ⟨hwx.trans (h2.mono hwx.size), h2⟩, Lib.hid h1⟩
/-- A name of the directory: where it leads. -/
theorem look_at {es : List En} {bl : List Nat} (hr : Rising es) {e : En} (he : e ∈ es) {b : Nat} (hb : bl[e.body]? = some b) : look es bl (nk e.name) = some b := by
  have hf : es.find? (fun x => decide (x.k = nk e.name)) = some e := by
    induction es with
    | nil => cases he
    | cons a es ih =>
      rw [List.find?_cons]
      rcases List.mem_cons.1 he with rfl | he'
      · rw [decide_eq_true (show e.k = nk e.name from rfl)]
      · have hlt : a.k < e.k := (List.pairwise_cons.1 hr).1 e.k (List.mem_map.2 ⟨e, he', rfl⟩)
        have hne : a.k ≠ nk e.name := fun h => lt_irr _ (show e.k < e.k from (h ▸ hlt : nk e.name < e.k))
        rw [decide_eq_false hne]
        exact ih (List.pairwise_cons.1 hr).2 he'
  unfold look
  rw [hf, Option.bind_some, hb]
theorem tell_data {fs : List Fi} {i : Nat} {f : Fi} (h : fs[i]? = some f) : (fs.map Fi.data).getD i [] = f.data := by
  simp [List.getD, h]

set_option maxRecDepth 1000000 in
set_option maxHeartbeats 4000000 in
theorem pimage_any (pb mb : Nat) (fs : List Fi) (es : List En) (bl : List Nat) (hr : Rising es) (hl : es.length ≤ 1099511627776) (hd : ∀ f ∈ fs, f.data.length ≤ 1099511627776) (hnm : ∀ e ∈ es, e.name.size ≤ 1024) (w : World) (S : Nat → Prop)
    (h1 : w.cell? ⟨pb, 2, none⟩ = some (.map (some mb))) (hD : Dm w mb es bl) (hB : Bodies w S fs bl) :
    Calls Tryz.prog 30 #[.pointer (some ⟨pb, 0, none⟩)] w fun e w' => ∃ v' fs', e = .returned v' ∧ Fs w' (New w w') v' fs' ∧ fs'.map Fi.key = tellE es (fs.map Fi.data) ∧ Below w.heap.size w w' := by
  obtain ⟨j0, hi, hz0, hz1, hz2⟩ := info_parts info112
  have JI := Lib.hid hi; clear hi
  have JZ0 := Lib.hid hz0; clear hz0
  have JZ1 := Lib.hid hz1; clear hz1
  have JZ2 := Lib.hid hz2; clear hz2
  have cN : Calls Tryz.prog 63 #[.map (some mb)] w fun e w' => ∃ A c, e = .returned (.slice A es.length c) ∧ Hid (Sl w' (New w w') 1 nC (.slice A es.length c) es) ∧ Hid (Below w.heap.size w w') := (names_any mb es bl hr hl w hD).mono fun e w' ⟨v, he, hs, hb⟩ => by
    obtain ⟨A, c, rfl, hc⟩ := hs
    exact ⟨A, c, he, Lib.hid ⟨A, c, rfl, hc⟩, Lib.hid hb⟩
  have HD := Lib.hid hd; clear hd
  have HNM := Lib.hid hnm; clear hnm
  have HDm := Lib.hid hD; clear hD
  have HBo := Lib.hid hB; clear hB
  have HRi := Lib.hid hr; clear hr
  have H1 := Lib.hid h1
  go_enter Tryz.func30, Tryz.ntmps30
  go_wp2_with (go_at_call 63; refine cN.mono ?_; rintro e w0 ⟨An, cn, rfl, HS, HW⟩)
  clear h1
  have hw0 := HW.out.size
  go_loopw [3, 14] (fun out i wr => ∃ (k : Nat) (fs' : List Fi), k ≤ es.length ∧ i = .int .i64 (k : Int) ∧ fs'.length = k ∧ ImRel w0 wr out fs' (tellE (es.take k) (fs.map Fi.data))) (fun _ i _ => es.length - (intOf i).toNat)
  case atStart => exact ⟨0, [], by omega, rfl, rfl, ImRel.start w0⟩
  case round =>
    obtain ⟨k, fs', hk, rfl, hfl, hrel⟩ := hrel
    have HR := Lib.hid hrel; clear hrel
    have HFL := Lib.hid hfl; clear hfl
    by_cases hlt : k < es.length
    · obtain ⟨e, he⟩ : ∃ e, es[k]? = some e := ⟨_, List.getElem?_eq_getElem hlt⟩
      have hem := List.mem_of_getElem? he
      have hBw : Below w.heap.size w wr := HW.out.trans (HR.out.bel.mono hw0)
      obtain ⟨b, hbl⟩ : ∃ b, bl[e.body]? = some b := ⟨_, List.getElem?_eq_getElem (HDm.out.1 e hem)⟩
      obtain ⟨f, hf⟩ : ∃ f, fs[e.body]? = some f := ⟨_, List.getElem?_eq_getElem (by have := HDm.out.1 e hem; have := HBo.out.1; omega)⟩
      obtain ⟨_, v, hbk, hby0⟩ := HBo.out.2 e.body f b hf hbl
      have hby := hby0.keep hBw
      obtain ⟨A3, c3, hval, _⟩ := hby.reads
      rw [hval] at hby hbk
      have b0 : wr.cell? ⟨b, 0, none⟩ = some (.slice A3 f.data.length c3) := (hbk.below hBw hbk.lt).cell 0
      obtain ⟨An', cn', hnv, hcn⟩ := HS.out
      injection hnv with hA hx hc
      obtain ⟨gn, on, hAn, _, hcs⟩ := hcn (by intro e; rw [e] at he; simp at he)
      have n0 : wr.cell? ⟨gn, on + k, none⟩ = some (.string e.name) := by
        have := cell_later HR.out.bel (hcs k e he 0 _ rfl)
        simpa using this
      rw [hAn] at hA
      subst hA
      have d1 : wr.cell? ⟨pb, 2, none⟩ = some (.map (some mb)) := cell_later hBw H1.out
      have hlk : (Instr.lookup 133 (.map (some mb)) (.string e.name) false).run Tryz.prog wr = .ok (lookV (look es bl (nk e.name))) wr := (HDm.out.same (hBw.block mb HDm.out.lt)).get e.name (by have := HNM.out e hem; unfold maxLen; omega)
      rw [look_at HRi.out hem hbl] at hlk
      unfold lookV at hlk
      simp only at hlk
      have hdl := HD.out f (List.mem_of_getElem? hf)
      have HST : Hid (tellE (es.take (k + 1)) (fs.map Fi.data) = tellE (es.take k) (fs.map Fi.data) ++ [(nk e.name, f.data)]) := Lib.hid (by
        rw [tell_next es _ k e he, tell_data hf])
      have cC := fun wx (hwx : Below wr.heap.size wr wx) => clone_at hdl hby hwx
      have hi0 : (0 : Int) ≤ (k : Int) := by omega
      have hi1 : (k : Int) < (es.length : Int) := by omega
      have hn3 : fs'.length + 1 ≤ maxLen := by have := HFL.out; unfold maxLen; omega
      have hn4 : (fs'.length + 1) * 40 ≤ 140737488355328 := by have := HFL.out; omega
      obtain ⟨nm, hnm⟩ : ∃ nm, e.name = nm := ⟨_, rfl⟩
      rw [hnm] at n0 hlk HST
      obtain ⟨dl, hdle⟩ : ∃ dl, f.data.length = dl := ⟨_, rfl⟩
      rw [hdle] at b0 cC
      have hsw := HR.out.bel.size
      clear hval hnm hdle he hem hbl hf hbk hby hby0 hx hc hcn hcs hAn hBw
      go_wp2_with (first
        | (at_builtin; refine words.wpList_append_any _ rfl (.tmp 18) (.tmp 31) 78 (by rfl) w0.heap.size 112 j0 (.agg #[.string ⟨#[]⟩, .slice none 0 0]) 2 40 Tryz.underlying78 JI.out JZ0.out JZ1.out JZ2.out rfl (by decide) u3 fs'.length (fs'.flatMap fC) (by rfl) ((own_keep HR.out.own X0.out.1).alloc _) (w1.heap.size + 1) _ 1 1 [.string nm, .slice A4 l4 c4] (by rfl) (reads_new _ _ _) (one_two rfl rfl) hn3 hn4 ?_ ?_; (focus (simp; have := X0.out.1.size; omega)); intro v2 w2 ho2 hg2 hb2; have X2 := Lib.hid (HR.out.next (nm := nm) X1.out X0.out.1 ho2 hg2 hb2); clear ho2 hg2 hb2)
        | (go_at_call 48; refine (cC _ (Below.refl _ _)).mono ?_; rintro e w1 ⟨A4, l4, c4, rfl, X0, X1⟩))
      go_roundw
      case rel => exact ⟨k + 1, fs' ++ [⟨nm, .slice A4 l4 c4, f.data⟩], by omega, by go_num, by rw [List.length_append, HFL.out]; rfl, by rw [HST.out]; exact X2.out⟩
      case measure => simp [intOf]; omega
    · obtain rfl : k = es.length := by omega
      go_wp2
      go_ret
      exact ⟨_, fs', rfl, HR.out.done.mono fun b hb => ⟨Nat.le_trans hw0 hb.1, hb.2⟩, by rw [HR.out.keys, List.take_of_length_le (Nat.le_refl _)], HW.out.trans (HR.out.bel.mono hw0)⟩

set_option maxRecDepth 1000000 in
set_option maxHeartbeats 4000000 in
theorem psafe_any (pb mb : Nat) (fs : List Fi) (es : List En) (bl : List Nat) (hr : Rising es) (hl : es.length ≤ 1099511627776) (hd : ∀ f ∈ fs, f.data.length ≤ 1099511627776) (hnm : ∀ e ∈ es, e.name.size ≤ 1024) (w : World) (S : Nat → Prop)
    (h1 : w.cell? ⟨pb, 3, none⟩ = some (.map (some mb))) (hD : Dm w mb es bl) (hB : Bodies w S fs bl) :
    Calls Tryz.prog 31 #[.pointer (some ⟨pb, 0, none⟩)] w fun e w' => ∃ v' fs', e = .returned v' ∧ Fs w' (New w w') v' fs' ∧ fs'.map Fi.key = tellE es (fs.map Fi.data) ∧ Below w.heap.size w w' := by
  obtain ⟨j0, hi, hz0, hz1, hz2⟩ := info_parts info112
  have JI := Lib.hid hi; clear hi
  have JZ0 := Lib.hid hz0; clear hz0
  have JZ1 := Lib.hid hz1; clear hz1
  have JZ2 := Lib.hid hz2; clear hz2
  have cN : Calls Tryz.prog 63 #[.map (some mb)] w fun e w' => ∃ A c, e = .returned (.slice A es.length c) ∧ Hid (Sl w' (New w w') 1 nC (.slice A es.length c) es) ∧ Hid (Below w.heap.size w w') := (names_any mb es bl hr hl w hD).mono fun e w' ⟨v, he, hs, hb⟩ => by
    obtain ⟨A, c, rfl, hc⟩ := hs
    exact ⟨A, c, he, Lib.hid ⟨A, c, rfl, hc⟩, Lib.hid hb⟩
  have HD := Lib.hid hd; clear hd
  have HNM := Lib.hid hnm; clear hnm
  have HDm := Lib.hid hD; clear hD
  have HBo := Lib.hid hB; clear hB
  have HRi := Lib.hid hr; clear hr
  have H1 := Lib.hid h1
  go_enter Tryz.func31, Tryz.ntmps31
  go_wp2_with (go_at_call 63; refine cN.mono ?_; rintro e w0 ⟨An, cn, rfl, HS, HW⟩)
  clear h1
  have hw0 := HW.out.size
  go_loopw [3, 15] (fun out i wr => ∃ (k : Nat) (fs' : List Fi), k ≤ es.length ∧ i = .int .i64 (k : Int) ∧ fs'.length = k ∧ ImRel w0 wr out fs' (tellE (es.take k) (fs.map Fi.data))) (fun _ i _ => es.length - (intOf i).toNat)
  case atStart => exact ⟨0, [], by omega, rfl, rfl, ImRel.start w0⟩
  case round =>
    obtain ⟨k, fs', hk, rfl, hfl, hrel⟩ := hrel
    have HR := Lib.hid hrel; clear hrel
    have HFL := Lib.hid hfl; clear hfl
    by_cases hlt : k < es.length
    · obtain ⟨e, he⟩ : ∃ e, es[k]? = some e := ⟨_, List.getElem?_eq_getElem hlt⟩
      have hem := List.mem_of_getElem? he
      have hBw : Below w.heap.size w wr := HW.out.trans (HR.out.bel.mono hw0)
      obtain ⟨b, hbl⟩ : ∃ b, bl[e.body]? = some b := ⟨_, List.getElem?_eq_getElem (HDm.out.1 e hem)⟩
      obtain ⟨f, hf⟩ : ∃ f, fs[e.body]? = some f := ⟨_, List.getElem?_eq_getElem (by have := HDm.out.1 e hem; have := HBo.out.1; omega)⟩
      obtain ⟨_, v, hbk, hby0⟩ := HBo.out.2 e.body f b hf hbl
      have hby := hby0.keep hBw
      obtain ⟨A3, c3, hval, _⟩ := hby.reads
      rw [hval] at hby hbk
      have hcap : f.data.length ≤ c3 := hby.2 _ _ _ rfl
      have b0 : w.cell? ⟨b, 0, none⟩ = some (.slice A3 f.data.length c3) := hbk.cell 0
      have b1 : w.cell? ⟨b, 1, none⟩ = some (.int .i64 (f.data.length : Int)) := hbk.cell 1
      obtain ⟨An', cn', hnv, hcn⟩ := HS.out
      injection hnv with hA hx hc
      obtain ⟨gn, on, hAn, _, hcs⟩ := hcn (by intro e; rw [e] at he; simp at he)
      have n0 : wr.cell? ⟨gn, on + k, none⟩ = some (.string e.name) := by
        have := cell_later HR.out.bel (hcs k e he 0 _ rfl)
        simpa using this
      rw [hAn] at hA
      subst hA
      have d1 : wr.cell? ⟨pb, 3, none⟩ = some (.map (some mb)) := cell_later hBw H1.out
      have hlk : (Instr.lookup 133 (.map (some mb)) (.string e.name) false).run Tryz.prog wr = .ok (lookV (look es bl (nk e.name))) wr := (HDm.out.same (hBw.block mb HDm.out.lt)).get e.name (by have := HNM.out e hem; unfold maxLen; omega)
      rw [look_at HRi.out hem hbl] at hlk
      unfold lookV at hlk
      simp only at hlk
      have hdl := HD.out f (List.mem_of_getElem? hf)
      have HST : Hid (tellE (es.take (k + 1)) (fs.map Fi.data) = tellE (es.take k) (fs.map Fi.data) ++ [(nk e.name, f.data)]) := Lib.hid (by
        rw [tell_next es _ k e he, tell_data hf])
      have cC := fun wx (hwx : Below wr.heap.size wr wx) => clone_at hdl hby hwx
      have hi0 : (0 : Int) ≤ (k : Int) := by omega
      have hi1 : (k : Int) < (es.length : Int) := by omega
      have hn3 : fs'.length + 1 ≤ maxLen := by have := HFL.out; unfold maxLen; omega
      have hn4 : (fs'.length + 1) * 40 ≤ 140737488355328 := by have := HFL.out; omega
      obtain ⟨nm, hnm⟩ : ∃ nm, e.name = nm := ⟨_, rfl⟩
      rw [hnm] at n0 hlk HST
      obtain ⟨dl, hdle⟩ : ∃ dl, f.data.length = dl := ⟨_, rfl⟩
      rw [hdle] at b0 b1 cC hcap
      have hsw := HR.out.bel.size
      have hd0 : (0 : Int) ≤ (dl : Int) := by omega
      have hd1 : (dl : Int) ≤ (c3 : Int) := by omega
      clear hval hnm hdle he hem hbl hf hbk hby hby0 hx hc hcn hcs hAn
      go_upto_region 8 with fail
      have hBel := HR.out.bel
      have f1 : ∀ W, Below w0.heap.size w0 W → W.cell? ⟨b, 0, none⟩ = some (.slice A3 dl c3) := fun W hb => cell_later (HW.out.trans (hb.mono hw0)) b0
      have f2 : ∀ W, Below w0.heap.size w0 W → W.cell? ⟨b, 1, none⟩ = some (.int .i64 (dl : Int)) := fun W hb => cell_later (HW.out.trans (hb.mono hw0)) b1
      clear b0 b1 hBw n0 d1 hlk
      go_region_held3 (fun W => Below w0.heap.size w0 W) (with_reducible (repeat (first | assumption | exact Below.refl _ _ | apply sB_drew | apply sB_alloc)))
        (first
          | ((refine words.step_append_any _ (by rfl) (.tmp 25) (.tmp 38) 78 (by rfl) w0.heap.size 112 j0 (.agg #[.string ⟨#[]⟩, .slice none 0 0]) 2 40 Tryz.underlying78 JI.out JZ0.out JZ1.out JZ2.out rfl (by decide) u3 fs'.length (fs'.flatMap fC) (by rfl) ((own_keep HR.out.own X0.out.1).alloc _) (w1.heap.size + 1) _ 1 1 [.string nm, .slice A4 l4 c4] (by rfl) (reads_new _ _ _) (one_two rfl rfl) hn3 hn4 ?_ ?_); (focus (simp; have := X0.out.1.size; omega)); intro v2 w2 ho2 hg2 hb2; have X2 := Lib.hid (HR.out.next (nm := nm) X1.out X0.out.1 ho2 hg2 hb2); have hB2 := X2.out.bel; clear ho2 hg2 hb2)
          | (go_at_call 48; refine (cC _ (Below.drew (Below.refl _ _))).mono ?_; rintro e w1 ⟨A4, l4, c4, rfl, X0, X1⟩; have hB1 := HR.out.bel.trans (X0.out.1.mono HR.out.bel.size)))
      all_goals (
        go_wp2
        go_roundw
        case rel => exact ⟨k + 1, fs' ++ [⟨nm, .slice A4 l4 c4, f.data⟩], by omega, by go_num, by rw [List.length_append, HFL.out]; rfl, by rw [HST.out]; exact X2.out⟩
        case measure => simp [intOf]; omega)
    · obtain rfl : k = es.length := by omega
      go_wp2
      go_ret
      exact ⟨_, fs', rfl, HR.out.done.mono fun b hb => ⟨Nat.le_trans hw0 hb.1, hb.2⟩, by rw [HR.out.keys, List.take_of_length_le (Nat.le_refl _)], HW.out.trans (HR.out.bel.mono hw0)⟩
/-- W is a but for one row and what is new. -/
structure Side (r : Option Nat) (a W : World) : Prop where
  low : Below 0 a W
  block : ∀ g, g < a.heap.size → some g ≠ r → W.heap[g]? = a.heap[g]?
theorem Side.size {r : Option Nat} {a W : World} (h : Side r a W) : a.heap.size ≤ W.heap.size := h.low.size
theorem Side.refl (r : Option Nat) (a : World) : Side r a a := ⟨Below.refl _ _, fun _ _ _ => rfl⟩
theorem Side.drew {r : Option Nat} {a W : World} (h : Side r a W) : Side r a W.drew := ⟨h.low.drew, h.block⟩
theorem Side.alloc {r : Option Nat} {a W : World} (h : Side r a W) (o : Obj) : Side r a (W.alloc o) := ⟨h.low.alloc (Nat.zero_le _) o, fun g hg hr => (Below.heap_alloc W o g (Nat.lt_of_lt_of_le hg h.size)).trans (h.block g hg hr)⟩
theorem Side.of_below (r : Option Nat) {a W : World} (h : Below a.heap.size a W) : Side r a W := ⟨h.mono (Nat.zero_le _), fun g hg _ => h.block g hg⟩
theorem Side.grown {r : Option Nat} {a W X : World} (h : Side r a W) (hg : W.grownBy X r) : Side r a X := ⟨Below.grown h.low hg (Nat.zero_le _) (fun _ _ => Nat.zero_le _), fun g h1 h2 => (hg.block g (Nat.lt_of_lt_of_le h1 h.size) h2).trans (h.block g h1 h2)⟩
theorem Side.below {r : Option Nat} {a W X : World} (h : Side r a W) (hb : Below W.heap.size W X) : Side r a X := ⟨h.low.trans (hb.mono (Nat.zero_le _)), fun g h1 h2 => (hb.block g (Nat.lt_of_lt_of_le h1 h.size)).trans (h.block g h1 h2)⟩
theorem Side.bk {r : Option Nat} {a W : World} {g : Nat} {t : TypeId} {cs : Array Value} (h : Side r a W) (hb : Bk a g t cs) (hg : some g ≠ r) : Bk W g t cs := (h.block g hb.lt hg).trans hb
theorem Side.cell {r : Option Nat} {a W : World} {p : Addr} {u : Value} (h : Side r a W) (hu : a.cell? p = some u) (hg : some p.block ≠ r) : W.cell? p = some u := (World.cell?_of_block (h.block p.block (block_lt_of_cell hu) hg)).trans hu


set_option maxRecDepth 1000000 in
set_option maxHeartbeats 4000000 in
theorem rsafe_any (rb : Nat) (bv nv : Value) (bs : List Bd) (es : List En) (hl : es.length ≤ 1099511627776) (hd : ∀ b ∈ bs, b.data.length ≤ 1099511627776) (hv : ∀ e ∈ es, e.body < bs.length) (w : World) (S : Nat → Prop)
    (h1 : w.cell? ⟨rb, 1, none⟩ = some bv) (h2 : w.cell? ⟨rb, 3, none⟩ = some nv) (hb : Sl w S 2 bdC bv bs) (hn : Sl w S 2 eC nv es) (hy : ∀ b ∈ bs, By w S b.val b.data) :
    Calls Tryz.prog 32 #[.pointer (some ⟨rb, 0, none⟩)] w fun e w' => ∃ v' fs', e = .returned v' ∧ Fs w' (New w w') v' fs' ∧ fs'.map Fi.key = tellE es (bs.map Bd.data) ∧ Below w.heap.size w w' := by
  obtain ⟨j0, hi, hz0, hz1, hz2⟩ := info_parts info112
  have JI := Lib.hid hi; clear hi
  have JZ0 := Lib.hid hz0; clear hz0
  have JZ1 := Lib.hid hz1; clear hz1
  have JZ2 := Lib.hid hz2; clear hz2
  obtain ⟨A1, c1, rfl, hc1⟩ := hb
  obtain ⟨A2, c2, rfl, hc2⟩ := hn
  have HB := Lib.hid hc1; clear hc1
  have HN := Lib.hid hc2; clear hc2
  have HD := Lib.hid hd; clear hd
  have HV := Lib.hid hv; clear hv
  have HY := Lib.hid hy; clear hy
  have H1 := Lib.hid h1; clear h1
  have H2 := Lib.hid h2
  go_enter Tryz.func32, Tryz.ntmps32
  go_wp2
  clear h2
  go_loopw [3, 4] (fun out i wr => ∃ (k : Nat) (fs' : List Fi), k ≤ es.length ∧ i = .int .i64 (k : Int) ∧ fs'.length = k ∧ ImRel w wr out fs' (tellE (es.take k) (bs.map Bd.data))) (fun _ i _ => es.length - (intOf i).toNat)
  case atStart => exact ⟨0, [], by omega, rfl, rfl, ImRel.start w⟩
  case round =>
    obtain ⟨k, fs', hk, rfl, hfl, hrel⟩ := hrel
    have HR := Lib.hid hrel; clear hrel
    have HFL := Lib.hid hfl; clear hfl
    have d2 : wr.cell? ⟨rb, 3, none⟩ = some (.slice A2 es.length c2) := cell_later HR.out.bel H2.out
    by_cases hlt : k < es.length
    · obtain ⟨e, he⟩ : ∃ e, es[k]? = some e := ⟨_, List.getElem?_eq_getElem hlt⟩
      have hbi := HV.out e (List.mem_of_getElem? he)
      obtain ⟨x, hx⟩ : ∃ x, bs[e.body]? = some x := ⟨_, List.getElem?_eq_getElem hbi⟩
      obtain ⟨g1, o1, rfl, _, hcs1⟩ := HB.out (by intro e; rw [e] at hx; simp at hx)
      obtain ⟨g2, o2, rfl, _, hcs2⟩ := HN.out (by intro e; rw [e] at he; simp at he)
      have n0 : w.cell? ⟨g2, o2 + k * 2, none⟩ = some (.string e.name) := hcs2 k e he 0 _ rfl
      have n1 : w.cell? ⟨g2, o2 + k * 2 + 1, none⟩ = some (.int .i64 (e.body : Int)) := hcs2 k e he 1 _ rfl
      have hby := (HY.out x (List.mem_of_getElem? hx)).keep HR.out.bel
      obtain ⟨A3, c3, hval, hrd⟩ := hby.reads
      have b0 : w.cell? ⟨g1, o1 + e.body * 2, none⟩ = some (.slice A3 x.data.length c3) := by rw [← hval]; exact hcs1 e.body x hx 0 _ rfl
      have b1 : w.cell? ⟨g1, o1 + e.body * 2 + 1, none⟩ = some (.int .i64 (x.data.length : Int)) := hcs1 e.body x hx 1 _ rfl
      rw [hval] at hby
      have hcap : x.data.length ≤ c3 := hby.2 _ _ _ rfl
      have hdl := HD.out x (List.mem_of_getElem? hx)
      have HST : Hid (tellE (es.take (k + 1)) (bs.map Bd.data) = tellE (es.take k) (bs.map Bd.data) ++ [(nk e.name, x.data)]) := Lib.hid (by
        rw [tell_next es _ k e he]
        congr 3
        simp [List.getD, hx])
      have cC := fun wx (hwx : Below wr.heap.size wr wx) => copied_at hdl hby hwx
      have hi0 : (0 : Int) ≤ (k : Int) := by omega
      have hi1 : (k : Int) < (es.length : Int) := by omega
      have hi2 : (0 : Int) ≤ (e.body : Int) := by omega
      have hi3 : (e.body : Int) < (bs.length : Int) := by omega
      have hn3 : fs'.length + 1 ≤ maxLen := by have := HFL.out; unfold maxLen; omega
      have hn4 : (fs'.length + 1) * 40 ≤ 140737488355328 := by have := HFL.out; omega
      obtain ⟨nm, hnm⟩ : ∃ nm, e.name = nm := ⟨_, rfl⟩
      rw [hnm] at n0 HST
      obtain ⟨ib, hib⟩ : ∃ ib, e.body = ib := ⟨_, rfl⟩
      rw [hib] at n1 b0 b1 hi2 hi3
      obtain ⟨dl, hdle⟩ : ∃ dl, x.data.length = dl := ⟨_, rfl⟩
      rw [hdle] at b0 b1 cC hcap
      have hsw := HR.out.bel.size
      have hd0 : (0 : Int) ≤ (dl : Int) := by omega
      have hd1 : (dl : Int) ≤ (c3 : Int) := by omega
      clear hval hrd hdle hnm hib he hx hcs1 hcs2 hbi hby
      go_wp2
      go_upto_region 7 with fail
      have hBel := HR.out.bel
      have f1 : ∀ W, Below w.heap.size w W → W.cell? ⟨rb, 1, none⟩ = some (.slice (some ⟨g1, o1, none⟩) bs.length c1) := fun W hb => cell_later hb H1.out
      have f2 : ∀ W, Below w.heap.size w W → W.cell? ⟨rb, 3, none⟩ = some (.slice (some ⟨g2, o2, none⟩) es.length c2) := fun W hb => cell_later hb H2.out
      have f3 : ∀ W, Below w.heap.size w W → W.cell? ⟨g2, o2 + k * 2, none⟩ = some (.string nm) := fun W hb => cell_later hb n0
      have f4 : ∀ W, Below w.heap.size w W → W.cell? ⟨g2, o2 + k * 2 + 1, none⟩ = some (.int .i64 (ib : Int)) := fun W hb => cell_later hb n1
      have f5 : ∀ W, Below w.heap.size w W → W.cell? ⟨g1, o1 + ib * 2, none⟩ = some (.slice A3 dl c3) := fun W hb => cell_later hb b0
      have f6 : ∀ W, Below w.heap.size w W → W.cell? ⟨g1, o1 + ib * 2 + 1, none⟩ = some (.int .i64 (dl : Int)) := fun W hb => cell_later hb b1
      clear n0 n1 b0 b1 d2
      go_cut [5] from 8 to 48 (fun s5 wx => s5 = .pointer (some ⟨wr.heap.size, 0, none⟩) ∧ Bk wx wr.heap.size 127 #[.slice A3 dl c3, .int .i64 (dl : Int)] ∧ Below wr.heap.size wr wx)
      case first =>
        go_region_held3 (fun W => Below w.heap.size w W) (with_reducible (repeat (first | assumption | exact Below.refl _ _ | apply sB_drew | apply sB_alloc | (refine sB_set ?_ _ _ (by simp; try omega))))) (fail)
        all_goals (go_wp2_with fail; go_meet)
        all_goals exact ⟨rfl, Bk.mk_new _ _ _, ((Below.refl _ _).alloc (Nat.le_refl _) _).drew⟩
      case rest =>
        obtain ⟨rfl, hbx, hbw⟩ := hcut
        have HBX := Lib.hid hbx
        have HBW := Lib.hid hbw
        have hBel2 : Below w.heap.size w wc := hBel.trans (hbw.mono hBel.size)
        have hlt2 := hbx.lt
        have hrow : ∀ g, u3.ownBlock = some g → w.heap.size ≤ g ∧ g < wr.heap.size := fun g hg => HR.out.own.lt g hg
        have p0 : ∀ W, Side u3.ownBlock wc W → W.cell? ⟨wr.heap.size, 0, none⟩ = some (.slice A3 dl c3) := fun W hb => (hb.bk hbx (fun e => by have := (hrow _ e.symm).2; omega)).cell 0
        have p1 : ∀ W, Side u3.ownBlock wc W → W.cell? ⟨wr.heap.size, 1, none⟩ = some (.int .i64 (dl : Int)) := fun W hb => (hb.bk hbx (fun e => by have := (hrow _ e.symm).2; omega)).cell 1
        have hold : ∀ W, Side u3.ownBlock wc W → ∀ (g o : Nat) (u : Value), w.cell? ⟨g, o, none⟩ = some u → W.cell? ⟨g, o, none⟩ = some u := fun W hb g o u hu => hb.cell (cell_later hBel2 hu) (fun e => Nat.lt_irrefl g (Nat.lt_of_lt_of_le (block_lt_of_cell hu : g < w.heap.size) (hrow g e.symm).1))
        have n0' : w.cell? ⟨g2, o2 + k * 2, none⟩ = some (.string nm) := f3 w (Below.refl _ _)
        have q2 : ∀ W, Side u3.ownBlock wc W → W.cell? ⟨rb, 3, none⟩ = some (.slice (some ⟨g2, o2, none⟩) es.length c2) := fun W hb => hold W hb _ _ _ H2.out
        have q3 : ∀ W, Side u3.ownBlock wc W → W.cell? ⟨g2, o2 + k * 2, none⟩ = some (.string nm) := fun W hb => hold W hb _ _ _ n0'
        have HRX := Lib.hid (HR.out.later HBW.out)
        have hws := HBW.out.size
        clear f1 f2 f3 f4 f5 f6 hBel hbx hbw hold n0' hrow hBel2
        go_upto_region 8 with fail
        go_region_held3 (fun W => Side u3.ownBlock wc W) (with_reducible (repeat (first | assumption | exact Side.refl _ _ | apply Side.drew | apply Side.alloc)))
          (first
            | ((refine words.step_append_any _ (by rfl) (.tmp 31) (.tmp 47) 78 (by rfl) w.heap.size 112 j0 (.agg #[.string ⟨#[]⟩, .slice none 0 0]) 2 40 Tryz.underlying78 JI.out JZ0.out JZ1.out JZ2.out rfl (by decide) u3 fs'.length (fs'.flatMap fC) (by rfl) ((own_keep HRX.out.own (Below.drew (Below.refl _ _)) |> fun h => own_keep h X0.out.2).alloc _) (w1.heap.size + 1) _ 1 1 [.string nm, .slice A4 l4 c4] (by rfl) (reads_new _ _ _) (one_two rfl rfl) hn3 hn4 ?_ ?_); (focus (simp; exact Nat.le_succ_of_le (Nat.le_trans hsw X0.out.1.size))); intro v2 w2 ho2 hg2 hb2; have hS2 := (hS1.alloc _).grown hg2; have X2 := Lib.hid (HRX.out.next (nm := nm) X1.out X9.out ho2 hg2 hb2); clear ho2 hg2 hb2)
            | (go_at_call 44; refine (cC _ HBW.out.drew).mono ?_; rintro e w1 ⟨A4, l4, c4, rfl, X0, X1⟩; have X9 : Hid (Below wc.heap.size wc w1) := Lib.hid ((Below.drew (Below.refl _ _)).trans X0.out.2); have hS1 : Side u3.ownBlock wc w1 := Side.of_below _ X9.out))
        all_goals (
          go_wp2
          go_roundw
          case rel => exact ⟨k + 1, fs' ++ [⟨nm, .slice A4 l4 c4, x.data⟩], by omega, by go_num, by rw [List.length_append, HFL.out]; rfl, by rw [HST.out]; exact X2.out⟩
          case measure => simp [intOf]; omega)
    · obtain rfl : k = es.length := by omega
      go_wp2
      go_ret
      exact ⟨_, fs', rfl, HR.out.done, by rw [HR.out.keys, List.take_of_length_le (Nat.le_refl _)], HR.out.bel⟩
end Go.Proofs.YtiaecfdfjhjgiaaGreat.hp
