/- Contract: the document's Load. -/
import Derived.Test.YtiaecfdfjhjgiaaGreatHpF
import Derived.Deep.CutRange
namespace Go.Proofs.YtiaecfdfjhjgiaaGreat.hp
open Go.RowKit kit
set_option linter.unusedVariables false

theorem info127 : (Tryz.prog.info? 127).map (fun i => (i.zero, i.size, i.bytes)) = some (some (Value.agg #[.slice none 0 0, .int .i64 0]), 2, 32) := by kernel_rfl
theorem rload_no (room : Int) (v : Value) (h : roomOk room = false) (w : World) : Calls Tryz.prog 19 #[.int .i64 room, v] w fun e w' => e = .returned (.pointer none) ∧ w' = w := by
  have cN : ∀ wx, Calls Tryz.prog 41 #[.int .i64 room] wx fun e w' => e = .returned (.pointer none) ∧ wx = w' := fun wx => (rnew_no room h wx).mono fun _ _ h => ⟨h.1, h.2.symm⟩
  clear h
  go_enter Tryz.func19, Tryz.ntmps19
  go_wp2_with (go_at_call 41; refine (cN _).mono ?_; rintro e w' ⟨rfl, rfl⟩)
  go_ret
  exact ⟨rfl, rfl⟩

/-- What the loading comes to. -/
def RPost (w w' : World) (e : Ending) (fs : List Fi) (ans : Option (List En)) : Prop :=
  Below w.heap.size w w' ∧ match ans with
    | none => e = .returned (.pointer none)
    | some es => e = .returned (.pointer (some ⟨w.heap.size, 0, none⟩)) ∧ RDrive w' (New w w') w.heap.size fs es
theorem cell_alloc {w : World} {p : Addr} {v : Value} (h : w.cell? p = some v) (o : Obj) : (w.alloc o).cell? p = some v := cell_later ((Below.refl _ _).alloc (Nat.le_refl _) o) h
theorem last_of {es : List En} {k : Nat} {z : En} (hl : es.length = k + 1) (hz : es[k]? = some z) (e : En) (he : es.getLast? = some e) : e = z := by
  rw [List.getLast?_eq_getElem?, hl] at he
  simp only [Nat.add_sub_cancel] at he
  rw [he] at hz
  injection hz

theorem kept_body {w wr w1 w2 : World} {room : Int} {fs : List Fi} {k : Nat} {bv nv : Value} {bs : List Bd} {es : List En} {o : Obj} (h : LdRel w wr room fs k bv nv bs es) (hb1 : Below wr.heap.size wr w1) (hg : (w1.alloc o).grownBy w2 bv.ownBlock) :
    Bk w2 w.heap.size 123 #[.int .i64 room, bv, nv, .slice none 0 0, .slice none 0 0] := by
  have hlt := h.blk.lt
  have hs := hb1.size
  have hrb : some w.heap.size ≠ bv.ownBlock := fun e => by have := (h.bo.lt _ e.symm).1; omega
  exact ((hg.block _ (by simp; omega) hrb).trans (Below.heap_alloc w1 o _ (by omega))).trans ((hb1.block _ hlt).trans h.blk)
theorem put_app {w wr w2 : World} {room : Int} {fs : List Fi} {k i : Nat} {nm : ByteArray} {bv nv v2 : Value} {bs : List Bd} {es : List En} {o : Obj} (h : LdRel w wr room fs k bv nv bs es)
    (ho : w2.ownsRow (w.heap.size + 1) 118 2 v2 (es.length + 1) (es.flatMap eC ++ [.string nm, .int .i64 (i : Int)])) (hg : (wr.alloc o).grownBy w2 nv.ownBlock) (hb2 : v2.ownBlock = nv.ownBlock ∨ v2.ownBlock = some (wr.alloc o).heap.size) :
    Bk w2 w.heap.size 123 #[.int .i64 room, bv, nv, .slice none 0 0, .slice none 0 0] ∧ LdRel w (w2.setCell ⟨w.heap.size, 2, none⟩ v2) room fs k bv v2 bs (es ++ [⟨nm, i⟩]) := by
  have hlt := h.blk.lt
  have hsw := h.bel.size
  have hkeep : ∀ g, g < wr.heap.size → some g ≠ nv.ownBlock → w2.heap[g]? = wr.heap[g]? := fun g h1 h2 => (hg.block g (by simp; omega) h2).trans (Below.heap_alloc wr o g h1)
  have hrb : some w.heap.size ≠ nv.ownBlock := fun e => by have := (h.no.lt _ e.symm).1; omega
  refine ⟨(hkeep _ hlt hrb).trans h.blk, h.put ?_ ?_ hkeep ?_⟩
  · rw [List.flatMap_append, List.length_append]
    exact ho
  · exact Below.grown ((Below.refl _ _).alloc (by omega) o) hg (by simp; omega) (fun j hj => by have := (h.no.lt j hj).1; omega)
  · intro b hb
    rcases hb2 with h2 | h2
    · exact Or.inl (by rw [← h2, hb])
    · rw [h2] at hb
      injection hb with hb
      simp at hb
      exact Or.inr (by omega)
theorem put_set {w wr w2 : World} {room : Int} {fs : List Fi} {k : Nat} {bv nv v2 : Value} {bs : List Bd} {es es' : List En} (h : LdRel w wr room fs k bv nv bs es) (hr : EnRel wr w2 v2 es') :
    Bk w2 w.heap.size 123 #[.int .i64 room, bv, nv, .slice none 0 0, .slice none 0 0] ∧ LdRel w (w2.setCell ⟨w.heap.size, 2, none⟩ v2) room fs k bv v2 bs es' := by
  have hlt := h.blk.lt
  have hsw := h.bel.size
  refine ⟨(hr.bel.block _ hlt).trans h.blk, h.put (own_base hr.own (by omega)) (hr.bel.mono hsw) (fun g h1 _ => hr.bel.block g h1) ?_⟩
  intro b hb
  exact Or.inr (hr.own.lt b hb).1

/-- Is the name greater than the last one? -/
def risB (es : List En) (nm : ByteArray) : Bool := match es.getLast? with
  | none => true
  | some z => decide (z.k < nk nm)
theorem risB_nil (nm : ByteArray) : risB [] nm = true := rfl
theorem risB_at {es : List En} {k : Nat} {z : En} (nm : ByteArray) (hl : es.length = k + 1) (hz : es[k]? = some z) : risB es nm = decide (z.k < nk nm) := by
  unfold risB
  rw [List.getLast?_eq_getElem?, hl, Nat.add_sub_cancel, hz]
theorem risB_yes {es : List En} {nm : ByteArray} (i : Nat) (hr : Rising es) (h : risB es nm = true) : hasN es nm = false ∧ setE es nm i = es ++ [⟨nm, i⟩] := by
  refine rising_last es nm i hr fun e he => ?_
  unfold risB at h
  rw [he] at h
  exact of_decide_eq_true h

set_option maxRecDepth 1000000 in
set_option maxHeartbeats 8000000 in
theorem rload_yes (room : Int) (v : Value) (fs : List Fi) (hroom : roomOk room = true) (hl : fs.length ≤ 1099511627776) (hd : ∀ f ∈ fs, f.data.length ≤ 1099511627776) (w : World) (S : Nat → Prop) (h : Fs w S v fs) :
    Calls Tryz.prog 19 #[.int .i64 room, v] w fun e w' => RPost w w' e fs (loadE (fs.map Fi.name) 0 []) := by
  obtain ⟨i0, hi, hz0, hz1, hz2⟩ := info_parts info127
  have HI := Lib.hid hi; clear hi
  have HZ0 := Lib.hid hz0; clear hz0
  have HZ1 := Lib.hid hz1; clear hz1
  have HZ2 := Lib.hid hz2; clear hz2
  obtain ⟨j0, hi, hz0, hz1, hz2⟩ := info_parts info118
  have JI := Lib.hid hi; clear hi
  have JZ0 := Lib.hid hz0; clear hz0
  have JZ1 := Lib.hid hz1; clear hz1
  have JZ2 := Lib.hid hz2; clear hz2
  have HF := Lib.hid h
  obtain ⟨A, c, rfl, hc⟩ := h.1
  have HC := Lib.hid hc
  have HDt := Lib.hid hd
  have cN : Calls Tryz.prog 41 #[.int .i64 room] w fun e w' => e = .returned (.pointer (some ⟨w.heap.size, 0, none⟩)) ∧ w' = w.alloc (.cells #[.int .i64 room, .slice none 0 0, .slice none 0 0, .slice none 0 0, .slice none 0 0] 123) := rnew_yes room hroom w
  have cNm : ∀ nm wx, Calls Tryz.prog 42 #[.string nm] wx fun e w' => e = .returned (.bool (namedB nm)) ∧ wx = w' := fun nm wx => (rnamed_any nm wx).mono fun _ _ h => ⟨h.1, h.2.symm⟩
  clear h hc hd hroom
  obtain ⟨ans, hans⟩ : ∃ ans, loadE (fs.map Fi.name) 0 [] = ans := ⟨_, rfl⟩
  rw [hans]
  have HA := Lib.hid hans
  clear hans
  go_enter Tryz.func19, Tryz.ntmps19
  go_wp2_with (go_at_call 41; refine cN.mono ?_; rintro e w' ⟨rfl, rfl⟩)
  go_loopw [6] (fun i wr => ∃ (k : Nat) (bv nv : Value) (bs : List Bd) (es : List En), k ≤ fs.length ∧ i = .int .i64 (k : Int) ∧ LdRel w wr room fs k bv nv bs es ∧ es.length = k ∧ Rising es ∧ ans = loadE ((fs.map Fi.name).drop k) k es) (fun i _ => fs.length - (intOf i).toNat)
  case atStart => exact ⟨0, _, _, [], [], by omega, rfl, ⟨Bk.mk_new w 123 _, World.ownsRow_nil _ _ _ _, World.ownsRow_nil _ _ _ _, (fun b hb => by cases hb), by simp, (Below.refl _ _).alloc (Nat.le_refl _) _⟩, rfl, List.Pairwise.nil, HA.out.symm⟩
  case round =>
    obtain ⟨k, bv, nv, bs, es, hk, rfl, hrel, hel, hris, hans⟩ := hrel
    have HR := Lib.hid hrel
    have HRI := Lib.hid hris
    have HAN := Lib.hid hans
    have hblk := hrel.blk
    have c1 : wr.cell? ⟨w.heap.size, 1, none⟩ = some bv := hblk.cell 1
    obtain ⟨An, ln, cn, rfl⟩ := own_slice hrel.no
    have hln := own_len hrel.no
    rw [hel] at hln
    subst hln
    have c2 : wr.cell? ⟨w.heap.size, 2, none⟩ = some (.slice An ln cn) := hblk.cell 2
    clear hrel hris hans hblk
    by_cases hlt : ln < fs.length
    · obtain ⟨f, hf⟩ : ∃ f, fs[ln]? = some f := ⟨_, List.getElem?_eq_getElem hlt⟩
      have hne : fs ≠ [] := by intro e; rw [e] at hlt; simp at hlt
      obtain ⟨b, o, rfl, hSb, hcs⟩ := HC.out hne
      have hseg := (hcs ln f hf).keep HR.out.bel
      have a0 : wr.cell? ⟨b, o + ln * 2, none⟩ = some (.string f.name) := hseg 0 _ rfl
      have a1 : wr.cell? ⟨b, o + ln * 2 + 1, none⟩ = some f.val := hseg 1 _ rfl
      have hby := (HF.out.2 f (List.mem_of_getElem? hf)).keep HR.out.bel
      obtain ⟨A2, cc, hval, hrd⟩ := hby.reads
      have hdl := HDt.out f (List.mem_of_getElem? hf)
      have HFk := Lib.hid hf
      have hstep : ans = loadE (f.name :: (fs.map Fi.name).drop (ln + 1)) ln es := by
        rw [HAN.out, drop_get (fs.map Fi.name) ln f.name (by rw [List.getElem?_map, hf]; rfl)]
      have HST := Lib.hid hstep
      have hi0 : (0 : Int) ≤ (ln : Int) := by omega
      have hi1 : (ln : Int) < (fs.length : Int) := by omega
      have hbl := HR.out.len hk
      have hsw := HR.out.bel.size
      have hn3 : ln + 1 ≤ maxLen := by unfold maxLen; omega
      have hn4 : (ln + 1) * 32 ≤ 140737488355328 := by omega
      have hm4 : (ln + 1) * 24 ≤ 140737488355328 := by omega
      obtain ⟨nm, hnm⟩ : ∃ nm, f.name = nm := ⟨_, rfl⟩
      rw [hnm] at a0 HST
      obtain ⟨dl, hdle⟩ : ∃ dl, f.data.length = dl := ⟨_, rfl⟩
      have HDL := Lib.hid hdle
      rw [hval, hdle] at a1
      have cC : Calls Tryz.prog 44 #[.slice A2 dl cc] wr.drew fun e w' => ∃ A1 c1', e = .returned (.slice A1 dl c1') ∧ w'.cell? ⟨w.heap.size, 1, none⟩ = some bv ∧ w'.cell? ⟨b, o + ln * 2 + 1, none⟩ = some (.slice A2 dl cc) ∧ Hid (By w' (New wr w') (.slice A1 dl c1') f.data ∧ Below wr.heap.size wr w') := by
        have hb0 : By wr.drew S (.slice A2 dl cc) f.data := by
          have : By wr.drew S f.val f.data := hby.keep (Below.drew (Below.refl _ _))
          rw [hval, hdle] at this
          exact this
        refine (copied_any (.slice A2 dl cc) f.data hdl wr.drew S hb0).mono ?_
        rintro e w' ⟨v', rfl, h1, h2⟩
        have hbw : Below wr.heap.size wr w' := (Below.drew (Below.refl _ _)).trans h2
        obtain ⟨A1, c1', hv', _⟩ := h1.reads
        rw [hdle] at hv'
        refine ⟨A1, c1', by rw [hv'], cell_later hbw c1, cell_later hbw a1, Lib.hid ⟨?_, hbw⟩⟩
        rw [← hv']
        exact h1
      clear hseg hby hrd hf hcs hval hne hnm hdle hstep
      obtain ⟨nb, hnb⟩ : ∃ nb, namedB nm = nb := ⟨_, rfl⟩
      have cNn : ∀ wx, Calls Tryz.prog 42 #[.string nm] wx fun e w' => e = .returned (.bool nb) ∧ wx = w' := fun wx => hnb ▸ cNm nm wx
      have hnS : Sl wr (fun _ => True) 2 eC (.slice An ln cn) es := Sl.of_own eC_len HR.out.no (fun _ _ _ => trivial)
      have cF0 := find_any _ es nm (by omega) wr _ hnS
      obtain ⟨fz, hfz⟩ : ∃ fz, findZ es nm = fz := ⟨_, rfl⟩
      have cF : Calls Tryz.prog 43 #[.slice An ln cn, .string nm] wr fun e w' => e = .returned (.int .i64 fz) ∧ wr = w' := by rw [← hfz]; exact cF0.mono fun _ _ h => ⟨h.1, h.2.symm⟩
      obtain ⟨rz, hrz⟩ : ∃ rz, risB es nm = rz := ⟨_, rfl⟩
      have HNS := Lib.hid hnS
      have HNB := Lib.hid hnb
      have HFZ := Lib.hid hfz
      have HRZ := Lib.hid hrz
      clear cF0 hnS hnb hfz hrz
      go_upto_region 9 with (go_at_call 42; refine (cNn _).mono ?_; rintro e w' ⟨rfl, rfl⟩)
      go_cut [9] from 14 to 101 (fun r wx => wx = wr ∧ r = .bool rz)
      case first =>
        by_cases hk0 : ln = 0
        · have e0 : ((ln : Int) == 0) = true := by simp; omega
          have hr : rz = true := by rw [← HRZ.out, List.eq_nil_of_length_eq_zero (l := es) (by omega)]; rfl
          subst hr
          clear hk0
          go_wp2_with fail
          go_meet
          exact ⟨rfl, rfl⟩
        · obtain ⟨q, hkq⟩ : ∃ q, ln = q + 1 := ⟨ln - 1, by omega⟩
          have e0 : ((ln : Int) == 0) = false := by simp; exact hk0
          clear hk0
          obtain ⟨z, hz⟩ : ∃ z, es[q]? = some z := ⟨_, List.getElem?_eq_getElem (by omega)⟩
          obtain ⟨An', cn', hnv, hcn⟩ := HNS.out
          obtain ⟨bz, oz, hAn, _, hzs⟩ := hcn (by intro e; rw [e] at hz; simp at hz)
          have z0 : wr.cell? ⟨bz, oz + q * 2, none⟩ = some (.string z.name) := hzs q z hz 0 _ rfl
          injection hnv with hA hl1 hc1
          rw [hAn] at hA
          have hq : IntKind.i64.wrap ((ln : Int) - 1) = (q : Int) := by rw [IntKind.wrap_i64]; omega
          have hq' : (ln : Int) - 1 = (q : Int) := by omega
          have hq0 : (0 : Int) ≤ (q : Int) := by omega
          have hq1 : (q : Int) < (ln : Int) := by omega
          have hcmp : Op.bytesLess z.name.toList nm.toList = rz := by rw [name_lt, ← HRZ.out]; exact (risB_at nm (hel.trans hkq) hz).symm
          subst hA
          clear hzs hz hkq hl1 hc1 hAn hcn
          go_wp2_with fail
          go_meet
          exact ⟨rfl, rfl⟩
      case rest =>
        obtain ⟨rfl, rfl⟩ := hcut
        go_upto_region 10 with fail
        go_cut [56] from 14 to 101 (fun t wx => wx = wc ∧ t = .bool (!nb || (!rz && decide (0 ≤ fz))))
        case first =>
          cases nb with
          | false =>
            go_wp2_with fail
            go_meet
            exact ⟨rfl, rfl⟩
          | true =>
            cases rz with
            | true =>
              go_wp2_with fail
              go_meet
              exact ⟨rfl, rfl⟩
            | false =>
              go_wp2_with (go_at_call 43; refine cF.mono ?_; rintro e w' ⟨rfl, rfl⟩)
              go_meet
              exact ⟨rfl, by simp⟩
        case rest =>
          obtain ⟨rfl, rfl⟩ := hcut
          obtain ⟨bad, hbad⟩ : ∃ bad, (!nb || (!rz && decide (0 ≤ fz))) = bad := ⟨_, rfl⟩
          rw [hbad]
          have HBD := Lib.hid hbad
          clear hbad
          cases bad with
          | true =>
            have HB := Lib.hid (HST.out.trans (loadE_bad (fun h => by
              have h1 := HNB.out.symm.trans h.1
              have h2 := (findZ_neg es nm).2 h.2
              have h3 := HBD.out
              rw [HFZ.out] at h2
              rw [h1, decide_eq_false (by omega)] at h3
              simp at h3)))
            clear cC
            go_wp2
            go_ret
            exact ⟨HR.out.bel, by rw [HB.out]; rfl⟩
          | false =>
            have hnb : nb = true := by
              have h3 := HBD.out
              cases nb with
              | true => rfl
              | false => cases h3
            have HN : Hid (hasN es nm = false) := Lib.hid (by
              cases hr : rz with
              | true => exact (risB_yes ln HRI.out (HRZ.out.trans hr)).1
              | false =>
                refine (findZ_neg es nm).1 ?_
                have h3 := HBD.out
                rw [hnb, hr] at h3
                simp at h3
                rw [HFZ.out]
                omega)
            have HL2 := Lib.hid (HST.out.trans (loadE_ok (HNB.out.trans hnb) HN.out))
            clear hnb
            go_upto_region 12 with fail
            go_cut [] from 14 to 101 (fun wx => ∃ (v1 v2 : Value), LdRel w wx room fs (ln + 1) v2 (.slice An ln cn) (bs ++ [⟨v1, f.data⟩]) es)
            case first =>
              go_region_law (first
                | ((refine words.step_append_any _ (by rfl) (.tmp 61) (.tmp 75) 119 (by rfl) (w.heap.size + 1) 127 i0 (.agg #[.slice none 0 0, .int .i64 0]) 2 32 Tryz.underlying119 HI.out HZ0.out HZ1.out HZ2.out rfl (by decide) bv ln (bs.flatMap bdC) (by rfl) ((own_keep HR.out.bo X1.out.2).alloc _) (w1.heap.size + 1) _ 1 1 [.slice A1 dl c1', .int .i64 (dl : Int)] (by rfl) (reads_new _ _ _) (one_two rfl rfl) hn3 hn4 ?_ ?_); (focus (simp; have := X1.out.2.size; omega)); intro v2 w2 ho2 hg2 hb2; obtain ⟨Av, lv, cv, rfl⟩ := own_slice ho2; have X3 := Lib.hid (HR.out.body (f := f) HFk.out X1.out.1 X1.out.2 (by rw [HDL.out]; exact ho2) hg2 hb2); have g1 := (kept_body HR.out X1.out.2 hg2 : Bk w2 w.heap.size 123 _); have e1 : w2.cell? ⟨w.heap.size, 1, none⟩ = some bv := g1.cell 1; have e2 : w2.cell? ⟨w.heap.size, 2, none⟩ = some (.slice An ln cn) := g1.cell 2; have e3 : w2.frozen? ⟨w.heap.size, 1, none⟩ = false := g1.free 1; have G1 := Lib.hid g1; clear g1 ho2 hg2 hb2)
                | (go_simp; go_at_call 44; refine cC.mono ?_; rintro e w1 ⟨A1, c1', rfl, d1, d2, X1⟩; have d1' := fun o => cell_alloc d1 o; have d2' := fun o => cell_alloc d2 o))
              all_goals (go_wp2_with fail; go_meet; exact ⟨_, _, X3.out⟩)
            case rest =>
              obtain ⟨v1, v2, hX⟩ := hcut
              have X3 := Lib.hid hX
              have e2 : wc.cell? ⟨w.heap.size, 2, none⟩ = some (.slice An ln cn) := hX.blk.cell 2
              clear hX cC
              cases rz with
              | true =>
                have HSE := Lib.hid (risB_yes ln HRI.out HRZ.out).2
                go_wp2_with (at_builtin; refine words.wpList_append_any _ rfl (.tmp 84) (.tmp 88) 120 (by rfl) (w.heap.size + 1) 118 j0 (.agg #[.string ⟨#[]⟩, .int .i64 0]) 2 24 Tryz.underlying120 JI.out JZ0.out JZ1.out JZ2.out rfl (by decide) (.slice An ln cn) es.length (es.flatMap eC) (by rfl) (X3.out.no.alloc _) (wc.heap.size + 1) _ 1 1 [.string nm, .int .i64 (ln : Int)] (by rfl) (reads_new _ _ _) (one_two rfl rfl) (by rw [hel]; exact hn3) (by rw [hel]; exact hm4) ?_ ?_; (focus (simp; have := X3.out.bel.size; omega)); intro v4 w4 ho4 hg4 hb4; obtain ⟨Aw, lw, cw, rfl⟩ := own_slice ho4; have X4 := Lib.hid (put_app (i := ln) (nm := nm) X3.out ho4 hg4 hb4); have f2 : w4.cell? ⟨w.heap.size, 2, none⟩ = some (.slice An ln cn) := X4.out.1.cell 2; have f3 : w4.frozen? ⟨w.heap.size, 2, none⟩ = false := X4.out.1.free 2; clear ho4 hg4 hb4)
                go_roundw
                case rel => exact ⟨ln + 1, _, _, _, es ++ [⟨nm, ln⟩], by omega, by go_num, X4.out.2, by rw [List.length_append, hel]; rfl, HSE.out ▸ setE_rising es nm ln HN.out HRI.out, HSE.out ▸ HL2.out⟩
                case measure => simp [intOf]; omega
              | false =>
                have cS : Calls Tryz.prog 45 #[.slice An ln cn, .string nm, .int .i64 (ln : Int)] wc fun e w4 => ∃ Aw lw cw, e = .returned (.slice Aw lw cw) ∧ Hid (Bk w4 w.heap.size 123 #[.int .i64 room, v2, .slice An ln cn, .slice none 0 0, .slice none 0 0] ∧ LdRel w (w4.setCell ⟨w.heap.size, 2, none⟩ (.slice Aw lw cw)) room fs (ln + 1) v2 (.slice Aw lw cw) (bs ++ [⟨v1, f.data⟩]) (setE es nm ln)) := by
                  have hnS : Sl wc (fun _ => True) 2 eC (.slice An ln cn) es := Sl.of_own eC_len X3.out.no (fun _ _ _ => trivial)
                  refine (set_any _ es nm ln (by omega) wc _ hnS).mono ?_
                  rintro e w4 ⟨v', rfl, hr⟩
                  obtain ⟨Aw, lw, cw, rfl⟩ := own_slice hr.own
                  exact ⟨Aw, lw, cw, rfl, Lib.hid (put_set X3.out hr)⟩
                go_wp2_with (go_at_call 45; refine cS.mono ?_; rintro e w4 ⟨Aw, lw, cw, rfl, X4⟩; have f2 : w4.cell? ⟨w.heap.size, 2, none⟩ = some (.slice An ln cn) := X4.out.1.cell 2; have f3 : w4.frozen? ⟨w.heap.size, 2, none⟩ = false := X4.out.1.free 2)
                go_roundw
                case rel => exact ⟨ln + 1, _, _, _, setE es nm ln, by omega, by go_num, X4.out.2, by rw [setE_len es nm ln HN.out, hel], setE_rising es nm ln HN.out HRI.out, HL2.out⟩
                case measure => simp [intOf]; omega
    · have hkf : ln = fs.length := by omega
      subst hkf
      have HB := Lib.hid (show ans = some es by rw [HAN.out, List.drop_of_length_le (by simp)]; rfl)
      have c3 : wr.cell? ⟨w.heap.size, 3, none⟩ = some (.slice none 0 0) := HR.out.blk.cell 3
      have c4 : wr.frozen? ⟨w.heap.size, 3, none⟩ = false := HR.out.blk.free 3
      go_wp2
      go_ret
      exact ⟨HR.out.done.2, by rw [HB.out]; exact ⟨rfl, HR.out.done.1⟩⟩
end Go.Proofs.YtiaecfdfjhjgiaaGreat.hp
