/- Contracts: lists of files compared; the program's look-ups of names that are there. -/
import Derived.Laws.BytesString
import Derived.Deep.CutRange
import Derived.Deep.RegionHeld3
import Derived.Test.YtiaecfdfjhjgiaaGreatHpV
import Derived.Test.YtiaecfdfjhjgiaaGreatHpG
import Derived.Test.YtiaecfdfjhjgiaaGreatHpO
import Derived.Test.YtiaecfdfjhjgiaaGreatHpP
namespace Go.Proofs.YtiaecfdfjhjgiaaGreat.hp
open Go.RowKit kit Go.ChangeMaps Go.Maps Go.Sort
set_option linter.unusedVariables false

theorem fold_bytes (l : List UInt8) : ∀ s : ByteArray, (l.map fun b => (b.toNat : Int)).foldl (fun r n => r.push (UInt8.ofNat n.toNat)) s = ⟨s.data ++ l.toArray⟩ := by
  induction l with
  | nil => intro s; obtain ⟨d⟩ := s; simp
  | cons a l ih =>
    intro s
    rw [List.map_cons, List.foldl_cons, ih]
    obtain ⟨d⟩ := s
    simp [ByteArray.push]
set_option maxRecDepth 1000000 in
theorem conv_by {w : World} {S : Nat → Prop} {A : Option Addr} {n c : Nat} {l : List UInt8} (h : By w S (.slice A n c) l) : (convert 72 9 (.slice A n c)).run Tryz.prog w = .ok (.string ⟨l.toArray⟩) w := by
  obtain ⟨A', c', hv, hr⟩ := h.reads
  injection hv with h1 h2 h3
  subst h1 h2 h3
  rw [run_convert_bytes_string w 72 9 5 A l.length c Tryz.underlying72 Tryz.underlying5 Tryz.underlying9]
  cases A with
  | none =>
    have hl : l = [] := by
      cases l with
      | nil => rfl
      | cons a l =>
        obtain ⟨ad, h, _⟩ := hr.2 (by simp)
        cases h
    subst hl
    simp [Conv.bytesToString]
    rfl
  | some a =>
    have hc : ∀ j u, (Lib.byteCells l)[j]? = some u → w.cell? (a.add j) = some u := fun j u hj => by
      have hjl : j < l.length := by
        have := (List.getElem?_eq_some_iff.1 hj).1
        rw [hr.1] at this
        omega
      obtain ⟨ad, h, _, hcc⟩ := hr.2 (by omega)
      injection h with h
      subst h
      exact hcc j u hj
    have hld := run_loadCells_list (P := Tryz.prog) w a (Lib.byteCells l) hc
    have hlen : (Lib.byteCells l).length = l.length := by rw [hr.1, Nat.mul_one]
    rw [hlen] at hld
    have hmap : Lib.byteCells l = (l.map fun b => (b.toNat : Int)).map (Value.int .u8) := by
      unfold Lib.byteCells
      rw [List.map_map]
      rfl
    rw [hmap] at hld
    rw [run_bytesToString w a l.length c _ hld, fold_bytes]
    simp [ByteArray.empty, ByteArray.emptyWithCapacity]
    rfl
set_option maxRecDepth 100000 in
set_option maxHeartbeats 2000000 in
theorem sameFiles_yes (a b : Value) (f1 f2 : List Fi) (hk : f2.map Fi.key = f1.map Fi.key) (hl : f1.length ≤ 1099511627776) (w : World) (S T : Nat → Prop) (ha : Fs w S a f1) (hb : Fs w T b f2) :
    Calls Tryz.prog 29 #[a, b] w fun e w' => e = .returned (.bool true) ∧ ∃ m, w' = w.drewN m := by
  have hlen : f2.length = f1.length := by have := congrArg List.length hk; simpa using this
  have H1 := Lib.hid ha
  have H2 := Lib.hid hb
  obtain ⟨A1, c1, rfl, h1⟩ := ha.1
  obtain ⟨A2, c2, rfl, h2⟩ := hb.1
  rw [hlen]
  have HL := Lib.hid hlen
  have HK := Lib.hid hk
  have HC1 := Lib.hid h1
  have HC2 := Lib.hid h2
  clear h1 h2 ha hb hk hlen
  go_enter Tryz.func29, Tryz.ntmps29
  go_wp2
  go_loopw [5] (fun i wr => ∃ k m : Nat, k ≤ f1.length ∧ i = .int .i64 k ∧ wr = w.drewN m) (fun i _ => f1.length - (intOf i).toNat)
  case atStart => exact ⟨0, 0, by omega, rfl, rfl⟩
  case round =>
    obtain ⟨k, mm, hkk, rfl, rfl⟩ := hrel
    by_cases hlt : k < f1.length
    · obtain ⟨x, hx⟩ : ∃ x, f1[k]? = some x := ⟨_, List.getElem?_eq_getElem hlt⟩
      obtain ⟨y, hy⟩ : ∃ y, f2[k]? = some y := ⟨_, List.getElem?_eq_getElem (by rw [HL.out]; exact hlt)⟩
      have hxy : y.key = x.key := by
        have h1 : (f2.map Fi.key)[k]? = some y.key := by rw [List.getElem?_map, hy]; rfl
        have h2 : (f1.map Fi.key)[k]? = some x.key := by rw [List.getElem?_map, hx]; rfl
        rw [HK.out, h2] at h1
        injection h1 with h1
        exact h1.symm
      have hn : y.name = x.name := nk_inj (congrArg Prod.fst hxy)
      have hd : y.data = x.data := congrArg Prod.snd hxy
      obtain ⟨b1, o1, rfl, _, hc1⟩ := HC1.out (by intro e; rw [e] at hlt; simp at hlt)
      obtain ⟨b2, o2, rfl, _, hc2⟩ := HC2.out (by intro e; rw [e] at hy; simp at hy)
      have hbx := H1.out.2 x (List.mem_of_getElem? hx)
      have hby := H2.out.2 y (List.mem_of_getElem? hy)
      obtain ⟨Ax, cx, hvx, _⟩ := hbx.reads
      obtain ⟨Ay, cy, hvy, _⟩ := hby.reads
      have e0 : w.cell? ⟨b1, o1 + k * 2, none⟩ = some (.string x.name) := hc1 k x hx 0 _ rfl
      have e1 : w.cell? ⟨b1, o1 + k * 2 + 1, none⟩ = some (.slice Ax x.data.length cx) := by rw [← hvx]; exact hc1 k x hx 1 _ rfl
      have e2 : w.cell? ⟨b2, o2 + k * 2, none⟩ = some (.string x.name) := by rw [← hn]; exact hc2 k y hy 0 _ rfl
      have e3 : w.cell? ⟨b2, o2 + k * 2 + 1, none⟩ = some (.slice Ay x.data.length cy) := by rw [← hd, ← hvy]; exact hc2 k y hy 1 _ rfl
      rw [hvx] at hbx
      rw [hvy, hd] at hby
      have q1 : ∀ m, (convert 72 9 (.slice Ax x.data.length cx)).run Tryz.prog (w.drewN m) = .ok (.string ⟨x.data.toArray⟩) (w.drewN m) := fun m => conv_by (w := w.drewN m) (S := S) ⟨hbx.1, hbx.2⟩
      have q2 : ∀ m, (convert 72 9 (.slice Ay x.data.length cy)).run Tryz.prog (w.drewN m) = .ok (.string ⟨x.data.toArray⟩) (w.drewN m) := fun m => conv_by (w := w.drewN m) (S := T) ⟨hby.1, hby.2⟩
      obtain ⟨dl, hdl⟩ : ∃ dl, x.data.length = dl := ⟨_, rfl⟩
      obtain ⟨nm, hnm⟩ : ∃ nm, x.name = nm := ⟨_, rfl⟩
      obtain ⟨dd, hdd⟩ : ∃ dd : ByteArray, (⟨x.data.toArray⟩ : ByteArray) = dd := ⟨_, rfl⟩
      rw [hdd] at q1 q2
      rw [hdl] at e1 e3 q1 q2
      rw [hnm] at e0 e2
      have hi0 : (0 : Int) ≤ (k : Int) := by omega
      have hi1 : (k : Int) < (f1.length : Int) := by omega
      clear hdl hnm hdd hx hy hxy hn hd hc1 hc2 hbx hby hvx hvy
      go_wp2
      go_quiet (fail)
      go_wp2
      go_roundw
      case rel => exact ⟨k + 1, _, by omega, by go_num, rfl⟩
      case measure => simp [intOf]; omega
    · obtain rfl : k = f1.length := by omega
      go_wp2
      go_ret
      exact ⟨rfl, mm, rfl⟩
/-- The program's look-up of a name that is there. -/
theorem find_yes (pb mb : Nat) (es : List En) (bl : List Nat) (e : En) (b : Nat) (hr : Rising es) (he : e ∈ es) (hb : bl[e.body]? = some b) (hn : namedB e.name = true) (w : World) (h1 : w.cell? ⟨pb, 2, none⟩ = some (.map (some mb))) (hD : Dm w mb es bl) :
    Calls Tryz.prog 64 #[.pointer (some ⟨pb, 0, none⟩), .string e.name] w fun r w' => r = .returned (.tuple #[.pointer (some ⟨b, 0, none⟩), .int .i64 0]) ∧ w = w' := by
  have hs : e.name.size ≤ maxLen := by
    unfold namedB at hn
    simp at hn
    unfold maxLen
    omega
  have hlk := hD.get e.name hs
  rw [look_at hr he hb] at hlk
  unfold lookV at hlk
  simp only at hlk
  obtain ⟨nm, hnm⟩ : ∃ nm, e.name = nm := ⟨_, rfl⟩
  rw [hnm] at hlk hn ⊢
  have cNm : ∀ wx, Calls Tryz.prog 47 #[.string nm] wx fun e w' => e = .returned (.bool true) ∧ wx = w' := fun wx => (pnamed_any nm wx).mono fun _ _ h => ⟨by rw [h.1]; exact congrArg (fun z => Ending.returned (.bool z)) hn, h.2.symm⟩
  clear hn hnm he hb hD hr
  go_enter Tryz.func64, Tryz.ntmps64
  go_wp2_with (go_at_call 47; refine (cNm _).mono ?_; rintro e w' ⟨rfl, rfl⟩)
  go_ret2
  exact ⟨rfl, rfl⟩
theorem ploose_yes (pb mb : Nat) (fs : List Fi) (es : List En) (bl : List Nat) (e : En) (hr : Rising es) (he : e ∈ es) (hn : namedB e.name = true) (w : World) (S : Nat → Prop) (h1 : w.cell? ⟨pb, 2, none⟩ = some (.map (some mb))) (hD : Dm w mb es bl) (hB : Bodies w S fs bl) :
    Calls Tryz.prog 39 #[.pointer (some ⟨pb, 0, none⟩), .string e.name] w fun r w' => r = .returned (.tuple #[.int .i64 0, .int .i64 0]) ∧ ∃ m, w' = w.drewN m := by
  obtain ⟨b, hbl⟩ : ∃ b, bl[e.body]? = some b := ⟨_, List.getElem?_eq_getElem (hD.1 e he)⟩
  obtain ⟨f, hf⟩ : ∃ f, fs[e.body]? = some f := ⟨_, List.getElem?_eq_getElem (by have := hD.1 e he; have := hB.1; omega)⟩
  obtain ⟨_, v, hbk, hby⟩ := hB.2 e.body f b hf hbl
  obtain ⟨A3, c3, hval, _⟩ := hby.reads
  rw [hval] at hbk
  have b0 : w.cell? ⟨b, 0, none⟩ = some (.slice A3 f.data.length c3) := hbk.cell 0
  have b1 : w.cell? ⟨b, 1, none⟩ = some (.int .i64 (f.data.length : Int)) := hbk.cell 1
  obtain ⟨dl, hdl⟩ : ∃ dl, f.data.length = dl := ⟨_, rfl⟩
  rw [hdl] at b0 b1
  have cF := find_yes pb mb es bl e b hr he hbl hn w h1 hD
  obtain ⟨nm, hnm⟩ : ∃ nm, e.name = nm := ⟨_, rfl⟩
  rw [hnm] at cF ⊢
  clear hnm hdl hval hbk hby hf hbl hn he hr hD hB h1
  go_enter Tryz.func39, Tryz.ntmps39
  go_wp2_with (go_at_call 64; refine cF.mono ?_; rintro e w' ⟨rfl, rfl⟩)
  go_quiet (fail)
  go_wp2
  go_ret2
  exact ⟨by simp, _, rfl⟩
theorem findZ_at {es : List En} {e : En} (hr : Rising es) (he : e ∈ es) : findZ es e.name = (e.body : Int) := by
  have hf : es.find? (fun x => decide (x.k = nk e.name)) = some e := by
    induction es with
    | nil => cases he
    | cons a es ih =>
      rw [List.find?_cons]
      rcases List.mem_cons.1 he with rfl | he'
      · rw [decide_eq_true (show e.k = nk e.name from rfl)]
      · have hlt : a.k < e.k := (List.pairwise_cons.1 hr).1 e.k (List.mem_map.2 ⟨e, he', rfl⟩)
        have hne : a.k ≠ nk e.name := fun h => lt_irr _ (show e.k < e.k from (h ▸ hlt : nk e.name < e.k))
        rw [decide_eq_false hne]
        exact ih (List.pairwise_cons.1 hr).2 he'
  unfold findZ
  rw [hf]
end Go.Proofs.YtiaecfdfjhjgiaaGreat.hp
