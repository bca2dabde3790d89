/- The program's directory: a map from names to bodies, read as a rising list of entries and a list of bodies' blocks. -/
import Derived.Test.YtiaecfdfjhjgiaaGreatHpE
import Derived.WideKeyEntry
import Derived.Maps.OwnSet
namespace Go.Proofs.YtiaecfdfjhjgiaaGreat.hp
open Go.RowKit kit
open Go.ChangeMaps
set_option linter.unusedVariables false

/-- How a pointer to a body reads: as its block's number; nil as -1. -/
def Rp : Value → Option (DataW Unit × List MemPlace)
  | .pointer none => some (.lit (.int .i64 (-1)), [])
  | .pointer (some ⟨b, 0, none⟩) => some (.lit (.int .i64 (b : Int)), [])
  | _ => none
theorem Rp_nil {v : Value} {ps : List MemPlace} (h : Rp v = some (.lit (.int .i64 (-1)), ps)) : v = .pointer none := by
  unfold Rp at h
  split at h
  · rfl
  · simp at h
  · cases h
theorem Rp_at {v : Value} {b : Nat} {ps : List MemPlace} (h : Rp v = some (.lit (.int .i64 (b : Int)), ps)) : v = .pointer (some ⟨b, 0, none⟩) := by
  unfold Rp at h
  split at h
  · simp at h
  · rename_i b'
    simp at h
    have : b' = b := by omega
    rw [this]
  · cases h

/-- The block of a name's body. -/
def look (es : List En) (bl : List Nat) (x : List UInt8) : Option Nat := (es.find? (fun e => decide (e.k = x))).bind (fun e => bl[e.body]?)
theorem find_no (es : List En) (nm : ByteArray) (hno : hasN es nm = false) : ∀ l : List En, (∀ e ∈ l, e ∈ es) → l.find? (fun e => decide (e.k = nk nm)) = none := by
  intro l hl
  rw [List.find?_eq_none]
  intro e he hd
  have := (hasN_iff es nm).2 ⟨e, hl e he, by simpa using hd⟩
  rw [hno] at this
  cases this
theorem look_no (es : List En) (bl : List Nat) (nm : ByteArray) (hno : hasN es nm = false) : look es bl (nk nm) = none := by
  unfold look
  rw [find_no es nm hno es (fun _ h => h)]
  rfl
theorem look_yes (es : List En) (bl : List Nat) (nm : ByteArray) (hv : ∀ e ∈ es, e.body < bl.length) (h : hasN es nm = true) : ∃ b, look es bl (nk nm) = some b := by
  unfold look
  cases hf : es.find? (fun e => decide (e.k = nk nm)) with
  | none =>
    rw [List.find?_eq_none] at hf
    obtain ⟨e, he, hk⟩ := (hasN_iff es nm).1 h
    exact absurd (decide_eq_true hk) (hf e he)
  | some e => exact ⟨_, List.getElem?_eq_getElem (hv e (List.mem_of_find?_eq_some hf))⟩
theorem look_new (es : List En) (bl : List Nat) (nm : ByteArray) (b : Nat) (hno : hasN es nm = false) : look (setE es nm bl.length) (bl ++ [b]) (nk nm) = some b := by
  unfold look
  rw [setE_new es nm _ hno, List.find?_append, find_no es nm hno _ (fun e he => (List.takeWhile_sublist _).mem he), List.find?_cons]
  simp [En.k]
theorem look_old (es : List En) (bl : List Nat) (nm : ByteArray) (b : Nat) (x : List UInt8) (hno : hasN es nm = false) (hv : ∀ e ∈ es, e.body < bl.length) (hx : x ≠ nk nm) : look (setE es nm bl.length) (bl ++ [b]) x = look es bl x := by
  have h1 : (setE es nm bl.length).find? (fun e => decide (e.k = x)) = es.find? (fun e => decide (e.k = x)) := by
    rw [setE_new es nm _ hno, List.find?_append, List.find?_cons]
    have h0 : decide ((⟨nm, bl.length⟩ : En).k = x) = false := decide_eq_false (fun e => hx e.symm)
    rw [h0]
    simp only
    rw [← List.find?_append, List.takeWhile_append_dropWhile]
  unfold look
  rw [h1]
  cases hf : es.find? (fun e => decide (e.k = x)) with
  | none => rfl
  | some e =>
    have := hv e (List.mem_of_find?_eq_some hf)
    simp only [Option.bind_some]
    rw [List.getElem?_append_left this]

/-- Block mb holds a directory: these entries, their bodies in these blocks. -/
def Dm (w : World) (mb : Nat) (es : List En) (bl : List Nat) : Prop :=
  (∀ e ∈ es, e.body < bl.length) ∧ ∃ D : DataW Unit, w.ownsMap Tryz.prog 9 Rp mb es.length D ∧ ∀ x, Maps.has D (.string x) = (look es bl x).isSome ∧
    ∀ z, D.atKey (.string x) z = match look es bl x with | some b => .lit (.int .i64 (b : Int)) | none => z
theorem Dm.same {w w' : World} {mb : Nat} {es : List En} {bl : List Nat} (h : Dm w mb es bl) (hk : w'.heap[mb]? = w.heap[mb]?) : Dm w' mb es bl := by
  obtain ⟨hv, D, ⟨xs, clock, hb, r⟩, hD⟩ := h
  exact ⟨hv, D, ⟨xs, clock, hk.trans hb, r⟩, hD⟩
theorem Dm.lt {w : World} {mb : Nat} {es : List En} {bl : List Nat} (h : Dm w mb es bl) : mb < w.heap.size := by
  obtain ⟨_, D, ho, _⟩ := h
  exact ho.lt
theorem Dm.made (w : World) : Dm (w.alloc (.map #[] 0)) w.heap.size [] [] :=
  ⟨(fun e h => by cases h), .map [], World.ownsMap_made w Tryz.prog 9 Rp, fun x => ⟨rfl, fun z => rfl⟩⟩
theorem key9 (nm : ByteArray) (hs : nm.size ≤ maxLen) : keyOf Tryz.prog 9 (.string nm) = some (.string (nk nm)) := by
  unfold keyOf
  rw [Tryz.underlying9]
  show mapKey Tryz.prog 9 (.string nm) = _
  unfold mapKey
  rw [Tryz.underlying9]
  simp only
  rw [if_pos hs]
  rfl
/-- What a look into it gives. -/
def lookV (o : Option Nat) : Value := match o with
  | some b => .pointer (some ⟨b, 0, none⟩)
  | none => .pointer none
theorem Dm.lookup {w : World} {mb : Nat} {es : List En} {bl : List Nat} (h : Dm w mb es bl) (nm : ByteArray) (hs : nm.size ≤ maxLen) :
    (Instr.lookup 133 (.map (some mb)) (.string nm) true).run Tryz.prog w = .ok (.tuple #[lookV (look es bl (nk nm)), .bool (look es bl (nk nm)).isSome]) w := by
  obtain ⟨hv, D, ho, hD⟩ := h
  obtain ⟨v, ps, hrun, hR⟩ := ho.look_ok (Maps.string_keyed Tryz.underlying9) Tryz.underlying133 (Tryz.zeroValue130 w) (zd := .lit (.int .i64 (-1))) (zp := []) rfl (key9 nm hs)
  rw [hrun, (hD (nk nm)).1]
  rw [(hD (nk nm)).2] at hR
  cases hl : look es bl (nk nm) with
  | none =>
    rw [hl] at hR
    rw [Rp_nil hR]
    rfl
  | some b =>
    rw [hl] at hR
    rw [Rp_at hR]
    rfl
/-- A new name: the entry's place, then what comes into it. -/
theorem Dm.enter {w : World} {mb : Nat} {es : List En} {bl : List Nat} (h : Dm w mb es bl) (nm : ByteArray) (hs : nm.size ≤ maxLen) (hno : hasN es nm = false) (hn : es.length < maxLen) (b : Nat) :
    ∃ (v0 : Value) (st : Nat) (M1 : Obj), (Instr.mapEntry 133 (.map (some mb)) (.string nm)).run Tryz.prog w = .ok (.tuple #[v0, .int .i64 (st : Int)]) (setBlock w mb M1) ∧
      ∀ w2 : World, w2.heap[mb]? = some M1 → ∃ M2 : Obj, (Instr.entryStore 133 (.map (some mb)) (.int .i64 (st : Int)) (.pointer (some ⟨b, 0, none⟩))).run Tryz.prog w2 = .ok () (setBlock w2 mb M2) ∧
        Dm (setBlock w2 mb M2) mb (setE es nm bl.length) (bl ++ [b]) := by
  obtain ⟨hv, D, ho, hD⟩ := h
  have ho' := ho
  obtain ⟨xs, clock, hb, F, hsz, hDe⟩ := ho
  obtain ⟨v0, st, xs1, clock1, hrun, _, hst⟩ := WideElems.entry_then_store (WideMaps.string_law Tryz.underlying9) Tryz.underlying133 (fun u => Tryz.zeroValue130 u) hb F (key9 nm hs)
  refine ⟨v0, st, .map xs1 clock1, hrun, fun w2 hw2 => ?_⟩
  obtain ⟨xs2, clock2, hr2, hup⟩ := hst w2 (.pointer (some ⟨b, 0, none⟩)) hw2
  refine ⟨.map xs2 clock2, hr2, ?_⟩
  obtain ⟨w', hup', ho2, _⟩ := ho'.store (Maps.string_keyed Tryz.underlying9) Tryz.underlying133 hn (key9 nm hs) (val := .pointer (some ⟨b, 0, none⟩)) (d := .lit (.int .i64 (b : Int))) (ps := []) rfl
  rw [hup] at hup'
  injection hup' with _ hw'
  subst hw'
  have hlen : (setE es nm bl.length).length = es.length + 1 := setE_len es nm _ hno
  have hhb : (setBlock w2 mb (.map xs2 clock2)).heap[mb]? = (setBlock w mb (.map xs2 clock2)).heap[mb]? := by
    rw [heap_setBlock_same hb, heap_setBlock_same hw2]
  refine ⟨?_, D.put (.string (nk nm)) (.lit (.int .i64 (b : Int))), ?_, fun x => ?_⟩
  · intro e he
    rw [List.length_append, List.length_singleton]
    rcases (setE_mem es nm _ hno e).1 he with rfl | he
    · simp
    · have := hv e he
      omega
  · obtain ⟨ys, cl, hyb, r⟩ := ho2
    rw [hlen]
    exact ⟨ys, cl, hhb.trans hyb, r⟩
  · by_cases hx : x = nk nm
    · subst hx
      rw [look_new es bl nm b hno]
      have hK : WideAt.IsKeyLit (.string (nk nm)) := trivial
      exact ⟨Maps.has_put_same ho'.isMap hK _, fun z => Maps.atKey_put_same ho'.isMap hK _ z⟩
    · rw [look_old es bl nm b x hno hv hx]
      have hne : (Lit.string x) ≠ Lit.string (nk nm) := fun e => hx (by injection e)
      exact ⟨(Maps.has_put_other hne _).trans (hD x).1, fun z => (Maps.atKey_put_other hne _ z).trans ((hD x).2 z)⟩
end Go.Proofs.YtiaecfdfjhjgiaaGreat.hp
