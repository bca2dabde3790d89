/- Lists of files in memory; the contract of cairnplay.files: the same files in new memory. -/
import Derived.Test.YtiaecfdfjhjgiaaGreatHpA
namespace Go.Proofs.YtiaecfdfjhjgiaaGreat.hp
open Go.RowKit kit
set_option linter.unusedVariables false

theorem kept_grown {S : Nat → Prop} {w w' : World} {row : Option Nat} (hg : w.grownBy w' row) (hS : ∀ b, S b → b < w.heap.size ∧ some b ≠ row) : Kept S w w' := fun b hb => hg.block b (hS b hb).1 (hS b hb).2
theorem kept_alloc {S : Nat → Prop} {w : World} (o : Obj) (hS : ∀ b, S b → b < w.heap.size) : Kept S w (w.alloc o) := fun b hb => Below.heap_alloc w o b (hS b hb)
theorem kept_below {S : Nat → Prop} {w w' : World} {B : Nat} (h : Below B w w') (hS : ∀ b, S b → b < B) : Kept S w w' := fun b hb => h.block b (hS b hb)
theorem Kept.trans {S : Nat → Prop} {a b c : World} (h : Kept S a b) (h2 : Kept S b c) : Kept S a c := fun x hx => (h2 x hx).trans (h x hx)
theorem kept_set {S : Nat → Prop} {w : World} {p : Addr} (u : Value) (hS : ∀ b, S b → b ≠ p.block) : Kept S w (w.setCell p u) := fun b hb => Below.heap_setCell w p u b (hS b hb)

theorem reads_new (w : World) (t : TypeId) (cs : List Value) : words.Reads (w.alloc (.cells cs.toArray t)) (w.heap.size + 1) cs.length (some ⟨w.heap.size, 0, none⟩) 1 cs := by
  refine ⟨by simp, fun _ => ⟨_, rfl, Nat.lt_succ_self _, fun j u hu => ?_⟩⟩
  have h := (Bk.mk_new w t cs.toArray).cell j
  have e : (⟨w.heap.size, 0, none⟩ : Addr).add j = ⟨w.heap.size, j, none⟩ := by
    unfold Addr.add
    split
    · rename_i h0; rw [h0]
    · simp
  rw [e, h]
  simpa using hu
theorem own_slice {w : World} {B e k n : Nat} {v : Value} {xs : List Value} (h : w.ownsRow B e k v n xs) : ∃ A l c, v = .slice A l c := by
  rcases h.2 with ⟨rfl, _⟩ | ⟨g, cap, cur, rfl, _⟩
  · exact ⟨_, _, _, rfl⟩
  · exact ⟨_, _, _, rfl⟩
theorem own_len {w : World} {B e k n : Nat} {A : Option Addr} {l c : Nat} {xs : List Value} (h : w.ownsRow B e k (.slice A l c) n xs) : l = n := by
  rcases h.2 with ⟨h, h0⟩ | ⟨g, cap, cur, h, _⟩
  · injection h with _ h _
    rw [h, h0]
  · injection h
theorem one_two {a b : Value} (h1 : a.oneCell' = true) (h2 : b.oneCell' = true) : ∀ u ∈ [a, b], u.oneCell' = true := by
  intro u hu
  simp at hu
  rcases hu with rfl | rfl
  · exact h1
  · exact h2
theorem one_one {a : Value} (h1 : a.oneCell' = true) : ∀ u ∈ [a], u.oneCell' = true := by
  intro u hu
  simp at hu
  subst hu
  exact h1

theorem grown_nil {w w1 : World} (hg : w.drew.grownBy w1 (Value.slice none 0 0).ownBlock) : Below w.heap.size w w1 :=
  Below.grown (Below.drew (Below.refl _ _)) hg (Nat.le_refl _) (fun j hj => by simp [Value.ownBlock] at hj)
theorem own_keep {w w' : World} {B e k n : Nat} {v : Value} {xs : List Value} (h : w.ownsRow B e k v n xs) (hb : Below w.heap.size w w') : w'.ownsRow B e k v n xs := by
  refine ⟨h.1, h.2.imp id ?_⟩
  rintro ⟨g, cap, cur, hv, hB, hg, rest⟩
  exact ⟨g, cap, cur, hv, hB, (hb.block g (lt_of_block hg)).trans hg, rest⟩
/-- A file: its name, the slice of its data, its data. -/
structure Fi where
  name : ByteArray
  val : Value
  data : List UInt8
def fC (f : Fi) : List Value := [.string f.name, f.val]
theorem fC_len (f : Fi) : (fC f).length = 2 := rfl
/-- A slice of files. -/
def Fs (w : World) (S : Nat → Prop) (v : Value) (fs : List Fi) : Prop := Sl w S 2 fC v fs ∧ ∀ f ∈ fs, By w S f.val f.data
def Fi.key (f : Fi) : List UInt8 × List UInt8 := (f.name.data.toList, f.data)
theorem Fs.keep {w w' : World} {S : Nat → Prop} {v : Value} {fs : List Fi} (h : Fs w S v fs) (hb : Below w.heap.size w w') : Fs w' S v fs := ⟨h.1.keep hb, fun f hf => (h.2 f hf).keep hb⟩
theorem Fs.kept {w w' : World} {S : Nat → Prop} {v : Value} {fs : List Fi} (h : Fs w S v fs) (hb : Kept S w w') : Fs w' S v fs := ⟨h.1.kept hb, fun f hf => (h.2 f hf).kept hb⟩
theorem Fs.mono {w : World} {S S' : Nat → Prop} {v : Value} {fs : List Fi} (h : Fs w S v fs) (hS : ∀ b, S b → S' b) : Fs w S' v fs := ⟨h.1.mono hS, fun f hf => (h.2 f hf).mono hS⟩

theorem info112 : (Tryz.prog.info? 112).map (fun i => (i.zero, i.size, i.bytes)) = some (some (Value.agg #[.string ⟨#[]⟩, .slice none 0 0]), 2, 40) := by kernel_rfl

/-- What holds at the head of a round of 'files'. -/
structure FilRel (w wr : World) (fs : List Fi) (k : Nat) (out : Value) (fs' : List Fi) : Prop where
  own : wr.ownsRow w.heap.size 112 2 out k (fs'.flatMap fC)
  keys : fs'.map Fi.key = (fs.take k).map Fi.key
  bys : ∀ f ∈ fs', By wr (fun b => New w wr b ∧ some b ≠ out.ownBlock) f.val f.data
  bel : Below w.heap.size w wr
theorem FilRel.len {w wr : World} {fs : List Fi} {k : Nat} {out : Value} {fs' : List Fi} (h : FilRel w wr fs k out fs') (hk : k ≤ fs.length) : fs'.length = k := by
  have := congrArg List.length h.keys
  simpa [Nat.min_eq_left hk] using this
theorem FilRel.next {w wr w1 w2 : World} {fs : List Fi} {k : Nat} {out v1 v2 : Value} {fs' : List Fi} {f : Fi} {o : Obj} (h : FilRel w wr fs k out fs') (hf : fs[k]? = some f)
    (ho1 : w1.ownsRow wr.heap.size 5 1 v1 f.data.length (Lib.byteCells f.data)) (hg1 : wr.drew.grownBy w1 (Value.slice none 0 0).ownBlock)
    (ho2 : w2.ownsRow w.heap.size 112 2 v2 (k + 1) (fs'.flatMap fC ++ [.string f.name, v1])) (hg2 : (w1.alloc o).grownBy w2 out.ownBlock) (hb2 : v2.ownBlock = out.ownBlock ∨ v2.ownBlock = some (w1.alloc o).heap.size) :
    FilRel w w2 fs (k + 1) v2 (fs' ++ [⟨f.name, v1, f.data⟩]) := by
  have hs1 : wr.heap.size ≤ w1.heap.size := hg1.size
  have hs2 : w1.heap.size + 1 ≤ w2.heap.size := by have := hg2.size; simpa using this
  have hsw := h.bel.size
  have hout : ∀ b, out.ownBlock = some b → w.heap.size ≤ b ∧ b < wr.heap.size := fun b hb => h.own.lt b hb
  have hb1 : Below wr.heap.size wr w1 := Below.grown (Below.drew (Below.refl _ _)) hg1 (Nat.le_refl _) (fun j hj => by simp [Value.ownBlock] at hj)
  have hk1 : ∀ (S : Nat → Prop), (∀ b, S b → b < wr.heap.size ∧ some b ≠ out.ownBlock) → Kept S wr w2 := fun S hS =>
    ((kept_below hb1 (fun b hb => (hS b hb).1)).trans (kept_alloc o (fun b hb => by have := (hS b hb).1; omega))).trans (kept_grown hg2 (fun b hb => ⟨by have := (hS b hb).1; simp; omega, (hS b hb).2⟩))
  have hne2 : ∀ b, b < w1.heap.size + 1 → some b ≠ out.ownBlock → some b ≠ v2.ownBlock := fun b hb hne e => by
    rcases hb2 with h2 | h2
    · exact hne (by rw [e, h2])
    · rw [h2] at e
      injection e with e
      simp at e
      omega
  refine ⟨by rw [List.flatMap_append]; exact ho2, ?_, ?_, ?_⟩
  · rw [List.map_append, h.keys, List.take_add_one, hf]
    simp [Fi.key]
  · intro g hg
    rcases List.mem_append.1 hg with hg | hg
    · refine ((h.bys g hg).kept (hk1 _ (fun b hb => ⟨hb.1.2, hb.2⟩))).mono fun b hb => ⟨⟨hb.1.1, by have := hb.1.2; omega⟩, hne2 b (by have := hb.1.2; omega) hb.2⟩
    · simp only [List.mem_singleton] at hg
      subst hg
      have hby : By w1 (New wr w1) v1 f.data := By.of_own ho1 (fun g h1 h2 => ⟨h1, h2⟩)
      have hno : ∀ b, New wr w1 b → some b ≠ out.ownBlock := fun b hb e => by have := (hout b e.symm).2; have := hb.1; omega
      refine (hby.kept ((kept_alloc o (fun b hb => hb.2)).trans (kept_grown hg2 (fun b hb => ⟨by have := hb.2; simp; omega, hno b hb⟩)))).mono fun b hb => ⟨⟨by have := hb.1; omega, by have := hb.2; omega⟩, hne2 b (by have := hb.2; omega) (hno b hb)⟩
  · exact Below.grown ((h.bel.trans (hb1.mono hsw)).alloc (by omega) o) hg2 (by simp; omega) (fun j hj => (hout j hj).1)

set_option maxRecDepth 1000000 in
set_option maxHeartbeats 2000000 in
theorem files_any (v : Value) (fs : List Fi) (hl : fs.length ≤ 1099511627776) (hd : ∀ f ∈ fs, f.data.length ≤ 1099511627776) (w : World) (S : Nat → Prop) (h : Fs w S v fs) :
    Calls Tryz.prog 22 #[v] w fun e w' => ∃ v' fs', e = .returned v' ∧ Fs w' (New w w') v' fs' ∧ fs'.map Fi.key = fs.map Fi.key ∧ Below w.heap.size w w' := by
  obtain ⟨i0, hi, hz0, hz1, hz2⟩ := info_parts info5
  have HI := Lib.hid hi; clear hi
  have HZ0 := Lib.hid hz0; clear hz0
  have HZ1 := Lib.hid hz1; clear hz1
  have HZ2 := Lib.hid hz2; clear hz2
  obtain ⟨j0, hi, hz0, hz1, hz2⟩ := info_parts info112
  have JI := Lib.hid hi; clear hi
  have JZ0 := Lib.hid hz0; clear hz0
  have JZ1 := Lib.hid hz1; clear hz1
  have JZ2 := Lib.hid hz2; clear hz2
  have HF := Lib.hid h
  obtain ⟨A, c, rfl, hc⟩ := h.1
  have HC := Lib.hid hc
  have HD := Lib.hid hd
  clear h hc hd
  go_enter Tryz.func22, Tryz.ntmps22
  go_wp2
  go_loopw [3, 4] (fun out i wr => ∃ (k : Nat) (fs' : List Fi), k ≤ fs.length ∧ i = .int .i64 (k : Int) ∧ FilRel w wr fs k out fs') (fun _ i _ => fs.length - (intOf i).toNat)
  case atStart => exact ⟨0, [], by omega, rfl, World.ownsRow_nil _ _ _ _, by simp, (fun f hf => by cases hf), Below.refl _ _⟩
  case round =>
    obtain ⟨k, fs', hk, rfl, hrel⟩ := hrel
    have HR := Lib.hid hrel; clear hrel
    by_cases hlt : k < fs.length
    · obtain ⟨f, hf⟩ : ∃ f, fs[k]? = some f := ⟨_, List.getElem?_eq_getElem hlt⟩
      have hne : fs ≠ [] := by intro e; rw [e] at hlt; simp at hlt
      obtain ⟨b, o, rfl, hSb, hcs⟩ := HC.out hne
      have hseg := (hcs k f hf).keep HR.out.bel
      have c0 : wr.cell? ⟨b, o + k * 2, none⟩ = some (.string f.name) := hseg 0 _ rfl
      have c1 : wr.cell? ⟨b, o + k * 2 + 1, none⟩ = some f.val := hseg 1 _ rfl
      have hby := (HF.out.2 f (List.mem_of_getElem? hf)).keep HR.out.bel
      obtain ⟨A2, cc, hval, hrd⟩ := hby.reads
      rw [hval] at c1
      have HRD := Lib.hid hrd
      have hdl := HD.out f (List.mem_of_getElem? hf)
      have HFk := Lib.hid hf
      have hi0 : (0 : Int) ≤ (k : Int) := by omega
      have hi1 : (k : Int) < (fs.length : Int) := by omega
      have hn1 : 0 + f.data.length ≤ maxLen := by unfold maxLen; omega
      have hn2 : (0 + f.data.length) * 1 ≤ 140737488355328 := by omega
      have hn3 : k + 1 ≤ maxLen := by unfold maxLen; omega
      have hn4 : (k + 1) * 40 ≤ 140737488355328 := by omega
      have HVAL := Lib.hid hval
      clear hseg hby hrd hf hcs hval hne
      obtain ⟨nm, hnm⟩ : ∃ nm, f.name = nm := ⟨_, rfl⟩
      rw [hnm] at c0
      have HNM := Lib.hid hnm
      obtain ⟨dl, hdle⟩ : ∃ dl, f.data.length = dl := ⟨_, rfl⟩
      rw [hdle] at c1 hdl hn1 hn2
      have HDL := Lib.hid hdle
      clear hnm hdle
      go_wp2
      go_region_law (first
        | ((refine words.step_append_any _ (by rfl) (.const (.slice none 0 0)) (.tmp 21) 72 (by rfl) wr.heap.size 5 i0 (.int .u8 0) 1 1 Tryz.underlying72 HI.out HZ0.out HZ1.out HZ2.out rfl (by decide) (.slice none 0 0) 0 [] (by rfl) (World.ownsRow_nil _ _ _ _) wr.heap.size A2 dl cc (Lib.byteCells f.data) (by rfl) (by rw [← HDL.out]; exact HRD.out) (byte_one _) hn1 hn2 (Nat.le_refl _) ?_); intro v1 w1 ho1 hg1 hb1; obtain ⟨A1, l1, c1', rfl⟩ := own_slice ho1; have HO1 := Lib.hid ho1; have HG1 := Lib.hid hg1; clear ho1 hg1 hb1; have d0 : w1.cell? ⟨b, o + k * 2, none⟩ = some (.string nm) := cell_later (grown_nil HG1.out) c0)
        | ((refine words.step_append_any _ (by rfl) (.tmp 11) (.tmp 24) 78 (by rfl) w.heap.size 112 j0 (.agg #[.string ⟨#[]⟩, .slice none 0 0]) 2 40 Tryz.underlying78 JI.out JZ0.out JZ1.out JZ2.out rfl (by decide) u3 k (fs'.flatMap fC) (by rfl) ((own_keep HR.out.own (grown_nil HG1.out)).alloc _) (w1.heap.size + 1) _ 1 1 [.string nm, .slice A1 l1 c1'] (by rfl) (reads_new _ _ _) (one_two rfl rfl) hn3 hn4 ?_ ?_); (focus (simp; have := HG1.out.size; have := HR.out.bel.size; simp at *; omega)); intro v2 w2 ho2 hg2 hb2))
      all_goals (
        go_wp2
        go_roundw
        case rel => exact ⟨k + 1, _, by omega, by go_num, HR.out.next HFk.out (by rw [HDL.out]; simpa using HO1.out) HG1.out (by rw [HNM.out]; exact ho2) hg2 hb2⟩
        case measure => simp [intOf]; omega)
    · obtain rfl : k = fs.length := by omega
      go_wp2
      go_ret
      have hlen := HR.out.len (Nat.le_refl _)
      refine ⟨u3, fs', rfl, ⟨?_, fun f hf => (HR.out.bys f hf).mono fun b hb => hb.1⟩, ?_, HR.out.bel⟩
      · have ho := HR.out.own
        rw [← hlen] at ho
        exact Sl.of_own fC_len ho (fun g h1 h2 => ⟨h1, h2⟩)
      · rw [HR.out.keys, List.take_of_length_le (Nat.le_refl _)]
end Go.Proofs.YtiaecfdfjhjgiaaGreat.hp
