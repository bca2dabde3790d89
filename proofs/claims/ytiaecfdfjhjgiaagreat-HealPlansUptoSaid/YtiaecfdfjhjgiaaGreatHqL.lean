/- How the law's argument is read: a set's places, a verdict, what places show; and how long its lists are. -/
import Derived.Test.YtiaecfdfjhjgiaaGreatFrame
import Derived.Test.YtiaecfdfjhjgiaaGreatHqK
import Derived.JoinedCond
namespace Go.Proofs.YtiaecfdfjhjgiaaGreat.hp
open Go.ChangeShapes Go.WideShapes Go.ChangeAt Go.RowKit Go.Deep kit frame
set_option linter.unusedVariables false

section
variable {H : Type}
theorem bulk_pos : ∀ d : DataW H, 1 ≤ Rows.uptoBulk d
  | .lit (.string b) => by simp [Rows.uptoBulk]
  | .lit (.int _ _) => by simp [Rows.uptoBulk]
  | .lit (.bool _) => by simp [Rows.uptoBulk]
  | .lit _ => by first | simp [Rows.uptoBulk] | (unfold Rows.uptoBulk; split <;> omega)
  | .nil => by simp [Rows.uptoBulk]
  | .ptr _ => by simp [Rows.uptoBulk]
  | .slice _ _ => by simp [Rows.uptoBulk]
  | .agg _ => by simp [Rows.uptoBulk]
  | .iface _ _ => by simp [Rows.uptoBulk]
  | .map _ => by simp [Rows.uptoBulk]
  | .held _ => by simp [Rows.uptoBulk]
theorem bulk_mem : ∀ {l : List (DataW H)} {d : DataW H}, d ∈ l → Rows.uptoBulk d ≤ Rows.uptoBulkAll l
  | x :: l, d, hd => by
    simp only [Rows.uptoBulkAll]
    rcases List.mem_cons.1 hd with rfl | hd
    · omega
    · have := bulk_mem hd
      omega
theorem bulk_len : ∀ l : List (DataW H), l.length ≤ Rows.uptoBulkAll l
  | [] => Nat.le_refl _
  | x :: l => by
    have h1 := bulk_pos x
    have h2 := bulk_len l
    simp only [Rows.uptoBulkAll, List.length_cons]
    omega
variable {enc : TypeId × Value → H} {w : World} {held : Bool}
theorem choose_all {α : Type} [Inhabited α] {p : Nat → α → Prop} {n : Nat} (h : ∀ i, i < n → ∃ a, p i a) : ∃ l : List α, l.length = n ∧ ∀ i a, l[i]? = some a → p i a := by
  have hd : ∀ i, ∃ a, i < n → p i a := fun i => by
    by_cases hi : i < n
    · obtain ⟨a, ha⟩ := h i hi
      exact ⟨a, fun _ => ha⟩
    · exact ⟨default, fun h => absurd h hi⟩
  refine ⟨(List.range n).map fun i => Classical.choose (hd i), by simp, fun i a ha => ?_⟩
  have hi : i < n := by
    have := (List.getElem?_eq_some_iff.1 ha).1
    simpa using this
  have : Classical.choose (hd i) = a := by simpa [hi] using ha
  rw [← this]
  exact Classical.choose_spec (hd i) hi
/-- A slice, read: its elements by what reads one. -/
theorem open_sl {α : Type} [Inhabited α] (cs : α → List Value) (k : Nat) (hk : ∀ a, (cs a).length = k) (hpos : 0 < k) {ty e : TypeId} (hu : Tryz.prog.underlying ty = some (.slice e)) (hc : Tryz.prog.cellsOf e = k) (Q : DataW H → α → Prop)
    (hel : ∀ {fuel : Nat} {vs : List Value} {x : DataW H × List MemPlace}, DataW.trod enc Tryz.prog w 0 (fun _ => true) held fuel e vs = some x → ∃ a, vs = cs a ∧ Q x.1 a)
    {fuel : Nat} {vs : List Value} {x : DataW H × List MemPlace} (h : DataW.trod enc Tryz.prog w 0 (fun _ => true) held fuel ty vs = some x) :
    ∃ (v : Value) (l : List α), vs = [v] ∧ Sl w (fun b => b < w.heap.size) k cs v l ∧ Capy v ∧ l.length + 1 ≤ Rows.uptoBulk x.1 ∧ ∀ a ∈ l, ∃ d, Q d a ∧ Rows.uptoBulk d + 1 ≤ Rows.uptoBulk x.1 := by
  rcases open_slice hu h with ⟨rfl, rfl⟩ | ⟨a, len, cap, m, n, D, Pl, rfl, hb, hl, hm, hmm, rfl, hi⟩
  · exact ⟨_, [], rfl, Sl.nil _ _ _ _ _ _, capy_nil, by simp [Rows.uptoBulk], fun a ha => by simp at ha⟩
  · rw [if_pos rfl] at hmm
    subst hmm
    rw [hc] at hi
    obtain ⟨l, hll, hp⟩ := choose_all (α := α) (n := len) (p := fun i b => w.cells? 0 (a.add (i * k)) k = some (cs b) ∧ Q (D i) b) (fun i hil => by
      obtain ⟨cs', h1, h2⟩ := hi i (by omega)
      obtain ⟨b, rfl, hq⟩ := hel h2
      exact ⟨b, h1, hq⟩)
    have hcell : ∀ (i : Nat) (b : α), l[i]? = some b → ∀ j u, (cs b)[j]? = some u → w.cell? ((a.add (i * k)).add j) = some u := fun i b hib j u hu => by
      obtain ⟨_, hcl, hat⟩ := World.cells?_some (hp i b hib).1
      have hj : j < k := by
        have := (List.getElem?_eq_some_iff.1 hu).1
        rw [hk] at this
        exact this
      rw [hat j hj, hu]
    have hbk : Rows.uptoBulkAll ((List.range len).map D) + 1 ≤ Rows.uptoBulk (DataW.slice ((List.range len).map D) ((List.range (m - len)).map fun j => D (len + j))) := by
      simp only [Rows.uptoBulk]
      omega
    refine ⟨_, l, rfl, ?_, fun A n' c' e => by injection e with _ h1 h2; omega, ?_, fun b hbl => ?_⟩
    · rw [← hll]
      refine ⟨_, _, rfl, fun hne => ?_⟩
      obtain ⟨b0, rest, hbr⟩ : ∃ b r, l = b :: r := by
        cases l with
        | nil => exact absurd rfl hne
        | cons b r => exact ⟨b, r, rfl⟩
      have hl0 : l[0]? = some b0 := by rw [hbr]; rfl
      obtain ⟨u0, hu0⟩ : ∃ u, (cs b0)[0]? = some u := ⟨_, List.getElem?_eq_getElem (by rw [hk]; exact hpos)⟩
      have h00 := hcell 0 b0 hl0 0 u0 hu0
      obtain ⟨b, off, spot⟩ := a
      have hspot : spot = none := by
        cases spot with
        | none => rfl
        | some s => simp [Addr.add, World.cell?] at h00; split at h00 <;> simp_all
      subst hspot
      refine ⟨b, off, rfl, ?_, fun i x hix j u hj => ?_⟩
      · rw [Addr.add_lit, Addr.add_lit] at h00
        exact block_lt_of_cell h00
      · have := hcell i x hix j u hj
        rw [Addr.add_lit, Addr.add_lit] at this
        exact this
    · have := bulk_len ((List.range len).map D)
      simp only [List.length_map, List.length_range] at this
      exact Nat.le_trans (by omega) hbk
    · obtain ⟨i, hi2⟩ := List.getElem?_of_mem hbl
      have hil : i < len := by have := (List.getElem?_eq_some_iff.1 hi2).1; omega
      refine ⟨D i, (hp i b hi2).2, ?_⟩
      have := bulk_mem (l := (List.range len).map D) (d := D i) (List.mem_map.2 ⟨i, by simpa using hil, rfl⟩)
      exact Nat.le_trans (by omega) hbk
theorem len1 (cs : List Value) (h : cs.length = 1) : ∃ c0, cs = [c0] := by
  match cs, h with
  | [c0], _ => exact ⟨c0, rfl⟩
theorem len2 (cs : List Value) (h : cs.length = 2) : ∃ c0 c1, cs = [c0, c1] := by
  match cs, h with
  | [c0, c1], _ => exact ⟨c0, c1, rfl⟩
theorem len3 (cs : List Value) (h : cs.length = 3) : ∃ c0 c1 c2, cs = [c0, c1, c2] := by
  match cs, h with
  | [c0, c1, c2], _ => exact ⟨c0, c1, c2, rfl⟩
theorem len5 (cs : List Value) (h : cs.length = 5) : ∃ c0 c1 c2 c3 c4, cs = [c0, c1, c2, c3, c4] := by
  match cs, h with
  | [c0, c1, c2, c3, c4], _ => exact ⟨c0, c1, c2, c3, c4, rfl⟩
theorem len8 (cs : List Value) (h : cs.length = 8) : ∃ c0 c1 c2 c3 c4 c5 c6 c7, cs = [c0, c1, c2, c3, c4, c5, c6, c7] := by
  match cs, h with
  | [c0, c1, c2, c3, c4, c5, c6, c7], _ => exact ⟨c0, c1, c2, c3, c4, c5, c6, c7, rfl⟩
theorem len9 (cs : List Value) (h : cs.length = 9) : ∃ c0 c1 c2 c3 c4 c5 c6 c7 c8, cs = [c0, c1, c2, c3, c4, c5, c6, c7, c8] := by
  match cs, h with
  | [c0, c1, c2, c3, c4, c5, c6, c7, c8], _ => exact ⟨c0, c1, c2, c3, c4, c5, c6, c7, c8, rfl⟩
theorem len14 (cs : List Value) (h : cs.length = 14) : ∃ c0 c1 c2 c3 c4 c5 c6 c7 c8 c9 c10 c11 c12 c13, cs = [c0, c1, c2, c3, c4, c5, c6, c7, c8, c9, c10, c11, c12, c13] := by
  match cs, h with
  | [c0, c1, c2, c3, c4, c5, c6, c7, c8, c9, c10, c11, c12, c13], _ => exact ⟨c0, c1, c2, c3, c4, c5, c6, c7, c8, c9, c10, c11, c12, c13, rfl⟩
theorem len16 (cs : List Value) (h : cs.length = 16) : ∃ c0 c1 c2 c3 c4 c5 c6 c7 c8 c9 c10 c11 c12 c13 c14 c15, cs = [c0, c1, c2, c3, c4, c5, c6, c7, c8, c9, c10, c11, c12, c13, c14, c15] := by
  match cs, h with
  | [c0, c1, c2, c3, c4, c5, c6, c7, c8, c9, c10, c11, c12, c13, c14, c15], _ => exact ⟨c0, c1, c2, c3, c4, c5, c6, c7, c8, c9, c10, c11, c12, c13, c14, c15, rfl⟩
theorem len17 (cs : List Value) (h : cs.length = 17) : ∃ c0 c1 c2 c3 c4 c5 c6 c7 c8 c9 c10 c11 c12 c13 c14 c15 c16, cs = [c0, c1, c2, c3, c4, c5, c6, c7, c8, c9, c10, c11, c12, c13, c14, c15, c16] := by
  match cs, h with
  | [c0, c1, c2, c3, c4, c5, c6, c7, c8, c9, c10, c11, c12, c13, c14, c15, c16], _ => exact ⟨c0, c1, c2, c3, c4, c5, c6, c7, c8, c9, c10, c11, c12, c13, c14, c15, c16, rfl⟩
theorem len19 (cs : List Value) (h : cs.length = 19) : ∃ c0 c1 c2 c3 c4 c5 c6 c7 c8 c9 c10 c11 c12 c13 c14 c15 c16 c17 c18, cs = [c0, c1, c2, c3, c4, c5, c6, c7, c8, c9, c10, c11, c12, c13, c14, c15, c16, c17, c18] := by
  match cs, h with
  | [c0, c1, c2, c3, c4, c5, c6, c7, c8, c9, c10, c11, c12, c13, c14, c15, c16, c17, c18], _ => exact ⟨c0, c1, c2, c3, c4, c5, c6, c7, c8, c9, c10, c11, c12, c13, c14, c15, c16, c17, c18, rfl⟩
theorem len21 (cs : List Value) (h : cs.length = 21) : ∃ c0 c1 c2 c3 c4 c5 c6 c7 c8 c9 c10 c11 c12 c13 c14 c15 c16 c17 c18 c19 c20, cs = [c0, c1, c2, c3, c4, c5, c6, c7, c8, c9, c10, c11, c12, c13, c14, c15, c16, c17, c18, c19, c20] := by
  match cs, h with
  | [c0, c1, c2, c3, c4, c5, c6, c7, c8, c9, c10, c11, c12, c13, c14, c15, c16, c17, c18, c19, c20], _ => exact ⟨c0, c1, c2, c3, c4, c5, c6, c7, c8, c9, c10, c11, c12, c13, c14, c15, c16, c17, c18, c19, c20, rfl⟩
theorem agg_part {xs : List (DataW H × List MemPlace)} {i : Nat} {y : DataW H × List MemPlace} (h : xs[i]? = some y) : Rows.uptoBulk y.1 + 1 ≤ Rows.uptoBulk (DataW.agg (xs.map (·.1))) := by
  have := bulk_mem (l := xs.map (·.1)) (d := y.1) (List.mem_map.2 ⟨y, List.mem_of_getElem? h, rfl⟩)
  simp only [Rows.uptoBulk]
  omega
theorem el_int {t : TypeId} (ht : Tryz.prog.underlying t = some (.int .i64)) {fuel : Nat} {vs : List Value} {x : DataW H × List MemPlace} (h : DataW.trod enc Tryz.prog w 0 (fun _ => true) held fuel t vs = some x) : ∃ n : Int, vs = iC n ∧ True := by
  obtain ⟨n, hn, _, _⟩ := DataW.trod_int ht h
  exact ⟨n, hn, trivial⟩
theorem el_bool {fuel : Nat} {vs : List Value} {x : DataW H × List MemPlace} (h : DataW.trod enc Tryz.prog w 0 (fun _ => true) held fuel 4 vs = some x) : ∃ b : Bool, vs = [.bool b] := by
  obtain ⟨n, hn, _⟩ := DataW.trod_bool Tryz.underlying4 h
  exact ⟨n, hn⟩
theorem el_str {fuel : Nat} {vs : List Value} {x : DataW H × List MemPlace} (h : DataW.trod enc Tryz.prog w 0 (fun _ => true) held fuel 9 vs = some x) : ∃ s : ByteArray, vs = [.string s] ∧ s.size + 1 ≤ Rows.uptoBulk x.1 := by
  obtain ⟨n, hn, hx, _⟩ := DataW.trod_string Tryz.underlying9 h
  refine ⟨n, hn, ?_⟩
  rw [hx]
  have e : n.data.toList.length = n.size := by rw [Array.length_toList]; rfl
  simp only [Rows.uptoBulk, e]
  exact Nat.le_refl _
theorem el_u8 {fuel : Nat} {vs : List Value} {x : DataW H × List MemPlace} (h : DataW.trod enc Tryz.prog w 0 (fun _ => true) held fuel 5 vs = some x) : ∃ b : UInt8, vs = bC b ∧ True := by
  obtain ⟨n, hn, _, hw⟩ := DataW.trod_int Tryz.underlying5 h
  have h0 : 0 ≤ n ∧ n < 256 := by
    have h1 : IntKind.u8.min ≤ n ∧ n ≤ IntKind.u8.max := by simpa [Lit.wf] using hw
    have e1 : IntKind.u8.min = 0 := by decide
    have e2 : IntKind.u8.max = 255 := by decide
    omega
  refine ⟨UInt8.ofNat n.toNat, ?_, trivial⟩
  rw [hn]
  unfold bC
  have : ((UInt8.ofNat n.toNat).toNat : Int) = n := by
    rw [UInt8.toNat_ofNat']
    omega
  rw [this]
theorem cells_at : Tryz.prog.cellsOf 5 = 1 ∧ Tryz.prog.cellsOf 72 = 1 ∧ Tryz.prog.cellsOf 3 = 1 ∧ Tryz.prog.cellsOf 112 = 2 ∧ Tryz.prog.cellsOf 220 = 2 ∧ Tryz.prog.cellsOf 81 = 9 ∧ Tryz.prog.cellsOf 71 = 19 ∧ Tryz.prog.cellsOf 68 = 17 ∧ Tryz.prog.cellsOf 65 = 16 ∧ Tryz.prog.cellsOf 25 = 8 ∧ Tryz.prog.cellsOf 24 = 3 ∧ Tryz.prog.cellsOf 27 = 2 ∧ Tryz.prog.cellsOf 35 = 21 ∧ Tryz.prog.cellsOf 29 = 14 ∧ Tryz.prog.cellsOf 32 = 5 := ⟨by kernel_rfl, by kernel_rfl, by kernel_rfl, by kernel_rfl, by kernel_rfl, by kernel_rfl, by kernel_rfl, by kernel_rfl, by kernel_rfl, by kernel_rfl, by kernel_rfl, by kernel_rfl, by kernel_rfl, by kernel_rfl, by kernel_rfl⟩
theorem el_by {fuel : Nat} {vs : List Value} {x : DataW H × List MemPlace} (h : DataW.trod enc Tryz.prog w 0 (fun _ => true) held fuel 72 vs = some x) : ∃ p : Value × List UInt8, vs = blC p ∧ (By w (fun b => b < w.heap.size) p.1 p.2 ∧ p.2.length + 1 ≤ Rows.uptoBulk x.1) := by
  obtain ⟨v, l, rfl, h1, h2, h3, _⟩ := open_sl bC 1 bC_len (by decide) Tryz.underlying72 cells_at.1 (fun _ _ => True) el_u8 h
  exact ⟨(v, l), rfl, ⟨h1, h2⟩, h3⟩
theorem el_bls {fuel : Nat} {vs : List Value} {x : DataW H × List MemPlace} (h : DataW.trod enc Tryz.prog w 0 (fun _ => true) held fuel 66 vs = some x) : ∃ (v : Value) (l : List (Value × List UInt8)), vs = [v] ∧ Blks w (fun b => b < w.heap.size) v l ∧ l.length + 1 ≤ Rows.uptoBulk x.1 ∧ ∀ p ∈ l, p.2.length + 1 ≤ Rows.uptoBulk x.1 := by
  haveI : Inhabited (Value × List UInt8) := ⟨(.nilIface, [])⟩
  obtain ⟨v, l, rfl, h1, h2, h3, h4⟩ := open_sl blC 1 blC_len (by decide) Tryz.underlying66 cells_at.2.1 (fun d p => By w (fun b => b < w.heap.size) p.1 p.2 ∧ p.2.length + 1 ≤ Rows.uptoBulk d) el_by h
  refine ⟨v, l, rfl, ⟨h1, fun p hp => ?_⟩, h3, fun p hp => ?_⟩
  · obtain ⟨d, hd, _⟩ := h4 p hp
    exact hd.1
  · obtain ⟨d, hd, hd2⟩ := h4 p hp
    have := hd.2
    omega
theorem el_ints {fuel : Nat} {vs : List Value} {x : DataW H × List MemPlace} (h : DataW.trod enc Tryz.prog w 0 (fun _ => true) held fuel 30 vs = some x) : ∃ (v : Value) (l : List Int), vs = [v] ∧ Is w (fun b => b < w.heap.size) v l ∧ l.length + 1 ≤ Rows.uptoBulk x.1 := by
  obtain ⟨v, l, rfl, h1, h2, h3, h4⟩ := open_sl iC 1 iC_len (by decide) Tryz.underlying30 cells_at.2.2.1 (fun _ _ => True) (el_int Tryz.underlying3) h
  exact ⟨v, l, rfl, h1, h3⟩
set_option maxRecDepth 1000000 in
theorem el_fi {fuel : Nat} {vs : List Value} {x : DataW H × List MemPlace} (h : DataW.trod enc Tryz.prog w 0 (fun _ => true) held fuel 112 vs = some x) : ∃ f : Fi, vs = fC f ∧ (By w (fun b => b < w.heap.size) f.val f.data ∧ f.data.length + 1 ≤ Rows.uptoBulk x.1 ∧ f.name.size + 1 ≤ Rows.uptoBulk x.1) := by
  obtain ⟨xs, n, _, rfl, hlen, hxl, hf⟩ := DataW.trod_struct Tryz.underlying112 h
  rw [cells_at.2.2.2.1] at hlen
  obtain ⟨c0, c1, rfl⟩ := len2 _ hlen
  match xs, hxl, hf with
  | [y0, y1], _, hf =>
    have f0 := hf 0 _ rfl
    have f1 := hf 1 _ rfl
    have b0 := agg_part (H := H) (xs := [y0, y1]) (i := 0) rfl
    have b1 := agg_part (H := H) (xs := [y0, y1]) (i := 1) rfl
    simp only [List.getElem?_cons_zero, List.getElem?_cons_succ] at f0 f1
    obtain ⟨s, e0, g0⟩ := el_str f0
    obtain ⟨p, e1, g1, g2⟩ := el_by f1
    obtain rfl : c0 = .string s := by injection e0
    obtain rfl : c1 = p.1 := by injection e1
    exact ⟨⟨s, p.1, p.2⟩, rfl, g1, by simp only; omega, by simp only; omega⟩
set_option maxRecDepth 1000000 in
theorem el_flt {fuel : Nat} {vs : List Value} {x : DataW H × List MemPlace} (h : DataW.trod enc Tryz.prog w 0 (fun _ => true) held fuel 220 vs = some x) : ∃ f : Flt, vs = flC f ∧ True := by
  obtain ⟨xs, n, _, rfl, hlen, hxl, hf⟩ := DataW.trod_struct Tryz.underlying220 h
  rw [cells_at.2.2.2.2.1] at hlen
  obtain ⟨c0, c1, rfl⟩ := len2 _ hlen
  match xs, hxl, hf with
  | [y0, y1], _, hf =>
    have f0 := hf 0 _ rfl
    have f1 := hf 1 _ rfl
    simp only [List.getElem?_cons_zero, List.getElem?_cons_succ] at f0 f1
    obtain ⟨a, e0, _⟩ := el_int Tryz.underlying3 f0
    obtain ⟨b, e1, _⟩ := el_int Tryz.underlying3 f1
    obtain rfl : c0 = .int .i64 a := by injection e0
    obtain rfl : c1 = .int .i64 b := by injection e1
    exact ⟨⟨a, b⟩, rfl, trivial⟩
theorem el_fis {fuel : Nat} {vs : List Value} {x : DataW H × List MemPlace} (h : DataW.trod enc Tryz.prog w 0 (fun _ => true) held fuel 78 vs = some x) : ∃ (v : Value) (l : List Fi), vs = [v] ∧ Fs w (fun b => b < w.heap.size) v l ∧ l.length + 1 ≤ Rows.uptoBulk x.1 ∧ ∀ f ∈ l, f.data.length + 1 ≤ Rows.uptoBulk x.1 ∧ f.name.size + 1 ≤ Rows.uptoBulk x.1 := by
  haveI : Inhabited Fi := ⟨⟨⟨#[]⟩, .nilIface, []⟩⟩
  obtain ⟨v, l, rfl, h1, h2, h3, h4⟩ := open_sl fC 2 fC_len (by decide) Tryz.underlying78 cells_at.2.2.2.1 (fun d f => By w (fun b => b < w.heap.size) f.val f.data ∧ f.data.length + 1 ≤ Rows.uptoBulk d ∧ f.name.size + 1 ≤ Rows.uptoBulk d) el_fi h
  refine ⟨v, l, rfl, ⟨h1, fun p hp => ?_⟩, h3, fun p hp => ?_⟩
  · obtain ⟨d, hd, _⟩ := h4 p hp
    exact hd.1
  · obtain ⟨d, hd, hd2⟩ := h4 p hp
    have := hd.2
    omega
theorem el_flts {fuel : Nat} {vs : List Value} {x : DataW H × List MemPlace} (h : DataW.trod enc Tryz.prog w 0 (fun _ => true) held fuel 79 vs = some x) : ∃ (v : Value) (l : List Flt), vs = [v] ∧ Sl w (fun b => b < w.heap.size) 2 flC v l ∧ l.length + 1 ≤ Rows.uptoBulk x.1 := by
  haveI : Inhabited Flt := ⟨⟨0, 0⟩⟩
  obtain ⟨v, l, rfl, h1, h2, h3, h4⟩ := open_sl flC 2 flC_len (by decide) Tryz.underlying79 cells_at.2.2.2.2.1 (fun _ _ => True) el_flt h
  exact ⟨v, l, rfl, h1, h3⟩
/-- A place, read. -/
structure PlRead (w : World) (n : Nat) (p : Pl) : Prop where
  fs : Fs w (fun b => b < w.heap.size) p.files p.fs
  pl : Sl w (fun b => b < w.heap.size) 2 flC p.plan p.flts
  fl : p.fs.length ≤ n
  ds : ∀ f ∈ p.fs, f.data.length ≤ n ∧ f.name.size ≤ n
  pn : p.flts.length ≤ n
set_option maxRecDepth 1000000 in
theorem el_pl {fuel : Nat} {vs : List Value} {x : DataW H × List MemPlace} (h : DataW.trod enc Tryz.prog w 0 (fun _ => true) held fuel 81 vs = some x) : ∃ p : Pl, vs = plC p ∧ PlRead w (Rows.uptoBulk x.1) p := by
  obtain ⟨xs, n, _, rfl, hlen, hxl, hf⟩ := DataW.trod_struct Tryz.underlying81 h
  rw [cells_at.2.2.2.2.2.1] at hlen
  obtain ⟨c0, c1, c2, c3, c4, c5, c6, c7, c8, rfl⟩ := len9 _ hlen
  match xs, hxl, hf with
  | [y0, y1, y2, y3, y4, y5, y6, y7, y8], _, hf =>
    have f0 := hf 0 _ rfl
    have f1 := hf 1 _ rfl
    have f2 := hf 2 _ rfl
    have f3 := hf 3 _ rfl
    have f4 := hf 4 _ rfl
    have f5 := hf 5 _ rfl
    have f6 := hf 6 _ rfl
    have f7 := hf 7 _ rfl
    have f8 := hf 8 _ rfl
    have b2 := agg_part (H := H) (xs := [y0, y1, y2, y3, y4, y5, y6, y7, y8]) (i := 2) rfl
    have b3 := agg_part (H := H) (xs := [y0, y1, y2, y3, y4, y5, y6, y7, y8]) (i := 3) rfl
    simp only [List.getElem?_cons_zero, List.getElem?_cons_succ] at f0 f1 f2 f3 f4 f5 f6 f7 f8
    obtain ⟨a0, e0⟩ := el_bool f0
    obtain ⟨a1, e1, _⟩ := el_int Tryz.underlying3 f1
    obtain ⟨v2, l2, e2, g2, k2, d2⟩ := el_fis f2
    obtain ⟨v3, l3, e3, g3, k3⟩ := el_flts f3
    obtain ⟨a4, e4⟩ := el_bool f4
    obtain ⟨a5, e5⟩ := el_bool f5
    obtain ⟨a6, e6, _⟩ := el_int Tryz.underlying3 f6
    obtain ⟨a7, e7, _⟩ := el_int Tryz.underlying3 f7
    obtain ⟨a8, e8, _⟩ := el_int Tryz.underlying3 f8
    obtain rfl : c0 = .bool a0 := by injection e0
    obtain rfl : c1 = .int .i64 a1 := by injection e1
    obtain rfl : c2 = v2 := by injection e2
    obtain rfl : c3 = v3 := by injection e3
    obtain rfl : c4 = .bool a4 := by injection e4
    obtain rfl : c5 = .bool a5 := by injection e5
    obtain rfl : c6 = .int .i64 a6 := by injection e6
    obtain rfl : c7 = .int .i64 a7 := by injection e7
    obtain rfl : c8 = .int .i64 a8 := by injection e8
    refine ⟨⟨a0, a1, c2, l2, c3, l3, a4, a5, a6, a7, a8⟩, rfl, g2, g3, ?_, fun f hfm => ?_, ?_⟩
    · simp only
      omega
    · have := d2 f hfm
      simp only
      omega
    · simp only
      omega
set_option maxRecDepth 1000000 in
theorem el_gen {fuel : Nat} {vs : List Value} {x : DataW H × List MemPlace} (h : DataW.trod enc Tryz.prog w 0 (fun _ => true) held fuel 27 vs = some x) : ∃ a b : Int, vs = [.int .i64 a, .int .i64 b] := by
  obtain ⟨xs, n, _, rfl, hlen, hxl, hf⟩ := DataW.trod_struct Tryz.underlying27 h
  rw [cells_at.2.2.2.2.2.2.2.2.2.2.2.1] at hlen
  obtain ⟨c0, c1, rfl⟩ := len2 _ hlen
  match xs, hxl, hf with
  | [y0, y1], _, hf =>
    have f0 := hf 0 _ rfl
    have f1 := hf 1 _ rfl
    have b0 := agg_part (H := H) (xs := [y0, y1]) (i := 0) rfl
    have b1 := agg_part (H := H) (xs := [y0, y1]) (i := 1) rfl
    simp only [List.getElem?_cons_zero, List.getElem?_cons_succ] at f0 f1
    obtain ⟨a, e0, _⟩ := el_int Tryz.underlying3 f0
    obtain ⟨b, e1, _⟩ := el_int Tryz.underlying3 f1
    have e0' : ([c0] : List Value) = [.int .i64 a] := e0
    simp only [List.cons.injEq, and_true] at e0'
    obtain rfl := e0'
    have e1' : ([c1] : List Value) = [.int .i64 b] := e1
    simp only [List.cons.injEq, and_true] at e1'
    obtain rfl := e1'
    exact ⟨a, b, rfl⟩
set_option maxRecDepth 1000000 in
theorem el_shape {fuel : Nat} {vs : List Value} {x : DataW H × List MemPlace} (h : DataW.trod enc Tryz.prog w 0 (fun _ => true) held fuel 24 vs = some x) : ∃ a b c : Int, vs = [.int .i64 a, .int .i64 b, .int .i64 c] := by
  obtain ⟨xs, n, _, rfl, hlen, hxl, hf⟩ := DataW.trod_struct Tryz.underlying24 h
  rw [cells_at.2.2.2.2.2.2.2.2.2.2.1] at hlen
  obtain ⟨c0, c1, c2, rfl⟩ := len3 _ hlen
  match xs, hxl, hf with
  | [y0, y1, y2], _, hf =>
    have f0 := hf 0 _ rfl
    have f1 := hf 1 _ rfl
    have f2 := hf 2 _ rfl
    have b0 := agg_part (H := H) (xs := [y0, y1, y2]) (i := 0) rfl
    have b1 := agg_part (H := H) (xs := [y0, y1, y2]) (i := 1) rfl
    have b2 := agg_part (H := H) (xs := [y0, y1, y2]) (i := 2) rfl
    simp only [List.getElem?_cons_zero, List.getElem?_cons_succ] at f0 f1 f2
    obtain ⟨a, e0, _⟩ := el_int Tryz.underlying3 f0
    have e0' : ([c0] : List Value) = [.int .i64 a] := e0
    simp only [List.cons.injEq, and_true] at e0'
    obtain rfl := e0'
    obtain ⟨b, e1, _⟩ := el_int Tryz.underlying3 f1
    have e1' : ([c1] : List Value) = [.int .i64 b] := e1
    simp only [List.cons.injEq, and_true] at e1'
    obtain rfl := e1'
    obtain ⟨c, e2, _⟩ := el_int Tryz.underlying3 f2
    have e2' : ([c2] : List Value) = [.int .i64 c] := e2
    simp only [List.cons.injEq, and_true] at e2'
    obtain rfl := e2'
    exact ⟨a, b, c, rfl⟩
set_option maxRecDepth 1000000 in
theorem el_store {fuel : Nat} {vs : List Value} {x : DataW H × List MemPlace} (h : DataW.trod enc Tryz.prog w 0 (fun _ => true) held fuel 25 vs = some x) : ∃ s0 s1 s2 s3 s4 s5 s6 s7 : Int, vs = [.int .u8 s0, .int .u8 s1, .int .u8 s2, .int .u8 s3, .int .u8 s4, .int .u8 s5, .int .u8 s6, .int .u8 s7] := by
  obtain ⟨xs, n, _, rfl, hlen, hxl, hf⟩ := DataW.trod_array Tryz.underlying25 h
  rw [cells_at.2.2.2.2.2.2.2.2.2.1] at hlen
  obtain ⟨c0, c1, c2, c3, c4, c5, c6, c7, rfl⟩ := len8 _ hlen
  match xs, hxl, hf with
  | [y0, y1, y2, y3, y4, y5, y6, y7], _, hf =>
    have f0 := hf 0 (by decide)
    have f1 := hf 1 (by decide)
    have f2 := hf 2 (by decide)
    have f3 := hf 3 (by decide)
    have f4 := hf 4 (by decide)
    have f5 := hf 5 (by decide)
    have f6 := hf 6 (by decide)
    have f7 := hf 7 (by decide)
    rw [cells_at.1] at f0 f1 f2 f3 f4 f5 f6 f7
    simp only [List.getElem?_cons_zero, List.getElem?_cons_succ] at f0 f1 f2 f3 f4 f5 f6 f7
    obtain ⟨s0, e0, _⟩ := el_u8 f0
    have e0' : ([c0] : List Value) = [.int .u8 (s0.toNat : Int)] := e0
    simp only [List.cons.injEq, and_true] at e0'
    obtain rfl := e0'
    obtain ⟨s1, e1, _⟩ := el_u8 f1
    have e1' : ([c1] : List Value) = [.int .u8 (s1.toNat : Int)] := e1
    simp only [List.cons.injEq, and_true] at e1'
    obtain rfl := e1'
    obtain ⟨s2, e2, _⟩ := el_u8 f2
    have e2' : ([c2] : List Value) = [.int .u8 (s2.toNat : Int)] := e2
    simp only [List.cons.injEq, and_true] at e2'
    obtain rfl := e2'
    obtain ⟨s3, e3, _⟩ := el_u8 f3
    have e3' : ([c3] : List Value) = [.int .u8 (s3.toNat : Int)] := e3
    simp only [List.cons.injEq, and_true] at e3'
    obtain rfl := e3'
    obtain ⟨s4, e4, _⟩ := el_u8 f4
    have e4' : ([c4] : List Value) = [.int .u8 (s4.toNat : Int)] := e4
    simp only [List.cons.injEq, and_true] at e4'
    obtain rfl := e4'
    obtain ⟨s5, e5, _⟩ := el_u8 f5
    have e5' : ([c5] : List Value) = [.int .u8 (s5.toNat : Int)] := e5
    simp only [List.cons.injEq, and_true] at e5'
    obtain rfl := e5'
    obtain ⟨s6, e6, _⟩ := el_u8 f6
    have e6' : ([c6] : List Value) = [.int .u8 (s6.toNat : Int)] := e6
    simp only [List.cons.injEq, and_true] at e6'
    obtain rfl := e6'
    obtain ⟨s7, e7, _⟩ := el_u8 f7
    have e7' : ([c7] : List Value) = [.int .u8 (s7.toNat : Int)] := e7
    simp only [List.cons.injEq, and_true] at e7'
    obtain rfl := e7'
    exact ⟨_, _, _, _, _, _, _, _, rfl⟩
set_option maxRecDepth 1000000 in
theorem el_head {fuel : Nat} {vs : List Value} {x : DataW H × List MemPlace} (h : DataW.trod enc Tryz.prog w 0 (fun _ => true) held fuel 65 vs = some x) : ∃ (s0 s1 s2 s3 s4 s5 s6 s7 k m b : Int) (key : ByteArray) (sz ix ep ct : Int), vs = [.int .u8 s0, .int .u8 s1, .int .u8 s2, .int .u8 s3, .int .u8 s4, .int .u8 s5, .int .u8 s6, .int .u8 s7, .int .i64 k, .int .i64 m, .int .i64 b, .string key, .int .i64 sz, .int .i64 ix, .int .i64 ep, .int .i64 ct] := by
  obtain ⟨xs, n, _, rfl, hlen, hxl, hf⟩ := DataW.trod_struct Tryz.underlying65 h
  rw [cells_at.2.2.2.2.2.2.2.2.1] at hlen
  obtain ⟨c0, c1, c2, c3, c4, c5, c6, c7, c8, c9, c10, c11, c12, c13, c14, c15, rfl⟩ := len16 _ hlen
  match xs, hxl, hf with
  | [y0, y1, y2, y3, y4, y5], _, hf =>
    have f0 := hf 0 _ rfl
    have f1 := hf 1 _ rfl
    have f2 := hf 2 _ rfl
    have f3 := hf 3 _ rfl
    have f4 := hf 4 _ rfl
    have f5 := hf 5 _ rfl
    have b0 := agg_part (H := H) (xs := [y0, y1, y2, y3, y4, y5]) (i := 0) rfl
    have b1 := agg_part (H := H) (xs := [y0, y1, y2, y3, y4, y5]) (i := 1) rfl
    have b2 := agg_part (H := H) (xs := [y0, y1, y2, y3, y4, y5]) (i := 2) rfl
    have b3 := agg_part (H := H) (xs := [y0, y1, y2, y3, y4, y5]) (i := 3) rfl
    have b4 := agg_part (H := H) (xs := [y0, y1, y2, y3, y4, y5]) (i := 4) rfl
    have b5 := agg_part (H := H) (xs := [y0, y1, y2, y3, y4, y5]) (i := 5) rfl
    simp only [List.getElem?_cons_zero, List.getElem?_cons_succ] at f0 f1 f2 f3 f4 f5
    obtain ⟨s0, s1, s2, s3, s4, s5, s6, s7, e0⟩ := el_store f0
    have e0' : ([c0, c1, c2, c3, c4, c5, c6, c7] : List Value) = [.int .u8 s0, .int .u8 s1, .int .u8 s2, .int .u8 s3, .int .u8 s4, .int .u8 s5, .int .u8 s6, .int .u8 s7] := e0
    simp only [List.cons.injEq, and_true] at e0'
    obtain ⟨rfl, rfl, rfl, rfl, rfl, rfl, rfl, rfl⟩ := e0'
    obtain ⟨k, m, b, e1⟩ := el_shape f1
    have e1' : ([c8, c9, c10] : List Value) = [.int .i64 k, .int .i64 m, .int .i64 b] := e1
    simp only [List.cons.injEq, and_true] at e1'
    obtain ⟨rfl, rfl, rfl⟩ := e1'
    obtain ⟨key, e2, _⟩ := el_str f2
    have e2' : ([c11] : List Value) = [.string key] := e2
    simp only [List.cons.injEq, and_true] at e2'
    obtain rfl := e2'
    obtain ⟨sz, e3, _⟩ := el_int Tryz.underlying3 f3
    have e3' : ([c12] : List Value) = [.int .i64 sz] := e3
    simp only [List.cons.injEq, and_true] at e3'
    obtain rfl := e3'
    obtain ⟨ix, e4, _⟩ := el_int Tryz.underlying3 f4
    have e4' : ([c13] : List Value) = [.int .i64 ix] := e4
    simp only [List.cons.injEq, and_true] at e4'
    obtain rfl := e4'
    obtain ⟨ep, ct, e5⟩ := el_gen f5
    have e5' : ([c14, c15] : List Value) = [.int .i64 ep, .int .i64 ct] := e5
    simp only [List.cons.injEq, and_true] at e5'
    obtain ⟨rfl, rfl⟩ := e5'
    exact ⟨s0, s1, s2, s3, s4, s5, s6, s7, k, m, b, key, sz, ix, ep, ct, rfl⟩
set_option maxRecDepth 1000000 in
theorem el_shard {fuel : Nat} {vs : List Value} {x : DataW H × List MemPlace} (h : DataW.trod enc Tryz.prog w 0 (fun _ => true) held fuel 68 vs = some x) : ∃ (s0 s1 s2 s3 s4 s5 s6 s7 k m b : Int) (key : ByteArray) (sz ix ep ct : Int) (v : Value) (l : List (Value × List UInt8)), vs = [.int .u8 s0, .int .u8 s1, .int .u8 s2, .int .u8 s3, .int .u8 s4, .int .u8 s5, .int .u8 s6, .int .u8 s7, .int .i64 k, .int .i64 m, .int .i64 b, .string key, .int .i64 sz, .int .i64 ix, .int .i64 ep, .int .i64 ct, v] ∧ Blks w (fun b => b < w.heap.size) v l ∧ l.length + 1 ≤ Rows.uptoBulk x.1 ∧ ∀ p ∈ l, p.2.length + 1 ≤ Rows.uptoBulk x.1 := by
  obtain ⟨xs, n, _, rfl, hlen, hxl, hf⟩ := DataW.trod_struct Tryz.underlying68 h
  rw [cells_at.2.2.2.2.2.2.2.1] at hlen
  obtain ⟨c0, c1, c2, c3, c4, c5, c6, c7, c8, c9, c10, c11, c12, c13, c14, c15, c16, rfl⟩ := len17 _ hlen
  match xs, hxl, hf with
  | [y0, y1], _, hf =>
    have f0 := hf 0 _ rfl
    have f1 := hf 1 _ rfl
    have b0 := agg_part (H := H) (xs := [y0, y1]) (i := 0) rfl
    have b1 := agg_part (H := H) (xs := [y0, y1]) (i := 1) rfl
    simp only [List.getElem?_cons_zero, List.getElem?_cons_succ] at f0 f1
    obtain ⟨s0, s1, s2, s3, s4, s5, s6, s7, k, m, b, key, sz, ix, ep, ct, e0⟩ := el_head f0
    have e0' : ([c0, c1, c2, c3, c4, c5, c6, c7, c8, c9, c10, c11, c12, c13, c14, c15] : List Value) = [.int .u8 s0, .int .u8 s1, .int .u8 s2, .int .u8 s3, .int .u8 s4, .int .u8 s5, .int .u8 s6, .int .u8 s7, .int .i64 k, .int .i64 m, .int .i64 b, .string key, .int .i64 sz, .int .i64 ix, .int .i64 ep, .int .i64 ct] := e0
    simp only [List.cons.injEq, and_true] at e0'
    obtain ⟨rfl, rfl, rfl, rfl, rfl, rfl, rfl, rfl, rfl, rfl, rfl, rfl, rfl, rfl, rfl, rfl⟩ := e0'
    obtain ⟨v, l, e1, g1, g2, g3⟩ := el_bls f1
    have e1' : ([c16] : List Value) = [v] := e1
    simp only [List.cons.injEq, and_true] at e1'
    obtain rfl := e1'
    exact ⟨s0, s1, s2, s3, s4, s5, s6, s7, k, m, b, key, sz, ix, ep, ct, _, l, rfl, g1, by simp only; omega, fun p hp => by
      have := g3 p hp
      simp only
      omega⟩
/-- What a place shows, read. -/
structure SnRead (w : World) (n : Nat) (s : Sn) : Prop where
  bl : Blks w (fun b => b < w.heap.size) s.blv s.bls
  bn : s.bls.length ≤ n
  l : ∀ p ∈ s.bls, p.2.length ≤ n
set_option maxRecDepth 1000000 in
theorem el_sn {fuel : Nat} {vs : List Value} {x : DataW H × List MemPlace} (h : DataW.trod enc Tryz.prog w 0 (fun _ => true) held fuel 71 vs = some x) : ∃ s : Sn, vs = snC s ∧ SnRead w (Rows.uptoBulk x.1) s := by
  obtain ⟨xs, n, _, rfl, hlen, hxl, hf⟩ := DataW.trod_struct Tryz.underlying71 h
  rw [cells_at.2.2.2.2.2.2.1] at hlen
  obtain ⟨c0, c1, c2, c3, c4, c5, c6, c7, c8, c9, c10, c11, c12, c13, c14, c15, c16, c17, c18, rfl⟩ := len19 _ hlen
  match xs, hxl, hf with
  | [y0, y1, y2], _, hf =>
    have f0 := hf 0 _ rfl
    have f1 := hf 1 _ rfl
    have f2 := hf 2 _ rfl
    have b0 := agg_part (H := H) (xs := [y0, y1, y2]) (i := 0) rfl
    have b1 := agg_part (H := H) (xs := [y0, y1, y2]) (i := 1) rfl
    have b2 := agg_part (H := H) (xs := [y0, y1, y2]) (i := 2) rfl
    simp only [List.getElem?_cons_zero, List.getElem?_cons_succ] at f0 f1 f2
    obtain ⟨kd, e0, _⟩ := el_int Tryz.underlying3 f0
    have e0' : ([c0] : List Value) = [.int .i64 kd] := e0
    simp only [List.cons.injEq, and_true] at e0'
    obtain rfl := e0'
    obtain ⟨s0, s1, s2, s3, s4, s5, s6, s7, k, m, b, key, sz, ix, ep, ct, v, l, e1, g1, g2, g3⟩ := el_shard f1
    have e1' : ([c1, c2, c3, c4, c5, c6, c7, c8, c9, c10, c11, c12, c13, c14, c15, c16, c17] : List Value) = [.int .u8 s0, .int .u8 s1, .int .u8 s2, .int .u8 s3, .int .u8 s4, .int .u8 s5, .int .u8 s6, .int .u8 s7, .int .i64 k, .int .i64 m, .int .i64 b, .string key, .int .i64 sz, .int .i64 ix, .int .i64 ep, .int .i64 ct, v] := e1
    simp only [List.cons.injEq, and_true] at e1'
    obtain ⟨rfl, rfl, rfl, rfl, rfl, rfl, rfl, rfl, rfl, rfl, rfl, rfl, rfl, rfl, rfl, rfl, rfl⟩ := e1'
    obtain ⟨er, e2, _⟩ := el_int Tryz.underlying69 f2
    have e2' : ([c18] : List Value) = [.int .i64 er] := e2
    simp only [List.cons.injEq, and_true] at e2'
    obtain rfl := e2'
    exact ⟨⟨kd, s0, s1, s2, s3, s4, s5, s6, s7, k, m, b, key, sz, ix, ep, ct, _, l, er⟩, rfl, g1, by simp only; omega, fun p hp => by
      have := g3 p hp
      simp only
      omega⟩
set_option maxRecDepth 1000000 in
theorem el_set {fuel : Nat} {vs : List Value} {x : DataW H × List MemPlace} (h : DataW.trod enc Tryz.prog w 0 (fun _ => true) held fuel 29 vs = some x) : ∃ (pv : Value) (ps : List Pl) (K M B s0 s1 s2 s3 s4 s5 s6 s7 ep ct : Int), vs = [pv, .int .i64 K, .int .i64 M, .int .i64 B, .int .u8 s0, .int .u8 s1, .int .u8 s2, .int .u8 s3, .int .u8 s4, .int .u8 s5, .int .u8 s6, .int .u8 s7, .int .i64 ep, .int .i64 ct] ∧ Sl w (fun b => b < w.heap.size) 9 plC pv ps ∧ ps.length ≤ Rows.uptoBulk x.1 ∧ ∀ p ∈ ps, PlRead w (Rows.uptoBulk x.1) p := by
  obtain ⟨xs, n, _, rfl, hlen, hxl, hf⟩ := DataW.trod_struct Tryz.underlying29 h
  rw [cells_at.2.2.2.2.2.2.2.2.2.2.2.2.2.1] at hlen
  obtain ⟨c0, c1, c2, c3, c4, c5, c6, c7, c8, c9, c10, c11, c12, c13, rfl⟩ := len14 _ hlen
  match xs, hxl, hf with
  | [y0, y1, y2, y3], _, hf =>
    have f0 := hf 0 _ rfl
    have f1 := hf 1 _ rfl
    have f2 := hf 2 _ rfl
    have f3 := hf 3 _ rfl
    have b0 := agg_part (H := H) (xs := [y0, y1, y2, y3]) (i := 0) rfl
    have b1 := agg_part (H := H) (xs := [y0, y1, y2, y3]) (i := 1) rfl
    have b2 := agg_part (H := H) (xs := [y0, y1, y2, y3]) (i := 2) rfl
    have b3 := agg_part (H := H) (xs := [y0, y1, y2, y3]) (i := 3) rfl
    simp only [List.getElem?_cons_zero, List.getElem?_cons_succ] at f0 f1 f2 f3
    haveI : Inhabited Pl := ⟨⟨false, 0, .nilIface, [], .nilIface, [], false, false, 0, 0, 0⟩⟩
    obtain ⟨pv, ps, e0, g0, _, g1, g2⟩ := open_sl plC 9 plC_len (by decide) Tryz.underlying22 cells_at.2.2.2.2.2.1 (fun d p => PlRead w (Rows.uptoBulk d) p) el_pl f0
    have e0' : ([c0] : List Value) = [pv] := e0
    simp only [List.cons.injEq, and_true] at e0'
    obtain rfl := e0'
    obtain ⟨K, M, B, e1⟩ := el_shape f1
    have e1' : ([c1, c2, c3] : List Value) = [.int .i64 K, .int .i64 M, .int .i64 B] := e1
    simp only [List.cons.injEq, and_true] at e1'
    obtain ⟨rfl, rfl, rfl⟩ := e1'
    obtain ⟨s0, s1, s2, s3, s4, s5, s6, s7, e2⟩ := el_store f2
    have e2' : ([c4, c5, c6, c7, c8, c9, c10, c11] : List Value) = [.int .u8 s0, .int .u8 s1, .int .u8 s2, .int .u8 s3, .int .u8 s4, .int .u8 s5, .int .u8 s6, .int .u8 s7] := e2
    simp only [List.cons.injEq, and_true] at e2'
    obtain ⟨rfl, rfl, rfl, rfl, rfl, rfl, rfl, rfl⟩ := e2'
    obtain ⟨ep, ct, e3⟩ := el_gen f3
    have e3' : ([c12, c13] : List Value) = [.int .i64 ep, .int .i64 ct] := e3
    simp only [List.cons.injEq, and_true] at e3'
    obtain ⟨rfl, rfl⟩ := e3'
    refine ⟨_, ps, K, M, B, s0, s1, s2, s3, s4, s5, s6, s7, ep, ct, rfl, g0, by simp only; omega, fun p hp => ?_⟩
    obtain ⟨d, hd, hd2⟩ := g2 p hp
    refine ⟨hd.fs, hd.pl, ?_, fun f hf => ?_, ?_⟩
    · have := hd.fl
      simp only
      omega
    · have := hd.ds f hf
      simp only
      omega
    · have := hd.pn
      simp only
      omega
set_option maxRecDepth 1000000 in
theorem el_verdict {fuel : Nat} {vs : List Value} {x : DataW H × List MemPlace} (h : DataW.trod enc Tryz.prog w 0 (fun _ => true) held fuel 32 vs = some x) : ∃ (v : Vd) (plv : Value) (pl : List Int), vs = [.int .i64 v.kind, .int .i64 v.ep, .int .i64 v.ct, .int .i64 v.size, plv] ∧ Is w (fun b => b < w.heap.size) plv pl ∧ pl.length ≤ Rows.uptoBulk x.1 := by
  obtain ⟨xs, n, _, rfl, hlen, hxl, hf⟩ := DataW.trod_struct Tryz.underlying32 h
  rw [cells_at.2.2.2.2.2.2.2.2.2.2.2.2.2.2] at hlen
  obtain ⟨c0, c1, c2, c3, c4, rfl⟩ := len5 _ hlen
  match xs, hxl, hf with
  | [y0, y1, y2, y3], _, hf =>
    have f0 := hf 0 _ rfl
    have f1 := hf 1 _ rfl
    have f2 := hf 2 _ rfl
    have f3 := hf 3 _ rfl
    have b0 := agg_part (H := H) (xs := [y0, y1, y2, y3]) (i := 0) rfl
    have b1 := agg_part (H := H) (xs := [y0, y1, y2, y3]) (i := 1) rfl
    have b2 := agg_part (H := H) (xs := [y0, y1, y2, y3]) (i := 2) rfl
    have b3 := agg_part (H := H) (xs := [y0, y1, y2, y3]) (i := 3) rfl
    simp only [List.getElem?_cons_zero, List.getElem?_cons_succ] at f0 f1 f2 f3
    obtain ⟨kd, e0, _⟩ := el_int Tryz.underlying3 f0
    have e0' : ([c0] : List Value) = [.int .i64 kd] := e0
    simp only [List.cons.injEq, and_true] at e0'
    obtain rfl := e0'
    obtain ⟨ep, ct, e1⟩ := el_gen f1
    have e1' : ([c1, c2] : List Value) = [.int .i64 ep, .int .i64 ct] := e1
    simp only [List.cons.injEq, and_true] at e1'
    obtain ⟨rfl, rfl⟩ := e1'
    obtain ⟨sz, e2, _⟩ := el_int Tryz.underlying3 f2
    have e2' : ([c3] : List Value) = [.int .i64 sz] := e2
    simp only [List.cons.injEq, and_true] at e2'
    obtain rfl := e2'
    obtain ⟨plv, pl, e3, g3, g4⟩ := el_ints f3
    have e3' : ([c4] : List Value) = [plv] := e3
    simp only [List.cons.injEq, and_true] at e3'
    obtain rfl := e3'
    exact ⟨⟨kd, ep, ct, sz⟩, _, pl, rfl, g3, by simp only; omega⟩
set_option maxRecDepth 1000000 in
theorem el_plan {fuel : Nat} {vs : List Value} {x : DataW H × List MemPlace} (h : DataW.trod enc Tryz.prog w 0 (fun _ => true) held fuel 35 vs = some x) : ∃ (pv : Value) (ps : List Pl) (K M B s0 s1 s2 s3 s4 s5 s6 s7 ep ct : Int) (nn : Bool) (v : Vd) (plv : Value) (pl : List Int) (lv : Value) (l : List Sn),
    vs = [pv, .int .i64 K, .int .i64 M, .int .i64 B, .int .u8 s0, .int .u8 s1, .int .u8 s2, .int .u8 s3, .int .u8 s4, .int .u8 s5, .int .u8 s6, .int .u8 s7, .int .i64 ep, .int .i64 ct, .bool nn, .int .i64 v.kind, .int .i64 v.ep, .int .i64 v.ct, .int .i64 v.size, plv, lv] ∧ Sl w (fun b => b < w.heap.size) 9 plC pv ps ∧ ps.length ≤ Rows.uptoBulk x.1 ∧ (∀ p ∈ ps, PlRead w (Rows.uptoBulk x.1) p) ∧
    Is w (fun b => b < w.heap.size) plv pl ∧ pl.length ≤ Rows.uptoBulk x.1 ∧ Sl w (fun b => b < w.heap.size) 19 snC lv l ∧ l.length ≤ Rows.uptoBulk x.1 ∧ ∀ s ∈ l, SnRead w (Rows.uptoBulk x.1) s := by
  obtain ⟨xs, n, _, rfl, hlen, hxl, hf⟩ := DataW.trod_struct Tryz.underlying35 h
  rw [cells_at.2.2.2.2.2.2.2.2.2.2.2.2.1] at hlen
  obtain ⟨c0, c1, c2, c3, c4, c5, c6, c7, c8, c9, c10, c11, c12, c13, c14, c15, c16, c17, c18, c19, c20, rfl⟩ := len21 _ hlen
  match xs, hxl, hf with
  | [y0, y1, y2, y3], _, hf =>
    have f0 := hf 0 _ rfl
    have f1 := hf 1 _ rfl
    have f2 := hf 2 _ rfl
    have f3 := hf 3 _ rfl
    have b0 := agg_part (H := H) (xs := [y0, y1, y2, y3]) (i := 0) rfl
    have b1 := agg_part (H := H) (xs := [y0, y1, y2, y3]) (i := 1) rfl
    have b2 := agg_part (H := H) (xs := [y0, y1, y2, y3]) (i := 2) rfl
    have b3 := agg_part (H := H) (xs := [y0, y1, y2, y3]) (i := 3) rfl
    simp only [List.getElem?_cons_zero, List.getElem?_cons_succ] at f0 f1 f2 f3
    obtain ⟨pv, ps, K, M, B, s0, s1, s2, s3, s4, s5, s6, s7, ep, ct, e0, g1, g2, g3⟩ := el_set f0
    have e0' : ([c0, c1, c2, c3, c4, c5, c6, c7, c8, c9, c10, c11, c12, c13] : List Value) = [pv, .int .i64 K, .int .i64 M, .int .i64 B, .int .u8 s0, .int .u8 s1, .int .u8 s2, .int .u8 s3, .int .u8 s4, .int .u8 s5, .int .u8 s6, .int .u8 s7, .int .i64 ep, .int .i64 ct] := e0
    simp only [List.cons.injEq, and_true] at e0'
    obtain ⟨rfl, rfl, rfl, rfl, rfl, rfl, rfl, rfl, rfl, rfl, rfl, rfl, rfl, rfl⟩ := e0'
    obtain ⟨nn, e1⟩ := el_bool f1
    have e1' : ([c14] : List Value) = [.bool nn] := e1
    simp only [List.cons.injEq, and_true] at e1'
    obtain rfl := e1'
    obtain ⟨v, plv, pl, e2, g4, g5⟩ := el_verdict f2
    have e2' : ([c15, c16, c17, c18, c19] : List Value) = [.int .i64 v.kind, .int .i64 v.ep, .int .i64 v.ct, .int .i64 v.size, plv] := e2
    simp only [List.cons.injEq, and_true] at e2'
    obtain ⟨rfl, rfl, rfl, rfl, rfl⟩ := e2'
    haveI : Inhabited Sn := ⟨mk77⟩
    obtain ⟨lv, l, e3, g6, _, g7, g8⟩ := open_sl snC 19 snC_len (by decide) Tryz.underlying33 cells_at.2.2.2.2.2.2.1 (fun d s => SnRead w (Rows.uptoBulk d) s) el_sn f3
    have e3' : ([c20] : List Value) = [lv] := e3
    simp only [List.cons.injEq, and_true] at e3'
    obtain rfl := e3'
    refine ⟨_, ps, K, M, B, s0, s1, s2, s3, s4, s5, s6, s7, ep, ct, nn, v, _, pl, _, l, rfl, g1, by simp only; omega, fun p hp => ?_, g4, by simp only; omega, g6, by simp only; omega, fun s hs => ?_⟩
    · have hd := g3 p hp
      refine ⟨hd.fs, hd.pl, ?_, fun f hf => ?_, ?_⟩
      · have := hd.fl
        simp only
        omega
      · have := hd.ds f hf
        simp only
        omega
      · have := hd.pn
        simp only
        omega
    · obtain ⟨d, hd, hd2⟩ := g8 s hs
      refine ⟨hd.bl, ?_, fun p hp => ?_⟩
      · have := hd.bn
        simp only
        omega
      · have := hd.l p hp
        simp only
        omega
end
end Go.Proofs.YtiaecfdfjhjgiaaGreat.hp
