/- How an argument that is a list of findings is read. -/
import Derived.Test.YtmlklbbkkggpkaaAudQ
import Derived.Test.YtmlklbbkkggpkaaFrame
namespace Go.Proofs.Ytmlklbbkkggpkaa.aud
open Go.ChangeShapes Go.WideShapes Go.ChangeAt Go.RowKit Go.Deep kit frame
set_option linter.unusedVariables false

section
variable {H : Type} {enc : TypeId × Value → H} {w : World} {base : Nat} {spare : Nat → Bool} {held : Bool}
theorem cells27 : Try.prog.cellsOf 27 = 8 := by kernel_rfl
theorem cells9 : Try.prog.cellsOf 9 = 1 := by kernel_rfl
theorem cells3 : Try.prog.cellsOf 3 = 1 := by kernel_rfl
theorem cells25 : Try.prog.cellsOf 25 = 2 := by kernel_rfl
theorem bytes27 : Try.prog.bytesOf 27 = 72 := by kernel_rfl
theorem eight (cs : List Value) (h : cs.length = 8) : ∃ c0 c1 c2 c3 c4 c5 c6 c7, cs = [c0, c1, c2, c3, c4, c5, c6, c7] := by
  match cs, h with
  | [c0, c1, c2, c3, c4, c5, c6, c7], _ => exact ⟨c0, c1, c2, c3, c4, c5, c6, c7, rfl⟩
theorem one_int {fuel : Nat} {c : Value} {x : DataW H × List MemPlace} (h : DataW.trod enc Try.prog w base spare held fuel 3 [c] = some x) : ∃ n : Int, c = .int .i64 n := by
  obtain ⟨n, hn, _, _⟩ := DataW.trod_int Try.underlying3 h
  exact ⟨n, by simpa using hn⟩
theorem one_str {fuel : Nat} {c : Value} {x : DataW H × List MemPlace} (h : DataW.trod enc Try.prog w base spare held fuel 9 [c] = some x) : ∃ s : ByteArray, c = .string s ∧ x.1 = .lit (.string s.data.toList) := by
  obtain ⟨n, hn, hx, _⟩ := DataW.trod_string Try.underlying9 h
  exact ⟨n, by simpa using hn, by rw [hx]⟩
theorem open_fd {fuel : Nat} {cs : List Value} {x : DataW H × List MemPlace} (h : DataW.trod enc Try.prog w base spare held fuel 27 cs = some x) : ∃ a : Fd, cs = a.cs.toList ∧ ∃ rest, x.1 = .agg (.lit (.string a.key.data.toList) :: rest) := by
  obtain ⟨xs, n, _, hx, hlen, hxl, hf⟩ := DataW.trod_struct Try.underlying27 h
  rw [cells27] at hlen
  obtain ⟨c0, c1, c2, c3, c4, c5, c6, c7, rfl⟩ := eight cs hlen
  match xs, hxl with
  | [y0, y1, y2, y3, y4, y5, y6], _ =>
    have f0 := hf 0 _ rfl
    have f1 := hf 1 _ rfl
    have f2 := hf 2 _ rfl
    have f3 := hf 3 _ rfl
    have f4 := hf 4 _ rfl
    have f5 := hf 5 _ rfl
    have f6 := hf 6 _ rfl
    simp only [List.getElem?_cons_zero, List.getElem?_cons_succ] at f0 f1 f2 f3 f4 f5 f6
    obtain ⟨s, rfl, hy0⟩ := one_str f0
    obtain ⟨n1, rfl⟩ := one_int f1
    obtain ⟨n4, rfl⟩ := one_int f3
    obtain ⟨n5, rfl⟩ := one_int f4
    obtain ⟨n6, rfl⟩ := one_int f5
    obtain ⟨n7, rfl⟩ := one_int f6
    obtain ⟨zs, m, _, _, _, hzl, hg⟩ := DataW.trod_struct Try.underlying25 f2
    match zs, hzl with
    | [z0, z1], _ =>
      have g0 := hg 0 _ rfl
      have g1 := hg 1 _ rfl
      simp only [List.getElem?_cons_zero, List.getElem?_cons_succ] at g0 g1
      obtain ⟨n2, rfl⟩ := one_int g0
      obtain ⟨n3, rfl⟩ := one_int g1
      exact ⟨⟨s, n1, n2, n3, n4, n5, n6, n7⟩, rfl, [y1, y2, y3, y4, y5, y6].map (·.1), by rw [hx]; simp [hy0]⟩

/-- An argument that is a slice of findings: its list, and where it lies. -/
theorem open_fds {fuel : Nat} {A : Option Addr} {len cap : Nat} {x : DataW H × List MemPlace} (h : DataW.trod enc Try.prog w base (fun _ => true) held fuel 23 [.slice A len cap] = some x) :
    ∃ l : List Fd, l.length = len ∧ FdSl w w.heap.size A l ∧ (x.1 = .nil ∧ len = 0 ∨ ∃ elems spare, x.1 = .slice elems spare ∧ elems.length + spare.length = cap ∧ len ≤ cap ∧ ∀ (i : Nat) (a : Fd), l[i]? = some a → ∃ d rest, d ∈ elems ∧ d = .agg (.lit (.string a.key.data.toList) :: rest)) := by
  rcases open_slice Try.underlying23 h with ⟨hcs, hx⟩ | ⟨a, len', cap', m, n, D, Pl, hcs, hb, hl, hm, hmm, hx, hi⟩
  · simp only [List.cons.injEq, Value.slice.injEq, and_true] at hcs
    obtain ⟨rfl, rfl, rfl⟩ := hcs
    exact ⟨[], rfl, fun hne => absurd rfl hne, Or.inl ⟨by rw [hx], rfl⟩⟩
  · simp only [List.cons.injEq, Value.slice.injEq, and_true] at hcs
    obtain ⟨rfl, rfl, rfl⟩ := hcs
    rw [if_pos rfl] at hmm
    subst hmm
    have hel : ∀ i : Nat, ∃ f : Fd, i < len → w.cells? base (a.add (i * 8)) 8 = some f.cs.toList ∧ ∃ rest, D i = .agg (.lit (.string f.key.data.toList) :: rest) := fun i => by
      by_cases hil : i < len
      · obtain ⟨cs', h1, h2⟩ := hi i (by omega)
        rw [cells27] at h1
        obtain ⟨f, rfl, hr⟩ := open_fd h2
        exact ⟨f, fun _ => ⟨h1, hr⟩⟩
      · exact ⟨Fd.zero, fun h => absurd h hil⟩
    let l := (List.range len).map fun i => Classical.choose (hel i)
    refine ⟨l, by simp [l], fun hne => ?_, Or.inr ⟨_, _, by rw [hx], by simp; omega, hl, fun i f hf => ?_⟩⟩
    rotate_left
    · have hil : i < len := by
        have := (List.getElem?_eq_some_iff.1 hf).1
        simpa [l] using this
      have hfe : Classical.choose (hel i) = f := by simpa [l, hil] using hf
      obtain ⟨rest, hr⟩ := (Classical.choose_spec (hel i) hil).2
      rw [hfe] at hr
      exact ⟨D i, rest, List.mem_map.2 ⟨i, by simpa using hil, rfl⟩, hr⟩
    have hpos : 0 < len := by
      rcases Nat.eq_zero_or_pos len with h0 | h0
      · subst h0; exact absurd rfl hne
      · exact h0
    have hcell : ∀ i, i < len → ∀ j u, (Classical.choose (hel i)).cs.toList[j]? = some u → w.cell? ((a.add (i * 8)).add j) = some u := fun i hil j u hu => by
      obtain ⟨_, hcl, hat⟩ := World.cells?_some (Classical.choose_spec (hel i) hil).1
      have hj : j < 8 := by
        have := (List.getElem?_eq_some_iff.1 hu).1
        rw [cs_len] at this
        exact this
      rw [hat j hj, hu]
    obtain ⟨b, off, spot⟩ := a
    have hspot : spot = none := by
      have h0 := hcell 0 hpos 0 _ rfl
      cases spot with
      | none => rfl
      | some s => simp [Addr.add, World.cell?] at h0; split at h0 <;> simp_all
    subst hspot
    have hadd : ∀ k, (⟨b, off, none⟩ : Addr).add k = ⟨b, off + k, none⟩ := fun k => by
      unfold Addr.add
      split
      · subst_vars; rfl
      · rfl
    refine ⟨b, off, rfl, ?_, fun i f hf => ?_⟩
    · have h0 := hcell 0 hpos 0 _ rfl
      have := World.block_lt_of_cell? w _ h0
      simpa [hadd] using this
    · have hil : i < len := by
        have := (List.getElem?_eq_some_iff.1 hf).1
        simpa [l] using this
      have hfe : Classical.choose (hel i) = f := by simpa [l, hil] using hf
      have g : ∀ j u, f.cs.toList[j]? = some u → w.cell? ⟨b, off + i * 8 + j, none⟩ = some u := fun j u hu => by
        have := hcell i hil j u (by rw [hfe]; exact hu)
        rw [add_add', hadd] at this
        rw [Nat.add_assoc]
        exact this
      exact ⟨g 0 _ rfl, g 1 _ rfl, g 2 _ rfl, g 3 _ rfl, g 4 _ rfl, g 5 _ rfl, g 6 _ rfl, g 7 _ rfl⟩
end

theorem weights_mem_all {P : Program} {e : TypeId} {H : Type} : ∀ {l : List (DataW H)} {d : DataW H}, d ∈ l → ∀ n ∈ d.weights P e, n ∈ DataW.weightsAll P e l
  | x :: l, d, hd, n, hn => by
    simp only [DataW.weightsAll, List.mem_append]
    rcases List.mem_cons.1 hd with rfl | hd
    · exact Or.inl hn
    · exact Or.inr (weights_mem_all hd n hn)
/-- No key is longer than the form's own reach. -/
theorem key_reach {H : Type} {elems spare : List (DataW H)} {ds : List (DataW H)} (h : (DataW.weightsEach Try.prog [23] ds).all (· ≤ reachBytes) = true) (hd : ds[0]? = some (.slice elems spare)) {s : List UInt8} {rest : List (DataW H)}
    (hm : DataW.agg (.lit (.string s) :: rest) ∈ elems) : s.length ≤ reachBytes := by
  have h27 : s.length ∈ DataW.weights Try.prog 27 (.agg (.lit (.string s) :: rest)) := by
    simp [DataW.weights, Try.underlying27, DataW.weightsEach]
  have hall := weights_mem_all (P := Try.prog) hm _ h27
  have := List.all_eq_true.1 h _ (DataW.weights_mem_each (j := 0) (t := 23) rfl hd s.length (by simp [DataW.weights, Try.underlying23, hall]))
  simpa using this
end Go.Proofs.Ytmlklbbkkggpkaa.aud
