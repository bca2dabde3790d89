/- AuditOrder: of any list of findings the worst is one of them, and stays the worst when the others are turned round or it is left alone. No condition beyond the form's own reach. -/
import Derived.Test.YtmlklbbkkggpkaaAudR
import Derived.Test.YtmlklbbkkggpkaaFrame
namespace Go.Proofs.Ytmlklbbkkggpkaa.aud
open Go.ChangeShapes Go.WideShapes Go.ChangeAt Go.RowKit Go.Deep kit frame
set_option linter.unusedVariables false

section
variable {H : Type} {enc : TypeId × Value → H} {w : World} {base : Nat} {spare : Nat → Bool} {held : Bool}
theorem cells27 : Try.prog.cellsOf 27 = 8 := by kernel_rfl
theorem cells9 : Try.prog.cellsOf 9 = 1 := by kernel_rfl
theorem cells3 : Try.prog.cellsOf 3 = 1 := by kernel_rfl
theorem cells25 : Try.prog.cellsOf 25 = 2 := by kernel_rfl
theorem bytes27 : Try.prog.bytesOf 27 = 72 := by kernel_rfl
theorem eight (cs : List Value) (h : cs.length = 8) : ∃ c0 c1 c2 c3 c4 c5 c6 c7, cs = [c0, c1, c2, c3, c4, c5, c6, c7] := by
  match cs, h with
  | [c0, c1, c2, c3, c4, c5, c6, c7], _ => exact ⟨c0, c1, c2, c3, c4, c5, c6, c7, rfl⟩
theorem one_int {fuel : Nat} {c : Value} {x : DataW H × List MemPlace} (h : DataW.trod enc Try.prog w base spare held fuel 3 [c] = some x) : ∃ n : Int, c = .int .i64 n := by
  obtain ⟨n, hn, _, _⟩ := DataW.trod_int Try.underlying3 h
  exact ⟨n, by simpa using hn⟩
theorem one_str {fuel : Nat} {c : Value} {x : DataW H × List MemPlace} (h : DataW.trod enc Try.prog w base spare held fuel 9 [c] = some x) : ∃ s : ByteArray, c = .string s := by
  obtain ⟨n, hn, _, _⟩ := DataW.trod_string Try.underlying9 h
  exact ⟨n, by simpa using hn⟩
theorem open_fd {fuel : Nat} {cs : List Value} {x : DataW H × List MemPlace} (h : DataW.trod enc Try.prog w base spare held fuel 27 cs = some x) : ∃ a : Fd, cs = a.cs.toList := by
  obtain ⟨xs, n, _, _, hlen, hxl, hf⟩ := DataW.trod_struct Try.underlying27 h
  rw [cells27] at hlen
  obtain ⟨c0, c1, c2, c3, c4, c5, c6, c7, rfl⟩ := eight cs hlen
  match xs, hxl with
  | [y0, y1, y2, y3, y4, y5, y6], _ =>
    have f0 := hf 0 _ rfl
    have f1 := hf 1 _ rfl
    have f2 := hf 2 _ rfl
    have f3 := hf 3 _ rfl
    have f4 := hf 4 _ rfl
    have f5 := hf 5 _ rfl
    have f6 := hf 6 _ rfl
    simp only [List.getElem?_cons_zero, List.getElem?_cons_succ] at f0 f1 f2 f3 f4 f5 f6
    obtain ⟨s, rfl⟩ := one_str f0
    obtain ⟨n1, rfl⟩ := one_int f1
    obtain ⟨n4, rfl⟩ := one_int f3
    obtain ⟨n5, rfl⟩ := one_int f4
    obtain ⟨n6, rfl⟩ := one_int f5
    obtain ⟨n7, rfl⟩ := one_int f6
    obtain ⟨zs, m, _, _, _, hzl, hg⟩ := DataW.trod_struct Try.underlying25 f2
    match zs, hzl with
    | [z0, z1], _ =>
      have g0 := hg 0 _ rfl
      have g1 := hg 1 _ rfl
      simp only [List.getElem?_cons_zero, List.getElem?_cons_succ] at g0 g1
      obtain ⟨n2, rfl⟩ := one_int g0
      obtain ⟨n3, rfl⟩ := one_int g1
      exact ⟨⟨s, n1, n2, n3, n4, n5, n6, n7⟩, rfl⟩

/-- An argument that is a slice of findings: its list, and where it lies. -/
theorem open_fds {fuel : Nat} {A : Option Addr} {len cap : Nat} {x : DataW H × List MemPlace} (h : DataW.trod enc Try.prog w base (fun _ => true) held fuel 23 [.slice A len cap] = some x) :
    ∃ l : List Fd, l.length = len ∧ FdSl w w.heap.size A l ∧ (x.1 = .nil ∧ len = 0 ∨ ∃ elems spare, x.1 = .slice elems spare ∧ elems.length + spare.length = cap ∧ len ≤ cap) := by
  rcases open_slice Try.underlying23 h with ⟨hcs, hx⟩ | ⟨a, len', cap', m, n, D, Pl, hcs, hb, hl, hm, hmm, hx, hi⟩
  · simp only [List.cons.injEq, Value.slice.injEq, and_true] at hcs
    obtain ⟨rfl, rfl, rfl⟩ := hcs
    exact ⟨[], rfl, fun hne => absurd rfl hne, Or.inl ⟨by rw [hx], rfl⟩⟩
  · simp only [List.cons.injEq, Value.slice.injEq, and_true] at hcs
    obtain ⟨rfl, rfl, rfl⟩ := hcs
    rw [if_pos rfl] at hmm
    subst hmm
    have hel : ∀ i : Nat, ∃ f : Fd, i < len → w.cells? base (a.add (i * 8)) 8 = some f.cs.toList := fun i => by
      by_cases hil : i < len
      · obtain ⟨cs', h1, h2⟩ := hi i (by omega)
        rw [cells27] at h1
        obtain ⟨f, rfl⟩ := open_fd h2
        exact ⟨f, fun _ => h1⟩
      · exact ⟨Fd.zero, fun h => absurd h hil⟩
    let l := (List.range len).map fun i => Classical.choose (hel i)
    refine ⟨l, by simp [l], fun hne => ?_, Or.inr ⟨_, _, by rw [hx], by simp; omega, hl⟩⟩
    have hpos : 0 < len := by
      rcases Nat.eq_zero_or_pos len with h0 | h0
      · subst h0; exact absurd rfl hne
      · exact h0
    have hcell : ∀ i, i < len → ∀ j u, (Classical.choose (hel i)).cs.toList[j]? = some u → w.cell? ((a.add (i * 8)).add j) = some u := fun i hil j u hu => by
      obtain ⟨_, hcl, hat⟩ := World.cells?_some (Classical.choose_spec (hel i) hil)
      have hj : j < 8 := by
        have := (List.getElem?_eq_some_iff.1 hu).1
        rw [cs_len] at this
        exact this
      rw [hat j hj, hu]
    obtain ⟨b, off, spot⟩ := a
    have hspot : spot = none := by
      have h0 := hcell 0 hpos 0 _ rfl
      cases spot with
      | none => rfl
      | some s => simp [Addr.add, World.cell?] at h0; split at h0 <;> simp_all
    subst hspot
    have hadd : ∀ k, (⟨b, off, none⟩ : Addr).add k = ⟨b, off + k, none⟩ := fun k => by
      unfold Addr.add
      split
      · subst_vars; rfl
      · rfl
    refine ⟨b, off, rfl, ?_, fun i f hf => ?_⟩
    · have h0 := hcell 0 hpos 0 _ rfl
      have := World.block_lt_of_cell? w _ h0
      simpa [hadd] using this
    · have hil : i < len := by
        have := (List.getElem?_eq_some_iff.1 hf).1
        simpa [l] using this
      have hfe : Classical.choose (hel i) = f := by simpa [l, hil] using hf
      have g : ∀ j u, f.cs.toList[j]? = some u → w.cell? ⟨b, off + i * 8 + j, none⟩ = some u := fun j u hu => by
        have := hcell i hil j u (by rw [hfe]; exact hu)
        rw [add_add', hadd] at this
        rw [Nat.add_assoc]
        exact this
      exact ⟨g 0 _ rfl, g 1 _ rfl, g 2 _ rfl, g 3 _ rfl, g 4 _ rfl, g 5 _ rfl, g 6 _ rfl, g 7 _ rfl⟩
end

theorem order_any (A : Option Addr) (l : List Fd) (n c : Nat) (w : World) (hn : l.length = n) (hm : n * 72 ≤ 140737488355328) (hl : FdSl w w.heap.size A l) :
    Calls Try.prog 7 #[.slice A n c] w fun e w' => e = .returned (.bool true) ∧ Below w.heap.size w w' := by
  cases l with
  | nil =>
    subst hn
    exact order_none A c w
  | cons a l =>
    obtain ⟨b, off, rfl, hb, ha⟩ := hl (by simp)
    exact order_some b off a l n c w hn hm hb ha

set_option maxRecDepth 100000 in
theorem order_lifted (os : Os) (started : os.Started) (H : Type) (enc : TypeId × Value → H) :
    ReturnsInHanded {} Try.checked os 7 .any (Rows.auditOrderSpec.pre6 enc Try.prog Try.f7 Rows.auditOrderRow.domain false) (Rows.auditOrderSpec.post enc Try.prog Try.f7 false true false false) := by
  refine returnsInHanded_of_change_sized (C := Try.checked) own started (by kernel_rfl) Try.func7
    (ChangeSpec.witness6 (enc := enc) (C := Try.checked) false ⟨#[], #[.slice none 0 0], []⟩ 8 (by kernel_rfl) (by kernel_rfl) (by kernel_rfl) (by kernel_rfl)) ?_
  intro W base args ds gs before hval hW hcnd hsz _
  have hW' := hW
  obtain ⟨p, q, hA, hV, rfl, hfz, hnd⟩ := hW'
  obtain ⟨rfl, rfl⟩ := trodVars_none hV
  have hA0 : DataW.TrodAll enc Try.prog W 0 (fun _ => true) true Try.f7.params.toList args.toList ds p := hA
  rw [Try.params7] at hA0 hval
  obtain ⟨v0, d0, hargs, rfl, h0⟩ := trodAll_one hA0
  obtain rfl : args = #[v0] := by cases args; simp_all
  obtain ⟨A, len, cap, rfl⟩ := okWide_slice Try.underlying23 (hval 0 23 v0 rfl rfl)
  obtain ⟨fuel, hf⟩ := h0
  obtain ⟨l, hl, hsl, hd⟩ := open_fds (x := (d0, p)) hf
  have hroom : len * 72 ≤ 140737488355328 := by
    rcases hd with ⟨_, rfl⟩ | ⟨elems, spare, hx, hcl, hle⟩
    · omega
    · have h72 : (elems.length + spare.length) * Try.prog.bytesOf 27 ≤ reachBytes := sized_slice (j := 0) (t := 23) (e := 27) (elems := elems) (spare := spare) hsz (by rfl) (by simpa using hx) Try.underlying23
      rw [bytes27, hcl] at h72
      have hr := reachBytes_lt
      have := Nat.mul_le_mul_right 72 hle
      omega
  refine (order_any A l len cap W hl hroom hsl).mono fun e W' ⟨he, hb⟩ => ?_
  exact ⟨_, he, post_law laidOut hW rfl (by decide +kernel) rfl Try.underlying4 rfl rfl rfl hb⟩

theorem order_proved : Rows.AuditOrderSaid :=
  OpenClaim.holds_of_wide 7 Try.f7 rfl rfl rfl rfl rfl rfl rfl ⟨rfl, rfl, rfl, rfl, rfl⟩ rfl rfl rfl rfl rfl (by kernel_rfl) Try.func7 (by kernel_rfl)
    (of_decide_eq_true (by kernel_rfl)) (by unfold Func.isWrapper; first | (rw [if_pos (by decide +kernel)]; kernel_rfl) | (rw [if_neg (by decide +kernel)]; exact ⟨rfl, rfl⟩))
    (fun os started H enc _ => order_lifted os started H enc)
#print axioms order_proved
end Go.Proofs.Ytmlklbbkkggpkaa.aud
