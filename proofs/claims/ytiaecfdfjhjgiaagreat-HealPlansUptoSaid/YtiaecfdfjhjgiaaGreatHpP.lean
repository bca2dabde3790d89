/- Contracts: lists of numbers compared; shapes; the small looks at drives and wounds. -/
import Derived.Test.YtiaecfdfjhjgiaaGreatHpN
import Derived.Test.YtiaecfdfjhjgiaaGreatHpF
namespace Go.Proofs.YtiaecfdfjhjgiaaGreat.hp
open Go.RowKit kit
set_option linter.unusedVariables false

/-- A number's cell. -/
def iC (n : Int) : List Value := [.int .i64 n]
theorem iC_len (n : Int) : (iC n).length = 1 := rfl
theorem iC_flat (l : List Int) : l.flatMap iC = l.map (Value.int .i64) := by
  induction l with
  | nil => rfl
  | cons a l ih => rw [List.flatMap_cons, ih]; rfl
/-- A slice of numbers. -/
def Is (w : World) (S : Nat → Prop) (v : Value) (l : List Int) : Prop := Sl w S 1 iC v l
theorem Is.at {w : World} {S : Nat → Prop} {v : Value} {l : List Int} (h : Is w S v l) : ∃ A c, v = .slice A l.length c ∧ (l ≠ [] → ∃ b o, A = some ⟨b, o, none⟩ ∧ ∀ (k : Nat) (x : Int), l[k]? = some x → w.cell? ⟨b, o + k, none⟩ = some (.int .i64 x)) := by
  obtain ⟨A, c, hv, hc⟩ := h
  refine ⟨A, c, hv, fun hne => ?_⟩
  obtain ⟨b, o, hA, _, hs⟩ := hc hne
  refine ⟨b, o, hA, fun k x hk => ?_⟩
  have := hs k x hk 0 _ rfl
  simpa using this
set_option maxHeartbeats 1000000 in
theorem sameInts_yes (a b : Value) (l : List Int) (hl : l.length ≤ 1099511627776) (w : World) (S T : Nat → Prop) (ha : Is w S a l) (hb : Is w T b l) :
    Calls Tryz.prog 8 #[a, b] w fun e w' => e = .returned (.bool true) ∧ ∃ m, w' = w.drewN m := by
  obtain ⟨A1, c1, rfl, h1⟩ := ha.at
  obtain ⟨A2, c2, rfl, h2⟩ := hb.at
  have H1 := Lib.hid h1
  have H2 := Lib.hid h2
  clear h1 h2 ha hb
  go_enter Tryz.func8, Tryz.ntmps8
  go_wp2
  go_loopw [5] (fun i wr => ∃ k m : Nat, k ≤ l.length ∧ i = .int .i64 k ∧ wr = w.drewN m) (fun i _ => l.length - (intOf i).toNat)
  case atStart => exact ⟨0, 0, by omega, rfl, rfl⟩
  case round =>
    obtain ⟨k, mm, hk, rfl, rfl⟩ := hrel
    by_cases hlt : k < l.length
    · have hne : l ≠ [] := by intro e; rw [e] at hlt; simp at hlt
      obtain ⟨b1, o1, rfl, ha1⟩ := H1.out hne
      obtain ⟨b2, o2, rfl, ha2⟩ := H2.out hne
      obtain ⟨x, hx⟩ : ∃ x, l[k]? = some x := ⟨_, List.getElem?_eq_getElem hlt⟩
      have e1 := ha1 k x hx
      have e2 := ha2 k x hx
      have hi0 : (0 : Int) ≤ (k : Int) := by omega
      have hi1 : (k : Int) < (l.length : Int) := by omega
      clear hx ha1 ha2 hne
      go_wp2
      go_quiet (fail)
      go_wp2
      go_roundw
      case rel => exact ⟨k + 1, _, by omega, by go_num, rfl⟩
      case measure => simp [intOf]; omega
    · go_wp2
      go_ret
      exact ⟨rfl, mm, rfl⟩

/-- May a shape be? -/
def fitsB (K M B : Int) : Bool := decide (1 ≤ M ∧ M ≤ K ∧ K ≤ 255 ∧ K + M ≤ 255 ∧ 1 ≤ B ∧ B ≤ 65536)
theorem fits_any (K M B : Int) (w : World) : Calls Tryz.prog 24 #[.agg #[.int .i64 K, .int .i64 M, .int .i64 B]] w fun e w' => e = .returned (.bool (fitsB K M B)) ∧ Below w.heap.size w w' := by
  obtain ⟨ans, hans⟩ : ∃ ans, fitsB K M B = ans := ⟨_, rfl⟩
  rw [hans]
  unfold fitsB at hans
  by_cases h1 : 1 ≤ M
  · have g1 : decide ((1 : Int) ≤ M) = true := decide_eq_true h1
    by_cases h2 : M ≤ K
    · have g2 : decide (M ≤ K) = true := decide_eq_true h2
      by_cases h3 : K ≤ 255
      · have g3 : decide (K ≤ 255) = true := decide_eq_true h3
        by_cases h4 : K + M ≤ 255
        · have g4 : decide (K + M ≤ 255) = true := decide_eq_true h4
          by_cases h5 : 1 ≤ B
          · have g5 : decide ((1 : Int) ≤ B) = true := decide_eq_true h5
            have HA : Hid (decide (B ≤ 65536) = ans) := Lib.hid (by rw [← hans]; simp [h1, h2, h3, h4, h5])
            clear hans
            go_enter Tryz.func24, Tryz.ntmps24
            go_wp2
            go_ret
            exact ⟨congrArg (fun z => Ending.returned (.bool z)) HA.out, (Below.refl _ _).alloc (Nat.le_refl _) _⟩
          · have g5 : decide ((1 : Int) ≤ B) = false := decide_eq_false h5
            have HA : Hid (false = ans) := Lib.hid (by rw [← hans]; simp [h5])
            clear hans
            go_enter Tryz.func24, Tryz.ntmps24
            go_wp2
            go_ret
            exact ⟨congrArg (fun z => Ending.returned (.bool z)) HA.out, (Below.refl _ _).alloc (Nat.le_refl _) _⟩
        · have g4 : decide (K + M ≤ 255) = false := decide_eq_false h4
          have HA : Hid (false = ans) := Lib.hid (by rw [← hans]; simp [h4])
          clear hans
          go_enter Tryz.func24, Tryz.ntmps24
          go_wp2
          go_ret
          exact ⟨congrArg (fun z => Ending.returned (.bool z)) HA.out, (Below.refl _ _).alloc (Nat.le_refl _) _⟩
      · have g3 : decide (K ≤ 255) = false := decide_eq_false h3
        have HA : Hid (false = ans) := Lib.hid (by rw [← hans]; simp [h3])
        clear hans
        go_enter Tryz.func24, Tryz.ntmps24
        go_wp2
        go_ret
        exact ⟨congrArg (fun z => Ending.returned (.bool z)) HA.out, (Below.refl _ _).alloc (Nat.le_refl _) _⟩
    · have g2 : decide (M ≤ K) = false := decide_eq_false h2
      have HA : Hid (false = ans) := Lib.hid (by rw [← hans]; simp [h2])
      clear hans
      go_enter Tryz.func24, Tryz.ntmps24
      go_wp2
      go_ret
      exact ⟨congrArg (fun z => Ending.returned (.bool z)) HA.out, (Below.refl _ _).alloc (Nat.le_refl _) _⟩
  · have g1 : decide ((1 : Int) ≤ M) = false := decide_eq_false h1
    have HA : Hid (false = ans) := Lib.hid (by rw [← hans]; simp [h1])
    clear hans
    go_enter Tryz.func24, Tryz.ntmps24
    go_wp2
    go_ret
    exact ⟨congrArg (fun z => Ending.returned (.bool z)) HA.out, (Below.refl _ _).alloc (Nat.le_refl _) _⟩

theorem shape_any (K M B : Int) (w : World) : Calls Tryz.prog 25 #[.agg #[.int .i64 K, .int .i64 M, .int .i64 B]] w fun e w' => e = .returned (.bool (fitsB K M B)) ∧ Below w.heap.size w w' := by
  obtain ⟨ans, hans⟩ : ∃ ans, fitsB K M B = ans := ⟨_, rfl⟩
  rw [hans]
  unfold fitsB at hans
  by_cases h1 : 1 ≤ M
  · have g1 : decide ((1 : Int) ≤ M) = true := decide_eq_true h1
    by_cases h2 : M ≤ K
    · have g2 : decide (M ≤ K) = true := decide_eq_true h2
      by_cases h3 : K ≤ 255
      · have g3 : decide (K ≤ 255) = true := decide_eq_true h3
        by_cases h4 : K + M ≤ 255
        · have g4 : decide (K + M ≤ 255) = true := decide_eq_true h4
          by_cases h5 : 1 ≤ B
          · have g5 : decide ((1 : Int) ≤ B) = true := decide_eq_true h5
            have HA : Hid (decide (B ≤ 65536) = ans) := Lib.hid (by rw [← hans]; simp [h1, h2, h3, h4, h5])
            clear hans
            go_enter Tryz.func25, Tryz.ntmps25
            go_wp2
            go_ret
            exact ⟨congrArg (fun z => Ending.returned (.bool z)) HA.out, (Below.refl _ _).alloc (Nat.le_refl _) _⟩
          · have g5 : decide ((1 : Int) ≤ B) = false := decide_eq_false h5
            have HA : Hid (false = ans) := Lib.hid (by rw [← hans]; simp [h5])
            clear hans
            go_enter Tryz.func25, Tryz.ntmps25
            go_wp2
            go_ret
            exact ⟨congrArg (fun z => Ending.returned (.bool z)) HA.out, (Below.refl _ _).alloc (Nat.le_refl _) _⟩
        · have g4 : decide (K + M ≤ 255) = false := decide_eq_false h4
          have HA : Hid (false = ans) := Lib.hid (by rw [← hans]; simp [h4])
          clear hans
          go_enter Tryz.func25, Tryz.ntmps25
          go_wp2
          go_ret
          exact ⟨congrArg (fun z => Ending.returned (.bool z)) HA.out, (Below.refl _ _).alloc (Nat.le_refl _) _⟩
      · have g3 : decide (K ≤ 255) = false := decide_eq_false h3
        have HA : Hid (false = ans) := Lib.hid (by rw [← hans]; simp [h3])
        clear hans
        go_enter Tryz.func25, Tryz.ntmps25
        go_wp2
        go_ret
        exact ⟨congrArg (fun z => Ending.returned (.bool z)) HA.out, (Below.refl _ _).alloc (Nat.le_refl _) _⟩
    · have g2 : decide (M ≤ K) = false := decide_eq_false h2
      have HA : Hid (false = ans) := Lib.hid (by rw [← hans]; simp [h2])
      clear hans
      go_enter Tryz.func25, Tryz.ntmps25
      go_wp2
      go_ret
      exact ⟨congrArg (fun z => Ending.returned (.bool z)) HA.out, (Below.refl _ _).alloc (Nat.le_refl _) _⟩
  · have g1 : decide ((1 : Int) ≤ M) = false := decide_eq_false h1
    have HA : Hid (false = ans) := Lib.hid (by rw [← hans]; simp [h1])
    clear hans
    go_enter Tryz.func25, Tryz.ntmps25
    go_wp2
    go_ret
    exact ⟨congrArg (fun z => Ending.returned (.bool z)) HA.out, (Below.refl _ _).alloc (Nat.le_refl _) _⟩

set_option maxRecDepth 100000 in
set_option maxHeartbeats 4000000 in
/-- What the votes ask of a place: its writing, and whether it shows a shard. -/
theorem of_any (kd sz ep ct e : Int) (s0 s1 s2 s3 s4 s5 s6 s7 k m b key ix bl : Value) (w : World) :
    Calls Tryz.prog 26 #[.agg #[.int .i64 kd, s0, s1, s2, s3, s4, s5, s6, s7, k, m, b, key, .int .i64 sz, ix, .int .i64 ep, .int .i64 ct, bl, .int .i64 e]] w
      fun e w' => e = .returned (.tuple #[.agg #[.int .i64 ep, .int .i64 ct, .int .i64 sz], .bool (kd == 2)]) ∧ Below w.heap.size w w' := by
  go_enter Tryz.func26, Tryz.ntmps26
  go_wp2
  go_region
  all_goals (go_wp2_with fail)
  all_goals exact bodyPost_ret (v := .tuple #[.agg #[.int .i64 ep, .int .i64 ct, .int .i64 sz], .bool (kd == 2)]) (by simp [results, Tryz.results26, go_sem]) rfl ⟨rfl, (((Below.refl _ _).alloc (Nat.le_refl _) _).alloc (by simp) _).drew⟩

theorem pcalls_any (b : Nat) (n : Int) (w : World) (h : w.cell? ⟨b, 4, none⟩ = some (.int .i64 n)) : Calls Tryz.prog 35 #[.pointer (some ⟨b, 0, none⟩)] w fun e w' => e = .returned (.int .i64 n) ∧ w' = w := by
  go_enter Tryz.func35, Tryz.ntmps35
  go_wp2
  go_ret
  exact ⟨rfl, rfl⟩
theorem on_any (b : Nat) (d : Bool) (w : World) (h : w.cell? ⟨b, 1, none⟩ = some (.bool d)) : Calls Tryz.prog 36 #[.pointer (some ⟨b, 0, none⟩)] w fun e w' => e = .returned (.bool (!d)) ∧ w' = w := by
  go_enter Tryz.func36, Tryz.ntmps36
  go_wp2
  go_ret
  exact ⟨rfl, rfl⟩
theorem struck_no (b : Nat) (w : World) (h : w.cell? ⟨b, 6, none⟩ = some (.pointer none)) : Calls Tryz.prog 37 #[.pointer (some ⟨b, 0, none⟩)] w fun e w' => e = .returned (.bool false) ∧ w' = w := by
  go_enter Tryz.func37, Tryz.ntmps37
  go_wp2
  go_ret
  exact ⟨rfl, rfl⟩
theorem struck_yes (b f : Nat) (r : Int) (w : World) (h : w.cell? ⟨b, 6, none⟩ = some (.pointer (some ⟨f, 0, none⟩))) (h2 : w.cell? ⟨f, 0, none⟩ = some (.int .i64 r)) : Calls Tryz.prog 37 #[.pointer (some ⟨b, 0, none⟩)] w fun e w' => e = .returned (.bool (r == 0)) ∧ w' = w := by
  go_enter Tryz.func37, Tryz.ntmps37
  go_wp2
  go_ret
  exact ⟨rfl, rfl⟩
theorem gstruck_any (v0 v1 v2 v3 v4 v7 v8 : Value) (laid : Bool) (r : Int) (w : World) : Calls Tryz.prog 38 #[.agg #[v0, v1, v2, v3, v4, .bool laid, .int .i64 r, v7, v8]] w fun e w' => e = .returned (.bool (laid && r == 0)) ∧ Below w.heap.size w w' := by
  cases laid with
  | true =>
    go_enter Tryz.func38, Tryz.ntmps38
    go_wp2
    go_ret
    exact ⟨by simp, (Below.refl _ _).alloc (Nat.le_refl _) _⟩
  | false =>
    go_enter Tryz.func38, Tryz.ntmps38
    go_wp2
    go_ret
    exact ⟨by simp, (Below.refl _ _).alloc (Nat.le_refl _) _⟩
theorem ppending_any (b : Nat) (A : Option Addr) (n c : Nat) (w : World) (h : w.cell? ⟨b, 4, none⟩ = some (.slice A n c)) : Calls Tryz.prog 33 #[.pointer (some ⟨b, 0, none⟩)] w fun e w' => e = .returned (.int .i64 (n : Int)) ∧ w' = w := by
  go_enter Tryz.func33, Tryz.ntmps33
  go_wp2
  go_ret
  exact ⟨rfl, rfl⟩
theorem rpending_any (b : Nat) (A : Option Addr) (n c : Nat) (w : World) (h : w.cell? ⟨b, 4, none⟩ = some (.slice A n c)) : Calls Tryz.prog 34 #[.pointer (some ⟨b, 0, none⟩)] w fun e w' => e = .returned (.int .i64 (n : Int)) ∧ w' = w := by
  go_enter Tryz.func34, Tryz.ntmps34
  go_wp2
  go_ret
  exact ⟨rfl, rfl⟩
/-- The document's look-up of a name that is there. -/
theorem rat_yes (b : Nat) (nv : Value) (es : List En) (nm : ByteArray) (i : Nat) (hl : es.length ≤ 1099511627776) (w : World) (S : Nat → Prop) (h : w.cell? ⟨b, 2, none⟩ = some nv) (hs : Sl w S 2 eC nv es) (hn : namedB nm = true) (hi : findZ es nm = (i : Int)) :
    Calls Tryz.prog 65 #[.pointer (some ⟨b, 0, none⟩), .string nm] w fun e w' => e = .returned (.tuple #[.int .i64 (i : Int), .int .i64 0]) ∧ w' = w := by
  have cNm : ∀ wx, Calls Tryz.prog 42 #[.string nm] wx fun e w' => e = .returned (.bool true) ∧ wx = w' := fun wx => (rnamed_any nm wx).mono fun _ _ h => ⟨by rw [h.1]; exact congrArg (fun z => Ending.returned (.bool z)) hn, h.2.symm⟩
  have cF : Calls Tryz.prog 43 #[nv, .string nm] w fun e w' => e = .returned (.int .i64 (i : Int)) ∧ w = w' := (find_any nv es nm hl w S hs).mono fun _ _ h => ⟨by rw [h.1, hi], h.2.symm⟩
  have hi0 : (0 : Int) ≤ (i : Int) := by omega
  obtain ⟨A, c, rfl, _⟩ := hs
  clear hn hi
  go_enter Tryz.func65, Tryz.ntmps65
  go_wp2_with (first
    | (go_at_call 42; refine (cNm _).mono ?_; rintro e w' ⟨rfl, rfl⟩)
    | (go_at_call 43; refine cF.mono ?_; rintro e w' ⟨rfl, rfl⟩))
  go_ret2
  exact ⟨rfl, rfl⟩
/-- The document's Loose of a name whose body is whole safe. -/
theorem rloose_yes (b : Nat) (bv nv : Value) (bs : List Bd) (es : List En) (nm : ByteArray) (i : Nat) (hl : es.length ≤ 1099511627776) (w : World) (S : Nat → Prop) (h1 : w.cell? ⟨b, 1, none⟩ = some bv) (h : w.cell? ⟨b, 2, none⟩ = some nv) (hb : Sl w S 2 bdC bv bs) (hs : Sl w S 2 eC nv es) (hn : namedB nm = true) (hi : findZ es nm = (i : Int)) (hib : i < bs.length) (hyb : ∀ x ∈ bs, By w S x.val x.data) :
    Calls Tryz.prog 40 #[.pointer (some ⟨b, 0, none⟩), .string nm] w fun e w' => e = .returned (.tuple #[.int .i64 0, .int .i64 0]) ∧ ∃ m, w' = w.drewN m := by
  have cA : Calls Tryz.prog 65 #[.pointer (some ⟨b, 0, none⟩), .string nm] w fun e w' => e = .returned (.tuple #[.int .i64 (i : Int), .int .i64 0]) ∧ w = w' := (rat_yes b nv es nm i hl w S h hs hn hi).mono fun _ _ h => ⟨h.1, h.2.symm⟩
  obtain ⟨x, hx⟩ : ∃ x, bs[i]? = some x := ⟨_, List.getElem?_eq_getElem hib⟩
  obtain ⟨A, c, rfl, hc⟩ := hb
  obtain ⟨g, o, rfl, _, hcs⟩ := hc (by intro e; rw [e] at hx; simp at hx)
  obtain ⟨A2, c2, hv, _⟩ := (hyb x (List.mem_of_getElem? hx)).1
  have e1 : w.cell? ⟨g, o + i * 2, none⟩ = some (.slice A2 x.data.length c2) := by rw [← hv]; exact hcs i x hx 0 _ rfl
  have e2 : w.cell? ⟨g, o + i * 2 + 1, none⟩ = some (.int .i64 (x.data.length : Int)) := hcs i x hx 1 _ rfl
  have hi0 : (0 : Int) ≤ (i : Int) := by omega
  have hi1 : (i : Int) < (bs.length : Int) := by omega
  obtain ⟨d, hd⟩ : ∃ d, x.data.length = d := ⟨_, rfl⟩
  rw [hd] at e1 e2
  clear hn hi hcs hc hx hv hs hd h hyb
  go_enter Tryz.func40, Tryz.ntmps40
  go_wp2_with (go_at_call 65; refine cA.mono ?_; rintro e w' ⟨rfl, rfl⟩)
  go_quiet (fail)
  go_wp2
  go_ret2
  exact ⟨by simp, _, rfl⟩
end Go.Proofs.YtiaecfdfjhjgiaaGreat.hp
