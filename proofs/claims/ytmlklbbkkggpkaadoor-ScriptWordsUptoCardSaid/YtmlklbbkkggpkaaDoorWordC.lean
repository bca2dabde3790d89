/- Contracts: strings.IndexRune and strings.IndexAny at the two blanks, every string; script.bare. -/
import Derived.Test.YtmlklbbkkggpkaaDoorShowR
import Derived.Test.YtmlklbbkkggpkaaDoorWordR
import Derived.Test.YtmlklbbkkggpkaaDoorWordA
import Derived.Lib.IndexLaws
namespace Go.Proofs.YtmlklbbkkggpkaaDoor.show_
open Go.RowKit kit
set_option linter.unusedVariables false

def bl2 : ByteArray := ⟨#[32, 9]⟩

theorem idx_neg2 (L : List UInt8) : (Lib.indexByte L 34 < 0) ↔ hasQ L = false := by
  induction L with
  | nil => simp [Lib.indexByte, hasQ]
  | cons b L ih =>
    have hg := Lib.indexByte_ge L 34
    unfold Lib.indexByte
    by_cases hb : (b == 34) = true
    · rw [if_pos hb]
      simp [hasQ] at *
      simp [hb]
    · have hb' : (b == 34) = false := by simpa using hb
      rw [if_neg hb]
      have e : hasQ (b :: L) = hasQ L := by simp [hasQ, hb']
      rw [e, ← ih]
      by_cases h1 : (Lib.indexByte L 34 == -1) = true
      · rw [if_pos h1]
        have : Lib.indexByte L 34 = -1 := by simpa using h1
        omega
      · rw [if_neg h1]
        have : Lib.indexByte L 34 ≠ -1 := by simpa using h1
        omega

/-- Where the first blank stands; -1: there is none. -/
def ixW (L : List UInt8) : Int := if (headW L).length < L.length then ((headW L).length : Int) else -1
theorem nb_iff (b : UInt8) : nb b = !([32, 9].contains b : Bool) := by
  unfold nb blankN
  have h : ∀ c : UInt8, (b.toNat == c.toNat) = (b == c) := fun c => by
    rw [Bool.eq_iff_iff]
    simp [UInt8.toNat_inj]
  have h1 := h 32
  have h2 := h 9
  have e1 : (32 : UInt8).toNat = 32 := rfl
  have e2 : (9 : UInt8).toNat = 9 := rfl
  rw [e1] at h1
  rw [e2] at h2
  rw [h1, h2]
  by_cases a1 : b = 32 <;> by_cases a2 : b = 9 <;> simp [a1, a2]
theorem indexAny_ix (L : List UInt8) : Lib.indexAny L [32, 9] = ixW L := by
  induction L with
  | nil => rfl
  | cons b L ih =>
    unfold Lib.indexAny
    rw [ih]
    have hn := nb_iff b
    have hl := headW_len L
    unfold ixW
    by_cases h : ([32, 9].contains b : Bool) = true
    · rw [if_pos h]
      rw [h] at hn
      have e : headW (b :: L) = [] := by simp [headW, List.takeWhile, hn]
      rw [e]
      simp
    · have h' : ([32, 9].contains b : Bool) = false := by simpa using h
      rw [if_neg h]
      rw [h'] at hn
      have e : headW (b :: L) = b :: headW L := by simp [headW, List.takeWhile, hn]
      rw [e]
      rw [List.length_cons, List.length_cons]
      generalize (headW L).length = m at *
      generalize L.length = n at *
      by_cases h2 : m < n
      · rw [if_pos h2, if_pos (show m + 1 < n + 1 by omega), if_neg (by simp)]
        omega
      · rw [if_neg h2, if_neg (show ¬ m + 1 < n + 1 by omega)]
        rfl
theorem dec_head (D : List UInt8) (hD : D ≠ []) (r wd : Nat) (h : decL D = (r, wd)) : 1 ≤ wd ∧ wd ≤ D.length ∧ (if r = 32 ∨ r = 9 then headW D = [] else headW D = D.take wd ++ headW (D.drop wd)) := by
  obtain ⟨a, t, rfl⟩ := List.exists_cons_of_ne_nil hD
  have hadv := decL_adv (a :: t) (by simp)
  rw [h] at hadv
  refine ⟨hadv.1, hadv.2, ?_⟩
  by_cases ha : a.toNat < 128
  · have hd : decL (a :: t) = (a.toNat, 1) := by rw [decL_eq, letL_ascii a t ha]; rfl
    rw [hd] at h
    obtain ⟨rfl, rfl⟩ := Prod.mk.inj h
    by_cases hr : a.toNat = 32 ∨ a.toNat = 9
    · rw [if_pos hr]
      have : nb a = false := by unfold nb blankN; rcases hr with h | h <;> rw [h] <;> rfl
      simp [headW, List.takeWhile, this]
    · rw [if_neg hr]
      have : nb a = true := by unfold nb blankN; simp; omega
      simp [headW, List.takeWhile, this]
  · have hall : ∀ b ∈ (a :: t).take wd, nb b = true ∧ 128 ≤ r := by
      by_cases h0 : (letL (a :: t)).2 = 0
      · have hd : decL (a :: t) = (65533, 1) := by rw [decL_eq, if_pos h0]
        rw [hd] at h
        obtain ⟨rfl, rfl⟩ := Prod.mk.inj h
        intro b hb
        simp only [List.take_succ_cons, List.take_zero, List.mem_cons, List.not_mem_nil, or_false] at hb
        subst hb
        refine ⟨?_, by omega⟩
        unfold nb blankN
        simp
        omega
      · have hd : decL (a :: t) = letL (a :: t) := by rw [decL_eq, if_neg h0]
        rw [hd] at h
        have hw := letL_wide a t r wd h (by rw [h] at h0; exact h0) ha
        obtain ⟨_, _, _, henc, _, hmax, _⟩ := let_enc _ r wd h (by simp) (by rw [h] at h0; exact h0)
        intro b hb
        refine ⟨?_, hw.1⟩
        have h92 := b
        rw [← henc] at hb
        unfold Lib.encodeRune at hb
        rw [List.mem_map] at hb
        obtain ⟨x, hx, rfl⟩ := hb
        have hx2 : 128 ≤ x ∧ x < 256 := by
          refine ⟨?_, (Lib.encodeRuneZ_byte _ x hx).2⟩
          unfold Lib.encodeRuneZ at hx
          rw [if_neg (by omega)] at hx
          repeat' split at hx
          all_goals (simp at hx; omega)
        have : x.toNat.toUInt8.toNat = x.toNat := by
          rw [Nat.toUInt8_eq, UInt8.toNat_ofNat_of_lt' (by show x.toNat < 256; omega)]
        unfold nb blankN
        rw [this]
        simp
        omega
    have h128 : 128 ≤ r := (hall a (by
      obtain ⟨k, hk⟩ : ∃ k, wd = k + 1 := ⟨wd - 1, by omega⟩
      rw [hk, List.take_succ_cons]
      exact List.mem_cons_self)).2
    rw [if_neg (by omega)]
    have key : ∀ (P R : List UInt8), (∀ b ∈ P, nb b = true) → headW (P ++ R) = P ++ headW R := by
      intro P R
      induction P with
      | nil => intro _; rfl
      | cons b P ih =>
        intro hb
        have h1 : nb b = true := hb b (by simp)
        have h2 := ih (fun c hc => hb c (by simp [hc]))
        show (b :: (P ++ R)).takeWhile nb = _
        rw [List.takeWhile_cons, if_pos h1]
        show b :: headW (P ++ R) = _
        rw [h2]
        rfl
    have := key ((a :: t).take wd) ((a :: t).drop wd) (fun b hb => (hall b hb).1)
    rw [List.take_append_drop] at this
    exact this

/-- What IndexRune says of the two blanks. -/
def ixR (r : Nat) : Int := if r = 32 then 0 else if r = 9 then 1 else -1

theorem bl_data : bl2.data.toList = [32, 9] := rfl
theorem idxr_small : ∀ r : Nat, r < 128 → Lib.indexByte [32, 9] ((r : Int).toNat.toUInt8) = ixR r := by decide

set_option maxRecDepth 1000000 in
set_option maxHeartbeats 1000000 in
theorem idxr_fffd (s : ByteArray) (hs : s.size = 2) (h0 : (s[0]'(by omega)).toNat = 32) (h1 : (s[1]'(by omega)).toNat = 9) (w : World) :
    Calls Tryd.prog 30 #[.string s, .int .i32 65533] w fun e w' => e = .returned (.int .i64 (-1)) ∧ Below w.heap.size w w' := by
  have HS := Lib.hid hs
  go_enter Tryd.func30, Tryd.ntmps30
  go_wp2
  go_loopw [4] (fun _ wr => ∃ pos : Nat, pos ≤ s.size ∧ wr.heap[w.heap.size]? = some (.stringIter s pos) ∧ Below w.heap.size w wr) (fun _ wr => s.size - wr.iterPos w.heap.size)
  case atStart => exact ⟨0, by omega, World.iter_heap w s 0, (Below.refl _ _).alloc (Nat.le_refl _) _⟩
  case round =>
    obtain ⟨pos, hpz, hit, hbw⟩ := hrel
    have hpos0 := iterPos_of hit
    by_cases hp : pos < s.size
    · have hc : (s[pos]'hp).toNat = 32 ∨ (s[pos]'hp).toNat = 9 := by
        rcases (show pos = 0 ∨ pos = 1 by omega) with rfl | rfl
        · exact Or.inl h0
        · exact Or.inr h1
      have hnx : ∀ ty, (Instr.next (.pointer (some ⟨w.heap.size, 0, none⟩)) true ty).run Tryd.prog wr = _ := fun ty => Lib.run_next_ascii_at wr w.heap.size s pos ty hit hp (by omega)
      have hit2 := Lib.iterAt_heap wr w.heap.size s pos (pos + 1) hit
      have hbw2 := Lib.below_iterAt hbw (k := w.heap.size) (Nat.le_refl _) s (pos + 1)
      obtain ⟨W1, hW1⟩ : ∃ W1, W1 = wr.iterAt w.heap.size s (pos + 1) := ⟨_, rfl⟩
      rw [← hW1] at hnx hit2 hbw2
      have HIT := Lib.hid hit2; have HBW := Lib.hid hbw2
      obtain ⟨c, hcc⟩ : ∃ c, (s[pos]'hp).toNat = c := ⟨_, rfl⟩
      rw [hcc] at hnx hc
      have e0 : ((c : Int) == 65533) = false := by simp; omega
      clear hW1 hit hbw hit2 hbw2 hcc h0 h1
      go_wp2
      go_roundw
      case rel => exact ⟨pos + 1, by omega, HIT.out, HBW.out⟩
      case measure => rw [iterPos_of HIT.out, hpos0]; omega
    · have hnx : ∀ ty, (Instr.next (.pointer (some ⟨w.heap.size, 0, none⟩)) true ty).run Tryd.prog wr = _ := fun ty => Lib.run_next_end_at wr w.heap.size s pos ty hit hp
      go_wp2
      go_ret
      exact ⟨rfl, hbw⟩

set_option maxRecDepth 1000000 in
set_option maxHeartbeats 1000000 in
theorem idxr_bad (s : ByteArray) (r : Nat) (h1 : 128 ≤ r) (h2 : r ≠ 65533) (hv : Lib.validRune (r : Int) = false) (w : World) :
    Calls Tryd.prog 30 #[.string s, .int .i32 r] w fun e w' => e = .returned (.int .i64 (-1)) ∧ Below w.heap.size w w' := by
  have cV : ∀ wx, Calls Tryd.prog 38 #[.int .i32 (r : Int)] wx fun e w' => e = .returned (.bool false) ∧ wx = w' := fun wx => (Tryd.utf8_ValidRune r wx).mono fun _ _ h => ⟨by rw [h.1, hv], h.2.symm⟩
  have e0 : ((r : Int) == 65533) = false := by simp; omega
  have e1 : decide ((r : Int) < 128) = false := by simp; omega
  clear hv
  go_enter Tryd.func30, Tryd.ntmps30
  go_wp2_with (go_at_call 38; refine (cV _).mono ?_; rintro e w' ⟨rfl, rfl⟩)
  go_ret
  exact ⟨rfl, Below.refl _ _⟩

theorem byte_wide (n : Nat) (h1 : 128 ≤ n) (h2 : n < 256) : 128 ≤ (UInt8.ofNat n).toNat := by
  rw [UInt8.toNat_ofNat_of_lt' (by show n < 256; omega)]
  exact h1
theorem arr_wide (l : List UInt8) (h2 : 2 ≤ l.length) (h4 : l.length ≤ 4) (hb : ∀ b ∈ l, 128 ≤ b.toNat) : 2 ≤ (⟨l.toArray⟩ : ByteArray).size ∧ (⟨l.toArray⟩ : ByteArray).size ≤ 4 ∧ ∀ b ∈ (⟨l.toArray⟩ : ByteArray).data.toList, 128 ≤ b.toNat := ⟨h2, h4, hb⟩
def PW (E : ByteArray) : Prop := 2 ≤ E.size ∧ E.size ≤ 4 ∧ ∀ b ∈ E.data.toList, 128 ≤ b.toNat
theorem p2 (x y : Nat) (hx : 128 ≤ x ∧ x < 256) (hy : 128 ≤ y ∧ y < 256) : PW ⟨#[UInt8.ofNat x, UInt8.ofNat y]⟩ := by
  refine arr_wide [_, _] (by simp) (by simp) ?_
  simp only [List.mem_cons, List.not_mem_nil, or_false]
  rintro b (rfl | rfl)
  · exact byte_wide _ hx.1 hx.2
  · exact byte_wide _ hy.1 hy.2
theorem p3 (x y z : Nat) (hx : 128 ≤ x ∧ x < 256) (hy : 128 ≤ y ∧ y < 256) (hz : 128 ≤ z ∧ z < 256) : PW ⟨#[UInt8.ofNat x, UInt8.ofNat y, UInt8.ofNat z]⟩ := by
  refine arr_wide [_, _, _] (by simp) (by simp) ?_
  simp only [List.mem_cons, List.not_mem_nil, or_false]
  rintro b (rfl | rfl | rfl)
  · exact byte_wide _ hx.1 hx.2
  · exact byte_wide _ hy.1 hy.2
  · exact byte_wide _ hz.1 hz.2
theorem p4 (x y z u : Nat) (hx : 128 ≤ x ∧ x < 256) (hy : 128 ≤ y ∧ y < 256) (hz : 128 ≤ z ∧ z < 256) (hu : 128 ≤ u ∧ u < 256) : PW ⟨#[UInt8.ofNat x, UInt8.ofNat y, UInt8.ofNat z, UInt8.ofNat u]⟩ := by
  refine arr_wide [_, _, _, _] (by simp) (by simp) ?_
  simp only [List.mem_cons, List.not_mem_nil, or_false]
  rintro b (rfl | rfl | rfl | rfl)
  · exact byte_wide _ hx.1 hx.2
  · exact byte_wide _ hy.1 hy.2
  · exact byte_wide _ hz.1 hz.2
  · exact byte_wide _ hu.1 hu.2
theorem enc_of (r : Nat) (hv : Utf8.valid (r : Int) = true) : Utf8.encode (r : Int) = (if r < 0x80 then ⟨#[UInt8.ofNat r]⟩
  else if r < 0x800 then ⟨#[UInt8.ofNat (0xC0 + r / 64), UInt8.ofNat (0x80 + r % 64)]⟩
  else if r < 0x10000 then ⟨#[UInt8.ofNat (0xE0 + r / 4096), UInt8.ofNat (0x80 + r / 64 % 64), UInt8.ofNat (0x80 + r % 64)]⟩
  else ⟨#[UInt8.ofNat (0xF0 + r / 262144), UInt8.ofNat (0x80 + r / 4096 % 64), UInt8.ofNat (0x80 + r / 64 % 64), UInt8.ofNat (0x80 + r % 64)]⟩) := by
  unfold Utf8.encode
  rw [if_pos hv]
  rfl
theorem enc_wide (r : Nat) (h1 : 128 ≤ r) (hv : Utf8.valid (r : Int) = true) (hr : r ≤ 1114111) : PW (Utf8.encode (r : Int)) := by
  rw [enc_of r hv, if_neg (by omega)]
  split
  · exact p2 _ _ (by omega) (by omega)
  · split
    · exact p3 _ _ _ (by omega) (by omega) (by omega)
    · exact p4 _ _ _ _ (by omega) (by omega) (by omega) (by omega)

set_option maxRecDepth 1000000 in
set_option maxHeartbeats 1000000 in
theorem idxr_wide (s : ByteArray) (hs : s.size = 2) (h1' : (s[1]'(by omega)).toNat = 9) (r : Nat) (h1 : 128 ≤ r) (h2 : r ≠ 65533) (hr : r ≤ 1114111) (hv : Lib.validRune (r : Int) = true) (w : World) :
    Calls Tryd.prog 30 #[.string s, .int .i32 r] w fun e w' => e = .returned (.int .i64 (-1)) ∧ Below w.heap.size w w' := by
  have cV : ∀ wx, Calls Tryd.prog 38 #[.int .i32 (r : Int)] wx fun e w' => e = .returned (.bool true) ∧ wx = w' := fun wx => (Tryd.utf8_ValidRune r wx).mono fun _ _ h => ⟨by rw [h.1, hv], h.2.symm⟩
  have e0 : ((r : Int) == 65533) = false := by simp; omega
  have e1 : decide ((r : Int) < 128) = false := by simp; omega
  obtain ⟨E, hE⟩ : ∃ E, Utf8.encode (r : Int) = E := ⟨_, rfl⟩
  have hl := enc_wide r h1 (by
    unfold Lib.validRune at hv
    unfold Utf8.valid
    simp at hv ⊢
    omega) hr
  rw [hE] at hl
  obtain ⟨l2, l4, lw⟩ := hl
  clear hv
  by_cases l3 : 3 ≤ E.size
  · clear lw
    go_enter Tryd.func30, Tryd.ntmps30
    go_wp2_with (go_at_call 38; refine (cV _).mono ?_; rintro e w' ⟨rfl, rfl⟩)
    go_step3
    go_wp2
    go_loop [4, 9] (fun _ i => i = .int .i64 ((E.size : Int) - 1)) (fun _ _ => 0)
    case atStart => rfl
    case round =>
      obtain rfl := hrel
      go_wp2
      go_ret
      exact ⟨rfl, Below.refl _ _⟩
  · have l2' : E.size = 2 := by omega
    have h1E : 1 < E.size := by omega
    have h1s : 1 < s.size := by omega
    obtain ⟨b, hb⟩ : ∃ b, (E[1]'h1E) = b := ⟨_, rfl⟩
    have hE1 : 128 ≤ b.toNat := lw _ (by
      have := Lib.data_getElem? E 1 (by omega)
      rw [hb] at this
      exact List.mem_of_getElem? this)
    have hes : (E.size : Int) - 1 = 1 := by omega
    have hne : ((9 : Int) != (b.toNat : Int)) = true := by simp; omega
    clear lw l3 l2 l4 l2'
    go_enter Tryd.func30, Tryd.ntmps30
    go_wp2_with (go_at_call 38; refine (cV _).mono ?_; rintro e w' ⟨rfl, rfl⟩)
    go_step3
    go_wp2
    go_loop [4, 9] (fun _ i => i = .int .i64 1) (fun _ _ => 0)
    case atStart => rfl
    case round =>
      obtain rfl := hrel
      have cI : ∀ (c : Int) (wx : World), Calls Tryd.prog 21 #[.string ByteArray.empty, .int .u8 c] wx fun e w' => e = .returned (.int .i64 (-1)) ∧ w' = wx := fun c wx => Tryd.strings_IndexByte ByteArray.empty c wx
      go_wp2
      go_step3
      go_wp2
      go_quiet (fail)
      have hb1 := Lib.hid (below_drewN (Below.refl w.heap.size w) nq)
      generalize w.drewN nq = W1 at *
      go_wp2
      have hw2 : IntKind.i64.wrap 2 = 2 := by decide
      have hEi : (1 : Int) < (E.size : Int) := by omega
      go_quiet ((go_at_call 21; exact Calls.quiet_of_same (cI _ _)))
      go_wp2
      rw [Exit.noGoto_ret]
      simp +zetaDelta only [Exit.inBlock, Exit.noGoto_ret, Exit.then]
      go_ret
      exact ⟨rfl, below_drewN hb1.out _⟩
end Go.Proofs.YtmlklbbkkggpkaaDoor.show_
