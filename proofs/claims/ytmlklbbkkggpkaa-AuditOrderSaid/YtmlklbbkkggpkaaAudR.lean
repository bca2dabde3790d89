/- The walk of AuditOrder, list not empty. -/
import Derived.Test.YtmlklbbkkggpkaaAudQ
import Derived.Deep.RegionHeld3
import Derived.Deep.DeepCutAuto
namespace Go.Proofs.Ytmlklbbkkggpkaa.aud
open Go.RowKit kit
set_option linter.unusedVariables false

set_option maxRecDepth 100000 in
theorem order_none (A : Option Addr) (c : Nat) (w : World) :
    Calls Try.prog 7 #[.slice A 0 c] w fun e w' => e = .returned (.bool true) ∧ Below w.heap.size w w' := by
  go_enter Try.func7, Try.ntmps7
  go_wp2_with fail
  refine (worst_none A c _).mono ?_
  rintro e w1 ⟨rfl, hb1⟩
  have HB := Lib.hid hb1; clear hb1
  unfold Fd.val Fd.zero
  go_wp2
  go_ret
  exact ⟨rfl, HB.out.alloc HB.out.size _⟩

/-- Two findings, compared. -/
def fdEq (a b : Fd) : Bool := a.key.toList == b.key.toList && ((a.kind == b.kind) && ((a.epoch == b.epoch) && ((a.count == b.count) && ((a.whole == b.whole) && ((a.stale == b.stale) && ((a.spoilt == b.spoilt) && (a.silent == b.silent)))))))
theorem fd_eql (a b : Fd) (w : World) : (binOp .eql 27 a.val b.val).run Try.prog w = .ok (.bool (fdEq a b)) w := by
  unfold Fd.val fdEq
  go_simp
  by_cases h1 : a.key.toList = b.key.toList <;> simp only [h1, if_true, if_false]
  · by_cases h2 : a.kind = b.kind <;> simp [h2]
    by_cases h3 : a.epoch = b.epoch <;> simp [h3]
    by_cases h4 : a.count = b.count <;> simp [h4]
    by_cases h5 : a.whole = b.whole <;> simp [h5]
    by_cases h6 : a.stale = b.stale <;> simp [h6]
    by_cases h7 : a.spoilt = b.spoilt <;> simp [h7]
    by_cases h8 : a.silent = b.silent <;> simp [h8]
  · simp [h1]
theorem fdEq_self (a : Fd) : fdEq a a = true := by simp [fdEq]

theorem cell_fd_new (w : World) (x : Fd) : ∀ j u, x.cs.toList[j]? = some u → (w.alloc (.cells x.cs 27)).cell? ((⟨w.heap.size, 0, none⟩ : Addr).add j) = some u := by
  intro j u hu
  have h := (Bk.mk_new w 27 x.cs).cell j
  have e : (⟨w.heap.size, 0, none⟩ : Addr).add j = ⟨w.heap.size, j, none⟩ := by
    unfold Addr.add
    split <;> simp_all
  rw [e, h, ← hu]
  simp
theorem one_fd (x : Fd) : ∀ u ∈ x.cs.toList, u.oneCell' = true := by
  have := one_cells [x]
  simpa [fcs] using this
theorem fcs_snoc (l : List Fd) (x : Fd) : fcs l ++ x.cs.toList = fcs (l ++ [x]) := by simp [fcs]

theorem own_drewN {w : World} {base : Nat} {e : TypeId} {size : Nat} {v : Value} {n : Nat} {xs : List Value} (h : w.ownsRow base e size v n xs) (k : Nat) : (w.drewN k).ownsRow base e size v n xs := h

theorem at_new (w : World) (x : Fd) : FdAt (w.alloc (.cells x.cs 27)) w.heap.size 0 [x] := fun i a hi => by
  match i, hi with
  | 0, hi =>
    have : x = a := by simpa using hi
    subst this
    exact FdCells.of_bk (Bk.mk_new w 27 x.cs)

/-- What holds at the head of the round: k findings are still to come, from behind. -/
def OrdRel (w : World) (L : List Fd) (m : Fd) (g : Nat) (v5 v6 v7 v8 : Value) (wr : World) : Prop :=
  ∃ (k : Nat) (f u : Bool), k ≤ L.length ∧ v8 = .int .i64 ((k : Int) - 1) ∧ v6 = .bool f ∧ v7 = .bool u ∧ (m ∈ L.drop k → f = true) ∧ (u = true → m.kind = 2) ∧
    wr.ownsRow (g + 1) 27 8 v5 (L.length - k) (fcs (L.drop k).reverse) ∧ Bk wr g 27 m.cs ∧ Below g w wr

theorem worst_pair (g : Nat) (m a : Fd) (w0 W : World) (hmin : worseR a m = false) (hS : Below w0.heap.size w0 W) (hg : g < W.heap.size) (hl : W.cell? ⟨g, 0, none⟩ = some (.string m.key) ∧ W.cell? ⟨g, 1, none⟩ = some (.int .i64 m.kind) ∧ W.cell? ⟨g, 2, none⟩ = some (.int .i64 m.epoch) ∧ W.cell? ⟨g, 3, none⟩ = some (.int .i64 m.count) ∧ W.cell? ⟨g, 4, none⟩ = some (.int .i64 m.whole) ∧ W.cell? ⟨g, 5, none⟩ = some (.int .i64 m.stale) ∧ W.cell? ⟨g, 6, none⟩ = some (.int .i64 m.spoilt) ∧ W.cell? ⟨g, 7, none⟩ = some (.int .i64 m.silent) ∧ W.cell? ⟨g, 8, none⟩ = some (.string a.key) ∧ W.cell? ⟨g, 9, none⟩ = some (.int .i64 a.kind) ∧ W.cell? ⟨g, 10, none⟩ = some (.int .i64 a.epoch) ∧ W.cell? ⟨g, 11, none⟩ = some (.int .i64 a.count) ∧ W.cell? ⟨g, 12, none⟩ = some (.int .i64 a.whole) ∧ W.cell? ⟨g, 13, none⟩ = some (.int .i64 a.stale) ∧ W.cell? ⟨g, 14, none⟩ = some (.int .i64 a.spoilt) ∧ W.cell? ⟨g, 15, none⟩ = some (.int .i64 a.silent)) :
    Calls Try.prog 10 #[.slice (some ⟨g, 0, none⟩) 2 2] W fun e w' => e = .returned (.tuple #[.agg #[.string m.key, .int .i64 m.kind, .int .i64 m.epoch, .int .i64 m.count, .int .i64 m.whole, .int .i64 m.stale, .int .i64 m.spoilt, .int .i64 m.silent], .bool true]) ∧ Below w0.heap.size w0 w' ∧ (∀ b o, b < W.heap.size → w'.cell? ⟨b, o, none⟩ = W.cell? ⟨b, o, none⟩) ∧ (∀ b o, b < W.heap.size → w'.frozen? ⟨b, o, none⟩ = W.frozen? ⟨b, o, none⟩) ∧ W.heap.size ≤ w'.heap.size ∧ Below W.heap.size W w' := by
  obtain ⟨k0, k1, k2, k3, k4, k5, k6, k7, l0, l1, l2, l3, l4, l5, l6, l7⟩ := hl
  have hl : FdAt W g 0 [m, a] := fun i y hi => by
    match i, hi with
    | 0, hi =>
      have : m = y := by simpa using hi
      subst this
      exact ⟨k0, k1, k2, k3, k4, k5, k6, k7⟩
    | 1, hi =>
      have : a = y := by simpa using hi
      subst this
      exact ⟨l0, l1, l2, l3, l4, l5, l6, l7⟩
  refine (worst_some g 0 m [a] 2 2 W rfl (by omega) hg hl).mono ?_
  rintro e w' ⟨he, hb'⟩
  have hm : minF m [a] = m := by
    show (if worseZ a m < 0 then a else m) = m
    rw [if_neg (fun h => by rw [(worse_iff a m).1 h] at hmin; cases hmin)]
  rw [hm] at he
  exact ⟨he, hS.trans (hb'.mono hS.size), fun b o h => hb'.cell (p := ⟨b, o, none⟩) h, fun b o h => hb'.frozen (p := ⟨b, o, none⟩) h, hb'.size, hb'⟩
theorem sB_drew {w0 X : World} (h : Below w0.heap.size w0 X) : Below w0.heap.size w0 X.drew := h.drew
theorem sB_alloc {w0 X : World} (h : Below w0.heap.size w0 X) (o : Obj) : Below w0.heap.size w0 (X.alloc o) := h.alloc h.size o
theorem sB_set {w0 X : World} (h : Below w0.heap.size w0 X) (p : Addr) (u : Value) (hp : w0.heap.size ≤ p.block) : Below w0.heap.size w0 (X.setCell p u) := h.setCell hp u

/-- What stands behind the question for the pair. -/
def OrdCut (w1 : World) (g3 g4 : Nat) (m m2 : Fd) (s13 s14 : Value) (wx : World) : Prop :=
  ∃ g : Nat, s13 = .pointer (some ⟨g, 0, none⟩) ∧ s14 = .bool true ∧ Bk wx g 27 m.cs ∧ Bk wx w1.heap.size 27 m.cs ∧ Bk wx g3 27 m2.cs ∧ Bk wx g4 27 m.cs ∧ Below w1.heap.size w1 wx

section
variable {w1 W4 w5 : World} {g g3 g4 : Nat} {m m2 : Fd}
theorem cut_new (hb : Below W4.heap.size W4 w5) (hk : Bk W4 w1.heap.size 27 m.cs) (hq : w1.heap.size < W4.heap.size) (hm : Bk W4 g3 27 m2.cs) (h3 : g3 < W4.heap.size) (hn : Bk W4 g4 27 m.cs) (h4 : g4 < W4.heap.size)
    (hB : Below w1.heap.size w1 W4) (hle : w1.heap.size ≤ W4.heap.size) : OrdCut w1 g3 g4 m m2 (.pointer (some ⟨w5.heap.size, 0, none⟩)) (.bool true) (w5.alloc (.cells #[.string m.key, .int .i64 m.kind, .int .i64 m.epoch, .int .i64 m.count, .int .i64 m.whole, .int .i64 m.stale, .int .i64 m.spoilt, .int .i64 m.silent] 27)) :=
  ⟨_, rfl, rfl, Bk.mk_new w5 27 m.cs, (hk.below hb hq).alloc _, (hm.below hb h3).alloc _, (hn.below hb h4).alloc _, (hB.trans (hb.mono hle)).alloc (Nat.le_trans hle hb.size) _⟩
theorem cut_set (hb : Below W4.heap.size W4 w5) (hz : Bk w5 g 27 Fd.zero.cs) (hg : W4.heap.size ≤ g) (hk : Bk W4 w1.heap.size 27 m.cs) (hq : w1.heap.size < W4.heap.size) (hm : Bk W4 g3 27 m2.cs) (h3 : g3 < W4.heap.size) (hn : Bk W4 g4 27 m.cs) (h4 : g4 < W4.heap.size)
    (hB : Below w1.heap.size w1 W4) (hle : w1.heap.size ≤ W4.heap.size) : OrdCut w1 g3 g4 m m2 (.pointer (some ⟨g, 0, none⟩)) (.bool true) ((((((((w5.setCell ⟨g, 0, none⟩ (.string m.key)).setCell ⟨g, 1, none⟩ (.int .i64 m.kind)).setCell ⟨g, 2, none⟩ (.int .i64 m.epoch)).setCell ⟨g, 3, none⟩ (.int .i64 m.count)).setCell ⟨g, 4, none⟩ (.int .i64 m.whole)).setCell ⟨g, 5, none⟩ (.int .i64 m.stale)).setCell ⟨g, 6, none⟩ (.int .i64 m.spoilt)).setCell ⟨g, 7, none⟩ (.int .i64 m.silent)) :=
  ⟨_, rfl, rfl, bk_fd hz, bk_far (hk.below hb hq) (by omega), bk_far (hm.below hb h3) (by omega), bk_far (hn.below hb h4) (by omega), below_fd (hB.trans (hb.mono hle)) (by omega)⟩
end

set_option maxRecDepth 100000 in
set_option maxHeartbeats 4000000 in
theorem order_some (b off : Nat) (a : Fd) (l : List Fd) (n c : Nat) (w : World) (hn : (a :: l).length = n) (hm : n * 72 ≤ 140737488355328) (hb : b < w.heap.size) (hl : FdAt w b off (a :: l)) :
    Calls Try.prog 7 #[.slice (some ⟨b, off, none⟩) n c] w fun e w' => e = .returned (.bool true) ∧ Below w.heap.size w w' := by
  have h0 : ((n : Int) == 0) = false := by simp at hn; simp; omega
  have hn1 : 1 ≤ n := by simp at hn; omega
  have HN := Lib.hid hn; clear hn
  have HL := Lib.hid hl; clear hl
  go_enter Try.func7, Try.ntmps7
  go_wp2_with fail
  refine (worst_some b off a l n c _ HN.out (by omega) hb HL.out).mono ?_
  rintro e w1 ⟨rfl, hb1⟩
  have HB1 := Lib.hid hb1; clear hb1
  obtain ⟨hmm, hmw⟩ := min_mem a l
  generalize minF a l = m at *
  have HMM := Lib.hid hmm; clear hmm
  have HMW := Lib.hid hmw; clear hmw
  unfold Fd.val
  have hat : FdAt w1 b off (a :: l) := HL.out.below HB1.out hb
  have HAT := Lib.hid hat; clear hat
  have hbs : b < w1.heap.size := Nat.lt_of_lt_of_le hb HB1.out.size
  obtain ⟨i0, hi, hz0, hz1, hz2⟩ := info_parts info27
  have HI := Lib.hid hi; clear hi
  have HZ0 := Lib.hid hz0; clear hz0
  have HZ1 := Lib.hid hz1; clear hz1
  have HZ2 := Lib.hid hz2; clear hz2
  go_wp2
  generalize hL : a :: l = L at *
  have HLL := Lib.hid hL; clear hL
  go_loopw [5, 6, 7, 8] (fun v5 v6 v7 v8 wr => OrdRel w1 L m w1.heap.size v5 v6 v7 v8 wr) (fun _ _ _ i _ => (intOf i + 1).toNat)
  case atStart => 
    refine ⟨n, false, false, by rw [HN.out]; omega, rfl, rfl, rfl, ?_, by simp, ?_, Bk.mk_new _ _ _, (Below.refl _ _).alloc (Nat.le_refl _) _⟩
    · rw [List.drop_of_length_le (by rw [HN.out]; omega)]; simp
    · rw [List.drop_of_length_le (by rw [HN.out]; omega), HN.out, Nat.sub_self]; exact World.ownsRow_nil _ _ _ _
  case round =>
    obtain ⟨k, f, u, hk, rfl, rfl, rfl, hf, hu, hown, hbk, hbw⟩ := hrel
    rw [HN.out] at hk
    have HF := Lib.hid hf; clear hf
    have HU := Lib.hid hu; clear hu
    have HO := Lib.hid hown; clear hown
    have hsz : w1.heap.size < wr.heap.size := hbk.lt
    cases k with
    | zero =>
      have hf1 : f = true := HF.out (by simpa using HMM.out)
      subst hf1
      clear HF
      simp only [List.drop_zero, Nat.sub_zero] at HO
      rw [HN.out] at HO
      obtain ⟨a', l', hrev⟩ : ∃ a' l', L.reverse = a' :: l' := by
        cases hr : L.reverse with
        | nil => have := HN.out; simp at hr; subst hr; simp at this; omega
        | cons a' l' => exact ⟨a', l', rfl⟩
      rw [hrev] at HO
      obtain ⟨hm2m, hm2w⟩ := min_mem a' l'
      have hlike : (minF a' l').key.toList = m.key.toList ∧ (minF a' l').whole = m.whole ∧ sumZ (minF a' l') = sumZ m :=
        alike (HMW.out _ (by rw [← hrev] at hm2m; simpa using hm2m)) (hm2w m (by rw [← hrev]; simpa using HMM.out))
      have hrl : (a' :: l').length = n := by rw [← hrev, List.length_reverse, HN.out]
      have HRL := Lib.hid hrl; clear hrl
      have HRV := Lib.hid hrev; clear hrev
      have HLIKE := Lib.hid hlike; clear hlike hm2m hm2w
      obtain ⟨g2, cap, hv, hg2, hlt2⟩ := HO.out.form (by omega)
      subst hv
      have hsl := own_sl HO.out
      obtain ⟨b2, off2, hA, hb2, hat2⟩ := hsl (by simp)
      have HAT2 := Lib.hid hat2; clear hat2 hsl
      injection hA with hA
      injection hA with hA1 hA2
      subst hA1 hA2
      have HK := Lib.hid hbk; clear hbk
      have HW := Lib.hid hbw; clear hbw
      clear hlt2
      go_wp2_with fail
      refine (worst_some g2 0 a' l' n cap _ HRL.out (by omega) hb2 HAT2.out).mono ?_
      rintro e w3 ⟨rfl, hb3⟩
      have HB3 := Lib.hid hb3; clear hb3
      generalize minF a' l' = m2 at *
      unfold Fd.val
      have HK3 : Hid (Bk w3 w1.heap.size 27 m.cs) := Lib.hid (HK.out.below HB3.out hsz)
      obtain ⟨c0, c1, c2, c3, c4, c5, c6, c7⟩ := FdCells.of_bk HK3.out
      simp only [Nat.zero_add] at c0 c1 c2 c3 c4 c5 c6 c7
      have hsz3 : w1.heap.size < w3.heap.size := HK3.out.lt
      go_wp2_with fail
      have hat4 : FdAt ((w3.alloc (.cells m2.cs 27)).alloc (.cells m.cs 27)) (w3.heap.size + 1) 0 [m] := by
        have h := at_new (w3.alloc (.cells m2.cs 27)) m
        simpa using h
      refine (worst_some (w3.heap.size + 1) 0 m [] 1 1 _ rfl (by omega) (by simp) hat4).mono ?_
      rintro e w4 ⟨rfl, hb4⟩
      have HK4 : Hid (Bk w4 w1.heap.size 27 m.cs) := Lib.hid (((HK3.out.alloc _).alloc _).below hb4 (by simp; omega))
      have HM4 : Hid (Bk w4 w3.heap.size 27 m2.cs) := Lib.hid (((Bk.mk_new w3 27 m2.cs).alloc _).below hb4 (by simp; omega))
      have hbs4 : Below w1.heap.size w1 w4 := (((HW.out.trans (HB3.out.mono (by omega))).alloc (by omega) _).alloc (by simp; omega) _).trans (hb4.mono (by simp; omega))
      have HW4 := Lib.hid hbs4; clear hbs4 hb4 hat4
      clear c0 c1 c2 c3 c4 c5 c6 c7
      obtain ⟨c0, c1, c2, c3, c4, c5, c6, c7⟩ := FdCells.of_bk HK4.out
      simp only [Nat.zero_add] at c0 c1 c2 c3 c4 c5 c6 c7
      have HLA : Hid (L[0]? = some a) := Lib.hid (by rw [← HLL.out]; rfl)
      obtain ⟨e0, e1, e2, e3, e4, e5, e6, e7⟩ := (HAT.out 0 a HLA.out).below HW4.out hbs
      simp only [Nat.zero_mul, Nat.add_zero] at e0 e1 e2 e3 e4 e5 e6 e7
      have hsz4 : w3.heap.size < w4.heap.size := HM4.out.lt
      rw [show (minF m []).val = m.val from rfl]
      unfold Fd.val
      have hn0 : (0 : Int) < (n : Int) := by omega
      have hb4 : b < w4.heap.size := by omega
      have hq4 : w1.heap.size < w4.heap.size := by omega
      have hb41 : b < w4.heap.size + 1 := by omega
      have hq41 : w1.heap.size < w4.heap.size + 1 := by omega
      have hb42 : b < w4.heap.size + 1 + 1 := by omega
      have hq42 : w1.heap.size < w4.heap.size + 1 + 1 := by omega
      have HAM : Hid (worseR a m = false) := Lib.hid (HMW.out a (by rw [← HLL.out]; simp))
      have hn0' : 0 < n := by omega
      go_upto_region 17 with fail
      have HKX : Hid (Bk (w4.alloc (.cells #[.string m.key, .int .i64 m.kind, .int .i64 m.epoch, .int .i64 m.count, .int .i64 m.whole, .int .i64 m.stale, .int .i64 m.spoilt, .int .i64 m.silent] 27)) w1.heap.size 27 m.cs) := Lib.hid (HK4.out.alloc _)
      have HMX : Hid (Bk (w4.alloc (.cells #[.string m.key, .int .i64 m.kind, .int .i64 m.epoch, .int .i64 m.count, .int .i64 m.whole, .int .i64 m.stale, .int .i64 m.spoilt, .int .i64 m.silent] 27)) w3.heap.size 27 m2.cs) := Lib.hid (HM4.out.alloc _)
      have HNX : Hid (Bk (w4.alloc (.cells #[.string m.key, .int .i64 m.kind, .int .i64 m.epoch, .int .i64 m.count, .int .i64 m.whole, .int .i64 m.stale, .int .i64 m.spoilt, .int .i64 m.silent] 27)) w4.heap.size 27 m.cs) := Lib.hid (Bk.mk_new w4 27 m.cs)
      have HBX : Hid (Below w1.heap.size w1 (w4.alloc (.cells #[.string m.key, .int .i64 m.kind, .int .i64 m.epoch, .int .i64 m.count, .int .i64 m.whole, .int .i64 m.stale, .int .i64 m.spoilt, .int .i64 m.silent] 27))) := Lib.hid (HW4.out.alloc (by omega) _)
      have hsX : w4.heap.size < (w4.alloc (.cells #[.string m.key, .int .i64 m.kind, .int .i64 m.epoch, .int .i64 m.count, .int .i64 m.whole, .int .i64 m.stale, .int .i64 m.spoilt, .int .i64 m.silent] 27)).heap.size := by simp
      have HSX : Hid ((w4.alloc (.cells #[.string m.key, .int .i64 m.kind, .int .i64 m.epoch, .int .i64 m.count, .int .i64 m.whole, .int .i64 m.stale, .int .i64 m.spoilt, .int .i64 m.silent] 27)).heap.size = w4.heap.size + 1) := Lib.hid (by simp)
      have hbX : b < (w4.alloc (.cells #[.string m.key, .int .i64 m.kind, .int .i64 m.epoch, .int .i64 m.count, .int .i64 m.whole, .int .i64 m.stale, .int .i64 m.spoilt, .int .i64 m.silent] 27)).heap.size := by simp; omega
      have hqX : w1.heap.size < (w4.alloc (.cells #[.string m.key, .int .i64 m.kind, .int .i64 m.epoch, .int .i64 m.count, .int .i64 m.whole, .int .i64 m.stale, .int .i64 m.spoilt, .int .i64 m.silent] 27)).heap.size := by simp; omega
      clear c0 c1 c2 c3 c4 c5 c6 c7 e0 e1 e2 e3 e4 e5 e6 e7
      generalize w4.alloc (.cells #[.string m.key, .int .i64 m.kind, .int .i64 m.epoch, .int .i64 m.count, .int .i64 m.whole, .int .i64 m.stale, .int .i64 m.spoilt, .int .i64 m.silent] 27) = W4 at *
      obtain ⟨c0, c1, c2, c3, c4, c5, c6, c7⟩ := FdCells.of_bk HKX.out
      simp only [Nat.zero_add] at c0 c1 c2 c3 c4 c5 c6 c7
      obtain ⟨e0, e1, e2, e3, e4, e5, e6, e7⟩ := (HAT.out 0 a HLA.out).below HBX.out hbs
      simp only [Nat.zero_mul, Nat.add_zero] at e0 e1 e2 e3 e4 e5 e6 e7
      go_cut [13, 14] (fun s13 s14 wx => OrdCut w1 w3.heap.size w4.heap.size m m2 s13 s14 wx)
      case first =>
        have rc0 : ∀ w', Below W4.heap.size W4 w' → w'.cell? ⟨w1.heap.size, 0, none⟩ = some (.string m.key) := fun w' h => (h.cell (p := ⟨w1.heap.size, 0, none⟩) hqX).trans c0
        have rc1 : ∀ w', Below W4.heap.size W4 w' → w'.cell? ⟨w1.heap.size, 1, none⟩ = some (.int .i64 m.kind) := fun w' h => (h.cell (p := ⟨w1.heap.size, 1, none⟩) hqX).trans c1
        have rc2 : ∀ w', Below W4.heap.size W4 w' → w'.cell? ⟨w1.heap.size, 2, none⟩ = some (.int .i64 m.epoch) := fun w' h => (h.cell (p := ⟨w1.heap.size, 2, none⟩) hqX).trans c2
        have rc3 : ∀ w', Below W4.heap.size W4 w' → w'.cell? ⟨w1.heap.size, 3, none⟩ = some (.int .i64 m.count) := fun w' h => (h.cell (p := ⟨w1.heap.size, 3, none⟩) hqX).trans c3
        have rc4 : ∀ w', Below W4.heap.size W4 w' → w'.cell? ⟨w1.heap.size, 4, none⟩ = some (.int .i64 m.whole) := fun w' h => (h.cell (p := ⟨w1.heap.size, 4, none⟩) hqX).trans c4
        have rc5 : ∀ w', Below W4.heap.size W4 w' → w'.cell? ⟨w1.heap.size, 5, none⟩ = some (.int .i64 m.stale) := fun w' h => (h.cell (p := ⟨w1.heap.size, 5, none⟩) hqX).trans c5
        have rc6 : ∀ w', Below W4.heap.size W4 w' → w'.cell? ⟨w1.heap.size, 6, none⟩ = some (.int .i64 m.spoilt) := fun w' h => (h.cell (p := ⟨w1.heap.size, 6, none⟩) hqX).trans c6
        have rc7 : ∀ w', Below W4.heap.size W4 w' → w'.cell? ⟨w1.heap.size, 7, none⟩ = some (.int .i64 m.silent) := fun w' h => (h.cell (p := ⟨w1.heap.size, 7, none⟩) hqX).trans c7
        have re0 : ∀ w', Below W4.heap.size W4 w' → w'.cell? ⟨b, off, none⟩ = some (.string a.key) := fun w' h => (h.cell (p := ⟨b, off, none⟩) hbX).trans e0
        have re1 : ∀ w', Below W4.heap.size W4 w' → w'.cell? ⟨b, off + 1, none⟩ = some (.int .i64 a.kind) := fun w' h => (h.cell (p := ⟨b, off + 1, none⟩) hbX).trans e1
        have re2 : ∀ w', Below W4.heap.size W4 w' → w'.cell? ⟨b, off + 2, none⟩ = some (.int .i64 a.epoch) := fun w' h => (h.cell (p := ⟨b, off + 2, none⟩) hbX).trans e2
        have re3 : ∀ w', Below W4.heap.size W4 w' → w'.cell? ⟨b, off + 3, none⟩ = some (.int .i64 a.count) := fun w' h => (h.cell (p := ⟨b, off + 3, none⟩) hbX).trans e3
        have re4 : ∀ w', Below W4.heap.size W4 w' → w'.cell? ⟨b, off + 4, none⟩ = some (.int .i64 a.whole) := fun w' h => (h.cell (p := ⟨b, off + 4, none⟩) hbX).trans e4
        have re5 : ∀ w', Below W4.heap.size W4 w' → w'.cell? ⟨b, off + 5, none⟩ = some (.int .i64 a.stale) := fun w' h => (h.cell (p := ⟨b, off + 5, none⟩) hbX).trans e5
        have re6 : ∀ w', Below W4.heap.size W4 w' → w'.cell? ⟨b, off + 6, none⟩ = some (.int .i64 a.spoilt) := fun w' h => (h.cell (p := ⟨b, off + 6, none⟩) hbX).trans e6
        have re7 : ∀ w', Below W4.heap.size W4 w' → w'.cell? ⟨b, off + 7, none⟩ = some (.int .i64 a.silent) := fun w' h => (h.cell (p := ⟨b, off + 7, none⟩) hbX).trans e7
        clear c0 c1 c2 c3 c4 c5 c6 c7 e0 e1 e2 e3 e4 e5 e6 e7
        go_region_held3 (fun w' => Below W4.heap.size W4 w') (with_reducible (repeat (first | assumption | exact Below.refl _ _ | apply sB_drew | apply sB_alloc | (refine sB_set ?_ _ _ (by simp; try omega)))))
          (first
            | (go_at_call 10; refine (worst_pair _ m a W4 _ HAM.out ?_ ?_ ?_).mono ?_; (focus (with_reducible (repeat (first | assumption | exact Below.refl _ _ | apply sB_drew | apply sB_alloc)))); (focus (simp; try omega)); (focus (refine ⟨?_, ?_, ?_, ?_, ?_, ?_, ?_, ?_, ?_, ?_, ?_, ?_, ?_, ?_, ?_, ?_⟩ <;> go_simp)); rintro e w5 ⟨rfl, hb5, hc5, hf5, hs5, hbw5⟩))
        all_goals (go_wp2_with fail; go_meet)
        case rel => exact cut_new hb5 HKX.out hqX HMX.out (by omega) HNX.out hsX HBX.out (by omega)
        case rel =>
          have hz5 : Bk w5 (W4.heap.size + 1) 27 Fd.zero.cs := by
            have h := Bk.mk_new (W4.alloc (.cells #[.string m.key, .int .i64 m.kind, .int .i64 m.epoch, .int .i64 m.count, .int .i64 m.whole, .int .i64 m.stale, .int .i64 m.spoilt, .int .i64 m.silent, .string a.key, .int .i64 a.kind, .int .i64 a.epoch, .int .i64 a.count, .int .i64 a.whole, .int .i64 a.stale, .int .i64 a.spoilt, .int .i64 a.silent] 27)) 27 Fd.zero.cs
            have h' := Bk.below (Bk.drew h) hbw5 (by simp)
            simpa using h'
          exact cut_set hb5 hz5 (by omega) HKX.out hqX HMX.out (by omega) HNX.out hsX HBX.out (by omega)
        case rel =>
          have hz5 : Bk w5 W4.heap.size 27 Fd.zero.cs := by
            have h := (Bk.mk_new W4 27 Fd.zero.cs).alloc (.cells #[.string m.key, .int .i64 m.kind, .int .i64 m.epoch, .int .i64 m.count, .int .i64 m.whole, .int .i64 m.stale, .int .i64 m.spoilt, .int .i64 m.silent, .string a.key, .int .i64 a.kind, .int .i64 a.epoch, .int .i64 a.count, .int .i64 a.whole, .int .i64 a.stale, .int .i64 a.spoilt, .int .i64 a.silent] 27)
            exact Bk.below (Bk.drew h) hbw5 (by simp; omega)
          exact cut_set hb5 hz5 (by omega) HKX.out hqX HMX.out (by omega) HNX.out hsX HBX.out (by omega)
      case rest =>
        obtain ⟨g13, rfl, rfl, k13, k1, k3, k4, hbl⟩ := hcut
        have HBL := Lib.hid hbl; clear hbl
        obtain ⟨a0, a1, a2, a3, a4, a5, a6, a7⟩ := FdCells.of_bk k13
        obtain ⟨b0, b1, b2, b3, b4, b5, b6, b7⟩ := FdCells.of_bk k1
        obtain ⟨m0, m1, m2', m3, m4, m5, m6, m7⟩ := FdCells.of_bk k3
        obtain ⟨n0, n1, n2, n3, n4, n5, n6, n7⟩ := FdCells.of_bk k4
        simp only [Nat.zero_add] at a0 a1 a2 a3 a4 a5 a6 a7 b0 b1 b2 b3 b4 b5 b6 b7 m0 m1 m2' m3 m4 m5 m6 m7 n0 n1 n2 n3 n4 n5 n6 n7
        clear k13 k1 k3 k4 c0 c1 c2 c3 c4 c5 c6 c7 e0 e1 e2 e3 e4 e5 e6 e7
        obtain ⟨l1, l2, l3⟩ := HLIKE.out
        unfold sumZ at l3
        have HE : Hid (Below w.heap.size w wc) := Lib.hid (HB1.out.trans (HBL.out.mono HB1.out.size))
        cases u
        · go_wp2
          go_ret
          exact ⟨rfl, HE.out⟩
        · have hk2 := HU.out rfl
          go_wp2
          go_ret
          exact ⟨rfl, HE.out⟩

    | succ k =>
      have hlt : k < n := by omega
      obtain ⟨x, hx⟩ : ∃ x, L[k]? = some x := ⟨_, List.getElem?_eq_getElem (by rw [HN.out]; exact hlt)⟩
      have HX := Lib.hid hx; clear hx
      rw [show (((k + 1 : Nat) : Int) - 1) = (k : Int) by omega]
      obtain ⟨e0, e1, e2, e3, e4, e5, e6, e7⟩ := (HAT.out k x HX.out).below hbw hbs
      have HK := Lib.hid hbk; clear hbk
      have HW := Lib.hid hbw; clear hbw
      have hc3 : n - (k + 1) + 1 ≤ maxLen := by unfold maxLen; omega
      have hc4 : (n - (k + 1) + 1) * 72 ≤ 140737488355328 := Nat.le_trans (Nat.mul_le_mul_right 72 (by omega)) hm
      rw [HN.out] at HO
      have HDR : Hid (L.drop k = x :: L.drop (k + 1)) := Lib.hid (by
        obtain ⟨hlt', he⟩ := List.getElem?_eq_some_iff.1 HX.out
        rw [List.drop_eq_getElem_cons hlt', he])
      have HXL : Hid (x ∈ L) := Lib.hid (List.mem_of_getElem? HX.out)
      go_wp2_with (at_builtin; refine wpList_append_own _ rfl (.tmp 37) (.tmp 42) 23 rfl (w1.heap.size + 1) 27 i0 Fd.zero.val 8 72 Try.underlying23 HI.out HZ0.out HZ1.out HZ2.out rfl (by decide) _ _ _ rfl (HO.out.alloc _) ⟨wr.heap.size, 0, none⟩ 1 1 x.cs.toList rfl rfl (cell_fd_new wr x) (one_fd x) hc3 hc4 (by simp; omega) ?_; intro v' w2 hown' hgrow _)
      have hrow : ∀ q, u5.ownBlock = some q → w1.heap.size + 1 ≤ q := fun q hq => (HO.out.lt q hq).1
      have HK2 : Hid (Bk w2 w1.heap.size 27 m.cs) := Lib.hid ((HK.out.alloc _).grown hgrow (fun e => by have := hrow _ e.symm; omega))
      have HW2 : Hid (Below w1.heap.size w1 w2) := Lib.hid ((HW.out.alloc (by omega) _).grown hgrow (by simp; omega) (fun q hq => by have := hrow q hq; omega))
      have HO2 : Hid (w2.ownsRow (w1.heap.size + 1) 27 8 v' (n - k) (fcs (L.drop k).reverse)) := Lib.hid (by
        rw [HDR.out, List.reverse_cons, ← fcs_snoc, show n - k = n - (k + 1) + 1 by omega]
        exact hown')
      clear hown' hgrow hrow e0 e1 e2 e3 e4 e5 e6 e7
      obtain ⟨e0, e1, e2, e3, e4, e5, e6, e7⟩ := (HAT.out k x HX.out).below HW2.out hbs
      obtain ⟨c0, c1, c2, c3, c4, c5, c6, c7⟩ := FdCells.of_bk HK2.out
      simp only [Nat.zero_add] at c0 c1 c2 c3 c4 c5 c6 c7
      have HNW : Hid (worseR x m = false) := Lib.hid (HMW.out x HXL.out)
      have HF2 : Hid (m ∈ L.drop k → (f || fdEq x m) = true) := Lib.hid (fun hmem => by
        rw [HDR.out] at hmem
        rcases List.mem_cons.1 hmem with rfl | hmem
        · rw [fdEq_self]; simp
        · rw [HF.out hmem]; rfl)
      have HU2 : Hid ((u || x.kind == 2) = true → m.kind = 2) := Lib.hid (fun h => by
        rcases Bool.or_eq_true _ _ ▸ h with h | h
        · exact HU.out h
        · exact maybe_least HNW.out (by simpa using h))
      have HNK := not_worse HNW.out
      generalize hq : fdEq x m = q at *
      have heq : ∀ W, (binOp .eql 27 (.agg #[.string x.key, .int .i64 x.kind, .int .i64 x.epoch, .int .i64 x.count, .int .i64 x.whole, .int .i64 x.stale, .int .i64 x.spoilt, .int .i64 x.silent]) (.agg #[.string m.key, .int .i64 m.kind, .int .i64 m.epoch, .int .i64 m.count, .int .i64 m.whole, .int .i64 m.stale, .int .i64 m.spoilt, .int .i64 m.silent])).run Try.prog W = .ok (.bool q) W := fun W => by
        rw [← hq]
        exact fd_eql x m W
      have HEQ := Lib.hid heq; clear heq hq
      have HREL : ∀ (ff uu : Bool) (i8 : Int) (nq : Nat), ff = (f || q) → uu = (u || x.kind == 2) → i8 = (k : Int) - 1 → OrdRel w1 L m w1.heap.size v' (.bool ff) (.bool uu) (.int .i64 i8) (w2.drewN nq) := by
        rintro ff uu i8 nq rfl rfl rfl
        exact ⟨k, _, _, by rw [HN.out]; omega, rfl, rfl, rfl, HF2.out, HU2.out, by rw [HN.out]; exact own_drewN HO2.out nq, HK2.out.drewN nq, below_drewN HW2.out nq⟩
      have HR := Lib.hid HREL; clear HREL
      by_cases hkk : x.kind = m.kind
      · have hkk' : (x.kind == m.kind) = true := by simpa using hkk
        have hww : ¬ x.whole < m.whole := fun h => HNK ⟨hkk, h⟩
        clear hkk HNK
        have HKK := Lib.hid hkk'; clear hkk'
        cases f <;> cases u
        all_goals
          have heq := HEQ.out
          go_quiet (fail)
          clear heq
          go_wp2
          have hkk' := HKK.out
          go_quiet (fail)
          go_wp2
          go_roundw
          case rel => exact HR.out _ _ _ _ rfl (by first | rfl | simp) (by first | rfl | go_num)
          case measure => simp [intOf]
      · have hkk' : (x.kind == m.kind) = false := by simpa using hkk
        clear hkk HNK
        have HKK := Lib.hid hkk'; clear hkk'
        cases f <;> cases u
        all_goals
          have heq := HEQ.out
          go_quiet (fail)
          clear heq
          go_wp2
          have hkk' := HKK.out
          go_quiet (fail)
          go_wp2
          go_roundw
          case rel => exact HR.out _ _ _ _ rfl (by first | rfl | simp) (by first | rfl | go_num)
          case measure => simp [intOf]
end Go.Proofs.Ytmlklbbkkggpkaa.aud
