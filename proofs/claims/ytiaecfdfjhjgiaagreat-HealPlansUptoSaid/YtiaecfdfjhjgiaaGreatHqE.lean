/- Contracts: two shards compared (Same), two places compared (alike): where they show the same they are found so. -/
import Derived.Laws.BytesString
import Derived.Deep.CutRange
import Derived.Deep.RegionHeld3
import Derived.DeepKeys
import Derived.Test.YtiaecfdfjhjgiaaGreatHpW
namespace Go.Proofs.YtiaecfdfjhjgiaaGreat.hp
open Go.RowKit kit Go.ChangeMaps Go.Maps Go.Sort
set_option linter.unusedVariables false

theorem eqItems_at (d : Nat) (w : World) (xs : Array Value) : ∀ (is : List Nat), (∀ i ∈ is, ∃ x : Int, (part 5 xs (i * Tryz.prog.cellsOf 5)).run Tryz.prog w = .ok (.int .u8 x) w) → (Op.eqItems (d + 1) 5 (Tryz.prog.cellsOf 5) xs xs is).run Tryz.prog w = .ok true w
  | [], _ => rfl
  | i :: is, h => by
    obtain ⟨x, hx⟩ := h i (List.mem_cons_self ..)
    have ih := eqItems_at d w xs is (fun j hj => h j (List.mem_cons_of_mem _ hj))
    have he : (Op.equalIn (d + 1) 5 (.int .u8 x) (.int .u8 x)).run Tryz.prog w = .ok true w := by
      rw [run_equalIn_int w d 5 .u8 .u8 x x Tryz.underlying5]
      simp
    simp only [Op.eqItems, Sem.run_bind, hx, Result.andThen_ok, he]
    simpa using ih
theorem eq25 (d : Nat) (s0 s1 s2 s3 s4 s5 s6 s7 : Int) (w : World) : (Op.equalIn (d + 2) 25 (.agg #[.int .u8 s0, .int .u8 s1, .int .u8 s2, .int .u8 s3, .int .u8 s4, .int .u8 s5, .int .u8 s6, .int .u8 s7]) (.agg #[.int .u8 s0, .int .u8 s1, .int .u8 s2, .int .u8 s3, .int .u8 s4, .int .u8 s5, .int .u8 s6, .int .u8 s7])).run Tryz.prog w = .ok true w := by
  have hi : ∃ i, Tryz.prog.info? 5 = some i := info_of_underlying Tryz.underlying5
  obtain ⟨i, hi⟩ := hi
  rw [run_equalIn_array w (d + 1) _ _ Tryz.underlying25 hi, eqItems_at]
  intro j hj
  have hc : Tryz.prog.cellsOf 5 = 1 := by kernel_rfl
  rw [hc, Nat.mul_one]
  have hj8 : j < 8 := List.mem_range.1 hj
  have h5 : j = 0 ∨ j = 1 ∨ j = 2 ∨ j = 3 ∨ j = 4 ∨ j = 5 ∨ j = 6 ∨ j = 7 := by omega
  rcases h5 with rfl | rfl | rfl | rfl | rfl | rfl | rfl | rfl
  · exact ⟨s0, by go_simp⟩
  · exact ⟨s1, by go_simp⟩
  · exact ⟨s2, by go_simp⟩
  · exact ⟨s3, by go_simp⟩
  · exact ⟨s4, by go_simp⟩
  · exact ⟨s5, by go_simp⟩
  · exact ⟨s6, by go_simp⟩
  · exact ⟨s7, by go_simp⟩
theorem neq65 (s0 s1 s2 s3 s4 s5 s6 s7 k m b : Int) (key : ByteArray) (sz ix ep ct : Int) (w : World) : (binOp .neq 65 (.agg #[.int .u8 s0, .int .u8 s1, .int .u8 s2, .int .u8 s3, .int .u8 s4, .int .u8 s5, .int .u8 s6, .int .u8 s7, .int .i64 k, .int .i64 m, .int .i64 b, .string key, .int .i64 sz, .int .i64 ix, .int .i64 ep, .int .i64 ct]) (.agg #[.int .u8 s0, .int .u8 s1, .int .u8 s2, .int .u8 s3, .int .u8 s4, .int .u8 s5, .int .u8 s6, .int .u8 s7, .int .i64 k, .int .i64 m, .int .i64 b, .string key, .int .i64 sz, .int .i64 ix, .int .i64 ep, .int .i64 ct])).run Tryz.prog w = .ok (.bool false) w := by
  have h25 := fun d => eq25 d s0 s1 s2 s3 s4 s5 s6 s7 w
  go_simp
/-- A block of a shard. -/
def blC (p : Value × List UInt8) : List Value := [p.1]
theorem blC_len (p : Value × List UInt8) : (blC p).length = 1 := rfl
/-- A shard's blocks. -/
def Blks (w : World) (S : Nat → Prop) (v : Value) (l : List (Value × List UInt8)) : Prop := Sl w S 1 blC v l ∧ ∀ p ∈ l, By w S p.1 p.2
theorem Blks.keep {w w' : World} {S : Nat → Prop} {v : Value} {l : List (Value × List UInt8)} (h : Blks w S v l) (hb : Below w.heap.size w w') : Blks w' S v l := ⟨h.1.keep hb, fun p hp => (h.2 p hp).keep hb⟩
set_option maxRecDepth 1000000 in
set_option maxHeartbeats 4000000 in
theorem shards_same (s0 s1 s2 s3 s4 s5 s6 s7 k m b : Int) (key : ByteArray) (sz ix ep ct : Int) (av bv : Value) (al bl : List (Value × List UInt8)) (hk : bl.map Prod.snd = al.map Prod.snd) (hl : al.length ≤ 1099511627776) (w : World) (S T : Nat → Prop) (ha : Blks w S av al) (hb : Blks w T bv bl) :
    Calls Tryz.prog 27 #[.agg #[.int .u8 s0, .int .u8 s1, .int .u8 s2, .int .u8 s3, .int .u8 s4, .int .u8 s5, .int .u8 s6, .int .u8 s7, .int .i64 k, .int .i64 m, .int .i64 b, .string key, .int .i64 sz, .int .i64 ix, .int .i64 ep, .int .i64 ct, av],
      .agg #[.int .u8 s0, .int .u8 s1, .int .u8 s2, .int .u8 s3, .int .u8 s4, .int .u8 s5, .int .u8 s6, .int .u8 s7, .int .i64 k, .int .i64 m, .int .i64 b, .string key, .int .i64 sz, .int .i64 ix, .int .i64 ep, .int .i64 ct, bv]] w fun e w' => e = .returned (.bool true) ∧ Below w.heap.size w w' := by
  have hlen : bl.length = al.length := by have := congrArg List.length hk; simpa using this
  obtain ⟨A1, c1, rfl, h1⟩ := ha.1
  obtain ⟨A2, c2, rfl, h2⟩ := hb.1
  rw [hlen]
  have hneq := fun W => neq65 s0 s1 s2 s3 s4 s5 s6 s7 k m b key sz ix ep ct W
  obtain ⟨X, hX⟩ : ∃ X, (w.alloc (.cells #[.int .u8 s0, .int .u8 s1, .int .u8 s2, .int .u8 s3, .int .u8 s4, .int .u8 s5, .int .u8 s6, .int .u8 s7, .int .i64 k, .int .i64 m, .int .i64 b, .string key, .int .i64 sz, .int .i64 ix, .int .i64 ep, .int .i64 ct, .slice A1 al.length c1] 68)).alloc (.cells #[.int .u8 s0, .int .u8 s1, .int .u8 s2, .int .u8 s3, .int .u8 s4, .int .u8 s5, .int .u8 s6, .int .u8 s7, .int .i64 k, .int .i64 m, .int .i64 b, .string key, .int .i64 sz, .int .i64 ix, .int .i64 ep, .int .i64 ct, .slice A2 al.length c2] 68) = X := ⟨_, rfl⟩
  have hXB : Below w.heap.size w X := by
    subst hX
    exact ((Below.refl _ _).alloc (Nat.le_refl _) _).alloc (by simp) _
  have hx1 : Bk X w.heap.size 68 #[.int .u8 s0, .int .u8 s1, .int .u8 s2, .int .u8 s3, .int .u8 s4, .int .u8 s5, .int .u8 s6, .int .u8 s7, .int .i64 k, .int .i64 m, .int .i64 b, .string key, .int .i64 sz, .int .i64 ix, .int .i64 ep, .int .i64 ct, .slice A1 al.length c1] := by
    subst hX
    exact (Bk.mk_new w _ _).below ((Below.refl _ _).alloc (Nat.le_refl _) _) (by simp)
  have hx2 : Bk X (w.heap.size + 1) 68 #[.int .u8 s0, .int .u8 s1, .int .u8 s2, .int .u8 s3, .int .u8 s4, .int .u8 s5, .int .u8 s6, .int .u8 s7, .int .i64 k, .int .i64 m, .int .i64 b, .string key, .int .i64 sz, .int .i64 ix, .int .i64 ep, .int .i64 ct, .slice A2 al.length c2] := by
    subst hX
    have := Bk.mk_new (w.alloc (.cells #[.int .u8 s0, .int .u8 s1, .int .u8 s2, .int .u8 s3, .int .u8 s4, .int .u8 s5, .int .u8 s6, .int .u8 s7, .int .i64 k, .int .i64 m, .int .i64 b, .string key, .int .i64 sz, .int .i64 ix, .int .i64 ep, .int .i64 ct, .slice A1 al.length c1] 68)) 68 #[.int .u8 s0, .int .u8 s1, .int .u8 s2, .int .u8 s3, .int .u8 s4, .int .u8 s5, .int .u8 s6, .int .u8 s7, .int .i64 k, .int .i64 m, .int .i64 b, .string key, .int .i64 sz, .int .i64 ix, .int .i64 ep, .int .i64 ct, .slice A2 al.length c2]
    simpa using this
  have HX := Lib.hid hX
  have HXB := Lib.hid hXB
  have HL := Lib.hid hlen
  have HK := Lib.hid hk
  have HC1 := Lib.hid h1
  have HC2 := Lib.hid h2
  have HB1 := Lib.hid ha.2
  have HB2 := Lib.hid hb.2
  have a0 : X.cell? ⟨w.heap.size, 0, none⟩ = some (.int .u8 s0) := hx1.cell 0
  have a1 : X.cell? ⟨w.heap.size, 1, none⟩ = some (.int .u8 s1) := hx1.cell 1
  have a2 : X.cell? ⟨w.heap.size, 2, none⟩ = some (.int .u8 s2) := hx1.cell 2
  have a3 : X.cell? ⟨w.heap.size, 3, none⟩ = some (.int .u8 s3) := hx1.cell 3
  have a4 : X.cell? ⟨w.heap.size, 4, none⟩ = some (.int .u8 s4) := hx1.cell 4
  have a5 : X.cell? ⟨w.heap.size, 5, none⟩ = some (.int .u8 s5) := hx1.cell 5
  have a6 : X.cell? ⟨w.heap.size, 6, none⟩ = some (.int .u8 s6) := hx1.cell 6
  have a7 : X.cell? ⟨w.heap.size, 7, none⟩ = some (.int .u8 s7) := hx1.cell 7
  have a8 : X.cell? ⟨w.heap.size, 8, none⟩ = some (.int .i64 k) := hx1.cell 8
  have a9 : X.cell? ⟨w.heap.size, 9, none⟩ = some (.int .i64 m) := hx1.cell 9
  have a10 : X.cell? ⟨w.heap.size, 10, none⟩ = some (.int .i64 b) := hx1.cell 10
  have a11 : X.cell? ⟨w.heap.size, 11, none⟩ = some (.string key) := hx1.cell 11
  have a12 : X.cell? ⟨w.heap.size, 12, none⟩ = some (.int .i64 sz) := hx1.cell 12
  have a13 : X.cell? ⟨w.heap.size, 13, none⟩ = some (.int .i64 ix) := hx1.cell 13
  have a14 : X.cell? ⟨w.heap.size, 14, none⟩ = some (.int .i64 ep) := hx1.cell 14
  have a15 : X.cell? ⟨w.heap.size, 15, none⟩ = some (.int .i64 ct) := hx1.cell 15
  have a16 : X.cell? ⟨w.heap.size, 16, none⟩ = some (.slice A1 al.length c1) := hx1.cell 16
  have b0 : X.cell? ⟨w.heap.size + 1, 0, none⟩ = some (.int .u8 s0) := hx2.cell 0
  have b1 : X.cell? ⟨w.heap.size + 1, 1, none⟩ = some (.int .u8 s1) := hx2.cell 1
  have b2 : X.cell? ⟨w.heap.size + 1, 2, none⟩ = some (.int .u8 s2) := hx2.cell 2
  have b3 : X.cell? ⟨w.heap.size + 1, 3, none⟩ = some (.int .u8 s3) := hx2.cell 3
  have b4 : X.cell? ⟨w.heap.size + 1, 4, none⟩ = some (.int .u8 s4) := hx2.cell 4
  have b5 : X.cell? ⟨w.heap.size + 1, 5, none⟩ = some (.int .u8 s5) := hx2.cell 5
  have b6 : X.cell? ⟨w.heap.size + 1, 6, none⟩ = some (.int .u8 s6) := hx2.cell 6
  have b7 : X.cell? ⟨w.heap.size + 1, 7, none⟩ = some (.int .u8 s7) := hx2.cell 7
  have b8 : X.cell? ⟨w.heap.size + 1, 8, none⟩ = some (.int .i64 k) := hx2.cell 8
  have b9 : X.cell? ⟨w.heap.size + 1, 9, none⟩ = some (.int .i64 m) := hx2.cell 9
  have b10 : X.cell? ⟨w.heap.size + 1, 10, none⟩ = some (.int .i64 b) := hx2.cell 10
  have b11 : X.cell? ⟨w.heap.size + 1, 11, none⟩ = some (.string key) := hx2.cell 11
  have b12 : X.cell? ⟨w.heap.size + 1, 12, none⟩ = some (.int .i64 sz) := hx2.cell 12
  have b13 : X.cell? ⟨w.heap.size + 1, 13, none⟩ = some (.int .i64 ix) := hx2.cell 13
  have b14 : X.cell? ⟨w.heap.size + 1, 14, none⟩ = some (.int .i64 ep) := hx2.cell 14
  have b15 : X.cell? ⟨w.heap.size + 1, 15, none⟩ = some (.int .i64 ct) := hx2.cell 15
  have b16 : X.cell? ⟨w.heap.size + 1, 16, none⟩ = some (.slice A2 al.length c2) := hx2.cell 16
  clear hX hXB hlen hk h1 h2 ha hb hx1 hx2
  go_enter Tryz.func27, Tryz.ntmps27
  go_upto_region 1 with fail
  rw [HX.out]
  go_wp2
  go_loopw [5] (fun i wr => ∃ k m : Nat, k ≤ al.length ∧ i = .int .i64 k ∧ wr = X.drewN m) (fun i _ => al.length - (intOf i).toNat)
  case atStart => exact ⟨0, 0, by omega, rfl, rfl⟩
  case round =>
    obtain ⟨i, mm, hkk, rfl, rfl⟩ := hrel
    clear a0 a1 a2 a3 a4 a5 a6 a7 a8 a9 a10 a11 a12 a13 a14 a15 b0 b1 b2 b3 b4 b5 b6 b7 b8 b9 b10 b11 b12 b13 b14 b15 hneq
    by_cases hlt : i < al.length
    · obtain ⟨x, hx⟩ : ∃ x, al[i]? = some x := ⟨_, List.getElem?_eq_getElem hlt⟩
      obtain ⟨y, hy⟩ : ∃ y, bl[i]? = some y := ⟨_, List.getElem?_eq_getElem (by rw [HL.out]; exact hlt)⟩
      have hd : y.2 = x.2 := by
        have h1 : (bl.map Prod.snd)[i]? = some y.2 := by rw [List.getElem?_map, hy]; rfl
        have h2 : (al.map Prod.snd)[i]? = some x.2 := by rw [List.getElem?_map, hx]; rfl
        rw [HK.out, h2] at h1
        injection h1 with h1
        exact h1.symm
      obtain ⟨g1, o1, rfl, _, hc1⟩ := HC1.out (by intro e; rw [e] at hlt; simp at hlt)
      obtain ⟨g2, o2, rfl, _, hc2⟩ := HC2.out (by intro e; rw [e] at hy; simp at hy)
      have hbx := (HB1.out x (List.mem_of_getElem? hx)).keep HXB.out
      have hby := (HB2.out y (List.mem_of_getElem? hy)).keep HXB.out
      obtain ⟨Ax, cx, hvx, _⟩ := hbx.reads
      obtain ⟨Ay, cy, hvy, _⟩ := hby.reads
      have e1 : X.cell? ⟨g1, o1 + i, none⟩ = some (.slice Ax x.2.length cx) := by rw [← hvx]; have := cell_later HXB.out (hc1 i x hx 0 _ rfl); rwa [Nat.mul_one] at this
      have e2 : X.cell? ⟨g2, o2 + i, none⟩ = some (.slice Ay x.2.length cy) := by rw [← hd, ← hvy]; have := cell_later HXB.out (hc2 i y hy 0 _ rfl); rwa [Nat.mul_one] at this
      rw [hvx] at hbx
      rw [hvy, hd] at hby
      have q1 : ∀ m, (convert 72 9 (.slice Ax x.2.length cx)).run Tryz.prog (X.drewN m) = .ok (.string ⟨x.2.toArray⟩) (X.drewN m) := fun m => conv_by (w := X.drewN m) (S := S) ⟨hbx.1, hbx.2⟩
      have q2 : ∀ m, (convert 72 9 (.slice Ay x.2.length cy)).run Tryz.prog (X.drewN m) = .ok (.string ⟨x.2.toArray⟩) (X.drewN m) := fun m => conv_by (w := X.drewN m) (S := T) ⟨hby.1, hby.2⟩
      obtain ⟨dl, hdl⟩ : ∃ dl, x.2.length = dl := ⟨_, rfl⟩
      obtain ⟨dd, hdd⟩ : ∃ dd : ByteArray, (⟨x.2.toArray⟩ : ByteArray) = dd := ⟨_, rfl⟩
      rw [hdd] at q1 q2
      rw [hdl] at e1 e2 q1 q2
      have hi0 : (0 : Int) ≤ (i : Int) := by omega
      have hi1 : (i : Int) < (al.length : Int) := by omega
      clear hdl hdd hx hy hd hc1 hc2 hbx hby hvx hvy
      go_wp2
      go_quiet (fail)
      go_wp2
      go_roundw
      case rel => exact ⟨i + 1, _, by omega, by go_num, rfl⟩
      case measure => simp [intOf]; omega
    · obtain rfl : i = al.length := by omega
      go_wp2
      go_ret
      exact ⟨rfl, below_drewN HXB.out mm⟩
set_option maxRecDepth 1000000 in
set_option maxHeartbeats 4000000 in
theorem alike_same (kd s0 s1 s2 s3 s4 s5 s6 s7 k m b : Int) (key : ByteArray) (sz ix ep ct er : Int) (av bv : Value) (al bl : List (Value × List UInt8)) (hk : bl.map Prod.snd = al.map Prod.snd) (hl : al.length ≤ 1099511627776) (w : World) (S T : Nat → Prop) (ha : Blks w S av al) (hb : Blks w T bv bl) :
    Calls Tryz.prog 16 #[.agg #[.int .i64 kd, .int .u8 s0, .int .u8 s1, .int .u8 s2, .int .u8 s3, .int .u8 s4, .int .u8 s5, .int .u8 s6, .int .u8 s7, .int .i64 k, .int .i64 m, .int .i64 b, .string key, .int .i64 sz, .int .i64 ix, .int .i64 ep, .int .i64 ct, av, .int .i64 er], .agg #[.int .i64 kd, .int .u8 s0, .int .u8 s1, .int .u8 s2, .int .u8 s3, .int .u8 s4, .int .u8 s5, .int .u8 s6, .int .u8 s7, .int .i64 k, .int .i64 m, .int .i64 b, .string key, .int .i64 sz, .int .i64 ix, .int .i64 ep, .int .i64 ct, bv, .int .i64 er]] w fun e w' => e = .returned (.bool true) ∧ Below w.heap.size w w' := by
  obtain ⟨A1, c1, hav, _⟩ := ha.1
  obtain ⟨A2, c2, hbv, _⟩ := hb.1
  obtain ⟨n1, hn1⟩ : ∃ n, al.length = n := ⟨_, rfl⟩
  obtain ⟨n2, hn2⟩ : ∃ n, bl.length = n := ⟨_, rfl⟩
  rw [hn1] at hav
  rw [hn2] at hbv
  subst hav hbv
  obtain ⟨X, hX⟩ : ∃ X, (w.alloc (.cells #[.int .i64 kd, .int .u8 s0, .int .u8 s1, .int .u8 s2, .int .u8 s3, .int .u8 s4, .int .u8 s5, .int .u8 s6, .int .u8 s7, .int .i64 k, .int .i64 m, .int .i64 b, .string key, .int .i64 sz, .int .i64 ix, .int .i64 ep, .int .i64 ct, .slice A1 n1 c1, .int .i64 er] 71)).alloc (.cells #[.int .i64 kd, .int .u8 s0, .int .u8 s1, .int .u8 s2, .int .u8 s3, .int .u8 s4, .int .u8 s5, .int .u8 s6, .int .u8 s7, .int .i64 k, .int .i64 m, .int .i64 b, .string key, .int .i64 sz, .int .i64 ix, .int .i64 ep, .int .i64 ct, .slice A2 n2 c2, .int .i64 er] 71) = X := ⟨_, rfl⟩
  have hXB : Below w.heap.size w X := by
    subst hX
    exact ((Below.refl _ _).alloc (Nat.le_refl _) _).alloc (by simp) _
  have hx1 : Bk X w.heap.size 71 #[.int .i64 kd, .int .u8 s0, .int .u8 s1, .int .u8 s2, .int .u8 s3, .int .u8 s4, .int .u8 s5, .int .u8 s6, .int .u8 s7, .int .i64 k, .int .i64 m, .int .i64 b, .string key, .int .i64 sz, .int .i64 ix, .int .i64 ep, .int .i64 ct, .slice A1 n1 c1, .int .i64 er] := by
    subst hX
    exact (Bk.mk_new w _ _).below ((Below.refl _ _).alloc (Nat.le_refl _) _) (by simp)
  have hx2 : Bk X (w.heap.size + 1) 71 #[.int .i64 kd, .int .u8 s0, .int .u8 s1, .int .u8 s2, .int .u8 s3, .int .u8 s4, .int .u8 s5, .int .u8 s6, .int .u8 s7, .int .i64 k, .int .i64 m, .int .i64 b, .string key, .int .i64 sz, .int .i64 ix, .int .i64 ep, .int .i64 ct, .slice A2 n2 c2, .int .i64 er] := by
    subst hX
    have := Bk.mk_new (w.alloc (.cells #[.int .i64 kd, .int .u8 s0, .int .u8 s1, .int .u8 s2, .int .u8 s3, .int .u8 s4, .int .u8 s5, .int .u8 s6, .int .u8 s7, .int .i64 k, .int .i64 m, .int .i64 b, .string key, .int .i64 sz, .int .i64 ix, .int .i64 ep, .int .i64 ct, .slice A1 n1 c1, .int .i64 er] 71)) 71 #[.int .i64 kd, .int .u8 s0, .int .u8 s1, .int .u8 s2, .int .u8 s3, .int .u8 s4, .int .u8 s5, .int .u8 s6, .int .u8 s7, .int .i64 k, .int .i64 m, .int .i64 b, .string key, .int .i64 sz, .int .i64 ix, .int .i64 ep, .int .i64 ct, .slice A2 n2 c2, .int .i64 er]
    simpa using this
  have HX := Lib.hid hX
  have HXB := Lib.hid hXB
  have hcall := fun W (hW : Below w.heap.size w W) => shards_same s0 s1 s2 s3 s4 s5 s6 s7 k m b key sz ix ep ct _ _ al bl hk hl W S T (ha.keep hW) (hb.keep hW)
  have HC := Lib.hid hcall
  have a0 : X.cell? ⟨w.heap.size, 0, none⟩ = some (.int .i64 kd) := hx1.cell 0
  have a1 : X.cell? ⟨w.heap.size, 1, none⟩ = some (.int .u8 s0) := hx1.cell 1
  have a2 : X.cell? ⟨w.heap.size, 1 + 1, none⟩ = some (.int .u8 s1) := hx1.cell 2
  have a3 : X.cell? ⟨w.heap.size, 1 + 2, none⟩ = some (.int .u8 s2) := hx1.cell 3
  have a4 : X.cell? ⟨w.heap.size, 1 + 3, none⟩ = some (.int .u8 s3) := hx1.cell 4
  have a5 : X.cell? ⟨w.heap.size, 1 + 4, none⟩ = some (.int .u8 s4) := hx1.cell 5
  have a6 : X.cell? ⟨w.heap.size, 1 + 5, none⟩ = some (.int .u8 s5) := hx1.cell 6
  have a7 : X.cell? ⟨w.heap.size, 1 + 6, none⟩ = some (.int .u8 s6) := hx1.cell 7
  have a8 : X.cell? ⟨w.heap.size, 1 + 7, none⟩ = some (.int .u8 s7) := hx1.cell 8
  have a9 : X.cell? ⟨w.heap.size, 1 + 8, none⟩ = some (.int .i64 k) := hx1.cell 9
  have a10 : X.cell? ⟨w.heap.size, 1 + 9, none⟩ = some (.int .i64 m) := hx1.cell 10
  have a11 : X.cell? ⟨w.heap.size, 1 + 10, none⟩ = some (.int .i64 b) := hx1.cell 11
  have a12 : X.cell? ⟨w.heap.size, 1 + 11, none⟩ = some (.string key) := hx1.cell 12
  have a13 : X.cell? ⟨w.heap.size, 1 + 12, none⟩ = some (.int .i64 sz) := hx1.cell 13
  have a14 : X.cell? ⟨w.heap.size, 1 + 13, none⟩ = some (.int .i64 ix) := hx1.cell 14
  have a15 : X.cell? ⟨w.heap.size, 1 + 14, none⟩ = some (.int .i64 ep) := hx1.cell 15
  have a16 : X.cell? ⟨w.heap.size, 1 + 15, none⟩ = some (.int .i64 ct) := hx1.cell 16
  have a17 : X.cell? ⟨w.heap.size, 1 + 16, none⟩ = some (.slice A1 n1 c1) := hx1.cell 17
  have a18 : X.cell? ⟨w.heap.size, 18, none⟩ = some (.int .i64 er) := hx1.cell 18
  have b0 : X.cell? ⟨w.heap.size + 1, 0, none⟩ = some (.int .i64 kd) := hx2.cell 0
  have b1 : X.cell? ⟨w.heap.size + 1, 1, none⟩ = some (.int .u8 s0) := hx2.cell 1
  have b2 : X.cell? ⟨w.heap.size + 1, 1 + 1, none⟩ = some (.int .u8 s1) := hx2.cell 2
  have b3 : X.cell? ⟨w.heap.size + 1, 1 + 2, none⟩ = some (.int .u8 s2) := hx2.cell 3
  have b4 : X.cell? ⟨w.heap.size + 1, 1 + 3, none⟩ = some (.int .u8 s3) := hx2.cell 4
  have b5 : X.cell? ⟨w.heap.size + 1, 1 + 4, none⟩ = some (.int .u8 s4) := hx2.cell 5
  have b6 : X.cell? ⟨w.heap.size + 1, 1 + 5, none⟩ = some (.int .u8 s5) := hx2.cell 6
  have b7 : X.cell? ⟨w.heap.size + 1, 1 + 6, none⟩ = some (.int .u8 s6) := hx2.cell 7
  have b8 : X.cell? ⟨w.heap.size + 1, 1 + 7, none⟩ = some (.int .u8 s7) := hx2.cell 8
  have b9 : X.cell? ⟨w.heap.size + 1, 1 + 8, none⟩ = some (.int .i64 k) := hx2.cell 9
  have b10 : X.cell? ⟨w.heap.size + 1, 1 + 9, none⟩ = some (.int .i64 m) := hx2.cell 10
  have b11 : X.cell? ⟨w.heap.size + 1, 1 + 10, none⟩ = some (.int .i64 b) := hx2.cell 11
  have b12 : X.cell? ⟨w.heap.size + 1, 1 + 11, none⟩ = some (.string key) := hx2.cell 12
  have b13 : X.cell? ⟨w.heap.size + 1, 1 + 12, none⟩ = some (.int .i64 sz) := hx2.cell 13
  have b14 : X.cell? ⟨w.heap.size + 1, 1 + 13, none⟩ = some (.int .i64 ix) := hx2.cell 14
  have b15 : X.cell? ⟨w.heap.size + 1, 1 + 14, none⟩ = some (.int .i64 ep) := hx2.cell 15
  have b16 : X.cell? ⟨w.heap.size + 1, 1 + 15, none⟩ = some (.int .i64 ct) := hx2.cell 16
  have b17 : X.cell? ⟨w.heap.size + 1, 1 + 16, none⟩ = some (.slice A2 n2 c2) := hx2.cell 17
  have b18 : X.cell? ⟨w.heap.size + 1, 18, none⟩ = some (.int .i64 er) := hx2.cell 18
  clear hX hXB hk ha hb hx1 hx2 hcall
  go_enter Tryz.func16, Tryz.ntmps16
  go_upto_region 1 with fail
  rw [HX.out]
  go_wp2_with (go_at_call 27; refine (HC.out _ HXB.out).mono ?_; intro e w1 h1; obtain ⟨rfl, hb1⟩ := h1)
  go_ret
  exact ⟨rfl, HXB.out.trans (hb1.mono HXB.out.size)⟩
end Go.Proofs.YtiaecfdfjhjgiaaGreat.hp
