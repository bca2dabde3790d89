/- Contract: wire.escape, onto a row of bytes whose slice lies behind a pointer. -/
import Derived.Test.YtmlklbbkkggpkaaDoorWordE
namespace Go.Proofs.YtmlklbbkkggpkaaDoor.show_
open Go.RowKit kit
set_option linter.unusedVariables false

/-- Behind the call: the row of bytes, its slice behind the pointer; all else below the row as it was. -/
def EscPost (w w' : World) (kb B : Nat) (acc : List UInt8) : Prop :=
  ∃ v', Bk w' kb 50 #[v'] ∧ w'.ownsRow B 5 1 v' acc.length (Lib.byteCells acc) ∧ (∀ b, b < B → b ≠ kb → w'.heap[b]? = w.heap[b]?) ∧ Below kb w w'
def escA (acc : List UInt8) (R : List Nat) : List UInt8 := if (escL R).1 = 0 then acc else acc ++ [(escL R).2.toUInt8]
theorem escA_no {acc : List UInt8} {R : List Nat} (h : (escL R).1 = 0) : escA acc R = acc := if_pos h
theorem escA_ok {acc : List UInt8} {R : List Nat} {n b : Nat} (h : escL R = (n + 1, b)) : escA acc R = acc ++ [b.toUInt8] := by
  unfold escA
  rw [h, if_neg (by simp)]
theorem reads_one (w : World) (a : Value) : words.Reads (w.alloc (.cells #[a] 5)) (w.heap.size + 1) 1 (some ⟨w.heap.size, 0, none⟩) 1 [a] := by
  refine ⟨rfl, fun _ => ⟨_, rfl, Nat.lt_succ_self _, fun j u hu => ?_⟩⟩
  have h := (Bk.mk_new w 5 #[a]).cell j
  have e : (⟨w.heap.size, 0, none⟩ : Addr).add j = ⟨w.heap.size, j, none⟩ := by
    unfold Addr.add
    split
    · rename_i h0; rw [h0]
    · simp
  rw [e, h]
  simpa using hu
theorem one_one (a : Int) : ∀ u ∈ [Value.int .u8 a], u.oneCell' = true := by
  intro u hu
  simp at hu
  subst hu
  rfl
theorem esc_fin {w w1 : World} {kb B : Nat} {v v1 : Value} {acc : List UInt8} {o : Obj} {X : Int} {b : Nat} (hk : Bk w kb 50 #[v]) (hkB : kb < B) (hB : B ≤ w.heap.size) (ho : w.ownsRow B 5 1 v acc.length (Lib.byteCells acc))
    (ho1 : w1.ownsRow B 5 1 v1 (acc.length + 1) (Lib.byteCells acc ++ [.int .u8 X])) (hg : (w.alloc o).drew.grownBy w1 v.ownBlock) (hX : X = (b : Int)) (hb : b < 256) : EscPost w (w1.setCell ⟨kb, 0, none⟩ v1) kb B (acc ++ [b.toUInt8]) := by
  have hne : some kb ≠ v.ownBlock := fun e => by have := (ho.lt kb e.symm).1; omega
  have hk1 : Bk w1 kb 50 #[v] := (hk.alloc o).drew.grown hg hne
  have hc : Lib.byteCells acc ++ [Value.int .u8 X] = Lib.byteCells (acc ++ [b.toUInt8]) := by
    subst hX
    have : b.toUInt8.toNat = b := by rw [Nat.toUInt8_eq, UInt8.toNat_ofNat_of_lt' (by show b < 256; omega)]
    simp [Lib.byteCells, this]
  rw [hc] at ho1
  have hbel : Below kb w w1 := Below.grown ((Below.refl _ _).alloc (by omega) o).drew hg (by simp; omega) (fun j hj => by have := (ho.lt j hj).1; omega)
  refine ⟨v1, hk1.put 0 v1, ?_, fun c hc1 hc2 => ?_, hbel.setCell (by simp) _⟩
  · rw [List.length_append, List.length_singleton]
    exact ownsRow_setCell_below ho1 (a := ⟨kb, 0, none⟩) (by exact hkB) v1
  · have h1 : (w1.setCell ⟨kb, 0, none⟩ v1).heap[c]? = w1.heap[c]? := Below.heap_setCell w1 _ v1 c hc2
    have h2 : w1.heap[c]? = (w.alloc o).drew.heap[c]? := hg.block c (by simp; omega) (fun e => by have := (ho.lt c e.symm).1; omega)
    have h3 : (w.alloc o).drew.heap[c]? = w.heap[c]? := Below.heap_alloc w o c (by omega)
    exact h1.trans (h2.trans h3)
theorem own_slice {w : World} {B n : Nat} {v : Value} {xs : List Value} (h : w.ownsRow B 5 1 v n xs) : ∃ A l c, v = .slice A l c := by
  rcases h.2 with ⟨rfl, _⟩ | ⟨g, cap, cur, rfl, _⟩
  · exact ⟨_, _, _, rfl⟩
  · exact ⟨_, _, _, rfl⟩
theorem cell_alloc {w : World} {p : Addr} {u : Value} (h : w.cell? p = some u) (o : Obj) : (w.alloc o).cell? p = some u := by
  have hlt : p.block < w.heap.size := by
    apply Classical.byContradiction
    intro hn
    have : w.heap[p.block]? = none := Array.getElem?_eq_none (by omega)
    simp [World.cell?, this] at h
  rw [World.cell?_alloc_lt w o p hlt]
  exact h
theorem esc_same_post {w w' : World} {kb B : Nat} {v : Value} {acc : List UInt8} (hk : Bk w kb 50 #[v]) (ho : w.ownsRow B 5 1 v acc.length (Lib.byteCells acc)) (hw : w' = w) : EscPost w w' kb B acc := by
  subst hw
  exact ⟨v, hk, ho, fun _ _ _ => rfl, Below.refl _ _⟩

theorem shl_or0 : ∀ a : Nat, a < 16 → ∀ b : Nat, b < 16 → IntKind.u8.wrap (bits BinOp.or IntKind.i64 (IntKind.i64.wrap ((a : Int) * 16)) (b : Int)) = ((16 * a + b : Nat) : Int) := by decide
theorem shl_or (a b : Nat) (ha : a < 16) (hb : b < 16) : IntKind.u8.wrap (bits BinOp.or IntKind.i64 (IntKind.i64.wrap ((a : Int) * 16)) (b : Int)) = ((16 * a + b : Nat) : Int) := shl_or0 a ha b hb
set_option maxRecDepth 1000000 in
set_option maxHeartbeats 4000000 in
theorem escape_any (kb B rb off cap : Nat) (v : Value) (acc : List UInt8) (R : List Nat) (w : World) (hk : Bk w kb 50 #[v]) (hkB : kb < B) (hB : B ≤ w.heap.size) (ho : w.ownsRow B 5 1 v acc.length (Lib.byteCells acc))
    (hR : ∀ (j r : Nat), R[j]? = some r → w.cell? ⟨rb, off + j, none⟩ = some (.int .i32 (r : Int))) (hl : acc.length ≤ 1099511627776) (hRl : R.length ≤ 1099511627776) :
    Calls Tryd.prog 35 #[.pointer (some ⟨kb, 0, none⟩), .slice (some ⟨rb, off, none⟩) R.length cap] w fun e w' => e = .returned (.int .i64 (escL R).1) ∧ EscPost w w' kb B (escA acc R) := by
  obtain ⟨i0, hi, hz0, hz1, hz2⟩ := info_parts info5
  have HI := Lib.hid hi; clear hi
  have HZ0 := Lib.hid hz0; clear hz0
  have HZ1 := Lib.hid hz1; clear hz1
  have HZ2 := Lib.hid hz2; clear hz2
  have HK := Lib.hid hk
  have HO := Lib.hid ho
  have hkc : w.cell? ⟨kb, 0, none⟩ = some v := hk.cell 0
  have hkf : w.frozen? ⟨kb, 0, none⟩ = false := hk.free 0
  have hne : some kb ≠ v.ownBlock := fun e => by have := (ho.lt kb e.symm).1; omega
  have HN := Lib.hid hne
  have hn1 : acc.length + 1 ≤ maxLen := by unfold maxLen; omega
  have hn2 : (acc.length + 1) * 1 ≤ 140737488355328 := by omega
  have cD : ∀ (c : Nat) (wx : World), Calls Tryd.prog 44 #[.int .i32 (c : Int)] wx fun e w' => e = .returned (.int .i64 (digZ c)) ∧ wx = w' := fun c wx => (wdigit_any c wx).mono fun _ _ h => ⟨h.1, h.2.symm⟩
  clear hk ho hne
  match R, hR, hRl with
  | [], hR, hRl =>
    have HF := Lib.hid (escA_no (acc := acc) (R := []) rfl)
    clear hR hRl
    go_enter Tryd.func35, Tryd.ntmps35
    go_wp2
    go_ret
    exact ⟨rfl, by rw [HF.out]; exact esc_same_post HK.out HO.out rfl⟩
  | a :: t, hR, hRl =>
    have h0 : w.cell? ⟨rb, off, none⟩ = some (.int .i32 (a : Int)) := hR 0 a rfl
    have hkc' := cell_alloc hkc
    have h0' := cell_alloc h0
    by_cases hq : a = 92 ∨ a = 34
    · have HE := Lib.hid (esc_q t hq)
      have HF := Lib.hid (escA_ok (acc := acc) (esc_q t hq))
      have ha : a < 256 := by omega
      have hlen : (0 : Int) < (((a :: t).length : Nat) : Int) := by simp only [List.length_cons]; omega
      have hlen2 : 0 < (a :: t).length := by simp
      generalize (a :: t).length = n at *
      clear hR hRl cD
      rcases hq with rfl | rfl
      · go_enter Tryd.func35, Tryd.ntmps35
        go_wp2
        go_region_law ((refine words.step_append_any _ (by rfl) (.tmp 24) (.tmp 29) 50 (by rfl) B 5 i0 (.int .u8 0) 1 1 Tryd.underlying50 HI.out HZ0.out HZ1.out HZ2.out rfl (by decide) v acc.length _ (by rfl) (HO.out.alloc _) (w.heap.size + 1) _ 1 1 [_] (by rfl) (reads_one _ _) (one_one _) hn1 hn2 ?_ ?_); (focus (simp; omega)); intro v1 w1 hown1 hg1 hat1; obtain ⟨A1, l1, c1, rfl⟩ := own_slice hown1; have hk1 := (((HK.out.alloc _).drew.grown hg1 HN.out).cell 0 : w1.cell? ⟨kb, 0, none⟩ = _); have hf1 := (((HK.out.alloc _).drew.grown hg1 HN.out).free 0 : w1.frozen? ⟨kb, 0, none⟩ = _))
        all_goals (
          go_wp2
          go_ret
          refine ⟨by rw [HE.out]; rfl, ?_⟩
          rw [HF.out]
          exact esc_fin HK.out hkB hB HO.out hown1 hg1 rfl (by decide))
      · have e92 : ((34 : Int) == 92) = false := rfl
        go_enter Tryd.func35, Tryd.ntmps35
        go_wp2
        go_region_law ((refine words.step_append_any _ (by rfl) (.tmp 24) (.tmp 29) 50 (by rfl) B 5 i0 (.int .u8 0) 1 1 Tryd.underlying50 HI.out HZ0.out HZ1.out HZ2.out rfl (by decide) v acc.length _ (by rfl) (HO.out.alloc _) (w.heap.size + 1) _ 1 1 [_] (by rfl) (reads_one _ _) (one_one _) hn1 hn2 ?_ ?_); (focus (simp; omega)); intro v1 w1 hown1 hg1 hat1; obtain ⟨A1, l1, c1, rfl⟩ := own_slice hown1; have hk1 := (((HK.out.alloc _).drew.grown hg1 HN.out).cell 0 : w1.cell? ⟨kb, 0, none⟩ = _); have hf1 := (((HK.out.alloc _).drew.grown hg1 HN.out).free 0 : w1.frozen? ⟨kb, 0, none⟩ = _))
        all_goals (
          go_wp2
          go_ret
          refine ⟨by rw [HE.out]; rfl, ?_⟩
          rw [HF.out]
          exact esc_fin HK.out hkB hB HO.out hown1 hg1 rfl (by decide))
    · have q1 : ((a : Int) == 92) = false := by simp; omega
      have q2 : ((a : Int) == 34) = false := by simp; omega
      have hln : (a :: t).length = t.length + 1 := rfl
      by_cases h2 : (a :: t).length ≤ 2
      · have HE := Lib.hid (esc_short t hq (by omega))
        have HF := Lib.hid (escA_no (acc := acc) (R := a :: t) (by rw [HE.out]))
        generalize (a :: t).length = n at *
        have hlen : (0 : Int) < ((n : Nat) : Int) := by omega
        have hlen2 : 0 < n := by omega
        have h2' : ¬ (2 < n) := by omega
        clear hR hRl cD hq hln h2
        go_enter Tryd.func35, Tryd.ntmps35
        go_wp2
        go_ret
        exact ⟨by rw [HE.out]; rfl, by rw [HF.out]; exact esc_same_post HK.out HO.out rfl⟩
      · by_cases hx : a = 120
        · subst hx
          match t, hR, hRl, h2, hln with
          | [], _, _, h2, _ => exact absurd (by simp) h2
          | [_], _, _, h2, _ => exact absurd (by simp) h2
          | d :: e :: t2, hR, hRl, h2, hln =>
            have g1 : w.cell? ⟨rb, off + 1, none⟩ = some (.int .i32 (d : Int)) := hR 1 d rfl
            have g2 : w.cell? ⟨rb, off + 2, none⟩ = some (.int .i32 (e : Int)) := hR 2 e rfl
            have g1' := cell_alloc g1
            have g2' := cell_alloc g2
            have HX := Lib.hid (esc_120 d e t2)
            generalize hLL : (120 :: d :: e :: t2) = LL at *
            have hlen : (0 : Int) < ((LL.length : Nat) : Int) := by omega
            have hlen2 : 0 < LL.length := by omega
            have hlen3 : 2 < LL.length := by omega
            have hlen4 : (2 : Int) < ((LL.length : Nat) : Int) := by omega
            have hlen5 : (1 : Int) < ((LL.length : Nat) : Int) := by omega
            have hE0 : Hid (¬ (hexV d < 16 ∧ hexV e < 16) → escL LL = (0, 0)) := Lib.hid fun h => by rw [HX.out, if_neg h]
            have hE1 : Hid (hexV d < 16 ∧ hexV e < 16 → escL LL = (3, 16 * hexV d + hexV e)) := Lib.hid fun h => by rw [HX.out, if_pos h]
            clear HX
            have HF0 : Hid (escL LL = (0, 0) → escA acc LL = acc) := Lib.hid fun h => escA_no (by rw [h])
            have HF3 : Hid (∀ b, escL LL = (3, b) → escA acc LL = acc ++ [b.toUInt8]) := Lib.hid fun b h => escA_ok h
            clear hR hRl hLL h2 hln hq
            generalize escL LL = eL at *
            generalize escA acc LL = aL at *
            generalize LL.length = n at *
            by_cases hd2 : hexV d < 16
            · have hz2 : digZ d = (hexV d : Int) := by unfold digZ; rw [if_pos hd2]
              by_cases hd3 : hexV e < 16
              · have hz3 : digZ e = (hexV e : Int) := by unfold digZ; rw [if_pos hd3]
                have HE := Lib.hid (hE1.out ⟨hd2, hd3⟩)
                have HF := Lib.hid (HF3.out _ HE.out)
                generalize hexV d = u2 at *
                generalize hexV e = u3 at *
                clear hE0 hE1 HF0 HF3
                go_enter Tryd.func35, Tryd.ntmps35
                go_wp2_with (go_at_call 44; refine (cD _ _).mono ?_; rintro e w' ⟨rfl, rfl⟩)
                go_region_law (first | ((refine words.step_append_any _ (by rfl) (.tmp 59) (.tmp 71) 50 (by rfl) B 5 i0 (.int .u8 0) 1 1 Tryd.underlying50 HI.out HZ0.out HZ1.out HZ2.out rfl (by decide) v acc.length _ (by rfl) (HO.out.alloc _) (w.heap.size + 1) _ 1 1 [_] (by rfl) (reads_one _ _) (one_one _) hn1 hn2 ?_ ?_); (focus (simp; omega)); intro v1 w1 hown1 hg1 hat1; obtain ⟨A1, l1, c1, rfl⟩ := own_slice hown1; have hk1 := (((HK.out.alloc _).drew.grown hg1 HN.out).cell 0 : w1.cell? ⟨kb, 0, none⟩ = _); have hf1 := (((HK.out.alloc _).drew.grown hg1 HN.out).free 0 : w1.frozen? ⟨kb, 0, none⟩ = _)) | (go_simp; go_at_call 44; refine (cD _ _).mono ?_; rintro e w' ⟨rfl, rfl⟩))
                all_goals (
                  go_wp2
                  go_ret
                  refine ⟨by rw [HE.out]; rfl, ?_⟩
                  rw [HF.out]
                  exact esc_fin HK.out hkB hB HO.out hown1 hg1 (shl_or _ _ hd2 hd3) (by omega))
              · have hz3 : digZ e = -1 := by unfold digZ; rw [if_neg hd3]
                have HE := Lib.hid (hE0.out (fun h => hd3 h.2))
                have HF := Lib.hid (HF0.out HE.out)
                clear hE0 hE1 HF0 HF3 hd3
                go_enter Tryd.func35, Tryd.ntmps35
                go_wp2_with (go_at_call 44; refine (cD _ _).mono ?_; rintro e w' ⟨rfl, rfl⟩)
                go_ret
                exact ⟨by rw [HE.out]; rfl, by rw [HF.out]; exact esc_same_post HK.out HO.out rfl⟩
            · have hz2 : digZ d = -1 := by unfold digZ; rw [if_neg hd2]
              have HE := Lib.hid (hE0.out (fun h => hd2 h.1))
              have HF := Lib.hid (HF0.out HE.out)
              clear hE0 hE1 HF0 HF3 hd2
              go_enter Tryd.func35, Tryd.ntmps35
              go_wp2_with (go_at_call 44; refine (cD _ _).mono ?_; rintro e w' ⟨rfl, rfl⟩)
              go_ret
              exact ⟨by rw [HE.out]; rfl, by rw [HF.out]; exact esc_same_post HK.out HO.out rfl⟩
        · have HE := Lib.hid (esc_no t hq hx)
          have HF := Lib.hid (escA_no (acc := acc) (R := a :: t) (by rw [HE.out]))
          have q3 : ((a : Int) == 120) = false := by simp; omega
          generalize (a :: t).length = n at *
          have hlen : (0 : Int) < ((n : Nat) : Int) := by omega
          have hlen2 : 0 < n := by omega
          have hlen3 : 2 < n := by omega
          clear hR hRl cD hq hln h2 hx
          go_enter Tryd.func35, Tryd.ntmps35
          go_wp2
          go_ret
          exact ⟨by rw [HE.out]; rfl, by rw [HF.out]; exact esc_same_post HK.out HO.out rfl⟩
end Go.Proofs.YtmlklbbkkggpkaaDoor.show_
