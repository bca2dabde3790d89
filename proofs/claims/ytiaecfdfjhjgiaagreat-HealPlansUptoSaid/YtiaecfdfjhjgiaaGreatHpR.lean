/- Contracts: what is done to gates and wounds: armed, offline, fused. -/
import Derived.Laws.CopyOwn
import Derived.Test.YtiaecfdfjhjgiaaGreatHpN
import Derived.Test.YtiaecfdfjhjgiaaGreatHpQ
import Derived.Deep.CutRange
import Derived.Deep.RegionHeld3
import Derived.Sort.KeysCollected
import Derived.Test.YtiaecfdfjhjgiaaGreatShelf
namespace Go.Proofs.YtiaecfdfjhjgiaaGreat.hp
open Go.RowKit kit Go.ChangeMaps Go.Maps Go.Sort
set_option linter.unusedVariables false

theorem run_copy_full {P : Program} (w : World) (dT sT ty elem : TypeId) (k g n m c : Nat) (A : Option Addr) (cur : Array Value) (t : TypeId) (cs : List Value)
    (hu : P.underlying dT = some (.slice elem)) (hs : (P.info? elem).map (·.size) = some k) (hk : 0 < k)
    (hg : w.heap[g]? = some (.cells cur t (0, 0))) (B : Nat) (hr : words.Reads w B k A n cs) (hcur : cur.size = n * k) (h1 : ∀ v ∈ cs, v.oneCell' = true) :
    (Builtin.copy_ #[dT, sT] ty #[.slice (some ⟨g, 0, none⟩) n m, .slice A n c]).run P w = .ok (goInt n) (w.setRow g cs.toArray) := by
  cases hq : P.info? elem with
  | none => simp [hq] at hs
  | some i =>
    have hi : i.size = k := by simpa [hq] using hs
    by_cases h0 : n = 0
    · subst h0
      have hcs : cs = [] := List.eq_nil_of_length_eq_zero (by simpa using hr.1)
      subst hcs
      have hcu : cur = #[] := Array.eq_empty_of_size_eq_zero (by simpa using hcur)
      subst hcu
      rw [setRow_self w g #[] t (0, 0) hg]
      cases A with
      | none => simp [Builtin.copy_, run_underlying hu, Builtin.lenOf, Builtin.firstCells, sizeOf, typeInfo, hq, storeCells]
      | some ad =>
        have hl := run_loadCells_list (P := P) w ad [] (fun j v h => by simp at h)
        simp only [List.length_nil] at hl
        simp [Builtin.copy_, run_underlying hu, Builtin.lenOf, Builtin.firstCells, sizeOf, typeInfo, hq, storeCells, hi, hl]
    · obtain ⟨ad, rfl, _, hc⟩ := hr.2 (by omega)
      have hl := run_loadCells_list (P := P) w ad cs hc
      have hst := run_storeCells_at P g 0 t cs 0 cur w hg (by have := hr.1; omega) h1
      have hmin : Nat.min n n = n := Nat.min_self n
      have hlen := hr.1
      rw [hlen] at hl
      simp [Builtin.copy_, run_underlying hu, Builtin.lenOf, Builtin.firstCells, sizeOf, typeInfo, hq, hi, hl, hst]
      rw [List.drop_of_length_le (by simp; omega)]
      simp

theorem wpList_copy_full {P : Program} {w : World} {ops : Array Oper} {rest : List Oper} {o : Oper} {a : Act} {Q : Exit → Act → World → Prop} (hgd : o.guard = none) (d s : Operand) (dT sT : TypeId)
    (ho : o.op = .call { callee := .builtin .copy, args := #[d, s], argTypes := #[dT, sT] }) (elem : TypeId) (hu : P.underlying dT = some (.slice elem)) (k : Nat) (hsz : (P.info? elem).map (·.size) = some k) (hk : 0 < k)
    (g n m c : Nat) (A : Option Addr) (hd : a.eval d = .slice (some ⟨g, 0, none⟩) n m) (hs : a.eval s = .slice A n c)
    (cur : Array Value) (t : TypeId) (hg : w.heap[g]? = some (.cells cur t (0, 0))) (cs : List Value) (B : Nat) (hr : words.Reads w B k A n cs) (hcur : cur.size = n * k) (h1 : ∀ v ∈ cs, v.oneCell' = true)
    (h : wpList P ops Q rest (a.put o.dst (goInt n)) (w.setRow g cs.toArray)) : wpList P ops Q (o :: rest) a w := by
  refine wpList_plain hgd fun K hK => ?_
  have hrun := run_copy_full (P := P) w dT sT o.type elem k g n m c A cur t cs hu hsz hk hg B hr hcur h1
  unfold Oper.wp
  simp [execOp, ho, resolve, invoke, builtin, hd, hs, hrun, Result.andThen]
  exact hK _ _ h
/-- A fault's cells. -/
structure Flt where
  at_ : Int
  kind : Int
def flC (f : Flt) : List Value := [.int .i64 f.at_, .int .i64 f.kind]
theorem flC_len (f : Flt) : (flC f).length = 2 := rfl
theorem flat_one {α : Type} (cs : α → List Value) (h : ∀ x, ∀ u ∈ cs x, u.oneCell' = true) (l : List α) : ∀ u ∈ l.flatMap cs, u.oneCell' = true := by
  intro u hu
  obtain ⟨x, _, hx⟩ := List.mem_flatMap.1 hu
  exact h x u hx
theorem flC_one (f : Flt) : ∀ u ∈ flC f, u.oneCell' = true := one_two rfl rfl
theorem info220 : (Tryz.prog.info? 220).map (fun i => (i.zero, i.size, i.bytes)) = some (some (Value.agg #[.int .i64 0, .int .i64 0]), 2, 16) := by kernel_rfl
theorem run_make_faults (n : Nat) (hn : n ≤ 1099511627776) (w : World) : (Instr.makeSlice 79 (.int .i64 (n : Int)) (.int .i64 (n : Int))).run Tryz.prog w = .ok (.slice (some ⟨w.heap.size, 0, none⟩) n n) (w.alloc (.cells (madeCells #[.int .i64 0, .int .i64 0] (n * 2)) 220)) := by
  obtain ⟨i0, hi, hz0, hz1, hz2⟩ := info_parts info220
  have := run_make (P := Tryz.prog) w 79 220 i0 (.agg #[.int .i64 0, .int .i64 0]) Tryz.underlying79 hi hz0 .i64 .i64 (n : Int) (n : Int) (by omega) (Int.le_refl _) (by rw [hz2]; omega) (by omega)
  rw [hz1] at this
  simpa [Value.cells] using this
theorem Side.set {b : Nat} {a W : World} (h : Side (some b) a W) (o : Nat) (u : Value) : Side (some b) a (W.setCell ⟨b, o, none⟩ u) := ⟨h.low.setCell (Nat.zero_le _) u, fun g h1 h2 => (Below.heap_setCell W _ u g (fun e => h2 (by rw [e]))).trans (h.block g h1 h2)⟩
set_option maxRecDepth 100000 in
set_option maxHeartbeats 1000000 in
theorem warm_any (wb : Nat) (v d dn aw pl cl rd fz : Value) (l : List Flt) (hl : l.length ≤ 1099511627776) (w : World) (S : Nat → Prop) (h : Sl w S 2 flC v l) (hS : ∀ b, S b → b < w.heap.size ∧ b ≠ wb) (hb : Bk w wb 107 #[d, dn, aw, pl, cl, rd, fz]) :
    Calls Tryz.prog 51 #[.pointer (some ⟨wb, 0, none⟩), v] w fun e w' => e = .returned (.tuple #[]) ∧ (∃ A' n' c', Bk w' wb 107 #[d, dn, aw, .slice A' n' c', .int .i64 0, rd, fz]) ∧ Side (some wb) w w' := by
  obtain ⟨A, c, rfl, hr⟩ := h.reads flC_len (by decide)
  have HR := Lib.hid hr
  have hmk := run_make_faults l.length hl
  have c0 := hb.cell 0
  have hlt := hb.lt
  have hf := hb.free 3
  have hf4 := hb.free 4
  have HB := Lib.hid hb
  have c3 : w.cell? ⟨wb, 3, none⟩ = some pl := hb.cell 3
  have c4 : w.cell? ⟨wb, 4, none⟩ = some cl := hb.cell 4
  have hne : ¬ (w.heap.size = wb) := by omega
  obtain ⟨W, hW⟩ : ∃ W, ((w.setCell ⟨wb, 3, none⟩ (.slice (some ⟨w.heap.size, 0, none⟩) l.length l.length)).alloc (.cells (madeCells #[.int .i64 0, .int .i64 0] (l.length * 2)) 220)) = W := ⟨_, rfl⟩
  have hbl : Side (some wb) w W := by
    subst hW
    exact ⟨((Below.refl 0 w).setCell (Nat.zero_le _) _).alloc (Nat.zero_le _) _, fun g hg hne => (Below.heap_alloc _ _ g (by simpa using hg)).trans (Below.heap_setCell w _ _ g (fun e => hne (by rw [e])))⟩
  have hWb : Bk W wb 107 #[d, dn, aw, .slice (some ⟨w.heap.size, 0, none⟩) l.length l.length, cl, rd, fz] := by
    subst hW
    exact (hb.put 3 _).alloc _
  have hWg : W.heap[w.heap.size]? = some (.cells (madeCells #[.int .i64 0, .int .i64 0] (l.length * 2)) 220 (0, 0)) := by
    subst hW
    have := heap_alloc_new (w.setCell ⟨wb, 3, none⟩ (.slice (some ⟨w.heap.size, 0, none⟩) l.length l.length)) (.cells (madeCells #[.int .i64 0, .int .i64 0] (l.length * 2)) 220)
    rw [show (w.setCell ⟨wb, 3, none⟩ (.slice (some ⟨w.heap.size, 0, none⟩) l.length l.length)).heap.size = w.heap.size by simp] at this
    exact this
  have hrd : words.Reads W W.heap.size 2 A l.length (l.flatMap flC) := by
    obtain ⟨A', c', hv, hr'⟩ := (h.kept (w' := W) (fun b hb => hbl.block b (hS b hb).1 (fun e => (hS b hb).2 (by injection e)))).reads flC_len (by decide)
    injection hv with h1 h2 h3
    rw [← h1] at hr'
    exact hr'
  have hcp := run_copy_full (P := Tryz.prog) W 79 79 3 220 2 w.heap.size l.length l.length c A _ 220 (l.flatMap flC) Tryz.underlying79 (by kernel_rfl) (by decide) hWg W.heap.size hrd (by simp [madeCells]) (flat_one flC flC_one l)
  obtain ⟨W2, hW2⟩ : ∃ W2, W.setRow w.heap.size (l.flatMap flC).toArray = W2 := ⟨_, rfl⟩
  rw [hW2] at hcp
  have hb2 : Bk W2 wb 107 #[d, dn, aw, .slice (some ⟨w.heap.size, 0, none⟩) l.length l.length, cl, rd, fz] := by
    subst hW2
    exact (setRow_other W _ _ _ (fun e => hne e.symm)).trans hWb
  have hs2 : Side (some wb) w W2 := by
    subst hW2
    exact ⟨below_setRow hbl.low (Nat.zero_le _) _, fun g hg hn => (setRow_other W _ _ _ (by omega)).trans (hbl.block g hg hn)⟩
  rw [← hW] at hcp
  have hf5 : W2.frozen? ⟨wb, 4, none⟩ = false := hb2.free 4
  have c5 : W2.cell? ⟨wb, 4, none⟩ = some cl := hb2.cell 4
  have HB2 := Lib.hid hb2
  have HS2 := Lib.hid hs2
  clear hr hb c0 h hW2 hW hbl hWb hWg hrd hb2 hs2
  go_enter Tryz.func51, Tryz.ntmps51
  go_wp2
  go_end0
  exact ⟨rfl, ⟨_, _, _, HB2.out.put 4 _⟩, HS2.out.set _ _⟩
theorem two_boxes {w w1 : World} {cs1 cs2 : Array Value} {t1 t2 : TypeId} (hg : ((w.alloc (.cells cs1 t1)).alloc (.cells cs2 t2)).grownBy w1 (Value.slice none 0 0).ownBlock) :
    Bk w1 w.heap.size t1 cs1 ∧ Bk w1 (w.heap.size + 1) t2 cs2 ∧ w.heap.size + 2 ≤ w1.heap.size ∧ Below w.heap.size w w1 := by
  have h2 := Bk.mk_new (w.alloc (.cells cs1 t1)) t2 cs2
  have hs : (w.alloc (.cells cs1 t1)).heap.size = w.heap.size + 1 := by simp
  rw [hs] at h2
  refine ⟨((Bk.mk_new w t1 cs1).alloc _).grown hg (by simp [Value.ownBlock]), h2.grown hg (by simp [Value.ownBlock]), by have := hg.size; simpa using this, ?_⟩
  exact Below.grown (((Below.refl _ _).alloc (Nat.le_refl _) _).alloc (by simp) _) hg (by simp; omega) (fun j hj => by simp [Value.ownBlock] at hj)
set_option maxRecDepth 100000 in
set_option maxHeartbeats 1000000 in
theorem garm_any (dn aw la : Bool) (Ap : Option Addr) (np cp : Nat) (ca ro r k i : Int) (v : Value) (l : List Flt) (hl : l.length ≤ 1099511627776) (w : World) (S : Nat → Prop) (h : Sl w S 2 flC v l) :
    Calls Tryz.prog 52 #[.agg #[.bool dn, .bool aw, .slice Ap np cp, .int .i64 ca, .int .i64 ro, .bool la, .int .i64 r, .int .i64 k, .int .i64 i], v] w fun e w' => ∃ A' n' c', e = .returned (.agg #[.bool dn, .bool aw, .slice A' n' c', .int .i64 0, .int .i64 ro, .bool la, .int .i64 r, .int .i64 k, .int .i64 i]) ∧ Below w.heap.size w w' := by
  obtain ⟨A, c, rfl, hr⟩ := h.reads flC_len (by decide)
  obtain ⟨i0, hi, hz0, hz1, hz2⟩ := info_parts info220
  have HI := Lib.hid hi; clear hi
  have HZ0 := Lib.hid hz0; clear hz0
  have HZ1 := Lib.hid hz1; clear hz1
  have HZ2 := Lib.hid hz2; clear hz2
  have HR := Lib.hid hr
  have hn1 : 0 + l.length ≤ maxLen := by unfold maxLen; omega
  have hn2 : (0 + l.length) * 16 ≤ 140737488355328 := by omega
  clear hr h
  go_enter Tryz.func52, Tryz.ntmps52
  go_wp2_with (at_builtin; refine words.wpList_append_any _ rfl (.tmp 6) (.tmp 7) 79 (by rfl) w.heap.size 220 i0 (.agg #[.int .i64 0, .int .i64 0]) 2 16 Tryz.underlying79 HI.out HZ0.out HZ1.out HZ2.out rfl (by decide) _ 0 [] (by rfl) (World.ownsRow_nil _ _ _ _) w.heap.size A l.length c (l.flatMap flC) (by rfl) ((HR.out.alloc (Nat.le_refl _) _).alloc (by simp) _) (flat_one flC flC_one l) hn1 hn2 (by simp; omega) ?_; intro v1' w1 ho hg _; obtain ⟨A1, l1, c1, rfl⟩ := own_slice ho; clear ho; obtain ⟨b1, b2, hsz, hB⟩ := two_boxes hg; have e0 : w1.cell? ⟨w.heap.size, 0, none⟩ = some (.bool dn) := b1.cell 0; have e1 : w1.cell? ⟨w.heap.size, 1, none⟩ = some (.bool aw) := b1.cell 1; have e2 : w1.cell? ⟨w.heap.size, 2, none⟩ = some (.slice Ap np cp) := b1.cell 2; have e3 : w1.cell? ⟨w.heap.size, 3, none⟩ = some (.int .i64 ca) := b1.cell 3; have e4 : w1.cell? ⟨w.heap.size, 4, none⟩ = some (.int .i64 ro) := b1.cell 4; have e5 : w1.cell? ⟨w.heap.size, 5, none⟩ = some (.bool la) := b1.cell 5; have e6 : w1.cell? ⟨w.heap.size, 6, none⟩ = some (.int .i64 r) := b1.cell 6; have e7 : w1.cell? ⟨w.heap.size, 7, none⟩ = some (.int .i64 k) := b1.cell 7; have e8 : w1.cell? ⟨w.heap.size, 8, none⟩ = some (.int .i64 i) := b1.cell 8; have g0 : w1.cell? ⟨w.heap.size + 1, 0, none⟩ = some (.bool false) := b2.cell 0; have g1 : w1.cell? ⟨w.heap.size + 1, 1, none⟩ = some (.bool false) := b2.cell 1; have g2 : w1.cell? ⟨w.heap.size + 1, 2, none⟩ = some (.slice none 0 0) := b2.cell 2; have g3 : w1.cell? ⟨w.heap.size + 1, 3, none⟩ = some (.int .i64 0) := b2.cell 3; have g4 : w1.cell? ⟨w.heap.size + 1, 4, none⟩ = some (.int .i64 0) := b2.cell 4; have g5 : w1.cell? ⟨w.heap.size + 1, 5, none⟩ = some (.bool false) := b2.cell 5; have g6 : w1.cell? ⟨w.heap.size + 1, 6, none⟩ = some (.int .i64 0) := b2.cell 6; have g7 : w1.cell? ⟨w.heap.size + 1, 7, none⟩ = some (.int .i64 0) := b2.cell 7; have g8 : w1.cell? ⟨w.heap.size + 1, 8, none⟩ = some (.int .i64 0) := b2.cell 8; have f1 := b1.free; have f2 := b2.free; clear hg b1 b2)
  clear f1 f2
  refine bodyPost_ret (v := .agg #[.bool dn, .bool aw, .slice A1 l1 c1, .int .i64 0, .int .i64 ro, .bool la, .int .i64 r, .int .i64 k, .int .i64 i]) ?_ rfl ⟨A1, l1, c1, rfl, ?_⟩
  · simp [results, Tryz.results52, go_sem, g0, g1, g2, g3, g4, g5, g6, g7, g8]
  · iterate 11 refine Below.setCell ?_ (by first | exact Nat.le_refl _ | exact Nat.le_succ _) _
    exact hB
theorem goff_any (dn aw la on : Bool) (Ap : Option Addr) (np cp : Nat) (ca ro r k i : Int) (w : World) :
    Calls Tryz.prog 54 #[.agg #[.bool dn, .bool aw, .slice Ap np cp, .int .i64 ca, .int .i64 ro, .bool la, .int .i64 r, .int .i64 k, .int .i64 i], .bool on] w fun e w' => e = .returned (.agg #[.bool dn, .bool on, .slice Ap np cp, .int .i64 ca, .int .i64 ro, .bool la, .int .i64 r, .int .i64 k, .int .i64 i]) ∧ Below w.heap.size w w' := by
  go_enter Tryz.func54, Tryz.ntmps54
  go_wp2
  refine bodyPost_ret (v := .agg #[.bool dn, .bool on, .slice Ap np cp, .int .i64 ca, .int .i64 ro, .bool la, .int .i64 r, .int .i64 k, .int .i64 i]) ?_ rfl ⟨rfl, ?_⟩
  · simp [results, Tryz.results54, go_sem]
  · exact ((Below.refl _ _).alloc (Nat.le_refl _) _).alloc (by simp) _
theorem gfuse_any (dn aw la : Bool) (Ap : Option Addr) (np cp : Nat) (ca ro r k i r' k' i' : Int) (w : World) :
    Calls Tryz.prog 56 #[.agg #[.bool dn, .bool aw, .slice Ap np cp, .int .i64 ca, .int .i64 ro, .bool la, .int .i64 r, .int .i64 k, .int .i64 i], .int .i64 r', .int .i64 k', .int .i64 i'] w fun e w' => e = .returned (.agg #[.bool dn, .bool aw, .slice Ap np cp, .int .i64 ca, .int .i64 ro, .bool (decide (0 ≤ r')), .int .i64 r', .int .i64 k', .int .i64 i']) ∧ Below w.heap.size w w' := by
  go_enter Tryz.func56, Tryz.ntmps56
  go_wp2
  refine bodyPost_ret (v := .agg #[.bool dn, .bool aw, .slice Ap np cp, .int .i64 ca, .int .i64 ro, .bool (decide (0 ≤ r')), .int .i64 r', .int .i64 k', .int .i64 i']) ?_ rfl ⟨rfl, ?_⟩
  · simp [results, Tryz.results56, go_sem]
  · exact ((Below.refl _ _).alloc (Nat.le_refl _) _).alloc (by simp) _
theorem woff_any (wb : Nat) (d dn pl cl rd fz : Value) (aw on : Bool) (w : World) (hb : Bk w wb 107 #[d, dn, .bool aw, pl, cl, rd, fz]) :
    Calls Tryz.prog 53 #[.pointer (some ⟨wb, 0, none⟩), .bool on] w fun e w' => e = .returned (.tuple #[]) ∧ Bk w' wb 107 #[d, dn, .bool on, pl, cl, rd, fz] ∧ Side (some wb) w w' := by
  have c2 : w.cell? ⟨wb, 2, none⟩ = some (.bool aw) := hb.cell 2
  have f2 : w.frozen? ⟨wb, 2, none⟩ = false := hb.free 2
  have HB := Lib.hid hb
  clear hb
  go_enter Tryz.func53, Tryz.ntmps53
  go_wp2
  go_end0
  exact ⟨rfl, HB.out.put 2 _, (Side.refl _ _).set _ _⟩
theorem wfuse_no (wb : Nat) (d dn aw pl cl rd : Value) (fz : Option Addr) (r k i : Int) (hr : r < 0) (w : World) (hb : Bk w wb 107 #[d, dn, aw, pl, cl, rd, .pointer fz]) :
    Calls Tryz.prog 55 #[.pointer (some ⟨wb, 0, none⟩), .int .i64 r, .int .i64 k, .int .i64 i] w fun e w' => e = .returned (.tuple #[]) ∧ Bk w' wb 107 #[d, dn, aw, pl, cl, rd, .pointer none] ∧ Side (some wb) w w' := by
  have c2 : w.cell? ⟨wb, 6, none⟩ = some (.pointer fz) := hb.cell 6
  have f2 : w.frozen? ⟨wb, 6, none⟩ = false := hb.free 6
  have HB := Lib.hid hb
  clear hb
  go_enter Tryz.func55, Tryz.ntmps55
  go_wp2
  go_end0
  exact ⟨rfl, HB.out.put 6 _, (Side.refl _ _).set _ _⟩
theorem wfuse_yes (wb : Nat) (d dn aw pl cl rd : Value) (fz : Option Addr) (r k i : Int) (hr : 0 ≤ r) (w : World) (hb : Bk w wb 107 #[d, dn, aw, pl, cl, rd, .pointer fz]) :
    Calls Tryz.prog 55 #[.pointer (some ⟨wb, 0, none⟩), .int .i64 r, .int .i64 k, .int .i64 i] w fun e w' => e = .returned (.tuple #[]) ∧ Bk w' wb 107 #[d, dn, aw, pl, cl, rd, .pointer (some ⟨w.heap.size, 0, none⟩)] ∧ Bk w' w.heap.size 155 #[.int .i64 r, .int .i64 k, .int .i64 i] ∧ Side (some wb) w w' ∧ w'.heap.size = w.heap.size + 1 := by
  have c2 : w.cell? ⟨wb, 6, none⟩ = some (.pointer fz) := hb.cell 6
  have f2 : w.frozen? ⟨wb, 6, none⟩ = false := hb.free 6
  have hlt := hb.lt
  have hne : ¬ (w.heap.size = wb) := by omega
  have HB := Lib.hid hb
  clear hb
  go_enter Tryz.func55, Tryz.ntmps55
  go_wp2
  go_end0
  refine ⟨rfl, ((HB.out.put 6 _).put 6 _).alloc _, ?_, (((Side.refl _ _).set _ _).set _ _).alloc _, by simp⟩
  have := Bk.mk_new ((w.setCell ⟨wb, 6, none⟩ (.pointer none)).setCell ⟨wb, 6, none⟩ (.pointer (some ⟨w.heap.size, 0, none⟩))) 155 #[.int .i64 r, .int .i64 k, .int .i64 i]
  simpa using this
theorem pick_in (k n : Int) (h0 : 0 ≤ k) (h1 : k < n) (w : World) : Calls Tryz.prog 50 #[.int .i64 k, .int .i64 n] w fun e w' => e = .returned (.int .i64 k) ∧ w = w' := by
  have hm : k.tmod n = k := Int.tmod_eq_of_lt h0 h1
  have hm' : k % n = k := Int.emod_eq_of_lt h0 h1
  have h2 : ¬ (n < 1) := by omega
  have h3 : ¬ (k < 0) := by omega
  have h4 : ¬ (n = 0) := by omega
  go_enter Tryz.func50, Tryz.ntmps50
  go_wp2
  go_ret
  exact ⟨rfl, rfl⟩
end Go.Proofs.YtiaecfdfjhjgiaaGreat.hp
