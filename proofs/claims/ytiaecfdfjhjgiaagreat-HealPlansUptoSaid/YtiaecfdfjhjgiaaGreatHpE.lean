/- Contracts: the document's find and set, on directories as rising lists. -/
import Derived.Test.YtiaecfdfjhjgiaaGreatHpC
import Derived.Test.YtiaecfdfjhjgiaaGreatHpD
namespace Go.Proofs.YtiaecfdfjhjgiaaGreat.hp
open Go.RowKit kit
set_option linter.unusedVariables false

def eC (e : En) : List Value := [.string e.name, .int .i64 (e.body : Int)]
theorem eC_len (e : En) : (eC e).length = 2 := rfl
theorem name_eq (a b : ByteArray) : (a.toList == b.toList) = decide (nk a = nk b) := by
  rw [Lib.toList_data, Lib.toList_data, Bool.eq_iff_iff]
  simp [nk]
theorem name_lt (a b : ByteArray) : Op.bytesLess a.toList b.toList = decide (nk a < nk b) := by
  rw [Lib.toList_data, Lib.toList_data, bytesLess_eq]
  rfl
theorem drop_get {α : Type} (l : List α) (k : Nat) (a : α) (h : l[k]? = some a) : l.drop k = a :: l.drop (k + 1) := by
  have hl := (List.getElem?_eq_some_iff.1 h).1
  have e := (List.getElem?_eq_some_iff.1 h).2
  rw [List.drop_eq_getElem_cons hl, e]
theorem take_get {α : Type} (l : List α) (k : Nat) (a : α) (h : l[k]? = some a) : l.take (k + 1) = l.take k ++ [a] := by
  rw [List.take_add_one, h]
  rfl

set_option maxRecDepth 100000 in
set_option maxHeartbeats 1000000 in
theorem find_any (v : Value) (es : List En) (nm : ByteArray) (hl : es.length ≤ 1099511627776) (w : World) (S : Nat → Prop) (h : Sl w S 2 eC v es) :
    Calls Tryz.prog 43 #[v, .string nm] w fun e w' => e = .returned (.int .i64 (findZ es nm)) ∧ w' = w := by
  obtain ⟨A, c, rfl, hc⟩ := h
  have HC := Lib.hid hc
  clear hc
  obtain ⟨ans, hans⟩ : ∃ ans, findZ es nm = ans := ⟨_, rfl⟩
  rw [hans]
  have HA := Lib.hid hans
  clear hans
  go_enter Tryz.func43, Tryz.ntmps43
  go_wp2
  go_loop [4, 5] (fun _ i => ∃ k : Nat, k ≤ es.length ∧ i = .int .i64 (k : Int) ∧ ans = findZ (es.drop k) nm) (fun _ i => es.length - (intOf i).toNat)
  case atStart => exact ⟨0, by omega, rfl, HA.out.symm⟩
  case round =>
    obtain ⟨k, hk, rfl, hz⟩ := hrel
    have HZ := Lib.hid hz; clear hz
    by_cases hlt : k < es.length
    · obtain ⟨e, he⟩ : ∃ e, es[k]? = some e := ⟨_, List.getElem?_eq_getElem hlt⟩
      have hne : es ≠ [] := by intro e; rw [e] at hlt; simp at hlt
      obtain ⟨b, o, rfl, hSb, hcs⟩ := HC.out hne
      have c0 : w.cell? ⟨b, o + k * 2, none⟩ = some (.string e.name) := hcs k e he 0 _ rfl
      have c1 : w.cell? ⟨b, o + k * 2 + 1, none⟩ = some (.int .i64 (e.body : Int)) := hcs k e he 1 _ rfl
      have HD := Lib.hid (HZ.out.trans ((congrArg (findZ · nm) (drop_get es k e he)).trans (findZ_cons e _ nm)))
      have hi0 : (0 : Int) ≤ (k : Int) := by omega
      have hi1 : (k : Int) < (es.length : Int) := by omega
      have hcmp : (e.name.toList == nm.toList) = decide (e.k = nk nm) := name_eq e.name nm
      clear hcs he hne
      by_cases hn : e.k = nk nm
      · rw [decide_eq_true hn] at hcmp
        have HF := Lib.hid (HD.out.trans (if_pos hn))
        clear hn
        go_wp2
        go_ret
        exact ⟨by rw [HF.out]; rfl, rfl⟩
      · rw [decide_eq_false hn] at hcmp
        have HF := Lib.hid (HD.out.trans (if_neg hn))
        clear hn
        go_wp2
        go_round
        case rel => exact ⟨k + 1, by omega, by go_num, HF.out⟩
        case measure => simp [intOf]; omega
    · have HF := Lib.hid (show ans = -1 by rw [HZ.out, List.drop_of_length_le (by omega)]; rfl)
      go_wp2
      go_ret
      exact ⟨by rw [HF.out]; rfl, rfl⟩

theorem setE_nil (nm : ByteArray) (i : Nat) : setE [] nm i = [⟨nm, i⟩] := rfl
theorem setE_lt (e : En) (es : List En) (nm : ByteArray) (i : Nat) (h : e.k < nk nm) : setE (e :: es) nm i = e :: setE es nm i := by
  unfold setE
  rw [List.takeWhile_cons, List.dropWhile_cons, if_pos (decide_eq_true h), if_pos (decide_eq_true h)]
  rfl
theorem setE_ge (e : En) (es : List En) (nm : ByteArray) (i : Nat) (h : ¬ e.k < nk nm) : setE (e :: es) nm i = ⟨nm, i⟩ :: (if e.k = nk nm then es else e :: es) := by
  unfold setE
  rw [List.takeWhile_cons, List.dropWhile_cons, if_neg (by simpa using h), if_neg (by simpa using h)]
  rfl
theorem info118 : (Tryz.prog.info? 118).map (fun i => (i.zero, i.size, i.bytes)) = some (some (Value.agg #[.string ⟨#[]⟩, .int .i64 0]), 2, 24) := by kernel_rfl

/-- Entries gathered in a row of the call's own. -/
structure EnRel (w wr : World) (out : Value) (xs : List En) : Prop where
  own : wr.ownsRow w.heap.size 118 2 out xs.length (xs.flatMap eC)
  bel : Below w.heap.size w wr
theorem EnRel.next {w wr w2 : World} {out v2 : Value} {xs : List En} {e : En} {o : Obj} (h : EnRel w wr out xs) (ho : w2.ownsRow w.heap.size 118 2 v2 (xs.length + 1) (xs.flatMap eC ++ [.string e.name, .int .i64 (e.body : Int)])) (hg : (wr.alloc o).grownBy w2 out.ownBlock) : EnRel w w2 v2 (xs ++ [e]) := by
  have hs := h.bel.size
  refine ⟨by rw [List.flatMap_append, List.length_append]; exact ho, ?_⟩
  exact Below.grown (h.bel.alloc hs o) hg (by simp; omega) (fun j hj => (h.own.lt j hj).1)

set_option maxRecDepth 1000000 in
set_option maxHeartbeats 4000000 in
theorem set_any (v : Value) (es : List En) (nm : ByteArray) (to : Nat) (hl : es.length ≤ 1099511627776) (w : World) (S : Nat → Prop) (h : Sl w S 2 eC v es) :
    Calls Tryz.prog 45 #[v, .string nm, .int .i64 (to : Int)] w fun e w' => ∃ v', e = .returned v' ∧ EnRel w w' v' (setE es nm to) := by
  obtain ⟨i0, hi, hz0, hz1, hz2⟩ := info_parts info118
  have HI := Lib.hid hi; clear hi
  have HZ0 := Lib.hid hz0; clear hz0
  have HZ1 := Lib.hid hz1; clear hz1
  have HZ2 := Lib.hid hz2; clear hz2
  obtain ⟨A, c, rfl, hc⟩ := h
  have HC := Lib.hid hc
  clear hc
  obtain ⟨ans, hans⟩ : ∃ ans, setE es nm to = ans := ⟨_, rfl⟩
  rw [hans]
  have HA := Lib.hid hans
  clear hans
  have hto : (0 : Int) ≤ (to : Int) := by omega
  go_enter Tryz.func45, Tryz.ntmps45
  go_wp2
  go_loopw [7, 8] (fun out i wr => ∃ k : Nat, k ≤ es.length ∧ i = .int .i64 (k : Int) ∧ ans = es.take k ++ setE (es.drop k) nm to ∧ EnRel w wr out (es.take k)) (fun _ i _ => es.length - (intOf i).toNat)
  case atStart => exact ⟨0, by omega, rfl, by rw [← HA.out]; rfl, World.ownsRow_nil _ _ _ _, Below.refl _ _⟩
  case round =>
    obtain ⟨k, hk, rfl, hz, hrel⟩ := hrel
    have HZ := Lib.hid hz; clear hz
    have HR := Lib.hid hrel; clear hrel
    have htl : (es.take k).length = k := by rw [List.length_take]; omega
    by_cases hlt : k < es.length
    · obtain ⟨e, he⟩ : ∃ e, es[k]? = some e := ⟨_, List.getElem?_eq_getElem hlt⟩
      have hne : es ≠ [] := by intro e; rw [e] at hlt; simp at hlt
      obtain ⟨b, o, rfl, hSb, hcs⟩ := HC.out hne
      have hseg := (hcs k e he).keep HR.out.bel
      have c0 : wr.cell? ⟨b, o + k * 2, none⟩ = some (.string e.name) := hseg 0 _ rfl
      have c1 : wr.cell? ⟨b, o + k * 2 + 1, none⟩ = some (.int .i64 (e.body : Int)) := hseg 1 _ rfl
      have c00 : w.cell? ⟨b, o + k * 2, none⟩ = some (.string e.name) := hcs k e he 0 _ rfl
      have HE := Lib.hid he
      have hi0 : (0 : Int) ≤ (k : Int) := by omega
      have hi1 : (k : Int) < (es.length : Int) := by omega
      have hcmp : Op.bytesLess e.name.toList nm.toList = decide (e.k < nk nm) := name_lt e.name nm
      have hn3 : (es.take k).length + 1 ≤ maxLen := by unfold maxLen; omega
      have hn4 : ((es.take k).length + 1) * 24 ≤ 140737488355328 := by omega
      have hbs := HR.out.bel.size
      clear hseg he hne hcs
      by_cases hn : e.k < nk nm
      · rw [decide_eq_true hn] at hcmp
        have hstep : setE (es.drop k) nm to = e :: setE (es.drop (k + 1)) nm to := by
          rw [drop_get es k e HE.out]
          exact setE_lt e _ nm to hn
        have HF : Hid (ans = es.take (k + 1) ++ setE (es.drop (k + 1)) nm to) := Lib.hid (by rw [HZ.out, hstep, take_get es k e HE.out, List.append_assoc]; rfl)
        clear hn hstep
        go_wp2_with (at_builtin; refine words.wpList_append_any _ rfl _ _ 120 rfl w.heap.size 118 i0 (.agg #[.string ⟨#[]⟩, .int .i64 0]) 2 24 Tryz.underlying120 HI.out HZ0.out HZ1.out HZ2.out rfl (by decide) _ (es.take k).length ((es.take k).flatMap eC) rfl (HR.out.own.alloc _) (wr.heap.size + 1) _ 1 1 [.string e.name, .int .i64 (e.body : Int)] rfl (reads_new _ _ _) (one_two rfl rfl) hn3 hn4 ?_ ?_; (focus (simp; omega)); intro v2 w2 ho hg _)
        go_roundw
        case rel =>
          have := HR.out.next ho hg
          rw [← take_get es k e HE.out] at this
          exact ⟨k + 1, by omega, by go_num, HF.out, this⟩
        case measure => simp [intOf]; omega
      · rw [decide_eq_false hn] at hcmp
        have hset := setE_ge e (es.drop (k + 1)) nm to hn
        rw [← drop_get es k e HE.out] at hset
        have hcmp2 : (e.name.toList == nm.toList) = decide (e.k = nk nm) := name_eq e.name nm
        by_cases hn2 : e.k = nk nm
        · rw [decide_eq_true hn2] at hcmp2
          rw [if_pos hn2] at hset
          have HF : Hid (ans = (es.take k ++ [⟨nm, to⟩]) ++ es.drop (k + 1)) := Lib.hid (by rw [HZ.out, hset, List.append_assoc]; rfl)
          clear hn hn2 hset
          go_wp2_with (at_builtin; refine words.wpList_append_any _ rfl _ _ 120 rfl w.heap.size 118 i0 (.agg #[.string ⟨#[]⟩, .int .i64 0]) 2 24 Tryz.underlying120 HI.out HZ0.out HZ1.out HZ2.out rfl (by decide) _ (es.take k).length ((es.take k).flatMap eC) rfl (HR.out.own.alloc _) (wr.heap.size + 1) _ 1 1 [.string nm, .int .i64 (to : Int)] rfl (reads_new _ _ _) (one_two rfl rfl) hn3 hn4 ?_ ?_; (focus (simp; omega)); intro v2 w2 ho2 hg2 _; have X2 := Lib.hid (HR.out.next (e := ⟨nm, to⟩) ho2 hg2); have d0 : w2.cell? ⟨b, o + k * 2, none⟩ = some (.string e.name) := cell_later X2.out.bel c00)
          go_loopw [7, 8] (fun out i wx => ∃ (q : Nat) (xs : List En), q ≤ es.length ∧ i = .int .i64 (q : Int) ∧ ans = xs ++ es.drop q ∧ EnRel w wx out xs ∧ xs.length + (es.length - q) ≤ es.length + 1) (fun _ i _ => es.length - (intOf i).toNat)
          case atStart => exact ⟨k + 1, _, by omega, by go_num, HF.out, X2.out, by rw [List.length_append, htl, List.length_singleton]; omega⟩
          case round =>
            obtain ⟨q, xs, hq, rfl, hz, hrel, hxl⟩ := hrel
            have HZ2' := Lib.hid hz; clear hz
            have HR2 := Lib.hid hrel; clear hrel
            by_cases hq2 : q < es.length
            · obtain ⟨e2, he2⟩ : ∃ e, es[q]? = some e := ⟨_, List.getElem?_eq_getElem hq2⟩
              have hne : es ≠ [] := by intro e; rw [e] at hq2; simp at hq2
              obtain ⟨b2, o2, hA2, hSb2, hcs2⟩ := HC.out hne
              obtain ⟨rfl, rfl⟩ : b = b2 ∧ o = o2 := by injection hA2 with h; injection h with h1 h2; exact ⟨h1, h2⟩
              have hseg := (hcs2 q e2 he2).keep HR2.out.bel
              have d0 : wr.cell? ⟨b, o + q * 2, none⟩ = some (.string e2.name) := hseg 0 _ rfl
              have d1 : wr.cell? ⟨b, o + q * 2 + 1, none⟩ = some (.int .i64 (e2.body : Int)) := hseg 1 _ rfl
              have HE2 := Lib.hid he2
              have hi2 : (0 : Int) ≤ (q : Int) := by omega
              have hi3 : (q : Int) < (es.length : Int) := by omega
              have hn5 : xs.length + 1 ≤ maxLen := by unfold maxLen; omega
              have hn6 : (xs.length + 1) * 24 ≤ 140737488355328 := by omega
              have hbs2 := HR2.out.bel.size
              clear hseg he2 hne hcs2
              go_wp2_with (at_builtin; refine words.wpList_append_any _ rfl _ _ 120 rfl w.heap.size 118 i0 (.agg #[.string ⟨#[]⟩, .int .i64 0]) 2 24 Tryz.underlying120 HI.out HZ0.out HZ1.out HZ2.out rfl (by decide) _ xs.length (xs.flatMap eC) rfl (HR2.out.own.alloc _) (wr.heap.size + 1) _ 1 1 [.string e2.name, .int .i64 (e2.body : Int)] rfl (reads_new _ _ _) (one_two rfl rfl) hn5 hn6 ?_ ?_; (focus (simp; omega)); intro v3 w3 ho3 hg3 _)
              go_roundw
              case rel => exact ⟨q + 1, xs ++ [e2], by omega, by go_num, by rw [HZ2'.out, drop_get es q e2 HE2.out]; simp, HR2.out.next ho3 hg3, by rw [List.length_append, List.length_singleton]; omega⟩
              case measure => simp [intOf]; omega
            · have hz2 : Hid (ans = xs) := Lib.hid (by rw [HZ2'.out, List.drop_of_length_le (by omega), List.append_nil])
              go_wp2
              go_ret
              exact ⟨_, rfl, by rw [hz2.out]; exact HR2.out⟩
        · rw [decide_eq_false hn2] at hcmp2
          rw [if_neg hn2] at hset
          have HF : Hid (ans = (es.take k ++ [⟨nm, to⟩]) ++ es.drop k) := Lib.hid (by rw [HZ.out, hset, List.append_assoc]; rfl)
          clear hn hn2 hset
          go_wp2_with (at_builtin; refine words.wpList_append_any _ rfl _ _ 120 rfl w.heap.size 118 i0 (.agg #[.string ⟨#[]⟩, .int .i64 0]) 2 24 Tryz.underlying120 HI.out HZ0.out HZ1.out HZ2.out rfl (by decide) _ (es.take k).length ((es.take k).flatMap eC) rfl (HR.out.own.alloc _) (wr.heap.size + 1) _ 1 1 [.string nm, .int .i64 (to : Int)] rfl (reads_new _ _ _) (one_two rfl rfl) hn3 hn4 ?_ ?_; (focus (simp; omega)); intro v2 w2 ho2 hg2 _; have X2 := Lib.hid (HR.out.next (e := ⟨nm, to⟩) ho2 hg2); have d0 : w2.cell? ⟨b, o + k * 2, none⟩ = some (.string e.name) := cell_later X2.out.bel c00)
          go_loopw [7, 8] (fun out i wx => ∃ (q : Nat) (xs : List En), q ≤ es.length ∧ i = .int .i64 (q : Int) ∧ ans = xs ++ es.drop q ∧ EnRel w wx out xs ∧ xs.length + (es.length - q) ≤ es.length + 1) (fun _ i _ => es.length - (intOf i).toNat)
          case atStart => exact ⟨k, _, by omega, by go_num, HF.out, X2.out, by rw [List.length_append, htl, List.length_singleton]; omega⟩
          case round =>
            obtain ⟨q, xs, hq, rfl, hz, hrel, hxl⟩ := hrel
            have HZ2' := Lib.hid hz; clear hz
            have HR2 := Lib.hid hrel; clear hrel
            by_cases hq2 : q < es.length
            · obtain ⟨e2, he2⟩ : ∃ e, es[q]? = some e := ⟨_, List.getElem?_eq_getElem hq2⟩
              have hne : es ≠ [] := by intro e; rw [e] at hq2; simp at hq2
              obtain ⟨b2, o2, hA2, hSb2, hcs2⟩ := HC.out hne
              obtain ⟨rfl, rfl⟩ : b = b2 ∧ o = o2 := by injection hA2 with h; injection h with h1 h2; exact ⟨h1, h2⟩
              have hseg := (hcs2 q e2 he2).keep HR2.out.bel
              have d0 : wr.cell? ⟨b, o + q * 2, none⟩ = some (.string e2.name) := hseg 0 _ rfl
              have d1 : wr.cell? ⟨b, o + q * 2 + 1, none⟩ = some (.int .i64 (e2.body : Int)) := hseg 1 _ rfl
              have HE2 := Lib.hid he2
              have hi2 : (0 : Int) ≤ (q : Int) := by omega
              have hi3 : (q : Int) < (es.length : Int) := by omega
              have hn5 : xs.length + 1 ≤ maxLen := by unfold maxLen; omega
              have hn6 : (xs.length + 1) * 24 ≤ 140737488355328 := by omega
              have hbs2 := HR2.out.bel.size
              clear hseg he2 hne hcs2
              go_wp2_with (at_builtin; refine words.wpList_append_any _ rfl _ _ 120 rfl w.heap.size 118 i0 (.agg #[.string ⟨#[]⟩, .int .i64 0]) 2 24 Tryz.underlying120 HI.out HZ0.out HZ1.out HZ2.out rfl (by decide) _ xs.length (xs.flatMap eC) rfl (HR2.out.own.alloc _) (wr.heap.size + 1) _ 1 1 [.string e2.name, .int .i64 (e2.body : Int)] rfl (reads_new _ _ _) (one_two rfl rfl) hn5 hn6 ?_ ?_; (focus (simp; omega)); intro v3 w3 ho3 hg3 _)
              go_roundw
              case rel => exact ⟨q + 1, xs ++ [e2], by omega, by go_num, by rw [HZ2'.out, drop_get es q e2 HE2.out]; simp, HR2.out.next ho3 hg3, by rw [List.length_append, List.length_singleton]; omega⟩
              case measure => simp [intOf]; omega
            · have hz2 : Hid (ans = xs) := Lib.hid (by rw [HZ2'.out, List.drop_of_length_le (by omega), List.append_nil])
              go_wp2
              go_ret
              exact ⟨_, rfl, by rw [hz2.out]; exact HR2.out⟩
    · obtain rfl : k = es.length := by omega
      have hn3 : (es.take es.length).length + 1 ≤ maxLen := by unfold maxLen; omega
      have hn4 : ((es.take es.length).length + 1) * 24 ≤ 140737488355328 := by omega
      have hbs := HR.out.bel.size
      have HF : Hid (ans = (es.take es.length ++ [⟨nm, to⟩]) ++ es.drop es.length) := Lib.hid (by rw [HZ.out, List.drop_of_length_le (Nat.le_refl _), setE_nil, List.append_nil])
      go_wp2_with (at_builtin; refine words.wpList_append_any _ rfl _ _ 120 rfl w.heap.size 118 i0 (.agg #[.string ⟨#[]⟩, .int .i64 0]) 2 24 Tryz.underlying120 HI.out HZ0.out HZ1.out HZ2.out rfl (by decide) _ (es.take es.length).length ((es.take es.length).flatMap eC) rfl (HR.out.own.alloc _) (wr.heap.size + 1) _ 1 1 [.string nm, .int .i64 (to : Int)] rfl (reads_new _ _ _) (one_two rfl rfl) hn3 hn4 ?_ ?_; (focus (simp; omega)); intro v2 w2 ho2 hg2 _; have X2 := Lib.hid (HR.out.next (e := ⟨nm, to⟩) ho2 hg2))
      go_loopw [7, 8] (fun out i wx => ∃ (q : Nat) (xs : List En), q ≤ es.length ∧ i = .int .i64 (q : Int) ∧ ans = xs ++ es.drop q ∧ EnRel w wx out xs ∧ xs.length + (es.length - q) ≤ es.length + 1) (fun _ i _ => es.length - (intOf i).toNat)
      case atStart => exact ⟨es.length, _, by omega, by go_num, HF.out, X2.out, by rw [List.length_append, htl, List.length_singleton]; omega⟩
      case round =>
        obtain ⟨q, xs, hq, rfl, hz, hrel, hxl⟩ := hrel
        have HZ2' := Lib.hid hz; clear hz
        have HR2 := Lib.hid hrel; clear hrel
        by_cases hq2 : q < es.length
        · obtain ⟨e2, he2⟩ : ∃ e, es[q]? = some e := ⟨_, List.getElem?_eq_getElem hq2⟩
          have hne : es ≠ [] := by intro e; rw [e] at hq2; simp at hq2
          obtain ⟨b2, o2, hA2, hSb2, hcs2⟩ := HC.out hne
          subst hA2
          have hseg := (hcs2 q e2 he2).keep HR2.out.bel
          have d0 : wr.cell? ⟨b2, o2 + q * 2, none⟩ = some (.string e2.name) := hseg 0 _ rfl
          have d1 : wr.cell? ⟨b2, o2 + q * 2 + 1, none⟩ = some (.int .i64 (e2.body : Int)) := hseg 1 _ rfl
          have HE2 := Lib.hid he2
          have hi2 : (0 : Int) ≤ (q : Int) := by omega
          have hi3 : (q : Int) < (es.length : Int) := by omega
          have hn5 : xs.length + 1 ≤ maxLen := by unfold maxLen; omega
          have hn6 : (xs.length + 1) * 24 ≤ 140737488355328 := by omega
          have hbs2 := HR2.out.bel.size
          clear hseg he2 hne hcs2
          go_wp2_with (at_builtin; refine words.wpList_append_any _ rfl _ _ 120 rfl w.heap.size 118 i0 (.agg #[.string ⟨#[]⟩, .int .i64 0]) 2 24 Tryz.underlying120 HI.out HZ0.out HZ1.out HZ2.out rfl (by decide) _ xs.length (xs.flatMap eC) rfl (HR2.out.own.alloc _) (wr.heap.size + 1) _ 1 1 [.string e2.name, .int .i64 (e2.body : Int)] rfl (reads_new _ _ _) (one_two rfl rfl) hn5 hn6 ?_ ?_; (focus (simp; omega)); intro v3 w3 ho3 hg3 _)
          go_roundw
          case rel => exact ⟨q + 1, xs ++ [e2], by omega, by go_num, by rw [HZ2'.out, drop_get es q e2 HE2.out]; simp, HR2.out.next ho3 hg3, by rw [List.length_append, List.length_singleton]; omega⟩
          case measure => simp [intOf]; omega
        · have hz2 : Hid (ans = xs) := Lib.hid (by rw [HZ2'.out, List.drop_of_length_le (by omega), List.append_nil])
          go_wp2
          go_ret
          exact ⟨_, rfl, by rw [hz2.out]; exact HR2.out⟩
end Go.Proofs.YtiaecfdfjhjgiaaGreat.hp
