/- Contract: the law HealPlans of cairnlaw23: it answers true, whatever set, verdict and places. -/
import Derived.Laws.BytesString
import Derived.Deep.CutRange
import Derived.Deep.RegionHeld3
import Derived.Deep.CutBlock
import Derived.Deep.MidRow
import Derived.Deep.WholeRow
import Derived.Test.YtiaecfdfjhjgiaaGreatHqF
import Derived.Test.YtiaecfdfjhjgiaaGreatHqJ
namespace Go.Proofs.YtiaecfdfjhjgiaaGreat.hp
open Go.RowKit kit Go.ChangeMaps Go.Maps Go.Sort
set_option linter.unusedVariables false

/-- What Plan asks of a place. -/
def snAsk (s : Sn) : Int × Int × Int × Int := (s.kind, s.ep, s.ct, s.size)
theorem staleB_ask {v : Vd} {s t : Sn} (h : snAsk t = snAsk s) : staleB v t = staleB v s := by
  simp only [snAsk, Prod.mk.injEq] at h
  simp only [staleB, showsB, h.1, h.2.1, h.2.2.1, h.2.2.2]
theorem staleL_ask (v : Vd) : ∀ (l m : List Sn) (i : Nat), m.map snAsk = l.map snAsk → staleL v m i = staleL v l i
  | [], [], i, _ => rfl
  | [], b :: m, i, h => by simp at h
  | a :: l, [], i, h => by simp at h
  | a :: l, b :: m, i, h => by
    simp only [List.map_cons, List.cons.injEq] at h
    have ih := staleL_ask v l m (i + 1) h.2
    simp only [staleL, staleB_ask h.1, ih]
theorem adds_ask (v : Vd) (l m : List Sn) (ds es : List (Option Nat)) (h : m.map snAsk = l.map snAsk) (hd : es.map Option.isSome = ds.map Option.isSome) (x : Int) : adds v m es x = adds v l ds x := by
  have h1 : (m[x.toNat]?).map snAsk = (l[x.toNat]?).map snAsk := by rw [← List.getElem?_map, ← List.getElem?_map, h]
  have h2 : (es[x.toNat]?).map Option.isSome = (ds[x.toNat]?).map Option.isSome := by rw [← List.getElem?_map, ← List.getElem?_map, hd]
  unfold adds
  cases ha : m[x.toNat]? with
  | none =>
    rw [ha] at h1
    cases hb : l[x.toNat]? with
    | none => rfl
    | some b => rw [hb] at h1; cases h1
  | some a =>
    rw [ha] at h1
    cases hb : l[x.toNat]? with
    | none => rw [hb] at h1; cases h1
    | some b =>
      rw [hb] at h1
      simp only [Option.map_some, Option.some.injEq, snAsk, Prod.mk.injEq] at h1
      cases hc : es[x.toNat]? with
      | none =>
        rw [hc] at h2
        cases hd2 : ds[x.toNat]? with
        | none => rfl
        | some d => rw [hd2] at h2; cases h2
      | some c =>
        rw [hc] at h2
        cases hd2 : ds[x.toNat]? with
        | none => rw [hd2] at h2; cases h2
        | some d =>
          rw [hd2] at h2
          simp only [Option.map_some, Option.some.injEq] at h2
          cases c <;> cases d <;> simp_all
theorem planL_ask (v : Vd) (l m : List Sn) (ds es : List (Option Nat)) (h : m.map snAsk = l.map snAsk) (hd : es.map Option.isSome = ds.map Option.isSome) : planL v m es = planL v l ds := by
  unfold planL
  rw [staleL_ask v l m 0 h]
  congr 1
  funext x
  exact adds_ask v l m ds es h hd x
theorem planL_len (v : Vd) (l : List Sn) (ds : List (Option Nat)) : (planL v l ds).length ≤ l.length := Nat.le_trans (List.length_filter_le _ _) (staleL_len v l 0)
theorem ones_some {w : World} {F : Nat → Prop} : ∀ {prs : List (Option Nat × Option Nat)}, (∀ p ∈ prs, One w F p.1 p.2) → (prs.map Prod.snd).map Option.isSome = (prs.map Prod.fst).map Option.isSome
  | [], _ => rfl
  | p :: prs, h => by
    have ih := ones_some (prs := prs) (fun q hq => h q (List.mem_cons_of_mem _ hq))
    simp only [List.map_cons, List.cons.injEq]
    refine ⟨?_, ih⟩
    rcases h p (List.mem_cons_self ..) with ⟨h1, h2⟩ | ⟨mb, wb, h1, h2, _⟩
    · rw [h1, h2]
    · rw [h1, h2]
      rfl
theorem Pls.later {w w' : World} {S : Nat → Prop} {v : Value} {ps : List Pl} (h : Pls w S v ps) (hb : Below w.heap.size w w') : Pls w' S v ps := ⟨h.1.keep hb, fun p hp => ⟨(h.2 p hp).1.keep hb, (h.2 p hp).2.keep hb⟩⟩
/-- What Lent hands back shows the same. -/
theorem lent_asks {l ls : List Sn} (hl : ls.length = l.length) (h : ∀ (i : Nat) (s s' : Sn), l[i]? = some s → ls[i]? = some s' → ∃ bv, s' = { s with blv := bv }) : ls.map snAsk = l.map snAsk := by
  apply List.ext_getElem?
  intro i
  rw [List.getElem?_map, List.getElem?_map]
  by_cases hi : i < l.length
  · have h1 : l[i]? = some l[i] := List.getElem?_eq_getElem hi
    have h2 : ls[i]? = some ls[i] := List.getElem?_eq_getElem (by omega)
    obtain ⟨bv, hb⟩ := h i _ _ h1 h2
    rw [h1, h2, hb]
    rfl
  · rw [List.getElem?_eq_none (by omega), List.getElem?_eq_none (by omega)]
/-- Two lists of numbers are planned, on both sides. -/
def Planned (w1 : World) (v : Vd) (l : List Sn) (mp pp : Value) (P Q : List Int) : Prop :=
  (∀ (W : World) (plv lv : Value) (S : Nat → Prop), Below w1.heap.size w1 W → Sl W S 19 snC lv l → Calls Tryz.prog 5 #[mp, .agg #[.int .i64 v.kind, .int .i64 v.ep, .int .i64 v.ct, .int .i64 v.size, plv], lv] W fun e w' => ∃ p q, e = .returned (.tuple #[p, q]) ∧ Hid (Is w' (New W w') p P ∧ Is w' (New W w') q Q ∧ Below W.heap.size W w')) ∧
  (∀ (W : World) (plv lv : Value) (S : Nat → Prop) (ls : List Sn), Below w1.heap.size w1 W → Sl W S 19 snC lv ls → (∀ s ∈ ls, ∃ A n c, s.blv = .slice A n c) → ls.map snAsk = l.map snAsk → Calls Tryz.prog 7 #[pp, .agg #[.int .i64 v.kind, .int .i64 v.ep, .int .i64 v.ct, .int .i64 v.size, plv], lv] W fun e w' => ∃ p q, e = .returned (.tuple #[p, q]) ∧ Hid (Is w' (New W w') p P ∧ Is w' (New W w') q Q ∧ Below W.heap.size W w')) ∧
  P.length ≤ l.length ∧ Q.length ≤ l.length
theorem planned_nil (w1 : World) (v : Vd) (l : List Sn) : Planned w1 v l (.pointer none) (.pointer none) [] [] := by
  refine ⟨fun W plv lv S _ _ => (rplan_nil v plv lv W).mono ?_, fun W plv lv S ls _ _ _ _ => (pplan_nil v plv lv W).mono ?_, Nat.zero_le _, Nat.zero_le _⟩
  · rintro e w' ⟨rfl, hb⟩
    exact ⟨_, _, rfl, Lib.hid ⟨Sl.nil _ _ _ _ _ _, Sl.nil _ _ _ _ _ _, hb⟩⟩
  · rintro e w' ⟨rfl, hb⟩
    exact ⟨_, _, rfl, Lib.hid ⟨Sl.nil _ _ _ _ _ _, Sl.nil _ _ _ _ _ _, hb⟩⟩
theorem planned_some (w1 : World) (v : Vd) (l : List Sn) (hl : l.length ≤ 1099511627776) (prs : List (Option Nat × Option Nat)) (hn : prs.length ≤ 1099511627776) (F : Nat → Prop) (hone : ∀ p ∈ prs, One w1 F p.1 p.2) (dv mv : Value) (hd : Sl w1 F 1 (fun o => [dV o]) dv (prs.map Prod.snd)) (hm : Sl w1 F 1 (fun o => [pV o]) mv (prs.map Prod.fst))
    (K M B ep ct s0 s1 s2 s3 s4 s5 s6 s7 : Int) (sb mb : Nat)
    (h4 : Bk w1 sb 58 #[dv, .int .i64 K, .int .i64 M, .int .i64 B, .int .u8 s0, .int .u8 s1, .int .u8 s2, .int .u8 s3, .int .u8 s4, .int .u8 s5, .int .u8 s6, .int .u8 s7, .int .i64 ep, .int .i64 ct])
    (h5 : Bk w1 mb 60 #[mv, .int .i64 K, .int .i64 M, .int .i64 B, .int .u8 s0, .int .u8 s1, .int .u8 s2, .int .u8 s3, .int .u8 s4, .int .u8 s5, .int .u8 s6, .int .u8 s7, .int .i64 ep, .int .i64 ct]) :
    ∃ P Q, Planned w1 v l (.pointer (some ⟨mb, 0, none⟩)) (.pointer (some ⟨sb, 0, none⟩)) P Q := by
  have hle : (planL v l (prs.map Prod.fst)).length ≤ l.length := planL_len _ _ _
  refine ⟨if v.kind = 1 ∧ rawN prs.length K M B ep ct = 0 ∧ l.length = prs.length then planL v l (prs.map Prod.fst) else [], if v.kind ≠ 1 ∧ rawN prs.length K M B ep ct = 0 ∧ l.length = prs.length then planL v l (prs.map Prod.fst) else [], fun W plv lv S hW hs => (rplan_any v plv lv l hl mv (prs.map Prod.fst) (by rw [List.length_map]; exact hn) K M B ep ct s0 s1 s2 s3 s4 s5 s6 s7 W S F hs (hm.keep hW) mb (h5.below hW h5.lt)).mono ?_, fun W plv lv S ls hW hs hb hk => (pplan_any v plv lv ls hb ?_ dv (prs.map Prod.snd) (by rw [List.length_map]; exact hn) K M B ep ct s0 s1 s2 s3 s4 s5 s6 s7 W S F hs (hd.keep hW) sb (h4.below hW h4.lt)).mono ?_, ?_, ?_⟩
  · rintro e w' ⟨p, q, rfl, h1, h2, h3⟩
    rw [List.length_map] at h1 h2
    exact ⟨p, q, rfl, Lib.hid ⟨h1, h2, h3⟩⟩
  · have := congrArg List.length hk
    simp only [List.length_map] at this
    omega
  · rintro e w' ⟨p, q, rfl, h1, h2, h3⟩
    have hll : ls.length = l.length := by have := congrArg List.length hk; simpa using this
    have hpl := planL_ask v l ls (prs.map Prod.fst) (prs.map Prod.snd) hk (ones_some hone)
    rw [hpl, hll, List.length_map] at h1 h2
    exact ⟨p, q, rfl, Lib.hid ⟨h1, h2, h3⟩⟩
  · split
    · exact hle
    · exact Nat.zero_le _
  · split
    · exact hle
    · exact Nat.zero_le _
theorem lent_two3 {wr x1 x2 : World} {v1 : Value} {e n1 : Nat} {xs : List Value} {o : Obj} (hg1 : (wr.alloc (.cells #[] e)).grownBy x1 (Value.slice (some ⟨wr.heap.size, 0, none⟩) 0 0).ownBlock) (ho1 : x1.ownsRow wr.heap.size e 1 v1 n1 xs) (hg2 : (x1.alloc o).grownBy x2 v1.ownBlock) : Below wr.heap.size wr x2 := by
  have h1 : Below wr.heap.size wr x1 := Below.grown ((Below.refl _ _).alloc (Nat.le_refl _) _) hg1 (by simp) (fun j hj => by simp [Value.ownBlock] at hj; omega)
  have := h1.size
  exact Below.grown (h1.alloc h1.size o) hg2 (by simp; omega) (fun j hj => (ho1.lt j hj).1)
theorem ints_one (l : List Int) : ∀ u ∈ l.map (Value.int .i64), u.oneCell' = true := by
  intro u hu
  obtain ⟨a, _, rfl⟩ := List.mem_map.1 hu
  rfl
theorem lent_full {w : World} {B g cap n : Nat} {ls : List Sn} (h : w.ownsRow B 71 19 (.slice (some ⟨g, 0, none⟩) (n + 2) cap) (n + 2) (ls.flatMap snC ++ (snC mk77 ++ snC mk78))) (hl : ls.length = n) : Sl w (fun _ => True) 19 snC (.slice (some ⟨g, 0, none⟩) (n + 2) cap) (ls ++ [mk77, mk78]) := by
  refine Sl.of_own (e := 71) (base := B) snC_len ?_ (fun _ _ _ => trivial)
  have hn : (ls ++ [mk77, mk78]).length = n + 2 := by rw [List.length_append, hl]; rfl
  have hf : (ls ++ [mk77, mk78]).flatMap snC = ls.flatMap snC ++ (snC mk77 ++ snC mk78) := by rw [List.flatMap_append]; rfl
  rw [hn, hf]
  exact h
theorem own_cap2 {w : World} {B e k n m g cap : Nat} {xs : List Value} (h : w.ownsRow B e k (.slice (some ⟨g, 0, none⟩) n cap) m xs) : n ≤ cap := own_cap h
/-- The front of a slice. -/
theorem sl_front {α : Type} {w : World} {S : Nat → Prop} {k m cap n : Nat} {A : Option Addr} {cs : α → List Value} {l1 l2 : List α} (h : Sl w S k cs (.slice A m cap) (l1 ++ l2)) (hn : l1.length = n) : Sl w S k cs (.slice A n cap) l1 := by
  obtain ⟨A', c', hv, hc⟩ := h
  injection hv with h1 _ h3
  subst h1 h3 hn
  refine ⟨A, cap, rfl, fun hne => ?_⟩
  obtain ⟨b, o, hA, hS, hs⟩ := hc (by simp [hne])
  exact ⟨b, o, hA, hS, fun i x hi => hs i x (by rw [List.getElem?_append_left (List.getElem?_eq_some_iff.1 hi).1]; exact hi)⟩
theorem lent_slices {w : World} {B : Nat} {l ls : List Sn} (hl : ls.length = l.length) (h : ∀ (i : Nat) (s s' : Sn), l[i]? = some s → ls[i]? = some s' → ∃ bv, s' = { s with blv := bv } ∧ LBs w B bv s.bls) : ∀ s ∈ ls, ∃ A n c, s.blv = .slice A n c := by
  intro s hs
  obtain ⟨i, hi⟩ := List.getElem?_of_mem hs
  have hil : i < l.length := by have := (List.getElem?_eq_some_iff.1 hi).1; omega
  obtain ⟨bv, h1, g, cap, vs, g4, c4, h2, _⟩ := h i _ s (List.getElem?_eq_getElem hil) hi
  rw [h1]
  exact ⟨_, _, _, h2⟩
theorem row_ints {w : World} {B g cap n : Nat} {l : List Int} (h : w.ownsRow B 3 1 (.slice (some ⟨g, 0, none⟩) (0 + n + 1) cap) (0 + n + 1) ([] ++ l.map (Value.int .i64) ++ [.int .i64 78])) : w.ownsRow B 3 1 (.slice (some ⟨g, 0, none⟩) (n + 1) cap) (n + 1) (l.map (Value.int .i64) ++ [.int .i64 78]) := by
  rw [Nat.zero_add, List.nil_append] at h
  exact h
theorem row_is {w : World} {B g cap : Nat} {l : List Int} (h : w.ownsRow B 3 1 (.slice (some ⟨g, 0, none⟩) (l.length + 1) cap) (l.length + 1) (l.map (Value.int .i64) ++ [.int .i64 78])) : Is w (fun _ => True) (.slice (some ⟨g, 0, none⟩) l.length cap) l := by
  refine sl_front (l2 := [78]) (m := l.length + 1) ?_ rfl
  refine Sl.of_own (e := 3) (base := B) iC_len ?_ (fun _ _ _ => trivial)
  rw [List.length_append, iC_flat, List.map_append]
  exact h
theorem row_mark {w : World} {B g cap : Nat} {l : List Int} (h : w.ownsRow B 3 1 (.slice (some ⟨g, 0, none⟩) (l.length + 1) cap) (l.length + 1) (l.map (Value.int .i64) ++ [.int .i64 78])) : w.cell? ⟨g, l.length, none⟩ = some (.int .i64 78) := by
  have := own_seg h l.length (.int .i64 78) (by rw [List.getElem?_append_right (by rw [List.length_map]; exact Nat.le_refl _), List.length_map, Nat.sub_self]; rfl)
  rwa [Nat.zero_add] at this
theorem sameSet_later {X w1 w7 : World} {dv wv mv : Value} {prs : List (Option Nat × Option Nat)} {ps : List Pl} (hpn : ps.length ≤ 1099511627776) (h1 : Made X w1 dv wv mv prs) (h2 : prs.length = ps.length) (K M B ep ct s0 s1 s2 s3 s4 s5 s6 s7 : Int) (sb mb : Nat)
    (h3 : Bk w1 sb 58 #[dv, .int .i64 K, .int .i64 M, .int .i64 B, .int .u8 s0, .int .u8 s1, .int .u8 s2, .int .u8 s3, .int .u8 s4, .int .u8 s5, .int .u8 s6, .int .u8 s7, .int .i64 ep, .int .i64 ct])
    (h4 : Bk w1 mb 60 #[mv, .int .i64 K, .int .i64 M, .int .i64 B, .int .u8 s0, .int .u8 s1, .int .u8 s2, .int .u8 s3, .int .u8 s4, .int .u8 s5, .int .u8 s6, .int .u8 s7, .int .i64 ep, .int .i64 ct]) (hb : Below w1.heap.size w1 w7) :
    ∀ W, Below w7.heap.size w7 W → Calls Tryz.prog 10 #[.agg #[dv, wv, mv, .pointer (some ⟨sb, 0, none⟩), .pointer (some ⟨mb, 0, none⟩)]] W fun e w' => e = .returned (.bool true) ∧ Hid (Below W.heap.size W w') := by
  intro W hW
  have hW1 := hb.trans (hW.mono hb.size)
  have hF : ∀ b, New X w1 b → b < W.heap.size := fun b hb => Nat.lt_of_lt_of_le hb.2 hW1.size
  have hone : ∀ p ∈ prs, One W (New X w1) p.1 p.2 := fun p hp => (h1.one p hp).kept (fun b hb => hW1.block b hb.2)
  have := sameSet_any dv wv mv prs (by rw [h2]; exact hpn) K M B ep ct s0 s1 s2 s3 s4 s5 s6 s7 sb mb W (New X w1) hF (h1.d.keep hW1) (h1.s.keep hW1) (h1.m.keep hW1) hone (h3.below hW1 h3.lt) (h4.below hW1 h4.lt)
  exact this.mono fun e w' h => ⟨h.1, Lib.hid h.2⟩
/-- The pointers that the law hands on. -/
def atV (nn : Bool) (b : Nat) : Value := if nn = true then .pointer none else .pointer (some ⟨b, 0, none⟩)
set_option maxRecDepth 1000000 in
set_option maxHeartbeats 4000000 in
theorem heal_any (pv : Value) (ps : List Pl) (K M B ep ct s0 s1 s2 s3 s4 s5 s6 s7 : Int) (nn : Bool) (v : Vd) (plv : Value) (pl : List Int) (lv : Value) (l : List Sn) (hpn : ps.length ≤ 1099511627776) (hok : ∀ p ∈ ps, PlOk p) (hpll : pl.length ≤ 1099511627776) (hl : l.length ≤ 1099511627776)
    (w : World) (S : Nat → Prop) (hSw : ∀ b, S b → b < w.heap.size) (hps : Pls w S pv ps) (hpl : Is w S plv pl) (hs : Sl w S 19 snC lv l) (hsn : ∀ s ∈ l, SnOk w S s) :
    Calls Tryz.prog 3 #[.agg #[pv, .int .i64 K, .int .i64 M, .int .i64 B, .int .u8 s0, .int .u8 s1, .int .u8 s2, .int .u8 s3, .int .u8 s4, .int .u8 s5, .int .u8 s6, .int .u8 s7, .int .i64 ep, .int .i64 ct, .bool nn, .int .i64 v.kind, .int .i64 v.ep, .int .i64 v.ct, .int .i64 v.size, plv, lv]] w fun e w' => e = .returned (.bool true) ∧ Below w.heap.size w w' := by
  obtain ⟨i3, hi, hz0, hz1, hz2⟩ := info_parts info3
  have HI3 := Lib.hid hi; clear hi
  have HZ0 := Lib.hid hz0; clear hz0
  have HZ1 := Lib.hid hz1; clear hz1
  have HZ2 := Lib.hid hz2; clear hz2
  have HPS := Lib.hid hps; have HPL := Lib.hid hpl; have HS := Lib.hid hs; have HSN := Lib.hid hsn; have HSW := Lib.hid hSw; have HOK := Lib.hid hok
  obtain ⟨Ap, cp, rfl, _⟩ := hps.1
  obtain ⟨Al, cl, rfl, _⟩ := hpl
  obtain ⟨As, cs, rfl, _⟩ := hs
  obtain ⟨X, hX⟩ : ∃ X, w.alloc (.cells #[.slice Ap ps.length cp, .int .i64 K, .int .i64 M, .int .i64 B, .int .u8 s0, .int .u8 s1, .int .u8 s2, .int .u8 s3, .int .u8 s4, .int .u8 s5, .int .u8 s6, .int .u8 s7, .int .i64 ep, .int .i64 ct, .bool nn, .int .i64 v.kind, .int .i64 v.ep, .int .i64 v.ct, .int .i64 v.size, .slice Al pl.length cl, .slice As l.length cs] 35) = X := ⟨_, rfl⟩
  have hXB : Below w.heap.size w X := by
    subst hX
    exact (Below.refl _ _).alloc (Nat.le_refl _) _
  have hbx : Bk X w.heap.size 35 #[.slice Ap ps.length cp, .int .i64 K, .int .i64 M, .int .i64 B, .int .u8 s0, .int .u8 s1, .int .u8 s2, .int .u8 s3, .int .u8 s4, .int .u8 s5, .int .u8 s6, .int .u8 s7, .int .i64 ep, .int .i64 ct, .bool nn, .int .i64 v.kind, .int .i64 v.ep, .int .i64 v.ct, .int .i64 v.size, .slice Al pl.length cl, .slice As l.length cs] := by
    subst hX
    exact Bk.mk_new _ _ _
  have HX := Lib.hid hX
  have HXB := Lib.hid hXB
  have HBX := Lib.hid hbx
  clear hX hXB hbx hps hsn hSw hok
  have x0 : X.cell? ⟨w.heap.size, 0, none⟩ = some (.slice Ap ps.length cp) := HBX.out.cell 0
  have x1 : X.cell? ⟨w.heap.size, 1, none⟩ = some (.int .i64 K) := HBX.out.cell 1
  have x2 : X.cell? ⟨w.heap.size, 2, none⟩ = some (.int .i64 M) := HBX.out.cell 2
  have x3 : X.cell? ⟨w.heap.size, 3, none⟩ = some (.int .i64 B) := HBX.out.cell 3
  have x4 : X.cell? ⟨w.heap.size, 4, none⟩ = some (.int .u8 s0) := HBX.out.cell 4
  have x5 : X.cell? ⟨w.heap.size, 5, none⟩ = some (.int .u8 s1) := HBX.out.cell 5
  have x6 : X.cell? ⟨w.heap.size, 6, none⟩ = some (.int .u8 s2) := HBX.out.cell 6
  have x7 : X.cell? ⟨w.heap.size, 7, none⟩ = some (.int .u8 s3) := HBX.out.cell 7
  have x8 : X.cell? ⟨w.heap.size, 8, none⟩ = some (.int .u8 s4) := HBX.out.cell 8
  have x9 : X.cell? ⟨w.heap.size, 9, none⟩ = some (.int .u8 s5) := HBX.out.cell 9
  have x10 : X.cell? ⟨w.heap.size, 10, none⟩ = some (.int .u8 s6) := HBX.out.cell 10
  have x11 : X.cell? ⟨w.heap.size, 11, none⟩ = some (.int .u8 s7) := HBX.out.cell 11
  have x12 : X.cell? ⟨w.heap.size, 12, none⟩ = some (.int .i64 ep) := HBX.out.cell 12
  have x13 : X.cell? ⟨w.heap.size, 13, none⟩ = some (.int .i64 ct) := HBX.out.cell 13
  go_enter Tryz.func3, Tryz.ntmps3
  go_upto_region 1 with fail
  rw [HX.out]
  go_upto_region 2 with (go_at_call 4; refine (makeSet_any _ ps K M B ep ct s0 s1 s2 s3 s4 s5 s6 s7 hpn HOK.out X S (fun b hb => Nat.lt_of_lt_of_le (HSW.out b hb) HXB.out.size) (HPS.out.later HXB.out)).mono ?_; rintro e w1 ⟨dv, wv, mv, prs, sb, mb, rfl, h1, h2, h3, h4, h5, h6⟩; obtain ⟨Ad, cd, hd1, _⟩ := h1.d; obtain ⟨Aw, cw, hd2, _⟩ := h1.s; obtain ⟨Am, cm, hd3, _⟩ := h1.m; rw [List.length_map] at hd1 hd2 hd3; subst hd1 hd2 hd3; have H1 := Lib.hid h1; have H2 := Lib.hid h2; have H3 := Lib.hid h3; have H4 := Lib.hid h4; have H5 := Lib.hid h5; have H6 := Lib.hid h6; clear h1 h2 h3 h4 h5 h6)
  have hb44 : Bk (w1.alloc (.cells #[.slice Ad prs.length cd, .slice Aw prs.length cw, .slice Am prs.length cm, .pointer (some ⟨sb, 0, none⟩), .pointer (some ⟨mb, 0, none⟩)] 44)) w1.heap.size 44 #[.slice Ad prs.length cd, .slice Aw prs.length cw, .slice Am prs.length cm, .pointer (some ⟨sb, 0, none⟩), .pointer (some ⟨mb, 0, none⟩)] := Bk.mk_new _ _ _
  have hw2 : Below w1.heap.size w1 (w1.alloc (.cells #[.slice Ad prs.length cd, .slice Aw prs.length cw, .slice Am prs.length cm, .pointer (some ⟨sb, 0, none⟩), .pointer (some ⟨mb, 0, none⟩)] 44)) := (Below.refl _ _).alloc (Nat.le_refl _) _
  have hn44 : w1.heap.size < (w1.alloc (.cells #[.slice Ad prs.length cd, .slice Aw prs.length cw, .slice Am prs.length cm, .pointer (some ⟨sb, 0, none⟩), .pointer (some ⟨mb, 0, none⟩)] 44)).heap.size := by simp
  generalize w1.alloc (.cells #[.slice Ad prs.length cd, .slice Aw prs.length cw, .slice Am prs.length cm, .pointer (some ⟨sb, 0, none⟩), .pointer (some ⟨mb, 0, none⟩)] 44) = w2 at *
  generalize w1.heap.size = n44 at hb44 hn44 ⊢
  have HB44 := Lib.hid hb44
  have HN44 := Lib.hid hn44
  have HX2 : Hid (Below X.heap.size X w2) := Lib.hid (H1.out.bel.trans (hw2.mono H1.out.bel.size))
  have HW12 := Lib.hid hw2
  have hbx2 := HBX.out.below HX2.out HBX.out.lt
  have y14 : w2.cell? ⟨w.heap.size, 14, none⟩ = some (.bool nn) := hbx2.cell 14
  have y15 : w2.cell? ⟨w.heap.size, 15, none⟩ = some (.int .i64 v.kind) := hbx2.cell 15
  have y16 : w2.cell? ⟨w.heap.size, 15 + 1, none⟩ = some (.int .i64 v.ep) := hbx2.cell 16
  have y17 : w2.cell? ⟨w.heap.size, 15 + 2, none⟩ = some (.int .i64 v.ct) := hbx2.cell 17
  have y18 : w2.cell? ⟨w.heap.size, 15 + 3, none⟩ = some (.int .i64 v.size) := hbx2.cell 18
  have y19 : w2.cell? ⟨w.heap.size, 15 + 4, none⟩ = some (.slice Al pl.length cl) := hbx2.cell 19
  have y20 : w2.cell? ⟨w.heap.size, 20, none⟩ = some (.slice As l.length cs) := hbx2.cell 20
  have hlt1 : w.heap.size < w2.heap.size := hbx2.lt
  clear x0 x1 x2 x3 x4 x5 x6 x7 x8 x9 x10 x11 x12 x13 hw2 hb44 hn44 hbx2
  go_upto_region 8 with fail
  have hb32 : Bk (w2.alloc (.cells #[.int .i64 v.kind, .int .i64 v.ep, .int .i64 v.ct, .int .i64 v.size, .slice Al pl.length cl] 32)) w2.heap.size 32 #[.int .i64 v.kind, .int .i64 v.ep, .int .i64 v.ct, .int .i64 v.size, .slice Al pl.length cl] := Bk.mk_new _ _ _
  have hw3 : Below w2.heap.size w2 (w2.alloc (.cells #[.int .i64 v.kind, .int .i64 v.ep, .int .i64 v.ct, .int .i64 v.size, .slice Al pl.length cl] 32)) := (Below.refl _ _).alloc (Nat.le_refl _) _
  generalize w2.alloc (.cells #[.int .i64 v.kind, .int .i64 v.ep, .int .i64 v.ct, .int .i64 v.size, .slice Al pl.length cl] 32) = w3 at *
  have HW23 := Lib.hid hw3
  generalize w2.heap.size = n32 at hb32 ⊢
  have HB32 := Lib.hid hb32
  have HW13 : Hid (Below w1.heap.size w1 w3) := Lib.hid (HW12.out.trans (HW23.out.mono HW12.out.size))
  have z14 : w3.cell? ⟨w.heap.size, 14, none⟩ = some (.bool nn) := cell_later hw3 y14
  have z3 : w3.cell? ⟨n44, 3, none⟩ = some (.pointer (some ⟨sb, 0, none⟩)) := cell_later hw3 (HB44.out.cell 3)
  have z4 : w3.cell? ⟨n44, 4, none⟩ = some (.pointer (some ⟨mb, 0, none⟩)) := cell_later hw3 (HB44.out.cell 4)
  clear y14 y15 y16 y17 y18 y19 y20 hlt1 hb32 hw3
  go_upto_if 30 with fail
  go_cut [7, 8] from 28 to 34 (fun t u wx => t = atV nn mb ∧ u = atV nn sb ∧ wx = w3)
  case first =>
    cases nn
    · go_wp2_with fail
      go_meet
      exact ⟨rfl, rfl, rfl⟩
    · go_wp2_with fail
      go_meet
      exact ⟨rfl, rfl, rfl⟩
  case rest =>
    obtain ⟨rfl, rfl, rfl⟩ := hcut
    have hplan : ∃ P Q, Planned w1 v l (atV nn mb) (atV nn sb) P Q := by
      cases nn
      · exact planned_some w1 v l hl prs (by rw [H2.out]; exact hpn) _ H1.out.one _ _ H1.out.d H1.out.m K M B ep ct s0 s1 s2 s3 s4 s5 s6 s7 sb mb H3.out H4.out
      · exact ⟨_, _, planned_nil w1 v l⟩
    obtain ⟨P, Q, hplan⟩ := hplan
    have HPLAN := Lib.hid hplan
    obtain ⟨mp, hmp⟩ : ∃ mp, atV nn mb = mp := ⟨_, rfl⟩
    obtain ⟨pp, hpp⟩ : ∃ pp, atV nn sb = pp := ⟨_, rfl⟩
    rw [hmp, hpp] at HPLAN
    rw [hmp, hpp]
    have HWC3 : Hid (Below w.heap.size w wc) := Lib.hid (HXB.out.trans ((H1.out.bel.trans (HW13.out.mono H1.out.bel.size)).mono HXB.out.size))
    have c0 : wc.cell? ⟨n32, 0, none⟩ = some (.int .i64 v.kind) := HB32.out.cell 0
    have c1 : wc.cell? ⟨n32, 1, none⟩ = some (.int .i64 v.ep) := HB32.out.cell 1
    have c2 : wc.cell? ⟨n32, 2, none⟩ = some (.int .i64 v.ct) := HB32.out.cell 2
    have c3 : wc.cell? ⟨n32, 3, none⟩ = some (.int .i64 v.size) := HB32.out.cell 3
    have c4 : wc.cell? ⟨n32, 4, none⟩ = some (.slice Al pl.length cl) := HB32.out.cell 4
    have hm1 : 0 + pl.length ≤ maxLen := by unfold maxLen; omega
    have hm2 : (0 + pl.length) * 8 ≤ 140737488355328 := by omega
    have hm3 : 0 + pl.length + 1 ≤ maxLen := by unfold maxLen; omega
    have hm4 : (0 + pl.length + 1) * 8 ≤ 140737488355328 := by omega
    have HNB := Lib.hid HB32.out.lt
    clear hplan hmp hpp z14 z3 z4
    go_upto_region 13 with (first
      | (go_at_call 5; refine (HPLAN.out.1 wc _ _ S HW13.out (HS.out.keep HWC3.out)).mono ?_; rintro e w4 ⟨p, q, rfl, h⟩; have HP4 := h; clear h)
      | (go_at_call 6; refine (lent_any _ l hl w4 S (HS.out.keep (HWC3.out.trans (HP4.out.2.2.mono HWC3.out.size))) (fun s hs => (HSN.out s hs).keep (HWC3.out.trans (HP4.out.2.2.mono HWC3.out.size)))).mono ?_; rintro e w5 ⟨gl, capl, ls, rfl, h1, h2, h3, h4⟩; have L1 := Lib.hid h1; have L2 := Lib.hid h2; have L3 := Lib.hid h3; have L4 := Lib.hid h4; clear h1 h2 h3 h4))
    have HB35 : Hid (Below wc.heap.size wc w5) := Lib.hid (HP4.out.2.2.trans (L4.out.mono HP4.out.2.2.size))
    have HW5 : Hid (Below w.heap.size w w5) := Lib.hid (HWC3.out.trans (HB35.out.mono HWC3.out.size))
    have e4 : w5.cell? ⟨n32, 4, none⟩ = some (.slice Al pl.length cl) := cell_later HB35.out c4
    have hl5 : n32 < w5.heap.size := block_lt_of_cell e4
    obtain ⟨A', c', hv', hrd⟩ := (HPL.out.keep HW5.out).reads iC_len (by decide)
    injection hv' with hv1 hv0 hv2
    subst hv1 hv2
    rw [iC_flat] at hrd
    have HRD := Lib.hid hrd
    clear hrd hv0 c0 c1 c2 c3 c4
    go_upto_region 15 with (first
      | (at_builtin; refine words.wpList_append_any _ rfl (.tmp 44) (.tmp 46) 30 (by rfl) w5.heap.size 3 i3 (.int .i64 0) 1 8 Tryz.underlying30 HI3.out HZ0.out HZ1.out HZ2.out rfl (by decide) _ 0 [] (by rfl) (own_made w5 3 1) w5.heap.size Al pl.length cl (pl.map (Value.int .i64)) (by rfl) (HRD.out.alloc (Nat.le_refl _) _) (ints_one pl) hm1 hm2 (by simp) ?_; intro v1 x1 ho1 hg1 _; have HO1 := Lib.hid ho1; have HG1 := Lib.hid hg1; have hx1 : w5.heap.size + 1 ≤ x1.heap.size := (by have := hg1.size; simpa using this); clear ho1 hg1)
      | (at_builtin; refine words.wpList_append_any _ rfl (.tmp 48) (.tmp 49) 30 (by rfl) w5.heap.size 3 i3 (.int .i64 0) 1 8 Tryz.underlying30 HI3.out HZ0.out HZ1.out HZ2.out rfl (by decide) v1 _ _ (by rfl) (HO1.out.alloc _) (x1.heap.size + 1) _ 1 1 [.int .i64 78] (by rfl) (reads_new _ _ _) (one_one rfl) hm3 hm4 ?_ ?_; (focus (simp; omega)); intro v2 x2 ho2 hg2 _; obtain ⟨ga, capa, hv2, hca⟩ := own_some ho2 (Nat.succ_pos _); subst hv2; have HX2b := Lib.hid (lent_two3 HG1.out HO1.out hg2); have HO2 := Lib.hid ho2; clear ho2 hg2))
    have HX5 : Hid (Below wc.heap.size wc x2) := Lib.hid (HB35.out.trans (HX2b.out.mono HB35.out.size))
    have hbn := HB32.out.below HX5.out HNB.out
    have d0 : x2.cell? ⟨n32, 0, none⟩ = some (.int .i64 v.kind) := hbn.cell 0
    have d1 : x2.cell? ⟨n32, 1, none⟩ = some (.int .i64 v.ep) := hbn.cell 1
    have d2 : x2.cell? ⟨n32, 2, none⟩ = some (.int .i64 v.ct) := hbn.cell 2
    have d3 : x2.cell? ⟨n32, 3, none⟩ = some (.int .i64 v.size) := hbn.cell 3
    have d4 : x2.cell? ⟨n32, 4, none⟩ = some (.slice Al pl.length cl) := hbn.cell 4
    clear hbn e4 hl5
    go_upto_region 16 with fail
    have hb13 : Bk (x2.alloc (.cells #[.int .i64 v.kind, .int .i64 v.ep, .int .i64 v.ct, .int .i64 v.size, .slice Al pl.length cl] 32)) x2.heap.size 32 #[.int .i64 v.kind, .int .i64 v.ep, .int .i64 v.ct, .int .i64 v.size, .slice Al pl.length cl] := Bk.mk_new _ _ _
    have hx3 : Below x2.heap.size x2 (x2.alloc (.cells #[.int .i64 v.kind, .int .i64 v.ep, .int .i64 v.ct, .int .i64 v.size, .slice Al pl.length cl] 32)) := (Below.refl _ _).alloc (Nat.le_refl _) _
    generalize x2.alloc (.cells #[.int .i64 v.kind, .int .i64 v.ep, .int .i64 v.ct, .int .i64 v.size, .slice Al pl.length cl] 32) = x3 at *
    obtain ⟨n13, hn13⟩ : ∃ n, x2.heap.size = n := ⟨_, rfl⟩
    rw [hn13] at hb13 ⊢
    have HN13 := Lib.hid hn13
    have HX3 := Lib.hid hx3
    have e4 : x3.cell? ⟨n32, 4, none⟩ = some (.slice Al pl.length cl) := cell_later hx3 d4
    have e5 : x3.cell? ⟨n13, 4, none⟩ = some (.slice Al pl.length cl) := hb13.cell 4
    have e6 : x3.frozen? ⟨n13, 4, none⟩ = false := hb13.free 4
    have hca2 : (pl.length : Int) ≤ (capa : Int) := by omega
    have HB13 := Lib.hid hb13
    clear hb13 hx3 hn13 d0 d1 d2 d3 d4
    go_upto_region 17 with fail
    have hw6 : Below x2.heap.size x2 (x3.setCell ⟨n13, 4, none⟩ (.slice (some ⟨ga, 0, none⟩) pl.length capa)) := HX3.out.setCell (by rw [HN13.out]; exact Nat.le_refl _) _
    have hb6 : Bk (x3.setCell ⟨n13, 4, none⟩ (.slice (some ⟨ga, 0, none⟩) pl.length capa)) n13 32 #[.int .i64 v.kind, .int .i64 v.ep, .int .i64 v.ct, .int .i64 v.size, .slice (some ⟨ga, 0, none⟩) pl.length capa] := HB13.out.put 4 _
    clear e4 e5 e6
    generalize x3.setCell ⟨n13, 4, none⟩ (.slice (some ⟨ga, 0, none⟩) pl.length capa) = w6 at *
    have HX26 := Lib.hid hw6
    have f0 : w6.cell? ⟨n13, 0, none⟩ = some (.int .i64 v.kind) := hb6.cell 0
    have f1 : w6.cell? ⟨n13, 1, none⟩ = some (.int .i64 v.ep) := hb6.cell 1
    have f2 : w6.cell? ⟨n13, 2, none⟩ = some (.int .i64 v.ct) := hb6.cell 2
    have f3 : w6.cell? ⟨n13, 3, none⟩ = some (.int .i64 v.size) := hb6.cell 3
    have f4 : w6.cell? ⟨n13, 4, none⟩ = some (.slice (some ⟨ga, 0, none⟩) pl.length capa) := hb6.cell 4
    have HC6 : Hid (Below wc.heap.size wc w6) := Lib.hid (HX5.out.trans (hw6.mono HX5.out.size))
    have H56 : Hid (Below w5.heap.size w5 w6) := Lib.hid (HX2b.out.trans (hw6.mono HX2b.out.size))
    have H46 : Hid (Below w4.heap.size w4 w6) := Lib.hid (L4.out.trans (H56.out.mono L4.out.size))
    have hfull : Sl w5 (fun _ => True) 19 snC (.slice (some ⟨gl, 0, none⟩) (l.length + 2) capl) (ls ++ [mk77, mk78]) := lent_full L1.out L2.out
    have HFULL := Lib.hid hfull
    have H7 : Hid (Calls Tryz.prog 7 #[pp, .agg #[.int .i64 v.kind, .int .i64 v.ep, .int .i64 v.ct, .int .i64 v.size, .slice (some ⟨ga, 0, none⟩) pl.length capa], .slice (some ⟨gl, 0, none⟩) l.length capl] w6 fun e w' => ∃ p q, e = .returned (.tuple #[p, q]) ∧ Hid (Is w' (New w6 w') p P ∧ Is w' (New w6 w') q Q ∧ Below w6.heap.size w6 w')) :=
      Lib.hid (HPLAN.out.2.1 w6 _ _ (fun _ => True) ls (HW13.out.trans (HC6.out.mono HW13.out.size)) ((sl_front hfull L2.out).keep H56.out) (lent_slices L2.out L3.out) (lent_asks L2.out (fun i s s' h1 h2 => by
        obtain ⟨bv, h3, _⟩ := L3.out i s s' h1 h2
        exact ⟨bv, h3⟩)))
    clear hw6 hb6 hfull
    go_upto_region 18 with (go_at_call 7; refine H7.out.mono ?_; rintro e w7 ⟨p2, q2, rfl, h⟩; have HP7 := h; clear h)
    clear f0 f1 f2 f3 f4
    have H57 : Hid (Below w5.heap.size w5 w7) := Lib.hid (H56.out.trans (HP7.out.2.2.mono H56.out.size))
    have H47 : Hid (Below w4.heap.size w4 w7) := Lib.hid (H46.out.trans (HP7.out.2.2.mono H46.out.size))
    have HC7 : Hid (Below wc.heap.size wc w7) := Lib.hid (HC6.out.trans (HP7.out.2.2.mono HC6.out.size))
    have HX7 : Hid (Below x2.heap.size x2 w7) := Lib.hid (HX26.out.trans (HP7.out.2.2.mono HX26.out.size))
    have HW7 : Hid (Below w.heap.size w w7) := Lib.hid (HWC3.out.trans (HC7.out.mono HWC3.out.size))
    have H17 : Hid (Below w1.heap.size w1 w7) := Lib.hid (HW13.out.trans (HC7.out.mono HW13.out.size))
    have hPl := HPLAN.out.2.2.1
    have hQl := HPLAN.out.2.2.2
    have HS1 : Hid (∀ W, Below w7.heap.size w7 W → Calls Tryz.prog 8 #[p2, p] W fun e w' => e = .returned (.bool true) ∧ Hid (Below W.heap.size W w')) := Lib.hid fun W hW => (sameInts_yes p2 p P (Nat.le_trans hPl hl) W _ _ (HP7.out.1.keep hW) ((HP4.out.1.keep H47.out).keep hW)).mono fun e w' ⟨h1, m, h2⟩ => ⟨h1, Lib.hid (h2 ▸ below_drewN (Below.refl _ _) m)⟩
    have HS2 : Hid (∀ W, Below w7.heap.size w7 W → Calls Tryz.prog 8 #[q2, q] W fun e w' => e = .returned (.bool true) ∧ Hid (Below W.heap.size W w')) := Lib.hid fun W hW => (sameInts_yes q2 q Q (Nat.le_trans hQl hl) W _ _ (HP7.out.2.1.keep hW) ((HP4.out.2.1.keep H47.out).keep hW)).mono fun e w' ⟨h1, m, h2⟩ => ⟨h1, Lib.hid (h2 ▸ below_drewN (Below.refl _ _) m)⟩
    have hrow := own_keep (own_keep (row_ints HO2.out) (Below.refl _ _)) HX7.out
    have HS3 : Hid (∀ W, Below w7.heap.size w7 W → Calls Tryz.prog 8 #[.slice (some ⟨ga, 0, none⟩) pl.length capa, .slice Al pl.length cl] W fun e w' => e = .returned (.bool true) ∧ Hid (Below W.heap.size W w')) := Lib.hid fun W hW => (sameInts_yes _ _ pl hpll W (fun _ => True) S ((row_is hrow).keep hW) ((HPL.out.keep HW7.out).keep hW)).mono fun e w' ⟨h1, m, h2⟩ => ⟨h1, Lib.hid (h2 ▸ below_drewN (Below.refl _ _) m)⟩
    have HK : Hid (∀ W, Below w7.heap.size w7 W → Calls Tryz.prog 9 #[.slice (some ⟨gl, 0, none⟩) l.length capl, .slice As l.length cs] W fun e w' => e = .returned (.bool true) ∧ Hid (Below W.heap.size W w')) := Lib.hid fun W hW =>
      (kept_any (some ⟨gl, 0, none⟩) capl _ l ls (own_cap2 L1.out) hl W S (fun _ => True) w4.heap.size ((HS.out.keep HW7.out).keep hW) (fun s hs => ((HSN.out s hs).keep HW7.out).keep hW) ((HFULL.out.keep H57.out).keep hW) L2.out (fun i s s' h1 h2 => by
        obtain ⟨bv, h3, h4⟩ := L3.out i s s' h1 h2
        exact ⟨bv, h3, (h4.keep H57.out).keep hW⟩)).mono fun e w' h => ⟨h.1, Lib.hid h.2⟩
    have HSS : Hid (∀ W, Below w7.heap.size w7 W → Calls Tryz.prog 10 #[.agg #[.slice Ad prs.length cd, .slice Aw prs.length cw, .slice Am prs.length cm, .pointer (some ⟨sb, 0, none⟩), .pointer (some ⟨mb, 0, none⟩)]] W fun e w' => e = .returned (.bool true) ∧ Hid (Below W.heap.size W w')) := Lib.hid (sameSet_later hpn H1.out H2.out K M B ep ct s0 s1 s2 s3 s4 s5 s6 s7 sb mb H3.out H4.out H17.out)
    have r1 : ∀ W, Below w7.heap.size w7 W → W.cell? ⟨n32, 4, none⟩ = some (.slice Al pl.length cl) := fun W hW => (HB32.out.below (HC7.out.trans (hW.mono HC7.out.size)) HNB.out).cell 4
    have r2 : ∀ W, Below w7.heap.size w7 W → W.cell? ⟨ga, pl.length, none⟩ = some (.int .i64 78) := fun W hW => cell_later hW (row_mark hrow)
    have hb44 : ∀ W, Below w7.heap.size w7 W → Bk W n44 44 #[.slice Ad prs.length cd, .slice Aw prs.length cw, .slice Am prs.length cm, .pointer (some ⟨sb, 0, none⟩), .pointer (some ⟨mb, 0, none⟩)] := fun W hW => HB44.out.below ((HW23.out.trans (HC7.out.mono HW23.out.size)).trans (hW.mono (HW23.out.trans (HC7.out.mono HW23.out.size)).size)) HN44.out
    have r3 : ∀ W, Below w7.heap.size w7 W → W.cell? ⟨n44, 0, none⟩ = some (.slice Ad prs.length cd) := fun W hW => (hb44 W hW).cell 0
    have r4 : ∀ W, Below w7.heap.size w7 W → W.cell? ⟨n44, 1, none⟩ = some (.slice Aw prs.length cw) := fun W hW => (hb44 W hW).cell 1
    have r5 : ∀ W, Below w7.heap.size w7 W → W.cell? ⟨n44, 2, none⟩ = some (.slice Am prs.length cm) := fun W hW => (hb44 W hW).cell 2
    have r6 : ∀ W, Below w7.heap.size w7 W → W.cell? ⟨n44, 3, none⟩ = some (.pointer (some ⟨sb, 0, none⟩)) := fun W hW => (hb44 W hW).cell 3
    have r7 : ∀ W, Below w7.heap.size w7 W → W.cell? ⟨n44, 4, none⟩ = some (.pointer (some ⟨mb, 0, none⟩)) := fun W hW => (hb44 W hW).cell 4
    have hi0 : (0 : Int) ≤ (pl.length : Int) := by omega
    have hi1 : (pl.length : Int) < (pl.length : Int) + 1 := by omega
    have hi2 : (pl.length : Int) < ((pl.length + 1 : Nat) : Int) := by omega
    clear hb44 hPl hQl hrow
    go_region_held3 (fun W => Below w7.heap.size w7 W) (with_reducible (repeat (first | assumption | exact Below.refl _ _ | apply sB_drew | apply sB_alloc)))
      (first
        | (go_at_call 8; (with_reducible refine (HS1.out _ (sB_drew (Below.refl _ _))).mono ?_); rintro e Y1 ⟨rfl, HE1⟩; have HB1 : Below w7.heap.size w7 Y1 := (Below.drew (Below.refl _ _)).trans HE1.out)
        | (go_at_call 8; (with_reducible refine (HS2.out _ HB1).mono ?_); rintro e Y2 ⟨rfl, HE2⟩; have HB2 : Below w7.heap.size w7 Y2 := HB1.trans (HE2.out.mono HB1.size))
        | (go_at_call 9; (with_reducible refine (HK.out _ HB2).mono ?_); rintro e Y3 ⟨rfl, HE3⟩; have HB3 : Below w7.heap.size w7 Y3 := HB2.trans (HE3.out.mono HB2.size))
        | (go_at_call 8; (with_reducible refine (HS3.out _ HB3).mono ?_); rintro e Y4 ⟨rfl, HE4⟩; have HB4 : Below w7.heap.size w7 Y4 := HB3.trans (HE4.out.mono HB3.size))
        | (go_at_call 10; (with_reducible refine (HSS.out _ HB4).mono ?_); rintro e Y5 ⟨rfl, HE5⟩; have HB5 : Below w7.heap.size w7 Y5 := HB4.trans (HE5.out.mono HB4.size)))
    go_wp2_with fail
    go_ret
    exact ⟨rfl, HW7.out.trans (HB5.mono HW7.out.size)⟩
end Go.Proofs.YtiaecfdfjhjgiaaGreat.hp
