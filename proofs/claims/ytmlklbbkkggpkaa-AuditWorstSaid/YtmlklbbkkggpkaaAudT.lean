/- The walk of AuditWorst. -/
import Derived.Test.YtmlklbbkkggpkaaAudS
import Derived.Deep.RegionHeld3
import Derived.Deep.DeepCutAuto
namespace Go.Proofs.Ytmlklbbkkggpkaa.aud
open Go.RowKit kit words
set_option linter.unusedVariables false

theorem sB_drew {w0 X : World} (h : Below w0.heap.size w0 X) : Below w0.heap.size w0 X.drew := h.drew
theorem sB_alloc {w0 X : World} (h : Below w0.heap.size w0 X) (o : Obj) : Below w0.heap.size w0 (X.alloc o) := h.alloc h.size o

theorem sB_grown0 {w0 X X' : World} (h : Below w0.heap.size w0 X) (hg : X.grownBy X' (Value.slice none 0 0).ownBlock) : Below w0.heap.size w0 X' := h.grown hg h.size (by simp [Value.ownBlock])
theorem sB_grown1 {w0 X X' Y : World} {v : Value} {e : TypeId} {s n : Nat} {xs : List Value} (h : Below w0.heap.size w0 X) (ho : Y.ownsRow w0.heap.size e s v n xs) (hg : X.grownBy X' v.ownBlock) : Below w0.heap.size w0 X' := h.grown hg h.size (fun k hk => (ho.lt k hk).1)
theorem reads_two (W : World) : Reads (W.alloc (.cells #[.string ⟨#[109, 97, 114, 107]⟩, .int .i64 0, .int .i64 0, .int .i64 0, .int .i64 (-1), .int .i64 0, .int .i64 0, .int .i64 0, .string ⟨#[109, 97, 114, 107]⟩, .int .i64 0, .int .i64 0, .int .i64 0, .int .i64 (-1), .int .i64 0, .int .i64 0, .int .i64 0] 27)) (W.heap.size + 1) 8 (some ⟨W.heap.size, 0, none⟩) 2 (fcs [markFd, markFd]) := by
  refine ⟨rfl, fun _ => ⟨_, rfl, by simp, fun j u hu => ?_⟩⟩
  have h := (Bk.mk_new W 27 #[.string ⟨#[109, 97, 114, 107]⟩, .int .i64 0, .int .i64 0, .int .i64 0, .int .i64 (-1), .int .i64 0, .int .i64 0, .int .i64 0, .string ⟨#[109, 97, 114, 107]⟩, .int .i64 0, .int .i64 0, .int .i64 0, .int .i64 (-1), .int .i64 0, .int .i64 0, .int .i64 0]).cell j
  have e : (⟨W.heap.size, 0, none⟩ : Addr).add j = ⟨W.heap.size, j, none⟩ := by
    unfold Addr.add
    split <;> simp_all
  rw [e, h, ← hu]
  simp [fcs, Fd.cs, markFd]

theorem reads_after {W0 w1 : World} (hg : (W0.alloc (.cells #[.string ⟨#[109, 97, 114, 107]⟩, .int .i64 0, .int .i64 0, .int .i64 0, .int .i64 (-1), .int .i64 0, .int .i64 0, .int .i64 0, .string ⟨#[109, 97, 114, 107]⟩, .int .i64 0, .int .i64 0, .int .i64 0, .int .i64 (-1), .int .i64 0, .int .i64 0, .int .i64 0] 27)).drew.grownBy w1 (Value.slice none 0 0).ownBlock) : Reads w1 (W0.heap.size + 1) 8 (some ⟨W0.heap.size, 0, none⟩) 2 (fcs [markFd, markFd]) :=
  ((reads_two W0).drew).grown hg (by simp) (by simp [Value.ownBlock])

/-- The list that was lent: the findings and two marks behind them, in a block of the call's own. -/
def LentRel (w : World) (n : Nat) (l : List Fd) (s4 : Value) (wx : World) : Prop :=
  ∃ g cap, s4 = .slice (some ⟨g, 0, none⟩) (n + 2) cap ∧ w.heap.size + 1 ≤ g ∧ n + 2 ≤ cap ∧ Cells27 wx g ∧ FdAt wx g 0 (l ++ [markFd, markFd]) ∧ Bk wx w.heap.size 27 markFd.cs ∧ Below w.heap.size w wx

theorem lent_of_own {w w1 : World} {n : Nat} {l : List Fd} {v : Value} (hl : l.length = n) (h : w1.ownsRow (w.heap.size + 1) 27 8 v (n + 2) (fcs (l ++ [markFd, markFd])))
    (hk : Bk w1 w.heap.size 27 markFd.cs) (hb : Below w.heap.size w w1) : LentRel w n l v w1 := by
  have hsl := h
  rcases h.2 with ⟨_, h0⟩ | ⟨g, cap, cur, hv, hg, hh, hc, _, _, _⟩
  · omega
  · subst hv
    obtain ⟨b, off, he, hlt, hat⟩ := own_sl hsl (by simp)
    injection he with he
    injection he with he1 he2
    subst he1 he2
    exact ⟨g, cap, rfl, hg, hc, ⟨cur, hh⟩, hat, hk, hb⟩

theorem lent_final {w W0 w5 : World} {n : Nat} {l : List Fd} {v : Value} (hl : l.length = n) (hs : W0.heap.size = w.heap.size + 1) (hk : Bk W0 w.heap.size 27 markFd.cs) (hb : Below w.heap.size w W0) (hlt : w.heap.size < W0.heap.size)
    (h2 : Below W0.heap.size W0 w5) (ho : w5.ownsRow W0.heap.size 27 8 v (0 + n + 2) ([] ++ fcs l ++ fcs [markFd, markFd])) : LentRel w n l v w5 := by
  refine lent_of_own hl ?_ (hk.below h2 hlt) (hb.trans (h2.mono (by omega)))
  rw [← hs]
  have e : fcs (l ++ [markFd, markFd]) = [] ++ fcs l ++ fcs [markFd, markFd] := by simp [fcs]
  rw [e]
  simpa using ho

theorem own_form {w : World} {base n : Nat} {l : List Fd} {v : Value} (h : w.ownsRow base 27 8 v n (fcs l)) : ∃ A c, v = .slice A n c ∧ FdSl w w.heap.size A l := by
  have h0 := h
  rcases h.2 with ⟨hv, hn⟩ | ⟨g, cap, cur, hv, _⟩
  · subst hn hv
    exact ⟨none, 0, rfl, own_sl h0⟩
  · subst hv
    exact ⟨_, _, rfl, own_sl h0⟩
/-- What holds at the head of a turn. -/
def TurnRel (w : World) (n g : Nat) (s5 : Value) (wr : World) : Prop :=
  ∃ (k : Nat) (cur : List Fd), k ≤ 3 ∧ s5 = .int .i64 k ∧ cur.length = n ∧ (∀ (i : Nat) (a : Fd), cur[i]? = some a → a.key.size ≤ 140737488351232 + k) ∧ Cells27 wr g ∧ FdAt wr g 0 (cur ++ [markFd, markFd]) ∧ Bk wr w.heap.size 27 markFd.cs ∧ Below w.heap.size w wr
/-- .. and at the head of the round in which the findings are written over. -/
def OverRel (w : World) (n g k : Nat) (s11 : Value) (wr : World) : Prop :=
  ∃ (i : Nat) (cur : List Fd), i ≤ n ∧ s11 = .int .i64 i ∧ cur.length = n ∧ (∀ (j : Nat) (a : Fd), cur[j]? = some a → a.key.size ≤ 140737488351232 + k + 1 ∧ (i ≤ j → a.key.size ≤ 140737488351232 + k)) ∧ Cells27 wr g ∧ FdAt wr g 0 (cur ++ [markFd, markFd]) ∧ Bk wr w.heap.size 27 markFd.cs ∧ Below w.heap.size w wr
theorem Cells27.lt {w : World} {g : Nat} (h : Cells27 w g) : g < w.heap.size := by
  obtain ⟨cs, h⟩ := h
  exact h.lt
theorem Cells27.below {w w' : World} {B g : Nat} (h : Cells27 w g) (hb : Below B w w') (hg : g < B) : Cells27 w' g := by
  obtain ⟨cs, h⟩ := h
  exact ⟨cs, h.below hb hg⟩

theorem FdSl.drewN {w : World} {B : Nat} {A : Option Addr} {l : List Fd} (h : FdSl w B A l) (n : Nat) : FdSl (w.drewN n) B A l := fun hne => by
  obtain ⟨b, off, rfl, hlt, hat⟩ := h hne
  exact ⟨b, off, rfl, hlt, fun i a hi => (hat i a hi).of fun j => rfl⟩
theorem FdSl.more {w : World} {B B' : Nat} {A : Option Addr} {l : List Fd} (h : FdSl w B A l) (hB : B ≤ B') : FdSl w B' A l := fun hne => by
  obtain ⟨b, off, rfl, hlt, hat⟩ := h hne
  exact ⟨b, off, rfl, by omega, hat⟩

set_option maxRecDepth 100000 in
set_option maxHeartbeats 2000000 in
theorem lent_walk (A : Option Addr) (l : List Fd) (n c : Nat) (w : World) (hn : l.length = n) (hm : (n + 2) * 72 ≤ 140737488355328) (hl : FdSl w w.heap.size A l) (hkey : ∀ (i : Nat) (a : Fd), l[i]? = some a → a.key.size ≤ 140737488351232) :
    Calls Try.prog 6 #[.slice A n c] w fun e w' => e = .returned (.bool true) ∧ Below w.heap.size w w' := by
  have HN := Lib.hid hn; clear hn
  have hr : Reads (w.alloc (.cells markFd.cs 27)) w.heap.size 8 A n (fcs l) := by
    have h := reads_sl hl
    rw [HN.out] at h
    exact h.alloc (Nat.le_refl _) _
  have HR := Lib.hid hr; clear hr
  have HL := Lib.hid hl; clear hl
  have HKEY := Lib.hid hkey; clear hkey
  obtain ⟨i0, hi, hz0, hz1, hz2⟩ := info_parts info27
  have HI := Lib.hid hi; clear hi
  have HZ0 := Lib.hid hz0; clear hz0
  have HZ1 := Lib.hid hz1; clear hz1
  have HZ2 := Lib.hid hz2; clear hz2
  go_enter Try.func6, Try.ntmps6
  go_upto_region 2 with fail
  have HK0 : Hid (Bk (w.alloc (.cells #[.string ⟨#[109, 97, 114, 107]⟩, .int .i64 0, .int .i64 0, .int .i64 0, .int .i64 (-1), .int .i64 0, .int .i64 0, .int .i64 0] 27)) w.heap.size 27 markFd.cs) := Lib.hid (Bk.mk_new w 27 markFd.cs)
  have HB0 : Hid (Below w.heap.size w (w.alloc (.cells #[.string ⟨#[109, 97, 114, 107]⟩, .int .i64 0, .int .i64 0, .int .i64 0, .int .i64 (-1), .int .i64 0, .int .i64 0, .int .i64 0] 27))) := Lib.hid ((Below.refl _ _).alloc (Nat.le_refl _) _)
  have HS0 : Hid ((w.alloc (.cells #[.string ⟨#[109, 97, 114, 107]⟩, .int .i64 0, .int .i64 0, .int .i64 0, .int .i64 (-1), .int .i64 0, .int .i64 0, .int .i64 0] 27)).heap.size = w.heap.size + 1) := Lib.hid (by simp)
  have HR0 : Hid (Reads (w.alloc (.cells #[.string ⟨#[109, 97, 114, 107]⟩, .int .i64 0, .int .i64 0, .int .i64 0, .int .i64 (-1), .int .i64 0, .int .i64 0, .int .i64 0] 27)) (w.alloc (.cells #[.string ⟨#[109, 97, 114, 107]⟩, .int .i64 0, .int .i64 0, .int .i64 0, .int .i64 (-1), .int .i64 0, .int .i64 0, .int .i64 0] 27)).heap.size 8 A n (fcs l)) := Lib.hid ((HR.out).more (by simp))
  clear HR
  generalize w.alloc (.cells #[.string ⟨#[109, 97, 114, 107]⟩, .int .i64 0, .int .i64 0, .int .i64 0, .int .i64 (-1), .int .i64 0, .int .i64 0, .int .i64 0] 27) = W0 at *
  obtain ⟨c0, c1, c2, c3, c4, c5, c6, c7⟩ := FdCells.of_bk HK0.out
  simp only [Nat.zero_add, markFd] at c0 c1 c2 c3 c4 c5 c6 c7
  have hlt0 : w.heap.size < W0.heap.size := HK0.out.lt
  go_cut [4] (fun s4 wx => LentRel w n l s4 wx)
  case first =>
    have rc0 : ∀ w', Below W0.heap.size W0 w' → w'.cell? ⟨w.heap.size, 0, none⟩ = some (.string ⟨#[109, 97, 114, 107]⟩) := fun w' h => (h.cell (p := ⟨w.heap.size, 0, none⟩) hlt0).trans c0
    have rc1 : ∀ w', Below W0.heap.size W0 w' → w'.cell? ⟨w.heap.size, 1, none⟩ = some (.int .i64 0) := fun w' h => (h.cell (p := ⟨w.heap.size, 1, none⟩) hlt0).trans c1
    have rc2 : ∀ w', Below W0.heap.size W0 w' → w'.cell? ⟨w.heap.size, 2, none⟩ = some (.int .i64 0) := fun w' h => (h.cell (p := ⟨w.heap.size, 2, none⟩) hlt0).trans c2
    have rc3 : ∀ w', Below W0.heap.size W0 w' → w'.cell? ⟨w.heap.size, 3, none⟩ = some (.int .i64 0) := fun w' h => (h.cell (p := ⟨w.heap.size, 3, none⟩) hlt0).trans c3
    have rc4 : ∀ w', Below W0.heap.size W0 w' → w'.cell? ⟨w.heap.size, 4, none⟩ = some (.int .i64 (-1)) := fun w' h => (h.cell (p := ⟨w.heap.size, 4, none⟩) hlt0).trans c4
    have rc5 : ∀ w', Below W0.heap.size W0 w' → w'.cell? ⟨w.heap.size, 5, none⟩ = some (.int .i64 0) := fun w' h => (h.cell (p := ⟨w.heap.size, 5, none⟩) hlt0).trans c5
    have rc6 : ∀ w', Below W0.heap.size W0 w' → w'.cell? ⟨w.heap.size, 6, none⟩ = some (.int .i64 0) := fun w' h => (h.cell (p := ⟨w.heap.size, 6, none⟩) hlt0).trans c6
    have rc7 : ∀ w', Below W0.heap.size W0 w' → w'.cell? ⟨w.heap.size, 7, none⟩ = some (.int .i64 0) := fun w' h => (h.cell (p := ⟨w.heap.size, 7, none⟩) hlt0).trans c7
    have hn1 : 0 + n ≤ maxLen := by unfold maxLen; omega
    have hn2 : (0 + n) * 72 ≤ 140737488355328 := Nat.le_trans (Nat.mul_le_mul_right 72 (by omega)) hm
    have hn3 : 0 + n + 2 ≤ maxLen := by unfold maxLen; omega
    have hn4 : (0 + n + 2) * 72 ≤ 140737488355328 := Nat.le_trans (Nat.mul_le_mul_right 72 (by omega)) hm
    clear c0 c1 c2 c3 c4 c5 c6 c7
    go_region_held3 (fun w' => Below W0.heap.size W0 w') (with_reducible (repeat (first | assumption | exact Below.refl _ _ | apply sB_drew | apply sB_alloc | exact sB_grown0 ‹_› hg1 | (refine sB_grown0 ?_ hg1) | (refine sB_grown1 ?_ hown1 hg2))))
      (first
        | ((refine step_append_any _ (by rfl) (.const (.slice none 0 0)) (.tmp 13) 23 (by rfl) W0.heap.size 27 i0 Fd.zero.val 8 72 Try.underlying23 HI.out HZ0.out HZ1.out HZ2.out rfl (by decide) (.slice none 0 0) 0 [] (by rfl) (World.ownsRow_nil _ _ _ _) W0.heap.size A n c (fcs l) (by rfl) ?_ (one_cells l) hn1 hn2 ?_ ?_); (focus (first | exact HR0.out | exact HR0.out.alloc (Nat.le_refl _) _)); (focus (simp)); intro v1 w1 hown1 hg1 hat1; have hb1s := hg1.size)
        | ((refine step_append_any _ (by rfl) (.tmp 14) (.tmp 17) 23 (by rfl) W0.heap.size 27 i0 Fd.zero.val 8 72 Try.underlying23 HI.out HZ0.out HZ1.out HZ2.out rfl (by decide) v1 (0 + n) ([] ++ fcs l) (by rfl) ?_ ?_ _ 2 2 (fcs [markFd, markFd]) (by rfl) ?_ (one_cells [markFd, markFd]) hn3 hn4 ?_ ?_); (focus (first | exact hown1 | exact hown1.alloc _)); rotate_left; (focus (first | exact reads_two _ | exact reads_after hg1)); (focus (first | omega | (simp; omega) | (simp at hb1s; omega) | (simp at hb1s ⊢; omega))); intro v4 w5 hown2 hg2 hat2))
    all_goals (go_wp2_with fail; go_meet)
    all_goals
      case rel =>
        have h1 : Below W0.heap.size W0 w1 := by
          first
            | exact sB_grown0 (Below.refl _ _) hg1
            | exact sB_grown0 (sB_drew (Below.refl _ _)) hg1
            | exact sB_grown0 (sB_drew (sB_alloc (Below.refl _ _) _)) hg1
            | exact sB_grown0 (sB_alloc (sB_drew (Below.refl _ _)) _) hg1
        have h2 : Below W0.heap.size W0 w5 := by
          first
            | exact sB_grown1 h1 hown1 hg2
            | exact sB_grown1 (sB_alloc h1 _) hown1 hg2
        exact lent_final HN.out HS0.out HK0.out HB0.out hlt0 h2 hown2
  case rest =>
    obtain ⟨g, cap, rfl, hg, hcap, hcl, hat, hbk, hbw⟩ := hcut
    have HCL := Lib.hid hcl; clear hcl
    have HAT := Lib.hid hat; clear hat
    have HBK := Lib.hid hbk; clear hbk
    have HBW := Lib.hid hbw; clear hbw
    clear c0 c1 c2 c3 c4 c5 c6 c7
    go_wp2
    go_loopw [5, 6, 7, 8, 9, 10, 11] (fun s5 _ _ _ _ _ _ wr => TurnRel w n g s5 wr) (fun s _ _ _ _ _ _ _ => 3 - (intOf s).toNat)
    case atStart => exact ⟨0, l, by omega, rfl, HN.out, fun i a h => by have := HKEY.out i a h; omega, HCL.out, HAT.out, HBK.out, HBW.out⟩
    case round =>
      obtain ⟨k, cur, hk, rfl, hcn, hks, hcl, hat, hbk, hbw⟩ := hrel
      clear HCL HAT HBK HBW HKEY HN HL
      have HCN := Lib.hid hcn; clear hcn
      have HKS := Lib.hid hks; clear hks
      have hgl : g < wr.heap.size := hcl.lt
      have HCL := Lib.hid hcl; clear hcl
      have HAT := Lib.hid hat; clear hat
      have hwl : w.heap.size < wr.heap.size := hbk.lt
      have HBK := Lib.hid hbk; clear hbk
      have HBW := Lib.hid hbw; clear hbw
      obtain ⟨wo, rfl⟩ : ∃ wo : World, wo = wr := ⟨_, rfl⟩
      by_cases hk3 : k < 3
      · have hncap : n ≤ cap := by omega
        have HSL : Hid (FdSl wo wo.heap.size (some ⟨g, 0, none⟩) cur) := Lib.hid (fun _ => ⟨g, 0, rfl, hgl, at_app HAT.out⟩)
        have HRD : Hid (Reads wo wo.heap.size 8 (some ⟨g, 0, none⟩) n (fcs cur)) := Lib.hid (by have h := reads_sl HSL.out; rw [HCN.out] at h; exact h)
        have hn1 : 0 + n ≤ maxLen := by unfold maxLen; omega
        have hn2 : (0 + n) * 72 ≤ 140737488355328 := Nat.le_trans (Nat.mul_le_mul_right 72 (by omega)) hm
        go_wp2_with (at_builtin; refine wpList_append_any _ rfl (.const (.slice none 0 0)) (.tmp 26) 23 rfl wo.heap.size 27 i0 Fd.zero.val 8 72 Try.underlying23 HI.out HZ0.out HZ1.out HZ2.out rfl (by decide) (.slice none 0 0) 0 [] rfl (World.ownsRow_nil _ _ _ _) wo.heap.size (some ⟨g, 0, none⟩) n _ (fcs cur) rfl HRD.out (one_cells cur) hn1 hn2 (Nat.le_refl _) ?_; intro v1 w1 hown1 hg1 hat1)
        obtain ⟨A1, c1, hv1, hsl1⟩ := own_form (l := cur) (n := n) (by simpa using hown1)
        have hs1 : wo.heap.size ≤ w1.heap.size := hg1.size
        have HB1 : Hid (Below wo.heap.size wo w1) := Lib.hid (sB_grown0 (Below.refl _ _) hg1)
        clear hown1 hg1 hat1
        subst hv1
        have HSL1 := Lib.hid hsl1; clear hsl1
        refine (refWorst_any A1 cur n c1 _ HCN.out (by omega) HSL1.out).mono ?_
        rintro e w2 ⟨rfl, hb2⟩
        have hs2 : w1.heap.size ≤ w2.heap.size := hb2.size
        have HB2 : Hid (Below wo.heap.size wo w2) := Lib.hid (HB1.out.trans (hb2.mono (by omega)))
        have HSL2 : Hid (FdSl w2 w1.heap.size A1 cur) := Lib.hid (HSL1.out.below hb2 (Nat.le_refl _))
        clear hb2
        have hwany := fun (W : World) (h1 : FdSl W W.heap.size (some ⟨g, 0, none⟩) cur) => worst_any (some ⟨g, 0, none⟩) cur n cap W HCN.out (by omega) h1
        have HWANY := Lib.hid hwany; clear hwany
        generalize (refW cur).getD Fd.zero = m at *
        generalize (refW cur).isSome = q at *
        unfold Fd.val
        go_wp2_with fail
        have hsl3 : FdSl (w2.alloc (.cells m.cs 27)) (w2.alloc (.cells m.cs 27)).heap.size (some ⟨g, 0, none⟩) cur := fun hne => ⟨g, 0, rfl, by simp; omega, (((at_app HAT.out).below HB2.out hgl).below ((Below.refl _ _).alloc (Nat.le_refl _) _) (by omega))⟩
        refine (HWANY.out _ hsl3).mono ?_
        rintro e w3 ⟨rfl, hb3⟩
        have hs3 : w2.heap.size + 1 ≤ w3.heap.size := by have := hb3.size; simpa using this
        have HKW : Hid (Bk w3 w2.heap.size 27 m.cs) := Lib.hid ((Bk.mk_new w2 27 m.cs).below hb3 (by simp))
        have HB3 : Hid (Below wo.heap.size wo w3) := Lib.hid ((HB2.out.alloc (by omega) _).trans (hb3.mono (by simp; omega)))
        have HSL3 : Hid (FdSl w3 w1.heap.size A1 cur) := Lib.hid (HSL2.out.below (((Below.refl _ _).alloc (Nat.le_refl _) _).trans (hb3.mono (by simp))) hs2)
        clear hb3 hsl3 HWANY
        unfold Fd.val
        go_upto_region 9 with fail
        have HK7 : Hid (Bk (w3.alloc (.cells #[.string m.key, .int .i64 m.kind, .int .i64 m.epoch, .int .i64 m.count, .int .i64 m.whole, .int .i64 m.stale, .int .i64 m.spoilt, .int .i64 m.silent] 27)) w2.heap.size 27 m.cs) := Lib.hid (HKW.out.alloc _)
        have HK9 : Hid (Bk (w3.alloc (.cells #[.string m.key, .int .i64 m.kind, .int .i64 m.epoch, .int .i64 m.count, .int .i64 m.whole, .int .i64 m.stale, .int .i64 m.spoilt, .int .i64 m.silent] 27)) w3.heap.size 27 m.cs) := Lib.hid (Bk.mk_new w3 27 m.cs)
        have HB4 : Hid (Below wo.heap.size wo (w3.alloc (.cells #[.string m.key, .int .i64 m.kind, .int .i64 m.epoch, .int .i64 m.count, .int .i64 m.whole, .int .i64 m.stale, .int .i64 m.spoilt, .int .i64 m.silent] 27))) := Lib.hid (HB3.out.alloc (by omega) _)
        have HSL4 : Hid (FdSl (w3.alloc (.cells #[.string m.key, .int .i64 m.kind, .int .i64 m.epoch, .int .i64 m.count, .int .i64 m.whole, .int .i64 m.stale, .int .i64 m.spoilt, .int .i64 m.silent] 27)) w1.heap.size A1 cur) := Lib.hid (HSL3.out.below ((Below.refl _ _).alloc (Nat.le_refl _) _) (by omega))
        clear HKW HB3 HSL3
        generalize w3.alloc (.cells #[.string m.key, .int .i64 m.kind, .int .i64 m.epoch, .int .i64 m.count, .int .i64 m.whole, .int .i64 m.stale, .int .i64 m.spoilt, .int .i64 m.silent] 27) = w4 at *
        have HSL5 : Hid (FdSl w4 wo.heap.size (some ⟨g, 0, none⟩) cur) := Lib.hid (HSL.out.below HB4.out (Nat.le_refl _))
        have hs4 : w2.heap.size < w4.heap.size := HK7.out.lt
        have HSL6 : Hid (FdSl w4 w4.heap.size (some ⟨g, 0, none⟩) cur) := Lib.hid (HSL5.out.more (by omega))
        have HSL7 : Hid (FdSl w4 w4.heap.size A1 cur) := Lib.hid (HSL4.out.more (by omega))
        obtain ⟨a0, a1, a2, a3, a4, a5, a6, a7⟩ := FdCells.of_bk HK7.out
        obtain ⟨b0, b1, b2, b3, b4, b5, b6, b7⟩ := FdCells.of_bk HK9.out
        obtain ⟨c0, c1', c2, c3, c4, c5, c6, c7⟩ := FdCells.of_bk (HBK.out.below HB4.out hwl)
        obtain ⟨d0, d1, d2, d3, d4, d5, d6, d7⟩ := (HAT.out n markFd (by rw [List.getElem?_append_right (by rw [HCN.out]; omega), HCN.out, Nat.sub_self]; rfl)).below HB4.out hgl
        obtain ⟨e0, e1, e2, e3, e4, e5, e6, e7⟩ := (HAT.out (n + 1) markFd (by rw [List.getElem?_append_right (by rw [HCN.out]; omega), HCN.out, show n + 1 - n = 1 by omega]; rfl)).below HB4.out hgl
        simp only [Nat.zero_add, markFd] at a0 a1 a2 a3 a4 a5 a6 a7 b0 b1 b2 b3 b4 b5 b6 b7 c0 c1' c2 c3 c4 c5 c6 c7 d0 d1 d2 d3 d4 d5 d6 d7 e0 e1 e2 e3 e4 e5 e6 e7
        have hi1 : (n : Int) < (n : Int) + 2 := by omega
        have hi2 : (n : Int) + 1 < (n : Int) + 2 := by omega
        have hi3 : (0 : Int) ≤ (n : Int) + 1 := by omega
        go_quiet ((go_at_call 11; exact Calls.quiet_of (same_true (some ⟨g, 0, none⟩) A1 cur n cap c1 w4.heap.size _ HCN.out (by omega) (HSL6.out.drewN _) (HSL7.out.drewN _))))
        go_wp2_with fail
        clear a0 a1 a2 a3 a4 a5 a6 a7 b0 b1 b2 b3 b4 b5 b6 b7 c0 c1' c2 c3 c4 c5 c6 c7 d0 d1 d2 d3 d4 d5 d6 d7 e0 e1 e2 e3 e4 e5 e6 e7 hi1 hi2 hi3
        have HO0 : Hid (OverRel w n g k (.int .i64 0) (w4.drewN nq)) := Lib.hid ⟨0, cur, by omega, rfl, HCN.out, fun j a h => ⟨by have := HKS.out j a h; omega, fun _ => HKS.out j a h⟩, by
          obtain ⟨cs, h⟩ := HCL.out.below HB4.out hgl
          exact ⟨cs, h.drewN nq⟩, fun i a hi => ((HAT.out i a hi).below HB4.out hgl).of fun j => rfl, ((HBK.out.below HB4.out hwl).drewN nq), below_drewN (HBW.out.trans (HB4.out.mono (by omega))) nq⟩
        clear HCN HKS HCL HAT HBK HBW HSL HRD HB1 HB2 HSL1 HSL2 HB4 HSL4 HSL5 HSL6 HSL7 HK7 HK9
        go_loopw [11] (fun s11 wr => OverRel w n g k s11 wr) (fun s _ => n - (intOf s).toNat)
        case atStart => exact HO0.out
        case round =>
          obtain ⟨i, L, hin, rfl, hLn, hLk, hcl, hat, hbk, hbw⟩ := hrel
          have HLN := Lib.hid hLn; clear hLn
          have HLK := Lib.hid hLk; clear hLk
          have HAT := Lib.hid hat; clear hat
          have HBK := Lib.hid hbk; clear hbk
          have HBW := Lib.hid hbw; clear hbw
          by_cases hilt : i < n
          · obtain ⟨a, ha⟩ : ∃ a, L[i]? = some a := ⟨_, List.getElem?_eq_getElem (by rw [HLN.out]; exact hilt)⟩
            have hks := (HLK.out i a ha).2 (Nat.le_refl _)
            have HA := Lib.hid ha; clear ha
            have HAA : Hid ((L ++ [markFd, markFd])[i]? = some a) := Lib.hid (by rw [List.getElem?_append_left (by rw [HLN.out]; exact hilt)]; exact HA.out)
            obtain ⟨a0, a1, a2, a3, a4, a5, a6, a7⟩ := HAT.out i a HAA.out
            simp only [Nat.zero_add] at a0 a1 a2 a3 a4 a5 a6 a7
            obtain ⟨cs, hcs⟩ := hcl
            have f0 := hcs.free (i * 8)
            have f1 := hcs.free (i * 8 + 1)
            have f4 := hcs.free (i * 8 + 4)
            have HCS := Lib.hid hcs; clear hcs
            clear a2 a3 a5 a6 a7
            have hkb : a.key.size + 1 ≤ 9223372036854775807 := by omega
            go_wp2
            refine ⟨⟨i + 1, L.set i (stepFd k i a), by omega, by go_num, by simp [HLN.out], ?_, ?_, ?_, ?_, ?_⟩, by simp [intOf]; omega⟩
            · intro j b hj
              rw [List.getElem?_set] at hj
              by_cases hij : i = j
              · subst hij
                rw [if_pos rfl, if_pos (by rw [HLN.out]; exact hilt)] at hj
                obtain rfl := Option.some.inj hj
                refine ⟨?_, fun h => by omega⟩
                show (a.key ++ _).size ≤ _
                rw [ByteArray.size_append]
                have : (ByteArray.mk #[46]).size = 1 := rfl
                omega
              · rw [if_neg hij] at hj
                exact ⟨(HLK.out j b hj).1, fun h => (HLK.out j b hj).2 (by omega)⟩
            · exact ((Cells27.set ⟨cs, HCS.out⟩ _ _).set _ _).set _ _
            · have h := at_set (t := k) HAT.out HAA.out
              rw [set_app (by rw [HLN.out]; exact hilt)] at h
              exact h
            · exact ((HBK.out.other (p := ⟨g, _, none⟩) (by show w.heap.size ≠ g; omega) _).other (p := ⟨g, _, none⟩) (by show w.heap.size ≠ g; omega) _).other (p := ⟨g, _, none⟩) (by show w.heap.size ≠ g; omega) _
            · exact ((HBW.out.setCell (p := ⟨g, _, none⟩) (by show w.heap.size ≤ g; omega) _).setCell (p := ⟨g, _, none⟩) (by show w.heap.size ≤ g; omega) _).setCell (p := ⟨g, _, none⟩) (by show w.heap.size ≤ g; omega) _
          · have hin' : i = n := by omega
            subst hin'
            have HCL2 := Lib.hid hcl; clear hcl
            go_wp2
            go_roundw
            case rel => exact ⟨k + 1, L, by omega, by go_num, HLN.out, fun j a h => by have := (HLK.out j a h).1; omega, HCL2.out, HAT.out, HBK.out, HBW.out⟩
            case measure => simp [intOf]; omega
      · have hk3' : k = 3 := by omega
        subst hk3'
        have HE : Hid (Below w.heap.size w wo) := Lib.hid HBW.out
        go_wp2
        go_ret
        exact ⟨rfl, HE.out⟩
end Go.Proofs.Ytmlklbbkkggpkaa.aud
