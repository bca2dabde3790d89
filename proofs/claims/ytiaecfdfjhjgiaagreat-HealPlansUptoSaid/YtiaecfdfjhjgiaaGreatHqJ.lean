/- Contract: cairnharm's Kept, walked. -/
import Derived.Laws.BytesString
import Derived.Deep.CutRange
import Derived.Deep.RegionHeld3
import Derived.Deep.CutBlock
import Derived.Deep.MidRow
import Derived.Deep.WholeRow
import Derived.Test.YtiaecfdfjhjgiaaGreatHqI
namespace Go.Proofs.YtiaecfdfjhjgiaaGreat.hp
open Go.RowKit kit Go.ChangeMaps Go.Maps Go.Sort
set_option linter.unusedVariables false

set_option maxRecDepth 1000000 in
set_option maxHeartbeats 4000000 in
theorem kept_any (A : Option Addr) (cap : Nat) (lv : Value) (l ls : List Sn) (hcap : l.length + 2 ≤ cap) (hl : l.length ≤ 1099511627776) (w : World) (S T : Nat → Prop) (B : Nat) (hs : Sl w S 19 snC lv l) (hok : ∀ s ∈ l, SnOk w S s)
    (hf : Sl w T 19 snC (.slice A (l.length + 2) cap) (ls ++ [mk77, mk78])) (hll : ls.length = l.length) (hat : ∀ (i : Nat) (s s' : Sn), l[i]? = some s → ls[i]? = some s' → ∃ bv, s' = { s with blv := bv } ∧ LBs w B bv s.bls) :
    Calls Tryz.prog 9 #[.slice A l.length cap, lv] w fun e w' => e = .returned (.bool true) ∧ Below w.heap.size w w' := by
  obtain ⟨A1, c, rfl, hc⟩ := hs
  have HC := Lib.hid hc; clear hc
  have HOK := Lib.hid hok; clear hok
  obtain ⟨A', c', hA, hcf⟩ := hf
  injection hA with hA1 hA0 hA2
  clear hA0
  subst hA1 hA2
  obtain ⟨g, o, rfl, _, hcf⟩ := hcf (by simp)
  have HF := Lib.hid hcf; clear hcf
  have HAT := Lib.hid hat; clear hat
  have HLL := Lib.hid hll; clear hll
  have HCAP := Lib.hid hcap
  go_enter Tryz.func9, Tryz.ntmps9
  go_wp2
  go_loopw [5] (fun i wr => ∃ k : Nat, k ≤ l.length ∧ i = .int .i64 (k : Int) ∧ Below w.heap.size w wr) (fun i _ => l.length - (intOf i).toNat)
  case atStart => exact ⟨0, by omega, rfl, Below.refl _ _⟩
  case round =>
    obtain ⟨k, hk, rfl, hrel⟩ := hrel
    have HR := Lib.hid hrel; clear hrel
    by_cases hlt : k < l.length
    · obtain ⟨s, hs⟩ : ∃ s, l[k]? = some s := ⟨_, List.getElem?_eq_getElem hlt⟩
      obtain ⟨s', hs'⟩ : ∃ s', ls[k]? = some s' := ⟨_, List.getElem?_eq_getElem (by rw [HLL.out]; exact hlt)⟩
      obtain ⟨bv, hbv, hlb⟩ := HAT.out k s s' hs hs'
      obtain ⟨g1, o1, rfl, _, hcs⟩ := HC.out (by intro e; rw [e] at hlt; simp at hlt)
      have hs2 : (ls ++ [mk77, mk78])[k]? = some s' := by rw [List.getElem?_append_left (by rw [HLL.out]; exact hlt)]; exact hs'
      have hok := (HOK.out s (List.mem_of_getElem? hs)).keep HR.out
      have hlb := hlb.keep HR.out
      have HLB := Lib.hid hlb
      have HOKs := Lib.hid hok
      obtain ⟨gb, ob, capb, g4, o4, c4, al, hbv2, hcb, hal1, hal2, hcell, hc4, hc84⟩ := hlb.at
      have H1 : Hid (∀ W, Below wr.heap.size wr W → W.rangeAt g1 (o1 + k * 19) (snC s)) := Lib.hid fun W hW j u hj => cell_later (HR.out.trans (hW.mono HR.out.size)) (hcs k s hs j u hj)
      have H2 : Hid (∀ W, Below wr.heap.size wr W → W.rangeAt g (o + k * 19) (snC s')) := Lib.hid fun W hW j u hj => cell_later (HR.out.trans (hW.mono HR.out.size)) (HF.out k s' hs2 j u hj)
      have HAL : Hid (∀ W, Below wr.heap.size wr W → Calls Tryz.prog 16 #[.agg (snC s').toArray, .agg (snC s).toArray] W fun e w' => e = .returned (.bool true) ∧ Hid (Below W.heap.size W w')) := Lib.hid fun W hW => by
        subst hbv
        refine (alike_same s.kind s.s0 s.s1 s.s2 s.s3 s.s4 s.s5 s.s6 s.s7 s.k s.m s.b s.key s.size s.idx s.ep s.ct s.err bv s.blv al s.bls hal2.symm ?_ W (fun _ => True) S (hal1.keep hW) (hok.bl.keep hW)).mono fun _ _ h => ⟨h.1, Lib.hid h.2⟩
        have := congrArg List.length hal2
        simp at this
        rw [this]
        exact hok.n
      have hi0 : (0 : Int) ≤ (k : Int) := by omega
      have hi1 : (k : Int) < (l.length : Int) := by omega
      have HS := Lib.hid hs
      have HS2 := Lib.hid hs2
      have HBV := Lib.hid hbv
      have HBV2 := Lib.hid hbv2
      have HCB := Lib.hid hcb
      have HCELL := Lib.hid hcell
      have HC4 := Lib.hid hc4
      have HC84 := Lib.hid hc84
      clear hs hs' hbv hlb hcs hs2 hok hbv2 hcb hal1 hal2 hcell hc4 hc84 hcap
      have x17 : ∀ W, Below wr.heap.size wr W → W.cell? ⟨g1, o1 + k * 19 + 17, none⟩ = some (s.blv) := fun W h => H1.out W h 17 _ rfl
      have y17 : ∀ W, Below wr.heap.size wr W → W.cell? ⟨g, o + k * 19 + 17, none⟩ = some (s'.blv) := fun W h => H2.out W h 17 _ rfl
      go_upto_region 6 with fail
      go_cut [6] from 18 to 113 (fun t wx => t = .bool true ∧ Below wr.heap.size wr wx)
      case first =>
        as_aux_lemma =>
          refine wp_region_held_drew (S := fun W => Below wr.heap.size wr W) (by kernel_rfl) (sB_drew (Below.refl _ _)) (fun hHeld => ?_)
          refine wpAnyH_take (i := 0) (oi := _) (v := ?_) rfl (by kernel_rfl) (by kernel_rfl) (by kernel_rfl) (fun _ _ _ h => h) (Or.inl ⟨by rfl, ?_⟩) (by assumption) ?_
          rotate_left
          · intro w hSw
            (try dsimp only at hSw)
            go_simp
            try with_reducible rfl
          try simp only [Act.put, List.setIfInBounds_toArray, List.set_cons_zero, List.set_cons_succ]
          refine wpAnyH_take (i := 1) (oi := _) (v := ?_) rfl (by kernel_rfl) (by kernel_rfl) (by kernel_rfl) (fun _ _ _ h => h) (Or.inl ⟨by rfl, ?_⟩) (by assumption) ?_
          rotate_left
          · intro w hSw
            (try dsimp only at hSw)
            go_simp
            try with_reducible rfl
          try simp only [Act.put, List.setIfInBounds_toArray, List.set_cons_zero, List.set_cons_succ]
          refine wpAnyH_take (i := 2) (oi := _) (v := ?_) rfl (by kernel_rfl) (by kernel_rfl) (by kernel_rfl) (fun _ _ _ h => h) (Or.inl ⟨by rfl, ?_⟩) (by assumption) ?_
          rotate_left
          · intro w hSw
            (try dsimp only at hSw)
            go_simp
            try with_reducible rfl
          try simp only [Act.put, List.setIfInBounds_toArray, List.set_cons_zero, List.set_cons_succ]
          refine wpAnyH_take (i := 3) (oi := _) (v := .agg (snC s').toArray) rfl (by kernel_rfl) (by kernel_rfl) (by kernel_rfl) (fun _ _ _ h => h) (yieldsIf_load_mid (by rfl) 71 _ rfl g (o + k * 19) rfl (snC s') _ H2.out rfl rfl rfl) (by assumption) ?_
          try simp only [Act.put, List.setIfInBounds_toArray, List.set_cons_zero, List.set_cons_succ]
          refine wpAnyH_take (i := 4) (oi := _) (v := ?_) rfl (by kernel_rfl) (by kernel_rfl) (by kernel_rfl) (fun _ _ _ h => h) (Or.inl ⟨by rfl, ?_⟩) (by assumption) ?_
          rotate_left
          · intro w hSw
            (try dsimp only at hSw)
            go_simp
            try with_reducible rfl
          try simp only [Act.put, List.setIfInBounds_toArray, List.set_cons_zero, List.set_cons_succ]
          refine wpAnyH_take (i := 5) (oi := _) (v := ?_) rfl (by kernel_rfl) (by kernel_rfl) (by kernel_rfl) (fun _ _ _ h => h) (Or.inl ⟨by rfl, ?_⟩) (by assumption) ?_
          rotate_left
          · intro w hSw
            (try dsimp only at hSw)
            go_simp
            try with_reducible rfl
          try simp only [Act.put, List.setIfInBounds_toArray, List.set_cons_zero, List.set_cons_succ]
          refine wpAnyH_take (i := 6) (oi := _) (v := ?_) rfl (by kernel_rfl) (by kernel_rfl) (by kernel_rfl) (fun _ _ _ h => h) (Or.inl ⟨by rfl, ?_⟩) (by assumption) ?_
          rotate_left
          · intro w hSw
            (try dsimp only at hSw)
            go_simp
            try with_reducible rfl
          try simp only [Act.put, List.setIfInBounds_toArray, List.set_cons_zero, List.set_cons_succ]
          refine wpAnyH_take (i := 7) (oi := _) (v := .agg (snC s).toArray) rfl (by kernel_rfl) (by kernel_rfl) (by kernel_rfl) (fun _ _ _ h => h) (yieldsIf_load_mid (by rfl) 71 _ rfl g1 (o1 + k * 19) rfl (snC s) _ H1.out rfl rfl rfl) (by assumption) ?_
          try simp only [Act.put, List.setIfInBounds_toArray, List.set_cons_zero, List.set_cons_succ]
          refine wpAnyH_ready (rs := [8]) (by kernel_rfl) (by simp) ?_
          refine AllReadyH.cons rfl (fun K hK => ?_) AllReadyH.nil
          go_simp
          (go_at_call 16; refine (HAL.out _ hHeld).mono ?_; intro e w5 h5; obtain ⟨rfl, hb5⟩ := h5; have HB5 : Below wr.heap.size wr w5 := hHeld.trans (hb5.out.mono hHeld.size))
          refine hK.out _ _ HB5 (fun hHeld2 => ?_)
          clear hK K
          try simp only [Act.put, List.setIfInBounds_toArray, List.set_cons_zero, List.set_cons_succ]
          refine wpAnyH_ready (rs := [9]) (by kernel_rfl) (by simp) ?_
          refine AllReadyH.cons rfl (fun K hK => ?_) AllReadyH.nil
          go_simp
          refine hK.out _ _ (by assumption) (fun hHeld3 => ?_)
          clear hK K
          try simp only [Act.put, List.setIfInBounds_toArray, List.set_cons_zero, List.set_cons_succ]
          refine wpAnyH_done (by kernel_rfl) ?_ _
          go_wp2_with fail
          go_meet
          exact ⟨rfl, HB5⟩
      case rest =>
        obtain ⟨rfl, hwc⟩ := hcut
        have HWC := Lib.hid hwc
        have HWW := Lib.hid (HR.out.trans (hwc.mono HR.out.size))
        have HN := Lib.hid HOKs.out.n
        have d1 : wc.cell? ⟨g1, o1 + k * 19 + 1 + 16, none⟩ = some (s.blv) := x17 wc hwc
        have d2 : wc.cell? ⟨g, o + k * 19 + 1 + 16, none⟩ = some (.slice (some ⟨gb, ob, none⟩) s.bls.length capb) := by
          rw [← HBV2.out]
          have := y17 wc hwc
          rw [HBV.out] at this
          exact this
        obtain ⟨As, cs, hsv, hsc⟩ := HOKs.out.bl.1
        rw [hsv] at d1
        have HSC := Lib.hid hsc
        clear hsc hsv hwc
        clear x17 y17
        go_wp2
        go_loopw [8] (fun q wx => ∃ j : Nat, j ≤ s.bls.length ∧ q = .int .i64 (j : Int) ∧ wc = wx) (fun q _ => s.bls.length - (intOf q).toNat)
        case atStart => exact ⟨0, by omega, rfl, rfl⟩
        case round =>
          obtain ⟨j, hj, rfl, rfl⟩ := hrel
          by_cases hlt2 : j < s.bls.length
          · obtain ⟨p, hp⟩ : ∃ p, s.bls[j]? = some p := ⟨_, List.getElem?_eq_getElem hlt2⟩
            obtain ⟨g5, o5, rfl, _, hc5⟩ := HSC.out (by intro e; rw [e] at hlt2; simp at hlt2)
            have hby := HOKs.out.bl.2 p (List.mem_of_getElem? hp)
            obtain ⟨Ap, cp, hpv, _⟩ := hby.reads
            have c1 : wc.cell? ⟨g5, o5 + j, none⟩ = some (.slice Ap p.2.length cp) := by
              have := cell_later HWC.out (hc5 j p hp 0 _ rfl)
              rw [Nat.mul_one] at this
              rw [← hpv]
              exact this
            obtain ⟨u, hu1, hu2⟩ := HCELL.out j p hp
            obtain ⟨gj, oj, cj, rfl, hcj, _, m1, m2, m3⟩ := hu2.at
            replace hu1 := cell_later HWC.out hu1
            replace m1 := cell_later HWC.out m1
            replace m2 := cell_later HWC.out m2
            replace m3 := cell_later HWC.out m3
            have hpl := HOKs.out.l p (List.mem_of_getElem? hp)
            obtain ⟨m, hm⟩ : ∃ m, p.2.length = m := ⟨_, rfl⟩
            rw [hm] at c1 hu1 m1 m2 m3 hcj hpl
            have j0 : (0 : Int) ≤ (j : Int) := by omega
            have j1 : (j : Int) < (s.bls.length : Int) := by omega
            clear hc5 hby hpv hu2 hp hm
            have hnn := HN.out
            as_aux_lemma =>
              go_wp2
              go_roundw
              case rel => exact ⟨j + 1, by omega, by go_num, trivial⟩
              case measure => simp [intOf]; omega
          · obtain rfl : j = s.bls.length := by omega
            have e4 : wc.cell? ⟨gb, ob + s.bls.length, none⟩ = some (.slice (some ⟨g4, o4, none⟩) 1 c4) := cell_later HWC.out HC4.out
            have e5 : wc.cell? ⟨g4, o4, none⟩ = some (.int .u8 84) := cell_later HWC.out HC84.out
            have hcb := HCB.out
            have hnn := HN.out
            go_wp2
            go_roundw
            case rel => exact ⟨k + 1, by omega, by go_num, HWW.out⟩
            case measure => simp [intOf]; omega
    · obtain rfl : k = l.length := by omega
      have z1 : wr.cell? ⟨g, o + l.length * 19, none⟩ = some (.int .i64 77) := by
        have := HF.out l.length mk77 (by rw [List.getElem?_append_right (by rw [HLL.out]; exact Nat.le_refl _), HLL.out, Nat.sub_self]; rfl) 0 _ rfl
        exact cell_later HR.out this
      have z2 : wr.cell? ⟨g, o + (l.length + 1) * 19, none⟩ = some (.int .i64 78) := by
        have := HF.out (l.length + 1) mk78 (by rw [List.getElem?_append_right (by rw [HLL.out]; omega), HLL.out, Nat.add_sub_cancel_left]; rfl) 0 _ rfl
        exact cell_later HR.out this
      as_aux_lemma =>
        go_wp2
        go_ret
        exact ⟨rfl, HR.out⟩
end Go.Proofs.YtiaecfdfjhjgiaaGreat.hp
