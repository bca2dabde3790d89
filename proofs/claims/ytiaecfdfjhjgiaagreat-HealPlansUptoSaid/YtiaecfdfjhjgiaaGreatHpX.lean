/- Contract: cairnplay.Same: drives that are alike on both sides are found so. -/
import Derived.Laws.BytesString
import Derived.Deep.CutRange
import Derived.Deep.RegionHeld3
import Derived.Test.YtiaecfdfjhjgiaaGreatHpW
import Derived.Test.YtiaecfdfjhjgiaaGreatHpG
import Derived.Test.YtiaecfdfjhjgiaaGreatHpO
import Derived.Test.YtiaecfdfjhjgiaaGreatHpP
namespace Go.Proofs.YtiaecfdfjhjgiaaGreat.hp
open Go.RowKit kit Go.ChangeMaps Go.Maps Go.Sort
set_option linter.unusedVariables false

/-- Same finds two lists of files alike. -/
def Alike (W : World) (a b : Value) : Prop := ∃ (f1 f2 : List Fi) (S T : Nat → Prop), f2.map Fi.key = f1.map Fi.key ∧ f1.length ≤ 1099511627776 ∧ Fs W S a f1 ∧ Fs W T b f2
theorem Alike.same {W : World} {a b : Value} (h : Alike W a b) : Calls Tryz.prog 29 #[a, b] W fun e w' => e = .returned (.bool true) ∧ ∃ m, w' = W.drewN m := by
  obtain ⟨f1, f2, S, T, h1, h2, h3, h4⟩ := h
  exact sameFiles_yes a b f1 f2 h1 h2 W S T h3 h4
theorem Alike.same' {W : World} {a b : Value} (h : Alike W a b) : Calls Tryz.prog 29 #[a, b] W fun e w' => e = .returned (.bool true) ∧ Below W.heap.size W w' :=
  h.same.mono fun e w' ⟨h1, m, h2⟩ => ⟨h1, h2 ▸ below_drewN (Below.refl _ _) m⟩
/-- A list of files that tells what stands. -/
def Tells (W : World) (v : Value) (K : List (List UInt8 × List UInt8)) : Prop := ∃ (f : List Fi) (S : Nat → Prop), f.map Fi.key = K ∧ Fs W S v f
theorem Tells.keep {W W' : World} {v : Value} {K : List (List UInt8 × List UInt8)} (h : Tells W v K) (hb : Below W.heap.size W W') : Tells W' v K := by
  obtain ⟨f, S, h1, h2⟩ := h
  exact ⟨f, S, h1, h2.keep hb⟩
theorem Tells.alike {W : World} {a b : Value} {K : List (List UInt8 × List UInt8)} (h1 : Tells W a K) (h2 : Tells W b K) (hl : K.length ≤ 1099511627776) : Alike W a b := by
  obtain ⟨f1, S, h3, h4⟩ := h1
  obtain ⟨f2, T, h5, h6⟩ := h2
  refine ⟨f1, f2, S, T, h5.trans h3.symm, ?_, h4, h6⟩
  have := congrArg List.length h3
  simp at this
  omega
/-- What Same needs of a pair of drives, at whatever world behind. -/
structure PairAt (X : World) (mb wb pb rb : Nat) (es : List En) (K : List (List UInt8 × List UInt8)) : Prop where
  w0 : ∀ W, Below X.heap.size X W → W.cell? ⟨wb, 0, none⟩ = some (.pointer (some ⟨pb, 0, none⟩))
  m0 : ∀ W, Below X.heap.size X W → W.cell? ⟨mb, 0, none⟩ = some (.pointer (some ⟨rb, 0, none⟩))
  len : K.length ≤ 1099511627776
  pI : ∀ W, Below X.heap.size X W → Calls Tryz.prog 30 #[.pointer (some ⟨pb, 0, none⟩)] W fun e w' => ∃ A n c, e = .returned (.slice A n c) ∧ Hid (Tells w' (.slice A n c) K ∧ Below W.heap.size W w')
  pS : ∀ W, Below X.heap.size X W → Calls Tryz.prog 31 #[.pointer (some ⟨pb, 0, none⟩)] W fun e w' => ∃ A n c, e = .returned (.slice A n c) ∧ Hid (Tells w' (.slice A n c) K ∧ Below W.heap.size W w')
  rI : ∀ W, Below X.heap.size X W → Calls Tryz.prog 28 #[.pointer (some ⟨rb, 0, none⟩)] W fun e w' => ∃ A n c, e = .returned (.slice A n c) ∧ Hid (Tells w' (.slice A n c) K ∧ n = es.length ∧ Below W.heap.size W w')
  rS : ∀ W, Below X.heap.size X W → Calls Tryz.prog 32 #[.pointer (some ⟨rb, 0, none⟩)] W fun e w' => ∃ A n c, e = .returned (.slice A n c) ∧ Hid (Tells w' (.slice A n c) K ∧ Below W.heap.size W w')
  pP : ∀ W, Below X.heap.size X W → Calls Tryz.prog 33 #[.pointer (some ⟨pb, 0, none⟩)] W fun e w' => e = .returned (.int .i64 0) ∧ W = w'
  rP : ∀ W, Below X.heap.size X W → Calls Tryz.prog 34 #[.pointer (some ⟨rb, 0, none⟩)] W fun e w' => e = .returned (.int .i64 0) ∧ W = w'
  pC : ∀ W, Below X.heap.size X W → Calls Tryz.prog 35 #[.pointer (some ⟨wb, 0, none⟩)] W fun e w' => e = .returned (.int .i64 0) ∧ W = w'
  pO : ∀ W, Below X.heap.size X W → Calls Tryz.prog 36 #[.pointer (some ⟨wb, 0, none⟩)] W fun e w' => e = .returned (.bool true) ∧ W = w'
  gate : ∃ (aw la : Bool) (A : Option Addr) (n c : Nat) (r k i : Int),
    (∀ W, Below X.heap.size X W → W.cell? ⟨mb, 1, none⟩ = some (.bool false) ∧ W.cell? ⟨mb, 2, none⟩ = some (.bool aw) ∧ W.cell? ⟨mb, 3, none⟩ = some (.slice A n c) ∧ W.cell? ⟨mb, 4, none⟩ = some (.int .i64 0) ∧ W.cell? ⟨mb, 5, none⟩ = some (.int .i64 0) ∧
      W.cell? ⟨mb, 6, none⟩ = some (.bool la) ∧ W.cell? ⟨mb, 7, none⟩ = some (.int .i64 r) ∧ W.cell? ⟨mb, 8, none⟩ = some (.int .i64 k) ∧ W.cell? ⟨mb, 9, none⟩ = some (.int .i64 i)) ∧
    ∀ W, Below X.heap.size X W → Calls Tryz.prog 37 #[.pointer (some ⟨wb, 0, none⟩)] W fun e w' => e = .returned (.bool (la && r == 0)) ∧ W = w'
  pL : ∀ W, Below X.heap.size X W → ∀ e ∈ es, Calls Tryz.prog 39 #[.pointer (some ⟨pb, 0, none⟩), .string e.name] W fun r w' => r = .returned (.tuple #[.int .i64 0, .int .i64 0]) ∧ ∃ m, w' = W.drewN m
  rL : ∀ W, Below X.heap.size X W → ∀ e ∈ es, Calls Tryz.prog 40 #[.pointer (some ⟨rb, 0, none⟩), .string e.name] W fun r w' => r = .returned (.tuple #[.int .i64 0, .int .i64 0]) ∧ ∃ m, w' = W.drewN m
  nam : ∃ ds : List (List UInt8), K = tellE es ds
theorem fs_slice {W : World} {S : Nat → Prop} {v : Value} {f : List Fi} (h : Fs W S v f) : ∃ A c, v = .slice A f.length c := by
  obtain ⟨A, c, hv, _⟩ := h.1
  exact ⟨A, c, hv⟩
theorem tellE_len (es : List En) (ds : List (List UInt8)) : (tellE es ds).length = es.length := by
  unfold tellE
  simp
theorem Pair.at {X : World} {F : Nat → Prop} {mb wb : Nat} (h : Pair X F mb wb) (hF : ∀ b, F b → b < X.heap.size) : ∃ (pb rb : Nat) (es : List En) (K : List (List UInt8 × List UInt8)), PairAt X mb wb pb rb es K := by
  obtain ⟨pb, rb, fs1, fs2, es, h3, h4, h5, h6, h7, h8, h9, h10, h11, h12⟩ := h
  have hkept : ∀ W, Below X.heap.size X W → Kept F X W := fun W hW b hb => hW.block b (hF b hb)
  have hR : ∀ W, Below X.heap.size X W → RDrive W F rb fs1 es := fun W hW => (h7.mono (fun b hb => hb.1)).kept (hkept W hW)
  have hP : ∀ W, Below X.heap.size X W → PDrive W F pb fs2 es := fun W hW => (h8.mono (fun b hb => hb.1)).kept (hkept W hW)
  have hG : ∀ W, Below X.heap.size X W → Gates W F wb mb pb rb := fun W hW => h6.kept h4 h3 (hkept W hW)
  have hl2 : fs2.length = fs1.length := by have := congrArg List.length h9; simpa using this
  have hd2 : ∀ f ∈ fs2, f.data.length ≤ 1099511627776 := by
    intro f hf
    have : f.data ∈ fs2.map Fi.data := List.mem_map.2 ⟨f, hf, rfl⟩
    rw [h9] at this
    obtain ⟨g, hg, hgd⟩ := List.mem_map.1 this
    rw [← hgd]
    exact h12 g hg
  have hel : es.length ≤ 1099511627776 := by have := h10.len; omega
  refine ⟨pb, rb, es, tellE es (fs1.map Fi.data), ?_, ?_, by rw [tellE_len]; exact hel, ?_, ?_, ?_, ?_, ?_, ?_, ?_, ?_, ?_, ?_, ?_, ⟨_, rfl⟩⟩
  · intro W hW
    obtain ⟨_, _, _, _, _, _, _, _, _, _, _, _, _, g1, _, _⟩ := hG W hW
    exact g1.cell 0
  · intro W hW
    obtain ⟨_, _, _, _, _, _, _, _, _, _, _, _, _, _, g2, _⟩ := hG W hW
    exact g2.cell 0
  · intro W hW
    obtain ⟨h0, room, u, m1, k1, bl, p1, p2, p3, p4, p5, p6⟩ := hP W hW
    refine (pimage_any pb m1 fs2 es bl h10.ris hel hd2 h10.small W F (p1.cell 2) p4 p6).mono ?_
    rintro e w' ⟨v', fs', he, hf, hk, hb⟩
    obtain ⟨A, c, rfl⟩ := fs_slice hf
    exact ⟨A, _, c, he, Lib.hid ⟨⟨fs', _, by rw [hk, h9], hf⟩, hb⟩⟩
  · intro W hW
    obtain ⟨h0, room, u, m1, k1, bl, p1, p2, p3, p4, p5, p6⟩ := hP W hW
    refine (psafe_any pb k1 fs2 es bl h10.ris hel hd2 h10.small W F (p1.cell 3) p5 p6).mono ?_
    rintro e w' ⟨v', fs', he, hf, hk, hb⟩
    obtain ⟨A, c, rfl⟩ := fs_slice hf
    exact ⟨A, _, c, he, Lib.hid ⟨⟨fs', _, by rw [hk, h9], hf⟩, hb⟩⟩
  · intro W hW
    obtain ⟨h0, room, bv, nv, bs, r1, r2, r3, r4, r5⟩ := hR W hW
    have hbl : bs.length = fs1.length := by have := congrArg List.length r4; simpa using this
    have hbd : ∀ b ∈ bs, b.data.length ≤ 1099511627776 := by
      intro b hb
      have : b.data ∈ bs.map Bd.data := List.mem_map.2 ⟨b, hb, rfl⟩
      rw [r4] at this
      obtain ⟨g, hg, hgd⟩ := List.mem_map.1 this
      rw [← hgd]
      exact h12 g hg
    refine (rimage_any rb bv nv bs es hel hbd (fun e he => by rw [hbl]; exact h10.bod e he) W F (r1 1 _ rfl) (r1 2 _ rfl) r2 r3 r5).mono ?_
    rintro e w' ⟨v', fs', he, hf, hk, hb⟩
    obtain ⟨A, c, rfl⟩ := fs_slice hf
    refine ⟨A, _, c, he, Lib.hid ⟨⟨fs', _, by rw [hk, r4], hf⟩, ?_, hb⟩⟩
    have := congrArg List.length hk
    rw [tellE_len] at this
    simpa using this
  · intro W hW
    obtain ⟨h0, room, bv, nv, bs, r1, r2, r3, r4, r5⟩ := hR W hW
    have hbl : bs.length = fs1.length := by have := congrArg List.length r4; simpa using this
    have hbd : ∀ b ∈ bs, b.data.length ≤ 1099511627776 := by
      intro b hb
      have : b.data ∈ bs.map Bd.data := List.mem_map.2 ⟨b, hb, rfl⟩
      rw [r4] at this
      obtain ⟨g, hg, hgd⟩ := List.mem_map.1 this
      rw [← hgd]
      exact h12 g hg
    refine (rsafe_any rb bv nv bs es hel hbd (fun e he => by rw [hbl]; exact h10.bod e he) W F (r1 1 _ rfl) (r1 3 _ rfl) r2 r3 r5).mono ?_
    rintro e w' ⟨v', fs', he, hf, hk, hb⟩
    obtain ⟨A, c, rfl⟩ := fs_slice hf
    exact ⟨A, _, c, he, Lib.hid ⟨⟨fs', _, by rw [hk, r4], hf⟩, hb⟩⟩
  · intro W hW
    obtain ⟨h0, room, u, m1, k1, bl, p1, p2, p3, p4, p5, p6⟩ := hP W hW
    exact (ppending_any pb none 0 0 W (p1.cell 4)).mono fun _ _ h => ⟨h.1, h.2.symm⟩
  · intro W hW
    obtain ⟨h0, room, bv, nv, bs, r1, r2, r3, r4, r5⟩ := hR W hW
    exact (rpending_any rb none 0 0 W (r1 4 _ rfl)).mono fun _ _ h => ⟨h.1, h.2.symm⟩
  · intro W hW
    obtain ⟨_, _, _, _, _, _, _, _, _, _, _, _, _, g1, _, _⟩ := hG W hW
    exact (pcalls_any wb 0 W (g1.cell 4)).mono fun _ _ h => ⟨h.1, h.2.symm⟩
  · intro W hW
    obtain ⟨_, _, _, _, _, _, _, _, _, _, _, _, _, g1, _, _⟩ := hG W hW
    exact (on_any wb false W (g1.cell 1)).mono fun _ _ h => ⟨h.1, h.2.symm⟩
  · obtain ⟨aw, aw', la, A1, A2, n1, n2, c1, c2, r, k, i, fz, g1, g2, g3⟩ := h6
    have hb1 := g1.lt
    have hb2 := g2.lt
    refine ⟨aw', la, A2, n2, c2, r, k, i, fun W hW => ?_, fun W hW => ?_⟩
    · have g := g2.below hW hb2
      exact ⟨g.cell 1, g.cell 2, g.cell 3, g.cell 4, g.cell 5, g.cell 6, g.cell 7, g.cell 8, g.cell 9⟩
    · have g := g1.below hW hb1
      rcases g3 with ⟨hf, hz⟩ | ⟨f, hf, _, _, _, hc, hla⟩
      · rw [hz]
        subst hf
        exact (struck_no wb W (g.cell 6)).mono fun _ _ h => ⟨h.1, h.2.symm⟩
      · subst hf hla
        exact (struck_yes wb f r W (g.cell 6) (cell_later hW hc)).mono fun _ _ h => ⟨by rw [h.1]; rfl, h.2.symm⟩
  · intro W hW e he
    obtain ⟨h0, room, u, m1, k1, bl, p1, p2, p3, p4, p5, p6⟩ := hP W hW
    exact ploose_yes pb m1 fs2 es bl e h10.ris he (h10.nam e he) W F (p1.cell 2) p4 p6
  · intro W hW e he
    obtain ⟨h0, room, bv, nv, bs, r1, r2, r3, r4, r5⟩ := hR W hW
    have hbl : bs.length = fs1.length := by have := congrArg List.length r4; simpa using this
    exact rloose_yes rb bv nv bs es e.name e.body hel W F (r1 1 _ rfl) (r1 2 _ rfl) r2 r3 (h10.nam e he) (findZ_at h10.ris he) (by rw [hbl]; exact h10.bod e he) r5
theorem gstruck_at (dn aw la : Bool) (A : Option Addr) (n c : Nat) (ca ro r k i : Int) (W : World) : Calls Tryz.prog 38 #[.agg #[.bool dn, .bool aw, .slice A n c, .int .i64 ca, .int .i64 ro, .bool la, .int .i64 r, .int .i64 k, .int .i64 i]] W fun e w' => e = .returned (.bool (la && r == 0)) ∧ Hid (Below W.heap.size W w') :=
  (gstruck_any _ _ _ _ _ _ _ la r W).mono fun _ _ h => ⟨h.1, Lib.hid h.2⟩
set_option maxRecDepth 1000000 in
set_option maxHeartbeats 4000000 in
theorem same_any (dv wv mv : Value) (prs : List (Option Nat × Option Nat)) (hl : prs.length ≤ 1099511627776) (w : World) (F : Nat → Prop) (hF : ∀ b, F b → b < w.heap.size) (hs : Sl w F 1 (fun o => [pV o]) wv (prs.map Prod.snd)) (hm : Sl w F 1 (fun o => [pV o]) mv (prs.map Prod.fst)) (hone : ∀ p ∈ prs, One w F p.1 p.2) :
    Calls Tryz.prog 17 #[.agg #[dv, wv, mv]] w fun e w' => e = .returned (.bool true) ∧ Below w.heap.size w w' := by
  obtain ⟨A1, c1, rfl, hc1⟩ := hs
  obtain ⟨A2, c2, rfl, hc2⟩ := hm
  rw [List.length_map, List.length_map]
  obtain ⟨X, hX⟩ : ∃ X, w.alloc (.cells #[dv, .slice A1 prs.length c1, .slice A2 prs.length c2] 40) = X := ⟨_, rfl⟩
  have hXB : Below w.heap.size w X := by
    subst hX
    exact (Below.refl _ _).alloc (Nat.le_refl _) _
  have hbx : Bk X w.heap.size 40 #[dv, .slice A1 prs.length c1, .slice A2 prs.length c2] := by
    subst hX
    exact Bk.mk_new _ _ _
  have HX := Lib.hid hX
  have HXB := Lib.hid hXB
  have HBX := Lib.hid hbx
  have HBL := Lib.hid hbx.lt
  have HC1 := Lib.hid hc1
  have HC2 := Lib.hid hc2
  have HON := Lib.hid hone
  have HFF := Lib.hid hF
  clear hX hXB hbx hc1 hc2 hone hF
  go_enter Tryz.func17, Tryz.ntmps17
  go_upto_region 1 with fail
  rw [HX.out]
  go_wp2
  go_loopw [3] (fun i wr => ∃ k : Nat, k ≤ prs.length ∧ i = .int .i64 (k : Int) ∧ Below X.heap.size X wr) (fun i _ => prs.length - (intOf i).toNat)
  case atStart => exact ⟨0, by omega, rfl, Below.refl _ _⟩
  case round =>
    obtain ⟨k, hk, rfl, hB⟩ := hrel
    have HB := Lib.hid hB
    have b1 : wr.cell? ⟨w.heap.size, 1, none⟩ = some (.slice A1 prs.length c1) := (HBX.out.below hB HBL.out).cell 1
    have b2 : wr.cell? ⟨w.heap.size, 2, none⟩ = some (.slice A2 prs.length c2) := (HBX.out.below hB HBL.out).cell 2
    by_cases hlt : k < prs.length
    · obtain ⟨p, hp⟩ : ∃ p, prs[k]? = some p := ⟨_, List.getElem?_eq_getElem hlt⟩
      have hps : (prs.map Prod.snd)[k]? = some p.2 := by rw [List.getElem?_map, hp]; rfl
      have hpf : (prs.map Prod.fst)[k]? = some p.1 := by rw [List.getElem?_map, hp]; rfl
      obtain ⟨g1, o1, rfl, _, hs1⟩ := HC1.out (by intro e; rw [e] at hps; simp at hps)
      obtain ⟨g2, o2, rfl, _, hs2⟩ := HC2.out (by intro e; rw [e] at hpf; simp at hpf)
      have d1 : wr.cell? ⟨g1, o1 + k, none⟩ = some (pV p.2) := by
        have := cell_later (HXB.out.trans (hB.mono HXB.out.size)) (hs1 k _ hps 0 _ rfl)
        simpa using this
      have d2 : wr.cell? ⟨g2, o2 + k, none⟩ = some (pV p.1) := by
        have := cell_later (HXB.out.trans (hB.mono HXB.out.size)) (hs2 k _ hpf 0 _ rfl)
        simpa using this
      have hi0 : (0 : Int) ≤ (k : Int) := by omega
      have hi1 : (k : Int) < (prs.length : Int) := by omega
      have hone := HON.out p (List.mem_of_getElem? hp)
      obtain ⟨mo, wo⟩ := p
      simp only at d1 d2 hone
      rcases hone with ⟨h0, h1⟩ | ⟨mb, wb, h0, h1, hpair⟩
      · subst h0 h1
        unfold pV at d1 d2
        simp only [Option.map_none] at d1 d2
        clear hB hp hps hpf hs1 hs2
        go_wp2
        go_roundw
        case rel => exact ⟨k + 1, by omega, by go_num, HB.out⟩
        case measure => simp [intOf]; omega
      · subst h0 h1
        unfold pV at d1 d2
        simp only [Option.map_some] at d1 d2
        obtain ⟨pb, rb, es, K, hP⟩ := (hpair.kept (w' := X) (fun b hb => HXB.out.block b (HFF.out b hb))).at (fun b hb => Nat.lt_of_lt_of_le (HFF.out b hb) HXB.out.size)
        have HP := Lib.hid hP
        have m0 := hP.m0 wr hB
        have w0 := hP.w0 wr hB
        have cRI := hP.rI wr hB
        clear hB hp hps hpf hs1 hs2 hpair hP
        go_upto_region 8 with (go_at_call 28; refine cRI.mono ?_; rintro e Y ⟨Al, nl, cl, rfl, HY⟩)
        have hYB : Below X.heap.size X Y := HB.out.trans (HY.out.2.2.mono HB.out.size)
        have y0 : ∀ W, Below X.heap.size X W → W.cell? ⟨wb, 0, none⟩ = some (.pointer (some ⟨pb, 0, none⟩)) := HP.out.w0
        have y1 : ∀ W, Below X.heap.size X W → W.cell? ⟨mb, 0, none⟩ = some (.pointer (some ⟨rb, 0, none⟩)) := HP.out.m0
        clear m0 w0 cRI d1 d2 b1 b2
        go_cut [74] from 12 to 142 (fun t wx => t = .bool false ∧ Below Y.heap.size Y wx)
        case first =>
          go_region_held3 (fun W => Below X.heap.size X W) (with_reducible (repeat (first | assumption | exact Below.refl _ _ | apply sB_drew | apply sB_alloc)))
            (first
              | (go_at_call 29; refine (Alike.same' (H5.out)).mono ?_; rintro e Y5 ⟨rfl, HE5⟩; have HB5 := HB4.trans (HE5.mono HB4.size))
              | (go_at_call 29; refine (Alike.same' (H2.out)).mono ?_; rintro e Y2 ⟨rfl, HE2⟩; have HB2 := HB1.trans (HE2.mono HB1.size))
              | (go_at_call 30; refine (HP.out.pI _ (sB_drew hYB)).mono ?_; rintro e Y1 ⟨Aa, na, ca, rfl, H1⟩; have HE1 : Below Y.heap.size Y Y1 := (Below.drew (Below.refl _ _)).trans H1.out.2; have HB1 := hYB.trans (HE1.mono hYB.size); have H2 : Hid (Alike Y1 (.slice Aa na ca) (.slice Al nl cl)) := Lib.hid (H1.out.1.alike (HY.out.1.keep HE1) HP.out.len))
              | (go_at_call 31; refine (HP.out.pS _ HB2).mono ?_; rintro e Y3 ⟨Ab, nb, cb, rfl, H3⟩; have HB3 := HB2.trans (H3.out.2.mono HB2.size))
              | (go_at_call 32; refine (HP.out.rS _ HB3).mono ?_; rintro e Y4 ⟨Ac, nc, cc, rfl, H4⟩; have HB4 := HB3.trans (H4.out.2.mono HB3.size); have H5 : Hid (Alike Y4 (.slice Ab nb cb) (.slice Ac nc cc)) := Lib.hid ((H3.out.1.keep H4.out.2).alike H4.out.1 HP.out.len))
              | (go_at_call 33; refine (HP.out.pP _ HB5).mono ?_; rintro e w' ⟨rfl, rfl⟩)
              | (go_at_call 34; refine (HP.out.rP _ HB5).mono ?_; rintro e w' ⟨rfl, rfl⟩))
          all_goals (go_wp2_with fail; go_meet)
          all_goals (
            have t2 := HE1.trans (HE2.mono HE1.size)
            have t3 := t2.trans (H3.out.2.mono t2.size)
            have t4 := t3.trans (H4.out.2.mono t3.size)
            exact ⟨rfl, t4.trans (HE5.mono t4.size)⟩)
        case rest =>
          obtain ⟨rfl, hYw⟩ := hcut
          have HYW := Lib.hid hYw
          have hXw : Below X.heap.size X wc := hYB.trans (hYw.mono hYB.size)
          obtain ⟨aw, la, Ap, np, cp, r, k', i', hg, hst⟩ := HP.out.gate
          obtain ⟨sb, hsb⟩ : ∃ sb, (la && r == 0) = sb := ⟨_, rfl⟩
          rw [hsb] at hst
          have cG := fun W => gstruck_at false aw la Ap np cp 0 0 r k' i' W
          rw [hsb] at cG
          have HST := Lib.hid hst
          have q1 : ∀ W, Below X.heap.size X W → W.cell? ⟨mb, 1, none⟩ = some (.bool false) := fun W h => (hg W h).1
          have q2 : ∀ W, Below X.heap.size X W → W.cell? ⟨mb, 2, none⟩ = some (.bool aw) := fun W h => (hg W h).2.1
          have q3 : ∀ W, Below X.heap.size X W → W.cell? ⟨mb, 3, none⟩ = some (.slice Ap np cp) := fun W h => (hg W h).2.2.1
          have q4 : ∀ W, Below X.heap.size X W → W.cell? ⟨mb, 4, none⟩ = some (.int .i64 0) := fun W h => (hg W h).2.2.2.1
          have q5 : ∀ W, Below X.heap.size X W → W.cell? ⟨mb, 5, none⟩ = some (.int .i64 0) := fun W h => (hg W h).2.2.2.2.1
          have q6 : ∀ W, Below X.heap.size X W → W.cell? ⟨mb, 6, none⟩ = some (.bool la) := fun W h => (hg W h).2.2.2.2.2.1
          have q7 : ∀ W, Below X.heap.size X W → W.cell? ⟨mb, 7, none⟩ = some (.int .i64 r) := fun W h => (hg W h).2.2.2.2.2.2.1
          have q8 : ∀ W, Below X.heap.size X W → W.cell? ⟨mb, 8, none⟩ = some (.int .i64 k') := fun W h => (hg W h).2.2.2.2.2.2.2.1
          have q9 : ∀ W, Below X.heap.size X W → W.cell? ⟨mb, 9, none⟩ = some (.int .i64 i') := fun W h => (hg W h).2.2.2.2.2.2.2.2
          clear hg hst hsb y0 y1 hYw
          go_upto_region 10 with fail
          go_cut [102] from 12 to 142 (fun t wx => t = .bool false ∧ Below Y.heap.size Y wx)
          case first =>
            go_region_held3 (fun W => Below X.heap.size X W) (with_reducible (repeat (first | assumption | exact Below.refl _ _ | apply sB_drew | apply sB_alloc)))
              (first
                | (go_at_call 35; refine (HP.out.pC _ (sB_drew hXw)).mono ?_; rintro e w' ⟨rfl, rfl⟩)
                | (go_at_call 36; refine (HP.out.pO _ (sB_drew hXw)).mono ?_; rintro e w' ⟨rfl, rfl⟩)
                | (go_at_call 37; refine (HST.out _ (sB_drew hXw)).mono ?_; rintro e w' ⟨rfl, rfl⟩)
                | (go_at_call 38; refine (cG _).mono ?_; rintro e w5 ⟨rfl, H5⟩; have hX5 : Below X.heap.size X w5 := (sB_drew hXw).trans (H5.out.mono (sB_drew hXw).size)))
            all_goals (go_wp2_with fail; go_meet)
            all_goals exact ⟨by simp, HYW.out.trans ((Below.drew (Below.refl _ _)).trans (H5.out.mono (by have := HYW.out.size; exact this)))⟩
          case rest =>
            obtain ⟨rfl, hYw⟩ := hcut
            have HYW2 := Lib.hid hYw
            clear hYw hXw q1 q2 q3 q4 q5 q6 q7 q8 q9 cG HST HYW
            go_wp2
            obtain ⟨fl, T, hfk, hfs⟩ := HY.out.1
            obtain ⟨ds, hds⟩ := HP.out.nam
            have hne : nl = es.length := HY.out.2.1
            have hnl : nl ≤ 1099511627776 := by rw [hne, ← tellE_len es ds, ← hds]; exact HP.out.len
            have HFK := Lib.hid (hfk.trans hds)
            obtain ⟨Al', cl', hv, hcl⟩ := hfs.1
            injection hv with hv1 hv2 hv3
            subst hv1 hv3
            have HCL := Lib.hid hcl
            have HNL := Lib.hid hv2
            have HNE := Lib.hid hne
            have HXY := Lib.hid hYB
            clear hfk hds hfs hcl hv2 hne hYB
            obtain ⟨wo, hwo⟩ : ∃ wo : World, wr = wo := ⟨_, rfl⟩
            subst hwo
            go_loopw [7] (fun j wr2 => ∃ q : Nat, q ≤ nl ∧ j = .int .i64 (q : Int) ∧ Below Y.heap.size Y wr2) (fun j _ => nl - (intOf j).toNat)
            case atStart => exact ⟨0, by omega, rfl, HYW2.out⟩
            case round =>
              obtain ⟨q, hq, rfl, hB2⟩ := hrel
              have HB2 := Lib.hid hB2
              by_cases hlt2 : q < nl
              · obtain ⟨e, he⟩ : ∃ e, es[q]? = some e := ⟨_, List.getElem?_eq_getElem (by have := HNE.out; omega)⟩
                obtain ⟨x, hx⟩ : ∃ x, fl[q]? = some x := ⟨_, List.getElem?_eq_getElem (by have := HNL.out; omega)⟩
                have hxe : x.name = e.name := by
                  have h1 : (fl.map Fi.key)[q]? = some x.key := by rw [List.getElem?_map, hx]; rfl
                  rw [HFK.out] at h1
                  unfold tellE at h1
                  rw [List.getElem?_map, he] at h1
                  simp only [Option.map_some, Option.some.injEq] at h1
                  exact nk_inj (congrArg Prod.fst h1).symm
                obtain ⟨gl, ol, rfl, _, hcs⟩ := HCL.out (by intro e; rw [e] at hx; simp at hx)
                have n0 : wr.cell? ⟨gl, ol + q * 2, none⟩ = some (.string e.name) := by rw [← hxe]; exact cell_later hB2 (hcs q x hx 0 _ rfl)
                have hX2 : Below X.heap.size X wr := HXY.out.trans (hB2.mono HXY.out.size)
                have w0 := HP.out.w0 wr hX2
                have hem := List.mem_of_getElem? he
                have cL1 := fun n => HP.out.pL (wr.drewN n) (below_drewN hX2 n) e hem
                have hj0 : (0 : Int) ≤ (q : Int) := by omega
                have hj1 : (q : Int) < (nl : Int) := by omega
                obtain ⟨nm, hnm⟩ : ∃ nm, e.name = nm := ⟨_, rfl⟩
                have HNM := Lib.hid hnm
                rw [hnm] at n0 cL1
                clear he hx hxe hcs hB2 hnm
                go_wp2
                go_upto_region 15 with fail
                go_cut [8, 9] from 103 to 142 (fun a b wx => a = .int .i64 0 ∧ b = .int .i64 0 ∧ Below wr.heap.size wr wx)
                case first =>
                  go_quiet ((go_at_call 39; exact Calls.quiet_of (cL1 _)))
                  go_wp2_with fail
                  go_meet
                  exact ⟨rfl, rfl, below_drewN (Below.refl _ _) _⟩
                case rest =>
                  obtain ⟨rfl, rfl, hwc⟩ := hcut
                  have HWC := Lib.hid hwc
                  have n1 : wc.cell? ⟨gl, ol + q * 2, none⟩ = some (.string nm) := cell_later hwc n0
                  have hX3 : Below X.heap.size X wc := hX2.trans (hwc.mono hX2.size)
                  have m1 := HP.out.m0 wc hX3
                  have cL2 := fun n => HP.out.rL (wc.drewN n) (below_drewN hX3 n) e hem
                  rw [HNM.out] at cL2
                  clear n0 w0 cL1 hwc
                  go_upto_region 16 with fail
                  go_cut [10, 11] from 103 to 142 (fun a b wx => a = .int .i64 0 ∧ b = .int .i64 0 ∧ Below wc.heap.size wc wx)
                  case first =>
                    go_quiet ((go_at_call 40; exact Calls.quiet_of (cL2 _)))
                    go_wp2_with fail
                    go_meet
                    exact ⟨rfl, rfl, below_drewN (Below.refl _ _) _⟩
                  case rest =>
                    obtain ⟨rfl, rfl, hwd⟩ := hcut
                    have t1 := HWC.out.trans (hwd.mono HWC.out.size)
                    have HT := Lib.hid (HB2.out.trans (t1.mono HB2.out.size))
                    clear t1 hwd n1 m1 cL2 hX2 hX3
                    go_wp2
                    go_roundw
                    case rel => exact ⟨q + 1, by omega, by go_num, HT.out⟩
                    case measure => simp [intOf]; omega
              · obtain rfl : q = nl := by omega
                clear hB2
                go_wp2
                go_roundw
                case rel => exact ⟨k + 1, by omega, by go_num, HXY.out.trans (HB2.out.mono HXY.out.size)⟩
                case measure => simp [intOf]; omega
    · obtain rfl : k = prs.length := by omega
      clear hB
      go_wp2
      go_ret
      exact ⟨rfl, HXB.out.trans (HB.out.mono HXB.out.size)⟩
end Go.Proofs.YtiaecfdfjhjgiaaGreat.hp
