/- Part QBF of the proof that DropRefused answers true whatever its input. No condition. -/
import Derived.Test.YthgpdljlehklhaaGreatQBE
import Derived.Test.YthgpdljlehklhaaGreatQBC
set_option maxRecDepth 100000
namespace Go.Proofs.YthgpdljlehklhaaGreat.wk
open Go Go.Conc zr dr wd drv
set_option linter.unusedVariables false
set_option maxHeartbeats 4000000
def pl9:Array Value:=#[.bool true,.int .i64 16777216,.slice none 0 0,.slice none 0 0,.bool false,.bool false,.int .i64 0,.int .i64 0,.int .i64 0]
def z56:Array Value:=#[.bool false,.int .i64 0,.slice none 0 0,.slice none 0 0,.bool false,.bool false,.int .i64 0,.int .i64 0,.int .i64 0]
structure Pl1 (u:World)(lo hi g d now kept m b:Nat):Prop where
 wn:Wnd u g (pO d) false false (.slice none 0 0) 0 0
 dr:Drv u d 16777216 0 now kept (.slice none 0 0)
 no:u.heap[now]? =some (.map #[] 0)
 ke:u.heap[kept]? =some (.map #[] 0)
 md:u.heap[m]? =some (.cells (m80 b) 80 (0,0))
 mb:u.heap[b]? =some (.cells tk 128 (0,0))
 nk:now≠kept
 ge:lo≤g∧lo≤d∧lo≤now∧lo≤kept∧lo≤m∧lo≤b
 lt:g<hi∧d<hi∧now<hi∧kept<hi∧m<hi∧b<hi
section
variable {w w1 w2 u u2:World}{lo hi g d now kept m b b4 i:Nat}{D W M:Value}{gs ms:List Value}{S:List Nat}{c v:Array Value}{e:TypeId}
def ef (u:World)(S:List Nat):Prop:=∀b∈S,∃cur e z,u.heap[b]? =some (.cells cur e z)∧e≠86∧e≠139∧e≠80∧e≠128
theorem ef.not (h:ef u S){o:Obj}(hb:u.heap[b]? =some o)(ho:∀cur e z,o= .cells cur e z→e=86∨e=139∨e=80∨e=128):b∉S:=fun hm=>by
 obtain ⟨cur,e,z,h1,h2,h3,h4,h5⟩:=h b hm;rw [hb] at h1;rcases ho cur e z (Option.some.inj h1) with r|r|r|r <;> contradiction
theorem Pl1.on (h:Pl1 u lo hi g d now kept m b)(hk:ah S u u2)(hS:ef u S):Pl1 u2 lo hi g d now kept m b:=
 ⟨hk.on h.wn (hS.not h.wn fun _ _ _ e=>by cases e;simp),hk.on h.dr (hS.not h.dr fun _ _ _ e=>by cases e;simp),hk.on h.no (hS.not h.no fun _ _ _ e=>by cases e),hk.on h.ke (hS.not h.ke fun _ _ _ e=>by cases e),hk.on h.md (hS.not h.md fun _ _ _ e=>by cases e;simp),hk.on h.mb (hS.not h.mb fun _ _ _ e=>by cases e;simp),h.nk,h.ge,h.lt⟩
theorem ef.nil:ef u []:=fun b hb=>by cases hb
theorem ef.one (h:u.heap[b]? =some (.cells c e (0,0)))(he:e≠86∧e≠139∧e≠80∧e≠128):ef u [b]:=fun x hx=>by
 rw [List.mem_singleton] at hx;subst hx;exact ⟨c,e,_,h,he⟩
theorem ef.own {B s n:Nat}{v:Value}{xs:List Value}(h:u.ownsRow B e s v n xs)(he:e≠86∧e≠139∧e≠80∧e≠128):ef u (blk v):=fun x hx=>by
 obtain ⟨-,cur,hc⟩:=ew h x hx;exact ⟨cur,e,_,hc,he⟩
theorem ju {B s n:Nat}{v:Value}{xs:List Value}{o:Obj}(h:u.ownsRow B e s v n xs)(hb:u.heap[b]? =some o)(ho:∀cur,o≠ .cells cur e (0,0)):b∉blk v:=fun hm=>by
 obtain ⟨-,cur,hc⟩:=ew h b hm;rw [hb] at hc;exact ho cur (Option.some.inj hc)
theorem u56:GP.underlying 56=some (Tryz.prog.underlying 56).get! :=by kernel_rfl
theorem i56 (h:c.size=9):(GP.info? 56).map (·.size)=some c.size:=by rw [ek,h];kernel_rfl
theorem ld56 {o:Nat}(h:w.rangeAt b o pl9.toList):(Instr.loadAt 56 (.pointer (some ⟨b,o,none⟩))).run GP w= .ok (.agg pl9) w:=
 run_loadAt_mid (P:=GP) w b o 56 pl9.toList _ h u56 du (by rw [ek];kernel_rfl)
theorem st56 (h:w.heap[b]? =some (.cells c e (0,0)))(hs:c.size=9)(hv:v.size=9)(h1:v.all (·.oneCell')=true):∃w2,(Instr.storeAt 56 (pO b) (.agg v)).run GP w= .ok () w2∧w2.heap[b]? =some (.cells v e (0,0))∧ah [b] w w2∧w2.heap.size=w.heap.size:=kg (i56 hv) h1 ai h
theorem mkM {iD iW iM:Nat}{ws:List Value}{x:Value}(hb:u.heap[b4]? =some (.cells #[D,W,M] 27 (0,0)))(oD:u.ownsRow w.heap.size 68 1 D iD gs)(oW:u.ownsRow w.heap.size 73 1 W iW ws)(oM:u.ownsRow w.heap.size 75 1 M iM ms)(K:ah [] w u)(ge:w.heap.size≤b4)(h1:x.oneCell'=true)(hi:iM<1000){j:Nat}(hj:j=iM+1):
  ∃q cq w3,(Builtin.append_ #[25,25] 25 #[M,sO u.heap.size 1 1]).run GP (u.alloc (.cells #[x] 75))= .ok (sO q j cq) w3∧w3.cell? ⟨b4,2,none⟩=some M∧w3.frozen? ⟨b4,2,none⟩=false∧(w3.setCell ⟨b4,2,none⟩ (sO q j cq)).heap[b4]? =some (.cells #[D,W,(sO q j cq)] 27 (0,0))∧(w3.setCell ⟨b4,2,none⟩ (sO q j cq)).ownsRow w.heap.size 68 1 D iD gs∧(w3.setCell ⟨b4,2,none⟩ (sO q j cq)).ownsRow w.heap.size 73 1 W iW ws∧(w3.setCell ⟨b4,2,none⟩ (sO q j cq)).ownsRow w.heap.size 75 1 (sO q j cq) j (ms++ [x])∧ah [] w (w3.setCell ⟨b4,2,none⟩ (sO q j cq))∧(ah (blk M++ [b4]) u (w3.setCell ⟨b4,2,none⟩ (sO q j cq))∧ef u (blk M++ [b4]))∧u.heap.size≤(w3.setCell ⟨b4,2,none⟩ (sO q j cq)).heap.size:=by
 have KA:ah [] u (u.alloc (.cells #[x] 75)):=ei;obtain ⟨v',w3,r1,o1,K1,e1⟩:=app25 (w:=u.alloc (.cells #[x] 75)) (v:=M) (je (bq oM KA ae) fun b _=>Nat.zero_le b) (news:=[x]) (m:=1) (c:=1) (a:=⟨u.heap.size,0,none⟩) rfl (jc _ 75 rfl) (by simp [h1]) ai;subst hj;obtain ⟨q,cq,rfl⟩:=iw o1 ai;have bF:=ew oM;have K2:ah (blk M) u w3:=(KA.more ae).trans K1 (fun b hb=> .inl hb);have nb:b4∉blk M:=fun h=>by
  obtain ⟨-,cur,hc⟩:=bF b4 h;rw [hb] at hc;cases hc
 have hb3:=K2.on hb nb;have l1:∀b∈blk (sO q (iM+1) cq),w.heap.size≤b:=fun b hb=>by
  rcases e1 with e1|e1
  ·exact (bF b (e1▸hb)).1
  ·rw [e1,List.mem_singleton] at hb;have:=K.size;simp at hb;omega
 have n1:∀b∈blk (sO q (iM+1) cq),b≠b4:=fun b hb e=>by
  obtain ⟨-,cur,hc⟩:=ew o1 b hb;rw [e,hb3] at hc;cases hc
 have qD:∀b∈blk D,b∉blk M:=fun b hb hm=>by
  obtain ⟨-,cur,hc⟩:=ew oD b hb;obtain ⟨-,cur2,hc2⟩:=bF b hm;rw [hc] at hc2;cases hc2
 have pD:∀b∈blk D,b≠b4:=fun b hb2 e=>by
  obtain ⟨-,cur,hc⟩:=ew oD b hb2;rw [e,hb] at hc;cases hc
 have qW:∀b∈blk W,b∉blk M:=fun b hb hm=>by
  obtain ⟨-,cur,hc⟩:=ew oW b hb;obtain ⟨-,cur2,hc2⟩:=bF b hm;rw [hc] at hc2;cases hc2
 have pW:∀b∈blk W,b≠b4:=fun b hb2 e=>by
  obtain ⟨-,cur,hc⟩:=ew oW b hb2;rw [e,hb] at hc;cases hc
 have K4:ah [b4] w3 (w3.setCell ⟨b4,2,none⟩ (sO q (iM+1) cq)):=ah.set (ah.refl _ _) (.inl ae);have K5:ah (blk M++ [b4]) u (w3.setCell ⟨b4,2,none⟩ (sO q (iM+1) cq)):=(K2.more (by simp;exact fun b h=> .inl h)).trans (K4.more ae) (fun b hb=> .inl hb);refine ⟨q,cq,w3,r1,af hb3 ae,ed hb3,by simpa using ee (i:=2) (v:=sO q (iM+1) cq) hb3,?_,?_,?_,(K.trans K2 (fun b hb=> .inr (bF b hb).1)).trans K4 (fun b hb=> .inr (by simp at hb;omega)),⟨K5,?_⟩,K5.size⟩
 ·exact bq (bq oD K2 qD) K4 (by simpa using pD)
 ·exact bq (bq oW K2 qW) K4 (by simpa using pW)
 ·exact je (bq o1 K4 (by simpa using n1)) l1
 ·intro b hm;rcases List.mem_append.1 hm with hm|hm
  ·exact ef.own oM (by decide) b hm
  ·exact ef.one hb (by decide) b hm
theorem mkW {iD iW iM:Nat}{ws:List Value}{x:Value}(hb:u.heap[b4]? =some (.cells #[D,W,M] 27 (0,0)))(oD:u.ownsRow w.heap.size 68 1 D iD gs)(oW:u.ownsRow w.heap.size 73 1 W iW ws)(oM:u.ownsRow w.heap.size 75 1 M iM ms)(K:ah [] w u)(ge:w.heap.size≤b4)(h1:x.oneCell'=true)(hi:iW<1000){j:Nat}(hj:j=iW+1):
  ∃q cq w3,(Builtin.append_ #[24,24] 24 #[W,sO u.heap.size 1 1]).run GP (u.alloc (.cells #[x] 73))= .ok (sO q j cq) w3∧w3.cell? ⟨b4,1,none⟩=some W∧w3.frozen? ⟨b4,1,none⟩=false∧(w3.setCell ⟨b4,1,none⟩ (sO q j cq)).heap[b4]? =some (.cells #[D,(sO q j cq),M] 27 (0,0))∧(w3.setCell ⟨b4,1,none⟩ (sO q j cq)).ownsRow w.heap.size 68 1 D iD gs∧(w3.setCell ⟨b4,1,none⟩ (sO q j cq)).ownsRow w.heap.size 73 1 (sO q j cq) j (ws++ [x])∧(w3.setCell ⟨b4,1,none⟩ (sO q j cq)).ownsRow w.heap.size 75 1 M iM ms∧ah [] w (w3.setCell ⟨b4,1,none⟩ (sO q j cq))∧(ah (blk W++ [b4]) u (w3.setCell ⟨b4,1,none⟩ (sO q j cq))∧ef u (blk W++ [b4]))∧u.heap.size≤(w3.setCell ⟨b4,1,none⟩ (sO q j cq)).heap.size:=by
 have KA:ah [] u (u.alloc (.cells #[x] 73)):=ei;obtain ⟨v',w3,r1,o1,K1,e1⟩:=app24 (w:=u.alloc (.cells #[x] 73)) (v:=W) (je (bq oW KA ae) fun b _=>Nat.zero_le b) (news:=[x]) (m:=1) (c:=1) (a:=⟨u.heap.size,0,none⟩) rfl (jc _ 73 rfl) (by simp [h1]) ai;subst hj;obtain ⟨q,cq,rfl⟩:=iw o1 ai;have bF:=ew oW;have K2:ah (blk W) u w3:=(KA.more ae).trans K1 (fun b hb=> .inl hb);have nb:b4∉blk W:=fun h=>by
  obtain ⟨-,cur,hc⟩:=bF b4 h;rw [hb] at hc;cases hc
 have hb3:=K2.on hb nb;have l1:∀b∈blk (sO q (iW+1) cq),w.heap.size≤b:=fun b hb=>by
  rcases e1 with e1|e1
  ·exact (bF b (e1▸hb)).1
  ·rw [e1,List.mem_singleton] at hb;have:=K.size;simp at hb;omega
 have n1:∀b∈blk (sO q (iW+1) cq),b≠b4:=fun b hb e=>by
  obtain ⟨-,cur,hc⟩:=ew o1 b hb;rw [e,hb3] at hc;cases hc
 have qD:∀b∈blk D,b∉blk W:=fun b hb hm=>by
  obtain ⟨-,cur,hc⟩:=ew oD b hb;obtain ⟨-,cur2,hc2⟩:=bF b hm;rw [hc] at hc2;cases hc2
 have pD:∀b∈blk D,b≠b4:=fun b hb2 e=>by
  obtain ⟨-,cur,hc⟩:=ew oD b hb2;rw [e,hb] at hc;cases hc
 have qM:∀b∈blk M,b∉blk W:=fun b hb hm=>by
  obtain ⟨-,cur,hc⟩:=ew oM b hb;obtain ⟨-,cur2,hc2⟩:=bF b hm;rw [hc] at hc2;cases hc2
 have pM:∀b∈blk M,b≠b4:=fun b hb2 e=>by
  obtain ⟨-,cur,hc⟩:=ew oM b hb2;rw [e,hb] at hc;cases hc
 have K4:ah [b4] w3 (w3.setCell ⟨b4,1,none⟩ (sO q (iW+1) cq)):=ah.set (ah.refl _ _) (.inl ae);have K5:ah (blk W++ [b4]) u (w3.setCell ⟨b4,1,none⟩ (sO q (iW+1) cq)):=(K2.more (by simp;exact fun b h=> .inl h)).trans (K4.more ae) (fun b hb=> .inl hb);refine ⟨q,cq,w3,r1,af hb3 ae,ed hb3,by simpa using ee (i:=1) (v:=sO q (iW+1) cq) hb3,?_,?_,?_,(K.trans K2 (fun b hb=> .inr (bF b hb).1)).trans K4 (fun b hb=> .inr (by simp at hb;omega)),⟨K5,?_⟩,K5.size⟩
 ·exact bq (bq oD K2 qD) K4 (by simpa using pD)
 ·exact je (bq o1 K4 (by simpa using n1)) l1
 ·exact bq (bq oM K2 qM) K4 (by simpa using pM)
 ·intro b hm;rcases List.mem_append.1 hm with hm|hm
  ·exact ef.own oW (by decide) b hm
  ·exact ef.one hb (by decide) b hm
theorem mkD {iD iW iM:Nat}{ws:List Value}{x:Value}(hb:u.heap[b4]? =some (.cells #[D,W,M] 27 (0,0)))(oD:u.ownsRow w.heap.size 68 1 D iD gs)(oW:u.ownsRow w.heap.size 73 1 W iW ws)(oM:u.ownsRow w.heap.size 75 1 M iM ms)(K:ah [] w u)(ge:w.heap.size≤b4)(h1:x.oneCell'=true)(hi:iD<1000){j:Nat}(hj:j=iD+1):
  ∃q cq w3,(Builtin.append_ #[23,23] 23 #[D,sO u.heap.size 1 1]).run GP (u.alloc (.cells #[x] 68))= .ok (sO q j cq) w3∧w3.cell? ⟨b4,0,none⟩=some D∧w3.frozen? ⟨b4,0,none⟩=false∧(w3.setCell ⟨b4,0,none⟩ (sO q j cq)).heap[b4]? =some (.cells #[(sO q j cq),W,M] 27 (0,0))∧(w3.setCell ⟨b4,0,none⟩ (sO q j cq)).ownsRow w.heap.size 68 1 (sO q j cq) j (gs++ [x])∧(w3.setCell ⟨b4,0,none⟩ (sO q j cq)).ownsRow w.heap.size 73 1 W iW ws∧(w3.setCell ⟨b4,0,none⟩ (sO q j cq)).ownsRow w.heap.size 75 1 M iM ms∧ah [] w (w3.setCell ⟨b4,0,none⟩ (sO q j cq))∧(ah (blk D++ [b4]) u (w3.setCell ⟨b4,0,none⟩ (sO q j cq))∧ef u (blk D++ [b4]))∧u.heap.size≤(w3.setCell ⟨b4,0,none⟩ (sO q j cq)).heap.size:=by
 have KA:ah [] u (u.alloc (.cells #[x] 68)):=ei;obtain ⟨v',w3,r1,o1,K1,e1⟩:=app23 (w:=u.alloc (.cells #[x] 68)) (v:=D) (je (bq oD KA ae) fun b _=>Nat.zero_le b) (news:=[x]) (m:=1) (c:=1) (a:=⟨u.heap.size,0,none⟩) rfl (jc _ 68 rfl) (by simp [h1]) ai;subst hj;obtain ⟨q,cq,rfl⟩:=iw o1 ai;have bF:=ew oD;have K2:ah (blk D) u w3:=(KA.more ae).trans K1 (fun b hb=> .inl hb);have nb:b4∉blk D:=fun h=>by
  obtain ⟨-,cur,hc⟩:=bF b4 h;rw [hb] at hc;cases hc
 have hb3:=K2.on hb nb;have l1:∀b∈blk (sO q (iD+1) cq),w.heap.size≤b:=fun b hb=>by
  rcases e1 with e1|e1
  ·exact (bF b (e1▸hb)).1
  ·rw [e1,List.mem_singleton] at hb;have:=K.size;simp at hb;omega
 have n1:∀b∈blk (sO q (iD+1) cq),b≠b4:=fun b hb e=>by
  obtain ⟨-,cur,hc⟩:=ew o1 b hb;rw [e,hb3] at hc;cases hc
 have qW:∀b∈blk W,b∉blk D:=fun b hb hm=>by
  obtain ⟨-,cur,hc⟩:=ew oW b hb;obtain ⟨-,cur2,hc2⟩:=bF b hm;rw [hc] at hc2;cases hc2
 have pW:∀b∈blk W,b≠b4:=fun b hb2 e=>by
  obtain ⟨-,cur,hc⟩:=ew oW b hb2;rw [e,hb] at hc;cases hc
 have qM:∀b∈blk M,b∉blk D:=fun b hb hm=>by
  obtain ⟨-,cur,hc⟩:=ew oM b hb;obtain ⟨-,cur2,hc2⟩:=bF b hm;rw [hc] at hc2;cases hc2
 have pM:∀b∈blk M,b≠b4:=fun b hb2 e=>by
  obtain ⟨-,cur,hc⟩:=ew oM b hb2;rw [e,hb] at hc;cases hc
 have K4:ah [b4] w3 (w3.setCell ⟨b4,0,none⟩ (sO q (iD+1) cq)):=ah.set (ah.refl _ _) (.inl ae);have K5:ah (blk D++ [b4]) u (w3.setCell ⟨b4,0,none⟩ (sO q (iD+1) cq)):=(K2.more (by simp;exact fun b h=> .inl h)).trans (K4.more ae) (fun b hb=> .inl hb);refine ⟨q,cq,w3,r1,af hb3 ae,ed hb3,by simpa using ee (i:=0) (v:=sO q (iD+1) cq) hb3,?_,?_,?_,(K.trans K2 (fun b hb=> .inr (bF b hb).1)).trans K4 (fun b hb=> .inr (by simp at hb;omega)),⟨K5,?_⟩,K5.size⟩
 ·exact je (bq o1 K4 (by simpa using n1)) l1
 ·exact bq (bq oW K2 qW) K4 (by simpa using pW)
 ·exact bq (bq oM K2 qM) K4 (by simpa using pM)
 ·intro b hm;rcases List.mem_append.1 hm with hm|hm
  ·exact ef.own oD (by decide) b hm
  ·exact ef.one hb (by decide) b hm
end
end Go.Proofs.YthgpdljlehklhaaGreat.wk
