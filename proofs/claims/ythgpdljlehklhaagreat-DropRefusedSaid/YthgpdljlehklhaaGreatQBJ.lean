/- Part QBJ of the proof that DropRefused answers true whatever its input. No condition. -/
import Derived.Lib.SlBytesConst
import Derived.Test.YthgpdljlehklhaaGreatQBI
import Derived.Test.YthgpdljlehklhaaGreatQBA
import Derived.Test.YthgpdljlehklhaaGreatQAM
set_option maxRecDepth 100000
namespace Go.Proofs.YthgpdljlehklhaaGreat.wk
open Go Go.Conc zr dr wd drv
set_option linter.unusedVariables false
set_option maxHeartbeats 4000000
section
variable {w w1 w2 u:World}{b:Nat}{V:Value}{K M B e f K2 M2 B2 e2 f2:Int}
theorem set36x (h:u.heap[b]? =some (.cells (df V K M B e f) 52 (0,0))):∃w2,(Instr.storeAt 36 (.pointer (some ⟨b,1,none⟩)) (.agg #[.int .i64 K2,.int .i64 M2,.int .i64 B2])).run GP u= .ok () w2∧w2.heap[b]? =some (.cells (df V K2 M2 B2 e f) 52 (0,0))∧ah [b] u w2∧w2.heap.size=u.heap.size:=by
 obtain ⟨w2,c2,r,h2,s2,i2,j2,K5,z⟩:=ui (P:=GP) (ty:=36) (o:=1) (vs:=#[.int .i64 K2,.int .i64 M2,.int .i64 B2]) (by rw [ek];kernel_rfl) (by simp [Value.oneCell']) (by simp [df]) h;have hs:c2.size=14:=s2;have hc:c2=df V K2 M2 B2 e f:=by
  apply Array.ext_getElem?;intro x;rcases x with _|_|_|_|_|_|_|_|_|_|_|_|_|_|x
  ·exact (j2 0 (.inl (by decide))).trans rfl
  ·exact (i2 0 ae).trans rfl
  ·exact (i2 1 ae).trans rfl
  ·exact (i2 2 ae).trans rfl
  ·exact (j2 4 (.inr ae)).trans rfl
  ·exact (j2 5 (.inr ae)).trans rfl
  ·exact (j2 6 (.inr ae)).trans rfl
  ·exact (j2 7 (.inr ae)).trans rfl
  ·exact (j2 8 (.inr ae)).trans rfl
  ·exact (j2 9 (.inr ae)).trans rfl
  ·exact (j2 10 (.inr ae)).trans rfl
  ·exact (j2 11 (.inr ae)).trans rfl
  ·exact (j2 12 (.inr ae)).trans rfl
  ·exact (j2 13 (.inr ae)).trans rfl
  ·rw [Array.getElem?_eq_none ai,Array.getElem?_eq_none (by simp [df])]
 subst hc;exact ⟨w2,r,h2,K5,z⟩
theorem set39x (h:u.heap[b]? =some (.cells (df V K M B e f) 52 (0,0))):∃w2,(Instr.storeAt 39 (.pointer (some ⟨b,12,none⟩)) (.agg #[.int .i64 e2,.int .i64 f2])).run GP u= .ok () w2∧w2.heap[b]? =some (.cells (df V K M B e2 f2) 52 (0,0))∧ah [b] u w2∧w2.heap.size=u.heap.size:=by
 obtain ⟨w2,c2,r,h2,s2,i2,j2,K5,z⟩:=ui (P:=GP) (ty:=39) (o:=12) (vs:=#[.int .i64 e2,.int .i64 f2]) (by rw [ek];kernel_rfl) (by simp [Value.oneCell']) (by simp [df]) h;have hs:c2.size=14:=s2;have hc:c2=df V K M B e2 f2:=by
  apply Array.ext_getElem?;intro x;rcases x with _|_|_|_|_|_|_|_|_|_|_|_|_|_|x
  ·exact (j2 0 (.inl (by decide))).trans rfl
  ·exact (j2 1 (.inl (by decide))).trans rfl
  ·exact (j2 2 (.inl (by decide))).trans rfl
  ·exact (j2 3 (.inl (by decide))).trans rfl
  ·exact (j2 4 (.inl (by decide))).trans rfl
  ·exact (j2 5 (.inl (by decide))).trans rfl
  ·exact (j2 6 (.inl (by decide))).trans rfl
  ·exact (j2 7 (.inl (by decide))).trans rfl
  ·exact (j2 8 (.inl (by decide))).trans rfl
  ·exact (j2 9 (.inl (by decide))).trans rfl
  ·exact (j2 10 (.inl (by decide))).trans rfl
  ·exact (j2 11 (.inl (by decide))).trans rfl
  ·exact (i2 0 ae).trans rfl
  ·exact (i2 1 ae).trans rfl
  ·rw [Array.getElem?_eq_none ai,Array.getElem?_eq_none (by simp [df])]
 subst hc;exact ⟨w2,r,h2,K5,z⟩
def vq (w:World):Ending→World→Prop:=fun e w2=>(∃v,e= .returned v)∧∃(D W M:Value)(s t lo1 lo2 hi g0 d0 now0 kept0 m0 b0 g1 d1 now1 kept1 m1 b1 g2 d2 now2 kept2 m2 b2:Nat),e= .returned (.agg #[D,W,M,ptr s,ptr t])∧w2.heap[s]? =some (.cells (df D 2 1 16 1 0) 41 (0,0))∧w2.heap[t]? =some (.cells (df M 2 1 16 1 0) 107 (0,0))∧w.heap.size≤s∧
 w2.ownsRow w.heap.size 68 1 D 3 [dk g0,dk g1,dk g2]∧w2.ownsRow w.heap.size 73 1 W 3 [ptr g0,ptr g1,ptr g2]∧w2.ownsRow w.heap.size 75 1 M 3 [ptr m0,ptr m1,ptr m2]∧
 Pl1 w2 w.heap.size lo1 g0 d0 now0 kept0 m0 b0∧Pl1 w2 lo1 lo2 g1 d1 now1 kept1 m1 b1∧Pl1 w2 lo2 hi g2 d2 now2 kept2 m2 b2∧ah [] w w2
theorem ld52 {c:Array Value}{e:TypeId} {z}(h:w.heap[b]? =some (.cells c e z))(hs:c.size=14):(Instr.loadAt 52 (pO b)).run GP w= .ok (.agg c) w:=pg (show GP.underlying 52=some (Tryz.prog.underlying 52).get! by kernel_rfl) du (by rw [ek,hs];kernel_rfl) h
theorem ah2:Calls GP 5 #[.int .i64 2,.int .i64 1] w (vq w):=by
 refine dn 5 34 Tryz.func5 fun a hf hsz hv=> ?_
 unfold vq;obtain ⟨v0,v1,-⟩:=ir hv;clear hv;refine au ?_;refine ad.ib (fun u=>u.heap[w.heap.size]? =some (.cells #[.slice none 0 0,.slice none 0 0,.slice none 0 0,.pointer none,.pointer none] 31 (0,0))∧u.heap[w.heap.size+1]? =some (.cells (df (.slice none 0 0) 0 0 0 0 0) 52 (0,0))∧ah [] w u) ⟨bw bu,fy ae,ei⟩ fun u ⟨h1,h2,K⟩=> ?_
 obtain ⟨b5,hb5⟩:∃b,w.heap.size+1=b:=⟨_,rfl⟩;rw [hb5] at h2;have ge:w.heap.size≤b5:=by omega
 have nb:b5≠w.heap.size:=by omega
 refine kl [0,1,4,5,11,12] fun a1 hsz hK=> ?_;obtain ⟨v0,v1,v4,v5,v11,v12,-⟩:=hK
 try rw [hb5] at v5
 try rw [hb5] at v12
 clear hb5;obtain ⟨x1,r5,h2,K5,-⟩:=set36x (K2:=2) (M2:=1) (B2:=16) h2
 (refine ad.oa rfl rfl rfl bj aj et r5 ?_;refine ay ?_)
 have h1:=K5.on h1 (by simpa using Ne.symm nb);have K:=K.trans K5 (fun b hb=> .inr (by simp at hb;omega));clear r5 K5;refine ad.ak ?_;refine kl [0,1,4,5] fun a1 hsz hK=> ?_;obtain ⟨v0,v1,v4,v5,-⟩:=hK
 refine au ?_;obtain ⟨x2,r5,h2,K5,-⟩:=set39x (e2:=1) (f2:=0) h2
 (refine ad.oa rfl rfl rfl bj aj et r5 ?_;refine ay ?_)
 have h1:=K5.on h1 (by simpa using Ne.symm nb);have K:=K.trans K5 (fun b hb=> .inr (by simp at hb;omega));clear r5 K5;refine ad.ak ?_;refine kl [0,1,4,5] fun a1 hsz hK=> ?_;obtain ⟨v0,v1,v4,v5,-⟩:=hK
 have oV:=World.ownsRow_nil x2 w.heap.size 56 9;refine au ?_;apply ad.loop;have c0:x2.cell? ⟨b5,0,none⟩=some (.slice none 0 0):=af h2 (by simp [df]);refine au ?_;obtain ⟨q0,kc0,x6,r1,cM,fM,h2',oV2,K,KS⟩:=mkP h2 oV K ge ai (j:=1) rfl;have nw:w.heap.size∉blk (.slice none 0 0)++ [b5]:=by
  rw [List.mem_append,not_or];refine ⟨fun hm=> ?_,by simpa using Ne.symm nb⟩;obtain ⟨-,cur,hc⟩:=ew oV _ hm;rw [h1] at hc;cases hc
 have h1:=KS.on h1 nw;have h2:=h2';have oV:=oV2;clear oV2
 (refine ad.app rfl rfl rfl bj aj aj r1 ?_;refine ay ?_)
 clear c0 nw KS h2';refine zls ?_;refine ad.ak ?_;refine kl [0,1,4,5,6] fun a1 hsz hK=> ?_;obtain ⟨v0,v1,v4,v5,v6,-⟩:=hK
 clear r1 cM fM;generalize x6.setCell ⟨b5,0,none⟩ (sO q0 1 kc0)=a2x at*;refine au ?_;apply ad.inLoop;have c0:a2x.cell? ⟨b5,0,none⟩=some (sO q0 1 kc0):=af h2 (by simp [df]);refine au ?_;obtain ⟨q1,kc1,x6,r1,cM,fM,h2',oV2,K,KS⟩:=mkP h2 oV K ge ai (j:=2) rfl;have nw:w.heap.size∉blk (sO q0 1 kc0)++ [b5]:=by
  rw [List.mem_append,not_or];refine ⟨fun hm=> ?_,by simpa using Ne.symm nb⟩;obtain ⟨-,cur,hc⟩:=ew oV _ hm;rw [h1] at hc;cases hc
 have h1:=KS.on h1 nw;have h2:=h2';have oV:=oV2;clear oV2
 (refine ad.app rfl rfl rfl bj aj aj r1 ?_;refine ay ?_)
 clear c0 nw KS h2';refine zls ?_;refine ad.ak ?_;refine kl [0,1,4,5,6] fun a1 hsz hK=> ?_;obtain ⟨v0,v1,v4,v5,v6,-⟩:=hK
 clear r1 cM fM;generalize x6.setCell ⟨b5,0,none⟩ (sO q1 2 kc1)=a3x at*;refine au ?_;apply ad.inLoop;have c0:a3x.cell? ⟨b5,0,none⟩=some (sO q1 2 kc1):=af h2 (by simp [df]);refine au ?_;obtain ⟨q2,kc2,x6,r1,cM,fM,h2',oV2,K,KS⟩:=mkP h2 oV K ge ai (j:=3) rfl;have nw:w.heap.size∉blk (sO q1 2 kc1)++ [b5]:=by
  rw [List.mem_append,not_or];refine ⟨fun hm=> ?_,by simpa using Ne.symm nb⟩;obtain ⟨-,cur,hc⟩:=ew oV _ hm;rw [h1] at hc;cases hc
 have h1:=KS.on h1 nw;have h2:=h2';have oV:=oV2;clear oV2
 (refine ad.app rfl rfl rfl bj aj aj r1 ?_;refine ay ?_)
 clear c0 nw KS h2';refine zls ?_;refine ad.ak ?_;refine kl [0,1,4,5,6] fun a1 hsz hK=> ?_;obtain ⟨v0,v1,v4,v5,v6,-⟩:=hK
 clear r1 cM fM;generalize x6.setCell ⟨b5,0,none⟩ (sO q2 3 kc2)=a4x at*;refine au ?_;apply ad.inLoop;refine au ?_;refine iq (ld52 h2 rfl) ?_;obtain ⟨lq,hq⟩:=aoy (je oV fun b _=>Nat.zero_le b);have su:=K.size;clear oV;refine bt 12 (mkset_ok (cap:=kc2) lq hq) fun v w2 hr=> ?_
 rename World=>y1
 unfold SetQ at hr;obtain ⟨-,D,W,M,s,t,lo1,lo2,hi,g0,d0,now0,kept0,m0,b0,g1,d1,now1,kept1,m1,b1,g2,d2,now2,kept2,m2,b2,hv,hs,ht,ls,oD,oW,oM,P0,P1,P2,K1⟩:=hr;obtain rfl:=bh hv;have h1:=K1.on h1 ae;have K:=K.trans K1 ae;obtain ⟨qD,cD,rfl⟩:=iw oD ai;obtain ⟨qW,cW,rfl⟩:=iw oW ai;obtain ⟨qM,cM,rfl⟩:=iw oM ai;clear K1 hv hq lq;refine kl [4,30] fun a1 hsz hK=> ?_;obtain ⟨v4,v30,-⟩:=hK
 refine au ?_;obtain ⟨y2,r5,h3,K5,-⟩:=st31 (w:=World.alloc y1 (.cells #[.slice none 0 0,.slice none 0 0,.slice none 0 0,.pointer none,.pointer none] 31)) (vs:=#[sO qD 3 cD,sO qW 3 cW,sO qM 3 cM,ptr s,ptr t]) bu rfl rfl (by simp [Value.oneCell',ptr])
 (refine ad.jq rfl rfl rfl bj aj et r5 ?_;refine ay ?_)
 have K5:=(ah.alloc (ah.refl [] _)).trans K5 (T:=[_]) (S:=[]) ae;have h1:=K5.on h1 ae;have hs:=K5.on hs ae;have ht:=K5.on ht ae;have K:=K.trans K5 ae;have oD:=bq oD K5 ae;have oW:=bq oW K5 ae;have oM:=bq oM K5 ae;have P0:=P0.on K5 ef.nil;have P1:=P1.on K5 ef.nil;have P2:=P2.on K5 ef.nil;obtain ⟨b7,hb7⟩:∃b,y1.heap.size=b:=⟨_,rfl⟩;rw [hb7] at h3;clear K5 r5;refine au ?_;refine kl [4,7] fun a1 hsz hK=> ?_;obtain ⟨v4,v7,-⟩:=hK
 try rw [hb7] at v7
 clear hb7;refine iq (ldR31 h3 rfl) ?_;refine au ?_;obtain ⟨y3,r5,h6,K5,-⟩:=st31 (vs:=#[sO qD 3 cD,sO qW 3 cW,sO qM 3 cM,ptr s,ptr t]) h1 rfl rfl (by simp [Value.oneCell',ptr])
 (refine ad.jq rfl rfl rfl bj aj et r5 ?_;refine ay ?_)
 refine au ?_;have hS:=ef.one h1 (by decide);have dD:∀b∈blk (sO qD 3 cD),b∉[w.heap.size]:=fun b hb e=>by
  rw [List.mem_singleton] at e;subst e;obtain ⟨-,cur,hc⟩:=ew oD _ hb;rw [h1] at hc;cases hc
 have lD:∀b∈blk (sO qD 3 cD),w.heap.size≤b:=fun b hb=>Nat.le_trans su (ew oD b hb).1
 have dW:∀b∈blk (sO qW 3 cW),b∉[w.heap.size]:=fun b hb e=>by
  rw [List.mem_singleton] at e;subst e;obtain ⟨-,cur,hc⟩:=ew oW _ hb;rw [h1] at hc;cases hc
 have lW:∀b∈blk (sO qW 3 cW),w.heap.size≤b:=fun b hb=>Nat.le_trans su (ew oW b hb).1
 have dM:∀b∈blk (sO qM 3 cM),b∉[w.heap.size]:=fun b hb e=>by
  rw [List.mem_singleton] at e;subst e;obtain ⟨-,cur,hc⟩:=ew oM _ hb;rw [h1] at hc;cases hc
 have lM:∀b∈blk (sO qM 3 cM),w.heap.size≤b:=fun b hb=>Nat.le_trans su (ew oM b hb).1
 have ns:s∉[w.heap.size]:=fun e=>by
  rw [List.mem_singleton] at e;rw [e,h1] at hs;cases hs
 have nt:t∉[w.heap.size]:=fun e=>by
  rw [List.mem_singleton] at e;rw [e,h1] at ht;cases ht
 (apply ad.aaw rfl hf rfl (hl:=(lvR31 h6 rfl));(case hd=>simp [hsz]);(case hs=>exact et))
 exact ⟨⟨_,rfl⟩,sO qD 3 cD,sO qW 3 cW,sO qM 3 cM,s,t,lo1,lo2,hi,g0,d0,now0,kept0,m0,b0,g1,d1,now1,kept1,m1,b1,g2,d2,now2,kept2,m2,b2,rfl,K5.on hs ns,K5.on ht nt,Nat.le_trans su ls,bq (je oD lD) K5 dD,bq (je oW lW) K5 dW,bq (je oM lM) K5 dM,(P0.wide su).on K5 hS,P1.on K5 hS,P2.on K5 hS,K.trans K5 (fun b hb=> .inr (by simp at hb;omega))⟩
end
end Go.Proofs.YthgpdljlehklhaaGreat.wk
namespace Go.Proofs.YthgpdljlehklhaaGreat.rn
open Go Go.Conc zr dr wd drv wk la
set_option linter.unusedVariables false
set_option maxHeartbeats 4000000
def ny (a b c:Nat):Nat→Nat
 |0=>a
 |1=>b
 |_=>c
section
variable {w w1 w2 u:World}{bd cap s b lo lo1 lo2 hi:Nat}{g0 d0 now0 kept0 m0 b0 g1 d1 now1 kept1 m1 b1 g2 d2 now2 kept2 m2 b2:Nat}{c v:Array Value}{e:TypeId}
theorem Pl1.tp [Bg] {g d now kept m b:Nat}(h:Pl1 w lo hi g d now kept m b)(τ:Tap)(dd:Nat):Pl1 (zr.tp w τ dd) lo hi g d now kept m b:=⟨h.wn,h.dr,h.no,h.ke,h.md,h.mb,h.nk,h.ge,h.lt⟩
theorem abq [Bg]:gz (vq w):=fun e w2 τ dd h=>by
 obtain ⟨h0,D,W,M,s,t,lo1,lo2,hi,g0,d0,now0,kept0,m0,b0,g1,d1,now1,kept1,m1,b1,g2,d2,now2,kept2,m2,b2,hv,hs,ht,ls,oD,oW,oM,P0,P1,P2,K⟩:=h;exact ⟨h0,D,W,M,s,t,lo1,lo2,hi,g0,d0,now0,kept0,m0,b0,g1,d1,now1,kept1,m1,b1,g2,d2,now2,kept2,m2,b2,hv,hs,ht,ls,oD,oW,oM,Pl1.tp P0 τ dd,Pl1.tp P1 τ dd,Pl1.tp P2 τ dd,K.tp τ dd⟩
theorem agh [Bg] {τ:Tap}{dd:Nat}{e:Ending}(h:vq (zr.tp w τ dd) e w2):vq w e w2:=by
 obtain ⟨h0,D,W,M,s,t,lo1,lo2,hi,g0,d0,now0,kept0,m0,b0,g1,d1,now1,kept1,m1,b1,g2,d2,now2,kept2,m2,b2,hv,hs,ht,ls,oD,oW,oM,P0,P1,P2,K⟩:=h;exact ⟨h0,D,W,M,s,t,lo1,lo2,hi,g0,d0,now0,kept0,m0,b0,g1,d1,now1,kept1,m1,b1,g2,d2,now2,kept2,m2,b2,hv,hs,ht,ls,oD,oW,oM,P0,P1,P2,K.un⟩
theorem aid [Bg] {g d now kept m b:Nat}(h:Pl1 u lo hi g d now kept m b):DrE u g d now:=by
 refine ⟨kept,0,⟨0,0,h.wn⟩,⟨h.dr,⟨[],rfl,.inl ⟨rfl,rfl⟩⟩,by simp [blk,Value.ownBlock],h.no,fun e he=>by simp at he,fun e=> ?_⟩,fun e=> ?_,fun e=> ?_,by simp [blk,Value.ownBlock]⟩
 ·have h1:=h.no;have h2:=h.dr;unfold Drv at h2;rw [e,h2] at h1;cases h1
 ·have h1:=h.wn;have h2:=h.dr;unfold Wnd at h1;unfold Drv at h2;rw [e,h2] at h1;cases h1
 ·have h1:=h.wn;have h2:=h.no;unfold Wnd at h1;rw [e,h2] at h1;cases h1
theorem zf [Bg] {g d now kept m b:Nat}(h:Pl1 u lo hi g d now kept m b):∀x∈[g,d,now],lo≤x∧x<hi:=by
 have h1:=h.ge;have h2:=h.lt;intro x hx;simp only [List.mem_cons,List.not_mem_nil,or_false] at hx;rcases hx with rfl|rfl|rfl <;> omega
theorem ac5 [Bg] {g d now kept m b x:Nat}(h:Pl1 u lo hi g d now kept m b){c:Array Value}{e:TypeId}{z:Nat×Nat}(hx:u.heap[x]? =some (.cells c e z))(he:e≠86∧e≠139):x∉[g,d,now]:=by
 simp only [List.mem_cons,List.not_mem_nil,or_false];have h1:=h.wn;have h2:=h.dr;have h3:=h.no;unfold Wnd at h1;unfold Drv at h2;rintro (rfl|rfl|rfl)
 ·rw [h1] at hx;simp only [Option.some.injEq,Obj.cells.injEq] at hx;exact he.1 hx.2.1.symm
 ·rw [h2] at hx;simp only [Option.some.injEq,Obj.cells.injEq] at hx;exact he.2 hx.2.1.symm
 ·rw [h3] at hx;cases hx
theorem fresh_st [Bg] {N qD cD:Nat}(hz:Bg.H0.size≤lo)(oD:u.ownsRow N 68 1 (sO qD 3 cD) 3 [dk g0,dk g1,dk g2])(P0:Pl1 u lo lo1 g0 d0 now0 kept0 m0 b0)(P1:Pl1 u lo1 lo2 g1 d1 now1 kept1 m1 b1)(P2:Pl1 u lo2 hi g2 d2 now2 kept2 m2 b2):
  St u qD (ny g0 g1 g2) (ny d0 d1 d2) (ga (ny g0 g1 g2) (ny d0 d1 d2) (ny now0 now1 now2)) (PE (ny g0 g1 g2) (ny d0 d1 d2) (ny now0 now1 now2)):=by
 have hdr:∀i,i<3→PE (ny g0 g1 g2) (ny d0 d1 d2) (ny now0 now1 now2) i u:=fun i hi=>by
  rcases i with _|_|_|i
  ·exact aid P0
  ·exact aid P1
  ·exact aid P2
  ·omega
 rcases oD.2 with ⟨h0,-⟩|⟨q,cp,cur,hv,-,hq,h1,h2,h3,h4⟩
 ·cases h0
 ·cases hv;have r0:=zf P0;have r1:=zf P1;have r2:=zf P2;have key:∀j v,[dk g0,dk g1,dk g2][j]? =some v→cur[j]? =some v:=fun j v hj=>by
   rw [←h4,List.getElem?_take] at hj;split at hj
   ·simpa using hj
   ·cases hj
  refine ⟨⟨⟨cur,68,(0,0),hq,fun i hi=> ?_⟩,by simp,fun i hi=>by simp [ga],fun i hi=>ve i hi _ (hdr i hi),fun i j hi hj hij x hx hx2=> ?_,fun x hx=> ?_,fun i hi x hx hx2=> ?_⟩,hdr⟩
  ·rcases i with _|_|_|i
   ·exact key 0 _ rfl
   ·exact key 1 _ rfl
   ·exact key 2 _ rfl
   ·omega
  ·have l0:=P0.ge.1;have rr:∀i,i<3→∀x∈ga (ny g0 g1 g2) (ny d0 d1 d2) (ny now0 now1 now2) i,(i=0∧x<lo1)∨(i=1∧lo1≤x∧x<lo2)∨(i=2∧lo2≤x):=fun i hi x hx=>by
    rcases i with _|_|_|i
    ·exact .inl ⟨rfl,(r0 x hx).2⟩
    ·exact .inr (.inl ⟨rfl,r1 x hx⟩)
    ·exact .inr (.inr ⟨rfl,(r2 x hx).1⟩)
    ·omega
   have l1:=P1.ge.1;have l2:=P1.lt.1;have a:=rr i hi x hx;have b:=rr j hj x hx2;omega
  ·rw [List.mem_singleton] at hx;subst hx;refine ⟨⟨_,_,_,hq⟩,fun i hi=> ?_⟩;rcases i with _|_|_|i
   ·exact ac5 P0 hq (by decide)
   ·exact ac5 P1 hq (by decide)
   ·exact ac5 P2 hq (by decide)
   ·omega
  ·have l0:=P0.ge.1;have l1:=P0.lt.1;have l2:=P1.ge.1;have l3:=P1.lt.1;have hx2:x<Bg.H0.size:=hx2;have:lo≤x:=by
    rcases i with _|_|_|i
    ·exact (r0 x hx).1
    ·have:=(r1 x hx).1;omega
    ·have:=(r2 x hx).1;omega
    ·omega
   omega
theorem fresh_sn [Bg] (hs:u.heap[s]? =some (.cells c 41 (0,0)))(P0:Pl1 u lo lo1 g0 d0 now0 kept0 m0 b0)(P1:Pl1 u lo1 lo2 g1 d1 now1 kept1 m1 b1)(P2:Pl1 u lo2 hi g2 d2 now2 kept2 m2 b2):∀i,i<3→s∉ga (ny g0 g1 g2) (ny d0 d1 d2) (ny now0 now1 now2) i:=fun i hi=>by
 rcases i with _|_|_|i
 ·exact ac5 P0 hs (by decide)
 ·exact ac5 P1 hs (by decide)
 ·exact ac5 P2 hs (by decide)
 ·omega
theorem fresh_ge [Bg] (P0:Pl1 u lo lo1 g0 d0 now0 kept0 m0 b0)(P1:Pl1 u lo1 lo2 g1 d1 now1 kept1 m1 b1)(P2:Pl1 u lo2 hi g2 d2 now2 kept2 m2 b2):∀i,i<3→∀x∈ga (ny g0 g1 g2) (ny d0 d1 d2) (ny now0 now1 now2) i,lo≤x:=fun i hi x hx=>by
 have e1:=P0.ge.1;have e2:=P0.lt.1;have e3:=P1.ge.1;have e4:=P1.lt.1;rcases i with _|_|_|i
 ·exact (zf P0 x hx).1
 ·have:=(zf P1 x hx).1;omega
 ·have:=(zf P2 x hx).1;omega
 ·omega
theorem st31U [Bg] {cs vs:Array Value}(h:w.heap[b]? =some (.cells cs e (0,0)))(hs:cs.size=5)(hv:vs.size=5)(h1:vs.all (·.oneCell')=true):∃w2,(∀d,(Instr.storeAt 31 (pO b) (.agg vs)).run GP (w.at d)= .ok () (w2.at d))∧w2.heap[b]? =some (.cells vs e (0,0))∧ah [b] w w2∧w2.heap.size=w.heap.size:=z9 (i31 hv) h1 ai h
def z31:Array Value:=#[.slice none 0 0,.slice none 0 0,.slice none 0 0,.pointer none,.pointer none]
theorem adj [Bg] (e:Ending)(w2:World)(h:vq w e w2):w.heap.size≤w2.heap.size:=by
 obtain ⟨h0,D,W,M,s,t,lo1,lo2,hi,g0,d0,now0,kept0,m0,b0,g1,d1,now1,kept1,m1,b1,g2,d2,now2,kept2,m2,b2,hv,hs,ht,ls,oD,oW,oM,P0,P1,P2,K⟩:=h;exact K.size
theorem ad9 [Bg] (h:Bg.H0.size≤w.heap.size)(o:Obj):cy (w.alloc o)=(cy w).alloc o:=by
 have h2:¬w.heap.size<Bg.H0.size:=by omega
 unfold cy World.alloc;dsimp only;rw [Array.mapIdx_push,dif_neg h2]
theorem ucx_zlt [Bg] {f:FuncId}{args:Array Value}{R:Ending→World→Prop}(h:Bg.H0.size≤w.heap.size→UCx GP Tryz.prog.funcs f args w R):UCx GP Tryz.prog.funcs f args w R:=fun c T hF=>by
 refine h ?_ c T hF;apply Classical.byContradiction;intro hx;have:=(wy hF).2.2.2.zlt w.heap.size (show w.heap.size<Bg.H0.size by omega);omega
set_option maxRecDepth 100000 in
theorem conv_T (w:World)(C:Array Value)(n c:Nat):(do pure (Next.value (←convert 49 49 (sO w.heap.size n c))):Sem Next).runT Tryz.prog (w.alloc (.cells C 5)) #[]=(.ok (.value (sO w.heap.size n c)) (w.alloc (.cells C 5 (C.size,C.size+1))),#[]):=by
 have h1:Tryz.prog.underlying 49=some (.slice 5):=by kernel_rfl
 have h2:Tryz.prog.underlying 5=some (.int .u8):=by kernel_rfl
 have hsh:(w.alloc (.cells C 5)).shape? w.heap.size=some (5,C.size):=by
  unfold World.shape?;rw [show (w.alloc (.cells C 5)).heap[w.heap.size]? =_ from bu]
 have hr:(convert 49 49 (sO w.heap.size n c)).run Tryz.prog (w.alloc (.cells C 5))= .ok (sO w.heap.size n c) (w.alloc (.cells C 5 (C.size,C.size+1))):=Go.Lib.run_convert_bytes_const (P:=Tryz.prog) w 49 5 C n c h1 h2;rw [Sem.runT_eq,Sem.run_bind,hr];congr 1;simp [go_sem,convert,underlying,h1,h2,markStringish,hsh]
theorem vsrow [Bg] {P:Program}{fs:Array Func}{E:VE P fs}{R:Ending→World→Prop}{b:Frame}{a:Act}{k:List Item}{w w1:World}{ops:Array Oper}{i:Nat}{rest:List Nat}{o:Oper}{x y:Operand}{ty:TypeId}{p:Addr}{v:Value}(hk:b.kind= .normal)(ho:ops[i]? =some o)(hop:o.op= .store ty x y)(hm:sq P o=true)(hw:Region.wanted o (yielded ops a.tmps)=true)(hx:a.eval x= .pointer (some p))(hy:a.eval y=v)(hl:∀d,(Instr.storeAt ty (.pointer (some p)) v).run P (w.at d)= .ok () (w1.at d))
  (h:dh E R b (a.put o.dst undef) (.inRegion ops rest::k) w1):dh E R b a (.inRegion ops (i::rest)::k) w:=
 dh.put hk w1 ho hm hw (fun d=>by
  cases o;subst hop;show Sem.run P (do Instr.storeAt ty (a.eval x) (a.eval y);pure Next.skip) (w.at d)=_;rw [hx,hy,Sem.run_bind,hl];rfl) h
theorem vconv [Bg] {E:VE GP Tryz.prog.funcs}{R:Ending→World→Prop}{b:Frame}{a:Act}{k:List Item}{w:World}{ops:Array Oper}{i:Nat}{rest:List Nat}{o:Oper}{x:Operand}{C:Array Value}{n c:Nat}(hz:Bg.H0.size≤w.heap.size)(hk:b.kind= .normal)(ho:ops[i]? =some o)(hop:o.op= .convert 49 49 x)(hw:Region.wanted o (yielded ops a.tmps)=true)(hx:a.eval x=sO w.heap.size n c)
  (h:dh E R b (a.put o.dst (sO w.heap.size n c)) (.inRegion ops rest::k) (w.alloc (.cells C 5 (C.size,C.size+1)))):dh E R b a (.inRegion ops (i::rest)::k) (w.alloc (.cells C 5)):=
 dh.odd hk _ _ ho hw (fun d=>by
  cases o;subst hop;show Sem.runT Tryz.prog (do pure (Next.value (←Go.convert 49 49 (a.eval x)))) (cy ((w.at d).alloc (.cells C 5))) #[]=(_,_);rw [hx];have h3:=conv_T (cy (w.at d)) C n c;rw [ji] at h3;have h4:=ad9 (w:=w.at d) hz (.cells C 5);have h5:=ad9 (w:=w.at d) hz (.cells C 5 (C.size,C.size+1));rw [h4];exact h3.trans (by rw [←h5];rfl)) ae (akv (bb:=w.heap.size) (z:=(0,0)) (z':=(C.size,C.size+1)) bu bu ae fun x hx=>by
   unfold World.alloc
   by_cases hl:x<w.heap.size
   ·rw [Array.getElem?_push_lt hl,Array.getElem?_push_lt hl]
   ·rw [Array.getElem?_eq_none (by simp;omega),Array.getElem?_eq_none (by simp;omega)]) (fun π' ha=>by
   show sO (π'.to w.heap.size) n c=_;rw [show π'.to w.heap.size=w.heap.size from ha _ ae]) h
theorem known_uc [Bg]:UCx GP Tryz.prog.funcs 4 #[] w fun e w2=>(∃v,e= .returned v)∧e= .returned (.bool true)∧ah [] w w2:=by
 refine ucx_zlt fun hz=> ?_
 refine akb 4 (n:=29) (fun e w2 τ dd ⟨h1,h2,h3⟩=>⟨h1,h2,h3.tp τ dd⟩) (fun e w2 h=>h.2.2.size) Tryz.func4 rfl rfl rfl fun E a hsz hv=> ?_
 clear hv;refine rv ?_
 (refine dh.cal 5 _ rfl rfl rfl du bj zag (im 5 a9 _) (mw a9 abq adj (fun τ dd=>(ah2 (w:=tp w τ dd)).mono fun e w2 h=>agh h) fun e w2 h=>h.1) fun v w2 hr=> ?_;refine ay ?_)
 unfold vq at hr;rename World=>y
 obtain ⟨-,D,W,M,s,t,lo1,lo2,hi,g0,d0,now0,kept0,m0,b0,g1,d1,now1,kept1,m1,b1,g2,d2,now2,kept2,m2,b2,hv,hs,ht,ls,oD,oW,oM,P0,P1,P2,K⟩:=hr;obtain rfl:=bh hv;obtain ⟨qD,cD,rfl⟩:=iw oD ai;obtain ⟨qW,cW,rfl⟩:=iw oW ai;obtain ⟨qM,cM,rfl⟩:=iw oM ai;have HS:=fresh_st hz oD P0 P1 P2;have hn:=fresh_sn hs P0 P1 P2;have hge:=fresh_ge P0 P1 P2;have hsb:s≠qD:=fun e=>by
  obtain ⟨-,cur,hc⟩:=ew oD qD (by simp [blk,Value.ownBlock]);rw [←e,hs] at hc;cases hc
 clear P0 P1 P2 oD oW oM ht hv;generalize ny g0 g1 g2=g at*;generalize ny d0 d1 d2=d at*;generalize ny now0 now1 now2=now at*;refine rv ?_;obtain ⟨y1,r5,h1,K5,-⟩:=st31U (w:=World.alloc y (.cells z31 31)) (vs:=#[sO qD 3 cD,sO qW 3 cW,sO qM 3 cM,ptr s,ptr t]) bu rfl rfl (by simp [Value.oneCell',ptr])
 (refine vsrow rfl rfl rfl du bj aj et r5 ?_;refine ay ?_)
 have K5:ah [] y y1:=(ah.alloc (ah.refl [] _)).trans K5 ae;have hs:=K5.on hs ae;have HS1:=HS.onE K5;have K:=K.trans K5 ae;have c3:y1.cell? ⟨y.heap.size,3,none⟩=some (pO s):=af h1 (by simp [ptr]);have l1:=bf h1;have nb1:∀i,i<3→y.heap.size∉ga g d now i:=fun i hi hm=>by
  have:=HS.fl.lt i hi _ hm;omega
 have nsy:s≠y.heap.size:=fun e=>by
  rw [e,h1] at hs;cases hs
 have lsy:s<y1.heap.size:=bf hs;have ly:w.heap.size≤y.heap.size:=by
  have:=K.size;have h2:=HS.fl.lt 0 ai _ (HS.fl.gm 0 ai).1;have h3:=hge 0 ai _ (by simp [ga]:g 0∈ga g d now 0);omega
 clear K5 r5;apply dh.ak;apply dh.seq;apply dh.seq;apply dh.region;refine ru ?_;refine ru ?_;refine ru ?_;refine vconv (n:=5) (c:=5) ai rfl rfl rfl ?_ ?_ ?_
 ·exact dt rfl
 ·exact aj
 refine ay ?_;refine dh.ib (fun u=>(∃z,u.heap[y1.heap.size]? =some (.cells #[.int .u8 104,.int .u8 101,.int .u8 108,.int .u8 108,.int .u8 111] 5 z))∧ah [] y1 u) ⟨⟨_,bu⟩,ei⟩ fun y2 ⟨⟨z,h5⟩,K5⟩=> ?_
 have hs:=K5.on hs ae;have h1:=K5.on h1 ae;have HS2:=HS1.onE K5;have K:=K.trans K5 ae;have l2:y1.heap.size≤y2.heap.size:=K5.size;have e0:=af (i:=0) h5 ae;have e1:=af (i:=1) h5 ae;have e2:=af (i:=2) h5 ae;have e3:=af (i:=3) h5 ae;have e4:=af (i:=4) h5 ae;simp only [List.getElem_toArray,List.getElem_cons_zero,List.getElem_cons_succ] at e0 e1 e2 e3 e4;refine kw [0,1,4,6] fun a1 hsz hK=> ?_;obtain ⟨v0,v1,v4,v6,-⟩:=hK
 have hp:=put_uc (cap:=cD) (dof:=0) (dcap:=5) HS2 hs hn hsb (dp:=y1.heap.size) ai e0 e1 e2 e3 e4 ai
 (refine dh.cal 11 _ rfl rfl rfl du bj zag (im 11 a9 _) hp fun v w2 hr=> ?_;refine ay ?_)
 clear hp e0 e1 e2 e3 e4 h5 c3;rename World=>y3
 obtain ⟨-,hv,⟨x,q,HH,hxq⟩,hs,K6⟩:=hr;obtain rfl:=bh hv;have nft:∀{b:Nat},(∀i,i<3→b∉ga g d now i)→b∉ft3 (ga g d now):=fun hh h=>by
  obtain ⟨i,hi,hm⟩:=xp h;exact hh i hi hm
 have nfh:∀{b:Nat},b<y2.heap.size→(∀i,i<3→b∉ga g d now i)→∀i,i<3→b∉ftH g d now x q i:=fun hl hh i hi hm=>by
  simp only [ftH,List.mem_cons,List.not_mem_nil,or_false] at hm;have h3:=hh i hi;simp only [ga,List.mem_cons,List.not_mem_nil,or_false] at h3;have h4:=hxq i hi;omega
 have hgx:∀b∈ft3 (ftH g d now x q),w.heap.size≤b:=fun b hb=>by
  obtain ⟨i,hi,hm⟩:=xp hb;simp only [ftH,List.mem_cons,List.not_mem_nil,or_false] at hm;have h3:=hge i hi;simp only [ga,List.mem_cons,List.not_mem_nil,or_false] at h3;have h4:=hxq i hi;rcases hm with h|h|h|h|h
  ·exact h3 b (.inl h)
  ·exact h3 b (.inr (.inl h))
  ·exact h3 b (.inr (.inr h))
  ·omega
  ·omega
 have hgE:∀b∈ft3 (ga g d now),w.heap.size≤b:=fun b hb=>by
  obtain ⟨i,hi,hm⟩:=xp hb;exact hge i hi b hm
 have h1:=K6.on h1 (by
  rw [List.mem_cons,not_or];exact ⟨fun e=>nsy e.symm,nft nb1⟩)
 have K:=K.trans K6 (fun b hb=> .inr (by
  rcases List.mem_cons.1 hb with rfl|hb
  ·exact ls
  ·exact hgE b hb))
 have c3:y3.cell? ⟨y.heap.size,3,none⟩=some (pO s):=af h1 (by simp [ptr]);clear hv K6 K5;refine rv ?_
 (refine dh.cal 7 _ rfl rfl rfl du bj zag (im 7 a9 _) (del_ok (cap:=cD) HH hs (nfh ai hn)) fun v w2 hr=> ?_;refine ay ?_)
 clear c3;rename World=>y4
 obtain ⟨-,hv,HS3,K6⟩:=hr;obtain rfl:=bh hv;have hs:=K6.on hs (rq (nfh ai hn));have h1:=K6.on h1 (rq (nfh ai nb1));have K:=K.trans K6 (fun b hb=> .inr (hgx b hb));have c3:y4.cell? ⟨y.heap.size,3,none⟩=some (pO s):=af h1 (by simp [ptr]);clear hv K6;refine rv ?_
 (refine dh.cal 7 _ rfl rfl rfl du bj zag (im 7 a9 _) (del_no (cap:=cD) HS3 hs hn) fun v w2 hr=> ?_;refine ay ?_)
 clear c3;rename World=>y5
 obtain ⟨-,hv,HS4,K6⟩:=hr;obtain rfl:=bh hv;have hs:=K6.on hs (rq hn);have h1:=K6.on h1 (rq nb1);have K:=K.trans K6 (fun b hb=> .inr (hgE b hb));have c3:y5.cell? ⟨y.heap.size,3,none⟩=some (pO s):=af h1 (by simp [ptr]);clear hv K6;refine rv ?_;have hS:∀(u:World)(k:Int),gz fun e (w2:World)=>(∃v,e= .returned v)∧e= .returned (.int .i64 k)∧ah [] u w2:=fun u k e w2 τ dd ⟨h1,h2,h3⟩=>⟨h1,h2,h3.tp τ dd⟩
 have hd1:=mw (f:=7) a9 (hS y5 90) (fun e w2 h=>h.2.2.size) (fun τ dd=>(zm (w:=tp y5 τ dd) (pa:=some ⟨s,0,none⟩) (done:= .chan none) (key:=⟨#[]⟩) (.inr (.inr rfl)) fun u hu=>yg (.inr rfl) (ahs (cap:=cD) (bd:=qD) (hu.on hs ae)) fun u=>rkey_e).mono fun e w2 ⟨h1,h2⟩=>⟨⟨_,h1⟩,h1,h2.un⟩) fun e w2 h=>h.1
 (refine dh.cal 7 _ rfl rfl rfl du bj zag (im 7 a9 _) hd1 fun v w2 hr=> ?_;refine ay ?_)
 clear c3 hd1;rename World=>y6
 obtain ⟨-,hv,K6⟩:=hr;obtain rfl:=bh hv;have K:=K.trans K6 ae;clear hv K6;refine rv ?_;have hd2:=mw (f:=7) a9 (hS y6 1) (fun e w2 h=>h.2.2.size) (fun τ dd=>(zm (w:=tp y6 τ dd) (pa:=none) (done:= .chan none) (key:=kA) (.inl rfl) fun u hu=>agc (.inl rfl) (rset_nil.mono fun e w2 ⟨h1,h2⟩=>⟨h1,by rw [h2];exact ah.refl _ _⟩)).mono fun e w2 ⟨h1,h2⟩=>⟨⟨_,h1⟩,h1,h2.un⟩) fun e w2 h=>h.1
 (refine dh.cal 7 _ rfl rfl rfl du bj zag (im 7 a9 _) hd2 fun v w2 hr=> ?_;refine ay ?_)
 clear hd2;rename World=>y7
 obtain ⟨-,hv,K6⟩:=hr;obtain rfl:=bh hv;have K:=K.trans K6 ae;refine rv ?_;exact dh.dq rfl Tryz.func4 rfl aj (fun π=>rfl) ⟨⟨_,rfl⟩,rfl,K⟩
end
end Go.Proofs.YthgpdljlehklhaaGreat.rn
namespace Go.Proofs.YthgpdljlehklhaaGreat.la
open Go Go.Conc zr dr
set_option linter.unusedVariables false
set_option maxRecDepth 100000 in
/-- Somebody has stopped it: the channel is closed. -/
theorem ah6 {w:World}{c cap s r:Nat}{tm:Bool}(hc:w.heap[c]? =some (.chan cap #[] true s r tm)):Calls GP 42 #[.chan (some c)] w fun e w2=>e= .returned (.bool true)∧w2=w:=by
 refine calls_of_loneTo fun cs=> ?_
 have hf:GP.funcs[42]? =some Tryz.f42:=jd Tryz.func42 rfl (by decide+kernel);have e:Frame.enter GP 42 #[.chan (some c)] .normal=(base 42).at ⟨#[.chan (some c),undef,undef,undef,undef,undef,undef],[]⟩ [.code (Tryz.f42.body.getD .skip)]:=by
  simp [Frame.enter,Frame.at,hf,base,Tryz.f42]
 rw [e];refine LoneTo.goes (n:=50) ?_;simp only [Tryz.f42,Option.getD_some]
 s_c stepG_seq
 s_reg
 s_op
 s_c stepG_region_end
 s_c stepG_seq
 s_reg
 s_op
 s_c stepG_region_end
 s_c stepG_seq
 s_reg
 s_stop
 refine LoneTo.step (step_lone_select_recv_shut (c:=c) (z:= .agg #[]) (stepG_comm (cases:=#[rcase c (.agg #[])]) (blocking:=false) (shape:= .select) (w':=w) rfl rfl (by decide) (by go_simp;rfl)) hc) ?_;rw [Frame.finish_at]
 walk_nrm
 refine LoneTo.goes (n:=50) ?_
 s_op
 s_op
 s_c stepG_region_end
 s_c stepG_block
 s_cond true
 s_c stepG_seq
 s_reg
 s_op
 s_c stepG_region_end
 s_c stepG_ret'
 s_stop
 exact LoneTo.done ⟨.returned (.bool true),_,rfl,⟨rfl,rfl⟩,rfl,rfl,rfl,rfl,_,hf,by simp [results,Tryz.f42,Frame.at]⟩
end Go.Proofs.YthgpdljlehklhaaGreat.la
namespace Go.Proofs.YthgpdljlehklhaaGreat.rn
open Go Go.Conc zr dr wd drv wk la
set_option linter.unusedVariables false
set_option maxHeartbeats 4000000
section
variable {w w1 w2 u:World}{bd cap s b ch:Nat}{D:Value}{capt:Array Value}{fj:FuncId}{key:ByteArray}
theorem vret2 [Bg] {P:Program}{fs:Array Func}{E:VE P fs}{R:Ending→World→Prop}{b:Frame}{a:Act}{k:List Item}{w:World}{fn:Func}{t1 t2:Tmp}{v v2:Value}(hk:b.kind= .normal)(hf:fs[b.fn]? =some fn)(hres:fn.results=#[.tmp t1,.tmp t2])(hv:a.eval (.tmp t1)=v)(hv2:a.eval (.tmp t2)=v2)(hcl:∀π,al π (.tuple #[v,v2])= .tuple #[v,v2])(hR:R (.returned (.tuple #[v,v2])) w):dh E R b a (.code .ret::k) w:=fun hRb hmn hS=>by
 subst hv hv2;exact E.back2 hRb hmn hS hk hf hres hcl hR
def z6 (w:World)(ch:Nat):Prop:=w.heap[ch]? =some (.chan 0 #[] true 0 0 false)
theorem aot [Bg] (hc:z6 w ch):UCx GP Tryz.prog.funcs 38 #[D,.chan (some ch),.func (.func fj) #[] capt,.agg (fc 4 0)] w fun e w2=>(∃v,e= .returned v)∧e= .returned (.tuple #[.slice none 0 0,.int .i64 160])∧ah [] w w2:=by
 refine akb 38 (n:=66) (fun e w2 τ dd ⟨h1,h2,h3⟩=>⟨h1,h2,h3.tp τ dd⟩) (fun e w2 h=>h.2.2.size) Tryz.func38 rfl rfl rfl fun E a hsz hv=> ?_
 obtain ⟨v0,v1,v2,v3,-⟩:=za4 hv;clear hv;simp only [fc] at v3;apply dh.seq;apply dh.region;refine ru ?_;refine ru ?_;refine ru ?_;apply dh.ak;apply dh.seq;apply dh.seq;apply dh.region;refine ru ?_;apply dh.val (v:= .bool false) rfl
 (case ho=>rfl);(case hm=>kernel_rfl);(case hw=>rfl)
 (case hr=>
  intro d;refine ay ?_;dsimp only [execOp];simp+decide only [eval_put,eval_const,size_put,if_true,if_false,v2,hsz];rw [Sem.run_bind,eb.aef];rfl)
 refine ay ?_;refine dh.ib (fun u=>z6 u ch∧ah [] w u) ⟨bw hc,ei⟩ fun u ⟨hc,K⟩=> ?_
 refine kw [1,18] fun a1 hsz hK=> ?_;obtain ⟨v1,v18,-⟩:=hK
 apply dh.ak;apply dh.p9
 ·exact aj
 apply dh.skip;apply dh.seq;apply dh.seq;apply dh.region;refine ru ?_;have hS:gz fun e (w2:World)=>(∃v,e= .returned v)∧e= .returned (.bool true)∧ah [] u w2:=fun e w2 τ dd ⟨h1,h2,h3⟩=>⟨h1,h2,h3.tp τ dd⟩
 (refine dh.cal 42 _ rfl rfl rfl du bj zag (im 42 a9 _) (mw a9 hS (fun e w2 h=>h.2.2.size) (fun τ dd=>(ah6 (w:=tp u τ dd) hc).mono fun e w2 ⟨h1,h2⟩=>⟨⟨_,h1⟩,h1,by rw [h2];exact (ah.refl _ _).tp τ dd⟩) fun e w2 h=>h.1) fun v w2 hr=> ?_;refine ay ?_)
 rename World=>y
 obtain ⟨-,hv,K1⟩:=hr;obtain rfl:=bh hv;have K:=K.trans K1 ae;refine rv ?_;exact vret2 rfl Tryz.func38 rfl aj aj (fun π=>rfl) ⟨⟨_,rfl⟩,rfl,K⟩
theorem an9 [Bg] (hs:w.heap[s]? =some (.cells (df (sO bd 3 cap) 2 1 16 1 0) 41 (0,0)))(hc:z6 w ch)(hk:∀u,Calls GP 53 #[.string key] u fun e w2=>e= .returned (.int .i64 0)∧w2=u):
  UCx GP Tryz.prog.funcs 13 #[pO s,.chan (some ch),.string key] w fun e w2=>(∃v,e= .returned v)∧e= .returned (.tuple #[.agg z60,.slice none 0 0,.int .i64 160])∧ah [] w w2:=by
 refine uu 13 (n:=54) (fun e w2 τ dd ⟨h1,h2,h3⟩=>⟨h1,h2,h3.tp τ dd⟩) (fun e w2 h=>h.2.2.size) Tryz.func13 rfl a9 rfl rfl fun E a hf hsz hv=> ?_
 obtain ⟨v0,v1,v2,-⟩:=za3 hv;clear hv;refine ic ?_;refine cu.ib (fun u=>u.heap[w.heap.size]? =some (.cells #[pO s] 28 (0,0))∧u.heap[w.heap.size+2]? =some (.cells z60 60 (0,0))∧ah [] w u) ⟨bw (bw bu),fy ae,ei⟩ fun u ⟨h3,h6,K⟩=> ?_
 have hs:=K.on hs ae;have hc:z6 u ch:=K.on hc ae;refine ku [1,3,5,6,7,8,14,15] fun a1 hsz hK=> ?_;obtain ⟨v1,v3,v5,v6,v7,v8,v14,v15,-⟩:=hK
 refine ic ?_;have hS:gz fun e (w2:World)=>(∃v,e= .returned v)∧e= .returned (.int .i64 0)∧ah [] u w2:=fun e w2 τ dd ⟨h1,h2,h3⟩=>⟨h1,h2,h3.tp τ dd⟩
 (refine cu.fn 37 _ rfl rfl rfl du bz bj zag (im 37 a9 _) (mw a9 hS (fun e w2 h=>h.2.2.size) (fun τ dd=>(yg (w:=tp u τ dd) (.inl rfl) (aa0 (bd:=bd) (cap:=cap) hs) hk).mono fun e w2 ⟨h1,h2⟩=>⟨⟨_,h1⟩,h1,h2.un⟩) fun e w2 h=>h.1) fun v w2 hr=> ?_;refine ay ?_)
 rename World=>y
 obtain ⟨-,hv,K1⟩:=hr;obtain rfl:=bh hv;have hs:=K1.on hs ae;have h3:=K1.on h3 ae;have h6:=K1.on h6 ae;have hc:z6 y ch:=K1.on hc ae;have K:=K.trans K1 ae;clear hv K1;have cc:=af (i:=0) h3 ae;simp only [List.getElem_toArray,List.getElem_cons_zero] at cc;have c0:y.cell? ⟨s,0,none⟩=some (sO bd 3 cap):=af hs (by simp [df]);refine ic ?_
 (refine cu.fn 38 _ rfl rfl rfl du bz bj zag (im 38 a9 _) (aot (D:=sO bd 3 cap) (fj:=39) (capt:=#[pO w.heap.size,pO (w.heap.size+1)]) hc) fun v w2 hr=> ?_;refine ay ?_)
 rename World=>y0
 obtain ⟨-,hv,K1⟩:=hr;obtain rfl:=bh hv;have h6:=K1.on h6 ae;have K:=K.trans K1 ae;clear K1 hv cc c0;refine ic ?_;obtain ⟨y5,r5,h9,K5,-⟩:=aee (v:=z60) h6 rfl rfl (by simp [z60,Value.oneCell']);unfold z60 at r5
 (refine cu.oa rfl rfl rfl bj aj et r5 ?_;refine ay ?_)
 refine ic ?_
 (apply cu.zl rfl hf rfl (hl:=(ac2 h9 rfl));(case hd=>simp [hsz]);(case hs=>exact et);(case ht=>exact et);(case ht2=>exact et))
 exact ⟨⟨_,rfl⟩,rfl,K.trans K5 (fun b hb=> .inr (by simp at hb;omega))⟩
theorem del_stop [Bg] (hs:w.heap[s]? =some (.cells (df (sO bd 3 cap) 2 1 16 1 0) 41 (0,0)))(hc:z6 w ch)(hk:∀u,Calls GP 53 #[.string key] u fun e w2=>e= .returned (.int .i64 0)∧w2=u):
  UCx GP Tryz.prog.funcs 7 #[pO s,.chan (some ch),.string key] w fun e w2=>(∃v,e= .returned v)∧e= .returned (.int .i64 160)∧ah [] w w2:=by
 refine uu 7 (n:=58) (fun e w2 τ dd ⟨h1,h2,h3⟩=>⟨h1,h2,h3.tp τ dd⟩) (fun e w2 h=>h.2.2.size) Tryz.func7 rfl a9 rfl rfl fun E a hf hsz hv=> ?_
 obtain ⟨v0,v1,v2,-⟩:=za3 hv;clear hv;refine ic ?_;refine cu.ib (fun u=>ah [] w u) (ei) fun u K=> ?_
 have hs:=K.on hs ae;have hc:z6 u ch:=K.on hc ae;refine ku [5,6,12,13,14] fun a1 hsz hK=> ?_;obtain ⟨v5,v6,v12,v13,v14,-⟩:=hK
 refine ic ?_
 (refine cu.fn 13 _ rfl rfl rfl du bz bj zag (im 13 a9 _) (an9 (bd:=bd) (cap:=cap) hs hc hk) fun v w2 hr=> ?_;refine ay ?_)
 rename World=>y
 obtain ⟨-,hv,K1⟩:=hr;obtain rfl:=bh hv;have K:=K.trans K1 ae;clear hv K1;refine ic ?_;obtain ⟨y1,r5,h7,K5,-⟩:=aee (w:=World.alloc y (.cells z60 60)) (v:=z60) bu rfl rfl (by simp [z60,Value.oneCell']);unfold z60 at r5
 (refine cu.oa rfl rfl rfl bj aj et r5 ?_;refine ay ?_)
 have K5:ah [] y y1:=(ah.alloc (ah.refl [] _)).trans K5 ae;have K:=K.trans K5 ae;clear K5 r5;refine ic ?_;exact cu.dq rfl hf rfl bz aj ⟨⟨_,rfl⟩,rfl,K⟩
end
end Go.Proofs.YthgpdljlehklhaaGreat.rn
