/- Part QBA of the proof that DropRefused answers true whatever its input. No condition. -/
import Derived.Conc.EventLaws
import Derived.Laws.IdiomCopy
import Derived.Test.YthgpdljlehklhaaGreatQAZ
import Derived.Test.YthgpdljlehklhaaGreatQAW
import Derived.Test.YthgpdljlehklhaaGreatQAV
import Derived.Test.YthgpdljlehklhaaGreatQAI
set_option maxRecDepth 100000
namespace Go.Proofs.YthgpdljlehklhaaGreat.wk
open Go Go.Conc zr dr wd drv
set_option linter.unusedVariables false
set_option maxHeartbeats 4000000
section
variable {w w1 w2:World}{g r0 r1 r2 n m c cap cb:Nat}
theorem ajn (w:World):(Instr.makeSlice 101 (.int .i64 3) (.int .i64 3)).run GP w= .ok (sO w.heap.size 3 3) (w.alloc (.cells #[.slice none 0 0,.slice none 0 0,.slice none 0 0] 49)):=by kernel_rfl
theorem sb (w:World):(Instr.makeSlice 49 (.int .i64 3) (.int .i64 3)).run GP w= .ok (sO w.heap.size 3 3) (w.alloc (.cells #[.int .u8 0,.int .u8 0,.int .u8 0] 5)):=by kernel_rfl
structure Prd (w u:World)(ob t0 t1 t2:Nat):Prop where
 ho:u.heap[ob]? =some (.cells #[sO t0 3 3,sO t1 3 3,sO t2 3 3] 49 (0,0))
 b0:B3 u t0
 b1:B3 u t1
 b2:B3 u t2
 le:w.heap.size≤ob∧w.heap.size≤t0∧w.heap.size≤t1∧w.heap.size≤t2
 ne:t0≠t1∧t0≠t2∧t1≠t2∧ob≠t0∧ob≠t1∧ob≠t2
 kp:ah [] w u
theorem als {dg dc d0 d1 o0 o1 e0 e1:Nat}(RR:yf w g r0 r1 r2)(h0:w.cell? ⟨dg,0,none⟩=some (.slice (some ⟨d0,o0,none⟩) 3 e0))(h1:w.cell? ⟨dg,1,none⟩=some (.slice (some ⟨d1,o1,none⟩) 3 e1))(hl:dg<w.heap.size)(D0:R3 w d0 o0)(D1:R3 w d1 o1):Calls GP 89 #[sO g 3 cap,sO dg 2 dc] w fun e w2=>(∃v,e= .returned v)∧∃ob t0 t1 t2,e= .returned (sO ob 3 3)∧Prd w w2 ob t0 t1 t2:=by
 refine dn 89 48 Tryz.func89 fun a hf hsz hv=> ?_
 obtain ⟨v0,v1,-⟩:=ir hv;clear hv;have gl:=RR.gl;have gR0:=bf RR.h0;have gR1:=bf RR.h1;have gR2:=bf RR.h2;refine au ?_
 (apply ad.val rfl;(case ho=>rfl);(case hw=>exact bj);(case hr=>refine zpr ?_;first|(rw [Sem.run_bind,(ajn _)];rfl)|exact (ajn _));refine ay ?_)
 obtain ⟨ob,hob⟩:∃ob,w.heap.size=ob:=⟨_,rfl⟩;rw [hob];refine ad.ib (fun x=>x.heap[ob]? =some (.cells #[.slice none 0 0,.slice none 0 0,.slice none 0 0] 49 (0,0))∧ah [] w x) ⟨fy hob.symm,ei⟩ fun u0 ⟨ho,K⟩=> ?_
 refine au ?_;refine kl [0,1,5,13,14,15] fun a1 hsz hK=> ?_;obtain ⟨v0,v1,v5,v13,v14,v15,-⟩:=hK
 apply ad.loop;have RR0:=RR.on K;have q0:u0.cell? ⟨g,0,none⟩=some (sO r0 2 2):=RR0.c0;have y0:u0.cell? ⟨dg,0,none⟩=some (.slice (some ⟨d0,o0,none⟩) 3 e0):=(K.cell hl ae).trans h0;refine au ?_;refine kl [0,1,5,6,7,13,14,15,20,21,22,23,24,25] fun a1 hsz hK=> ?_;obtain ⟨v0,v1,v5,v6,v7,v13,v14,v15,v20,v21,v22,v23,v24,v25,-⟩:=hK
 (apply ad.val rfl;(case ho=>rfl);(case hw=>exact bj);(case hr=>refine zpr ?_;first|(rw [Sem.run_bind,(sb _)];rfl)|exact (sb _));refine ay ?_)
 have lu:=bf ho;obtain ⟨t0,ht0⟩:∃t,u0.heap.size=t:=⟨_,rfl⟩;rw [ht0] at lu ⊢;have kq:=K.size;refine ad.ib (fun x=>x.heap[ob]? =some (.cells #[.slice none 0 0,.slice none 0 0,.slice none 0 0] 49 (0,0))∧B3 x t0∧ah [] w x) ⟨bw ho,⟨0,0,0,by omega,by omega,by omega,fy ht0.symm⟩,K.alloc⟩ fun x ⟨ho,b0,K⟩=> ?_
 have c0:x.cell? ⟨ob,0,none⟩=some (.slice none 0 0):=af ho ae;have f0:x.frozen? ⟨ob,0,none⟩=false:=ed ho;clear q0 y0;refine ba ?_;have ho:=ee (i:=0) (v:=sO t0 3 3) ho;have K1:=ah.set (i:=0) (v:=sO t0 3 3) (b:=ob) (ah.refl [ob] x) (.inl ae);have b0:=b0.on K1 (by simp;omega);have K:=K.trans K1 (fun b hb=>by simp at hb;exact .inr ai);clear c0 f0 K1;refine kl [0,1,5,6,7,13,14,15,28,29,30] fun a1 hsz hK=> ?_;obtain ⟨v0,v1,v5,v6,v7,v13,v14,v15,v28,v29,v30,-⟩:=hK
 generalize x.setCell ⟨ob,0,none⟩ (sO t0 3 3)=z0 at*;apply ad.loop;have RR0:=RR.on K;have q0:z0.cell? ⟨r0,0,none⟩=some (.int .u8 1):=af RR0.h0 ae;have ho:z0.heap[ob]? =some (.cells #[sO t0 3 3,.slice none 0 0,.slice none 0 0] 49 (0,0)):=by simpa using ho
 have y1:z0.cell? ⟨ob,0,none⟩=some (sO t0 3 3):=af ho ae;have y0:z0.cell? ⟨dg,0,none⟩=some (.slice (some ⟨d0,o0,none⟩) 3 e0):=(K.cell hl ae).trans h0;refine au ?_;refine kl [0,1,5,6,7,8,9,13,14,15,28,29,30] fun a1 hsz hK=> ?_;obtain ⟨v0,v1,v5,v6,v7,v8,v9,v13,v14,v15,v28,v29,v30,-⟩:=hK
 have dj:=(D0.on K ae);have dl:=dj.1;apply ad.kj 10 (fun _ q=>q.cell? ⟨ob,0,none⟩=some (sO t0 3 3)∧q.cell? ⟨dg,0,none⟩=some (.slice (some ⟨d0,o0,none⟩) 3 e0)) eo;intro dd;have hS0:(World.at z0 dd).cell? ⟨ob,0,none⟩=some (sO t0 3 3)∧(World.at z0 dd).cell? ⟨dg,0,none⟩=some (.slice (some ⟨d0,o0,none⟩) 3 e0):=⟨y1,y0⟩;refine cg 0 ?_;refine cg 1 ?_;refine cg 2 ?_;refine cg 3 ?_;refine cg 4 ?_;refine cg 5 ?_;refine cg 6 ?_;refine cg 7 ?_;refine cg 8 ?_;have djl:d0<w.heap.size:=D0.1
 (apply fa.gw 9 (f:=130) a9 rfl;(case hw=>exact bj);(case hc=>exact (add_1 (w:=World.at z0 dd) (t:=t0) (d:=d0) (o:=o0) (e:=e0) b0 dj ai));(case hv=>rw [cw (f:=130) rfl];refine zam ?_;exact ey 130 a9 _ _);(case hret=>exact fun e w2 h=>⟨_,h.1⟩))
 intro v w2 ⟨hv,b0',K1⟩;obtain rfl:=bh hv;have K1:ah [t0] z0 w2:=⟨K1.size,K1.ff,K1.os,K1.out⟩;refine ⟨fun _=>⟨(K1.cell (bf ho) (by simp;omega)).trans y1,(K1.cell (Nat.lt_of_lt_of_le hl K.size) (by simp;omega)).trans y0⟩,?_⟩;refine ay ?_;apply fa.fin a9;have ho:=K1.on ho (by simp;omega);have b0:=b0';have K:=K.trans K1 (fun b hb=>by simp at hb;exact .inr ai);clear hS0 y1 y0 q0 dl dj K1 b0';refine au ?_;refine kl [0,1,5,6,7,13,14,15,28,29,30] fun a1 hsz hK=> ?_;obtain ⟨v0,v1,v5,v6,v7,v13,v14,v15,v28,v29,v30,-⟩:=hK
 rename World=>z1
 apply ad.inLoop;have RR0:=RR.on K;have q0:z1.cell? ⟨r0,1,none⟩=some (.int .u8 0):=af RR0.h0 ae;have ho:z1.heap[ob]? =some (.cells #[sO t0 3 3,.slice none 0 0,.slice none 0 0] 49 (0,0)):=by simpa using ho
 have y1:z1.cell? ⟨ob,0,none⟩=some (sO t0 3 3):=af ho ae;have y0:z1.cell? ⟨dg,1,none⟩=some (.slice (some ⟨d1,o1,none⟩) 3 e1):=(K.cell hl ae).trans h1;refine au ?_;refine kl [0,1,5,6,7,8,9,13,14,15,28,29,30] fun a1 hsz hK=> ?_;obtain ⟨v0,v1,v5,v6,v7,v8,v9,v13,v14,v15,v28,v29,v30,-⟩:=hK
 have dj:=(D1.on K ae);have dl:=dj.1;apply ad.kj 10 (fun _ q=>q.cell? ⟨ob,0,none⟩=some (sO t0 3 3)∧q.cell? ⟨dg,1,none⟩=some (.slice (some ⟨d1,o1,none⟩) 3 e1)) eo;intro dd;have hS0:(World.at z1 dd).cell? ⟨ob,0,none⟩=some (sO t0 3 3)∧(World.at z1 dd).cell? ⟨dg,1,none⟩=some (.slice (some ⟨d1,o1,none⟩) 3 e1):=⟨y1,y0⟩;refine cg 0 ?_;refine cg 1 ?_;refine cg 2 ?_;refine cg 3 ?_;refine cg 4 ?_;refine cg 5 ?_;refine cg 6 ?_;refine cg 7 ?_;refine cg 8 ?_
 (apply fa.gw 9 (f:=130) a9 rfl;(case hw=>exact bj);(case hc=>exact (add_0 (w:=World.at z1 dd) (x:=sO t0 3 3) (y:= .slice (some ⟨d1,o1,none⟩) 3 e1)));(case hv=>rw [cw (f:=130) rfl];refine zam ?_;exact ey 130 a9 _ _);(case hret=>exact fun e w2 h=>⟨_,h.1⟩))
 intro v w2 ⟨hv,e⟩;obtain rfl:=bh hv;subst e;refine ⟨fun _=>hS0,?_⟩;refine ay ?_;apply fa.fin a9;have K:=K.at (d:=dd);have b0:B3 (World.at z1 dd) t0:=b0;have ho:(World.at z1 dd).heap[ob]? =_:=ho;clear hS0 y1 y0 q0 dl dj;refine au ?_;refine kl [0,1,5,6,7,13,14,15,28,29,30] fun a1 hsz hK=> ?_;obtain ⟨v0,v1,v5,v6,v7,v13,v14,v15,v28,v29,v30,-⟩:=hK
 generalize World.at z1 dd=u1 at*;apply ad.inLoop;refine au ?_;refine kl [0,1,5,13,14,15] fun a1 hsz hK=> ?_;obtain ⟨v0,v1,v5,v13,v14,v15,-⟩:=hK
 apply ad.inLoop;have RR1:=RR.on K;have q0:u1.cell? ⟨g,1,none⟩=some (sO r1 2 2):=RR1.c1;have y0:u1.cell? ⟨dg,0,none⟩=some (.slice (some ⟨d0,o0,none⟩) 3 e0):=(K.cell hl ae).trans h0;refine au ?_;refine kl [0,1,5,6,7,13,14,15,20,21,22,23,24,25] fun a1 hsz hK=> ?_;obtain ⟨v0,v1,v5,v6,v7,v13,v14,v15,v20,v21,v22,v23,v24,v25,-⟩:=hK
 (apply ad.val rfl;(case ho=>rfl);(case hw=>exact bj);(case hr=>refine zpr ?_;first|(rw [Sem.run_bind,(sb _)];rfl)|exact (sb _));refine ay ?_)
 have lu:=bf ho;obtain ⟨t1,ht1⟩:∃t,u1.heap.size=t:=⟨_,rfl⟩;rw [ht1] at lu ⊢;have lb0:t0<t1:=by
  obtain ⟨_,_,_,_,_,_,hh⟩:=b0;exact ht1▸bf hh
 have kq:=K.size;refine ad.ib (fun x=>x.heap[ob]? =some (.cells #[sO t0 3 3,.slice none 0 0,.slice none 0 0] 49 (0,0))∧B3 x t1∧B3 x t0∧ah [] w x) ⟨bw ho,⟨0,0,0,by omega,by omega,by omega,fy ht1.symm⟩,b0.on (ah.alloc (ah.refl [] _)) ae,K.alloc⟩ fun x ⟨ho,b1,b0,K⟩=> ?_
 have c0:x.cell? ⟨ob,1,none⟩=some (.slice none 0 0):=af ho ae;have f0:x.frozen? ⟨ob,1,none⟩=false:=ed ho;clear q0 y0;refine ba ?_;have ho:=ee (i:=1) (v:=sO t1 3 3) ho;have K1:=ah.set (i:=1) (v:=sO t1 3 3) (b:=ob) (ah.refl [ob] x) (.inl ae);have b1:=b1.on K1 (by simp;omega);have b0:=b0.on K1 (by simp;omega);have K:=K.trans K1 (fun b hb=>by simp at hb;exact .inr ai);clear c0 f0 K1;refine kl [0,1,5,6,7,13,14,15,28,29,30] fun a1 hsz hK=> ?_;obtain ⟨v0,v1,v5,v6,v7,v13,v14,v15,v28,v29,v30,-⟩:=hK
 generalize x.setCell ⟨ob,1,none⟩ (sO t1 3 3)=z0 at*;apply ad.loop;have RR1:=RR.on K;have q0:z0.cell? ⟨r1,0,none⟩=some (.int .u8 0):=af RR1.h1 ae;have ho:z0.heap[ob]? =some (.cells #[sO t0 3 3,sO t1 3 3,.slice none 0 0] 49 (0,0)):=by simpa using ho
 have y1:z0.cell? ⟨ob,1,none⟩=some (sO t1 3 3):=af ho ae;have y0:z0.cell? ⟨dg,0,none⟩=some (.slice (some ⟨d0,o0,none⟩) 3 e0):=(K.cell hl ae).trans h0;refine au ?_;refine kl [0,1,5,6,7,8,9,13,14,15,28,29,30] fun a1 hsz hK=> ?_;obtain ⟨v0,v1,v5,v6,v7,v8,v9,v13,v14,v15,v28,v29,v30,-⟩:=hK
 have dj:=(D0.on K ae);have dl:=dj.1;apply ad.kj 10 (fun _ q=>q.cell? ⟨ob,1,none⟩=some (sO t1 3 3)∧q.cell? ⟨dg,0,none⟩=some (.slice (some ⟨d0,o0,none⟩) 3 e0)) eo;intro dd;have hS0:(World.at z0 dd).cell? ⟨ob,1,none⟩=some (sO t1 3 3)∧(World.at z0 dd).cell? ⟨dg,0,none⟩=some (.slice (some ⟨d0,o0,none⟩) 3 e0):=⟨y1,y0⟩;refine cg 0 ?_;refine cg 1 ?_;refine cg 2 ?_;refine cg 3 ?_;refine cg 4 ?_;refine cg 5 ?_;refine cg 6 ?_;refine cg 7 ?_;refine cg 8 ?_
 (apply fa.gw 9 (f:=130) a9 rfl;(case hw=>exact bj);(case hc=>exact (add_0 (w:=World.at z0 dd) (x:=sO t1 3 3) (y:= .slice (some ⟨d0,o0,none⟩) 3 e0)));(case hv=>rw [cw (f:=130) rfl];refine zam ?_;exact ey 130 a9 _ _);(case hret=>exact fun e w2 h=>⟨_,h.1⟩))
 intro v w2 ⟨hv,e⟩;obtain rfl:=bh hv;subst e;refine ⟨fun _=>hS0,?_⟩;refine ay ?_;apply fa.fin a9;have K:=K.at (d:=dd);have b0:B3 (World.at z0 dd) t0:=b0;have b1:B3 (World.at z0 dd) t1:=b1;have ho:(World.at z0 dd).heap[ob]? =_:=ho;clear hS0 y1 y0 q0 dl dj;refine au ?_;refine kl [0,1,5,6,7,13,14,15,28,29,30] fun a1 hsz hK=> ?_;obtain ⟨v0,v1,v5,v6,v7,v13,v14,v15,v28,v29,v30,-⟩:=hK
 generalize World.at z0 dd=z1 at*;apply ad.inLoop;have RR1:=RR.on K;have q0:z1.cell? ⟨r1,1,none⟩=some (.int .u8 1):=af RR1.h1 ae;have ho:z1.heap[ob]? =some (.cells #[sO t0 3 3,sO t1 3 3,.slice none 0 0] 49 (0,0)):=by simpa using ho
 have y1:z1.cell? ⟨ob,1,none⟩=some (sO t1 3 3):=af ho ae;have y0:z1.cell? ⟨dg,1,none⟩=some (.slice (some ⟨d1,o1,none⟩) 3 e1):=(K.cell hl ae).trans h1;refine au ?_;refine kl [0,1,5,6,7,8,9,13,14,15,28,29,30] fun a1 hsz hK=> ?_;obtain ⟨v0,v1,v5,v6,v7,v8,v9,v13,v14,v15,v28,v29,v30,-⟩:=hK
 have dj:=(D1.on K ae);have dl:=dj.1;apply ad.kj 10 (fun _ q=>q.cell? ⟨ob,1,none⟩=some (sO t1 3 3)∧q.cell? ⟨dg,1,none⟩=some (.slice (some ⟨d1,o1,none⟩) 3 e1)) eo;intro dd;have hS0:(World.at z1 dd).cell? ⟨ob,1,none⟩=some (sO t1 3 3)∧(World.at z1 dd).cell? ⟨dg,1,none⟩=some (.slice (some ⟨d1,o1,none⟩) 3 e1):=⟨y1,y0⟩;refine cg 0 ?_;refine cg 1 ?_;refine cg 2 ?_;refine cg 3 ?_;refine cg 4 ?_;refine cg 5 ?_;refine cg 6 ?_;refine cg 7 ?_;refine cg 8 ?_;have djl:d1<w.heap.size:=D1.1
 (apply fa.gw 9 (f:=130) a9 rfl;(case hw=>exact bj);(case hc=>exact (add_1 (w:=World.at z1 dd) (t:=t1) (d:=d1) (o:=o1) (e:=e1) b1 dj ai));(case hv=>rw [cw (f:=130) rfl];refine zam ?_;exact ey 130 a9 _ _);(case hret=>exact fun e w2 h=>⟨_,h.1⟩))
 intro v w2 ⟨hv,b1',K1⟩;obtain rfl:=bh hv;have K1:ah [t1] z1 w2:=⟨K1.size,K1.ff,K1.os,K1.out⟩;refine ⟨fun _=>⟨(K1.cell (bf ho) (by simp;omega)).trans y1,(K1.cell (Nat.lt_of_lt_of_le hl K.size) (by simp;omega)).trans y0⟩,?_⟩;refine ay ?_;apply fa.fin a9;have ho:=K1.on ho (by simp;omega);have b1:=b1';have b0:=b0.on K1 (by simp;omega);have K:=K.trans K1 (fun b hb=>by simp at hb;exact .inr ai);clear hS0 y1 y0 q0 dl dj K1 b1';refine au ?_;refine kl [0,1,5,6,7,13,14,15,28,29,30] fun a1 hsz hK=> ?_;obtain ⟨v0,v1,v5,v6,v7,v13,v14,v15,v28,v29,v30,-⟩:=hK
 rename World=>u2
 apply ad.inLoop;refine au ?_;refine kl [0,1,5,13,14,15] fun a1 hsz hK=> ?_;obtain ⟨v0,v1,v5,v13,v14,v15,-⟩:=hK
 apply ad.inLoop;have RR2:=RR.on K;have q0:u2.cell? ⟨g,2,none⟩=some (sO r2 2 2):=RR2.c2;have y0:u2.cell? ⟨dg,0,none⟩=some (.slice (some ⟨d0,o0,none⟩) 3 e0):=(K.cell hl ae).trans h0;refine au ?_;refine kl [0,1,5,6,7,13,14,15,20,21,22,23,24,25] fun a1 hsz hK=> ?_;obtain ⟨v0,v1,v5,v6,v7,v13,v14,v15,v20,v21,v22,v23,v24,v25,-⟩:=hK
 (apply ad.val rfl;(case ho=>rfl);(case hw=>exact bj);(case hr=>refine zpr ?_;first|(rw [Sem.run_bind,(sb _)];rfl)|exact (sb _));refine ay ?_)
 have lu:=bf ho;obtain ⟨t2,ht2⟩:∃t,u2.heap.size=t:=⟨_,rfl⟩;rw [ht2] at lu ⊢;have lb0:t0<t2:=by
  obtain ⟨_,_,_,_,_,_,hh⟩:=b0;exact ht2▸bf hh
 have lb1:t1<t2:=by
  obtain ⟨_,_,_,_,_,_,hh⟩:=b1;exact ht2▸bf hh
 have kq:=K.size;refine ad.ib (fun x=>x.heap[ob]? =some (.cells #[sO t0 3 3,sO t1 3 3,.slice none 0 0] 49 (0,0))∧B3 x t2∧B3 x t0∧B3 x t1∧ah [] w x) ⟨bw ho,⟨0,0,0,by omega,by omega,by omega,fy ht2.symm⟩,b0.on (ah.alloc (ah.refl [] _)) ae,b1.on (ah.alloc (ah.refl [] _)) ae,K.alloc⟩ fun x ⟨ho,b2,b0,b1,K⟩=> ?_
 have c0:x.cell? ⟨ob,2,none⟩=some (.slice none 0 0):=af ho ae;have f0:x.frozen? ⟨ob,2,none⟩=false:=ed ho;clear q0 y0;refine ba ?_;have ho:=ee (i:=2) (v:=sO t2 3 3) ho;have K1:=ah.set (i:=2) (v:=sO t2 3 3) (b:=ob) (ah.refl [ob] x) (.inl ae);have b2:=b2.on K1 (by simp;omega);have b0:=b0.on K1 (by simp;omega);have b1:=b1.on K1 (by simp;omega);have K:=K.trans K1 (fun b hb=>by simp at hb;exact .inr ai);clear c0 f0 K1;refine kl [0,1,5,6,7,13,14,15,28,29,30] fun a1 hsz hK=> ?_;obtain ⟨v0,v1,v5,v6,v7,v13,v14,v15,v28,v29,v30,-⟩:=hK
 generalize x.setCell ⟨ob,2,none⟩ (sO t2 3 3)=z0 at*;apply ad.loop;have RR2:=RR.on K;have q0:z0.cell? ⟨r2,0,none⟩=some (.int .u8 3):=af RR2.h2 ae;have ho:z0.heap[ob]? =some (.cells #[sO t0 3 3,sO t1 3 3,sO t2 3 3] 49 (0,0)):=by simpa using ho
 have y1:z0.cell? ⟨ob,2,none⟩=some (sO t2 3 3):=af ho ae;have y0:z0.cell? ⟨dg,0,none⟩=some (.slice (some ⟨d0,o0,none⟩) 3 e0):=(K.cell hl ae).trans h0;refine au ?_;refine kl [0,1,5,6,7,8,9,13,14,15,28,29,30] fun a1 hsz hK=> ?_;obtain ⟨v0,v1,v5,v6,v7,v8,v9,v13,v14,v15,v28,v29,v30,-⟩:=hK
 have dj:=(D0.on K ae);have dl:=dj.1;apply ad.kj 10 (fun _ q=>q.cell? ⟨ob,2,none⟩=some (sO t2 3 3)∧q.cell? ⟨dg,0,none⟩=some (.slice (some ⟨d0,o0,none⟩) 3 e0)) eo;intro dd;have hS0:(World.at z0 dd).cell? ⟨ob,2,none⟩=some (sO t2 3 3)∧(World.at z0 dd).cell? ⟨dg,0,none⟩=some (.slice (some ⟨d0,o0,none⟩) 3 e0):=⟨y1,y0⟩;refine cg 0 ?_;refine cg 1 ?_;refine cg 2 ?_;refine cg 3 ?_;refine cg 4 ?_;refine cg 5 ?_;refine cg 6 ?_;refine cg 7 ?_;refine cg 8 ?_;have djl:d0<w.heap.size:=D0.1
 (apply fa.gw 9 (f:=130) a9 rfl;(case hw=>exact bj);(case hc=>exact (add_c (w:=World.at z0 dd) (cc:=3) ai (t:=t2) (d:=d0) (o:=o0) (e:=e0) b2 dj ai));(case hv=>rw [cw (f:=130) rfl];refine zam ?_;exact ey 130 a9 _ _);(case hret=>exact fun e w2 h=>⟨_,h.1⟩))
 intro v w2 ⟨hv,b2',K1⟩;obtain rfl:=bh hv;have K1:ah [t2] z0 w2:=⟨K1.size,K1.ff,K1.os,K1.out⟩;refine ⟨fun _=>⟨(K1.cell (bf ho) (by simp;omega)).trans y1,(K1.cell (Nat.lt_of_lt_of_le hl K.size) (by simp;omega)).trans y0⟩,?_⟩;refine ay ?_;apply fa.fin a9;have ho:=K1.on ho (by simp;omega);have b2:=b2';have b0:=b0.on K1 (by simp;omega);have b1:=b1.on K1 (by simp;omega);have K:=K.trans K1 (fun b hb=>by simp at hb;exact .inr ai);clear hS0 y1 y0 q0 dl dj K1 b2';refine au ?_;refine kl [0,1,5,6,7,13,14,15,28,29,30] fun a1 hsz hK=> ?_;obtain ⟨v0,v1,v5,v6,v7,v13,v14,v15,v28,v29,v30,-⟩:=hK
 rename World=>z1
 apply ad.inLoop;have RR2:=RR.on K;have q0:z1.cell? ⟨r2,1,none⟩=some (.int .u8 2):=af RR2.h2 ae;have ho:z1.heap[ob]? =some (.cells #[sO t0 3 3,sO t1 3 3,sO t2 3 3] 49 (0,0)):=by simpa using ho
 have y1:z1.cell? ⟨ob,2,none⟩=some (sO t2 3 3):=af ho ae;have y0:z1.cell? ⟨dg,1,none⟩=some (.slice (some ⟨d1,o1,none⟩) 3 e1):=(K.cell hl ae).trans h1;refine au ?_;refine kl [0,1,5,6,7,8,9,13,14,15,28,29,30] fun a1 hsz hK=> ?_;obtain ⟨v0,v1,v5,v6,v7,v8,v9,v13,v14,v15,v28,v29,v30,-⟩:=hK
 have dj:=(D1.on K ae);have dl:=dj.1;apply ad.kj 10 (fun _ q=>q.cell? ⟨ob,2,none⟩=some (sO t2 3 3)∧q.cell? ⟨dg,1,none⟩=some (.slice (some ⟨d1,o1,none⟩) 3 e1)) eo;intro dd;have hS0:(World.at z1 dd).cell? ⟨ob,2,none⟩=some (sO t2 3 3)∧(World.at z1 dd).cell? ⟨dg,1,none⟩=some (.slice (some ⟨d1,o1,none⟩) 3 e1):=⟨y1,y0⟩;refine cg 0 ?_;refine cg 1 ?_;refine cg 2 ?_;refine cg 3 ?_;refine cg 4 ?_;refine cg 5 ?_;refine cg 6 ?_;refine cg 7 ?_;refine cg 8 ?_;have djl:d1<w.heap.size:=D1.1
 (apply fa.gw 9 (f:=130) a9 rfl;(case hw=>exact bj);(case hc=>exact (add_c (w:=World.at z1 dd) (cc:=2) ai (t:=t2) (d:=d1) (o:=o1) (e:=e1) b2 dj ai));(case hv=>rw [cw (f:=130) rfl];refine zam ?_;exact ey 130 a9 _ _);(case hret=>exact fun e w2 h=>⟨_,h.1⟩))
 intro v w2 ⟨hv,b2',K1⟩;obtain rfl:=bh hv;have K1:ah [t2] z1 w2:=⟨K1.size,K1.ff,K1.os,K1.out⟩;refine ⟨fun _=>⟨(K1.cell (bf ho) (by simp;omega)).trans y1,(K1.cell (Nat.lt_of_lt_of_le hl K.size) (by simp;omega)).trans y0⟩,?_⟩;refine ay ?_;apply fa.fin a9;have ho:=K1.on ho (by simp;omega);have b2:=b2';have b0:=b0.on K1 (by simp;omega);have b1:=b1.on K1 (by simp;omega);have K:=K.trans K1 (fun b hb=>by simp at hb;exact .inr ai);clear hS0 y1 y0 q0 dl dj K1 b2';refine au ?_;refine kl [0,1,5,6,7,13,14,15,28,29,30] fun a1 hsz hK=> ?_;obtain ⟨v0,v1,v5,v6,v7,v13,v14,v15,v28,v29,v30,-⟩:=hK
 rename World=>u3
 apply ad.inLoop;refine au ?_;refine kl [0,1,5,13,14,15] fun a1 hsz hK=> ?_;obtain ⟨v0,v1,v5,v13,v14,v15,-⟩:=hK
 apply ad.inLoop;refine au ?_;exact ad.dq rfl hf rfl bz aj ⟨⟨_,rfl⟩,ob,t0,t1,t2,rfl,ho,b0,b1,b2,⟨by omega,by omega,by omega,by omega⟩,⟨by omega,by omega,by omega,by omega,by omega,by omega⟩,K⟩
end
section
variable {w w1 w2:World}{s bd cap g d now kept k np o m c:Nat}{room used:Int}{pend:Value}{es:Array MapEntry}
theorem aim:Calls GP 54 #[.agg shp,.int .i64 5] w fun e w2=>(∃v,e= .returned v)∧∃g,e= .returned (.tuple #[sO g 1 1,.int .i64 0])∧w2.heap[g]? =some (.cells #[.int .i64 3] 3 (0,0))∧w.heap.size≤g∧ah [] w w2:=by
 refine dn 54 19 Tryz.func54 fun a hf hsz hv=> ?_
 obtain ⟨v0,v1,-⟩:=ir hv;clear hv;have v0':a.eval (.tmp 0)= .agg #[.int .i64 2,.int .i64 1,.int .i64 16]:=v0;clear v0;refine ba ?_;refine bt 82 may_ok fun v w2 hr=> ?_
 obtain ⟨hv,K1⟩:=hr;obtain rfl:=bh hv;have hb:=K1.on (o:= .cells shp 36) (b:=w.heap.size) bu ae;have K1:ah [] w w2:=ah.trans (ei) K1 ae;have l1:(Instr.loadAt 36 (pO w.heap.size)).run GP w2= .ok (.agg shp) w2:=pg (c:=shp) u36 du (by rw [ek];kernel_rfl) hb;refine ba ?_;refine iq l1 ?_;refine ba ?_;refine bt 83 aj0 fun v w2 hr=> ?_
 rename World=>w3
 obtain ⟨hv,K2⟩:=hr;obtain rfl:=bh hv;have hb:=K2.on hb ae;have K2:=K1.trans K2 ae;have l2:(Instr.loadAt 36 (pO w.heap.size)).run GP w3= .ok (.agg shp) w3:=pg (c:=shp) u36 du (by rw [ek];kernel_rfl) hb;refine ba ?_;refine iq l2 ?_;refine ba ?_;refine bt 84 wq fun v w2 hr=> ?_
 obtain ⟨-,g5,hv,G5,l5,K3⟩:=hr;obtain rfl:=bh hv;refine ba ?_;exact ad.qs rfl hf rfl bz aj aj ⟨⟨_,rfl⟩,g5,rfl,G5,Nat.le_trans K2.size l5,K2.trans K3 ae⟩
theorem plook_ok {dd:Addr}{dc:Nat}(h:w.heap[s]? =some (.cells (df (sO bd 3 cap) 2 1 16 1 0) 41 (0,0))):Calls GP 31 #[pO s,.string kA,.slice (some dd) 5 dc] w fun e w2=>e= .returned (.int .i64 0)∧ah [] w w2:=by
 refine dn 31 40 Tryz.func31 fun a hf hsz hv=> ?_
 obtain ⟨v0,v1,v2,-⟩:=za3 hv;clear hv;refine ba ?_;refine bt 52 (aa0 h) fun v w2 hr=> ?_
 obtain ⟨hv,K1⟩:=hr;obtain rfl:=bh hv;have h:=K1.on h ae;refine ba ?_;refine bt 53 rkey_a fun v w2 hr=> ?_
 obtain ⟨hv,e⟩:=hr;obtain rfl:=bh hv;have e:=e.symm;subst e;refine kl [0,2,17] fun a1 hsz hK=> ?_;obtain ⟨v0,v2,v17,-⟩:=hK
 refine ba ?_;refine iq (oq h) ?_;refine ba ?_;refine bt 54 aim fun v w2 hr=> ?_
 obtain ⟨-,g5,hv,G5,l5,K2⟩:=hr;obtain rfl:=bh hv;have h:=K2.on h ae;rename World=>w3
 have c13:w3.cell? ⟨s,13,none⟩=some (.int .i64 0):=af h (by simp [df]);refine ba ?_;exact ad.dq rfl hf rfl bz aj ⟨rfl,K1.trans K2 ae⟩
theorem anz (h:w.heap[s]? =some (.cells (df (sO bd 3 cap) 2 1 16 1 1) 41 (0,0))):Calls GP 37 #[pO s,.string kA] w fun e w2=>e= .returned (.int .i64 0)∧ah [] w w2:=by
 refine dn 37 13 Tryz.func37 fun a hf hsz hv=> ?_
 obtain ⟨v0,v1,-⟩:=ir hv;clear hv;refine ba ?_;refine bt 52 (ahs h) fun v w2 hr=> ?_
 obtain ⟨hv,K1⟩:=hr;obtain rfl:=bh hv;refine ba ?_;refine bt 53 rkey_a fun v w2 hr=> ?_
 obtain ⟨hv,e⟩:=hr;obtain rfl:=bh hv;have e:=e.symm;subst e;refine ba ?_;exact ad.dq rfl hf rfl bz aj ⟨rfl,K1⟩
theorem af8 {o:Nat}(h:w.heap[o]? =some (.cells #[.int .i64 0,.int .i64 0,.int .i64 0] 33 (0,0))):Calls GP 17 #[sO o 3 3,.int .i64 122] w fun e w2=>e= .returned (.int .i64 0)∧w2=w:=by
 refine dn 17 21 Tryz.func17 fun a hf hsz hv=> ?_
 obtain ⟨v0,v1,-⟩:=ir hv;clear hv;have c0:w.cell? ⟨o,0,none⟩=some (.int .i64 0):=af h ae;have c1:w.cell? ⟨o,1,none⟩=some (.int .i64 0):=af h ae;have c2:w.cell? ⟨o,2,none⟩=some (.int .i64 0):=af h ae;refine ba ?_;apply ad.loop;refine ba ?_;apply ad.inLoop;refine kl [1,5,8,9,10] fun a1 hsz hK=> ?_;obtain ⟨v1,v5,v8,v9,v10,-⟩:=hK
 refine ba ?_;apply ad.inLoop;refine kl [1,5,8,9,10] fun a1 hsz hK=> ?_;obtain ⟨v1,v5,v8,v9,v10,-⟩:=hK
 refine ba ?_;apply ad.inLoop;refine ba ?_;exact ad.dq rfl hf rfl bz aj ⟨rfl,rfl⟩
theorem aki {o:Nat}(h:w.heap[o]? =some (.cells #[.int .i64 0,.int .i64 0,.int .i64 0] 33 (0,0))):Calls GP 17 #[sO o 3 3,.int .i64 0] w fun e w2=>e= .returned (.int .i64 3)∧w2=w:=by
 refine dn 17 21 Tryz.func17 fun a hf hsz hv=> ?_
 obtain ⟨v0,v1,-⟩:=ir hv;clear hv;have c0:w.cell? ⟨o,0,none⟩=some (.int .i64 0):=af h ae;have c1:w.cell? ⟨o,1,none⟩=some (.int .i64 0):=af h ae;have c2:w.cell? ⟨o,2,none⟩=some (.int .i64 0):=af h ae;refine ba ?_;apply ad.loop;refine ba ?_;apply ad.inLoop;refine kl [1,5,8,9,10] fun a1 hsz hK=> ?_;obtain ⟨v1,v5,v8,v9,v10,-⟩:=hK
 refine ba ?_;apply ad.inLoop;refine kl [1,5,8,9,10] fun a1 hsz hK=> ?_;obtain ⟨v1,v5,v8,v9,v10,-⟩:=hK
 refine ba ?_;apply ad.inLoop;refine ba ?_;exact ad.dq rfl hf rfl bz aj ⟨rfl,rfl⟩
theorem mkch72 (w:World):(Instr.makeChan 72 (.int .i64 0)).run GP w= .ok (.chan (some w.heap.size)) (w.alloc (.chan 0 #[] false 0 0 false)):=by
 unfold Instr.makeChan
 go_simp
theorem aoa:({(w.alloc (.chan 0 #[] false 0 0 false)) with heap:=(w.alloc (.chan 0 #[] false 0 0 false)).heap.setIfInBounds w.heap.size (.chan 0 #[] true 0 0 false)}:World).heap[w.heap.size]? =some (.chan 0 #[] true 0 0 false):=pe (w:=w.alloc (.chan 0 #[] false 0 0 false)) ae
theorem ah.closed:ah [] w ({(w.alloc (.chan 0 #[] false 0 0 false)) with heap:=(w.alloc (.chan 0 #[] false 0 0 false)).heap.setIfInBounds w.heap.size (.chan 0 #[] true 0 0 false)}:World):=ah.obj (ah.alloc (ah.refl [] w)) (.inr (Nat.le_refl _))
theorem an5:Calls GP 8 #[.bool true] w fun e w2=>e= .returned (.chan (some w.heap.size))∧w2.heap[w.heap.size]? =some (.chan 0 #[] true 0 0 false)∧ah [] w w2:=by
 refine dn 8 8 Tryz.func8 fun a hf hsz hv=> ?_
 obtain ⟨v0,-⟩:=ie hv;clear hv;apply ad.seq;apply ad.region;refine zls ?_;apply ad.ak;apply ad.seq;apply ad.region
 (apply ad.val rfl;(case ho=>rfl);(case hw=>exact bj);(case hr=>refine zpr ?_;first|(rw [Sem.run_bind,(mkch72 _)];rfl)|exact (mkch72 _));refine ay ?_)
 refine ba ?_;have hc:=run_close_open (P:=GP) (w:=w.alloc (.chan 0 #[] false 0 0 false)) #[72] 0 (bu (w:=w) (o:= .chan 0 #[] false 0 0 false));refine ad.bi1 (run:=Builtin.close_) rfl rfl rfl ?_ (fun _ _ _ _=>rfl) ?_ hc ?_
 focus (exact bj)
 focus (exact aj)
 refine ay ?_;refine ba ?_;exact ad.dq rfl hf rfl bz aj ⟨rfl,aoa,ah.closed⟩
theorem yd {g:Nat}{dp plan:Value}{down away:Bool}{calls round:Int}(h:Wnd w g dp down away plan calls round):Calls GP 18 #[pO g] w fun e w2=>e= .returned (.int .i64 calls)∧w2=w:=by
 refine dn 18 9 Tryz.func18 fun a hf hsz hv=> ?_
 obtain ⟨v0,-⟩:=ie hv;clear hv;have c4:=Wnd_4 h;refine ba ?_;exact ad.dq rfl hf rfl bz aj ⟨rfl,rfl⟩
theorem won_ok {g:Nat}{dp plan:Value}{away:Bool}{calls round:Int}(h:Wnd w g dp false away plan calls round):Calls GP 26 #[pO g] w fun e w2=>e= .returned (.bool true)∧w2=w:=by
 refine dn 26 12 Tryz.func26 fun a hf hsz hv=> ?_
 obtain ⟨v0,-⟩:=ie hv;clear hv;have c1:=h.c1;refine ba ?_;exact ad.dq rfl hf rfl bz aj ⟨rfl,rfl⟩
theorem dpend_ok {d:Nat}{room used:Int}{now kept:Nat}(h:Drv w d room used now kept (.slice none 0 0)):Calls GP 24 #[pO d] w fun e w2=>e= .returned (.int .i64 0)∧w2=w:=by
 refine dn 24 10 Tryz.func24 fun a hf hsz hv=> ?_
 obtain ⟨v0,-⟩:=ie hv;clear hv;have c4:=h.c4;refine ba ?_;exact ad.dq rfl hf rfl bz aj ⟨rfl,rfl⟩
end
section
variable {w w1 w2:World}{g r0 r1 r2 n m c cap cb bb p k:Nat}{x y:Nat→Array Value}{v:Value}{S:List Nat}
theorem ai4 {dg dc d0 d1 o0 o1 e0 e1:Nat}(hc:w.heap[cb]? =some (.cells #[.int .i64 2,.int .i64 3,sO g 3 cap] 207 (0,0)))(RR:yf w g r0 r1 r2)(h0:w.cell? ⟨dg,0,none⟩=some (.slice (some ⟨d0,o0,none⟩) 3 e0))(h1:w.cell? ⟨dg,1,none⟩=some (.slice (some ⟨d1,o1,none⟩) 3 e1))(hl:dg<w.heap.size)(D0:R3 w d0 o0)(D1:R3 w d1 o1):Calls GP 58 #[pO cb,sO dg 2 dc] w fun e w2=>(∃v,e= .returned v)∧∃ob t0 t1 t2,e= .returned (.tuple #[sO ob 3 3,.int .i64 0])∧Prd w w2 ob t0 t1 t2:=by
 refine dn 58 38 Tryz.func58 fun a hf hsz hv=> ?_
 obtain ⟨v0,v1,-⟩:=ir hv;clear hv;have c0:w.cell? ⟨cb,0,none⟩=some (.int .i64 2):=af hc ae;have c2:w.cell? ⟨cb,2,none⟩=some (sO g 3 cap):=af hc ae;refine au ?_;refine bt 87 (none_ok hc) fun v w2 hr=> ?_
 obtain ⟨hv,e⟩:=hr;obtain rfl:=bh hv;have e:=e.symm;subst e;refine au ?_;refine bt 88 (even_ok (dc:=dc) h0 h1) fun v w2 hr=> ?_
 obtain ⟨hv,e⟩:=hr;obtain rfl:=bh hv;have e:=e.symm;subst e;refine au ?_;refine bt 89 (als (cap:=cap) (dc:=dc) RR h0 h1 hl D0 D1) fun v w2 hr=> ?_
 obtain ⟨-,ob,t0,t1,t2,hv,P⟩:=hr;obtain rfl:=bh hv;refine au ?_;exact ad.qs rfl hf rfl bz aj aj ⟨⟨_,rfl⟩,ob,t0,t1,t2,rfl,P⟩
def Shs (u:World)(bb:Nat)(x:Nat→Array Value):Prop:=∃c,u.heap[bb]? =some (.cells c 103 (0,0))∧c.size=51∧∀p,p<3→(x p).size=17∧Row 17 c p (x p)
theorem Shs.on (h:Shs w bb x)(hk:ah S w w1)(hn:bb∉S):Shs w1 bb x:=by
 obtain ⟨c,h1,h2⟩:=h;exact ⟨c,hk.on h1 hn,h2⟩
theorem Shs.lt (h:Shs w bb x):bb<w.heap.size:=by
 obtain ⟨c,h1,-⟩:=h;exact bf h1
theorem Shs.congr (h:Shs w bb x)(e:∀p,p<3→x p=y p):Shs w bb y:=by
 obtain ⟨c,h1,h2,h3⟩:=h;exact ⟨c,h1,h2,fun p hp=>e p hp▸h3 p hp⟩
theorem Shs.cell (h:Shs w bb x)(hp:p<3)(hk:k<17):w.cell? ⟨bb,p*17+k,none⟩=(x p)[k]? :=by
 obtain ⟨c,h1,h2,h3⟩:=h;simp only [World.cell?,h1];exact (h3 p hp).2 k hk
theorem Shs.fz (h:Shs w bb x)(j:Nat):w.frozen? ⟨bb,j,none⟩=false:=by
 obtain ⟨c,h1,-⟩:=h;exact ed h1
theorem Shs.range (h:Shs w bb x)(hp:p<3):w.rangeAt bb (p*17) (x p).toList:=by
 obtain ⟨c,h1,h2,h3⟩:=h;exact jy h1 fun j hj=>by
  have:=(h3 p hp).2 j (by have:=(h3 p hp).1;simp at hj;omega)
  simpa using this
theorem Shs.set (h:Shs w bb x)(hp:p<3)(hk:k<17):Shs (w.setCell ⟨bb,p*17+k,none⟩ v) bb (fun q=>if q=p then (x p).setIfInBounds k v else x q):=by
 obtain ⟨c,h1,h2,h3⟩:=h;refine ⟨_,ee h1,by simpa using h2,fun q hq=> ?_⟩;dsimp only
 by_cases e:q=p
 ·subst e;rw [if_pos rfl];refine ⟨by simpa using (h3 q hq).1,fun j hj=> ?_⟩;have:=(h3 q hq).2 j hj;rw [Array.getElem?_setIfInBounds,Array.getElem?_setIfInBounds,this]
  by_cases ej:k=j
  ·subst ej;have l0:=(h3 q hq).1;have l1:q*17+k<c.size:=by omega
   have l2:k< (x q).size:=by omega
   simp [l1,l2]
  ·rw [if_neg ai,if_neg ej]
 ·rw [if_neg e];refine ⟨(h3 q hq).1,fun j hj=> ?_⟩;rw [Array.getElem?_setIfInBounds,if_neg]
  ·exact (h3 q hq).2 j hj
  ·intro he;rcases Nat.lt_or_gt_of_ne e with h|h <;> omega
theorem Shs.head (h:Shs w bb x)(hp:p<3){vs:Array Value}{b16:Value}(hs:vs.size=16)(h1:vs.all (·.oneCell')=true)(hb:(x p)[16]? =some b16):
  ∃w2,(Instr.storeAt 95 (.pointer (some ⟨bb,p*17,none⟩)) (.agg vs)).run GP w= .ok () w2∧Shs w2 bb (fun q=>if q=p then vs++ #[b16] else x q)∧ah [bb] w w2:=by
 obtain ⟨c,q1,q2,q3⟩:=h;obtain ⟨w2,c2,r,s1,s2,s3,s4,K,-⟩:=ui (P:=GP) (ty:=95) (o:=p*17) (i95 hs) h1 (by rw [hs,q2];rcases p with _|_|_|p <;> omega) q1;refine ⟨w2,r,⟨c2,s1,by omega,fun q hq=> ?_⟩,K⟩;dsimp only
 by_cases e:q=p
 ·subst e;rw [if_pos rfl];refine ⟨by simp [hs],fun j hj=> ?_⟩
  by_cases ej:j<16
  ·rw [s3 j ai,Array.getElem?_append_left ai]
  ·obtain rfl:j=16:=by omega
   rw [s4 _ (.inr ai),(q3 q hq).2 16 ai,hb,Array.getElem?_append_right ai,hs];rfl
 ·rw [if_neg e];refine ⟨(q3 q hq).1,fun j hj=> ?_⟩;rw [s4 _ (by rcases Nat.lt_or_gt_of_ne e with h|h <;> omega)];exact (q3 q hq).2 j hj
def z97:Array Value:=jo++jo++jo
theorem ao8 (w:World):(Instr.makeSlice 97 (.int .i64 3) (.int .i64 3)).run GP w= .ok (sO w.heap.size 3 3) (w.alloc (.cells z97 103)):=by kernel_rfl
theorem Shs.new:Shs (w.alloc (.cells z97 103)) w.heap.size (fun _=>jo):=by
 refine ⟨_,bu,rfl,fun p hp=>⟨rfl,fun j hj=> ?_⟩⟩;rcases p with _|_|_|p
 ·rw [z97,Array.getElem?_append_left (by simp [jo];omega),Array.getElem?_append_left (by simp [jo];omega)];simp
 ·rw [z97,Array.getElem?_append_left (by simp [jo];omega),Array.getElem?_append_right (by simp [jo])];simp [jo]
 ·rw [z97,Array.getElem?_append_right (by simp [jo])];simp [jo]
 ·omega
theorem ajp (w:World):(Instr.makeSlice 101 (.int .i64 2) (.int .i64 2)).run GP w= .ok (sO w.heap.size 2 2) (w.alloc (.cells #[.slice none 0 0,.slice none 0 0] 49)):=by kernel_rfl
end
def hdX (n q:Nat):Array Value:=if q<n then iv q (.slice none 0 0) else jo
def adr (u:World)(bb idx:Nat):Prop:=∃(cb pb po cc c2:Nat)(ch:List Int),u.rangeAt bb (idx*17) (iv idx (sO cb 1 cc)).toList∧u.cell? ⟨cb,0,none⟩=some (.slice (some ⟨pb,po,none⟩) 3 c2)∧cb<u.heap.size∧pb<u.heap.size∧ch.length=3∧(∀i x,ch[i]? =some x→u.cell? ⟨pb,po+i,none⟩=some (.int .u8 x))∧∀x∈ch,0≤x∧x<256
noncomputable def sp16:Code:=sR (sR (sR (sR (sR (sR (sR (sR (Tryz.f33.body.getD .skip))))))))
section
variable {w w1 w2:World}{dp dof dcap:Nat}{i0 i1 i2 i3 i4:Int}
theorem sl49x {g o m c l:Nat}{lI:Int}{w:World}(el:lI=l)(h1:l≤m):∃v,(Instr.sliceAt 49 (.slice (some ⟨g,o,none⟩) m c) (some (.int .i64 lI)) none none).run GP w= .ok v w:=by
 subst el;rw [run_sliceAt_slice _ _ _ _ _ _ y8,run_slice_l _ _ _ _ _ y8 _ _ ai ai,sz49];exact ⟨_,rfl⟩
theorem copy49 {b sl sc n:Nat}{a:Addr}{cs:List Value}{c:Array Value}(hb:w.heap[b]? =some (.cells c 5 (0,0)))(hn:cs.length=n)(hm:n=Nat.min sl 3)(hs:c.size=3)(hsrc:∀j v,cs[j]? =some v→w.cell? (a.add j)=some v)(h1:∀v∈cs,v.oneCell'=true):
  ∃w2 c2,(Builtin.copy_ #[49,49] 3 #[sO b 3 3,.slice (some a) sl sc]).run GP w= .ok (.int .i64 n) w2∧w2.heap[b]? =some (.cells c2 5 (0,0))∧c2.size=3∧(∀j,j<n→c2[j]? =cs[j]?)∧(∀x,n≤x→c2[x]? =c[x]?)∧ah [b] w w2:=by
 have hn3:n≤3:=by rw [hm];exact Nat.min_le_right _ _
 have r:=run_copy_cells (P:=GP) w 49 49 3 5 b 0 3 3 a sl sc cs (by rw [fb];kernel_rfl) (by rw [ek];kernel_rfl) (hn.trans hm) hsrc (fun j hj=>by
  rw [Nat.zero_add,af hb ai];rfl) (fun j hj=>ed hb) h1
 obtain ⟨c',q1,q2,q3,q4⟩:=uz (b:=b) cs 0 w c hb;have ho:=Oth.aal (b:=b) cs 0 w;refine ⟨_,c',r.trans (by rw [hn];rfl),q1,by omega,fun j hj=> ?_,fun x hx=>q4 x (.inr ai),?_⟩
 ·have:=q3 j ai ai
  rwa [Nat.zero_add] at this
 ·exact ⟨Nat.le_of_eq ho.1.symm,fun x hx hn=>ho.2 x (by simpa using hn),(World.keptBut_setCells b (may:=fun _=>True) cs 0 w (fun _ _=>trivial)).1,(World.keptBut_setCells b (may:=fun _=>True) cs 0 w (fun _ _=>trivial)).2.1⟩
end
end Go.Proofs.YthgpdljlehklhaaGreat.wk
