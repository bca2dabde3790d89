/- Part QAZ of the proof that DropRefused answers true whatever its input. No condition. -/
import Derived.Test.YthgpdljlehklhaaGreatQAY
import Derived.Test.YthgpdljlehklhaaGreatQAS
set_option maxRecDepth 100000
namespace Go.Proofs.YthgpdljlehklhaaGreat.wk
open Go Go.Conc zr dr wd drv
set_option linter.unusedVariables false
set_option maxHeartbeats 4000000
section
variable {w w1 w2:World}
theorem ident_ok:Calls GP 85 #[.int .i64 2,.int .u8 1] w fun e w2=>(∃v,e= .returned v)∧∃z r0 r1,e= .returned (.tuple #[sO z 2 2,.int .i64 0])∧M22 w w2 z r0 r1 1 0 0 1:=by
 refine dn 85 29 Tryz.func85 fun a hf hsz hv=> ?_
 obtain ⟨v0,v1,-⟩:=ir hv;clear hv;refine au ?_;refine bt 127 zeros_ok fun v w2 hr=> ?_
 obtain ⟨-,z,r0,r1,hv,M⟩:=hr;obtain rfl:=bh hv;obtain ⟨ne0,ne1,ne2⟩:=M.ne;refine au ?_;apply ad.loop;have z0:w2.cell? ⟨z,0,none⟩=some (sO r0 2 2):=af M.hz ae;have c0:w2.cell? ⟨r0,0,none⟩=some (.int .u8 0):=af M.h0 ae;have f0:w2.frozen? ⟨r0,0,none⟩=false:=ed M.h0;refine ba ?_;have h0:=ee (i:=0) (v:= .int .u8 1) M.h0;have hz:=(ig (w:=w2) (b:=r0) (i:=0) (v:= .int .u8 1) ne1).trans M.hz;have h1:=(ig (w:=w2) (b:=r0) (i:=0) (v:= .int .u8 1) (fun e=>ne0 e.symm)).trans M.h1;have K:=ah.set (i:=0) (v:= .int .u8 1) (b:=r0) M.kp (.inr M.le.2.1);clear z0 c0 f0;refine kl [1,6,16,17] fun a1 hsz hK=> ?_;obtain ⟨v1,v6,v16,v17,-⟩:=hK
 generalize w2.setCell ⟨r0,0,none⟩ (.int .u8 1)=y at*;apply ad.inLoop;have z1:y.cell? ⟨z,1,none⟩=some (sO r1 2 2):=af hz ae;have c1:y.cell? ⟨r1,1,none⟩=some (.int .u8 0):=af h1 ae;have f1:y.frozen? ⟨r1,1,none⟩=false:=ed h1;refine ba ?_;have h1:=ee (i:=1) (v:= .int .u8 1) h1;have hz:=(ig (w:=y) (b:=r1) (i:=1) (v:= .int .u8 1) ne2).trans hz;have h0:=(ig (w:=y) (b:=r1) (i:=1) (v:= .int .u8 1) ne0).trans h0;have K:=ah.set (i:=1) (v:= .int .u8 1) (b:=r1) K (.inr M.le.2.2);clear z1 c1 f1;refine kl [6,16,17] fun a1 hsz hK=> ?_;obtain ⟨v6,v16,v17,-⟩:=hK
 apply ad.inLoop;refine au ?_;exact ad.qs rfl hf rfl bz aj aj ⟨⟨_,rfl⟩,z,r0,r1,rfl,hz,by simpa using h0,by simpa using h1,⟨ne0,ne1,ne2⟩,M.le,K⟩
theorem al4:Calls GP 86 #[.int .i64 2,.int .i64 2] w fun e w2=>(∃v,e= .returned v)∧∃r,e= .returned (sO r 2 2)∧w2.heap[r]? =some (.cells #[.int .u8 3,.int .u8 2] 203 (0,0))∧w.heap.size≤r∧ah [] w w2:=by
 refine dn 86 57 Tryz.func86 fun a hf hsz hv=> ?_
 obtain ⟨v0,v1,-⟩:=ir hv;clear hv;have x20:bits .xor .i64 2 0=2:=by decide+kernel
 have x21:bits .xor .i64 2 1=3:=by decide+kernel
 have x10:bits .xor .i64 1 0=1:=by decide+kernel
 have x01:bits .xor .i64 0 1=1:=by decide+kernel
 have u1:IntKind.u8.wrap 1=1:=by decide+kernel
 have u2:IntKind.u8.wrap 2=2:=by decide+kernel
 have u3:IntKind.u8.wrap 3=3:=by decide+kernel
 refine au ?_;apply ad.loop;refine au ?_;refine bt 128 ap8 fun v w2 hr=> ?_
 obtain ⟨hv,e⟩:=hr;obtain rfl:=bh hv;have e:=e.symm;subst e;refine au ?_;refine kl [0,1,5,11,12] fun a1 hsz hK=> ?_;obtain ⟨v0,v1,v5,v11,v12,-⟩:=hK
 apply ad.inLoop;refine au ?_;refine bt 128 aqd fun v w2 hr=> ?_
 obtain ⟨hv,e⟩:=hr;obtain rfl:=bh hv;have e:=e.symm;subst e;refine au ?_;refine kl [0,1,5,11,12] fun a1 hsz hK=> ?_;obtain ⟨v0,v1,v5,v11,v12,-⟩:=hK
 apply ad.inLoop;refine au ?_
 (apply ad.val rfl;(case ho=>rfl);(case hw=>exact bj);(case hr=>refine zpr ?_;first|(rw [Sem.run_bind,(acv _)];rfl)|exact (acv _));refine ay ?_)
 obtain ⟨r,hr0⟩:∃r,w.heap.size=r:=⟨_,rfl⟩;rw [hr0];refine ad.ib (fun x=>x.heap[r]? =some (.cells #[.int .u8 0,.int .u8 0] 203 (0,0))∧ah [] w x) ⟨fy hr0.symm,ei⟩ fun x ⟨h0,K⟩=> ?_
 refine au ?_;refine kl [0,1,5,7,24,25] fun a1 hsz hK=> ?_;obtain ⟨v0,v1,v5,v7,v24,v25,-⟩:=hK
 apply ad.loop;refine au ?_;refine kl [0,1,5,7,8,9,24,25,32,33] fun a1 hsz hK=> ?_;obtain ⟨v0,v1,v5,v7,v8,v9,v24,v25,v32,v33,-⟩:=hK
 apply ad.loop;refine au ?_;refine kl [0,1,5,7,8,9,24,25,32,33] fun a1 hsz hK=> ?_;obtain ⟨v0,v1,v5,v7,v8,v9,v24,v25,v32,v33,-⟩:=hK
 apply ad.inLoop;refine au ?_;refine bt 128 aqb fun v w2 hr=> ?_
 obtain ⟨hv,e⟩:=hr;obtain rfl:=bh hv;have e:=e.symm;subst e;refine au ?_;refine kl [0,1,5,7,8,9,24,25,32,33] fun a1 hsz hK=> ?_;obtain ⟨v0,v1,v5,v7,v8,v9,v24,v25,v32,v33,-⟩:=hK
 apply ad.inLoop;refine au ?_;refine bt 129 apa fun v w2 hr=> ?_
 obtain ⟨hv,e⟩:=hr;obtain rfl:=bh hv;have e:=e.symm;subst e;have c0:x.cell? ⟨r,0,none⟩=some (.int .u8 0):=af h0 ae;have f0:x.frozen? ⟨r,0,none⟩=false:=ed h0;refine ba ?_;have h0:=ee (i:=0) (v:= .int .u8 3) h0;have K:=ah.set (i:=0) (v:= .int .u8 3) (b:=r) K (.inr ai);clear c0 f0;refine kl [0,1,5,7,24,25] fun a1 hsz hK=> ?_;obtain ⟨v0,v1,v5,v7,v24,v25,-⟩:=hK
 generalize x.setCell ⟨r,0,none⟩ (.int .u8 3)=y at*;apply ad.inLoop;refine au ?_;refine kl [0,1,5,7,8,9,24,25,32,33] fun a1 hsz hK=> ?_;obtain ⟨v0,v1,v5,v7,v8,v9,v24,v25,v32,v33,-⟩:=hK
 apply ad.loop;refine au ?_;refine bt 128 aqe fun v w2 hr=> ?_
 obtain ⟨hv,e⟩:=hr;obtain rfl:=bh hv;have e:=e.symm;subst e;refine au ?_;refine kl [0,1,5,7,8,9,24,25,32,33] fun a1 hsz hK=> ?_;obtain ⟨v0,v1,v5,v7,v8,v9,v24,v25,v32,v33,-⟩:=hK
 apply ad.inLoop;refine au ?_;refine kl [0,1,5,7,8,9,24,25,32,33] fun a1 hsz hK=> ?_;obtain ⟨v0,v1,v5,v7,v8,v9,v24,v25,v32,v33,-⟩:=hK
 apply ad.inLoop;refine au ?_;refine bt 129 apb fun v w2 hr=> ?_
 obtain ⟨hv,e⟩:=hr;obtain rfl:=bh hv;have e:=e.symm;subst e;have c0:y.cell? ⟨r,1,none⟩=some (.int .u8 0):=af h0 ae;have f0:y.frozen? ⟨r,1,none⟩=false:=ed h0;refine ba ?_;have h0:=ee (i:=1) (v:= .int .u8 2) h0;have K:=ah.set (i:=1) (v:= .int .u8 2) (b:=r) K (.inr ai);clear c0 f0;refine kl [7,24,25] fun a1 hsz hK=> ?_;obtain ⟨v7,v24,v25,-⟩:=hK
 apply ad.inLoop;refine au ?_;exact ad.dq rfl hf rfl bz aj ⟨⟨_,rfl⟩,r,rfl,by simpa using h0,by omega,K⟩
end
def B3 (u:World)(t:Nat):Prop:=∃a b c:Int,(0≤a∧a<256)∧(0≤b∧b<256)∧(0≤c∧c<256)∧u.heap[t]? =some (.cells #[.int .u8 a,.int .u8 b,.int .u8 c] 5 (0,0))
def R3 (u:World)(d o:Nat):Prop:=d<u.heap.size∧∃x y z:Int,u.cell? ⟨d,o,none⟩=some (.int .u8 x)∧u.cell? ⟨d,o+1,none⟩=some (.int .u8 y)∧u.cell? ⟨d,o+2,none⟩=some (.int .u8 z)
section
variable {w w1 w2:World}{t d o e:Nat}{S:List Nat}
theorem R3.on (h:R3 w d o)(hk:ah S w w1)(hn:d∉S):R3 w1 d o:=by
 obtain ⟨hl,x,y,z,h1,h2,h3⟩:=h;exact ⟨Nat.lt_of_lt_of_le hl hk.size,x,y,z,(hk.cell hl hn).trans h1,(hk.cell hl hn).trans h2,(hk.cell hl hn).trans h3⟩
theorem B3.on (h:B3 w t)(hk:ah S w w1)(hn:t∉S):B3 w1 t:=by
 obtain ⟨a,b,c,h1,h2,h3,h4⟩:=h;exact ⟨a,b,c,h1,h2,h3,hk.on h4 hn⟩
theorem acy (op:BinOp)(x y:Int):0≤bits .xor .u8 x y∧bits .xor .u8 x y<256:=by
 show 0≤IntKind.u8.wrap _∧IntKind.u8.wrap _<256;generalize (_:Int)=z;unfold IntKind.wrap;simp [IntKind.bits,IntKind.signed];omega
theorem add_0 {x y:Value}:Calls GP 130 #[x,y,.int .u8 0] w fun e w2=>e= .returned (.tuple #[])∧w2=w:=by
 refine dn 130 83 Tryz.func130 fun a hf hsz hv=> ?_
 obtain ⟨v0,v1,v2,-⟩:=za3 hv;clear hv;refine au ?_;exact ad.fin rfl hf bz (results_none rfl _ _ _) ⟨rfl,rfl⟩
theorem add_1 (hb:B3 w t)(hr:R3 w d o)(hd:d≠t):Calls GP 130 #[sO t 3 3,.slice (some ⟨d,o,none⟩) 3 e,.int .u8 1] w fun e w2=>e= .returned (.tuple #[])∧B3 w2 t∧ah [t] w w2:=by
 refine dn 130 83 Tryz.func130 fun a hf hsz hv=> ?_
 obtain ⟨v0,v1,v2,-⟩:=za3 hv;clear hv;obtain ⟨p0,p1,p2,r0,r1,r2,hb⟩:=hb;obtain ⟨dl,x,y,z,h1,h2,h3⟩:=hr;have K:=ah.refl [t] w;refine au ?_;apply ad.loop;have c0:w.cell? ⟨t,0,none⟩=some (.int .u8 p0):=af hb ae;have f0:w.frozen? ⟨t,0,none⟩=false:=ed hb;refine ba ?_;have hb:=ee (i:=0) (v:= .int .u8 (bits .xor .u8 p0 x)) hb;have K1:=ah.set (i:=0) (v:= .int .u8 (bits .xor .u8 p0 x)) (b:=t) (ah.refl [t] w) (.inl ae);have h1:=(K1.cell dl (by simpa using hd)).trans h1;have h2:=(K1.cell dl (by simpa using hd)).trans h2;have h3:=(K1.cell dl (by simpa using hd)).trans h3;have dl:=Nat.lt_of_lt_of_le dl K1.size;have K:=K.trans K1 (fun b hb=> .inl hb);clear c0 f0 K1;refine kl [0,47,48,49] fun a1 hsz hK=> ?_;obtain ⟨v0,v47,v48,v49,-⟩:=hK
 generalize World.setCell _ ⟨t,0,none⟩ (.int .u8 (bits .xor .u8 p0 x))=u1 at*;apply ad.inLoop;have c0:u1.cell? ⟨t,1,none⟩=some (.int .u8 p1):=af hb ae;have f0:u1.frozen? ⟨t,1,none⟩=false:=ed hb;refine ba ?_;have hb:=ee (i:=1) (v:= .int .u8 (bits .xor .u8 p1 y)) hb;have K1:=ah.set (i:=1) (v:= .int .u8 (bits .xor .u8 p1 y)) (b:=t) (ah.refl [t] u1) (.inl ae);have h1:=(K1.cell dl (by simpa using hd)).trans h1;have h2:=(K1.cell dl (by simpa using hd)).trans h2;have h3:=(K1.cell dl (by simpa using hd)).trans h3;have dl:=Nat.lt_of_lt_of_le dl K1.size;have K:=K.trans K1 (fun b hb=> .inl hb);clear c0 f0 K1;refine kl [0,47,48,49] fun a1 hsz hK=> ?_;obtain ⟨v0,v47,v48,v49,-⟩:=hK
 generalize World.setCell _ ⟨t,1,none⟩ (.int .u8 (bits .xor .u8 p1 y))=u2 at*;apply ad.inLoop;have c0:u2.cell? ⟨t,2,none⟩=some (.int .u8 p2):=af hb ae;have f0:u2.frozen? ⟨t,2,none⟩=false:=ed hb;refine ba ?_;have hb:=ee (i:=2) (v:= .int .u8 (bits .xor .u8 p2 z)) hb;have K1:=ah.set (i:=2) (v:= .int .u8 (bits .xor .u8 p2 z)) (b:=t) (ah.refl [t] u2) (.inl ae);have h1:=(K1.cell dl (by simpa using hd)).trans h1;have h2:=(K1.cell dl (by simpa using hd)).trans h2;have h3:=(K1.cell dl (by simpa using hd)).trans h3;have dl:=Nat.lt_of_lt_of_le dl K1.size;have K:=K.trans K1 (fun b hb=> .inl hb);clear c0 f0 K1;refine kl [0,47,48,49] fun a1 hsz hK=> ?_;obtain ⟨v0,v47,v48,v49,-⟩:=hK
 generalize World.setCell _ ⟨t,2,none⟩ (.int .u8 (bits .xor .u8 p2 z))=u3 at*;apply ad.inLoop;refine au ?_;exact ad.fin rfl hf bz (results_none rfl _ _ _) ⟨rfl,⟨_,_,_,acy .xor p0 x,acy .xor p1 y,acy .xor p2 z,by simpa using hb⟩,K⟩
theorem add_c {cc:Int}(hc:cc=2∨cc=3)(hb:B3 w t)(hr:R3 w d o)(hd:d≠t):Calls GP 130 #[sO t 3 3,.slice (some ⟨d,o,none⟩) 3 e,.int .u8 cc] w fun e w2=>e= .returned (.tuple #[])∧B3 w2 t∧ah [t] w w2:=by
 refine dn 130 83 Tryz.func130 fun a hf hsz hv=> ?_
 obtain ⟨v0,v1,v2,-⟩:=za3 hv;clear hv;obtain ⟨p0,p1,p2,r0,r1,r2,hb⟩:=hb;obtain ⟨dl,x,y,z,h1,h2,h3⟩:=hr;have K:=ah.refl [t] w;have n0:(cc==0)=false:=by rcases hc with rfl|rfl <;> rfl
 have n1:(cc==1)=false:=by rcases hc with rfl|rfl <;> rfl
 refine au ?_;apply ad.loop;refine au ?_;have c0:w.cell? ⟨t,0,none⟩=some (.int .u8 p0):=af hb ae;have f0:w.frozen? ⟨t,0,none⟩=false:=ed hb;refine kl [0,2,8,9,66,67,68] fun a1 hsz hK=> ?_;obtain ⟨v0,v2,v8,v9,v66,v67,v68,-⟩:=hK
 apply ad.kj 8 (fun _ q=>q.cell? ⟨t,0,none⟩=some (.int .u8 p0)) eo;intro dd;have hS0:(World.at w dd).cell? ⟨t,0,none⟩=some (.int .u8 p0):=c0;refine cg 0 ?_;refine cg 1 ?_;refine cg 2 ?_;refine cg 3 ?_;refine cg 4 ?_;refine cg 5 ?_
 (apply fa.gw 6 (f:=128) a9 rfl;(case hw=>exact bj);(case hc=>exact (fe (w:=World.at w dd) (a0:=cc) (b:=x)));(case hv=>rw [cw (f:=128) rfl];refine zam ?_;exact ey 128 a9 _ _);(case hret=>exact fun e w2 h=>⟨_,h.1⟩))
 intro v w2 ⟨hv,e⟩;obtain rfl:=bh hv;subst e;refine ⟨fun _=>c0,?_⟩;refine ay ?_;refine zmo 7 ?_ (hS:=by exact (fun _=>c0));refine ay ?_;refine zmo 8 ?_ (hS:=by exact (fun h=>by omega));refine ay ?_;refine zms 9 ?_ (hS:=by exact (fun h=>by omega));apply fa.fin a9;refine au ?_;have hb:=ee (i:=0) (v:= .int .u8 (bits .xor .u8 p0 (tmF cc x))) hb;have K1:=(ah.set (i:=0) (v:= .int .u8 (bits .xor .u8 p0 (tmF cc x))) (b:=t) (ah.refl [t] w) (.inl ae)).at (d:=dd);have h1:=(K1.cell dl (by simpa using hd)).trans h1;have h2:=(K1.cell dl (by simpa using hd)).trans h2;have h3:=(K1.cell dl (by simpa using hd)).trans h3;have dl:=Nat.lt_of_lt_of_le dl K1.size;have K:=K.trans K1 (fun b hb=> .inl hb);have hb:((World.setCell w ⟨t,0,none⟩ (.int .u8 (bits .xor .u8 p0 (tmF cc x)))).at dd).heap[t]? =_:=hb;clear c0 f0 K1 hS0;refine kl [0,2,66,67,68] fun a1 hsz hK=> ?_;obtain ⟨v0,v2,v66,v67,v68,-⟩:=hK
 generalize World.at (World.setCell _ ⟨t,0,none⟩ (.int .u8 (bits .xor .u8 p0 (tmF cc x)))) dd=u1 at*;apply ad.inLoop;refine au ?_;have c0:u1.cell? ⟨t,1,none⟩=some (.int .u8 p1):=af hb ae;have f0:u1.frozen? ⟨t,1,none⟩=false:=ed hb;refine kl [0,2,8,9,66,67,68] fun a1 hsz hK=> ?_;obtain ⟨v0,v2,v8,v9,v66,v67,v68,-⟩:=hK
 apply ad.kj 8 (fun _ q=>q.cell? ⟨t,1,none⟩=some (.int .u8 p1)) eo;intro dd;have hS0:(World.at u1 dd).cell? ⟨t,1,none⟩=some (.int .u8 p1):=c0;refine cg 0 ?_;refine cg 1 ?_;refine cg 2 ?_;refine cg 3 ?_;refine cg 4 ?_;refine cg 5 ?_
 (apply fa.gw 6 (f:=128) a9 rfl;(case hw=>exact bj);(case hc=>exact (fe (w:=World.at u1 dd) (a0:=cc) (b:=y)));(case hv=>rw [cw (f:=128) rfl];refine zam ?_;exact ey 128 a9 _ _);(case hret=>exact fun e w2 h=>⟨_,h.1⟩))
 intro v w2 ⟨hv,e⟩;obtain rfl:=bh hv;subst e;refine ⟨fun _=>c0,?_⟩;refine ay ?_;refine zmo 7 ?_ (hS:=by exact (fun _=>c0));refine ay ?_;refine zmo 8 ?_ (hS:=by exact (fun h=>by omega));refine ay ?_;refine zms 9 ?_ (hS:=by exact (fun h=>by omega));apply fa.fin a9;refine au ?_;have hb:=ee (i:=1) (v:= .int .u8 (bits .xor .u8 p1 (tmF cc y))) hb;have K1:=(ah.set (i:=1) (v:= .int .u8 (bits .xor .u8 p1 (tmF cc y))) (b:=t) (ah.refl [t] u1) (.inl ae)).at (d:=dd);have h1:=(K1.cell dl (by simpa using hd)).trans h1;have h2:=(K1.cell dl (by simpa using hd)).trans h2;have h3:=(K1.cell dl (by simpa using hd)).trans h3;have dl:=Nat.lt_of_lt_of_le dl K1.size;have K:=K.trans K1 (fun b hb=> .inl hb);have hb:((World.setCell u1 ⟨t,1,none⟩ (.int .u8 (bits .xor .u8 p1 (tmF cc y)))).at dd).heap[t]? =_:=hb;clear c0 f0 K1 hS0;refine kl [0,2,66,67,68] fun a1 hsz hK=> ?_;obtain ⟨v0,v2,v66,v67,v68,-⟩:=hK
 generalize World.at (World.setCell _ ⟨t,1,none⟩ (.int .u8 (bits .xor .u8 p1 (tmF cc y)))) dd=u2 at*;apply ad.inLoop;refine au ?_;have c0:u2.cell? ⟨t,2,none⟩=some (.int .u8 p2):=af hb ae;have f0:u2.frozen? ⟨t,2,none⟩=false:=ed hb;refine kl [0,2,8,9,66,67,68] fun a1 hsz hK=> ?_;obtain ⟨v0,v2,v8,v9,v66,v67,v68,-⟩:=hK
 apply ad.kj 8 (fun _ q=>q.cell? ⟨t,2,none⟩=some (.int .u8 p2)) eo;intro dd;have hS0:(World.at u2 dd).cell? ⟨t,2,none⟩=some (.int .u8 p2):=c0;refine cg 0 ?_;refine cg 1 ?_;refine cg 2 ?_;refine cg 3 ?_;refine cg 4 ?_;refine cg 5 ?_
 (apply fa.gw 6 (f:=128) a9 rfl;(case hw=>exact bj);(case hc=>exact (fe (w:=World.at u2 dd) (a0:=cc) (b:=z)));(case hv=>rw [cw (f:=128) rfl];refine zam ?_;exact ey 128 a9 _ _);(case hret=>exact fun e w2 h=>⟨_,h.1⟩))
 intro v w2 ⟨hv,e⟩;obtain rfl:=bh hv;subst e;refine ⟨fun _=>c0,?_⟩;refine ay ?_;refine zmo 7 ?_ (hS:=by exact (fun _=>c0));refine ay ?_;refine zmo 8 ?_ (hS:=by exact (fun h=>by omega));refine ay ?_;refine zms 9 ?_ (hS:=by exact (fun h=>by omega));apply fa.fin a9;refine au ?_;have hb:=ee (i:=2) (v:= .int .u8 (bits .xor .u8 p2 (tmF cc z))) hb;have K1:=(ah.set (i:=2) (v:= .int .u8 (bits .xor .u8 p2 (tmF cc z))) (b:=t) (ah.refl [t] u2) (.inl ae)).at (d:=dd);have h1:=(K1.cell dl (by simpa using hd)).trans h1;have h2:=(K1.cell dl (by simpa using hd)).trans h2;have h3:=(K1.cell dl (by simpa using hd)).trans h3;have dl:=Nat.lt_of_lt_of_le dl K1.size;have K:=K.trans K1 (fun b hb=> .inl hb);have hb:((World.setCell u2 ⟨t,2,none⟩ (.int .u8 (bits .xor .u8 p2 (tmF cc z)))).at dd).heap[t]? =_:=hb;clear c0 f0 K1 hS0;refine kl [0,2,66,67,68] fun a1 hsz hK=> ?_;obtain ⟨v0,v2,v66,v67,v68,-⟩:=hK
 generalize World.at (World.setCell _ ⟨t,2,none⟩ (.int .u8 (bits .xor .u8 p2 (tmF cc z)))) dd=u3 at*;apply ad.inLoop;refine au ?_;exact ad.fin rfl hf bz (results_none rfl _ _ _) ⟨rfl,⟨_,_,_,acy .xor p0 (tmF cc x),acy .xor p1 (tmF cc y),acy .xor p2 (tmF cc z),by simpa using hb⟩,K⟩
end
structure yf (u:World)(g r0 r1 r2:Nat):Prop where
 c0:u.cell? ⟨g,0,none⟩=some (sO r0 2 2)
 c1:u.cell? ⟨g,1,none⟩=some (sO r1 2 2)
 c2:u.cell? ⟨g,2,none⟩=some (sO r2 2 2)
 gl:g<u.heap.size
 h0:u.heap[r0]? =some (.cells #[.int .u8 1,.int .u8 0] 203 (0,0))
 h1:u.heap[r1]? =some (.cells #[.int .u8 0,.int .u8 1] 203 (0,0))
 h2:u.heap[r2]? =some (.cells #[.int .u8 3,.int .u8 2] 203 (0,0))
section
variable {w w1 w2:World}{g r0 r1 r2 n m c cap cb:Nat}{p q:Addr}{olds news:List Value}
theorem yf.on (h:yf w g r0 r1 r2)(hk:ah [] w w1):yf w1 g r0 r1 r2:=
 ⟨(hk.cell h.gl ae).trans h.c0,(hk.cell h.gl ae).trans h.c1,(hk.cell h.gl ae).trans h.c2,Nat.lt_of_lt_of_le h.gl hk.size,hk.on h.h0 ae,hk.on h.h1 ae,hk.on h.h2 ae⟩
theorem app200g (hlo:olds.length=n)(holds:∀j u,olds[j]? =some u→w.cell? (q.add j)=some u)(hl:news.length=m)(hnews:∀j u,news[j]? =some u→w.cell? (p.add j)=some u)(hg:cap<n+m)(hb:n+m<1000000000):
  ∃v' w',(Builtin.append_ #[200,200] 200 #[.slice (some q) n cap,.slice (some p) m c]).run GP w= .ok v' w'∧w'.ownsRow w.heap.size 204 1 v' (n+m) (olds++news)∧ah [] w w':=by
 obtain ⟨v',w',r1,r2,r3⟩:=run_append_arg_grows (P:=GP) w 200 200 204 ((Tryz.prog.info? 204).getD default) (.slice none 0 0) 1 24 (by rw [fb];kernel_rfl) (by rw [ek];kernel_rfl) du du du rfl ai q n cap olds ai holds p m c news ai hnews hg (by simp only [maxLen];omega) ai;exact ⟨v',w',r1,r2,ln (v:= .slice none 0 0) r3⟩
theorem new_ok:Calls GP 57 #[.int .i64 2,.int .i64 1] w fun e w2=>(∃v,e= .returned v)∧∃cb g cap r0 r1 r2,e= .returned (.tuple #[pO cb,.int .i64 0])∧w2.heap[cb]? =some (.cells #[.int .i64 2,.int .i64 3,sO g 3 cap] 207 (0,0))∧yf w2 g r0 r1 r2∧ah [] w w2:=by
 refine dn 57 52 Tryz.func57 fun a hf hsz hv=> ?_
 obtain ⟨v0,v1,-⟩:=ir hv;clear hv;refine au ?_;refine bt 85 ident_ok fun v w2 hr=> ?_
 obtain ⟨-,z,r0,r1,hv,M⟩:=hr;obtain rfl:=bh hv;refine kl [0,1,4,5,28] fun a1 hsz hK=> ?_;obtain ⟨v0,v1,v4,v5,v28,-⟩:=hK
 refine au ?_;apply ad.loop;refine au ?_;refine bt 86 al4 fun v w2 hr=> ?_
 rename World=>u
 obtain ⟨-,r2,hv,h2,l2,K2⟩:=hr;obtain rfl:=bh hv;have K:=M.kp.trans K2 ae;have hz:=K2.on M.hz ae;have h0:=K2.on M.h0 ae;have h1:=K2.on M.h1 ae;refine au ?_;have h2':(u.alloc (.cells #[sO r2 2 2] 204)).heap[r2]? =_:=bw h2;have h0:(u.alloc (.cells #[sO r2 2 2] 204)).heap[r0]? =_:=bw h0;have h1:(u.alloc (.cells #[sO r2 2 2] 204)).heap[r1]? =_:=bw h1;obtain ⟨v',w3,r3,O3,K3⟩:=app200g (w:=u.alloc (.cells #[sO r2 2 2] 204)) (n:=2) (cap:=2) (m:=1) (c:=1) (q:=⟨z,0,none⟩) (p:=⟨u.heap.size,0,none⟩) (olds:=[sO r0 2 2,sO r1 2 2]) (news:=[sO r2 2 2]) rfl (afv (bw hz) rfl) rfl (jc _ 204 rfl) ai ai;have K3':ah [] u w3:=(ah.alloc (ah.refl [] u)).trans K3 ae;have K:=K.trans K3' ae;have h0:=K3.on h0 ae;have h1:=K3.on h1 ae;have h2:=K3.on h2' ae;obtain ⟨g,cap,rfl⟩:∃g cap,v'=sO g 3 cap:=by
  rcases O3.2 with ⟨-,h0⟩|⟨g,cap,cur,rfl,-⟩
  ·omega
  ·exact ⟨g,cap,rfl⟩
 have gl:g<w3.heap.size:=lj (adx O3) g (by simp [blk,Value.ownBlock]);have gc:=O3.cells (g:=g) rfl;have g0:=gc 0 _ rfl;have g1:=gc 1 _ rfl;have g2:=gc 2 _ rfl;rw [Addr.add_lit] at g0 g1 g2;have RR:yf w3 g r0 r1 r2:=⟨g0,g1,g2,gl,h0,h1,h2⟩
 (refine ad.app rfl rfl rfl bj aj aj r3 ?_;refine ay ?_)
 refine au ?_;refine kl [0,1,6,8] fun a1 hsz hK=> ?_;obtain ⟨v0,v1,v6,v8,-⟩:=hK
 apply ad.inLoop;refine au ?_;exact ad.qs rfl hf rfl bz aj aj ⟨⟨_,rfl⟩,w3.heap.size,g,cap,r0,r1,r2,rfl,bu,RR.on (ah.alloc (ah.refl [] w3)),K.alloc⟩
theorem none_ok {n:Int}{v:Value}(h:w.heap[cb]? =some (.cells #[.int .i64 2,.int .i64 n,v] 207 (0,0))):Calls GP 87 #[pO cb] w fun e w2=>e= .returned (.bool false)∧w2=w:=by
 refine dn 87 12 Tryz.func87 fun a hf hsz hv=> ?_
 obtain ⟨v0,-⟩:=ie hv;clear hv;have c0:w.cell? ⟨cb,0,none⟩=some (.int .i64 2):=af h ae;refine au ?_;exact ad.dq rfl hf rfl bz aj ⟨rfl,rfl⟩
theorem even_ok {dg dc:Nat}{p0 p1:Addr}{e0 e1:Nat}(h0:w.cell? ⟨dg,0,none⟩=some (.slice (some p0) 3 e0))(h1:w.cell? ⟨dg,1,none⟩=some (.slice (some p1) 3 e1)):Calls GP 88 #[sO dg 2 dc] w fun e w2=>e= .returned (.bool true)∧w2=w:=by
 refine dn 88 19 Tryz.func88 fun a hf hsz hv=> ?_
 obtain ⟨v0,-⟩:=ie hv;clear hv;refine au ?_;apply ad.loop;refine au ?_;refine kl [0,5,6,7] fun a1 hsz hK=> ?_;obtain ⟨v0,v5,v6,v7,-⟩:=hK
 apply ad.inLoop;refine au ?_;refine kl [0,5,6,7] fun a1 hsz hK=> ?_;obtain ⟨v0,v5,v6,v7,-⟩:=hK
 apply ad.inLoop;refine au ?_;exact ad.dq rfl hf rfl bz aj ⟨rfl,rfl⟩
end
end Go.Proofs.YthgpdljlehklhaaGreat.wk
