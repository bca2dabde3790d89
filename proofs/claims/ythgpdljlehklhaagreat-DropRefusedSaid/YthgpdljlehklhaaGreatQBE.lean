/- Part QBE of the proof that DropRefused answers true whatever its input. No condition. -/
import Derived.Test.YthgpdljlehklhaaGreatQBD
import Derived.Test.YthgpdljlehklhaaGreatQBC
import Derived.Test.YthgpdljlehklhaaGreatQAT
set_option maxRecDepth 100000
namespace Go.Proofs.YthgpdljlehklhaaGreat.wk
open Go Go.Conc zr dr wd drv
set_option linter.unusedVariables false
set_option maxHeartbeats 4000000
section
variable {w u4 y3 w1 w2:World}{dp dof dcap cb g cap r0 r1 r2 g9 bb:Nat}{i0 i1 i2 i3 i4:Int}{a1:Act}
theorem alx (hf:GP.funcs[33]? =some Tryz.f33)(hd:dp<w.heap.size)(d0:w.cell? ⟨dp,dof,none⟩=some (.int .u8 i0))(d1:w.cell? ⟨dp,dof+1,none⟩=some (.int .u8 i1))(d2:w.cell? ⟨dp,dof+2,none⟩=some (.int .u8 i2))(d3:w.cell? ⟨dp,dof+3,none⟩=some (.int .u8 i3))(d4:w.cell? ⟨dp,dof+4,none⟩=some (.int .u8 i4))(hc:5≤dcap)
  (K:ah [] w u4)(h2:u4.heap[w.heap.size]? =some (.cells (dx 5 0 1 1) 95 (0,0)))(hcb:u4.heap[cb]? =some (.cells #[.int .i64 2,.int .i64 3,sO g 3 cap] 207 (0,0)))(RR:yf u4 g r0 r1 r2)(h9:u4.heap[g9]? =some (.cells #[.int .i64 3] 3 (0,0)))(hbb:u4.heap.size=bb)(S:Shs y3 bb (hdX 3))(K4:ah [] u4 y3)
  (hsz:a1.tmps.size=164∧a1.defers=[])(v1:a1.eval (.tmp 1)= .slice (some ⟨dp,dof,none⟩) 5 dcap)(v2:a1.eval (.tmp 2)=pO w.heap.size)(v4:a1.eval (.tmp 4)= .slice none 0 0)(v5:a1.eval (.tmp 5)= .int .i64 0)(v7:a1.eval (.tmp 7)=pO cb)(v9:a1.eval (.tmp 9)=sO g9 1 1)(v11:a1.eval (.tmp 11)=sO bb 3 3):
  ad GP (ae2 w) (bF 33) a1 [.code sp16] y3:=by
 unfold ae2;unfold sp16;simp only [Tryz.f33,Option.getD_some,sR];have c8:y3.cell? ⟨w.heap.size,8,none⟩=some (.int .i64 2):=af (K4.on h2 ae) (by simp [dx]);refine au ?_
 (apply ad.val rfl;(case ho=>rfl);(case hw=>exact bj);(case hr=>refine zpr ?_;first|(rw [Sem.run_bind,(ajp _)];rfl)|exact (ajp _));refine ay ?_)
 have lbb:=S.lt;obtain ⟨dg,hdg⟩:∃dg,y3.heap.size=dg:=⟨_,rfl⟩;have K4':=K4.alloc (o:= .cells #[.slice none 0 0,.slice none 0 0] 49);have S':=S.on (ah.alloc (o:= .cells #[.slice none 0 0,.slice none 0 0] 49) (ah.refl [] y3)) ae;rw [hdg] at lbb ⊢;refine ad.ib (fun x=>Shs x bb (hdX 3)∧x.heap[dg]? =some (.cells #[.slice none 0 0,.slice none 0 0] 49 (0,0))∧ah [] u4 x) ⟨S',fy hdg.symm,K4'⟩ fun x0 ⟨S,hg,K4⟩=> ?_
 clear K4' S' c8;have c8:x0.cell? ⟨w.heap.size,8,none⟩=some (.int .i64 2):=af (K4.on h2 ae) (by simp [dx]);have c9:x0.cell? ⟨g9,0,none⟩=some (.int .i64 3):=af (K4.on h9 ae) ae;refine au ?_;refine kl [1,2,4,5,7,9,11,13,82,83,84] fun a1 hsz hK=> ?_;obtain ⟨v1,v2,v4,v5,v7,v9,v11,v13,v82,v83,v84,-⟩:=hK
 apply ad.loop;refine au ?_;refine kl [1,2,4,5,7,9,11,13,15,82,83,84,90,91] fun a1 hsz hK=> ?_;obtain ⟨v1,v2,v4,v5,v7,v9,v11,v13,v15,v82,v83,v84,v90,v91,-⟩:=hK
 clear c8 c9;apply ad.loop;refine au ?_
 (apply ad.val rfl;(case ho=>rfl);(case hw=>exact bj);(case hr=>refine zpr ?_;first|(rw [Sem.run_bind,(sb _)];rfl)|exact (sb _));refine ay ?_)
 have ldg:=bf hg;have kq:=K4.size;obtain ⟨pa,hpa⟩:∃pa,x0.heap.size=pa:=⟨_,rfl⟩;have K4':=K4.alloc (o:= .cells #[.int .u8 0,.int .u8 0,.int .u8 0] 5);have S':=S.on (ah.alloc (o:= .cells #[.int .u8 0,.int .u8 0,.int .u8 0] 5) (ah.refl [] x0)) ae;rw [hpa] at ldg kq ⊢;refine ad.ib (fun x=>Shs x bb (hdX 3)∧x.heap[dg]? =some (.cells #[.slice none 0 0,.slice none 0 0] 49 (0,0))∧x.heap[pa]? =some (.cells #[.int .u8 0,.int .u8 0,.int .u8 0] 5 (0,0))∧ah [] u4 x) ⟨S',bw hg,fy hpa.symm,K4'⟩ fun x1 ⟨S,hg,hp,K4⟩=> ?_
 clear K4' S';refine au ?_
 (apply ad.val rfl;(case ho=>rfl);(case hw=>exact bj);(case hr=>refine ay ?_;dsimp only [execOp,resolve];(try simp+decide only [eval_put,bn,eval_const,size_put,if_true,if_false,List.map_toArray,List.map_cons,List.map_nil,Option.map_some,Option.map_none, *]);rw [Sem.run_bind,(wm (hI:=3) (h:=3) (o:=dof) (m:=5) (c:=dcap) (g:=dp) rfl ai ai)];rfl);refine ay ?_)
 have KW:=K.trans K4 ae;have b0:=(KW.cell hd ae).trans d0;have b1:=(KW.cell hd ae).trans d1;have b2:=(KW.cell hd ae).trans d2;obtain ⟨x2',cA,rC,hp,sA,iA,jA,K1⟩:=copy49 (w:=x1) (b:=pa) (sl:=3) (sc:=dcap) (n:=3) (a:=⟨dp,dof,none⟩) (cs:=[.int .u8 i0,.int .u8 i1,.int .u8 i2]) hp rfl rfl rfl (fun j v hj=>by
  rw [Addr.add_lit];rcases j with _|_|_|j
  ·cases hj;exact b0
  ·cases hj;exact b1
  ·cases hj;exact b2
  ·simp at hj) (by simp [Value.oneCell'])
 have rC:(Builtin.copy_ #[49,49] 3 #[sO pa 3 3,.slice (some ⟨dp,dof,none⟩) 3 dcap]).run GP x1= .ok (.int .i64 3) x2':=rC;refine ad.bi2 (run:=Builtin.copy_) rfl rfl rfl ?_ (fun _ _ _ _=>rfl) ?_ ?_ rC ?_
 focus (exact bj)
 focus (exact aj)
 focus (exact aj)
 refine ay ?_;have K4:=K4.trans K1 (fun b hb=>by simp at hb;exact .inr ai);have S:=S.on K1 (by simp;omega);have hg:=K1.on hg (by simp;omega)
 (apply ad.val rfl;(case ho=>rfl);(case hw=>exact bj);(case hr=>refine ay ?_;dsimp only [execOp,resolve];(try simp+decide only [eval_put,bn,eval_const,size_put,if_true,if_false,List.map_toArray,List.map_cons,List.map_nil,Option.map_some,Option.map_none, *]);rw [Sem.run_bind,(sl49l (lI:=3) (l:=3) (o:=dof) (m:=5) (c:=dcap) (g:=dp) rfl ai ai)];rfl);refine ay ?_)
 have c0:x2'.cell? ⟨dg,0,none⟩=some (.slice none 0 0):=af hg ae;refine au ?_;obtain ⟨vA,x3',rA,oA,K2,eA⟩:=qt (w:=x2') (v:= .slice none 0 0) (n:=0) (m:=3) (c:=3) (xs:=[]) (news:=[.int .u8 i0,.int .u8 i1,.int .u8 i2]) (a:=⟨pa,0,none⟩) (World.ownsRow_nil _ _ _ _) rfl (fun j v hj=>by
  rw [Addr.add_lit];have hlt:=(List.getElem?_eq_some_iff.1 hj).1;have:=iA j (by simpa using hlt);rw [hj] at this;simp only [World.cell?,hp,Nat.zero_add];exact this) (by simp [Value.oneCell']) ai
 have K2:ah [] x2' x3':=⟨K2.size,fun b hb hn=>K2.ff b hb (by simp [blk,Value.ownBlock]),K2.os,K2.out⟩;obtain ⟨da,ca,rfl⟩:=iw oA ai;have da0:x2'.heap.size≤da:=by
  rcases eA with eA|eA
  ·simp [blk,Value.ownBlock] at eA
  ·simp [blk,Value.ownBlock] at eA;omega
 have lda:da<x3'.heap.size:=lj oA da (by simp [blk,Value.ownBlock]);have ldg2:=bf hg;clear eA;have D0:R3 x3' da 0:=⟨lda,i0,i1,i2,by have:=oA.cells (g:=da) rfl 0 _ rfl;rwa [Addr.add_lit] at this,by have:=oA.cells (g:=da) rfl 1 _ rfl;rwa [Addr.add_lit] at this,by have:=oA.cells (g:=da) rfl 2 _ rfl;rwa [Addr.add_lit] at this⟩;have hg:=K2.on hg ae;have S:=S.on K2 ae;have K4:=K4.trans K2 ae;have c0:x3'.cell? ⟨dg,0,none⟩=some (.slice none 0 0):=af hg ae;have f0:x3'.frozen? ⟨dg,0,none⟩=false:=ed hg
 (refine ad.app rfl rfl rfl bj aj aj rA ?_;refine ay ?_)
 refine ba ?_;have hg:=ee (i:=0) (v:=sO da 3 ca) hg;have K3:=ah.set (i:=0) (v:=sO da 3 ca) (b:=dg) (ah.refl [dg] x3') (.inl ae);have S:=S.on K3 (by simp;omega);have D0:=D0.on K3 (by simp;omega);have K4:=K4.trans K3 (fun b hb=>by simp at hb;exact .inr ai);clear c0 f0 K1 K2 K3 rA rC;refine kl [1,2,4,5,7,9,11,13,15,82,83,84,90,91] fun a1 hsz hK=> ?_;obtain ⟨v1,v2,v4,v5,v7,v9,v11,v13,v15,v82,v83,v84,v90,v91,-⟩:=hK
 have v1:a1.eval (.tmp 1)= .slice (some ⟨dp,dof+3,none⟩) 2 (dcap-3):=v1;have hda:da≠dg:=by omega
 generalize x3'.setCell ⟨dg,0,none⟩ (sO da 3 ca)=x4 at*;apply ad.inLoop;refine au ?_
 (apply ad.val rfl;(case ho=>rfl);(case hw=>exact bj);(case hr=>refine zpr ?_;first|(rw [Sem.run_bind,(sb _)];rfl)|exact (sb _));refine ay ?_)
 have hg:x4.heap[dg]? =some (.cells #[sO da 3 ca,.slice none 0 0] 49 (0,0)):=by simpa using hg
 have ldg3:=bf hg;have kq3:=K4.size;have lda3:=D0.1;obtain ⟨pb,hpb⟩:∃pb,x4.heap.size=pb:=⟨_,rfl⟩;have K4':=K4.alloc (o:= .cells #[.int .u8 0,.int .u8 0,.int .u8 0] 5);have S':=S.on (ah.alloc (o:= .cells #[.int .u8 0,.int .u8 0,.int .u8 0] 5) (ah.refl [] x4)) ae;have D0':=D0.on (ah.alloc (o:= .cells #[.int .u8 0,.int .u8 0,.int .u8 0] 5) (ah.refl [] x4)) ae;rw [hpb] at ldg3 kq3 lda3 ⊢;refine ad.ib (fun x=>Shs x bb (hdX 3)∧x.heap[dg]? =some (.cells #[sO da 3 ca,.slice none 0 0] 49 (0,0))∧x.heap[pb]? =some (.cells #[.int .u8 0,.int .u8 0,.int .u8 0] 5 (0,0))∧R3 x da 0∧ah [] u4 x) ⟨S',bw hg,fy hpb.symm,D0',K4'⟩ fun x5 ⟨S,hg,hp,D0,K4⟩=> ?_
 clear K4' S' D0';refine au ?_
 (apply ad.val rfl;(case ho=>rfl);(case hw=>exact bj);(case hr=>refine ay ?_;dsimp only [execOp,resolve];(try simp+decide only [eval_put,bn,eval_const,size_put,if_true,if_false,List.map_toArray,List.map_cons,List.map_nil,Option.map_some,Option.map_none, *]);rw [Sem.run_bind,(wm (hI:=2) (h:=2) (o:=dof+3) (m:=2) (c:=dcap-3) (g:=dp) rfl ai ai)];rfl);refine ay ?_)
 have KW:=K.trans K4 ae;have b3:=(KW.cell hd ae).trans d3;have b4:=(KW.cell hd ae).trans d4;obtain ⟨x6,cB,rC,hp,sB,iB,jB,K1⟩:=copy49 (w:=x5) (b:=pb) (sl:=2) (sc:=dcap-3) (n:=2) (a:=⟨dp,dof+3,none⟩) (cs:=[.int .u8 i3,.int .u8 i4]) hp rfl rfl rfl (fun j v hj=>by
  rw [Addr.add_lit];rcases j with _|_|j
  ·cases hj;exact b3
  ·cases hj;exact b4
  ·simp at hj) (by simp [Value.oneCell'])
 have rC:(Builtin.copy_ #[49,49] 3 #[sO pb 3 3,.slice (some ⟨dp,dof+3,none⟩) 2 (dcap-3)]).run GP x5= .ok (.int .i64 2) x6:=rC;refine ad.bi2 (run:=Builtin.copy_) rfl rfl rfl ?_ (fun _ _ _ _=>rfl) ?_ ?_ rC ?_
 focus (exact bj)
 focus (exact aj)
 focus (exact aj)
 refine ay ?_;have K4:=K4.trans K1 (fun b hb=>by simp at hb;exact .inr ai);have S:=S.on K1 (by simp;omega);have hg:=K1.on hg (by simp;omega);have D0:=D0.on K1 (by simp;omega);obtain ⟨vz,rz⟩:=sl49x (g:=dp) (o:=dof+3) (m:=2) (c:=dcap-3) (l:=2) (lI:=2) (w:=x6) rfl ai
 (apply ad.val rfl;(case ho=>rfl);(case hw=>exact bj);(case hr=>refine ay ?_;dsimp only [execOp,resolve];(try simp+decide only [eval_put,bn,eval_const,size_put,if_true,if_false,List.map_toArray,List.map_cons,List.map_nil,Option.map_some,Option.map_none, *]);rw [Sem.run_bind,rz];rfl);refine ay ?_)
 have c0:x6.cell? ⟨dg,1,none⟩=some (.slice none 0 0):=af hg ae;refine au ?_;obtain ⟨vB,x7,rA,oB,K2,eB⟩:=qt (w:=x6) (v:= .slice none 0 0) (n:=0) (m:=3) (c:=3) (xs:=[]) (news:=[.int .u8 i3,.int .u8 i4,.int .u8 0]) (a:=⟨pb,0,none⟩) (World.ownsRow_nil _ _ _ _) rfl (fun j v hj=>by
  rw [Addr.add_lit];simp only [World.cell?,hp,Nat.zero_add];rcases j with _|_|_|j
  ·rw [iB 0 ai];exact hj
  ·rw [iB 1 ai];exact hj
  ·rw [jB 2 ai];exact hj
  ·simp at hj) (by simp [Value.oneCell']) ai
 have K2:ah [] x6 x7:=⟨K2.size,fun b hb hn=>K2.ff b hb (by simp [blk,Value.ownBlock]),K2.os,K2.out⟩;obtain ⟨db,cb2,rfl⟩:=iw oB ai;have db0:x6.heap.size≤db:=by
  rcases eB with eB|eB
  ·simp [blk,Value.ownBlock] at eB
  ·simp [blk,Value.ownBlock] at eB;omega
 have ldb:db<x7.heap.size:=lj oB db (by simp [blk,Value.ownBlock]);have ldg4:=bf hg;clear eB;have D1:R3 x7 db 0:=⟨ldb,i3,i4,0,by have:=oB.cells (g:=db) rfl 0 _ rfl;rwa [Addr.add_lit] at this,by have:=oB.cells (g:=db) rfl 1 _ rfl;rwa [Addr.add_lit] at this,by have:=oB.cells (g:=db) rfl 2 _ rfl;rwa [Addr.add_lit] at this⟩;have hg:=K2.on hg ae;have S:=S.on K2 ae;have D0:=D0.on K2 ae;have K4:=K4.trans K2 ae;have c0:x7.cell? ⟨dg,1,none⟩=some (.slice none 0 0):=af hg ae;have f0:x7.frozen? ⟨dg,1,none⟩=false:=ed hg
 (refine ad.app rfl rfl rfl bj aj aj rA ?_;refine ay ?_)
 refine ba ?_;have hg:=ee (i:=1) (v:=sO db 3 cb2) hg;have K3:=ah.set (i:=1) (v:=sO db 3 cb2) (b:=dg) (ah.refl [dg] x7) (.inl ae);have S:=S.on K3 (by simp;omega);have D0:=D0.on K3 (by simp;omega);have D1:=D1.on K3 (by simp;omega);have K4:=K4.trans K3 (fun b hb=>by simp at hb;exact .inr ai);clear c0 f0 K1 K2 K3 rA rC rz;refine kl [2,4,5,7,9,11,13,15,82,83,84,90,91] fun a1 hsz hK=> ?_;obtain ⟨v2,v4,v5,v7,v9,v11,v13,v15,v82,v83,v84,v90,v91,-⟩:=hK
 generalize x7.setCell ⟨dg,1,none⟩ (sO db 3 cb2)=x8 at*;apply ad.inLoop;refine au ?_;refine kl [2,4,5,7,9,11,13,82,83,84] fun a1 hsz hK=> ?_;obtain ⟨v2,v4,v5,v7,v9,v11,v13,v82,v83,v84,-⟩:=hK
 apply ad.inLoop;refine au ?_;have hg:x8.heap[dg]? =some (.cells #[sO da 3 ca,sO db 3 cb2] 49 (0,0)):=by simpa using hg
 refine bt 58 (ai4 (w:=x8) (dc:=2) (K4.on hcb ae) (RR.on K4) (af hg ae) (af hg ae) (bf hg) D0 D1) fun v w2 hr=> ?_
 rename World=>x9
 obtain ⟨-,ob,t0,t1,t2,hv,P⟩:=hr;obtain rfl:=bh hv;have K48:=K4;have S8:=S.lt;have S:=S.on P.kp ae;have K4:=K4.trans P.kp ae;refine zls ?_;refine ad.ak ?_;have q1:=bf h9;have q2:=S.lt;have q3:=P.kp.size;have q4:=K.size;have q5:=K48.size;exact akw hf (K.trans K4 ae) P S ai S8 ai (K4.on h9 ae) ai ai bz aj aj aj aj aj
end
section
variable {w w1 w2:World}{dp dof dcap:Nat}{i0 i1 i2 i3 i4:Int}
theorem split_ok (hd:dp<w.heap.size)(d0:w.cell? ⟨dp,dof,none⟩=some (.int .u8 i0))(d1:w.cell? ⟨dp,dof+1,none⟩=some (.int .u8 i1))(d2:w.cell? ⟨dp,dof+2,none⟩=some (.int .u8 i2))(d3:w.cell? ⟨dp,dof+3,none⟩=some (.int .u8 i3))(d4:w.cell? ⟨dp,dof+4,none⟩=some (.int .u8 i4))(hc:5≤dcap):
  Calls GP 33 #[.agg (dx 0 0 1 1),.slice (some ⟨dp,dof,none⟩) 5 dcap] w (ae2 w):=by
 refine dn 33 164 Tryz.func33 fun a hf hsz hv=> ?_
 obtain ⟨v0,v1,-⟩:=ir hv;clear hv;simp only [dx] at v0;refine au ?_;refine ad.ib (fun u=>u.heap[w.heap.size]? =some (.cells (dx 0 0 1 1) 95 (0,0))∧ah [] w u) ⟨bu,ei⟩ fun u ⟨h2,K⟩=> ?_
 have c12:u.cell? ⟨w.heap.size,12,none⟩=some (.int .i64 0):=af h2 (by simp [dx]);have c13:u.cell? ⟨w.heap.size,13,none⟩=some (.int .i64 0):=af h2 (by simp [dx]);have f12:u.frozen? ⟨w.heap.size,12,none⟩=false:=ed h2;have f13:u.frozen? ⟨w.heap.size,13,none⟩=false:=ed h2;refine zlp ?_;refine zlv ?_;refine zlp ?_;have h2:=ee (i:=13) (v:= .int .i64 0) (ee (i:=12) (v:= .int .i64 5) h2);have e2:((dx 0 0 1 1).setIfInBounds 12 (.int .i64 5)).setIfInBounds 13 (.int .i64 0)=dx 5 0 1 1:=by simp [dx]
 rw [e2] at h2;have K:=ah.set (i:=13) (v:= .int .i64 0) (b:=w.heap.size) (ah.set (i:=12) (v:= .int .i64 5) (b:=w.heap.size) K (.inr (Nat.le_refl _))) (.inr (Nat.le_refl _));refine ad.ak ?_;refine ad.ib (fun u=>u.heap[w.heap.size]? =some (.cells (dx 5 0 1 1) 95 (0,0))∧ah [] w u) ⟨h2,K⟩ fun u ⟨h2,K⟩=> ?_
 clear c12 c13 f12 f13;refine kl [1,2,4,5] fun a1 hsz hK=> ?_;obtain ⟨v1,v2,v4,v5,-⟩:=hK
 refine au ?_;refine iq (qb h2 rfl) ?_;refine bt 56 (adl (idx:=0) ai) fun v w2 hr=> ?_
 obtain ⟨hv,K1⟩:=hr;obtain rfl:=bh hv;have h2:=K1.on h2 ae;have K:=K.trans K1 ae;clear K1;have c8:w2.cell? ⟨w.heap.size,8,none⟩=some (.int .i64 2):=af h2 (by simp [dx]);have c9:w2.cell? ⟨w.heap.size,9,none⟩=some (.int .i64 1):=af h2 (by simp [dx]);refine kl [1,2,4,5,28] fun a1 hsz hK=> ?_;obtain ⟨v1,v2,v4,v5,v28,-⟩:=hK
 refine au ?_;refine bt 57 new_ok fun v w2 hr=> ?_
 rename World=>u3
 obtain ⟨-,cb,g,cap,r0,r1,r2,hv,hcb,RR,K1⟩:=hr;obtain rfl:=bh hv;have h2:=K1.on h2 ae;have K:=K.trans K1 ae;clear K1 c8 c9;refine kl [1,2,4,5,39] fun a1 hsz hK=> ?_;obtain ⟨v1,v2,v4,v5,v39,-⟩:=hK
 refine au ?_;refine iq (hd36 h2) ?_;have c12:u3.cell? ⟨w.heap.size,12,none⟩=some (.int .i64 5):=af h2 (by simp [dx]);refine au ?_;refine bt 54 aim fun v w2 hr=> ?_
 rename World=>u4
 obtain ⟨-,g9,hv,h9,l9,K1⟩:=hr;obtain rfl:=bh hv;have h2:=K1.on h2 ae;have hcb:=K1.on hcb ae;have RR:=RR.on K1;have K:=K.trans K1 ae;clear K1 c12;have c8:u4.cell? ⟨w.heap.size,8,none⟩=some (.int .i64 2):=af h2 (by simp [dx]);have c9:u4.cell? ⟨w.heap.size,9,none⟩=some (.int .i64 1):=af h2 (by simp [dx]);refine kl [1,2,4,5,7,50] fun a1 hsz hK=> ?_;obtain ⟨v1,v2,v4,v5,v7,v50,-⟩:=hK
 refine au ?_
 (apply ad.val rfl;(case ho=>rfl);(case hw=>exact bj);(case hr=>refine zpr ?_;first|(rw [Sem.run_bind,(ao8 _)];rfl)|exact (ao8 _));refine ay ?_)
 obtain ⟨bb,hbb⟩:∃bb,u4.heap.size=bb:=⟨_,rfl⟩;have K4:=ah.alloc (o:= .cells z97 103) (ah.refl [] u4);have S:=Shs.new (w:=u4);rw [hbb] at S ⊢;have S:=S.congr (y:=hdX 0) (fun q hq=>rfl);refine ad.ib (fun x=>Shs x bb (hdX 0)∧ah [] u4 x) ⟨S,K4⟩ fun y0 ⟨S,K4⟩=> ?_
 clear c8 c9;refine au ?_;refine kl [1,2,4,5,7,9,11,61,62,63] fun a1 hsz hK=> ?_;obtain ⟨v1,v2,v4,v5,v7,v9,v11,v61,v62,v63,-⟩:=hK
 apply ad.loop;have k2:=K4.on h2 ae;refine au ?_;refine iq (qb k2 rfl) ?_;refine au ?_;obtain ⟨w5,r5,S,K5⟩:=S.head (p:=0) ai (vs:=dx 5 0 1 1) (b16:= .slice none 0 0) rfl (by simp [dx,Value.oneCell']) (by simp [hdX,jo]);have r5:(Instr.storeAt 95 (pO bb) (.agg (dx 5 0 1 1))).run GP y0= .ok () w5:=r5
 (refine ad.oa rfl rfl rfl bj aj et r5 ?_;refine ay ?_)
 have K4:=K4.trans K5 (fun b hb=>by simp at hb;exact .inr ai);have c13:w5.cell? ⟨bb,13,none⟩=some (.int .i64 0):=S.cell (p:=0) (k:=13) ai ai;have f13:=S.fz 13;refine ba ?_;have S:=(S.set (p:=0) (k:=13) (v:= .int .i64 0) ai ai).congr (y:=hdX 1) (fun q hq=>by
  rcases q with _|_|_|q
  ·simp [hdX,iv,dx,jo]
  ·simp [hdX,iv,dx,jo]
  ·simp [hdX,iv,dx,jo]
  ·omega)
 have K4:=ah.set (i:=0*17+13) (v:= .int .i64 0) (b:=bb) K4 (.inr ai);have S:Shs (w5.setCell ⟨bb,13,none⟩ (.int .i64 0)) bb (hdX 1):=S;have K4:ah [] u4 (w5.setCell ⟨bb,13,none⟩ (.int .i64 0)):=K4;clear c13 f13 r5 K5;refine kl [1,2,4,5,7,9,11,61,62,63] fun a1 hsz hK=> ?_;obtain ⟨v1,v2,v4,v5,v7,v9,v11,v61,v62,v63,-⟩:=hK
 generalize w5.setCell ⟨bb,13,none⟩ (.int .i64 0)=y1 at*;apply ad.inLoop;have k2:=K4.on h2 ae;refine au ?_;refine iq (qb k2 rfl) ?_;refine au ?_;obtain ⟨w5,r5,S,K5⟩:=S.head (p:=1) ai (vs:=dx 5 0 1 1) (b16:= .slice none 0 0) rfl (by simp [dx,Value.oneCell']) (by simp [hdX,jo]);have r5:(Instr.storeAt 95 (.pointer (some ⟨bb,17,none⟩)) (.agg (dx 5 0 1 1))).run GP y1= .ok () w5:=r5
 (refine ad.oa rfl rfl rfl bj aj et r5 ?_;refine ay ?_)
 have K4:=K4.trans K5 (fun b hb=>by simp at hb;exact .inr ai);have c13:w5.cell? ⟨bb,30,none⟩=some (.int .i64 0):=S.cell (p:=1) (k:=13) ai ai;have f13:=S.fz 30;refine ba ?_;have S:=(S.set (p:=1) (k:=13) (v:= .int .i64 1) ai ai).congr (y:=hdX 2) (fun q hq=>by
  rcases q with _|_|_|q
  ·simp [hdX,iv,dx,jo]
  ·simp [hdX,iv,dx,jo]
  ·simp [hdX,iv,dx,jo]
  ·omega)
 have K4:=ah.set (i:=1*17+13) (v:= .int .i64 1) (b:=bb) K4 (.inr ai);have S:Shs (w5.setCell ⟨bb,30,none⟩ (.int .i64 1)) bb (hdX 2):=S;have K4:ah [] u4 (w5.setCell ⟨bb,30,none⟩ (.int .i64 1)):=K4;clear c13 f13 r5 K5;refine kl [1,2,4,5,7,9,11,61,62,63] fun a1 hsz hK=> ?_;obtain ⟨v1,v2,v4,v5,v7,v9,v11,v61,v62,v63,-⟩:=hK
 generalize w5.setCell ⟨bb,30,none⟩ (.int .i64 1)=y2 at*;apply ad.inLoop;have k2:=K4.on h2 ae;refine au ?_;refine iq (qb k2 rfl) ?_;refine au ?_;obtain ⟨w5,r5,S,K5⟩:=S.head (p:=2) ai (vs:=dx 5 0 1 1) (b16:= .slice none 0 0) rfl (by simp [dx,Value.oneCell']) (by simp [hdX,jo]);have r5:(Instr.storeAt 95 (.pointer (some ⟨bb,34,none⟩)) (.agg (dx 5 0 1 1))).run GP y2= .ok () w5:=r5
 (refine ad.oa rfl rfl rfl bj aj et r5 ?_;refine ay ?_)
 have K4:=K4.trans K5 (fun b hb=>by simp at hb;exact .inr ai);have c13:w5.cell? ⟨bb,47,none⟩=some (.int .i64 0):=S.cell (p:=2) (k:=13) ai ai;have f13:=S.fz 47;refine ba ?_;have S:=(S.set (p:=2) (k:=13) (v:= .int .i64 2) ai ai).congr (y:=hdX 3) (fun q hq=>by
  rcases q with _|_|_|q
  ·simp [hdX,iv,dx,jo]
  ·simp [hdX,iv,dx,jo]
  ·simp [hdX,iv,dx,jo]
  ·omega)
 have K4:=ah.set (i:=2*17+13) (v:= .int .i64 2) (b:=bb) K4 (.inr ai);have S:Shs (w5.setCell ⟨bb,47,none⟩ (.int .i64 2)) bb (hdX 3):=S;have K4:ah [] u4 (w5.setCell ⟨bb,47,none⟩ (.int .i64 2)):=K4;clear c13 f13 r5 K5;refine kl [1,2,4,5,7,9,11,61,62,63] fun a1 hsz hK=> ?_;obtain ⟨v1,v2,v4,v5,v7,v9,v11,v61,v62,v63,-⟩:=hK
 generalize w5.setCell ⟨bb,47,none⟩ (.int .i64 2)=y3 at*;refine zxl ?_;exact alx hf hd d0 d1 d2 d3 d4 hc K h2 hcb RR h9 hbb S K4 bz aj aj aj aj aj aj aj
end
def tk:Array Value:=#[.int .i64 16777216,.slice none 0 0,.slice none 0 0,.slice none 0 0,.slice none 0 0]
def m80 (d:Nat):Array Value:=#[pO d,.bool false,.bool false,.slice none 0 0,.int .i64 0,.int .i64 0,.bool false,.int .i64 0,.int .i64 0,.int .i64 0]
section
variable {w w1 w2:World}{d:Nat}{v:Value}
theorem ao9:Calls GP 100 #[.int .i64 16777216] w fun e w2=>e= .returned (pO w.heap.size)∧w2.heap[w.heap.size]? =some (.cells tk 128 (0,0))∧ah [] w w2:=by
 refine dn 100 12 Tryz.func100 fun a hf hsz hv=> ?_
 obtain ⟨v0,-⟩:=ie hv;clear hv;refine au ?_;exact ad.dq rfl hf rfl bz aj ⟨rfl,bu,ei⟩
theorem amo:Calls GP 102 #[.int .i64 16777216] w fun e w2=>(∃v,e= .returned v)∧∃d now kept,e= .returned (pO d)∧Drv w2 d 16777216 0 now kept (.slice none 0 0)∧w2.heap[now]? =some (.map #[] 0)∧w2.heap[kept]? =some (.map #[] 0)∧(now≠kept∧now≠d∧kept≠d)∧(w.heap.size≤d∧w.heap.size≤now∧w.heap.size≤kept)∧ah [] w w2:=by
 refine dn 102 14 Tryz.func102 fun a hf hsz hv=> ?_
 obtain ⟨v0,-⟩:=ie hv;clear hv;refine au ?_;exact ad.dq rfl hf rfl bz aj ⟨⟨_,rfl⟩,w.heap.size+2,w.heap.size,w.heap.size+1,rfl,fy ae,bw (bw bu),bw (fy ae),⟨by omega,by omega,by omega⟩,⟨by omega,by omega,by omega⟩,(((ah.refl [] w).alloc).alloc).alloc⟩
theorem ab9:Calls GP 63 #[pO d] w fun e w2=>e= .returned (pO w.heap.size)∧Wnd w2 w.heap.size (pO d) false false (.slice none 0 0) 0 0∧ah [] w w2:=by
 refine dn 63 8 Tryz.func63 fun a hf hsz hv=> ?_
 obtain ⟨v0,-⟩:=ie hv;clear hv;refine au ?_;exact ad.dq rfl hf rfl bz aj ⟨rfl,bu,ei⟩
theorem abn:Calls GP 61 #[pO d] w fun e w2=>e= .returned (pO w.heap.size)∧w2.heap[w.heap.size]? =some (.cells (m80 d) 80 (0,0))∧ah [] w w2:=by
 refine dn 61 8 Tryz.func61 fun a hf hsz hv=> ?_
 obtain ⟨v0,-⟩:=ie hv;clear hv;refine au ?_;exact ad.dq rfl hf rfl bz aj ⟨rfl,bu,ei⟩
theorem ady:Calls GP 65 #[.slice none 0 0] w fun e w2=>e= .returned (.slice none 0 0)∧w2=w:=by
 refine dn 65 27 Tryz.func65 fun a hf hsz hv=> ?_
 obtain ⟨v0,-⟩:=ie hv;clear hv;refine au ?_;apply ad.loop;refine au ?_;exact ad.dq rfl hf rfl bz aj ⟨rfl,rfl⟩
theorem ae3:Calls GP 64 #[.int .i64 16777216,.slice none 0 0] w fun e w2=>(∃v,e= .returned v)∧∃d now kept,e= .returned (pO d)∧Drv w2 d 16777216 0 now kept (.slice none 0 0)∧w2.heap[now]? =some (.map #[] 0)∧w2.heap[kept]? =some (.map #[] 0)∧(now≠kept∧now≠d∧kept≠d)∧(w.heap.size≤d∧w.heap.size≤now∧w.heap.size≤kept)∧ah [] w w2:=by
 refine dn 64 77 Tryz.func64 fun a hf hsz hv=> ?_
 obtain ⟨v0,v1,-⟩:=ir hv;clear hv;refine au ?_;refine bt 102 amo fun v w2 hr=> ?_
 obtain ⟨-,d,now,kept,hv,H⟩:=hr;obtain rfl:=bh hv;refine au ?_;apply ad.loop;refine au ?_;exact ad.dq rfl hf rfl bz aj ⟨⟨_,rfl⟩,d,now,kept,rfl,H⟩
theorem ab1:Calls GP 62 #[.int .i64 16777216,.slice none 0 0] w fun e w2=>e= .returned (pO w.heap.size)∧w2.heap[w.heap.size]? =some (.cells tk 128 (0,0))∧ah [] w w2:=by
 refine dn 62 110 Tryz.func62 fun a hf hsz hv=> ?_
 obtain ⟨v0,v1,-⟩:=ir hv;clear hv;refine au ?_;refine bt 100 ao9 fun v w2 hr=> ?_
 obtain ⟨hv,hb,K⟩:=hr;obtain rfl:=bh hv;refine au ?_;apply ad.loop;have c2:w2.cell? ⟨w.heap.size,2,none⟩=some (.slice none 0 0):=af hb (by simp [tk]);have c3:w2.cell? ⟨w.heap.size,3,none⟩=some (.slice none 0 0):=af hb (by simp [tk]);have f3:w2.frozen? ⟨w.heap.size,3,none⟩=false:=ed hb;refine ba ?_;have hb:=ee (i:=3) (v:= .slice none 0 0) hb;exact ad.dq rfl hf rfl bz aj ⟨rfl,by simpa [tk] using hb,ah.set K (.inr (Nat.le_refl _))⟩
end
section
variable {w w1 w2:World}{v:Value}
theorem app23 {n m c:Nat}{xs news:List Value}{a:Addr}(h:w.ownsRow 0 68 1 v n xs)(hl:news.length=m)(hnews:∀j u,news[j]? =some u→w.cell? (a.add j)=some u)(h1:∀u∈news,u.oneCell'=true)(hb:n+m<1000000000):
  ∃v' w',(Builtin.append_ #[23,23] 23 #[v,.slice (some a) m c]).run GP w= .ok v' w'∧w'.ownsRow 0 68 1 v' (n+m) (xs++news)∧ah (blk v) w w'∧(blk v'=blk v∨blk v'=[w.heap.size]):=by
 obtain ⟨v',w',r1,r2,r3,r4,r5⟩:=run_append_own_at (P:=GP) w 0 23 23 68 ((Tryz.prog.info? 68).getD default) (.nilIface) 1 16 (by rw [fb];kernel_rfl) (by rw [ek];kernel_rfl) du du du rfl ai v n xs h a m c news ai hnews h1 (by simp only [maxLen];omega) ai (Nat.zero_le _);exact ⟨v',w',r1,r2,ln r3,r5.imp (fun h=>by simp [blk,h]) fun h=>by simp [blk,h]⟩
theorem app24 {n m c:Nat}{xs news:List Value}{a:Addr}(h:w.ownsRow 0 73 1 v n xs)(hl:news.length=m)(hnews:∀j u,news[j]? =some u→w.cell? (a.add j)=some u)(h1:∀u∈news,u.oneCell'=true)(hb:n+m<1000000000):
  ∃v' w',(Builtin.append_ #[24,24] 24 #[v,.slice (some a) m c]).run GP w= .ok v' w'∧w'.ownsRow 0 73 1 v' (n+m) (xs++news)∧ah (blk v) w w'∧(blk v'=blk v∨blk v'=[w.heap.size]):=by
 obtain ⟨v',w',r1,r2,r3,r4,r5⟩:=run_append_own_at (P:=GP) w 0 24 24 73 ((Tryz.prog.info? 73).getD default) (.pointer none) 1 8 (by rw [fb];kernel_rfl) (by rw [ek];kernel_rfl) du du du rfl ai v n xs h a m c news ai hnews h1 (by simp only [maxLen];omega) ai (Nat.zero_le _);exact ⟨v',w',r1,r2,ln r3,r5.imp (fun h=>by simp [blk,h]) fun h=>by simp [blk,h]⟩
theorem app25 {n m c:Nat}{xs news:List Value}{a:Addr}(h:w.ownsRow 0 75 1 v n xs)(hl:news.length=m)(hnews:∀j u,news[j]? =some u→w.cell? (a.add j)=some u)(h1:∀u∈news,u.oneCell'=true)(hb:n+m<1000000000):
  ∃v' w',(Builtin.append_ #[25,25] 25 #[v,.slice (some a) m c]).run GP w= .ok v' w'∧w'.ownsRow 0 75 1 v' (n+m) (xs++news)∧ah (blk v) w w'∧(blk v'=blk v∨blk v'=[w.heap.size]):=by
 obtain ⟨v',w',r1,r2,r3,r4,r5⟩:=run_append_own_at (P:=GP) w 0 25 25 75 ((Tryz.prog.info? 75).getD default) (.pointer none) 1 8 (by rw [fb];kernel_rfl) (by rw [ek];kernel_rfl) du du du rfl ai v n xs h a m c news ai hnews h1 (by simp only [maxLen];omega) ai (Nat.zero_le _);exact ⟨v',w',r1,r2,ln r3,r5.imp (fun h=>by simp [blk,h]) fun h=>by simp [blk,h]⟩
end
end Go.Proofs.YthgpdljlehklhaaGreat.wk
