/- Part QBH of the proof that DropRefused answers true whatever its input. No condition. -/
import Derived.Test.YthgpdljlehklhaaGreatQBG
import Derived.Test.YthgpdljlehklhaaGreatQAW
import Derived.Test.YthgpdljlehklhaaGreatQBD
import Derived.Test.YthgpdljlehklhaaGreatQBE
import Derived.Test.YthgpdljlehklhaaGreatQBC
set_option maxRecDepth 100000
namespace Go.Proofs.YthgpdljlehklhaaGreat.wk
open Go Go.Conc zr dr wd drv
set_option linter.unusedVariables false
set_option maxHeartbeats 4000000
section
variable {w w1 w2 u:World}{pb cap:Nat}
def ptr (b:Nat):Value:=pO b
def SetQ (w:World):Ending→World→Prop:=fun e w2=>(∃v,e= .returned v)∧∃(D W M:Value)(s t lo1 lo2 hi g0 d0 now0 kept0 m0 b0 g1 d1 now1 kept1 m1 b1 g2 d2 now2 kept2 m2 b2:Nat),e= .returned (.tuple #[.agg #[D,W,M,ptr s,ptr t],.bool true])∧w2.heap[s]? =some (.cells (df D 2 1 16 1 0) 41 (0,0))∧w2.heap[t]? =some (.cells (df M 2 1 16 1 0) 107 (0,0))∧w.heap.size≤s∧
 w2.ownsRow w.heap.size 68 1 D 3 [dk g0,dk g1,dk g2]∧w2.ownsRow w.heap.size 73 1 W 3 [ptr g0,ptr g1,ptr g2]∧w2.ownsRow w.heap.size 75 1 M 3 [ptr m0,ptr m1,ptr m2]∧
 Pl1 w2 w.heap.size lo1 g0 d0 now0 kept0 m0 b0∧Pl1 w2 lo1 lo2 g1 d1 now1 kept1 m1 b1∧Pl1 w2 lo2 hi g2 d2 now2 kept2 m2 b2∧ah [] w w2
theorem u36x:GP.underlying 36=some (Tryz.prog.underlying 36).get! :=by kernel_rfl
theorem u37x:GP.underlying 37=some (Tryz.prog.underlying 37).get! :=by kernel_rfl
theorem u39x:GP.underlying 39=some (Tryz.prog.underlying 39).get! :=by kernel_rfl
theorem lx36 {b:Nat}{dv:Value}{K M B ep cn:Int} {e z}(h:u.heap[b]? =some (.cells (df dv K M B ep cn) e z)):(Instr.loadAt 36 (.pointer (some ⟨b,1,none⟩))).run GP u= .ok (.agg #[.int .i64 K,.int .i64 M,.int .i64 B]) u:=
 run_loadAt_mid (P:=GP) u b 1 36 [.int .i64 K,.int .i64 M,.int .i64 B] _ (jy h fun j hj=>by
  simp at hj;rcases j with _|_|_|j <;> first|rfl|omega) u36x du (by rw [ek];kernel_rfl)
theorem lx37 {b:Nat}{dv:Value}{K M B ep cn:Int} {e z}(h:u.heap[b]? =some (.cells (df dv K M B ep cn) e z)):(Instr.loadAt 37 (.pointer (some ⟨b,4,none⟩))).run GP u= .ok (.agg #[.int .u8 0,.int .u8 0,.int .u8 0,.int .u8 0,.int .u8 0,.int .u8 0,.int .u8 0,.int .u8 0]) u:=
 run_loadAt_mid (P:=GP) u b 4 37 [.int .u8 0,.int .u8 0,.int .u8 0,.int .u8 0,.int .u8 0,.int .u8 0,.int .u8 0,.int .u8 0] _ (jy h fun j hj=>by
  simp at hj;rcases j with _|_|_|_|_|_|_|_|j <;> first|rfl|omega) u37x du (by rw [ek];kernel_rfl)
theorem lx39 {b:Nat}{dv:Value}{K M B ep cn:Int} {e z}(h:u.heap[b]? =some (.cells (df dv K M B ep cn) e z)):(Instr.loadAt 39 (.pointer (some ⟨b,12,none⟩))).run GP u= .ok (.agg #[.int .i64 ep,.int .i64 cn]) u:=
 run_loadAt_mid (P:=GP) u b 12 39 [.int .i64 ep,.int .i64 cn] _ (jy h fun j hj=>by
  simp at hj;rcases j with _|_|j <;> first|rfl|omega) u39x du (by rw [ek];kernel_rfl)
theorem bl41 {q n c:Nat}(w:World):(Instr.build 41 #[(0,sO q n c),(1,.agg #[.int .i64 2,.int .i64 1,.int .i64 16]),(2,.agg #[.int .u8 0,.int .u8 0,.int .u8 0,.int .u8 0,.int .u8 0,.int .u8 0,.int .u8 0,.int .u8 0]),(3,.agg #[.int .i64 1,.int .i64 0])]).run GP w= .ok (.agg (df (sO q n c) 2 1 16 1 0)) w:=by kernel_rfl
theorem bl107 {q n c:Nat}(w:World):(Instr.build 107 #[(0,sO q n c),(1,.agg #[.int .i64 2,.int .i64 1,.int .i64 16]),(2,.agg #[.int .u8 0,.int .u8 0,.int .u8 0,.int .u8 0,.int .u8 0,.int .u8 0,.int .u8 0,.int .u8 0]),(3,.agg #[.int .i64 1,.int .i64 0])]).run GP w= .ok (.agg (df (sO q n c) 2 1 16 1 0)) w:=by kernel_rfl
theorem bl31 {D W M:Value}{s t:Nat}(w:World):(Instr.build 31 #[(0,.agg #[D,W,M]),(1,pO s),(2,pO t)]).run GP w= .ok (.agg #[D,W,M,ptr s,ptr t]) w:=by kernel_rfl
theorem u31:GP.underlying 31=some (Tryz.prog.underlying 31).get! :=by kernel_rfl
theorem i31 {cs:Array Value}(h:cs.size=5):(GP.info? 31).map (·.size)=some cs.size:=by rw [ek,h];kernel_rfl
theorem ldR31 {b:Nat}{cs:Array Value}{e:TypeId} {z}(h:w.heap[b]? =some (.cells cs e z))(hs:cs.size=5):(Instr.loadAt 31 (pO b)).run GP w= .ok (.agg cs) w:=pg u31 du (i31 hs) h
theorem lvR31 {b:Nat}{cs:Array Value}{e:TypeId} {z}(h:w.heap[b]? =some (.cells cs e z))(hs:cs.size=5):(loadVar 31 ⟨b,0,none⟩).run GP w= .ok (.agg cs) w:=ks u31 du (i31 hs) h
theorem st31 {b:Nat}{cs vs:Array Value}{e:TypeId}(h:w.heap[b]? =some (.cells cs e (0,0)))(hs:cs.size=5)(hv:vs.size=5)(h1:vs.all (·.oneCell')=true):∃w2,(Instr.storeAt 31 (pO b) (.agg vs)).run GP w= .ok () w2∧w2.heap[b]? =some (.cells vs e (0,0))∧ah [b] w w2∧w2.heap.size=w.heap.size:=kg (i31 hv) h1 ai h
theorem mkset_ok (hp:pb<w.heap.size)(hP:∀i,i<3→w.rangeAt pb (i*9) pl9.toList):Calls GP 12 #[.agg (df (sO pb 3 cap) 2 1 16 1 0)] w (SetQ w):=by
 refine dn 12 35 Tryz.func12 fun a hf hsz hv=> ?_
 unfold SetQ;obtain ⟨v0,-⟩:=ie hv;clear hv;simp only [df] at v0;refine au ?_;refine ad.ib (fun u=>u.heap[w.heap.size]? =some (.cells (df (sO pb 3 cap) 2 1 16 1 0) 52 (0,0))∧u.heap[w.heap.size+1]? =some (.cells #[.slice none 0 0,.slice none 0 0,.slice none 0 0,.pointer none,.pointer none] 31 (0,0))∧ah [] w u) ⟨bw bu,fy ae,ei⟩ fun u ⟨h1,h2,K⟩=> ?_
 refine kl [1,2,3,8] fun a1 hsz hK=> ?_;obtain ⟨v1,v2,v3,v8,-⟩:=hK
 have c0:u.cell? ⟨w.heap.size,0,none⟩=some (sO pb 3 cap):=af h1 (by simp [df]);have hP2:∀i,i<3→u.rangeAt pb (i*9) pl9.toList:=fun i hi j v hj=>(K.cell hp ae).trans (hP i hi j v hj)
 have su:=K.size;refine au ?_;refine bt 36 (make_ok (cap:=cap) ai hP2) fun v w2 hr=> ?_
 rename World=>x1
 unfold MakQ at hr;obtain ⟨-,D,W,M,lo1,lo2,hi,g0,d0,now0,kept0,m0,b0,g1,d1,now1,kept1,m1,b1,g2,d2,now2,kept2,m2,b2,hv,oD,oW,oM,P0,P1,P2,K1⟩:=hr;obtain rfl:=bh hv;have h1:=K1.on h1 ae;have h2:=K1.on h2 ae;have sx:=K1.size;have K:=K.trans K1 ae;obtain ⟨qD,cD,rfl⟩:=iw oD ai;obtain ⟨qW,cW,rfl⟩:=iw oW ai;obtain ⟨qM,cM,rfl⟩:=iw oM ai;clear K1 hv c0 hP2;refine au ?_;obtain ⟨x2,r5,h3,K5,-⟩:=st27 (w:=World.alloc x1 (.cells #[.slice none 0 0,.slice none 0 0,.slice none 0 0] 27)) (vs:=#[sO qD 3 cD,sO qW 3 cW,sO qM 3 cM]) bu rfl rfl (by simp [Value.oneCell'])
 (refine ad.jq rfl rfl rfl bj aj et r5 ?_;refine ay ?_)
 have K5:=(ah.alloc (ah.refl [] _)).trans K5 (T:=[_]) (S:=[]) ae;have h1:=K5.on h1 ae;have h2:=K5.on h2 ae;have sy:=K5.size;have K:=K.trans K5 ae;have oD:=bq oD K5 ae;have oW:=bq oW K5 ae;have oM:=bq oM K5 ae;have P0:=P0.on K5 ef.nil;have P1:=P1.on K5 ef.nil;have P2:=P2.on K5 ef.nil;have ge:u.heap.size≤x1.heap.size:=sx;obtain ⟨b4,hb4⟩:∃b,x1.heap.size=b:=⟨_,rfl⟩;rw [hb4] at h3;have c0:x2.cell? ⟨b4,0,none⟩=some (sO qD 3 cD):=af h3 ae;have c2:x2.cell? ⟨b4,2,none⟩=some (sO qM 3 cM):=af h3 ae;refine au ?_;refine kl [1,2,3,4,5] fun a1 hsz hK=> ?_;obtain ⟨v1,v2,v3,v4,v5,-⟩:=hK
 try rw [hb4] at v4
 clear K5;refine iq (ldR27 h3 rfl) ?_;refine au ?_;refine iq (lx36 h1) ?_;refine au ?_;refine iq (lx37 h1) ?_;refine au ?_;refine iq (lx39 h1) ?_;have e:=bl41 (q:=qD) (n:=3) (c:=cD) x2;simp only [df] at e
 (apply ad.val rfl;(case ho=>rfl);(case hw=>exact bj);(case hr=>refine zpr ?_;first|(rw [Sem.run_bind,e];rfl)|exact e);refine ay ?_)
 clear e;refine zlv ?_;refine ad.ib (fun y=>y.heap[x2.heap.size]? =some (.cells (df (sO qD 3 cD) 2 1 16 1 0) 41 (0,0))∧ah [] x2 y) ⟨bu,ei⟩ fun x3 ⟨h4,K5⟩=> ?_
 have h1:=K5.on h1 ae;have h2:=K5.on h2 ae;have h3:=K5.on h3 ae;have K:=K.trans K5 ae;have oD:=bq oD K5 ae;have oW:=bq oW K5 ae;have oM:=bq oM K5 ae;have P0:=P0.on K5 ef.nil;have P1:=P1.on K5 ef.nil;have P2:=P2.on K5 ef.nil;obtain ⟨s,hs4⟩:∃b,x2.heap.size=b:=⟨_,rfl⟩;rw [hs4] at h4;have ls4:w.heap.size≤s:=by omega
 have c2:x3.cell? ⟨b4,2,none⟩=some (sO qM 3 cM):=af h3 ae;refine kl [1,2,3,4,5,12,22] fun a1 hsz hK=> ?_;obtain ⟨v1,v2,v3,v4,v5,v12,v22,-⟩:=hK
 try rw [hs4] at v22
 clear K5;refine au ?_;refine iq (lx36 h1) ?_;refine au ?_;refine iq (lx37 h1) ?_;refine au ?_;refine iq (lx39 h1) ?_;have e:=bl107 (q:=qM) (n:=3) (c:=cM) x3;simp only [df] at e
 (apply ad.val rfl;(case ho=>rfl);(case hw=>exact bj);(case hr=>refine zpr ?_;first|(rw [Sem.run_bind,e];rfl)|exact e);refine ay ?_)
 clear e;refine zlv ?_;refine ad.ib (fun y=>y.heap[x3.heap.size]? =some (.cells (df (sO qM 3 cM) 2 1 16 1 0) 107 (0,0))∧ah [] x3 y) ⟨bu,ei⟩ fun x4 ⟨h5,K5⟩=> ?_
 have h1:=K5.on h1 ae;have h2:=K5.on h2 ae;have h3:=K5.on h3 ae;have h4:=K5.on h4 ae;have K:=K.trans K5 ae;have oD:=bq oD K5 ae;have oW:=bq oW K5 ae;have oM:=bq oM K5 ae;have P0:=P0.on K5 ef.nil;have P1:=P1.on K5 ef.nil;have P2:=P2.on K5 ef.nil;obtain ⟨t,ht4⟩:∃b,x3.heap.size=b:=⟨_,rfl⟩;rw [ht4] at h5;refine kl [1,2,3,4,5,12,22,32] fun a1 hsz hK=> ?_;obtain ⟨v1,v2,v3,v4,v5,v12,v22,v32,-⟩:=hK
 try rw [ht4] at v32
 clear K5
 (apply ad.val rfl;(case ho=>rfl);(case hw=>exact bj);(case hr=>refine zpr ?_;first|(rw [Sem.run_bind,(bl31 _)];rfl)|exact (bl31 _));refine ay ?_)
 refine au ?_;obtain ⟨x5,r5,h6,K5,-⟩:=st31 (vs:=#[sO qD 3 cD,sO qW 3 cW,sO qM 3 cM,ptr s,ptr t]) h2 rfl rfl (by simp [Value.oneCell',ptr])
 (refine ad.jq rfl rfl rfl bj aj et r5 ?_;refine ay ?_)
 refine au ?_;have hS:=ef.one h2 (by decide);have dD:∀b∈blk (sO qD 3 cD),b∉[w.heap.size+1]:=fun b hb e=>by
  rw [List.mem_singleton] at e;subst e;obtain ⟨-,cur,hc⟩:=ew oD _ hb;rw [h2] at hc;cases hc
 have lD:∀b∈blk (sO qD 3 cD),w.heap.size≤b:=fun b hb=>Nat.le_trans su (ew oD b hb).1
 have dW:∀b∈blk (sO qW 3 cW),b∉[w.heap.size+1]:=fun b hb e=>by
  rw [List.mem_singleton] at e;subst e;obtain ⟨-,cur,hc⟩:=ew oW _ hb;rw [h2] at hc;cases hc
 have lW:∀b∈blk (sO qW 3 cW),w.heap.size≤b:=fun b hb=>Nat.le_trans su (ew oW b hb).1
 have dM:∀b∈blk (sO qM 3 cM),b∉[w.heap.size+1]:=fun b hb e=>by
  rw [List.mem_singleton] at e;subst e;obtain ⟨-,cur,hc⟩:=ew oM _ hb;rw [h2] at hc;cases hc
 have lM:∀b∈blk (sO qM 3 cM),w.heap.size≤b:=fun b hb=>Nat.le_trans su (ew oM b hb).1
 have ns:s∉[w.heap.size+1]:=fun e=>by
  rw [List.mem_singleton] at e;rw [e,h2] at h4;cases h4
 have nt:t∉[w.heap.size+1]:=fun e=>by
  rw [List.mem_singleton] at e;rw [e,h2] at h5;cases h5
 (apply ad.abv rfl hf rfl (hl:=(lvR31 h6 rfl));(case hd=>simp [hsz]);(case hs=>exact et);(case ht=>exact et))
 exact ⟨⟨_,rfl⟩,sO qD 3 cD,sO qW 3 cW,sO qM 3 cM,s,t,lo1,lo2,hi,g0,d0,now0,kept0,m0,b0,g1,d1,now1,kept1,m1,b1,g2,d2,now2,kept2,m2,b2,rfl,K5.on h4 ns,K5.on h5 nt,ls4,bq (je oD lD) K5 dD,bq (je oW lW) K5 dW,bq (je oM lM) K5 dM,(P0.wide su).on K5 hS,P1.on K5 hS,P2.on K5 hS,K.trans K5 (fun b hb=> .inr (by simp at hb;omega))⟩
end
end Go.Proofs.YthgpdljlehklhaaGreat.wk
namespace Go.Proofs.YthgpdljlehklhaaGreat.rn
open Go Go.Conc zr dr wd drv wk la
set_option linter.unusedVariables false
set_option maxHeartbeats 4000000
section
variable {w w1 w2 u:World}{bd cap s dp dof dcap:Nat}{g d now x q:Nat→Nat}{i0 i1 i2 i3 i4:Int}{c:Array Value}
theorem bldH [Bg] (w:World):(Instr.build 95 #[(0,.agg #[.int .u8 0,.int .u8 0,.int .u8 0,.int .u8 0,.int .u8 0,.int .u8 0,.int .u8 0,.int .u8 0]),(1,.agg #[.int .i64 2,.int .i64 1,.int .i64 16]),(2,.string kA)]).run GP w= .ok (.agg (dx 0 0 0 0)) w:=by kernel_rfl
theorem i39 [Bg] (h:c.size=2):(GP.info? 39).map (·.size)=some c.size:=by rw [ek,h];kernel_rfl
theorem ae7 [Bg] {bb i:Nat}(h:adr w bb i)(hb:bb<w.heap.size)(hk:ah [] w u):adr u bb i:=by
 obtain ⟨cb,pb,po,cc,c2,ch,h1,h2,h3,h4,h5,h6,h7⟩:=h;have hs:=hk.size;exact ⟨cb,pb,po,cc,c2,ch,fun j v hj=>(hk.cell hb ae).trans (h1 j v hj),(hk.cell h3 ae).trans h2,by omega,by omega,h5,fun j x hj=>(hk.cell h4 ae).trans (h6 j x hj),h7⟩
def PutQ [Bg] (w:World)(bd cap s:Nat)(g d now:Nat→Nat):Ending→World→Prop:=fun e w2=>(∃v,e= .returned v)∧e= .returned (.int .i64 0)∧(∃x q,St w2 bd g d (ftH g d now x q) (PH g d now x q)∧∀i,i<3→w.heap.size≤x i∧w.heap.size≤q i)∧w2.heap[s]? =some (.cells (df (sO bd 3 cap) 2 1 16 1 1) 41 (0,0))∧ah (s::ft3 (ga g d now)) w w2
theorem aau [Bg]:gz (PutQ w bd cap s g d now):=fun e w2 τ dd ⟨h1,h2,⟨x,q,h3,h4⟩,h5,h6⟩=>⟨h1,h2,⟨x,q,h3.tpH τ dd,h4⟩,h5,h6.tp τ dd⟩
theorem put_uc [Bg] (HS:St w bd g d (ga g d now) (PE g d now))(hs:w.heap[s]? =some (.cells (df (sO bd 3 cap) 2 1 16 1 0) 41 (0,0)))(hn:∀i,i<3→s∉ga g d now i)(hsb:s≠bd)(hds:dp≠s)(d0:w.cell? ⟨dp,dof,none⟩=some (.int .u8 i0))(d1:w.cell? ⟨dp,dof+1,none⟩=some (.int .u8 i1))(d2:w.cell? ⟨dp,dof+2,none⟩=some (.int .u8 i2))(d3:w.cell? ⟨dp,dof+3,none⟩=some (.int .u8 i3))(d4:w.cell? ⟨dp,dof+4,none⟩=some (.int .u8 i4))(hc:5≤dcap):
  UCx GP Tryz.prog.funcs 11 #[pO s,.chan none,.string kA,.slice (some ⟨dp,dof,none⟩) 5 dcap] w (PutQ w bd cap s g d now):=by
 refine uu 11 (n:=89) aau (fun e w2 h=>h.2.2.2.2.size) Tryz.func11 rfl a9 rfl rfl fun E a hf hsz hv=> ?_
 obtain ⟨v0,v1,v2,v3,-⟩:=za4 hv;clear hv;have hsl:=bf hs;have hdl:dp<w.heap.size:=by
  obtain ⟨_,_,_,h⟩:=aa9 d0;exact bf h
 have hdn:∀i,i<3→dp∉ga g d now i:=fun i hi=>nin_u8 (HS.dr i hi) d0
 refine ic ?_;have hS:gz fun e (w2:World)=>(∃v,e= .returned v)∧e= .returned (.int .i64 0)∧ah [] w w2:=fun e w2 τ dd ⟨h1,h2,h3⟩=>⟨h1,h2,h3.tp τ dd⟩
 (refine cu.fn 31 _ rfl rfl rfl du bz bj zag (im 31 a9 _) (mw a9 hS (fun e w2 h=>h.2.2.size) (fun τ dd=>(plook_ok (w:=tp w τ dd) (dd:=⟨dp,dof,none⟩) (dc:=dcap) hs).mono fun e w2 ⟨h1,h2⟩=>⟨⟨_,h1⟩,h1,h2.un⟩) fun e w2 h=>h.1) fun v w2 hr=> ?_;refine ay ?_)
 rename World=>y
 obtain ⟨-,hv,K⟩:=hr;obtain rfl:=bh hv;have hs:=K.on hs ae;have HS0:=HS;have HS:=HS.onE K;have d0:=(K.cell (x:=⟨dp,dof,none⟩) hdl ae).trans d0;have d1:=(K.cell (x:=⟨dp,dof+1,none⟩) hdl ae).trans d1;have d2:=(K.cell (x:=⟨dp,dof+2,none⟩) hdl ae).trans d2;have d3:=(K.cell (x:=⟨dp,dof+3,none⟩) hdl ae).trans d3;have d4:=(K.cell (x:=⟨dp,dof+4,none⟩) hdl ae).trans d4;clear hv;refine ic ?_;refine ku [0,1,2,3,8] fun a1 hsz hK=> ?_;obtain ⟨v0,v1,v2,v3,v8,-⟩:=hK
 apply cu.drawK (fun a1 w1=>(a1.tmps.size=89∧a1.defers=[])∧a1.eval (.tmp 0)=pO s∧a1.eval (.tmp 1)= .chan none∧a1.eval (.tmp 2)= .string kA∧a1.eval (.tmp 3)= .slice (some ⟨dp,dof,none⟩) 5 dcap∧a1.eval (.tmp 8)= .int .i64 0∧a1.eval (.tmp 10)=pO y.heap.size∧w1.heap[y.heap.size]? =some (.cells (dx 0 0 0 0) 95 (0,0))∧ah [] y w1) 11 (fun x=>x.heap[s]? =some (.cells (df (sO bd 3 cap) 2 1 16 1 0) 41 (0,0))) eo rfl
 case hK=>exact fun a w τ dd ⟨h1,h2,h3,h4,h5,h6,h7,h8,h9⟩=>⟨h1,h2,h3,h4,h5,h6,h7,h8,h9.tp τ dd⟩
 case h=>
  intro τ dd;have hS0:(tp y τ dd).heap[s]? =some (.cells (df (sO bd 3 cap) 2 1 16 1 0) 41 (0,0)):=hs
  (apply LDK.take 0 rfl a9 a9 a9 a9;(case hw=>exact bj);(case hv=>intro u hu;(try dsimp only at hu);exact zxr);(case hS=>exact hS0);refine ay ?_)
  (apply LDK.take 1 rfl a9 a9 a9 a9;(case hw=>exact bj);(case hv=>intro u hu;(try dsimp only at hu);exact zxr);(case hS=>exact hS0);refine ay ?_)
  (apply LDK.take 2 rfl a9 a9 a9 a9;(case hw=>exact bj);(case hv=>intro u hu;(try dsimp only at hu);exact zxr);(case hS=>exact hS0);refine ay ?_)
  (apply LDK.take 3 rfl a9 a9 a9 a9;(case hw=>exact bj);(case hv=>intro x hu;refine zpr ?_;first|(rw [Sem.run_bind,(acz hu)];rfl)|exact (acz hu));(case hS=>exact hS0);refine ay ?_)
  (apply LDK.take 4 rfl a9 a9 a9 a9;(case hw=>exact bj);(case hv=>intro u hu;(try dsimp only at hu);exact zxr);(case hS=>exact hS0);refine ay ?_)
  (apply LDK.take 5 rfl a9 a9 a9 a9;(case hw=>exact bj);(case hv=>intro u hu;(try dsimp only at hu);exact zxr);(case hS=>exact hS0);refine ay ?_)
  (apply LDK.take 6 rfl a9 a9 a9 a9;(case hw=>exact bj);(case hv=>intro u hu;(try dsimp only at hu);exact zxr);(case hS=>exact hS0);refine ay ?_)
  (apply LDK.take 7 rfl a9 a9 a9 a9;(case hw=>exact bj);(case hv=>intro x hu;refine zpr ?_;first|(rw [Sem.run_bind,(oq hu)];rfl)|exact (oq hu));(case hS=>exact hS0);refine ay ?_)
  (apply LDK.take 8 rfl a9 a9 a9 a9;(case hw=>exact bj);(case hv=>intro u hu;(try dsimp only at hu);exact zxr);(case hS=>exact hS0);refine ay ?_)
  (apply LDK.take 9 rfl a9 a9 a9 a9;(case hw=>exact bj);(case hv=>intro x hu;refine zpr ?_;first|(rw [Sem.run_bind,(bldH _)];rfl)|exact (bldH _));(case hS=>exact hS0);refine ay ?_)
  (apply LDK.solo 10 a9 rfl;(case hw=>exact bj);(case hv=>exact zxr);(case hS=>exact (fun _=>ah.on (ah.alloc (ah.refl [] _)) hS0 ae));refine ay ?_)
  obtain ⟨y1,r5,h5,K5,-⟩:=st95 (w:=tp (World.alloc y (.cells z95 95)) τ dd) (b:=y.heap.size) (c:=z95) (v:=dx 0 0 0 0) (bu (w:=y)) rfl rfl (by simp [dx,Value.oneCell']);unfold z95 at r5
  (apply LDK.vf 11 a9 rfl;(case hw=>exact bj);(case hv=>refine zpr ?_;rw [Sem.run_bind,r5];rfl);(case hS=>exact (fun h=>by omega));refine ay ?_)
  apply LDK.fin a9;exact ⟨by simp [hsz],aj,aj,aj,aj,aj,aj,h5,(ah.alloc (ah.refl [] y)).trans K5.un ae⟩
 case hn=>
  intro a w1 ⟨hsz,v0,v1,v2,v3,v8,v10,hb,K5⟩;have hs:=K5.on hs ae;have HS:=HS.onE K5;have d0:=(K5.cell (x:=⟨dp,dof,none⟩) (by have:=K.size;show dp< _;omega) ae).trans d0;have d1:=(K5.cell (x:=⟨dp,dof+1,none⟩) (by have:=K.size;show dp< _;omega) ae).trans d1;have d2:=(K5.cell (x:=⟨dp,dof+2,none⟩) (by have:=K.size;show dp< _;omega) ae).trans d2;have d3:=(K5.cell (x:=⟨dp,dof+3,none⟩) (by have:=K.size;show dp< _;omega) ae).trans d3;have d4:=(K5.cell (x:=⟨dp,dof+4,none⟩) (by have:=K.size;show dp< _;omega) ae).trans d4;have hnb:∀i,i<3→y.heap.size∉ga g d now i:=fun i hi hm=>by
   have h1:=ve i hi _ (HS0.dr i hi) _ hm;have h2:=K.size;omega
  have hbs:y.heap.size≠s:=by have:=K.size;omega
  have ly:w.heap.size≤y.heap.size:=K.size;have K:=K.trans K5 ae;generalize y.heap.size=b10 at*;clear K5;refine ic ?_
  (refine cu.ldv rfl rfl rfl bj aj (fun d=>(qb hb rfl)) ?_;refine ay ?_)
  (refine cu.fn 32 _ rfl rfl rfl du bz bj zag (im 32 a9 _) (amw (cap:=cap) HS hs hn) fun v w2 hr=> ?_;refine ay ?_)
  rename World=>z
  obtain ⟨-,hv,HS,K5⟩:=hr;obtain rfl:=bh hv;have nft:∀{b:Nat},(∀i,i<3→b∉ga g d now i)→b∉ft3 (ga g d now):=fun hh h=>by
   obtain ⟨i,hi,hm⟩:=xp h;exact hh i hi hm
  have hs:=K5.on hs (nft hn);have hb:=K5.on hb (nft hnb);have ldw:dp<w1.heap.size:=by have:=K.size;omega
  have d0:=(K5.cell (x:=⟨dp,dof,none⟩) ldw (nft hdn)).trans d0;have d1:=(K5.cell (x:=⟨dp,dof+1,none⟩) ldw (nft hdn)).trans d1;have d2:=(K5.cell (x:=⟨dp,dof+2,none⟩) ldw (nft hdn)).trans d2;have d3:=(K5.cell (x:=⟨dp,dof+3,none⟩) ldw (nft hdn)).trans d3;have d4:=(K5.cell (x:=⟨dp,dof+4,none⟩) ldw (nft hdn)).trans d4;have K:=(K.more (T:=s::ft3 (ga g d now)) ae).trans K5 fun b hb=> .inl (List.mem_cons_of_mem _ hb)
  clear K5 hv;have c13:z.cell? ⟨s,13,none⟩=some (.int .i64 0):=af hs (by simp [df]);have f13:z.frozen? ⟨s,13,none⟩=false:=ed hs;refine zuwk ?_;have hs2:=ee (i:=13) (v:= .int .i64 1) hs;have e13:(df (sO bd 3 cap) 2 1 16 1 0).setIfInBounds 13 (.int .i64 1)=df (sO bd 3 cap) 2 1 16 1 1:=by simp [df]
  rw [e13] at hs2;have K5:ah [s] z (z.setCell ⟨s,13,none⟩ (.int .i64 1)):=ah.set (ah.refl _ _) (.inl ae);have hb:=K5.on hb (by simpa using hbs);have HS:St (z.setCell ⟨s,13,none⟩ (.int .i64 1)) bd g d (ga g d now) (PE g d now):=⟨HS.fl.grow K5 (by simpa using fun e=>hsb e.symm),fun i hi=>tu i hi (HS.dr i hi) fun b hb=>K5.ff b (HS.fl.lt i hi b hb) (by simp;exact fun e=>hn i hi (e▸hb))⟩;have ldz:dp<z.heap.size:=by have:=K.size;omega
  have d0:=(K5.cell (x:=⟨dp,dof,none⟩) ldz (by simpa using hds)).trans d0;have d1:=(K5.cell (x:=⟨dp,dof+1,none⟩) ldz (by simpa using hds)).trans d1;have d2:=(K5.cell (x:=⟨dp,dof+2,none⟩) ldz (by simpa using hds)).trans d2;have d3:=(K5.cell (x:=⟨dp,dof+3,none⟩) ldz (by simpa using hds)).trans d3;have d4:=(K5.cell (x:=⟨dp,dof+4,none⟩) ldz (by simpa using hds)).trans d4;have K:=K.trans K5 ae;clear hs c13 f13 K5;generalize z.setCell ⟨s,13,none⟩ (.int .i64 1)=z1 at*
  (refine cu.ldv rfl rfl rfl bj aj (fun d=>(lx39 hs2)) ?_;refine ay ?_)
  refine ic ?_;obtain ⟨z2,c2,r5,h5,g1,g2,g3,K5,-⟩:=aiz (P:=GP) (w:=z1) (g:=b10) (o:=14) (ty:=39) (vs:=#[.int .i64 1,.int .i64 1]) (i39 rfl) (by simp [Value.oneCell']) (by simp [dx]) hb
  (refine cu.oa rfl rfl rfl bj aj et r5 ?_;refine ay ?_)
  have ec:c2=dx 0 0 1 1:=by
   apply Array.ext_getElem?;intro j
   by_cases h1:j<14
   ·rw [g3 j (.inl h1)];rcases j with _|_|_|_|_|_|_|_|_|_|_|_|_|_|j <;> first|rfl|omega
   ·by_cases h2:j<16
    ·have:=g2 (j-14) (by simp;omega);rw [show 14+ (j-14)=j by omega] at this;rw [this];obtain rfl|rfl:j=14∨j=15:=by omega
     ·rfl
     ·rfl
    ·rw [Array.getElem?_eq_none (by rw [g1];simp [dx];omega),Array.getElem?_eq_none (by simp [dx];omega)]
  subst ec;have hs:=K5.on hs2 (by simpa using fun e=>hbs e.symm);have HS:St z2 bd g d (ga g d now) (PE g d now):=⟨HS.fl.grow K5 (by
   simp only [List.mem_singleton];intro e;have:=(HS.fl.fz bd ae).1;obtain ⟨c0,e0,z0,h0⟩:=HS.fl.list;rw [e] at h0;rw [hb] at h0;obtain ⟨h0,h00⟩:=h0;simp only [Option.some.injEq,Obj.cells.injEq] at h0;have:=h00 0 ai;rw [←h0.1] at this;cases this),fun i hi=>tu i hi (HS.dr i hi) fun b hb=>K5.ff b (HS.fl.lt i hi b hb) (by simp;exact fun e=>hnb i hi (e▸hb))⟩
  have nd:dp≠b10:=by omega
  have ldz1:dp<z1.heap.size:=by have:=K.size;omega
  have d0:=(K5.cell (x:=⟨dp,dof,none⟩) ldz1 (by simpa using nd)).trans d0;have d1:=(K5.cell (x:=⟨dp,dof+1,none⟩) ldz1 (by simpa using nd)).trans d1;have d2:=(K5.cell (x:=⟨dp,dof+2,none⟩) ldz1 (by simpa using nd)).trans d2;have d3:=(K5.cell (x:=⟨dp,dof+3,none⟩) ldz1 (by simpa using nd)).trans d3;have d4:=(K5.cell (x:=⟨dp,dof+4,none⟩) ldz1 (by simpa using nd)).trans d4;have K:=K.trans K5 (fun b hb=> .inr (by simp at hb;omega));have hb:=h5;clear K5 r5 h5 g1 g2 g3 hs2 e13;refine ku [0,1,3,8,10] fun a1 hsz hK=> ?_;obtain ⟨v0,v1,v3,v8,v10,-⟩:=hK
  refine ic ?_
  (refine cu.ldv rfl rfl rfl bj aj (fun d=>(qb hb rfl)) ?_;refine ay ?_)
  refine ic ?_;have hS:gz (ae2 z2):=fun e w2 τ dd ⟨h1,bb,h2,h3,h4,h5,h6,h7⟩=>⟨h1,bb,h2,h3,h4,h5,h6,h7.tp τ dd⟩
  (refine cu.fn 33 _ rfl rfl rfl du bz bj zag (im 33 a9 _) (mw a9 hS (fun e w2 ⟨_,_,_,_,_,_,_,h⟩=>h.size) (fun τ dd=>(split_ok (w:=tp z2 τ dd) (by have:=K.size;show dp<z2.heap.size;omega) d0 d1 d2 d3 d4 hc).mono fun e w2 ⟨h1,bb,h2,h3,h4,h5,h6,h7⟩=>⟨h1,bb,h2,h3,h4,h5,h6,h7.un⟩) fun e w2 h=>h.1) fun v w2 hr=> ?_;refine ay ?_)
  rename World=>z3
  obtain ⟨-,bb,hv,B0,B1,B2,lb,K5⟩:=hr;obtain rfl:=bh hv;have hs:=K5.on hs ae;have HS:=HS.onE K5;have K:=K.trans K5 ae;clear K5 hv d0 d1 d2 d3 d4 hb;refine zuwk ?_;refine cu.ib (fun u=>u.heap[z3.heap.size]? =some (.cells #[sO bb 3 3] 97 (0,0))∧ah [] z3 u) ⟨bu,ei⟩ fun z4 ⟨h12,K5⟩=> ?_
  have hs:=K5.on hs ae;have HS:=HS.onE K5;have K:=K.trans K5 ae;have hB:∀i,i<3→adr z4 bb i:=fun i hi=>by
   rcases i with _|_|_|i
   ·exact ae7 B0 lb K5
   ·exact ae7 B1 lb K5
   ·exact ae7 B2 lb K5
   ·omega
  have c12:z4.cell? ⟨z3.heap.size,0,none⟩=some (sO bb 3 3):=af h12 ae;have c0:z4.cell? ⟨s,0,none⟩=some (sO bd 3 cap):=af hs (by simp [df]);clear K5 B0 B1 B2 lb h12;refine ku [0,1,8,12,65] fun a1 hsz hK=> ?_;obtain ⟨v0,v1,v8,v12,v65,-⟩:=hK
  refine ic ?_
  (refine cu.fn 14 _ rfl rfl rfl du bz bj zag (im 14 a9 _) (akn (cap:=cap) HS c12 hB) fun v w2 hr=> ?_;refine ay ?_)
  unfold afs at hr;rename World=>z5
  obtain ⟨-,o,hv,ho,lo,⟨x,q,HS,hxq⟩,K5⟩:=hr;obtain rfl:=bh hv;have hs:=K5.on hs (nft hn);have lw:w.heap.size≤z4.heap.size:=K.size;have K:=K.trans K5 fun b hb=> .inl (List.mem_cons_of_mem _ hb)
  have HP:PutQ w bd cap s g d now (.returned (.int .i64 0)) z5:=⟨⟨_,rfl⟩,rfl,⟨x,q,HS,fun i hi=>⟨Nat.le_trans lw (hxq i hi).1,Nat.le_trans lw (hxq i hi).2⟩⟩,hs,K⟩;clear K5 hv c12 c0 K hB;refine cu.of_lto rfl (fun e w2 h=>h.1) fun τ dd=> ?_
  refine ad.ib (fun u=>u.heap[o]? =some (.cells #[.int .i64 0,.int .i64 0,.int .i64 0] 33 (0,0))∧u.heap[s]? =some (.cells (df (sO bd 3 cap) 2 1 16 1 1) 41 (0,0))∧PutQ w bd cap s g d now (.returned (.int .i64 0)) u) ⟨ho,hs,aau _ _ τ dd HP⟩ fun u ⟨ho,hs,HP⟩=> ?_
  refine au ?_;refine bt 17 (af8 ho) fun v w2 hr=> ?_
  obtain ⟨hv,e⟩:=hr;obtain rfl:=bh hv;have e:=e.symm;subst e;refine au ?_;refine kl [0,8,14] fun a1 hsz hK=> ?_;obtain ⟨v0,v8,v14,-⟩:=hK
  have c1:u.cell? ⟨s,1,none⟩=some (.int .i64 2):=af hs (by simp [df]);apply ad.kj 9 (fun _ y=>y.heap[o]? =some (.cells #[.int .i64 0,.int .i64 0,.int .i64 0] 33 (0,0))∧y.cell? ⟨s,1,none⟩=some (.int .i64 2)) eo;intro dd;have hS0:(World.at u dd).heap[o]? =some (.cells #[.int .i64 0,.int .i64 0,.int .i64 0] 33 (0,0))∧(World.at u dd).cell? ⟨s,1,none⟩=some (.int .i64 2):=⟨ho,c1⟩;refine cg 0 ?_;refine cg 2 ?_;refine cg 3 ?_;refine cg 4 ?_;refine cg 5 ?_;refine cg 6 ?_
  (apply fa.gw 1 (f:=17) a9 rfl;(case hw=>exact bj);(case hc=>exact (aki hS0.1));(case hv=>rw [cw (f:=17) rfl];refine zam ?_;exact ey 17 a9 _ _);(case hret=>exact fun e w2 h=>⟨_,h.1⟩))
  intro v w2 ⟨hv,e⟩;obtain rfl:=bh hv;have e:=e.symm;subst e;refine ⟨fun _=>hS0,?_⟩;refine ay ?_;refine zmo 7 ?_ (hS:=by exact (fun _=>hS0));refine ay ?_;refine zmo 8 ?_ (hS:=by exact (fun _=>hS0));refine ay ?_;apply fa.fin a9;refine au ?_;exact ad.dq rfl hf rfl bz aj (aau _ _ u.tape dd HP)
end
end Go.Proofs.YthgpdljlehklhaaGreat.rn
namespace Go.Proofs.YthgpdljlehklhaaGreat.wk
open Go Go.Conc zr dr wd drv
set_option linter.unusedVariables false
set_option maxHeartbeats 4000000
section
variable {w w1 w2:World}{o g:Nat}{c0 c1 c2:Value}{cells:Array Value}{z:Nat×Nat}
theorem ldA183 {l:List Value}(h:w.rangeAt g 0 l)(hl:l.length=4):(Instr.loadAt 183 (pO g)).run GP w= .ok (.agg l.toArray) w:=
 run_loadAt_mid (P:=GP) w g 0 183 l _ h u183 du (by rw [ek,hl];kernel_rfl)
theorem judge_ok (h:w.heap[o]? =some (.cells cells 112 z))(h0:Row 19 cells 0 (snS 0 c0))(h1:Row 19 cells 1 (snS 1 c1))(h2:Row 19 cells 2 (snS 2 c2))(z0:c0.oneCell'=true)(z1:c1.oneCell'=true)(z2:c2.oneCell'=true):Calls GP 41 #[.agg shp,sO o 3 3] w fun e w2=>(∃v,e= .returned v)∧∃p cp,e= .returned (.agg #[.int .i64 1,.int .i64 1,.int .i64 1,.int .i64 5,.slice (some p) 3 cp])∧ah [] w w2:=by
 refine dn 41 41 Tryz.func41 fun a hf hsz hv=> ?_
 obtain ⟨v0,v1,-⟩:=ir hv;clear hv;have v0':a.eval (.tmp 0)= .agg #[.int .i64 2,.int .i64 1,.int .i64 16]:=v0;clear v0;refine au ?_;refine bt 71 aht fun v w2 hr=> ?_
 obtain ⟨hv,K1⟩:=hr;obtain rfl:=bh hv;have hb:=K1.on (o:= .cells shp 36) (b:=w.heap.size) (bw bu) ae;have h4:=K1.on (o:= .cells #[.int .i64 0,.int .i64 0,.int .i64 0,.int .i64 0,.slice none 0 0] 60) (b:=w.heap.size+1) (fy ae) ae;have K:ah [] w w2:=ah.trans (ei) K1 ae;have h:=K.on h ae;clear K1;refine au ?_;refine bt 72 (aom h h0 h1 h2 z0 z1 z2) fun v w2 hr=> ?_
 obtain ⟨-,g,cap,p,cp,hv,R1,K1⟩:=hr;obtain rfl:=bh hv;have hb:=K1.on hb ae;have h4:=K1.on h4 ae;have K:=K.trans K1 ae;clear K1;refine au ?_;apply ad.loop;refine au ?_;refine iq (ldA183 R1 rfl) ?_;refine au ?_;have K6:=ah.alloc (o:= .cells #[.int .i64 0,.int .i64 0,.int .i64 0,.slice none 0 0] 183) (ah.refl [] w2);have b6:(w2.alloc (.cells #[.int .i64 0,.int .i64 0,.int .i64 0,.slice none 0 0] 183)).heap[w2.heap.size]? =some (.cells #[.int .i64 0,.int .i64 0,.int .i64 0,.slice none 0 0] 183 (0,0)):=bu;obtain ⟨w5,r5,b6,K7,-⟩:=st183 (vs:=#[.int .i64 1,.int .i64 1,.int .i64 5,.slice (some p) 3 cp]) b6 rfl rfl (by simp [Value.oneCell'])
 (refine ad.jq rfl rfl rfl bj aj et r5 ?_;refine ay ?_)
 have K7:=K6.trans K7 ae;have hb:=K7.on hb ae;have h4:=K7.on h4 ae;have K:=K.trans K7 ae;have d0:w5.cell? ⟨w2.heap.size,0,none⟩=some (.int .i64 1):=af b6 ae;have d1:w5.cell? ⟨w2.heap.size,1,none⟩=some (.int .i64 1):=af b6 ae;have d2:w5.cell? ⟨w2.heap.size,2,none⟩=some (.int .i64 5):=af b6 ae;have d3:w5.cell? ⟨w2.heap.size,3,none⟩=some (.slice (some p) 3 cp):=af b6 ae;have s0:w5.cell? ⟨w.heap.size,0,none⟩=some (.int .i64 2):=af hb (by simp [shp]);refine ad.ak ?_;refine kl [2,4,6,14,15,16] fun a1 hsz hK=> ?_;obtain ⟨v2,v4,v6,v14,v15,v16,-⟩:=hK
 refine au ?_;obtain ⟨w8,r8,h4,K8,-⟩:=st60 (vs:=#[.int .i64 1,.int .i64 1,.int .i64 1,.int .i64 5,.slice (some p) 3 cp]) h4 rfl rfl (by simp [Value.oneCell'])
 (refine ad.jq rfl rfl rfl bj aj et r8 ?_;refine ay ?_)
 refine au ?_
 (apply ad.aaw rfl hf rfl (hl:=(ac2 h4 rfl));(case hd=>simp [hsz]);(case hs=>exact et))
 exact ⟨⟨_,rfl⟩,p,cp,rfl,K.trans K8 (fun b hb=>by simp at hb;exact .inr ai)⟩
end
end Go.Proofs.YthgpdljlehklhaaGreat.wk
