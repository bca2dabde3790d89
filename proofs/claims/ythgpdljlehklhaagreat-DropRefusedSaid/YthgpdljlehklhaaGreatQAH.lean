/- Part QAH of the proof that DropRefused answers true whatever its input. No condition. -/
import Derived.KernelRfl
import Derived.Conc.Events
import Derived.Laws.Runes
import Derived.Deep.MidRow
import Derived.Test.YthgpdljlehklhaaGreatQAG
set_option maxRecDepth 100000
namespace Go.Proofs.YthgpdljlehklhaaGreat.zr
open Go Go.Conc
open Go.ConcN (sumTo upd sumTo_upd upd_ne upd_same)
structure uf [Bg] (P:Program)(X:Ph)(frz:Nat→Nat→Prop)(w:World):Prop where
 whole:Whole P w
 base:Base one w.heap.size
 size:X.N0=w.heap.size
 same:X.wS.w.heap=(cy w).heap∧X.wS.w.os=w.os∧X.wS.w.output=w.output
 ownZ:∀j,j≤X.n→∀b,X.wS.own j b→¬zb b
 own0:∀b,¬X.wS.own 0 b
 ownOk:∀j,j≤X.n→∀b,X.wS.own j b→b<X.N0∧b≠X.c∧¬frz j b
 frzOk:∀j,j≤X.n→∀b,frz j b→b≠X.c∧∃c e z,w.heap[b]? =some (.cells c e z)
 apart:∀j k,j≤X.n→k≤X.n→j≠k→∀b,X.wS.own j b→¬X.wS.own k b∧¬frz k b
 chan:∃s tm,w.heap[X.c]? =some (.chan 0 #[] false s s tm)
 args:∀j,j≠0→j≤X.n→∀π',aw X.N0 one π'→az π' (X.J j).args=(X.J j).args
 jobs:∀j,j≠0→j≤X.n→∀τ d,Calls P (X.J j).f (X.J j).args (tp (mask (X.wS.own j) (frz j) w) τ d) (Ret (X.J j).R)
structure Ended [Bg] (P:Program)(X:Ph)(σ:Sg)(w1 w':World)(π0:Pm):Prop where
 whole:Whole P w'
 base:Base one w'.heap.size
 size:X.N0≤w'.heap.size
 ag:aw X.N0 one π0
 all:∃M:Nat→Mem,(M 0).π=π0∧(∃τ d,(M 0).w=tp w1 τ d)∧At P (M 0).Z (M 0).F π0 (tp w1 w'.tape w'.drawn) (cy w')∧(∀j k,j≤X.n→k≤X.n→j≠k→∀r,(M j).Has r→¬(M k).sg r)∧(∀j,j≤X.n→∀r,(M j).Has r→¬zb r)∧
  ∀j,j≠0→j≤X.n→∃v0 v,σ.gv j=some v0∧(X.J j).R v (M j).w∧ClV (M j).w.heap.size (M j).π v∧At P (M j).Z (M j).F (M j).π (tp (M j).w w'.tape w'.drawn) (cy w')∧aw X.N0 one (M j).π∧X.N0≤(M j).w.heap.size∧al π0 v0=al (M j).π v
 rest:∀b,b<X.N0→b≠X.c→(∀j,j≤X.n→¬X.wS.own j b)→(cy w').heap[b]? =X.wS.w.heap[b]?
 os:w'.os=X.wS.w.os
 out:w'.output=X.wS.w.output
section
variable {P:Program}{fs:Array Func}{X:Ph}{frz:Nat→Nat→Prop}{w w' w1:World}{a a1:Act}{todo todo1:List Item}{gs:Array Goroutine}{t:Trace}{σ:Sg}{Q:Goroutine→World→Prop}
noncomputable def oc (X:Ph)(frz:Nat→Nat→Prop)(w:World)(j:Nat):Mem:=⟨fun b=>b<w.heap.size∧¬X.wS.own j b∧¬frz j b,frz j,mask (X.wS.own j) (frz j) w,one⟩
theorem aax [Bg] (B:uf P X frz w){j:Nat}(hj:j≤X.n){r:Nat}:((oc X frz w j).Has r↔X.wS.own j r)∧((oc X frz w j).sg r→X.wS.own j r∨frz j r):=by
 have hs:=B.size;refine ⟨⟨fun ⟨b,h1,h2,h3,h4⟩=> ?_,fun h=> ?_⟩,fun ⟨b,h1,h2,h4⟩=> ?_⟩
 ·have h1:b< (mask (X.wS.own j) (frz j) w).heap.size:=h1;rw [mi] at h1;have h4:b=r:=h4;subst h4;exact Classical.byContradiction fun hn=>h2 ⟨h1,hn,h3⟩
 ·obtain ⟨h1,h2,h3⟩:=B.ownOk j hj r h;refine ⟨r,?_,fun hz=>hz.2.1 h,h3,rfl⟩;show r< (mask (X.wS.own j) (frz j) w).heap.size;rw [mi];omega
 ·have h1:b< (mask (X.wS.own j) (frz j) w).heap.size:=h1;rw [mi] at h1;have h4:b=r:=h4;subst h4
  by_cases ho:X.wS.own j b
  ·exact .inl ho
  ·exact .inr (Classical.byContradiction fun hn=>h2 ⟨h1,ho,hn⟩)
theorem uf.fam [Bg] (B:uf P X frz w):Fam P X.n X.N0 X.c X.wS (oc X frz w) (cy w):=by
 have hs:=B.size;obtain ⟨s,tm,hc⟩:=B.chan;have hcl:X.c<w.heap.size:=(Array.getElem?_eq_some_iff.1 hc).1;have hat:∀j,j≤X.n→At P (oc X frz w j).Z (oc X frz w j).F (oc X frz w j).π (oc X frz w j).w (cy w):=fun j hj=>aj7 B.whole (B.ownZ j hj) fun b hb=>(B.frzOk j hj b hb).2
 have hcz:¬zb X.c:=fun hz=>by
  rw [(B.whole.rob one (aw.refl _ _)).gu _ hz] at hc;cases hc
 have hcr:(cy w).heap[X.c]? =some (.chan 0 #[] false s s tm):=by rw [j9 hcz];exact hc
 have hsr:(cy w).heap.size=w.heap.size:=ji w;refine ⟨fun j hj=>(hat j hj).re,fun j hj=> ?_,fun j hj=> ?_,fun j k hj hk hne r hir hkr=> ?_,fun b hb hbc hn=>by rw [B.same.1],fun j hj b hb=>(aax B hj).1,⟨s,tm,hcr⟩,by omega,fun j hj hx=> ?_,fun b h1 h2=>by omega,by omega,by rw [B.same.1,hsr];exact hs.symm,B.same.2.1.symm,B.same.2.2.symm⟩
 ·show Base one (mask (X.wS.own j) (frz j) w).heap.size;rw [mi];exact B.base
 ·refine ⟨aw.refl _ _,?_⟩;show X.N0≤(mask (X.wS.own j) (frz j) w).heap.size;rw [mi];omega
 ·have h1:=(aax B hj).1.1 hir;rcases (aax B hk).2 hkr with h2|h2
  ·exact (B.apart j k hj hk hne r h1).1 h2
  ·exact (B.apart j k hj hk hne r h1).2 h2
 ·rcases (aax B hj).2 hx with h|h
  ·exact (B.ownOk j hj _ h).2.1 rfl
  ·exact (B.frzOk j hj _ h).1 rfl
theorem uf.ready [Bg] (C:Ctx P fs)(B:uf P X frz w)(hR:∀j v w τ d,(X.J j).R v w→(X.J j).R v (tp w τ d)){j:Nat}(h0:j≠0)(hj:j≤X.n):aeo P (X.J j) (oc X frz w j):=by
 have hs:=B.size;have hok:iz P [Frame.enter P (X.J j).f (X.J j).args .normal]:=⟨fun fr hfr=>by
  obtain rfl:fr=_:=by simpa using hfr
  exact om C _ _ (.inl rfl),_,rfl,rfl,rfl⟩
 have hsz:(oc X frz w j).w.heap.size=X.N0:=by
  show (mask (X.wS.own j) (frz j) w).heap.size=_;rw [mi];exact hs.symm
 have hargs:∀π',aw (oc X frz w j).w.heap.size one π'→az π' (X.J j).args=az one (X.J j).args:=fun π' ha=>by
  rw [jg];rw [hsz] at ha;exact B.args j h0 hj π' ha
 refine ⟨hok,hargs,jg _,?_⟩;refine abl (Z:=(oc X frz w j).Z) (F:=(oc X frz w j).F) C (fun e w τ d ⟨v,h1,h2⟩=>⟨v,h1,hR j v w τ d h2⟩) (fun w ⟨v,h1,_⟩=>by cases h1) (B.jobs j h0 hj) ?_;refine ⟨_,[],one,cy w,rfl,hok,fun π' ha=> ?_,?_,aj7 B.whole (B.ownZ j hj) fun b hb=>(B.frzOk j hj b hb).2⟩
 ·simp only [List.map_cons,List.map_nil,ry,hargs π' ha]
 ·rw [hsz,hs];exact B.base
theorem uf.start [Bg] (K:js P fs X)(B:uf P X frz w)(ha:a.defers=[])(hca:∀π',aw X.N0 one π'→az π' a.tmps=a.tmps)(hgs:gs.size=X.b0+1)(h0:gs[0]? =some (av (X.b.at a todo) X.CS))(hc:Calm (aq P fs) gs w t):TAt P fs X ⟨0,fun _=>none⟩ a todo (oc X frz w 0).w gs (cy w) t:=by
 obtain ⟨⟨q,hL⟩,hP⟩:=hc;have hact:(fun _=>False)=jm 0 (Sg.got X ⟨0,fun _=>none⟩ one):=funext fun j=>propext ⟨False.elim,fun h=>by have h1:=h.1;have h2:=h.2.1;omega⟩
 have hr:dw one a=a:=by
  cases a;simp [dw,jg]
 refine ⟨fun _=> .gone,oc X frz w,q,⟨B.fam,?_,Nat.zero_le _,hgs,hL.above,?_,.inl rfl,fun g x hg hx hn=>hL.old g x ai hx,fun j hj=> ?_,fun j h1 h2=>B.ready K.ctx K.blind ai h2,fun j u h1 h2 h3=> ?_⟩,⟨(oc X frz w 0).w.tape,(oc X frz w 0).w.drawn,rfl⟩,?_,fun j v hv=> ?_⟩
 ·have:=TrI.of_past (b0:=X.b0) (M:=oc X frz w) hP;rw [hact] at this;rw [ji];exact this
 ·show gs[0]? =some (av (X.b.at (dw one a) todo) X.CS);rw [hr];exact h0
 ·have h1:=hj.1;have h2:=hj.2.1;have h2:j≤0:=h2;omega
 ·have h2:j≤0:=h2;omega
 ·intro π' hag;have:(oc X frz w 0).w.heap.size=X.N0:=by
   show (mask (X.wS.own 0) (frz 0) w).heap.size=_;rw [mi];exact B.size.symm
  rw [this] at hag;show az π' a.tmps=az one a.tmps;rw [jg];exact hca π' hag
 ·cases hv
theorem TAt.ended [Bg] (K:js P fs X){v0:World}(h:TAt P fs X σ a todo w1 gs w' t)(hv:X.wS.w.heap=(cy v0).heap)(hS:Whole P v0)(hown:∀j,j≤X.n→∀b,X.wS.own j b→¬zb b)(hcz:¬zb X.c)(hb:Base one X.N0)(hsp:σ.sp=X.n)(hg:∀j,j≠0→j≤X.n→σ.gv j≠none):
  ∃π0,gs[0]? =some (av (X.b.at (dw π0 a) todo) X.CS)∧Calm (aq P fs) gs w' t∧ClA w1.heap.size π0 a∧Ended P X σ w1 (qi w') π0∧cy (qi w')=w':=by
 obtain ⟨S,M,q,hT,⟨τ0,d0,hw⟩,hca,hcv⟩:=h;have hna:∀j,¬jm σ.sp (σ.got X (M 0).π) j:=fun j hj=>by
  have h3:=hj.2.2;unfold Sg.got at h3;cases hgj:σ.gv j with
  |none=>exact hg j hj.1 (by rw [←hsp];exact hj.2.1) hgj
  |some v=>rw [hgj] at h3;cases h3
 have h0:=hT.fam.at_ 0 (Nat.zero_le _);rw [hw] at h0;obtain ⟨hW1,hW2⟩:=hT.fam.whole hv hS hown hcz;have hN0:v0.heap.size=X.N0:=by rw [←hT.fam.sizeS,hv,ji]
 have hhz:∀j,j≤X.n→∀r,(M j).Has r→¬zb r:=fun j hj r hr hz=>by
  have hlt:r<X.N0:=by
   rw [←hN0];exact hS.zlt r hz
  exact hown j hj r ((hT.fam.ownH j hj r hlt).1 hr) hz
 refine ⟨(M 0).π,hT.zero,⟨⟨q,fun j x hj hx=>hT.leav j x ai hx fun k hk=>absurd hk (hna k),hT.above⟩,hT.tr.past hna⟩,hca,⟨hW1,⟨Nat.lt_of_lt_of_le hb.1 (by rw [ta];exact hT.fam.size),hb.2⟩,by rw [ta];exact hT.fam.size,(hT.fam.ag 0 (Nat.zero_le _)).1,⟨M,rfl,⟨τ0,d0,hw⟩,by rw [hW2];exact h0,hT.fam.apart,hhz,fun j hj0 hj=> ?_⟩,fun b h1 h2 h3=>by rw [hW2];exact hT.fam.rest b h1 h2 h3,hT.fam.os,hT.fam.out⟩,hW2⟩;cases hgj:σ.gv j with
 |none=>exact absurd hgj (hg j hj0 hj)
 |some v0=>
  obtain ⟨v,h1,h2,h3⟩:=hT.back j ((X.J j).told (al (M 0).π v0)) hj0 (by rw [hsp];exact hj) (by simp [Sg.got,hgj]);exact ⟨v0,v,rfl,h1,h2,by rw [hW2];exact hT.fam.at_ j hj,(hT.fam.ag j hj).1,(hT.fam.ag j hj).2,K.inj j _ _ (K.okRen _ _ _ (hcv j v0 hgj).2) (K.okRen _ _ _ (K.okR _ _ _ h1)) h3⟩
theorem cr.round [Bg] (K:js P fs X)(B:uf P X frz w)(ha:a.defers=[])(hca:∀π',aw X.N0 one π'→az π' a.tmps=a.tmps)
  (h:∀b0,bc P fs {X with b0:=b0} (fun σ a1 todo1 w1=>σ.sp=X.n∧(∀j,j≠0→j≤X.n→σ.gv j≠none)∧∀π0 w',ClA w1.heap.size π0 a1→Ended P X σ w1 w' π0→cr (aq P fs) Q (av (X.b.at (dw π0 a1) todo1) X.CS) w') ⟨0,fun _=>none⟩ a todo (oc X frz w 0).w):
  cr (aq P fs) Q (av (X.b.at a todo) X.CS) w:=by
 intro gs d sl t h0 hc;have hlt:0<gs.size:=(Array.getElem?_eq_some_iff.1 h0).1;have K2:js P fs {X with b0:=gs.size-1}:=⟨K.ctx,K.hp,K.kind,K.jobs,K.blind,K.told,K.inj,K.okR,K.okRen⟩;have B2:uf P {X with b0:=gs.size-1} frz (w.at d):=⟨Whole.tp B.whole w.tape d,B.base,B.size,B.same,B.ownZ,B.own0,B.ownOk,B.frzOk,B.apart,B.chan,B.args,fun j h1 h2 τ d2=>B.jobs j h1 h2 τ d2⟩;have hst:=B2.start K2 ha hca (gs:=gs) (t:=t) (todo:=todo) (by show gs.size=gs.size-1+1;omega) h0 hc;obtain ⟨N,gs2,w2',sl2,t2,σ2,a2,todo2,w2,hr,hT2,h1,h2,h3⟩:=(h (gs.size-1)).tp w.tape d gs (cy (w.at d)) sl t hst;have hcz:¬zb X.c:=fun hz=>by
  obtain ⟨s,tm,hc⟩:=B.chan;rw [(B.whole.rob one (aw.refl _ _)).gu _ hz] at hc;cases hc
 obtain ⟨π0,g1,g2,g3,g4,g5⟩:=hT2.ended K2 (v0:=w) B.same.1 B.whole B.ownZ hcz (by rw [show ({X with b0:=gs.size-1}:Ph).N0=w.heap.size from B.size];exact B.base) h1 h2;have g2':Calm (aq P fs) gs2 (qi w2') t2:=⟨g2.1,by rw [ta];exact g2.2⟩;obtain ⟨N3,gs3,a3,w3,sl3,t3,hr3,k1,k2,k3⟩:=h3 π0 (qi w2') g3 ⟨g4.whole,g4.base,g4.size,g4.ag,g4.all,g4.rest,g4.os,g4.out⟩ gs2 w2'.drawn sl2 t2 g1 g2';have hr3':runNT (aq P fs) N3 (crowd gs2 w2' sl2) t2=(.next (crowd gs3 (cy w3) sl3),t3):=by
  have e:cy ((qi w2').at w2'.drawn)=w2':=g5;rw [←hr3,e]
 exact ⟨N+N3,gs3,a3,w3,sl3,t3,(l8 _ N N3 _ _ hr).trans hr3',k1,k2,k3⟩
end
end Go.Proofs.YthgpdljlehklhaaGreat.zr
namespace Go.Proofs.YthgpdljlehklhaaGreat.zr
open Go Go.Conc
section
variable {P:Program}{fs:Array Func}
theorem xi:∀(n:Nat)(t:TypeId),j8 (aq P fs) n t=j8 P n t
 |0,_=>rfl
 |n+1,t=>by
  have ih:=xi n;have h1:(aq P fs).underlying t=P.underlying t:=rfl;have h2:(aq P fs).info? t=P.info? t:=rfl;unfold j8;simp only [h1,h2,ih]
theorem yn:∀(n:Nat)(t:TypeId),(aq P fs).eqGuardType n t=P.eqGuardType n t
 |0,_=>rfl
 |n+1,t=>by
  have ih:=yn n;have h1:(aq P fs).underlying t=P.underlying t:=rfl;unfold Program.eqGuardType;simp only [h1,ih]
theorem ahp (o:Oper):qd (aq P fs) o=qd P o:=by
 have e1:aba (aq P fs)=aba P:=funext fun op=>funext fun t=>funext fun y=>by
  have h1:∀t,(aq P fs).underlying t=P.underlying t:=fun _=>rfl
  have h3:(aq P fs).depth=P.depth:=rfl;unfold aba;simp only [h1,xi,yn,h3]
 have e2:ab5 (aq P fs)=ab5 P:=rfl;have e3:tv (aq P fs)=tv P:=funext fun t=>by
  have h1:∀t,(aq P fs).underlying t=P.underlying t:=fun _=>rfl
  unfold tv;simp only [h1,xi]
 have e4:q9 (aq P fs)=q9 P:=funext fun b=>funext fun ts=>by
  unfold q9;rw [e3]
 have e5:tz (aq P fs)=tz P:=funext fun c=>by
  unfold tz;rw [e4]
 unfold qd tn;rw [e1,e2,e3,e5]
theorem agq:qd (aq P fs)=qd P:=funext ahp
theorem aif (c:Code):dy (aq P fs) c=dy P c:=by
 induction c with
 |region id ops d=>simp only [dy,agq]
 |seq a b iha ihb=>simp only [dy,iha,ihb]
 |cond c a b iha ihb=>simp only [dy,iha,ihb]
 |block id c ih=>simp only [dy,ih]
 |loop c ih=>simp only [dy,ih]
 |rangeFunc f ps a c iha ihc=>simp only [dy,iha,ihc]
 |scope c ih=>simp only [dy]
 |_=>simp only [dy]
section
variable (n:TypeId)(w:World)
theorem aj9:(aq P fs).info? n=P.info? n:=rfl
theorem agy:(aq P fs).underlying n=P.underlying n:=rfl
theorem wf_depth:(aq P fs).depth=P.depth:=rfl
theorem aku (d:Departure):(aq P fs).follows d=P.follows d:=rfl
theorem wf_cells:(aq P fs).cellsOf n=P.cellsOf n:=rfl
theorem wf_rt:(aq P fs).rt=P.rt:=rfl
theorem yv:(typeInfo n).run (aq P fs) w=(typeInfo n).run P w:=by
 unfold typeInfo;simp only [Sem.run_bind,run_program,Result.andThen,aj9];cases P.info? n <;> simp
theorem aoi:(sizeOf n).run (aq P fs) w=(sizeOf n).run P w:=by
 unfold sizeOf;simp only [Sem.run_bind,yv];cases (typeInfo n).run P w <;> simp
theorem adg:(underlying n).run (aq P fs) w=(underlying n).run P w:=by
 unfold underlying;simp only [Sem.run_bind,run_program,Result.andThen,agy];cases P.underlying n <;> simp
theorem wf_isAgg:(isAgg n).run (aq P fs) w=(isAgg n).run P w:=by
 unfold isAgg;simp only [Sem.run_bind,adg];cases (underlying n).run P w with
 |ok d w2=>cases d <;> simp
 |halt h w2=>simp
theorem wf_zero:(zeroValue n).run (aq P fs) w=(zeroValue n).run P w:=by
 unfold zeroValue;simp only [Sem.run_bind,yv];cases (typeInfo n).run P w with
 |ok d w2=>
  simp only [Result.andThen_ok];cases d.zero <;> simp
 |halt h w2=>simp
end
def mj (P:Program)(fn:Func):Func:=
 match fn.body with
 |some c=>if dy P c then fn else {fn with body:=some (.refuse "")}
 |none=>if fn.name== "maps.clone" then fn else {fn with name:= "?",origin:= "?"}
def ghost (P:Program):Program:=aq P (P.funcs.map (mj P))
theorem oz (f:Nat):(ghost P).funcs[f]? =(P.funcs[f]?).map (mj P):=by simp [ghost,aq]
theorem ab6 (fn:Func)(h:fn.name= "?")(h2:fn.origin= "?"):Extern.find fn=none∧Extern.findNext fn=none:=by
 have a1:Extern.allGenericRows.lookup "?" =none:=by kernel_rfl
 have a2:Extern.allTypedRows.lookup "?" =none:=by kernel_rfl
 have a3:Extern.allRows.lookup "?" =none:=by kernel_rfl
 have a4:Extern.allNextRows.lookup "?" =none:=by kernel_rfl
 unfold Extern.find Extern.findNext;rw [h,h2];simp [a1,a2,a3,a4]
theorem aow (h0:P.globals.size=0)(hz:∀t i v,P.info? t=some i→i.zero=some v→lg v=true)(hn:∀(f:Nat) fn,P.funcs[f]? =some fn→(fn.name== "runtime.NumGoroutine")=false)
  (hc:∀(f:Nat) fn,P.funcs[f]? =some fn→fn.body=none→fn.name= "maps.clone"→Extern.findNext fn=none∧Extern.find fn=some Extern.MapsClone.clone):Ctx (ghost P) P.funcs:=by
 refine ⟨⟨fun f fn hf=> ?_,fun f fn hf=> ?_⟩,h0,hz,fun f fn c hf hb=> ?_,fun f=> ?_⟩
 ·rw [oz] at hf;obtain ⟨g,hg,rfl⟩:=Option.map_eq_some_iff.1 hf;have:=hn f g hg;unfold mj;split
  ·split
   ·exact this
   ·exact this
  ·split
   ·exact this
   ·rfl
 ·rw [oz] at hf;obtain ⟨g,hg,rfl⟩:=Option.map_eq_some_iff.1 hf;unfold mj;split
  ·rename_i c hb;refine .inl ⟨?_,g,hg,by rw [hb];rfl,hn f g hg⟩;split
   ·rw [hb];rfl
   ·rfl
  ·rename_i hb;split
   ·rename_i hcl;have hcl:g.name= "maps.clone":=by simpa using hcl
    obtain ⟨x1,x2⟩:=hc f g hg hb hcl;exact .inr (.inl ⟨by rw [hb];rfl,x1,x2,hg⟩)
   ·obtain ⟨x1,x2⟩:=ab6 {g with name:= "?",origin:= "?"} rfl rfl;exact .inr (.inr ⟨by simp [hb],x2,x1,by
     show ("?".endsWith ".init" && ! "?".startsWith "(" && ! "?".startsWith "gosem.")=false
     decide+kernel⟩)
 ·rw [oz] at hf;obtain ⟨g,hg,rfl⟩:=Option.map_eq_some_iff.1 hf;show dy (aq P _) c=true;rw [aif];unfold mj at hb;split at hb
  ·split at hb
   ·rename_i c2 h2 h3;rw [h2] at hb;obtain rfl:=Option.some.inj hb;exact h3
   ·obtain rfl:=Option.some.inj hb;rfl
  ·rename_i hb2;split at hb
   ·rw [hb2] at hb;cases hb
   ·simp [hb2] at hb
 ·rw [oz];cases hf:P.funcs[f]? with
  |none=>rfl
  |some g=>
   simp only [Option.map_some];unfold mj;split
   ·split <;> rfl
   ·split <;> rfl
theorem aam {Q Q':Program}{f:FuncId}(h:Q'.funcs[f]? =Q.funcs[f]?):∀args k,Frame.enter Q' f args k=Frame.enter Q f args k:=fun args k=>by
 unfold Frame.enter;rw [h]
theorem ajh (f:Nat):Plain (ghost P) P.funcs f∨jj (ghost P) f:=by
 cases hf:P.funcs[f]? with
 |none=>exact .inl (aam (by rw [oz,hf];rfl))
 |some g=>
  by_cases hs:mj P g=g
  ·exact .inl (aam (by rw [oz,hf,Option.map_some,hs]))
  ·refine .inr ?_;unfold jj;rw [oz,hf,Option.map_some];cases hb:g.body with
   |some c=>
    by_cases ho:dy P c=true
    ·exact absurd (by unfold mj;rw [hb];simp [ho]) hs
    ·exact ⟨ "",by simp [mj,hb,ho]⟩
   |none=>
    by_cases ho:(g.name== "maps.clone")=true
    ·exact absurd (by unfold mj;rw [hb];simp only [ho,if_true]) hs
    ·exact ⟨_,by simp only [mj,hb,ho];simp [hb];rfl⟩
theorem aeq {f:Nat}{fn:Func}{c:Code}(hf:P.funcs[f]? =some fn)(hb:fn.body=some c)(ho:dy P c=true):(ghost P).funcs[f]? =some fn∧Plain (ghost P) P.funcs f:=by
 have:mj P fn=fn:=by
  unfold mj;rw [hb];simp [ho]
 have h:(ghost P).funcs[f]? =some fn:=by rw [oz,hf,Option.map_some,this]
 exact ⟨h,aam (by rw [h];exact hf)⟩
end
end Go.Proofs.YthgpdljlehklhaaGreat.zr
namespace Go.Proofs.YthgpdljlehklhaaGreat.zr
open Go Go.Conc
open Go.ConcN (sumTo upd sumTo_upd upd_ne upd_same)
structure Sound [Bg] (P:Program)(w:World)(a:Act):Prop where
 whole:Whole P w
 base:Base one w.heap.size
 act:∀π',aw w.heap.size one π'→az π' a.tmps=a.tmps
 defers:a.defers=[]
section
variable {P:Program}{fs:Array Func}{w w1:World}{a:Act}{g g1:Goroutine}{Q Q':Goroutine→World→Prop}{ops:Array Oper}{i:Nat}{rest:List Nat}{o:Oper}{b:Frame}{k todo todo1:List Item}{cs:List Frame}
theorem Sound.tp [Bg] (h:Sound P w a)(τ:Tap)(d:Nat):Sound P (zr.tp w τ d) a:=⟨Whole.tp h.whole τ d,h.base,h.act,h.defers⟩
theorem cr.real [Bg] {Pr:Program}(hrun:g.status= .running)(h:∀d,∃g1 w1 es,stepG Pr true g (cy (w.at d))= .go g1 (cy w1) es∧w.heap.size≤w1.heap.size∧(∀e∈es,EvL mn w1.heap.size e)∧cr Pr Q g1 w1):cr Pr Q g w:=by
 intro gs d sl t h0 hc;obtain ⟨⟨q,hL⟩,hP⟩:=hc;obtain ⟨N,gs',d',sl',t',q',d'',sl'',hr,hsz,h0',hL',hP',hst⟩:=af7 (P:=Pr) (a:=g) (w:=cy w) (Go.ConcN.sumTo gs.size q) gs d sl t q (Nat.le_refl _) h0 hrun hL (by rw [ji];exact hP);rw [ji] at hP';obtain ⟨g1,w1,es,hg,hn,hev,hk⟩:=h d'';have hlt:0<gs'.size:=(Array.getElem?_eq_some_iff.1 h0').1;have hrun:=runT_crowd_go (P:=Pr) (sl:=sl'') (i:=0) h0' (show stepG Pr (0==0) g ((cy w).at d'')=_ from hg);have hcalm:Calm Pr ((gs'.map (woken Pr g g1 (cy w1))).setIfInBounds 0 g1) w1 (t'++MemOp.ofEvents 0 g.frame.fn g.frame.place es):=by
  refine calm0 hL' ae hlt (fun j x hj hx=> ?_) (fun op hop=>by obtain ⟨e,_,rfl⟩:=Go.Conc.mem_ofEvents hop;rfl) (abu hP' hn hev);rw [Array.getElem?_setIfInBounds_ne ai,Array.getElem?_map] at hx;obtain ⟨y,hy,rfl⟩:=Option.map_eq_some_iff.1 hx;exact ⟨y,hy,fun k d hq=>woken_quitsD hq⟩
 obtain ⟨N2,gs2,a3,w3,sl3,t3,hr2,k1,k2,k3⟩:=hk _ w1.drawn sl'' _ (by simp [hlt]) hcalm;refine ⟨N+ (1+N2),gs2,a3,w3,sl3,t3,?_,k1,k2,k3⟩;show runNT Pr _ (crowd gs ((cy w).at d) sl) t=_;rw [l8 _ N (1+N2) _ _ hr,Nat.add_comm 1 N2];simp only [runNT,hst,hrun];exact hr2
theorem cr.tj [Bg] {Pr:Program}(hrun:g.status= .running)(hs:∀u,stepG Pr true g u= .go g1 u #[])(h:cr Pr Q g1 w):cr Pr Q g w:=
 cr.real hrun fun d=>⟨g1,w.at d,#[],hs _,Nat.le_refl _,fun e he=>by simp at he,h.at d⟩
theorem Sound.on [Bg] (hW:Whole P w1)(hb:Base one w1.heap.size)(hsz:w.heap.size≤w1.heap.size)(h:Sound P w a):Sound P w1 a:=⟨hW,hb,fun π' ha=>h.act π' (ha.mono hsz),h.defers⟩
theorem Sound.put [Bg] (h:Sound P w a){v:Value}(hv:ClV w.heap.size one v)(d:Option Tmp):Sound P w (a.put d v):=by
 refine ⟨h.whole,h.base,fun π' ha=> ?_,by cases d <;> exact h.defers⟩;cases d with
 |none=>exact h.act π' ha
 |some d=>
  show az π' (a.tmps.setIfInBounds d v)=a.tmps.setIfInBounds d v;rw [sk,h.act π' ha,hv π' ha,jw]
theorem za [Bg] (C:Ctx P fs)(hS:Sound P w a)(hok:tn P o=true)(hnd:∀c,o.op≠ .defer c){x:Next}(h:(execOp a.eval o).run P w= .ok x w1):
  ∃new,(execOp a.eval o).runT (aq P fs) (cy w) #[]=(.ok x (cy w1),new)∧(∀e∈new,EvL mn w1.heap.size e)∧Adv P zb kz one w (cy w) one w1 (cy w1) new∧∀π2,aw w1.heap.size one π2→km π2 x=x:=by
 obtain ⟨es,hx⟩:=zv h;have hT:=rh (P:=P) (P':=aq P fs) (q:=en P) (A:= .next) (execOp a.eval o) (execOp a.eval o) [] one w (cy w) #[] (fun π' ha=>by
  have e:a.eval=(dw π' a).eval:=by
   have:=hS.act π' ha;obtain ⟨ts,ds⟩:=a;show _=(Act.eval {tmps:=az π' ts,defers:=ds});rw [this]
  have:=bp.execOp (fs:=fs) (C.fixed hS.base ha) C.globals C.alike (pw π' a) (fun _ _=>rfl) o hok hnd [];rw [←e] at this;exact this) hS.whole (fun r hr=>by cases hr) #[]
 rw [hx] at hT;obtain ⟨-,π1,w1',new,he,hadv,hact⟩:=hT.ok;obtain ⟨rfl,rfl,hW1⟩:=ux hS.whole hadv;have hone:∀y:Next,eg.next.act one y=y:=fun y=>by
  show km one y=y;cases y with
  |value v=>simp only [km,jw]
  |enter f as=>simp only [km,jg]
  |round l f tm x y=>simp only [km,jg];rfl
  |defer d=>simp only [km,ur]
  |spawn d=>simp only [km,ur]
  |comm cs b s=>
   simp only [km];rw [aem (fun c:CommCase=>by
    obtain ⟨x,y,z⟩:=c;cases y <;> simp [gq,jw])]
  |_=>rfl
 refine ⟨new,?_,fun e he=>evl (hadv.evs e he),hadv,fun π2 h2=> ?_⟩
 ·rw [he,hone]
 ·have:=hact π2 h2;rw [hone] at this;exact this
theorem cr.op1 [Bg] (C:Ctx P fs)(hS:Sound P w a)(hk:b.kind= .normal)(ho:ops[i]? =some o)(hok:tn P o=true)(hnd:∀c,o.op≠ .defer c)(hw:Region.wanted o (yielded ops a.tmps)=true)
  (h:∀d,∃x v w1,(x= .value v∨x= .skip∧v=undef)∧(execOp a.eval o).run P (w.at d)= .ok x w1∧(Sound P w1 (a.put o.dst v)→cr (aq P fs) Q (av (b.at (a.put o.dst v) (.inRegion ops rest::k)) cs) w1)):cr (aq P fs) Q (av (b.at a (.inRegion ops (i::rest)::k)) cs) w:=by
 refine cr.real rfl fun d=> ?_
 obtain ⟨x,v,w1,hxv,hr,hk2⟩:=h d;have hSd:Sound P (w.at d) a:=hS.tp w.tape d;obtain ⟨new,he,hev,hadv,hcl⟩:=za C hSd hok hnd hr;have hke:((b.at a (.inRegion ops (i::rest)::k)).kind==CallKind.early)=false:=by
  show (b.kind==CallKind.early)=false;rw [hk];rfl
 have hst:=(m9 (P:=aq P fs) (b:=b) (a:=a) (cs:=cs) (rest:=rest) (k:=k) (u:=cy (w.at d)) hk ho hw).trans (show _=GStep.go (av ((b.at a (.inRegion ops (i::rest)::k)).finish v) cs) (cy w1) (seen (aq P fs) b.fn new++ #[]) by
  rcases hxv with rfl|⟨rfl,rfl⟩
  ·exact nc he hke
  ·exact rk he hke)
 rw [Frame.finish_at,ho] at hst;refine ⟨_,w1,_,hst,hadv.size,fun e he=> ?_,hk2 ((hSd.on hadv.at_ (Base.adv hSd.base hadv) hadv.size).put (fun π' ha=> ?_) o.dst)⟩
 ·rw [Array.append_empty] at he;exact hev e (kv _ _ _ e he)
 ·rcases hxv with rfl|⟨rfl,rfl⟩
  ·have:=hcl π' ha;rw [jw];exact Next.value.inj this
  ·rfl
theorem cr.agv [Bg] (C:Ctx P fs)(hp:∀f,Plain P fs f∨jj P f)(hS:Sound P w a)(hk:b.kind= .normal)(ho:ops[i]? =some o)(hok:tn P o=true)(hnd:∀c,o.op≠ .defer c)(hw:Region.wanted o (yielded ops a.tmps)=true){R:Ending→World→Prop}(hR:gz R)
  {f:FuncId}{args:Array Value}(hpl:Plain P fs f)(hrun:∀d,(execOp a.eval o).run P (w.at d)= .ok (.enter f args) (w.at d))(hc:∀τ d,Calls P f args (tp w τ d) R)(hret:∀e w2,R e w2→∃v,e= .returned v)(hmono:∀e w2,R e w2→w.heap.size≤w2.heap.size)
  (h:∀v w2,R (.returned v) w2→Sound P w2 (a.put o.dst v)→cr (aq P fs) Q (av (b.at (a.put o.dst v) (.inRegion ops rest::k)) cs) w2):cr (aq P fs) Q (av (b.at a (.inRegion ops (i::rest)::k)) cs) w:=by
 have hke:((b.at a (.inRegion ops (i::rest)::k)).kind==CallKind.early)=false:=by
  show (b.kind==CallKind.early)=false;rw [hk];rfl
 have hargs:∀π',aw w.heap.size one π'→az π' args=args:=fun π' ha=>by
  obtain ⟨new,he,hev,hadv,hcl⟩:=za C (hS.tp w.tape 0) hok hnd (hrun 0);have:=hcl π' ha;simp only [km,Next.enter.injEq] at this;exact this.2
 have hok1:iz P [Frame.enter P f args .normal]:=⟨fun fr hfr=>by
  obtain rfl:fr=_:=by simpa using hfr
  exact om C _ _ (.inl rfl),_,rfl,rfl,rfl⟩
 have hst1:Still w.heap.size one [Frame.enter P f args .normal]:=fun π' ha=>by
  simp only [List.map_cons,List.map_nil,ry,hargs π' ha,jg]
 have hfin:mu (lst P) (qa P f R) (av (Frame.enter P f args .normal) [de]) w:=
  abl (Z:=zb) (F:=kz) C hR (fun w2 hr=>by obtain ⟨v,e⟩:=hret _ _ hr;cases e) hc ⟨_,[],one,cy w,rfl,hok1,hst1,hS.base,hS.whole⟩
 have hent:∀d,∃es,stepG (aq P fs) true (av (b.at a (.inRegion ops (i::rest)::k)) cs) (cy (w.at d))= .go (av (Frame.enter P f args .normal) (b.at a (.inRegion ops (i::rest)::k)::cs)) (cy (w.at d)) es∧∀e∈es,EvL mn w.heap.size e:=fun d=>by
  obtain ⟨new,he,hev,hadv,hcl⟩:=za C (hS.tp w.tape d) hok hnd (hrun d);have hst:=(m9 (P:=aq P fs) (b:=b) (a:=a) (cs:=cs) (rest:=rest) (k:=k) (u:=cy (w.at d)) hk ho hw).trans (m8 he hke rfl);rw [hpl] at hst;exact ⟨_,hst,fun e he=>by
   rw [Array.append_empty] at he;exact hev e (kv _ _ _ e he)⟩
 refine cr.real rfl fun d=> ?_
 obtain ⟨es,hst,hev⟩:=hent d;refine ⟨_,w.at d,es,hst,Nat.le_refl _,hev,cr.at ?_ d⟩;have hF:Fit P (b.at a (.inRegion ops (i::rest)::k)::cs) (av (Frame.enter P f args .normal) ([]++ ([]++ (b.at a (.inRegion ops (i::rest)::k)::cs)))) w:=⟨_,[],rfl,hok1,hst1,hS.base,hS.whole⟩;refine (cr.seg (T:=b.at a (.inRegion ops (i::rest)::k)::cs) (A':=[]) C hp (S:=qa P f R) (fun g w τ d hs=>xu C hR hs τ d) (fun g w ⟨e,fr,_,h2,h3,_⟩=>⟨fr,h2,by rw [h3];exact hpl⟩) hfin _ [] rfl hok1 hF _ (.inl rfl)).then fun a' w2 ⟨hf,fr2,hs,e⟩=> ?_
 subst e;obtain ⟨e2,fr3,he2,hg3,-,hl,hr,htm⟩:=hs;obtain ⟨rfl,-⟩:=jz hg3;obtain ⟨v,rfl⟩:=hret _ _ hr;obtain ⟨fr4,A4,e4,hok4,hst4,hb4,hW4⟩:=hf;obtain ⟨rfl,hA4⟩:=jz e4;have hA0:A4=[]:=by
  have h0:(b.at a (.inRegion ops (i::rest)::k)::cs)=A4++ (b.at a (.inRegion ops (i::rest)::k)::cs):=hA4;have h1:=congrArg List.length h0;rw [List.length_append] at h1;exact List.eq_nil_of_length_eq_zero ai
 subst hA0;refine cr.real rfl fun d2=> ?_
 obtain ⟨π1,w1',new,hstep,hadv,hact⟩:=abw C (hW4.tp w2.tape d2) hb4 (hok4.ok _ List.mem_cons_self) (Still.cons.1 hst4).1 (aa7 C hl htm w2.tape d2) true (b.at a (.inRegion ops (i::rest)::k)) cs;obtain ⟨rfl,rfl,hW5⟩:=ux (hW4.tp w2.tape d2) hadv;rw [na,jw,Frame.finish_at,ho] at hstep;refine ⟨_,_,new,hstep,Nat.le_refl _,fun e he=>evl (hadv.evs e he),?_⟩;have hmn:w.heap.size≤w2.heap.size:=hmono _ _ hr;refine cr.at (h v w2 hr ?_) d2;exact Sound.put ⟨hW4,hb4,fun π' ha=>hS.act π' (ha.mono hmn),hS.defers⟩ (fun π' ha=>hact π' ha) o.dst
theorem cr.val [Bg] (C:Ctx P fs)(hS:Sound P w a)(hk:b.kind= .normal)(v:Value)(w1:World)(ho:ops[i]? =some o)(hm:sq P o=true)(hw:Region.wanted o (yielded ops a.tmps)=true)(hr:∀d,(execOp a.eval o).run P (w.at d)= .ok (.value v) (w1.at d))
  (h:Sound P w1 (a.put o.dst v)→cr (aq P fs) Q (av (b.at (a.put o.dst v) (.inRegion ops rest::k)) cs) w1):cr (aq P fs) Q (av (b.at a (.inRegion ops (i::rest)::k)) cs) w:=
 cr.op1 C hS hk ho (oo hm).1 (oo hm).2 hw fun d=>⟨_,v,_,.inl rfl,hr d,fun hs=>cr.at (h (hs.tp w1.tape w1.drawn)) d⟩
theorem cr.put [Bg] (C:Ctx P fs)(hS:Sound P w a)(hk:b.kind= .normal)(w1:World)(ho:ops[i]? =some o)(hm:sq P o=true)(hw:Region.wanted o (yielded ops a.tmps)=true)(hr:∀d,(execOp a.eval o).run P (w.at d)= .ok .skip (w1.at d))
  (h:Sound P w1 (a.put o.dst undef)→cr (aq P fs) Q (av (b.at (a.put o.dst undef) (.inRegion ops rest::k)) cs) w1):cr (aq P fs) Q (av (b.at a (.inRegion ops (i::rest)::k)) cs) w:=
 cr.op1 C hS hk ho (oo hm).1 (oo hm).2 hw fun d=>⟨_,undef,_,.inr ⟨rfl,rfl⟩,hr d,fun hs=>cr.at (h (hs.tp w1.tape w1.drawn)) d⟩
end
end Go.Proofs.YthgpdljlehklhaaGreat.zr
namespace Go.Proofs.YthgpdljlehklhaaGreat.zr
open Go Go.Conc
section
variable {P:Program}{fs:Array Func}{w w1 u u1:World}{a a1:Act}{T A':List Frame}{b c' fr fr1:Frame}{k:List Item}{cs:List Frame}{Q Q':Exit→Act→World→Prop}{c c1 c2:Code}{ops:Array Oper}{i:Nat}{rest:List Nat}{o:Oper}{v:Value}
theorem Fit.sound [Bg] (h:Fit P T (av (b.at a (.inRegion ops (i::rest)::k)) (A'++T)) w)(hd:a.defers=[]):Sound P w a:=by
 obtain ⟨fr2,A2,e,hok,hst,hb,hW⟩:=h;obtain ⟨rfl,-⟩:=jz e;refine ⟨hW,hb,fun π' ha=> ?_,hd⟩;have:=(gy (Still.cons.1 hst).1 π' ha).1;rw [jg] at this;exact this
end
theorem abh (a b:List Value):qp (a++b)=(qp a && qp b):=by
 induction a with
 |nil=>simp [qp]
 |cons x a ih=>simp [qp,ih,Bool.and_assoc]
theorem agp (a b:Array Value):ot (a++b)=(ot a && ot b):=by
 obtain ⟨a⟩:=a;obtain ⟨b⟩:=b;rw [List.append_toArray];exact abh a b
theorem ac9 {v:Value}(h:lg v=true):ot v.cells=true:=by
 cases v with
 |agg cs=>exact h
 |_=>simpa [Value.cells,ot,qp] using h
theorem afa (l:List (List Value))(h:∀x∈l,qp x=true):qp l.flatten=true:=by
 induction l with
 |nil=>rfl
 |cons x l ih=>
  rw [List.flatten_cons,abh,h x List.mem_cons_self,ih fun y hy=>h y (List.mem_cons_of_mem _ hy)];rfl
def ahx (info:TypeId→Option TypeInfo):Prop:=∀t i v,info t=some i→i.zero=some v→lg v=true
theorem afz {α σ:Type}{body:α→σ→Option (ForInStep σ)}{I:σ→Prop}(hb:∀a s r,I s→body a s=some r→∃s',r= .yield s'∧I s'):∀(l:List α)(s out:σ),I s→forIn l s body=some out→I out
 | [],s,out,h0,h=>by
  obtain rfl:s=out:=by simpa using h
  exact h0
 |a::l,s,out,h0,h=>by
  rw [List.forIn_cons] at h;cases hr:body a s with
  |none=>rw [hr] at h;cases h
  |some r=>
   obtain ⟨s',rfl,h1⟩:=hb a s r h0 hr;rw [hr] at h;exact afz hb l s' out h1 h
theorem ac7 {info:TypeId→Option TypeInfo}(h:ahx info)(fs:Array Field)(i:TypeInfo)(hi:Made.reckonStruct info fs=some i)(v:Value)(hv:i.zero=some v):lg v=true:=by
 unfold Made.reckonStruct at hi;simp only [←Array.forIn_toList] at hi;obtain ⟨s,hs,hi⟩:=Option.bind_eq_some_iff.1 hi;have hI:=afz (I:=fun s=>∀z,s.2.2.2.2.2.2.2.1=some z→ot z=true) (fun f s r hs hr=>by
  obtain ⟨j,hj,hr⟩:=Option.bind_eq_some_iff.1 hr;have key:∀z,(if s.2.1+j.size > Made.mostCells then none else do pure ((←s.2.2.2.2.2.2.2.1)++ (←j.zero).cells):Option (Array Value))=some z→ot z=true:=fun z hz=>by
   split at hz
   ·cases hz
   ·obtain ⟨a,ha,hz⟩:=Option.bind_eq_some_iff.1 hz;obtain ⟨b,hb,hz⟩:=Option.bind_eq_some_iff.1 hz;obtain rfl:=Option.some.inj hz;rw [agp,hs a ha,ac9 (h _ j b hj hb)];rfl
  split at hr
  ·cases hr
  ·split at hr
   ·cases hr
   ·split at hr
    ·obtain ⟨t,ht,hr⟩:=Option.bind_eq_some_iff.1 hr;split at hr <;> exact ⟨_,(Option.some.inj hr).symm,key⟩
    ·obtain ⟨t,ht,hr⟩:=Option.bind_eq_some_iff.1 hr;split at hr <;> exact ⟨_,(Option.some.inj hr).symm,key⟩) fs.toList _ s (fun z hz=>by
  obtain rfl:=Option.some.inj hz;rfl) hs
 have hz:i.zero=Option.map Value.agg s.2.2.2.2.2.2.2.1:=by
  split at hi <;> (obtain rfl:=Option.some.inj hi;rfl)
 rw [hz] at hv;obtain ⟨z,hz2,rfl⟩:=Option.map_eq_some_iff.1 hv;exact hI z hz2
theorem ajj {info:TypeId→Option TypeInfo}(h:ahx info)(d:TypeDesc)(i:TypeInfo)(hi:Made.reckon info d=some i)(v:Value)(hv:i.zero=some v):lg v=true:=by
 unfold Made.reckon at hi;cases d with
 |pointer e=>
  obtain ⟨j,hj,hi⟩:=Option.bind_eq_some_iff.1 hi;split at hi
  ·cases hi
  ·split at hi
   ·cases hi
   ·obtain ⟨t,ht,hi⟩:=Option.bind_eq_some_iff.1 hi;obtain rfl:=Option.some.inj hi;obtain rfl:=Option.some.inj hv;rfl
  ·obtain ⟨t,ht,hi⟩:=Option.bind_eq_some_iff.1 hi;obtain rfl:=Option.some.inj hi;obtain rfl:=Option.some.inj hv;rfl
 |slice e=>
  obtain ⟨j,hj,hi⟩:=Option.bind_eq_some_iff.1 hi;obtain ⟨t,ht,hi⟩:=Option.bind_eq_some_iff.1 hi;obtain rfl:=Option.some.inj hi;obtain rfl:=Option.some.inj hv;rfl
 |map k e=>
  obtain ⟨j,hj,hi⟩:=Option.bind_eq_some_iff.1 hi;obtain ⟨t,ht,hi⟩:=Option.bind_eq_some_iff.1 hi;obtain ⟨j2,hj2,hi⟩:=Option.bind_eq_some_iff.1 hi;obtain ⟨t2,ht2,hi⟩:=Option.bind_eq_some_iff.1 hi;obtain rfl:=Option.some.inj hi;obtain rfl:=Option.some.inj hv;rfl
 |chan dir e=>
  obtain ⟨j,hj,hi⟩:=Option.bind_eq_some_iff.1 hi;obtain ⟨t,ht,hi⟩:=Option.bind_eq_some_iff.1 hi;obtain rfl:=Option.some.inj hi;obtain rfl:=Option.some.inj hv;rfl
 |func ps rs va=>
  obtain ⟨t,ht,hi⟩:=Option.bind_eq_some_iff.1 hi;obtain rfl:=Option.some.inj hi;obtain rfl:=Option.some.inj hv;rfl
 |array n e=>
  obtain ⟨j,hj,hi⟩:=Option.bind_eq_some_iff.1 hi;obtain ⟨t,ht,hi⟩:=Option.bind_eq_some_iff.1 hi;obtain rfl:=Option.some.inj hi;have hv:(if n*j.size > Made.mostCells then none else if n*j.size=0 then some (.agg #[]) else j.zero.map fun z=> .agg ((Array.replicate n z.cells).flatten))=some v:=hv;split at hv
  ·cases hv
  ·split at hv
   ·obtain rfl:=Option.some.inj hv;rfl
   ·obtain ⟨z,hz,rfl⟩:=Option.map_eq_some_iff.1 hv;show ot (Array.replicate n z.cells).flatten=true;have hc:=ac9 (h _ j z hj hz);obtain ⟨l,hl⟩:∃l:List Value,z.cells=⟨l⟩:=⟨z.cells.toList,rfl⟩;rw [hl] at hc ⊢;have:(Array.replicate n (⟨l⟩:Array Value)).flatten=⟨(List.replicate n l).flatten⟩:=by
     apply Array.ext';simp [Array.toList_flatten]
    rw [this];exact afa _ fun x hx=>by
     obtain ⟨-,rfl⟩:=List.mem_replicate.1 hx;exact hc
 |struct fs=>exact ac7 h fs i hi v hv
 |_=>cases hi
theorem adh {T:Tables}(h:∀(t:Nat)(i:TypeInfo) v,T.types[t]? =some i→i.zero=some v→lg v=true):∀f,ahx (Made.infoAt T f)
 |0=>fun t i v hi=>by cases hi
 |f+1=>fun t i v hi hv=>by
  unfold Made.infoAt at hi;split at hi
  ·exact h t i v hi hv
  ·obtain ⟨d,hd,hi⟩:=Option.bind_eq_some_iff.1 hi;exact ajj (adh h f) d i hi v hv
theorem amp {P:Program}(h:(P.types.all fun i=>(i.zero.map lg).getD true)=true):∀t i v,P.info? t=some i→i.zero=some v→lg v=true:=by
 have h0:∀(t:Nat) i v,P.types[t]? =some i→i.zero=some v→lg v=true:=fun t i v hi hv=>by
  rw [Array.all_eq_true_iff_forall_mem] at h;have:=h i (Array.mem_of_getElem? hi);rw [hv] at this;exact this
 intro t i v hi hv;have hi:Tables.info? P.toTables t=some i:=hi;unfold Tables.info? at hi;split at hi
 ·exact h0 t i v hi hv
 ·exact adh h0 _ t i v hi hv
section
variable {Pr:Program}{b c:Frame}{a:Act}{ops:Array Oper}{i:Nat}{rest:List Nat}{k todo:List Item}{cs:List Frame}{o:Oper}{n:Nat}
theorem Quiet.op (hk:b.kind≠ .early)(ho:ops[i]? =some o)(hg:o.guard=none){v:Value}(hr:∀w,(execOp a.eval o).run Pr w= .ok (.value v) w)(he:∀w,(execOp a.eval o).events Pr w #[]=#[]):Quiet Pr (av (b.at a (.inRegion ops (i::rest)::k)) cs) (av (b.at (a.put o.dst v) (.inRegion ops rest::k)) cs):=by
 refine ⟨rfl,fun w=> ?_⟩;have hke:((b.at a (.inRegion ops (i::rest)::k)).kind==CallKind.early)=false:=by
  show (b.kind==CallKind.early)=false
  simpa using hk
 have:=(stepG_oper (P:=Pr) (main:=false) (b:=b) (a:=a) (cs:=cs) (rest:=rest) (k:=k) (w:=w) ho (by unfold Region.wanted;rw [hg])).trans (nc (by rw [Sem.runT_eq,hr w,he w]) hke);rw [Frame.finish_at,ho,seen_none] at this;exact this
theorem Quiet.enter (hk:b.kind≠ .early)(ho:ops[i]? =some o)(hg:o.guard=none){f:FuncId}{args:Array Value}(hr:∀w,(execOp a.eval o).run Pr w= .ok (.enter f args) w)(he:∀w,(execOp a.eval o).events Pr w #[]=#[]):Quiet Pr (av (b.at a (.inRegion ops (i::rest)::k)) cs) (av (Frame.enter Pr f args .normal) (b.at a (.inRegion ops (i::rest)::k)::cs)):=by
 refine ⟨rfl,fun w=> ?_⟩;have hke:((b.at a (.inRegion ops (i::rest)::k)).kind==CallKind.early)=false:=by
  show (b.kind==CallKind.early)=false
  simpa using hk
 have:=(stepG_oper (P:=Pr) (main:=false) (b:=b) (a:=a) (cs:=cs) (rest:=rest) (k:=k) (w:=w) ho (by unfold Region.wanted;rw [hg])).trans (m8 (by rw [Sem.runT_eq,hr w,he w]) hke rfl);rw [seen_none] at this;exact this
def below (Pr:Program):Frame:={(default:Frame) with fn:=Pr.funcs.size,defers:=[],mode:= .panicking [goexitEntry]}
theorem Quiet.born {f:FuncId}{args:Array Value}(hr:∀w,(callFunc f args).run Pr w= .ok (.enter f args) w)(he:∀w,(callFunc f args).events Pr w #[]=#[]):Quiet Pr (born Pr {target:= .fn (.func f) #[],args:=args}) (av (Frame.enter Pr f args .deferred) [below Pr]):=by
 refine ⟨rfl,fun w=> ?_⟩;have h1:stepG Pr false (av {below Pr with defers:=[{target:= .fn (.func f) #[],args:=args}]} []) w=_:=(lh (fr:={below Pr with defers:=[{target:= .fn (.func f) #[],args:=args}]}) (by simp [below])).trans ((zu rfl (fun b h=>by cases h)).trans (aak (d:={target:= .fn (.func f) #[],args:=args}) (by simp [jn]) (show (callFunc f (args++ #[])).runT Pr w #[]=_ by rw [Array.append_empty,Sem.runT_eq,hr w,he w])));rw [seen_none] at h1;exact h1
theorem ai8:QuitsD Pr 1 0 (av (below Pr) []):=by
 refine .ctl (g':={frame:=below Pr,callers:=[],status:= .finished,dying:=none}) rfl (fun w=> ?_) ⟨rfl,rfl⟩;rw [lh (by simp [below])];have hc:(below Pr).catches Pr=false:=by
  unfold Frame.catches below;have h1:Pr.funcs[Pr.funcs.size]? =none:=by simp
  simp [h1];rfl
 unfold unwind;rw [hc];simp [below,goexitEntry]
theorem ab7 {fn:Func}(hn:b.kind= .deferred)(hd:a.defers=[])(hf:Pr.funcs[b.fn]? =some fn)(hr:fn.results=#[])(hc:c.mode= .panicking [goexitEntry])(w:World):stepG Pr false (G {b.at a todo with mode:= .returning} (c::cs)) w= .go (G c cs) w:=by
 have hr1:=results_none hr a.tmps Pr w;have he:=events_results_none (P:=Pr) (w:=w) hr a.tmps #[];simp [G,stepG,unwind,doReturn,Frame.at,hn,hd,hf,hr1,he,hc,seen,GStep.after,goexitEntry]
theorem ahn {fn:Func}(hn:b.kind= .deferred)(hd:a.defers=[])(hf:Pr.funcs[b.fn]? =some fn)(hr:fn.results=#[]):QuitsD Pr 3 0 (av (b.at a []) [below Pr]):=
 .ctl rfl (fun w=>stepG_end) (.ctl (g':=av (below Pr) []) rfl (fun w=>ab7 hn hd hf hr rfl w) ai8)
theorem aml {ρ:Operand→Value}{x:Operand}(h:o.op= .move x):execOp ρ o=pure (.value (ρ x)):=by
 cases o;subst h;rfl
theorem aoo {ρ:Operand→Value}{x:Operand}{as:Array Operand}{ts:Array TypeId}{f:FuncId}{first capt:Array Value}(h:o.op= .call {callee:= .value x,args:=as,argTypes:=ts})(hx:ρ x= .func (.func f) first capt):execOp ρ o=callFunc f (first++as.map ρ++capt):=by
 cases o;subst h;show ((do let d ←Deferred.ofValue (ρ x) (as.map ρ);invoke d.target d.args):Sem Next)=_;rw [hx];rfl
theorem akq {ρ:Operand→Value}{t:TypeId}{ps:Array (Nat×Operand)}(h:o.op= .build t ps):execOp ρ o=(do pure (Next.value (←Instr.build t (ps.map fun (i,x)=>(i,ρ x))))):=by
 cases o;subst h;rfl
theorem aoz {ρ:Operand→Value}{x y:Operand}(h:o.op= .send x y):execOp ρ o=pure (.comm #[{chan:=ρ x,send:=some (ρ y),zero:= .tuple #[]}] true .send):=by
 cases o;subst h;rfl
structure aaz (fn:Func)(id:Nat)(ops:Array Oper)(tR:TypeId):Prop where
 body:fn.body=some (.region id ops false)
 res:fn.results=#[]
 nt:fn.ntmps=15
 size:ops.size=8
 o0:∃o,ops[0]? =some o∧o.guard=none∧o.dst=some 8∧o.op= .move (.tmp 3)
 o1:∃o,ops[1]? =some o∧o.guard=none∧o.dst=some 9∧o.op= .move (.tmp 0)
 o2:∃o,ops[2]? =some o∧o.guard=none∧o.dst=some 10∧o.op= .move (.tmp 2)
 o3:∃o,ops[3]? =some o∧o.guard=none∧o.dst=some 11∧o.op= .move (.tmp 0)
 o4:∃o,ops[4]? =some o∧o.guard=none∧o.dst=some 12∧o.op= .move (.tmp 1)
 o5:∃o ts,ops[5]? =some o∧o.guard=none∧o.dst=some 13∧o.op= .call {callee:= .value (.tmp 10),args:=#[.tmp 11,.tmp 12],argTypes:=ts}
 o6:∃o,ops[6]? =some o∧o.guard=none∧o.dst=some 14∧o.op= .build tR #[(0,.tmp 9),(1,.tmp 13)]
 o7:∃o,ops[7]? =some o∧o.guard=none∧o.dst=none∧o.op= .send (.tmp 8) (.tmp 14)
def wf0 (f:FuncId):Frame:={(default:Frame) with fn:=f,kind:= .deferred}
def wact (p d j ch:Value):Act:={tmps:=#[p,d,j,ch,undef,undef,undef,undef,ch,p,j,p,d,undef,undef],defers:=[]}
def aen (p d j ch v:Value):Act:={tmps:=#[p,d,j,ch,undef,undef,undef,undef,ch,p,j,p,d,v,undef],defers:=[]}
def vy (p d j ch v u:Value):Act:={tmps:=#[p,d,j,ch,undef,undef,undef,undef,ch,p,j,p,d,v,u],defers:=[]}
def wJ (Pr:Program)(f:FuncId)(ops:Array Oper)(p d:Value)(fj:FuncId)(first capt:Array Value)(ch:Nat)(R:Value→World→Prop)(told:Value→Value)(ok:Value→Prop):Jb:=
 {f:=fj,args:=first++ #[p,d]++capt,R:=R,wf:=(wf0 f).at (wact p d (.func (.func fj) first capt) (.chan (some ch))) [.inRegion ops [5,6,7]],cs:=[below Pr],told:=told,ok:=ok}
variable {f fj:FuncId}{fn:Func}{id:Nat}{tR:TypeId}{p d:Value}{first capt:Array Value}{ch:Nat}{R:Value→World→Prop}{told:Value→Value}{ok:Value→Prop}
theorem wJ_ok (hf:Pr.funcs[f]? =some fn)(W:aaz fn id ops tR)(hb:∀v,ok v→∀w,(Instr.build tR #[(0,p),(1,v)]).run Pr w= .ok (told v) w∧(Instr.build tR #[(0,p),(1,v)]).events Pr w #[]=#[]):acp Pr ch (wJ Pr f ops p d fj first capt ch R told ok):=by
 refine ⟨fun v hv=> ?_⟩;obtain ⟨o5,ts,h5,-,hd5,-⟩:=W.o5;obtain ⟨o6,h6,hg6,hd6,ho6⟩:=W.o6;obtain ⟨o7,h7,hg7,hd7,ho7⟩:=W.o7;have e0:(wJ Pr f ops p d fj first capt ch R told ok).wf.finish v=(wf0 f).at (aen p d (.func (.func fj) first capt) (.chan (some ch)) v) [.inRegion ops [6,7]]:=by
  show ((wf0 f).at _ (.inRegion ops (5::[6,7])::[])).finish v=_;rw [Frame.finish_at,h5];show (wf0 f).at (Act.put _ o5.dst v) _=_;rw [hd5];rfl
 rw [e0];have e6:∀w:World,(execOp (aen p d (.func (.func fj) first capt) (.chan (some ch)) v).eval o6)=(do pure (Next.value (←Instr.build tR #[(0,p),(1,v)]))):=fun w=>(akq ho6).trans (by rw [show (Array.map _ #[(0,Operand.tmp 9),(1,Operand.tmp 13)])=#[(0,p),(1,v)] from by simp [aen,Act.eval]])
 have e7:execOp (vy p d (.func (.func fj) first capt) (.chan (some ch)) v (told v)).eval o7=pure (.comm #[scase ch (told v) (.tuple #[])] true .send):=aoz ho7;have q6:Quiet Pr (av ((wf0 f).at (aen p d (.func (.func fj) first capt) (.chan (some ch)) v) [.inRegion ops [6,7]]) [below Pr]) (av ((wf0 f).at (vy p d (.func (.func fj) first capt) (.chan (some ch)) v (told v)) [.inRegion ops [7]]) [below Pr]):=by
  have:=Quiet.op (Pr:=Pr) (b:=wf0 f) (a:=aen p d (.func (.func fj) first capt) (.chan (some ch)) v) (cs:=[below Pr]) (rest:=[7]) (k:=[]) (i:=6) (o:=o6) (v:=told v) (by simp [wf0]) h6 hg6 (fun w=>by rw [e6 w];simp [(hb v hv w).1]) (fun w=>by rw [e6 w];simp [(hb v hv w).1,(hb v hv w).2]);rw [hd6] at this;exact this
 refine ⟨1,_,.succ q6 (.zero _),rfl,G ((wf0 f).at (vy p d (.func (.func fj) first capt) (.chan (some ch)) v (told v)) (.inRegion ops (7::[])::[])) [below Pr],.tuple #[],fun w=> ?_,?_⟩
 ·have h:=stepG_comm (P:=Pr) (main:=false) (b:=wf0 f) (a:=vy p d (.func (.func fj) first capt) (.chan (some ch)) v (told v)) (cs:=[below Pr]) (rest:=[]) (k:=[]) (w:=w) (w':=w) (cases:=#[scase ch (told v) (.tuple #[])]) (blocking:=true) (shape:= .send) h7 (by unfold Region.wanted;rw [hg7]) (by simp [wf0]) (by rw [e7];rfl);have hl:listed Pr (wf0 f).fn (vy p d (.func (.func fj) first capt) (.chan (some ch)) v (told v)) o7 w=#[]:=by
   unfold listed;rw [e7];exact seen_none _ _
  rw [hl] at h;exact h
 ·refine ⟨4,?_⟩;have e8:Go.Conc.served (G ((wf0 f).at (vy p d (.func (.func fj) first capt) (.chan (some ch)) v (told v)) (.inRegion ops (7::[])::[])) [below Pr]) undef=av ((wf0 f).at (vy p d (.func (.func fj) first capt) (.chan (some ch)) v (told v)) [.inRegion ops []]) [below Pr]:=by
   unfold Go.Conc.served;rw [show (G ((wf0 f).at (vy p d (.func (.func fj) first capt) (.chan (some ch)) v (told v)) (.inRegion ops (7::[])::[])) [below Pr]).frame=(wf0 f).at (vy p d (.func (.func fj) first capt) (.chan (some ch)) v (told v)) (.inRegion ops (7::[])::[]) from rfl,Frame.finish_at,h7];show av ((wf0 f).at (Act.put _ o7.dst undef) _) _=_;rw [hd7];rfl
  rw [e8];exact .ctl rfl (fun w=>stepG_region_end) (ahn rfl rfl hf W.res)
set_option maxHeartbeats 4000000 in
/-- From its birth to its job. -/
theorem aj6 (hf:Pr.funcs[f]? =some fn)(W:aaz fn id ops tR)(hnm:(fn.name== "runtime.NumGoroutine")=false){fnj:Func}{cj:Code}(hfj:Pr.funcs[fj]? =some fnj)(hbj:fnj.body=some cj)(hnj:(fnj.name== "runtime.NumGoroutine")=false):
  ∃kq,QS Pr (kq+1) (born Pr {target:= .fn (.func f) #[],args:=#[p,d,.func (.func fj) first capt,.chan (some ch)]}) (av (Frame.enter Pr (wJ Pr f ops p d fj first capt ch R told ok).f (wJ Pr f ops p d fj first capt ch R told ok).args .normal) ((wJ Pr f ops p d fj first capt ch R told ok).wf::(wJ Pr f ops p d fj first capt ch R told ok).cs)):=by
 have hcf:∀(g:FuncId)(fn:Func)(c:Code)(args:Array Value)(w:World),Pr.funcs[g]? =some fn→fn.body=some c→(fn.name== "runtime.NumGoroutine")=false→(callFunc g args).run Pr w= .ok (.enter g args) w∧(callFunc g args).events Pr w #[]=#[]:=fun g fn c args w h1 h2 h3=>by
  have h3:¬fn.name= "runtime.NumGoroutine":=by simpa using h3
  constructor
  ·simp [callFunc,h1,h2,h3]
  ·simp [callFunc,h1,h2,h3]
 obtain ⟨o0,h0,hg0,hd0,ho0⟩:=W.o0;obtain ⟨o1,h1,hg1,hd1,ho1⟩:=W.o1;obtain ⟨o2,h2,hg2,hd2,ho2⟩:=W.o2;obtain ⟨o3,h3,hg3,hd3,ho3⟩:=W.o3;obtain ⟨o4,h4,hg4,hd4,ho4⟩:=W.o4;obtain ⟨o5,ts,h5,hg5,hd5,ho5⟩:=W.o5;have e0:Frame.enter Pr f #[p,d,.func (.func fj) first capt,.chan (some ch)] .deferred=(wf0 f).at ⟨#[p,d,.func (.func fj) first capt,.chan (some ch),undef,undef,undef,undef,undef,undef,undef,undef,undef,undef,undef],[]⟩ [.code (.region id ops false)]:=by
  unfold Frame.enter;simp only [hf,Option.map_some,Option.getD_some,Option.bind_some,W.nt,W.body];rfl
 have mv:∀(a1:Act){a:Act}{i:Nat}{rest:List Nat}{o:Oper}{x:Operand},ops[i]? =some o→o.guard=none→o.op= .move x→a.put o.dst (a.eval x)=a1→Quiet Pr (av ((wf0 f).at a (.inRegion ops (i::rest)::[])) [below Pr]) (av ((wf0 f).at a1 (.inRegion ops rest::[])) [below Pr]):=fun a1 {a i rest o x} h hg ho ha=>by
  subst ha;have e:execOp a.eval o=pure (.value (a.eval x)):=aml ho;exact Quiet.op (by simp [wf0]) h hg (fun w=>by rw [e];rfl) (fun w=>by rw [e];rfl)
 refine ⟨7,.succ (Quiet.born (fun w=>(hcf f fn _ _ w hf W.body hnm).1) (fun w=>(hcf f fn _ _ w hf W.body hnm).2)) ?_⟩;rw [e0];have qr:Quiet Pr (av ((wf0 f).at ⟨#[p,d,.func (.func fj) first capt,.chan (some ch),undef,undef,undef,undef,undef,undef,undef,undef,undef,undef,undef],[]⟩ [.code (.region id ops false)]) [below Pr]) (av ((wf0 f).at ⟨#[p,d,.func (.func fj) first capt,.chan (some ch),undef,undef,undef,undef,undef,undef,undef,undef,undef,undef,undef],[]⟩ (.inRegion ops [0,1,2,3,4,5,6,7]::[])) [below Pr]):=⟨rfl,fun w=>by
  have:=stepG_region (P:=Pr) (main:=false) (b:=wf0 f) (a:=⟨#[p,d,.func (.func fj) first capt,.chan (some ch),undef,undef,undef,undef,undef,undef,undef,undef,undef,undef,undef],[]⟩) (cs:=[below Pr]) (k:=[]) (w:=w) (id:=id) (ops:=ops);rw [W.size] at this;exact this⟩
 refine .succ qr ?_;refine .succ (mv ⟨#[p,d,.func (.func fj) first capt,.chan (some ch),undef,undef,undef,undef,.chan (some ch),undef,undef,undef,undef,undef,undef],[]⟩ h0 hg0 ho0 (by rw [hd0];rfl)) ?_;refine .succ (mv ⟨#[p,d,.func (.func fj) first capt,.chan (some ch),undef,undef,undef,undef,.chan (some ch),p,undef,undef,undef,undef,undef],[]⟩ h1 hg1 ho1 (by rw [hd1];rfl)) ?_;refine .succ (mv ⟨#[p,d,.func (.func fj) first capt,.chan (some ch),undef,undef,undef,undef,.chan (some ch),p,.func (.func fj) first capt,undef,undef,undef,undef],[]⟩ h2 hg2 ho2 (by rw [hd2];rfl)) ?_;refine .succ (mv ⟨#[p,d,.func (.func fj) first capt,.chan (some ch),undef,undef,undef,undef,.chan (some ch),p,.func (.func fj) first capt,p,undef,undef,undef],[]⟩ h3 hg3 ho3 (by rw [hd3];rfl)) ?_;refine .succ (mv (wact p d (.func (.func fj) first capt) (.chan (some ch))) h4 hg4 ho4 (by rw [hd4];rfl)) ?_;have e5:execOp (wact p d (.func (.func fj) first capt) (.chan (some ch))).eval o5=callFunc fj (first++ #[p,d]++capt):=(aoo (f:=fj) (first:=first) (capt:=capt) ho5 rfl).trans (by rw [show (Array.map _ #[Operand.tmp 11,Operand.tmp 12])=#[p,d] from by simp [wact,Act.eval]]);refine .succ (Quiet.enter (Pr:=Pr) (b:=wf0 f) (a:=wact p d (.func (.func fj) first capt) (.chan (some ch))) (cs:=[below Pr]) (rest:=[6,7]) (k:=[]) (i:=5) (o:=o5) (f:=fj) (args:=first++ #[p,d]++capt) (by simp [wf0]) h5 hg5 (fun w=>by rw [e5];exact (hcf fj fnj _ _ w hfj hbj hnj).1) (fun w=>by rw [e5];exact (hcf fj fnj _ _ w hfj hbj hnj).2)) (.zero _)
end
section
variable {w:World}{τ:Tap}{d:Nat}
@[simp] theorem tp_cell (x:Addr):(tp w τ d).cell? x=w.cell? x:=rfl
@[simp] theorem tp_frozen (x:Addr):(tp w τ d).frozen? x=w.frozen? x:=rfl
@[simp] theorem afe:(tp w τ d).heap=w.heap:=rfl
@[simp] theorem alv (x:Addr)(v:Value):(tp w τ d).setCell x v=tp (w.setCell x v) τ d:=rfl
@[simp] theorem aih (o:Obj):(tp w τ d).alloc o=tp (w.alloc o) τ d:=rfl
variable {a:Act}
theorem eval_put (k s:Nat)(v:Value)(h:s<a.tmps.size):(a.put (some s) v).eval (.tmp k)=if k=s then v else a.eval (.tmp k):=by
 show (a.tmps.setIfInBounds s v).getD k undef=_;simp only [Act.eval,Array.getD_eq_getD_getElem?,Array.getElem?_setIfInBounds]
 by_cases e:k=s
 ·subst e;simp [h]
 ·rw [if_neg (fun e2=>e e2.symm),if_neg e]
@[simp] theorem bn (v:Value)(x:Operand):(a.put none v).eval x=a.eval x:=rfl
@[simp] theorem eval_const (v:Value):a.eval (.const v)=v:=rfl
@[simp] theorem size_put (s:Option Tmp)(v:Value):(a.put s v).tmps.size=a.tmps.size:=by
  cases s with
  |none=>rfl
  |some s=>simp [Act.put]
@[simp] theorem abc (s:Option Tmp)(v:Value):(a.put s v).defers=a.defers:=by cases s <;> rfl
theorem jv (i:Nat)(h:i<1000000):IntKind.i64.wrap ((i:Int)+1)=((i+1:Nat):Int):=by
 rw [wrap_small _ ai ai];omega
theorem ee {b i:Nat}{c:Array Value}{e:TypeId}{z:Nat×Nat}{v:Value}(h:w.heap[b]? =some (.cells c e z)):(w.setCell ⟨b,i,none⟩ v).heap[b]? =some (.cells (c.setIfInBounds i v) e z):=by
 simp [World.setCell,Array.getElem?_modify,h]
theorem ig {b i x:Nat}{v:Value}(h:x≠b):(w.setCell ⟨b,i,none⟩ v).heap[x]? =w.heap[x]? :=by
 simp only [World.setCell,Array.getElem?_modify];rw [if_neg fun e=>h e.symm]
def Oth (b:Nat)(w w1:World):Prop:=w1.heap.size=w.heap.size∧∀x,x≠b→w1.heap[x]? =w.heap[x]?
theorem Oth.refl (b:Nat)(w:World):Oth b w w:=⟨rfl,fun _ _=>rfl⟩
theorem Oth.trans {b:Nat}{w w1 w2:World}(h:Oth b w w1)(h2:Oth b w1 w2):Oth b w w2:=⟨h2.1.trans h.1,fun x hx=>(h2.2 x hx).trans (h.2 x hx)⟩
theorem Oth.set {b i:Nat}{v:Value}:Oth b w (w.setCell ⟨b,i,none⟩ v):=⟨by simp,fun x hx=>ig hx⟩
def Kp (L:List Nat)(a a1:Act):Prop:=∀k∈L,a1.eval (.tmp k)=a.eval (.tmp k)
theorem Kp.refl (L:List Nat)(a:Act):Kp L a a:=fun _ _=>rfl
theorem Kp.trans {L:List Nat}{a a1 a2:Act}(h:Kp L a a1)(h2:Kp L a1 a2):Kp L a a2:=fun k hk=>(h2 k hk).trans (h k hk)
theorem aka {P:Program}{o:Oper}{f:FuncId}{as:Array Operand}{ts:Array TypeId}(h:o.op= .go {callee:= .value (.func f),args:=as,argTypes:=ts})(u:World):(execOp a.eval o).runT P u #[]=(.ok (.spawn {target:= .fn (.func f) #[],args:=as.map a.eval}) u,#[]):=by
 cases o;subst h;show (Result.ok (Next.spawn {target:= .fn (.func f) #[],args:=#[]++as.map a.eval}) u,#[])=_;rw [Array.empty_append]
def Gro (b:Nat)(w w1:World):Prop:=w.heap.size≤w1.heap.size∧∀x,x<w.heap.size→x≠b→w1.heap[x]? =w.heap[x]?
theorem Gro.refl (b:Nat)(w:World):Gro b w w:=⟨Nat.le_refl _,fun _ _ _=>rfl⟩
theorem Gro.trans {b:Nat}{w w1 w2:World}(h:Gro b w w1)(h2:Gro b w1 w2):Gro b w w2:=⟨Nat.le_trans h.1 h2.1,fun x hx hb=>(h2.2 x (Nat.lt_of_lt_of_le hx h.1) hb).trans (h.2 x hx hb)⟩
theorem Oth.gro {b:Nat}{w w1:World}(h:Oth b w w1):Gro b w w1:=⟨by rw [h.1];exact Nat.le_refl _,fun x _ hx=>h.2 x hx⟩
theorem Gro.gu {b kd:Nat}:Gro b w {w with heap:=w.heap++Array.replicate kd gu}:=⟨by simp,fun x hx _=>by rw [Array.getElem?_append_left hx]⟩
theorem Gro.alloc {b:Nat}{o:Obj}:Gro b w (w.alloc o):=⟨by simp,fun x hx _=>by
 unfold World.alloc;rw [Array.getElem?_push_lt hx,Array.getElem?_eq_getElem hx]⟩
theorem Gro.new {b n i:Nat}{w1:World}{v:Value}(h:Gro b w w1)(hn:w.heap.size≤n):Gro b w (w1.setCell ⟨n,i,none⟩ v):=⟨by simpa using h.1,fun x hx hb=>(ig ai).trans (h.2 x hx hb)⟩
theorem bf {b:Nat}{o:Obj}(h:w.heap[b]? =some o):b<w.heap.size:=(Array.getElem?_eq_some_iff.1 h).1
theorem bw {b:Nat}{o o2:Obj}(h:w.heap[b]? =some o):(w.alloc o2).heap[b]? =some o:=by
 unfold World.alloc;rw [Array.getElem?_push_lt (bf h)];rw [←h,Array.getElem?_eq_getElem (bf h)]
theorem bu {o:Obj}:(w.alloc o).heap[w.heap.size]? =some o:=by
 unfold World.alloc;exact Array.getElem?_push_size
theorem af {b i:Nat}{c:Array Value}{e:TypeId}{z:Nat×Nat}(h:w.heap[b]? =some (.cells c e z))(hi:i<c.size):w.cell? ⟨b,i,none⟩=some c[i]:=by simp [World.cell?,h,hi]
theorem ed {b i:Nat}{c:Array Value}{e:TypeId}(h:w.heap[b]? =some (.cells c e (0,0))):w.frozen? ⟨b,i,none⟩=false:=by simp [World.frozen?,h]
end
def left (gv:Nat→Option Value):Nat→Nat
 |0=>0
 |n+1=>left gv n+ (if (gv (n+1)).isNone then 1 else 0)
section
variable {gv:Nat→Option Value}
theorem adk:∀{n:Nat},0<left gv n→∃j,j≠0∧j≤n∧gv j=none
 |0,h=>by simp [left] at h
 |n+1,h=>by
  by_cases hg:gv (n+1)=none
  ·exact ⟨n+1,by omega,Nat.le_refl _,hg⟩
  ·obtain ⟨j,h1,h2,h3⟩:=adk (n:=n) (by simpa [left,hg] using h);exact ⟨j,h1,by omega,h3⟩
theorem ach:∀{n:Nat},left gv n=0→∀j,j≠0→j≤n→gv j≠none
 |0,_,j,h0,hj=>by omega
 |n+1,h,j,h0,hj=>by
  by_cases hg:gv (n+1)=none
  ·simp [left,hg] at h
  ·by_cases e:j=n+1
   ·subst e;exact hg
   ·exact ach (n:=n) (by simpa [left,hg] using h) j h0 ai
theorem af9 {gv2:Nat→Option Value}:∀{n:Nat},(∀j,j≠0→j≤n→gv2 j=gv j)→left gv2 n=left gv n
 |0,_=>rfl
 |n+1,h=>by simp only [left,h (n+1) ai (Nat.le_refl _),af9 (n:=n) fun j h0 hj=>h j h0 ai]
theorem adq {v:Value}:∀{n j:Nat},j≠0→j≤n→gv j=none→left (Go.ConcN.upd gv j (some v)) n+1=left gv n
 |0,j,h0,hj,_=>by omega
 |n+1,j,h0,hj,hg=>by
  by_cases e:j=n+1
  ·subst e;simp only [left,Go.ConcN.upd_same,hg];rw [af9 (gv:=gv) fun i _ hi=>Go.ConcN.upd_ne _ _ ai];simp
  ·have:=adq (v:=v) (n:=n) h0 ai hg;simp only [left];rw [Go.ConcN.upd_ne _ _ ai];omega
theorem abj:∀{n:Nat},(∀j,gv j=none)→left gv n=n
 |0,_=>rfl
 |n+1,h=>by simp [left,h,abj (n:=n) h]
end
section
variable {P:Program}{fs:Array Func}{w w1 w':World}{a a1:Act}{T A':List Frame}{b c fr0:Frame}{k todo:List Item}{cs:List Frame}{Q:Goroutine→World→Prop}{v:Value}{Z F:Nat→Prop}{π0:Pm}
theorem abk [Bg] (hcl:ClA w1.heap.size π0 a1)(hA:At P Z F π0 w1 (cy w'))(hW:Whole P w')(hb:Base one w'.heap.size)(hd:a1.defers=[]):Sound P w' (dw π0 a1):=by
 refine ⟨hW,hb,fun π' ha=> ?_,hd⟩;show az π' (az π0 a1.tmps)=az π0 a1.tmps;rw [←mg];refine hcl _ fun x hx=> ?_
 show π'.to (π0.to x)=π0.to x;exact ha _ (by have:=hA.img x hx;rwa [ji] at this)
theorem cr.valS [Bg] {ops:Array Oper}{i:Nat}{rest:List Nat}{o:Oper}(C:Ctx P fs)(hS:Sound P w a)(hk:b.kind= .normal)(ho:ops[i]? =some o)(hm:sq P o=true)(hw:Region.wanted o (yielded ops a.tmps)=true)(hr:∀d,(execOp a.eval o).run P (w.at d)= .ok (.value v) (w.at d))
  (h:Sound P w (a.put o.dst v)→cr (aq P fs) Q (av (b.at (a.put o.dst v) (.inRegion ops rest::k)) cs) w):cr (aq P fs) Q (av (b.at a (.inRegion ops (i::rest)::k)) cs) w:=cr.val C hS hk v w ho hm hw hr h
section
variable {Pr:Program}{c1 c2:Code}{id:Nat}{ops:Array Oper}
theorem cr.seq [Bg] (h:cr Pr Q (av (b.at a (.code c1:: .code c2::k)) cs) w):cr Pr Q (av (b.at a (.code (.seq c1 c2)::k)) cs) w:=cr.tj rfl (fun _=>stepG_seq) h
theorem cr.skip [Bg] (h:cr Pr Q (av (b.at a k) cs) w):cr Pr Q (av (b.at a (.code .skip::k)) cs) w:=cr.tj rfl (fun _=>stepG_skip) h
theorem cr.cond [Bg] {o:Operand}{t:Bool}(ht:a.eval o= .bool t)(h:cr Pr Q (av (b.at a (.code (if t then c1 else c2)::k)) cs) w):cr Pr Q (av (b.at a (.code (.cond o c1 c2)::k)) cs) w:=cr.tj rfl (fun _=>stepG_cond ht) h
theorem cr.region [Bg] (h:cr Pr Q (av (b.at a (.inRegion ops (List.range ops.size)::k)) cs) w):cr Pr Q (av (b.at a (.code (.region id ops false)::k)) cs) w:=cr.tj rfl (fun _=>stepG_region) h
theorem cr.ak [Bg] (h:cr Pr Q (av (b.at a k) cs) w):cr Pr Q (av (b.at a (.inRegion ops []::k)) cs) w:=cr.tj rfl (fun _=>stepG_region_end) h
end
theorem cw {o:Oper}{f:FuncId}{xs:Array Operand}{ts:Array TypeId}(h:o.op= .call {callee:= .value (.func f),args:=xs,argTypes:=ts}):execOp a.eval o=callFunc f (xs.map a.eval):=by
 cases o;subst h;show callFunc f (#[]++xs.map a.eval++ #[])=_;rw [Array.append_empty,Array.empty_append]
theorem enter_at {f:FuncId}{fn:Func}{c:Code}{args:Array Value}{m:Nat}(hf:P.funcs[f]? =some fn)(hb:fn.body=some c)(hm:fn.ntmps-args.size=m):Frame.enter P f args .normal=({(default:Frame) with fn:=f,kind:= .normal}:Frame).at ⟨args++Array.replicate m undef,[]⟩ [.code c]:=by
 subst hm;simp [Frame.enter,Frame.at,hf,hb]
theorem jb {xs:Array Value}{m k:Nat}{v:Value}(h:xs[k]? =some v):(⟨xs++Array.replicate m undef,[]⟩:Act).eval (.tmp k)=v:=by
 have hk:=(Array.getElem?_eq_some_iff.1 h).1;show (xs++Array.replicate m undef).getD k undef=v;rw [Array.getD_eq_getD_getElem?,Array.getElem?_append_left hk,h];rfl
theorem yy [Bg] {f:FuncId}{args:Array Value}{m:Nat}(hF:Fit P T (av (Frame.enter P f args .normal) cs) w):Sound P w ⟨args++Array.replicate m undef,[]⟩:=by
 obtain ⟨fr2,A2,e,-,hst,hb,hW⟩:=hF;obtain ⟨rfl,-⟩:=jz e;refine ⟨hW,hb,fun π' ha=> ?_,rfl⟩;have h:=(gy (Still.cons.1 hst).1 π' ha).1;rw [jg] at h;have h:az π' (args++Array.replicate (((P.funcs[f]?).map (·.ntmps)).getD 0-args.size) undef)=args++Array.replicate (((P.funcs[f]?).map (·.ntmps)).getD 0-args.size) undef:=h;have hargs:az π' args=args:=by
  rw [jl] at h;have h2:=congrArg (fun x=>x.extract 0 args.size) h;have h3:(az π' args).extract 0 args.size=args:=by simpa [il] using h2
  have h4:(az π' args).extract 0 args.size=az π' args:=by
   rw [show args.size=(az π' args).size from (il args).symm];exact Array.extract_size
  exact h4.symm.trans h3
 show az π' (args++Array.replicate m undef)=args++Array.replicate m undef;rw [jl,hargs];congr 1;rw [fh,Array.map_replicate];rfl
end
section
variable {w:World}{b o:Nat}{e:TypeId}{z:Nat×Nat}
@[simp] theorem yr (τ:Tap)(d:Nat):∀(vs:List Value)(b o:Nat)(w:World),(tp w τ d).setCells b o vs=tp (w.setCells b o vs) τ d
  | [],_,_,_=>rfl
  |v::vs,b,o,w=>by
   rw [World.setCells,World.setCells,alv,yr τ d vs]
theorem uz:∀(vs:List Value)(o:Nat)(w:World)(c:Array Value),w.heap[b]? =some (.cells c e z)→∃c',(w.setCells b o vs).heap[b]? =some (.cells c' e z)∧c'.size=c.size∧(∀j,j<vs.length→o+j<c.size→c'[o+j]? =vs[j]?)∧∀x,(x<o∨o+vs.length≤x)→c'[x]? =c[x]?
 | [],o,w,c,h=>⟨c,h,rfl,fun j hj=>absurd hj (Nat.not_lt_zero _),fun _ _=>rfl⟩
 |v::vs,o,w,c,h=>by
  obtain ⟨c',h1,h2,h3,h4⟩:=uz vs (o+1) (w.setCell ⟨b,o,none⟩ v) _ (ee (i:=o) (v:=v) h);refine ⟨c',h1,by simpa using h2,fun j hj hlt=> ?_,fun x hx=> ?_⟩
  ·cases j with
   |zero=>
    rw [h4 (o+0) (.inl ai),Array.getElem?_setIfInBounds];simp;omega
   |succ j=>
    have:=h3 j (by simpa using hj) (by simp;omega);rw [show o+ (j+1)=o+1+j by omega,this];rfl
  ·simp only [List.length_cons] at hx;rw [h4 x ai,Array.getElem?_setIfInBounds_ne ai]
theorem Oth.aal:∀(vs:List Value)(o:Nat)(w:World),Oth b w (w.setCells b o vs)
 | [],_,w=>Oth.refl b w
 |v::vs,o,w=>(Oth.set (i:=o) (v:=v)).trans (Oth.aal vs (o+1) _)
theorem jy {c:Array Value}{cs:List Value}(h:w.heap[b]? =some (.cells c e z))(hr:∀j,j<cs.length→c[o+j]? =cs[j]?):w.rangeAt b o cs:=fun j v hv=>by
 have hj:=(List.getElem?_eq_some_iff.1 hv).1;simp only [World.cell?,h];rw [hr j hj,hv];rfl
theorem qn {c:Array Value}{n:Nat}(h:w.heap[b]? =some (.cells c e (0,0)))(hl:o+n≤c.size):w.there b o n:=fun j hj=>⟨by
 rw [af h ai];rfl,ed h⟩
theorem Gro.oth {n:Nat}{w1 w2:World}{x:Nat}(h:Gro n w w1)(h2:Oth x w1 w2)(hx:w.heap.size≤x):Gro n w w2:=⟨by rw [h2.1];exact h.1,fun y hy hn=>(h2.2 y ai).trans (h.2 y hy hn)⟩
def Row (m:Nat)(c:Array Value)(p:Nat)(cs:Array Value):Prop:=∀j,j<m→c[p*m+j]? =cs[j]?
theorem ag8 {m p:Nat}{c c' cs:Array Value}(hm:cs.size=m)(h:∀j,j<cs.toList.length→p*m+j<c.size→c'[p*m+j]? =cs.toList[j]?)(hp:p*m+m≤c.size):Row m c' p cs:=fun j hj=>by
 rw [h j (by simpa [hm] using hj) ai];simp
theorem af6 {m p q:Nat}{c c' cs vs:Array Value}(hm:vs.size=m)(hr:Row m c q cs)(hpq:p≠q)(h:∀x,(x<p*m∨p*m+vs.toList.length≤x)→c'[x]? =c[x]?):Row m c' q cs:=fun j hj=>by
 rw [h (q*m+j) ?_,hr j hj];simp only [Array.length_toList,hm];rcases Nat.lt_or_gt_of_ne hpq with h1|h1
 ·right;have:=Nat.mul_le_mul_right m (show p+1≤q from h1);rw [Nat.succ_mul] at this;omega
 ·left;have:=Nat.mul_le_mul_right m (show q+1≤p from h1);rw [Nat.succ_mul] at this;omega
end
def ad (P:Program)(R:Ending→World→Prop)(b:Frame)(a:Act)(todo:List Item)(w:World):Prop:=
 ∀cs,∃fr w',Steps P (lone (b.at a todo) cs w) (lone fr cs w')∧fr.fn=b.fn∧∃e,e≠ .outgrown∧fr.leaving P w' e∧R e w'
section
variable {P:Program}{R R':Ending→World→Prop}{b:Frame}{a a1:Act}{todo todo1 k:List Item}{w w1:World}{ops:Array Oper}{i:Nat}{rest:List Nat}{o:Oper}{v:Value}{c c1 c2:Code}{id:Nat}
theorem ad.step1 (h:∀cs,step P (lone (b.at a todo) cs w)= .next (lone (b.at a1 todo1) cs w1))(hk:ad P R b a1 todo1 w1):ad P R b a todo w:=fun cs=>by
 obtain ⟨fr,w',hs,hf,hr⟩:=hk cs;exact ⟨fr,w',Steps.head (h cs) hs,hf,hr⟩
theorem ad.ctl (hs:∀cs u,stepG P true (G (b.at a todo) cs) u= .go (G (b.at a todo1) cs) u #[])(hk:ad P R b a todo1 w):ad P R b a todo w:=
 ad.step1 (fun cs=>step_lone_go (by
  have:=hs cs w;unfold G at this;rw [this];rfl)) hk
theorem ad.val (hk:b.kind= .normal)(v:Value)(w1:World)(ho:ops[i]? =some o)(hw:Region.wanted o (yielded ops a.tmps)=true)(hr:(execOp a.eval o).run P w= .ok (.value v) w1)
  (h:ad P R b (a.put o.dst v) (.inRegion ops rest::k) w1):ad P R b a (.inRegion ops (i::rest)::k) w:=ad.step1 (fun cs=>abe hk ho hw hr) h
theorem ad.put (hk:b.kind= .normal)(w1:World)(ho:ops[i]? =some o)(hw:Region.wanted o (yielded ops a.tmps)=true)(hr:(execOp a.eval o).run P w= .ok .skip w1)
  (h:ad P R b (a.put o.dst undef) (.inRegion ops rest::k) w1):ad P R b a (.inRegion ops (i::rest)::k) w:=ad.step1 (fun cs=>abg hk ho hw hr) h
theorem ad.not (ho:ops[i]? =some o)(hw:Region.wanted o (yielded ops a.tmps)=false)(h:ad P R b (a.put o.dst undef) (.inRegion ops rest::k) w):ad P R b a (.inRegion ops (i::rest)::k) w:=
 ad.step1 (fun cs=>by
  have:=step_op_skip (P:=P) (b:=b) (a:=a) (k:=k) (cs:=cs) (w:=w) (ops:=ops) (i:=i) (rest:=rest) (by rw [ho];exact hw);rw [ho] at this;exact this) h
theorem ad.call (hk:b.kind= .normal)(ho:ops[i]? =some o)(hw:Region.wanted o (yielded ops a.tmps)=true){f:FuncId}{args:Array Value}(hr:(execOp a.eval o).run P w= .ok (.enter f args) w1)(hc:Calls P f args w1 R')(hret:∀e w2,R' e w2→∃v,e= .returned v)
  (h:∀v w2,R' (.returned v) w2→ad P R b (a.put o.dst v) (.inRegion ops rest::k) w2):ad P R b a (.inRegion ops (i::rest)::k) w:=fun cs=>by
 obtain ⟨e,w2,fr,hR,hs,hf,hl⟩:=hc (b.at a (.inRegion ops (i::rest)::k)::cs);obtain ⟨v,rfl⟩:=hret e w2 hR;obtain ⟨fr2,w3,hs2,hf2,hr2⟩:=h v w2 hR cs;refine ⟨fr2,w3,Steps.head (agm hk ho hw hr) (Steps.trans hs (Steps.head ?_ hs2)),hf2,hr2⟩;rw [step_leave_returned hl,Frame.finish_at,ho];rfl
theorem ad.seq (h:ad P R b a (.code c1:: .code c2::k) w):ad P R b a (.code (.seq c1 c2)::k) w:=ad.ctl (fun _ _=>stepG_seq) h
theorem ad.skip (h:ad P R b a k w):ad P R b a (.code .skip::k) w:=ad.ctl (fun _ _=>stepG_skip) h
theorem ad.cond {o:Operand}{t:Bool}(ht:a.eval o= .bool t)(h:ad P R b a (.code (if t then c1 else c2)::k) w):ad P R b a (.code (.cond o c1 c2)::k) w:=ad.ctl (fun _ _=>stepG_cond ht) h
theorem ad.block (h:ad P R b a (.code c:: .inBlock id::k) w):ad P R b a (.code (.block id c)::k) w:=ad.ctl (fun _ _=>stepG_block) h
theorem ad.inBlock (h:ad P R b a k w):ad P R b a (.inBlock id::k) w:=ad.ctl (fun _ _=>stepG_inBlock) h
theorem ad.loop (h:ad P R b a (.code c:: .inLoop c::k) w):ad P R b a (.code (.loop c)::k) w:=ad.ctl (fun _ _=>stepG_loop) h
theorem ad.inLoop (h:ad P R b a (.code c:: .inLoop c::k) w):ad P R b a (.inLoop c::k) w:=ad.ctl (fun _ _=>stepG_inLoop) h
theorem ad.exit {k':List Item}(hk:exitTo id k=some k')(h:ad P R b a k' w):ad P R b a (.code (.exit id)::k) w:=ad.ctl (fun _ _=>stepG_exit hk) h
theorem ad.region (h:ad P R b a (.inRegion ops (List.range ops.size)::k) w):ad P R b a (.code (.region id ops false)::k) w:=ad.ctl (fun _ _=>stepG_region) h
theorem ad.ak (h:ad P R b a k w):ad P R b a (.inRegion ops []::k) w:=ad.ctl (fun _ _=>stepG_region_end) h
theorem ad.wp (h:c.wp P (fun x a1 w1=>x= .normal∧ad P R b a1 k w1) a w):ad P R b a (.code c::k) w:=fun cs=>by
 obtain ⟨e,a',w',⟨rfl,hl⟩,hr⟩:=h b k cs;obtain ⟨fr,w2,hs,hf,hr2⟩:=hl cs;exact ⟨fr,w2,Steps.trans hr hs,hf,hr2⟩
theorem ad.ret {fn:Func}(hk:b.kind= .normal)(hf:P.funcs[b.fn]? =some fn)(hd:a.defers=[])(hr:(results fn a.tmps).run P w= .ok v w)(hR:R (.returned v) w):ad P R b a (.code .ret::k) w:=fun cs=>
 ⟨{b.at a (.code .ret::k) with mode:= .returning},w,Steps.one (step_lone_go (by
  have:=stepG_ret' (P:=P) (main:=true) (b:=b) (a:=a) (k:=k) (cs:=cs) (w:=w);unfold G at this;rw [this];rfl)),rfl,.returned v,by simp,⟨rfl,hd,hk,fn,hf,hr⟩,hR⟩
theorem ad.fin {fn:Func}(hk:b.kind= .normal)(hf:P.funcs[b.fn]? =some fn)(hd:a.defers=[])(hr:(results fn a.tmps).run P w= .ok v w)(hR:R (.returned v) w):ad P R b a [] w:=fun cs=>
 ⟨{b.at a [] with mode:= .returning},w,Steps.one step_end,rfl,.returned v,by simp,⟨rfl,hd,hk,fn,hf,hr⟩,hR⟩
theorem mc {f:FuncId}{fn:Func}{args:Array Value}{m:Nat}(hf:P.funcs[f]? =some fn)(hb:fn.body=some c)(hm:fn.ntmps-args.size=m)
  (h:ad P R {(default:Frame) with fn:=f,kind:= .normal} ⟨args++Array.replicate m undef,[]⟩ [.code c] w):Calls P f args w R:=fun cs=>by
 obtain ⟨fr,w',hs,hfn,e,he,hl,hR⟩:=h cs;refine ⟨e,w',fr,hR,?_,hfn,hl⟩;rw [enter_at hf hb hm];cases e with
 |outgrown=>exact absurd rfl he
 |returned v=>exact hs
 |panicked ch=>exact hs
theorem oy {og:Oper}{j d:Nat}{t t':Bool}(hg:o.guard=some (j,t))(hj:ops[j]? =some og)(hd:og.dst=some d)(hs:d<a.tmps.size)(he:a.eval (.tmp d)= .bool t'):Region.wanted o (yielded ops a.tmps)=(t'==t):=by
 have h1:a.tmps[d]? =some (.bool t'):=by
  have:a.tmps.getD d undef= .bool t':=he;rw [Array.getD_eq_getD_getElem?,Array.getElem?_eq_getElem hs] at this;rw [Array.getElem?_eq_getElem hs];exact congrArg some this
 unfold Region.wanted;rw [hg];show (yielded ops a.tmps j==some t)=_;unfold yielded;rw [hj,Option.bind_some,hd,Option.bind_some,h1];cases t <;> cases t' <;> rfl
theorem yt {r:Operand}{name:String}{xs:Array Operand}{ts:Array TypeId}(h:o.op= .call {callee:= .invoke r name,args:=xs,argTypes:=ts}):execOp a.eval o=callMethod (a.eval r) name (xs.map a.eval):=by
 cases o;subst h;show invoke (.fn (.method name) #[]) (#[a.eval r]++xs.map a.eval)=_;unfold invoke;have h0:(#[a.eval r]++xs.map a.eval)[0]? =some (a.eval r):=by
  rw [Array.getElem?_append_left ae];rfl
 have h1:(#[a.eval r]++xs.map a.eval).extract 1 (#[a.eval r]++xs.map a.eval).size=xs.map a.eval:=by
  apply Array.ext';simp;exact List.take_of_length_le ae
 simp only [h0,h1]
theorem ad.dq {fn:Func}{t:Tmp}(hk:b.kind= .normal)(hf:P.funcs[b.fn]? =some fn)(hres:fn.results=#[.tmp t])(hd:a.defers=[])(hv:a.eval (.tmp t)=v)(hR:R (.returned v) w):ad P R b a (.code .ret::k) w:=
 ad.ret hk hf hd ((results_tmp hres _ _ _).trans (by subst hv;rfl)) hR
theorem ad.qs {fn:Func}{t u:Tmp}{v2:Value}(hk:b.kind= .normal)(hf:P.funcs[b.fn]? =some fn)(hres:fn.results=#[.tmp t,.tmp u])(hd:a.defers=[])(hv:a.eval (.tmp t)=v)(hv2:a.eval (.tmp u)=v2)(hR:R (.returned (.tuple #[v,v2])) w):ad P R b a (.code .ret::k) w:=
 ad.ret hk hf hd ((results_tmp2 hres _ _ _).trans (by subst hv;subst hv2;rfl)) hR
theorem dt {y:Nat→Option Bool}(hg:o.guard=none):Region.wanted o y=true:=by
 unfold Region.wanted;rw [hg]
end
end Go.Proofs.YthgpdljlehklhaaGreat.zr
