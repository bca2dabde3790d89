/- Part QAF of the proof that DropRefused answers true whatever its input. No condition. -/
import Derived.Conc.CrowdCom2
import Derived.Conc.Know
import Derived.Conc.CrowdComm
import Derived.Test.YthgpdljlehklhaaGreatQAE
set_option maxRecDepth 100000
namespace Go.Proofs.YthgpdljlehklhaaGreat.zr
open Go Go.Conc
section
variable {P:Program}{fs:Array Func}{w w1:World}{a a1:Goroutine}{T:List Frame}
theorem ain (rest:Rest)(gs:Array Goroutine)(i:Nat)(g:Goroutine)(c:CommCase)(hs:c.send=none)(hp:∀r,c.chan= .chan (some r)→partners gs r true=[])(w:World):
  ∀op∈(communicate P rest gs i g #[c] false .select w).2,op.g=i∧op.act.touch? =none∧op.act≠ .mark .disable∧op.act≠ .mark .enable∧op.act.low w.heap.size:=by
 obtain ⟨ch,send,zero⟩:=c;obtain rfl:send=none:=hs;cases ch with
 |chan r=>
  cases r with
  |none=>simp [communicate,ways]
  |some r=>
   have hp:=hp r rfl;cases ho:w.heap[r]? with
   |none=>simp [communicate,ho]
   |some o=>
    have hlt:r<w.heap.size:=(Array.getElem?_eq_some_iff.1 ho).1;cases o with
    |chan cap buf closed s rc tm=>
     by_cases hb:0<buf.size
     ·have e:(communicate P rest gs i g #[{chan:= .chan (some r),send:=none,zero:=zero}] false .select w).2=#[{g:=i,fn:=g.frame.fn,pos:=g.frame.place,act:= .recv r rc cap},{g:=i,fn:=g.frame.fn,pos:=g.frame.place,act:= .recvDone r rc}]:=by
       simp [communicate,ways,ho,hp,hb,choose,Sem.run,Question.forced,bind,Sem.bind,pure]
      rw [e];simp [MemAct.touch?,MemAct.low,hlt]
     ·have hb0:buf.size=0:=by omega
      cases closed with
      |true=>
       have e:(communicate P rest gs i g #[{chan:= .chan (some r),send:=none,zero:=zero}] false .select w).2=#[{g:=i,fn:=g.frame.fn,pos:=g.frame.place,act:= .recvClosed r}]:=by
        simp [communicate,ways,ho,hp,hb0,choose,Sem.run,Question.forced,bind,Sem.bind,pure]
       rw [e];simp [MemAct.touch?,MemAct.low,hlt]
      |false=>simp [communicate,ways,ho,hp,hb0]
    |_=>simp [communicate,ho]
 |_=>simp [communicate]
theorem calm0 {Pr:Program}{gs gs':Array Goroutine}{t u:Trace}{q:Nat→Nat}{w1:World}(hL:Leavers Pr t gs q)(hsz:gs'.size=gs.size)(hz:0<gs.size)(ho:∀j x,0<j→gs'[j]? =some x→∃y,gs[j]? =some y∧(∀k d,QuitsD Pr k d y→x=y))(hu:∀op∈u,op.g=0)(hP':Past mn w1.heap.size (t++u)):Calm Pr gs' w1 (t++u):=
 ⟨⟨q,⟨fun j x hj hx=>by
   obtain ⟨y,hy,hxy⟩:=ho j x hj hx;have hqj:=hL.old j y hj hy;rw [hxy _ _ hqj,Deaf_other t ai u hu];exact hqj,fun j hj=>by
   rw [Deaf_other t (g:=j) (g':=0) ai u hu];exact hL.above j ai⟩⟩,hP'⟩
theorem aaq {a a1:Goroutine}{w w1:World}(h:Stepped.next (solo a w)= .next (solo a1 w1)):a=a1∧w=w1:=by
 simp only [Stepped.next.injEq,solo,Machine.mk.injEq] at h;exact ⟨by simpa using h.2.1,h.1⟩
theorem abu {t:Trace}{B:Nat}(hP:Past mn B t){fn:FuncId}{pos:String}{es:Array Event}{N:Nat}(hn:B≤N)(he:∀e∈es,EvL mn N e):Past mn N (t++MemOp.ofEvents 0 fn pos es):=
 (hP.mono hn).own he
theorem runT_crowd_comm {Pr:Program}{gs:Array Goroutine}{sl:Option (Nat×Nat)}{g2:Goroutine}{c:CommCase}{es:Array Event}(h0:gs[0]? =some a)(h:stepG Pr true a w= .comm g2 #[c] false .select w1 es):
  runT Pr (crowd gs w sl) 0=((communicate Pr {timers:=#[],alone:=none,slice:=sl} (gs.setIfInBounds 0 {(default:Goroutine) with status:= .finished}) 0 g2 #[c] false .select w1).1,MemOp.ofEvents 0 a.frame.fn a.frame.place es++ (communicate Pr {timers:=#[],alone:=none,slice:=sl} (gs.setIfInBounds 0 {(default:Goroutine) with status:= .finished}) 0 g2 #[c] false .select w1).2):=by
 obtain ⟨hlt,rfl⟩:=Array.getElem?_eq_some_iff.1 h0;have hsw:=swapAt_of_lt hlt {(default:Goroutine) with status:= .finished};have hset:gs.set 0 {(default:Goroutine) with status:= .finished}=gs.setIfInBounds 0 {(default:Goroutine) with status:= .finished}:=by
  simp [Array.setIfInBounds,hlt]
 show runT Pr {world:=w,gs:=gs,rest:={timers:=#[],alone:=none,slice:=sl}} 0=_;unfold runT;have h':stepG Pr (0==0) gs[0] w= .comm g2 #[c] false .select w1 es:=h;simp only [hsw,h',GStep.es,hset]
theorem aec {Pr:Program}{gs:Array Goroutine}{t:Trace}{q:Nat→Nat}(hL:Leavers Pr t gs q)(r:Nat):partners (gs.setIfInBounds 0 {(default:Goroutine) with status:= .finished}) r true=[]:=by
 unfold partners;rw [List.flatMap_eq_nil_iff];rintro ⟨g,i⟩ hm;have hg:(gs.setIfInBounds 0 {(default:Goroutine) with status:= .finished})[i]? =some g:=by
  have:=Array.mem_toList_iff.1 hm;rw [Array.mem_zipIdx_iff_getElem?] at this;exact this
 have:g.status= .running∨g.status= .finished:=by
  by_cases hi:i=0
  ·subst hi;rw [Array.getElem?_setIfInBounds] at hg;split at hg
   ·split at hg
    ·obtain rfl:=Option.some.inj hg;exact .inr rfl
    ·cases hg
   ·contradiction
  ·rw [Array.getElem?_setIfInBounds_ne (fun h=>hi h.symm)] at hg;exact (hL.old i g ai hg).status
 dsimp only;rcases this with h|h <;> rw [h]
def cr [Bg] (Pr:Program)(Q:Goroutine→World→Prop)(a:Goroutine)(w:World):Prop:=
 ∀(gs:Array Goroutine)(d:Nat)(sl:Option (Nat×Nat))(t:Trace),gs[0]? =some a→Calm Pr gs w t→
  ∃(N:Nat)(gs':Array Goroutine)(a':Goroutine)(w':World)(sl':Option (Nat×Nat))(t':Trace),runNT Pr N (crowd gs (cy (w.at d)) sl) t=(.next (crowd gs' (cy w') sl'),t')∧gs'[0]? =some a'∧Calm Pr gs' w' t'∧Q a' w'
theorem cr.done [Bg] {Pr:Program}{Q:Goroutine→World→Prop}(h:∀d,Q a (w.at d)):cr Pr Q a w:=fun gs d sl t h0 hc=>⟨0,gs,a,w.at d,sl,t,rfl,h0,hc,h d⟩
theorem cr.then [Bg] {Pr:Program}{Q Q':Goroutine→World→Prop}(h:cr Pr Q a w)(k:∀a' w',Q a' w'→cr Pr Q' a' w'):cr Pr Q' a w:=fun gs d sl t h0 hc=>by
 obtain ⟨N,gs',a',w',sl',t',hr,h0',hc',hq⟩:=h gs d sl t h0 hc;obtain ⟨N2,gs2,a2,w2,sl2,t2,hr2,h02,hc2,hq2⟩:=k a' w' hq gs' w'.drawn sl' t' h0' hc';exact ⟨N+N2,gs2,a2,w2,sl2,t2,(l8 Pr N N2 _ _ hr).trans hr2,h02,hc2,hq2⟩
theorem cr.at [Bg] {Pr:Program}{Q:Goroutine→World→Prop}(h:cr Pr Q a w)(d:Nat):cr Pr Q a (w.at d):=fun gs d' sl t h0 hc=>h gs d' sl t h0 hc
theorem Fit.tp [Bg] (h:Fit P T a w)(τ:Tap)(d:Nat):Fit P T a (zr.tp w τ d):=by
 obtain ⟨fr,A,h1,h2,h3,h4,h5⟩:=h;exact ⟨fr,A,h1,h2,h3,h4,h5.tp τ d⟩
theorem Fit.running [Bg] (h:Fit P T a w):a.status= .running:=by
 obtain ⟨fr,A,rfl,-⟩:=h;rfl
theorem anu [Bg] {m:Bool}(C:Ctx P fs)(h:Fit P T a w)(hn:zh T a):match stepG P m a w with| .go .. | .comm .. | .ended .. =>True|_=>False:=by
 obtain ⟨fr,A,rfl,hok,hst,hb,hA⟩:=h;have hnb:fr.mode= .run∨A≠[]∨fr.defers≠[]:=by
  rcases hn fr with h|h|h
  ·refine .inr (.inl fun h0=>h ?_);rw [h0];rfl
  ·exact .inl h
  ·exact .inr (.inr h)
 have hT:=th (T:=T) (T':=T) C hA hb (m:=m) (m':=m) hok hst hnb;cases hs:stepG P m (av fr (A++T)) w with
 |go=>trivial
 |comm=>trivial
 |ended=>trivial
 |_=>rw [hs] at hT;exact hT
theorem cr.step [Bg] {Q:Goroutine→World→Prop}(C:Ctx P fs)(hF:Fit P T a w)(hn:zh T a)(h:∀d,∃a1 w1,step P (solo a (w.at d))= .next (solo a1 w1)∧∀a1',zw P fs a1 a1'→Fit P T a1 w1→cr (aq P fs) Q a1' w1):cr (aq P fs) Q a w:=by
 intro gs d sl t h0 hc;obtain ⟨⟨q,hL⟩,hP⟩:=hc;obtain ⟨N,gs',d',sl',t',q',d'',sl'',hr,hsz,h0',hL',hP',hst⟩:=af7 (P:=aq P fs) (a:=a) (w:=cy w) (Go.ConcN.sumTo gs.size q) gs d sl t q (Nat.le_refl _) h0 hF.running hL (by rw [ji];exact hP);rw [ji] at hP';obtain ⟨a1,w1,hs,hk⟩:=h d'';have hF':Fit P T a (w.at d''):=hF.tp _ _;have hlt:0<gs'.size:=(Array.getElem?_eq_some_iff.1 h0').1;have hsh:=anu (m:=true) C hF' hn;cases hg:stepG P true a (w.at d'') with
 |go a2 w2 es=>
  rw [step_solo_go hF.running hg] at hs;obtain ⟨rfl,rfl⟩:=aaq hs;obtain ⟨a1',es',hg',hev,hfit,hent,hsz2⟩:=fit_go (m':=true) C hF' hn hg;have hrun:=runT_crowd_go (P:=aq P fs) (sl:=sl'') (i:=0) h0' (show stepG (aq P fs) (0==0) a ((cy w).at d'')=_ from hg');have hcalm:Calm (aq P fs) ((gs'.map (woken (aq P fs) a a1' (cy w2))).setIfInBounds 0 a1') w2 (t'++MemOp.ofEvents 0 a.frame.fn a.frame.place es'):=by
   refine calm0 hL' ae hlt (fun j x hj hx=> ?_) (fun op hop=>by obtain ⟨e,_,rfl⟩:=Go.Conc.mem_ofEvents hop;rfl) (abu hP' hsz2 hev);rw [Array.getElem?_setIfInBounds_ne ai,Array.getElem?_map] at hx;obtain ⟨y,hy,rfl⟩:=Option.map_eq_some_iff.1 hx;exact ⟨y,hy,fun k d hq=>woken_quitsD hq⟩
  obtain ⟨N2,gs2,a3,w3,sl3,t3,hr2,k1,k2,k3⟩:=hk a1' hent hfit _ w2.drawn sl'' _ (by simp [hlt]) hcalm;refine ⟨N+ (1+N2),gs2,a3,w3,sl3,t3,?_,k1,k2,k3⟩;show runNT (aq P fs) _ (crowd gs ((cy w).at d) sl) t=_;rw [l8 _ N (1+N2) _ _ hr,Nat.add_comm 1 N2];simp only [runNT,hst,hrun];exact hr2
 |comm a2 cs b sh w2 es=>
  obtain ⟨rfl,rfl,c,rfl,hsd,hcr,es',hg',hev,hfit,hsz2⟩:=fit_comm (m':=true) C hF' hn hg;have hpart:∀r,c.chan= .chan (some r)→partners #[{(default:Goroutine) with status:= .finished}] r true=[]:=fun r _=>partners_alone (c:=r) true
  rw [lv hF.running hg] at hs;obtain ⟨k1,k2⟩:=o9 (P:=P) {timers:=#[],alone:=none,slice:=none} #[{(default:Goroutine) with status:= .finished}] 0 a2 c hsd hpart w2;cases hsel:lf c w2 with
  |none=>
   obtain ⟨o,w3,e⟩:=k2 hsel;rw [e] at hs;cases hs
  |some x=>
   obtain ⟨v,w3⟩:=x;rw [k1 v w3 hsel] at hs;have hs':Stepped.next (solo {a2 with frame:=a2.frame.finish v,status:= .running,offers:=none} w3)= .next (solo a1 w1):=hs;obtain ⟨rfl,rfl⟩:=aaq hs';obtain ⟨fr2,A2,rfl,hok2,hst2,hb2,hA2⟩:=hfit;obtain ⟨w3',hse,hadv,hv⟩:=ad1 hA2 hcr hsel;obtain ⟨-,rfl,hW3⟩:=ux hA2 hadv;have hco:gq one c=c:=by
    obtain ⟨x,y,z⟩:=c;obtain rfl:y=none:=hsd;simp [gq,jw]
   rw [hco,jw] at hse;have hfr2:=hok2.ok fr2 List.mem_cons_self;obtain ⟨hst3,-⟩:=hst2.adv hadv;have hst4:=Still.cons.1 hst3;have hfit3:Fit P T (av (fr2.finish v) (A2++T)) w3:=⟨fr2.finish v,A2,rfl,hok2.top (hfr2.finish v) (fq fr2 v).1 (fq fr2 v).2,Still.cons.2 ⟨kh hfr2 hst4.1 hv,hst4.2⟩,hb2.adv hadv,hW3⟩;have hrun:=runT_crowd_comm (sl:=sl'') h0' hg';obtain ⟨j1,-⟩:=o9 (P:=aq P fs) {timers:=#[],alone:=none,slice:=sl''} (gs'.setIfInBounds 0 {(default:Goroutine) with status:= .finished}) 0 (av fr2 (A2++T)) c hsd (fun r _=>aec hL' r) (cy w2);have hops:=ain (P:=aq P fs) {timers:=#[],alone:=none,slice:=sl''} (gs'.setIfInBounds 0 {(default:Goroutine) with status:= .finished}) 0 (av fr2 (A2++T)) c hsd (fun r _=>aec hL' r) (cy w2);rw [ji] at hops;rw [j1 v (cy w3) hse] at hrun;generalize (communicate (aq P fs) {timers:=#[],alone:=none,slice:=sl''} (gs'.setIfInBounds 0 {(default:Goroutine) with status:= .finished}) 0 (av fr2 (A2++T)) #[c] false .select (cy w2)).2=ops at hrun hops;have hset:(gs'.setIfInBounds 0 {(default:Goroutine) with status:= .finished}).setIfInBounds 0 (av (fr2.finish v) (A2++T))=gs'.setIfInBounds 0 (av (fr2.finish v) (A2++T)):=by
    refine Array.ext_getElem? fun j=> ?_
    by_cases hj:0=j
    ·subst hj;simp [hlt]
    ·rw [Array.getElem?_setIfInBounds_ne hj,Array.getElem?_setIfInBounds_ne hj,Array.getElem?_setIfInBounds_ne hj]
   have hrun2:runT (aq P fs) (crowd gs' ((cy w).at d'') sl'') 0=(.next (crowd (gs'.setIfInBounds 0 (av (fr2.finish v) (A2++T))) (cy w3) sl''),MemOp.ofEvents 0 a.frame.fn a.frame.place es'++ops):=by
    show runT (aq P fs) (crowd gs' (cy (w.at d'')) sl'') 0=_;rw [hrun,←hset];rfl
   have hg0:∀op∈MemOp.ofEvents 0 a.frame.fn a.frame.place es'++ops,op.g=0:=fun op hop=>by
    rcases Array.mem_append.1 hop with hop|hop
    ·obtain ⟨e,_,rfl⟩:=Go.Conc.mem_ofEvents hop;rfl
    ·exact (hops op hop).1
   have hpast:Past mn w3.heap.size (t'++ (MemOp.ofEvents 0 a.frame.fn a.frame.place es'++ops)):=by
    have hB1:=abu hP' hsz2 (fn:=a.frame.fn) (pos:=a.frame.place) hev;rw [←Array.append_assoc];exact (hB1.mono hadv.size).app0 (fun op hop=>(hops op hop).1) (fun op hop b hb=>by rw [(hops op hop).2.1] at hb;cases hb) (Go.ConcN.Deaf_still _ _ _ fun op hop=>⟨(hops op hop).2.2.1,(hops op hop).2.2.2.1⟩) fun op hop=>MemAct.low_mono hadv.size (hops op hop).2.2.2.2
   have hcalm:Calm (aq P fs) (gs'.setIfInBounds 0 (av (fr2.finish v) (A2++T))) w3 (t'++ (MemOp.ofEvents 0 a.frame.fn a.frame.place es'++ops)):=by
    refine calm0 hL' ae hlt (fun j x hj hx=> ?_) hg0 hpast;rw [Array.getElem?_setIfInBounds_ne ai] at hx;exact ⟨x,hx,fun _ _ _=>rfl⟩
   obtain ⟨N2,gs2,a3,w4,sl3,t3,hr2,q1,q2,q3⟩:=hk (av (fr2.finish v) (A2++T)) (.inl rfl) hfit3 _ w3.drawn sl'' _ (by simp [hlt]) hcalm;refine ⟨N+ (1+N2),gs2,a3,w4,sl3,t3,?_,q1,q2,q3⟩;show runNT (aq P fs) _ (crowd gs ((cy w).at d) sl) t=_;rw [l8 _ N (1+N2) _ _ hr,Nat.add_comm 1 N2];simp only [runNT,hst,hrun2];exact hr2
 |ended o w2 es=>
  rw [j4 hF.running hg] at hs;cases hs
 |_=>
  rw [hg] at hsh;exact hsh.elim
end
section
variable {P:Program}{fs:Array Func}{w w1:World}{a a1 g1:Goroutine}{T T' A:List Frame}{fr:Frame}{m:Bool}
theorem Ctx.self (C:Ctx P fs):Ctx P P.funcs where
 alike:=⟨C.alike.num,fun f fn hf=>by
  rcases C.alike.call f fn hf with ⟨h1,-⟩|⟨h1,h2,h3,-⟩|h
  ·exact .inl ⟨h1,fn,hf,h1,C.alike.num f fn hf⟩
  ·exact .inr (.inl ⟨h1,h2,h3,hf⟩)
  ·exact .inr (.inr h)⟩
 globals:=C.globals
 zero:=C.zero
 code:=C.code
 results:=fun _=>rfl
theorem tail2 [Bg] (C:Ctx P fs)(hok:iz P (fr::A))(hst:Still w.heap.size one (fr::A))(hb:Base one w.heap.size)(hA:At P zb kz one w w)(hnb:fr.mode= .run∨A≠[]∨fr.defers≠[]):
  lp P P.funcs zb kz one w w T T' (stepG P m (av fr (A++T)) w) (stepG P m (av fr (A++T')) w):=by
 have:=th (T:=T) (T':=T') C.self hA hb (m:=m) (m':=m) hok hst hnb;rw [na,u9] at this;exact this
theorem anb [Bg] (C:Ctx P fs)(hok:iz P (fr::A))(hst:Still w.heap.size one (fr::A))(hb:Base one w.heap.size)(hA:At P zb kz one w w)(hnb:fr.mode= .run∨A≠[]∨fr.defers≠[])
  (hs:step P (solo (av fr (A++T)) w)= .next (solo g1 w1)):∃fr1 A1,g1=av fr1 (A1++T)∧iz P (fr1::A1)∧step P (solo (av fr (A++T')) w)= .next (solo (av fr1 (A1++T')) w1):=by
 have hT:=tail2 (T:=T) (T':=T') (m:=true) C hok hst hb hA hnb;cases hg:stepG P true (av fr (A++T)) w with
 |go g2 w2 es=>
  rw [hg] at hT;rw [step_solo_go rfl hg] at hs;obtain ⟨rfl,rfl⟩:=aaq hs;obtain ⟨fr1,A1,e,hok1,π1,w1',fr1',new,he,hadv,htop,hst1⟩:=hT;obtain ⟨rfl,rfl⟩:=aho hA hadv;rw [u9] at he;have hfr:fr1'=fr1:=by
   rcases htop with h|⟨f,args,k,h1,h2,-⟩
   ·rw [h one (aw.refl _ _),na]
   ·rw [h1,h2,jg]
  subst hfr;exact ⟨fr1',A1,e,hok1,step_solo_go rfl he⟩
 |comm g2 ca b sh w2 es=>
  rw [hg] at hT;obtain ⟨rfl,rfl,fr1,A1,rfl,hok1,c,rfl,hsd,π1,w1',new,he,hadv,hc,hst1⟩:=hT;obtain ⟨rfl,rfl⟩:=aho hA hadv;have hco:gq one c=c:=by
   obtain ⟨x,y,z⟩:=c;obtain rfl:y=none:=hsd;simp [gq,jw]
  rw [u9,na,hco] at he;have hpart:∀r,c.chan= .chan (some r)→partners #[{(default:Goroutine) with status:= .finished}] r true=[]:=fun r _=>partners_alone (c:=r) true
  rw [lv rfl hg] at hs;obtain ⟨k1,k2⟩:=o9 (P:=P) {timers:=#[],alone:=none,slice:=none} #[{(default:Goroutine) with status:= .finished}] 0 (av fr1 (A1++T)) c hsd hpart w1';obtain ⟨j1,-⟩:=o9 (P:=P) {timers:=#[],alone:=none,slice:=none} #[{(default:Goroutine) with status:= .finished}] 0 (av fr1 (A1++T')) c hsd hpart w1';cases hsel:lf c w1' with
  |none=>
   obtain ⟨o,w3,e⟩:=k2 hsel;rw [e] at hs;cases hs
  |some x=>
   obtain ⟨v,w3⟩:=x;rw [k1 v w3 hsel] at hs;have hs':Stepped.next (solo (av (fr1.finish v) (A1++T)) w3)= .next (solo g1 w1):=hs;obtain ⟨rfl,rfl⟩:=aaq hs';have hfr1:=hok1.ok fr1 List.mem_cons_self;exact ⟨fr1.finish v,A1,rfl,hok1.top (hfr1.finish v) (fq fr1 v).1 (fq fr1 v).2,(lv rfl he).trans (j1 v w3 hsel)⟩
 |ended o w2 es=>
  rw [j4 rfl hg] at hs;cases hs
 |_=>
  rw [hg] at hT;exact hT.elim
def Plain (P:Program)(fs:Array Func)(f:FuncId):Prop:=∀args k,Frame.enter (aq P fs) f args k=Frame.enter P f args k
def jj (P:Program)(f:FuncId):Prop:=∃s,((P.funcs[f]?).bind (·.body)).getD (.refuse "unsupported: a function without a Go body is entered")= .refuse s
theorem acf {f:FuncId}(h:jj P f)(args:Array Value)(k:CallKind)(cs:List Frame)(w:World):∃o w2,step P (solo (av (Frame.enter P f args k) cs) w)= .ended o w2:=by
 obtain ⟨s,hs⟩:=h;have ht:(Frame.enter P f args k).todo=[.code (.refuse s)]:=by simp [Frame.enter,hs]
 obtain ⟨o,e⟩:=xy (Q:=P) (m:=true) (cs:=cs) (w:=w) ht;exact ⟨o,w,j4 rfl ((sv rfl).trans e)⟩
theorem Still.left {N:Nat}{π:Pm}{S1 S2:List Frame}(h:Still N π (S1++S2)):Still N π S1:=fun π' ha=>by
 have:=h π' ha;rw [List.map_append,List.map_append] at this;exact (List.append_inj this ae).1
theorem ad7 {A0:List Frame}(hnb:fr.mode= .run∨A≠[]∨fr.defers≠[]):zh T (av fr (A++ (A0++T))):=fun fr2=>by
 by_cases h:av fr (A++ (A0++T))=av fr2 T
 ·have e1:fr=fr2:=congrArg Goroutine.frame h;have e2:A++ (A0++T)=T:=congrArg Goroutine.callers h;subst e1;have hA:A=[]:=by
   have:=congrArg List.length e2;simp at this;exact List.eq_nil_of_length_eq_zero ai
  rcases hnb with h|h|h
  ·exact .inr (.inl h)
  ·exact absurd hA h
  ·exact .inr (.inr h)
 ·exact .inl h
theorem ae0 [Bg] {A0:List Frame}(h:Fit P T (av fr (A++ (A0++T))) w):Still w.heap.size one (fr::A)∧Base one w.heap.size∧Whole P w:=by
 obtain ⟨fr2,A2,e,hok,hst,hb,hA⟩:=h;have e1:fr=fr2:=congrArg Goroutine.frame e;have e2:A++ (A0++T)=A2++T:=congrArg Goroutine.callers e;subst e1;have e3:A2=A++A0:=by
  have:(A++A0)++T=A2++T:=by rw [←e2];simp
  exact (List.append_cancel_right this).symm
 subst e3;have:Still w.heap.size one ((fr::A)++A0):=hst;exact ⟨this.left,hb,hA⟩
theorem jz {fr fr2:Frame}{cs cs2:List Frame}(h:av fr cs=av fr2 cs2):fr=fr2∧cs=cs2:=⟨congrArg Goroutine.frame h,congrArg Goroutine.callers h⟩
theorem vt (hf:Plain P fs fr.fn){cs:List Frame}{a':Goroutine}(h:zw P fs (av fr cs) a'):a'=av fr cs:=by
 rcases h with rfl|⟨f,args,k,cs2,e,rfl⟩
 ·rfl
 ·obtain ⟨rfl,rfl⟩:=jz e;have hf':Plain P fs f:=hf;rw [hf' args k]
end
section
variable {P:Program}{fs:Array Func}{w w1:World}{a a1 g1:Goroutine}{T T' A:List Frame}{fr:Frame}{m:Bool}
theorem fin_seg [Bg] (C:Ctx P fs){S:Goroutine→World→Prop}(hS:∀g w τ d,S g w→S g (tp w τ d))(hok:iz P [fr])(hst:Still w.heap.size one [fr])(hb:Base one w.heap.size)(hA:Whole P w)
  (h:∀τ d,∃w2 fr2,S (av fr2 [de]) w2∧Steps P (lone fr [de] (tp w τ d)) (lone fr2 [de] w2)):mu (lst P) S (av fr [de]) w:=by
 have hI:Inv P zb kz (av fr [de]) w:=⟨fr,[],one,cy w,rfl,hok,hst,hb,hA⟩;refine ahb (S:=S) (Inv:=Inv P zb kz) (fun g w τ d hi=>hi.tp τ d) (fun g w g1 w1 hi hs=> ?_) hS hI fun τ d=> ?_
 ·obtain ⟨a,b,c,e⟩:=sf C hi hs;exact ⟨a,c,e⟩
 ·obtain ⟨w2,fr2,hs,n,hn⟩:=h τ d;exact ⟨n,_,_,ad8 C n _ _ (hI.tp τ d) hn,hs⟩
theorem cr.seg [Bg] (C:Ctx P fs)(hp:∀f,Plain P fs f∨jj P f){S:Goroutine→World→Prop}(hS:∀g w τ d,S g w→S g (tp w τ d))(hSf:∀g w,S g w→∃fr2,g=av fr2 [de]∧Plain P fs fr2.fn){A':List Frame}{g:Goroutine}(h:mu (lst P) S g w):
  ∀fr A,g=av fr (A++ [de])→iz P (fr::A)→Fit P T (av fr (A++ (A'++T))) w→∀a',zw P fs (av fr (A++ (A'++T))) a'→
   cr (aq P fs) (fun a w=>Fit P T a w∧∃fr2,S (av fr2 [de]) w∧a=av fr2 (A'++T)) a' w:=by
 induction h with
 | @stop g w hs=>
  intro fr A hg hok hF a' hent;obtain ⟨fr2,hg2,hpl⟩:=hSf g w hs;obtain ⟨rfl,hA⟩:=jz (hg2.symm.trans hg);have hA0:A=[]:=by
   have:=congrArg List.length hA;simp at this;exact this
  subst hA0;have:a'=av fr2 ([]++ (A'++T)):=vt hpl hent;subst this;exact cr.done fun d=>⟨hF.tp _ _,fr2,hS _ _ _ _ (hg2▸hs),rfl⟩
 | @step g w nx hnx qj ih=>
  intro fr A hg hok hF a' hent;subst hg;obtain ⟨hst,hb,hA⟩:=ae0 hF;have hent':a'=av fr (A++ (A'++T)):=by
   rcases hent with rfl|⟨f,args,k,cs2,e2,rfl⟩
   ·rfl
   ·obtain ⟨rfl,rfl⟩:=jz e2;rcases hp f with hpl|hrf
    ·rw [hpl args k]
    ·exfalso;have h0:=hnx w.tape 0;obtain ⟨o,w2,e3⟩:=acf hrf args k (A++ [de]) (tp w w.tape 0);unfold lst at h0;rw [e3] at h0;split at h0 <;> cases h0
  subst hent';have hnb:fr.mode= .run∨A≠[]∨fr.defers≠[]:=by
   refine aco ?_;have h0:=hnx w.tape 0;cases hl:low (av fr (A++ [de])) with
   |false=>rfl
   |true=>simp [lst,hl] at h0
  refine cr.step C hF (ad7 hnb) fun d=> ?_
  have h0:lst P (av fr (A++ [de])) (tp w w.tape d)=some ((nx w.tape d).1,(nx w.tape d).2):=hnx w.tape d;have hlow:low (av fr (A++ [de]))=false:=by
   cases hl:low (av fr (A++ [de])) with
   |false=>rfl
   |true=>simp [lst,hl] at h0
  have hI:Inv P zb kz (av fr (A++ [de])) (tp w w.tape d):=⟨fr,A,one,cy (tp w w.tape d),rfl,hok,hst,hb,Whole.tp hA _ _⟩;obtain ⟨-,hs,-,-⟩:=sf C hI h0;obtain ⟨fr1,A1,e1,hok1,hs1⟩:=anb (T':=A'++T) C hok (w:=tp w w.tape d) hst hb ((Whole.self hA).tp _ _) (aco hlow) hs;exact ⟨_,_,hs1,fun a1' hent1 hfit1=>ih w.tape d fr1 A1 e1 hok1 hfit1 a1' hent1⟩
end
section
variable {P:Program}{fs:Array Func}{w w1:World}{a a1:Act}{T:List Frame}{b:Frame}{k:List Item}{cs:List Frame}{Q Q':Exit→Act→World→Prop}{c:Code}
inductive RTo (b:Frame)(k:List Item)(cs:List Frame)(Q:Exit→Act→World→Prop):Goroutine→World→Prop
 |normal {a:Act}{w:World}:Q .normal a w→RTo b k cs Q (av (b.at a k) cs) w
 |exit {a:Act}{w:World}{id:Nat}{k':List Item}:Q (.exit id) a w→exitTo id k=some k'→RTo b k cs Q (av (b.at a k') cs) w
 |ret {a:Act}{w:World}{todo:List Item}:Q .ret a w→RTo b k cs Q (av {b.at a todo with mode:= .returning} cs) w
 |panic {a:Act}{w:World}{chain:List PanicEntry}{todo:List Item}:Q (.panic chain) a w→RTo b k cs Q (av {b.at a todo with mode:= .panicking chain} cs) w
def rwp [Bg] (P:Program)(fs:Array Func)(c:Code)(Q:Exit→Act→World→Prop)(a:Act)(w:World):Prop:=
 ∀(b:Frame)(k:List Item)(A' T:List Frame),b.kind= .normal→Plain P fs b.fn→Fit P T (av (b.at a (.code c::k)) (A'++T)) w→
  cr (aq P fs) (fun a' w'=>Fit P T a' w'∧RTo b k (A'++T) Q a' w') (av (b.at a (.code c::k)) (A'++T)) w
def Blind (Q:Exit→Act→World→Prop):Prop:=∀e a w τ d,Q e a w→Q e a (tp w τ d)
theorem RTo.tp (hQ:Blind Q){g:Goroutine}(h:RTo b k cs Q g w)(τ:Tap)(d:Nat):RTo b k cs Q g (zr.tp w τ d):=by
 cases h with
 |normal h=>exact .normal (hQ _ _ _ _ _ h)
 |exit h h2=>exact .exit (hQ _ _ _ _ _ h) h2
 |ret h=>exact .ret (hQ _ _ _ _ _ h)
 |panic h=>exact .panic (hQ _ _ _ _ _ h)
theorem af3 [Bg] (C:Ctx P fs)(hp:∀f,Plain P fs f∨jj P f)(hQ:Blind Q)(h1:∀a w,¬Q .outgrown a w)(h2:∀id a w,¬Q (.exit id) a w)(h3:∀l a w,¬Q (.goto l) a w)
  (h:∀τ d,c.wp P Q a (tp w τ d)):rwp P fs c Q a w:=by
 intro b k A' T hk hb hF
 let S:Goroutine→World→Prop:=fun g w=>(∃fr2,g=av fr2 [de]∧fr2.fn=b.fn)∧RTo b k [de] Q g w
 obtain ⟨hst,hba,hA⟩:=ae0 (A:=[]) hF;have hfr:gp P (b.at a (.code c::k)):=by
  obtain ⟨fr2,A2,e,hok,-⟩:=hF;obtain ⟨rfl,-⟩:=jz e;exact hok.ok _ List.mem_cons_self
 have hok:iz P [b.at a (.code c::k)]:=⟨fun fr hfr'=>by
  obtain rfl:fr=_:=by simpa using hfr'
  exact hfr,_,rfl,rfl,hk⟩
 have hfin:mu (lst P) S (av (b.at a (.code c::k)) [de]) w:=by
  refine fin_seg C (fun g w τ d hs=>⟨hs.1,hs.2.tp hQ τ d⟩) hok hst hba hA fun τ d=> ?_
  obtain ⟨e,a',w',hq,harr⟩:=h τ d b k [de];cases e with
  |normal=>exact ⟨w',b.at a' k,⟨⟨_,rfl,rfl⟩,.normal hq⟩,harr⟩
  |exit id=>exact absurd hq (h2 _ _ _)
  |goto l=>exact absurd hq (h3 _ _ _)
  |outgrown=>exact absurd hq (h1 _ _)
  |ret=>
   obtain ⟨todo,hs⟩:=harr;exact ⟨w',{b.at a' todo with mode:= .returning},⟨⟨_,rfl,rfl⟩,.ret hq⟩,hs⟩
  |panic chain=>
   obtain ⟨todo,hs⟩:=harr;exact ⟨w',{b.at a' todo with mode:= .panicking chain},⟨⟨_,rfl,rfl⟩,.panic hq⟩,hs⟩
 refine (cr.seg (T:=T) (A':=A') C hp (S:=S) (fun g w τ d hs=>⟨hs.1,hs.2.tp hQ τ d⟩) (fun g w hs=> ?_) hfin _ [] rfl hok hF _ (.inl rfl)).then fun a' w' ⟨hf,fr2,⟨_,hr⟩,e⟩=>cr.done fun d=>⟨hf.tp _ _,?_⟩
 ·obtain ⟨⟨fr2,e,hfn⟩,-⟩:=hs;refine ⟨fr2,e,?_⟩;show Plain P fs fr2.fn;rw [hfn];exact hb
 ·subst e;have hr':=hr.tp hQ w'.tape d;have key:∀g u,RTo b k [de] Q g u→∀fr3,g=av fr3 [de]→RTo b k (A'++T) Q (av fr3 (A'++T)) u:=fun g u hg fr3 hg3=>by
   cases hg with
   |normal h=>obtain ⟨rfl,-⟩:=jz hg3;exact .normal h
   |exit h h2=>obtain ⟨rfl,-⟩:=jz hg3;exact .exit h h2
   |ret h=>obtain ⟨rfl,-⟩:=jz hg3;exact .ret h
   |panic h=>obtain ⟨rfl,-⟩:=jz hg3;exact .panic h
  exact key _ _ hr' fr2 rfl
theorem cr.mono [Bg] {Pr:Program}{Q Q':Goroutine→World→Prop}{g:Goroutine}(h:cr Pr Q g w)(hq:∀a' w',Q a' w'→Q' a' w'):cr Pr Q' g w:=fun gs d sl t h0 hc=>by
 obtain ⟨N,gs',a',w',sl',t',hr,h0',hc',hQ⟩:=h gs d sl t h0 hc;exact ⟨N,gs',a',w',sl',t',hr,h0',hc',hq _ _ hQ⟩
end
section
variable {P:Program}{fs:Array Func}{w w1:World}{a a1:Act}{T A':List Frame}{b c' fr fr1:Frame}{k:List Item}{cs:List Frame}{Q Q':Exit→Act→World→Prop}{c c1 c2:Code}
theorem cr.ctl [Bg] (C:Ctx P fs){S:Goroutine→World→Prop}(hF:Fit P T (av fr (A'++T)) w)(hrun:fr.mode= .run)(hpl:Plain P fs fr1.fn)(hs:∀u,Go.step P (lone fr (A'++T) u)= .next (lone fr1 (A'++T) u))
  (hk:Fit P T (av fr1 (A'++T)) w→cr (aq P fs) S (av fr1 (A'++T)) w):cr (aq P fs) S (av fr (A'++T)) w:=
 cr.step C hF (ad7 (A:=[]) (.inl hrun)) fun d=>⟨av fr1 (A'++T),w.at d,hs _,fun a1' he hf=>by
  have:a1'=av fr1 (A'++T):=vt hpl he;subst this;exact (hk (hf.tp w.tape w.drawn)).at d⟩
end
section
variable {P:Program}{fs:Array Func}{w w1:World}{a a1:Act}{T A':List Frame}{b c' fr fr1:Frame}{k:List Item}{cs:List Frame}{Q Q':Exit→Act→World→Prop}{c c1 c2:Code}
def gz (R:Ending→World→Prop):Prop:=∀e w τ d,R e w→R e (tp w τ d)
theorem aa7 (C:Ctx P fs){e:Ending}(hl:fr.leaving P w e)(hm:Tm P w)(τ:Tap)(d:Nat):fr.leaving P (tp w τ d) e:=by
 by_cases he:e= .outgrown
 ·subst he;trivial
 ·obtain ⟨e2,fr2,-,h2,-,h4,⟨rfl,-⟩,-⟩:=xu C (f:=fr.fn) (R:=fun e2 _=>e2=e∧True) (fun _ _ _ _ h=>h) (g:=av fr [de]) ⟨e,fr,he,rfl,rfl,hl,⟨rfl,trivial⟩,hm⟩ τ d;obtain ⟨rfl,-⟩:=jz h2;exact h4
end
section
variable {P:Program}{fs:Array Func}{w w1 u u1:World}{a a1:Act}{T A':List Frame}{b c' fr fr1:Frame}{k:List Item}{cs:List Frame}{Q Q':Exit→Act→World→Prop}{c c1 c2:Code}{ops:Array Oper}{i:Nat}{rest:List Nat}{o:Oper}{v:Value}
theorem m9 (hk:b.kind= .normal)(ho:ops[i]? =some o)(hw:Region.wanted o (yielded ops a.tmps)=true):stepG P true (av (b.at a (.inRegion ops (i::rest)::k)) cs) u=stepG.apply P true (b.at a (.inRegion ops (i::rest)::k)) cs none (execOp a.eval o) u:=by
 rw [sv rfl,vl (fr:=b.at a (.inRegion ops (i::rest)::k)) rfl];rw [if_pos (by rw [ho];exact hw)];rw [px (o:=o) (by unfold Frame.oper? Frame.at;exact ho) (.inl rfl)];rw [Frame.eval_at' b a]
theorem zv {s:Sem Next}{r:Result Next}(h:s.run P u=r):∃es,s.runT P u #[]=(r,es):=⟨(s.runT P u #[]).2,by rw [←h,←Sem.runT_fst P s u #[]]⟩
theorem abe (hk:b.kind= .normal)(ho:ops[i]? =some o)(hw:Region.wanted o (yielded ops a.tmps)=true)(hr:(execOp a.eval o).run P u= .ok (.value v) u1):
  step P (lone (b.at a (.inRegion ops (i::rest)::k)) cs u)= .next (lone (b.at (a.put o.dst v) (.inRegion ops rest::k)) cs u1):=by
 obtain ⟨es,hx⟩:=zv hr;have hke:((b.at a (.inRegion ops (i::rest)::k)).kind==CallKind.early)=false:=by
  show (b.kind==CallKind.early)=false;rw [hk];rfl
 have h:=(m9 (P:=P) (cs:=cs) (rest:=rest) (k:=k) (u:=u) hk ho hw).trans (nc hx hke);rw [Frame.finish_at,ho] at h;exact step_solo_go rfl h
theorem abg (hk:b.kind= .normal)(ho:ops[i]? =some o)(hw:Region.wanted o (yielded ops a.tmps)=true)(hr:(execOp a.eval o).run P u= .ok .skip u1):
  step P (lone (b.at a (.inRegion ops (i::rest)::k)) cs u)= .next (lone (b.at (a.put o.dst undef) (.inRegion ops rest::k)) cs u1):=by
 obtain ⟨es,hx⟩:=zv hr;have hke:((b.at a (.inRegion ops (i::rest)::k)).kind==CallKind.early)=false:=by
  show (b.kind==CallKind.early)=false;rw [hk];rfl
 have h:=(m9 (P:=P) (cs:=cs) (rest:=rest) (k:=k) (u:=u) hk ho hw).trans (rk hx hke);rw [Frame.finish_at,ho] at h;exact step_solo_go rfl h
theorem agm (hk:b.kind= .normal)(ho:ops[i]? =some o)(hw:Region.wanted o (yielded ops a.tmps)=true){f:FuncId}{args:Array Value}(hr:(execOp a.eval o).run P u= .ok (.enter f args) u1):
  step P (lone (b.at a (.inRegion ops (i::rest)::k)) cs u)= .next (lone (Frame.enter P f args .normal) (b.at a (.inRegion ops (i::rest)::k)::cs) u1):=by
 obtain ⟨es,hx⟩:=zv hr;have hke:((b.at a (.inRegion ops (i::rest)::k)).kind==CallKind.early)=false:=by
  show (b.kind==CallKind.early)=false;rw [hk];rfl
 exact step_solo_go rfl ((m9 (P:=P) (cs:=cs) (rest:=rest) (k:=k) (u:=u) hk ho hw).trans (m8 hx hke rfl))
end
section
variable {P:Program}{Z F:Nat→Prop}{π:Pm}{w w' w2':World}
theorem At.stays (h:At P Z F π w w')(hsz:w'.heap.size≤w2'.heap.size)(hk:∀b,b<w.heap.size→¬Z b→w2'.heap[π.to b]? =w'.heap[π.to b]?)(ho:w2'.os=w'.os)(hu:w2'.output=w'.output):At P Z F π (zr.tp w w2'.tape w2'.drawn) w2':=by
 refine ⟨fun π' ha=> ?_,h.zlt,h.flt,fun b hb=>Nat.lt_of_lt_of_le (h.img b hb) hsz⟩;have e:=h.rob π' ha;refine ⟨e.gu,fun b hb=> ?_,fun b o hb hz hf=> ?_,rfl,rfl,ho.trans e.os,hu.trans e.out⟩
 ·obtain ⟨c,el,z,h1,h2⟩:=e.fz b hb;have hlt:=h.flt b hb;have hz:¬Z b:=fun hz=>by
   have:=e.gu b hz;rw [h1] at this;cases this
  refine ⟨c,el,z,h1,?_⟩;rw [ha b hlt] at h2 ⊢;rw [hk b hlt hz];exact h2
 ·have hb':w.heap[b]? =some o:=hb;have hlt:b<w.heap.size:=(Array.getElem?_eq_some_iff.1 hb').1;obtain ⟨h1,h2⟩:=e.own b o hb' hz hf;refine ⟨h1,?_⟩;rw [ha b hlt] at h2 ⊢;rw [hk b hlt hz];exact h2
end
structure Mem where
 Z:Nat→Prop
 F:Nat→Prop
 w:World
 π:Pm
def Mem.Has (m:Mem)(r:Nat):Prop:=∃b,b<m.w.heap.size∧¬m.Z b∧¬m.F b∧m.π.to b=r
def Mem.sg (m:Mem)(r:Nat):Prop:=∃b,b<m.w.heap.size∧¬m.Z b∧m.π.to b=r
theorem Mem.Has.sees {m:Mem}{r:Nat}(h:m.Has r):m.sg r:=let ⟨b,h1,h2,_,h4⟩:=h;⟨b,h1,h2,h4⟩
def Mem.on (m:Mem)(w:World)(π:Pm):Mem:={m with w:=w,π:=π}
def mz (M:Nat→Mem)(j:Nat)(m:Mem):Nat→Mem:=fun k=>if k=j then m else M k
theorem gg (M:Nat→Mem)(j:Nat)(m:Mem):mz M j m j=m:=by simp [mz]
theorem ia (M:Nat→Mem){j k:Nat}(m:Mem)(h:k≠j):mz M j m k=M k:=by simp [mz,h]
structure Bas where
 w:World
 own:Nat→Nat→Prop
structure Fam (P:Program)(n N0 c:Nat)(wS:Bas)(M:Nat→Mem)(w':World):Prop where
 at_:∀j,j≤n→At P (M j).Z (M j).F (M j).π (tp (M j).w w'.tape w'.drawn) w'
 base:∀j,j≤n→Base (M j).π (M j).w.heap.size
 ag:∀j,j≤n→aw N0 one (M j).π∧N0≤(M j).w.heap.size
 apart:∀j k,j≤n→k≤n→j≠k→∀r,(M j).Has r→¬(M k).sg r
 rest:∀b,b<N0→b≠c→(∀j,j≤n→¬wS.own j b)→w'.heap[b]? =wS.w.heap[b]?
 ownH:∀j,j≤n→∀b,b<N0→((M j).Has b↔wS.own j b)
 chan:∃s tm,w'.heap[c]? =some (.chan 0 #[] false s s tm)
 cN:c<N0
 cz:∀j,j≤n→¬(M j).sg c
 cov:∀b,N0≤b→b<w'.heap.size→∃j,j≤n∧(M j).Has b
 size:N0≤w'.heap.size
 sizeS:wS.w.heap.size=N0
 os:w'.os=wS.w.os
 out:w'.output=wS.w.output
section
variable {P:Program}{n N0 c:Nat}{wS:Bas}{w' w1 w1':World}{M:Nat→Mem}{Z F:Nat→Prop}{π π1:Pm}{w:World}{new:Array Event}
theorem Adv.os' (h:Adv P Z F π w w' π1 w1 w1' new)(hA:At P Z F π w w'):w1'.os=w'.os∧w1'.output=w'.output:=by
 have e:=hA.rob π (aw.refl _ _);have e1:=h.at_.rob π1 (aw.refl _ _);exact ⟨by rw [e1.os,h.os,e.os],by rw [e1.out,h.out,e.out]⟩
theorem At.re (h:At P Z F π w w'):At P Z F π (zr.tp w w'.tape w'.drawn) w':=At.tp h w'.tape w'.drawn
theorem Fam.at (h:Fam P n N0 c wS M w')(d:Nat):Fam P n N0 c wS M (w'.at d):=
 {h with at_:=fun j hj=>(h.at_ j hj).tp w'.tape d}
theorem Fam.aju (h:Fam P n N0 c wS M w'){j r:Nat}(hj:j≤n)(hs:(M j).sg r):r<w'.heap.size:=by
 obtain ⟨b,h1,_,rfl⟩:=hs;exact (h.at_ j hj).img b h1
theorem has_on {m:Mem}(hA:At P m.Z m.F m.π (tp m.w w'.tape w'.drawn) w')(ha:Adv P m.Z m.F m.π (tp m.w w'.tape w'.drawn) w' π1 w1 w1' new){r:Nat}:(m.Has r→(m.on w1 π1).Has r)∧((m.on w1 π1).Has r→m.Has r∨w'.heap.size≤r)∧((m.on w1 π1).sg r→m.sg r∨w'.heap.size≤r):=by
 refine ⟨fun ⟨b,h1,h2,h3,h4⟩=>⟨b,Nat.lt_of_lt_of_le h1 ha.size,h2,h3,(ha.agree b h1).trans h4⟩,fun ⟨b,h1,h2,h3,h4⟩=> ?_,fun ⟨b,h1,h2,h4⟩=> ?_⟩
 ·by_cases hb:b<m.w.heap.size
  ·exact .inl ⟨b,hb,h2,h3,(ha.agree b hb).symm.trans h4⟩
  ·exact .inr (h4▸ha.fresh b (Nat.le_of_not_lt hb) h1)
 ·by_cases hb:b<m.w.heap.size
  ·exact .inl ⟨b,hb,h2,(ha.agree b hb).symm.trans h4⟩
  ·exact .inr (h4▸ha.fresh b (Nat.le_of_not_lt hb) h1)
theorem Fam.has_le (h:Fam P n N0 c wS M w'){j:Nat}(hj:j≤n){r:Nat}(hr:(M j).Has r):r<w'.heap.size:=h.aju hj hr.sees
theorem Fam.step (h:Fam P n N0 c wS M w'){j:Nat}(hj:j≤n)(ha:Adv P (M j).Z (M j).F (M j).π (tp (M j).w w'.tape w'.drawn) w' π1 w1 w1' new):Fam P n N0 c wS (mz M j ((M j).on w1 π1)) w1':=by
 have hA:=h.at_ j hj;have hs:=fun r=>has_on (r:=r) hA ha
 obtain ⟨ho,hu⟩:=ha.os' hA;have ff:∀r,r<w'.heap.size→¬(M j).Has r→w1'.heap[r]? =w'.heap[r]? :=fun r hr hn=>ha.qm.ff r hr fun b hb hz hf e=>hn ⟨b,hb,hz,hf,e.symm⟩
 have hsz:w'.heap.size≤w1'.heap.size:=ha.qm.size;refine ⟨fun k hk=> ?_,fun k hk=> ?_,fun k hk=> ?_,fun i k hi hk hne r hir hkr=> ?_,fun b hb hbc hn=> ?_,fun k hk b hb=> ?_,?_,h.cN,fun k hk hsee=> ?_,fun b hb hlt=> ?_,Nat.le_trans h.size hsz,h.sizeS,ho.trans h.os,hu.trans h.out⟩
 ·by_cases hkj:k=j
  ·subst hkj;rw [gg];exact ha.at_.re
  ·rw [ia _ _ hkj];refine (h.at_ k hk).stays hsz (fun b hb hz=>ff _ ((h.at_ k hk).img b hb) fun hh=> ?_) ho hu;exact h.apart j k hj hk (fun e=>hkj e.symm) _ hh ⟨b,hb,hz,rfl⟩
 ·by_cases hkj:k=j
  ·subst hkj;rw [gg];exact Base.adv (w:=tp (M k).w w'.tape w'.drawn) (h.base k hk) ha
  ·rw [ia _ _ hkj];exact h.base k hk
 ·by_cases hkj:k=j
  ·subst hkj;rw [gg];obtain ⟨h1,h2⟩:=h.ag k hk;exact ⟨h1.trans (ha.agree.mono h2),Nat.le_trans h2 ha.size⟩
  ·rw [ia _ _ hkj];exact h.ag k hk
 ·by_cases hij:i=j
  ·subst hij;rw [gg] at hir;rw [ia _ _ (fun e=>hne e.symm)] at hkr;rcases (hs r).2.1 hir with hh|hh
   ·exact h.apart i k hi hk hne r hh hkr
   ·have:=h.aju hk hkr;omega
  ·rw [ia _ _ hij] at hir
   by_cases hkj:k=j
   ·subst hkj;rw [gg] at hkr;rcases (hs r).2.2 hkr with hh|hh
    ·exact h.apart i k hi hk hne r hir hh
    ·have:=h.has_le hi hir;omega
   ·rw [ia _ _ hkj] at hkr;exact h.apart i k hi hk hne r hir hkr
 ·rw [ff b (Nat.lt_of_lt_of_le hb h.size) fun hh=>hn j hj ((h.ownH j hj b hb).1 hh)];exact h.rest b hb hbc hn
 ·by_cases hkj:k=j
  ·subst hkj;rw [gg];refine ⟨fun hh=> ?_,fun ho=>(hs b).1 ((h.ownH k hk b hb).2 ho)⟩;rcases (hs b).2.1 hh with hh|hh
   ·exact (h.ownH k hk b hb).1 hh
   ·have:=h.size;omega
  ·rw [ia _ _ hkj];exact h.ownH k hk b hb
 ·obtain ⟨s,tm,hc⟩:=h.chan;exact ⟨s,tm,(ff c (Nat.lt_of_lt_of_le h.cN h.size) fun hh=>h.cz j hj hh.sees).trans hc⟩
 ·by_cases hkj:k=j
  ·subst hkj;rw [gg] at hsee;rcases (hs c).2.2 hsee with hh|hh
   ·exact h.cz k hk hh
   ·have:=h.cN;have:=h.size;omega
  ·rw [ia _ _ hkj] at hsee;exact h.cz k hk hsee
 ·by_cases hb2:b<w'.heap.size
  ·obtain ⟨k,hk,hh⟩:=h.cov b hb hb2;refine ⟨k,hk,?_⟩
   by_cases hkj:k=j
   ·subst hkj;rw [gg];exact (hs b).1 hh
   ·rw [ia _ _ hkj];exact hh
  ·obtain ⟨x,x1,x2,x3⟩:=ha.cov b (Nat.le_of_not_lt hb2) hlt;refine ⟨j,hj,?_⟩;rw [gg];refine ⟨x,x2,fun hz=> ?_,fun hf=> ?_,x3⟩
   ·have:=hA.zlt x hz;omega
   ·have:=hA.flt x hf;omega
theorem Fam.pass (h:Fam P n N0 c wS M w'){s:Nat}{tm:Bool}:Fam P n N0 c wS M (w'.setChan c 0 #[] false (s+1) (s+1) tm):=by
 have hlt:c<w'.heap.size:=Nat.lt_of_lt_of_le h.cN h.size;have ff:∀r,r≠c→(w'.setChan c 0 #[] false (s+1) (s+1) tm).heap[r]? =w'.heap[r]? :=fun r hr=>by
  show (w'.heap.setIfInBounds c _)[r]? =_;rw [Array.getElem?_setIfInBounds_ne (fun e=>hr e.symm)]
 have hsz:(w'.setChan c 0 #[] false (s+1) (s+1) tm).heap.size=w'.heap.size:=by
  show (w'.heap.setIfInBounds c _).size=_;simp
 refine {h with at_:=fun k hk=> ?_,rest:=fun b hb hbc hn=>(ff b hbc).trans (h.rest b hb hbc hn),chan:=⟨s+1,tm,?_⟩,cov:=fun b hb hlt=>h.cov b hb ai,size:=by rw [hsz];exact h.size}
 ·exact (h.at_ k hk).stays (Nat.le_of_eq hsz.symm) (fun b hb hz=>ff _ fun e=>h.cz k hk ⟨b,hb,hz,e⟩) rfl rfl
 ·show (w'.heap.setIfInBounds c _)[c]? =_;rw [Array.getElem?_setIfInBounds_self_of_lt hlt]
end
def qy:Loc→Nat
 | .cell a=>a.block
 | .obj r=>r
 |_=>0
def Dom (m:Mem)(x:Touch):Prop:=∃b,b<m.w.heap.size∧¬m.Z b∧(x.write=true→¬m.F b)∧m.π.to b=qy x.loc
def aas (m:Mem)(x:Touch):Prop:=∃b,b<m.w.heap.size∧¬m.Z b∧(m.F b→x.write=true)∧m.π.to b=qy x.loc
def gid (b0 j:Nat):Nat:=if j=0 then 0 else b0+j
theorem gid_zero (b0:Nat):gid b0 0=0:=rfl
theorem u6 {b0 j:Nat}(h:j≠0):gid b0 j=b0+j:=by simp [gid,h]
structure TrI (b0:Nat)(act:Nat→Prop)(M:Nat→Mem)(B:Nat)(t:Trace):Prop where
 clean:∀said,¬Race said t
 known:∀i x,touchAt t i=some x→x.loc.isMemory=true→Knows t 0 i∨∃j,act j∧t.g? i=some (gid b0 j)∧Dom (M j) x
 work:∀j,act j→∀i x,touchAt t i=some x→x.loc.isMemory=true→aas (M j) x→Knows t (gid b0 j) i
 hears:Deaf t 0=0
 deafW:∀j,act j→Deaf t (gid b0 j)=0
 seen:∀op∈t,op.act.low B
section
variable {P:Program}{n N0 c b0 B:Nat}{wS:Bas}{w' w1 w1':World}{M:Nat→Mem}{Z F:Nat→Prop}{π π1:Pm}{w:World}{new:Array Event}{t u:Trace}{act:Nat→Prop}
theorem near_of {m:Mem}{a x:Touch}(hd:Dom m a)(hl:x.loc=a.loc)(hw:x.write=true∨a.write=true):aas m x:=by
 obtain ⟨b,h1,h2,h3,h4⟩:=hd;exact ⟨b,h1,h2,fun hf=>hw.resolve_right fun h=>h3 h hf,by rw [h4,hl]⟩
theorem Fam.clear (h:Fam P n N0 c wS M w'){j k:Nat}(hj:j≤n)(hk:k≤n)(hjk:j≠k){x:Touch}(hd:Dom (M j) x)(hn:aas (M k) x):False:=by
 obtain ⟨b,h1,h2,h3,h4⟩:=hd;obtain ⟨b',k1,k2,k3,k4⟩:=hn
 by_cases hw:x.write=true
 ·exact h.apart j k hj hk hjk _ ⟨b,h1,h2,h3 hw,h4⟩ ⟨b',k1,k2,k4⟩
 ·exact h.apart k j hk hj (fun e=>hjk e.symm) _ ⟨b',k1,k2,fun hf=>hw (k3 hf),k4⟩ ⟨b,h1,h2,h4⟩
theorem TrI.knows (h:TrI b0 act M B t)(hF:Fam P n N0 c wS M w')(ha:∀j,act j→j≤n∧j≠0){j:Nat}(hj:j=0∨act j){i:Nat}{x:Touch}(hx:touchAt t i=some x)(hm:x.loc.isMemory=true)(hn:aas (M j) x):Knows t (gid b0 j) i:=by
 rcases hj with rfl|hj
 ·rcases h.known i x hx hm with hk|⟨k,hk,_,hd⟩
  ·exact hk
  ·exact (hF.clear (ha k hk).1 (Nat.zero_le _) (ha k hk).2 hd hn).elim
 ·exact h.work j hj i x hx hm hn
theorem low_blk {x:Touch}{y:MemAct}(hx:y.touch? =some x)(hm:x.loc.isMemory=true)(hl:y.low B):qy x.loc<B:=by
 cases y with
 |access e=>
  obtain rfl:_=x:=Option.some.inj hx;obtain ⟨loc,wr,sy⟩:=e;cases loc <;> first|exact hl|cases hm
 |mark m=>cases m <;> first|(cases hx;done)|(obtain rfl:_=x:=Option.some.inj hx;exact hl)
 |_=>cases hx
theorem af0 (h:∀op∈t,op.act.low B){i:Nat}{x:Touch}(hx:touchAt t i=some x)(hm:x.loc.isMemory=true):qy x.loc<B:=by
 obtain ⟨op,ho,hox⟩:=touch_of hx;exact low_blk hox hm (h op (Array.mem_of_getElem? ho))
theorem dom_on {m:Mem}(ha:Adv P m.Z m.F m.π (tp m.w w'.tape w'.drawn) w' π1 w1 w1' new){x:Touch}(h:Dom m x):Dom (m.on w1 π1) x:=by
 obtain ⟨b,h1,h2,h3,h4⟩:=h;exact ⟨b,Nat.lt_of_lt_of_le h1 ha.size,h2,h3,(ha.agree b h1).trans h4⟩
theorem near_on {m:Mem}(ha:Adv P m.Z m.F m.π (tp m.w w'.tape w'.drawn) w' π1 w1 w1' new){x:Touch}(h:aas (m.on w1 π1) x)(hb:qy x.loc<w'.heap.size):aas m x:=by
 obtain ⟨b,h1,h2,h3,h4⟩:=h
 by_cases hlt:b<m.w.heap.size
 ·exact ⟨b,hlt,h2,h3,(ha.agree b hlt).symm.trans h4⟩
 ·have h5:=ha.fresh b (Nat.le_of_not_lt hlt) h1;have h4:π1.to b=qy x.loc:=h4;omega
theorem ag3 {m:Mem}(ha:Adv P m.Z m.F m.π (tp m.w w'.tape w'.drawn) w' π1 w1 w1' new){x:Touch}(h:Dom (m.on w1 π1) x)(hb:qy x.loc<w'.heap.size):Dom m x:=by
 obtain ⟨b,h1,h2,h3,h4⟩:=h
 by_cases hlt:b<m.w.heap.size
 ·exact ⟨b,hlt,h2,h3,(ha.agree b hlt).symm.trans h4⟩
 ·have h5:=ha.fresh b (Nat.le_of_not_lt hlt) h1;have h4:π1.to b=qy x.loc:=h4;omega
theorem mem_conf {said:Bool}{a x:Touch}(h:a.conflicts said x):x.loc=a.loc∧x.loc.isMemory=true∧a.loc.isMemory=true∧(a.write=true∨x.write=true):=by
 obtain ⟨h1,h2,h3,_⟩:=h;exact ⟨h1.symm,h1▸h2,h2,h3⟩
theorem Knows.own {op:MemOp}{i:Nat}(h:t[i]? =some op){g:Nat}(hg:op.g=g):Knows t g i:=hg▸knows_own h
theorem g?_at {i:Nat}{op:MemOp}(h:t[i]? =some op):t.g? i=some op.g:=by simp [Trace.g?,h]
theorem aas.lt {m:Mem}{x:Touch}(hA:At P m.Z m.F m.π (tp m.w w'.tape w'.drawn) w')(h:aas m x):qy x.loc<w'.heap.size:=by
 obtain ⟨b,h1,_,_,h4⟩:=h;rw [←h4];exact hA.img b h1
theorem TrI.step (h:TrI b0 act M w'.heap.size t)(hF:Fam P n N0 c wS M w')(hact:∀j,act j→j≤n∧j≠0){j:Nat}(hjn:j≤n)(hj:j=0∨act j)
  (ha:Adv P (M j).Z (M j).F (M j).π (tp (M j).w w'.tape w'.drawn) w' π1 w1 w1' new)(hg:∀op∈u,op.g=gid b0 j)
  (hd:∀op∈u,∀x,op.act.touch? =some x→x.loc.isMemory=true→Dom ((M j).on w1 π1) x)(hs:∀op∈u,op.act≠ .mark .disable∧op.act≠ .mark .enable)(hl:∀op∈u,op.act.low w1'.heap.size):
  TrI b0 act (mz M j ((M j).on w1 π1)) w1'.heap.size (t++u):=by
 have hsz:w'.heap.size≤w1'.heap.size:=ha.qm.size;have hstill:∀g,Deaf (t++u) g=Deaf t g:=fun g=>Go.ConcN.Deaf_still t g u hs
 refine ⟨fun said=>noRace_append (h.clean said) hg fun i a hi op hop x hx hc=> ?_,fun i x hi hm=> ?_,fun k hk i x hi hm hn=> ?_,(hstill 0).trans h.hears,fun k hk=>(hstill _).trans (h.deafW k hk),fun op hop=> ?_⟩
 ·obtain ⟨e1,e2,e3,e4⟩:=mem_conf hc;have hb:qy a.loc<w'.heap.size:=af0 h.seen hi e3;exact h.knows hF hact hj hi e3 (near_of (ag3 ha (hd op hop x hx e2) (by rw [e1];exact hb)) e1.symm e4)
 ·obtain ⟨op,ho,hox⟩:=touch_of hi;rcases getElem?_append_cases ho with ⟨hlt,ho'⟩|⟨_,hou⟩
  ·rcases h.known i x (by rw [touchAt_of ho'];exact hox) hm with hk|⟨k,hk,hgk,hdk⟩
   ·exact .inl (hk.app u)
   ·refine .inr ⟨k,hk,by rw [g?_old hlt];exact hgk,?_⟩
    by_cases hkj:k=j
    ·subst hkj;rw [gg];exact dom_on ha hdk
    ·rw [ia _ _ hkj];exact hdk
  ·rcases hj with rfl|hj
   ·exact .inl (Knows.own ho (hg op hou))
   ·exact .inr ⟨j,hj,by rw [g?_at ho,hg op hou],by rw [gg];exact hd op hou x hox hm⟩
 ·obtain ⟨op,ho,hox⟩:=touch_of hi;rcases getElem?_append_cases ho with ⟨hlt,ho'⟩|⟨_,hou⟩
  ·have hx:touchAt t i=some x:=by rw [touchAt_of ho'];exact hox
   have hn':aas (M k) x:=by
    by_cases hkj:k=j
    ·subst hkj;rw [gg] at hn;exact near_on ha hn (af0 h.seen hx hm)
    ·rw [ia _ _ hkj] at hn;exact hn
   exact (h.work k hk i x hx hm hn').app u
  ·by_cases hkj:k=j
   ·subst hkj;exact Knows.own ho (hg op hou)
   ·rw [ia _ _ hkj] at hn;exact (hF.clear hjn (hact k hk).1 (fun e=>hkj e.symm) (ag3 ha (hd op hou x hox hm) (hn.lt (hF.at_ k (hact k hk).1))) hn).elim
 ·rcases Array.mem_append.1 hop with hop|hop
  ·exact MemAct.low_mono hsz (h.seen op hop)
  ·exact hl op hop
theorem TrI.mute (h:TrI b0 act M B t){g:Nat}(hg:∀op∈u,op.g=g)(hn:∀op∈u,op.act.touch? =none)(hs:∀g',g'=0∨(∃j,act j∧g'=gid b0 j)→Deaf (t++u) g'=Deaf t g'){B':Nat}(hB:B≤B')(hl:∀op∈u,op.act.low B'):TrI b0 act M B' (t++u):=by
 have old:∀{i:Nat}{x:Touch},touchAt (t++u) i=some x→i<t.size∧touchAt t i=some x:=fun {i x} hi=>by
  obtain ⟨op,ho,hox⟩:=touch_of hi;rcases getElem?_append_cases ho with ⟨hlt,ho'⟩|⟨_,hou⟩
  ·exact ⟨hlt,by rw [touchAt_of ho'];exact hox⟩
  ·rw [hn op hou] at hox;cases hox
 refine ⟨fun said=>noRace_append (h.clean said) hg fun i a _ op hop x hx _=> ?_,fun i x hi hm=> ?_,fun k hk i x hi hm hnr=> ?_,(hs 0 (.inl rfl)).trans h.hears,fun k hk=>(hs _ (.inr ⟨k,hk,rfl⟩)).trans (h.deafW k hk),fun op hop=> ?_⟩
 ·rw [hn op hop] at hx;cases hx
 ·obtain ⟨hlt,hi'⟩:=old hi;rcases h.known i x hi' hm with hk|⟨k,hk,hgk,hdk⟩
  ·exact .inl (hk.app u)
  ·exact .inr ⟨k,hk,by rw [g?_old hlt];exact hgk,hdk⟩
 ·obtain ⟨hlt,hi'⟩:=old hi;exact (h.work k hk i x hi' hm hnr).app u
 ·rcases Array.mem_append.1 hop with hop|hop
  ·exact MemAct.low_mono hB (h.seen op hop)
  ·exact hl op hop
theorem Deaf_push (t:Trace)(g:Nat){op:MemOp}(h:op.act≠ .mark .disable∧op.act≠ .mark .enable):Deaf (t++ #[op]) g=Deaf t g:=Go.ConcN.Deaf_still t g _ (fun o ho=>by
 obtain rfl:o=op:=by simpa using ho
 exact h)
theorem TrI.one (h:TrI b0 act M B t){op:MemOp}(hn:op.act.touch? =none)(hs:op.act≠ .mark .disable∧op.act≠ .mark .enable)(hl:op.act.low B):TrI b0 act M B (t++ #[op]):=
 h.mute (g:=op.g) (fun o ho=>by
  obtain rfl:o=op:=by simpa using ho
  rfl) (fun o ho=>by
  obtain rfl:o=op:=by simpa using ho
  exact hn) (fun g' _=>Deaf_push t g' hs) (Nat.le_refl _) (fun o ho=>by
  obtain rfl:o=op:=by simpa using ho
  exact hl)
theorem TrI.spawn (h:TrI b0 act M B t)(hF:Fam P n N0 c wS M w')(hact:∀j,act j→j≤n∧j≠0){k:Nat}(hk:k≤n)(hk0:k≠0)(hnk:¬act k){x y:MemOp}(hx:x.g=0∧x.act= .go (b0+k))(hy:y.g=b0+k∧y.act= .start)(hdk:Deaf t (b0+k)=0):
  TrI b0 (fun j=>act j∨j=k) M B (t++ #[x,y]):=by
 have e:t++ #[x,y]=(t++ #[x])++ #[y]:=by apply Array.ext';simp
 have h2:TrI b0 act M B (t++ #[x,y]):=by
  rw [e];exact (h.one (op:=x) (by rw [hx.2];rfl) (by rw [hx.2];simp) (by rw [hx.2];trivial)).one (op:=y) (by rw [hy.2];rfl) (by rw [hy.2];simp) (by rw [hy.2];trivial)
 refine ⟨h2.clean,fun i a hi hm=> ?_,fun j hj i a hi hm hn=> ?_,h2.hears,fun j hj=> ?_,h2.seen⟩
 ·rcases h2.known i a hi hm with hk|⟨j,hj,h3,h4⟩
  ·exact .inl hk
  ·exact .inr ⟨j,.inl hj,h3,h4⟩
 ·rcases hj with hj|rfl
  ·exact h2.work j hj i a hi hm hn
  ·obtain ⟨op,ho,hox⟩:=touch_of hi;rcases getElem?_append_cases ho with ⟨hlt,ho'⟩|⟨_,hou⟩
   ·rw [u6 hk0];refine Go.ConcN.fork_knows hx hy h.hears hdk ?_;rcases h.known i a (by rw [touchAt_of ho'];exact hox) hm with hk1|⟨l,hl,_,hd⟩
    ·exact hk1
    ·exact (hF.clear (hact l hl).1 hk (fun e=>hnk (e▸hl)) hd hn).elim
   ·have:op=x∨op=y:=by simpa using hou
    rcases this with rfl|rfl
    ·rw [hx.2] at hox;cases hox
    ·rw [hy.2] at hox;cases hox
 ·rcases hj with hj|rfl
  ·exact h2.deafW j hj
  ·rw [u6 hk0,Go.ConcN.Deaf_still t _ _ (fun op hop=>by
    have:op=x∨op=y:=by simpa using hop
    rcases this with rfl|rfl
    ·rw [hx.2];simp
    ·rw [hy.2];simp)]
   exact hdk
theorem TrI.join (h:TrI b0 act M B t)(hact:∀j,act j→j≤n∧j≠0){k s:Nat}(hk:act k){x1 x2 x3 x4:MemOp}(h1:(x1.g=gid b0 k∧x1.act= .send c s∧x2.g=0∧x2.act= .recv c s 0∧x3.g=gid b0 k∧x3.act= .sendDone c s∧x4.g=0∧x4.act= .recvDone c s))(hc:c<B):
  TrI b0 (fun j=>act j∧j≠k) M B (t++ #[x1,x2,x3,x4])∧Deaf (t++ #[x1,x2,x3,x4]) (gid b0 k)=0:=by
 obtain ⟨g1,a1,g2,a2,g3,a3,g4,a4⟩:=h1;have e:t++ #[x1,x2,x3,x4]=(((t++ #[x1])++ #[x2])++ #[x3])++ #[x4]:=by apply Array.ext';simp
 have h2:TrI b0 act M B (t++ #[x1,x2,x3,x4]):=by
  rw [e];exact (((h.one (op:=x1) (by rw [a1];rfl) (by rw [a1];simp) (by rw [a1];exact hc)).one (op:=x2) (by rw [a2];rfl) (by rw [a2];simp) (by rw [a2];exact hc)).one (op:=x3) (by rw [a3];rfl) (by rw [a3];simp) (by rw [a3];exact hc)).one (op:=x4) (by rw [a4];rfl) (by rw [a4];simp) (by rw [a4];exact hc)
 have p1:(t++ #[x1,x2,x3,x4])[t.size]? =some x1:=by rw [Array.getElem?_append_right (Nat.le_refl _)];simp
 have p4:(t++ #[x1,x2,x3,x4])[t.size+3]? =some x4:=by rw [Array.getElem?_append_right ai];simp
 have q1:(t++ #[x1,x2,x3,x4]).heard t.size:=⟨gid b0 k,by rw [g?_at p1,g1],by rw [deaf_old (Nat.le_refl _)];exact h.deafW k hk⟩;have q4:(t++ #[x1,x2,x3,x4]).heard (t.size+3):=by
  refine ⟨0,by rw [g?_at p4,g4],?_⟩;have:(t++ #[x1,x2,x3,x4])=(t++ #[x1,x2,x3])++ #[x4]:=by apply Array.ext';simp
  rw [this,deaf_old ae];have hd:Deaf (t++ #[x1,x2,x3]) 0=0:=by
   rw [Go.ConcN.Deaf_still t 0 _ (fun op hop=>by
    have:op=x1∨op=x2∨op=x3:=by simpa using hop
    rcases this with rfl|rfl|rfl
    ·rw [a1];simp
    ·rw [a2];simp
    ·rw [a3];simp)]
   exact h.hears
  have hs3:t.size+3=(t++ #[x1,x2,x3]).size:=by simp
  rw [hs3];exact hd
 have edge:HappensBefore (t++ #[x1,x2,x3,x4]) t.size (t.size+3):= .single (.inr ⟨.handOver (c:=c) (k:=s) (by rw [act?_of p1,a1]) (by rw [act?_of p4,a4]),q1,q4⟩);refine ⟨⟨h2.clean,fun i a hi hm=> ?_,fun j hj=>h2.work j hj.1,h2.hears,fun j hj=>h2.deafW j hj.1,h2.seen⟩,h2.deafW k hk⟩;rcases h2.known i a hi hm with hk1|⟨j,hj,hgj,hd⟩
 ·exact .inl hk1
 ·by_cases hjk:j=k
  ·subst hjk;refine .inl ⟨t.size+3,x4,p4,g4,.inr ?_⟩;obtain ⟨op,ho,hox⟩:=touch_of hi;have hog:op.g=gid b0 j:=by
    have:=g?_at ho;rw [hgj] at this;exact (Option.some.inj this).symm
   rcases getElem?_append_cases ho with ⟨hlt,ho'⟩|⟨_,hou⟩
   ·exact (hb_po hlt ho p1 (hog.trans g1.symm)).trans edge
   ·have:op=x1∨op=x2∨op=x3∨op=x4:=by simpa using hou
    rcases this with rfl|rfl|rfl|rfl
    ·rw [a1] at hox;cases hox
    ·rw [a2] at hox;cases hox
    ·rw [a3] at hox;cases hox
    ·rw [a4] at hox;cases hox
  ·exact .inr ⟨j,⟨hj,hjk⟩,hgj,hd⟩
theorem TrI.past (h:TrI b0 act M B t)(hn:∀j,¬act j):Past mn B t:=by
 have kn:∀i x,touchAt t i=some x→x.loc.isMemory=true→Knows t 0 i:=fun i x hi hm=>(h.known i x hi hm).resolve_right fun ⟨j,hj,_⟩=>hn j hj
 refine ⟨h.clean,fun i x hi hm=> .inl (kn i x hi hm),fun i g hgi hne hc=> ?_,h.hears,h.seen⟩;obtain ⟨x,hx,hm,_⟩:=hc;obtain ⟨q,z,h1,h2,h3⟩:=kn i x hx hm;refine ⟨q,by rw [g?_at h1,h2],?_⟩;rcases h3 with rfl|h3
 ·rw [g?_at h1,h2] at hgi;exact absurd (Option.some.inj hgi).symm hne
 ·exact h3
theorem TrI.of_past (h:Past mn B t):TrI b0 (fun _=>False) M B t:=
 ⟨h.clean,fun i x hi hm=> .inl ((h.known i x hi hm).resolve_right fun x=>x.1.elim),fun _ hj=>hj.elim,h.hears,fun _ hj=>hj.elim,h.seen⟩
end
structure Listed (Z F:Nat→Prop)(i:Nat)(π:Pm)(N B:Nat)(ops:Array MemOp):Prop where
 g:∀op∈ops,op.g=i
 dom:∀op∈ops,∀x,op.act.touch? =some x→x.loc.isMemory=true→∃b,b<N∧¬Z b∧(x.write=true→¬F b)∧π.to b=qy x.loc
 still:∀op∈ops,op.act≠ .mark .disable∧op.act≠ .mark .enable
 low:∀op∈ops,op.act.low B
section
variable {P Pr:Program}{fs:Array Func}{Z F:Nat→Prop}{π π1:Pm}{w w' w1 w1':World}{fr:Frame}{A T T':List Frame}{gs:Array Goroutine}{sl:Option (Nat×Nat)}{i c0 N B:Nat}{g1:Goroutine}{new:Array Event}{ops ops2:Array MemOp}
theorem Listed.app (h:Listed Z F i π N B ops)(k:Listed Z F i π N B ops2):Listed Z F i π N B (ops++ops2):=
 ⟨fun op ho=>(Array.mem_append.1 ho).elim (h.g op) (k.g op),fun op ho=>(Array.mem_append.1 ho).elim (h.dom op) (k.dom op),fun op ho=>(Array.mem_append.1 ho).elim (h.still op) (k.still op),fun op ho=>(Array.mem_append.1 ho).elim (h.low op) (k.low op)⟩
theorem xx (he:∀e∈new,ub Z F N π e)(hi:∀b,b<N→π.to b<B)(fn:FuncId)(pos:String):Listed Z F i π N B (MemOp.ofEvents i fn pos new):=by
 have key:∀op∈MemOp.ofEvents i fn pos new,∃e,ub Z F N π e∧op={g:=i,fn:=fn,pos:=pos,act:= .ofEvent e}:=fun op ho=>by
  obtain ⟨e,h1,h2⟩:=Go.Conc.mem_ofEvents ho;exact ⟨e,he e h1,h2⟩
 refine ⟨fun op ho=> ?_,fun op ho x hx hm=> ?_,fun op ho=> ?_,fun op ho=> ?_⟩
 ·obtain ⟨e,_,rfl⟩:=key op ho;rfl
 ·obtain ⟨⟨loc,wr,sy⟩,h,rfl⟩:=key op ho;cases loc with
  |cell a=>
   obtain ⟨b,h1,h2,h3,h4⟩:=h;obtain rfl:_=x:=Option.some.inj hx;exact ⟨b,h1,h2,h3,h4.symm⟩
  |obj r=>
   obtain ⟨b,h1,h2,h3,h4⟩:=h;have:x.loc= .obj r∧x.write=wr:=by
    cases wr <;> cases sy <;> first|(cases hx;done)|(obtain rfl:_=x:=Option.some.inj hx;exact ⟨rfl,rfl⟩)
   refine ⟨b,h1,h2,fun hw=>h3 (by rw [←this.2];exact hw),?_⟩;rw [this.1];exact h4.symm
  |output=>
   obtain rfl:_=x:=Option.some.inj hx;cases hm
  |goroutines=>exact h.elim
  |mark mk=>
   have hb:nv mk=true:=h;cases mk <;> first|(cases hb;done)|(cases hx;done)
 ·obtain ⟨⟨loc,wr,sy⟩,h,rfl⟩:=key op ho;cases loc with
  |mark mk=>
   have hb:nv mk=true:=h;cases mk <;> first|(cases hb;done)|(constructor <;> simp [MemAct.ofEvent])
  |obj r=>cases wr <;> cases sy <;> simp [MemAct.ofEvent]
  |_=>simp [MemAct.ofEvent]
 ·obtain ⟨⟨loc,wr,sy⟩,h,rfl⟩:=key op ho;cases loc with
  |cell a=>
   obtain ⟨b,h1,h2,h3,h4⟩:=h;show a.block<B;rw [h4];exact hi b h1
  |obj r=>
   obtain ⟨b,h1,h2,h3,h4⟩:=h;have hr:r<B:=by
    rw [h4];exact hi b h1
   cases wr <;> cases sy <;> exact hr
  |output=>trivial
  |goroutines=>exact h.elim
  |mark mk=>
   have hb:nv mk=true:=h;cases mk <;> first|(cases hb;done)|trivial
theorem runT_sel (hi:gs[i]? =some (av fr T)){g2:Goroutine}{c:CommCase}{es:Array Event}(h:stepG Pr (i==0) (av fr T) w= .comm g2 #[c] false .select w1 es):
  runT Pr (crowd gs w sl) i=((communicate Pr {timers:=#[],alone:=none,slice:=sl} (gs.setIfInBounds i {(default:Goroutine) with status:= .finished}) i g2 #[c] false .select w1).1,MemOp.ofEvents i fr.fn fr.place es++ (communicate Pr {timers:=#[],alone:=none,slice:=sl} (gs.setIfInBounds i {(default:Goroutine) with status:= .finished}) i g2 #[c] false .select w1).2):=by
 obtain ⟨hlt,hget⟩:=Array.getElem?_eq_some_iff.1 hi;have hsw:=swapAt_of_lt hlt {(default:Goroutine) with status:= .finished};have hset:gs.set i {(default:Goroutine) with status:= .finished}=gs.setIfInBounds i {(default:Goroutine) with status:= .finished}:=by
  simp [Array.setIfInBounds,hlt]
 show runT Pr {world:=w,gs:=gs,rest:={timers:=#[],alone:=none,slice:=sl}} i=_;unfold runT;simp only [hsw,hget,h,GStep.es,hset];rfl
theorem mem_step (C:Ctx P fs)(hA:At P Z F π w w')(hb:Base π w.heap.size)(hok:iz P (fr::A))(hst:Still w.heap.size π (fr::A))(hi:gs[i]? =some (av (ax π fr) (A.map (ax π)++T')))
  (hc0:c0<w'.heap.size∧∀b,b<w.heap.size→¬Z b→π.to b≠c0)(hpart:∀r,r≠c0→partners (gs.setIfInBounds i {(default:Goroutine) with status:= .finished}) r true=[])
  (hs:lst P (av fr (A++ [de])) w=some (g1,w1)):
  ∃fr1 A1 π1 w1' fr1' new ops gs',g1=av fr1 (A1++ [de])∧iz P (fr1::A1)∧Adv P Z F π w w' π1 w1 w1' new∧Top P fs w1.heap.size π1 fr1 fr1'∧Still w1.heap.size π1 A1∧
   runT (aq P fs) (crowd gs w' sl) i=(.next (crowd gs' w1' sl),ops)∧gs'.size=gs.size∧gs'[i]? =some (av fr1' (A1.map (ax π1)++T'))∧
   (∀j x,j≠i→gs[j]? =some x→(∀a a',woken (aq P fs) a a' w1' x=x)→gs'[j]? =some x)∧Listed Z F i π1 w1.heap.size w1'.heap.size ops:=by
 have hlow:low (av fr (A++ [de]))=false:=by
  cases hl:low (av fr (A++ [de])) with
  |false=>rfl
  |true=>simp [lst,hl] at hs
 have hlst:lst P (av fr (A++ [de])) w=(match step P (solo (av fr (A++ [de])) w) with| .next m=>some ((m.gs[0]?).getD (av fr (A++ [de])),m.world)|_=>none):=by
  unfold lst;rw [hlow];rfl
 have hlt:i<gs.size:=(Array.getElem?_eq_some_iff.1 hi).1;have hT:=th (T:=[de]) (T':=T') C hA hb (m:=true) (m':=i==0) hok hst (aco hlow);rw [hlst] at hs;cases hg:stepG P true (av fr (A++ [de])) w with
 |go g2 w2 es=>
  rw [hg] at hT;rw [step_solo_go rfl hg] at hs;obtain ⟨rfl,rfl⟩:=Prod.mk.inj (Option.some.inj hs);obtain ⟨fr1,A1,e,hok1,π1,w1',fr1',new,he,hadv,htop,hst1⟩:=hT;refine ⟨fr1,A1,π1,w1',fr1',new,_,_,e,hok1,hadv,htop,hst1,runT_crowd_go (i:=i) hi he,by simp,by simp [hlt],fun j x hj hx hw=> ?_,xx hadv.evs hadv.at_.img _ _⟩;rw [Array.getElem?_setIfInBounds_ne (fun h=>hj h.symm),Array.getElem?_map,hx,Option.map_some,hw]
 |comm g2 ca b sh w2 es=>
  rw [hg] at hT;obtain ⟨rfl,rfl,fr1,A1,rfl,hok1,c,rfl,hsd,π1,w1',new,he,hadv,hcs,hst1⟩:=hT;rw [lv rfl hg] at hs;have hpart1:∀r,c.chan= .chan (some r)→partners #[{(default:Goroutine) with status:= .finished}] r true=[]:=fun r _=>partners_alone (c:=r) true
  obtain ⟨k1,k2⟩:=o9 (P:=P) {timers:=#[],alone:=none,slice:=none} #[{(default:Goroutine) with status:= .finished}] 0 (av fr1 (A1++ [de])) c hsd hpart1 w2;cases hsel:lf c w2 with
  |none=>
   obtain ⟨o,w3,e⟩:=k2 hsel;rw [e] at hs;cases hs
  |some x=>
   obtain ⟨v,w3⟩:=x;rw [k1 v w3 hsel] at hs;obtain ⟨hg1,rfl⟩:=Prod.mk.inj (Option.some.inj hs);have hg1':g1=av (fr1.finish v) (A1++ [de]):=by rw [←hg1];rfl
   subst hg1';obtain ⟨w3',hse,hadv2,hv⟩:=ad1 hadv.at_ hcs hsel;have hfr1:=hok1.ok fr1 List.mem_cons_self;obtain ⟨hst2,hmap⟩:=hst1.adv hadv2;have hst3:=Still.cons.1 hst2;have hsd':(gq π1 c).send=none:=by
    obtain ⟨x,y,z⟩:=c;obtain rfl:y=none:=hsd;rfl
   have hpart2:∀r,(gq π1 c).chan= .chan (some r)→partners (gs.setIfInBounds i {(default:Goroutine) with status:= .finished}) r true=[]:=fun r' hr'=>by
    refine hpart r' fun e0=> ?_
    obtain ⟨ch,y,z⟩:=c;have hch:al π1 ch= .chan (some r'):=hr';obtain ⟨r,rfl,hr2⟩:∃r,ch= .chan (some r)∧π1.to r=r':=by
     cases ch with
     |chan q=>
      cases q with
      |none=>simp [al] at hch
      |some q=>exact ⟨q,rfl,by simpa [al] using hch⟩
     |_=>simp [al] at hch
    have hch2:∃cap buf closed s rc tm,w2.heap[r]? =some (.chan cap buf closed s rc tm):=by
     simp only [lf] at hsel;cases ho:w2.heap[r]? with
     |none=>rw [ho] at hsel;cases hsel
     |some o=>
      rw [ho] at hsel;cases o <;> first|exact ⟨_,_,_,_,_,_,rfl⟩|cases hsel
    obtain ⟨cap,buf,closed,s,rc,tm,hch2⟩:=hch2;have hrlt:r<w2.heap.size:=(Array.getElem?_eq_some_iff.1 hch2).1;have hz:¬Z r:=fun hz=>by
     have:=(hadv.at_.rob π1 (aw.refl _ _)).gu r hz;rw [hch2] at this;cases this
    by_cases hr3:r<w.heap.size
    ·exact hc0.2 r hr3 hz (by rw [←hadv.agree r hr3,hr2,e0])
    ·have:=hadv.fresh r (Nat.le_of_not_lt hr3) hrlt;have:=hc0.1;omega
   have hrun:=runT_sel (Pr:=aq P fs) (sl:=sl) hi he;obtain ⟨j1,-⟩:=o9 (P:=aq P fs) {timers:=#[],alone:=none,slice:=sl} (gs.setIfInBounds i {(default:Goroutine) with status:= .finished}) i (av (ax π1 fr1) (A1.map (ax π1)++T')) (gq π1 c) hsd' hpart2 w1';have hops:=ain (P:=aq P fs) {timers:=#[],alone:=none,slice:=sl} (gs.setIfInBounds i {(default:Goroutine) with status:= .finished}) i (av (ax π1 fr1) (A1.map (ax π1)++T')) (gq π1 c) hsd' hpart2 w1';rw [j1 _ w3' hse] at hrun;generalize (communicate (aq P fs) {timers:=#[],alone:=none,slice:=sl} (gs.setIfInBounds i {(default:Goroutine) with status:= .finished}) i (av (ax π1 fr1) (A1.map (ax π1)++T')) #[gq π1 c] false .select w1').2=ops at hrun hops;have hset:(gs.setIfInBounds i {(default:Goroutine) with status:= .finished}).setIfInBounds i (av ((ax π1 fr1).finish (al π1 v)) (A1.map (ax π1)++T'))=gs.setIfInBounds i (av ((ax π1 fr1).finish (al π1 v)) (A1.map (ax π1)++T')):=by
    simp
   refine ⟨fr1.finish v,A1,π1,w3',(ax π1 fr1).finish (al π1 v),new++ #[],MemOp.ofEvents i (ax π fr).fn (ax π fr).place new++ops,gs.setIfInBounds i (av ((ax π1 fr1).finish (al π1 v)) (A1.map (ax π1)++T')),rfl,hok1.top (hfr1.finish v) (fq fr1 v).1 (fq fr1 v).2,hadv.trans hadv2,?_,hst3.2,?_,by simp,by simp [hlt],fun j x hj hx _=>by rw [Array.getElem?_setIfInBounds_ne (fun h=>hj h.symm)];exact hx,Listed.app (xx (fun e he=>(hadv.evs e he).mono hadv2.size (aw.refl _ _)) hadv2.at_.img (ax π fr).fn (ax π fr).place) ⟨fun op ho=>(hops op ho).1,fun op ho x hx=> ?_,fun op ho=>⟨(hops op ho).2.2.1,(hops op ho).2.2.2.1⟩,fun op ho=>MemAct.low_mono hadv2.qm.size (hops op ho).2.2.2.2⟩⟩
   ·left;intro π' ha;rw [l7 π1 fr1 v hfr1.qv];exact (kh hfr1 hst3.1 hv π' ha).symm
   ·rw [hrun,←hset];rfl
   ·rw [(hops op ho).2.1] at hx;cases hx
 |ended o w2 es=>
  rw [j4 rfl hg] at hs;cases hs
 |_=>
  rw [hg] at hT;exact hT.elim
end
structure Jb where
 f:FuncId
 args:Array Value
 R:Value→World→Prop
 wf:Frame
 cs:List Frame
 told:Value→Value
 ok:Value→Prop
def Quiet (Pr:Program)(g g':Goroutine):Prop:=g.status= .running∧∀w,stepG Pr false g w= .go g' w #[]
inductive QS (Pr:Program):Nat→Goroutine→Goroutine→Prop
 |zero (g:Goroutine):QS Pr 0 g g
 |succ {n:Nat}{g g1 g2:Goroutine}:Quiet Pr g g1→QS Pr n g1 g2→QS Pr (n+1) g g2
def AtSend (Pr:Program)(c:Nat)(u:Value)(g:Goroutine):Prop:=
 g.status= .running∧∃g2 z,(∀w,stepG Pr false g w= .comm g2 #[scase c u z] true .send w #[])∧∃q,QuitsD Pr q 0 (Go.Conc.served g2 undef)
structure acp (Pr:Program)(c:Nat)(J:Jb):Prop where
 back:∀v,J.ok v→∃k g1,QS Pr k (av (J.wf.finish v) J.cs) g1∧AtSend Pr c (J.told v) g1
def Ret (R:Value→World→Prop):Ending→World→Prop:=fun e w=>∃v,e= .returned v∧R v w
def afd (P:Program)(J:Jb):Goroutine:=av (Frame.enter P J.f J.args .normal) [de]
structure aeo (P:Program)(J:Jb)(m:Mem):Prop where
 ok:iz P [Frame.enter P J.f J.args .normal]
 args:∀π',aw m.w.heap.size m.π π'→az π' J.args=az m.π J.args
 same:az m.π J.args=J.args
 fin:mu (lst P) (qa P J.f (Ret J.R)) (afd P J) m.w
inductive WS where
 |pre (k:Nat)(g:Goroutine)(w:World)
 |job (g:Goroutine)(w:World)
 |post (k:Nat)
 |parked
 |gone
inductive WLt (P:Program):WS→WS→Prop
 |pre {k:Nat}{g:Goroutine}{w:World}:WLt P (.pre k g w) (.pre (k+1) g w)
 |begin {g:Goroutine}{w:World}:WLt P (.job g w) (.pre 0 g w)
 |job {g g1:Goroutine}{w w1:World}{τ:Tap}{d:Nat}:lst P g (tp w τ d)=some (g1,w1)→WLt P (.job g1 w1) (.job g w)
 |jobPost {k:Nat}{g:Goroutine}{w:World}:WLt P (.post k) (.job g w)
 |post {k:Nat}:WLt P (.post k) (.post (k+1))
 |park {k:Nat}:WLt P .parked (.post k)
 |gone {k:Nat}:WLt P .gone (.post k)
 |gone':WLt P .gone .parked
section
variable {P Pr:Program}{fs:Array Func}{Z F:Nat→Prop}{π π1:Pm}{w w' w1 w1':World}{fr:Frame}{cs:List Frame}{c:Nat}{J:Jb}{m:Mem}
theorem aav:Acc (WLt P) .gone:=⟨_,fun y h=>by cases h⟩
theorem aaj:Acc (WLt P) .parked:=⟨_,fun y h=>by cases h;exact aav⟩
theorem aad:∀k,Acc (WLt P) (.post k)
 |0=>⟨_,fun y h=>by cases h <;> first|exact aaj|exact aav⟩
 |k+1=>⟨_,fun y h=>by cases h <;> first|exact aad k|exact aaj|exact aav⟩
theorem ano {f:FuncId}{R:Ending→World→Prop}{g:Goroutine}(h:qa P f R g w):low g=true:=by
 obtain ⟨e,fr,he,rfl,-,hl,-⟩:=h;cases e with
 |outgrown=>exact absurd rfl he
 |returned v=>
  obtain ⟨h1,h2,-⟩:=hl;simp [low,av,h1,h2]
 |panicked chain=>
  obtain ⟨h1,h2,-⟩:=hl;simp [low,av,h1,h2]
theorem ajw {f:FuncId}{R:Ending→World→Prop}{g:Goroutine}(h:mu (lst P) (qa P f R) g w):Acc (WLt P) (.job g w):=by
 induction h with
 | @stop g w hs=>
  refine ⟨_,fun y hy=> ?_⟩;cases hy with
  |job hl=>
   unfold lst at hl;rw [ano hs] at hl;cases hl
  |jobPost=>exact aad _
 | @step g w nx hnx qj ih=>
  refine ⟨_,fun y hy=> ?_⟩;cases hy with
  | @job _ g1 _ w1 τ d hl=>
   rw [hnx τ d] at hl;have:=ih τ d;rw [Option.some.inj hl] at this;exact this
  |jobPost=>exact aad _
theorem akj {g:Goroutine}(h:Acc (WLt P) (.job g w)):∀k,Acc (WLt P) (.pre k g w)
 |0=>⟨_,fun y hy=>by cases hy;exact h⟩
 |k+1=>⟨_,fun y hy=>by cases hy;exact akj h k⟩
def Down {X:Type}(r:X→X→Prop)(n:Nat)(g f:Nat→X):Prop:=∃i,i≤n∧r (g i) (f i)∧∀j,j≠i→g j=f j
theorem acc_down {X:Type}{r:X→X→Prop}:∀(n:Nat)(f:Nat→X),(∀i,i≤n→Acc r (f i))→Acc (Down r n) f:=by
 intro n
 induction n with
 |zero=>
  intro f hf;have key:∀x,Acc r x→∀f:Nat→X,f 0=x→Acc (Down r 0) f:=by
   intro x hx
   induction hx with
   |intro x _ ih=>
    intro f hfx;refine ⟨_,fun g ⟨i,hi,hr,_⟩=> ?_⟩;obtain rfl:i=0:=by omega
    rw [hfx] at hr;exact ih _ hr g rfl
  exact key _ (hf 0 (Nat.le_refl _)) f rfl
 |succ n ihn=>
  have key:∀x,Acc r x→∀f:Nat→X,f (n+1)=x→(∀i,i≤n→Acc r (f i))→Acc (Down r (n+1)) f:=by
   intro x hx
   induction hx with
   |intro x _ ih=>
    have inner:∀f:Nat→X,Acc (Down r n) f→f (n+1)=x→(∀i,i≤n→Acc r (f i))→Acc (Down r (n+1)) f:=by
     intro f hacc
     induction hacc with
     |intro f _ ih2=>
      intro hfx hall;refine ⟨_,fun g ⟨i,hi,hr,he⟩=> ?_⟩
      by_cases hin:i=n+1
      ·subst hin;rw [hfx] at hr;exact ih _ hr g rfl fun j hj=>by rw [he j ai];exact hall j hj
      ·have hi':i≤n:=by omega
       refine ih2 g ⟨i,hi',hr,he⟩ (by rw [he (n+1) ai];exact hfx) fun j hj=> ?_
       by_cases hji:j=i
       ·subst hji;exact (hall j hj).inv hr
       ·rw [he j hji];exact hall j hj
    intro f hfx hall;exact inner f (ihn f hall) hfx hall
  intro f hf;exact key _ (hf (n+1) (Nat.le_refl _)) f rfl fun i hi=>hf i ai
theorem abw (C:Ctx P fs)(hA:At P Z F π w w')(hb:Base π w.heap.size)(hfr:gp P fr)(hst:∀π',aw w.heap.size π π'→ax π' fr=ax π fr){v:Value}(hl:fr.leaving P w (.returned v))(m:Bool)(x:Frame)(cs:List Frame):
  ∃π1 w1' new,stepG (aq P fs) m (av (ax π fr) (x::cs)) w'= .go (av (x.finish (al π1 v)) cs) w1' new∧Adv P Z F π w w' π1 w w1' new∧∀π2,aw w.heap.size π1 π2→al π2 v=al π1 v:=by
 obtain ⟨hm,hd,hk,fn,hf,hres⟩:=hl;have hm':(ax π fr).mode= .returning:=by simp [ax,hm,ko]
 have hd':(ax π fr).defers=[]:=by simp [ax,hd]
 have htm:∀π',aw w.heap.size π π'→az π' fr.tmps=az π fr.tmps:=fun π' ha=>(gy hst π' ha).1
 rw [lh (by rw [hm'];simp),vo hd' hm'];rw [show (ax π fr).fn=fr.fn from rfl,show (ax π fr).tmps=az π fr.tmps from rfl];show ∃π1 w1' new,(match fs[fr.fn]? with
  |none=>doReturn (aq P fs) m (ax π fr) (x::cs) none ((az π fr.tmps).getD 0 undef) w'
  |some fn=>
   let (r,es):=(Go.results fn (az π fr.tmps)).runT (aq P fs) w' #[]
   GStep.after (seen (aq P fs) fr.fn es) <|match r with
   | .ok v w=>doReturn (aq P fs) m (ax π fr) (x::cs) none v w
   | .halt (.stuck s) w=> .ended (.stuck s ((ax π fr).pos (aq P fs))) w
   | .halt _ w=> .ended (.stuck "return: the result variables cannot be read" ((ax π fr).pos (aq P fs))) w)=_∧_
 have hrs:=C.results fr.fn;rw [hf] at hrs;cases hq:fs[fr.fn]? with
 |none=>rw [hq] at hrs;cases hrs
 |some fn'=>
  rw [hq] at hrs;simp only [Option.map_some,Option.some.injEq] at hrs;simp only [aby hrs];have hS:=rh (P:=P) (P':=aq P fs) (q:=fun _=>True) (A:= .val) (Go.results fn fr.tmps) (Go.results fn (az π fr.tmps)) [] π w w' #[] (fun π' ha=>by
   rw [←htm π' ha];exact (aa.results (C.fixed hb ha) fn fr.tmps).f (fs:=fs) []) hA (fun r hr=>by cases hr) #[]
  rw [←Sem.runT_fst P _ _ #[]] at hres;rw [hres] at hS;obtain ⟨-,π1,w1',new,he,hadv,hact⟩:=hS.ok;simp only [he];have hk':(ax π fr).kind= .normal:=hk;rw [pf (.inl hk'),hk'];exact ⟨π1,w1',seen (aq P fs) fr.fn new++ #[],rfl,hadv.ya (fun e he=>by
   rw [Array.append_empty] at he;exact kv _ _ _ e he),hact⟩
inductive Sit (P:Program)(fs:Array Func)(c:Nat)(J:Jb)(m:Mem):WS→Goroutine→Prop
 |pre {k:Nat}{x:Goroutine}:QS (aq P fs) (k+1) x (av (Frame.enter (aq P fs) J.f J.args .normal) (J.wf::J.cs))→aeo P J m→Sit P fs c J m (.pre k (afd P J) m.w) x
 |job {fr fr':Frame}{A:List Frame}:iz P (fr::A)→Top P fs m.w.heap.size m.π fr fr'→Still m.w.heap.size m.π A→mu (lst P) (qa P J.f (Ret J.R)) (av fr (A++ [de])) m.w→
   Sit P fs c J m (.job (av fr (A++ [de])) m.w) (av fr' (A.map (ax m.π)++J.wf::J.cs))
 |post {k:Nat}{x g1:Goroutine}{v:Value}:QS (aq P fs) k x g1→AtSend (aq P fs) c (J.told (al m.π v)) g1→J.R v m.w→(∀π',aw m.w.heap.size m.π π'→al π' v=al m.π v)→Sit P fs c J m (.post k) x
 |parked {g2:Goroutine}{z v:Value}{q:Nat}:QuitsD (aq P fs) q 0 (Go.Conc.served g2 undef)→J.R v m.w→(∀π',aw m.w.heap.size m.π π'→al π' v=al m.π v)→Sit P fs c J m .parked (parked g2 #[scase c (J.told (al m.π v)) z] .send)
theorem aeo.acc (h:aeo P J m):Acc (WLt P) (.job (afd P J) m.w):=ajw h.fin
theorem Sit.acc {s:WS}{x:Goroutine}(h:Sit P fs c J m s x):Acc (WLt P) s:=by
 cases h with
 |pre _ hr=>exact akj hr.acc _
 |job _ _ _ hf=>exact ajw hf
 |post=>exact aad _
 |parked=>exact aaj
theorem QS.running {k:Nat}{x g:Goroutine}(h:QS Pr k x g)(hg:g.status= .running):x.status= .running:=by
 cases h with
 |zero=>exact hg
 |succ hq _=>exact hq.1
theorem Sit.status {s:WS}{x:Goroutine}(h:Sit P fs c J m s x):x.status= .running∨∃g2 u z,x=Go.Conc.parked g2 #[scase c u z] .send∧s= .parked:=by
 cases h with
 |pre hq _=>exact .inl (hq.running rfl)
 |job=>exact .inl rfl
 |post hq ha _ _=>exact .inl (hq.running ha.1)
 |parked=>exact .inr ⟨_,_,_,rfl,rfl⟩
end
end Go.Proofs.YthgpdljlehklhaaGreat.zr
namespace Go.Proofs.YthgpdljlehklhaaGreat.zr
open Go Go.Conc
open Go.ConcN (sumTo upd sumTo_upd upd_ne upd_same)
def jm (sp:Nat)(got:Nat→Option Value)(j:Nat):Prop:=j≠0∧j≤sp∧got j=none
structure gh (P:Program)(fs:Array Func)(n N0 b0 c:Nat)(wS:Bas)(J:Nat→Jb)(sp:Nat)(got:Nat→Option Value)(S:Nat→WS)(M:Nat→Mem)(q:Nat→Nat)(main:Goroutine)(gs:Array Goroutine)(w':World)(t:Trace):Prop where
 fam:Fam P n N0 c wS M w'
 tr:TrI b0 (jm sp got) M w'.heap.size t
 spn:sp≤n
 gsz:gs.size=b0+sp+1
 above:∀g,gs.size≤g→Deaf t g=0
 zero:gs[0]? =some main
 mst:main.status= .running∨∃a2 z ok,main=parked a2 #[rcase c z] (.recv ok)
 leav:∀g x,g≠0→gs[g]? =some x→(∀j,jm sp got j→g≠b0+j)→QuitsD (aq P fs) (q g) (Deaf t g) x
 wk:∀j,jm sp got j→∃x,gs[b0+j]? =some x∧Sit P fs c (J j) (M j) (S j) x
 idle:∀j,sp<j→j≤n→aeo P (J j) (M j)
 back:∀j u,j≠0→j≤sp→got j=some u→∃v,(J j).R v (M j).w∧(∀π',aw (M j).w.heap.size (M j).π π'→al π' v=al (M j).π v)∧u=(J j).told (al (M j).π v)
section
variable {P:Program}{fs:Array Func}{n N0 b0 c sp:Nat}{wS:Bas}{w' w1:World}{J:Nat→Jb}{got:Nat→Option Value}{S:Nat→WS}{M:Nat→Mem}{q:Nat→Nat}{main x:Goroutine}{gs:Array Goroutine}{t:Trace}{sl:Option (Nat×Nat)}
theorem jm.le (h:sp≤n){j:Nat}(ha:jm sp got j):j≤n∧j≠0:=⟨Nat.le_trans ha.2.1 h,ha.1⟩
theorem gh.actn (h:gh P fs n N0 b0 c wS J sp got S M q main gs w' t):∀j,jm sp got j→j≤n∧j≠0:=fun _ ha=>ha.le h.spn
theorem gh.who (h:gh P fs n N0 b0 c wS J sp got S M q main gs w' t){g:Nat}(hg:gs[g]? =some x):(g=0∧x=main)∨(∃j,jm sp got j∧g=b0+j∧Sit P fs c (J j) (M j) (S j) x)∨(g≠0∧(∀j,jm sp got j→g≠b0+j)∧QuitsD (aq P fs) (q g) (Deaf t g) x):=by
 by_cases h0:g=0
 ·subst h0;rw [h.zero] at hg;exact .inl ⟨rfl,(Option.some.inj hg).symm⟩
 ·by_cases ha:∃j,jm sp got j∧g=b0+j
  ·obtain ⟨j,ha,rfl⟩:=ha;obtain ⟨y,hy,hs⟩:=h.wk j ha;rw [hy] at hg;obtain rfl:=Option.some.inj hg;exact .inr (.inl ⟨j,ha,rfl,hs⟩)
  ·have hn:∀j,jm sp got j→g≠b0+j:=fun j hj e=>ha ⟨j,hj,e⟩
   exact .inr (.inr ⟨h0,hn,h.leav g x h0 hg hn⟩)
theorem gh.xb (h:gh P fs n N0 b0 c wS J sp got S M q main gs w' t){s r:Nat}{tm:Bool}(hc:w1.heap[c]? =some (.chan 0 #[] false s r tm)){g:Nat}(hg:gs[g]? =some x)(a a':Goroutine):woken (aq P fs) a a' w1 x=x:=by
 rcases h.who hg with ⟨_,rfl⟩|⟨j,_,_,hs⟩|⟨_,_,hq⟩
 ·rcases h.mst with hr|⟨a2,z,ok,rfl⟩
  ·exact woken_run hr
  ·exact woken_recv_open a a' hc
 ·rcases hs.status with hr|⟨g2,u,z,rfl,_⟩
  ·exact woken_run hr
  ·exact woken_send_open a a' hc
 ·exact woken_quitsD hq
theorem gh.awake (h:gh P fs n N0 b0 c wS J sp got S M q main gs w' t):∀g∈gs,awake g:=by
 intro x hx;obtain ⟨g,hg⟩:=Array.mem_iff_getElem?.1 hx;rcases h.who hg with ⟨_,rfl⟩|⟨j,_,_,hs⟩|⟨_,_,hq⟩
 ·rcases h.mst with hr|⟨a2,z,ok,rfl⟩
  ·exact awake_of (.inl hr)
  ·exact awake_of (.inr (.inl rfl))
 ·rcases hs.status with hr|⟨g2,u,z,rfl,_⟩
  ·exact awake_of (.inl hr)
  ·exact awake_of (.inr (.inl rfl))
 ·exact awake_of (hq.status.elim .inl fun y=> .inr (.inr y))
theorem gh.offers (h:gh P fs n N0 b0 c wS J sp got S M q main gs w' t){g:Nat}(hg:gs[g]? =some x):(∀r,r≠c→offersAt x r true=[])∧(g≠0∨main.status= .running→∀r,offersAt x r false=[]):=by
 rcases h.who hg with ⟨h0,rfl⟩|⟨j,_,_,hs⟩|⟨_,_,hq⟩
 ·rcases h.mst with hr|⟨a2,z,ok,rfl⟩
  ·exact ⟨fun r _=>offersAt_of_not_blocked (by rw [hr];simp) r true,fun _ r=>offersAt_of_not_blocked (by rw [hr];simp) r false⟩
  ·refine ⟨fun r _=>offersAt_parked_recv' a2 c z _ r,fun hx=> ?_⟩;rcases hx with hx|hx
   ·exact absurd h0 hx
   ·cases hx
 ·rcases hs.status with hr|⟨g2,u,z,rfl,_⟩
  ·exact ⟨fun r _=>offersAt_of_not_blocked (by rw [hr];simp) r true,fun _ r=>offersAt_of_not_blocked (by rw [hr];simp) r false⟩
  ·exact ⟨fun r hr=>by rw [offersAt_parked_send,if_neg (fun e=>hr e.symm)],fun _ r=>offersAt_parked_send' g2 c u z _ r⟩
 ·have hnb:x.status≠ .blocked:=by rcases hq.status with e|e <;> rw [e] <;> simp
  exact ⟨fun r _=>offersAt_of_not_blocked hnb r true,fun _ r=>offersAt_of_not_blocked hnb r false⟩
theorem gh.noSender (h:gh P fs n N0 b0 c wS J sp got S M q main gs w' t)(i:Nat){r:Nat}(hr:r≠c):partners (gs.setIfInBounds i ph) r true=[]:=
 partners_nil fun j g hj=>by
  rcases getElem?_stand gs i j g hj with ⟨_,rfl⟩|⟨_,hj'⟩
  ·exact offersAt_ph r true
  ·exact (h.offers hj').1 r hr
theorem gh.noRecv (h:gh P fs n N0 b0 c wS J sp got S M q main gs w' t)(hm:main.status= .running)(i r:Nat):partners (gs.setIfInBounds i ph) r false=[]:=
 partners_nil fun j g hj=>by
  rcases getElem?_stand gs i j g hj with ⟨_,rfl⟩|⟨_,hj'⟩
  ·exact offersAt_ph r false
  ·exact (h.offers hj').2 (.inr hm) r
theorem gh.at (h:gh P fs n N0 b0 c wS J sp got S M q main gs w' t)(d:Nat):gh P fs n N0 b0 c wS J sp got S M q main gs (w'.at d) t:={h with fam:=h.fam.at d,tr:=h.tr}
theorem gh.worker (h:gh P fs n N0 b0 c wS J sp got S M q main gs w' t){k:Nat}(hk:jm sp got k){m:Mem}{s:WS}{y:Goroutine}{gs1:Array Goroutine}{u:Trace}(hF:Fam P n N0 c wS (mz M k m) w1)(hT:TrI b0 (jm sp got) (mz M k m) w1.heap.size (t++u))
  (hu:∀g,g≠b0+k→Deaf (t++u) g=Deaf t g)(hsz:gs1.size=gs.size)(hy:gs1[b0+k]? =some y)(ho:∀j x,j≠b0+k→gs[j]? =some x→gs1[j]? =some x)(hS:Sit P fs c (J k) m s y):
  gh P fs n N0 b0 c wS J sp got (upd S k s) (mz M k m) q main gs1 w1 (t++u):=by
 have hb:∀j x,j≠b0+k→gs1[j]? =some x→gs[j]? =some x:=fun j x hj hx=>by
  cases hg:gs[j]? with
  |none=>
   have h1:=(Array.getElem?_eq_some_iff.1 hx).1;have h2:=Array.getElem?_eq_none_iff.1 hg;omega
  |some z=>
   have:=ho j z hj hg;rw [hx] at this;exact this.symm
 have hk0:=hk.1;refine ⟨hF,hT,h.spn,hsz.trans h.gsz,fun g hg=> ?_,ho 0 main ai h.zero,h.mst,fun g x hg0 hg hn=> ?_,fun j hj=> ?_,fun j h1 h2=> ?_,fun j u h1 h2 h3=> ?_⟩
 ·have:=h.gsz;have:=hk.2.1;rw [hu g ai];exact h.above g ai
 ·have hgk:=hn k hk;rw [hu g hgk];exact h.leav g x hg0 (hb g x hgk hg) hn
 ·by_cases hjk:j=k
  ·subst hjk;rw [gg,upd_same];exact ⟨y,hy,hS⟩
  ·obtain ⟨z,hz,hsz⟩:=h.wk j hj;rw [ia _ _ hjk,upd_ne _ _ hjk];exact ⟨z,ho _ z ai hz,hsz⟩
 ·rw [ia _ _ (by have:=hk.2.1;omega)];exact h.idle j h1 h2
 ·have:j≠k:=fun e=>by
   rw [e,hk.2.2] at h3;cases h3
  rw [ia _ _ this];exact h.back j u h1 h2 h3
theorem gh.quiet (h:gh P fs n N0 b0 c wS J sp got S M q main gs w' t){k:Nat}(hk:jm sp got k){s:WS}{x y:Goroutine}(hx:gs[b0+k]? =some x)(hq:Quiet (aq P fs) x y)(hS:Sit P fs c (J k) (M k) s y):
  ∃gs1,runT (aq P fs) (crowd gs w' sl) (b0+k)=(.next (crowd gs1 w' sl),#[])∧gh P fs n N0 b0 c wS J sp got (upd S k s) M q main gs1 w' t:=by
 have hk0:=hk.1;have hi0:(b0+k==0)=false:=by simp;omega
 have hlt:b0+k<gs.size:=(Array.getElem?_eq_some_iff.1 hx).1;have hrun:=runT_crowd_go (P:=aq P fs) (sl:=sl) (i:=b0+k) hx (by rw [hi0];exact hq.2 w');obtain ⟨s0,tm,hc⟩:=h.fam.chan;have e:mz M k (M k)=M:=by
  funext j
  unfold mz;split
  ·subst_vars;rfl
  ·rfl
 have:=h.worker (gs1:=(gs.map (woken (aq P fs) x y w')).setIfInBounds (b0+k) y) (u:=#[]) (m:=M k) (s:=s) (y:=y) (w1:=w') hk (by rw [e];exact h.fam) (by rw [e,Array.append_empty];exact h.tr) (fun g _=>by rw [Array.append_empty]) ae (by simp [hlt]) (fun j z hj hz=>by
  rw [Array.getElem?_setIfInBounds_ne (fun e=>hj e.symm),Array.getElem?_map,hz,Option.map_some,h.xb hc hz]) hS
 rw [e,Array.append_empty] at this;refine ⟨_,hrun.trans ?_,this⟩;simp [MemOp.ofEvents]
end
end Go.Proofs.YthgpdljlehklhaaGreat.zr
