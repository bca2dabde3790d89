/- Part QAG of the proof that DropRefused answers true whatever its input. No condition. -/
import Derived.Test.YthgpdljlehklhaaGreatQAF
set_option maxRecDepth 100000
namespace Go.Proofs.YthgpdljlehklhaaGreat.zr
open Go Go.Conc
open Go.ConcN (sumTo upd sumTo_upd upd_ne upd_same)
section
variable {P:Program}{fs:Array Func}{n N0 b0 c sp:Nat}{wS:Bas}{w' w1:World}{J:Nat→Jb}{got:Nat→Option Value}{S:Nat→WS}{M:Nat→Mem}{q:Nat→Nat}{main x:Goroutine}{gs:Array Goroutine}{t:Trace}{sl:Option (Nat×Nat)}
theorem ry (π:Pm)(f:FuncId)(args:Array Value)(k:CallKind):ax π (Frame.enter P f args k)=Frame.enter P f (az π args) k:=by
 simp only [ax,Frame.enter,Frame.mk.injEq,List.map_cons,List.map_nil,ez,ko,Option.map_none];refine ⟨trivial,?_,trivial,trivial,trivial,trivial,trivial⟩;rw [jl,fh π (Array.replicate _ _),Array.map_replicate];have:(az π args).size=args.size:=by rw [fh,Array.size_map]
 rw [this];rfl
theorem Top.plain {N:Nat}{π:Pm}{fr fr':Frame}(ht:Top P fs N π fr fr')(hn:∀f args k,¬Plain P fs f→fr≠Frame.enter P f args k):fr'=ax π fr:=by
 rcases ht with h|⟨f,args,k,rfl,rfl,h⟩
 ·exact h π (aw.refl _ _)
 ·by_cases hf:Plain P fs f
  ·rw [ry,hf]
  ·exact absurd rfl (hn f args k hf)
theorem aix {f:FuncId}(h:jj P f)(args:Array Value)(k:CallKind)(cs:List Frame)(w:World):lst P (av (Frame.enter P f args k) cs) w=none:=by
 obtain ⟨o,w2,e⟩:=acf h args k cs w;unfold lst;rw [e];split <;> rfl
def acw (P:Program)(fs:Array Func)(n N0 b0 c:Nat)(wS:Bas)(J:Nat→Jb)(sp:Nat)(got:Nat→Option Value)(S:Nat→WS)(M:Nat→Mem)(q:Nat→Nat)(main:Goroutine)(gs:Array Goroutine)(t:Trace)(r:Stepped×Array MemOp)(sl:Option (Nat×Nat)):Prop:=
 ∃gs1 w1 ops S1 M1 q1,r=(.next (crowd gs1 w1 sl),ops)∧M1 0=M 0∧
  ((gh P fs n N0 b0 c wS J sp got S1 M1 q1 main gs1 w1 (t++ops)∧(Down (WLt P) n S1 S∨(S1=S∧sumTo gs1.size q1<sumTo gs.size q))∧(main.status= .running∨∀j,S1 j= .parked→S j= .parked))∨
   (∃k u a2 z ok,jm sp got k∧main=parked a2 #[rcase c z] (.recv ok)∧gh P fs n N0 b0 c wS J sp (upd got k (some u)) S1 M1 q1 (Go.Conc.served a2 (recvd ok u true)) gs1 w1 (t++ops)))
theorem aaa {k:Nat}(hk:k≤n){s:WS}(h:WLt P s (S k)):Down (WLt P) n (upd S k s) S:=⟨k,hk,by rw [upd_same];exact h,fun j hj=>upd_ne _ _ hj⟩
theorem z7 {k:Nat}{s:WS}(hs:s≠ .parked):∀j,upd S k s j= .parked→S j= .parked:=fun j hj=>by
 by_cases hjk:j=k
 ·subst hjk;rw [upd_same] at hj;exact absurd hj hs
 ·rw [upd_ne _ _ hjk] at hj;exact hj
theorem gh.slip (h:gh P fs n N0 b0 c wS J sp got S M q main gs w' t){i:Nat}(hi:gs[i]? =some x)(hrun:x.status= .running)(hi0:i≠0)(hn:∀j,jm sp got j→i≠b0+j):acw P fs n N0 b0 c wS J sp got S M q main gs t (runT (aq P fs) (crowd gs w' sl) i) sl:=by
 have hq:=h.leav i x hi0 hi hn;have hi0':(i==0)=false:=by simp;omega
 have hlt:i<gs.size:=(Array.getElem?_eq_some_iff.1 hi).1;cases hqi:q i with
 |zero=>rw [hqi] at hq;rw [hq.1] at hrun;cases hrun
 |succ k=>
  rw [hqi] at hq;rcases hq with ⟨hf,_⟩|⟨_,g',es,hm,hstp,hq'⟩
  ·rw [hf] at hrun;cases hrun
  have hrunT:=runT_crowd_go (P:=aq P fs) (sl:=sl) (i:=i) hi (by rw [hi0'];exact hstp w');have hsum:sumTo gs.size (upd q i k)+ (k+1)=sumTo gs.size q+k:=by
   have:=sumTo_upd q k id hlt
   simpa [hqi] using this
  have hog:∀op∈MemOp.ofEvents i x.frame.fn x.frame.place es,op.g=i:=fun op hop=>by obtain ⟨e,_,rfl⟩:=Go.Conc.mem_ofEvents hop;rfl
  have hd:∀g,g≠i→Deaf (t++MemOp.ofEvents i x.frame.fn x.frame.place es) g=Deaf t g:=fun g hg=>Deaf_other t (fun e=>hg e.symm) _ hog
  obtain ⟨s0,tm,hc⟩:=h.fam.chan;have hget:∀j y,j≠i→((gs.map (woken (aq P fs) x g' w')).setIfInBounds i g')[j]? =some y→gs[j]? =some y:=fun j y hj hy=>by
   rw [Array.getElem?_setIfInBounds_ne (fun e=>hj e.symm),Array.getElem?_map] at hy;obtain ⟨z,hz,rfl⟩:=Option.map_eq_some_iff.1 hy;rw [h.xb hc hz];exact hz
  have hput:∀j y,j≠i→gs[j]? =some y→((gs.map (woken (aq P fs) x g' w')).setIfInBounds i g')[j]? =some y:=fun j y hj hy=>by
   rw [Array.getElem?_setIfInBounds_ne (fun e=>hj e.symm),Array.getElem?_map,hy,Option.map_some,h.xb hc hy]
  refine ⟨_,_,_,S,M,upd q i k,hrunT,rfl,.inl ⟨⟨h.fam,?_,h.spn,by simp [h.gsz],fun g hg=> ?_,hput 0 main (fun e=>hi0 e.symm) h.zero,h.mst,fun g y hg0 hg hna=> ?_,fun j hj=> ?_,h.idle,h.back⟩,.inr ⟨rfl,by simp only [Array.size_setIfInBounds,Array.size_map];omega⟩,.inr fun j hj=>hj⟩⟩
  ·refine h.tr.mute hog (fun op hop=> ?_) (fun g' hg'=>hd g' ?_) (Nat.le_refl _) fun op hop=> ?_
   ·obtain ⟨e,he,rfl⟩:=Go.Conc.mem_ofEvents hop;exact touch_mute (hm e he)
   ·rcases hg' with rfl|⟨j,hj,rfl⟩
    ·exact fun e=>hi0 e.symm
    ·rw [u6 hj.1];exact fun e=>hn j hj e.symm
   ·obtain ⟨e,he,rfl⟩:=Go.Conc.mem_ofEvents hop;exact low_mute (hm e he) _
  ·simp only [Array.size_setIfInBounds,Array.size_map] at hg;rw [hd g ai];exact h.above g hg
  ·by_cases hgi:g=i
   ·subst hgi;rw [Array.getElem?_setIfInBounds_self_of_lt (by simpa using hlt)] at hg;obtain rfl:=Option.some.inj hg;rw [upd_same,Deaf_own];exact hq'
   ·rw [upd_ne _ _ hgi,hd g hgi];exact h.leav g y hg0 (hget g y hgi hg) hna
  ·obtain ⟨y,hy,hs⟩:=h.wk j hj;exact ⟨y,hput _ y (fun e=>hn j hj e.symm) hy,hs⟩
theorem gh.jobStep (C:Ctx P fs)(hp:∀f,Plain P fs f∨jj P f)(h:gh P fs n N0 b0 c wS J sp got S M q main gs w' t){k:Nat}(hk:jm sp got k){fr fr':Frame}{A:List Frame}(hok:iz P (fr::A))(ht:Top P fs (M k).w.heap.size (M k).π fr fr')(hst:Still (M k).w.heap.size (M k).π A)
  (hx:gs[b0+k]? =some (av fr' (A.map (ax (M k).π)++ (J k).wf::(J k).cs)))(hS:S k= .job (av fr (A++ [de])) (M k).w){nx:Tap→Nat→Goroutine×World}(hnx:∀τ d,lst P (av fr (A++ [de])) (tp (M k).w τ d)=some (nx τ d))
  (qj:∀τ d,mu (lst P) (qa P (J k).f (Ret (J k).R)) (nx τ d).1 (nx τ d).2):acw P fs n N0 b0 c wS J sp got S M q main gs t (runT (aq P fs) (crowd gs w' sl) (b0+k)) sl:=by
 have hkn:=hk.le h.spn;have hk0:=hk.1;have hfr':fr'=ax (M k).π fr:=ht.plain fun f args kk hr e=>by
  have:=hnx w'.tape 0;rw [e,aix ((hp f).resolve_left hr)] at this;cases this
 subst hfr';have hA:=h.fam.at_ k hkn.1;have hls:lst P (av fr (A++ [de])) (tp (M k).w w'.tape w'.drawn)=some ((nx w'.tape w'.drawn).1,(nx w'.tape w'.drawn).2):=hnx w'.tape w'.drawn;obtain ⟨fr1,A1,π1,w1',fr1',new,ops,gs1,hg1,hok1,hadv,htop,hst1,hrun,hsz,hget,hoth,hlst⟩:=mem_step (sl:=sl) (c0:=c) C hA (h.fam.base k hkn.1) hok (Still.cons.2 ⟨ht.still,hst⟩) hx
  ⟨Nat.lt_of_lt_of_le h.fam.cN h.fam.size,fun b hb hz e=>h.fam.cz k hkn.1 ⟨b,hb,hz,e⟩⟩ (fun r hr=>h.noSender (b0+k) hr) hls
 have hF1:=h.fam.step hkn.1 hadv;obtain ⟨s0,tm,hc1⟩:=hF1.chan;have hT1:TrI b0 (jm sp got) (mz M k ((M k).on (nx w'.tape w'.drawn).2 π1)) w1'.heap.size (t++ops):=h.tr.step h.fam h.actn hkn.1 (.inr hk) hadv (fun op ho=>by rw [hlst.g op ho,u6 hk0]) (fun op ho x hx hm=>hlst.dom op ho x hx hm) hlst.still hlst.low;have hSit:Sit P fs c (J k) ((M k).on (nx w'.tape w'.drawn).2 π1) (.job (nx w'.tape w'.drawn).1 (nx w'.tape w'.drawn).2) (av fr1' (A1.map (ax π1)++ (J k).wf::(J k).cs)):=by
  have hf:=qj w'.tape w'.drawn;rw [hg1] at hf ⊢;exact .job hok1 htop hst1 hf
 have:=h.worker (gs1:=gs1) (u:=ops) hk hF1 hT1 (fun g hg=>Deaf_other t (fun e=>hg e.symm) _ hlst.g) hsz hget (fun j x hj hx=>hoth j x hj hx fun a a'=>h.xb hc1 hx a a') hSit;refine ⟨gs1,w1',ops,_,_,q,hrun,ia _ _ (fun e=>hk0 e.symm),.inl ⟨this,.inl (aaa hkn.1 (by rw [hS];exact .job (hnx w'.tape w'.drawn))),.inr (z7 ae)⟩⟩
theorem gh.jobBack (C:Ctx P fs)(hp:∀f,Plain P fs f∨jj P f)(h:gh P fs n N0 b0 c wS J sp got S M q main gs w' t){k:Nat}(hk:jm sp got k)(hJ:acp (aq P fs) c (J k))(hR:∀v w τ d,(J k).R v w→(J k).R v (tp w τ d))(hok2:∀v w π,(J k).R v w→(J k).ok (al π v)){fr fr':Frame}{A:List Frame}(hok:iz P (fr::A))(ht:Top P fs (M k).w.heap.size (M k).π fr fr')
  (hx:gs[b0+k]? =some (av fr' (A.map (ax (M k).π)++ (J k).wf::(J k).cs)))(hS:S k= .job (av fr (A++ [de])) (M k).w)(hs:qa P (J k).f (Ret (J k).R) (av fr (A++ [de])) (M k).w):acw P fs n N0 b0 c wS J sp got S M q main gs t (runT (aq P fs) (crowd gs w' sl) (b0+k)) sl:=by
 have hkn:=hk.le h.spn;have hk0:=hk.1;obtain ⟨e,frS,he,hgS,hfn,hl,⟨v,rfl,hr⟩,htm⟩:=hs;obtain ⟨hfr,hA0⟩:=jz hgS;have hA1:A=[]:=by
  have:=congrArg List.length hA0;simp at this;exact this
 subst hA1 hfr;have hfr':fr'=ax (M k).π fr:=ht.plain fun f args kk hr e=>by
  have:=hl.1;rw [e] at this;cases this
 subst hfr';have hA:=h.fam.at_ k hkn.1;have hi0:(b0+k==0)=false:=by simp;omega
 have hlt:b0+k<gs.size:=(Array.getElem?_eq_some_iff.1 hx).1;obtain ⟨π1,w1',new,hstep,hadv,hact⟩:=abw C hA (h.fam.base k hkn.1) (hok.ok _ List.mem_cons_self) ht.still (aa7 C hl htm w'.tape w'.drawn) false (J k).wf (J k).cs;have hrun:=runT_crowd_go (P:=aq P fs) (sl:=sl) (i:=b0+k) hx (by rw [hi0];exact hstep);obtain ⟨kq,g1,hqs,hsend⟩:=hJ.back (al π1 v) (hok2 _ _ _ hr);have hF1:=h.fam.step hkn.1 hadv;obtain ⟨s0,tm,hc1⟩:=hF1.chan;have hlst:Listed (M k).Z (M k).F (b0+k) π1 (M k).w.heap.size w1'.heap.size (MemOp.ofEvents (b0+k) (av (ax (M k).π fr) (List.map (ax (M k).π) []++ (J k).wf::(J k).cs)).frame.fn (av (ax (M k).π fr) (List.map (ax (M k).π) []++ (J k).wf::(J k).cs)).frame.place new):=xx hadv.evs hadv.at_.img _ _;generalize MemOp.ofEvents (b0+k) (av (ax (M k).π fr) (List.map (ax (M k).π) []++ (J k).wf::(J k).cs)).frame.fn (av (ax (M k).π fr) (List.map (ax (M k).π) []++ (J k).wf::(J k).cs)).frame.place new=ops at hrun hlst;have hT1:TrI b0 (jm sp got) (mz M k ((M k).on (tp (M k).w w'.tape w'.drawn) π1)) w1'.heap.size (t++ops):=h.tr.step h.fam h.actn hkn.1 (.inr hk) hadv (fun op ho=>by rw [hlst.g op ho,u6 hk0]) (fun op ho x hx hm=>hlst.dom op ho x hx hm) hlst.still hlst.low;have hSit:Sit P fs c (J k) ((M k).on (tp (M k).w w'.tape w'.drawn) π1) (.post kq) (av ((J k).wf.finish (al π1 v)) (J k).cs):= .post (v:=v) hqs hsend (hR _ _ _ _ hr) hact;have:=h.worker (gs1:=(gs.map (woken (aq P fs) (av (ax (M k).π fr) (List.map (ax (M k).π) []++ (J k).wf::(J k).cs)) (av ((J k).wf.finish (al π1 v)) (J k).cs) w1')).setIfInBounds (b0+k) (av ((J k).wf.finish (al π1 v)) (J k).cs)) (u:=ops) hk hF1 hT1 (fun g hg=>Deaf_other t (fun e=>hg e.symm) _ hlst.g) ae (by simp [hlt]) (fun j x hj hx=>by
  rw [Array.getElem?_setIfInBounds_ne (fun e=>hj e.symm),Array.getElem?_map,hx,Option.map_some,h.xb hc1 hx]) hSit
 exact ⟨_,w1',ops,_,_,q,hrun,ia _ _ (fun e=>hk0 e.symm),.inl ⟨this,.inl (aaa hkn.1 (by rw [hS];exact .jobPost)),.inr (z7 ae)⟩⟩
end
section
variable {P:Program}{fs:Array Func}{n N0 b0 c sp:Nat}{wS:Bas}{w' w1:World}{J:Nat→Jb}{got:Nat→Option Value}{S:Nat→WS}{M:Nat→Mem}{q:Nat→Nat}{main main' x:Goroutine}{gs gs1:Array Goroutine}{t:Trace}{sl:Option (Nat×Nat)}
theorem act_join {k:Nat}{u:Value}:(fun j=>jm sp got j∧j≠k)=jm sp (upd got k (some u)):=funext fun j=>propext ⟨fun ⟨⟨h1,h2,h3⟩,h4⟩=>⟨h1,h2,by rw [upd_ne _ _ h4];exact h3⟩,fun ⟨h1,h2,h3⟩=>by
 by_cases hjk:j=k
 ·subst hjk;rw [upd_same] at h3;cases h3
 ·rw [upd_ne _ _ hjk] at h3;exact ⟨⟨h1,h2,h3⟩,hjk⟩⟩
theorem gh.join (h:gh P fs n N0 b0 c wS J sp got S M q main gs w' t){k s:Nat}{tm:Bool}(hk:jm sp got k){v u:Value}(hr:(J k).R v (M k).w)(hv:∀π',aw (M k).w.heap.size (M k).π π'→al π' v=al (M k).π v)(hu:u=(J k).told (al (M k).π v))
  {y:Goroutine}{qk:Nat}(hq:QuitsD (aq P fs) qk 0 y)(hm':main'.status= .running)(hsz:gs1.size=gs.size)(h0:gs1[0]? =some main')(hy:gs1[b0+k]? =some y)(ho:∀j,j≠0→j≠b0+k→gs1[j]? =gs[j]?)
  {x1 x2 x3 x4:MemOp}(hx:x1.g=b0+k∧x1.act= .send c s∧x2.g=0∧x2.act= .recv c s 0∧x3.g=b0+k∧x3.act= .sendDone c s∧x4.g=0∧x4.act= .recvDone c s):
  gh P fs n N0 b0 c wS J sp (upd got k (some u)) S M (upd q (b0+k) qk) main' gs1 (w'.setChan c 0 #[] false (s+1) (s+1) tm) (t++ #[x1,x2,x3,x4]):=by
 have hk0:=hk.1;have hsw:(w'.setChan c 0 #[] false (s+1) (s+1) tm).heap.size=w'.heap.size:=by
  show (w'.heap.setIfInBounds c _).size=_;simp
 obtain ⟨hT,hD⟩:=h.tr.join h.actn hk (by rw [u6 hk0];exact hx) (Nat.lt_of_lt_of_le h.fam.cN h.fam.size);rw [act_join (u:=u)] at hT;rw [u6 hk0] at hD;have hstill:∀g,Deaf (t++ #[x1,x2,x3,x4]) g=Deaf t g:=fun g=>Go.ConcN.Deaf_still t g _ fun op hop=>by
  obtain ⟨_,a1,_,a2,_,a3,_,a4⟩:=hx;have:op=x1∨op=x2∨op=x3∨op=x4:=by simpa using hop
  rcases this with rfl|rfl|rfl|rfl
  ·rw [a1];simp
  ·rw [a2];simp
  ·rw [a3];simp
  ·rw [a4];simp
 refine ⟨h.fam.pass,by rw [hsw];exact hT,h.spn,hsz.trans h.gsz,fun g hg=>by rw [hstill g];exact h.above g ai,h0,.inl hm',fun g z hg0 hg hn=> ?_,fun j hj=> ?_,h.idle,fun j w h1 h2 h3=> ?_⟩
 ·by_cases hgk:g=b0+k
  ·subst hgk;rw [hy] at hg;obtain rfl:=Option.some.inj hg;rw [upd_same,hD];exact hq
  ·rw [upd_ne _ _ hgk,hstill g];rw [ho g hg0 hgk] at hg;refine h.leav g z hg0 hg fun j hj=> ?_
   by_cases hjk:j=k
   ·subst hjk;exact hgk
   ·exact hn j ⟨hj.1,hj.2.1,by rw [upd_ne _ _ hjk];exact hj.2.2⟩
 ·have hjk:j≠k:=fun e=>by
     have:=hj.2.2;rw [e,upd_same] at this;cases this
  have hj':jm sp got j:=⟨hj.1,hj.2.1,by have:=hj.2.2;rw [upd_ne _ _ hjk] at this;exact this⟩;obtain ⟨z,hz,hs⟩:=h.wk j hj';have:=hj.1;exact ⟨z,by rw [ho _ ai ai];exact hz,hs⟩
 ·by_cases hjk:j=k
  ·subst hjk;rw [upd_same] at h3;obtain rfl:=Option.some.inj h3;exact ⟨v,hr,hv,hu⟩
  ·rw [upd_ne _ _ hjk] at h3;exact h.back j w h1 h2 h3
theorem gh.send (h:gh P fs n N0 b0 c wS J sp got S M q main gs w' t){k:Nat}(hk:jm sp got k){v:Value}(hx:gs[b0+k]? =some x)(hS:S k= .post 0)(hs:AtSend (aq P fs) c ((J k).told (al (M k).π v)) x)(hr:(J k).R v (M k).w)(hv:∀π',aw (M k).w.heap.size (M k).π π'→al π' v=al (M k).π v):
  acw P fs n N0 b0 c wS J sp got S M q main gs t (runT (aq P fs) (crowd gs w' sl) (b0+k)) sl:=by
 have hkn:=hk.le h.spn;have hk0:=hk.1;have hi0:(b0+k==0)=false:=by simp;omega
 have hlt:b0+k<gs.size:=(Array.getElem?_eq_some_iff.1 hx).1;obtain ⟨s0,tm,hc⟩:=h.fam.chan;obtain ⟨hrun,g2,z,hst,qk,hq⟩:=hs;have hst':stepG (aq P fs) (b0+k==0) x w'= .comm g2 #[scase c ((J k).told (al (M k).π v)) z] true .send w' #[]:=by rw [hi0];exact hst w'
 rcases h.mst with hm|⟨a2,z2,ok,rfl⟩
 ·have hrunT:=crowd_waits (P:=aq P fs) (sl:=sl) hx hst' (fun cc hcc=>by
   obtain rfl:cc=_:=by simpa using hcc
   exact ways_send_none hc (Nat.zero_le _) (h.noRecv hm (b0+k) c))
  have e:mz M k (M k)=M:=by
   funext j
   unfold mz;split
   ·subst_vars;rfl
   ·rfl
  have hT:=h.worker (gs1:=gs.setIfInBounds (b0+k) (parked g2 #[scase c ((J k).told (al (M k).π v)) z] .send)) (u:=#[]) (m:=M k) (s:= .parked) (y:=parked g2 #[scase c ((J k).told (al (M k).π v)) z] .send) (w1:=w') hk (by rw [e];exact h.fam) (by rw [e,Array.append_empty];exact h.tr) (fun g _=>by rw [Array.append_empty]) ae (by simp [hlt]) (fun j y hj hy=>by
   rw [Array.getElem?_setIfInBounds_ne (fun e=>hj e.symm)];exact hy) (.parked hq hr hv)
  rw [e] at hT;refine ⟨_,w',#[],_,M,q,hrunT.trans (by simp [MemOp.ofEvents]),rfl,.inl ⟨hT,.inl (aaa hkn.1 (by rw [hS];exact .park)),.inl hm⟩⟩
 ·have hp:partners (gs.setIfInBounds (b0+k) ph) c false=[(0,0)]:=by
   have h0:(gs.setIfInBounds (b0+k) ph)[0]? =some (parked a2 #[rcase c z2] (.recv ok)):=by
    rw [Array.getElem?_setIfInBounds_ne ai];exact h.zero
   rw [partners_one h0 fun j y hj hy=> ?_,offersAt_parked_recv,if_pos rfl]
   ·rfl
   ·rcases getElem?_stand gs (b0+k) j y hy with ⟨_,rfl⟩|⟨_,hy'⟩
    ·exact offersAt_ph c false
    ·exact (h.offers hy').2 (.inl hj) c
  have hrunT:=crowd_send_meets (P:=aq P fs) (sl:=sl) hx hst' hc ai h.zero hp;rw [finishComm_recv,finishComm_send] at hrunT;have hT:=h.join (main':=Go.Conc.served a2 (recvd ok ((J k).told (al (M k).π v)) true)) (gs1:=(gs.setIfInBounds 0 (Go.Conc.served a2 (recvd ok ((J k).told (al (M k).π v)) true))).setIfInBounds (b0+k) (Go.Conc.served g2 undef)) (s:=s0) (tm:=tm) hk hr hv rfl hq rfl ae (by
      rw [Array.getElem?_setIfInBounds_ne ai];have:0<gs.size:=(Array.getElem?_eq_some_iff.1 h.zero).1;simp [this]) (by simp [hlt]) (fun j h1 h2=>by
      rw [Array.getElem?_setIfInBounds_ne (fun e=>h2 e.symm),Array.getElem?_setIfInBounds_ne (fun e=>h1 e.symm)])
   (x1:={g:=b0+k,fn:=g2.frame.fn,pos:=g2.frame.place,act:= .send c s0}) (x2:={g:=0,fn:=a2.frame.fn,pos:=a2.frame.place,act:= .recv c s0 0}) (x3:={g:=b0+k,fn:=g2.frame.fn,pos:=g2.frame.place,act:= .sendDone c s0}) (x4:={g:=0,fn:=a2.frame.fn,pos:=a2.frame.place,act:= .recvDone c s0}) ⟨rfl,rfl,rfl,rfl,rfl,rfl,rfl,rfl⟩
  refine ⟨_,_,_,S,M,upd q (b0+k) qk,hrunT,rfl,.inr ⟨k,(J k).told (al (M k).π v),a2,z2,ok,hk,rfl,?_⟩⟩;have e:MemOp.ofEvents (b0+k) x.frame.fn x.frame.place #[]=#[]:=rfl;rw [e,Array.empty_append];exact hT
theorem gh.move (C:Ctx P fs)(hp:∀f,Plain P fs f∨jj P f)(hJ:∀j,j≠0→j≤n→acp (aq P fs) c (J j))(hR:∀j v w τ d,(J j).R v w→(J j).R v (tp w τ d))(hok:∀j v w π,(J j).R v w→(J j).ok (al π v))(h:gh P fs n N0 b0 c wS J sp got S M q main gs w' t)
  {i:Nat}(hi:gs[i]? =some x)(hrun:x.status= .running)(hi0:i≠0):acw P fs n N0 b0 c wS J sp got S M q main gs t (runT (aq P fs) (crowd gs w' sl) i) sl:=by
 by_cases ha:∃j,jm sp got j∧i=b0+j
 ·obtain ⟨k,hk,rfl⟩:=ha;have hkn:=hk.le h.spn;obtain ⟨y,hy,hs⟩:=h.wk k hk;rw [hi] at hy;obtain rfl:=Option.some.inj hy;have quiet:∀{s:WS}{y:Goroutine},Quiet (aq P fs) x y→Sit P fs c (J k) (M k) s y→WLt P s (S k)→s≠ .parked→acw P fs n N0 b0 c wS J sp got S M q main gs t (runT (aq P fs) (crowd gs w' sl) (b0+k)) sl:=fun hq hs hlt hne=>by
   obtain ⟨gs1,hr,hT⟩:=h.quiet (sl:=sl) hk hi hq hs;exact ⟨gs1,w',#[],_,M,q,hr,rfl,.inl ⟨by rw [Array.append_empty];exact hT,.inl (aaa hkn.1 hlt),.inr (z7 hne)⟩⟩
  generalize hsk:S k=s at hs;cases hs with
  | @pre m _ hq hr=>
   cases hq with
   |succ hq1 hq2=>
    cases m with
    |zero=>
     cases hq2;refine quiet hq1 (s:= .job (afd P (J k)) (M k).w) ?_ (by rw [hsk];exact .begin) ae;exact Sit.job (A:=[]) hr.ok (.inr ⟨_,_,_,rfl,by rw [hr.same],hr.args⟩) (fun _ _=>rfl) hr.fin
    |succ m=>exact quiet hq1 (.pre hq2 hr) (by rw [hsk];exact .pre) ae
  | @job fr fr' A hok2 htop hst hf=>
   cases hf with
   |stop hs=>exact h.jobBack C hp hk (hJ k hkn.2 hkn.1) (hR k) (hok k) hok2 htop hi hsk hs
   |step nx hnx qj=>exact h.jobStep C hp hk hok2 htop hst hi hsk hnx qj
  | @post m _ g1 v hq hs hr hv=>
   cases hq with
   |zero=>exact h.send hk hi hsk hs hr hv
   |succ hq1 hq2=>exact quiet hq1 (.post hq2 hs hr hv) (by rw [hsk];exact .post) ae
  |parked hq hr hv=>cases hrun
 ·exact h.slip hi hrun hi0 fun j hj e=>ha ⟨j,hj,e⟩
theorem gh.norm (h:gh P fs n N0 b0 c wS J sp got S M q main gs w' t):∃S',gh P fs n N0 b0 c wS J sp got S' M q main gs w' t∧Acc (Down (WLt P) n) S'∧∀j,S' j= .parked→jm sp got j∧S j= .parked:=by
 classical
 refine ⟨fun j=>if jm sp got j then S j else .gone,{h with wk:=fun j hj=> ?_},acc_down n _ fun j hj=> ?_,fun j hj=> ?_⟩
 ·obtain ⟨y,hy,hs⟩:=h.wk j hj;exact ⟨y,hy,by rw [if_pos hj];exact hs⟩
 ·by_cases ha:jm sp got j
  ·obtain ⟨y,hy,hs⟩:=h.wk j ha;simp only [if_pos ha];exact hs.acc
  ·simp only [if_neg ha];exact aav
 ·by_cases ha:jm sp got j
  ·simp only [if_pos ha] at hj;exact ⟨ha,hj⟩
  ·simp only [if_neg ha] at hj;cases hj
theorem gh.afc (C:Ctx P fs)(hp:∀f,Plain P fs f∨jj P f)(hJ:∀j,j≠0→j≤n→acp (aq P fs) c (J j))(hR:∀j v w τ d,(J j).R v w→(J j).R v (tp w τ d))(hok:∀j v w π,(J j).R v w→(J j).ok (al π v))(hm:main.status= .running)
  (h:gh P fs n N0 b0 c wS J sp got S M q main gs w' t):∃N S' M' q' gs' w'' sl' t' d sl'',runNT (aq P fs) N (crowd gs w' sl) t=(.next (crowd gs' w'' sl'),t')∧gh P fs n N0 b0 c wS J sp got S' M' q' main gs' w'' t'∧M' 0=M 0∧
   stepT (aq P fs) (crowd gs' w'' sl')=runT (aq P fs) (crowd gs' (w''.at d) sl'') 0:=by
 obtain ⟨S0,hT0,hacc,-⟩:=h.norm;clear h
 induction hacc generalizing M q gs w' sl t with
 |intro S1 _ ih=>
  have inner:∀(K:Nat)(q:Nat→Nat)(gs:Array Goroutine)(w':World)(sl:Option (Nat×Nat))(t:Trace)(M:Nat→Mem),sumTo gs.size q≤K→gh P fs n N0 b0 c wS J sp got S1 M q main gs w' t→∃N S' M' q' gs' w'' sl' t' d sl'',runNT (aq P fs) N (crowd gs w' sl) t=(.next (crowd gs' w'' sl'),t')∧gh P fs n N0 b0 c wS J sp got S' M' q' main gs' w'' t'∧M' 0=M 0∧
    stepT (aq P fs) (crowd gs' w'' sl')=runT (aq P fs) (crowd gs' (w''.at d) sl'') 0:=by
   intro K
   induction K with
   |zero=>
    intro q gs w' sl t M hK hT;obtain ⟨i,g,d,sl1,hi,hg,hst⟩:=crowd_pick (P:=aq P fs) (w:=w') (sl:=sl) hT.awake ⟨0,main,hT.zero,hm⟩;rcases Nat.eq_zero_or_pos i with rfl|hpos
    ·exact ⟨0,S1,M,q,gs,w',sl,t,d,sl1,rfl,hT,rfl,hst⟩
    ·obtain ⟨gs1,w1,ops,S2,M2,q2,hr,hM2,hcase⟩:=(hT.at d).move (sl:=sl1) C hp hJ hR hok hi hg ai;rcases hcase with ⟨hT2,hdown,-⟩|⟨k,u,a2,z,ok,_,rfl,_⟩
     ·rcases hdown with hdown|⟨_,hlt⟩
      ·obtain ⟨N,S',M',q',gs',w'',sl',t',d',sl'',h1,h2,h3,h4⟩:=ih S2 hdown hT2 (sl:=sl1);refine ⟨N+1,S',M',q',gs',w'',sl',t',d',sl'',?_,h2,h3.trans hM2,h4⟩;simp only [runNT,hst,hr];exact h1
      ·omega
     ·cases hm
   |succ K ihK=>
    intro q gs w' sl t M hK hT;obtain ⟨i,g,d,sl1,hi,hg,hst⟩:=crowd_pick (P:=aq P fs) (w:=w') (sl:=sl) hT.awake ⟨0,main,hT.zero,hm⟩;rcases Nat.eq_zero_or_pos i with rfl|hpos
    ·exact ⟨0,S1,M,q,gs,w',sl,t,d,sl1,rfl,hT,rfl,hst⟩
    ·obtain ⟨gs1,w1,ops,S2,M2,q2,hr,hM2,hcase⟩:=(hT.at d).move (sl:=sl1) C hp hJ hR hok hi hg ai;rcases hcase with ⟨hT2,hdown,-⟩|⟨k,u,a2,z,ok,_,rfl,_⟩
     ·rcases hdown with hdown|⟨rfl,hlt⟩
      ·obtain ⟨N,S',M',q',gs',w'',sl',t',d',sl'',h1,h2,h3,h4⟩:=ih S2 hdown hT2 (sl:=sl1);refine ⟨N+1,S',M',q',gs',w'',sl',t',d',sl'',?_,h2,h3.trans hM2,h4⟩;simp only [runNT,hst,hr];exact h1
      ·obtain ⟨N,S',M',q',gs',w'',sl',t',d',sl'',h1,h2,h3,h4⟩:=ihK q2 gs1 w1 sl1 (t++ops) M2 ai hT2;refine ⟨N+1,S',M',q',gs',w'',sl',t',d',sl'',?_,h2,h3.trans hM2,h4⟩;simp only [runNT,hst,hr];exact h1
     ·cases hm
  exact inner _ q gs w' sl t M (Nat.le_refl _) hT0
theorem gh.wait (C:Ctx P fs)(hp:∀f,Plain P fs f∨jj P f)(hJ:∀j,j≠0→j≤n→acp (aq P fs) c (J j))(hR:∀j v w τ d,(J j).R v w→(J j).R v (tp w τ d))(hok:∀j v w π,(J j).R v w→(J j).ok (al π v)){a2:Goroutine}{z:Value}{ok:Bool}(hex:∃k,jm sp got k)
  (h:gh P fs n N0 b0 c wS J sp got S M q (parked a2 #[rcase c z] (.recv ok)) gs w' t)(hnp:∀j,jm sp got j→S j≠ .parked):
  ∃N k u S' M' q' gs' w'' sl' t',runNT (aq P fs) N (crowd gs w' sl) t=(.next (crowd gs' w'' sl'),t')∧jm sp got k∧gh P fs n N0 b0 c wS J sp (upd got k (some u)) S' M' q' (Go.Conc.served a2 (recvd ok u true)) gs' w'' t'∧M' 0=M 0:=by
 obtain ⟨S0,hT0,hacc,hnp0⟩:=h.norm
 replace hnp0:∀j,S0 j≠ .parked:=fun j hj=>hnp j (hnp0 j hj).1 (hnp0 j hj).2
 clear h hnp;obtain ⟨k0,hk0⟩:=hex
 induction hacc generalizing M q gs w' sl t with
 |intro S1 _ ih=>
  have inner:∀(K:Nat)(q:Nat→Nat)(gs:Array Goroutine)(w':World)(sl:Option (Nat×Nat))(t:Trace)(M:Nat→Mem),sumTo gs.size q≤K→gh P fs n N0 b0 c wS J sp got S1 M q (parked a2 #[rcase c z] (.recv ok)) gs w' t→
    ∃N k u S' M' q' gs' w'' sl' t',runNT (aq P fs) N (crowd gs w' sl) t=(.next (crowd gs' w'' sl'),t')∧jm sp got k∧gh P fs n N0 b0 c wS J sp (upd got k (some u)) S' M' q' (Go.Conc.served a2 (recvd ok u true)) gs' w'' t'∧M' 0=M 0:=by
   intro K
   induction K with
   |zero=>
    intro q gs w' sl t M hK hT;have hsome:∃(i:Nat)(g:Goroutine),gs[i]? =some g∧g.status= .running:=by
     obtain ⟨y,hy,hs⟩:=hT.wk k0 hk0;exact ⟨_,y,hy,hs.status.resolve_right fun ⟨_,_,_,_,e⟩=>hnp0 k0 e⟩
    obtain ⟨i,g,d,sl1,hi,hg,hst⟩:=crowd_pick (P:=aq P fs) (w:=w') (sl:=sl) hT.awake hsome;have hi0:i≠0:=fun e=>by
     rw [e,hT.zero] at hi;obtain rfl:=Option.some.inj hi;cases hg
    obtain ⟨gs1,w1,ops,S2,M2,q2,hr,hM2,hcase⟩:=(hT.at d).move (sl:=sl1) C hp hJ hR hok hi hg hi0;rcases hcase with ⟨hT2,hdown,hpk⟩|⟨k,u,a3,z3,ok3,hk,he,hT2⟩
    ·rcases hdown with hdown|⟨_,hlt⟩
     ·have hpk2:=hpk.resolve_left (by simp [parked]);obtain ⟨N,k,u,S',M',q',gs',w'',sl',t',h1,h2,h3,h4⟩:=ih S2 hdown hT2 (fun j hj=>hnp0 j (hpk2 j hj)) (sl:=sl1);refine ⟨N+1,k,u,S',M',q',gs',w'',sl',t',?_,h2,h3,h4.trans hM2⟩;simp only [runNT,hst,hr];exact h1
     ·omega
    ·refine ⟨1,k,u,S2,M2,q2,gs1,w1,sl1,t++ops,by simp only [runNT,hst,hr],hk,?_,hM2⟩;have e1:Go.Conc.served a2 (recvd ok u true)=Go.Conc.served a3 (recvd ok3 u true):=by
      simp only [parked,Goroutine.mk.injEq,Option.some.injEq,Prod.mk.injEq,CommShape.recv.injEq] at he;obtain ⟨q1,q2,-,q3,-,q4⟩:=he;simp only [Go.Conc.served,q1,q2,q3,q4]
     rw [e1];exact hT2
   |succ K ihK=>
    intro q gs w' sl t M hK hT;have hsome:∃(i:Nat)(g:Goroutine),gs[i]? =some g∧g.status= .running:=by
     obtain ⟨y,hy,hs⟩:=hT.wk k0 hk0;exact ⟨_,y,hy,hs.status.resolve_right fun ⟨_,_,_,_,e⟩=>hnp0 k0 e⟩
    obtain ⟨i,g,d,sl1,hi,hg,hst⟩:=crowd_pick (P:=aq P fs) (w:=w') (sl:=sl) hT.awake hsome;have hi0:i≠0:=fun e=>by
     rw [e,hT.zero] at hi;obtain rfl:=Option.some.inj hi;cases hg
    obtain ⟨gs1,w1,ops,S2,M2,q2,hr,hM2,hcase⟩:=(hT.at d).move (sl:=sl1) C hp hJ hR hok hi hg hi0;rcases hcase with ⟨hT2,hdown,hpk⟩|⟨k,u,a3,z3,ok3,hk,he,hT2⟩
    ·have hpk2:=hpk.resolve_left (by simp [parked]);rcases hdown with hdown|⟨rfl,hlt⟩
     ·obtain ⟨N,k,u,S',M',q',gs',w'',sl',t',h1,h2,h3,h4⟩:=ih S2 hdown hT2 (fun j hj=>hnp0 j (hpk2 j hj)) (sl:=sl1);refine ⟨N+1,k,u,S',M',q',gs',w'',sl',t',?_,h2,h3,h4.trans hM2⟩;simp only [runNT,hst,hr];exact h1
     ·obtain ⟨N,k,u,S',M',q',gs',w'',sl',t',h1,h2,h3,h4⟩:=ihK q2 gs1 w1 sl1 (t++ops) M2 ai hT2;refine ⟨N+1,k,u,S',M',q',gs',w'',sl',t',?_,h2,h3,h4.trans hM2⟩;simp only [runNT,hst,hr];exact h1
    ·refine ⟨1,k,u,S2,M2,q2,gs1,w1,sl1,t++ops,by simp only [runNT,hst,hr],hk,?_,hM2⟩;have e1:Go.Conc.served a2 (recvd ok u true)=Go.Conc.served a3 (recvd ok3 u true):=by
      simp only [parked,Goroutine.mk.injEq,Option.some.injEq,Prod.mk.injEq,CommShape.recv.injEq] at he;obtain ⟨q1,q2,-,q3,-,q4⟩:=he;simp only [Go.Conc.served,q1,q2,q3,q4]
     rw [e1];exact hT2
  exact inner _ q gs w' sl t M (Nat.le_refl _) hT0
end
structure Ph where
 n:Nat
 N0:Nat
 b0:Nat
 c:Nat
 wS:Bas
 J:Nat→Jb
 b:Frame
 CS:List Frame
structure Sg where
 sp:Nat
 gv:Nat→Option Value
structure js (P:Program)(fs:Array Func)(X:Ph):Prop where
 ctx:Ctx P fs
 hp:∀f,Plain P fs f∨jj P f
 kind:X.b.kind= .normal
 jobs:∀j,j≠0→j≤X.n→acp (aq P fs) X.c (X.J j)
 blind:∀j v w τ d,(X.J j).R v w→(X.J j).R v (tp w τ d)
 told:∀j π v,al π ((X.J j).told v)=(X.J j).told (al π v)
 inj:∀j v v',(X.J j).ok v→(X.J j).ok v'→(X.J j).told v=(X.J j).told v'→v=v'
 okR:∀j v w,(X.J j).R v w→(X.J j).ok v
 okRen:∀j π v,(X.J j).ok v→(X.J j).ok (al π v)
def Sg.got (X:Ph)(σ:Sg)(π:Pm):Nat→Option Value:=fun j=>(σ.gv j).map fun v=>(X.J j).told (al π v)
def dw (π:Pm)(a:Act):Act:={tmps:=az π a.tmps,defers:=a.defers}
def ClA (N:Nat)(π:Pm)(a:Act):Prop:=∀π',aw N π π'→az π' a.tmps=az π a.tmps
def ClV (N:Nat)(π:Pm)(v:Value):Prop:=∀π',aw N π π'→al π' v=al π v
def TAt (P:Program)(fs:Array Func)(X:Ph)(σ:Sg)(a:Act)(todo:List Item)(w:World)(gs:Array Goroutine)(w':World)(t:Trace):Prop:=
 ∃S M q,gh P fs X.n X.N0 X.b0 X.c X.wS X.J σ.sp (σ.got X (M 0).π) S M q (av (X.b.at (dw (M 0).π a) todo) X.CS) gs w' t∧
  (∃τ d,(M 0).w=tp w τ d)∧ClA w.heap.size (M 0).π a∧∀j v,σ.gv j=some v→ClV w.heap.size (M 0).π v∧(X.J j).ok v
def bc (P:Program)(fs:Array Func)(X:Ph)(Q:Sg→Act→List Item→World→Prop)(σ:Sg)(a:Act)(todo:List Item)(w:World):Prop:=
 ∀gs w' sl t,TAt P fs X σ a todo w gs w' t→∃N gs2 w2' sl2 t2 σ2 a2 todo2 w2,runNT (aq P fs) N (crowd gs w' sl) t=(.next (crowd gs2 w2' sl2),t2)∧TAt P fs X σ2 a2 todo2 w2 gs2 w2' t2∧Q σ2 a2 todo2 w2
section
variable {P:Program}{fs:Array Func}{n N0 b0 c sp:Nat}{wS:Bas}{w w' w1:World}{J:Nat→Jb}{got:Nat→Option Value}{S:Nat→WS}{M:Nat→Mem}{q:Nat→Nat}{main main1 x:Goroutine}{gs gs1:Array Goroutine}{t u:Trace}{sl:Option (Nat×Nat)}
 {X:Ph}{σ:Sg}{a:Act}{todo todo1 k:List Item}{Q Q':Sg→Act→List Item→World→Prop}{ops:Array Oper}{i:Nat}{rest:List Nat}{o:Oper}{π π1:Pm}{v:Value}
theorem gh.akk (h:gh P fs n N0 b0 c wS J sp got S M q main gs w' t){m:Mem}(hF:Fam P n N0 c wS (mz M 0 m) w1)(hT:TrI b0 (jm sp got) (mz M 0 m) w1.heap.size (t++u))(hu:∀g,g≠0→Deaf (t++u) g=Deaf t g)(hsz:gs1.size=gs.size)(h0:gs1[0]? =some main1)(hm:main1.status= .running)
  (ho:∀j x,j≠0→gs[j]? =some x→gs1[j]? =some x):gh P fs n N0 b0 c wS J sp got S (mz M 0 m) q main1 gs1 w1 (t++u):=by
 have hb:∀j x,j≠0→gs1[j]? =some x→gs[j]? =some x:=fun j x hj hx=>by
  cases hg:gs[j]? with
  |none=>
   have h1:=(Array.getElem?_eq_some_iff.1 hx).1;have h2:=Array.getElem?_eq_none_iff.1 hg;omega
  |some z=>
   have:=ho j z hj hg;rw [hx] at this;exact this.symm
 refine ⟨hF,hT,h.spn,hsz.trans h.gsz,fun g hg=> ?_,h0,.inl hm,fun g x hg0 hg hn=> ?_,fun j hj=> ?_,fun j h1 h2=> ?_,fun j u h1 h2 h3=> ?_⟩
 ·have:=h.gsz;rw [hu g ai];exact h.above g ai
 ·rw [hu g hg0];exact h.leav g x hg0 (hb g x hg0 hg) hn
 ·obtain ⟨z,hz,hs⟩:=h.wk j hj;rw [ia _ _ hj.1];exact ⟨z,ho _ z (by have:=hj.1;omega) hz,hs⟩
 ·rw [ia _ _ ai];exact h.idle j h1 h2
 ·rw [ia _ _ h1];exact h.back j u h1 h2 h3
theorem bc.done (h:Q σ a todo w):bc P fs X Q σ a todo w:=fun gs w' sl t hT=>⟨0,gs,w',sl,t,σ,a,todo,w,rfl,hT,h⟩
theorem TAt.tp (h:TAt P fs X σ a todo w gs w' t)(τ:Tap)(d:Nat):TAt P fs X σ a todo (zr.tp w τ d) gs w' t:=by
 obtain ⟨S,M,q,h1,⟨τ1,d1,h2⟩,h3⟩:=h;exact ⟨S,M,q,h1,⟨τ1,d1,h2⟩,h3⟩
theorem bc.tp (h:bc P fs X Q σ a todo w)(τ:Tap)(d:Nat):bc P fs X Q σ a todo (zr.tp w τ d):=fun gs w' sl t hT=>h gs w' sl t (by
 have:=hT.tp w.tape w.drawn;exact this)
theorem bc.ac3 (K:js P fs X)(h:∀gs w' sl t,TAt P fs X σ a todo w gs w' t→∃m1 ops,runT (aq P fs) (crowd gs w' sl) 0=(.next m1,ops)∧∃N gs1 w1' sl1 t1 σ1 a1 todo1 w1,runNT (aq P fs) N m1 (t++ops)=(.next (crowd gs1 w1' sl1),t1)∧TAt P fs X σ1 a1 todo1 w1 gs1 w1' t1∧bc P fs X Q σ1 a1 todo1 w1):bc P fs X Q σ a todo w:=by
 intro gs w' sl t hT;obtain ⟨S,M,q,hT,hw,hca,hgv⟩:=hT;obtain ⟨N,S',M',q',gs',w'',sl',t',d,sl'',hr,hT',hM,hstep⟩:=hT.afc (sl:=sl) K.ctx K.hp K.jobs K.blind (fun j v w π h=>K.okRen j π v (K.okR j v w h)) rfl;obtain ⟨m1,ops,hrun,N1,gs1,w1',sl1,t1,σ1,a1,todo1,w1,hr1,hT1,hk⟩:=h gs' (w''.at d) sl'' t' ⟨S',M',q',by rw [hM];exact hT'.at d,by rw [hM];exact hw,by rw [hM];exact hca,by rw [hM];exact hgv⟩;obtain ⟨N2,gs2,w2',sl2,t2,σ2,a2,todo2,w2,hr2,hT2,hq⟩:=hk gs1 w1' sl1 t1 hT1;refine ⟨N+ (1+ (N1+N2)),gs2,w2',sl2,t2,σ2,a2,todo2,w2,?_,hT2,hq⟩;rw [l8 _ N _ _ _ hr,Nat.add_comm 1 (N1+N2)];simp only [runNT,hstep,hrun];rw [l8 _ N1 N2 _ _ hr1];exact hr2
theorem afk (M:Nat→Mem)(k:Nat):mz M k (M k)=M:=by
 funext j
 unfold mz;split
 ·subst_vars;rfl
 ·rfl
theorem bc.ctl (K:js P fs X)(hs:∀π u,stepG (aq P fs) true (av (X.b.at (dw π a) todo) X.CS) u= .go (av (X.b.at (dw π a) todo1) X.CS) u #[])(hk:bc P fs X Q σ a todo1 w):bc P fs X Q σ a todo w:=by
 refine bc.ac3 K fun gs w' sl t ⟨S,M,q,hT,hw,hca,hgv⟩=> ?_
 have hrun:=runT_crowd_go (P:=aq P fs) (sl:=sl) (i:=0) hT.zero (hs (M 0).π w');obtain ⟨s0,tm,hc⟩:=hT.fam.chan;have hlt:0<gs.size:=(Array.getElem?_eq_some_iff.1 hT.zero).1;have hT2:=hT.akk (m:=M 0) (u:=#[]) (w1:=w') (main1:=av (X.b.at (dw (M 0).π a) todo1) X.CS) (gs1:=(gs.map (woken (aq P fs) (av (X.b.at (dw (M 0).π a) todo) X.CS) (av (X.b.at (dw (M 0).π a) todo1) X.CS) w')).setIfInBounds 0 (av (X.b.at (dw (M 0).π a) todo1) X.CS))
  (by rw [afk];exact hT.fam) (by rw [afk,Array.append_empty];exact hT.tr) (fun g _=>by rw [Array.append_empty]) ae (by simp [hlt]) rfl (fun j x hj hx=>by
   rw [Array.getElem?_setIfInBounds_ne (fun e=>hj e.symm),Array.getElem?_map,hx,Option.map_some,hT.xb hc hx])
 rw [afk] at hT2;exact ⟨_,_,hrun,0,_,w',sl,_,σ,a,todo1,w,rfl,⟨S,M,q,hT2,hw,hca,hgv⟩,hk⟩
theorem pw (π:Pm)(a:Act):Rho π (dw π a).eval a.eval:=by
 intro o ho;cases o with
 |tmp t=>exact sj a.tmps t
 |const v=>exact (vn π v ho).symm
 |global g=>simp [fv] at ho
 |func f=>rfl
theorem z8 (π:Pm)(a:Act)(d:Option Tmp)(v:Value):dw π (a.put d v)=(dw π a).put d (al π v):=by
 cases d with
 |none=>rfl
 |some d=>simp only [dw,Act.put,sk]
theorem ClA.put {N:Nat}(h:ClA N π a)(hv:ClV N π v)(d:Option Tmp):ClA N π (a.put d v):=fun π' ha=>by
 cases d with
 |none=>exact h π' ha
 |some d=>
  show az π' (a.tmps.setIfInBounds d v)=az π (a.tmps.setIfInBounds d v);rw [sk,sk,h π' ha,hv π' ha]
theorem ClA.on {N N1:Nat}(h:ClA N π a)(ha:aw N π π1)(hn:N≤N1):ClA N1 π1 a∧dw π1 a=dw π a:=⟨fun π' h'=>by rw [h π1 ha,h π' (ha.trans (h'.mono hn))],by simp only [dw,h π1 ha]⟩
theorem ClV.on {N N1:Nat}(h:ClV N π v)(ha:aw N π π1)(hn:N≤N1):ClV N1 π1 v∧al π1 v=al π v:=⟨fun π' h'=>by rw [h π1 ha,h π' (ha.trans (h'.mono hn))],h π1 ha⟩
theorem bc.op (K:js P fs X)(ho:ops[i]? =some o)(hok:tn P o=true)(hnd:∀c,o.op≠ .defer c)(hw:Region.wanted o (yielded ops a.tmps)=true)
  (h:∀τ d,∃x v w1,(x= .value v∨x= .skip∧v=undef)∧(execOp a.eval o).run P (zr.tp w τ d)= .ok x w1∧bc P fs X Q σ (a.put o.dst v) (.inRegion ops rest::k) w1):bc P fs X Q σ a (.inRegion ops (i::rest)::k) w:=by
 refine bc.ac3 K fun gs w' sl t ⟨S,M,q,hT,⟨τ0,d0,hwm⟩,hca,hgv⟩=> ?_
 have hA:=hT.fam.at_ 0 (Nat.zero_le _);have hb:=hT.fam.base 0 (Nat.zero_le _);rw [hwm] at hA hb;have hA:At P (M 0).Z (M 0).F (M 0).π (zr.tp w w'.tape w'.drawn) w':=hA;obtain ⟨x,v,w1,hxv,hrun0,hk⟩:=h w'.tape w'.drawn;obtain ⟨es,hx⟩:=zv hrun0;have hS:=rh (P:=P) (P':=aq P fs) (q:=en P) (A:= .next) (execOp a.eval o) (execOp (dw (M 0).π a).eval o) [] (M 0).π (zr.tp w w'.tape w'.drawn) w' #[] (fun π' ha=>by
  have e:(dw (M 0).π a).eval=(dw π' a).eval:=by
   have:=hca π' ha;unfold dw;rw [this]
  rw [e];exact bp.execOp (fs:=fs) (K.ctx.fixed hb ha) K.ctx.globals K.ctx.alike (pw π' a) (fun _ _=>rfl) o hok hnd []) hA (fun r hr=>by cases hr) #[]
 rw [hx] at hS;obtain ⟨-,π1,w1',new,he,hadv,hact⟩:=hS.ok;have hv:ClV w1.heap.size π1 v:=fun π2 h2=>by
  rcases hxv with rfl|⟨rfl,rfl⟩
  ·have:=hact π2 h2;have:Next.value (al π2 v)=Next.value (al π1 v):=this;exact Next.value.inj this
  ·rfl
 have hke:((X.b.at (dw (M 0).π a) (.inRegion ops (i::rest)::k)).kind==CallKind.early)=false:=by
  show (X.b.kind==CallKind.early)=false;rw [K.kind];rfl
 have happ:stepG.apply (aq P fs) true (X.b.at (dw (M 0).π a) (.inRegion ops (i::rest)::k)) X.CS none (execOp (dw (M 0).π a).eval o) w'= .go (av ((X.b.at (dw (M 0).π a) (.inRegion ops (i::rest)::k)).finish (al π1 v)) X.CS) w1' (seen (aq P fs) X.b.fn new++ #[]):=by
  rcases hxv with rfl|⟨rfl,rfl⟩
  ·exact nc (show _=(Result.ok (Next.value (al π1 v)) w1',new) from he) hke
  ·exact rk (show _=(Result.ok Next.skip w1',new) from he) hke
 have hst:=(m9 (P:=aq P fs) (b:=X.b) (a:=dw (M 0).π a) (cs:=X.CS) (rest:=rest) (k:=k) (u:=w') K.kind ho (by
  show Region.wanted o (yielded ops (az (M 0).π a.tmps))=true;rw [vk];exact hw)).trans happ
 rw [Frame.finish_at,ho] at hst;have hsz:w.heap.size≤w1.heap.size:=hadv.size;obtain ⟨hca1,hare⟩:=ClA.on hca hadv.agree hsz;have hput:(dw (M 0).π a).put ((some o).bind (·.dst)) (al π1 v)=dw π1 (a.put o.dst v):=by rw [z8,hare];rfl
 rw [hput] at hst;have hadv':Adv P (M 0).Z (M 0).F (M 0).π (zr.tp (M 0).w w'.tape w'.drawn) w' π1 w1 w1' (seen (aq P fs) X.b.fn new++ #[]):=by
  rw [hwm];exact hadv.ya (fun e he=>by
   rw [Array.append_empty] at he;exact kv _ _ _ e he)
 have hF1:=hT.fam.step (Nat.zero_le _) hadv';obtain ⟨s0,tm,hc1⟩:=hF1.chan;have hrunT:=runT_crowd_go (P:=aq P fs) (sl:=sl) (i:=0) hT.zero hst;have hlst:Listed (M 0).Z (M 0).F 0 π1 w1.heap.size w1'.heap.size (MemOp.ofEvents 0 X.b.fn (X.b.at (dw (M 0).π a) (.inRegion ops (i::rest)::k)).place (seen (aq P fs) X.b.fn new++ #[])):=xx hadv'.evs hadv'.at_.img _ _;have hlt:0<gs.size:=(Array.getElem?_eq_some_iff.1 hT.zero).1;have hT1:=hT.tr.step hT.fam hT.actn (Nat.zero_le _) (.inl rfl) hadv' (fun op ho=>by rw [hlst.g op ho,gid_zero]) (fun op ho x hx hm=>hlst.dom op ho x hx hm) hlst.still hlst.low;have hT2:=hT.akk (gs1:=(gs.map (woken (aq P fs) (av (X.b.at (dw (M 0).π a) (.inRegion ops (i::rest)::k)) X.CS) (av (X.b.at (dw π1 (a.put o.dst v)) (.inRegion ops rest::k)) X.CS) w1')).setIfInBounds 0 (av (X.b.at (dw π1 (a.put o.dst v)) (.inRegion ops rest::k)) X.CS)) hF1 hT1 (fun g hg=>Deaf_other t (fun e=>hg e.symm) _ hlst.g) ae (by simp [hlt];rfl) rfl (fun j x hj hx=>by
  rw [Array.getElem?_setIfInBounds_ne (fun e=>hj e.symm),Array.getElem?_map,hx,Option.map_some,hT.xb hc1 hx])
 have hgot:σ.got X (M 0).π=σ.got X π1:=funext fun j=>by
  unfold Sg.got;cases hg:σ.gv j with
  |none=>rfl
  |some v=>rw [Option.map_some,Option.map_some,(hgv j v hg).1.on hadv.agree hsz |>.2]
 rw [hgot] at hT2;refine ⟨_,_,hrunT,0,_,w1',sl,_,σ,a.put o.dst v,.inRegion ops rest::k,w1,rfl,⟨S,mz M 0 ((M 0).on w1 π1),q,?_,⟨w1.tape,w1.drawn,by rw [gg];rfl⟩,?_,fun j v hg=> ?_⟩,hk⟩
 ·rw [gg];exact hT2
 ·rw [gg];exact hca1.put hv o.dst
 ·rw [gg];exact ⟨((hgv j v hg).1.on hadv.agree hsz).1,(hgv j v hg).2⟩
def sq (P:Program)(o:Oper):Bool:=tn P o && !(match o.op with| .defer _=>true|_=>false)
theorem oo (h:sq P o=true):tn P o=true∧∀c,o.op≠ .defer c:=by
 unfold sq at h;simp only [Bool.and_eq_true] at h;refine ⟨h.1,fun c hc=> ?_⟩;rw [hc] at h;simp at h
theorem bc.val (K:js P fs X)(v:Value)(w1:World)(ho:ops[i]? =some o)(hm:sq P o=true)(hw:Region.wanted o (yielded ops a.tmps)=true)(hr:∀τ d,(execOp a.eval o).run P (zr.tp w τ d)= .ok (.value v) (zr.tp w1 τ d))
  (h:bc P fs X Q σ (a.put o.dst v) (.inRegion ops rest::k) w1):bc P fs X Q σ a (.inRegion ops (i::rest)::k) w:=
 bc.op K ho (oo hm).1 (oo hm).2 hw fun τ d=>⟨_,v,_,.inl rfl,hr τ d,h.tp τ d⟩
theorem bc.put (K:js P fs X)(w1:World)(ho:ops[i]? =some o)(hm:sq P o=true)(hw:Region.wanted o (yielded ops a.tmps)=true)(hr:∀τ d,(execOp a.eval o).run P (zr.tp w τ d)= .ok .skip (zr.tp w1 τ d))
  (h:bc P fs X Q σ (a.put o.dst undef) (.inRegion ops rest::k) w1):bc P fs X Q σ a (.inRegion ops (i::rest)::k) w:=
 bc.op K ho (oo hm).1 (oo hm).2 hw fun τ d=>⟨_,undef,_,.inr ⟨rfl,rfl⟩,hr τ d,h.tp τ d⟩
section
variable {c c1 c2:Code}{id:Nat}
theorem bc.seq (K:js P fs X)(h:bc P fs X Q σ a (.code c1:: .code c2::k) w):bc P fs X Q σ a (.code (.seq c1 c2)::k) w:=bc.ctl K (fun _ _=>stepG_seq) h
theorem bc.skip (K:js P fs X)(h:bc P fs X Q σ a k w):bc P fs X Q σ a (.code .skip::k) w:=bc.ctl K (fun _ _=>stepG_skip) h
theorem bc.cond (K:js P fs X){o:Operand}{t:Bool}(ho:fv o=true)(ht:a.eval o= .bool t)(h:bc P fs X Q σ a (.code (if t then c1 else c2)::k) w):bc P fs X Q σ a (.code (.cond o c1 c2)::k) w:=
 bc.ctl K (fun π _=>stepG_cond (by rw [pw π a o ho,ht];rfl)) h
theorem bc.block (K:js P fs X)(h:bc P fs X Q σ a (.code c:: .inBlock id::k) w):bc P fs X Q σ a (.code (.block id c)::k) w:=bc.ctl K (fun _ _=>stepG_block) h
theorem bc.inBlock (K:js P fs X)(h:bc P fs X Q σ a k w):bc P fs X Q σ a (.inBlock id::k) w:=bc.ctl K (fun _ _=>stepG_inBlock) h
theorem bc.loop (K:js P fs X)(h:bc P fs X Q σ a (.code c:: .inLoop c::k) w):bc P fs X Q σ a (.code (.loop c)::k) w:=bc.ctl K (fun _ _=>stepG_loop) h
theorem bc.inLoop (K:js P fs X)(h:bc P fs X Q σ a (.code c:: .inLoop c::k) w):bc P fs X Q σ a (.inLoop c::k) w:=bc.ctl K (fun _ _=>stepG_inLoop) h
theorem bc.exit (K:js P fs X){k':List Item}(hk:exitTo id k=some k')(h:bc P fs X Q σ a k' w):bc P fs X Q σ a (.code (.exit id)::k) w:=bc.ctl K (fun _ _=>stepG_exit hk) h
theorem bc.region (K:js P fs X)(h:bc P fs X Q σ a (.inRegion ops (List.range ops.size)::k) w):bc P fs X Q σ a (.code (.region id ops false)::k) w:=bc.ctl K (fun _ _=>stepG_region) h
theorem bc.ak (K:js P fs X)(h:bc P fs X Q σ a k w):bc P fs X Q σ a (.inRegion ops []::k) w:=bc.ctl K (fun _ _=>stepG_region_end) h
end
end
section
variable {P:Program}{fs:Array Func}{Z F:Nat→Prop}{π π1 π2 σ':Pm}{w w' w1:World}{n N0 b0 c:Nat}{wS:Bas}{M:Nat→Mem}
theorem At.addDud (h:At P Z F π w w'){r:Nat}(hr:r<w'.heap.size)(hn:∀b,b<w.heap.size→π.to b≠r):
  At P (fun b=>Z b∨b=w.heap.size) F (π.move w.heap.size r) {w with heap:=w.heap.push gu} w'∧aw w.heap.size π (π.move w.heap.size r):=by
 have hag:aw w.heap.size π (π.move w.heap.size r):=fun b hb=>Pm.ae4 π ai (hn b hb)
 refine ⟨⟨fun π' ha=> ?_,fun b hb=> ?_,fun b hb=> ?_,fun b hb=> ?_⟩,hag⟩
 ·have ha1:aw (w.heap.size+1) (π.move w.heap.size r) π':=by simpa using ha
  have ha':aw w.heap.size π π':=hag.trans (ha1.mono ai);have hE:=h.rob π' ha';refine ⟨fun b hb=> ?_,fun b hb=> ?_,fun b o hb hz hf=> ?_,hE.tape,hE.drawn,hE.os,hE.out⟩
  ·show (w.heap.push gu)[b]? =_;rcases hb with hb|rfl
   ·have:=h.zlt b hb;rw [Array.getElem?_push_lt this,←hE.gu b hb,Array.getElem?_eq_getElem this]
   ·simp
  ·have hl:=h.flt b hb;obtain ⟨cs,e,z,x1,x2⟩:=hE.fz b hb;refine ⟨cs,e,z,?_,x2⟩;show (w.heap.push gu)[b]? =_;rw [Array.getElem?_push_lt hl,←x1,Array.getElem?_eq_getElem hl]
  ·have hb':(w.heap.push gu)[b]? =some o:=hb;have hlt:b<w.heap.size:=by
    have:=(Array.getElem?_eq_some_iff.1 hb').1;simp at this;have:b≠w.heap.size:=fun e=>hz (.inr e)
    omega
   rw [Array.getElem?_push_lt hlt] at hb';exact hE.own b o (by rw [Array.getElem?_eq_getElem hlt];exact hb') (fun x=>hz (.inl x)) hf
 ·show b< (w.heap.push gu).size;rw [Array.size_push];rcases hb with hb|rfl
  ·have:=h.zlt b hb;omega
  ·omega
 ·show b< (w.heap.push gu).size;have:=h.flt b hb;rw [Array.size_push];omega
 ·have hb':b<w.heap.size+1:=by simpa using hb
  by_cases e:b=w.heap.size
  ·rw [e,Pm.tf];exact hr
  ·rw [hag b ai];exact h.img b ai
theorem At.covers (h:At P Z F π w w'):∀m,m≤w'.heap.size→∃kd Z2 π2,At P Z2 F π2 {w with heap:=w.heap++Array.replicate kd gu} w'∧aw w.heap.size π π2∧(∀b,b<w.heap.size→(Z2 b↔Z b))∧(∀b,w.heap.size≤b→b<w.heap.size+kd→Z2 b)∧∀r,r<m→∃b,b<w.heap.size+kd∧π2.to b=r:=by
 intro m
 induction m with
 |zero=>exact fun _=>⟨0,Z,π,by simpa using h,aw.refl _ _,fun _ _=>Iff.rfl,fun b h1 h2=>by omega,fun r hr=>by omega⟩
 |succ m ih=>
  intro hm;obtain ⟨kd,Z2,π2,hA,hag,hz1,hz2,hc⟩:=ih ai
  by_cases hcov:∃b,b<w.heap.size+kd∧π2.to b=m
  ·refine ⟨kd,Z2,π2,hA,hag,hz1,hz2,fun r hr=> ?_⟩
   by_cases e:r=m
   ·rw [e];exact hcov
   ·exact hc r ai
  ·have hsz:({w with heap:=w.heap++Array.replicate kd gu}:World).heap.size=w.heap.size+kd:=by simp
   obtain ⟨hA2,hag2⟩:=hA.addDud (r:=m) ai (fun b hb e=>hcov ⟨b,by rw [hsz] at hb;exact hb,e⟩);rw [hsz] at hA2 hag2;refine ⟨kd+1,fun b=>Z2 b∨b=w.heap.size+kd,π2.move (w.heap.size+kd) m,?_,hag.trans (hag2.mono ai),fun b hb=> ?_,fun b h1 h2=> ?_,fun r hr=> ?_⟩
   ·have e:(w.heap++Array.replicate kd gu).push gu=w.heap++Array.replicate (kd+1) gu:=by
       apply Array.ext';simp [List.replicate_succ']
    rw [←e];exact hA2
   ·exact ⟨fun x=>x.elim (hz1 b hb).1 fun e=>by omega,fun x=> .inl ((hz1 b hb).2 x)⟩
   ·by_cases e:b=w.heap.size+kd
    ·exact .inr e
    ·exact .inl (hz2 b h1 ai)
   ·by_cases e:r=m
    ·exact ⟨w.heap.size+kd,by omega,by rw [Pm.tf,e]⟩
    ·obtain ⟨b,hb,hb2⟩:=hc r ai;exact ⟨b,by omega,by rw [hag2 b hb];exact hb2⟩
theorem Pm.ext_to {π π':Pm}(h:∀n,π.to n=π'.to n):π=π':=by
 have h1:π.to=π'.to:=funext h;have h2:π.inv=π'.inv:=funext fun n=>by
  have:π'.to (π.inv n)=n:=by rw [←h,π.ri]
  rw [←this,π'.li,this]
 cases π;cases π';simp only at h1 h2;subst h1 h2;rfl
theorem ajl (σ' π:Pm)(f:Fn):(Pm.comp σ' π).fn f=σ'.fn (π.fn f):=by cases f <;> rfl
theorem yh (σ' π:Pm)(a:Addr):(Pm.comp σ' π).addr a=σ'.addr (π.addr a):=rfl
mutual
theorem xm (σ' π:Pm):∀v:Value,al (Pm.comp σ' π) v=al σ' (al π v)
 | .pointer a=>by cases a <;> simp [al,yh]
 | .slice a l c=>by cases a <;> simp [al,yh]
 | .map r=>by cases r <;> simp [al,Pm.comp]
 | .chan r=>by cases r <;> simp [al,Pm.comp]
 | .func fn first captured=>by simp [al,ajl,mg σ' π first,mg σ' π captured]
 | .iface t v=>by simp [al,xm σ' π v]
 | .agg cs=>by simp [al,mg σ' π cs]
 | .tuple vs=>by simp [al,mg σ' π vs]
 | .bool b=>by simp [al]
 | .int k n=>by simp [al]
 | .float k b=>by simp [al]
 | .complex k a b=>by simp [al]
 | .string s=>by simp [al]
 | .nilFunc=>by simp [al]
 | .nilIface=>by simp [al]
theorem mg (σ' π:Pm):∀a:Array Value,az (Pm.comp σ' π) a=az σ' (az π a)
 |⟨l⟩=>by simp [az,agl σ' π l]
theorem agl (σ' π:Pm):∀l:List Value,jr (Pm.comp σ' π) l=jr σ' (jr π l)
 | []=>by simp [jr]
 |v::l=>by simp [jr,xm σ' π v,agl σ' π l]
end
theorem aa1 (π:Pm)(v:Value):al π (al π.symm v)=v:=pj π.symm v
theorem named (hc:∀r,r<w'.heap.size→∃b,b<w1.heap.size∧π2.to b=r){u:Value}(hu:ClV w'.heap.size one u):ClV w1.heap.size π2 (al π2.symm u):=fun π' ha=>by
 rw [aa1];have e:π'=Pm.comp (Pm.comp π' π2.symm) π2:=Pm.ext_to fun n=>by
  show π'.to n=π'.to (π2.inv (π2.to n));rw [π2.li]
 rw [e,xm,aa1];have:=hu (Pm.comp π' π2.symm) fun r hr=>by
  obtain ⟨b,hb,rfl⟩:=hc r hr;show π'.to (π2.inv (π2.to b))=π2.to b;rw [π2.li,ha b hb]
 rw [this,jw]
theorem At.closed (h:At P Z F π w w'){v:Value}(hv:ClV w.heap.size π v):ClV w'.heap.size one (al π v):=fun σ' ha=>by
 rw [jw,←xm];refine hv _ fun b hb=> ?_
 show σ'.to (π.to b)=π.to b;exact ha _ (h.img b hb)
theorem Mem.ann {m:Mem}{kd:Nat}{Z2:Nat→Prop}(hag:aw m.w.heap.size m.π π2)(h1:∀b,b<m.w.heap.size→(Z2 b↔m.Z b))(h2:∀b,m.w.heap.size≤b→b<m.w.heap.size+kd→Z2 b)(r:Nat):
  ((⟨Z2,m.F,{m.w with heap:=m.w.heap++Array.replicate kd gu},π2⟩:Mem).Has r↔m.Has r)∧((⟨Z2,m.F,{m.w with heap:=m.w.heap++Array.replicate kd gu},π2⟩:Mem).sg r↔m.sg r):=by
 have lt:∀b,b< (m.w.heap++Array.replicate kd gu).size→¬Z2 b→b<m.w.heap.size:=fun b hb hz=>by
  have hb':b<m.w.heap.size+kd:=by simpa using hb
  by_cases e:b<m.w.heap.size
  ·exact e
  ·exact absurd (h2 b ai hb') hz
 have lt':∀b,b<m.w.heap.size→b< (m.w.heap++Array.replicate kd gu).size:=fun b hb=>by
  have:b<m.w.heap.size+kd:=by omega
  simpa using this
 refine ⟨⟨fun ⟨b,x1,x2,x3,x4⟩=> ?_,fun ⟨b,x1,x2,x3,x4⟩=> ?_⟩,⟨fun ⟨b,x1,x2,x4⟩=> ?_,fun ⟨b,x1,x2,x4⟩=> ?_⟩⟩
 ·have:=lt b x1 x2;exact ⟨b,this,fun hz=>x2 ((h1 b this).2 hz),x3,by rw [←hag b this];exact x4⟩
 ·exact ⟨b,lt' b x1,fun hz=>x2 ((h1 b x1).1 hz),x3,by rw [←x4];exact hag b x1⟩
 ·have:=lt b x1 x2;exact ⟨b,this,fun hz=>x2 ((h1 b this).2 hz),by rw [←hag b this];exact x4⟩
 ·exact ⟨b,lt' b x1,fun hz=>x2 ((h1 b x1).1 hz),by rw [←x4];exact hag b x1⟩
theorem Fam.cover (h:Fam P n N0 c wS M w'):∃kd Z2 π2,Fam P n N0 c wS (mz M 0 ⟨Z2,(M 0).F,{(M 0).w with heap:=(M 0).w.heap++Array.replicate kd gu},π2⟩) w'∧aw (M 0).w.heap.size (M 0).π π2∧∀r,r<w'.heap.size→∃b,b< (M 0).w.heap.size+kd∧π2.to b=r:=by
 obtain ⟨kd,Z2,π2,hA,hag,h1,h2,h3⟩:=(h.at_ 0 (Nat.zero_le _)).covers w'.heap.size (Nat.le_refl _);have hh:=fun r=>Mem.ann (m:=M 0) (kd:=kd) hag h1 h2 r
 refine ⟨kd,Z2,π2,⟨fun k hk=> ?_,fun k hk=> ?_,fun k hk=> ?_,fun i k hi hk hne r hir hkr=> ?_,h.rest,fun k hk b hb=> ?_,h.chan,h.cN,fun k hk hs=> ?_,fun b hb hlt=> ?_,h.size,h.sizeS,h.os,h.out⟩,hag,h3⟩
 ·by_cases e:k=0
  ·subst e;rw [gg];exact hA
  ·rw [ia _ _ e];exact h.at_ k hk
 ·by_cases e:k=0
  ·subst e;rw [gg];have hb:=h.base 0 (Nat.zero_le _);refine ⟨?_,fun m hm=>by
    have hlt:m< (M 0).w.heap.size:=Nat.lt_of_le_of_lt hm hb.1;exact (hag m hlt).trans (hb.2 m hm)⟩
   show 4< (_++ _:Array Obj).size;have:=hb.1;simp;omega
  ·rw [ia _ _ e];exact h.base k hk
 ·by_cases e:k=0
  ·subst e;rw [gg];obtain ⟨x1,x2⟩:=h.ag 0 (Nat.zero_le _);refine ⟨x1.trans (hag.mono x2),?_⟩;show N0≤(_++ _:Array Obj).size;simp;omega
  ·rw [ia _ _ e];exact h.ag k hk
 ·refine h.apart i k hi hk hne r ?_ ?_
  ·by_cases e:i=0
   ·subst e;rw [gg] at hir;exact (hh r).1.1 hir
   ·rw [ia _ _ e] at hir;exact hir
  ·by_cases e:k=0
   ·subst e;rw [gg] at hkr;exact (hh r).2.1 hkr
   ·rw [ia _ _ e] at hkr;exact hkr
 ·by_cases e:k=0
  ·subst e;rw [gg];exact (hh b).1.trans (h.ownH 0 hk b hb)
  ·rw [ia _ _ e];exact h.ownH k hk b hb
 ·refine h.cz k hk ?_
  by_cases e:k=0
  ·subst e;rw [gg] at hs;exact (hh c).2.1 hs
  ·rw [ia _ _ e] at hs;exact hs
 ·obtain ⟨k,hk,hx⟩:=h.cov b hb hlt;refine ⟨k,hk,?_⟩
  by_cases e:k=0
  ·subst e;rw [gg];exact (hh b).1.2 hx
  ·rw [ia _ _ e];exact hx
theorem TrI.zero {act:Nat→Prop}{B:Nat}{t:Trace}{m:Mem}(h:TrI b0 act M B t)(ha:∀j,act j→j≠0):TrI b0 act (mz M 0 m) B t:=
 ⟨h.clean,fun i x hi hm=>(h.known i x hi hm).imp id fun ⟨j,h1,h2,h3⟩=>⟨j,h1,h2,by rw [ia _ _ (ha j h1)];exact h3⟩,fun j hj i x hi hm hn=>h.work j hj i x hi hm (by rw [ia _ _ (ha j hj)] at hn;exact hn),h.hears,h.deafW,h.seen⟩
end
section
variable {P:Program}{fs:Array Func}{n N0 b0 c sp:Nat}{wS:Bas}{w w' w1:World}{J:Nat→Jb}{got:Nat→Option Value}{S:Nat→WS}{M:Nat→Mem}{q:Nat→Nat}{main main1 child x:Goroutine}{gs gs1:Array Goroutine}{t u:Trace}{sl:Option (Nat×Nat)}
 {X:Ph}{σ:Sg}{a:Act}{todo todo1 k:List Item}{Q Q':Sg→Act→List Item→World→Prop}{ops:Array Oper}{i:Nat}{rest:List Nat}{o:Oper}{π π1:Pm}{v:Value}
theorem anp (hg:got (sp+1)=none):(fun j=>jm sp got j∨j=sp+1)=jm (sp+1) got:=funext fun j=>propext ⟨fun h=>by
 rcases h with ⟨h1,h2,h3⟩|rfl
 ·exact ⟨h1,by omega,h3⟩
 ·exact ⟨by omega,Nat.le_refl _,hg⟩,fun ⟨h1,h2,h3⟩=>by
 by_cases e:j=sp+1
 ·exact .inr e
 ·exact .inl ⟨h1,by omega,h3⟩⟩
theorem gh.spawn (h:gh P fs n N0 b0 c wS J sp got S M q main gs w' t)(hsp:sp<n)(hg:got (sp+1)=none)(hm:main1.status= .running){k:Nat}(hq:QS (aq P fs) (k+1) child (av (Frame.enter (aq P fs) (J (sp+1)).f (J (sp+1)).args .normal) ((J (sp+1)).wf::(J (sp+1)).cs)))
  {x y:MemOp}(hx:x.g=0∧x.act= .go gs.size)(hy:y.g=gs.size∧y.act= .start):
  gh P fs n N0 b0 c wS J (sp+1) got (upd S (sp+1) (.pre k (afd P (J (sp+1))) (M (sp+1)).w)) M q main1 ((gs.setIfInBounds 0 main1).push child) w' (t++ #[x,y]):=by
 have hsz:=h.gsz;have hT:=h.tr.spawn h.fam h.actn (k:=sp+1) ai ai (fun ha=>by have:=ha.2.1;omega) (x:=x) (y:=y) ⟨hx.1,by rw [hx.2,hsz,Nat.add_assoc]⟩ ⟨by rw [hy.1,hsz,Nat.add_assoc],hy.2⟩ (by
  have:b0+ (sp+1)=gs.size:=by omega
  rw [this];exact h.above _ (Nat.le_refl _))
 rw [anp hg] at hT;have hstill:∀g,Deaf (t++ #[x,y]) g=Deaf t g:=fun g=>Go.ConcN.Deaf_still t g _ fun op hop=>by
  have:op=x∨op=y:=by simpa using hop
  rcases this with rfl|rfl
  ·rw [hx.2];simp
  ·rw [hy.2];simp
 have hlt:0<gs.size:=by omega
 have hget:∀j,j≠0→j<gs.size→((gs.setIfInBounds 0 main1).push child)[j]? =gs[j]? :=fun j hj hj2=>by
  rw [Array.getElem?_push_lt (by simpa using hj2),←Array.getElem?_eq_getElem,Array.getElem?_setIfInBounds_ne (fun e=>hj e.symm)]
 refine ⟨h.fam,hT,hsp,by simp;omega,fun g hg=>by rw [hstill g];simp at hg;exact h.above g ai,?_,.inl hm,fun g z hg0 hgz hn=> ?_,fun j hj=> ?_,fun j h1 h2=>h.idle j ai h2,fun j w h1 h2 h3=> ?_⟩
 ·rw [Array.getElem?_push_lt (by simpa using hlt),←Array.getElem?_eq_getElem];simp [hlt]
 ·have hgl:g<gs.size+1:=by
     have:=(Array.getElem?_eq_some_iff.1 hgz).1
     simpa using this
  have hne:g≠gs.size:=fun e=>hn (sp+1) ⟨by omega,Nat.le_refl _,hg⟩ ai
  rw [hget g hg0 ai] at hgz;rw [hstill g];exact h.leav g z hg0 hgz fun j hj=>hn j ⟨hj.1,by have:=hj.2.1;omega,hj.2.2⟩
 ·by_cases e:j=sp+1
  ·subst e;refine ⟨child,?_,by rw [upd_same];exact .pre hq (h.idle (sp+1) ai hsp)⟩;have:b0+ (sp+1)=(gs.setIfInBounds 0 main1).size:=by simp;omega
   rw [this,Array.getElem?_push_size]
  ·have:=hj.2.1;obtain ⟨z,hz,hs⟩:=h.wk j ⟨hj.1,by omega,hj.2.2⟩;have hzl:=(Array.getElem?_eq_some_iff.1 hz).1;have:=hj.1;exact ⟨z,by rw [hget _ ai hzl];exact hz,by rw [upd_ne _ _ e];exact hs⟩
 ·refine h.back j w h1 ?_ h3
  by_cases e:j=sp+1
  ·rw [e,hg] at h3;cases h3
  ·omega
theorem bc.go (K:js P fs X)(ho:ops[i]? =some o){f:FuncId}{args:Array Operand}(hgo:∀(a:Act) u,(execOp a.eval o).runT (aq P fs) u #[]=(.ok (.spawn {target:= .fn (.func f) #[],args:=args.map a.eval}) u,#[]))(hw:Region.wanted o (yielded ops a.tmps)=true)
  (hok:args.all fv=true)(hargs:∀π',aw X.N0 one π'→az π' (args.map a.eval)=args.map a.eval)(hsp:σ.sp<X.n)(hgv:σ.gv (σ.sp+1)=none)
  (hborn:∃kq,QS (aq P fs) (kq+1) (born (aq P fs) {target:= .fn (.func f) #[],args:=args.map a.eval}) (av (Frame.enter (aq P fs) (X.J (σ.sp+1)).f (X.J (σ.sp+1)).args .normal) ((X.J (σ.sp+1)).wf::(X.J (σ.sp+1)).cs)))
  (hk:bc P fs X Q {σ with sp:=σ.sp+1} (a.put o.dst undef) (.inRegion ops rest::k) w):bc P fs X Q σ a (.inRegion ops (i::rest)::k) w:=by
 refine bc.ac3 K fun gs w' sl t ⟨S,M,q,hT,hwm,hca,hcv⟩=> ?_
 obtain ⟨kq,hq⟩:=hborn;have he:args.map (dw (M 0).π a).eval=args.map a.eval:=by
  rw [(pw (M 0).π a).arr hok];exact hargs _ (hT.fam.ag 0 (Nat.zero_le _)).1
 have hx:=hgo (dw (M 0).π a) w';rw [he] at hx;have hkd:X.b.kind≠ .early:=by rw [K.kind];simp
 have hr:(execOp (dw (M 0).π a).eval o).run (aq P fs) w'= .ok (.spawn {target:= .fn (.func f) #[],args:=args.map a.eval}) w':=by
  rw [←Sem.runT_fst (aq P fs) _ _ #[],hx]
 have hev:listed (aq P fs) X.b.fn (dw (M 0).π a) o w'=#[]:=by
  unfold listed;have:(execOp (dw (M 0).π a).eval o).events (aq P fs) w' #[]=#[]:=by
   show ((execOp (dw (M 0).π a).eval o).runT (aq P fs) w' #[]).2=#[];rw [hx]
  rw [this,seen_none]
 have hst:=stepG_spawn (P:=aq P fs) (main:=true) (b:=X.b) (a:=dw (M 0).π a) (cs:=X.CS) (rest:=rest) (k:=k) ho (by
  show Region.wanted o (yielded ops (az (M 0).π a.tmps))=true;rw [vk];exact hw) hkd hr rfl
 rw [hev] at hst;have hrunT:=runT_crowd_spawn (P:=aq P fs) (sl:=sl) (i:=0) hT.zero hst;have hput:(dw (M 0).π a).put o.dst undef=dw (M 0).π (a.put o.dst undef):=by rw [z8];rfl
 rw [hput] at hrunT;have hops:((MemOp.ofEvents 0 (av (X.b.at (dw (M 0).π a) (.inRegion ops (i::rest)::k)) X.CS).frame.fn (av (X.b.at (dw (M 0).π a) (.inRegion ops (i::rest)::k)) X.CS).frame.place #[]).push {g:=0,fn:=(av (X.b.at (dw (M 0).π a) (.inRegion ops (i::rest)::k)) X.CS).frame.fn,pos:=(av (X.b.at (dw (M 0).π a) (.inRegion ops (i::rest)::k)) X.CS).frame.place,act:= .go gs.size} |>.push {g:=gs.size,fn:=(born (aq P fs) {target:= .fn (.func f) #[],args:=args.map a.eval}).frame.fn,pos:=(av (X.b.at (dw (M 0).π a) (.inRegion ops (i::rest)::k)) X.CS).frame.place,act:= .start})=#[{g:=0,fn:=(av (X.b.at (dw (M 0).π a) (.inRegion ops (i::rest)::k)) X.CS).frame.fn,pos:=(av (X.b.at (dw (M 0).π a) (.inRegion ops (i::rest)::k)) X.CS).frame.place,act:= .go gs.size},{g:=gs.size,fn:=(born (aq P fs) {target:= .fn (.func f) #[],args:=args.map a.eval}).frame.fn,pos:=(av (X.b.at (dw (M 0).π a) (.inRegion ops (i::rest)::k)) X.CS).frame.place,act:= .start}]:=rfl;have hgot:σ.got X (M 0).π (σ.sp+1)=none:=by simp [Sg.got,hgv]
 have hT2:=hT.spawn (main1:=av (X.b.at (dw (M 0).π (a.put o.dst undef)) (.inRegion ops rest::k)) X.CS) hsp hgot rfl hq (x:={g:=0,fn:=(av (X.b.at (dw (M 0).π a) (.inRegion ops (i::rest)::k)) X.CS).frame.fn,pos:=(av (X.b.at (dw (M 0).π a) (.inRegion ops (i::rest)::k)) X.CS).frame.place,act:= .go gs.size}) (y:={g:=gs.size,fn:=(born (aq P fs) {target:= .fn (.func f) #[],args:=args.map a.eval}).frame.fn,pos:=(av (X.b.at (dw (M 0).π a) (.inRegion ops (i::rest)::k)) X.CS).frame.place,act:= .start}) ⟨rfl,rfl⟩ ⟨rfl,rfl⟩;refine ⟨_,_,hrunT,0,_,w',sl,_,{σ with sp:=σ.sp+1},a.put o.dst undef,.inRegion ops rest::k,w,rfl,⟨upd S (σ.sp+1) (.pre kq (afd P (X.J (σ.sp+1))) (M (σ.sp+1)).w),M,q,?_,hwm,hca.put (fun _ _=>rfl) o.dst,hcv⟩,hk⟩;rw [hops];exact hT2
theorem gh.sender (h:gh P fs n N0 b0 c wS J sp got S M q main gs w' t)(hm:main.status= .running){j m:Nat}(hp:(j,m)∈partners (gs.setIfInBounds 0 ph) c true):
  m=0∧j≠0∧∃k g2 z v qk,jm sp got k∧j=b0+k∧S k= .parked∧gs[j]? =some (parked g2 #[scase c ((J k).told (al (M k).π v)) z] .send)∧QuitsD (aq P fs) qk 0 (Go.Conc.served g2 undef)∧(J k).R v (M k).w∧ClV (M k).w.heap.size (M k).π v:=by
 obtain ⟨g,hg,hof⟩:=mem_partners.1 hp;rcases getElem?_stand gs 0 j g hg with ⟨_,rfl⟩|⟨hj,hg'⟩
 ·rw [offersAt_ph] at hof;cases hof
 ·rcases h.who hg' with ⟨h0,_⟩|⟨k,hk,e,hs⟩|⟨_,_,hq⟩
  ·exact absurd h0 hj
  ·generalize hsk:S k=s at hs;have nb:∀{x:Goroutine},x.status= .running→m∈offersAt x c true→False:=fun hr hm=>by
    rw [offersAt_of_not_blocked (by rw [hr];simp)] at hm;cases hm
   cases hs with
   |pre hq _=>exact (nb (hq.running rfl) hof).elim
   |job=>exact (nb rfl hof).elim
   |post hq ha _ _=>exact (nb (hq.running ha.1) hof).elim
   |parked hq hr hv=>
    rw [offersAt_parked_send,if_pos rfl] at hof;exact ⟨by simpa using hof,hj,k,_,_,_,_,hk,e,hsk,hg',hq,hr,hv⟩
  ·rw [offersAt_of_not_blocked (by rcases hq.status with e|e <;> rw [e] <;> simp)] at hof;cases hof
theorem TAt.word (K:js P fs X){j:Nat}{u:Value}(hj0:j≠0)(hj:j≤σ.sp)(hgj:σ.gv j=none)(hwm:∃τ d,(M 0).w=zr.tp w τ d)(hca:ClA w.heap.size (M 0).π a)(hcv:∀j v,σ.gv j=some v→ClV w.heap.size (M 0).π v∧(X.J j).ok v){dst:Option Tmp}
  (hT:gh P fs X.n X.N0 X.b0 X.c X.wS X.J σ.sp (upd (σ.got X (M 0).π) j (some u)) S M q (av (X.b.at ((dw (M 0).π a).put dst u) todo) X.CS) gs w' t):
  ∃v kd,(X.J j).ok v∧TAt P fs X {σ with gv:=upd σ.gv j (some v)} (a.put dst ((X.J j).told v)) todo {w with heap:=w.heap++Array.replicate kd gu} gs w' t:=by
 obtain ⟨τ0,d0,hwm⟩:=hwm;obtain ⟨kd,Z2,π2,hF,hag,hcov⟩:=hT.fam.cover;obtain ⟨x,hr,hx,hu⟩:=hT.back j u hj0 hj (by rw [upd_same]);have hju:j≤X.n:=Nat.le_trans hj hT.spn;have hA:=hT.fam.at_ j hju;have hcl:ClV w'.heap.size one (al (M j).π x):=hA.closed hx;have hsz:(M 0).w.heap.size=w.heap.size:=by rw [hwm];rfl
 have hcov':∀r,r<w'.heap.size→∃b,b< ({w with heap:=w.heap++Array.replicate kd gu}:World).heap.size∧π2.to b=r:=fun r hr=>by
  obtain ⟨b,h1,h2⟩:=hcov r hr;refine ⟨b,?_,h2⟩;show b< (w.heap++Array.replicate kd gu).size;simp;omega
 have hag':aw w.heap.size (M 0).π π2:=by rw [←hsz];exact hag
 have hle:w.heap.size≤({w with heap:=w.heap++Array.replicate kd gu}:World).heap.size:=by
  show _≤(w.heap++Array.replicate kd gu).size;simp
 have hnm:=named (w1:={w with heap:=w.heap++Array.replicate kd gu}) hcov' hcl;obtain ⟨hca1,hare⟩:=ClA.on hca hag' hle;have htold:al π2 ((X.J j).told (al π2.symm (al (M j).π x)))=u:=by rw [K.told,aa1,hu]
 have hgot:upd (σ.got X (M 0).π) j (some u)=Sg.got X {σ with gv:=upd σ.gv j (some (al π2.symm (al (M j).π x)))} π2:=funext fun m=>by
  unfold Sg.got
  by_cases e:m=j
  ·subst e;rw [upd_same];show _=((upd σ.gv m (some (al π2.symm (al (M m).π x)))) m).map _;rw [upd_same,Option.map_some,aa1,hu]
  ·rw [upd_ne _ _ e];show _=((upd σ.gv j (some (al π2.symm (al (M j).π x)))) m).map _;rw [upd_ne _ _ e];cases hg:σ.gv m with
   |none=>rfl
   |some y=>rw [Option.map_some,Option.map_some,((hcv m y hg).1.on hag' hle).2]
 have hokx:(X.J j).ok (al π2.symm (al (M j).π x)):=K.okRen _ _ _ (K.okRen _ _ _ (K.okR _ _ _ hr));refine ⟨al π2.symm (al (M j).π x),kd,hokx,S,mz M 0 ⟨Z2,(M 0).F,{(M 0).w with heap:=(M 0).w.heap++Array.replicate kd gu},π2⟩,q,?_,⟨τ0,d0,?_⟩,?_,fun m y hg=> ?_⟩
 ·rw [gg];show gh P fs X.n X.N0 X.b0 X.c X.wS X.J σ.sp (Sg.got X {σ with gv:=upd σ.gv j (some (al π2.symm (al (M j).π x)))} π2) S _ q (av (X.b.at (dw π2 (a.put dst ((X.J j).told (al π2.symm (al (M j).π x))))) todo) X.CS) gs w' t;rw [z8,htold,hare,←hgot];refine {hT with fam:=hF,tr:=hT.tr.zero fun m hm=>hm.1,wk:=fun m hm=> ?_,idle:=fun m h1 h2=> ?_,back:=fun m y h1 h2 h3=> ?_}
  ·rw [ia _ _ hm.1];exact hT.wk m hm
  ·rw [ia _ _ ai];exact hT.idle m h1 h2
  ·rw [ia _ _ h1];exact hT.back m y h1 h2 h3
 ·rw [gg];show ({(M 0).w with heap:=(M 0).w.heap++Array.replicate kd gu}:World)=_;rw [hwm];rfl
 ·rw [gg];refine hca1.put ?_ dst;intro π' ha;show al π' ((X.J j).told (al π2.symm (al (M j).π x)))=al π2 ((X.J j).told (al π2.symm (al (M j).π x)));rw [K.told,K.told,hnm π' ha]
 ·rw [gg]
  by_cases e:m=j
  ·subst e;have hg:upd σ.gv m (some (al π2.symm (al (M m).π x))) m=some y:=hg;rw [upd_same] at hg;obtain rfl:=Option.some.inj hg;exact ⟨hnm,hokx⟩
  ·have hg:upd σ.gv j (some (al π2.symm (al (M j).π x))) m=some y:=hg;rw [upd_ne _ _ e] at hg;exact ⟨((hcv m y hg).1.on hag' hle).1,(hcv m y hg).2⟩
end
section
variable {P:Program}{fs:Array Func}{n N0 b0 c sp:Nat}{wS:Bas}{w w' w1:World}{J:Nat→Jb}{got:Nat→Option Value}{S:Nat→WS}{M:Nat→Mem}{q:Nat→Nat}{main main1 child x:Goroutine}{gs gs1:Array Goroutine}{t u:Trace}{sl:Option (Nat×Nat)}
 {X:Ph}{σ:Sg}{a:Act}{todo todo1 k:List Item}{Q Q':Sg→Act→List Item→World→Prop}{ops:Array Oper}{i:Nat}{rest:List Nat}{o:Oper}{π π1:Pm}{v z:Value}
theorem gh.park (h:gh P fs n N0 b0 c wS J sp got S M q main gs w' t){ok:Bool}:gh P fs n N0 b0 c wS J sp got S M q (parked main #[rcase c z] (.recv ok)) (gs.setIfInBounds 0 (parked main #[rcase c z] (.recv ok))) w' t:=by
 have hlt:0<gs.size:=(Array.getElem?_eq_some_iff.1 h.zero).1;have hget:∀j,j≠0→(gs.setIfInBounds 0 (parked main #[rcase c z] (.recv ok)))[j]? =gs[j]? :=fun j hj=>by rw [Array.getElem?_setIfInBounds_ne (fun e=>hj e.symm)]
 refine {h with gsz:=by simp [h.gsz],above:=fun g hg=>h.above g (by simpa using hg),zero:=by simp [hlt],mst:= .inr ⟨main,z,ok,rfl⟩,leav:=fun g y hg hy hn=>h.leav g y hg (by rw [←hget g hg];exact hy) hn,wk:=fun j hj=> ?_};obtain ⟨y,hy,hs⟩:=h.wk j hj;exact ⟨y,by rw [hget _ (by have:=hj.1;omega)];exact hy,hs⟩
theorem aip {fr:Frame}{cs:List Frame}(v:Value):Go.Conc.served (av fr cs) v=av (fr.finish v) cs:=rfl
theorem bc.recv (K:js P fs X)(ho:ops[i]? =some o){x:Operand}{z:Value}(hrx:∀(a:Act) u,a.eval x= .chan (some X.c)→(execOp a.eval o).runT (aq P fs) u #[]=(.ok (.comm #[rcase X.c z] true (.recv false)) u,#[]))(hw:Region.wanted o (yielded ops a.tmps)=true)
  (hxo:fv x=true)(hx:a.eval x= .chan (some X.c))(hex:∃j,j≠0∧j≤σ.sp∧σ.gv j=none)
  (h:∀j v kd,j≠0→j≤σ.sp→σ.gv j=none→(X.J j).ok v→bc P fs X Q {σ with gv:=upd σ.gv j (some v)} (a.put o.dst ((X.J j).told v)) (.inRegion ops rest::k) {w with heap:=w.heap++Array.replicate kd gu}):bc P fs X Q σ a (.inRegion ops (i::rest)::k) w:=by
 refine bc.ac3 K fun gs w' sl t ⟨S,M,q,hT,hwm,hca,hcv⟩=> ?_
 have hxe:(dw (M 0).π a).eval x= .chan (some X.c):=by
  rw [pw (M 0).π a x hxo,hx];show Value.chan (some ((M 0).π.to X.c))=_;rw [(hT.fam.ag 0 (Nat.zero_le _)).1 X.c hT.fam.cN];rfl
 have hrun:=hrx (dw (M 0).π a) w' hxe;have hke:((X.b.at (dw (M 0).π a) (.inRegion ops (i::rest)::k)).kind==CallKind.early)=false:=by
  show (X.b.kind==CallKind.early)=false;rw [K.kind];rfl
 have hst:=(m9 (P:=aq P fs) (b:=X.b) (a:=dw (M 0).π a) (cs:=X.CS) (rest:=rest) (k:=k) (u:=w') K.kind ho (by
  show Region.wanted o (yielded ops (az (M 0).π a.tmps))=true;rw [vk];exact hw)).trans (wj hrun hke)
 have hev:seen (aq P fs) (X.b.at (dw (M 0).π a) (.inRegion ops (i::rest)::k)).fn #[]++ #[]=#[]:=by rw [seen_none];rfl
 rw [hev] at hst;obtain ⟨s0,tm,hc⟩:=hT.fam.chan
 -- behind the word
 have fin:∀{j:Nat}{u:Value}{S':Nat→WS}{M':Nat→Mem}{q':Nat→Nat}{gs1:Array Goroutine}{w1:World}{t1:Trace},jm σ.sp (σ.got X (M 0).π) j→M' 0=M 0→
     gh P fs X.n X.N0 X.b0 X.c X.wS X.J σ.sp (upd (σ.got X (M 0).π) j (some u)) S' M' q' (Go.Conc.served (av (X.b.at (dw (M 0).π a) (.inRegion ops (i::rest)::k)) X.CS) (recvd false u true)) gs1 w1 t1→
     ∃σ1 a1 todo1 w2,TAt P fs X σ1 a1 todo1 w2 gs1 w1 t1∧bc P fs X Q σ1 a1 todo1 w2:=fun {j u S' M' q' gs1 w1 t1} hj hM hT2=>by
  have hgj:σ.gv j=none:=by
   have:=hj.2.2;unfold Sg.got at this;cases hg:σ.gv j with
   |none=>rfl
   |some y=>rw [hg] at this;cases this
  rw [aip,Frame.finish_at,ho] at hT2;rw [←hM] at hT2 hwm hca hcv;obtain ⟨v,kd,hov,hT3⟩:=TAt.word K hj.1 hj.2.1 hgj hwm hca hcv hT2;exact ⟨_,_,_,_,hT3,h j v kd hj.1 hj.2.1 hgj hov⟩
 by_cases hp:partners (gs.setIfInBounds 0 ph) X.c true=[]
 ·have hrunT:=crowd_waits (P:=aq P fs) (sl:=sl) hT.zero hst (fun cc hcc=>by
     obtain rfl:cc=_:=by simpa using hcc
     exact ways_recv_none hc hp)
  have hT1:=hT.park (z:=z) (ok:=false);obtain ⟨N,kk,u,S',M',q',gs',w'',sl',t',h1,h2,h3,h4⟩:=hT1.wait (sl:=sl) K.ctx K.hp K.jobs K.blind (fun j v w π h=>K.okRen j π v (K.okR j v w h)) (by
   obtain ⟨j,j1,j2,j3⟩:=hex;exact ⟨j,j1,j2,by simp [Sg.got,j3]⟩) (fun j hj hsp=>by
   obtain ⟨y,hy,hs⟩:=hT.wk j hj;rw [hsp] at hs;cases hs with
   | @parked g2 z2 v2 q2 hq hr hv=>
    have:(X.b0+j,0)∈partners (gs.setIfInBounds 0 ph) X.c true:=mem_partners.2 ⟨_,by
     rw [Array.getElem?_setIfInBounds_ne (by have:=hj.1;omega)];exact hy,by rw [offersAt_parked_send,if_pos rfl];simp⟩
    rw [hp] at this;cases this)
  obtain ⟨σ1,a1,todo1,w2,hT2,hk2⟩:=fin h2 h4 h3;exact ⟨_,_,hrunT,N,gs',w'',sl',t',σ1,a1,todo1,w2,h1,hT2,hk2⟩
 ·have hall:∀j m,(j,m)∈partners (gs.setIfInBounds 0 ph) X.c true→m=0∧j≠0∧∃gj vj zj shj,gs[j]? =some (parked gj #[scase X.c vj zj] shj):=fun j m hjm=>by
     obtain ⟨h1,h2,kk,g2,z2,v2,qk,_,_,_,h3,_⟩:=hT.sender rfl hjm;exact ⟨h1,h2,g2,_,z2,_,h3⟩
  obtain ⟨j,gj,vj,zj,shj,d,hij,hj,hrunT⟩:=crowd_recv_meets_some (P:=aq P fs) (sl:=sl) hT.zero hst hc hp hall;have hmem:(j,0)∈partners (gs.setIfInBounds 0 ph) X.c true:=mem_partners.2 ⟨_,by
   rw [Array.getElem?_setIfInBounds_ne (fun e=>hij e.symm)];exact hj,by rw [offersAt_parked_send,if_pos rfl];simp⟩
  obtain ⟨-,-,kk,g2,z2,v2,qk,hkk,rfl,-,hj2,hq,hr,hv⟩:=hT.sender rfl hmem;rw [hj] at hj2;have he:=Option.some.inj hj2;simp only [parked,Goroutine.mk.injEq,Option.some.injEq,Prod.mk.injEq] at he;obtain ⟨e1,e2,-,e3,e4,rfl⟩:=he;have e5:vj=(X.J kk).told (al (M kk).π v2):=by
   have:scase X.c vj zj=scase X.c ((X.J kk).told (al (M kk).π v2)) z2:=by simpa using e4
   simp only [scase,CommCase.mk.injEq,Option.some.injEq] at this;exact this.2.1
  rw [finishComm_send,finishComm_recv] at hrunT;have e6:Go.Conc.served gj undef=Go.Conc.served g2 undef:=by simp only [Go.Conc.served,e1,e2,e3]
  rw [e6] at hrunT;have hlt:0<gs.size:=(Array.getElem?_eq_some_iff.1 hT.zero).1;have hltj:X.b0+kk<gs.size:=(Array.getElem?_eq_some_iff.1 hj).1;have hk0:=hkk.1;have hT2:=(hT.at d).join (main':=Go.Conc.served (av (X.b.at (dw (M 0).π a) (.inRegion ops (i::rest)::k)) X.CS) (recvd false vj true)) (gs1:=(gs.setIfInBounds (X.b0+kk) (Go.Conc.served g2 undef)).setIfInBounds 0 (Go.Conc.served (av (X.b.at (dw (M 0).π a) (.inRegion ops (i::rest)::k)) X.CS) (recvd false vj true))) (s:=s0) (tm:=tm) hkk hr hv e5 hq rfl ae (by simp [hlt]) (by
      rw [Array.getElem?_setIfInBounds_ne ai];simp [hltj]) (fun m h1 h2=>by
      rw [Array.getElem?_setIfInBounds_ne (fun e=>h1 e.symm),Array.getElem?_setIfInBounds_ne (fun e=>h2 e.symm)])
   (x1:={g:=X.b0+kk,fn:=gj.frame.fn,pos:=gj.frame.place,act:= .send X.c s0}) (x2:={g:=0,fn:=(av (X.b.at (dw (M 0).π a) (.inRegion ops (i::rest)::k)) X.CS).frame.fn,pos:=(av (X.b.at (dw (M 0).π a) (.inRegion ops (i::rest)::k)) X.CS).frame.place,act:= .recv X.c s0 0})
   (x3:={g:=X.b0+kk,fn:=gj.frame.fn,pos:=gj.frame.place,act:= .sendDone X.c s0}) (x4:={g:=0,fn:=(av (X.b.at (dw (M 0).π a) (.inRegion ops (i::rest)::k)) X.CS).frame.fn,pos:=(av (X.b.at (dw (M 0).π a) (.inRegion ops (i::rest)::k)) X.CS).frame.place,act:= .recvDone X.c s0}) ⟨rfl,rfl,rfl,rfl,rfl,rfl,rfl,rfl⟩
  obtain ⟨σ1,a1,todo1,w2,hT3,hk2⟩:=fin hkk rfl hT2;refine ⟨_,_,hrunT,0,_,_,sl,_,σ1,a1,todo1,w2,rfl,?_,hk2⟩;have e7:MemOp.ofEvents 0 (av (X.b.at (dw (M 0).π a) (.inRegion ops (i::rest)::k)) X.CS).frame.fn (av (X.b.at (dw (M 0).π a) (.inRegion ops (i::rest)::k)) X.CS).frame.place #[]=#[]:=rfl;rw [e7,Array.empty_append];exact hT3
end
section
variable {P:Program}{fs:Array Func}{n N0 c:Nat}{wS:Bas}{w w':World}{M:Nat→Mem}{σ' π:Pm}
theorem afg (σ' π:Pm)(t:Target):jx (Pm.comp σ' π) t=jx σ' (jx π t):=by
 cases t <;> simp [jx,ajl,mg] <;> rfl
theorem agr (σ' π:Pm)(d:Deferred):dz (Pm.comp σ' π) d=dz σ' (dz π d):=by
 simp [dz,afg,mg]
theorem ajg (σ' π:Pm)(o:Obj):cx (Pm.comp σ' π) o=cx σ' (cx π o):=by
 cases o with
 |cells c e f=>simp [cx,mg]
 |map es k=>
  simp only [cx,Array.map_map];congr 1;congr 1
  funext e
  simp [xm]
 |chan cap buf cl s r t=>simp [cx,mg]
 |mapIter m s seen st=>cases m <;> simp [cx,Pm.comp]
 |pending c e=>simp [cx,mg]
 |view a t=>simp [cx,yh]
 |number a l=>simp [cx,yh]
 |loop l=>
  have:ll (Pm.comp σ' π) l=ll σ' (ll π l):=by
   simp only [ll,mg];rfl
  simp only [cx,this]
 |deferred c=>
  cases c with
  |none=>rfl
  |some ds=>
   simp only [cx,Option.map_some,List.map_map];congr 2;exact List.map_congr_left fun d _=>agr σ' π d
 |_=>rfl
def qi [Bg] [Bg] (w:World):World:={w with heap:=w.heap.mapIdx fun b o=>if b<Bg.H0.size then gu else o}
theorem ag1 [Bg] [Bg] (w:World)(b:Nat):(qi w).heap[b]? =(w.heap[b]?).map fun o=>if b<Bg.H0.size then gu else o:=by simp [qi]
@[simp] theorem ta [Bg] [Bg] (w:World):(qi w).heap.size=w.heap.size:=by simp [qi]
theorem ah1 [Bg] [Bg] {w:World}{b:Nat}(h:¬zb b):(qi w).heap[b]? =w.heap[b]? :=by
 rw [ag1];unfold zb at h;cases w.heap[b]? <;> simp [h]
theorem Fam.whole [Bg] [Bg] {v0:World}(h:Fam P n N0 c wS M w')(hv:wS.w.heap=(cy v0).heap)(hS:Whole P v0)(hown:∀j,j≤n→∀b,wS.own j b→¬zb b)(hc:¬zb c):Whole P (qi w')∧cy (qi w')=w':=by
 have hsz0:v0.heap.size=N0:=by rw [←h.sizeS,hv,ji]
 have key:∀b o,¬zb b→w'.heap[b]? =some o→kr P o=true∧∀σ',aw w'.heap.size one σ'→cx σ' o=o:=fun b o hzb ho=>by
  by_cases hh:∃j,j≤n∧(M j).Has b
  ·obtain ⟨j,hj,b',h1,h2,h3,rfl⟩:=hh;have hA:=h.at_ j hj;obtain ⟨o',ho'⟩:∃o',(M j).w.heap[b']? =some o':=⟨_,Array.getElem?_eq_getElem h1⟩;obtain ⟨g1,g2⟩:=(hA.rob (M j).π (aw.refl _ _)).own b' o' ho' h2 h3;rw [ho] at g2;obtain rfl:=Option.some.inj g2;refine ⟨by rw [good_ren];exact g1,fun σ' ha=> ?_⟩;rw [←ajg];have hag:aw (M j).w.heap.size (M j).π (Pm.comp σ' (M j).π):=fun x hx=>ha _ (hA.img x hx)
   have g3:=((hA.rob (Pm.comp σ' (M j).π) hag).own b' o' ho' h2 h3).2;have e:(Pm.comp σ' (M j).π).to b'=(M j).π.to b':=hag b' h1;rw [e,ho] at g3;exact (Option.some.inj g3).symm
  ·by_cases hb:b<N0
   ·by_cases hbc:b=c
    ·subst hbc;obtain ⟨s,tm,hc⟩:=h.chan;rw [hc] at ho;obtain rfl:=Option.some.inj ho;exact ⟨rfl,fun _ _=>rfl⟩
    ·rw [h.rest b hb hbc fun j hj ho2=>hh ⟨j,hj,(h.ownH j hj b hb).2 ho2⟩,hv,j9 hzb] at ho;refine ⟨((hS.rob one (aw.refl _ _)).own b o ho hzb (fun x=>x)).1,fun σ' ha=> ?_⟩;have ha':aw v0.heap.size one σ':=ha.mono (by rw [hsz0];exact h.size);have g:=((hS.rob σ' ha').own b o ho hzb (fun x=>x)).2;have e:σ'.to b=b:=ha' b (by rw [hsz0];exact hb);rw [e,j9 hzb,ho] at g;exact (Option.some.inj g).symm
   ·have hlt:b<w'.heap.size:=(Array.getElem?_eq_some_iff.1 ho).1;obtain ⟨j,hj,hx⟩:=h.cov b (Nat.le_of_not_lt hb) hlt;exact absurd ⟨j,hj,hx⟩ hh
 have hz0:∀b,zb b→b<N0:=fun b hb=>by rw [←hsz0];exact hS.zlt b hb
 have hfill:cy (qi w')=w':=by
  refine xw (Array.ext_getElem? fun b=> ?_) rfl rfl rfl rfl
  by_cases hb:b<w'.heap.size
  ·by_cases hz:b<Bg.H0.size
   ·have hb0:b<N0:=hz0 b hz;rw [uy hz (by simpa using hb),h.rest b hb0 (fun e=>hc (e▸hz)) (fun j hj ho=>hown j hj b ho hz),hv,uy hz (by rw [hsz0];exact hb0)]
   ·rw [j9 hz,ah1 hz]
  ·rw [Array.getElem?_eq_none (by simp;omega),Array.getElem?_eq_none ai]
 refine ⟨?_,hfill⟩;show At P zb kz one (qi w') (cy (qi w'));rw [hfill];refine ⟨fun σ' ha=>⟨fun b hb=> ?_,fun b hb=>hb.elim,fun b o ho hz _=> ?_,rfl,rfl,rfl,rfl⟩,fun b hb=> ?_,fun b hb=>hb.elim,fun b hb=>by rw [ta] at hb;exact hb⟩
 ·have hlt:b<w'.heap.size:=Nat.lt_of_lt_of_le (hz0 b hb) h.size;have hb:b<Bg.H0.size:=hb;rw [ag1,Array.getElem?_eq_getElem hlt];simp [hb]
 ·rw [ah1 hz] at ho;rw [ta] at ha;obtain ⟨g1,g2⟩:=key b o hz ho;refine ⟨g1,?_⟩;have hlt:b<w'.heap.size:=(Array.getElem?_eq_some_iff.1 ho).1;rw [show σ'.to b=b from ha b hlt,g2 σ' ha];exact ho
 ·rw [ta];exact Nat.lt_of_lt_of_le (hz0 b hb) h.size
def fzO:Obj→Obj
 | .cells c e _=> .cells c e (0,c.size)
 |o=>o
open Classical in
noncomputable def mask (own frz:Nat→Prop)(w:World):World:={w with heap:=w.heap.mapIdx fun b o=>if frz b then fzO o else if own b then o else gu}
theorem sn (own frz:Nat→Prop)(w:World)(b:Nat):(mask own frz w).heap[b]? =(w.heap[b]?).map fun o=>open Classical in if frz b then fzO o else if own b then o else gu:=by
 simp [mask]
theorem mi (own frz:Nat→Prop)(w:World):(mask own frz w).heap.size=w.heap.size:=by simp [mask]
theorem adu {own frz:Nat→Prop}{w:World}{b:Nat}(h:own b)(hf:¬frz b):(mask own frz w).heap[b]? =w.heap[b]? :=by
 rw [sn];simp [h,hf]
theorem ah4 {own frz:Nat→Prop}{w:World}{b:Nat}{c:Array Value}{e:TypeId}{z:Nat×Nat}(hf:frz b)(ho:w.heap[b]? =some (.cells c e z)):(mask own frz w).heap[b]? =some (.cells c e (0,c.size)):=by
 rw [sn,ho];simp [hf,fzO]
theorem amq {own frz:Nat→Prop}{w:World}{a:Addr}(h:own a.block∨frz a.block):(mask own frz w).cell? a=w.cell? a:=by
 by_cases hf:frz a.block
 ·unfold World.cell?;rw [sn];cases ho:w.heap[a.block]? with
  |none=>rfl
  |some o=>cases o <;> simp [hf,fzO]
 ·unfold World.cell?;rw [adu (h.resolve_right hf) hf]
theorem aj7 [Bg] [Bg] {own frz:Nat→Prop}(hW:Whole P w)(hz:∀b,own b→¬zb b)(hf:∀b,frz b→∃c e z,w.heap[b]? =some (.cells c e z)):At P (fun b=>b<w.heap.size∧¬own b∧¬frz b) frz one (mask own frz w) (cy w):=by
 have hzf:∀b,frz b→¬zb b:=fun b hb hz=>by
  obtain ⟨c,e,z,h⟩:=hf b hb;rw [(hW.rob one (aw.refl _ _)).gu b hz] at h;cases h
 have hsz:=mi own frz w;have flt:∀b,frz b→b<w.heap.size:=fun b hb=>by
  obtain ⟨c,e,z,h⟩:=hf b hb;exact (Array.getElem?_eq_some_iff.1 h).1
 refine ⟨fun π' ha=>⟨fun b ⟨h1,h2,h3⟩=> ?_,fun b hb=> ?_,fun b o ho hzo hfr=> ?_,rfl,rfl,rfl,rfl⟩,fun b hb=>by rw [hsz];exact hb.1,fun b hb=>by rw [hsz];exact flt b hb,fun b hb=>by rw [hsz] at hb;rw [ji];exact hb⟩
 ·rw [sn,Array.getElem?_eq_getElem h1];simp [h2,h3]
 ·obtain ⟨c,e,z,h⟩:=hf b hb;have hlt:=flt b hb;rw [hsz] at ha;refine ⟨c,e,z,ah4 hb h,?_⟩;have g:=((hW.rob π' ha).own b _ h (hzf b hb) (fun x=>x)).2;exact g
 ·have hlt:b<w.heap.size:=by
   have:=(Array.getElem?_eq_some_iff.1 ho).1;rw [hsz] at this;exact this
  have hown:own b:=Classical.byContradiction fun hn=>hzo ⟨hlt,hn,hfr⟩
  rw [adu hown hfr] at ho;rw [hsz] at ha;exact (hW.rob π' ha).own b o ho (hz b hown) (fun x=>x)
end
end Go.Proofs.YthgpdljlehklhaaGreat.zr
