/- Part QAY of the proof that DropRefused answers true whatever its input. No condition. -/
import Derived.Test.YthgpdljlehklhaaGreatQAX
import Derived.Test.YthgpdljlehklhaaGreatQAT
set_option maxRecDepth 100000
namespace Go.Proofs.YthgpdljlehklhaaGreat.rn
open Go Go.Conc zr dr wd drv wk la
set_option linter.unusedVariables false
def ga (g d now:Nat→Nat)(i:Nat):List Nat:=[g i,d i,now i]
def ftH (g d now x q:Nat→Nat)(i:Nat):List Nat:=[g i,d i,now i,x i,q i]
def PE (g d now:Nat→Nat)(i:Nat)(w:World):Prop:=DrE w (g i) (d i) (now i)
def PH (g d now x q:Nat→Nat)(i:Nat)(w:World):Prop:=DrH w (g i) (d i) (now i) (x i) (q i) i
section
variable {w w' w2 u:World}{bd cap hb cset ck s:Nat}{g d now x q:Nat→Nat}{fr:List Nat}{dv:Value}{ep cn:Int}
theorem tu [Bg] (i:Nat)(hi:i<3)(h:PE g d now i w)(hk:∀b∈ga g d now i,u.heap[b]? =w.heap[b]?):PE g d now i u:=
 ajy h (ajv (ac4 h) (hk _ (by simp [ga]))) fun b hb=>hk b (by simp only [ga,List.mem_cons] at hb ⊢;exact .inr hb)
theorem zg [Bg] (i:Nat)(hi:i<3)(h:PH g d now x q i w)(hk:∀b∈ftH g d now x q i,u.heap[b]? =w.heap[b]?):PH g d now x q i u:=
 afq h (ajv (afl h) (hk _ (by simp [ftH]))) fun b hb=>hk b (by simp only [ftH,List.mem_cons] at hb ⊢;exact .inr hb)
theorem ahu [Bg] (i:Nat)(hi:i<3)(w' w2:World)(h:PE g d now i w')(hw:Wok w2 (g i) (d i))(hk:∀b∈ga g d now i,b≠g i→w2.heap[b]? =w'.heap[b]?):PE g d now i w2:=by
 have hn:=dre_ne h;refine ajy h hw fun b hb=>hk b (by simp only [ga,List.mem_cons] at hb ⊢;exact .inr hb) ?_
 simp only [List.mem_cons,List.not_mem_nil,or_false] at hb;rcases hb with rfl|rfl
 ·exact hn.1
 ·exact hn.2
theorem ph_rst [Bg] (i:Nat)(hi:i<3)(w' w2:World)(h:PH g d now x q i w')(hw:Wok w2 (g i) (d i))(hk:∀b∈ftH g d now x q i,b≠g i→w2.heap[b]? =w'.heap[b]?):PH g d now x q i w2:=by
 have hn:=aie h;refine afq h hw fun b hb=>hk b (by simp only [ftH,List.mem_cons] at hb ⊢;exact .inr hb) ?_
 simp only [List.mem_cons,List.not_mem_nil,or_false] at hb;rcases hb with rfl|rfl|rfl|rfl
 ·exact hn.1
 ·exact hn.2.1
 ·exact hn.2.2.1
 ·exact hn.2.2.2
theorem ve [Bg] (i:Nat)(hi:i<3)(w:World)(h:PE g d now i w):∀b∈ga g d now i,b<w.heap.size:=dre_lt h
theorem aey [Bg] (i:Nat)(hi:i<3)(w:World)(h:PH g d now x q i w):∀b∈ftH g d now x q i,b<w.heap.size:=aib h
theorem ahl [Bg] {N:Nat}(hN:∀i,i<3→∀b∈ga g d now i,b<N)(i:Nat)(hi:i<3)(M:Mem)(w':World)(hA:At GP M.Z M.F M.π (zr.tp M.w w'.tape w'.drawn) (cy w'))(hnz:∀r,M.Has r→¬zb r)(hag:aw N one M.π)(h:PE g d now i M.w):PE g d now i w'∧∀b∈ga g d now i,M.Has b:=
 dre_out hA hnz hag (hN i hi _ (by simp [ga])) (hN i hi _ (by simp [ga])) (hN i hi _ (by simp [ga])) h
theorem ph_out [Bg] {N:Nat}(hN:∀i,i<3→∀b∈ftH g d now x q i,b<N)(i:Nat)(hi:i<3)(M:Mem)(w':World)(hA:At GP M.Z M.F M.π (zr.tp M.w w'.tape w'.drawn) (cy w'))(hnz:∀r,M.Has r→¬zb r)(hag:aw N one M.π)(h:PH g d now x q i M.w):PH g d now x q i w'∧∀b∈ftH g d now x q i,M.Has b:=by
 have hx:M.π.to (x i)=x i:=hag.old (hN i hi _ (by simp [ftH]));have hq:M.π.to (q i)=q i:=hag.old (hN i hi _ (by simp [ftH]));have:=ajm hA hnz hag (hN i hi _ (by simp [ftH])) (hN i hi _ (by simp [ftH])) (hN i hi _ (by simp [ftH])) h;rw [hx,hq] at this;exact this
theorem alq [Bg] (HS:St w bd g d (ga g d now) (PE g d now))(hh:w.heap[hb]? =some (.cells (dx 0 0 0 0) 95 (0,0)))(hn:∀i,i<3→hb∉ga g d now i):
  UCx GP Tryz.prog.funcs 38 #[sO bd 3 cap,.chan none,.func (.func 55) #[] #[pO hb],.agg (fc 4 0)] w (aa4 w (fun i c=>fc 1 0) (fun w2=>St w2 bd g d (ga g d now) (PE g d now)) (ga g d now)):=by
 have H:Fl w bd g d (ga g d now) [bd,hb]:=HS.fl.more fun b hb2=>by
  rw [List.mem_singleton] at hb2;subst hb2;exact ⟨⟨_,_,_,hh⟩,hn⟩
 refine UCx.mono (afm (Rj:=fun j v m=>v= .agg (fc 1 0)∧PE g d now (j-1) m) Tryz.func55 rfl (fun u=>vv u) H rfl (by simp [fc,Value.oneCell']) (fun π'=>rfl) (fun π' ha=> ?_) (fun i hi u hu=> ?_) (fun j v w τ dd h=>⟨h.1,?_⟩) (fun j v w h=>⟨_,h.1,rfl,by simp [fc,Value.oneCell']⟩) (fun i hi v m h=>ac4 h.2)) (adw H (fun i hi v m h=>⟨.bool false,h.1,rfl,h.2⟩) (fun i c π=>rfl) (ahl fun i hi b hb=>by have:=HS.fl.lt i hi b hb;omega) ahu ve)
 ·show Value.func (.func 55) #[] #[pO (π'.to hb)]=_;rw [show π'.to hb=hb from ha _ (bf hh)]
 ·have e:(#[]++ #[Value.int .i64 (i:Int),dk (g i)]++ #[pO hb]:Array Value)=#[.int .i64 i,dk (g i),pO hb]:=by simp
  rw [e];obtain ⟨z',hh'⟩:=hu.row hb ae _ _ _ hh;obtain ⟨kept,k,hw⟩:=tu i hi (HS.dr i hi) hu.own;exact (am4 (idx:=i) hi hh' hw rfl).mono fun e w2 ⟨h1,h2,h3⟩=>⟨_,h1,rfl,kept,k,h2⟩
 ·obtain ⟨kept,k,hw⟩:=h.2;exact ⟨kept,k,WD.tp hw τ dd⟩
theorem aic [Bg] (HS:St w bd g d (ga g d now) (PE g d now))(hc:w.heap[cset]? =some (.cells #[pO s] 28 (0,0)))(hk:w.heap[ck]? =some (.cells #[.string kA] 9 (0,0)))(hs:w.heap[s]? =some (.cells (df dv 2 1 16 ep cn) 41 (0,0)))(hn:∀i,i<3→cset∉ga g d now i∧ck∉ga g d now i∧s∉ga g d now i):
  UCx GP Tryz.prog.funcs 38 #[sO bd 3 cap,.chan none,.func (.func 39) #[] #[pO cset,pO ck],.agg (fc 4 0)] w (aa4 w (fun i c=>fc 1 0) (fun w2=>St w2 bd g d (ga g d now) (PE g d now)) (ga g d now)):=by
 have H:Fl w bd g d (ga g d now) [bd,cset,ck,s]:=HS.fl.more fun b hb2=>by
  simp only [List.mem_cons,List.not_mem_nil,or_false] at hb2;rcases hb2 with rfl|rfl|rfl
  ·exact ⟨⟨_,_,_,hc⟩,fun i hi=>(hn i hi).1⟩
  ·exact ⟨⟨_,_,_,hk⟩,fun i hi=>(hn i hi).2.1⟩
  ·exact ⟨⟨_,_,_,hs⟩,fun i hi=>(hn i hi).2.2⟩
 refine UCx.mono (afm (Rj:=fun j v m=>v= .agg (fc 1 0)∧PE g d now (j-1) m) Tryz.func39 rfl (fun u=>vv u) H rfl (by simp [fc,Value.oneCell']) (fun π'=>rfl) (fun π' ha=> ?_) (fun i hi u hu=> ?_) (fun j v w τ dd h=>⟨h.1,?_⟩) (fun j v w h=>⟨_,h.1,rfl,by simp [fc,Value.oneCell']⟩) (fun i hi v m h=>ac4 h.2)) (adw H (fun i hi v m h=>⟨.bool false,h.1,rfl,h.2⟩) (fun i c π=>rfl) (ahl fun i hi b hb=>by have:=HS.fl.lt i hi b hb;omega) ahu ve)
 ·show Value.func (.func 39) #[] #[pO (π'.to cset),pO (π'.to ck)]=_;rw [show π'.to cset=cset from ha _ (bf hc),show π'.to ck=ck from ha _ (bf hk)]
 ·have e:(#[]++ #[Value.int .i64 (i:Int),dk (g i)]++ #[pO cset,pO ck]:Array Value)=#[.int .i64 i,dk (g i),pO cset,pO ck]:=by simp
  rw [e];obtain ⟨zc,hc'⟩:=hu.row cset ae _ _ _ hc;obtain ⟨zk,hk'⟩:=hu.row ck ae _ _ _ hk;obtain ⟨zs,hs'⟩:=hu.row s ae _ _ _ hs;have hP:=tu i hi (HS.dr i hi) hu.own;have hlt:=ve i hi _ hP;have hne:=hn i hi;refine (ail (RJ:=fun cs m=>cs=fc 1 0∧PE g d now i m) (idx:=i) hi hc' hk' hs' (fun y hy=> ?_) (hlt _ (by simp [ga])) ⟨fun e=>hne.1 (by simp [ga,e]),fun e=>hne.2.1 (by simp [ga,e]),fun e=>hne.2.2 (by simp [ga,e])⟩ fun b cs m m3 hb h hk3=>⟨h.1,?_⟩).mono fun e w2 ⟨_,cs,h1,h2,h3,⟨h4,h5⟩,h6⟩=>⟨_,h1,by rw [h4],h5⟩
  ·obtain ⟨kept,k,hw⟩:=tu i hi hP fun b hb=>hy.ff b (hlt b hb) ae
   exact (ah5 (idx:=i) hw rfl).mono fun e w2 ⟨h1,h2,h3⟩=>⟨⟨_,h1⟩,fc 1 0,h1,rfl,by simp [fc,Value.oneCell'],⟨rfl,kept,k,h2⟩,h3⟩
  ·have hlm:=ve i hi _ h.2;refine tu i hi h.2 fun c hc2=>hk3.ff c (hlm c hc2) ?_
   have:=hlt c hc2;simp;omega
 ·obtain ⟨kept,k,hw⟩:=h.2;exact ⟨kept,k,WD.tp hw τ dd⟩
theorem ahe [Bg] (HS:St w bd g d (ftH g d now x q) (PH g d now x q))(hc:w.heap[cset]? =some (.cells #[pO s] 28 (0,0)))(hk:w.heap[ck]? =some (.cells #[.string kA] 9 (0,0)))(hs:w.heap[s]? =some (.cells (df dv 2 1 16 ep cn) 41 (0,0)))(hn:∀i,i<3→cset∉ftH g d now x q i∧ck∉ftH g d now x q i∧s∉ftH g d now x q i):
  UCx GP Tryz.prog.funcs 38 #[sO bd 3 cap,.chan none,.func (.func 39) #[] #[pO cset,pO ck],.agg (fc 4 0)] w (aa4 w (fun i c=>snS i c) (fun w2=>St w2 bd g d (ftH g d now x q) (PH g d now x q)) (ftH g d now x q)):=by
 have H:Fl w bd g d (ftH g d now x q) [bd,cset,ck,s]:=HS.fl.more fun b hb2=>by
  simp only [List.mem_cons,List.not_mem_nil,or_false] at hb2;rcases hb2 with rfl|rfl|rfl
  ·exact ⟨⟨_,_,_,hc⟩,fun i hi=>(hn i hi).1⟩
  ·exact ⟨⟨_,_,_,hk⟩,fun i hi=>(hn i hi).2.1⟩
  ·exact ⟨⟨_,_,_,hs⟩,fun i hi=>(hn i hi).2.2⟩
 have htp:∀i m τ dd,PH g d now x q i m→PH g d now x q i (zr.tp m τ dd):=fun i m τ dd h=>by
  obtain ⟨kept,k,k',cp,ch,hw,hb,ho,hl,hx⟩:=h;exact ⟨kept,k,k',cp,ch,WD.tp hw τ dd,hb,ho,hl,hx⟩
 refine UCx.mono (afm (Rj:=fun j v m=>(∃qq cc,v= .agg (snS (j-1:Nat) (sO qq 1 cc)))∧PH g d now x q (j-1) m) Tryz.func39 rfl (fun u=>vv u) H rfl (by simp [fc,Value.oneCell']) (fun π'=>rfl) (fun π' ha=> ?_) (fun i hi u hu=> ?_) (fun j v w τ dd h=>⟨h.1,htp _ _ _ _ h.2⟩) (fun j v w h=>by
  obtain ⟨⟨qq,cc,hv⟩,-⟩:=h;exact ⟨_,hv,rfl,by simp [snS,Value.oneCell']⟩) (fun i hi v m h=>afl h.2)) (adw H (fun i hi v m h=>by
  obtain ⟨⟨qq,cc,hv⟩,h2⟩:=h;exact ⟨_,hv,rfl,h2⟩) (fun i c π=>rfl) (ph_out fun i hi b hb=>by have:=HS.fl.lt i hi b hb;omega) ph_rst aey)
 ·show Value.func (.func 39) #[] #[pO (π'.to cset),pO (π'.to ck)]=_;rw [show π'.to cset=cset from ha _ (bf hc),show π'.to ck=ck from ha _ (bf hk)]
 ·have e:(#[]++ #[Value.int .i64 (i:Int),dk (g i)]++ #[pO cset,pO ck]:Array Value)=#[.int .i64 i,dk (g i),pO cset,pO ck]:=by simp
  rw [e];obtain ⟨zc,hc'⟩:=hu.row cset ae _ _ _ hc;obtain ⟨zk,hk'⟩:=hu.row ck ae _ _ _ hk;obtain ⟨zs,hs'⟩:=hu.row s ae _ _ _ hs;have hP:=zg i hi (HS.dr i hi) hu.own;have hlt:=aey i hi _ hP;have hne:=hn i hi;refine (ail (RJ:=fun cs m=>(∃qq cc,cs=snS i (sO qq 1 cc))∧PH g d now x q i m) (idx:=i) hi hc' hk' hs' (fun y hy=> ?_) (hlt _ (by simp [ftH])) ⟨fun e=>hne.1 (by simp [ftH,e]),fun e=>hne.2.1 (by simp [ftH,e]),fun e=>hne.2.2 (by simp [ftH,e])⟩ fun b cs m m3 hb h hk3=>⟨h.1,?_⟩).mono fun e w2 ⟨_,cs,h1,h2,h3,⟨⟨qq,cc,h4⟩,h5⟩,h6⟩=>⟨_,h1,⟨qq,cc,by rw [h4];rfl⟩,h5⟩
  ·have hY:=zg i hi hP fun b hb=>hy.ff b (hlt b hb) ae
   have hne2:=aie hY;have hlY:=aey i hi _ hY;obtain ⟨kept,k,k',cp,ch,hw,hbd,ho,hl,hx⟩:=id hY;refine (blook_ok (idx:=i) hi hw (i:=0) rfl hbd hne2.2.2.1 ho (by simp [blk,Value.ownBlock];exact fun e=>hne2.2.2.2 e.symm) hl hx).mono fun e w2 ⟨_,qq,cc,h1,h2,h3⟩=>⟨⟨_,h1⟩,_,h1,rfl,by simp [snS,Value.oneCell'],⟨⟨qq,cc,rfl⟩,?_⟩,h3⟩
   refine afq hY (aeu h2) fun b hb=>h3.ff b (hlY b (by simp only [ftH,List.mem_cons] at hb ⊢;exact .inr hb)) ?_
   simp only [List.mem_cons,List.not_mem_nil,or_false] at hb ⊢;rcases hb with rfl|rfl|rfl|rfl
   ·exact hne2.1
   ·exact hne2.2.1
   ·exact hne2.2.2.1
   ·exact hne2.2.2.2
  ·have hlm:=aey i hi _ h.2;refine zg i hi h.2 fun c hc2=>hk3.ff c (hlm c hc2) ?_
   have:=hlt c hc2;simp;omega
end
end Go.Proofs.YthgpdljlehklhaaGreat.rn
namespace Go.Proofs.YthgpdljlehklhaaGreat.wk
open Go Go.Conc zr dr wd drv
set_option linter.unusedVariables false
set_option maxHeartbeats 4000000
def tacc (b acc x:Int)(i:Nat):Int:=if bits .and .u8 (b / 2 ^ i) 1==1 then bits .xor .i64 acc x else acc
def tdbl (x:Int):Int:=if decide (255<IntKind.i64.wrap (x*2)) then bits .xor .i64 (IntKind.i64.wrap (x*2)) 285 else IntKind.i64.wrap (x*2)
def tmI (a b:Int):Nat→Int×Int
 |0=>(0,IntKind.i64.wrap a)
 |i+1=>(tacc b (tmI a b i).1 (tmI a b i).2 i,tdbl (tmI a b i).2)
def tmF (a b:Int):Int:=IntKind.u8.wrap (tmI a b 8).1
section
variable {w w1 w2:World}{a b acc x:Int}{i:Nat}
noncomputable def tmB:Code:=inL (inB (sR (sL (sR (sR (Tryz.f128.body.getD .skip))))))
theorem nh {R:Ending→World→Prop}{K:List Item}{a:Act}(hi:i<8)(hsz:a.tmps.size=30∧a.defers=[])(v1:a.eval (.tmp 1)= .int .u8 b)(v5:a.eval (.tmp 5)= .int .i64 acc)(v6:a.eval (.tmp 6)= .int .i64 x)(v10:a.eval (.tmp 10)= .int .i64 i)
  (hk:∀a1:Act,(a1.tmps.size=30∧a1.defers=[])→a1.eval (.tmp 1)= .int .u8 b→a1.eval (.tmp 5)= .int .i64 (tacc b acc x i)→a1.eval (.tmp 6)= .int .i64 (tdbl x)→a1.eval (.tmp 10)= .int .i64 ((i+1:Nat):Int)→ad GP R (bF 128) a1 K w):ad GP R (bF 128) a (.code tmB::K) w:=by
 have h8:decide ((i:Int)<8)=true:=by simp;omega
 have h9:IntKind.i64.wrap ((i:Int)+1)=((i+1:Nat):Int):=by
  unfold IntKind.wrap;simp [IntKind.bits,IntKind.signed];omega
 unfold tmB;simp only [Tryz.f128,Option.getD_some,inL,inB,sR,sL];refine au ?_;refine ad.ite1 (t:=bits .and .u8 (b / 2 ^ i) 1==1) (fun t a1=>(a1.tmps.size=30∧a1.defers=[])∧a1.eval (.tmp 1)= .int .u8 b∧a1.eval (.tmp 5)= .int .i64 (if t then bits .xor .i64 acc x else acc)∧a1.eval (.tmp 6)= .int .i64 x∧a1.eval (.tmp 10)= .int .i64 i) aj (fun ht k2 hk2=> ?_) (fun ht k2 hk2=> ?_) fun a1 ⟨hsz,v1,v5,v6,v10⟩=> ?_
 ·refine au ?_;exact hk2 _ ⟨by simp [hsz],aj,aj,aj,aj⟩
 ·refine au ?_;exact hk2 _ ⟨by simp [hsz],aj,aj,aj,aj⟩
 refine au ?_;refine ad.ite1 (t:=decide (255<IntKind.i64.wrap (x*2))) (fun t a1=>(a1.tmps.size=30∧a1.defers=[])∧a1.eval (.tmp 1)= .int .u8 b∧a1.eval (.tmp 5)= .int .i64 (tacc b acc x i)∧a1.eval (.tmp 6)= .int .i64 (if t then bits .xor .i64 (IntKind.i64.wrap (x*2)) 285 else IntKind.i64.wrap (x*2))∧a1.eval (.tmp 10)= .int .i64 i) aj (fun ht k2 hk2=> ?_) (fun ht k2 hk2=> ?_) fun a1 ⟨hsz,v1,v5,v6,v10⟩=> ?_
 ·refine au ?_;exact hk2 _ ⟨by simp [hsz],aj,et,aj,aj⟩
 ·refine au ?_;exact hk2 _ ⟨by simp [hsz],aj,et,aj,aj⟩
 refine au ?_;exact hk _ bz aj aj et (by refine zes ?_;simp)
theorem fe {a0:Int}:Calls GP 128 #[.int .u8 a0,.int .u8 b] w fun e w2=>e= .returned (.int .u8 (tmF a0 b))∧w2=w:=by
 refine dn 128 30 Tryz.func128 fun a hf hsz hv=> ?_
 obtain ⟨v0,v1,-⟩:=ir hv;clear hv;refine au ?_;apply ad.loop;refine nh (b:=b) (acc:=0) (x:=IntKind.i64.wrap a0) (i:=0) ai bz aj aj aj et fun a1 hsz v1 v5 v6 v10=>ad.inLoop ?_
 refine nh (i:=1) ai hsz v1 v5 v6 v10 fun a1 hsz v1 v5 v6 v10=>ad.inLoop ?_
 refine nh (i:=2) ai hsz v1 v5 v6 v10 fun a1 hsz v1 v5 v6 v10=>ad.inLoop ?_
 refine nh (i:=3) ai hsz v1 v5 v6 v10 fun a1 hsz v1 v5 v6 v10=>ad.inLoop ?_
 refine nh (i:=4) ai hsz v1 v5 v6 v10 fun a1 hsz v1 v5 v6 v10=>ad.inLoop ?_
 refine nh (i:=5) ai hsz v1 v5 v6 v10 fun a1 hsz v1 v5 v6 v10=>ad.inLoop ?_
 refine nh (i:=6) ai hsz v1 v5 v6 v10 fun a1 hsz v1 v5 v6 v10=>ad.inLoop ?_
 refine nh (i:=7) ai hsz v1 v5 v6 v10 fun a1 hsz v1 v5 v6 v10=>ad.inLoop ?_
 have v10:a1.eval (.tmp 10)= .int .i64 8:=v10;refine au ?_;exact ad.dq rfl hf rfl bz (v:= .int .u8 (tmF a0 b)) et ⟨rfl,rfl⟩
end
section
variable {w w1 w2:World}
theorem apl:tmF 1 2=2:=by decide+kernel
theorem ap8:Calls GP 128 #[.int .u8 1,.int .u8 2] w fun e w2=>e= .returned (.int .u8 2)∧w2=w:=by
 have:=fe (w:=w) (a0:=1) (b:=2)
 rwa [apl] at this
theorem apm:tmF 1 4=4:=by decide+kernel
theorem ap9:Calls GP 128 #[.int .u8 1,.int .u8 4] w fun e w2=>e= .returned (.int .u8 4)∧w2=w:=by
 have:=fe (w:=w) (a0:=1) (b:=4)
 rwa [apm] at this
theorem apn:tmF 1 5=5:=by decide+kernel
theorem aqa:Calls GP 128 #[.int .u8 1,.int .u8 5] w fun e w2=>e= .returned (.int .u8 5)∧w2=w:=by
 have:=fe (w:=w) (a0:=1) (b:=5)
 rwa [apn] at this
theorem apr:tmF 2 1=2:=by decide+kernel
theorem aqb:Calls GP 128 #[.int .u8 2,.int .u8 1] w fun e w2=>e= .returned (.int .u8 2)∧w2=w:=by
 have:=fe (w:=w) (a0:=2) (b:=1)
 rwa [apr] at this
theorem aps:tmF 2 2=4:=by decide+kernel
theorem aqc:Calls GP 128 #[.int .u8 2,.int .u8 2] w fun e w2=>e= .returned (.int .u8 4)∧w2=w:=by
 have:=fe (w:=w) (a0:=2) (b:=2)
 rwa [aps] at this
theorem apt:tmF 2 3=6:=by decide+kernel
theorem aqd:Calls GP 128 #[.int .u8 2,.int .u8 3] w fun e w2=>e= .returned (.int .u8 6)∧w2=w:=by
 have:=fe (w:=w) (a0:=2) (b:=3)
 rwa [apt] at this
theorem apu:tmF 3 1=3:=by decide+kernel
theorem aqe:Calls GP 128 #[.int .u8 3,.int .u8 1] w fun e w2=>e= .returned (.int .u8 3)∧w2=w:=by
 have:=fe (w:=w) (a0:=3) (b:=1)
 rwa [apu] at this
theorem apv:tmF 3 3=5:=by decide+kernel
theorem aqf:Calls GP 128 #[.int .u8 3,.int .u8 3] w fun e w2=>e= .returned (.int .u8 5)∧w2=w:=by
 have:=fe (w:=w) (a0:=3) (b:=3)
 rwa [apv] at this
theorem apx:tmF 4 4=16:=by decide+kernel
theorem aqh:Calls GP 128 #[.int .u8 4,.int .u8 4] w fun e w2=>e= .returned (.int .u8 16)∧w2=w:=by
 have:=fe (w:=w) (a0:=4) (b:=4)
 rwa [apx] at this
theorem apw:tmF 4 16=64:=by decide+kernel
theorem aqg:Calls GP 128 #[.int .u8 4,.int .u8 16] w fun e w2=>e= .returned (.int .u8 64)∧w2=w:=by
 have:=fe (w:=w) (a0:=4) (b:=16)
 rwa [apw] at this
theorem apz:tmF 5 5=17:=by decide+kernel
theorem aqj:Calls GP 128 #[.int .u8 5,.int .u8 5] w fun e w2=>e= .returned (.int .u8 17)∧w2=w:=by
 have:=fe (w:=w) (a0:=5) (b:=5)
 rwa [apz] at this
theorem apy:tmF 5 17=85:=by decide+kernel
theorem aqi:Calls GP 128 #[.int .u8 5,.int .u8 17] w fun e w2=>e= .returned (.int .u8 85)∧w2=w:=by
 have:=fe (w:=w) (a0:=5) (b:=17)
 rwa [apy] at this
theorem ap1:tmF 6 142=3:=by decide+kernel
theorem amv:Calls GP 128 #[.int .u8 6,.int .u8 142] w fun e w2=>e= .returned (.int .u8 3)∧w2=w:=by
 have:=fe (w:=w) (a0:=6) (b:=142)
 rwa [ap1] at this
theorem ap2:tmF 6 244=2:=by decide+kernel
theorem ao1:Calls GP 128 #[.int .u8 6,.int .u8 244] w fun e w2=>e= .returned (.int .u8 2)∧w2=w:=by
 have:=fe (w:=w) (a0:=6) (b:=244)
 rwa [ap2] at this
theorem api:tmF 16 16=29:=by decide+kernel
theorem aok:Calls GP 128 #[.int .u8 16,.int .u8 16] w fun e w2=>e= .returned (.int .u8 29)∧w2=w:=by
 have:=fe (w:=w) (a0:=16) (b:=16)
 rwa [api] at this
theorem apj:tmF 17 17=28:=by decide+kernel
theorem am9:Calls GP 128 #[.int .u8 17,.int .u8 17] w fun e w2=>e= .returned (.int .u8 28)∧w2=w:=by
 have:=fe (w:=w) (a0:=17) (b:=17)
 rwa [apj] at this
theorem apk:tmF 19 76=96:=by decide+kernel
theorem anl:Calls GP 128 #[.int .u8 19,.int .u8 76] w fun e w2=>e= .returned (.int .u8 96)∧w2=w:=by
 have:=fe (w:=w) (a0:=19) (b:=76)
 rwa [apk] at this
theorem apo:tmF 28 28=77:=by decide+kernel
theorem ant:Calls GP 128 #[.int .u8 28,.int .u8 28] w fun e w2=>e= .returned (.int .u8 77)∧w2=w:=by
 have:=fe (w:=w) (a0:=28) (b:=28)
 rwa [apo] at this
theorem apq:tmF 29 29=76:=by decide+kernel
theorem an7:Calls GP 128 #[.int .u8 29,.int .u8 29] w fun e w2=>e= .returned (.int .u8 76)∧w2=w:=by
 have:=fe (w:=w) (a0:=29) (b:=29)
 rwa [apq] at this
theorem ami:tmF 44 156=180:=by decide+kernel
theorem akm:Calls GP 128 #[.int .u8 44,.int .u8 156] w fun e w2=>e= .returned (.int .u8 180)∧w2=w:=by
 have:=fe (w:=w) (a0:=44) (b:=156)
 rwa [ami] at this
theorem ap0:tmF 64 29=19:=by decide+kernel
theorem aox:Calls GP 128 #[.int .u8 64,.int .u8 29] w fun e w2=>e= .returned (.int .u8 19)∧w2=w:=by
 have:=fe (w:=w) (a0:=64) (b:=29)
 rwa [ap0] at this
theorem ap3:tmF 76 76=157:=by decide+kernel
theorem anq:Calls GP 128 #[.int .u8 76,.int .u8 76] w fun e w2=>e= .returned (.int .u8 157)∧w2=w:=by
 have:=fe (w:=w) (a0:=76) (b:=76)
 rwa [ap3] at this
theorem ap4:tmF 77 77=156:=by decide+kernel
theorem anv:Calls GP 128 #[.int .u8 77,.int .u8 77] w fun e w2=>e= .returned (.int .u8 156)∧w2=w:=by
 have:=fe (w:=w) (a0:=77) (b:=77)
 rwa [ap4] at this
theorem ap5:tmF 85 28=226:=by decide+kernel
theorem ang:Calls GP 128 #[.int .u8 85,.int .u8 28] w fun e w2=>e= .returned (.int .u8 226)∧w2=w:=by
 have:=fe (w:=w) (a0:=85) (b:=28)
 rwa [ap5] at this
theorem ap6:tmF 94 94=132:=by decide+kernel
theorem anw:Calls GP 128 #[.int .u8 94,.int .u8 94] w fun e w2=>e= .returned (.int .u8 132)∧w2=w:=by
 have:=fe (w:=w) (a0:=94) (b:=94)
 rwa [ap6] at this
theorem ap7:tmF 95 95=133:=by decide+kernel
theorem ani:Calls GP 128 #[.int .u8 95,.int .u8 95] w fun e w2=>e= .returned (.int .u8 133)∧w2=w:=by
 have:=fe (w:=w) (a0:=95) (b:=95)
 rwa [ap7] at this
theorem amk:tmF 96 157=222:=by decide+kernel
theorem al6:Calls GP 128 #[.int .u8 96,.int .u8 157] w fun e w2=>e= .returned (.int .u8 222)∧w2=w:=by
 have:=fe (w:=w) (a0:=96) (b:=157)
 rwa [amk] at this
theorem ak1:tmF 102 133=142:=by decide+kernel
theorem aiy:Calls GP 128 #[.int .u8 102,.int .u8 133] w fun e w2=>e= .returned (.int .u8 142)∧w2=w:=by
 have:=fe (w:=w) (a0:=102) (b:=133)
 rwa [ak1] at this
theorem al0:tmF 132 132=3:=by decide+kernel
theorem ai5:Calls GP 128 #[.int .u8 132,.int .u8 132] w fun e w2=>e= .returned (.int .u8 3)∧w2=w:=by
 have:=fe (w:=w) (a0:=132) (b:=132)
 rwa [al0] at this
theorem al1:tmF 133 133=2:=by decide+kernel
theorem aje:Calls GP 128 #[.int .u8 133,.int .u8 133] w fun e w2=>e= .returned (.int .u8 2)∧w2=w:=by
 have:=fe (w:=w) (a0:=133) (b:=133)
 rwa [al1] at this
theorem ali:tmF 156 156=94:=by decide+kernel
theorem ai9:Calls GP 128 #[.int .u8 156,.int .u8 156] w fun e w2=>e= .returned (.int .u8 94)∧w2=w:=by
 have:=fe (w:=w) (a0:=156) (b:=156)
 rwa [ali] at this
theorem alo:tmF 157 157=95:=by decide+kernel
theorem ai6:Calls GP 128 #[.int .u8 157,.int .u8 157] w fun e w2=>e= .returned (.int .u8 95)∧w2=w:=by
 have:=fe (w:=w) (a0:=157) (b:=157)
 rwa [alo] at this
theorem anr:tmF 180 94=223:=by decide+kernel
theorem alj:Calls GP 128 #[.int .u8 180,.int .u8 94] w fun e w2=>e= .returned (.int .u8 223)∧w2=w:=by
 have:=fe (w:=w) (a0:=180) (b:=94)
 rwa [anr] at this
theorem ank:tmF 222 95=102:=by decide+kernel
theorem ale:Calls GP 128 #[.int .u8 222,.int .u8 95] w fun e w2=>e= .returned (.int .u8 102)∧w2=w:=by
 have:=fe (w:=w) (a0:=222) (b:=95)
 rwa [ank] at this
theorem al3:tmF 223 132=244:=by decide+kernel
theorem ai2:Calls GP 128 #[.int .u8 223,.int .u8 132] w fun e w2=>e= .returned (.int .u8 244)∧w2=w:=by
 have:=fe (w:=w) (a0:=223) (b:=132)
 rwa [al3] at this
theorem an1:tmF 226 77=44:=by decide+kernel
theorem alz:Calls GP 128 #[.int .u8 226,.int .u8 77] w fun e w2=>e= .returned (.int .u8 44)∧w2=w:=by
 have:=fe (w:=w) (a0:=226) (b:=77)
 rwa [an1] at this
theorem pow_2:Calls GP 180 #[.int .u8 2,.int .i64 254] w fun e w2=>e= .returned (.int .u8 142)∧w2=w:=by
 refine dn 180 32 Tryz.func180 fun a hf hsz hv=> ?_
 obtain ⟨v0,v1,-⟩:=ir hv;clear hv;refine au ?_;apply ad.loop;refine au ?_;refine bt 128 aqc fun v w2 hr=> ?_
 obtain ⟨hv,e⟩:=hr;obtain rfl:=bh hv;have e:=e.symm;subst e;refine au ?_;refine kl [0,1,5] fun a1 hsz hK=> ?_;obtain ⟨v0,v1,v5,-⟩:=hK
 apply ad.inLoop;refine au ?_;refine bt 128 ap9 fun v w2 hr=> ?_
 obtain ⟨hv,e⟩:=hr;obtain rfl:=bh hv;have e:=e.symm;subst e;refine au ?_;refine bt 128 aqh fun v w2 hr=> ?_
 obtain ⟨hv,e⟩:=hr;obtain rfl:=bh hv;have e:=e.symm;subst e;refine au ?_;refine kl [0,1,5] fun a1 hsz hK=> ?_;obtain ⟨v0,v1,v5,-⟩:=hK
 apply ad.inLoop;refine au ?_;refine bt 128 aqg fun v w2 hr=> ?_
 obtain ⟨hv,e⟩:=hr;obtain rfl:=bh hv;have e:=e.symm;subst e;refine au ?_;refine bt 128 aok fun v w2 hr=> ?_
 obtain ⟨hv,e⟩:=hr;obtain rfl:=bh hv;have e:=e.symm;subst e;refine au ?_;refine kl [0,1,5] fun a1 hsz hK=> ?_;obtain ⟨v0,v1,v5,-⟩:=hK
 apply ad.inLoop;refine au ?_;refine bt 128 aox fun v w2 hr=> ?_
 obtain ⟨hv,e⟩:=hr;obtain rfl:=bh hv;have e:=e.symm;subst e;refine au ?_;refine bt 128 an7 fun v w2 hr=> ?_
 obtain ⟨hv,e⟩:=hr;obtain rfl:=bh hv;have e:=e.symm;subst e;refine au ?_;refine kl [0,1,5] fun a1 hsz hK=> ?_;obtain ⟨v0,v1,v5,-⟩:=hK
 apply ad.inLoop;refine au ?_;refine bt 128 anl fun v w2 hr=> ?_
 obtain ⟨hv,e⟩:=hr;obtain rfl:=bh hv;have e:=e.symm;subst e;refine au ?_;refine bt 128 anq fun v w2 hr=> ?_
 obtain ⟨hv,e⟩:=hr;obtain rfl:=bh hv;have e:=e.symm;subst e;refine au ?_;refine kl [0,1,5] fun a1 hsz hK=> ?_;obtain ⟨v0,v1,v5,-⟩:=hK
 apply ad.inLoop;refine au ?_;refine bt 128 al6 fun v w2 hr=> ?_
 obtain ⟨hv,e⟩:=hr;obtain rfl:=bh hv;have e:=e.symm;subst e;refine au ?_;refine bt 128 ai6 fun v w2 hr=> ?_
 obtain ⟨hv,e⟩:=hr;obtain rfl:=bh hv;have e:=e.symm;subst e;refine au ?_;refine kl [0,1,5] fun a1 hsz hK=> ?_;obtain ⟨v0,v1,v5,-⟩:=hK
 apply ad.inLoop;refine au ?_;refine bt 128 ale fun v w2 hr=> ?_
 obtain ⟨hv,e⟩:=hr;obtain rfl:=bh hv;have e:=e.symm;subst e;refine au ?_;refine bt 128 ani fun v w2 hr=> ?_
 obtain ⟨hv,e⟩:=hr;obtain rfl:=bh hv;have e:=e.symm;subst e;refine au ?_;refine kl [0,1,5] fun a1 hsz hK=> ?_;obtain ⟨v0,v1,v5,-⟩:=hK
 apply ad.inLoop;refine au ?_;refine bt 128 aiy fun v w2 hr=> ?_
 obtain ⟨hv,e⟩:=hr;obtain rfl:=bh hv;have e:=e.symm;subst e;refine au ?_;refine bt 128 aje fun v w2 hr=> ?_
 obtain ⟨hv,e⟩:=hr;obtain rfl:=bh hv;have e:=e.symm;subst e;refine au ?_;refine kl [0,1,5] fun a1 hsz hK=> ?_;obtain ⟨v0,v1,v5,-⟩:=hK
 apply ad.inLoop;refine au ?_;exact ad.dq rfl hf rfl bz aj ⟨rfl,rfl⟩
theorem inv_2:Calls GP 149 #[.int .u8 2] w fun e w2=>e= .returned (.tuple #[.int .u8 142,.bool true])∧w2=w:=by
 refine dn 149 8 Tryz.func149 fun a hf hsz hv=> ?_
 obtain ⟨v0,-⟩:=ie hv;clear hv;refine au ?_;refine bt 180 pow_2 fun v w2 hr=> ?_
 obtain ⟨hv,e⟩:=hr;obtain rfl:=bh hv;have e:=e.symm;subst e;refine au ?_;exact ad.qs rfl hf rfl bz aj aj ⟨rfl,rfl⟩
theorem apa:Calls GP 129 #[.int .u8 6,.int .u8 2] w fun e w2=>e= .returned (.tuple #[.int .u8 3,.int .i64 0])∧w2=w:=by
 refine dn 129 18 Tryz.func129 fun a hf hsz hv=> ?_
 obtain ⟨v0,v1,-⟩:=ir hv;clear hv;refine au ?_;refine bt 149 inv_2 fun v w2 hr=> ?_
 obtain ⟨hv,e⟩:=hr;obtain rfl:=bh hv;have e:=e.symm;subst e;refine au ?_;refine bt 128 amv fun v w2 hr=> ?_
 obtain ⟨hv,e⟩:=hr;obtain rfl:=bh hv;have e:=e.symm;subst e;refine au ?_;exact ad.qs rfl hf rfl bz aj aj ⟨rfl,rfl⟩
theorem pow_3:Calls GP 180 #[.int .u8 3,.int .i64 254] w fun e w2=>e= .returned (.int .u8 244)∧w2=w:=by
 refine dn 180 32 Tryz.func180 fun a hf hsz hv=> ?_
 obtain ⟨v0,v1,-⟩:=ir hv;clear hv;refine au ?_;apply ad.loop;refine au ?_;refine bt 128 aqf fun v w2 hr=> ?_
 obtain ⟨hv,e⟩:=hr;obtain rfl:=bh hv;have e:=e.symm;subst e;refine au ?_;refine kl [0,1,5] fun a1 hsz hK=> ?_;obtain ⟨v0,v1,v5,-⟩:=hK
 apply ad.inLoop;refine au ?_;refine bt 128 aqa fun v w2 hr=> ?_
 obtain ⟨hv,e⟩:=hr;obtain rfl:=bh hv;have e:=e.symm;subst e;refine au ?_;refine bt 128 aqj fun v w2 hr=> ?_
 obtain ⟨hv,e⟩:=hr;obtain rfl:=bh hv;have e:=e.symm;subst e;refine au ?_;refine kl [0,1,5] fun a1 hsz hK=> ?_;obtain ⟨v0,v1,v5,-⟩:=hK
 apply ad.inLoop;refine au ?_;refine bt 128 aqi fun v w2 hr=> ?_
 obtain ⟨hv,e⟩:=hr;obtain rfl:=bh hv;have e:=e.symm;subst e;refine au ?_;refine bt 128 am9 fun v w2 hr=> ?_
 obtain ⟨hv,e⟩:=hr;obtain rfl:=bh hv;have e:=e.symm;subst e;refine au ?_;refine kl [0,1,5] fun a1 hsz hK=> ?_;obtain ⟨v0,v1,v5,-⟩:=hK
 apply ad.inLoop;refine au ?_;refine bt 128 ang fun v w2 hr=> ?_
 obtain ⟨hv,e⟩:=hr;obtain rfl:=bh hv;have e:=e.symm;subst e;refine au ?_;refine bt 128 ant fun v w2 hr=> ?_
 obtain ⟨hv,e⟩:=hr;obtain rfl:=bh hv;have e:=e.symm;subst e;refine au ?_;refine kl [0,1,5] fun a1 hsz hK=> ?_;obtain ⟨v0,v1,v5,-⟩:=hK
 apply ad.inLoop;refine au ?_;refine bt 128 alz fun v w2 hr=> ?_
 obtain ⟨hv,e⟩:=hr;obtain rfl:=bh hv;have e:=e.symm;subst e;refine au ?_;refine bt 128 anv fun v w2 hr=> ?_
 obtain ⟨hv,e⟩:=hr;obtain rfl:=bh hv;have e:=e.symm;subst e;refine au ?_;refine kl [0,1,5] fun a1 hsz hK=> ?_;obtain ⟨v0,v1,v5,-⟩:=hK
 apply ad.inLoop;refine au ?_;refine bt 128 akm fun v w2 hr=> ?_
 obtain ⟨hv,e⟩:=hr;obtain rfl:=bh hv;have e:=e.symm;subst e;refine au ?_;refine bt 128 ai9 fun v w2 hr=> ?_
 obtain ⟨hv,e⟩:=hr;obtain rfl:=bh hv;have e:=e.symm;subst e;refine au ?_;refine kl [0,1,5] fun a1 hsz hK=> ?_;obtain ⟨v0,v1,v5,-⟩:=hK
 apply ad.inLoop;refine au ?_;refine bt 128 alj fun v w2 hr=> ?_
 obtain ⟨hv,e⟩:=hr;obtain rfl:=bh hv;have e:=e.symm;subst e;refine au ?_;refine bt 128 anw fun v w2 hr=> ?_
 obtain ⟨hv,e⟩:=hr;obtain rfl:=bh hv;have e:=e.symm;subst e;refine au ?_;refine kl [0,1,5] fun a1 hsz hK=> ?_;obtain ⟨v0,v1,v5,-⟩:=hK
 apply ad.inLoop;refine au ?_;refine bt 128 ai2 fun v w2 hr=> ?_
 obtain ⟨hv,e⟩:=hr;obtain rfl:=bh hv;have e:=e.symm;subst e;refine au ?_;refine bt 128 ai5 fun v w2 hr=> ?_
 obtain ⟨hv,e⟩:=hr;obtain rfl:=bh hv;have e:=e.symm;subst e;refine au ?_;refine kl [0,1,5] fun a1 hsz hK=> ?_;obtain ⟨v0,v1,v5,-⟩:=hK
 apply ad.inLoop;refine au ?_;exact ad.dq rfl hf rfl bz aj ⟨rfl,rfl⟩
theorem inv_3:Calls GP 149 #[.int .u8 3] w fun e w2=>e= .returned (.tuple #[.int .u8 244,.bool true])∧w2=w:=by
 refine dn 149 8 Tryz.func149 fun a hf hsz hv=> ?_
 obtain ⟨v0,-⟩:=ie hv;clear hv;refine au ?_;refine bt 180 pow_3 fun v w2 hr=> ?_
 obtain ⟨hv,e⟩:=hr;obtain rfl:=bh hv;have e:=e.symm;subst e;refine au ?_;exact ad.qs rfl hf rfl bz aj aj ⟨rfl,rfl⟩
theorem apb:Calls GP 129 #[.int .u8 6,.int .u8 3] w fun e w2=>e= .returned (.tuple #[.int .u8 2,.int .i64 0])∧w2=w:=by
 refine dn 129 18 Tryz.func129 fun a hf hsz hv=> ?_
 obtain ⟨v0,v1,-⟩:=ir hv;clear hv;refine au ?_;refine bt 149 inv_3 fun v w2 hr=> ?_
 obtain ⟨hv,e⟩:=hr;obtain rfl:=bh hv;have e:=e.symm;subst e;refine au ?_;refine bt 128 ao1 fun v w2 hr=> ?_
 obtain ⟨hv,e⟩:=hr;obtain rfl:=bh hv;have e:=e.symm;subst e;refine au ?_;exact ad.qs rfl hf rfl bz aj aj ⟨rfl,rfl⟩
end
section
variable {w w1 w2:World}
theorem mk200 (w:World):(Instr.makeSlice 200 (.int .i64 2) (.int .i64 2)).run GP w= .ok (sO w.heap.size 2 2) (w.alloc (.cells #[.slice none 0 0,.slice none 0 0] 204)):=by kernel_rfl
theorem acv (w:World):(Instr.makeSlice 204 (.int .i64 2) (.int .i64 2)).run GP w= .ok (sO w.heap.size 2 2) (w.alloc (.cells #[.int .u8 0,.int .u8 0] 203)):=by kernel_rfl
structure M22 (w w2:World)(z r0 r1:Nat)(a b c d:Int):Prop where
 hz:w2.heap[z]? =some (.cells #[sO r0 2 2,sO r1 2 2] 204 (0,0))
 h0:w2.heap[r0]? =some (.cells #[.int .u8 a,.int .u8 b] 203 (0,0))
 h1:w2.heap[r1]? =some (.cells #[.int .u8 c,.int .u8 d] 203 (0,0))
 ne:r0≠r1∧z≠r0∧z≠r1
 le:w.heap.size≤z∧w.heap.size≤r0∧w.heap.size≤r1
 kp:ah [] w w2
theorem zeros_ok:Calls GP 127 #[.int .i64 2,.int .i64 2] w fun e w2=>(∃v,e= .returned v)∧∃z r0 r1,e= .returned (sO z 2 2)∧M22 w w2 z r0 r1 0 0 0 0:=by
 refine dn 127 21 Tryz.func127 fun a hf hsz hv=> ?_
 obtain ⟨v0,v1,-⟩:=ir hv;clear hv;refine au ?_
 (apply ad.val rfl;(case ho=>rfl);(case hw=>exact bj);(case hr=>refine zpr ?_;first|(rw [Sem.run_bind,(mk200 _)];rfl)|exact (mk200 _));refine ay ?_)
 refine au ?_;apply ad.loop;refine au ?_;have hz:(w.alloc (.cells #[.slice none 0 0,.slice none 0 0] 204)).heap[w.heap.size]? =some (.cells #[.slice none 0 0,.slice none 0 0] 204 (0,0)):=bu;have K:ah [] w (w.alloc (.cells #[.slice none 0 0,.slice none 0 0] 204)):=ei;refine kl [1,5,10,11,14,15,16] fun a1 hsz hK=> ?_;obtain ⟨v1,v5,v10,v11,v14,v15,v16,-⟩:=hK
 have lz:w.heap.size< (w.alloc (.cells #[.slice none 0 0,.slice none 0 0] 204)).heap.size:=by simp
 generalize w.alloc (.cells #[.slice none 0 0,.slice none 0 0] 204)=u at*
 (apply ad.val rfl;(case ho=>rfl);(case hw=>exact bj);(case hr=>refine zpr ?_;first|(rw [Sem.run_bind,(acv _)];rfl)|exact (acv _));refine ay ?_)
 obtain ⟨r0,hr0⟩:∃r0,u.heap.size=r0:=⟨_,rfl⟩;rw [hr0] at lz ⊢;refine ad.ib (fun x=>x.heap[w.heap.size]? =some (.cells #[.slice none 0 0,.slice none 0 0] 204 (0,0))∧x.heap[r0]? =some (.cells #[.int .u8 0,.int .u8 0] 203 (0,0))∧ah [] w x) ⟨bw hz,fy hr0.symm,K.alloc⟩ fun x ⟨hz,h0,K⟩=> ?_
 have c0:x.cell? ⟨w.heap.size,0,none⟩=some (.slice none 0 0):=af hz ae;have f0:x.frozen? ⟨w.heap.size,0,none⟩=false:=ed hz;refine ba ?_;have hz:=ee (i:=0) (v:=sO r0 2 2) hz;have h0:=(ig (w:=x) (b:=w.heap.size) (i:=0) (v:=sO r0 2 2) ai).trans h0;have K:=ah.set (i:=0) (v:=sO r0 2 2) (b:=w.heap.size) K (.inr (Nat.le_refl _));clear c0 f0;refine kl [1,5,10,11] fun a1 hsz hK=> ?_;obtain ⟨v1,v5,v10,v11,-⟩:=hK
 generalize x.setCell ⟨w.heap.size,0,none⟩ (sO r0 2 2)=y at*;apply ad.inLoop;refine au ?_;refine kl [1,5,10,11,14,15,16] fun a1 hsz hK=> ?_;obtain ⟨v1,v5,v10,v11,v14,v15,v16,-⟩:=hK
 (apply ad.val rfl;(case ho=>rfl);(case hw=>exact bj);(case hr=>refine zpr ?_;first|(rw [Sem.run_bind,(acv _)];rfl)|exact (acv _));refine ay ?_)
 have hy:=bf h0;obtain ⟨r1,hr1⟩:∃r1,y.heap.size=r1:=⟨_,rfl⟩;rw [hr1] at hy ⊢;refine ad.ib (fun x=>x.heap[w.heap.size]? =some (.cells #[sO r0 2 2,.slice none 0 0] 204 (0,0))∧x.heap[r0]? =some (.cells #[.int .u8 0,.int .u8 0] 203 (0,0))∧x.heap[r1]? =some (.cells #[.int .u8 0,.int .u8 0] 203 (0,0))∧ah [] w x) ⟨bw (by simpa using hz),bw h0,fy hr1.symm,K.alloc⟩ fun x ⟨hz,h0,h1,K⟩=> ?_
 have c1:x.cell? ⟨w.heap.size,1,none⟩=some (.slice none 0 0):=af hz ae;have f1:x.frozen? ⟨w.heap.size,1,none⟩=false:=ed hz;refine ba ?_;have hz:=ee (i:=1) (v:=sO r1 2 2) hz;have h0:=(ig (w:=x) (b:=w.heap.size) (i:=1) (v:=sO r1 2 2) ai).trans h0;have h1:=(ig (w:=x) (b:=w.heap.size) (i:=1) (v:=sO r1 2 2) ai).trans h1;have K:=ah.set (i:=1) (v:=sO r1 2 2) (b:=w.heap.size) K (.inr (Nat.le_refl _));clear c1 f1;refine kl [5,10,11] fun a1 hsz hK=> ?_;obtain ⟨v5,v10,v11,-⟩:=hK
 apply ad.inLoop;refine au ?_;exact ad.dq rfl hf rfl bz aj ⟨⟨_,rfl⟩,w.heap.size,r0,r1,rfl,by simpa using hz,h0,h1,⟨by omega,by omega,by omega⟩,⟨by omega,by omega,by omega⟩,K⟩
end
end Go.Proofs.YthgpdljlehklhaaGreat.wk
