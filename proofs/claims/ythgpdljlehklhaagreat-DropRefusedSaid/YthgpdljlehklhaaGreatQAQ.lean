/- Part QAQ of the proof that DropRefused answers true whatever its input. No condition. -/
import Derived.Laws.IdiomStrings
import Derived.Test.YthgpdljlehklhaaGreatQAP
import Derived.Test.YthgpdljlehklhaaGreatQAI
set_option maxRecDepth 100000
namespace Go.Proofs.YthgpdljlehklhaaGreat.wk
open Go Go.Conc zr dr wd drv
set_option linter.unusedVariables false
set_option maxHeartbeats 4000000
structure WD (w:World)(g d:Nat)(room used:Int)(now kept:Nat)(pend:Value)(np:Nat)(es:Array MapEntry)(k:Nat):Prop where
 wnd:∃calls round,Wnd w g (pO d) false false (.slice none 0 0) calls round
 dv:Dv w d room used now kept pend np es k
 gd:g≠d∧g≠now∧g∉blk pend
section
variable {w w1 w2:World}{g d now kept b k i n x np nd m c L cp:Nat}{room used used1:Int}{pend pend2:Value}{es es2:Array MapEntry}{s s2:ByteArray}{v dat:Value}{safe:Int}{a:Act}{R:Ending→World→Prop}{K:List Item}{ds news:List Value}{p:Addr}{da:Option Addr}{S:List Nat}
theorem Dv.on (h:Dv w d room used now kept pend np es k)(hk:ah S w w1)(h1:d∉S)(h2:now∉S)(h3:∀b∈blk pend,b∉S):Dv w1 d room used now kept pend np es k:=by
 obtain ⟨xs,ho⟩:=h.own;exact ⟨hk.on h.drv h1,⟨xs,jk ho hk h3⟩,h.apart,hk.on h.mp h2,h.tx,h.ne⟩
theorem qg (may:Bool)(h:WD w g d room used now kept pend np es k):Calls GP 226 #[pO g,.bool may] w fun e w2=>e= .returned (.tuple #[.int .i64 0,.int .i64 (-1)])∧WD w2 g d room used now kept pend np es k∧ah [g] w w2:=by
 obtain ⟨calls,round,hw⟩:=h.wnd;refine (aop (may:=may) hw).mono fun e w2 ⟨h1,h2,h3,h4,h5⟩=> ?_
 have hk:ah [g] w w2:=⟨Nat.le_of_eq h3.1.symm,fun b hb hn=>h3.2 b (by simpa using hn),h4,h5⟩;have hg:=h.gd;exact ⟨h1,⟨⟨_,_,h2⟩,h.dv.on hk (by grind) (by grind) (by grind),hg⟩,hk⟩
theorem WD.c0 (h:WD w g d room used now kept pend np es k):w.cell? ⟨g,0,none⟩=some (pO d):=by
 obtain ⟨calls,round,hw⟩:=h.wnd;exact Wnd_0 hw
theorem WD.put (h:WD w g d room used now kept pend np es k)(hk:ah S w w1)(hS:g∉S){kept2 k2 np2:Nat}(hd:Dv w1 d room used1 now kept2 pend2 np2 es2 k2)(hp:∀b∈blk pend2,b∈blk pend∨w.heap.size≤b):WD w1 g d room used1 now kept2 pend2 np2 es2 k2:=by
 obtain ⟨calls,round,hw⟩:=h.wnd;have hg:=h.gd;have hl:=bf hw;exact ⟨⟨_,_,hk.on hw hS⟩,hd,hg.1,hg.2.1,fun hb=>by
  rcases hp g hb with h1|h1
  ·exact hg.2.2 h1
  ·omega⟩
theorem alb (h:WD w g d room used now kept pend np es k)(hnp:np<1000)(hn:fnd es s=none)(hes:es.size<65536)(hu0:0≤used)(hu:used<1099511627776)(h1:1≤s.size)(h2:s.size≤1024):
  Calls GP 219 #[pO g,.string s] w fun e w2=>e= .returned (.int .i64 0)∧∃pend2 x,WD w2 g d room used now kept pend2 (np+1) (es.push ⟨.string s,pO x,k⟩) (k+1)∧Bdy w2 x (.slice none 0 0) 0∧w.heap.size≤x∧ah ([g,d,now]++blk pend) w w2∧x∉blk pend2∧∀b∈blk pend2,b∈blk pend∨w.heap.size≤b:=by
 refine dn 219 21 Tryz.func219 fun a hf hsz hv=> ?_
 obtain ⟨v0,v1,-⟩:=ir hv;clear hv;refine ba ?_;refine bt 226 (qg true h) fun v w2 hr=> ?_
 obtain ⟨hv,h',hk1⟩:=hr;obtain rfl:=bh hv;have c0:=h'.c0;refine ba ?_;refine bt 228 (am0 h'.dv hnp hn hes hu0 hu h1 h2) fun v w2 hr=> ?_
 obtain ⟨hv,pend2,x,hd,hb,hx,hk2,hxp,hp⟩:=hr;obtain rfl:=bh hv;refine ba ?_;have hgd:=h.gd;have hs:=hk1.size;exact ad.dq rfl hf rfl bz aj ⟨rfl,pend2,x,h'.put hk2 (by grind) hd hp,hb,by omega,ah.trans (hk1.more (by grind)) hk2 (by grind),hxp,by grind⟩
theorem akp (h:WD w g d room used now kept pend np es k)(hn:fnd es s=some (i,pO x))(h1:1≤s.size)(h2:s.size≤1024)(hb:Bdy w x dat safe)(ho:w.ownsRow 0 5 1 dat nd ds)(hx:x≠d∧x≠now∧x∉blk pend)(hxg:x≠g)(hdx:∀b∈blk dat,b≠d∧b≠now∧b≠x∧b∉blk pend)(hdg:g∉blk dat)
  (hl:news.length=m)(hnews:∀j u,news[j]? =some u→w.cell? (p.add j)=some u)(hpg:p.block≠g∧p.block<w.heap.size)(hm1:∀u∈news,u.oneCell'=true)(hm:0<m)(hnm:nd+m<1000000000)(hu0:0≤used)(hu:used+m≤room)(hr:room<1099511627776):
  Calls GP 218 #[pO g,.string s,.slice (some p) m c] w fun e w2=>e= .returned (.int .i64 0)∧∃dat2,WD w2 g d room (used+m) now kept pend np es k∧Bdy w2 x dat2 safe∧w2.ownsRow 0 5 1 dat2 (nd+m) (ds++news)∧ah ([g,d,x]++blk dat) w w2∧∀b∈blk dat2,b∈blk dat∨w.heap.size≤b:=by
 refine dn 218 43 Tryz.func218 fun a hf hsz hv=> ?_
 obtain ⟨v0,v1,v2,-⟩:=za3 hv;clear hv;refine ba ?_;refine bt 226 (qg true h) fun v w2 hr=> ?_
 obtain ⟨hv,h',hk1⟩:=hr;obtain rfl:=bh hv;have c0:=h'.c0;refine ba ?_;refine bt 227 (aol (c:=c) h'.dv hn h1 h2 (hk1.on hb (by simpa using hxg)) (jk ho hk1 (by grind)) hx hdx hl (fun j u hj=>(hk1.cell (by unfold Addr.add;split <;> exact hpg.2) (by unfold Addr.add;split <;> simpa using hpg.1)).trans (hnews j u hj)) hm1 hm hnm hu0 hu hr) fun v w2 hr=> ?_
 obtain ⟨hv,dat2,hd,hb2,ho2,hk2,hbk⟩:=hr;obtain rfl:=bh hv;refine ba ?_;have hgd:=h.gd;have hs:=hk1.size;exact ad.dq rfl hf rfl bz aj ⟨rfl,dat2,h'.put hk2 (by grind) hd (by grind),hb2,ho2,ah.trans (hk1.more (by grind)) hk2 (by grind),by grind⟩
theorem wsync_ok (h:WD w g d room used now kept pend np es k)(hn:fnd es s=some (i,pO x))(h1:1≤s.size)(h2:s.size≤1024)(hb:Bdy w x (.slice da L cp) safe)(hx:x≠d∧x≠now∧x∉blk pend)(hxg:x≠g):
  Calls GP 224 #[pO g,.string s] w fun e w2=>e= .returned (.int .i64 0)∧WD w2 g d room used now kept pend np es k∧Bdy w2 x (.slice da L cp) L∧ah [g,x] w w2:=by
 refine dn 224 21 Tryz.func224 fun a hf hsz hv=> ?_
 obtain ⟨v0,v1,-⟩:=ir hv;clear hv;refine ba ?_;refine bt 226 (qg false h) fun v w2 hr=> ?_
 obtain ⟨hv,h',hk1⟩:=hr;obtain rfl:=bh hv;have c0:=h'.c0;refine ba ?_;refine bt 232 (sync_ok h'.dv hn h1 h2 (hk1.on hb (by simpa using hxg)) hx) fun v w2 hr=> ?_
 obtain ⟨hv,hd,hb2,hk2⟩:=hr;obtain rfl:=bh hv;refine ba ?_;exact ad.dq rfl hf rfl bz aj ⟨rfl,h'.put hk2 (by grind) hd (by grind),hb2,ah.trans (hk1.more (by grind)) hk2 (by grind)⟩
theorem ak4 (h:WD w g d room used now kept pend np es k)(hnp:np<1000)(hn:fnd es s=some (i,pO x))(hn2:fnd (es.eraseIdxIfInBounds i) s2=none)(hss:(s.toList==s2.toList)=false)(h1:1≤s.size)(h2:s.size≤1024)(h3:1≤s2.size)(h4:s2.size≤1024)(hb:Bdy w x (.slice da L cp) safe)(hx:x≠d∧x≠now)(hxg:x≠g):
  Calls GP 223 #[pO g,.string s,.string s2] w fun e w2=>e= .returned (.int .i64 0)∧∃pend2,WD w2 g d room (IntKind.i64.wrap (IntKind.i64.wrap (used-L)+L)) now kept pend2 (np+1) ((es.eraseIdxIfInBounds i).push ⟨.string s2,pO x,k⟩) (k+1)∧ah ([g,d,now]++blk pend) w w2∧∀b∈blk pend2,b∈blk pend∨w.heap.size≤b:=by
 refine dn 223 24 Tryz.func223 fun a hf hsz hv=> ?_
 obtain ⟨v0,v1,v2,-⟩:=za3 hv;clear hv;refine ba ?_;refine bt 226 (qg false h) fun v w2 hr=> ?_
 obtain ⟨hv,h',hk1⟩:=hr;obtain rfl:=bh hv;have c0:=h'.c0;refine ba ?_;refine bt 231 (aoe h'.dv hnp hn hn2 hss h1 h2 h3 h4 (hk1.on hb (by simpa using hxg)) hx) fun v w2 hr=> ?_
 obtain ⟨hv,pend2,hd,hk2,hp⟩:=hr;obtain rfl:=bh hv;refine ba ?_;have hgd:=h.gd;have hs:=hk1.size;exact ad.dq rfl hf rfl bz aj ⟨rfl,pend2,h'.put hk2 (by grind) hd hp,ah.trans (hk1.more (by grind)) hk2 (by grind),by grind⟩
theorem al5 (h:WD w g d room used now kept pend np es k)(hnp:np<1000)(hn:fnd es s=some (i,pO x))(h1:1≤s.size)(h2:s.size≤1024)(hb:Bdy w x (.slice da L cp) safe)(hxg:x≠g):
  Calls GP 222 #[pO g,.string s] w fun e w2=>e= .returned (.int .i64 0)∧∃pend2,WD w2 g d room (IntKind.i64.wrap (used-L)) now kept pend2 (np+1) (es.eraseIdxIfInBounds i) k∧ah ([g,d,now]++blk pend) w w2∧∀b∈blk pend2,b∈blk pend∨w.heap.size≤b:=by
 refine dn 222 21 Tryz.func222 fun a hf hsz hv=> ?_
 obtain ⟨v0,v1,-⟩:=ir hv;clear hv;refine ba ?_;refine bt 226 (qg false h) fun v w2 hr=> ?_
 obtain ⟨hv,h',hk1⟩:=hr;obtain rfl:=bh hv;have c0:=h'.c0;refine ba ?_;refine bt 230 (an2 h'.dv hnp hn h1 h2 (hk1.on hb (by simpa using hxg))) fun v w2 hr=> ?_
 obtain ⟨hv,pend2,hd,hk2,hp⟩:=hr;obtain rfl:=bh hv;refine ba ?_;have hgd:=h.gd;have hs:=hk1.size;exact ad.dq rfl hf rfl bz aj ⟨rfl,pend2,h'.put hk2 (by grind) hd hp,ah.trans (hk1.more (by grind)) hk2 (by grind),by grind⟩
theorem adf (h:WD w g d room used now kept pend np es k):
  Calls GP 225 #[pO g] w fun e w2=>e= .returned (.int .i64 0)∧∃kept2,WD w2 g d room used now kept2 (.slice none 0 0) 0 es k∧ah [g,d] w w2∧w.heap.size≤kept2:=by
 refine dn 225 18 Tryz.func225 fun a hf hsz hv=> ?_
 obtain ⟨v0,-⟩:=ie hv;clear hv;refine ba ?_;refine bt 226 (qg false h) fun v w2 hr=> ?_
 obtain ⟨hv,h',hk1⟩:=hr;obtain rfl:=bh hv;have c0:=h'.c0;refine ba ?_;refine bt 233 (alp h'.dv) fun v w2 hr=> ?_
 obtain ⟨hv,hd,hk2⟩:=hr;obtain rfl:=bh hv;refine ba ?_;have hgd:=h.gd;have hs:=hk1.size;exact ad.dq rfl hf rfl bz aj ⟨rfl,_,h'.put hk2 (by grind) hd (by simp [blk,Value.ownBlock]),ah.trans (hk1.more (by grind)) hk2 (by grind),hs⟩
theorem wread_ok (h:WD w g d room used now kept pend np es k)(hn:fnd es s=some (i,pO x))(h1:1≤s.size)(h2:s.size≤1024)(hb:Bdy w x dat safe)(hxg:x≠g)(ho:w.ownsRow 0 5 1 dat m news)(hdg:g∉blk dat)(hm1:∀u∈news,u.oneCell'=true)(hm:0<m)(hmm:m<1000000000):
  Calls GP 221 #[pO g,.string s] w fun e w2=>(∃v,e= .returned v)∧∃q cap,e= .returned (.tuple #[sO q m cap,.int .i64 0])∧w2.ownsRow 0 5 1 (sO q m cap) m news∧w.heap.size≤q∧WD w2 g d room used now kept pend np es k∧ah [g] w w2:=by
 refine dn 221 24 Tryz.func221 fun a hf hsz hv=> ?_
 obtain ⟨v0,v1,-⟩:=ir hv;clear hv;refine ba ?_;refine bt 226 (qg false h) fun v w2 hr=> ?_
 obtain ⟨hv,h',hk1⟩:=hr;obtain rfl:=bh hv;have c0:=h'.c0;refine ba ?_;refine bt 229 (read_ok h'.dv hn h1 h2 (hk1.on hb (by simpa using hxg)) (jk ho hk1 (by grind)) hm1 hm hmm) fun v w2 hr=> ?_
 obtain ⟨-,q,cap,hv,ho2,hq,hk2⟩:=hr;obtain rfl:=bh hv;refine ba ?_;have hs:=hk1.size;have hgd:=h.gd;exact ad.qs rfl hf rfl bz aj aj ⟨⟨_,rfl⟩,q,cap,rfl,ho2,by omega,h'.put hk2 (by grind) (h'.dv.on hk2 (by grind) (by grind) (by grind)) (by grind),ah.trans hk1 hk2 (by grind)⟩
theorem wread_no (h:WD w g d room used now kept pend np es k)(hn:fnd es s=none)(h1:1≤s.size)(h2:s.size≤1024):
  Calls GP 221 #[pO g,.string s] w fun e w2=>e= .returned (.tuple #[.slice none 0 0,.int .i64 110])∧WD w2 g d room used now kept pend np es k∧ah [g] w w2:=by
 refine dn 221 24 Tryz.func221 fun a hf hsz hv=> ?_
 obtain ⟨v0,v1,-⟩:=ir hv;clear hv;refine ba ?_;refine bt 226 (qg false h) fun v w2 hr=> ?_
 obtain ⟨hv,h',hk1⟩:=hr;obtain rfl:=bh hv;have c0:=h'.c0;refine ba ?_;refine bt 229 (read_no h'.dv hn h1 h2) fun v w2 hr=> ?_
 obtain ⟨hv,e⟩:=hr;obtain rfl:=bh hv;have e:=e.symm;subst e;refine ba ?_;exact ad.qs rfl hf rfl bz aj aj ⟨rfl,h',hk1⟩
end
section
variable {P:Program}{R:Ending→World→Prop}{b:Frame}{a:Act}{k:List Item}{w w1:World}{ops:Array Oper}{S:World→Prop}{n:Nat}{listed:Array Bool}{o:Oper}{v:Value}
theorem LDr.app (i:Nat){x y:Operand}{ts:Array TypeId}{m key:Value}(hr:Region.ready .any ops listed=[i])(ho:ops[i]? =some o)(hop:o.op= .call {callee:= .builtin .append,args:=#[x,y],argTypes:=ts})(hw:Region.wanted o (yielded ops a.tmps)=true)(hx:a.eval x=m)(hy:a.eval y=key)(hd:(Builtin.append_ ts o.type #[m,key]).run P w= .ok v w1)(hS:S w1)
  (h:LDr P R b k ops S n (listed.setIfInBounds i true) (a.put o.dst v) w1):LDr P R b k ops S (n+1) listed a w:=
 LDr.solo i hr ho hw v w1 (by
  obtain ⟨cs,e⟩:=nu (a:=a) hop;rw [e,List.map_toArray,List.map_cons,List.map_cons,List.map_nil,hx,hy];show Sem.run P (do pure (Next.value (←Builtin.append_ ts o.type #[m,key]))) w=_;rw [Sem.run_bind,hd];rfl) hS h
end
theorem jc {w:World}{n:Nat}(cs:Array Value)(e:TypeId)(h:n=w.heap.size):∀j u,cs.toList[j]? =some u→(w.alloc (.cells cs e)).cell? ((⟨n,0,none⟩:Addr).add j)=some u:=by
 intro j u hj;rw [Addr.add_lit];simp only [World.cell?,fy h]
 simpa using hj
section
variable {w w1 w2:World}
theorem aha (n:Nat)(h:n<10):Calls GP 74 #[.int .u8 n] w fun e w2=>e= .returned (.int .u8 (48+n))∧w2=w:=by
 refine dn 74 10 Tryz.func74 fun a hf hsz hv=> ?_
 obtain ⟨v0,-⟩:=ie hv;clear hv;have e1:(n:Int)<10:=by omega
 have e2:IntKind.u8.wrap (48+ (n:Int))=48+n:=by
  unfold IntKind.wrap;simp [IntKind.bits,IntKind.signed];omega
 refine ba ?_;exact ad.dq rfl hf rfl bz aj ⟨rfl,rfl⟩
def kA:ByteArray:=⟨#[97]⟩
def nA:ByteArray:=⟨#[111,54,49]⟩
theorem mk3 (w:World):(Instr.makeSlice 49 (.int .i64 0) (.int .i64 3)).run GP w= .ok (sO w.heap.size 0 3) (w.alloc (.cells #[.int .u8 0,.int .u8 0,.int .u8 0] 5)):=by kernel_rfl
theorem ye:Calls GP 45 #[.string kA] w fun e w2=>e= .returned (.tuple #[.string nA,.int .i64 0])∧ah [] w w2:=by
 refine dn 45 42 Tryz.func45 fun a hf hsz hv=> ?_
 obtain ⟨v0,-⟩:=ie hv;clear hv;have e1:kA.toList.isEmpty=false:=by decide+kernel
 have e2:kA.size=1:=rfl;refine ba ?_
 (apply ad.val rfl;(case ho=>rfl);(case hw=>exact bj);(case hr=>refine zpr ?_;first|(rw [Sem.run_bind,(mk3 w)];rfl)|exact (mk3 w));refine ay ?_)
 refine ba ?_;obtain ⟨v1,w1,hrun,ho1,hk1,hb1⟩:=qt (w:=World.alloc (World.alloc w (.cells #[.int .u8 0,.int .u8 0,.int .u8 0] 5)) (.cells #[.int .u8 111] 5)) (a:=⟨w.heap.size+1,0,none⟩) (c:=1) (m:=1) (news:=[.int .u8 111]) (v:=sO w.heap.size 0 3) (n:=0) (xs:=[]) ⟨rfl,.inr ⟨w.heap.size,3,#[.int .u8 0,.int .u8 0,.int .u8 0],rfl,Nat.zero_le _,bw bu,by omega,by decide,rfl,rfl⟩⟩ rfl (jc #[.int .u8 111] 5 ae) (by simp [Value.oneCell']) ai;obtain ⟨g,cap,rfl⟩:∃g cap,v1=sO g (0+1) cap:=by
  rcases ho1.2 with ⟨_,h0⟩|⟨g,cap,cur,h,_⟩
  ·omega
  ·exact ⟨g,cap,h⟩
 have hk0:ah [] w w1:=ah.trans (S:=[]) (ei) hk1 (by simp [blk,Value.ownBlock]);have hg:w.heap.size≤g:=by
  simp [blk,Value.ownBlock] at hb1;omega
 (refine ad.app rfl rfl rfl bj aj aj hrun ?_;refine ay ?_)
 refine ba ?_;refine ad.cut (fun a1 u=>(a1.tmps.size=42∧a1.defers=[])∧a1.eval (.tmp 0)= .string kA∧a1.eval (.tmp 4)=sO g 1 cap∧a1.eval (.tmp 22)= .int .i64 1∧a1.eval (.tmp 23)= .int .i64 0∧u=w1) ⟨by simp [hsz],aj,aj,aj,aj,rfl⟩ fun a u ⟨hsz,v0,v4,v22,v23,hu⟩=> ?_
 subst hu;apply ad.loop;have e3:∀h:0<kA.size,(kA[0]'h).toNat=97:=fun _=>rfl
 refine ba ?_;apply ad.wu (fun _ _=>True) eo;intro dd;have hS0:True:=trivial;refine zdv 0 ?_;refine zdv 1 ?_;refine zdv 2 ?_;refine zdv 3 ?_;refine zdv 4 ?_;refine zdv 6 ?_;refine zdv 7 ?_;refine zdv 8 ?_;refine zdv 9 ?_;have hd6:=aha (w:=World.at u dd) 6 ai
 (apply LDr.gw 5 (f:=74) a9 rfl;(case hw=>exact bj);(case hc=>exact hd6);(case hv=>rw [cw (f:=74) rfl];refine zam ?_;exact ey 74 a9 _ _);(case hret=>exact fun e w2 h=>⟨_,h.1⟩))
 case hS=>intros;trivial
 intro v w2 ⟨hv,e⟩;obtain rfl:=bh hv;subst e;refine ay ?_;have hd1:=aha (w:=World.at u dd) 1 ai
 (apply LDr.gw 10 (f:=74) a9 rfl;(case hw=>exact bj);(case hc=>exact hd1);(case hv=>rw [cw (f:=74) rfl];refine zam ?_;exact ey 74 a9 _ _);(case hret=>exact fun e w2 h=>⟨_,h.1⟩))
 case hS=>intros;trivial
 intro v w2 ⟨hv,e⟩;obtain rfl:=bh hv;subst e;refine ay ?_
 (apply LDr.solo 11 a9 rfl;(case hw=>exact bj);(case hv=>exact zxr);(try simp only [List.getElem_toArray,List.getElem_cons_zero,List.getElem_cons_succ]))
 refine ay ?_;obtain ⟨v1,w1,hrun,ho2,hk2,hb2⟩:=qt (w:=World.alloc (World.at u dd) (.cells #[.int .u8 54,.int .u8 49] 5)) (a:=⟨u.heap.size,0,none⟩) (c:=2) (m:=2) (news:=[.int .u8 54,.int .u8 49]) (v:=sO g 1 cap) (n:=1) (xs:=[.int .u8 111]) (World.ownsRow.alloc ho1 _) rfl (jc #[.int .u8 54,.int .u8 49] 5 rfl) (by simp [Value.oneCell']) ai;obtain ⟨g2,cap2,rfl⟩:∃g cap,v1=sO g (1+2) cap:=by
  rcases ho2.2 with ⟨_,h0⟩|⟨g,cap,cur,h,_⟩
  ·omega
  ·exact ⟨g,cap,h⟩
 (refine LDr.app 12 a9 rfl rfl bj aj aj hrun trivial ?_;refine ay ?_)
 (apply LDr.solo 13 a9 rfl;(case hw=>exact bj);(case hv=>exact zxr);(try simp only [List.getElem_toArray,List.getElem_cons_zero,List.getElem_cons_succ]))
 refine ay ?_;apply LDr.fin a9;have e4:kA.size=1:=e2;refine ad.cut (fun a2 u2=>(a2.tmps.size=42∧a2.defers=[])∧a2.eval (.tmp 4)=sO g2 3 cap2∧a2.eval (.tmp 22)= .int .i64 1∧a2.eval (.tmp 23)= .int .i64 0∧u2=w1) ⟨by simp [hsz],aj,aj,aj,rfl⟩ fun a u2 ⟨hsz,v4,v22,v23,hu⟩=> ?_
 subst hu;refine ba ?_;refine zxl ?_;have hcv:=run_convert_bytes_back (P:=GP) u2 49 9 5 ⟨g2,0,none⟩ cap2 [111,54,49] (by rw [fb];kernel_rfl) (by rw [fb];kernel_rfl) (by rw [fb];kernel_rfl);have hcv:(convert 49 9 (sO g2 3 cap2)).run GP u2= .ok (.string nA) u2:=hcv fun j hj=>ho2.cells (g:=g2) rfl j _ (match j,hj with
  |0,_=>rfl
  |1,_=>rfl
  |2,_=>rfl)
 apply ad.seq;apply ad.region;refine zlv ?_
 (apply ad.val rfl;(case ho=>rfl);(case hw=>exact bj);(case hr=>refine zpr ?_;first|(rw [Sem.run_bind,hcv];rfl)|exact hcv);refine ay ?_)
 refine ba ?_;have hkf:ah [] w u2:=ah.trans (S:=[]) hk0.at.alloc hk2 (by
  intro b hb;simp only [blk,Value.ownBlock,Option.toList_some,List.mem_singleton] at hb;subst hb;exact .inr hg)
 exact ad.qs rfl hf rfl bz aj aj ⟨rfl,hkf⟩
end
theorem xv (f:FuncId)(name:String)(x:Value)(args:Array Value)(w:World)(hm:(method (GP.types.size+Made.depth) 73 x name).run GP w= .ok (f,x) w)(he:aay f=true):(callMethod (.iface 73 x) name args).run GP w= .ok (.enter f (#[x]++args)) w:=by
 unfold callMethod;simp only [Sem.run_bind,run_program,Result.andThen_ok,hm];exact ey f he _ _
theorem m_create (x s:Value)(w:World):(callMethod (.iface 73 x) "Create" #[s]).run GP w= .ok (.enter 219 #[x,s]) w:=xv 219 _ x _ w du a9
theorem m_append (x s t:Value)(w:World):(callMethod (.iface 73 x) "Append" #[s,t]).run GP w= .ok (.enter 218 #[x,s,t]) w:=xv 218 _ x _ w du a9
theorem m_sync (x s:Value)(w:World):(callMethod (.iface 73 x) "Sync" #[s]).run GP w= .ok (.enter 224 #[x,s]) w:=xv 224 _ x _ w du a9
theorem m_rename (x s t:Value)(w:World):(callMethod (.iface 73 x) "Rename" #[s,t]).run GP w= .ok (.enter 223 #[x,s,t]) w:=xv 223 _ x _ w du a9
theorem m_remove (x s:Value)(w:World):(callMethod (.iface 73 x) "Remove" #[s]).run GP w= .ok (.enter 222 #[x,s]) w:=xv 222 _ x _ w du a9
theorem agj (x:Value)(w:World):(callMethod (.iface 73 x) "SyncDir" #[]).run GP w= .ok (.enter 225 #[x]) w:=xv 225 _ x _ w du a9
theorem m_read (x s:Value)(w:World):(callMethod (.iface 73 x) "Read" #[s]).run GP w= .ok (.enter 221 #[x,s]) w:=xv 221 _ x _ w du a9
def kT:ByteArray:=⟨#[116]⟩
def dk (g:Nat):Value:= .iface 73 (pO g)
section
variable {w w1 w2:World}{g d now kept b k i n x np nd m c L cp:Nat}{room used used1:Int}{pend pend2:Value}{es es2:Array MapEntry}{s s2:ByteArray}{v dat:Value}{safe:Int}{a:Act}{R:Ending→World→Prop}{K:List Item}{ds news:List Value}{p:Addr}{da:Option Addr}{S:List Nat}
theorem look_ok:Calls GP 75 #[dk g,.string nA] w fun e w2=>e= .returned (.int .i64 0)∧w2=w:=by
 refine dn 75 20 Tryz.func75 fun a hf hsz hv=> ?_
 obtain ⟨v0,v1,-⟩:=ir hv;clear hv;have e1:nA.toList.isEmpty=false:=by decide+kernel
 have e2:nA.size=3:=rfl;have e3:(nA.toList==[116])=false:=by decide+kernel
 unfold dk at v0;refine ba ?_;exact ad.dq rfl hf rfl bz aj ⟨rfl,rfl⟩
theorem apc (h:WD w g d room used now kept pend np es k)(hnp:np<1000)(hn:fnd es kT=none)(hes:es.size<65536)(hu0:0≤used)(hu:used<1099511627776)(hb:w.heap[b]? =some (.cells #[dk g] 68 (0,0))):
  Calls GP 96 #[pO b] w fun e w2=>e= .returned (.int .i64 0)∧∃pend2 x,WD w2 g d room used now kept pend2 (np+1) (es.push ⟨.string kT,pO x,k⟩) (k+1)∧Bdy w2 x (.slice none 0 0) 0∧w.heap.size≤x∧ah ([g,d,now]++blk pend) w w2∧x∉blk pend2∧∀b∈blk pend2,b∈blk pend∨w.heap.size≤b:=by
 refine dn 96 4 Tryz.func96 fun a hf hsz hv=> ?_
 obtain ⟨v0,-⟩:=ie hv;clear hv;have c0:w.cell? ⟨b,0,none⟩=some (dk g):=af hb ae;refine ba ?_;have hc:=alb h hnp hn hes hu0 hu (by decide) (by decide)
 (refine ad.inv (f:=219) rfl rfl rfl bj et (by first|rfl|(exact zag)) (m_create (pO g) (.string kT) w) hc (fun e w2 h=>⟨_,h.1⟩) fun v w2 hr=> ?_;refine ay ?_)
 obtain ⟨hv,rest⟩:=hr;obtain rfl:=bh hv;refine ba ?_;exact ad.dq rfl hf rfl bz aj ⟨rfl,rest⟩
theorem apd (h:WD w g d room used now kept pend np es k)(hn:fnd es kT=some (i,pO x))(hb:Bdy w x dat safe)(ho:w.ownsRow 0 5 1 dat nd ds)(hx:x≠d∧x≠now∧x∉blk pend)(hxg:x≠g)(hdx:∀b∈blk dat,b≠d∧b≠now∧b≠x∧b∉blk pend)(hdg:g∉blk dat)
  (hl:news.length=m)(hnews:∀j u,news[j]? =some u→w.cell? (p.add j)=some u)(hpg:p.block≠g∧p.block<w.heap.size)(hm1:∀u∈news,u.oneCell'=true)(hm:0<m)(hnm:nd+m<1000000000)(hu0:0≤used)(hu:used+m≤room)(hr:room<1099511627776)
  (hb1:w.heap[b]? =some (.cells #[dk g] 68 (0,0))){b2:Nat}(hb2:w.heap[b2]? =some (.cells #[.slice (some p) m c] 49 (0,0))):
  Calls GP 97 #[pO b,pO b2] w fun e w2=>e= .returned (.int .i64 0)∧∃dat2,WD w2 g d room (used+m) now kept pend np es k∧Bdy w2 x dat2 safe∧w2.ownsRow 0 5 1 dat2 (nd+m) (ds++news)∧ah ([g,d,x]++blk dat) w w2∧∀b∈blk dat2,b∈blk dat∨w.heap.size≤b:=by
 refine dn 97 6 Tryz.func97 fun a hf hsz hv=> ?_
 obtain ⟨v0,v1,-⟩:=ir hv;clear hv;have c0:w.cell? ⟨b,0,none⟩=some (dk g):=af hb1 ae;have c1:w.cell? ⟨b2,0,none⟩=some (.slice (some p) m c):=af hb2 ae;refine ba ?_;have hc:=akp (c:=c) h hn (by decide) (by decide) hb ho hx hxg hdx hdg hl hnews hpg hm1 hm hnm hu0 hu hr
 (refine ad.inv (f:=218) rfl rfl rfl bj et (by first|rfl|(exact zag)) (m_append (pO g) (.string kT) (.slice (some p) m c) w) hc (fun e w2 h=>⟨_,h.1⟩) fun v w2 hr=> ?_;refine ay ?_)
 obtain ⟨hv,rest⟩:=hr;obtain rfl:=bh hv;refine ba ?_;exact ad.dq rfl hf rfl bz aj ⟨rfl,rest⟩
theorem ape (h:WD w g d room used now kept pend np es k)(hn:fnd es kT=some (i,pO x))(hb:Bdy w x (.slice da L cp) safe)(hx:x≠d∧x≠now∧x∉blk pend)(hxg:x≠g)(hb1:w.heap[b]? =some (.cells #[dk g] 68 (0,0))):
  Calls GP 98 #[pO b] w fun e w2=>e= .returned (.int .i64 0)∧WD w2 g d room used now kept pend np es k∧Bdy w2 x (.slice da L cp) L∧ah [g,x] w w2:=by
 refine dn 98 4 Tryz.func98 fun a hf hsz hv=> ?_
 obtain ⟨v0,-⟩:=ie hv;clear hv;have c0:w.cell? ⟨b,0,none⟩=some (dk g):=af hb1 ae;refine ba ?_;have hc:=wsync_ok h hn (by decide) (by decide) hb hx hxg
 (refine ad.inv (f:=224) rfl rfl rfl bj et (by first|rfl|(exact zag)) (m_sync (pO g) (.string kT) w) hc (fun e w2 h=>⟨_,h.1⟩) fun v w2 hr=> ?_;refine ay ?_)
 obtain ⟨hv,rest⟩:=hr;obtain rfl:=bh hv;refine ba ?_;exact ad.dq rfl hf rfl bz aj ⟨rfl,rest⟩
theorem apf (h:WD w g d room used now kept pend np es k)(hnp:np<1000)(hn:fnd es kT=some (i,pO x))(hn2:fnd (es.eraseIdxIfInBounds i) nA=none)(hb:Bdy w x (.slice da L cp) safe)(hx:x≠d∧x≠now)(hxg:x≠g)(hb1:w.heap[b]? =some (.cells #[dk g] 68 (0,0))){b2:Nat}(hb2:w.heap[b2]? =some (.cells #[.string nA] 9 (0,0))):
  Calls GP 99 #[pO b,pO b2] w fun e w2=>e= .returned (.int .i64 0)∧∃pend2,WD w2 g d room (IntKind.i64.wrap (IntKind.i64.wrap (used-L)+L)) now kept pend2 (np+1) ((es.eraseIdxIfInBounds i).push ⟨.string nA,pO x,k⟩) (k+1)∧ah ([g,d,now]++blk pend) w w2∧∀b∈blk pend2,b∈blk pend∨w.heap.size≤b:=by
 refine dn 99 6 Tryz.func99 fun a hf hsz hv=> ?_
 obtain ⟨v0,v1,-⟩:=ir hv;clear hv;have c0:w.cell? ⟨b,0,none⟩=some (dk g):=af hb1 ae;have c1:w.cell? ⟨b2,0,none⟩=some (.string nA):=af hb2 ae;refine ba ?_;have hc:=ak4 h hnp hn hn2 a9 (by decide) (by decide) (by decide) (by decide) hb hx hxg
 (refine ad.inv (f:=223) rfl rfl rfl bj et (by first|rfl|(exact zag)) (m_rename (pO g) (.string kT) (.string nA) w) hc (fun e w2 h=>⟨_,h.1⟩) fun v w2 hr=> ?_;refine ay ?_)
 obtain ⟨hv,rest⟩:=hr;obtain rfl:=bh hv;refine ba ?_;exact ad.dq rfl hf rfl bz aj ⟨rfl,rest⟩
end
def afj (n g:Nat):Array Value:=#[.func (.func 96) #[] #[pO n],.func (.func 97) #[] #[pO n,pO (n+2)],.func (.func 98) #[] #[pO n],.func (.func 99) #[] #[pO n,pO (n+1)],.func (.method "SyncDir") #[dk g] #[]]
section
variable {w w1 w2:World}{g d now kept b k i n x np nd m c L cp:Nat}{room used used1:Int}{pend pend2:Value}{es es2:Array MapEntry}{s s2:ByteArray}{v dat:Value}{safe:Int}{a:Act}{R:Ending→World→Prop}{K:List Item}{ds news:List Value}{p:Addr}{da:Option Addr}{S:List Nat}
theorem aci (p:Addr)(j:Nat):(p.add j).block=p.block:=by unfold Addr.add;split <;> rfl
theorem WD.on (h:WD w g d room used now kept pend np es k)(hk:ah S w w1)(h0:g∉S)(h1:d∉S)(h2:now∉S)(h3:∀b∈blk pend,b∉S):WD w1 g d room used now kept pend np es k:=
 h.put hk h0 (h.dv.on hk h1 h2 h3) (fun b hb=> .inl hb)
theorem WD.lt (h:WD w g d room used now kept pend np es k):g<w.heap.size∧d<w.heap.size∧now<w.heap.size∧∀b∈blk pend,b<w.heap.size:=by
 obtain ⟨calls,round,hw⟩:=h.wnd;obtain ⟨xs,ho⟩:=h.dv.own;exact ⟨bf hw,bf h.dv.drv,bf h.dv.mp,lj ho⟩
theorem write_ok (h:WD w g d room used now kept pend np #[] k)(hnp:np<100)(hu0:0≤used)(hu:used+m≤room)(hroom:room<1099511627776)
  (hl:news.length=m)(hnews:∀j u,news[j]? =some u→w.cell? (p.add j)=some u)(hp:p.block<w.heap.size∧p.block≠g∧p.block≠d∧p.block≠now∧p.block∉blk pend)(hm1:∀u∈news,u.oneCell'=true)(hm:0<m)(hmm:m<1000000000):
  Calls GP 60 #[dk g,.string nA,.slice (some p) m c] w fun e w2=>e= .returned (.int .i64 0)∧∃x dat kept2,WD w2 g d room (used+m) now kept2 (.slice none 0 0) 0 #[⟨.string nA,pO x,k+1⟩] (k+2)∧Bdy w2 x dat m∧w2.ownsRow 0 5 1 dat m news∧w.heap.size≤x∧(∀b∈blk dat,w.heap.size≤b∧b≠x)∧ah ([g,d,now]++blk pend) w w2:=by
 refine dn 60 36 Tryz.func60 fun a hf hsz hv=> ?_
 obtain ⟨v0,v1,v2,-⟩:=za3 hv;clear hv;simp only [dk] at v0;apply ad.seq;apply ad.region;refine zls ?_;apply ad.ak;refine ad.cut (fun a1 u=>(a1.tmps.size=36∧a1.defers=[])∧a1.eval (.tmp 3)=pO w.heap.size∧a1.eval (.tmp 4)=pO (w.heap.size+1)∧a1.eval (.tmp 5)=pO (w.heap.size+2)∧ah [] w u∧u.heap[w.heap.size]? =some (.cells #[dk g] 68 (0,0))∧u.heap[w.heap.size+1]? =some (.cells #[.string nA] 9 (0,0))∧u.heap[w.heap.size+2]? =some (.cells #[.slice (some p) m c] 49 (0,0))∧u.heap.size=w.heap.size+3) ⟨by simp [hsz],aj,aj,aj,ei,bw (bw bu),bw (fy ae),fy ae,by simp⟩ fun a u ⟨hsz,v3,v4,v5,hk1,hb0,hb1,hb2,hs⟩=> ?_
 have c0:u.cell? ⟨w.heap.size,0,none⟩=some (dk g):=af hb0 ae;have c1:u.cell? ⟨w.heap.size+1,0,none⟩=some (.string nA):=af hb1 ae;refine ba ?_;refine bt 75 (look_ok (g:=g) (w:=u)) fun v w2 hr=> ?_
 obtain ⟨hv,e⟩:=hr;obtain rfl:=bh hv;have e:=e.symm;subst e;refine ba ?_;obtain ⟨hgl,hdl,hnl,hpl⟩:=h.lt;refine ad.cut (fun a1 u1=>(a1.tmps.size=36∧a1.defers=[])∧a1.eval (.tmp 24)=sO (w.heap.size+3) 5 5∧a1.eval (.tmp 25)= .int .i64 5∧a1.eval (.tmp 26)= .int .i64 0∧ah [] u u1∧u1.heap[w.heap.size+3]? =some (.cells (afj w.heap.size g) 190 (0,0))∧u1.heap.size=w.heap.size+4) ⟨by simp [hsz],aj,aj,aj,ei,fy hs.symm,by simp [hs]⟩ fun a u0 ⟨hsz,v24,v25,v26,hk2,iu,hs2⟩=> ?_
 have hk0:ah [] w u0:=hk1.trans hk2 ae;have B0:=hk2.on hb0 ae;have B1:=hk2.on hb1 ae;have B2:=hk2.on hb2 ae;have H0:=h.on hk0 ae ae ae ae;have hgd:=h.gd;have hnd:=h.dv.ne;have hap:=h.dv.apart
 -- Create
 have r0:u0.cell? ⟨w.heap.size+3,0,none⟩=some (.func (.func 96) #[] #[pO w.heap.size]):=af iu (by simp [afj]);apply ad.loop;refine ba ?_
 (refine ad.clo (f:=96) (first:=#[]) (capt:=#[pO w.heap.size]) rfl rfl rfl bj aj (by first|rfl|simp) (ey 96 a9 _ _) (apc H0 ai (ajz _) ae hu0 ai B0) (fun e w2 h=>⟨_,h.1⟩) fun v w2 hr=> ?_;refine ay ?_)
 obtain ⟨hv,pend1,x,H1,D1,hx,K1,hxp,hp1⟩:=hr;obtain rfl:=bh hv;refine ba ?_;refine ad.cut (fun a1 u=>(a1.tmps.size=36∧a1.defers=[])∧a1.eval (.tmp 24)=sO (w.heap.size+3) 5 5∧a1.eval (.tmp 25)= .int .i64 5∧a1.eval (.tmp 26)= .int .i64 1∧u=w2) ⟨by simp [hsz],aj,aj,aj,rfl⟩ fun a u1 ⟨hsz,v24,v25,v26,e⟩=> ?_
 subst e;apply ad.inLoop;have hx0:w.heap.size+4≤x:=by omega
 have B0:=K1.on B0 (by grind);have B1:=K1.on B1 (by grind);have B2:=K1.on B2 (by grind);have iu:=K1.on iu (by grind);have C1:∀j u,news[j]? =some u→u1.cell? (p.add j)=some u:=fun j u hj=>(K1.cell (by rw [aci];omega) (by rw [aci];grind)).trans ((hk0.cell (by unfold Addr.add;split <;> exact hp.1) ae).trans (hnews j u hj))
 have r1:u1.cell? ⟨w.heap.size+3,1,none⟩=some (.func (.func 97) #[] #[pO w.heap.size,pO (w.heap.size+2)]):=af iu (by simp [afj]);have hfn:fnd (#[].push ⟨.string kT,pO x,k⟩) kT=some (0,pO x):=by
  rw [show (#[].push ⟨.string kT,pO x,k⟩:Array MapEntry)=#[⟨.string kT,pO x,k⟩] from rfl,fnd_one,if_pos rfl]
 have z1:=K1.size;refine ba ?_
 (refine ad.clo (f:=97) (first:=#[]) (capt:=#[pO w.heap.size,pO (w.heap.size+2)]) rfl rfl rfl bj aj (by first|rfl|simp) (ey 97 a9 _ _) (apd (m:=m) (c:=c) (nd:=0) (ds:=[]) H1 hfn D1 (World.ownsRow_nil _ _ _ _) (by grind) (by grind) (by simp [blk,Value.ownBlock]) (by simp [blk,Value.ownBlock]) hl C1 (by grind) hm1 hm ai hu0 hu hroom B0 B2) (fun e w2 h=>⟨_,h.1⟩) fun v w2 hr=> ?_;refine ay ?_)
 obtain ⟨hv,dat2,H2,D2,O2,K2,hd2⟩:=hr;obtain rfl:=bh hv;rw [Nat.zero_add,List.nil_append] at O2;obtain ⟨g2,cap2,rfl⟩:∃g cap,dat2=sO g m cap:=by
  rcases O2.2 with ⟨_,h0⟩|⟨g,cap,cur,h,_⟩
  ·omega
  ·exact ⟨g,cap,h⟩
 have hg2:u1.heap.size≤g2:=by
  have:=hd2 g2 (by simp [blk,Value.ownBlock])
  simpa [blk,Value.ownBlock] using this
 refine ba ?_;refine ad.cut (fun a1 u=>(a1.tmps.size=36∧a1.defers=[])∧a1.eval (.tmp 24)=sO (w.heap.size+3) 5 5∧a1.eval (.tmp 25)= .int .i64 5∧a1.eval (.tmp 26)= .int .i64 2∧u=w2) ⟨by simp [hsz],aj,aj,aj,rfl⟩ fun a u2 ⟨hsz,v24,v25,v26,e⟩=> ?_
 subst e;apply ad.inLoop;have hb0:∀y,y∈[g,d,x]++blk (Value.slice none 0 0)→y=g∨y=d∨y=x:=by simp [blk,Value.ownBlock]
 have B0:=K2.on B0 (by grind);have B1:=K2.on B1 (by grind);have iu:=K2.on iu (by grind);have r2:u2.cell? ⟨w.heap.size+3,2,none⟩=some (.func (.func 98) #[] #[pO w.heap.size]):=af iu (by simp [afj]);have z2:=K2.size;have hlx:x<u1.heap.size:=bf D1;refine ba ?_
 (refine ad.clo (f:=98) (first:=#[]) (capt:=#[pO w.heap.size]) rfl rfl rfl bj aj (by first|rfl|simp) (ey 98 a9 _ _) (ape H2 hfn D2 (by grind) (by grind) B0) (fun e w2 h=>⟨_,h.1⟩) fun v w2 hr=> ?_;refine ay ?_)
 obtain ⟨hv,H3,D3,K3⟩:=hr;obtain rfl:=bh hv;have O3:=jk O2 K3 (by simp [blk,Value.ownBlock];grind);refine ba ?_;refine ad.cut (fun a1 u=>(a1.tmps.size=36∧a1.defers=[])∧a1.eval (.tmp 24)=sO (w.heap.size+3) 5 5∧a1.eval (.tmp 25)= .int .i64 5∧a1.eval (.tmp 26)= .int .i64 3∧u=w2) ⟨by simp [hsz],aj,aj,aj,rfl⟩ fun a u3 ⟨hsz,v24,v25,v26,e⟩=> ?_
 subst e;apply ad.inLoop;have B0:=K3.on B0 (by grind);have B1:=K3.on B1 (by grind);have iu:=K3.on iu (by grind);have r3:u3.cell? ⟨w.heap.size+3,3,none⟩=some (.func (.func 99) #[] #[pO w.heap.size,pO (w.heap.size+1)]):=af iu (by simp [afj]);have z3:=K3.size;have her:(#[].push ⟨.string kT,pO x,k⟩:Array MapEntry).eraseIdxIfInBounds 0=#[]:=by simp [Array.eraseIdxIfInBounds]
 have hg2b:∀b,b∈blk (sO g2 m cap2)→b=g2:=by simp [blk,Value.ownBlock]
 refine ba ?_
 (refine ad.clo (f:=99) (first:=#[]) (capt:=#[pO w.heap.size,pO (w.heap.size+1)]) rfl rfl rfl bj aj (by first|rfl|simp) (ey 99 a9 _ _) (apf H3 ai hfn (by rw [her];exact ajz _) D3 (by grind) (by grind) B0 B1) (fun e w2 h=>⟨_,h.1⟩) fun v w2 hr=> ?_;refine ay ?_)
 obtain ⟨hv,pend4,H4,K4,hp4⟩:=hr;obtain rfl:=bh hv;have hpg:∀b∈blk pend1,b≠g2:=by
  intro b hb;have:=(H1.lt).2.2.2 b hb;omega
 have D4:=K4.on D3 (by grind);have O4:=jk O3 K4 (fun b hb=>by have:=hg2b b hb;subst this;grind);rw [show IntKind.i64.wrap (IntKind.i64.wrap (used+m-m)+m)=used+m by
  rw [show used+ (m:Int)-m=used by omega,xa used hu0 ai,xa _ ai ai]] at H4
 refine ba ?_;refine ad.cut (fun a1 u=>(a1.tmps.size=36∧a1.defers=[])∧a1.eval (.tmp 24)=sO (w.heap.size+3) 5 5∧a1.eval (.tmp 25)= .int .i64 5∧a1.eval (.tmp 26)= .int .i64 4∧u=w2) ⟨by simp [hsz],aj,aj,aj,rfl⟩ fun a u4 ⟨hsz,v24,v25,v26,e⟩=> ?_
 subst e;apply ad.inLoop;have iu:=K4.on iu (by grind);have r4:u4.cell? ⟨w.heap.size+3,4,none⟩=some (.func (.method "SyncDir") #[dk g] #[]):=af iu (by simp [afj]);have z4:=K4.size;refine ba ?_
 (refine ad.mth (f:=225) (D:=(dk g)) rfl rfl rfl bj aj (by first|rfl|simp) (agj (pO g) u4) (adf H4) (fun e w2 h=>⟨_,h.1⟩) fun v w2 hr=> ?_;refine ay ?_)
 obtain ⟨hv,kept2,H5,K5,hk5⟩:=hr;obtain rfl:=bh hv;have D5:=K5.on D4 (by grind);have O5:=jk O4 K5 (by simp [blk,Value.ownBlock];grind);refine ba ?_;refine zxl ?_;refine ba ?_;rw [her] at H5;have hkk:ah ([g,d,now]++blk pend) w w2:=by
  have q1:ah ([g,d,now]++blk pend) w u1:=ah.trans (hk0.more ae) K1 (by grind);have q2:ah ([g,d,now]++blk pend) w u2:=ah.trans q1 K2 (by grind);have q3:ah ([g,d,now]++blk pend) w u3:=ah.trans q2 K3 (by grind);have q4:ah ([g,d,now]++blk pend) w u4:=ah.trans q3 K4 (by grind);exact ah.trans q4 K5 (by grind)
 exact ad.dq rfl hf rfl bz aj ⟨rfl,x,_,kept2,H5,D5,O5,by omega,fun b hb=>by have:=hg2b b hb;subst this;omega,hkk⟩
end
end Go.Proofs.YthgpdljlehklhaaGreat.wk
