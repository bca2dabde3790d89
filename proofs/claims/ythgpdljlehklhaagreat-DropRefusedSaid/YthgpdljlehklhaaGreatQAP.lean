/- Part QAP of the proof that DropRefused answers true whatever its input. No condition. -/
import Derived.Test.YthgpdljlehklhaaGreatQAO
set_option maxRecDepth 100000
namespace Go.Proofs.YthgpdljlehklhaaGreat.wk
open Go Go.Conc zr dr wd
set_option linter.unusedVariables false
set_option maxHeartbeats 4000000
section
variable {w:World}{d now kept b k j n x np:Nat}{room used:Int}{pend:Value}{es:Array MapEntry}{s s2:ByteArray}{v dat:Value}{safe:Int}{a:Act}{R:Ending→World→Prop}{K:List Item}{xs:List Value}
structure Chg (w w2:World)(S:List Nat)(d:Nat)(room used:Int)(now kept:Nat)(pend pend2:Value)(np:Nat):Prop where
 drv:Drv w2 d room used now kept pend2
 own:∃xs,w2.ownsRow 0 285 1 pend2 (np+1) xs
 kpt:ah (S++blk pend) w w2
 blk:blk pend2=blk pend∨∃m,w.heap.size≤m∧blk pend2=[m]
theorem aff (hf:GP.funcs[234]? =some Tryz.f234)(hd:Drv w d room used now kept pend)(hp:w.ownsRow 0 285 1 pend np xs)(hpn:∀b∈blk pend,b≠d)(hnp:np<1000)
  (hsz:a.tmps.size=81∧a.defers=[])(v0:a.eval (.tmp 0)=pO d)(v1:a.eval (.tmp 1)=sO b n n)
  (hk:∀pend2 w2,Chg w w2 [d] d room used now kept pend pend2 np→R (.returned (.tuple #[])) w2):ad GP R (bF 234) a [.code (sR (sR (Tryz.f234.body.getD .skip)))] w:=by
 have c4:=hd.c4;have hdl:=bf hd;apply ad.region;refine ba ?_;obtain ⟨pend2,w1,hrun,ho1,hk1,hb1⟩:=app137 (w:=World.alloc w (.cells #[sO b n n] 285)) (a:=⟨w.heap.size,0,none⟩) (c:=1) (m:=1) (news:=[sO b n n]) (hp.alloc _) rfl (fun j u hj=>by
  cases j with
  |zero=>
   obtain rfl:sO b n n=u:=by simpa using hj
   exact af bu ae
  |succ j=>simp at hj) (by simp [Value.oneCell']) ai
 obtain ⟨g,cap,rfl⟩:∃g cap,pend2=sO g (np+1) cap:=by
  rcases ho1.2 with ⟨_,h0⟩|⟨g,cap,cur,h,_⟩
  ·omega
  ·exact ⟨g,cap,h⟩
 (refine ad.app rfl rfl rfl bj aj aj hrun ?_;refine ay ?_)
 have hd1:Drv w1 d room used now kept pend:=hk1.on (bw hd) (fun h=>hpn d h rfl);have fz:=hd1.fz;have d4:=hd1.c4;have hg:=lj ho1 g (by simp [blk,Value.ownBlock]);have hgd:g≠d:=by
  rcases hb1 with h|h
  ·exact hpn g (by rw [←h];simp [blk,Value.ownBlock])
  ·have:g=w.heap.size+1:=by simpa [blk,Value.ownBlock] using h
   omega
 refine ba ?_;refine ad.fin rfl hf bz (results_none rfl _ _ _) (hk _ _ ⟨ee hd1,⟨_,jk (S:=[d]) ho1 (ei) (by simpa [blk,Value.ownBlock] using hgd)⟩,?_,?_⟩)
 ·have h0:ah ([d]++blk pend) w w1:=ah.trans (S:=[d]++blk pend) (ei) hk1 (fun b hb=> .inl (by simp [hb]));exact h0.set (.inl ae)
 ·exact hb1.imp id fun h=>⟨_,by simp,h⟩
end
section
variable {w w1 w2:World}{d now kept b k j n x np:Nat}{room used used1:Int}{pend pend2:Value}{es:Array MapEntry}{s s2:ByteArray}{v dat:Value}{safe:Int}{a:Act}{R:Ending→World→Prop}{K:List Item}{xs:List Value}{L cp:Nat}{da:Option Addr}
theorem Chg.after (h:Chg w1 w2 [d] d room used now kept pend pend2 np)(hk:ah [d,now] w w1):Chg w w2 [d,now] d room used now kept pend pend2 np:=
 ⟨h.drv,h.own,ah.trans (hk.more ae) h.kpt (fun b hb=> .inl (by
  simp only [List.mem_append,List.mem_singleton] at hb;rcases hb with hb|hb <;> simp [hb])),h.blk.imp id fun ⟨m,h1,h2⟩=>⟨m,Nat.le_trans hk.size h1,h2⟩⟩
theorem alg (hd:Drv w d room used now kept pend)(hp:w.ownsRow 0 285 1 pend np xs)(hpd:∀b∈blk pend,b≠d∧b≠now)(hnp:np<1000)(hm:w.heap[now]? =some (.map es k))(ht:txt es)(hn:fnd es s=none)(hdn:now≠d)
  (hr:w.heap[b]? =some (.cells #[.string s,pO x] 311 (0,0)))(hx:w.cell? ⟨x,0,none⟩=some (.slice da L cp))(hxx:x<w.heap.size):
  Calls GP 234 #[pO d,sO b 1 1] w fun e w2=>e= .returned (.tuple #[])∧∃pend2,Chg w w2 [d,now] d room (IntKind.i64.wrap (used+L)) now kept pend pend2 np∧w2.heap[now]? =some (.map (es.push ⟨.string s,pO x,k⟩) (k+1)):=by
 refine dn 234 81 Tryz.func234 fun a hf hsz hv=> ?_
 obtain ⟨v0,v1,-⟩:=ir hv;clear hv;have d2:=hd.c2;refine ba ?_
 (apply ad.val rfl;(case ho=>rfl);(case hw=>exact bj);(case hr=>refine zpr ?_;first|(rw [Sem.run_bind,(map_nil now w)];rfl)|exact (map_nil now w));refine ay ?_)
 refine ba ?_;apply ad.loop;refine ajs (j:=0) (n:=1) (b:=b) hd hm ht hn (af hr ae) (af hr ae) (bf hr) hdn hx hxx bz aj aj et et ai ai fun a1 w1 hsz1 v22 hkp hkt hd1 hm1=> ?_
 have v21:a1.eval (.tmp 21)= .int .i64 1:=(hkp 21 ae).trans aj;have v0':a1.eval (.tmp 0)=pO d:=(hkp 0 ae).trans aj;have v1':a1.eval (.tmp 1)=sO b 1 1:=(hkp 1 ae).trans aj;clear hsz;have hsz:=hsz1;refine zxl ?_;have hb1:∀b∈blk pend,b∉[d,now]:=fun b hb=>by simpa using hpd b hb
 refine aff (b:=b) (n:=1) (np:=np) (pend:=pend) hf hd1 (jk hp hkt hb1) (fun b hb=>(hpd b hb).1) hnp bz aj aj fun pend2 w2 hc=>⟨rfl,pend2,hc.after hkt,hc.kpt.on hm1 ?_⟩
 simp only [List.mem_append,List.mem_singleton,not_or];exact ⟨hdn,fun h=>(hpd _ h).2 rfl⟩
theorem ak2 {i:Nat}(hd:Drv w d room used now kept pend)(hp:w.ownsRow 0 285 1 pend np xs)(hpd:∀b∈blk pend,b≠d∧b≠now)(hnp:np<1000)(hm:w.heap[now]? =some (.map es k))(ht:txt es)(hn:fnd es s=some (i,pO x))(hdn:now≠d)
  (hr:w.heap[b]? =some (.cells #[.string s,.pointer none] 311 (0,0)))(hx:w.cell? ⟨x,0,none⟩=some (.slice da L cp))(hxx:x<w.heap.size):
  Calls GP 234 #[pO d,sO b 1 1] w fun e w2=>e= .returned (.tuple #[])∧∃pend2,Chg w w2 [d,now] d room (IntKind.i64.wrap (used-L)) now kept pend pend2 np∧w2.heap[now]? =some (.map (es.eraseIdxIfInBounds i) k):=by
 refine dn 234 81 Tryz.func234 fun a hf hsz hv=> ?_
 obtain ⟨v0,v1,-⟩:=ir hv;clear hv;have d2:=hd.c2;refine ba ?_
 (apply ad.val rfl;(case ho=>rfl);(case hw=>exact bj);(case hr=>refine zpr ?_;first|(rw [Sem.run_bind,(map_nil now w)];rfl)|exact (map_nil now w));refine ay ?_)
 refine ba ?_;apply ad.loop;refine akd (j:=0) (n:=1) (b:=b) hd hm ht hn (af hr ae) (af hr ae) (bf hr) hdn hx hxx bz aj aj et et ai ai fun a1 w1 hsz1 v22 hkp hkt hd1 hm1=> ?_
 have v21:a1.eval (.tmp 21)= .int .i64 1:=(hkp 21 ae).trans aj;have v0':a1.eval (.tmp 0)=pO d:=(hkp 0 ae).trans aj;have v1':a1.eval (.tmp 1)=sO b 1 1:=(hkp 1 ae).trans aj;clear hsz;have hsz:=hsz1;refine zxl ?_;have hb1:∀b∈blk pend,b∉[d,now]:=fun b hb=>by simpa using hpd b hb
 refine aff (b:=b) (n:=1) (np:=np) (pend:=pend) hf hd1 (jk hp hkt hb1) (fun b hb=>(hpd b hb).1) hnp bz aj aj fun pend2 w2 hc=>⟨rfl,pend2,hc.after hkt,hc.kpt.on hm1 ?_⟩
 simp only [List.mem_append,List.mem_singleton,not_or];exact ⟨hdn,fun h=>(hpd _ h).2 rfl⟩
theorem amy {i:Nat}(hd:Drv w d room used now kept pend)(hp:w.ownsRow 0 285 1 pend np xs)(hpd:∀b∈blk pend,b≠d∧b≠now)(hnp:np<1000)(hm:w.heap[now]? =some (.map es k))(ht:txt es)(hn:fnd es s=some (i,pO x))(ht2:txt (es.eraseIdxIfInBounds i))(hn2:fnd (es.eraseIdxIfInBounds i) s2=none)(hdn:now≠d)(hbd:b≠d∧b≠now)(hxd:x≠d∧x≠now)
  (hr:w.heap[b]? =some (.cells #[.string s,.pointer none,.string s2,pO x] 311 (0,0)))(hx:w.cell? ⟨x,0,none⟩=some (.slice da L cp))(hxx:x<w.heap.size):
  Calls GP 234 #[pO d,sO b 2 2] w fun e w2=>e= .returned (.tuple #[])∧∃pend2,Chg w w2 [d,now] d room (IntKind.i64.wrap (IntKind.i64.wrap (used-L)+L)) now kept pend pend2 np∧w2.heap[now]? =some (.map ((es.eraseIdxIfInBounds i).push ⟨.string s2,pO x,k⟩) (k+1)):=by
 refine dn 234 81 Tryz.func234 fun a hf hsz hv=> ?_
 obtain ⟨v0,v1,-⟩:=ir hv;clear hv;have d2:=hd.c2;refine ba ?_
 (apply ad.val rfl;(case ho=>rfl);(case hw=>exact bj);(case hr=>refine zpr ?_;first|(rw [Sem.run_bind,(map_nil now w)];rfl)|exact (map_nil now w));refine ay ?_)
 refine ba ?_;apply ad.loop;refine akd (j:=0) (n:=2) (b:=b) hd hm ht hn (af hr ae) (af hr ae) (bf hr) hdn hx hxx bz aj aj et et ai ai fun a1 w1 hsz1 v22 hkp hkt hd1 hm1=> ?_
 have v21:a1.eval (.tmp 21)= .int .i64 2:=(hkp 21 ae).trans aj;have v20:a1.eval (.tmp 20)=sO b 2 2:=(hkp 20 ae).trans aj;have v0':a1.eval (.tmp 0)=pO d:=(hkp 0 ae).trans aj;have v1':a1.eval (.tmp 1)=sO b 2 2:=(hkp 1 ae).trans aj;apply ad.inLoop;have hr1:=hkt.on hr (by simpa using hbd);have hx1:w1.cell? ⟨x,0,none⟩=some (.slice da L cp):=(hkt.cell hxx (by simpa using hxd)).trans hx;refine ajs (j:=1) (n:=2) (b:=b) hd1 hm1 ht2 hn2 (af hr1 ae) (af hr1 ae) (bf hr1) hdn hx1 (Nat.lt_of_lt_of_le hxx hkt.size) hsz1 v0' v20 v21 v22 ai ai fun a2 w2 hsz2 v22' hkp2 hkt2 hd2 hm2=> ?_
 have v21':a2.eval (.tmp 21)= .int .i64 2:=(hkp2 21 ae).trans v21;have v0'':a2.eval (.tmp 0)=pO d:=(hkp2 0 ae).trans v0';have v1'':a2.eval (.tmp 1)=sO b 2 2:=(hkp2 1 ae).trans v1';clear hsz hsz1;have hsz:=hsz2;refine zxl ?_;have hb1:∀b∈blk pend,b∉[d,now]:=fun b hb=>by simpa using hpd b hb
 have hkt3:ah [d,now] w w2:=hkt.trans hkt2 (fun b hb=> .inl hb);refine aff (b:=b) (n:=2) (np:=np) (pend:=pend) hf hd2 (jk hp hkt3 hb1) (fun b hb=>(hpd b hb).1) hnp bz aj aj fun pend2 w3 hc=>⟨rfl,pend2,hc.after hkt3,hc.kpt.on hm2 ?_⟩
 simp only [List.mem_append,List.mem_singleton,not_or];exact ⟨hdn,fun h=>(hpd _ h).2 rfl⟩
end
end Go.Proofs.YthgpdljlehklhaaGreat.wk
namespace Go.Proofs.YthgpdljlehklhaaGreat.wk
open Go Go.Conc zr dr wd drv
set_option linter.unusedVariables false
set_option maxHeartbeats 4000000
structure Dv (w:World)(d:Nat)(room used:Int)(now kept:Nat)(pend:Value)(np:Nat)(es:Array MapEntry)(k:Nat):Prop where
 drv:Drv w d room used now kept pend
 own:∃xs,w.ownsRow 0 285 1 pend np xs
 apart:∀b∈blk pend,b≠d∧b≠now
 mp:w.heap[now]? =some (.map es k)
 tx:txt es
 ne:now≠d
def Bdy (w:World)(x:Nat)(dat:Value)(safe:Int):Prop:=w.heap[x]? =some (.cells #[dat,.int .i64 safe] 142 (0,0))
section
variable {w w1 w2:World}{d now kept b k j n x np:Nat}{room used used1:Int}{pend pend2:Value}{es es2:Array MapEntry}{s s2:ByteArray}{v dat:Value}{safe:Int}{a:Act}{R:Ending→World→Prop}{K:List Item}{xs:List Value}{L cp:Nat}{da:Option Addr}
theorem Dv.chg (h:Dv w d room used now kept pend np es k)(hk:ah [] w w1)(hc:Chg w1 w2 [d,now] d room used1 now kept pend pend2 np){k2:Nat}(hm:w2.heap[now]? =some (.map es2 k2))(ht:Go.Proofs.YthgpdljlehklhaaGreat.wk.txt es2):Dv w2 d room used1 now kept pend2 (np+1) es2 k2∧ah ([d,now]++blk pend) w w2∧∀b∈blk pend2,b∈blk pend∨w1.heap.size≤b:=by
 have hkk:ah ([d,now]++blk pend) w w2:=ah.trans (hk.more ae) hc.kpt (fun b hb=> .inl hb);refine ⟨⟨hc.drv,hc.own,fun b hb=> ?_,hm,ht,h.ne⟩,hkk,fun b hb=> ?_⟩
 rotate_left
 ·rcases hc.blk with e|⟨m,hm1,e⟩
  ·exact .inl (e▸hb)
  ·rw [e,List.mem_singleton] at hb;exact .inr (hb▸hm1)
 have q1:=bf h.drv;have q2:=bf h.mp;rcases hc.blk with e|⟨m,hm1,e⟩
 ·exact h.apart b (e▸hb)
 ·rw [e,List.mem_singleton] at hb;have:=hk.size;omega
theorem am0 (h:Dv w d room used now kept pend np es k)(hnp:np<1000)(hn:fnd es s=none)(hes:es.size<65536)(hu0:0≤used)(hu:used<1099511627776)(h1:1≤s.size)(h2:s.size≤1024):
  Calls GP 228 #[pO d,.string s] w fun e w2=>e= .returned (.int .i64 0)∧∃pend2 x,Dv w2 d room used now kept pend2 (np+1) (es.push ⟨.string s,pO x,k⟩) (k+1)∧Bdy w2 x (.slice none 0 0) 0∧w.heap.size≤x∧ah ([d,now]++blk pend) w w2∧x∉blk pend2∧∀b∈blk pend2,b∈blk pend∨w.heap.size≤b:=by
 refine dn 228 35 Tryz.func228 fun a hf hsz hv=> ?_
 obtain ⟨v0,v1,-⟩:=ir hv;clear hv;have hd:=h.drv;have hm:=h.mp;have d2:=hd.c2;have e1:decide ((65536:Int)≤(es.size:Int))=false:=by
  simp only [decide_eq_false_iff_not];omega
 refine ba ?_;refine bt 78 (sd h1 h2 w) fun v w2 hr=> ?_
 obtain ⟨hv,e⟩:=hr;have e:=e.symm;subst e;obtain rfl:v= .bool true:=by simpa using hv
 refine ba ?_
 (apply ad.val rfl;(case ho=>rfl);(case hw=>exact bj);(case hr=>refine zpr ?_;first|(rw [Sem.run_bind,(ou hm h.tx)];rfl)|exact (ou hm h.tx));refine ay ?_)
 rw [hn,ada];refine zlv ?_;refine zlv ?_;refine zlg ?_;refine zlg ?_;refine zlg ?_;refine zlg ?_
 (refine ad.len rfl rfl rfl bj aj (len_map hm) ?_;refine ay ?_)
 refine ba ?_;obtain ⟨xs,hown⟩:=h.own;have hkw:ah [] w ((w.alloc (.cells #[.slice none 0 0,.int .i64 0] 142)).alloc (.cells #[.string s,pO w.heap.size] 311)):=ei;have hc:=alg (b:=w.heap.size+1) (x:=w.heap.size) (da:=none) (L:=0) (cp:=0) (np:=np) (bw (bw hd)) (jk hown hkw ae) h.apart hnp (bw (bw hm)) h.tx hn h.ne (fy ae) (af (bw bu) ae) (by simp;omega);refine bt 234 hc fun v w2 hr=> ?_
 obtain ⟨hv,pend2,hcg,hm2⟩:=hr;refine ba ?_;obtain ⟨r1,r2,r3⟩:=h.chg hkw hcg hm2 (aia h.tx _ _ _);have eu:IntKind.i64.wrap (used+ ((0:Nat):Int))=used:=by
  rw [Int.ofNat_zero,Int.add_zero];exact xa _ hu0 ai
 rw [eu] at r1;have hx:w2.heap[w.heap.size]? =some (.cells #[.slice none 0 0,.int .i64 0] 142 (0,0)):=by
  have q1:=bf hd;have q2:=bf hm;refine hcg.kpt.on (bw bu) fun hb=> ?_
  simp only [List.mem_append,List.mem_cons,List.not_mem_nil,or_false] at hb;rcases hb with (hb|hb)|hb
  ·omega
  ·omega
  ·have:=lj hown _ hb;omega
 exact ad.dq rfl hf rfl bz aj ⟨rfl,pend2,w.heap.size,r1,hx,Nat.le_refl _,r2,fun hb=>by
  rcases r3 _ hb with h1|h1
  ·have:=lj hown _ h1;omega
  ·simp at h1;omega,fun b hb=>(r3 b hb).imp id fun h1=>by
  simp at h1;omega⟩
end
section
variable {w w1 w2:World}{d now kept b k i n x np nd m c:Nat}{room used used1:Int}{pend pend2:Value}{es es2:Array MapEntry}{s s2:ByteArray}{v dat:Value}{safe:Int}{a:Act}{R:Ending→World→Prop}{K:List Item}{ds news:List Value}{p:Addr}
theorem ze (h:Dv w d room used now kept pend np es k)(hn:fnd es s=some (i,.pointer (some p)))(h1:1≤s.size)(h2:s.size≤1024):Calls GP 50 #[pO d,.string s] w fun e w2=>e= .returned (.tuple #[.pointer (some p),.int .i64 0])∧w2=w:=
 ak8 h1 h2 h.drv.c2 (by rw [ou h.mp h.tx,hn];rfl)
theorem find_no (h:Dv w d room used now kept pend np es k)(hn:fnd es s=none)(h1:1≤s.size)(h2:s.size≤1024):Calls GP 50 #[pO d,.string s] w fun e w2=>e= .returned (.tuple #[.pointer none,.int .i64 110])∧w2=w:=
 ab6 h1 h2 h.drv.c2 (by rw [ou h.mp h.tx,hn];rfl)
theorem aol (h:Dv w d room used now kept pend np es k)(hn:fnd es s=some (i,pO x))(h1:1≤s.size)(h2:s.size≤1024)(hb:Bdy w x dat safe)(ho:w.ownsRow 0 5 1 dat nd ds)(hx:x≠d∧x≠now∧x∉blk pend)(hdx:∀b∈blk dat,b≠d∧b≠now∧b≠x∧b∉blk pend)
  (hl:news.length=m)(hnews:∀j u,news[j]? =some u→w.cell? (p.add j)=some u)(hm1:∀u∈news,u.oneCell'=true)(hm:0<m)(hnm:nd+m<1000000000)(hu0:0≤used)(hu:used+m≤room)(hr:room<1099511627776):
  Calls GP 227 #[pO d,.string s,.slice (some p) m c] w fun e w2=>e= .returned (.int .i64 0)∧∃dat2,Dv w2 d room (used+m) now kept pend np es k∧Bdy w2 x dat2 safe∧w2.ownsRow 0 5 1 dat2 (nd+m) (ds++news)∧ah ([d,x]++blk dat) w w2∧(blk dat2=blk dat∨blk dat2=[w.heap.size]):=by
 refine dn 227 53 Tryz.func227 fun a hf hsz hv=> ?_
 obtain ⟨v0,v1,v2,-⟩:=za3 hv;clear hv;have hd:=h.drv;have d0:=hd.c0;have d1:=hd.c1;have b0:w.cell? ⟨x,0,none⟩=some dat:=af hb ae;refine ba ?_;refine bt 50 (ze h hn h1 h2) fun v w2 hr=> ?_
 obtain ⟨hv,e⟩:=hr;obtain rfl:=bh hv;have e:=e.symm;subst e;have e0:((m:Int)==0)=false:=by simp;omega
 have e1:IntKind.i64.wrap (used+m)=used+m:=xa _ ai ai;have e2:decide (room<used+m)=false:=by simp;omega
 refine ba ?_;refine zwq ?_;intro dd;refine ba ?_;obtain ⟨dat2,w1,hrun,ho1,hk1,hb1⟩:=qt (w:=World.at w dd) (a:=p) (c:=c) (m:=m) (news:=news) (v:=dat) ho hl hnews hm1 hnm;obtain ⟨g,cap,rfl⟩:∃g cap,dat2=sO g (nd+m) cap:=by
  rcases ho1.2 with ⟨_,h0⟩|⟨g,cap,cur,h,_⟩
  ·omega
  ·exact ⟨g,cap,h⟩
 have hk1:ah (blk dat) w w1:=⟨hk1.size,hk1.ff,hk1.os,hk1.out⟩
 (refine ad.app rfl rfl rfl bj aj aj hrun ?_;refine ay ?_)
 have q1:=bf hd;have q2:=bf hb;have q3:=bf h.mp;have hd1:Drv w1 d room used now kept pend:=hk1.on hd fun h=>(hdx d h).1 rfl
 have hbb:Bdy w1 x dat safe:=hk1.on hb fun h=>(hdx x h).2.2.1 rfl
 have hmm:w1.heap[now]? =some (.map es k):=hk1.on h.mp fun h=>(hdx now h).2.1 rfl
 have fzd:=hd1.fz;have fzx:∀j,w1.frozen? ⟨x,j,none⟩=false:=fun j=>ed hbb
 have d1':=hd1.c1;have b0':w1.cell? ⟨x,0,none⟩=some dat:=af hbb ae;have hg:g≠d∧g≠x:=by
  rcases hb1 with h|h
  ·have:=hdx g (by rw [←h];simp [blk,Value.ownBlock]);exact ⟨this.1,this.2.2.1⟩
  ·have:g=w.heap.size:=by simpa [blk,Value.ownBlock] using h
   omega
 have hxd:x≠d:=hx.1;refine ba ?_;have hkf:ah [d,x] w1 ((w1.setCell ⟨x,0,none⟩ (sO g (nd+m) cap)).setCell ⟨d,1,none⟩ (.int .i64 (used+m))):=ei;have hkk:ah ([d,x]++blk dat) w ((w1.setCell ⟨x,0,none⟩ (sO g (nd+m) cap)).setCell ⟨d,1,none⟩ (.int .i64 (used+m))):=ah.trans (S:=[d,x]++blk dat) (w1:=w1) (hk1.more (by grind)) hkf (by grind);obtain ⟨xs,hown⟩:=h.own;have hap:=h.apart;have hne:=h.ne;exact ad.dq rfl hf rfl bz aj ⟨rfl,_,⟨ee ((ig (Ne.symm hxd)).trans hd1),⟨xs,jk hown hkk (by grind)⟩,h.apart,hkk.on h.mp (by grind),h.tx,h.ne⟩,(ig hxd).trans (ee hbb),jk ho1 hkf (by simpa [blk,Value.ownBlock] using hg),hkk,hb1⟩
end
section
variable {w w1 w2:World}{d now kept b k i n x np nd m c L cp:Nat}{room used used1:Int}{pend pend2:Value}{es es2:Array MapEntry}{s s2:ByteArray}{v dat:Value}{safe:Int}{a:Act}{R:Ending→World→Prop}{K:List Item}{ds news:List Value}{p:Addr}{da:Option Addr}
theorem sync_ok (h:Dv w d room used now kept pend np es k)(hn:fnd es s=some (i,pO x))(h1:1≤s.size)(h2:s.size≤1024)(hb:Bdy w x (.slice da L cp) safe)(hx:x≠d∧x≠now∧x∉blk pend):
  Calls GP 232 #[pO d,.string s] w fun e w2=>e= .returned (.int .i64 0)∧Dv w2 d room used now kept pend np es k∧Bdy w2 x (.slice da L cp) L∧ah [x] w w2:=by
 refine dn 232 24 Tryz.func232 fun a hf hsz hv=> ?_
 obtain ⟨v0,v1,-⟩:=ir hv;clear hv;have hd:=h.drv;have b0:w.cell? ⟨x,0,none⟩=some (.slice da L cp):=af hb ae;have fzx:∀j,w.frozen? ⟨x,j,none⟩=false:=fun j=>ed hb
 have b1:w.cell? ⟨x,1,none⟩=some (.int .i64 safe):=af hb ae;refine ba ?_;refine bt 50 (ze h hn h1 h2) fun v w2 hr=> ?_
 obtain ⟨hv,e⟩:=hr;obtain rfl:=bh hv;have e:=e.symm;subst e;refine ba ?_;have hkk:ah [x] w (w.setCell ⟨x,1,none⟩ (.int .i64 L)):=ei;obtain ⟨xs,hown⟩:=h.own;have hap:=h.apart;have hne:=h.ne;exact ad.dq rfl hf rfl bz aj ⟨rfl,⟨hkk.on hd (by grind),⟨xs,jk hown hkk (by grind)⟩,hap,hkk.on h.mp (by grind),h.tx,h.ne⟩,ee hb,hkk⟩
theorem an2 (h:Dv w d room used now kept pend np es k)(hnp:np<1000)(hn:fnd es s=some (i,pO x))(h1:1≤s.size)(h2:s.size≤1024)(hb:Bdy w x (.slice da L cp) safe):
  Calls GP 230 #[pO d,.string s] w fun e w2=>e= .returned (.int .i64 0)∧∃pend2,Dv w2 d room (IntKind.i64.wrap (used-L)) now kept pend2 (np+1) (es.eraseIdxIfInBounds i) k∧ah ([d,now]++blk pend) w w2∧∀b∈blk pend2,b∈blk pend∨w.heap.size≤b:=by
 refine dn 230 21 Tryz.func230 fun a hf hsz hv=> ?_
 obtain ⟨v0,v1,-⟩:=ir hv;clear hv;have hd:=h.drv;have b0:w.cell? ⟨x,0,none⟩=some (.slice da L cp):=af hb ae;refine ba ?_;refine bt 50 (ze h hn h1 h2) fun v w2 hr=> ?_
 obtain ⟨hv,e⟩:=hr;obtain rfl:=bh hv;have e:=e.symm;subst e;refine ba ?_;obtain ⟨xs,hown⟩:=h.own;have hkw:ah [] w (w.alloc (.cells #[.string s,.pointer none] 311)):=ei;have hc:=ak2 (b:=w.heap.size) (x:=x) (da:=da) (L:=L) (cp:=cp) (np:=np) (bw hd) (jk hown hkw ae) h.apart hnp (bw h.mp) h.tx hn h.ne bu (af (bw hb) ae) (by have:=bf hb;simp;omega);refine bt 234 hc fun v w2 hr=> ?_
 obtain ⟨hv,pend2,hcg,hm2⟩:=hr;refine ba ?_;obtain ⟨r1,r2,r3⟩:=h.chg hkw hcg hm2 (acj h.tx _);exact ad.dq rfl hf rfl bz aj ⟨rfl,pend2,r1,r2,fun b hb=>(r3 b hb).imp id fun h1=>by
  simp at h1;omega⟩
theorem aoe (h:Dv w d room used now kept pend np es k)(hnp:np<1000)(hn:fnd es s=some (i,pO x))(hn2:fnd (es.eraseIdxIfInBounds i) s2=none)(hss:(s.toList==s2.toList)=false)(h1:1≤s.size)(h2:s.size≤1024)(h3:1≤s2.size)(h4:s2.size≤1024)(hb:Bdy w x (.slice da L cp) safe)(hx:x≠d∧x≠now):
  Calls GP 231 #[pO d,.string s,.string s2] w fun e w2=>e= .returned (.int .i64 0)∧∃pend2,Dv w2 d room (IntKind.i64.wrap (IntKind.i64.wrap (used-L)+L)) now kept pend2 (np+1) ((es.eraseIdxIfInBounds i).push ⟨.string s2,pO x,k⟩) (k+1)∧ah ([d,now]++blk pend) w w2∧∀b∈blk pend2,b∈blk pend∨w.heap.size≤b:=by
 refine dn 231 40 Tryz.func231 fun a hf hsz hv=> ?_
 obtain ⟨v0,v1,v2,-⟩:=za3 hv;clear hv;have hd:=h.drv;have b0:w.cell? ⟨x,0,none⟩=some (.slice da L cp):=af hb ae;refine ba ?_;refine bt 78 (sd h1 h2 w) fun v w2 hr=> ?_
 obtain ⟨hv,e⟩:=hr;obtain rfl:=bh hv;have e:=e.symm;subst e;refine ba ?_;refine bt 78 (sd h3 h4 w) fun v w2 hr=> ?_
 obtain ⟨hv,e⟩:=hr;obtain rfl:=bh hv;have e:=e.symm;subst e;refine ba ?_;refine bt 50 (ze h hn h1 h2) fun v w2 hr=> ?_
 obtain ⟨hv,e⟩:=hr;obtain rfl:=bh hv;have e:=e.symm;subst e;refine ba ?_;obtain ⟨xs,hown⟩:=h.own;have hkw:ah [] w (w.alloc (.cells #[.string s,.pointer none,.string s2,pO x] 311)):=ei;have q1:=bf hd;have q2:=bf h.mp;have hc:=amy (b:=w.heap.size) (x:=x) (da:=da) (L:=L) (cp:=cp) (np:=np) (bw hd) (jk hown hkw ae) h.apart hnp (bw h.mp) h.tx hn (acj h.tx _) hn2 h.ne ai hx bu (af (bw hb) ae) (by have:=bf hb;simp;omega);refine bt 234 hc fun v w2 hr=> ?_
 obtain ⟨hv,pend2,hcg,hm2⟩:=hr;refine ba ?_;obtain ⟨r1,r2,r3⟩:=h.chg hkw hcg hm2 (aia (acj h.tx _) _ _ _);exact ad.dq rfl hf rfl bz aj ⟨rfl,pend2,r1,r2,fun b hb=>(r3 b hb).imp id fun h1=>by
  simp at h1;omega⟩
end
section
variable {w w1 w2:World}{d now kept b k i n x np nd m c L cp:Nat}{room used used1:Int}{pend pend2:Value}{es es2:Array MapEntry}{s s2:ByteArray}{v dat:Value}{safe:Int}{a:Act}{R:Ending→World→Prop}{K:List Item}{ds news:List Value}{p:Addr}{da:Option Addr}
theorem ajo (p:Addr)(m c:Nat)(w:World):Sem.run GP (do
  eqGuard .eql 49 (.tmp 3) (.const (.slice none 0 0)) (.slice (some p) m c) (.slice none 0 0)
  binOp .eql 49 (.slice (some p) m c) (.slice none 0 0)) w= .ok (.bool false) w:=by kernel_rfl
theorem aii (m:Nat)(w:World):Sem.run GP (do
  eqGuard .eql 136 (.tmp 3) (.const (.map none)) (.map (some m)) (.map none)
  binOp .eql 136 (.map (some m)) (.map none)) w= .ok (.bool false) w:=by kernel_rfl
theorem rf (hl:news.length=m)(hnews:∀j u,news[j]? =some u→w.cell? (p.add j)=some u)(hp:p.block<w.heap.size)(hm1:∀u∈news,u.oneCell'=true)(hm:0<m)(hmm:m<1000000000):
  Calls GP 49 #[.slice (some p) m c] w fun e w2=>(∃v,e= .returned v)∧∃g cap,e= .returned (sO g m cap)∧w2.ownsRow 0 5 1 (sO g m cap) m news∧w.heap.size≤g∧ah [] w w2:=by
 refine dn 49 8 Tryz.func49 fun a hf hsz hv=> ?_
 obtain ⟨v0,-⟩:=ie hv;clear hv;refine ba ?_
 (apply ad.val rfl;(case ho=>rfl);(case hw=>exact bj);(case hr=>refine zpr ?_;first|(rw [Sem.run_bind,(ajo p m c w)];rfl)|exact (ajo p m c w));refine ay ?_)
 refine ba ?_;have hkw:ah [] w (w.alloc (.cells #[] 5)):=ei;obtain ⟨v,w1,hrun,ho1,hk1,hb1⟩:=qt (w:=World.alloc w (.cells #[] 5)) (a:=p) (c:=c) (m:=m) (news:=news) (v:=sO w.heap.size 0 0) (n:=0) (xs:=[]) ⟨rfl,.inr ⟨w.heap.size,0,#[],rfl,Nat.zero_le _,bu,Nat.le_refl _,Nat.zero_le _,rfl,rfl⟩⟩ hl (fun j u hj=>by
  rw [hkw.cell (by unfold Addr.add;split <;> exact hp) ae];exact hnews j u hj) hm1 ai
 obtain ⟨g,cap,rfl⟩:∃g cap,v=sO g (0+m) cap:=by
  rcases ho1.2 with ⟨_,h0⟩|⟨g,cap,cur,h,_⟩
  ·omega
  ·exact ⟨g,cap,h⟩
 rw [Nat.zero_add] at hrun ho1 hb1
 (refine ad.app rfl rfl rfl bj aj aj hrun ?_;refine ay ?_)
 refine ba ?_;have hg:w.heap.size≤g:=by
  rcases hb1 with h|h
  ·have:g=w.heap.size:=by simpa [blk,Value.ownBlock] using h
   omega
  ·have:g=w.heap.size+1:=by simpa [blk,Value.ownBlock] using h
   omega
 exact ad.dq rfl hf rfl bz aj ⟨⟨_,rfl⟩,g,cap,rfl,ho1,hg,ah.trans hkw hk1 (by simp [blk,Value.ownBlock])⟩
theorem gp236:GP.funcs[236]? =some Tryz.f236:=by
 show (Tryz.prog.funcs.map (mj Tryz.prog))[236]? =_;rw [Array.getElem?_map,Tryz.func236];rfl
theorem aof (h:w.heap[m]? =some (.map es k)):(callFunc 236 #[.iface 136 (.map (some m))]).run GP w= .ok (.value (.iface 136 (.map (some w.heap.size)))) (w.alloc (.map es k)):=by
 obtain ⟨h1,h2⟩:=ah7 236 _ Tryz.func236 rfl du;have hn:(Tryz.f236.name== "runtime.NumGoroutine")=false:=my _ _ Tryz.func236;have hb:Tryz.f236.body.isNone=true:=rfl;unfold callFunc;rw [Sem.run_bind,run_program];simp only [Result.andThen_ok];rw [gp236];simp only [hn,hb,h1,h2];show Sem.run GP (do pure (Next.value (←Extern.MapsClone.clone #[.iface 136 (.map (some m))]))) w=_;rw [Sem.run_bind];have e:(Extern.MapsClone.clone #[.iface 136 (.map (some m))]).run GP w= .ok (.iface 136 (.map (some w.heap.size))) (w.alloc (.map es k)):=by
  unfold Extern.MapsClone.clone;show Sem.run GP (do
   let .map entries clock ←getObj m|stuck "maps.clone: a map expected"
   pure (Value.iface 136 (Value.map (some (←newObj (.map entries clock)))))) w=_
  rw [Sem.run_bind,get_map h];rfl
 rw [e];rfl
theorem as136 (v:Value)(w:World):(Instr.typeAssert (.iface 136 v) 20 136 false).run GP w= .ok v w:=by kernel_rfl
theorem ais (h:w.heap[m]? =some (.map es k)):Calls GP 235 #[.map (some m)] w fun e w2=>e= .returned (.map (some w.heap.size))∧w2=w.alloc (.map es k):=by
 refine dn 235 9 Tryz.func235 fun a hf hsz hv=> ?_
 obtain ⟨v0,-⟩:=ie hv;clear hv;refine ba ?_
 (apply ad.val rfl;(case ho=>rfl);(case hw=>exact bj);(case hr=>refine zpr ?_;first|(rw [Sem.run_bind,(aii m w)];rfl)|exact (aii m w));refine ay ?_)
 refine ba ?_;apply ad.val rfl (v:= .iface 136 (.map (some w.heap.size))) (w1:=w.alloc (.map es k))
 (case ho=>rfl)
 (case hw=>exact dt rfl)
 (case hr=>
  rw [cw (f:=236) rfl];simp+decide only [List.map_toArray,List.map_cons,List.map_nil,eval_put,eval_const,size_put,if_true,if_false, *];exact aof h)
 refine ay ?_
 (apply ad.val rfl;(case ho=>rfl);(case hw=>exact bj);(case hr=>refine zpr ?_;first|(rw [Sem.run_bind,(as136 (.map (some w.heap.size)) (w.alloc (.map es k)))];rfl)|exact (as136 (.map (some w.heap.size)) (w.alloc (.map es k))));refine ay ?_)
 refine ba ?_;exact ad.dq rfl hf rfl bz aj ⟨rfl,rfl⟩
theorem alp (h:Dv w d room used now kept pend np es k):
  Calls GP 233 #[pO d] w fun e w2=>e= .returned (.int .i64 0)∧Dv w2 d room used now w.heap.size (.slice none 0 0) 0 es k∧ah [d] w w2:=by
 refine dn 233 16 Tryz.func233 fun a hf hsz hv=> ?_
 obtain ⟨v0,-⟩:=ie hv;clear hv;have hd:=h.drv;have d2:=hd.c2;have d3:=hd.c3;have d4:=hd.c4;have fz:=hd.fz;refine ba ?_;refine bt 235 (ais h.mp) fun v w2 hr=> ?_
 obtain ⟨hv,e⟩:=hr;obtain rfl:=bh hv;subst e;have q1:=bf hd;have d3':(w.alloc (.map es k)).cell? ⟨d,3,none⟩=some (.map (some kept)):=af (bw hd) ae;have d4':(w.alloc (.map es k)).cell? ⟨d,4,none⟩=some pend:=af (bw hd) ae;have fz':∀j,(w.alloc (.map es k)).frozen? ⟨d,j,none⟩=false:=fun j=>ed (bw hd)
 refine ba ?_;have q2:=bf h.mp;have hkk:ah [d] w (((w.setCell ⟨d,3,none⟩ (.map (some w.heap.size))).setCell ⟨d,4,none⟩ (.slice none 0 0)).alloc (.map es k)):=ei;exact ad.dq rfl hf rfl bz aj ⟨rfl,⟨bw (ee (ee hd)),⟨[],World.ownsRow_nil _ _ _ _⟩,by simp [blk,Value.ownBlock],hkk.on h.mp (by simpa using h.ne),h.tx,h.ne⟩,hkk⟩
theorem read_ok (h:Dv w d room used now kept pend np es k)(hn:fnd es s=some (i,pO x))(h1:1≤s.size)(h2:s.size≤1024)(hb:Bdy w x dat safe)(ho:w.ownsRow 0 5 1 dat m news)(hm1:∀u∈news,u.oneCell'=true)(hm:0<m)(hmm:m<1000000000):
  Calls GP 229 #[pO d,.string s] w fun e w2=>(∃v,e= .returned v)∧∃g cap,e= .returned (.tuple #[sO g m cap,.int .i64 0])∧w2.ownsRow 0 5 1 (sO g m cap) m news∧w.heap.size≤g∧ah [] w w2:=by
 refine dn 229 22 Tryz.func229 fun a hf hsz hv=> ?_
 obtain ⟨v0,v1,-⟩:=ir hv;clear hv;have b0:w.cell? ⟨x,0,none⟩=some dat:=af hb ae;obtain ⟨g0,cap0,rfl⟩:∃g cap,dat=sO g m cap:=by
  rcases ho.2 with ⟨_,h0⟩|⟨g,cap,cur,h,_⟩
  ·omega
  ·exact ⟨g,cap,h⟩
 refine ba ?_;refine bt 50 (ze h hn h1 h2) fun v w2 hr=> ?_
 obtain ⟨hv,e⟩:=hr;obtain rfl:=bh hv;have e:=e.symm;subst e;refine ba ?_;have hlen:news.length=m:=by have:=ho.1;omega
 refine bt 49 (rf (c:=cap0) hlen (ho.cells (g:=g0) rfl) (lj ho g0 (by simp [blk,Value.ownBlock])) hm1 hm hmm) fun v w2 hr=> ?_
 obtain ⟨-,g,cap,hv,ho2,hg,hk⟩:=hr;obtain rfl:=bh hv;refine ba ?_;exact ad.qs rfl hf rfl bz aj aj ⟨⟨_,rfl⟩,g,cap,rfl,ho2,hg,hk⟩
theorem read_no (h:Dv w d room used now kept pend np es k)(hn:fnd es s=none)(h1:1≤s.size)(h2:s.size≤1024):
  Calls GP 229 #[pO d,.string s] w fun e w2=>e= .returned (.tuple #[.slice none 0 0,.int .i64 110])∧w2=w:=by
 refine dn 229 22 Tryz.func229 fun a hf hsz hv=> ?_
 obtain ⟨v0,v1,-⟩:=ir hv;clear hv;refine ba ?_;refine bt 50 (find_no h hn h1 h2) fun v w2 hr=> ?_
 obtain ⟨hv,e⟩:=hr;obtain rfl:=bh hv;have e:=e.symm;subst e;refine ba ?_;exact ad.qs rfl hf rfl bz aj aj ⟨rfl,rfl⟩
end
end Go.Proofs.YthgpdljlehklhaaGreat.wk
