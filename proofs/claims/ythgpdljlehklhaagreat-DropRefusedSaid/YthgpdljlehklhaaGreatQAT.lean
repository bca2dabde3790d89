/- Part QAT of the proof that DropRefused answers true whatever its input. No condition. -/
import Derived.Recover
import Derived.Test.YthgpdljlehklhaaGreatQAS
import Derived.Test.YthgpdljlehklhaaGreatQAR
set_option maxRecDepth 100000
namespace Go.Proofs.YthgpdljlehklhaaGreat.wk
open Go Go.Conc zr dr wd drv
set_option linter.unusedVariables false
set_option maxHeartbeats 4000000
theorem zmo {P:Program}{R:Ending→World→Prop}{b:Frame}{a:Act}{k:List Item}{w w1:World}{ops:Array Oper}{o:Oper}{v:Value}{S:World→Prop}{m n:Nat}{listed:Array Bool}(i:Nat)(h:fa P R b k ops S m n (listed.setIfInBounds i true) (a.put o.dst v) w1)(hr:Region.ready .any ops listed=[i]:=by decide+kernel)(hi:ops[i]? =some o:=by rfl)(hw:Region.wanted o (yielded ops a.tmps)=true:=by exact bj)(hv:(execOp a.eval o).run P w= .ok (.value v) w1:=by exact zxr)(hS:i<m→S w1):fa P R b k ops S m (n+1) listed a w:=fa.solo i hr hi hw v w1 hv hS h
theorem zms {P:Program}{R:Ending→World→Prop}{b:Frame}{a:Act}{k:List Item}{w w1:World}{ops:Array Oper}{o:Oper}{S:World→Prop}{m n:Nat}{listed:Array Bool}(i:Nat)(h:fa P R b k ops S m n (listed.setIfInBounds i true) (a.put o.dst undef) w1)(hr:Region.ready .any ops listed=[i]:=by decide+kernel)(hi:ops[i]? =some o:=by rfl)(hw:Region.wanted o (yielded ops a.tmps)=true:=by exact bj)(hv:(execOp a.eval o).run P w= .ok .skip w1:=by exact zxs)(hS:i<m→S w1):fa P R b k ops S m (n+1) listed a w:=fa.vf i hr hi hw w1 hv hS h
theorem cg {P:Program}{R:Ending→World→Prop}{b:Frame}{a:Act}{k:List Item}{w:World}{ops:Array Oper}{o:Oper}{v:Value}{S:World→Prop}{m n:Nat}{listed:Array Bool}(i:Nat)(h:fa P R b k ops S m n (listed.setIfInBounds i true) (a.put o.dst v) w)(hi:ops[i]? =some o:=by rfl)(hs:Region.noSelect ops=true:=by decide+kernel)(hf:Region.free .any ops listed i=true:=by decide+kernel)(hr:(Region.ready .any ops listed).contains i=true:=by decide+kernel)(ht:ack m ops i=true:=by decide+kernel)(hw:Region.wanted o (yielded ops a.tmps)=true:=by exact bj)(hv:∀u,S u→(execOp a.eval o).run P u= .ok (.value v) u:=by intro u hu;(try dsimp only at hu);exact zxr)(hS:S w:=by exact hS0):fa P R b k ops S m (n+1) listed a w:=fa.take i hi hs hf hr ht v hw hv hS h
theorem au {P' P:Prop}(h2:P')(h:Wrp P'→P:=by intro hG;(repeat (first|refine zlv ?_|refine zlg ?_|refine zln ?_|apply ad.ak|apply ad.seq|apply ad.region|apply ad.skip|(apply ad.se;(focus (exact aj)))|(apply ad.p9;(focus (exact aj)))|apply ad.block|apply ad.inBlock|apply ad.exit rfl));exact hG.out):P:=h ⟨h2⟩
theorem zlv3 {P' P:Prop}(h2:P')(h:Wrp P'→P:=by intro hG;((apply ad.val3 rfl;(case' ho=>rfl);(case' hs=>rfl);(case' hi=>rfl);(case' hw=>exact dt rfl);(case' hr=>exact zxr);refine ay ?_));exact hG.out):P:=h ⟨h2⟩
theorem zwm {P' P:Prop}(h2:P')(h:Wrp P'→P:=by intro hG;(repeat (first|refine zlv3 ?_|refine zln ?_|apply ad.ak|apply ad.seq|apply ad.region|apply ad.skip|(apply ad.se;(focus (exact aj)))|(apply ad.p9;(focus (exact aj)))|apply ad.block|apply ad.inBlock|apply ad.exit rfl));exact hG.out):P:=h ⟨h2⟩
def jo:Array Value:=#[.int .u8 0,.int .u8 0,.int .u8 0,.int .u8 0,.int .u8 0,.int .u8 0,.int .u8 0,.int .u8 0,.int .i64 0,.int .i64 0,.int .i64 0,.string ⟨#[]⟩,.int .i64 0,.int .i64 0,.int .i64 0,.int .i64 0,.slice none 0 0]
def z95:Array Value:=#[.int .u8 0,.int .u8 0,.int .u8 0,.int .u8 0,.int .u8 0,.int .u8 0,.int .u8 0,.int .u8 0,.int .i64 0,.int .i64 0,.int .i64 0,.string ⟨#[]⟩,.int .i64 0,.int .i64 0,.int .i64 0,.int .i64 0]
def fc (k e:Int):Array Value:=#[.int .i64 k,.int .u8 0,.int .u8 0,.int .u8 0,.int .u8 0,.int .u8 0,.int .u8 0,.int .u8 0,.int .u8 0,.int .i64 0,.int .i64 0,.int .i64 0,.string ⟨#[]⟩,.int .i64 0,.int .i64 0,.int .i64 0,.int .i64 0,.slice none 0 0,.int .i64 e]
def snS (idx:Int)(ch:Value):Array Value:=#[.int .i64 2,.int .u8 0,.int .u8 0,.int .u8 0,.int .u8 0,.int .u8 0,.int .u8 0,.int .u8 0,.int .u8 0,.int .i64 2,.int .i64 1,.int .i64 16,.string kA,.int .i64 5,.int .i64 idx,.int .i64 1,.int .i64 1,ch,.int .i64 0]
section
variable {w w1 w2:World}{b:Nat}{c v:Array Value}{z:Nat×Nat}{e:TypeId}
theorem u112:GP.underlying 112=some (Tryz.prog.underlying 112).get! :=by kernel_rfl
theorem i112 (h:c.size=19):(GP.info? 112).map (·.size)=some c.size:=by rw [ek,h];kernel_rfl
theorem i103 (h:c.size=17):(GP.info? 103).map (·.size)=some c.size:=by rw [ek,h];kernel_rfl
theorem i95 (h:c.size=16):(GP.info? 95).map (·.size)=some c.size:=by rw [ek,h];kernel_rfl
theorem xo (h:w.heap[b]? =some (.cells c e z))(hs:c.size=19):(Instr.loadAt 112 (pO b)).run GP w= .ok (.agg c) w:=pg u112 du (i112 hs) h
theorem zp (h:w.heap[b]? =some (.cells c e z))(hs:c.size=19):(loadVar 112 ⟨b,0,none⟩).run GP w= .ok (.agg c) w:=ks u112 du (i112 hs) h
theorem u103':GP.underlying 103=some (Tryz.prog.underlying 103).get! :=by kernel_rfl
theorem ldR103 (h:w.heap[b]? =some (.cells c e z))(hs:c.size=17):(Instr.loadAt 103 (pO b)).run GP w= .ok (.agg c) w:=pg u103' du (i103 hs) h
theorem lvR103 (h:w.heap[b]? =some (.cells c e z))(hs:c.size=17):(loadVar 103 ⟨b,0,none⟩).run GP w= .ok (.agg c) w:=ks u103' du (i103 hs) h
theorem u95':GP.underlying 95=some (Tryz.prog.underlying 95).get! :=by kernel_rfl
theorem qb (h:w.heap[b]? =some (.cells c e z))(hs:c.size=16):(Instr.loadAt 95 (pO b)).run GP w= .ok (.agg c) w:=pg u95' du (i95 hs) h
theorem lvR95 (h:w.heap[b]? =some (.cells c e z))(hs:c.size=16):(loadVar 95 ⟨b,0,none⟩).run GP w= .ok (.agg c) w:=ks u95' du (i95 hs) h
theorem ox (h:w.heap[b]? =some (.cells c e (0,0)))(hs:c.size=19)(hv:v.size=19)(h1:v.all (·.oneCell')=true):∃w2,(Instr.storeAt 112 (pO b) (.agg v)).run GP w= .ok () w2∧w2.heap[b]? =some (.cells v e (0,0))∧ah [b] w w2∧w2.heap.size=w.heap.size:=kg (i112 hv) h1 ai h
theorem st103 (h:w.heap[b]? =some (.cells c e (0,0)))(hs:c.size=17)(hv:v.size=17)(h1:v.all (·.oneCell')=true):∃w2,(Instr.storeAt 103 (pO b) (.agg v)).run GP w= .ok () w2∧w2.heap[b]? =some (.cells v e (0,0))∧ah [b] w w2∧w2.heap.size=w.heap.size:=kg (i103 hv) h1 ai h
theorem st95 (h:w.heap[b]? =some (.cells c e (0,0)))(hs:c.size=16)(hv:v.size=16)(h1:v.all (·.oneCell')=true):∃w2,(Instr.storeAt 95 (pO b) (.agg v)).run GP w= .ok () w2∧w2.heap[b]? =some (.cells v e (0,0))∧ah [b] w w2∧w2.heap.size=w.heap.size:=kg (i95 hv) h1 ai h
theorem ake {idx:Int}{ch:Value}(w:World):(Instr.build 112 #[(0,.int .i64 2),(1,.agg (iv idx ch))]).run GP w= .ok (.agg (snS idx ch)) w:=by kernel_rfl
theorem bld103 {idx:Int}(w:World):(Instr.build 103 #[(0,.agg (dx 5 idx 1 1))]).run GP w= .ok (.agg (iv idx (.slice none 0 0))) w:=by kernel_rfl
end
section
variable {w w1 w2:World}{g d now kept k x np m c:Nat}{room used:Int}{pend:Value}
theorem row103 {u:World}{b:Nat}{idx:Int}{ch:Value} {z}(h:u.heap[b]? =some (.cells (iv idx ch) 103 z)):(Instr.loadAt 103 (pO b)).run GP u= .ok (.agg (iv idx ch)) u:=
 pg (c:=iv idx ch) (w:=u) (by kernel_rfl:GP.underlying 103=some (Tryz.prog.underlying 103).get!) du (by rw [ek];kernel_rfl) h
def Stored (w w2:World)(g d:Nat)(room used:Int)(now k:Nat)(idx:Nat)(ch:List Int):Prop:=
 ∃x dat kept2,WD w2 g d room (used+48) now kept2 (.slice none 0 0) 0 #[⟨.string nA,pO x,k+1⟩] (k+2)∧Bdy w2 x dat 48∧w2.ownsRow 0 5 1 dat 48 (fi (ma idx ch))∧w.heap.size≤x∧(∀b∈blk dat,w.heap.size≤b∧b≠x)
theorem store_ok {idx cb pb po cc c2:Nat}{ch:List Int}(hi:idx<3)(h0:w.cell? ⟨cb,0,none⟩=some (.slice (some ⟨pb,po,none⟩) 3 c2))(h1:cb<w.heap.size)(h2:pb<w.heap.size)(hl:ch.length=3)(hx:∀i x,ch[i]? =some x→w.cell? ⟨pb,po+i,none⟩=some (.int .u8 x))(hx0:∀x∈ch,0≤x∧x<256)
  (h:WD w g d room used now kept pend np #[] k)(hnp:np<100)(hu0:0≤used)(hu:used+48≤room)(hroom:room<1099511627776):
  Calls GP 35 #[dk g,.agg (iv idx (sO cb 1 cc))] w fun e w2=>e= .returned (.int .i64 0)∧Stored w w2 g d room used now k idx ch∧ah ([g,d,now]++blk pend) w w2:=by
 refine dn 35 32 Tryz.func35 fun a hf hsz hv=> ?_
 obtain ⟨v0,v1,-⟩:=ir hv;clear hv;have v0':a.eval (.tmp 0)= .iface 73 (pO g):=v0;clear v0;refine ba ?_;refine iq (row103 bu) ?_;have K0:ah [] w (World.alloc w (.cells (iv idx (sO cb 1 cc)) 103)):=ei;refine bt 59 (aoq (w:=World.alloc w (.cells (iv idx (sO cb 1 cc)) 103)) (cc:=cc) (c2:=c2) hi ((K0.cell h1 ae).trans h0) (Nat.lt_of_lt_of_le h1 K0.size) (Nat.lt_of_lt_of_le h2 K0.size) hl (fun i x hh=>(K0.cell h2 ae).trans (hx i x hh)) hx0) fun v w2 hr=> ?_
 obtain ⟨-,f,hv,O1,K1⟩:=hr;have hv:=(bh hv).symm;subst hv;have hb1:=K1.on bu ae;have K2:ah [] w w2:=ah.trans (ei) K1 ae;have H1:=h.on K2 ae ae ae ae;obtain ⟨gf,cf,rfl,gfl,F3⟩:=tw (acn O1) ai;have gfn:w.heap.size<gf:=by
  have:=zt O1 gf (by simp [blk,Value.ownBlock]);simp at this;omega
 refine zls ?_;refine ad.ak ?_;refine ad.cut (fun a1 x=>(a1.tmps.size=32∧a1.defers=[])∧a1.eval (.tmp 0)= .iface 73 (pO g)∧a1.eval (.tmp 3)=pO w.heap.size∧a1.eval (.tmp 5)=sO gf 48 cf∧a1.eval (.tmp 6)= .int .i64 0∧x=w2) ⟨by simp [hsz],aj,aj,aj,aj,rfl⟩ fun a y ⟨hsz,v0,v3,v5,v6,e⟩=> ?_
 subst e;have d11:y.cell? ⟨w.heap.size,11,none⟩=some (.string kA):=af hb1 (by simp [iv]);refine ba ?_;refine bt 45 (ye (w:=y)) fun v w2 hr=> ?_
 obtain ⟨hv,K3⟩:=hr;obtain rfl:=bh hv;have H2:=H1.on K3 ae ae ae ae;refine ad.cut (fun a1 x=>(a1.tmps.size=32∧a1.defers=[])∧a1.eval (.tmp 0)= .iface 73 (pO g)∧a1.eval (.tmp 22)= .tuple #[.string nA,.int .i64 0]∧a1.eval (.tmp 5)=sO gf 48 cf∧x=w2) ⟨by simp [hsz],aj,aj,aj,rfl⟩ fun a z ⟨hsz,v0,v22,v5,e⟩=> ?_
 subst e;refine ba ?_;have hgl:∀b,b<w.heap.size→gf≠b:=fun b hb e=>by omega
 have hg:=h.c0;have q1:g<w.heap.size:=(by obtain ⟨_,_,hw⟩:=h.wnd;exact bf hw);have q2:d<w.heap.size:=bf h.dv.drv;have q3:now<w.heap.size:=bf h.dv.mp;have q4:∀b∈blk pend,b<w.heap.size:=by
  obtain ⟨xs,ho⟩:=h.dv.own;exact lj ho
 have hw:=write_ok (news:=fi (ma idx ch)) (m:=48) (c:=cf) (p:=⟨gf,0,none⟩) H2 hnp hu0 hu hroom (by simp [fi,ma,ij,fu,hl]) (fun j u hj=>by
  simp only [fi,List.getElem?_map,Option.map_eq_some_iff] at hj;obtain ⟨y1,hy,rfl⟩:=hj;rw [Addr.add_lit];exact (K3.cell gfl ae).trans (F3 j y1 hy)) ⟨Nat.lt_of_lt_of_le gfl K3.size,hgl _ q1,hgl _ q2,hgl _ q3,fun hb=>hgl _ (q4 gf hb) rfl⟩ (by simp [fi,Value.oneCell']) ai ai
 simp only [dk] at hw;refine bt 60 hw fun v w2 hr=> ?_
 obtain ⟨hv,x,dat,kept2,W1,B1,O2,l1,l2,K4⟩:=hr;obtain rfl:=bh hv;refine ba ?_;have K5:ah [] w z:=K2.trans K3 ae;have hz:=K5.size;exact ad.dq rfl hf rfl bz aj ⟨rfl,⟨x,dat,kept2,W1,B1,O2,Nat.le_trans hz l1,fun b hb=>⟨Nat.le_trans hz (l2 b hb).1,(l2 b hb).2⟩⟩,ah.trans (K5.more ae) K4 (fun b hb=> .inl hb)⟩
end
section
variable {w w1 w2:World}{g d now kept k x np m c:Nat}{room used:Int}{pend:Value}
theorem u103:GP.underlying 103=some (Tryz.prog.underlying 103).get! :=by kernel_rfl
theorem mid103 {u:World}{b o:Nat}{idx:Int}{ch:Value}(h:u.rangeAt b o (iv idx ch).toList):(Instr.loadAt 103 (.pointer (some ⟨b,o,none⟩))).run GP u= .ok (.agg (iv idx ch)) u:=
 run_loadAt_mid (P:=GP) u b o 103 (iv idx ch).toList _ h u103 du (by rw [ek];kernel_rfl)
theorem amb {idx cb pb po cc c2 cv bb:Nat}{ch:List Int}(hi:idx<3)(hv0:w.cell? ⟨cv,0,none⟩=some (sO bb 3 c))(hr:w.rangeAt bb (idx*17) (iv idx (sO cb 1 cc)).toList)(h0:w.cell? ⟨cb,0,none⟩=some (.slice (some ⟨pb,po,none⟩) 3 c2))(h1:cb<w.heap.size)(h2:pb<w.heap.size)(hl:ch.length=3)(hx:∀i x,ch[i]? =some x→w.cell? ⟨pb,po+i,none⟩=some (.int .u8 x))(hx0:∀x∈ch,0≤x∧x<256)
  (h:WD w g d room used now kept pend np #[] k)(hnp:np<100)(hu0:0≤used)(hu:used+48≤room)(hroom:room<1099511627776):
  Calls GP 34 #[.int .i64 idx,dk g,pO cv] w fun e w2=>e= .returned (.int .i64 0)∧Stored w w2 g d room used now k idx ch∧ah ([g,d,now]++blk pend) w w2:=by
 refine dn 34 12 Tryz.func34 fun a hf hsz hv=> ?_
 obtain ⟨v0,v1,v2,-⟩:=za3 hv;clear hv;have hi3:(idx:Int)<3:=by omega
 refine ba ?_;refine iq (mid103 hr) ?_;refine bt 35 (store_ok (cc:=cc) hi h0 h1 h2 hl hx hx0 h hnp hu0 hu hroom) fun v w2 hr=> ?_
 obtain ⟨hv,H1,K1⟩:=hr;obtain rfl:=bh hv;refine ba ?_;exact ad.dq rfl hf rfl bz aj ⟨rfl,H1,K1⟩
end
def rd (g m c:Nat)(off:Int):Array Value:=#[sO g m c,.int .i64 off,.int .i64 0]
section
variable {w w1 w2:World}{r g m c off n pv pr:Nat}{xs:List Value}{bs:List Int}
theorem y8:GP.underlying 49=some (.slice (GP.elem 49)):=by kernel_rfl
theorem sz49 (w:World):(sizeOf (GP.elem 49)).run GP w= .ok 1 w:=by kernel_rfl
theorem sl49 {l h o:Nat}{lI hI:Int}{w:World}(el:lI=l)(eh:hI=h)(h1:l≤h)(h2:h≤c)(h3:l<c):(Instr.sliceAt 49 (.slice (some ⟨g,o,none⟩) m c) (some (.int .i64 lI)) (some (.int .i64 hI)) none).run GP w= .ok (.slice (some ⟨g,o+l,none⟩) (h-l) (c-l)) w:=by
 subst el eh;have e:¬c=l:=by omega
 rw [run_sliceAt_slice _ _ _ _ _ _ y8,run_slice_lh _ _ _ _ _ y8 _ _ _ _ ai ai ai,sz49];simp [Result.andThen,sliced,e,Addr.add_lit]
theorem aj3 {e:TypeId}(h:w.ownsRow 0 e 1 (sO g m c) n xs):m≤c:=by
 rcases h.2 with ⟨h,-⟩|⟨g2,cap,cur,h1,h2,h3,h4,h5⟩
 ·cases h
 ·cases h1;exact h4
theorem ae5 {p:Addr}(hl:bs.length=m)(hx:∀i x,bs[i]? =some x→w.cell? (p.add i)=some (.int .u8 x))(hp:p.block<w.heap.size)(hm:0<m)(hmm:m<1000000):
  Calls GP 140 #[.slice (some p) m c] w fun e w2=>(∃v,e= .returned v)∧∃r g cap,e= .returned (pO r)∧w2.heap[r]? =some (.cells (rd g m cap 0) 289 (0,0))∧w2.ownsRow 0 5 1 (sO g m cap) m (fi bs)∧w.heap.size≤r∧w.heap.size≤g∧g≠r∧m≤cap∧ah [] w w2:=by
 refine dn 140 7 Tryz.func140 fun a hf hsz hv=> ?_
 obtain ⟨v0,-⟩:=ie hv;clear hv;refine ba ?_;refine bt 49 (rf (c:=c) (news:=fi bs) (by simp [fi,hl]) (fun j u hj=>by
  simp only [fi,List.getElem?_map,Option.map_eq_some_iff] at hj;obtain ⟨y,hy,rfl⟩:=hj;exact hx j y hy) hp (by simp [fi,Value.oneCell']) hm ai) fun v w2 hr=> ?_
 obtain ⟨-,g,cap,hv,O1,l1,K1⟩:=hr;have hv:=(bh hv).symm;subst hv;refine ba ?_;have hgl:=lj O1 g (by simp [blk,Value.ownBlock]);exact ad.dq rfl hf rfl bz aj ⟨⟨_,rfl⟩,_,g,cap,rfl,bu,O1.alloc _,K1.size,l1,by omega,aj3 O1,K1.alloc⟩
theorem akh {e:Int}:Calls GP 157 #[.bool true,.int .i64 e] w fun e w2=>e= .returned (.tuple #[])∧w2=w:=by
 refine dn 157 8 Tryz.func157 fun a hf hsz hv=> ?_
 obtain ⟨v0,v1,-⟩:=ir hv;clear hv;refine ba ?_;exact ad.fin rfl hf bz (results_none rfl _ _ _) ⟨rfl,rfl⟩
theorem ae1 (hr:w.heap[r]? =some (.cells (rd g m c off) 289 (0,0)))(hn:off+n≤m)(hm:m≤c)(hc:m<1000000)(hn0:0<n):
  Calls GP 158 #[pO r,.int .u64 n] w fun e w2=>e= .returned (.slice (some ⟨g,off,none⟩) n (c-off))∧w2.heap[r]? =some (.cells (rd g m c ((off+n:Nat):Int)) 289 (0,0))∧ah [r] w w2:=by
 refine dn 158 46 Tryz.func158 fun a hf hsz hv=> ?_
 obtain ⟨v0,v1,-⟩:=ir hv;clear hv;have d0:∀d,(w.at d).cell? ⟨r,0,none⟩=some (sO g m c):=fun d=>af hr (by simp [rd])
 have d1:∀d,(w.at d).cell? ⟨r,1,none⟩=some (.int .i64 off):=fun d=>af hr (by simp [rd])
 refine ba ?_;apply ad.wu (fun d u=>u=w.at d) eo;intro dd;have hS0:World.at w dd=World.at w dd:=rfl;have dd0:=d0 dd;have dd1:=d1 dd;refine zdv 0 ?_;refine zdv 1 ?_;refine zdv 2 ?_;refine zdv 3 ?_;refine zdv 4 ?_;refine zdv 5 ?_;refine zdv 6 ?_;refine zdv 7 ?_;refine zdv 8 ?_;refine zdv 9 ?_;have e1:IntKind.i64.wrap ((m:Int)-off)=(m:Int)-off:=by
  unfold IntKind.wrap;simp [IntKind.bits,IntKind.signed];omega
 have e2:IntKind.u64.wrap ((m:Int)-off)=(m:Int)-off:=by
  unfold IntKind.wrap;simp [IntKind.bits,IntKind.signed];omega
 have e3:decide ((n:Int)≤(m:Int)-off)=true:=by simp;omega
 refine zdv 10 ?_;refine zdv 11 ?_;refine zdv 12 ?_
 (apply LDr.gw 13 (f:=157) a9 rfl;(case hw=>exact bj);(case hc=>exact (akh (w:=World.at w dd) (e:=70)));(case hv=>rw [cw (f:=157) rfl];refine zam ?_;exact ey 157 a9 _ _);(case hret=>exact fun e w2 h=>⟨_,h.1⟩))
 case hS=>exact fun v w2 h=>h.2
 intro v w2 ⟨hv,e⟩;obtain rfl:=bh hv;subst e;refine ay ?_;apply LDr.fin a9;have e4:IntKind.i64.wrap (n:Int)=n:=by
  unfold IntKind.wrap;simp [IntKind.bits,IntKind.signed];omega
 have e5:IntKind.i64.wrap ((off:Int)+n)=((off+n:Nat):Int):=by
  unfold IntKind.wrap;simp [IntKind.bits,IntKind.signed];omega
 refine ba ?_;refine zwqo ?_;intro dd
 (apply LQ.valw;(case ho=>rfl);(case hw=>exact bj);(case hr=>refine ay ?_;dsimp only [execOp,resolve];(try simp+decide only [eval_put,bn,eval_const,size_put,if_true,if_false,List.map_toArray,List.map_cons,List.map_nil,Option.map_some,Option.map_none, *]);rw [Sem.run_bind,(sl49 (l:=off) (h:=off+n) (o:=0) (m:=m) (c:=c) (g:=g) ai ai ai ai ai)];rfl);refine ay ?_)
 refine zqs ?_;apply LQ.fin;have fz:∀d j,(w.at d).frozen? ⟨r,j,none⟩=false:=fun d j=>ed (w:=w.at d) hr
 have e6:off+n-off=n:=by omega
 have e7:0+off=off:=by omega
 rw [e6,e7];refine ba ?_;have hb:=ee (i:=1) (v:= .int .i64 ((off:Int)+n)) hr;exact ad.dq rfl hf rfl bz aj ⟨rfl,by simpa [rd] using hb,ei⟩
end
section
variable {P:Program}{R:Ending→World→Prop}{b:Frame}{a:Act}{k:List Item}{w w1:World}{ops:Array Oper}{i:Nat}{rest:List Nat}{o:Oper}{v:Value}
theorem ad.defer {d:Deferred}(ho:ops[i]? =some o)(hw:Region.wanted o (yielded ops a.tmps)=true)(hk:b.kind= .normal)(hr:(execOp a.eval o).run P w= .ok (.defer d) w1)
  (h:ad P R b (Act.put ⟨a.tmps,d::a.defers⟩ o.dst undef) (.inRegion ops rest::k) w1):ad P R b a (.inRegion ops (i::rest)::k) w:=
 ad.step1 (fun cs=>step_lone_go (by
  have hg:=stepG_op (P:=P) (b:=b) (k:=k) (cs:=cs) (w:=w) (rest:=rest) ho hw;have this:({b.at a (.inRegion ops (i::rest)::k) with defers:=d::a.defers}:Frame).finish undef=b.at ({a with defers:=d::a.defers}.put o.dst undef) (.inRegion ops rest::k):=by
   have:=Frame.finish_at b {a with defers:=d::a.defers} ops i rest k undef;rw [ho] at this;exact this
  rw [hg];simp only [stepG.apply,Sem.runT_eq,hr,GStep.bare_after];have hk':(b.kind==CallKind.early)=false:=by rw [hk];rfl
  simp only [Frame.at,hk'] at this ⊢;exact congrArg (fun fr=>GStep.go {frame:=fr,callers:=cs,status:= .running,dying:=none} w1) this)) h
theorem ad.finD {fn:Func}(hk:b.kind= .normal)(hf:P.funcs[b.fn]? =some fn)(h:Leaves P fn a.tmps (fun e w=>e≠ .outgrown∧R e w) a.defers .returning w):ad P R b a [] w:=fun cs=>by
 obtain ⟨e,w',fr',⟨he,hR⟩,hs,hfn,hl⟩:=leaves_steps a.defers .returning w {b.at a [] with mode:= .returning} cs rfl rfl rfl hf hk h;refine ⟨fr',w',Steps.trans (Steps.one step_end) ?_,hfn,e,he,hl,hR⟩;cases e with
 |outgrown=>exact absurd rfl he
 |returned v=>exact hs
 |panicked ch=>exact hs
end
section
variable {P:Program}{Q:Exit→Act→List Frame→World→Prop}{cs:List Frame}{a:Act}{w w1:World}{ops:Array Oper}{i:Nat}{rest:List Nat}{o:Oper}{v:Value}
structure WS (P:Program)(ops:Array Oper)(Q:Exit→Act→List Frame→World→Prop)(l:List Nat)(a:Act)(cs:List Frame)(w:World):Prop where
 run:wpOpsS P ops Q l a cs w
theorem wpS_rec (ho:ops[i]? =some o)(hw:Region.wanted o (yielded ops a.tmps)=true)(hr:(execOp a.eval o).run P w= .ok .recover w1)(hc:recoverD cs=none)(h:WS P ops Q rest (a.put o.dst .nilIface) cs w1):WS P ops Q (i::rest) a cs w:=by
 refine ⟨?_⟩;simp only [wpOpsS,ho,hw,if_true,hr,hc];exact h.1
theorem vc (v:Value)(ho:ops[i]? =some o)(hw:Region.wanted o (yielded ops a.tmps)=true)(hr:(execOp a.eval o).run P w= .ok (.value v) w1)(h:WS P ops Q rest (a.put o.dst v) cs w1):WS P ops Q (i::rest) a cs w:=by
 refine ⟨?_⟩;simp only [wpOpsS,ho,hw,if_true,hr];exact h.1
end
section
variable {w w1 w2:World}{r g m c off n pv pr:Nat}{p q:Addr}
theorem al8:CallsD GP 183 #[.pointer (some p),.pointer (some q)] .returning w fun e u' w'=>e= .returned (.tuple #[])∧u'= .returning∧w'=w:=by
 refine callsD_of_wpS (jd (c:=Tryz.f183.body.getD .skip) Tryz.func183 rfl a9) rfl fun c₀ cs hu=> ?_
 have hn:(Tryz.f183.ntmps- (#[Value.pointer (some p),.pointer (some q)]:Array Value).size)=16:=rfl;rw [hn];apply wpS_seq;apply wpS_region;refine WS.run (l:=[0,1,2,3,4,5,6]) ?_;apply wpS_rec (w1:=w)
 case ho=>rfl
 case hw=>exact dt rfl
 case hr=>kernel_rfl
 case hc=>simp [recoverD,hu]
 apply vc (.tuple #[.int .i64 0,.bool false]) (w1:=w)
 case ho=>rfl
 case hw=>exact dt rfl
 case hr=>
  kernel_rfl
 (apply vc (w1:=w) (.tuple #[.int .i64 0,.bool false]);(case ho=>rfl);(case hw=>exact dt rfl);(case hr=>kernel_rfl))
 (apply vc (w1:=w) (.int .i64 0);(case ho=>rfl);(case hw=>exact dt rfl);(case hr=>kernel_rfl))
 (apply vc (w1:=w) (.bool false);(case ho=>rfl);(case hw=>exact dt rfl);(case hr=>kernel_rfl))
 (apply vc (w1:=w) (.int .i64 0);(case ho=>rfl);(case hw=>exact dt rfl);(case hr=>kernel_rfl))
 (apply vc (w1:=w) (.bool false);(case ho=>rfl);(case hw=>exact dt rfl);(case hr=>kernel_rfl))
 refine ⟨?_⟩;simp only [wpOpsS,Exit.thenS];apply wpS_seq;apply wpS_region;refine WS.run (l:=[0]) ?_
 (apply vc (w1:=w) (.bool false);(case ho=>rfl);(case hw=>exact dt rfl);(case hr=>kernel_rfl))
 refine ⟨?_⟩;simp only [wpOpsS,Exit.thenS];refine wpS_cond (t:=false) du ?_;refine wpS_of_wp (wp_skip ?_);refine ⟨rfl,.returning,?_,.tuple #[],by kernel_rfl,rfl,rfl,rfl⟩;cases c₀;simp at hu;rw [hu]
theorem am8 {X:Act}{ds:List Deferred}{t:Tmp}:Act.eval (Act.put ⟨X.tmps,ds⟩ none undef) (.tmp t)=X.eval (.tmp t):=rfl
theorem aab {f:FuncId}{caps:Array Value}{Q:World→World→Prop}(hfc:aay f=true)(hr:w.heap[r]? =some (.cells (rd g m c off) 289 (0,0)))(hc:∀w1,ah [] w w1→Calls GP f caps w1 fun e w2=>e= .returned (.tuple #[])∧Q w1 w2):
  Calls GP 155 #[pO r,.func (.func f) #[] caps] w fun e w2=>e= .returned (.tuple #[])∧∃w1,ah [] w w1∧Q w1 w2:=by
 refine dn 155 21 Tryz.func155 fun a hf hsz hv=> ?_
 obtain ⟨v0,v1,-⟩:=ir hv;clear hv;have d1:w.cell? ⟨r,1,none⟩=some (.int .i64 off):=af hr (by simp [rd]);have d2:w.cell? ⟨r,2,none⟩=some (.int .i64 0):=af hr (by simp [rd]);have hrl:=bf hr;refine ba ?_;have K1:ah [] w ((w.alloc (.cells #[pO r] 268)).alloc (.cells #[.int .i64 off] 3)):=ei;refine ad.defer (w1:=(w.alloc (.cells #[pO r] 268)).alloc (.cells #[.int .i64 off] 3)) (d:={target:= .fn (.func 183) #[pO (w.heap.size+1),pO w.heap.size],args:=#[]}) rfl (dt rfl) rfl ?_ ?_
 ·refine ay ?_;dsimp only [execOp,resolve];simp+decide only [eval_put,bn,eval_const,size_put,if_true,if_false, *];simp [Deferred.ofValue]
 refine ay ?_;refine ad.ak ?_;refine ad.cut (fun a1 u=>(a1.tmps.size=21∧a1.defers=[{target:= .fn (.func 183) #[pO (w.heap.size+1),pO w.heap.size],args:=#[]}])∧a1.eval (.tmp 1)= .func (.func f) #[] caps∧u=_) ⟨⟨by simp [Act.put,hsz],by simp [Act.put,hsz]⟩,?_,rfl⟩ fun a u ⟨hsz,v1,e⟩=> ?_
 ·refine am8.trans ?_;exact aj
 subst e;refine ba ?_;refine ad.clo (f:=f) (first:=#[]) (capt:=caps) rfl rfl rfl (dt rfl) aj (by first|rfl|simp) (ey f hfc _ _) (hc _ K1) (fun e w2 h=>⟨_,h.1⟩) fun v w2 hr=> ?_
 obtain ⟨hv,q⟩:=hr;obtain rfl:=bh hv;refine ay ?_;refine ad.ak (ad.finD rfl hf ?_);have hd:((a.put (some 19) (.func (.func f) #[] caps)).put (some 20) (.tuple #[])).defers=[{target:= .fn (.func 183) #[pO (w.heap.size+1),pO w.heap.size],args:=#[]}]:=by simp [hsz]
 rw [hd];refine leaves_cons (f:=183) (args:=#[pO (w.heap.size+1),pO w.heap.size]) ae ?_ (CallsD.mono al8 ?_)
 ·have:=ey 183 a9 #[pO (w.heap.size+1),pO w.heap.size] w2
  simpa [invoke] using this
 ·intro e u' w' ⟨he,hu,hw⟩;subst he hu hw;exact ⟨.tuple #[],results_none rfl _ _ _,by simp,rfl,_,K1,q⟩
end
end Go.Proofs.YthgpdljlehklhaaGreat.wk
