/- Part QAS of the proof that DropRefused answers true whatever its input. No condition. -/
import Derived.ArgAppend
import Derived.Laws.MakeOwn
import Derived.Lib.AppendStr
import Derived.Laws.IdiomStrings
import Derived.Test.YthgpdljlehklhaaGreatQAR
import Derived.Test.YthgpdljlehklhaaGreatQAI
set_option maxRecDepth 100000
namespace Go.Proofs.YthgpdljlehklhaaGreat.wk
open Go Go.Conc zr dr wd drv
set_option linter.unusedVariables false
set_option maxHeartbeats 4000000
def ij (idx:Int):List Int:=[67,82,78,2,0,0,0,0,0,0,0,0,2,1]++fu 16++fu 5++ [idx]++fu 1++fu 1++ [1]
section
variable {w w1 w2:World}{v:Value}{n m c cap e:Nat}{xs news olds:List Value}{p q:Addr}{S:List Nat}
theorem adx {base:Nat}(h:w.ownsRow base e 1 v n xs):w.ownsRow 0 e 1 v n xs:=⟨h.1,h.2.imp id fun ⟨g,cap,cur,h1,_,h2⟩=>⟨g,cap,cur,h1,Nat.zero_le _,h2⟩⟩
theorem app_grow (hlo:olds.length=n)(holds:∀j u,olds[j]? =some u→w.cell? (q.add j)=some u)(hl:news.length=m)(hnews:∀j u,news[j]? =some u→w.cell? (p.add j)=some u)(hg:cap<n+m)(hb:n+m<1000000000):
  ∃v' w',(Builtin.append_ #[49,49] 49 #[.slice (some q) n cap,.slice (some p) m c]).run GP w= .ok v' w'∧w'.ownsRow 0 5 1 v' (n+m) (olds++news)∧ah [] w w'∧∀b∈blk v',w.heap.size≤b:=by
 obtain ⟨v',w',r1,r2,r3⟩:=run_append_arg_grows (P:=GP) w 49 49 5 ((Tryz.prog.info? 5).getD default) (.int .u8 0) 1 1 (by rw [fb];kernel_rfl) (by rw [ek];kernel_rfl) du du du rfl ai q n cap olds ai holds p m c news ai hnews hg (by simp only [maxLen];omega) ai;refine ⟨v',w',r1,adx r2,⟨r3.size,fun b hb hn=>r3.block b hb ae,r3.os,r3.output⟩,fun b hb=> ?_⟩;rcases r2.2 with ⟨rfl,-⟩|⟨g,cap,cur,rfl,h1,-⟩
 ·simp [blk,Value.ownBlock] at hb
 ·simp only [blk,Value.ownBlock,Option.toList_some,List.mem_singleton] at hb;omega
theorem afv {g o:Nat}{c:Array Value}{z:Nat×Nat}{l:List Value}(h:w.heap[g]? =some (.cells c e z))(hr:(c.toList.drop o).take l.length=l):∀j u,l[j]? =some u→w.cell? ((⟨g,o,none⟩:Addr).add j)=some u:=fun j u hj=>by
 rw [Addr.add_mid];simp only [World.cell?,h];have hlt:=(List.getElem?_eq_some_iff.1 hj).1;rw [←hr,List.getElem?_take_of_lt hlt,List.getElem?_drop] at hj
 simpa using hj
theorem ajx:Calls GP 131 #[] w fun e w2=>e= .returned (.agg #[.int .u8 67,.int .u8 82,.int .u8 78,.int .u8 2])∧ah [] w w2:=by
 refine dn 131 2 Tryz.func131 fun a hf hsz hv=> ?_
 clear hv;refine ba ?_;have hi:(GP.info? 254).map (·.size)=some (#[Value.int .u8 67,.int .u8 82,.int .u8 78,.int .u8 2]:Array Value).size:=by rw [ek];kernel_rfl
 have hu:GP.underlying 254=some (.array 4 5):=by rw [fb];kernel_rfl
 exact ad.ret rfl hf bz (ace rfl (b:=w.heap.size) (show Act.eval _ (.tmp 0)=_ from aj) (ks hu rfl hi bu)) ⟨rfl,ei⟩
theorem first_ok {idx:Nat}(h:idx<3):Calls GP 90 #[.agg (dx 5 idx 1 1)] w fun e w2=>(∃v,e= .returned v)∧∃v2,e= .returned v2∧w2.ownsRow 0 5 1 v2 32 (fi (ij idx))∧(∀b∈blk v2,w.heap.size≤b)∧ah [] w w2:=by
 refine dn 90 57 Tryz.func90 fun a hf hsz hv=> ?_
 obtain ⟨v0,-⟩:=ie hv;clear hv;simp only [dx] at v0;have e5:IntKind.u8.wrap (idx:Int)=idx:=by
  unfold IntKind.wrap;simp [IntKind.bits,IntKind.signed];omega
 refine ba ?_;refine bt 131 ajx fun v w2 hr=> ?_
 obtain ⟨hv,K1⟩:=hr;obtain rfl:=bh hv;refine ad.cut (fun a1 u=>(a1.tmps.size=57∧a1.defers=[])∧a1.eval (.tmp 1)=pO w.heap.size∧a1.eval (.tmp 5)= .agg #[.int .u8 67,.int .u8 82,.int .u8 78,.int .u8 2]∧ah [] w u∧u.heap[w.heap.size]? =some (.cells (dx 5 idx 1 1) 95 (0,0))) ⟨by simp [hsz],aj,aj,ah.trans (ei) K1 ae,K1.on bu ae⟩ fun a u ⟨hsz,v1,v5,K1,hb⟩=> ?_
 have hlt:=bf hb;refine ba ?_;have HB:=bw (o2:= .cells #[.int .u8 67,.int .u8 82,.int .u8 78,.int .u8 2] 254) hb;have HM:(u.alloc (.cells #[.int .u8 67,.int .u8 82,.int .u8 78,.int .u8 2] 254)).heap[u.heap.size]? =some (.cells #[.int .u8 67,.int .u8 82,.int .u8 78,.int .u8 2] 254 (0,0)):=bu;have K2:ah [] w (u.alloc (.cells #[.int .u8 67,.int .u8 82,.int .u8 78,.int .u8 2] 254)):=K1.alloc;apply ad.wu (fun _ _=>True) eo;intro dd;have hS0:True:=trivial;refine zdv 0 ?_;refine zdv 1 ?_;refine zdv 2 ?_;obtain ⟨o1,u1,hrun,O1,k1,F1⟩:=app_grow (w:=World.at (World.alloc u (.cells #[.int .u8 67,.int .u8 82,.int .u8 78,.int .u8 2] 254)) dd) (q:=⟨u.heap.size,0,none⟩) (cap:=4) (p:=⟨w.heap.size,0,none⟩) (n:=4) (m:=8) (c:=8) (olds:=[.int .u8 67,.int .u8 82,.int .u8 78,.int .u8 2]) (news:=[.int .u8 0,.int .u8 0,.int .u8 0,.int .u8 0,.int .u8 0,.int .u8 0,.int .u8 0,.int .u8 0]) rfl (afv HM rfl) rfl (afv HB rfl) ai ai
 (refine LDr.app 3 a9 rfl rfl bj aj aj hrun trivial ?_;refine ay ?_)
 (apply LDr.solo 4 a9 rfl;(case hw=>exact bj);(case hv=>exact zxr);(try simp only [List.getElem_toArray,List.getElem_cons_zero,List.getElem_cons_succ]))
 refine ay ?_;apply LDr.fin a9;have e3:kA.size=1:=rfl;have K1:ah [] w u1:=ah.trans K2.at k1 ae;have B1:u1.heap[w.heap.size]? =some (.cells (dx 5 idx 1 1) 95 (0,0)):=k1.on HB ae;have F1:∀b∈blk o1,w.heap.size<b:=fun b hb=>by
  have:=F1 b hb;simp at this;omega
 refine ad.cut (fun a1 x=>(a1.tmps.size=57∧a1.defers=[])∧a1.eval (.tmp 1)=pO w.heap.size∧a1.eval (.tmp 4)=o1∧x=u1) ⟨by simp [hsz],aj,aj,rfl⟩ fun a x ⟨hsz,v1,v4,e⟩=> ?_
 subst e;have d8:x.cell? ⟨w.heap.size,8,none⟩=some (.int .i64 2):=af B1 (by simp [dx]);have d9:x.cell? ⟨w.heap.size,9,none⟩=some (.int .i64 1):=af B1 (by simp [dx]);refine ba ?_;obtain ⟨o2,u2,hrun,O2,k2,b2⟩:=qt (w:=World.alloc x (.cells #[.int .u8 2,.int .u8 1] 5)) (a:=⟨x.heap.size,0,none⟩) (c:=2) (m:=2) (news:=[.int .u8 2,.int .u8 1]) (v:=o1) (World.ownsRow.alloc O1 _) rfl (jc #[.int .u8 2,.int .u8 1] 5 rfl) (by simp [Value.oneCell']) ai
 (refine ad.app rfl rfl rfl bj aj aj hrun ?_;refine ay ?_)
 refine zls ?_;refine ad.ak ?_;have K2:ah [] w u2:=ah.trans K1.alloc k2 (fun b hb=> .inr (Nat.le_of_lt (F1 b hb)));have B2:u2.heap[w.heap.size]? =some (.cells (dx 5 idx 1 1) 95 (0,0)):=k2.on (bw B1) (fun h=>Nat.lt_irrefl _ (F1 _ h));have F2:∀b∈blk o2,w.heap.size<b:=by
  intro b hb;rcases b2 with h|h
  ·exact F1 b (h▸hb)
  ·rw [h,List.mem_singleton] at hb;have:=bf B1;simp at hb;omega
 refine ad.cut (fun a1 x=>(a1.tmps.size=57∧a1.defers=[])∧a1.eval (.tmp 1)=pO w.heap.size∧a1.eval (.tmp 4)=o2∧x=u2) ⟨by simp [hsz],aj,aj,rfl⟩ fun a x ⟨hsz,v1,v4,e⟩=> ?_
 subst e;have d10:x.cell? ⟨w.heap.size,10,none⟩=some (.int .i64 16):=af B2 (by simp [dx]);refine ba ?_;refine bt 94 (qh (x:=16) O2 (.inr ai) (by simp [fi,fu,Value.oneCell']) ai ai) fun v w2 hr=> ?_
 obtain ⟨-,o3,hv,O3,F3',k3⟩:=hr;have hv:=(bh hv).symm;subst hv;refine zls ?_;refine ad.ak ?_;have K3:ah [] w w2:=ah.trans K2 k3 ae;have B3:w2.heap[w.heap.size]? =some (.cells (dx 5 idx 1 1) 95 (0,0)):=k3.on B2 ae;have F3:∀b∈blk o3,w.heap.size<b:=fun b hb=>Nat.lt_of_lt_of_le (bf B2) (F3' b hb)
 refine ad.cut (fun a1 x=>(a1.tmps.size=57∧a1.defers=[])∧a1.eval (.tmp 1)=pO w.heap.size∧a1.eval (.tmp 4)=o3∧x=w2) ⟨by simp [hsz],aj,aj,rfl⟩ fun a x ⟨hsz,v1,v4,e⟩=> ?_
 subst e;have d12:x.cell? ⟨w.heap.size,12,none⟩=some (.int .i64 5):=af B3 (by simp [dx]);refine ba ?_;refine bt 94 (qh (x:=5) O3 (.inr ai) (by simp [fi,fu,Value.oneCell']) ai ai) fun v w2 hr=> ?_
 obtain ⟨-,o4,hv,O4,F4',k4⟩:=hr;have hv:=(bh hv).symm;subst hv;refine zls ?_;refine ad.ak ?_;have K4:ah [] w w2:=ah.trans K3 k4 ae;have B4:w2.heap[w.heap.size]? =some (.cells (dx 5 idx 1 1) 95 (0,0)):=k4.on B3 ae;have F4:∀b∈blk o4,w.heap.size<b:=fun b hb=>Nat.lt_of_lt_of_le (bf B3) (F4' b hb)
 refine ad.cut (fun a1 x=>(a1.tmps.size=57∧a1.defers=[])∧a1.eval (.tmp 1)=pO w.heap.size∧a1.eval (.tmp 4)=o4∧x=w2) ⟨by simp [hsz],aj,aj,rfl⟩ fun a x ⟨hsz,v1,v4,e⟩=> ?_
 subst e;have d13:x.cell? ⟨w.heap.size,13,none⟩=some (.int .i64 idx):=af B4 (by simp [dx]);refine ba ?_;obtain ⟨o5,u5,hrun,O5,k5,b5⟩:=qt (w:=World.alloc x (.cells #[.int .u8 idx] 5)) (a:=⟨x.heap.size,0,none⟩) (c:=1) (m:=1) (news:=[.int .u8 idx]) (v:=o4) (World.ownsRow.alloc O4 _) rfl (jc #[.int .u8 idx] 5 rfl) (by simp [Value.oneCell']) ai
 (refine ad.app rfl rfl rfl bj aj aj hrun ?_;refine ay ?_)
 refine zls ?_;refine ad.ak ?_;have K5:ah [] w u5:=ah.trans K4.alloc k5 (fun b hb=> .inr (Nat.le_of_lt (F4 b hb)));have B5:u5.heap[w.heap.size]? =some (.cells (dx 5 idx 1 1) 95 (0,0)):=k5.on (bw B4) (fun h=>Nat.lt_irrefl _ (F4 _ h));have F5:∀b∈blk o5,w.heap.size<b:=by
  intro b hb;rcases b5 with h|h
  ·exact F4 b (h▸hb)
  ·rw [h,List.mem_singleton] at hb;have:=bf B4;simp at hb;omega
 refine ad.cut (fun a1 x=>(a1.tmps.size=57∧a1.defers=[])∧a1.eval (.tmp 1)=pO w.heap.size∧a1.eval (.tmp 4)=o5∧x=u5) ⟨by simp [hsz],aj,aj,rfl⟩ fun a x ⟨hsz,v1,v4,e⟩=> ?_
 subst e;have d14:x.cell? ⟨w.heap.size,14,none⟩=some (.int .i64 1):=af B5 (by simp [dx]);refine ba ?_;refine bt 94 (qh (x:=1) O5 (.inr ai) (by simp [fi,fu,Value.oneCell']) ai ai) fun v w2 hr=> ?_
 obtain ⟨-,o6,hv,O6,F6',k6⟩:=hr;have hv:=(bh hv).symm;subst hv;refine zls ?_;refine ad.ak ?_;have K6:ah [] w w2:=ah.trans K5 k6 ae;have B6:w2.heap[w.heap.size]? =some (.cells (dx 5 idx 1 1) 95 (0,0)):=k6.on B5 ae;have F6:∀b∈blk o6,w.heap.size<b:=fun b hb=>Nat.lt_of_lt_of_le (bf B5) (F6' b hb)
 refine ad.cut (fun a1 x=>(a1.tmps.size=57∧a1.defers=[])∧a1.eval (.tmp 1)=pO w.heap.size∧a1.eval (.tmp 4)=o6∧x=w2) ⟨by simp [hsz],aj,aj,rfl⟩ fun a x ⟨hsz,v1,v4,e⟩=> ?_
 subst e;have d15:x.cell? ⟨w.heap.size,15,none⟩=some (.int .i64 1):=af B6 (by simp [dx]);refine ba ?_;refine bt 94 (qh (x:=1) O6 (.inr ai) (by simp [fi,fu,Value.oneCell']) ai ai) fun v w2 hr=> ?_
 obtain ⟨-,o7,hv,O7,F7',k7⟩:=hr;have hv:=(bh hv).symm;subst hv;refine zls ?_;refine ad.ak ?_;have K7:ah [] w w2:=ah.trans K6 k7 ae;have B7:w2.heap[w.heap.size]? =some (.cells (dx 5 idx 1 1) 95 (0,0)):=k7.on B6 ae;have F7:∀b∈blk o7,w.heap.size<b:=fun b hb=>Nat.lt_of_lt_of_le (bf B6) (F7' b hb)
 refine ad.cut (fun a1 x=>(a1.tmps.size=57∧a1.defers=[])∧a1.eval (.tmp 1)=pO w.heap.size∧a1.eval (.tmp 4)=o7∧x=w2) ⟨by simp [hsz],aj,aj,rfl⟩ fun a x ⟨hsz,v1,v4,e⟩=> ?_
 subst e;have d11:x.cell? ⟨w.heap.size,11,none⟩=some (.string kA):=af B7 (by simp [dx]);refine ba ?_;obtain ⟨o8,u8,hrun,O8,k8,b8⟩:=qt (w:=World.alloc x (.cells #[.int .u8 1] 5)) (a:=⟨x.heap.size,0,none⟩) (c:=1) (m:=1) (news:=[.int .u8 1]) (v:=o7) (World.ownsRow.alloc O7 _) rfl (jc #[.int .u8 1] 5 rfl) (by simp [Value.oneCell']) ai
 (refine ad.app rfl rfl rfl bj aj aj hrun ?_;refine ay ?_)
 refine zls ?_;refine ad.ak ?_;have K8:ah [] w u8:=ah.trans K7.alloc k8 (fun b hb=> .inr (Nat.le_of_lt (F7 b hb)));have B8:u8.heap[w.heap.size]? =some (.cells (dx 5 idx 1 1) 95 (0,0)):=k8.on (bw B7) (fun h=>Nat.lt_irrefl _ (F7 _ h));have F8:∀b∈blk o8,w.heap.size<b:=by
  intro b hb;rcases b8 with h|h
  ·exact F7 b (h▸hb)
  ·rw [h,List.mem_singleton] at hb;have:=bf B7;simp at hb;omega
 refine ad.dq (v:=o8) rfl hf rfl bz aj ⟨⟨_,rfl⟩,o8,rfl,?_,fun b hb=>Nat.le_of_lt (F8 b hb),K8⟩;have e9:fi (ij idx)=[.int .u8 67,.int .u8 82,.int .u8 78,.int .u8 2]++ [.int .u8 0,.int .u8 0,.int .u8 0,.int .u8 0,.int .u8 0,.int .u8 0,.int .u8 0,.int .u8 0]++ [.int .u8 2,.int .u8 1]++fi (fu 16)++fi (fu 5)++ [.int .u8 idx]++fi (fu 1)++fi (fu 1)++ [.int .u8 1]:=by simp [fi,ij,fu]
 rw [e9];exact O8
end
def iv (idx:Int)(ch:Value):Array Value:=#[.int .u8 0,.int .u8 0,.int .u8 0,.int .u8 0,.int .u8 0,.int .u8 0,.int .u8 0,.int .u8 0,.int .i64 2,.int .i64 1,.int .i64 16,.string kA,.int .i64 5,.int .i64 idx,.int .i64 1,.int .i64 1,ch]
def ld (idx:Int):Int:=um 0 (ij idx)
def lx (idx:Int):Int:=um (ld idx) [97]
def ma (idx:Int)(ch:List Int):List Int:=ij idx++fu (ld idx)++ [97]++fu (lx idx)++ch++fu (abb (lx idx) 0 ch)
structure Em (u0 u:World)(v:Value)(l:List Int):Prop where
 own:u.ownsRow u0.heap.size 5 1 v l.length (fi l)
 kp:ah [] u0 u
theorem ad.ldv {P:Program}{R:Ending→World→Prop}{b:Frame}{a:Act}{k:List Item}{w:World}{ops:Array Oper}{i:Nat}{rest:List Nat}{o:Oper}{v:Value}{x:Operand}{ty:TypeId}{p:Addr}(hk:b.kind= .normal)(ho:ops[i]? =some o)(hop:o.op= .load ty x)(hw:Region.wanted o (yielded ops a.tmps)=true)(hx:a.eval x= .pointer (some p))(hl:(Instr.loadAt ty (.pointer (some p))).run P w= .ok v w)
  (h:ad P R b (a.put o.dst v) (.inRegion ops rest::k) w):ad P R b a (.inRegion ops (i::rest)::k) w:=
 ad.val hk _ w ho hw (by
  cases o;subst hop;show Sem.run P (do pure (Next.value (←Instr.loadAt ty (a.eval x)))) w=_;rw [hx,Sem.run_bind,hl];rfl) h
theorem iq {P:Program}{R:Ending→World→Prop}{b:Frame}{a:Act}{k:List Item}{w:World}{ops:Array Oper}{i:Nat}{rest:List Nat}{o:Oper}{v:Value}{x:Operand}{ty:TypeId}{p:Addr}(hl:(Instr.loadAt ty (.pointer (some p))).run P w= .ok v w)(h:ad P R b (a.put o.dst v) (.inRegion ops rest::k) w)(hk:b.kind= .normal:=by rfl)(ho:ops[i]? =some o:=by rfl)(hop:o.op= .load ty x:=by rfl)(hw:Region.wanted o (yielded ops a.tmps)=true:=by exact bj)(hx:a.eval x= .pointer (some p):=by exact aj):ad P R b a (.inRegion ops (i::rest)::k) w:=ad.ldv hk ho hop hw hx hl h
section
variable {w w1 w2 u0 u u1:World}{v:Value}{n m c:Nat}{xs news olds:List Value}{l:List Int}{a p q:Addr}
theorem adt (h:w.ownsRow 0 5 1 v n xs){B:Nat}(hB:∀b∈blk v,B≤b):w.ownsRow B 5 1 v n xs:=⟨h.1,h.2.imp id fun ⟨g,cap,cur,h1,_,h2⟩=>⟨g,cap,cur,h1,hB g (by rw [h1];simp [blk,Value.ownBlock]),h2⟩⟩
theorem zt {B:Nat}(h:w.ownsRow B 5 1 v n xs):∀b∈blk v,B≤b:=fun b hb=>by
 rcases h.2 with ⟨rfl,-⟩|⟨g,cap,cur,rfl,h1,-⟩
 ·simp [blk,Value.ownBlock] at hb
 ·simp only [blk,Value.ownBlock,Option.toList_some,List.mem_singleton] at hb;omega
theorem acn {B:Nat}(h:w.ownsRow B 5 1 v n xs):w.ownsRow 0 5 1 v n xs:=adx h
theorem Em.more (h:Em u0 u v l)(hk:ah [] u u1):Em u0 u1 v l:=⟨adt (jk (acn h.own) hk ae) (zt h.own),h.kp.trans hk ae⟩
theorem Em.app (h:Em u0 u v l){ms:List Int}(hm:ms.length=m)(hb:l.length+m<1000000000)(hc:∀j x,ms[j]? =some x→u.cell? (a.add j)=some (.int .u8 x)):
  ∃v' u',(Builtin.append_ #[49,49] 49 #[v,.slice (some a) m c]).run GP u= .ok v' u'∧Em u0 u' v' (l++ms):=by
 obtain ⟨v',u',r1,r2,r3,r4⟩:=qt (a:=a) (c:=c) (m:=m) (news:=fi ms) (acn h.own) (by simp [fi,hm]) (fun j x hx=>by
  simp only [fi,List.getElem?_map,Option.map_eq_some_iff] at hx;obtain ⟨y,hy,rfl⟩:=hx;exact hc j y hy) (by simp [fi,Value.oneCell']) ai
 have hl:=h.kp.size;refine ⟨v',u',r1,adt (by simpa [fi,hm] using r2) fun b hb=> ?_,h.kp.trans r3 fun b hb=> .inr (zt h.own b hb)⟩;rcases r4 with h4|h4
 ·exact zt h.own b (h4▸hb)
 ·rw [h4,List.mem_singleton] at hb;omega
theorem Em.str (h:Em u0 u v l)(hb:l.length<1000000000):∃v' u',(Builtin.append_ #[49,9] 49 #[v,.string kA]).run GP u= .ok v' u'∧Em u0 u' v' (l++ [97]):=by
 obtain ⟨v',u',r1,r2,r3,-⟩:=Go.Lib.run_append_own_string (P:=GP) u u0.heap.size 49 9 49 5 ((Tryz.prog.info? 5).getD default) (by rw [fb];kernel_rfl) (by rw [fb];kernel_rfl) (by rw [ek];kernel_rfl) du du du v l.length (fi l) h.own kA (by simp only [maxLen,show kA.size=1 from rfl];omega) (by simp only [show kA.size=1 from rfl];omega) h.kp.size;refine ⟨v',u',r1,?_,h.kp.trans (ln r3) fun b hb=> .inr (zt h.own b hb)⟩;have e:fi (l++ [97])=fi l++Go.Lib.strCells kA:=by
  simp only [fi,List.map_append];rfl
 rw [e];have e2:(l++ [97]).length=l.length+kA.size:=by simp [show kA.size=1 from rfl]
 rw [e2];exact r2
theorem Em.nil (w:World):∃v' u',(Instr.makeSlice 49 (.int .i64 0) (.int .i64 48)).run GP w= .ok v' u'∧Em w u' v' []:=by
 obtain ⟨u',r1,r2,r3⟩:=run_make_own (P:=GP) w w.heap.size 49 5 ((Tryz.prog.info? 5).getD default) (.int .u8 0) 1 (by rw [fb];kernel_rfl) (by rw [ek];kernel_rfl) du du .i64 .i64 48 (by
  have h:((Tryz.prog.info? 5).getD default).bytes=1:=by kernel_rfl
  rw [h];omega) (by simp [maxLen]) (Nat.le_refl _)
 exact ⟨_,u',r1,r2,ln (v:= .slice none 0 0) r3⟩
theorem tw (h:w.ownsRow 0 5 1 v n (fi l))(hn:0<n):∃g c,v=sO g n c∧g<w.heap.size∧(∀j x,l[j]? =some x→w.cell? ⟨g,0+j,none⟩=some (.int .u8 x)):=by
 rcases h.2 with ⟨rfl,h0⟩|⟨g,cap,cur,rfl,h1,h2,h3⟩
 ·omega
 ·exact ⟨g,cap,rfl,bf h2,agf h⟩
theorem conv_key (w:World):∃c w',(convert 9 49 (.string kA)).run GP w= .ok (sO w.heap.size 1 c) w'∧ah [] w w'∧w.heap.size<w'.heap.size∧w'.cell? ⟨w.heap.size,0,none⟩=some (.int .u8 97):=by
 have h:=run_bytes_of_string (P:=GP) w 9 49 5 kA (by rw [fb];kernel_rfl) (by rw [fb];kernel_rfl) (by rw [fb];kernel_rfl);refine ⟨_,_,h,?_,by simp,?_⟩
 ·have h0:ah [] w w.drew:=⟨Nat.le_refl _,fun _ _ _=>rfl,rfl,rfl⟩;exact h0.alloc
 have hb:(w.drew.alloc (.cells (bytesRow kA (grownCap w kA.size 0 5)) 5 ((bytesRow kA (grownCap w kA.size 0 5)).size,(bytesRow kA (grownCap w kA.size 0 5)).size+1))).heap[w.heap.size]? =some (.cells (bytesRow kA (grownCap w kA.size 0 5)) 5 ((bytesRow kA (grownCap w kA.size 0 5)).size,(bytesRow kA (grownCap w kA.size 0 5)).size+1)):=bu;simp only [World.cell?,hb];exact bytesRow_at kA _ 0 (by decide)
theorem u95:GP.underlying 95=some (Tryz.prog.underlying 95).get! :=by kernel_rfl
theorem u36:GP.underlying 36=some (Tryz.prog.underlying 36).get! :=by kernel_rfl
theorem head_at {idx:Int}{ch:Value}:∀j,j<16→(iv idx ch)[0+j]? =(dx 5 idx 1 1).toList[j]? :=fun j hj=>by
 rcases j with _|_|_|_|_|_|_|_|_|_|_|_|_|_|_|_|j <;> first|rfl|omega
theorem row95 {g:Nat}{idx:Int}{ch:Value} {z}(h:u.heap[g]? =some (.cells (iv idx ch) 103 z)):(Instr.loadAt 95 (pO g)).run GP u= .ok (.agg (dx 5 idx 1 1)) u:=
 run_loadAt_mid (P:=GP) u g 0 95 (dx 5 idx 1 1).toList _ (jy h head_at) u95 du (by rw [ek];kernel_rfl)
theorem row36 {g:Nat}{idx:Int}{ch:Value} {z}(h:u.heap[g]? =some (.cells (iv idx ch) 103 z)):(Instr.loadAt 36 (.pointer (some ⟨g,8,none⟩))).run GP u= .ok (.agg shp) u:=
 run_loadAt_mid (P:=GP) u g 8 36 shp.toList _ (jy h fun j hj=>by
  simp [shp] at hj;rcases j with _|_|_|j <;> first|rfl|omega) u36 du (by rw [ek];kernel_rfl)
theorem ac8 {idx:Nat}(h:idx<3):∀y∈ij idx,0≤y∧y<256:=by
 intro y hy;simp only [ij,List.mem_append,List.mem_cons,List.not_mem_nil,or_false] at hy;rcases hy with ((((((hy|hy)|hy)|hy)|hy)|hy)|hy)
 all_goals first|exact abz _ y hy|(rcases hy with hy|hy|hy|hy|hy|hy|hy|hy|hy|hy|hy|hy|hy|hy <;> omega)|omega
theorem ak6 (x:Int):0≤cneg x∧cneg x<4294967296:=by
 show 0≤IntKind.u32.wrap _∧IntKind.u32.wrap _<4294967296;generalize (_:Int)=z;unfold IntKind.wrap;simp [IntKind.bits,IntKind.signed];omega
theorem mr {r:Int}(l:List Int):0≤um r l∧um r l<4294967296:=ak6 _
theorem aoq {idx cb pb po cc c2:Nat}{ch:List Int}(hi:idx<3)(h0:w.cell? ⟨cb,0,none⟩=some (.slice (some ⟨pb,po,none⟩) 3 c2))(h1:cb<w.heap.size)(h2:pb<w.heap.size)(hl:ch.length=3)(hx:∀i x,ch[i]? =some x→w.cell? ⟨pb,po+i,none⟩=some (.int .u8 x))(hx0:∀x∈ch,0≤x∧x<256):
  Calls GP 59 #[.agg (iv idx (sO cb 1 cc))] w fun e w2=>(∃v,e= .returned v)∧∃v,e= .returned (.tuple #[v,.int .i64 0])∧w2.ownsRow w.heap.size 5 1 v 48 (fi (ma idx ch))∧ah [] w w2:=by
 refine dn 59 100 Tryz.func59 fun a hf hsz hv=> ?_
 obtain ⟨v0,-⟩:=ie hv;clear hv;simp only [iv] at v0;refine ba ?_;refine bt 56 (adl hi) fun v w2 hr=> ?_
 obtain ⟨hv,K1⟩:=hr;obtain rfl:=bh hv;refine ad.cut (fun a1 x=>(a1.tmps.size=100∧a1.defers=[])∧a1.eval (.tmp 1)=pO w.heap.size∧a1.eval (.tmp 16)= .int .i64 0∧ah [] w x∧x.heap[w.heap.size]? =some (.cells (iv idx (sO cb 1 cc)) 103 (0,0))) ⟨by simp [hsz],aj,aj,ah.trans (ei) K1 ae,K1.on bu ae⟩ fun a u ⟨hsz,v1,v16,K,hb⟩=> ?_
 have d16:u.cell? ⟨w.heap.size,16,none⟩=some (sO cb 1 cc):=af hb (by simp [iv]);have d12:u.cell? ⟨w.heap.size,12,none⟩=some (.int .i64 5):=af hb (by simp [iv]);have d11:u.cell? ⟨w.heap.size,11,none⟩=some (.string kA):=af hb (by simp [iv]);refine ba ?_;refine iq (row36 hb) ?_;refine ba ?_;refine bt 84 wq fun v w2 hr=> ?_
 obtain ⟨-,g5,hv,G5,l5,K1⟩:=hr;obtain rfl:=bh hv;refine ad.cut (fun a1 x=>(a1.tmps.size=100∧a1.defers=[])∧a1.eval (.tmp 1)=pO w.heap.size∧a1.eval (.tmp 26)=sO g5 1 1∧ah [] w x∧x.heap[w.heap.size]? =some (.cells (iv idx (sO cb 1 cc)) 103 (0,0))∧x.heap[g5]? =some (.cells #[.int .i64 3] 3 (0,0))) ⟨by simp [hsz],aj,aj,K.trans K1 ae,K1.on hb ae,G5⟩ fun a u ⟨hsz,v1,v26,K,hb,G5⟩=> ?_
 have d16:u.cell? ⟨w.heap.size,16,none⟩=some (sO cb 1 cc):=af hb (by simp [iv]);have d12:u.cell? ⟨w.heap.size,12,none⟩=some (.int .i64 5):=af hb (by simp [iv]);have d11:u.cell? ⟨w.heap.size,11,none⟩=some (.string kA):=af hb (by simp [iv]);have d5:u.cell? ⟨g5,0,none⟩=some (.int .i64 3):=af G5 ae;have dc:u.cell? ⟨cb,0,none⟩=some (.slice (some ⟨pb,po,none⟩) 3 c2):=(K.cell h1 ae).trans h0;refine ba ?_;apply ad.loop;refine ba ?_;apply ad.inLoop;refine ba ?_;refine iq (row95 hb) ?_;refine ad.cut (fun a1 x=>(a1.tmps.size=100∧a1.defers=[])∧a1.eval (.tmp 1)=pO w.heap.size∧a1.eval (.tmp 50)= .agg (dx 5 idx 1 1)∧x=u) ⟨by simp [hsz],aj,aj,rfl⟩ fun a x ⟨hsz,v1,v50,e⟩=> ?_
 subst e;refine bt 90 (first_ok hi) fun v w2 hr=> ?_
 obtain ⟨-,f,hv,F1,F2,K1⟩:=hr;have hv:=(bh hv).symm;subst hv;obtain ⟨g8,c8,rfl,g8l,F3⟩:=tw F1 ai;have g8n:x.heap.size≤g8:=F2 g8 (by simp [blk,Value.ownBlock]);refine ad.cut (fun a1 x=>(a1.tmps.size=100∧a1.defers=[])∧a1.eval (.tmp 1)=pO w.heap.size∧a1.eval (.tmp 51)=sO g8 32 c8∧x=w2) ⟨by simp [hsz],aj,aj,rfl⟩ fun a y ⟨hsz,v1,v51,e⟩=> ?_
 subst e;have hb:=K1.on hb ae;have K:=K.trans K1 ae;clear d5 dc d16 d12 d11 G5 K1;refine ba ?_;refine bt 91 (sum_ok (m:=32) (c:=c8) (bs:=ij idx) ai rfl F3 g8l (ac8 hi)) fun v w2 hr=> ?_
 obtain ⟨hv,K1⟩:=hr;obtain rfl:=bh hv;refine ad.cut (fun a1 x=>(a1.tmps.size=100∧a1.defers=[])∧a1.eval (.tmp 1)=pO w.heap.size∧a1.eval (.tmp 8)=sO g8 32 c8∧a1.eval (.tmp 53)= .int .u32 (ld idx)∧ah [] w x∧x.heap[w.heap.size]? =some (.cells (iv idx (sO cb 1 cc)) 103 (0,0))∧g8<x.heap.size∧∀j y,(ij idx)[j]? =some y→x.cell? ⟨g8,0+j,none⟩=some (.int .u8 y)) ⟨by simp [hsz],aj,aj,et,K.trans K1 ae,K1.on hb ae,Nat.lt_of_lt_of_le g8l K1.size,fun j y h=>(K1.cell g8l ae).trans (F3 j y h)⟩ fun a u ⟨hsz,v1,v8,v53,K,hb,g8l,F3⟩=> ?_
 have d16:u.cell? ⟨w.heap.size,16,none⟩=some (sO cb 1 cc):=af hb (by simp [iv]);have d12:u.cell? ⟨w.heap.size,12,none⟩=some (.int .i64 5):=af hb (by simp [iv]);have d11:u.cell? ⟨w.heap.size,11,none⟩=some (.string kA):=af hb (by simp [iv]);obtain ⟨c9,w9,r9,K9,l9,C9⟩:=conv_key u;refine ba ?_;refine ad.cut (fun a1 x=>(a1.tmps.size=100∧a1.defers=[])∧a1.eval (.tmp 1)=pO w.heap.size∧a1.eval (.tmp 8)=sO g8 32 c8∧a1.eval (.tmp 9)= .int .u32 (ld idx)∧a1.eval (.tmp 54)= .int .u32 (ld idx)∧a1.eval (.tmp 58)=sO u.heap.size 1 c9∧x=w9) ⟨by simp [hsz],aj,aj,aj,aj,aj,rfl⟩ fun a y ⟨hsz,v1,v8,v9,v54,v58,e⟩=> ?_
 subst e;refine bt 92 (acu (m:=1) (c:=c9) (po:=0) (r:=ld idx) (bs:=[97]) ai rfl (fun i x h=>by
  rcases i with _|i
  ·simp at h;subst h;exact C9
  ·simp at h) l9 ae) fun v w2 hr=> ?_
 obtain ⟨hv,K1⟩:=hr;obtain rfl:=bh hv;refine ad.cut (fun a1 x=>(a1.tmps.size=100∧a1.defers=[])∧a1.eval (.tmp 1)=pO w.heap.size∧a1.eval (.tmp 8)=sO g8 32 c8∧a1.eval (.tmp 9)= .int .u32 (ld idx)∧a1.eval (.tmp 59)= .int .u32 (lx idx)∧ah [] w x∧x.heap[w.heap.size]? =some (.cells (iv idx (sO cb 1 cc)) 103 (0,0))∧g8<x.heap.size∧∀j y,(ij idx)[j]? =some y→x.cell? ⟨g8,0+j,none⟩=some (.int .u8 y)) ⟨by simp [hsz],aj,aj,aj,et,(K.trans K9 ae).trans K1 ae,K1.on (K9.on hb ae) ae,Nat.lt_of_lt_of_le g8l (Nat.le_trans K9.size K1.size),fun j y h=>(K1.cell (Nat.lt_of_lt_of_le g8l K9.size) ae).trans ((K9.cell g8l ae).trans (F3 j y h))⟩ fun a u ⟨hsz,v1,v8,v9,v59,K,hb,g8l,F3⟩=> ?_
 refine ba ?_;refine iq (row95 hb) ?_;refine bt 93 (af4 (idx:=idx)) fun v w2 hr=> ?_
 obtain ⟨hv,K1⟩:=hr;obtain rfl:=bh hv;obtain ⟨o,w3,r3,E3⟩:=Em.nil w2
 (apply ad.val rfl;(case ho=>rfl);(case hw=>exact bj);(case hr=>refine zpr ?_;first|(rw [Sem.run_bind,r3];rfl)|exact r3);refine ay ?_)
 refine zls ?_;refine ad.ak ?_;refine ad.cut (fun a1 x=>(a1.tmps.size=100∧a1.defers=[])∧a1.eval (.tmp 1)=pO w.heap.size∧a1.eval (.tmp 8)=sO g8 32 c8∧a1.eval (.tmp 9)= .int .u32 (ld idx)∧a1.eval (.tmp 10)= .int .u32 (lx idx)∧a1.eval (.tmp 11)=o∧x=w3) ⟨by simp [hsz],aj,aj,aj,aj,aj,rfl⟩ fun a y ⟨hsz,v1,v8,v9,v10,v11,e⟩=> ?_
 subst e;have K:=K.trans K1 ae;have hb:=K1.on hb ae;have F3:∀j y,(ij idx)[j]? =some y→w2.cell? ⟨g8,0+j,none⟩=some (.int .u8 y):=fun j y h=>(K1.cell g8l ae).trans (F3 j y h)
 have g8l:=Nat.lt_of_lt_of_le g8l K1.size;refine ba ?_;obtain ⟨o,w3,r3,E3⟩:=E3.app (m:=32) (c:=c8) (a:=⟨g8,0,none⟩) (ms:=ij idx) rfl ae fun j x h=>by
  rw [Addr.add_lit];exact (E3.kp.cell g8l ae).trans (F3 j x h)
 (refine ad.app rfl rfl rfl bj aj aj r3 ?_;refine ay ?_)
 refine zls ?_;refine ad.ak ?_;refine ad.cut (fun a1 x=>(a1.tmps.size=100∧a1.defers=[])∧a1.eval (.tmp 1)=pO w.heap.size∧a1.eval (.tmp 9)= .int .u32 (ld idx)∧a1.eval (.tmp 10)= .int .u32 (lx idx)∧a1.eval (.tmp 11)=o∧x=w3) ⟨by simp [hsz],aj,aj,aj,aj,rfl⟩ fun a y ⟨hsz,v1,v9,v10,v11,e⟩=> ?_
 subst e;refine ba ?_;refine bt 94 (qh (x:=ld idx) (w:=y) (v:= .slice none 0 0) (n:=0) (xs:=[]) (World.ownsRow_nil _ _ _ _) (.inl rfl) ae ai (mr (r:=0) (ij idx))) fun v w2 hr=> ?_
 obtain ⟨-,f,hv,F1,F2,K1⟩:=hr;have hv:=(bh hv).symm;subst hv;obtain ⟨g,c,rfl,gl,F4⟩:=tw (l:=fu (ld idx)) F1 ai;have E4:=E3.more K1;obtain ⟨o,w3,r3,E3⟩:=E4.app (m:=4) (c:=c) (a:=⟨g,0,none⟩) (ms:=fu (ld idx)) rfl (by simp [ij,fu]) fun j x h=>by
  rw [Addr.add_lit];exact F4 j x h
 (refine ad.app rfl rfl rfl bj aj aj r3 ?_;refine ay ?_)
 refine zls ?_;refine ad.ak ?_;refine ad.cut (fun a1 x=>(a1.tmps.size=100∧a1.defers=[])∧a1.eval (.tmp 1)=pO w.heap.size∧a1.eval (.tmp 10)= .int .u32 (lx idx)∧a1.eval (.tmp 11)=o∧x=w3) ⟨by simp [hsz],aj,aj,aj,rfl⟩ fun a y ⟨hsz,v1,v10,v11,e⟩=> ?_
 subst e;have d11:y.cell? ⟨w.heap.size,11,none⟩=some (.string kA):=af (E3.kp.on hb ae) (by simp [iv]);refine ba ?_;obtain ⟨o,w3,r3,E3⟩:=E3.str (by simp [ij,fu])
 (refine ad.app rfl rfl rfl bj aj aj r3 ?_;refine ay ?_)
 refine zls ?_;refine ad.ak ?_;refine ad.cut (fun a1 x=>(a1.tmps.size=100∧a1.defers=[])∧a1.eval (.tmp 1)=pO w.heap.size∧a1.eval (.tmp 10)= .int .u32 (lx idx)∧a1.eval (.tmp 11)=o∧x=w3) ⟨by simp [hsz],aj,aj,aj,rfl⟩ fun a y ⟨hsz,v1,v10,v11,e⟩=> ?_
 subst e;clear d11;refine ba ?_;refine bt 94 (qh (x:=lx idx) (w:=y) (v:= .slice none 0 0) (n:=0) (xs:=[]) (World.ownsRow_nil _ _ _ _) (.inl rfl) ae ai (mr (r:=ld idx) [97])) fun v w2 hr=> ?_
 obtain ⟨-,f,hv,F1,F2,K1⟩:=hr;have hv:=(bh hv).symm;subst hv;obtain ⟨g,c,rfl,gl,F4⟩:=tw (l:=fu (lx idx)) F1 ai;have E4:=E3.more K1;obtain ⟨o,w3,r3,E3⟩:=E4.app (m:=4) (c:=c) (a:=⟨g,0,none⟩) (ms:=fu (lx idx)) rfl (by simp [ij,fu]) fun j x h=>by
  rw [Addr.add_lit];exact F4 j x h
 (refine ad.app rfl rfl rfl bj aj aj r3 ?_;refine ay ?_)
 refine zls ?_;refine ad.ak ?_;refine ad.cut (fun a1 x=>(a1.tmps.size=100∧a1.defers=[])∧a1.eval (.tmp 1)=pO w.heap.size∧a1.eval (.tmp 10)= .int .u32 (lx idx)∧a1.eval (.tmp 11)=o∧x=w3) ⟨by simp [hsz],aj,aj,aj,rfl⟩ fun a y ⟨hsz,v1,v10,v11,e⟩=> ?_
 subst e;have d16:y.cell? ⟨w.heap.size,16,none⟩=some (sO cb 1 cc):=af (E3.kp.on hb ae) (by simp [iv]);have dc:y.cell? ⟨cb,0,none⟩=some (.slice (some ⟨pb,po,none⟩) 3 c2):=((K.trans E3.kp ae).cell h1 ae).trans h0;have hx1:∀i x,ch[i]? =some x→y.cell? ⟨pb,po+i,none⟩=some (.int .u8 x):=fun i x h=>((K.trans E3.kp ae).cell h2 ae).trans (hx i x h)
 have h2y:pb<y.heap.size:=Nat.lt_of_lt_of_le h2 (Nat.le_trans K.size E3.kp.size);refine ba ?_;apply ad.loop;refine ba ?_;obtain ⟨o,w3,r3,E3⟩:=E3.app (m:=3) (c:=c2) (a:=⟨pb,po,none⟩) (ms:=ch) hl (by simp [ij,fu]) fun j x h=>by
  rw [Addr.add_lit];exact hx1 j x h
 (refine ad.app rfl rfl rfl bj aj aj r3 ?_;refine ay ?_)
 refine zls ?_;refine ad.ak ?_;have hx3:∀i x,ch[i]? =some x→w3.cell? ⟨pb,po+i,none⟩=some (.int .u8 x):=fun i x h=>((K.trans E3.kp ae).cell h2 ae).trans (hx i x h)
 have h3y:pb<w3.heap.size:=Nat.lt_of_lt_of_le h2 (Nat.le_trans K.size E3.kp.size);refine ad.cut (fun a1 x=>(a1.tmps.size=100∧a1.defers=[])∧a1.eval (.tmp 10)= .int .u32 (lx idx)∧a1.eval (.tmp 11)=o∧a1.eval (.tmp 12)= .int .i64 0∧a1.eval (.tmp 13)= .slice (some ⟨pb,po,none⟩) 3 c2∧a1.eval (.tmp 82)= .int .i64 1∧a1.eval (.tmp 83)= .int .i64 0∧x=w3) ⟨by simp [hsz],aj,aj,aj,aj,aj,aj,rfl⟩ fun a y ⟨hsz,v10,v11,v12,v13,v82,v83,e⟩=> ?_
 subst e;refine ba ?_;refine bt 95 (own_ok (m:=3) (c:=c2) (pb:=pb) (po:=po) (head:=lx idx) (j:=0) (bs:=ch) (mr (r:=ld idx) [97]) ai ai hl hx3 h3y hx0) fun v w2 hr=> ?_
 obtain ⟨hv,K1⟩:=hr;obtain rfl:=bh hv;refine ad.cut (fun a1 x=>(a1.tmps.size=100∧a1.defers=[])∧a1.eval (.tmp 95)= .int .u32 (abb (lx idx) 0 ch)∧a1.eval (.tmp 91)=o∧a1.eval (.tmp 82)= .int .i64 1∧a1.eval (.tmp 83)= .int .i64 0∧x=w2) ⟨by simp [hsz],aj,aj,aj,aj,rfl⟩ fun a y ⟨hsz,v95,v91,v82,v83,e⟩=> ?_
 subst e;have E4:=E3.more K1;refine bt 94 (qh (x:=abb (lx idx) 0 ch) (w:=y) (v:= .slice none 0 0) (n:=0) (xs:=[]) (World.ownsRow_nil _ _ _ _) (.inl rfl) ae ai (mr _)) fun v w2 hr=> ?_
 obtain ⟨-,f,hv,F1,F2,K2⟩:=hr;have hv:=(bh hv).symm;subst hv;obtain ⟨g,c,rfl,gl,F4⟩:=tw (l:=fu (abb (lx idx) 0 ch)) F1 ai;have E5:=E4.more K2;obtain ⟨o,w3,r3,E6⟩:=E5.app (m:=4) (c:=c) (a:=⟨g,0,none⟩) (ms:=fu (abb (lx idx) 0 ch)) rfl (by simp [ij,fu,hl]) fun j x h=>by
  rw [Addr.add_lit];exact F4 j x h
 (refine ad.app rfl rfl rfl bj aj aj r3 ?_;refine ay ?_)
 refine zls ?_;refine ad.ak ?_;refine ad.cut (fun a1 x=>(a1.tmps.size=100∧a1.defers=[])∧a1.eval (.tmp 11)=o∧a1.eval (.tmp 82)= .int .i64 1∧a1.eval (.tmp 83)= .int .i64 0∧x=w3) ⟨by simp [hsz],aj,aj,aj,rfl⟩ fun a y ⟨hsz,v11,v82,v83,e⟩=> ?_
 subst e;refine ba ?_;apply ad.inLoop;refine ba ?_;have hE:=E6.own;have e9:[]++ij idx++fu (ld idx)++ [97]++fu (lx idx)++ch++fu (abb (lx idx) 0 ch)=ma idx ch:=by simp [ma]
 rw [e9] at hE;have e10:(ma idx ch).length=48:=by simp [ma,ij,fu,hl]
 rw [e10] at hE;have hE:y.ownsRow w.heap.size 5 1 o 48 (fi (ma idx ch)):=adt (acn hE) fun b hb=>Nat.le_trans K.size (zt hE b hb)
 exact ad.qs rfl hf rfl bz aj aj ⟨⟨_,rfl⟩,o,rfl,hE,K.trans E6.kp ae⟩
end
end Go.Proofs.YthgpdljlehklhaaGreat.wk
namespace Go.Proofs.YthgpdljlehklhaaGreat.wk
open Go Go.Conc zr dr wd drv
inductive KA (a:Act):List Nat→List Value→Prop where
 |nil:KA a [] []
 |cons {n:Nat}{x:Value}{l:List Nat}{m:List Value}:(∀y,a.eval (.tmp n)=y→x=y)→KA a l m→KA a (n::l) (x::m)
def KC (a:Act):List Nat→List Value→Prop
 |n::l,x::m=>a.eval (.tmp n)=x∧KC a l m
 |_,_=>True
theorem agw {a a1:Act}(hv:∀t,a1.eval (.tmp t)=a.eval (.tmp t)):∀{L:List Nat}{X:List Value},KA a L X→KC a1 L X
 |_,_,.nil=>trivial
 |_,_,.cons h t=>⟨(hv _).trans (h _ rfl).symm,agw hv t⟩
theorem kl {P:Program}{R:Ending→World→Prop}{b:Frame}{a:Act}{k:List Item}{w:World}{m:Nat}{X:List Value}(L:List Nat)(h:∀a1:Act,(a1.tmps.size=m∧a1.defers=[])→KC a1 L X→ad P R b a1 k w)(hX:KA a L X:=by repeat (first|exact KA.nil|(apply KA.cons;focus (intro y hy;(try simp+decide only [eval_put,bn,eval_const,size_put,if_true,if_false,List.getElem_toArray,List.getElem_cons_zero,List.getElem_cons_succ, *] at hy);exact hy))))(hs:∀y,a.tmps.size=y→m=y:=by intro y hy;simp only [size_put,hsz] at hy;exact hy)(hd:a.defers=[]:=by simp only [abc,hsz]):ad P R b a k w:=ad.ff fun a1 ha hv=>h a1 ⟨ha.1.trans (hs _ rfl).symm,ha.2.trans hd⟩ (agw hv hX)
end Go.Proofs.YthgpdljlehklhaaGreat.wk
