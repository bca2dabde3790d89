/- Part QBK of the proof that DropRefused answers true whatever its input. No condition. -/
import Derived.Shelf.SlIter.Nil
import Derived.Ground.GgzProg
import Derived.Ground.SlgmProg
import Derived.Test.YthgpdljlehklhaaGreatQAT
import Derived.Test.YthgpdljlehklhaaGreatQBB
import Derived.Test.YthgpdljlehklhaaGreatQAO
import Derived.Test.YthgpdljlehklhaaGreatQBJ
import Derived.Test.YthgpdljlehklhaaGreatQBA
import Derived.Test.YthgpdljlehklhaaGreatQBF
import Derived.Test.YthgpdljlehklhaaGreatQBH
set_option maxRecDepth 100000
namespace Go.Proofs.YthgpdljlehklhaaGreat.wk
open Go Go.Conc Go.Proofs zr dr wd drv
open Go.RowKit Go.Maps Go.Sort Go.Shelf
set_option linter.unusedVariables false
set_option maxHeartbeats 4000000
def ao3:Go.Shelf.Ren:=⟨fun|7=>77|10=>126|n=>n,fun|23=>136|26=>9|3=>143|28=>193|0=>0|27=>192|33=>195|4=>4|n=>n,fun|n=>n⟩
theorem aqk:Go.Proofs.SlLaysZ.n7 Tryz.prog ao3:={
 mixed:=by kernel_rfl
 f7:=⟨Tryz.f77.name,by decide,Tryz.func77.trans (congrArg some du)⟩
 f10:=⟨Tryz.f126.name,by decide,Tryz.func126.trans (congrArg some du)⟩
 t0:=Tryz.underlying0
 a0:=Tryz.isAgg0
 z0:=Tryz.sizeOf0
 v0:=Tryz.zeroValue0
 t4:=Tryz.underlying4
 a4:=Tryz.isAgg4
 z4:=Tryz.sizeOf4
 v4:=Tryz.zeroValue4
 t23:=Tryz.underlying136
 a23:=Tryz.isAgg136
 z23:=Tryz.sizeOf136
 v23:=Tryz.zeroValue136
 t26:=Tryz.underlying9
 a26:=Tryz.isAgg9
 z26:=Tryz.sizeOf9
 v26:=Tryz.zeroValue9
 t27:=Tryz.underlying192
 a27:=Tryz.isAgg192
 z27:=Tryz.sizeOf192
 v27:=Tryz.zeroValue192
 t28:=Tryz.underlying193
 a28:=Tryz.isAgg193
 z28:=Tryz.sizeOf193
 v28:=Tryz.zeroValue193
 t33:=Tryz.underlying195
 a33:=Tryz.isAgg195
 z33:=Tryz.sizeOf195
 v33:=Tryz.zeroValue195}
def ao2:Go.Shelf.Ren:=⟨fun|6=>76|8=>124|9=>125|11=>147|13=>145|12=>148|23=>170|24=>151|14=>171|15=>172|16=>173|17=>174|18=>175|19=>176|20=>177|21=>178|22=>179|25=>189|26=>185|27=>186|28=>190|29=>191|30=>192|31=>194|n=>n,fun|26=>9|28=>193|24=>134|0=>0|3=>3|37=>189|48=>211|50=>256|4=>4|40=>295|39=>294|45=>299|5=>5|9=>9|51=>314|55=>318|57=>322|58=>91|33=>195|n=>n,fun|n=>n⟩
theorem aql:Go.Proofs.SlLaysZ.n6 Tryz.prog ao2:={
 mixed:=by kernel_rfl
 f6:=⟨Tryz.f76.name,by decide,Tryz.func76.trans (congrArg some du)⟩
 f8:=⟨Tryz.f124.name,by decide,Tryz.func124.trans (congrArg some du)⟩
 f11:=⟨Tryz.f147.name,by decide,Tryz.func147.trans (congrArg some du)⟩
 t0:=Tryz.underlying0
 a0:=Tryz.isAgg0
 z0:=Tryz.sizeOf0
 v0:=Tryz.zeroValue0
 t24:=Tryz.underlying134
 a24:=Tryz.isAgg134
 z24:=Tryz.sizeOf134
 v24:=Tryz.zeroValue134
 t26:=Tryz.underlying9
 a26:=Tryz.isAgg9
 z26:=Tryz.sizeOf9
 v26:=Tryz.zeroValue9
 t28:=Tryz.underlying193
 a28:=Tryz.isAgg193
 z28:=Tryz.sizeOf193
 v28:=Tryz.zeroValue193
 i26:=by kernel_rfl}
theorem xk {f:FuncId}{B:Func}{c:Code}(h:Bears Tryz.prog f B)(hb:B.body=some c)(ho:dy Tryz.prog c=true):Bears GP f B:=by
 obtain ⟨nm,hn,hf⟩:=h;exact ⟨nm,hn,jd hf hb ho⟩
theorem keysG:SlLaysZ.n7 GP ao3:={
 mixed:=eo
 f7:=xk aqk.f7 rfl a9
 f10:=xk aqk.f10 rfl a9
 t0:=(fb _).trans aqk.t0
 a0:=fun w=>by rw [n9];exact aqk.a0 w
 z0:=fun w=>by rw [mq];exact aqk.z0 w
 v0:=fun w=>by rw [qf];exact aqk.v0 w
 t4:=(fb _).trans aqk.t4
 a4:=fun w=>by rw [n9];exact aqk.a4 w
 z4:=fun w=>by rw [mq];exact aqk.z4 w
 v4:=fun w=>by rw [qf];exact aqk.v4 w
 t23:=(fb _).trans aqk.t23
 a23:=fun w=>by rw [n9];exact aqk.a23 w
 z23:=fun w=>by rw [mq];exact aqk.z23 w
 v23:=fun w=>by rw [qf];exact aqk.v23 w
 t26:=(fb _).trans aqk.t26
 a26:=fun w=>by rw [n9];exact aqk.a26 w
 z26:=fun w=>by rw [mq];exact aqk.z26 w
 v26:=fun w=>by rw [qf];exact aqk.v26 w
 t27:=(fb _).trans aqk.t27
 a27:=fun w=>by rw [n9];exact aqk.a27 w
 z27:=fun w=>by rw [mq];exact aqk.z27 w
 v27:=fun w=>by rw [qf];exact aqk.v27 w
 t28:=(fb _).trans aqk.t28
 a28:=fun w=>by rw [n9];exact aqk.a28 w
 z28:=fun w=>by rw [mq];exact aqk.z28 w
 v28:=fun w=>by rw [qf];exact aqk.v28 w
 t33:=(fb _).trans aqk.t33
 a33:=fun w=>by rw [n9];exact aqk.a33 w
 z33:=fun w=>by rw [mq];exact aqk.z33 w
 v33:=fun w=>by rw [qf];exact aqk.v33 w}
theorem sortedG:SlLaysZ.n6 GP ao2:={
 mixed:=eo
 f6:=xk aql.f6 rfl a9
 f8:=xk aql.f8 rfl a9
 f11:=xk aql.f11 rfl a9
 t0:=(fb _).trans aql.t0
 a0:=fun w=>by rw [n9];exact aql.a0 w
 z0:=fun w=>by rw [mq];exact aql.z0 w
 v0:=fun w=>by rw [qf];exact aql.v0 w
 t24:=(fb _).trans aql.t24
 a24:=fun w=>by rw [n9];exact aql.a24 w
 z24:=fun w=>by rw [mq];exact aql.z24 w
 v24:=fun w=>by rw [qf];exact aql.v24 w
 t26:=(fb _).trans aql.t26
 a26:=fun w=>by rw [n9];exact aql.a26 w
 z26:=fun w=>by rw [mq];exact aql.z26 w
 v26:=fun w=>by rw [qf];exact aql.v26 w
 t28:=(fb _).trans aql.t28
 a28:=fun w=>by rw [n9];exact aql.a28 w
 z28:=fun w=>by rw [mq];exact aql.z28 w
 v28:=fun w=>by rw [qf];exact aql.v28 w
 i26:=by rw [ek];exact aql.i26}
section
variable {w:World}{Bm b:Nat}
theorem akx (hm:w.cell? ⟨Bm,0,none⟩=some (.map (some b)))(hb:w.heap[b]? =some (.map #[] 0))(hB:Bm<w.heap.size):Calls GP 124 #[.func (.func 126) #[] #[pO Bm]] w fun e w'=>e= .returned (.slice none 0 0)∧Below w.heap.size w w':=by
 have hown:w.ownsMap (H:=Unit) GP 9 (fun _=>none) b 0 (.map []):=by
  refine ⟨#[],0,hb,?_,Nat.le_refl _,rfl⟩;refine ⟨Nat.zero_le _,?_,fun x hx=>by cases hx⟩
  first|(constructor <;> simp)|simp [Stamped]
 have hseq:=AnyZ.keys_gives (ρ:=ao3) {keysG with} Fence.wide 1 trivial rfl ai Bm b 0 (.map []) w hB hm hown;have hc:=AnyZ.collect_in (ρ:=ao2) {sortedG with} Fence.wide 3 trivial trivial rfl ai 126 #[pO Bm] trivial (fun args w=>nq (jd Tryz.func126 rfl a9) rfl (my _ _ Tryz.func126) args w) _ _ (by decide) (by decide) w hseq;refine ((callsIn_wide (n:=3)).1 hc).mono ?_;rintro e w' ⟨v,ss,rfl,hp,-,hn,hb⟩;have h0:ss=[]:=by
  have:ss.length=0:=hp.length_eq;exact List.length_eq_zero_iff.1 this
 rw [hn.2 h0];exact ⟨rfl,hb⟩
end
end Go.Proofs.YthgpdljlehklhaaGreat.wk
namespace Go.Proofs.YthgpdljlehklhaaGreat.wk
open Go Go.Conc Go.Proofs zr dr wd drv
set_option linter.unusedVariables false
set_option maxHeartbeats 4000000
section
variable {w:World}{b:Nat}{k:Int}{mb:Option Nat}
theorem an3:Calls GP 77 #[.map mb] w fun e w2=>e= .returned (.func (.func 126) #[] #[pO w.heap.size])∧w2=w.alloc (.cells #[.map mb] 136):=
 (callsIn_wide (n:=1)).1 (AnyZ.keys_in (ρ:=ao3) keysG Fence.wide 1 trivial rfl mb w)
theorem aob:Calls GP 171 #[.slice none 0 0,.int .i64 0,.int .i64 0] w fun e w2=>(∃v,e= .returned v)∧w2=w:=by
 refine dn 171 49 Tryz.func171 fun a hf hsz hv=> ?_
 have v0:=hv 0 _ rfl;have v1:=hv 1 _ rfl;have v2:=hv 2 _ rfl;simp only [List.getElem_toArray,List.getElem_cons_zero,List.getElem_cons_succ] at v0 v1 v2;clear hv;refine au ?_;apply ad.loop;refine au ?_;exact ad.fin rfl hf bz (results_none rfl _ _ _) ⟨⟨_,rfl⟩,rfl⟩
theorem anh:Calls GP 148 #[.slice none 0 0,.int .i64 0,.int .i64 0,.int .i64 k] w fun e w2=>(∃v,e= .returned v)∧w2=w:=by
 refine dn 148 134 Tryz.func148 fun a hf hsz hv=> ?_
 have v0:=hv 0 _ rfl;have v1:=hv 1 _ rfl;have v2:=hv 2 _ rfl;have v3:=hv 3 _ rfl;simp only [List.getElem_toArray,List.getElem_cons_zero,List.getElem_cons_succ] at v0 v1 v2 v3;clear hv;refine au ?_;apply ad.loop;refine au ?_;refine bt 171 aob fun v w2 hr=> ?_
 obtain ⟨-,e⟩:=hr;subst e;refine au ?_;exact ad.ret rfl hf bz (results_none rfl _ _ _) ⟨⟨_,rfl⟩,rfl⟩
theorem aly:Calls GP 125 #[.slice none 0 0] w fun e w2=>(∃v,e= .returned v)∧w2=w:=by
 refine dn 125 11 Tryz.func125 fun a hf hsz hv=> ?_
 obtain ⟨v0,-⟩:=ie hv;clear hv;have e0:IntKind.u64.wrap 0=0:=by decide
 refine au ?_;refine bt 145 blen_0 fun v w2 hr=> ?_
 obtain ⟨hv,e⟩:=hr;obtain rfl:=bh hv;subst e;refine au ?_;refine bt 148 (anh (k:=0)) fun v w2 hr=> ?_
 obtain ⟨-,e⟩:=hr;subst e;refine au ?_;exact ad.fin rfl hf bz (results_none rfl _ _ _) ⟨⟨_,rfl⟩,rfl⟩
theorem ajk {Bm:Nat}(hm:w.cell? ⟨Bm,0,none⟩=some (.map (some b)))(hb:w.heap[b]? =some (.map #[] 0))(hB:Bm<w.heap.size):Calls GP 76 #[.func (.func 126) #[] #[pO Bm]] w fun e w2=>e= .returned (.slice none 0 0)∧ah [] w w2:=by
 refine dn 76 9 Tryz.func76 fun a hf hsz hv=> ?_
 obtain ⟨v0,-⟩:=ie hv;clear hv;refine au ?_;refine bt 124 (akx hm hb hB) fun v w2 hr=> ?_
 obtain ⟨hv,hk⟩:=hr;obtain rfl:=bh hv;rename World=>x
 have K:ah [] w x:=⟨hk.size,fun b hb _=>hk.block b hb,hk.os,hk.output⟩;refine au ?_;refine bt 125 aly fun v w2 hr=> ?_
 obtain ⟨-,e⟩:=hr;subst e;refine au ?_;exact ad.dq rfl hf rfl bz aj ⟨rfl,K⟩
theorem aet (hb:w.heap[b]? =some (.map #[] 0)):Calls GP 48 #[.map (some b)] w fun e w2=>e= .returned (.slice none 0 0)∧ah [] w w2:=by
 refine dn 48 6 Tryz.func48 fun a hf hsz hv=> ?_
 obtain ⟨v0,-⟩:=ie hv;clear hv;refine au ?_;refine bt 77 (an3 (mb:=some b)) fun v w2 hr=> ?_
 obtain ⟨hv,e⟩:=hr;obtain rfl:=bh hv;subst e;have hb2:(w.alloc (.cells #[.map (some b)] 136)).heap[b]? =some (.map #[] 0):=bw hb;have hm:(w.alloc (.cells #[.map (some b)] 136)).cell? ⟨w.heap.size,0,none⟩=some (.map (some b)):=af bu ae;have hB:w.heap.size< (w.alloc (.cells #[.map (some b)] 136)).heap.size:=by simp
 have K0:ah [] w (w.alloc (.cells #[.map (some b)] 136)):=ei;generalize w.alloc (.cells #[.map (some b)] 136)=x at*;refine au ?_;refine bt 76 (ajk hm hb2 hB) fun v w2 hr=> ?_
 obtain ⟨hv,K1⟩:=hr;obtain rfl:=bh hv;refine au ?_;exact ad.dq rfl hf rfl bz aj ⟨rfl,K0.trans K1 ae⟩
end
end Go.Proofs.YthgpdljlehklhaaGreat.wk
namespace Go.Proofs.YthgpdljlehklhaaGreat.wk
open Go Go.Conc zr dr wd drv
set_option linter.unusedVariables false
set_option maxHeartbeats 4000000
section
variable {w:World}{d now kept:Nat}{room used:Int}{pend:Value}
theorem amx (h:Drv w d room used now kept pend)(hn:w.heap[now]? =some (.map #[] 0)):Calls GP 21 #[pO d] w fun e w2=>e= .returned (.slice none 0 0)∧ah [] w w2:=by
 refine dn 21 35 Tryz.func21 fun a hf hsz hv=> ?_
 have c2:=h.c2;obtain ⟨v0,-⟩:=ie hv;clear hv;refine au ?_;refine bt 48 (aet hn) fun v w2 hr=> ?_
 obtain ⟨hv,K⟩:=hr;obtain rfl:=bh hv;refine au ?_;apply ad.loop;refine au ?_;exact ad.dq rfl hf rfl bz aj ⟨rfl,K⟩
theorem dsafe_ok (h:Drv w d room used now kept pend)(hn:w.heap[kept]? =some (.map #[] 0)):Calls GP 22 #[pO d] w fun e w2=>e= .returned (.slice none 0 0)∧ah [] w w2:=by
 refine dn 22 42 Tryz.func22 fun a hf hsz hv=> ?_
 have c3:=h.c3;obtain ⟨v0,-⟩:=ie hv;clear hv;refine au ?_;refine bt 48 (aet hn) fun v w2 hr=> ?_
 obtain ⟨hv,K⟩:=hr;obtain rfl:=bh hv;refine au ?_;apply ad.loop;refine au ?_;exact ad.dq rfl hf rfl bz aj ⟨rfl,K⟩
end
section
variable {w w1 w2 u:World}{b:Nat}
theorem aca (h:w.heap[b]? =some (.cells tk 128 (0,0))):Calls GP 19 #[pO b] w fun e w2=>e= .returned (.slice none 0 0)∧w2=w:=by
 refine dn 19 45 Tryz.func19 fun a hf hsz hv=> ?_
 have c2:w.cell? ⟨b,2,none⟩=some (.slice none 0 0):=af h (by simp [tk]);obtain ⟨v0,-⟩:=ie hv;clear hv;refine au ?_;apply ad.loop;refine au ?_;exact ad.dq rfl hf rfl bz aj ⟨rfl,rfl⟩
theorem rsafe_ok (h:w.heap[b]? =some (.cells tk 128 (0,0))):Calls GP 23 #[pO b] w fun e w2=>e= .returned (.slice none 0 0)∧w2=w:=by
 refine dn 23 50 Tryz.func23 fun a hf hsz hv=> ?_
 have c3:w.cell? ⟨b,3,none⟩=some (.slice none 0 0):=af h (by simp [tk]);obtain ⟨v0,-⟩:=ie hv;clear hv;refine au ?_;apply ad.loop;refine au ?_;exact ad.dq rfl hf rfl bz aj ⟨rfl,rfl⟩
theorem rpend_ok (h:w.heap[b]? =some (.cells tk 128 (0,0))):Calls GP 25 #[pO b] w fun e w2=>e= .returned (.int .i64 0)∧w2=w:=by
 refine dn 25 10 Tryz.func25 fun a hf hsz hv=> ?_
 have c4:w.cell? ⟨b,4,none⟩=some (.slice none 0 0):=af h (by simp [tk]);obtain ⟨v0,-⟩:=ie hv;clear hv;refine au ?_;exact ad.dq rfl hf rfl bz aj ⟨rfl,rfl⟩
theorem ab8:Calls GP 20 #[.slice none 0 0,.slice none 0 0] w fun e w2=>e= .returned (.bool true)∧w2=w:=by
 refine dn 20 43 Tryz.func20 fun a hf hsz hv=> ?_
 obtain ⟨v0,v1,-⟩:=ir hv;clear hv;refine au ?_;apply ad.loop;refine au ?_;exact ad.dq rfl hf rfl bz aj ⟨rfl,rfl⟩
def g78:Array Value:=#[.bool false,.bool false,.slice none 0 0,.int .i64 0,.int .i64 0,.bool false,.int .i64 0,.int .i64 0,.int .i64 0]
theorem al9:Calls GP 28 #[.agg g78] w fun e w2=>e= .returned (.bool false)∧ah [] w w2:=by
 refine dn 28 10 Tryz.func28 fun a hf hsz hv=> ?_
 obtain ⟨v0,-⟩:=ie hv;clear hv;simp only [g78] at v0;refine au ?_;exact ad.dq rfl hf rfl bz aj ⟨rfl,ei⟩
end
def inBx:Code→Code| .block _ c=>c|c=>c
def inLx:Code→Code| .loop c=>c|c=>c
noncomputable def sa0:Code:=inLx (inBx (sR (sL (sR (Tryz.f10.body.getD .skip)))))
noncomputable def sa8:Code:=sL (sL (sR (sR (sR (sR (inBx (sL (sR sa0))))))))
noncomputable def sa10:Code:=sL (sL (sR (sR (sR (sR (sR (inBx (sL (sR sa0)))))))))
def bS:Frame:={(default:Frame) with fn:=10,kind:= .normal}
theorem u78:GP.underlying 78=some (Tryz.prog.underlying 78).get! :=by kernel_rfl
section
variable {R:Ending→World→Prop}{a:Act}{k:List Item}{w u:World}{lo hi g d now kept m b:Nat}
def S8 (g d now kept m b:Nat)(x:World):Prop:=x.cell? ⟨g,0,none⟩=some (pO d)∧x.cell? ⟨m,0,none⟩=some (pO b)∧x.heap[d]? =some (.cells #[.int .i64 16777216,.int .i64 0,.map (some now),.map (some kept),.slice none 0 0] 139 (0,0))∧x.heap[now]? =some (.map #[] 0)∧x.heap[kept]? =some (.map #[] 0)∧x.heap[b]? =some (.cells tk 128 (0,0))∧g<x.heap.size∧m<x.heap.size
theorem S8.on {x y:World}(h:S8 g d now kept m b x)(hk:ah [] x y):S8 g d now kept m b y:=
 ⟨(hk.cell (x:=⟨g,0,none⟩) h.2.2.2.2.2.2.1 ae).trans h.1,(hk.cell (x:=⟨m,0,none⟩) h.2.2.2.2.2.2.2 ae).trans h.2.1,hk.on h.2.2.1 ae,hk.on h.2.2.2.1 ae,hk.on h.2.2.2.2.1 ae,hk.on h.2.2.2.2.2.1 ae,Nat.lt_of_lt_of_le h.2.2.2.2.2.2.1 hk.size,Nat.lt_of_lt_of_le h.2.2.2.2.2.2.2 hk.size⟩
theorem same8 (hsz:a.tmps.size=143∧a.defers=[])(v4:a.eval (.tmp 4)=pO g)(v5:a.eval (.tmp 5)=pO m)(v6:a.eval (.tmp 6)= .slice none 0 0)(hS:S8 g d now kept m b u)(hk:∀a1 u2,(a1.tmps.size=143∧a1.defers=[])→Kp [1,2,3,4,5,6] a a1→a1.eval (.tmp 74)= .bool false→ah [] u u2→ad GP R bS a1 k u2):ad GP R bS a (.code sa8::k) u:=by
 have hk':=hk;clear hk;apply ad.kj 35 (fun _ x=>x.cell? ⟨g,0,none⟩=some (pO d)∧x.cell? ⟨m,0,none⟩=some (pO b)∧x.heap[d]? =some (.cells #[.int .i64 16777216,.int .i64 0,.map (some now),.map (some kept),.slice none 0 0] 139 (0,0))∧x.heap[now]? =some (.map #[] 0)∧x.heap[kept]? =some (.map #[] 0)∧x.heap[b]? =some (.cells tk 128 (0,0))∧g<x.heap.size∧m<x.heap.size) eo;intro dd;have hS0:S8 g d now kept m b (World.at u dd):=hS;have K0:ah [] u (World.at u dd):=(ah.refl _ _).at;generalize World.at u dd=x at*;refine cg 0 ?_;refine cg 1 ?_;refine cg 2 ?_;refine cg 3 ?_;refine cg 5 ?_
 (apply fa.gw 4 (f:=21) a9 rfl;(case hw=>exact bj);(case hc=>exact (amx hS0.2.2.1 hS0.2.2.2.1));(case hv=>rw [cw (f:=21) rfl];refine zam ?_;exact ey 21 a9 _ _);(case hret=>exact fun e w2 h=>⟨_,h.1⟩))
 intro v w2 ⟨hv,K1⟩;obtain rfl:=bh hv;have hS1:=hS0.on K1;have K0:=K0.trans K1 ae;refine ⟨fun _=>hS1,?_⟩;refine ay ?_;clear hS0;have hS0:=hS1;clear hS1 K1 hv
 (apply fa.gw 6 (f:=20) a9 rfl;(case hw=>exact bj);(case hc=>exact (ab8 (w:=w2)));(case hv=>rw [cw (f:=20) rfl];refine zam ?_;exact ey 20 a9 _ _);(case hret=>exact fun e w2 h=>⟨_,h.1⟩))
 intro v w2 ⟨hv,e⟩;obtain rfl:=bh hv;subst e;refine ⟨fun _=>hS0,?_⟩;refine ay ?_;clear hv;refine zmo 7 ?_ (hS:=by exact (fun _=>hS0));refine ay ?_;refine zmo 8 ?_ (hS:=by exact (fun _=>hS0));refine ay ?_;refine cg 9 ?_;refine cg 10 ?_;refine cg 11 ?_;refine cg 12 ?_;refine cg 14 ?_;refine cg 15 ?_;refine cg 16 ?_;refine cg 17 ?_
 (apply fa.gw 13 (f:=22) a9 rfl;(case hw=>exact bj);(case hc=>exact (dsafe_ok hS0.2.2.1 hS0.2.2.2.2.1));(case hv=>rw [cw (f:=22) rfl];refine zam ?_;exact ey 22 a9 _ _);(case hret=>exact fun e w2 h=>⟨_,h.1⟩))
 intro v w2 ⟨hv,K1⟩;obtain rfl:=bh hv;have hS1:=hS0.on K1;have K0:=K0.trans K1 ae;refine ⟨fun _=>hS1,?_⟩;refine ay ?_;clear hS0;have hS0:=hS1;clear hS1 K1 hv
 (apply fa.gw 18 (f:=23) a9 rfl;(case hw=>exact bj);(case hc=>exact (rsafe_ok hS0.2.2.2.2.2.1));(case hv=>rw [cw (f:=23) rfl];refine zam ?_;exact ey 23 a9 _ _);(case hret=>exact fun e w2 h=>⟨_,h.1⟩))
 intro v w2 ⟨hv,e⟩;obtain rfl:=bh hv;subst e;refine ⟨fun _=>hS0,?_⟩;refine ay ?_;clear hv
 (apply fa.gw 19 (f:=20) a9 rfl;(case hw=>exact bj);(case hc=>exact (ab8 (w:=w2)));(case hv=>rw [cw (f:=20) rfl];refine zam ?_;exact ey 20 a9 _ _);(case hret=>exact fun e w2 h=>⟨_,h.1⟩))
 intro v w2 ⟨hv,e⟩;obtain rfl:=bh hv;subst e;refine ⟨fun _=>hS0,?_⟩;refine ay ?_;clear hv;refine zmo 20 ?_ (hS:=by exact (fun _=>hS0));refine ay ?_;refine zmo 21 ?_ (hS:=by exact (fun _=>hS0));refine ay ?_;refine zmo 22 ?_ (hS:=by exact (fun _=>hS0));refine ay ?_;refine cg 23 ?_;refine cg 24 ?_;refine cg 25 ?_;refine cg 26 ?_;refine cg 28 ?_;refine cg 29 ?_;refine cg 30 ?_;refine cg 31 ?_
 (apply fa.gw 27 (f:=24) a9 rfl;(case hw=>exact bj);(case hc=>exact (dpend_ok hS0.2.2.1));(case hv=>rw [cw (f:=24) rfl];refine zam ?_;exact ey 24 a9 _ _);(case hret=>exact fun e w2 h=>⟨_,h.1⟩))
 intro v w2 ⟨hv,e⟩;obtain rfl:=bh hv;subst e;refine ⟨fun _=>hS0,?_⟩;refine ay ?_;clear hv
 (apply fa.gw 32 (f:=25) a9 rfl;(case hw=>exact bj);(case hc=>exact (rpend_ok hS0.2.2.2.2.2.1));(case hv=>rw [cw (f:=25) rfl];refine zam ?_;exact ey 25 a9 _ _);(case hret=>exact fun e w2 h=>⟨_,h.1⟩))
 intro v w2 ⟨hv,e⟩;obtain rfl:=bh hv;subst e;refine ⟨fun _=>hS0,?_⟩;refine ay ?_;clear hv;refine zmo 33 ?_ (hS:=by exact (fun _=>hS0));refine ay ?_;refine zmo 34 ?_ (hS:=by exact (fun _=>hS0));refine ay ?_;apply fa.fin a9;exact hk' _ _ bz (by (intro kk hkk;simp only [List.mem_cons,List.not_mem_nil,or_false] at hkk;(repeat' (rcases hkk with hkk|hkk)) <;> (simp+decide only [eval_put,bn,size_put,if_true,if_false, *]))) aj K0
def S10 (g d m b:Nat)(x:World):Prop:=x.heap[g]? =some (.cells #[pO d,.bool false,.bool false,.slice none 0 0,.int .i64 0,.int .i64 0,.pointer none] 86 (0,0))∧x.heap[m]? =some (.cells (m80 b) 80 (0,0))∧x.cell? ⟨m,4,none⟩=some (.int .i64 0)∧x.cell? ⟨m,1,none⟩=some (.bool false)
theorem S10.on {x y:World}(h:S10 g d m b x)(hk:ah [] x y):S10 g d m b y:=
 ⟨hk.on h.1 ae,hk.on h.2.1 ae,af (hk.on h.2.1 ae) (by simp [m80]),af (hk.on h.2.1 ae) (by simp [m80])⟩
theorem ld78 (h:u.heap[m]? =some (.cells (m80 b) 80 (0,0))):(Instr.loadAt 78 (.pointer (some ⟨m,1,none⟩))).run GP u= .ok (.agg g78) u:=
 run_loadAt_mid (P:=GP) u m 1 78 g78.toList _ (jy h fun j hj=>by
  simp [g78] at hj;rcases j with _|_|_|_|_|_|_|_|_|j <;> first|rfl|omega) u78 du (by rw [ek];kernel_rfl)
theorem ahi (hsz:a.tmps.size=143∧a.defers=[])(v4:a.eval (.tmp 4)=pO g)(v5:a.eval (.tmp 5)=pO m)(hS:S10 g d m b u)(hk:∀a1 u2,(a1.tmps.size=143∧a1.defers=[])→Kp [1,2,3,4,5,6] a a1→a1.eval (.tmp 102)= .bool false→ah [] u u2→ad GP R bS a1 k u2):ad GP R bS a (.code sa10::k) u:=by
 have hk':=hk;clear hk;apply ad.kj 28 (fun _ x=>x.heap[g]? =some (.cells #[pO d,.bool false,.bool false,.slice none 0 0,.int .i64 0,.int .i64 0,.pointer none] 86 (0,0))∧x.heap[m]? =some (.cells (m80 b) 80 (0,0))∧x.cell? ⟨m,4,none⟩=some (.int .i64 0)∧x.cell? ⟨m,1,none⟩=some (.bool false)) eo;intro dd;have hS0:S10 g d m b (World.at u dd):=hS;have K0:ah [] u (World.at u dd):=(ah.refl _ _).at;generalize World.at u dd=x at*;refine cg 0 ?_;refine cg 2 ?_;refine cg 3 ?_;refine cg 4 ?_;refine cg 5 ?_;refine cg 6 ?_
 (apply fa.gw 1 (f:=18) a9 rfl;(case hw=>exact bj);(case hc=>exact (yd hS0.1));(case hv=>rw [cw (f:=18) rfl];refine zam ?_;exact ey 18 a9 _ _);(case hret=>exact fun e w2 h=>⟨_,h.1⟩))
 intro v w2 ⟨hv,e⟩;obtain rfl:=bh hv;subst e;refine ⟨fun _=>hS0,?_⟩;refine ay ?_;clear hv;refine zmo 7 ?_ (hS:=by exact (fun _=>hS0));refine ay ?_;refine zmo 8 ?_ (hS:=by exact (fun _=>hS0));refine ay ?_;refine cg 9 ?_;refine cg 11 ?_;refine cg 12 ?_;refine cg 13 ?_;refine cg 14 ?_;refine cg 15 ?_
 (apply fa.gw 10 (f:=26) a9 rfl;(case hw=>exact bj);(case hc=>exact (won_ok hS0.1));(case hv=>rw [cw (f:=26) rfl];refine zam ?_;exact ey 26 a9 _ _);(case hret=>exact fun e w2 h=>⟨_,h.1⟩))
 intro v w2 ⟨hv,e⟩;obtain rfl:=bh hv;subst e;refine ⟨fun _=>hS0,?_⟩;refine ay ?_;clear hv;refine zmo 16 ?_ (hS:=by exact (fun _=>hS0));refine ay ?_;refine zmo 17 ?_ (hS:=by exact (fun _=>hS0));refine ay ?_;refine zmo 18 ?_ (hS:=by exact (fun _=>hS0));refine ay ?_;refine cg 19 ?_;refine cg 21 ?_;refine cg 22 ?_;refine cg 23 ?_
 (apply fa.take 24 rfl a9 a9 a9 a9;(case hw=>exact bj);(case hv=>intro x hu;refine zpr ?_;first|(rw [Sem.run_bind,(ld78 hu.2.1)];rfl)|exact (ld78 hu.2.1));(case hS=>exact hS0);refine ay ?_)
 (apply fa.gw 20 (f:=27) a9 rfl;(case hw=>exact bj);(case hc=>exact (uj hS0.1));(case hv=>rw [cw (f:=27) rfl];refine zam ?_;exact ey 27 a9 _ _);(case hret=>exact fun e w2 h=>⟨_,h.1⟩))
 intro v w2 ⟨hv,e⟩;obtain rfl:=bh hv;subst e;refine ⟨fun _=>hS0,?_⟩;refine ay ?_;clear hv
 (apply fa.gw 25 (f:=28) a9 rfl;(case hw=>exact bj);(case hc=>exact (al9 (w:=w2)));(case hv=>rw [cw (f:=28) rfl];refine zam ?_;exact ey 28 a9 _ _);(case hret=>exact fun e w2 h=>⟨_,h.1⟩))
 intro v w2 ⟨hv,K1⟩;obtain rfl:=bh hv;have hS1:=hS0.on K1;have K0:=K0.trans K1 ae;refine ⟨fun _=>hS1,?_⟩;refine ay ?_;clear hS0;have hS0:=hS1;clear hS1 K1 hv;refine zmo 26 ?_ (hS:=by exact (fun _=>hS0));refine ay ?_;refine zmo 27 ?_ (hS:=by exact (fun _=>hS0));refine ay ?_;apply fa.fin a9;exact hk' _ _ bz (by (intro kk hkk;simp only [List.mem_cons,List.not_mem_nil,or_false] at hkk;(repeat' (rcases hkk with hkk|hkk)) <;> (simp+decide only [eval_put,bn,size_put,if_true,if_false, *]))) aj K0
end
section
variable {w u:World}{lo lo1 lo2 hi g d now kept m b:Nat}{qD cD qW cW qM cM:Nat}{D:Value}{g0 d0 now0 kept0 m0 b0 g1 d1 now1 kept1 m1 b1 g2 d2 now2 kept2 m2 b2:Nat}
theorem pl_s8 (h:Pl1 u lo hi g d now kept m b):S8 g d now kept m b u:=⟨af h.wn ae,af h.md (by simp [m80]),h.dr,h.no,h.ke,h.mb,bf h.wn,bf h.md⟩
theorem aik (h:Pl1 u lo hi g d now kept m b):S10 g d m b u:=⟨h.wn,h.md,af h.md (by simp [m80]),af h.md (by simp [m80])⟩
theorem same_ok (c0:w.cell? ⟨qW,0,none⟩=some (ptr g0))(c1:w.cell? ⟨qW,1,none⟩=some (ptr g1))(c2:w.cell? ⟨qW,2,none⟩=some (ptr g2))(e0:w.cell? ⟨qM,0,none⟩=some (ptr m0))(e1:w.cell? ⟨qM,1,none⟩=some (ptr m1))(e2:w.cell? ⟨qM,2,none⟩=some (ptr m2))(lW:qW<w.heap.size)(lM:qM<w.heap.size)(P0:Pl1 w lo lo1 g0 d0 now0 kept0 m0 b0)(P1:Pl1 w lo1 lo2 g1 d1 now1 kept1 m1 b1)(P2:Pl1 w lo2 hi g2 d2 now2 kept2 m2 b2):
  Calls GP 10 #[.agg #[D,sO qW 3 cW,sO qM 3 cM]] w fun e w2=>e= .returned (.bool true)∧ah [] w w2:=by
 refine dn 10 143 Tryz.func10 fun a hf hsz hv=> ?_
 obtain ⟨v0,-⟩:=ie hv;clear hv;simp only [ptr] at c0 c1 c2 e0 e1 e2;refine au ?_;refine ad.ib (fun u=>u.heap[w.heap.size]? =some (.cells #[D,sO qW 3 cW,sO qM 3 cM] 27 (0,0))∧ah [] w u) ⟨bu,ei⟩ fun u ⟨hb,K⟩=> ?_
 refine kl [1,2,3] fun a1 hsz hK=> ?_;obtain ⟨v1,v2,v3,-⟩:=hK
 apply ad.loop;have cB:u.cell? ⟨w.heap.size,1,none⟩=some (sO qW 3 cW):=af hb ae;have cM:u.cell? ⟨w.heap.size,2,none⟩=some (sO qM 3 cM):=af hb ae;have cW0:u.cell? ⟨qW,0,none⟩=some (pO g0):=(K.cell lW ae).trans c0;have cM0:u.cell? ⟨qM,0,none⟩=some (pO m0):=(K.cell lM ae).trans e0;have PP:=P0.on K ef.nil;have cm:u.cell? ⟨m0,0,none⟩=some (pO b0):=af PP.md (by simp [m80]);refine au ?_;refine bt 19 (aca PP.mb) fun v w2 hr=> ?_
 rename World=>y
 obtain ⟨hv,e⟩:=hr;obtain rfl:=bh hv;subst e;refine au ?_;refine kl [1,2,3,4,5,6] fun a1 hsz hK=> ?_;obtain ⟨v1,v2,v3,v4,v5,v6,-⟩:=hK
 clear cB cM cW0 cM0 cm hv;refine same8 hsz v4 v5 v6 (pl_s8 PP) fun a2 y2 hsz2 kp v74 K1=> ?_
 have w1:=(kp 1 (by decide)).trans v1;have w2:=(kp 2 (by decide)).trans v2;have w3:=(kp 3 (by decide)).trans v3;have w4:=(kp 4 (by decide)).trans v4;have w5:=(kp 5 (by decide)).trans v5;have w6:=(kp 6 (by decide)).trans v6;clear kp v1 v2 v3 v4 v5 v6 hsz;have hsz:=hsz2;clear hsz2;have PP:=PP.on K1 ef.nil;have hb:=K1.on hb ae;have K:=K.trans K1 ae;clear K1;refine au ?_;refine kl [1,2,3,4,5,6] fun a1 hsz hK=> ?_;obtain ⟨v1,v2,v3,v4,v5,v6,-⟩:=hK
 refine ahi hsz v4 v5 (aik PP) fun a3 z1 hsz2 kp v102 K1=> ?_
 have w1:=(kp 1 (by decide)).trans v1;have w2:=(kp 2 (by decide)).trans v2;have w3:=(kp 3 (by decide)).trans v3;have w6:=(kp 6 (by decide)).trans v6;clear kp v1 v2 v3 v4 v5 v6 hsz;have hsz:=hsz2;clear hsz2;have hb:=K1.on hb ae;have K:=K.trans K1 ae;clear K1 PP;refine au ?_;apply ad.loop;refine au ?_;refine kl [1,2,3] fun a1 hsz hK=> ?_;obtain ⟨v1,v2,v3,-⟩:=hK
 apply ad.inLoop;have cB:z1.cell? ⟨w.heap.size,1,none⟩=some (sO qW 3 cW):=af hb ae;have cM:z1.cell? ⟨w.heap.size,2,none⟩=some (sO qM 3 cM):=af hb ae;have cW1:z1.cell? ⟨qW,1,none⟩=some (pO g1):=(K.cell lW ae).trans c1;have cM1:z1.cell? ⟨qM,1,none⟩=some (pO m1):=(K.cell lM ae).trans e1;have PP:=P1.on K ef.nil;have cm:z1.cell? ⟨m1,0,none⟩=some (pO b1):=af PP.md (by simp [m80]);refine au ?_;refine bt 19 (aca PP.mb) fun v w2 hr=> ?_
 rename World=>y
 obtain ⟨hv,e⟩:=hr;obtain rfl:=bh hv;subst e;refine au ?_;refine kl [1,2,3,4,5,6] fun a1 hsz hK=> ?_;obtain ⟨v1,v2,v3,v4,v5,v6,-⟩:=hK
 clear cB cM cW1 cM1 cm hv;refine same8 hsz v4 v5 v6 (pl_s8 PP) fun a2 y2 hsz2 kp v74 K1=> ?_
 have w1:=(kp 1 (by decide)).trans v1;have w2:=(kp 2 (by decide)).trans v2;have w3:=(kp 3 (by decide)).trans v3;have w4:=(kp 4 (by decide)).trans v4;have w5:=(kp 5 (by decide)).trans v5;have w6:=(kp 6 (by decide)).trans v6;clear kp v1 v2 v3 v4 v5 v6 hsz;have hsz:=hsz2;clear hsz2;have PP:=PP.on K1 ef.nil;have hb:=K1.on hb ae;have K:=K.trans K1 ae;clear K1;refine au ?_;refine kl [1,2,3,4,5,6] fun a1 hsz hK=> ?_;obtain ⟨v1,v2,v3,v4,v5,v6,-⟩:=hK
 refine ahi hsz v4 v5 (aik PP) fun a3 z2 hsz2 kp v102 K1=> ?_
 have w1:=(kp 1 (by decide)).trans v1;have w2:=(kp 2 (by decide)).trans v2;have w3:=(kp 3 (by decide)).trans v3;have w6:=(kp 6 (by decide)).trans v6;clear kp v1 v2 v3 v4 v5 v6 hsz;have hsz:=hsz2;clear hsz2;have hb:=K1.on hb ae;have K:=K.trans K1 ae;clear K1 PP;refine au ?_;apply ad.loop;refine au ?_;refine kl [1,2,3] fun a1 hsz hK=> ?_;obtain ⟨v1,v2,v3,-⟩:=hK
 apply ad.inLoop;have cB:z2.cell? ⟨w.heap.size,1,none⟩=some (sO qW 3 cW):=af hb ae;have cM:z2.cell? ⟨w.heap.size,2,none⟩=some (sO qM 3 cM):=af hb ae;have cW2:z2.cell? ⟨qW,2,none⟩=some (pO g2):=(K.cell lW ae).trans c2;have cM2:z2.cell? ⟨qM,2,none⟩=some (pO m2):=(K.cell lM ae).trans e2;have PP:=P2.on K ef.nil;have cm:z2.cell? ⟨m2,0,none⟩=some (pO b2):=af PP.md (by simp [m80]);refine au ?_;refine bt 19 (aca PP.mb) fun v w2 hr=> ?_
 rename World=>y
 obtain ⟨hv,e⟩:=hr;obtain rfl:=bh hv;subst e;refine au ?_;refine kl [1,2,3,4,5,6] fun a1 hsz hK=> ?_;obtain ⟨v1,v2,v3,v4,v5,v6,-⟩:=hK
 clear cB cM cW2 cM2 cm hv;refine same8 hsz v4 v5 v6 (pl_s8 PP) fun a2 y2 hsz2 kp v74 K1=> ?_
 have w1:=(kp 1 (by decide)).trans v1;have w2:=(kp 2 (by decide)).trans v2;have w3:=(kp 3 (by decide)).trans v3;have w4:=(kp 4 (by decide)).trans v4;have w5:=(kp 5 (by decide)).trans v5;have w6:=(kp 6 (by decide)).trans v6;clear kp v1 v2 v3 v4 v5 v6 hsz;have hsz:=hsz2;clear hsz2;have PP:=PP.on K1 ef.nil;have hb:=K1.on hb ae;have K:=K.trans K1 ae;clear K1;refine au ?_;refine kl [1,2,3,4,5,6] fun a1 hsz hK=> ?_;obtain ⟨v1,v2,v3,v4,v5,v6,-⟩:=hK
 refine ahi hsz v4 v5 (aik PP) fun a3 z3 hsz2 kp v102 K1=> ?_
 have w1:=(kp 1 (by decide)).trans v1;have w2:=(kp 2 (by decide)).trans v2;have w3:=(kp 3 (by decide)).trans v3;have w6:=(kp 6 (by decide)).trans v6;clear kp v1 v2 v3 v4 v5 v6 hsz;have hsz:=hsz2;clear hsz2;have hb:=K1.on hb ae;have K:=K.trans K1 ae;clear K1 PP;refine au ?_;apply ad.loop;refine au ?_;refine kl [1,2,3] fun a1 hsz hK=> ?_;obtain ⟨v1,v2,v3,-⟩:=hK
 apply ad.inLoop;have cB:z3.cell? ⟨w.heap.size,1,none⟩=some (sO qW 3 cW):=af hb ae;refine au ?_;exact ad.dq rfl hf rfl bz aj ⟨rfl,K⟩
end
section
variable {w w1 w2 u:World}{qW cW g0 g1 g2:Nat}{D M d0 d1 d2 p0 p1 p2:Value}{a0 a1 a2:Bool}{r0 r1 r2:Int}
theorem mkC {i b:Nat}{V:Value}{gs:List Value}{o:Obj}(hb:u.heap[b]? =some o)(ho:∀cur,o≠ .cells cur 3 (0,0))(oV:u.ownsRow w.heap.size 3 1 V i gs)(K:ah [] w u)(hi:i<1000){j:Nat}(hj:j=i+1):
  ∃q cq w3,(Builtin.append_ #[45,45] 45 #[V,sO u.heap.size 1 1]).run GP (u.alloc (.cells #[.int .i64 0] 3))= .ok (sO q j cq) w3∧w3.heap[b]? =some o∧w3.ownsRow w.heap.size 3 1 (sO q j cq) j (gs++ [.int .i64 0])∧ah [] w w3:=by
 have KA:ah [] u (u.alloc (.cells #[.int .i64 0] 3)):=ei;obtain ⟨v',w3,r1,o1,K1,e1⟩:=app45 (w:=u.alloc (.cells #[.int .i64 0] 3)) (v:=V) (je (bq oV KA ae) fun b _=>Nat.zero_le b) (news:=[.int .i64 0]) (m:=1) (c:=1) (a:=⟨u.heap.size,0,none⟩) rfl (jc _ 3 rfl) (by simp [Value.oneCell']) ai;subst hj;obtain ⟨q,cq,rfl⟩:=iw o1 ai;have bF:=ew oV;have K2:ah (blk V) u w3:=(KA.more ae).trans K1 (fun b hb=> .inl hb);have nb:b∉blk V:=fun h=>by
  obtain ⟨-,cur,hc⟩:=bF b h;rw [hb] at hc;exact ho cur (Option.some.inj hc)
 have l1:∀b∈blk (sO q (i+1) cq),w.heap.size≤b:=fun b hb=>by
  rcases e1 with e1|e1
  ·exact (bF b (e1▸hb)).1
  ·rw [e1,List.mem_singleton] at hb;have:=K.size;simp at hb;omega
 exact ⟨q,cq,w3,r1,K2.on hb nb,je o1 l1,K.trans K2 (fun b hb=> .inr (bF b hb).1)⟩
theorem amu (c0:w.cell? ⟨qW,0,none⟩=some (ptr g0))(c1:w.cell? ⟨qW,1,none⟩=some (ptr g1))(c2:w.cell? ⟨qW,2,none⟩=some (ptr g2))(hq:qW<w.heap.size)(h0:Wnd w g0 d0 false a0 p0 0 r0)(h1:Wnd w g1 d1 false a1 p1 0 r1)(h2:Wnd w g2 d2 false a2 p2 0 r2):
  Calls GP 9 #[.agg #[D,sO qW 3 cW,M]] w fun e w2=>(∃v,e= .returned v)∧(∃q c,e= .returned (sO q 3 c)∧w2.ownsRow w.heap.size 3 1 (sO q 3 c) 3 [.int .i64 0,.int .i64 0,.int .i64 0])∧ah [] w w2:=by
 refine dn 9 31 Tryz.func9 fun a hf hsz hv=> ?_
 obtain ⟨v0,-⟩:=ie hv;clear hv;simp only [ptr] at c0 c1 c2;refine au ?_;refine ad.ib (fun u=>u.heap[w.heap.size]? =some (.cells #[D,sO qW 3 cW,M] 27 (0,0))∧ah [] w u) ⟨bu,ei⟩ fun u ⟨hb,K⟩=> ?_
 have oV:=World.ownsRow_nil u w.heap.size 3 1;refine kl [1,2,3,4] fun a1 hsz hK=> ?_;obtain ⟨v1,v2,v3,v4,-⟩:=hK
 apply ad.loop;have cB:u.cell? ⟨w.heap.size,1,none⟩=some (sO qW 3 cW):=af hb ae;have cW0:u.cell? ⟨qW,0,none⟩=some (pO g0):=(K.cell hq ae).trans c0;refine au ?_;refine bt 18 (yd (K.on h0 ae)) fun v w2 hr=> ?_
 rename World=>y
 obtain ⟨hv,e⟩:=hr;obtain rfl:=bh hv;subst e;refine au ?_;obtain ⟨q0,k0,y1,rr,hb',oV',K'⟩:=mkC hb (by intro cur h;cases h) oV K ai (j:=1) rfl
 (refine ad.app rfl rfl rfl bj aj aj rr ?_;refine ay ?_)
 have hb:=hb';have oV:=oV';have K:=K';clear cB cW0 rr hb' oV' K';refine au ?_;refine kl [1,3,4] fun a1 hsz hK=> ?_;obtain ⟨v1,v3,v4,-⟩:=hK
 apply ad.inLoop;have cB:y1.cell? ⟨w.heap.size,1,none⟩=some (sO qW 3 cW):=af hb ae;have cW1:y1.cell? ⟨qW,1,none⟩=some (pO g1):=(K.cell hq ae).trans c1;refine au ?_;refine bt 18 (yd (K.on h1 ae)) fun v w2 hr=> ?_
 rename World=>y
 obtain ⟨hv,e⟩:=hr;obtain rfl:=bh hv;subst e;refine au ?_;obtain ⟨q1,k1,y2,rr,hb',oV',K'⟩:=mkC hb (by intro cur h;cases h) oV K ai (j:=2) rfl
 (refine ad.app rfl rfl rfl bj aj aj rr ?_;refine ay ?_)
 have hb:=hb';have oV:=oV';have K:=K';clear cB cW1 rr hb' oV' K';refine au ?_;refine kl [1,3,4] fun a1 hsz hK=> ?_;obtain ⟨v1,v3,v4,-⟩:=hK
 apply ad.inLoop;have cB:y2.cell? ⟨w.heap.size,1,none⟩=some (sO qW 3 cW):=af hb ae;have cW2:y2.cell? ⟨qW,2,none⟩=some (pO g2):=(K.cell hq ae).trans c2;refine au ?_;refine bt 18 (yd (K.on h2 ae)) fun v w2 hr=> ?_
 rename World=>y
 obtain ⟨hv,e⟩:=hr;obtain rfl:=bh hv;subst e;refine au ?_;obtain ⟨q2,k2,y3,rr,hb',oV',K'⟩:=mkC hb (by intro cur h;cases h) oV K ai (j:=3) rfl
 (refine ad.app rfl rfl rfl bj aj aj rr ?_;refine ay ?_)
 have hb:=hb';have oV:=oV';have K:=K';clear cB cW2 rr hb' oV' K';refine au ?_;refine kl [1,3,4] fun a1 hsz hK=> ?_;obtain ⟨v1,v3,v4,-⟩:=hK
 apply ad.inLoop;have cB:y3.cell? ⟨w.heap.size,1,none⟩=some (sO qW 3 cW):=af hb ae;refine au ?_;exact ad.dq rfl hf rfl bz aj ⟨⟨_,rfl⟩,⟨q2,k2,rfl,oV⟩,K⟩
end
section
variable {w w1 w2 u:World}{n:Int}
theorem pick_ok:Calls GP 6 #[.int .i64 n,.int .i64 9] w fun e w2=>(∃v,e= .returned v)∧(∃k:Int,0≤k∧k<9∧e= .returned (.int .i64 k))∧w2=w:=by
 refine dn 6 16 Tryz.func6 fun a hf hsz hv=> ?_
 obtain ⟨v0,v1,-⟩:=ir hv;clear hv;refine au ?_;have h1: -9<n.tmod 9:=Int.lt_tmod_of_pos n ai;have h2:n.tmod 9<9:=Int.tmod_lt_of_pos n ai;generalize n.tmod 9=m at*;refine kl [0,1,4,11] fun a1 hsz hK=> ?_;obtain ⟨v0,v1,v4,v11,-⟩:=hK
 by_cases hm:m<0
 ·simp only [hm,decide_true] at v11;have hw:IntKind.i64.wrap (m+9)=m+9:=xa _ ai ai;refine au ?_;exact ad.dq rfl hf rfl bz aj ⟨⟨_,rfl⟩,⟨m+9,by omega,by omega,rfl⟩,rfl⟩
 ·simp only [hm,decide_false] at v11;refine au ?_;exact ad.dq rfl hf rfl bz aj ⟨⟨_,rfl⟩,⟨m,by omega,h2,rfl⟩,rfl⟩
end
end Go.Proofs.YthgpdljlehklhaaGreat.wk
