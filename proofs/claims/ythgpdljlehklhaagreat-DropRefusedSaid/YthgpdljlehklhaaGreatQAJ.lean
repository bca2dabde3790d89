/- Part QAJ of the proof that DropRefused answers true whatever its input. No condition. -/
import Derived.Conc.CompanyDraw
import Derived.Conc.Holds
import Derived.Test.YthgpdljlehklhaaGreatQAI
set_option maxRecDepth 100000
namespace Go.Proofs.YthgpdljlehklhaaGreat.zr
open Go Go.Conc
section
variable {P:Program}{fs:Array Func}{E:UE P fs}{R:Ending→World→Prop}{b:Frame}{a:Act}{k:List Item}{w w1:World}{ops:Array Oper}{i:Nat}{rest:List Nat}{o:Oper}{v:Value}
theorem cu.val0 [Bg] (hk:b.kind= .normal)(ho:ops[i]? =some o)(hs:sa o.op=0)(hw:Region.wanted o (yielded ops a.tmps)=true)(hr:∀d,(execOp a.eval o).run P (w.at d)= .ok (.value v) (w1.at d))
  (h:cu E R b (a.put o.dst v) (.inRegion ops rest::k) w1):cu E R b a (.inRegion ops (i::rest)::k) w:=cu.val hk v w1 ho hw hr h
theorem cu.put0 [Bg] (hk:b.kind= .normal)(ho:ops[i]? =some o)(hs:sa o.op=1)(hw:Region.wanted o (yielded ops a.tmps)=true)(hr:∀d,(execOp a.eval o).run P (w.at d)= .ok .skip (w1.at d))
  (h:cu E R b (a.put o.dst undef) (.inRegion ops rest::k) w1):cu E R b a (.inRegion ops (i::rest)::k) w:=cu.put hk w1 ho hw hr h
theorem cu.val3 [Bg] (hk:b.kind= .normal)(ho:ops[i]? =some o)(hs:sa o.op=0)(hi:isME o.op=false)(hw:Region.wanted o (yielded ops a.tmps)=true)(hr:∀d,(execOp a.eval o).run P (w.at d)= .ok (.value v) (w1.at d))
  (h:cu E R b (a.put o.dst v) (.inRegion ops rest::k) w1):cu E R b a (.inRegion ops (i::rest)::k) w:=cu.val hk v w1 ho hw hr h
theorem cu.ldv [Bg] {x:Operand}{ty:TypeId}{p:Addr}(hk:b.kind= .normal)(ho:ops[i]? =some o)(hop:o.op= .load ty x)(hw:Region.wanted o (yielded ops a.tmps)=true)(hx:a.eval x= .pointer (some p))(hl:∀d,(Instr.loadAt ty (.pointer (some p))).run P (w.at d)= .ok v (w.at d))
  (h:cu E R b (a.put o.dst v) (.inRegion ops rest::k) w):cu E R b a (.inRegion ops (i::rest)::k) w:=
 cu.val hk _ w ho hw (fun d=>by
  cases o;subst hop;show Sem.run P (do pure (Next.value (←Instr.loadAt ty (a.eval x)))) (w.at d)=_;rw [hx,Sem.run_bind,hl];rfl) h
theorem cu.oa [Bg] {x y:Operand}{ty:TypeId}{p:Addr}{v:Value}(hk:b.kind= .normal)(ho:ops[i]? =some o)(hop:o.op= .store ty x y)(hw:Region.wanted o (yielded ops a.tmps)=true)(hx:a.eval x= .pointer (some p))(hy:a.eval y=v)(hl:∀d,(Instr.storeAt ty (.pointer (some p)) v).run P (w.at d)= .ok () (w1.at d))
  (h:cu E R b (a.put o.dst undef) (.inRegion ops rest::k) w1):cu E R b a (.inRegion ops (i::rest)::k) w:=
 cu.put hk w1 ho hw (fun d=>by
  cases o;subst hop;show Sem.run P (do Instr.storeAt ty (a.eval x) (a.eval y);pure Next.skip) (w.at d)=_;rw [hx,hy,Sem.run_bind,hl];rfl) h
theorem yp (g:Nat)(d:Nat):∀(vs:List Value)(o:Nat)(w:World),(w.at d).setCells g o vs=(w.setCells g o vs).at d
 | [],_,_=>rfl
 |v::r,o,w=>yp g d r (o+1) (w.setCell ⟨g,o,none⟩ v)
variable {g:Nat}{e ty:TypeId}{c vs:Array Value}
theorem z9 [Bg] (hi:(P.info? ty).map (·.size)=some vs.size)(h1:vs.all (·.oneCell')=true)(hs:vs.size=c.size)(h:w.heap[g]? =some (.cells c e (0,0))):∃w2,(∀d,(Instr.storeAt ty (pO g) (.agg vs)).run P (w.at d)= .ok () (w2.at d))∧w2.heap[g]? =some (.cells vs e (0,0))∧ah [g] w w2∧w2.heap.size=w.heap.size:=by
 obtain ⟨w2,r,h2,h3,h4⟩:=kg (P:=P) (ty:=ty) hi h1 hs h;refine ⟨w2,fun d=> ?_,h2,h3,h4⟩;rw [run_storeAt_mid (P:=P) w g 0 ty vs (qn h ai) hi h1] at r
 injection r with _ r
 rw [run_storeAt_mid (P:=P) (w.at d) g 0 ty vs (qn h ai) hi h1,yp,r]
theorem aiz [Bg] {o:Nat}(hi:(P.info? ty).map (·.size)=some vs.size)(h1:vs.all (·.oneCell')=true)(hs:o+vs.size≤c.size)(h:w.heap[g]? =some (.cells c e (0,0))):
  ∃w2 c2,(∀d,(Instr.storeAt ty (.pointer (some ⟨g,o,none⟩)) (.agg vs)).run P (w.at d)= .ok () (w2.at d))∧w2.heap[g]? =some (.cells c2 e (0,0))∧c2.size=c.size∧(∀j,j<vs.size→c2[o+j]? =vs[j]?)∧(∀x,(x<o∨o+vs.size≤x)→c2[x]? =c[x]?)∧ah [g] w w2∧w2.heap.size=w.heap.size:=by
 obtain ⟨w2,c2,r,h2,h3,h4,h5,h6,h7⟩:=ui (P:=P) (ty:=ty) hi h1 hs h;refine ⟨w2,c2,fun d=> ?_,h2,h3,h4,h5,h6,h7⟩;rw [run_storeAt_mid (P:=P) w g o ty vs (qn h hs) hi h1] at r
 injection r with _ r
 rw [run_storeAt_mid (P:=P) (w.at d) g o ty vs (qn h hs) hi h1,yp,r]
variable {fn:Func}{s t t2:Tmp}{v2 v3:Value}
theorem cu.zl [Bg] (hk:b.kind= .normal)(hf:P.funcs[b.fn]? =some fn)(hr:fn.results=#[.cell s ty,.tmp t,.tmp t2])(hd:a.defers=[])(hs:a.eval (.tmp s)=pO g)(hl:(loadVar ty ⟨g,0,none⟩).run P w= .ok v w)(ht:a.eval (.tmp t)=v2)(ht2:a.eval (.tmp t2)=v3)(hR:R (.returned (.tuple #[v,v2,v3])) w):cu E R b a (.code .ret::k) w:=
 cu.ret hk hf hd (yi hr hs hl ht ht2) hR
theorem cr.ahv [Bg] {T:List Frame}{c:Frame}{N:Nat}{t1 t2:Tmp}(hS:Sound P w1 a)(hk:b.kind= .normal)(hf:fs[b.fn]? =some fn)(hres:fn.results=#[.tmp t1,.tmp t2])(hR:∀d,R (.returned (.tuple #[a.eval (.tmp t1),a.eval (.tmp t2)])) (w1.at d))(hN:N≤w1.heap.size)(hc1:∀π',aw w1.heap.size one π'→al π' (.tuple #[a.eval (.tmp t1),a.eval (.tmp t2)])= .tuple #[a.eval (.tmp t1),a.eval (.tmp t2)]):
  cr (aq P fs) (Bk P R N c T) (av (b.at a (.code .ret::k)) (c::T)) w1:=by
 refine cr.tj rfl (g1:=av {b.at a (.code .ret::k) with mode:= .returning} (c::T)) (fun u=> ?_) ?_
 ·exact stepG_ret'
 refine cr.tj rfl (g1:=av (c.finish (.tuple #[a.eval (.tmp t1),a.eval (.tmp t2)])) T) (fun u=> ?_) ?_
 ·exact stepG_leave hk hS.defers hf (results_tmp2 hres _ _ _) (events_results_tmp2 hres _ _)
 ·exact cr.done fun d=>⟨_,hR d,rfl,hS.whole.tp w1.tape d,hS.base,hN,hc1⟩
theorem cr.back1x [Bg] {T:List Frame}{c:Frame}{N:Nat}{t1:Tmp}(hS:Sound P w1 a)(hk:b.kind= .normal)(hf:fs[b.fn]? =some fn)(hres:fn.results=#[.tmp t1])(hR:∀d,R (.returned (a.eval (.tmp t1))) (w1.at d))(hN:N≤w1.heap.size)(hc1:∀π',aw w1.heap.size one π'→al π' (a.eval (.tmp t1))=a.eval (.tmp t1)):
  cr (aq P fs) (Bk P R N c T) (av (b.at a (.code .ret::k)) (c::T)) w1:=by
 refine cr.tj rfl (g1:=av {b.at a (.code .ret::k) with mode:= .returning} (c::T)) (fun u=> ?_) ?_
 ·exact stepG_ret'
 refine cr.tj rfl (g1:=av (c.finish (a.eval (.tmp t1))) T) (fun u=> ?_) ?_
 ·exact stepG_leave hk hS.defers hf (results_tmp hres _ _ _) (events_results_tmp hres _ _)
 ·exact cr.done fun d=>⟨_,hR d,rfl,hS.whole.tp w1.tape d,hS.base,hN,hc1⟩
theorem cr.callx [Bg] {cs:List Frame}{Q:Goroutine→World→Prop}{R':Ending→World→Prop}(C:Ctx P fs)(hS:Sound P w a)(hk:b.kind= .normal)(ho:ops[i]? =some o)(hm:sq P o=true)(hw:Region.wanted o (yielded ops a.tmps)=true){f:FuncId}{args:Array Value}(hr:∀d,(execOp a.eval o).run P (w.at d)= .ok (.enter f args) (w1.at d))(hu:UCx P fs f args w1 R')
  (h:∀v w2,R' (.returned v) w2→Sound P w2 (a.put o.dst v)→cr (aq P fs) Q (av (b.at (a.put o.dst v) (.inRegion ops rest::k)) cs) w2):cr (aq P fs) Q (av (b.at a (.inRegion ops (i::rest)::k)) cs) w:=by
 have hok:=(oo hm).1;have hnd:=(oo hm).2;refine cr.real rfl fun d=> ?_
 have hSd:Sound P (w.at d) a:=hS.tp w.tape d;obtain ⟨new,he,hev,hadv,hcl⟩:=za C hSd hok hnd (hr d);have hke:((b.at a (.inRegion ops (i::rest)::k)).kind==CallKind.early)=false:=by
  show (b.kind==CallKind.early)=false;rw [hk];rfl
 have hst:=(m9 (P:=aq P fs) (b:=b) (a:=a) (cs:=cs) (rest:=rest) (k:=k) (u:=cy (w.at d)) hk ho hw).trans (m8 he hke rfl);refine ⟨_,w1.at d,_,hst,hadv.size,fun e he=>by
  rw [Array.append_empty] at he;exact hev e (kv _ _ _ e he),?_⟩
 have hargs:∀π',aw w1.heap.size one π'→az π' args=args:=fun π' ha=>by
  have:=hcl π' ha;simp only [km,Next.enter.injEq] at this;exact this.2
 have hF1:Fit P (b.at a (.inRegion ops (i::rest)::k)::cs) (av (Frame.enter P f args .normal) (b.at a (.inRegion ops (i::rest)::k)::cs)) w1:=by
  refine ⟨Frame.enter P f args .normal,[],rfl,⟨fun fr hfr=> ?_,_,rfl,rfl,rfl⟩,fun π' ha=> ?_,?_,At.tp (w:=w1.at d) hadv.at_ w1.tape w1.drawn⟩
  ·obtain rfl:fr=_:=by simpa using hfr
   exact om C _ _ (.inl rfl)
  ·simp only [List.map_cons,List.map_nil,ry,hargs π' ha,jg]
  ·exact Base.adv (w:=w.at d) (w1:=w1.at d) hSd.base hadv
 refine cr.at ?_ d;have hsz:w.heap.size≤w1.heap.size:=hadv.size;refine (hu (b.at a (.inRegion ops (i::rest)::k)) cs hF1).then fun a2 w2 ⟨v,hv,e,hW,hb3,hsz2,hcl2⟩=> ?_
 subst e;rw [Frame.finish_at,ho];exact h v w2 hv (Sound.put ⟨hW,hb3,fun π' ha=>hS.act π' (ha.mono (Nat.le_trans hsz hsz2)),hS.defers⟩ (fun π' ha=>by rw [hcl2 π' ha,jw]) o.dst)
theorem stepG_unwanted {P:Program}{cs:List Frame}{u:World}(ho:ops[i]? =some o)(hw:Region.wanted o (yielded ops a.tmps)=false):stepG P true (av (b.at a (.inRegion ops (i::rest)::k)) cs) u= .go (av (b.at (a.put o.dst undef) (.inRegion ops rest::k)) cs) u #[]:=by
 have hf:(b.at a (.inRegion ops (i::rest)::k)).finish undef=b.at (a.put o.dst undef) (.inRegion ops rest::k):=by rw [Frame.finish_at,ho];rfl
 rw [←hf];simp [av,stepG,stepG.exec,Frame.at,ho,hw]
structure VE [Bg] (P:Program)(fs:Array Func) where
 cs:List Frame
 Ok:(Ending→World→Prop)→FuncId→Prop
 K:(Ending→World→Prop)→Goroutine→World→Prop
 C:Ctx P fs
 hp:∀f,Plain P fs f∨jj P f
 back:∀{R:Ending→World→Prop}{b:Frame}{a:Act}{k:List Item}{w:World}{fn:Func}{t:Tmp},gz R→Ok R b.fn→Sound P w a→b.kind= .normal→fs[b.fn]? =some fn→fn.results=#[.tmp t]→(∀π,al π (a.eval (.tmp t))=a.eval (.tmp t))→R (.returned (a.eval (.tmp t))) w→cr (aq P fs) (K R) (av (b.at a (.code .ret::k)) cs) w
 back2:∀{R:Ending→World→Prop}{b:Frame}{a:Act}{k:List Item}{w:World}{fn:Func}{t t2:Tmp},gz R→Ok R b.fn→Sound P w a→b.kind= .normal→fs[b.fn]? =some fn→fn.results=#[.tmp t,.tmp t2]→(∀π,al π (.tuple #[a.eval (.tmp t),a.eval (.tmp t2)])= .tuple #[a.eval (.tmp t),a.eval (.tmp t2)])→R (.returned (.tuple #[a.eval (.tmp t),a.eval (.tmp t2)])) w→cr (aq P fs) (K R) (av (b.at a (.code .ret::k)) cs) w
def dh [Bg] {P:Program}{fs:Array Func}(E:VE P fs)(R:Ending→World→Prop)(b:Frame)(a:Act)(todo:List Item)(w:World):Prop:=
 gz R→E.Ok R b.fn→Sound P w a→cr (aq P fs) (E.K R) (av (b.at a todo) E.cs) w
section
theorem dh.val [Bg] {E:VE P fs}(hk:b.kind= .normal)(v:Value)(w1:World)(ho:ops[i]? =some o)(hm:sq P o=true)(hw:Region.wanted o (yielded ops a.tmps)=true)(hr:∀d,(execOp a.eval o).run P (w.at d)= .ok (.value v) (w1.at d))
  (h:dh E R b (a.put o.dst v) (.inRegion ops rest::k) w1):dh E R b a (.inRegion ops (i::rest)::k) w:=fun hR hmn hS=>cr.val E.C hS hk v w1 ho hm hw hr fun hS1=>h hR hmn hS1
theorem dh.put [Bg] {E:VE P fs}(hk:b.kind= .normal)(w1:World)(ho:ops[i]? =some o)(hm:sq P o=true)(hw:Region.wanted o (yielded ops a.tmps)=true)(hr:∀d,(execOp a.eval o).run P (w.at d)= .ok .skip (w1.at d))
  (h:dh E R b (a.put o.dst undef) (.inRegion ops rest::k) w1):dh E R b a (.inRegion ops (i::rest)::k) w:=fun hR hmn hS=>cr.put E.C hS hk w1 ho hm hw hr fun hS1=>h hR hmn hS1
theorem dh.cal [Bg] {E:VE P fs}{R':Ending→World→Prop}(f:FuncId)(xs:Array Operand){ts:Array TypeId}{args:Array Value}(hk:b.kind= .normal)(ho:ops[i]? =some o)(hop:o.op= .call {callee:= .value (.func f),args:=xs,argTypes:=ts})(hm:sq P o=true)(hw:Region.wanted o (yielded ops a.tmps)=true)(hargs:xs.map a.eval=args)(hent:∀u,(callFunc f args).run P u= .ok (.enter f args) u)(hu:UCx P fs f args w R')
  (h:∀v w2,R' (.returned v) w2→dh E R b (a.put o.dst v) (.inRegion ops rest::k) w2):dh E R b a (.inRegion ops (i::rest)::k) w:=fun hR hmn hS=>
 cr.callx E.C hS hk ho hm hw (fun d=>by rw [cw hop,hargs];exact hent _) hu fun v w2 hv hS2=>h v w2 hv hR hmn hS2
theorem dh.seq [Bg] {E:VE P fs}{c1 c2:Code}(h:dh E R b a (.code c1:: .code c2::k) w):dh E R b a (.code (.seq c1 c2)::k) w:=fun hR hmn hS=>cr.seq (h hR hmn hS)
theorem dh.skip [Bg] {E:VE P fs}(h:dh E R b a k w):dh E R b a (.code .skip::k) w:=fun hR hmn hS=>cr.skip (h hR hmn hS)
theorem dh.p9 [Bg] {E:VE P fs}{c1 c2:Code}{o:Operand}(ht:a.eval o= .bool false)(h:dh E R b a (.code c2::k) w):dh E R b a (.code (.cond o c1 c2)::k) w:=fun hR hmn hS=>cr.cond (t:=false) ht (h hR hmn hS)
theorem dh.se [Bg] {E:VE P fs}{c1 c2:Code}{o:Operand}(ht:a.eval o= .bool true)(h:dh E R b a (.code c1::k) w):dh E R b a (.code (.cond o c1 c2)::k) w:=fun hR hmn hS=>cr.cond (t:=true) ht (h hR hmn hS)
theorem dh.region [Bg] {E:VE P fs}{id:Nat}(h:dh E R b a (.inRegion ops (List.range ops.size)::k) w):dh E R b a (.code (.region id ops false)::k) w:=fun hR hmn hS=>cr.region (h hR hmn hS)
theorem dh.ak [Bg] {E:VE P fs}(h:dh E R b a k w):dh E R b a (.inRegion ops []::k) w:=fun hR hmn hS=>cr.ak (h hR hmn hS)
theorem dh.ff [Bg] {E:VE P fs}(h:∀a1:Act,(a1.tmps.size=a.tmps.size∧a1.defers=a.defers)→(∀t,a1.eval (.tmp t)=a.eval (.tmp t))→dh E R b a1 k w):dh E R b a k w:=h a ⟨rfl,rfl⟩ fun _=>rfl
theorem dh.ib [Bg] {E:VE P fs}(F:World→Prop)(h:F w)(hk:∀u,F u→dh E R b a k u):dh E R b a k w:=hk w h
theorem dh.dq [Bg] {E:VE P fs}{fn:Func}{t:Tmp}{v:Value}(hk:b.kind= .normal)(hf:fs[b.fn]? =some fn)(hres:fn.results=#[.tmp t])(hv:a.eval (.tmp t)=v)(hcl:∀π,al π v=v)(hR:R (.returned v) w):dh E R b a (.code .ret::k) w:=fun hRb hmn hS=>by
 subst hv;exact E.back hRb hmn hS hk hf hres hcl hR
theorem dh.not [Bg] {E:VE P fs}(hk:b.kind= .normal)(ho:ops[i]? =some o)(hw:Region.wanted o (yielded ops a.tmps)=false)(h:dh E R b (a.put o.dst undef) (.inRegion ops rest::k) w):dh E R b a (.inRegion ops (i::rest)::k) w:=fun hR hmn hS=>
 cr.tj rfl (fun u=>stepG_unwanted ho hw) (h hR hmn (hS.put (fun π' _=>rfl) o.dst))
theorem dh.block [Bg] {E:VE P fs}{c:Code}{id:Nat}(h:dh E R b a (.code c:: .inBlock id::k) w):dh E R b a (.code (.block id c)::k) w:=fun hR hmn hS=>cr.tj rfl (fun _=>stepG_block) (h hR hmn hS)
theorem dh.inBlock [Bg] {E:VE P fs}{id:Nat}(h:dh E R b a k w):dh E R b a (.inBlock id::k) w:=fun hR hmn hS=>cr.tj rfl (fun _=>stepG_inBlock) (h hR hmn hS)
theorem dh.draw [Bg] {E:VE P fs}{id:Nat}(h:∀t,dh E R b a (.inRegion ops (Region.schedule ((aq P fs).follows .mixedOrders) ops t)::k) w):dh E R b a (.code (.region id ops true)::k) w:=fun hR hmn hS=>by
 refine cr.real rfl fun d=>⟨_,w.at (d+1),#[],stepG_region_draw,Nat.le_refl _,fun e he=>by simp at he,?_⟩
 exact (h _ hR hmn hS).at (d+1)
theorem dh.draws [Bg] {E:VE P fs}{id:Nat}{L:List (List Nat)}(hm:(aq P fs).follows .mixedOrders=true)(hL:zo ops ops.size (Array.replicate ops.size false)=L)(h:∀l∈L,dh E R b a (.inRegion ops l::k) w):dh E R b a (.code (.region id ops true)::k) w:=
 dh.draw fun t=>by
  simp only [Region.schedule,hm,Bool.true_or,if_true];refine h _ ?_;rw [←hL];exact go_mem ops ops.size t _
theorem dh.odd [Bg] {E:VE P fs}(hk:b.kind= .normal)(v:Value)(w1:World)(ho:ops[i]? =some o)(hw:Region.wanted o (yielded ops a.tmps)=true)(hr:∀d,(execOp a.eval o).runT (aq P fs) (cy (w.at d)) #[]=(.ok (.value v) (cy (w1.at d)),#[]))(hsz:w1.heap.size=w.heap.size)(hW:Whole P w→Whole P w1)(hv:∀π',aw w.heap.size one π'→al π' v=v)
  (h:dh E R b (a.put o.dst v) (.inRegion ops rest::k) w1):dh E R b a (.inRegion ops (i::rest)::k) w:=fun hR hmn hS=>by
 refine cr.real rfl fun d=> ?_
 have hke:((b.at a (.inRegion ops (i::rest)::k)).kind==CallKind.early)=false:=by
  show (b.kind==CallKind.early)=false;rw [hk];rfl
 have hst:=(m9 (P:=aq P fs) (b:=b) (a:=a) (cs:=E.cs) (rest:=rest) (k:=k) (u:=cy (w.at d)) hk ho hw).trans (nc (hr d) hke);rw [Frame.finish_at,ho] at hst;refine ⟨_,w1.at d,_,hst,Nat.le_of_eq hsz.symm,fun e he=> ?_,cr.at (h hR hmn (Sound.put ⟨hW hS.whole,by rw [hsz];exact hS.base,fun π' ha=>hS.act π' (by rw [←hsz];exact ha),hS.defers⟩ (fun π' ha=>by rw [hv π' (by rw [←hsz];exact ha),jw]) o.dst)) d⟩;rw [Array.append_empty] at he;have:=kv _ _ _ e he;simp at this
def still1:Item→Bool
 | .inRangeFunc _| .endRangeFunc _=>false
 |_=>true
theorem dh.wp [Bg] {E:VE P fs}{c:Code}{f:FuncId}(K:Act→World→Prop)(hK:∀a w τ d,K a w→K a (tp w τ d))(hKd:∀a w,K a w→a.defers=[])(hb:b={(default:Frame) with fn:=f,kind:= .normal})(hpl:Plain P fs f)(hok:(Item.code c::k).all (lk P)=true)(hst:(Item.code c::k).all still1=true)(h:∀τ d,c.wp P (fun x a1 w1=>x= .normal∧K a1 w1) a (tp w τ d))(hn:∀a1 w1,K a1 w1→dh E R b a1 k w1):dh E R b a (.code c::k) w:=fun hR hmn hS=>by
 subst hb;have hF:Fit P E.cs (av (({(default:Frame) with fn:=f,kind:= .normal}:Frame).at a (.code c::k)) ([]++E.cs)) w:=by
  refine ⟨_,[],rfl,⟨fun fr hfr=> ?_,_,rfl,rfl,rfl⟩,fun π' ha=> ?_,hS.base,hS.whole⟩
  ·obtain rfl:fr=_:=by simpa using hfr
   refine ⟨List.all_eq_true.1 hok,fun d hd=> ?_,.inl rfl,fun h=>by cases h⟩;rw [show (({(default:Frame) with fn:=f,kind:= .normal}:Frame).at a (.code c::k)).defers=a.defers from rfl,hS.defers] at hd;cases hd
  ·have key:∀π:Pm,(Item.code c::k).map (ez π)=Item.code c::k:=fun π=>by
    rw [List.all_eq_true] at hst
    conv=>rhs;rw [←List.map_id (Item.code c::k)]
    refine List.map_congr_left fun x hx=> ?_
    have:=hst x hx;cases x <;> first|rfl|cases this
   have e:∀π:Pm,ax π (({(default:Frame) with fn:=f,kind:= .normal}:Frame).at a (.code c::k))=({(default:Frame) with fn:=f,kind:= .normal}:Frame).at ⟨az π a.tmps,a.defers.map (dz π)⟩ ((Item.code c::k).map (ez π)):=fun π=>rfl
   simp only [List.map_cons,List.map_nil,e,key,hS.act π' ha,jg,hS.defers]
 refine (af3 E.C E.hp (Q:=fun x a1 w1=>x= .normal∧K a1 w1) (fun e a w τ d hq=>⟨hq.1,hK _ _ _ _ hq.2⟩) (fun _ _ h=>by cases h.1) (fun _ _ _ h=>by cases h.1) (fun _ _ _ h=>by cases h.1) h _ k [] E.cs rfl hpl hF).then fun a' w' ⟨hf,hr⟩=> ?_
 cases hr with
 | @normal a1 _ hq=>
  refine hn _ _ hq.2 hR hmn ?_;obtain ⟨fr2,A2,e,-,hst2,hb2,hW2⟩:=hf;obtain ⟨rfl,-⟩:=jz e;refine ⟨hW2,hb2,fun π' ha=> ?_,hKd _ _ hq.2⟩;have:=(gy (Still.cons.1 hst2).1 π' ha).1;rw [jg] at this;exact this
 |exit hq=>cases hq.1
 |ret hq=>cases hq.1
 |panic hq=>cases hq.1
theorem dh.drawK [Bg] {E:VE P fs}{id:Nat}{f:FuncId}(K:Act→World→Prop)(m:Nat)(S:World→Prop)(hm:P.follows .mixedOrders=true)(hb:b={(default:Frame) with fn:=f,kind:= .normal})(hpl:Plain P fs f)(hok:(Item.code (.region id ops true)::k).all (lk P)=true)(hst:(Item.code (.region id ops true)::k).all still1=true)(hK:∀a w τ d,K a w→K a (tp w τ d))(hKd:∀a w,K a w→a.defers=[])(h:∀τ d,LDK P K ops S m ops.size (Array.replicate ops.size false) a (tp w τ d))(hn:∀a1 w1,K a1 w1→dh E R b a1 k w1):dh E R b a (.code (.region id ops true)::k) w:=
 dh.wp K hK hKd hb hpl hok hst (fun τ d=>wp_region_any hm (LM.any _ _ _ _ (h τ (d+1)))) hn
def upE [Bg] {P:Program}{fs:Array Func}(c:Frame)(T:List Frame)(N:Nat)(C:Ctx P fs)(hp:∀f,Plain P fs f∨jj P f):VE P fs:=
 ⟨c::T,fun R _=>∀e w2,R e w2→N≤w2.heap.size,fun R=>Bk P R N c T,C,hp,fun {R b a k w fn t} hRb hN hS hk hf hres hcl hR=>cr.back1x hS hk hf hres (fun d=>hRb _ _ w.tape d hR) (hN _ _ hR) fun π' _=>hcl π',fun {R b a k w fn t t2} hRb hN hS hk hf hres hcl hR=>cr.ahv hS hk hf hres (fun d=>hRb _ _ w.tape d hR) (hN _ _ hR) fun π' _=>hcl π'⟩
theorem alh [Bg] (C:Ctx P fs)(hp:∀f,Plain P fs f∨jj P f){f:FuncId}{fn:Func}{c:Code}{args:Array Value}{m n:Nat}(hR:gz R)(hmn:∀e w2,R e w2→w.heap.size≤w2.heap.size)(hf:fs[f]? =some fn)(hb:fn.body=some c)(hm:fn.ntmps-args.size=m)(hn:args.size+m=n)
  (h:∀(E:VE P fs)(a:Act),a.tmps.size=n∧a.defers=[]→(∀j v,args[j]? =some v→a.eval (.tmp j)=v)→dh E R {(default:Frame) with fn:=f,kind:= .normal} a [.code c] w):UCx P fs f args w R:=by
 intro c' T hF;have hS:=yy (m:=m) hF;rw [enter_at (P:=aq P fs) hf hb hm];refine h (upE c' T w.heap.size C hp) _ ⟨by simp [hn],rfl⟩ (fun j v hv=> ?_) hR hmn hS;show (args++Array.replicate m undef).getD j undef=v;rw [Array.getD_eq_getD_getElem?,Array.getElem?_append_left (Array.getElem?_eq_some_iff.1 hv).1,hv];rfl
end
theorem akv [Bg] {bb:Nat}{c:Array Value}{e:TypeId}{z z':Nat×Nat}(hb:w.heap[bb]? =some (.cells c e z))(hb1:w1.heap[bb]? =some (.cells c e z'))(hsz:w1.heap.size=w.heap.size)(hk:∀x,x≠bb→w1.heap[x]? =w.heap[x]?)(hW:Whole P w):Whole P w1:=by
 have hbz:¬zb bb:=fun hz=>by
  have:=(hW.rob one (aw.refl _ _)).gu bb hz;rw [hb] at this;cases this
 refine ⟨fun π' ha=>⟨fun b hz=>by rw [hk b fun e=>hbz (e▸hz)];exact (hW.rob one (aw.refl _ _)).gu b hz,fun b hb=>hb.elim,fun b o ho hz _=> ?_,rfl,rfl,rfl,rfl⟩,fun b hz=>by rw [hsz];exact hW.zlt b hz,fun b hb=>hb.elim,fun b hb=>by rw [ji];exact hb⟩;rw [hsz] at ha;have e1:=hW.rob π' ha;have hto:∀x,x<w.heap.size→π'.to x=x:=fun x hx=>ha x hx
 by_cases hx:b=bb
 ·subst hx;rw [hb1] at ho;obtain rfl:=Option.some.inj ho;obtain ⟨g1,g2⟩:=e1.own b _ hb hz (fun x=>x);rw [hto b (Array.getElem?_eq_some_iff.1 hb).1,j9 hz,hb] at g2;refine ⟨rfl,?_⟩;rw [hto b (Array.getElem?_eq_some_iff.1 hb).1,j9 hz,hb1];have g2:=Option.some.inj g2;simp only [cx,Obj.cells.injEq] at g2 ⊢;rw [←g2.1]
 ·rw [hk b hx] at ho;obtain ⟨g1,g2⟩:=e1.own b o ho hz (fun x=>x);refine ⟨g1,?_⟩;have hlt:=(Array.getElem?_eq_some_iff.1 ho).1;rw [hto b hlt,j9 hz] at g2 ⊢;rw [hk b hx,g2]
end
section
variable {w w1 w2:World}{S:List Nat}{τ:Tap}{d:Nat}
theorem ah.un (h:ah S (zr.tp w τ d) w2):ah S w w2:=⟨h.size,h.ff,h.os,h.out⟩
theorem ah.tp (h:ah S w w2)(τ:Tap)(d:Nat):ah S w (zr.tp w2 τ d):=⟨h.size,h.ff,h.os,h.out⟩
end
section
variable {P:Program}{fs:Array Func}{b:Frame}{a:Act}{todo:List Item}{w:World}{v:Value}{R:Ending→World→Prop}
def Fin [Bg] (Pr:Program)(R:Ending→World→Prop)(g:Goroutine)(w:World):Prop:=
 g.status= .running∧∃v,∀d,R (.returned v) (w.at d)∧stepG Pr true g (cy (w.at d))= .ended (.done v) (cy (w.at d)) #[]
theorem aeh {fn:Func}{Pr:Program}{u:World}(hn:b.kind= .normal)(hd:a.defers=[])(hf:Pr.funcs[b.fn]? =some fn)(hr:(results fn a.tmps).run Pr u= .ok v u)(he:(results fn a.tmps).events Pr u #[]=#[])(hi:Pr.inits.idxOf? b.fn=none):stepG Pr true (av {b.at a todo with mode:= .returning} []) u= .ended (.done v) u #[]:=by
 simp [av,stepG,unwind,doReturn,Frame.at,hn,hd,hf,hr,he,hi,seen,GStep.after]
def botE [Bg] (P:Program)(fs:Array Func)(C:Ctx P fs)(hp:∀f,Plain P fs f∨jj P f):VE P fs:=
 ⟨[],fun _ f=>(aq P fs).inits.idxOf? f=none,Fin (aq P fs),C,hp,fun {R b a k w fn t} hRb hN hS hk hf hres hcl hR=>by
   refine cr.tj rfl (g1:=av {b.at a (.code .ret::k) with mode:= .returning} []) (fun u=>stepG_ret') ?_;exact cr.done fun d=>⟨rfl,a.eval (.tmp t),fun d2=>⟨hRb _ w w.tape d2 hR,aeh hk hS.defers hf (results_tmp hres _ _ _) (events_results_tmp hres _ _) hN⟩⟩,
 fun {R b a k w fn t t2} hRb hN hS hk hf hres hcl hR=>by
   refine cr.tj rfl (g1:=av {b.at a (.code .ret::k) with mode:= .returning} []) (fun u=>stepG_ret') ?_;exact cr.done fun d=>⟨rfl,.tuple #[a.eval (.tmp t),a.eval (.tmp t2)],fun d2=>⟨hRb _ w w.tape d2 hR,aeh hk hS.defers hf (results_tmp2 hres _ _ _) (events_results_tmp2 hres _ _) hN⟩⟩⟩
theorem ai1 [Bg] (C:Ctx P fs)(hp:∀f,Plain P fs f∨jj P f){f:FuncId}{fn:Func}{c:Code}{args:Array Value}{m n:Nat}(hR:gz R)(hf:fs[f]? =some fn)(hb:fn.body=some c)(hm:fn.ntmps-args.size=m)(hn:args.size+m=n)(hi:(aq P fs).inits.idxOf? f=none)(hW:Whole P w)(hba:Base one w.heap.size)(hcl:∀π',az π' args=args)
  (h:∀(E:VE P fs)(a:Act),a.tmps.size=n∧a.defers=[]→(∀j v,args[j]? =some v→a.eval (.tmp j)=v)→dh E R {(default:Frame) with fn:=f,kind:= .normal} a [.code c] w):
  ∃N last o w' t',runNT (aq P fs) (N+1) (solo (G (Frame.enter (aq P fs) f args .normal) []) (cy w)) #[]=(.ended o w',t')∧runN (aq P fs) N (solo (G (Frame.enter (aq P fs) f args .normal) []) (cy w))= .next last∧step (aq P fs) last= .ended o w'∧Good (aq P fs) (fun v W'=>∃w2,W'=cy w2∧R (.returned v) w2) last o w' t':=by
 have hS:Sound P w ⟨args++Array.replicate m undef,[]⟩:=by
  refine ⟨hW,hba,fun π' _=> ?_,rfl⟩;show az π' (args++Array.replicate m undef)=args++Array.replicate m undef;rw [jl,hcl];congr 1;rw [fh,Array.map_replicate];rfl
 have hB:=h (botE P fs C hp) ⟨args++Array.replicate m undef,[]⟩ ⟨by simp [hn],rfl⟩ (fun j v hv=>by
  show (args++Array.replicate m undef).getD j undef=v;rw [Array.getD_eq_getD_getElem?,Array.getElem?_append_left (Array.getElem?_eq_some_iff.1 hv).1,hv];rfl) hR hi hS
 rw [←enter_at (P:=aq P fs) hf hb hm] at hB;obtain ⟨N,gs',a',w',sl',t',hr,h0,⟨⟨q,hL⟩,hP⟩,hrun,v,hfin⟩:=hB #[av (Frame.enter (aq P fs) f args .normal) []] w.drawn none #[] rfl ⟨⟨_,leavers_one _ _⟩,past_nil.mono (Nat.zero_le _)⟩;have hG:Goes (aq P fs) true AtRel (fun _ _ _=>False) (AtEnd (aq P fs) mn w'.heap.size fun v W'=>∃w2,W'=cy w2∧R (.returned v) w2) 0 a' (cy w'):=fun w1 ⟨d,hd⟩=>by
  subst hd;obtain ⟨h1,h2⟩:=hfin d;exact ⟨hrun,v,#[],h2,fun e he=>by simp at he,_,rfl,h1⟩
 obtain ⟨N2,last,o,w3,t3,k1,k2,k3,k4⟩:=beside_ends (D:=fun _ _ _=>False) (fun _ _ _ h=>h.elim) h0 hL hP hG;have hr':runNT (aq P fs) N (solo (G (Frame.enter (aq P fs) f args .normal) []) (cy w)) #[]=(.next (crowd gs' (cy w') sl'),t'):=hr;refine ⟨N+N2,last,o,w3,t3,?_,?_,k3,k4⟩
 ·rw [Nat.add_assoc,l8 _ N (N2+1) _ _ hr'];exact k1
 ·have h5:runNT (aq P fs) (N+N2) (solo (G (Frame.enter (aq P fs) f args .normal) []) (cy w)) #[]=runNT (aq P fs) N2 (crowd gs' (cy w') sl') t':=l8 _ N N2 _ _ hr';rw [←runNT_fst _ _ _ #[],h5,runNT_fst];exact k2
end
def hid (W:World):World:={W with heap:=Array.replicate W.heap.size gu}
theorem fill_hid (W:World): @cy ⟨W.heap⟩ (hid W)=W:=by
 letI:Bg:=⟨W.heap⟩
 refine xw ?_ rfl rfl rfl rfl;have hs:(cy (hid W)).heap.size=W.heap.size:=(ji _).trans (by simp [hid]);refine Array.ext hs fun i h1 h2=> ?_
 have h3:=uy (w:=hid W) (b:=i) h2 (by rw [←ji (hid W)];exact h1);rw [Array.getElem?_eq_getElem h1] at h3;exact Option.some.inj h3
theorem am5 {P:Program}(W:World): @Whole ⟨W.heap⟩ P (hid W):=by
 letI:Bg:=⟨W.heap⟩
 have hs:(hid W).heap.size=W.heap.size:=by simp [hid]
 have hd:∀b,b<W.heap.size→(hid W).heap[b]? =some gu:=fun b hb=>by
  show (Array.replicate W.heap.size gu)[b]? =_;rw [Array.getElem?_replicate,if_pos hb]
 refine ⟨fun π' ha=>⟨fun b hz=>hd b hz,fun b hb=>hb.elim,fun b o ho hz _=>absurd (bf ho) (fun h=>hz (by rw [hs] at h;exact h)),rfl,rfl,rfl,rfl⟩,fun b hz=>by rw [hs];exact hz,fun b hb=>hb.elim,fun b hb=>by rw [ji];exact hb⟩
theorem akz (W:World)(w2:World)(h:W.heap.size≤w2.heap.size){b:Nat}(hb:b<W.heap.size):(@cy ⟨W.heap⟩ w2).heap[b]? =W.heap[b]? :=by
 letI:Bg:=⟨W.heap⟩
 have h3:=uy (w:=w2) (b:=b) hb (Nat.lt_of_lt_of_le hb h);exact h3.trans (Array.getElem?_eq_getElem hb).symm
end Go.Proofs.YthgpdljlehklhaaGreat.zr
