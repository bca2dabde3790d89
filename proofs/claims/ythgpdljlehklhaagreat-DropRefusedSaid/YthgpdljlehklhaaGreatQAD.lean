/- Part QAD of the proof that DropRefused answers true whatever its input. No condition. -/
import GoSem.Step
import Derived.RunT
import GoSem.Machine.Return
import Derived.Test.YthgpdljlehklhaaGreatQAC
set_option maxRecDepth 100000
namespace Go.Proofs.YthgpdljlehklhaaGreat.zr
open Go
def ez (π:Pm):Item→Item
 | .inRangeFunc l=> .inRangeFunc (π.to l)
 | .endRangeFunc l=> .endRangeFunc (π.to l)
 |x=>x
def j6 (π:Pm)(e:PanicEntry):PanicEntry:={e with v:=al π e.v}
def ko (π:Pm):FrameMode→FrameMode
 | .panicking chain=> .panicking (chain.map (j6 π))
 |m=>m
def ax (π:Pm)(fr:Frame):Frame:={fr with tmps:=az π fr.tmps,todo:=fr.todo.map (ez π),defers:=fr.defers.map (dz π),mode:=ko π fr.mode,roundOf:=fr.roundOf.map π.to}
def lk (P:Program):Item→Bool
 | .code c| .inLoop c=>dy P c
 | .inScope _| .call .. | .extern .. =>false
 | .inRegion ops _=>ops.all (qd P)
 |_=>true
def sm:Item→Bool
 | .code c| .inLoop c=>gk c
 | .inRegion ops _=>ops.all pk
 |_=>true
structure gp (P:Program)(fr:Frame):Prop where
 todo:∀x∈fr.todo,lk P x=true
 defers:∀d∈fr.defers,iy d.target=true
 kind:fr.kind= .normal∨fr.kind= .deferred
 round:fr.roundOf.isSome=true→(∀x∈fr.todo,sm x=true)∧fr.defers=[]
theorem we (π:Pm)(fr:Frame):Rho π (ax π fr).eval fr.eval:=by
 intro o ho;cases o with
 |tmp t=>
  show (az π fr.tmps).getD t undef=al π (fr.tmps.getD t undef);rw [Array.getD_eq_getD_getElem?,Array.getD_eq_getD_getElem?,ja];cases fr.tmps[t]? <;> rfl
 |const v=>exact (vn π v ho).symm
 |global g=>simp [fv] at ho
 |func f=>rfl
theorem aa2 (π:Pm)(id:Nat):∀k:List Item,exitTo id (k.map (ez π))=(exitTo id k).map (List.map (ez π))
 | []=>rfl
 |x::k=>by
  cases x with
  |inBlock id'=>
   simp only [List.map_cons,ez,exitTo];split
   ·rfl
   ·exact aa2 π id k
  |_=>exact aa2 π id k
theorem zy (id:Nat):∀(k k':List Item),exitTo id k=some k'→∀x∈k',x∈k
 | [],k',h=>by simp [exitTo] at h
 |y::k,k',h=>by
  cases y with
  |inBlock id'=>
   simp only [exitTo] at h;split at h
   ·obtain rfl:=Option.some.inj h;exact fun x hx=>List.mem_cons_of_mem _ hx
   ·exact fun x hx=>List.mem_cons_of_mem _ (zy id k k' h x hx)
  |_=>exact fun x hx=>List.mem_cons_of_mem _ (zy id k k' h x hx)
theorem vk (π:Pm)(ops:Array Oper)(tmps:Array Value):yielded ops (az π tmps)=yielded ops tmps:=by
 funext j
 unfold yielded;cases (ops[j]?).bind (·.dst) with
 |none=>rfl
 |some d=>
  simp only [Option.bind_some];rw [ja];cases tmps[d]? with
  |none=>rfl
  |some v=>cases v <;> rfl
theorem l7 (π:Pm)(fr:Frame)(v:Value)(hk:∀x∈fr.todo,(match x with| .call .. | .extern .. =>false|_=>true)=true):(ax π fr).finish (al π v)=ax π (fr.finish v):=by
 obtain ⟨fn,tmps,todo,defers,mode,kind,rof⟩:=fr;cases todo with
 |nil=>rfl
 |cons x k=>
  have hx:=hk x ae;cases x with
  |inRegion ops todo=>
   cases todo with
   |nil=>rfl
   |cons i rest=>
    simp only [ax,List.map_cons,ez,Frame.finish];cases (ops[i]?).bind (·.dst) with
    |none=>rfl
    |some d=>simp only [sk]
  |call=>simp at hx
  |extern=>simp at hx
  |_=>rfl
theorem tc (π:Pm)(fr:Frame)(vs:List PanicEntry):(ax π fr).raise (vs.map (j6 π))=ax π (fr.raise vs):=by
 obtain ⟨fn,tmps,todo,defers,mode,kind,rof⟩:=fr;cases mode <;> simp [ax,Frame.raise,ko]
section
variable {P:Program}
theorem gp.qv {fr:Frame}(h:gp P fr):∀x∈fr.todo,(match x with| .call .. | .extern .. =>false|_=>true)=true:=fun x hx=>by
 have:=h.todo x hx;cases x <;> first|rfl|simp [lk] at this
theorem gp.finish {fr:Frame}(h:gp P fr)(v:Value):gp P (fr.finish v):=by
 obtain ⟨fn,tmps,todo,defers,mode,kind,rof⟩:=fr;obtain ⟨h1,h2,h3,h4⟩:=h;cases todo with
 |nil=>exact ⟨h1,h2,h3,h4⟩
 |cons x k=>
  have tl:∀y∈k,lk P y=true:=fun y hy=>h1 y (List.mem_cons_of_mem _ hy)
  have hx:=h1 x List.mem_cons_self;cases x with
  |inRegion ops todo=>
   cases todo with
   |nil=>exact ⟨h1,h2,h3,h4⟩
   |cons i rest=>
    refine ⟨fun y hy=> ?_,h2,h3,fun hr=>⟨fun y hy=> ?_,(h4 hr).2⟩⟩
    ·rcases List.mem_cons.1 hy with rfl|hy
     ·exact hx
     ·exact tl y hy
    ·have:=(h4 hr).1;rcases List.mem_cons.1 hy with rfl|hy
     ·exact this (Item.inRegion ops (i::rest)) List.mem_cons_self
     ·exact this y (List.mem_cons_of_mem _ hy)
  |inRangeFunc l=>
   refine ⟨fun y hy=> ?_,h2,h3,fun hr=>⟨fun y hy=> ?_,(h4 hr).2⟩⟩
   ·rcases List.mem_cons.1 hy with rfl|hy
    ·rfl
    ·exact tl y hy
   ·rcases List.mem_cons.1 hy with rfl|hy
    ·rfl
    ·exact (h4 hr).1 y (List.mem_cons_of_mem _ hy)
  |beginRound=>exact ⟨tl,h2,h3,fun hr=>⟨fun y hy=>(h4 hr).1 y (List.mem_cons_of_mem _ hy),(h4 hr).2⟩⟩
  |call=>simp [lk] at hx
  |extern=>simp [lk] at hx
  |_=>exact ⟨h1,h2,h3,h4⟩
theorem gp.raise {fr:Frame}(h:gp P fr)(vs:List PanicEntry):gp P (fr.raise vs):=by
 obtain ⟨fn,tmps,todo,defers,mode,kind,rof⟩:=fr;obtain ⟨h1,h2,h3,h4⟩:=h;cases mode <;> exact ⟨h1,h2,h3,h4⟩
end
structure Ctx (P:Program)(fs:Array Func):Prop where
 alike:Alike P fs
 globals:P.globals.size=0
 zero:∀t i v,P.info? t=some i→i.zero=some v→lg v=true
 code:∀(f:Nat) fn c,P.funcs[f]? =some fn→fn.body=some c→dy P c=true
 results:∀f:Nat,(fs[f]?).map (·.results)=(P.funcs[f]?).map (·.results)
def Base (π:Pm)(N:Nat):Prop:=4<N∧∀n,n≤4→π.to n=n
theorem Ctx.fixed {P:Program}{fs:Array Func}(C:Ctx P fs){π π':Pm}{N:Nat}(hb:Base π N)(ha:aw N π π'):fw P π':=
 ⟨fun t i v h1 h2=>vn π' v (C.zero t i v h1 h2),fun n hn=>by
  rw [C.globals] at hn;rw [ha n (by have:=hb.1;omega)];exact hb.2 n ai⟩
structure Adv (P:Program)(Z F:Nat→Prop)(π:Pm)(w w':World)(π1:Pm)(w1 w1':World)(new:Array Event):Prop where
 agree:aw w.heap.size π π1
 at_:At P Z F π1 w1 w1'
 size:w.heap.size≤w1.heap.size
 qm:qu Z F w.heap.size π w' w1'
 evs:∀e∈new,ub Z F w1.heap.size π1 e
 fresh:∀b,w.heap.size≤b→b<w1.heap.size→w'.heap.size≤π1.to b
 os:w1.os=w.os
 idn:π=one∧w'.heap.size=w.heap.size→π1=one∧w1'.heap.size=w1.heap.size
 out:w1.output=w.output
 cov:∀c,w'.heap.size≤c→c<w1'.heap.size→∃b,w.heap.size≤b∧b<w1.heap.size∧π1.to b=c
theorem Adv.refl {P:Program}{Z F:Nat→Prop}{π:Pm}{w w':World}(h:At P Z F π w w'):Adv P Z F π w w' π w w' #[]:=
 ⟨aw.refl _ _,h,Nat.le_refl _,qu.refl _,by simp,fun b h1 h2=>by omega,rfl,fun e=>e,rfl,fun c h1 h2=>absurd h2 ai⟩
theorem Adv.ya {P:Program}{Z F:Nat→Prop}{π:Pm}{w w':World}{π1:Pm}{w1 w1':World}{new new2:Array Event}(h:Adv P Z F π w w' π1 w1 w1' new)(hs:∀e∈new2,e∈new):Adv P Z F π w w' π1 w1 w1' new2:=
 {h with evs:=fun e he=>h.evs e (hs e he)}
theorem kv (P:Program)(fn:FuncId)(es:Array Event):∀e∈seen P fn es,e∈es:=by
 dsimp only [seen];rw [←Array.foldl_toList];have key:∀(l:List Event)(x:Bool×Array Event),(∀e∈x.2,e∈es)→(∀e∈l,e∈es)→∀e∈(l.foldl (fun (q,kept) e=>match e.loc with| .mark (.extern f)=>((P.funcs[f]?).any (·.norace),kept)|_=>(q,if q && !e.sync then kept else kept.push e)) x).2,e∈es:=by
  intro l
  induction l with
  |nil=>intro x h1 _;exact h1
  |cons a l ih=>
   intro x h1 h2;refine ih _ ?_ fun e he=>h2 e (List.mem_cons_of_mem _ he)
   obtain ⟨q,kept⟩:=x;dsimp only;split
   ·exact h1
   ·split
    ·exact h1
    ·intro e he;rcases Array.mem_push.1 he with he|rfl
     ·exact h1 e he
     ·exact h2 e List.mem_cons_self
 exact key es.toList _ ae (fun e he=>Array.mem_toList_iff.1 he)
structure iz (P:Program)(S:List Frame):Prop where
 ok:∀fr∈S,gp P fr
 bot:∃b,S.getLast? =some b∧b.roundOf=none∧b.kind= .normal
def Still (N:Nat)(π:Pm)(S:List Frame):Prop:=∀π',aw N π π'→S.map (ax π')=S.map (ax π)
theorem Still.cons {N:Nat}{π:Pm}{fr:Frame}{S:List Frame}:Still N π (fr::S)↔(∀π',aw N π π'→ax π' fr=ax π fr)∧Still N π S:=by
 constructor
 ·intro h;exact ⟨fun π' ha=>by have:=h π' ha;simp only [List.map_cons,List.cons.injEq] at this;exact this.1,fun π' ha=>by have:=h π' ha;simp only [List.map_cons,List.cons.injEq] at this;exact this.2⟩
 ·rintro ⟨h1,h2⟩ π' ha;rw [List.map_cons,List.map_cons,h1 π' ha,h2 π' ha]
theorem Still.adv {P:Program}{Z F:Nat→Prop}{π π1:Pm}{w w' w1 w1':World}{new:Array Event}{S:List Frame}(h:Still w.heap.size π S)(a:Adv P Z F π w w' π1 w1 w1' new):Still w1.heap.size π1 S∧S.map (ax π1)=S.map (ax π):=
 ⟨fun π' ha=>by rw [h π1 a.agree,h π' (a.agree.trans (ha.mono a.size))],h π1 a.agree⟩
def Top (P:Program)(fs:Array Func)(N:Nat)(π:Pm)(fr fr':Frame):Prop:=
 (∀π',aw N π π'→fr'=ax π' fr)∨∃f args kind,fr=Frame.enter P f args kind∧fr'=Frame.enter (aq P fs) f (az π args) kind∧∀π',aw N π π'→az π' args=az π args
def av (fr:Frame)(cs:List Frame):Goroutine:={frame:=fr,callers:=cs,status:= .running,dying:=none}
def lr (P:Program)(fs:Array Func)(Z F:Nat→Prop)(π:Pm)(w w':World)(T T':List Frame)(g1:Goroutine)(w1:World)(res':GStep):Prop:=
 ∃fr1 A1,g1=av fr1 (A1++T)∧iz P (fr1::A1)∧∃π1 w1' fr1' new,res'= .go (av fr1' (A1.map (ax π1)++T')) w1' new∧Adv P Z F π w w' π1 w1 w1' new∧Top P fs w1.heap.size π1 fr1 fr1'∧Still w1.heap.size π1 A1
section
variable {P:Program}{fs:Array Func}{Z F:Nat→Prop}{α:Type}{A:eg α}{q:α→Prop}{π:Pm}{w w':World}{T T':List Frame}
theorem ik.ok {a:α}{w1:World}{r':Result α×Array Event}(h:ik P Z F A q π w w' #[] (.ok a w1) r'):q a∧∃π1 w1' new,r'=(.ok (A.act π1 a) w1',new)∧Adv P Z F π w w' π1 w1 w1' new∧∀π2,aw w1.heap.size π1 π2→A.act π2 a=A.act π1 a:=by
 obtain ⟨hq,π1,w1',new,e,a1,a2,a3,a4,a5,a6,a7,a8⟩:=h;exact ⟨hq,π1,w1',new,by rw [e];simp,⟨a1,a2,a4,a5,a6,a7,a8.os,a8.idn,a8.out,a8.cov⟩,a3⟩
theorem ik.panics {v:Value}{w1:World}{r':Result α×Array Event}(h:ik P Z F A q π w w' #[] (.halt (.panic v) w1) r'):∃π1 w1' new,r'=(.halt (.panic (al π1 v)) w1',new)∧Adv P Z F π w w' π1 w1 w1' new∧∀π2,aw w1.heap.size π1 π2→al π2 v=al π1 v:=by
 obtain ⟨π1,w1',new,e,a1,a2,a3,a4,a5,a6,a7,a8⟩:=h;exact ⟨π1,w1',new,by rw [e];simp,⟨a1,a2,a4,a5,a6,a7,a8.os,a8.idn,a8.out,a8.cov⟩,a3⟩
theorem lr.abo (hA:At P Z F π w w'){fr1:Frame}{A1:List Frame}(hok:iz P (fr1::A1))(hst:Still w.heap.size π (fr1::A1)){res':GStep}(he:res'= .go (av (ax π fr1) (A1.map (ax π)++T')) w' #[]):
  lr P fs Z F π w w' T T' (av fr1 (A1++T)) w res':=by
 rw [Still.cons] at hst;exact ⟨fr1,A1,rfl,hok,π,w',ax π fr1,#[],he,Adv.refl hA,.inl fun π' ha=>(hst.1 π' ha).symm,hst.2⟩
theorem iz.top {fr fr1:Frame}{A1:List Frame}(h:iz P (fr::A1))(h1:gp P fr1)(hr:fr1.roundOf=fr.roundOf)(hk:fr1.kind=fr.kind):iz P (fr1::A1):=by
 refine ⟨fun x hx=> ?_,?_⟩
 ·rcases List.mem_cons.1 hx with rfl|hx
  ·exact h1
  ·exact h.ok x (List.mem_cons_of_mem _ hx)
 ·obtain ⟨b,hb,x1,x2⟩:=h.bot;cases A1 with
  |nil=>
   obtain rfl:fr=b:=by simpa using hb
   exact ⟨fr1,rfl,hr.trans x1,hk.trans x2⟩
  |cons c l=>exact ⟨b,by simpa [List.getLast?_cons_cons] using hb,x1,x2⟩
theorem iz.push {fr fr1:Frame}{A1:List Frame}(h:iz P (fr::A1))(h1:gp P fr1):iz P (fr1::fr::A1):=by
 refine ⟨fun x hx=> ?_,?_⟩
 ·rcases List.mem_cons.1 hx with rfl|hx
  ·exact h1
  ·exact h.ok x hx
 ·obtain ⟨b,hb,x1,x2⟩:=h.bot;exact ⟨b,by simpa [List.getLast?_cons_cons] using hb,x1,x2⟩
theorem iz.pop {fr c:Frame}{A1:List Frame}(h:iz P (fr::c::A1)):iz P (c::A1):=by
 refine ⟨fun x hx=>h.ok x (List.mem_cons_of_mem _ hx),?_⟩;obtain ⟨b,hb,x1,x2⟩:=h.bot;exact ⟨b,by simpa [List.getLast?_cons_cons] using hb,x1,x2⟩
end
def Comm2 (P:Program)(Z F:Nat→Prop)(π:Pm)(w w':World)(T T':List Frame)(g1:Goroutine)(cs:Array CommCase)(b:Bool)(sh:CommShape)(w1:World)(res':GStep):Prop:=
 b=false∧sh= .select∧∃fr A,g1=av fr (A++T)∧iz P (fr::A)∧∃c,cs=#[c]∧c.send=none∧∃π1 w1' new,res'= .comm (av (ax π1 fr) (A.map (ax π1)++T')) #[gq π1 c] false .select w1' new∧Adv P Z F π w w' π1 w1 w1' new∧
  (∀π2,aw w1.heap.size π1 π2→gq π2 c=gq π1 c)∧Still w1.heap.size π1 (fr::A)
def lp (P:Program)(fs:Array Func)(Z F:Nat→Prop)(π:Pm)(w w':World)(T T':List Frame)(res res':GStep):Prop:=
 match res with
 | .go g1 w1 _=>lr P fs Z F π w w' T T' g1 w1 res'
 | .comm g1 cs b sh w1 _=>Comm2 P Z F π w w' T T' g1 cs b sh w1 res'
 | .ended .. =>True
 |_=>False
theorem om {P:Program}{fs:Array Func}(C:Ctx P fs)(f:FuncId)(args:Array Value){k:CallKind}(hk:k= .normal∨k= .deferred):gp P (Frame.enter P f args k):=by
 refine ⟨fun x hx=> ?_,by simp [Frame.enter],hk,fun h=>by simp [Frame.enter] at h⟩;have:x= .code (((P.funcs[f]?).bind (·.body)).getD (.refuse "unsupported: a function without a Go body is entered")):=by simpa [Frame.enter] using hx
 subst this;show dy P _=true;cases hf:P.funcs[f]? with
 |none=>rfl
 |some fn=>
  cases hb:fn.body with
  |none=>simp [hb,dy]
  |some c=>simpa [hb] using C.code f fn c hf hb
section
variable {P:Program}{fs:Array Func}{Z F:Nat→Prop}{π:Pm}{w w':World}{T T':List Frame}
theorem kh {N:Nat}{π:Pm}{fr:Frame}{v:Value}(hok:gp P fr)(h1:∀π',aw N π π'→ax π' fr=ax π fr)(h2:∀π',aw N π π'→al π' v=al π v):∀π',aw N π π'→ax π' (fr.finish v)=ax π (fr.finish v):=fun π' ha=>by
 rw [←l7 π' fr v hok.qv,←l7 π fr v hok.qv,h1 π' ha,h2 π' ha]
theorem vd {N:Nat}{π:Pm}{fr:Frame}{vs:List PanicEntry}(h1:∀π',aw N π π'→ax π' fr=ax π fr)(h2:∀π',aw N π π'→vs.map (j6 π')=vs.map (j6 π)):∀π',aw N π π'→ax π' (fr.raise vs)=ax π (fr.raise vs):=fun π' ha=>by
 rw [←tc π' fr vs,←tc π fr vs,h1 π' ha,h2 π' ha]
theorem lr.mk {fr1:Frame}{A1:List Frame}{π1:Pm}{w1 w1':World}{new:Array Event}(ha:Adv P Z F π w w' π1 w1 w1' new)(hok:iz P (fr1::A1))(h1:∀π',aw w1.heap.size π1 π'→ax π' fr1=ax π1 fr1)(h2:Still w1.heap.size π1 A1){res':GStep}
  (he:∃new2,(∀e∈new2,e∈new)∧res'= .go (av (ax π1 fr1) (A1.map (ax π1)++T')) w1' new2):lr P fs Z F π w w' T T' (av fr1 (A1++T)) w1 res':=by
 obtain ⟨new2,hs,rfl⟩:=he;exact ⟨fr1,A1,rfl,hok,π1,w1',ax π1 fr1,new2,rfl,ha.ya hs,.inl fun π' ha=>(h1 π' ha).symm,h2⟩
end
section
variable {Q:Program}{fr:Frame}{cs:List Frame}{s:Sem Next}{w w1:World}{es:Array Event}
theorem nc {v:Value}(hx:s.runT Q w #[]=(.ok (.value v) w1,es))(hk:(fr.kind==CallKind.early)=false):stepG.apply Q true fr cs none s w= .go (av (fr.finish v) cs) w1 (seen Q fr.fn es++ #[]):=by
 unfold stepG.apply;simp only [hx,hk,if_true,Bool.false_eq_true,if_false];rfl
theorem rk (hx:s.runT Q w #[]=(.ok .skip w1,es))(hk:(fr.kind==CallKind.early)=false):stepG.apply Q true fr cs none s w= .go (av (fr.finish undef) cs) w1 (seen Q fr.fn es++ #[]):=by
 unfold stepG.apply;simp only [hx,hk,if_true,Bool.false_eq_true,if_false];rfl
theorem yz {d:Deferred}(hx:s.runT Q w #[]=(.ok (.defer d) w1,es))(hk:(fr.kind==CallKind.early)=false):stepG.apply Q true fr cs none s w= .go (av ({fr with defers:=d::fr.defers}.finish undef) cs) w1 (seen Q fr.fn es++ #[]):=by
 unfold stepG.apply;simp only [hx,hk,if_true,Bool.false_eq_true,if_false];rfl
theorem m8 {f:FuncId}{args:Array Value}(hx:s.runT Q w #[]=(.ok (.enter f args) w1,es))(hk:(fr.kind==CallKind.early)=false)(hw:(match fr.todo with| .call _ true _ _::_=>CallKind.wrapped|_=> .normal)= .normal):
  stepG.apply Q true fr cs none s w= .go (av (Frame.enter Q f args .normal) (fr::cs)) w1 (seen Q fr.fn es++ #[]):=by
 unfold stepG.apply;simp only [hx,hk,if_true,Bool.false_eq_true,if_false];have e:∀k:CallKind,k= .normal→GStep.after (seen Q fr.fn es) (GStep.go {frame:=Frame.enter Q f args k,callers:=fr::cs,status:= .running,dying:=none} w1)= .go (av (Frame.enter Q f args .normal) (fr::cs)) w1 (seen Q fr.fn es++ #[]):=fun k hk=>by
  subst hk;rfl
 exact e _ hw
theorem yo {l:Nat}{f:FuncId}{tm:Array Value}{a b:Code}(hx:s.runT Q w #[]=(.ok (.round l f tm a b) w1,es))(hk:(fr.kind==CallKind.early)=false):stepG.apply Q true fr cs none s w= .go (av (Frame.round l f tm a b .normal) (fr::cs)) w1 (seen Q fr.fn es++ #[]):=by
 unfold stepG.apply;simp only [hx,hk,if_true,Bool.false_eq_true,if_false];rfl
theorem wj {c:Array CommCase}{b:Bool}{sh:CommShape}(hx:s.runT Q w #[]=(.ok (.comm c b sh) w1,es))(hk:(fr.kind==CallKind.early)=false):stepG.apply Q true fr cs none s w= .comm (av fr cs) c b sh w1 (seen Q fr.fn es++ #[]):=by
 unfold stepG.apply;simp only [hx,hk,if_true,Bool.false_eq_true,if_false];rfl
theorem yu {v:Value}(hx:s.runT Q w #[]=(.halt (.panic v) w1,es))(hk:(fr.kind==CallKind.early)=false):stepG.apply Q true fr cs none s w= .go (av (fr.raise [{v,recovered:=false}]) cs) w1 (seen Q fr.fn es++ #[]):=by
 unfold stepG.apply;simp only [hx,hk,if_true,Bool.false_eq_true,if_false];rfl
theorem ael {h:Halt}(hx:s.runT Q w #[]=(.halt h w1,es))(hd:oe h):∃o w2 es2,stepG.apply Q true fr cs none s w= .ended o w2 es2:=by
 unfold stepG.apply;simp only [hx,if_true];cases h with
 |stuck m=>exact ⟨_,_,_,rfl⟩
 |unsupported u=>
  cases u with
  |initOrder b=>exact absurd rfl (hd b)
  |_=>exact ⟨_,_,_,rfl⟩
 |_=>exact hd.elim
end
theorem fq (fr:Frame)(v:Value):(fr.finish v).roundOf=fr.roundOf∧(fr.finish v).kind=fr.kind:=by
 unfold Frame.finish;split <;> exact ⟨rfl,rfl⟩
theorem mo (fr:Frame)(vs:List PanicEntry):(fr.raise vs).roundOf=fr.roundOf∧(fr.raise vs).kind=fr.kind:=by
 unfold Frame.raise;split <;> exact ⟨rfl,rfl⟩
theorem qj (Q:Program)(fn:FuncId)(new:Array Event):∀e∈seen Q fn new++ #[],e∈new:=fun e he=>by
 rcases Array.mem_append.1 he with he|he
 ·exact kv _ _ _ e he
 ·simp at he
section
variable {P:Program}{fs:Array Func}{Z F:Nat→Prop}{π:Pm}{w w':World}{T T':List Frame}
theorem wh (C:Ctx P fs)(hA:At P Z F π w w'){fr:Frame}{A:List Frame}(hok:iz P (fr::A))(hst:Still w.heap.size π (fr::A)){s' s:Sem Next}{q:Next→Prop}
  (H:∀π',aw w.heap.size π π'→bp P fs π' q .next s' s)(hq:∀x,q x→en P x∨∃d,x= .defer d∧iy d.target=true∧fr.roundOf=none):
  lp P fs Z F π w w' T T' (stepG.apply P true fr (A++T) none s w) (stepG.apply (aq P fs) true (ax π fr) (A.map (ax π)++T') none s' w'):=by
 have hS:=rh (q:=q) (A:= .next) s s' [] π w w' #[] (fun π' ha=>H π' ha []) hA (fun r hr=>by cases hr) #[];have hfr:=hok.ok fr List.mem_cons_self;have hext:=hfr.qv;have hkind:∀fr:Frame,(∀x∈fr.todo,(match x with| .call .. | .extern .. =>false|_=>true)=true)→(match fr.todo with| .call _ true _ _::_=>CallKind.wrapped|_=> .normal)= .normal:=fun fr h=>by
  split
  ·rename_i heq;have:=h _ (by rw [heq];exact List.mem_cons_self);simp at this
  ·rfl
 have hke:(fr.kind==CallKind.early)=false:=by rcases hfr.kind with h|h <;> rw [h] <;> rfl
 have hke':((ax π fr).kind==CallKind.early)=false:=hke;have hk1:=hkind fr hext;have hk2:=hkind (ax π fr) (fun x hx=>by
  obtain ⟨y,hy,rfl⟩:=List.mem_map.1 (show x∈fr.todo.map (ez π) from hx);have:=hext y hy;cases y <;> first|rfl|simp at this)
 generalize hx:s.runT P w #[]=x at hS;obtain ⟨r,es⟩:=x;cases r with
 |ok a w1=>
  obtain ⟨hqa,π1,w1',new,he',hadv,hact⟩:=hS.ok;obtain ⟨hst1,heq⟩:=hst.adv hadv;have hst1':=hst1;rw [Still.cons] at hst1;simp only [List.map_cons,List.cons.injEq] at heq;rcases hq a hqa with hn|⟨d,rfl,hd,hro⟩
  ·cases a with
   |value v=>
    have hv:∀π2,aw w1.heap.size π1 π2→al π2 v=al π1 v:=fun π2 h=>Next.value.inj (hact π2 h)
    rw [nc hx hke,nc (v:=al π1 v) he' hke'];refine lr.mk hadv (hok.top (hfr.finish v) (fq fr v).1 (fq fr v).2) (kh hfr hst1.1 hv) hst1.2 ⟨seen (aq P fs) (ax π fr).fn new++ #[],qj (aq P fs) (ax π fr).fn new,?_⟩;rw [←l7 π1 fr v hext,heq.1,heq.2]
   |skip=>
    rw [rk hx hke,rk he' hke'];refine lr.mk hadv (hok.top (hfr.finish undef) (fq fr undef).1 (fq fr undef).2) (kh hfr hst1.1 (fun _ _=>rfl)) hst1.2 ⟨seen (aq P fs) (ax π fr).fn new++ #[],qj (aq P fs) (ax π fr).fn new,?_⟩;rw [←l7 π1 fr undef hext,heq.1,heq.2];rfl
   |enter f args=>
    have hv:∀π2,aw w1.heap.size π1 π2→az π2 args=az π1 args:=fun π2 h=>(Next.enter.inj (hact π2 h)).2
    rw [m8 hx hke hk1,m8 (f:=f) (args:=az π1 args) he' hke' hk2];refine ⟨Frame.enter P f args .normal,fr::A,rfl,hok.push (om C f args (.inl rfl)),π1,w1',_,_,?_,hadv.ya (qj (aq P fs) (ax π fr).fn new),.inr ⟨f,args,.normal,rfl,rfl,hv⟩,hst1'⟩;rw [List.map_cons,heq.1,heq.2];rfl
   |round l f tm a b=>
    have hv:∀π2,aw w1.heap.size π1 π2→π2.to l=π1.to l∧az π2 tm=az π1 tm:=fun π2 h=>by
     have:=Next.round.inj (hact π2 h);exact ⟨this.1,this.2.2.1⟩
    have hn1:(dy P a=true∧gk a=true)∧(dy P b=true∧gk b=true):=by
     have hn':(dy P a && gk a)=true∧(dy P b && gk b)=true:=hn
     simpa [Bool.and_eq_true] using hn'
    rw [yo hx hke,yo (l:=π1.to l) (f:=f) (tm:=az π1 tm) (a:=a) (b:=b) he' hke'];refine lr.mk (fr1:=Frame.round l f tm a b .normal) (A1:=fr::A) hadv (hok.push ⟨fun x hx=> ?_,by simp [Frame.round],.inl rfl,fun _=>⟨fun x hx=> ?_,rfl⟩⟩) (fun π2 h=> ?_) hst1' ⟨seen (aq P fs) (ax π fr).fn new++ #[],qj (aq P fs) (ax π fr).fn new,?_⟩
    ·have:x= .code a∨x= .beginRound∨x= .code b:=by simpa [Frame.round] using hx
     rcases this with rfl|rfl|rfl
     ·exact hn1.1.1
     ·rfl
     ·exact hn1.2.1
    ·have:x= .code a∨x= .beginRound∨x= .code b:=by simpa [Frame.round] using hx
     rcases this with rfl|rfl|rfl
     ·exact hn1.1.2
     ·rfl
     ·exact hn1.2.2
    ·simp only [ax,Frame.round,(hv π2 h).1,(hv π2 h).2,Option.map_some];rfl
    ·rw [List.map_cons,heq.1,heq.2];rfl
   |comm cs b sh=>
    obtain ⟨rfl,⟨c,rfl,hc⟩,rfl⟩:=hn;have he2:Sem.runT (aq P fs) s' w' #[]=(Result.ok (Next.comm #[gq π1 c] false CommShape.select) w1',new):=by
     rw [he'];simp [eg.next,km]
    rw [wj hx hke,wj he2 hke'];refine ⟨rfl,rfl,fr,A,rfl,hok,c,rfl,hc,π1,w1',_,?_,hadv.ya (qj (aq P fs) (ax π fr).fn new),fun π2 h=> ?_,hst1'⟩
    ·rw [heq.1,heq.2]
    ·have:=hact π2 h
     simpa [eg.next,km] using this
   |_=>exact hn.elim
  ·have hv:∀π2,aw w1.heap.size π1 π2→dz π2 d=dz π1 d:=fun π2 h=>Next.defer.inj (hact π2 h)
   have hok1:gp P {fr with defers:=d::fr.defers}:=⟨hfr.todo,fun x hx=>by
    rcases List.mem_cons.1 hx with rfl|hx
    ·exact hd
    ·exact hfr.defers x hx,hfr.kind,fun h=>by
    have h':fr.roundOf.isSome=true:=h;rw [hro] at h';cases h'⟩
   have hs1:∀π2,aw w1.heap.size π1 π2→ax π2 {fr with defers:=d::fr.defers}=ax π1 {fr with defers:=d::fr.defers}:=fun π2 h=>by
    have h1:=hst1.1 π2 h;simp only [ax,Frame.mk.injEq] at h1;simp only [ax,List.map_cons,hv π2 h,Frame.mk.injEq];exact ⟨h1.1,h1.2.1,h1.2.2.1,by rw [h1.2.2.2.1],h1.2.2.2.2⟩
   rw [yz hx hke,yz (d:=dz π1 d) he' hke'];refine lr.mk hadv (hok.top (hok1.finish undef) (fq _ undef).1 (fq _ undef).2) (kh hok1 hs1 (fun _ _=>rfl)) hst1.2 ⟨seen (aq P fs) (ax π fr).fn new++ #[],qj (aq P fs) (ax π fr).fn new,?_⟩;rw [←l7 π1 _ undef hok1.qv,heq.2];congr 2;rw [←heq.1];rfl
 |halt h w1=>
  by_cases hd:oe h
  ·obtain ⟨o,w2,es2,e⟩:=ael (fr:=fr) (cs:=A++T) hx hd;rw [e]
   trivial
  ·cases h with
   |panic v=>
    obtain ⟨π1,w1',new,he',hadv,hact⟩:=hS.panics;obtain ⟨hst1,heq⟩:=hst.adv hadv;rw [Still.cons] at hst1;simp only [List.map_cons,List.cons.injEq] at heq;rw [yu hx hke,yu (v:=al π1 v) he' hke'];refine lr.mk hadv (hok.top (hfr.raise _) (mo fr _).1 (mo fr _).2) (vd hst1.1 (fun π2 h=>by simp [j6,hact π2 h])) hst1.2 ⟨seen (aq P fs) (ax π fr).fn new++ #[],qj (aq P fs) (ax π fr).fn new,?_⟩;rw [←tc π1 fr,heq.1,heq.2];rfl
   |stuck m=>exact absurd trivial hd
   |unsupported u=>exact absurd hS hd
   |_=>exact hS.elim
end
section
variable {Q:Program}{m:Bool}{fr:Frame}{cs:List Frame}{w:World}
theorem sv (hm:fr.mode= .run):stepG Q m (av fr cs) w=stepG.exec Q m true fr cs none w:=by
 obtain ⟨fn,tmps,todo,defers,mode,kind,rof⟩:=fr;subst hm;rfl
theorem lh (hm:fr.mode≠ .run):stepG Q m (av fr cs) w=unwind Q m fr cs none w:=by
 obtain ⟨fn,tmps,todo,defers,mode,kind,rof⟩:=fr;cases mode with
 |run=>exact absurd rfl hm
 |_=>rfl
def ag4 (Q:Program)(why:String)(fr:Frame)(w:World):GStep:= .ended (.stuck why (fr.pos Q)) w
def rj (Q:Program)(m:Bool)(fr:Frame)(cs:List Frame)(jump:Option Code)(w:World):GStep:=
 match fr.roundOf with
 |none=>if jump matches none|some .ret then .go (av {fr with mode:= .returning} cs) w else ag4 Q "exit, goto: no such block or label" fr w
 |some l=>
  let (r,es):=(Instr.endRound l jump).runT Q w #[]
  GStep.after (seen Q fr.fn es) <|match r with
  | .ok v w=>doReturn Q m fr cs none v w
  | .halt _ w=> .ended (.stuck "range over a function: no such loop" (fr.pos Q)) w
def od (fr:Frame)(cs:List Frame)(t:List Item)(w:World):GStep:= .go (av {fr with todo:=t} cs) w
variable {k:List Item}
theorem ahw (h:fr.todo=[]):stepG.exec Q m true fr cs none w=rj Q m fr cs none w:=by
 obtain ⟨fn,tmps,todo,defers,mode,kind,rof⟩:=fr;subst (h:todo=_);rfl
theorem aij (h:fr.todo= .code .ret::k):stepG.exec Q m true fr cs none w=rj Q m fr cs (some .ret) w:=by
 obtain ⟨fn,tmps,todo,defers,mode,kind,rof⟩:=fr;subst (h:todo=_);rfl
theorem ae8 (h:fr.todo= .code .skip::k):stepG.exec Q m true fr cs none w=od fr cs k w:=by
 obtain ⟨fn,tmps,todo,defers,mode,kind,rof⟩:=fr;subst (h:todo=_);rfl
theorem aae {i:Nat}(h:fr.todo= .inBlock i::k):stepG.exec Q m true fr cs none w=od fr cs k w:=by
 obtain ⟨fn,tmps,todo,defers,mode,kind,rof⟩:=fr;subst (h:todo=_);rfl
theorem ahz {a b:Code}(h:fr.todo= .code (.seq a b)::k):stepG.exec Q m true fr cs none w=od fr cs (.code a:: .code b::k) w:=by
 obtain ⟨fn,tmps,todo,defers,mode,kind,rof⟩:=fr;subst (h:todo=_);rfl
theorem afo {c:Operand}{a b:Code}(h:fr.todo= .code (.cond c a b)::k):stepG.exec Q m true fr cs none w=(match fr.eval c with| .bool x=>od fr cs (.code (if x then a else b)::k) w|_=>ag4 Q "cond: bool expected" fr w):=by
 obtain ⟨fn,tmps,todo,defers,mode,kind,rof⟩:=fr;subst (h:todo=_);rfl
theorem ado {i:Nat}{a:Code}(h:fr.todo= .code (.block i a)::k):stepG.exec Q m true fr cs none w=od fr cs (.code a:: .inBlock i::k) w:=by
 obtain ⟨fn,tmps,todo,defers,mode,kind,rof⟩:=fr;subst (h:todo=_);rfl
theorem ae6 {a:Code}(h:fr.todo= .code (.loop a)::k):stepG.exec Q m true fr cs none w=od fr cs (.code a:: .inLoop a::k) w:=by
 obtain ⟨fn,tmps,todo,defers,mode,kind,rof⟩:=fr;subst (h:todo=_);rfl
theorem ab2 {a:Code}(h:fr.todo= .inLoop a::k):stepG.exec Q m true fr cs none w=od fr cs (.code a:: .inLoop a::k) w:=by
 obtain ⟨fn,tmps,todo,defers,mode,kind,rof⟩:=fr;subst (h:todo=_);rfl
theorem afi {i:Nat}(h:fr.todo= .code (.exit i)::k):stepG.exec Q m true fr cs none w=(match exitTo i k with|none=>rj Q m fr cs (some (.exit i)) w|some t=>od fr cs t w):=by
 obtain ⟨fn,tmps,todo,defers,mode,kind,rof⟩:=fr;subst (h:todo=_);unfold stepG.exec;dsimp only;cases exitTo i k <;> rfl
theorem ad5 {f:Operand}{ps:Array Tmp}{a b:Code}(h:fr.todo= .code (.rangeFunc f ps a b)::k):stepG.exec Q m true fr cs none w=
  (let (r,es):=(Instr.enterLoop fr.fn fr.tmps ps a b fr.roundOf).runT Q w #[]
   GStep.after (seen Q fr.fn es) <|match r with
   | .ok (l,mark) w=>stepG.apply Q true {fr with todo:= .inRangeFunc l::k,defers:=mark++fr.defers} cs none (do let d ←resolve fr.eval {callee:= .value f,args:=#[.const (.func (.yield l) #[] #[])],argTypes:=#[]} 0;invoke d.target d.args) w
   | .halt _ w=> .ended (.stuck "range over a function: no such loop" (fr.pos Q)) w):=by
 obtain ⟨fn,tmps,todo,defers,mode,kind,rof⟩:=fr;subst (h:todo=_);rfl
theorem aex {l:Nat}(h:fr.todo= .inRangeFunc l::k):∃o,stepG.exec Q m true fr cs none w= .ended o w:=by
 obtain ⟨fn,tmps,todo,defers,mode,kind,rof⟩:=fr;subst (h:todo=_);exact ⟨_,rfl⟩
theorem ad2 (h:fr.todo= .beginRound::k):stepG.exec Q m true fr cs none w=stepG.apply Q true fr cs none (do fr.roundOf.elim (stuck "beginRound: no round") Instr.beginRound;pure .skip) w:=by
 obtain ⟨fn,tmps,todo,defers,mode,kind,rof⟩:=fr;subst (h:todo=_);rfl
theorem y9 {l:Nat}(h:fr.todo= .endRangeFunc l::k):stepG.exec Q m true fr cs none w=
  (let (r,es):=(Instr.endLoop l).runT Q w #[]
   GStep.after (seen Q fr.fn es) <|match r with
   | .ok jump w=>od fr cs ((jump.map Item.code).toList++k) w
   | .halt (.panic v) w=> .go (av (fr.raise [{v,recovered:=false}]) cs) w
   | .halt _ w=> .ended (.stuck "range over a function: no such loop" (fr.pos Q)) w):=by
 obtain ⟨fn,tmps,todo,defers,mode,kind,rof⟩:=fr;subst (h:todo=_);rfl
theorem xy {s:String}(h:fr.todo= .code (.refuse s)::k):∃o,stepG.exec Q m true fr cs none w= .ended o w:=by
 obtain ⟨fn,tmps,todo,defers,mode,kind,rof⟩:=fr;subst (h:todo=_);exact ⟨_,rfl⟩
theorem abr {i:Nat}{ops:Array Oper}{d:Bool}(h:fr.todo= .code (.region i ops d)::k):stepG.exec Q m true fr cs none w=
  (if !d then od fr cs (.inRegion ops (List.range ops.size)::k) w
   else match (choose (.order fr.fn i)).run Q w with
    | .ok t w=>od fr cs (.inRegion ops (Region.schedule (Q.follows .mixedOrders) ops t)::k) w
    | .halt _ w=> .ended (.stuck "order" (fr.pos Q)) w):=by
 obtain ⟨fn,tmps,todo,defers,mode,kind,rof⟩:=fr;subst (h:todo=_);rfl
theorem xd {ops:Array Oper}(h:fr.todo= .inRegion ops []::k):stepG.exec Q m true fr cs none w=od fr cs k w:=by
 obtain ⟨fn,tmps,todo,defers,mode,kind,rof⟩:=fr;subst (h:todo=_);rfl
theorem vl {ops:Array Oper}{i:Nat}{r:List Nat}(h:fr.todo= .inRegion ops (i::r)::k):stepG.exec Q m true fr cs none w=
  (if ((ops[i]?).map (Region.wanted · (yielded ops fr.tmps))).getD false then stepG.oper Q true fr cs none w else .go (av (fr.finish undef) cs) w):=by
 obtain ⟨fn,tmps,todo,defers,mode,kind,rof⟩:=fr;subst (h:todo=_);rfl
end
section
variable {P:Program}{fs:Array Func}{Z F:Nat→Prop}{π π1 π2:Pm}{w w' w1 w1' w2 w2':World}{T T':List Frame}{new new2:Array Event}
theorem Adv.trans (h:Adv P Z F π w w' π1 w1 w1' new)(k:Adv P Z F π1 w1 w1' π2 w2 w2' new2):Adv P Z F π w w' π2 w2 w2' (new++new2) where
 agree:=h.agree.trans (k.agree.mono h.size)
 at_:=k.at_
 size:=Nat.le_trans h.size k.size
 qm:=h.qm.trans k.qm h.agree h.fresh
 evs:=fun e he=>by
  rcases Array.mem_append.1 he with he|he
  ·exact (h.evs e he).mono k.size k.agree
  ·exact k.evs e he
 fresh:=fun b h1 h2=>by
  by_cases hb:b<w1.heap.size
  ·rw [k.agree b hb];exact h.fresh b h1 hb
  ·exact Nat.le_trans h.qm.size (k.fresh b ai h2)
 os:=k.os.trans h.os
 idn:=fun e=>k.idn (h.idn e)
 out:=k.out.trans h.out
 cov:=agk h.cov k.cov k.agree h.size k.size
theorem ajr {α:Type}{a b a' b':Array α}(h1:∀e∈a,e∈a')(h2:∀e∈b,e∈b'):∀e∈a++b,e∈a'++b':=fun e he=>by
 rcases Array.mem_append.1 he with he|he
 ·exact Array.mem_append.2 (.inl (h1 e he))
 ·exact Array.mem_append.2 (.inr (h2 e he))
theorem lp.after (h:Adv P Z F π w w' π1 w1 w1' new){es es':Array Event}(hs:∀e∈es',e∈new){res res':GStep}(k:lp P fs Z F π1 w1 w1' T T' res res'):lp P fs Z F π w w' T T' (res.after es) (res'.after es'):=by
 cases res with
 |go g w2 ev=>
  obtain ⟨fr1,A1,e,hok,π2,w2',fr1',new2,rfl,ha,ht,hst⟩:=k;exact ⟨fr1,A1,e,hok,π2,w2',fr1',es'++new2,rfl,(h.trans ha).ya (ajr hs fun _ h=>h),ht,hst⟩
 |comm g cs b sh w2 ev=>
  obtain ⟨h1,h2,fr,A,h3,h4,c,h5,h6,π2,w2',new2,rfl,ha,hr⟩:=k;exact ⟨h1,h2,fr,A,h3,h4,c,h5,h6,π2,w2',es'++new2,rfl,(h.trans ha).ya (ajr hs fun _ h=>h),hr⟩
 |ended o w2 ev=>trivial
 |_=>exact k.elim
theorem Base.adv (h:Base π w.heap.size)(a:Adv P Z F π w w' π1 w1 w1' new):Base π1 w1.heap.size:=
 ⟨Nat.lt_of_lt_of_le h.1 a.size,fun n hn=>by rw [a.agree n (by have:=h.1;omega)];exact h.2 n hn⟩
theorem gy {N:Nat}{fr:Frame}(h:∀π',aw N π π'→ax π' fr=ax π fr)(π':Pm)(ha:aw N π π'):
  az π' fr.tmps=az π fr.tmps∧fr.todo.map (ez π')=fr.todo.map (ez π)∧fr.defers.map (dz π')=fr.defers.map (dz π)∧ko π' fr.mode=ko π fr.mode∧fr.roundOf.map π'.to=fr.roundOf.map π.to:=by
 have:=h π' ha;simp only [ax,Frame.mk.injEq] at this;exact ⟨this.2.1,this.2.2.1,this.2.2.2.1,this.2.2.2.2.1,this.2.2.2.2.2.2⟩
theorem gp.to {fr:Frame}{t:List Item}(h:gp P fr)(h1:∀x∈t,lk P x=true)(h2:fr.roundOf.isSome=true→∀x∈t,sm x=true):gp P {fr with todo:=t}:=
 ⟨h1,h.defers,h.kind,fun hr=>⟨h2 hr,(h.round hr).2⟩⟩
theorem oh (hA:At P Z F π w w'){fr:Frame}{A:List Frame}(hok:iz P (fr::A))(hst:Still w.heap.size π (fr::A)){t:List Item}(h1:∀x∈t,lk P x=true)(h2:fr.roundOf.isSome=true→∀x∈t,sm x=true)
  (h3:∀π',aw w.heap.size π π'→t.map (ez π')=t.map (ez π)):lp P fs Z F π w w' T T' (od fr (A++T) t w) (od (ax π fr) (A.map (ax π)++T') (t.map (ez π)) w'):=by
 have hfr:=hok.ok fr List.mem_cons_self;rw [Still.cons] at hst;refine lr.abo hA (hok.top (hfr.to h1 h2) rfl rfl) (Still.cons.2 ⟨fun π' ha=> ?_,hst.2⟩) rfl;obtain ⟨a1,a2,a3,a4,a5⟩:=gy hst.1 π' ha;simp only [ax,Frame.mk.injEq];exact ⟨trivial,a1,h3 π' ha,a3,a4,trivial,a5⟩
def me (k:CallKind)(c:Frame)(v:Value):Frame:=
 match k with
 | .normal=>c.finish v
 |_=>
  match c.mode with
  | .panicking ({recovered:=true,..}::older)=>
   match older.dropWhile (!·.goexit) with
   | []=>{c with mode:= .returning}
   |rest=>{c with mode:= .panicking rest}
  |_=>c
theorem pf {Q:Program}{m:Bool}{fr c:Frame}{cs:List Frame}{v:Value}{w:World}(hk:fr.kind= .normal∨fr.kind= .deferred):doReturn Q m fr (c::cs) none v w= .go (av (me fr.kind c v) cs) w:=by
 unfold doReturn me;rcases hk with hk|hk <;> simp only [hk] <;> rfl
theorem abf (π:Pm):∀l:List PanicEntry,(l.map (j6 π)).dropWhile (!·.goexit)=(l.dropWhile (!·.goexit)).map (j6 π)
 | []=>rfl
 |x::l=>by
  rw [List.map_cons,List.dropWhile_cons,List.dropWhile_cons];have:(j6 π x).goexit=x.goexit:=rfl;rw [this];split
  ·exact abf π l
  ·rfl
theorem aac (π:Pm)(k:CallKind)(c:Frame)(v:Value)(hc:gp P c):me k (ax π c) (al π v)=ax π (me k c v):=by
 have key:∀k:CallKind,k≠ .normal→me k (ax π c) (al π v)=ax π (me k c v):=fun k hk=>by
  obtain ⟨fn,tmps,todo,defers,mode,kind,rof⟩:=c;have:∀c:Frame,me k c v=me .deferred c v:=fun c=>by cases k <;> first|exact absurd rfl hk|rfl
  have h2:∀c:Frame,me k c (al π v)=me .deferred c v:=fun c=>by cases k <;> first|exact absurd rfl hk|rfl
  rw [this,h2];cases mode with
  |panicking l=>
   cases l with
   |nil=>rfl
   |cons e older=>
    obtain ⟨ev,rec,gx⟩:=e;cases rec with
    |false=>rfl
    |true=>
     simp only [me,ax,ko,List.map_cons,j6];have:=abf π older;simp only [j6] at this;rw [this];cases older.dropWhile (!·.goexit) <;> rfl
  |_=>rfl
 cases k with
 |normal=>exact l7 π c v hc.qv
 |_=>exact key _ ae
theorem anm {k:CallKind}{c:Frame}(v:Value)(hc:gp P c):gp P (me k c v)∧(me k c v).roundOf=c.roundOf∧(me k c v).kind=c.kind:=by
 have key:∀m:FrameMode,gp P {c with mode:=m}:=fun m=>⟨hc.todo,hc.defers,hc.kind,hc.round⟩
 unfold me;split
 ·exact ⟨hc.finish v,(fq c v).1,(fq c v).2⟩
 ·split
  ·split
   ·exact ⟨key _,rfl,rfl⟩
   ·exact ⟨key _,rfl,rfl⟩
  ·exact ⟨hc,rfl,rfl⟩
theorem ag6 {N:Nat}{k:CallKind}{c:Frame}{v:Value}(hc:gp P c)(h1:∀π',aw N π π'→ax π' c=ax π c)(h2:∀π',aw N π π'→al π' v=al π v):∀π',aw N π π'→ax π' (me k c v)=ax π (me k c v):=fun π' ha=>by
 rw [←aac π' k c v hc,←aac π k c v hc,h1 π' ha,h2 π' ha]
theorem yl {m m':Bool}{fr c:Frame}{A:List Frame}{v:Value}(hok:iz P (fr::c::A))(hst:Still w1.heap.size π1 (c::A))(hv:∀π2,aw w1.heap.size π1 π2→al π2 v=al π1 v)(hadv:Adv P Z F π w w' π1 w1 w1' new)
  {fr':Frame}(hk:fr'.kind=fr.kind){es es':Array Event}(hs:∀e∈es',e∈new):
  lp P fs Z F π w w' T T' ((doReturn P m fr (c::A++T) none v w1).after es) ((doReturn (aq P fs) m' fr' ((c::A).map (ax π1)++T') none (al π1 v) w1').after es'):=by
 have hfr:=hok.ok fr List.mem_cons_self;have hc:=hok.ok c ae;rw [Still.cons] at hst;rw [List.cons_append,pf hfr.kind,List.map_cons,List.cons_append,pf (by rw [hk];exact hfr.kind),hk,aac π1 fr.kind c v hc];have hb:=anm (k:=fr.kind) v hc;refine lr.mk hadv (hok.pop.top hb.1 hb.2.1 hb.2.2) (ag6 hc hst.1 hv) hst.2 ⟨es'++ #[],fun e he=> ?_,rfl⟩;simp only [Array.append_empty] at he;exact hs e he
end
section
variable {P:Program}{fs:Array Func}{Z F:Nat→Prop}{π π1 π2:Pm}{w w' w1 w1' w2 w2':World}{T T':List Frame}{new new2:Array Event}
theorem yq {Q:Program}{m:Bool}{fr:Frame}{cs:List Frame}{jump:Option Code}{w:World}(h:fr.roundOf=none)(hj:jump=none∨jump=some .ret):rj Q m fr cs jump w= .go (av {fr with mode:= .returning} cs) w:=by
 obtain ⟨fn,tmps,todo,defers,mode,kind,rof⟩:=fr;subst (h:rof=none);rcases hj with rfl|rfl <;> rfl
theorem ab3 {Q:Program}{m:Bool}{fr:Frame}{cs:List Frame}{jump:Option Code}{w:World}(h:fr.roundOf=none)(hj:¬(jump=none∨jump=some .ret)):rj Q m fr cs jump w=ag4 Q "exit, goto: no such block or label" fr w:=by
 obtain ⟨fn,tmps,todo,defers,mode,kind,rof⟩:=fr;subst (h:rof=none);cases jump with
 |none=>exact absurd (.inl rfl) hj
 |some c=>cases c <;> first|rfl|exact absurd (.inr rfl) hj
theorem vx {Q:Program}{m:Bool}{fr:Frame}{cs:List Frame}{jump:Option Code}{w:World}{l:Nat}(h:fr.roundOf=some l):rj Q m fr cs jump w=(let (r,es):=(Instr.endRound l jump).runT Q w #[]
  GStep.after (seen Q fr.fn es) <|match r with
  | .ok v w=>doReturn Q m fr cs none v w
  | .halt _ w=> .ended (.stuck "range over a function: no such loop" (fr.pos Q)) w):=by
 obtain ⟨fn,tmps,todo,defers,mode,kind,rof⟩:=fr;subst (h:rof=some l);rfl
theorem aa5 (C:Ctx P fs)(hA:At P Z F π w w'){m m':Bool}{fr:Frame}{A:List Frame}(hok:iz P (fr::A))(hst:Still w.heap.size π (fr::A))(jump:Option Code)(hj:∀c,jump=some c→dy P c=true∧gk c=true):
  lp P fs Z F π w w' T T' (rj P m fr (A++T) jump w) (rj (aq P fs) m' (ax π fr) (A.map (ax π)++T') jump w'):=by
 have hfr:=hok.ok fr List.mem_cons_self;have hst0:=hst;rw [Still.cons] at hst;cases hro:fr.roundOf with
 |none=>
  have hro':(ax π fr).roundOf=none:=by simp [ax,hro]
  by_cases hjr:jump=none∨jump=some .ret
  ·rw [yq hro hjr,yq hro' hjr];refine lr.abo hA (fr1:={fr with mode:= .returning}) (hok.top ⟨hfr.todo,hfr.defers,hfr.kind,hfr.round⟩ rfl rfl) (Still.cons.2 ⟨fun π' ha=> ?_,hst.2⟩) rfl;obtain ⟨a1,a2,a3,a4,a5⟩:=gy hst.1 π' ha;simp only [ax,Frame.mk.injEq];exact ⟨trivial,a1,a2,a3,rfl,trivial,a5⟩
  ·rw [ab3 hro hjr];exact trivial
 |some l=>
  have hro':(ax π fr).roundOf=some (π.to l):=by simp [ax,hro]
  have hl:∀π',aw w.heap.size π π'→π'.to l=π.to l:=fun π' ha=>by
   have:=(gy hst.1 π' ha).2.2.2.2
   simpa [hro] using this
  rw [vx hro,vx hro'];have hS:=rh (P:=P) (P':=aq P fs) (q:=fun _=>True) (A:= .val) (Instr.endRound l jump) (Instr.endRound (π.to l) jump) [] π w w' #[] (fun π' ha=>by
   rw [←hl π' ha];exact (aa.endRound l jump hj).f (fs:=fs) []) hA (fun r hr=>by cases hr) #[]
  generalize (Instr.endRound l jump).runT P w #[]=x at hS;obtain ⟨r,es⟩:=x;cases r with
  |halt h w1=>exact trivial
  |ok v w1=>
   obtain ⟨-,π1,w1',new,he,hadv,hact⟩:=hS.ok;obtain ⟨hst1,heq⟩:=hst0.adv hadv;rw [Still.cons] at hst1;simp only [List.map_cons,List.cons.injEq] at heq;cases A with
   |nil=>
    obtain ⟨b,hb,h1,h2⟩:=hok.bot;obtain rfl:fr=b:=by simpa using hb
    rw [hro] at h1;cases h1
   |cons c A=>
    simp only [he];rw [←heq.2];exact yl hok hst1.2 hact hadv (fr':=ax π fr) rfl (kv _ _ _)
theorem wv {fr:Frame}(hfr:gp P fr){x:Item}{k:List Item}(h:fr.todo=x::k):(lk P x=true∧∀y∈k,lk P y=true)∧(fr.roundOf.isSome=true→sm x=true∧∀y∈k,sm y=true):=
 ⟨⟨hfr.todo x (by rw [h];simp),fun y hy=>hfr.todo y (by rw [h];simp [hy])⟩,fun hr=>⟨(hfr.round hr).1 x (by rw [h];simp),fun y hy=>(hfr.round hr).1 y (by rw [h];simp [hy])⟩⟩
theorem all_cons {α:Type}{p:α→Prop}{x:α}{k:List α}(h:p x)(hk:∀y∈k,p y):∀y∈x::k,p y:=fun y hy=>by
 rcases List.mem_cons.1 hy with rfl|hy
 ·exact h
 ·exact hk y hy
theorem al7 {t k:List Item}(h:∀x∈t,x∈k){π π':Pm}(hk:k.map (ez π')=k.map (ez π)):t.map (ez π')=t.map (ez π):=by
 refine List.map_congr_left fun x hx=> ?_
 have:=h x hx;clear hx h
 induction k with
 |nil=>cases this
 |cons y k ih=>
  simp only [List.map_cons,List.cons.injEq] at hk;rcases List.mem_cons.1 this with rfl|h
  ·exact hk.1
  ·exact ih hk.2 h
theorem aa6 {ρ:Operand→Value}{o:Oper}(h:isRec o=true):Go.execOp ρ o=Pure.pure .recover:=by
 obtain ⟨dst,op,ty,pos,aft,gd⟩:=o;unfold isRec at h;cases op with
 |call c=>
  obtain ⟨callee,as,ats⟩:=c;cases callee with
  |builtin b=>cases b <;> first|rfl|simp at h
  |_=>simp at h
 |_=>simp at h
theorem px {Q:Program}{fr:Frame}{cs:List Frame}{w:World}{o:Oper}(h:fr.oper? =some o)(hd:fr.roundOf=none∨∀c,o.op≠ .defer c):stepG.oper Q true fr cs none w=stepG.apply Q true fr cs none (execOp fr.eval o) w:=by
 unfold stepG.oper;rw [h];dsimp only;split
 ·rename_i l c h1 h2;rcases hd with hd|hd
  ·rw [hd] at h1;cases h1
  ·exact absurd h2 (hd c)
 ·rfl
theorem vu {Q:Program}{fr:Frame}{cs:List Frame}{w:World}(hk:(fr.kind==CallKind.early)=false)(hr:fr.roundOf=none):stepG.apply Q true fr cs none (Pure.pure .recover) w=(match tryRecover fr cs with
  |some (v,callers)=> .go (av (fr.finish v) callers) w #[]
  |none=> .go (av (fr.finish .nilIface) cs) w #[]):=by
 have hx:(Pure.pure .recover:Sem Next).runT Q w #[]=(.ok .recover w,#[]):=rfl;obtain ⟨fn,tmps,todo,defers,mode,kind,rof⟩:=fr;subst (hr:rof=none);unfold stepG.apply;simp only [hx,hk,if_true,Bool.false_eq_true,if_false];cases tryRecover _ cs with
 |none=>rfl
 |some x=>rfl
theorem amm (C:Ctx P fs)(hA:At P Z F π w w')(hb:Base π w.heap.size){fr:Frame}{A:List Frame}(hok:iz P (fr::A))(hst:Still w.heap.size π (fr::A)){ops:Array Oper}{i:Nat}{r:List Nat}{k:List Item}(ht:fr.todo= .inRegion ops (i::r)::k):
  lp P fs Z F π w w' T T' (stepG.oper P true fr (A++T) none w) (stepG.oper (aq P fs) true (ax π fr) (A.map (ax π)++T') none w'):=by
 have hfr:=hok.ok fr List.mem_cons_self;have hst':=Still.cons.1 hst;have ht':(ax π fr).todo= .inRegion ops (i::r)::k.map (ez π):=by simp [ax,ht,ez]
 have e1:fr.oper? =ops[i]? :=by unfold Frame.oper?;rw [ht]
 have e2:(ax π fr).oper? =ops[i]? :=by unfold Frame.oper?;rw [ht']
 obtain ⟨⟨hx,hk⟩,hmild⟩:=wv hfr ht;have hke:(fr.kind==CallKind.early)=false:=by rcases hfr.kind with h|h <;> rw [h] <;> rfl
 cases ho:ops[i]? with
 |none=>
  have:stepG.oper P true fr (A++T) none w= .ended (.stuck "no operation here" (fr.pos P)) w:=by
   unfold stepG.oper;rw [e1,ho]
  rw [this]
  trivial
 |some o=>
  rw [ho] at e1 e2;have hmem:o∈ops:=Array.mem_of_getElem? ho;have hoo:qd P o=true:=by
   have:ops.all (qd P)=true:=hx;rw [Array.all_eq_true_iff_forall_mem] at this;exact this o hmem
  have hom:fr.roundOf.isSome=true→pk o=true:=fun hr=>by
   have:ops.all pk=true:=(hmild hr).1;rw [Array.all_eq_true_iff_forall_mem] at this;exact this o hmem
  by_cases hrec:isRec o=true
  ·have hro:fr.roundOf=none:=by
      cases h:fr.roundOf with
      |none=>rfl
      |some l=>
       have:=hom (by rw [h];rfl);simp [pk,hrec] at this
   have hro':(ax π fr).roundOf=none:=by simp [ax,hro]
   rw [px e1 (.inl hro),px e2 (.inl hro'),aa6 hrec,aa6 hrec,vu hke hro,vu (fr:=ax π fr) hke hro'];have ff:lp P fs Z F π w w' T T' (.go (av (fr.finish .nilIface) (A++T)) w #[]) (.go (av ((ax π fr).finish .nilIface) (A.map (ax π)++T')) w' #[]):=by
    refine lr.abo hA (hok.top (hfr.finish _) (fq fr _).1 (fq fr _).2) (Still.cons.2 ⟨kh hfr hst'.1 (fun _ _=>rfl),hst'.2⟩) ?_;rw [←l7 π fr .nilIface hfr.qv];rfl
   rcases hfr.kind with hkd|hkd
   ·have t1:∀(g:Frame) cs,g.kind= .normal→tryRecover g cs=none:=fun g cs h=>by unfold tryRecover;rw [h]
    rw [t1 _ _ hkd,t1 (ax π fr) _ hkd];exact ff
   ·cases A with
    |nil=>
     obtain ⟨b,hbb,-,h2⟩:=hok.bot;obtain rfl:fr=b:=by simpa using hbb
     rw [hkd] at h2;cases h2
    |cons c A=>
     have t1:∀(g d:Frame) cs,g.kind= .deferred→tryRecover g (d::cs)=(match d.mode with| .panicking ({v,recovered:=false,goexit:=false}::older)=>some (v,{d with mode:= .panicking ({v,recovered:=true}::older)}::cs)|_=>none):=fun g d cs h=>by
      unfold tryRecover;rw [h];rfl
     rw [List.cons_append,List.map_cons,List.cons_append,t1 _ _ _ hkd,t1 (ax π fr) _ _ hkd];have hc:=hok.ok c ae;have hstc:=Still.cons.1 hst'.2;rw [show (ax π c).mode=ko π c.mode from rfl];cases hm:c.mode with
     |panicking l=>
      cases l with
      |nil=>exact ff
      |cons e older=>
       obtain ⟨v,rec,gx⟩:=e;cases rec with
       |true=>exact ff
       |false=>
        cases gx with
        |true=>exact ff
        |false=>
         have hm':∀π',aw w.heap.size π π'→al π' v=al π v∧older.map (j6 π')=older.map (j6 π):=fun π' ha=>by
          have:=(gy hstc.1 π' ha).2.2.2.1;rw [hm] at this;simp only [ko,List.map_cons,FrameMode.panicking.injEq,List.cons.injEq,j6,PanicEntry.mk.injEq] at this;exact ⟨this.1.1,this.2⟩
         refine lr.abo (A1:={c with mode:= .panicking ({v,recovered:=true}::older)}::A) hA ?_ (Still.cons.2 ⟨kh hfr hst'.1 (fun π' ha=>(hm' π' ha).1),Still.cons.2 ⟨fun π' ha=> ?_,hstc.2⟩⟩) ?_
         ·have hc':gp P {c with mode:= .panicking ({v,recovered:=true}::older)}:=⟨hc.todo,hc.defers,hc.kind,hc.round⟩;have:=hok.pop.top hc' rfl rfl;refine ⟨all_cons (hfr.finish v) this.ok,?_⟩;obtain ⟨b,hb1,hb2,hb3⟩:=this.bot;exact ⟨b,by simpa [List.getLast?_cons_cons] using hb1,hb2,hb3⟩
         ·obtain ⟨a1,a2,a3,a4,a5⟩:=gy hstc.1 π' ha;simp only [ax,Frame.mk.injEq];refine ⟨trivial,a1,a2,a3,?_,trivial,a5⟩;simp only [ko,List.map_cons,j6,(hm' π' ha).1,(hm' π' ha).2]
         ·rw [←l7 π fr v hfr.qv];rfl
     |run=>exact ff
     |returning=>exact ff
  ·have hop:tn P o=true:=by
      simp only [qd,Bool.or_eq_true] at hoo;exact hoo.resolve_right hrec
   have hrho:∀π',aw w.heap.size π π'→Rho π' (ax π fr).eval fr.eval:=fun π' ha=>by
    rw [←hst'.1 π' ha];exact we π' fr
   by_cases hdf:∃c,o.op= .defer c
   ·obtain ⟨c,hc⟩:=hdf;have hro:fr.roundOf=none:=by
     cases h:fr.roundOf with
     |none=>rfl
     |some l=>
      have:=hom (by rw [h];rfl);simp [pk,hc] at this
    have hro':(ax π fr).roundOf=none:=by simp [ax,hro]
    rw [px e1 (.inl hro),px e2 (.inl hro')];exact wh C hA hok hst (q:=fun x=>∃d,x= .defer d∧iy d.target=true) (fun π' ha=>bp.af5 (hrho π' ha) o c hc hop) fun x ⟨d,h1,h2⟩=> .inr ⟨d,h1,h2,hro⟩
   ·have hnd:∀c,o.op≠ .defer c:=fun c h=>hdf ⟨c,h⟩
    rw [px e1 (.inr hnd),px e2 (.inr hnd)];exact wh C hA hok hst (q:=en P) (fun π' ha=>bp.execOp (C.fixed hb ha) C.globals C.alike (hrho π' ha) (fun _ _=>rfl) o hop hnd) fun x hx=> .inl hx
theorem aog (C:Ctx P fs)(hA:At P Z F π w w')(hb:Base π w.heap.size){m m':Bool}{fr:Frame}{A:List Frame}(hok:iz P (fr::A))(hst:Still w.heap.size π (fr::A)):
  lp P fs Z F π w w' T T' (stepG.exec P m true fr (A++T) none w) (stepG.exec (aq P fs) m' true (ax π fr) (A.map (ax π)++T') none w'):=by
 have hfr:=hok.ok fr List.mem_cons_self;have hst':=Still.cons.1 hst;cases ht:fr.todo with
 |nil=>
  rw [ahw ht,ahw (fr:=ax π fr) (by simp [ax,ht])];exact aa5 C hA hok hst none (fun c h=>by cases h)
 |cons x k=>
  have ht':(ax π fr).todo=ez π x::k.map (ez π):=by simp [ax,ht]
  obtain ⟨⟨hx,hk⟩,hmild⟩:=wv hfr ht;have hkst:∀π',aw w.heap.size π π'→k.map (ez π')=k.map (ez π):=fun π' ha=>by
   have:=(gy hst'.1 π' ha).2.1;rw [ht] at this;simp only [List.map_cons,List.cons.injEq] at this;exact this.2
  have hxst:∀π',aw w.heap.size π π'→ez π' x=ez π x:=fun π' ha=>by
   have:=(gy hst'.1 π' ha).2.1;rw [ht] at this;simp only [List.map_cons,List.cons.injEq] at this;exact this.1
  cases x with
  |call=>simp [lk] at hx
  |extern=>simp [lk] at hx
  |inScope=>simp [lk] at hx
  |inBlock i=>
   rw [aae ht,aae ht'];exact oh hA hok hst hk (fun hr=>(hmild hr).2) hkst
  |inLoop a=>
   rw [ab2 ht,ab2 ht'];exact oh hA hok hst (all_cons hx (all_cons hx hk)) (fun hr=>all_cons (hmild hr).1 (all_cons (hmild hr).1 (hmild hr).2)) (fun π' ha=>by simp only [List.map_cons,hkst π' ha];rfl)
  |inRangeFunc l=>
   obtain ⟨o,e⟩:=aex (Q:=P) (m:=m) (fr:=fr) (cs:=A++T) (w:=w) ht;rw [e]
   trivial
  |beginRound=>
   rw [ad2 ht,ad2 ht'];refine wh C hA hok hst (q:=en P) (fun π' ha=> ?_) fun x hx=> .inl hx
   have hF:=C.fixed hb ha;cases hro:fr.roundOf with
   |none=>exact bp.bind (.none Unit) (bp.stuck (.none Unit) _) (q:=fun _=>True) fun _ _=>bp.pure .next rfl trivial
   |some l=>
    have:(ax π fr).roundOf=some (π'.to l):=by
     have:=(gy hst'.1 π' ha).2.2.2.2;rw [show (ax π fr).roundOf=fr.roundOf.map π.to from rfl,←this,hro];rfl
    rw [this];exact bp.ofU (aa.beginRound hF l)
  |endRangeFunc l=>
   rw [y9 ht,y9 ht'];have hS:=rh (P:=P) (P':=aq P fs) (q:=fun j=>∀c,j=some c→dy P c=true∧gk c=true) (A:= .none (Option Code)) (Instr.endLoop l) (Instr.endLoop (π.to l)) [] π w w' #[] (fun π' ha=>by
    have:=hxst π' ha;simp only [ez,Item.endRangeFunc.injEq] at this;rw [←this];exact (gn.endLoop (C.fixed hb ha) l).f (fs:=fs) []) hA (fun r hr=>by cases hr) #[]
   generalize (Instr.endLoop l).runT P w #[]=x at hS;obtain ⟨r,es⟩:=x;cases r with
   |ok j w1=>
    obtain ⟨hj,π1,w1',new,he,hadv,-⟩:=hS.ok;obtain ⟨hst1,heq⟩:=hst.adv hadv;simp only [List.map_cons,List.cons.injEq] at heq;rw [show Instr.endLoop (π.to l)=Instr.endLoop (π.to l) from rfl] at he;simp only [he];refine lp.after hadv (kv _ _ _) ?_;have e2:od (ax π fr) (A.map (ax π)++T') ((Option.map Item.code j).toList++k.map (ez π)) w1'=od (ax π1 fr) (A.map (ax π1)++T') (((Option.map Item.code j).toList++k).map (ez π1)) w1':=by
     rw [heq.1,heq.2];have:k.map (ez π1)=k.map (ez π):=hkst π1 hadv.agree;cases j <;> simp [this,ez]
    show lp P fs Z F π1 w1 w1' T T' _ (od (ax π fr) (A.map (ax π)++T') ((Option.map Item.code j).toList++k.map (ez π)) w1');rw [e2];refine oh hadv.at_ hok hst1 ?_ ?_ ?_
    ·cases j with
     |none=>simpa using hk
     |some c=>simpa using ⟨(hj c rfl).1,hk⟩
    ·intro hr;cases j with
     |none=>simpa using (hmild hr).2
     |some c=>simpa using ⟨(hj c rfl).2,(hmild hr).2⟩
    ·intro π' ha;have h1:=hkst π' (hadv.agree.trans (ha.mono hadv.size));have h2:=hkst π1 hadv.agree;cases j <;> simp [h1,h2,ez]
   |halt h w1=>
    cases h with
    |panic v=>
     obtain ⟨π1,w1',new,he,hadv,hact⟩:=hS.panics;obtain ⟨hst1,heq⟩:=hst.adv hadv;have hst2:=Still.cons.1 hst1;simp only [List.map_cons,List.cons.injEq] at heq;simp only [he];refine lp.after hadv (kv _ _ _) ?_;refine lr.abo hadv.at_ (hok.top (hfr.raise _) (mo fr _).1 (mo fr _).2) (Still.cons.2 ⟨vd hst2.1 (fun π' h=>by simp [j6,hact π' h]),hst2.2⟩) ?_;rw [←tc π1 fr,heq.1,heq.2];rfl
    |_=>exact trivial
  |inRegion ops todo=>
   cases todo with
   |nil=>
    rw [xd ht,xd ht'];exact oh hA hok hst hk (fun hr=>(hmild hr).2) hkst
   |cons i r=>
    rw [vl ht,vl (r:=r) ht'];rw [show (ax π fr).tmps=az π fr.tmps from rfl,vk];split
    ·exact amm C hA hb hok hst ht
    ·refine lr.abo hA (hok.top (hfr.finish undef) (fq fr undef).1 (fq fr undef).2) (Still.cons.2 ⟨kh hfr hst'.1 (fun _ _=>rfl),hst'.2⟩) ?_;rw [←l7 π fr undef hfr.qv];rfl
  |code c=>
   have hxo:dy P c=true:=hx;have hxm:fr.roundOf.isSome=true→gk c=true:=fun hr=>(hmild hr).1
   have hkm:fr.roundOf.isSome=true→∀y∈k,sm y=true:=fun hr=>(hmild hr).2
   cases c with
   |scope=>simp [dy] at hxo
   |label=>simp [dy] at hxo
   |goto=>simp [dy] at hxo
   |ret=>
    rw [aij ht,aij ht'];exact aa5 C hA hok hst _ fun c h=>by cases h;exact ⟨rfl,rfl⟩
   |skip=>
    rw [ae8 ht,ae8 ht'];exact oh hA hok hst hk hkm hkst
   |seq a b=>
    rw [ahz ht,ahz ht'];simp only [dy,Bool.and_eq_true] at hxo;simp only [gk,Bool.and_eq_true] at hxm;exact oh hA hok hst (all_cons hxo.1 (all_cons hxo.2 hk)) (fun hr=>all_cons (hxm hr).1 (all_cons (hxm hr).2 (hkm hr))) (fun π' ha=>by simp only [List.map_cons,hkst π' ha];rfl)
   |block i a=>
    rw [ado ht,ado ht'];exact oh hA hok hst (all_cons hxo (all_cons rfl hk)) (fun hr=>all_cons (hxm hr) (all_cons rfl (hkm hr))) (fun π' ha=>by simp only [List.map_cons,hkst π' ha];rfl)
   |loop a=>
    rw [ae6 ht,ae6 ht'];exact oh hA hok hst (all_cons hxo (all_cons hxo hk)) (fun hr=>all_cons (hxm hr) (all_cons (hxm hr) (hkm hr))) (fun π' ha=>by simp only [List.map_cons,hkst π' ha];rfl)
   |cond c a b=>
    rw [afo ht,afo ht'];simp only [dy,Bool.and_eq_true] at hxo;simp only [gk,Bool.and_eq_true] at hxm;rw [we π fr c hxo.1.1];cases fr.eval c with
    |bool x=>
     exact oh hA hok hst (all_cons (by cases x <;> simp [lk,hxo]) hk) (fun hr=>all_cons (by cases x <;> simp [sm,hxm hr]) (hkm hr)) (fun π' ha=>by simp only [List.map_cons,hkst π' ha];rfl)
    |_=>exact trivial
   |exit i=>
    rw [afi ht,afi ht',aa2];cases h:exitTo i k with
    |none=>exact aa5 C hA hok hst _ fun c h=>by cases h;exact ⟨rfl,rfl⟩
    |some t=>
     have hm:=zy i k t h;exact oh hA hok hst (fun y hy=>hk y (hm y hy)) (fun hr y hy=>hkm hr y (hm y hy)) fun π' ha=>al7 hm (hkst π' ha)
   |refuse s=>
    obtain ⟨o,e⟩:=xy (Q:=P) (m:=m) (fr:=fr) (cs:=A++T) (w:=w) ht;rw [e]
    trivial
   |region i ops d=>
    rw [abr ht,abr ht'];have hit:lk P (.inRegion ops (List.range ops.size))=true:=hxo;cases d with
    |false=>exact oh hA hok hst (all_cons hxo hk) (fun hr=>all_cons (hxm hr) (hkm hr)) (fun π' ha=>by simp only [List.map_cons,hkst π' ha];rfl)
    |true=>
     have hS:=rh (P:=P) (P':=aq P fs) (q:=fun _=>True) (A:= .none Nat) (choose (.order fr.fn i)) (choose (.order (ax π fr).fn i)) [] π w w' #[] (fun π' ha=> .choose _ fun n=> .pure (f:=(eg.none Nat).act π') n trivial) hA (fun r hr=>by cases hr) #[];simp only [Bool.not_true,Bool.false_eq_true,if_false];rw [←Sem.runT_fst P _ w #[],←Sem.runT_fst (aq P fs) _ w' #[]];generalize (choose (.order fr.fn i)).runT P w #[]=x at hS;obtain ⟨r,es⟩:=x;cases r with
     |halt h w1=>exact trivial
     |ok t w1=>
      obtain ⟨-,π1,w1',new,he,hadv,-⟩:=hS.ok;obtain ⟨hst1,heq⟩:=hst.adv hadv;simp only [List.map_cons,List.cons.injEq] at heq;simp only [he];have e2:∀l,od (ax π fr) (A.map (ax π)++T') (.inRegion ops l::k.map (ez π)) w1'=od (ax π1 fr) (A.map (ax π1)++T') ((Item.inRegion ops l::k).map (ez π1)) w1':=fun l=>by
       rw [heq.1,heq.2];have:k.map (ez π1)=k.map (ez π):=hkst π1 hadv.agree;simp [this,ez]
      have:=lp.after (T:=T) (T':=T') (fs:=fs) hadv (es:=#[]) (es':=#[]) ae (oh (fs:=fs) (T:=T) (T':=T') hadv.at_ hok hst1 (t:= .inRegion ops (Region.schedule (P.follows .mixedOrders) ops t)::k) (all_cons hxo hk) (fun hr=>all_cons (hxm hr) (hkm hr)) fun π' ha=>by
       have h1:=hkst π' (hadv.agree.trans (ha.mono hadv.size));have h2:=hkst π1 hadv.agree;simp [h1,h2,ez])
      rw [←e2] at this;exact this
   |rangeFunc f ps a b=>
    rw [ad5 ht,ad5 ht'];simp only [dy,Bool.and_eq_true] at hxo;have hS:=rh (P:=P) (P':=aq P fs) (q:=fun x=>x.2.all (fun d=>iy d.target)=true∧(fr.roundOf.isSome=true→x.2=[])) (A:= .pair .block (.list .defer)) (Instr.enterLoop fr.fn fr.tmps ps a b fr.roundOf) (Instr.enterLoop (ax π fr).fn (ax π fr).tmps ps a b (ax π fr).roundOf) [] π w w' #[] (fun π' ha=>by
     obtain ⟨a1,-,-,-,a5⟩:=gy hst'.1 π' ha;show Tw (aq P fs) P π' _ _ _ (Instr.enterLoop fr.fn (az π fr.tmps) ps a b (fr.roundOf.map π.to)) _;rw [←a1,←a5];exact (gn.enterLoop fr.fn fr.tmps ps a b fr.roundOf (by simp [hxo]) (by simp [hxo])).f (fs:=fs) []) hA (fun r hr=>by cases hr) #[]
    generalize (Instr.enterLoop fr.fn fr.tmps ps a b fr.roundOf).runT P w #[]=x at hS;obtain ⟨r,es⟩:=x;cases r with
    |halt h w1=>exact trivial
    |ok x w1=>
     obtain ⟨l,mark⟩:=x;obtain ⟨⟨hq1,hq2⟩,π1,w1',new,he,hadv,hact⟩:=hS.ok;obtain ⟨hst1,heq⟩:=hst.adv hadv;have hst2:=Still.cons.1 hst1;simp only [List.map_cons,List.cons.injEq] at heq;have hact':∀π',aw w1.heap.size π1 π'→π'.to l=π1.to l∧mark.map (dz π')=mark.map (dz π1):=fun π' ha=>by
      have:=hact π' ha;exact ⟨(Prod.mk.inj this).1,(Prod.mk.inj this).2⟩
     simp only [he];refine lp.after hadv (kv _ _ _) ?_;have hfr1:gp P {fr with todo:= .inRangeFunc l::k,defers:=mark++fr.defers}:=by
      refine ⟨all_cons rfl hk,fun d hd=> ?_,hfr.kind,fun hr=>⟨all_cons rfl (hkm hr),?_⟩⟩
      ·rcases List.mem_append.1 hd with hd|hd
       ·rw [List.all_eq_true] at hq1;exact hq1 d hd
       ·exact hfr.defers d hd
      ·show mark++fr.defers=[];have hm:mark=[]:=hq2 hr;rw [hm,(hfr.round hr).2];rfl
     have hst3:Still w1.heap.size π1 ({fr with todo:= .inRangeFunc l::k,defers:=mark++fr.defers}::A):=Still.cons.2 ⟨fun π' ha=>by
      obtain ⟨a1,a2,a3,a4,a5⟩:=gy hst2.1 π' ha;have h1:=hkst π' (hadv.agree.trans (ha.mono hadv.size));have h2:=hkst π1 hadv.agree;simp only [ax,Frame.mk.injEq];exact ⟨trivial,a1,by simp [ez,h1,h2,(hact' π' ha).1],by rw [List.map_append,List.map_append,a3,(hact' π' ha).2],a4,trivial,a5⟩,hst2.2⟩
     have:=wh (T:=T) (T':=T') C hadv.at_ (hok.top hfr1 rfl rfl) hst3 (q:=en P)
      (s:=do let d ←resolve fr.eval {callee:= .value f,args:=#[.const (.func (.yield l) #[] #[])],argTypes:=#[]} 0;invoke d.target d.args)
      (s':=do let d ←resolve (ax π fr).eval {callee:= .value f,args:=#[.const (.func (.yield (π1.to l)) #[] #[])],argTypes:=#[]} 0;invoke d.target d.args) (fun π' ha=>by
       have hag:=hadv.agree.trans (ha.mono hadv.size);have hr:(ax π fr).eval f=al π' (fr.eval f):=by
        rw [←hst'.1 π' hag];exact we π' fr f hxo.1.1
       have e:resolve (ax π fr).eval {callee:= .value f,args:=#[.const (.func (.yield (π1.to l)) #[] #[])],argTypes:=#[]} 0=Deferred.ofValue (al π' (fr.eval f)) (az π' #[.func (.yield l) #[] #[]]):=by
        rw [←hr,←(hact' π' ha).1];unfold resolve;simp only [List.map_toArray,List.map_cons,List.map_nil,az,jr,al,Pm.fn,Frame.eval]
        try rfl
       have e':resolve fr.eval {callee:= .value f,args:=#[.const (.func (.yield l) #[] #[])],argTypes:=#[]} 0=Deferred.ofValue (fr.eval f) #[.func (.yield l) #[] #[]]:=by
        unfold resolve;simp only [List.map_toArray,List.map_cons,List.map_nil,Frame.eval]
       rw [e,e'];exact bp.bind .defer (bp.ofValue (fr.eval f) #[.func (.yield l) #[] #[]]) fun d hd=>bp.invoke (C.fixed hb hag) C.alike d.target hd d.args) fun x hx=> .inl hx
     rw [heq.2] at this;have e3:ax π1 {fr with todo:= .inRangeFunc l::k,defers:=mark++fr.defers}={ax π fr with todo:= .inRangeFunc (π1.to l)::k.map (ez π),defers:=mark.map (dz π1)++ (ax π fr).defers}:=by
      rw [←heq.1];simp only [ax,Frame.mk.injEq,List.map_cons,List.map_append,ez];have h2:=hkst π1 hadv.agree;rw [h2];exact ⟨trivial,trivial,rfl,trivial,trivial,trivial,trivial⟩
     rw [e3] at this;exact this
end
section
variable {P:Program}{fs:Array Func}{Z F:Nat→Prop}{π π1 π2:Pm}{w w' w1 w1' w2 w2':World}{T T':List Frame}{new new2:Array Event}
theorem aa.mapMv {γ:Type}{f' f:γ→Sem Value}(hf:∀x,aa P π .val (f' x) (f x))(as:Array γ):aa P π .pq (as.mapM f') (as.mapM f):=by
 haveI:=tt
 rw [Array.mapM_eq_foldlM,←Array.foldlM_toList,Array.mapM_eq_foldlM,←Array.foldlM_toList];have key:∀(l:List γ)(b:Array Value),aa P π .pq (l.foldlM (fun bs a=>Functor.map bs.push (f' a)) (az π b)) (l.foldlM (fun bs a=>Functor.map bs.push (f a)) b):=by
  intro l
  induction l with
  |nil=>exact fun b=>aa.pure .pq rfl
  |cons a l ih=>
   intro b;rw [List.foldlM_cons,List.foldlM_cons];refine aa.bind .pq ?_ fun b1=>ih b1
   refine aa.bind .val (hf a) fun v=>aa.pure .pq ?_
   show (az π b).push (al π v)=az π (b.push v);rw [fh,fh,Array.map_push]
 exact key as.toList #[]
theorem aby {fn fn':Func}(h:fn'.results=fn.results)(tmps:Array Value):Go.results fn' tmps=Go.results fn tmps:=by
 unfold Go.results;rw [h]
theorem sj (ts:Array Value)(t:Nat):(az π ts).getD t undef=al π (ts.getD t undef):=by
 rw [Array.getD_eq_getD_getElem?,Array.getD_eq_getD_getElem?,ja];cases ts[t]? <;> rfl
theorem aa.results (hF:fw P π)(fn:Func)(tmps:Array Value):aa P π .val (Go.results fn (az π tmps)) (Go.results fn tmps):=by
 unfold Go.results;refine aa.bind .pq (aa.mapMv (fun x=> ?_) fn.results) fun vs=>aa.pure .val ?_
 ·cases x with
  |tmp t=>exact aa.pure .val (sj tmps t)
  |cell a t=>
   show aa P π .val (do Go.loadVar t (←Go.asAddr ((az π tmps).getD a undef))) (do Go.loadVar t (←Go.asAddr (tmps.getD a undef)));rw [sj];exact aa.bind .addr (aa.asAddr hF _) fun a=>aa.loadVar t a
 ·show (if h:(az π vs).size=1 then (az π vs)[0] else .tuple (az π vs))=al π (if h:vs.size=1 then vs[0] else .tuple vs);have hs:(az π vs).size=vs.size:=by rw [fh,Array.size_map]
  by_cases h:vs.size=1
  ·rw [dif_pos h,dif_pos (hs.trans h)];simp [fh]
  ·rw [dif_neg h,dif_neg (by rw [hs];exact h)];rfl
section
variable {Q:Program}{m:Bool}{fr:Frame}{cs:List Frame}
theorem xc {b:Nat}{as:Array Value}{ds:List Deferred}(h:fr.defers={target:= .collected b,args:=as}::ds):unwind Q m fr cs none w=(let (r,es):=(Instr.takeDeferred b).runT Q w #[]
  GStep.after (seen Q fr.fn es) <|match r with
  | .ok calls w=> .go (av {fr with defers:=calls++ds} cs) w
  | .halt _ w=> .ended (.stuck "the deferred calls of a range-over-func loop have been taken" (fr.pos Q)) w):=by
 obtain ⟨fn,tmps,todo,defers,mode,kind,rof⟩:=fr;subst (h:defers=_);rfl
theorem zu {d:Deferred}{ds:List Deferred}(h:fr.defers=d::ds)(hd:∀b,d.target≠ .collected b):unwind Q m fr cs none w=callDeferred Q {fr with defers:=ds} cs none d w:=by
 obtain ⟨fn,tmps,todo,defers,mode,kind,rof⟩:=fr;subst (h:defers=_);obtain ⟨tg,as⟩:=d;cases tg with
 |collected b=>exact absurd rfl (hd b)
 |_=>rfl
theorem aan {chain:List PanicEntry}{c:Frame}(h:fr.defers=[])(hm:fr.mode= .panicking chain)(hc:fr.catches Q=false):unwind Q m fr (c::cs) none w= .go (av (c.raise chain) cs) w:=by
 obtain ⟨fn,tmps,todo,defers,mode,kind,rof⟩:=fr;subst (h:defers=_);subst (hm:mode=_);unfold unwind;simp only [hc];rfl
theorem vo (h:fr.defers=[])(hm:fr.mode= .returning):unwind Q m fr cs none w=(match Q.funcs[fr.fn]? with
  |none=>doReturn Q m fr cs none (fr.tmps.getD 0 undef) w
  |some fn=>
   let (r,es):=(Go.results fn fr.tmps).runT Q w #[]
   GStep.after (seen Q fr.fn es) <|match r with
   | .ok v w=>doReturn Q m fr cs none v w
   | .halt (.stuck s) w=> .ended (.stuck s (fr.pos Q)) w
   | .halt _ w=> .ended (.stuck "return: the result variables cannot be read" (fr.pos Q)) w):=by
 obtain ⟨fn,tmps,todo,defers,mode,kind,rof⟩:=fr;subst (h:defers=_);subst (hm:mode=_);rfl
variable {d:Deferred}{es:Array Event}
def jn (d:Deferred)(fr:Frame):Bool:=(d.target matches .nil) && (fr.mode matches .panicking _)
theorem ag0 (h:jn d fr=true):∃o w2,callDeferred Q fr cs none d w= .ended o w2:=by
 refine ⟨.unsupported (.noEntry "machine/Return: a deferred call of a nil function value, made while the frame is unwinding") (fr.pos Q),w,?_⟩;unfold callDeferred;show (if jn d fr=true then _ else _)=_;rw [if_pos h]
theorem aak {f:FuncId}{args:Array Value}(h:jn d fr=false)(hx:(invoke d.target d.args).runT Q w #[]=(.ok (.enter f args) w1,es)):callDeferred Q fr cs none d w= .go (av (Frame.enter Q f args .deferred) (fr::cs)) w1 (seen Q fr.fn es++ #[]):=by
 unfold callDeferred;show (if jn d fr=true then _ else _)=_;rw [if_neg (by rw [h];simp)];simp only [hx];rfl
theorem adz {l:Nat}{f:FuncId}{tm:Array Value}{a b:Code}(h:jn d fr=false)(hx:(invoke d.target d.args).runT Q w #[]=(.ok (.round l f tm a b) w1,es)):callDeferred Q fr cs none d w= .go (av (Frame.round l f tm a b .deferred) (fr::cs)) w1 (seen Q fr.fn es++ #[]):=by
 unfold callDeferred;show (if jn d fr=true then _ else _)=_;rw [if_neg (by rw [h];simp)];simp only [hx];rfl
theorem rm {n:Next}(h:jn d fr=false)(hx:(invoke d.target d.args).runT Q w #[]=(.ok n w1,es))(hn:(match n with| .value _| .skip| .comm .. =>true|_=>false)=true):callDeferred Q fr cs none d w= .go (av fr cs) w1 (seen Q fr.fn es++ #[]):=by
 unfold callDeferred;show (if jn d fr=true then _ else _)=_;rw [if_neg (by rw [h];simp)];simp only [hx];cases n <;> first|rfl|simp at hn
theorem ad3 {v:Value}(h:jn d fr=false)(hx:(invoke d.target d.args).runT Q w #[]=(.halt (.panic v) w1,es)):callDeferred Q fr cs none d w= .go (av (fr.raise [{v,recovered:=false}]) cs) w1 (seen Q fr.fn es++ #[]):=by
 unfold callDeferred;show (if jn d fr=true then _ else _)=_;rw [if_neg (by rw [h];simp)];simp only [hx];rfl
theorem aj4 {hh:Halt}(h:jn d fr=false)(hx:(invoke d.target d.args).runT Q w #[]=(.halt hh w1,es))(hd:oe hh):∃o w2 es2,callDeferred Q fr cs none d w= .ended o w2 es2:=by
 cases hh with
 |stuck m=>
  refine ⟨.stuck m (fr.pos Q),w1,seen Q fr.fn es++ #[],?_⟩;unfold callDeferred;show (if jn d fr=true then _ else _)=_;rw [if_neg (by rw [h];simp)];simp only [hx];rfl
 |unsupported u=>
  refine ⟨.unsupported u (fr.pos Q),w1,seen Q fr.fn es++ #[],?_⟩;unfold callDeferred;show (if jn d fr=true then _ else _)=_;rw [if_neg (by rw [h];simp)];simp only [hx];rfl
 |_=>exact hd.elim
end
theorem ahr (π:Pm)(d:Deferred)(fr:Frame):jn (dz π d) (ax π fr)=jn d fr:=by
 obtain ⟨fn,tmps,todo,defers,mode,kind,rof⟩:=fr;obtain ⟨tg,as⟩:=d;cases tg <;> cases mode <;> rfl
theorem alf (C:Ctx P fs)(hA:At P Z F π w w')(hb:Base π w.heap.size){fr:Frame}{A:List Frame}(hok:iz P (fr::A))(hst:Still w.heap.size π (fr::A)){d:Deferred}(hd:iy d.target=true)(hds:∀π',aw w.heap.size π π'→dz π' d=dz π d):
  lp P fs Z F π w w' T T' (callDeferred P fr (A++T) none d w) (callDeferred (aq P fs) (ax π fr) (A.map (ax π)++T') none (dz π d) w'):=by
 have hfr:=hok.ok fr List.mem_cons_self;cases hnp:jn d fr with
 |true=>
  obtain ⟨o,w2,e⟩:=ag0 (Q:=P) (cs:=A++T) (w:=w) hnp;rw [e]
  trivial
 |false=>
  have hnp':jn (dz π d) (ax π fr)=false:=by rw [ahr];exact hnp
  have hS:=rh (P:=P) (P':=aq P fs) (q:=en P) (A:= .next) (invoke d.target d.args) (invoke (dz π d).target (dz π d).args) [] π w w' #[] (fun π' ha=>by
   rw [←hds π' ha];exact bp.invoke (C.fixed hb ha) C.alike d.target hd d.args []) hA (fun r hr=>by cases hr) #[]
  generalize hx:(invoke d.target d.args).runT P w #[]=x at hS;obtain ⟨r,es⟩:=x;cases r with
  |ok a w1=>
   obtain ⟨hn,π1,w1',new,he',hadv,hact⟩:=hS.ok;obtain ⟨hst1,heq⟩:=hst.adv hadv;have hst1':=hst1;rw [Still.cons] at hst1;simp only [List.map_cons,List.cons.injEq] at heq;have ff:∀es',(∀e∈es',e∈new)→lp P fs Z F π w w' T T' (.go (av fr (A++T)) w1 (seen P fr.fn es++ #[])) (.go (av (ax π fr) (A.map (ax π)++T')) w1' es'):=fun es' hs=>by
    refine lr.mk hadv hok hst1.1 hst1.2 ⟨es',hs,?_⟩;rw [heq.1,heq.2]
   cases a with
   |value v=>
    rw [rm hnp hx rfl,rm (n:= .value (al π1 v)) hnp' he' rfl];exact ff _ (qj (aq P fs) (ax π fr).fn new)
   |skip=>
    rw [rm hnp hx rfl,rm (n:= .skip) hnp' he' rfl];exact ff _ (qj (aq P fs) (ax π fr).fn new)
   |comm cs b sh=>
    rw [rm hnp hx rfl,rm (n:= .comm (cs.map (gq π1)) b sh) hnp' he' rfl];exact ff _ (qj (aq P fs) (ax π fr).fn new)
   |enter f args=>
    have hv:∀π2,aw w1.heap.size π1 π2→az π2 args=az π1 args:=fun π2 h=>(Next.enter.inj (hact π2 h)).2
    rw [aak hnp hx,aak (f:=f) (args:=az π1 args) hnp' he'];refine ⟨Frame.enter P f args .deferred,fr::A,rfl,hok.push (om C f args (.inr rfl)),π1,w1',_,_,?_,hadv.ya (qj (aq P fs) (ax π fr).fn new),.inr ⟨f,args,.deferred,rfl,rfl,hv⟩,hst1'⟩;rw [List.map_cons,heq.1,heq.2];rfl
   |round l f tm a b=>
    have hv:∀π2,aw w1.heap.size π1 π2→π2.to l=π1.to l∧az π2 tm=az π1 tm:=fun π2 h=>by
     have:=Next.round.inj (hact π2 h);exact ⟨this.1,this.2.2.1⟩
    have hn1:(dy P a=true∧gk a=true)∧(dy P b=true∧gk b=true):=by
     have hn':(dy P a && gk a)=true∧(dy P b && gk b)=true:=hn
     simpa [Bool.and_eq_true] using hn'
    rw [adz hnp hx,adz (l:=π1.to l) (f:=f) (tm:=az π1 tm) (a:=a) (b:=b) hnp' he'];refine lr.mk (fr1:=Frame.round l f tm a b .deferred) (A1:=fr::A) hadv (hok.push ⟨fun x hx=> ?_,by simp [Frame.round],.inr rfl,fun _=>⟨fun x hx=> ?_,rfl⟩⟩) (fun π2 h=> ?_) hst1' ⟨_,qj (aq P fs) (ax π fr).fn new,?_⟩
    ·have:x= .code a∨x= .beginRound∨x= .code b:=by simpa [Frame.round] using hx
     rcases this with rfl|rfl|rfl
     ·exact hn1.1.1
     ·rfl
     ·exact hn1.2.1
    ·have:x= .code a∨x= .beginRound∨x= .code b:=by simpa [Frame.round] using hx
     rcases this with rfl|rfl|rfl
     ·exact hn1.1.2
     ·rfl
     ·exact hn1.2.2
    ·simp only [ax,Frame.round,(hv π2 h).1,(hv π2 h).2,Option.map_some];rfl
    ·rw [List.map_cons,heq.1,heq.2];rfl
   |_=>exact hn.elim
  |halt h w1=>
   by_cases hd:oe h
   ·obtain ⟨o,w2,es2,e⟩:=aj4 (fr:=fr) (cs:=A++T) hnp hx hd;rw [e]
    trivial
   ·cases h with
    |panic v=>
     obtain ⟨π1,w1',new,he',hadv,hact⟩:=hS.panics;obtain ⟨hst1,heq⟩:=hst.adv hadv;rw [Still.cons] at hst1;simp only [List.map_cons,List.cons.injEq] at heq;rw [ad3 hnp hx,ad3 (v:=al π1 v) hnp' he'];refine lr.mk hadv (hok.top (hfr.raise _) (mo fr _).1 (mo fr _).2) (vd hst1.1 (fun π2 h=>by simp [j6,hact π2 h])) hst1.2 ⟨_,qj (aq P fs) (ax π fr).fn new,?_⟩;rw [←tc π1 fr,heq.1,heq.2];rfl
    |stuck m=>exact absurd trivial hd
    |unsupported u=>exact absurd hS hd
    |_=>exact hS.elim
theorem wx {Q:Program}{fr:Frame}(h:∀x∈fr.todo,(match x with| .call .. | .extern .. =>false|_=>true)=true):fr.catches Q=false:=by
 unfold Frame.catches;split
 ·rename_i heq;have:=h _ (by rw [heq];exact List.mem_cons_self);simp at this
 ·rfl
theorem ajd (C:Ctx P fs)(hA:At P Z F π w w')(hb:Base π w.heap.size){m m':Bool}{fr:Frame}{A:List Frame}(hok:iz P (fr::A))(hst:Still w.heap.size π (fr::A))(hnb:A≠[]∨fr.defers≠[]):
  lp P fs Z F π w w' T T' (unwind P m fr (A++T) none w) (unwind (aq P fs) m' (ax π fr) (A.map (ax π)++T') none w'):=by
 have hfr:=hok.ok fr List.mem_cons_self;have hst':=Still.cons.1 hst;cases hdf:fr.defers with
 |cons d ds=>
  have hdf':(ax π fr).defers=dz π d::ds.map (dz π):=by simp [ax,hdf]
  have hro:fr.roundOf=none:=by
   cases h:fr.roundOf with
   |none=>rfl
   |some l=>
    have:=(hfr.round (by rw [h];rfl)).2;rw [hdf] at this;cases this
  have hds:∀π',aw w.heap.size π π'→dz π' d=dz π d∧ds.map (dz π')=ds.map (dz π):=fun π' ha=>by
   have:=(gy hst'.1 π' ha).2.2.1;rw [hdf] at this
   simpa only [List.map_cons,List.cons.injEq] using this
  have hdt:iy d.target=true∧∀x∈ds,iy x.target=true:=⟨hfr.defers d (by rw [hdf];simp),fun x hx=>hfr.defers x (by rw [hdf];simp [hx])⟩;have hfd:∀l:List Deferred,(∀x∈l,iy x.target=true)→gp P {fr with defers:=l}:=fun l hl=>⟨hfr.todo,hl,hfr.kind,fun h=>by
   have h':fr.roundOf.isSome=true:=h;rw [hro] at h';cases h'⟩
  by_cases hcol:∃b,d.target= .collected b
  ·obtain ⟨tg,as⟩:=d;obtain ⟨b,hbq⟩:=hcol;obtain rfl:tg= .collected b:=hbq;rw [xc hdf,xc (b:=π.to b) hdf'];have hbs:∀π',aw w.heap.size π π'→π'.to b=π.to b:=fun π' ha=>by
    have:=(hds π' ha).1;simp only [dz,jx,Deferred.mk.injEq,Target.collected.injEq] at this;exact this.1
   have hS:=rh (P:=P) (P':=aq P fs) (q:=fun ds=>ds.all (fun d=>iy d.target)=true) (A:= .list .defer) (Instr.takeDeferred b) (Instr.takeDeferred (π.to b)) [] π w w' #[] (fun π' ha=>by
    rw [←hbs π' ha];exact (gn.takeDeferred b).f (fs:=fs) []) hA (fun r hr=>by cases hr) #[]
   generalize (Instr.takeDeferred b).runT P w #[]=x at hS;obtain ⟨r,es⟩:=x;cases r with
   |halt h w1=>exact trivial
   |ok cs w1=>
    obtain ⟨hq,π1,w1',new,he,hadv,hact⟩:=hS.ok;obtain ⟨hst1,heq⟩:=hst.adv hadv;have hst2:=Still.cons.1 hst1;simp only [List.map_cons,List.cons.injEq] at heq;simp only [he];rw [List.all_eq_true] at hq;refine lp.after hadv (kv _ _ _) (lr.abo hadv.at_ (hok.top (hfd (cs++ds) fun x hx=> ?_) rfl rfl) (Still.cons.2 ⟨fun π' ha=> ?_,hst2.2⟩) ?_)
    ·rcases List.mem_append.1 hx with hx|hx
     ·exact hq x hx
     ·exact hdt.2 x hx
    ·obtain ⟨a1,a2,a3,a4,a5⟩:=gy hst2.1 π' ha;have h1:=(hds π' (hadv.agree.trans (ha.mono hadv.size))).2;have h2:=(hds π1 hadv.agree).2;simp only [ax,Frame.mk.injEq,List.map_append];exact ⟨trivial,a1,a2,by rw [h1,h2,show cs.map (dz π')=cs.map (dz π1) from hact π' ha],a4,trivial,a5⟩
    ·rw [←heq.1,←heq.2,←(hds π1 hadv.agree).2];simp only [ax,List.map_append];rfl
  ·have hnc:∀b,d.target≠ .collected b:=fun b h=>hcol ⟨b,h⟩
   have hnc':∀b,(dz π d).target≠ .collected b:=fun b h=>by
    obtain ⟨tg,as⟩:=d;cases tg <;> simp [dz,jx] at h
    exact hnc _ rfl
   rw [zu hdf hnc,zu hdf' hnc'];have hst1:Still w.heap.size π ({fr with defers:=ds}::A):=Still.cons.2 ⟨fun π' ha=>by
    obtain ⟨a1,a2,a3,a4,a5⟩:=gy hst'.1 π' ha;simp only [ax,Frame.mk.injEq];exact ⟨trivial,a1,a2,(hds π' ha).2,a4,trivial,a5⟩,hst'.2⟩
   exact alf C hA hb (hok.top (hfd ds hdt.2) rfl rfl) hst1 hdt.1 fun π' ha=>(hds π' ha).1
 |nil=>
  have hdf':(ax π fr).defers=[]:=by simp [ax,hdf]
  cases A with
  |nil=>exact absurd hdf (hnb.resolve_left ae)
  |cons c A=>
   have hc:=hok.ok c ae;have hstc:=Still.cons.1 hst'.2;cases hm:fr.mode with
   |run=>
    have:unwind P m fr (c::A++T) none w= .ended (.stuck "unwind: the frame is running" (fr.pos P)) w:=by
     obtain ⟨fn,tmps,todo,defers,mode,kind,rof⟩:=fr;subst (hdf:defers=_);subst (hm:mode=_);rfl
    rw [this]
    trivial
   |panicking chain=>
    have hm':(ax π fr).mode= .panicking (chain.map (j6 π)):=by simp [ax,hm,ko]
    have hno':∀x∈(ax π fr).todo,(match x with| .call .. | .extern .. =>false|_=>true)=true:=fun x hx=>by
     obtain ⟨y,hy,rfl⟩:=List.mem_map.1 (show x∈fr.todo.map (ez π) from hx);have:=hfr.qv y hy;cases y <;> first|rfl|simp at this
    rw [List.cons_append,aan hdf hm (wx hfr.qv),List.map_cons,List.cons_append,aan hdf' hm' (wx hno'),tc];have hch:∀π',aw w.heap.size π π'→chain.map (j6 π')=chain.map (j6 π):=fun π' ha=>by
     have:=(gy hst'.1 π' ha).2.2.2.1;rw [hm] at this
     simpa only [ko,FrameMode.panicking.injEq] using this
    exact lr.abo hA (hok.pop.top (hc.raise chain) (mo c chain).1 (mo c chain).2) (Still.cons.2 ⟨vd hstc.1 hch,hstc.2⟩) rfl
   |returning=>
    have hm':(ax π fr).mode= .returning:=by simp [ax,hm,ko]
    rw [vo hdf hm,vo hdf' hm'];have hres:=C.results fr.fn;rw [show (ax π fr).fn=fr.fn from rfl,show (ax π fr).tmps=az π fr.tmps from rfl];show lp P fs Z F π w w' T T' _ (match fs[fr.fn]? with
     |none=>doReturn (aq P fs) m' (ax π fr) ((c::A).map (ax π)++T') none ((az π fr.tmps).getD 0 undef) w'
     |some fn=>
      let (r,es):=(Go.results fn (az π fr.tmps)).runT (aq P fs) w' #[]
      GStep.after (seen (aq P fs) fr.fn es) <|match r with
      | .ok v w=>doReturn (aq P fs) m' (ax π fr) ((c::A).map (ax π)++T') none v w
      | .halt (.stuck s) w=> .ended (.stuck s ((ax π fr).pos (aq P fs))) w
      | .halt _ w=> .ended (.stuck "return: the result variables cannot be read" ((ax π fr).pos (aq P fs))) w)
    have htm:∀π',aw w.heap.size π π'→az π' fr.tmps=az π fr.tmps:=fun π' ha=>(gy hst'.1 π' ha).1
    cases hp:P.funcs[fr.fn]? with
    |none=>
     rw [hp] at hres;cases hq:fs[fr.fn]? with
     |some fn=>rw [hq] at hres;cases hres
     |none=>
      rw [sj];have:=yl (m:=m) (m':=m') (T:=T) (T':=T') (fs:=fs) hok hst'.2 (v:=fr.tmps.getD 0 undef) (fun π' ha=>by rw [←sj,←sj,htm π' ha]) (Adv.refl hA) (fr':=ax π fr) rfl (es:=#[]) (es':=#[]) ae;have e0:∀g:GStep,(match g with| .go .. =>true|_=>false)=true→g.after #[]=g:=fun g hg=>by cases g <;> simp_all [GStep.after]
      rw [List.cons_append,pf hfr.kind,List.map_cons,List.cons_append,pf (fr:=ax π fr) hfr.kind] at this ⊢;rw [e0 _ rfl,e0 _ rfl] at this;exact this
    |some fn=>
     rw [hp] at hres;cases hq:fs[fr.fn]? with
     |none=>rw [hq] at hres;cases hres
     |some fn'=>
      rw [hq] at hres;simp only [Option.map_some,Option.some.injEq] at hres;simp only [aby hres];have hS:=rh (P:=P) (P':=aq P fs) (q:=fun _=>True) (A:= .val) (Go.results fn fr.tmps) (Go.results fn (az π fr.tmps)) [] π w w' #[] (fun π' ha=>by
       rw [←htm π' ha];exact (aa.results (C.fixed hb ha) fn fr.tmps).f (fs:=fs) []) hA (fun r hr=>by cases hr) #[]
      generalize (Go.results fn fr.tmps).runT P w #[]=x at hS;obtain ⟨r,es⟩:=x;cases r with
      |halt h w1=>cases h <;> exact trivial
      |ok v w1=>
       obtain ⟨-,π1,w1',new,he,hadv,hact⟩:=hS.ok;obtain ⟨hst1,heq⟩:=hst.adv hadv;have hst2:=Still.cons.1 hst1;simp only [List.map_cons,List.cons.injEq] at heq;simp only [he];have:=yl (m:=m) (m':=m') (T:=T) (T':=T') (fs:=fs) hok hst2.2 hact hadv (fr':=ax π fr) rfl (es:=seen P fr.fn es) (es':=seen (aq P fs) fr.fn new) (kv _ _ _);rw [List.map_cons,heq.2.1,heq.2.2] at this;exact this
end
end Go.Proofs.YthgpdljlehklhaaGreat.zr
