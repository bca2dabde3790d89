/- Part QAA of the proof that DropRefused answers true whatever its input. No condition. -/
import GoSem.Machine.Exec
import Derived.KernelRfl
set_option maxRecDepth 100000
section
namespace Go.Proofs.YthgpdljlehklhaaGreat.zr
open Go
structure Wrp (p:Prop):Prop where
 out:p
abbrev pO (b:Nat):Value:= .pointer (some ⟨b,0,none⟩)
abbrev sO (b n c:Nat):Value:= .slice (some ⟨b,0,none⟩) n c
theorem ae {P:Prop}(h:P:=by simp):P:=h
theorem ai {P:Prop}(h:P:=by omega):P:=h
theorem bz {P:Prop}(h:P:=by simp [hsz]):P:=h
theorem du {P:Prop}(h:P:=by kernel_rfl):P:=h
structure Pm where
 to:Nat→Nat
 inv:Nat→Nat
 li:∀n,inv (to n)=n
 ri:∀n,to (inv n)=n
namespace Pm
def symm (π:Pm):Pm:=⟨π.inv,π.to,π.ri,π.li⟩
@[simp] theorem symm_symm (π:Pm):π.symm.symm=π:=rfl
@[simp] theorem to_inv (π:Pm)(n:Nat):π.to (π.symm.to n)=n:=π.ri n
@[simp] theorem inv_to (π:Pm)(n:Nat):π.symm.to (π.to n)=n:=π.li n
theorem inj (π:Pm){a b:Nat}(h:π.to a=π.to b):a=b:=by rw [←π.li a,←π.li b,h]
@[simp] theorem to_eq (π:Pm){a b:Nat}:(π.to a=π.to b)=(a=b):=propext ⟨π.inj,fun h=>by rw [h]⟩
def addr (π:Pm)(a:Addr):Addr:={a with block:=π.to a.block}
@[simp] theorem addr_block (π:Pm)(a:Addr):(π.addr a).block=π.to a.block:=rfl
@[simp] theorem addr_off (π:Pm)(a:Addr):(π.addr a).off=a.off:=rfl
@[simp] theorem addr_spot (π:Pm)(a:Addr):(π.addr a).spot=a.spot:=rfl
@[simp] theorem qz (π:Pm)(a:Addr)(n:Nat):(π.addr a).add n=π.addr (a.add n):=by
  unfold Addr.add;split <;> rfl
@[simp] theorem anc (π:Pm)(a:Addr):π.symm.addr (π.addr a)=a:=by
  cases a;simp [addr]
@[simp] theorem addr_symm' (π:Pm)(a:Addr):π.addr (π.symm.addr a)=a:=by
  cases a;simp [addr]
def fn (π:Pm):Fn→Fn
 | .yield l=> .yield (π.to l)
 |f=>f
end Pm
def one:Pm:=⟨id,id,fun _=>rfl,fun _=>rfl⟩
mutual
def al (π:Pm):Value→Value
 | .pointer a=> .pointer (a.map π.addr)
 | .slice a l c=> .slice (a.map π.addr) l c
 | .map r=> .map (r.map π.to)
 | .chan r=> .chan (r.map π.to)
 | .func fn first captured=> .func (π.fn fn) (az π first) (az π captured)
 | .iface t v=> .iface t (al π v)
 | .agg cs=> .agg (az π cs)
 | .tuple vs=> .tuple (az π vs)
 | .bool b=> .bool b
 | .int k n=> .int k n
 | .float k b=> .float k b
 | .complex k a b=> .complex k a b
 | .string s=> .string s
 | .nilFunc=> .nilFunc
 | .nilIface=> .nilIface
def az (π:Pm):Array Value→Array Value
 |⟨l⟩=>⟨jr π l⟩
def jr (π:Pm):List Value→List Value
 | []=> []
 |v::l=>al π v::jr π l
end
theorem xg (π:Pm):∀l:List Value,jr π l=l.map (al π)
 | []=>by simp [jr]
 |v::l=>by simp [jr,xg π l]
theorem fh (π:Pm)(a:Array Value):az π a=a.map (al π):=by
 cases a with
 |mk l=>simp [az,xg]
mutual
theorem pj (π:Pm):∀v:Value,al π.symm (al π v)=v
 | .pointer a=>by cases a <;> simp [al]
 | .slice a l c=>by cases a <;> simp [al]
 | .map r=>by cases r <;> simp [al]
 | .chan r=>by cases r <;> simp [al]
 | .func fn first captured=>by
  cases fn <;> simp [al,Pm.fn,mm π first,mm π captured]
 | .iface t v=>by simp [al,pj π v]
 | .agg cs=>by simp [al,mm π cs]
 | .tuple vs=>by simp [al,mm π vs]
 | .bool b=>by simp [al]
 | .int k n=>by simp [al]
 | .float k b=>by simp [al]
 | .complex k a b=>by simp [al]
 | .string s=>by simp [al]
 | .nilFunc=>by simp [al]
 | .nilIface=>by simp [al]
theorem mm (π:Pm):∀a:Array Value,az π.symm (az π a)=a
 |⟨l⟩=>by simp [az,age π l]
theorem age (π:Pm):∀l:List Value,jr π.symm (jr π l)=l
 | []=>by simp [jr]
 |v::l=>by simp [jr,pj π v,age π l]
end
def jx (π:Pm):Target→Target
 | .fn f captured=> .fn (π.fn f) (az π captured)
 | .collected r=> .collected (π.to r)
 | .coroexit c=> .coroexit (π.to c)
 |t=>t
def dz (π:Pm)(d:Deferred):Deferred:={target:=jx π d.target,args:=az π d.args}
theorem fn_symm (π:Pm)(f:Fn):π.symm.fn (π.fn f)=f:=by cases f <;> simp [Pm.fn]
theorem vw (π:Pm)(d:Deferred):dz π.symm (dz π d)=d:=by
 obtain ⟨t,as⟩:=d;cases t <;> simp [dz,jx,fn_symm,mm]
def ll (π:Pm)(l:Loop):Loop:={l with tmps:=az π l.tmps,defers:=π.to l.defers}
theorem acg (π:Pm)(l:Loop):ll π.symm (ll π l)=l:=by
 cases l;simp [ll,mm]
def cx (π:Pm):Obj→Obj
 | .cells c e f=> .cells (az π c) e f
 | .map es k=> .map (es.map fun e=>{e with key:=al π e.key,val:=al π e.val}) k
 | .chan cap buf cl s r t=> .chan cap (az π buf) cl s r t
 | .mapIter m s seen st=> .mapIter (m.map π.to) s seen st
 | .pending c e=> .pending (az π c) e
 | .view a t=> .view (π.addr a) t
 | .number a l=> .number (π.addr a) l
 | .loop l=> .loop (ll π l)
 | .deferred c=> .deferred (c.map (List.map (dz π)))
 |o=>o
theorem aem {α:Type}{f:α→α}(h:∀x,f x=x)(a:Array α):a.map f=a:=by
 have:f=id:=funext h;rw [this];simp
theorem ai7 (π:Pm)(o:Obj):cx π.symm (cx π o)=o:=by
 cases o with
 |cells c e f=>simp [cx,mm]
 |map es k=>
  simp only [cx,Array.map_map];congr 1;exact aem (fun e=>by cases e;simp [pj]) es
 |chan cap buf cl s r t=>simp [cx,mm]
 |mapIter m s seen st=>cases m <;> simp [cx]
 |pending c e=>simp [cx,mm]
 |view a t=>simp [cx]
 |number a l=>simp [cx]
 |loop l=>simp [cx,acg]
 |deferred c=>
  have:(dz π.symm∘dz π)=id:=funext fun d=>vw π d
  cases c <;> simp [cx,this]
 |_=>simp [cx]
def nv:Mark→Bool
 | .extern _| .noRoom=>true
 |_=>false
mutual
def lg:Value→Bool
 | .pointer a=>a.isNone
 | .slice a _ _=>a.isNone
 | .map r=>r.isNone
 | .chan r=>r.isNone
 | .func fn first captured=>(match fn with| .yield _=>false|_=>true) && ot first && ot captured
 | .iface _ v=>lg v
 | .agg cs=>ot cs
 | .tuple vs=>ot vs
 |_=>true
def ot:Array Value→Bool
 |⟨l⟩=>qp l
def qp:List Value→Bool
 | []=>true
 |v::l=>lg v && qp l
end
mutual
theorem vn (π:Pm):∀v:Value,lg v=true→al π v=v
 | .pointer a=>fun h=>by cases a <;> simp [lg] at h;rfl
 | .slice a l c=>fun h=>by cases a <;> simp [lg] at h;rfl
 | .map r=>fun h=>by cases r <;> simp [lg] at h;rfl
 | .chan r=>fun h=>by cases r <;> simp [lg] at h;rfl
 | .func fn first captured=>fun h=>by
  simp only [lg,Bool.and_eq_true] at h;simp only [al,wi π first h.1.2,wi π captured h.2];cases fn <;> first|rfl|simp at h
 | .iface t v=>fun h=>by simp only [lg] at h;simp only [al,vn π v h]
 | .agg cs=>fun h=>by simp only [lg] at h;simp only [al,wi π cs h]
 | .tuple vs=>fun h=>by simp only [lg] at h;simp only [al,wi π vs h]
 | .bool b=>fun _=>rfl
 | .int k n=>fun _=>rfl
 | .float k b=>fun _=>rfl
 | .complex k a b=>fun _=>rfl
 | .string s=>fun _=>rfl
 | .nilFunc=>fun _=>rfl
 | .nilIface=>fun _=>rfl
theorem wi (π:Pm):∀a:Array Value,ot a=true→az π a=a
 |⟨l⟩=>fun h=>by simp only [ot] at h;simp only [az,aea π l h]
theorem aea (π:Pm):∀l:List Value,qp l=true→jr π l=l
 | []=>fun _=>rfl
 |v::l=>fun h=>by
  simp only [qp,Bool.and_eq_true] at h;simp only [jr,vn π v h.1,aea π l h.2]
end
def j8 (P:Program):Nat→TypeId→Bool
 |0,_=>false
 |n+1,t=>
  match P.underlying t with
  |some .bool|some .string=>true
  |some (.int _)=> !((P.info? t).any fun i=>match i.desc with| .named "sync.copyChecker" _=>true|_=>false)
  |some (.struct fs)=>fs.all fun f=>j8 P n f.type
  |some (.array _ e)=>j8 P n e
  |_=>false
def isNil:Value→Bool
 | .pointer none| .slice none _ _| .map none| .chan none| .nilFunc| .nilIface=>true
 |_=>false
def aba (P:Program)(op:BinOp)(t:TypeId)(y:Operand):Bool:=
 match op with
 | .eql| .neq=>(match y with| .const v=>isNil v|_=>false) || (j8 P 20 t && !P.eqGuardType P.depth t)
 |_=> !(match P.underlying t with|some .unsafePointer=>true|_=>false)
def ab5 (P:Program)(src dst:TypeId):Bool:=
 match P.underlying src,P.underlying dst with
 |some (.int _),some (.int _)|some (.float _),some (.int _)=>true
 |some .string,some (.slice e)|some (.slice e),some .string=>(match P.underlying e with|some (.int .u8)=>true|_=>false)
 |_,_=>false
def tv (P:Program)(t:TypeId):Bool:=match P.underlying t with|some (.map k _)=>j8 P 20 k|_=>false
def fv:Operand→Bool
 | .const v=>lg v
 | .global _=>false
 |_=>true
def q9 (P:Program)(b:Builtin)(ts:Array TypeId):Bool:=
 match b with
 | .append| .close| .copy| .len| .max| .min=>true
 | .delete=>(match ts[0]? with|some t=>tv P t|none=>true)
 |_=>false
def tz (P:Program)(c:Call):Bool:=
 c.args.all fv && match c.callee with
 | .value f=>fv f
 | .invoke r _=>fv r
 | .builtin b=>q9 P b c.argTypes
def okFn:Fn→Bool
 | .yield _=>false
 |_=>true
def isRec (o:Oper):Bool:=match o.op with| .call c=>(match c.callee with| .builtin .recover=>true|_=>false)|_=>false
def tn (P:Program)(o:Oper):Bool:=
 o.op.operands.all fv && match o.op with
 | .ready _| .waits _=>false
 | .binOp op t _ y _=>aba P op t y
 | .convert src dst _=>ab5 P src dst
 | .makeFunc fn _ _=>okFn fn
 | .lookup t _ _ _| .mapUpdate t _ _ _| .insert t _ _ _| .mapEntry t _ _=>tv P t
 | .call c=>tz P c
 | .defer c=>tz P c && (match c.callee with| .builtin _=>false|_=>true)
 | .go _| .send .. | .recv .. =>false
 | .select cs b=> !b && cs.size==1 && cs.all (·.send.isNone)
 |_=>true
def qd (P:Program)(o:Oper):Bool:=tn P o || isRec o
def pk (o:Oper):Bool:= !isRec o && (match o.op with| .defer _=>false|_=>true)
def gk:Code→Bool
 | .region _ ops _=>ops.all pk
 | .seq a b=>gk a && gk b
 | .cond _ a b=>gk a && gk b
 | .block _ c| .loop c| .scope c=>gk c
 | .rangeFunc _ _ a c=>gk a && gk c
 |_=>true
def dy (P:Program):Code→Bool
 | .region _ ops _=>ops.all (qd P)
 | .seq a b=>dy P a && dy P b
 | .cond c a b=>fv c && dy P a && dy P b
 | .block _ c| .loop c=>dy P c
 | .rangeFunc f _ a c=>fv f && (dy P a && gk a) && (dy P c && gk c)
 | .scope _| .label _| .goto _=>false
 |_=>true
def iy:Target→Bool
 | .builtin .. | .coroexit _=>false
 |_=>true
def kr (P:Program):Obj→Bool
 | .view .. | .pending .. | .coro .. | .finalizers .. =>false
 | .loop l=>(dy P l.assign && gk l.assign) && (dy P l.body && gk l.body) && (match l.pending with|some c=>dy P c && gk c|none=>true)
 | .deferred (some ds)=>ds.all fun d=>iy d.target
 |_=>true
theorem good_ren (P:Program)(π:Pm)(o:Obj):kr P (cx π o)=kr P o:=by
 cases o with
 |deferred c=>
  cases c with
  |none=>rfl
  |some ds=>
   simp only [cx,Option.map_some,kr,List.all_map];congr 1
   funext d
   obtain ⟨t,as⟩:=d;cases t <;> rfl
 |_=>rfl
inductive dm (P:Program)(V:Nat→Prop){α:Type}:Sem α→Prop
 |stuck (why:String):dm P V (.halt (.stuck why))
 |unsup (u:Unsupported)(h:∀b,u≠ .initOrder b):dm P V (.halt (.unsupported u))
 |load (m:Mode)(a:Addr)(k:Value→Sem α):(∀v,dm P V (k v))→dm P V (.load m a k)
 |shape (r:Nat)(k:Option (TypeId×Nat)→Sem α):(∀s,dm P V (k s))→dm P V (.shape r k)
 |shapeV (r:Nat)(k:Option (TypeId×Nat)→Sem α):V r→dm P V (k none)→dm P V (.shape r k)
 |frozen (a:Addr)(k:Bool→Sem α):(∀s,dm P V (k s))→dm P V (.frozen a k)
 |getObj (r:Nat)(k:Obj→Sem α):(∀o,dm P V (k o))→dm P V (.getObj r k)
 |getObjV (r:Nat)(k:Obj→Sem α):V r→(∀a t,dm P V (k (.view a t)))→dm P V (.getObj r k)
 |choose (q:Question)(k:Nat→Sem α):(∀n,dm P V (k n))→dm P V (.choose q k)
 |program (k:Program→Sem α):dm P V (k P)→dm P V (.program k)
 |mark (m:Mark)(k:Sem α):dm P V k→dm P V (.mark m k)
theorem dm.bind {P:Program}{V:Nat→Prop}{α β:Type}{s:Sem α}(h:α→Sem β)(d:dm P V s):dm P V (s.bind h):=by
 induction d with
 |stuck why=>exact .stuck why
 |unsup u hu=>exact .unsup u hu
 |load m a k _ ih=>exact .load m a _ ih
 |shape r k _ ih=>exact .shape r _ ih
 |shapeV r k hr _ ih=>exact .shapeV r _ hr ih
 |frozen r k _ ih=>exact .frozen r _ ih
 |getObj r k _ ih=>exact .getObj r _ ih
 |getObjV r k hr _ ih=>exact .getObjV r _ hr ih
 |choose r k _ ih=>exact .choose r _ ih
 |program k _ ih=>exact .program _ ih
 |mark m k _ ih=>exact .mark m _ ih
inductive fg (P:Program){α:Type}:Sem α→Prop
 |pure (a:α):fg P (.pure a)
 |shape (r:Nat)(k:Option (TypeId×Nat)→Sem α):(∀s,fg P (k s))→fg P (.shape r k)
 |frozen (a:Addr)(k:Bool→Sem α):(∀s,fg P (k s))→fg P (.frozen a k)
 |getObj (r:Nat)(k:Obj→Sem α):(∀o,fg P (k o))→fg P (.getObj r k)
 |choose (q:Question)(k:Nat→Sem α):(∀n,fg P (k n))→fg P (.choose q k)
 |program (k:Program→Sem α):fg P (k P)→fg P (.program k)
 |mark (m:Mark)(k:Sem α):fg P k→fg P (.mark m k)
theorem fg.ame {P:Program}{V:Nat→Prop}{α β:Type}{s:Sem α}{h:α→Sem β}(l:fg P s)(d:∀a,dm P V (h a)):dm P V (s.bind h):=by
 induction l with
 |pure a=>exact d a
 |shape r k _ ih=>exact .shape r _ ih
 |frozen r k _ ih=>exact .frozen r _ ih
 |getObj r k _ ih=>exact .getObj r _ ih
 |choose r k _ ih=>exact .choose r _ ih
 |program k _ ih=>exact .program _ ih
 |mark m k _ ih=>exact .mark m _ ih
theorem fg.bind {P:Program}{α β:Type}{s:Sem α}{h:α→Sem β}(l:fg P s)(d:∀a,fg P (h a)):fg P (s.bind h):=by
 induction l with
 |pure a=>exact d a
 |shape r k _ ih=>exact .shape r _ ih
 |frozen r k _ ih=>exact .frozen r _ ih
 |getObj r k _ ih=>exact .getObj r _ ih
 |choose r k _ ih=>exact .choose r _ ih
 |program k _ ih=>exact .program _ ih
 |mark m k _ ih=>exact .mark m _ ih
inductive Tw (P' P:Program)(π:Pm){α:Type}(f:α→α)(q:α→Prop):List Nat→Sem α→Sem α→Prop
 |pure {L:List Nat}(a:α)(ha:q a):Tw P' P π f q L (.pure (f a)) (.pure a)
 |load {L:List Nat}(m:Mode)(a:Addr){k' k:Value→Sem α}:(∀v,Tw P' P π f q L (k' (al π v)) (k v))→Tw P' P π f q L (.load m (π.addr a) k') (.load m a k)
 |store {L:List Nat}(m:Mode)(a:Addr)(v:Value){k' k:Sem α}:Tw P' P π f q L k' k→Tw P' P π f q L (.store m (π.addr a) (al π v) k') (.store m a v k)
 |new {L:List Nat}(o:Obj)(ho:kr P o=true){k' k:Nat→Sem α}:(∀r,Tw P' P π f q (r::L) (k' (π.to r)) (k r))→Tw P' P π f q L (.new (cx π o) k') (.new o k)
 |freeze {L:List Nat}(a:Addr)(n:Nat)(ha:a.block∈L){k' k:Sem α}:Tw P' P π f q L k' k→Tw P' P π f q L (.freeze (π.addr a) n k') (.freeze a n k)
 |shape {L:List Nat}(r:Nat){k' k:Option (TypeId×Nat)→Sem α}:(∀s,Tw P' P π f q L (k' s) (k s))→(r∈L∨dm P (· =r) (k none))→Tw P' P π f q L (.shape (π.to r) k') (.shape r k)
 |getObj {L:List Nat}(r:Nat){k' k:Obj→Sem α}:(∀o,kr P o=true→Tw P' P π f q (r::L) (k' (cx π o)) (k o))→(∀a t,dm P (· =r) (k (.view a t)))→Tw P' P π f q L (.getObj (π.to r) k') (.getObj r k)
 |setObj {L:List Nat}(r:Nat)(hr:r∈L)(o:Obj)(ho:kr P o=true){k' k:Sem α}:Tw P' P π f q L k' k→Tw P' P π f q L (.setObj (π.to r) (cx π o) k') (.setObj r o k)
 |choose {L:List Nat}(ask:Question){k' k:Nat→Sem α}:(∀n,Tw P' P π f q L (k' n) (k n))→Tw P' P π f q L (.choose ask k') (.choose ask k)
 |program {L:List Nat}{k' k:Program→Sem α}:Tw P' P π f q L (k' P') (k P)→Tw P' P π f q L (.program k') (.program k)
 |sysEnv {L:List Nat}{k' k:SysRet→Sem α}:(∀r,Tw P' P π f q L (k' r) (k r))→Tw P' P π f q L (.sys .env k') (.sys .env k)
 |mark {L:List Nat}(m:Mark)(hm:nv m=true){k' k:Sem α}:Tw P' P π f q L k' k→Tw P' P π f q L (.mark m k') (.mark m k)
 |panic {L:List Nat}(v:Value):Tw P' P π f q L (.halt (.panic (al π v))) (.halt (.panic v))
 |dead {L:List Nat}(s':Sem α){s:Sem α}:dm P (fun _=>False) s→Tw P' P π f q L s' s
theorem Tw.bind {P' P:Program}{π:Pm}{α β:Type}{f:α→α}{g:β→β}{q:α→Prop}{p:β→Prop}{h' h:α→Sem β}{L:List Nat}{s' s:Sem α}(t:Tw P' P π f q L s' s):
  (∀L',(∀x∈L,x∈L')→∀a,q a→Tw P' P π g p L' (h' (f a)) (h a))→Tw P' P π g p L (s'.bind h') (s.bind h):=by
 induction t with
 |pure a ha=>exact fun hh=>hh _ (fun _ h=>h) a ha
 |load m a _ ih=>exact fun hh=> .load m a fun v=>ih v hh
 |store m a v _ ih=>exact fun hh=> .store m a v (ih hh)
 |new o ho _ ih=>exact fun hh=> .new o ho fun r=>ih r fun L' hl=>hh L' fun x hx=>hl x (List.mem_cons_of_mem _ hx)
 |freeze a n ha _ ih=>exact fun hh=> .freeze a n ha (ih hh)
 |shape r _ hd ih=>exact fun hh=> .shape r (fun s=>ih s hh) (hd.imp id fun d=>d.bind h)
 |getObj r _ hd ih=>exact fun hh=> .getObj r (fun o ho=>ih o ho fun L' hl=>hh L' fun x hx=>hl x (List.mem_cons_of_mem _ hx)) (fun a t=>(hd a t).bind h)
 |setObj r hr o ho _ ih=>exact fun hh=> .setObj r hr o ho (ih hh)
 |choose q _ ih=>exact fun hh=> .choose q fun n=>ih n hh
 |program _ ih=>exact fun hh=> .program (ih hh)
 |sysEnv _ ih=>exact fun hh=> .sysEnv fun r=>ih r hh
 |mark m hm _ ih=>exact fun hh=> .mark m hm (ih hh)
 |panic v=>exact fun _=> .panic v
 |dead s' d=>exact fun _=> .dead _ (d.bind h)
structure eg (α:Type) where
 act:Pm→α→α
 symm:∀π a,act π.symm (act π a)=a
namespace eg
variable {α β:Type}
def none (α:Type):eg α:=⟨fun _ a=>a,fun _ _=>rfl⟩
def val:eg Value:=⟨al,pj⟩
def addr:eg Addr:=⟨Pm.addr,Pm.anc⟩
def block:eg Nat:=⟨fun π=>π.to,fun π n=>π.li n⟩
def pq:eg (Array Value):=⟨az,mm⟩
def obj:eg Obj:=⟨cx,ai7⟩
def opt (A:eg α):eg (Option α):=⟨fun π=>Option.map (A.act π),fun π a=>by cases a <;> simp [A.symm]⟩
def pair (A:eg α)(B:eg β):eg (α×β):=⟨fun π x=>(A.act π x.1,B.act π x.2),fun π x=>by simp [A.symm,B.symm]⟩
end eg
abbrev aq (P:Program)(fs:Array Func):Program:={P with funcs:=fs}
def fx (P:Program)(π:Pm)(R:List Nat){α:Type}(A:eg α)(s' s:Sem α):Prop:=∀fs L,(∀x∈R,x∈L)→Tw (aq P fs) P π (A.act π) (fun _=>True) L s' s
def aa (P:Program)(π:Pm){α:Type}(A:eg α)(s' s:Sem α):Prop:=∀fs L,Tw (aq P fs) P π (A.act π) (fun _=>True) L s' s
def gn (P:Program)(π:Pm)(R:List Nat){α:Type}(q:α→Prop)(A:eg α)(s' s:Sem α):Prop:=∀fs L,(∀x∈R,x∈L)→Tw (aq P fs) P π (A.act π) q L s' s
section
variable {P:Program}{π:Pm}{α β:Type}
theorem aa.any {R:List Nat}{A:eg α}{s' s:Sem α}(h:aa P π A s' s):fx P π R A s' s:=fun fs L _=>h fs L
theorem aa.pure (A:eg α){a' a:α}(h:a'=A.act π a):aa P π A (Pure.pure a') (Pure.pure a):=by
 subst h;exact fun _ _=> .pure a trivial
theorem gn.pure {R:List Nat}{q:α→Prop}(A:eg α){a' a:α}(h:a'=A.act π a)(ha:q a):gn P π R q A (Pure.pure a') (Pure.pure a):=by
 subst h;exact fun _ _ _=> .pure a ha
theorem gn.bind {R:List Nat}{q:α→Prop}{p:β→Prop}(A:eg α){B:eg β}{s' s:Sem α}{h' h:α→Sem β}(h1:gn P π R q A s' s)(h2:∀a,q a→gn P π R p B (h' (A.act π a)) (h a)):gn P π R p B (s' >>=h') (s >>=h):=fun fs L hl=>Tw.bind (h1 fs L hl) fun L' hs a ha=>h2 a ha fs L' fun x hx=>hs x (hl x hx)
theorem aa.q {R:List Nat}{A:eg α}{s' s:Sem α}(h:aa P π A s' s):gn P π R (fun _=>True) A s' s:=fun fs L _=>h fs L
theorem fx.q {R:List Nat}{A:eg α}{s' s:Sem α}(h:fx P π R A s' s):gn P π R (fun _=>True) A s' s:=fun fs L hl=>h fs L hl
theorem gn.dead {R:List Nat}{q:α→Prop}(A:eg α){s' s:Sem α}(h:dm P (fun _=>False) s):gn P π R q A s' s:=fun _ _ _=> .dead _ h
theorem gn.getObj {R:List Nat}(r:Nat){p:β→Prop}{B:eg β}{h' h:Obj→Sem β}(hd:∀a t,dm P (· =r) (h (.view a t)))(hh:∀o,kr P o=true→gn P π (r::R) p B (h' (cx π o)) (h o)):gn P π R p B (Go.getObj (π.to r) >>=h') (Go.getObj r >>=h):=
 fun fs L hl=> .getObj r (fun o ho=>hh o ho fs (r::L) fun x hx=>by
  rcases List.mem_cons.1 hx with rfl|hx
  ·exact List.mem_cons_self
  ·exact List.mem_cons_of_mem _ (hl x hx)) hd
theorem aa.bind (A:eg α){B:eg β}{s' s:Sem α}{h' h:α→Sem β}(h1:aa P π A s' s)(h2:∀a,aa P π B (h' (A.act π a)) (h a)):aa P π B (s' >>=h') (s >>=h):=fun fs L=>Tw.bind (h1 fs L) fun L' _ a _=>h2 a fs L'
theorem fx.bind {R:List Nat}(A:eg α){B:eg β}{s' s:Sem α}{h' h:α→Sem β}(h1:fx P π R A s' s)(h2:∀a,fx P π R B (h' (A.act π a)) (h a)):fx P π R B (s' >>=h') (s >>=h):=fun fs L hl=>Tw.bind (h1 fs L hl) fun L' hs a _=>h2 a fs L' fun x hx=>hs x (hl x hx)
theorem aa.bk {γ:Type}{B:eg β}{s' s:Sem γ}{h' h:γ→Sem β}(h1:aa P π (.none γ) s' s)(h2:∀a,aa P π B (h' a) (h a)):aa P π B (s' >>=h') (s >>=h):=aa.bind (.none γ) h1 h2
theorem fx.bk {R:List Nat}{γ:Type}{B:eg β}{s' s:Sem γ}{h' h:γ→Sem β}(h1:fx P π R (.none γ) s' s)(h2:∀a,fx P π R B (h' a) (h a)):fx P π R B (s' >>=h') (s >>=h):=fx.bind (.none γ) h1 h2
theorem aa.stuck (A:eg α){s':Sem α}(w:String):aa P π A s' (Go.stuck w:Sem α):=fun _ _=> .dead _ (.stuck w)
theorem aa.unsupported (A:eg α){s':Sem α}(u:Unsupported)(h:∀b,u≠ .initOrder b:=by exact fun _ h=>Unsupported.noConfusion h):aa P π A s' (Go.unsupported u:Sem α):=fun _ _=> .dead _ (.unsup u h)
theorem aa.dead (A:eg α){s' s:Sem α}(h:dm P (fun _=>False) s):aa P π A s' s:=fun _ _=> .dead _ h
theorem aa.goPanic (A:eg α)(v:Value):aa P π A (Go.goPanic (al π v):Sem α) (Go.goPanic v):=fun _ _=> .panic v
theorem aa.xf (A:eg α){v' v:Value}(h:v'=al π v):aa P π A (Go.goPanic v':Sem α) (Go.goPanic v):=by
 subst h;exact aa.goPanic A v
theorem aa.load (m:Mode)(a:Addr):aa P π .val (Go.load (π.addr a) m) (Go.load a m):=fun _ _=> .load m a fun v=> .pure v trivial
theorem aa.store (m:Mode)(a:Addr)(v:Value):aa P π (.none Unit) (Go.store (π.addr a) (al π v) m) (Go.store a v m):=fun _ _=> .store m a v (.pure () trivial)
theorem aa.newObj (o:Obj)(ho:kr P o=true:=by rfl):aa P π .block (Go.newObj (cx π o)) (Go.newObj o):=fun _ _=> .new o ho fun r=> .pure r trivial
theorem fx.getObj {R:List Nat}(r:Nat){B:eg β}{h' h:Obj→Sem β}(hd:∀a t,dm P (· =r) (h (.view a t)))(hh:∀o,kr P o=true→fx P π (r::R) B (h' (cx π o)) (h o)):fx P π R B (Go.getObj (π.to r) >>=h') (Go.getObj r >>=h):=
 fun fs L hl=> .getObj r (fun o ho=>hh o ho fs (r::L) fun x hx=>by
  rcases List.mem_cons.1 hx with rfl|hx
  ·exact List.mem_cons_self
  ·exact List.mem_cons_of_mem _ (hl x hx)) hd
theorem aa.getObj (r:Nat){B:eg β}{h' h:Obj→Sem β}(hd:∀a t,dm P (· =r) (h (.view a t)))(hh:∀o,kr P o=true→fx P π [r] B (h' (cx π o)) (h o)):aa P π B (Go.getObj (π.to r) >>=h') (Go.getObj r >>=h):=
 fun fs L=> .getObj r (fun o ho=>hh o ho fs (r::L) fun x hx=>by
  rcases List.mem_cons.1 hx with rfl|hx
  ·exact List.mem_cons_self
  ·cases hx) hd
theorem aa.shape (r:Nat){B:eg β}{h' h:Option (TypeId×Nat)→Sem β}(hd:dm P (· =r) (h none))(hh:∀s,aa P π B (h' s) (h s)):aa P π B (Go.shape (π.to r) >>=h') (Go.shape r >>=h):=
 fun fs L=> .shape r (fun s=>hh s fs L) (.inr hd)
theorem fx.setObj {R:List Nat}(r:Nat)(o:Obj)(hr:r∈R)(ho:kr P o=true:=by rfl):fx P π R (.none Unit) (Go.setObj (π.to r) (cx π o)) (Go.setObj r o):=fun _ L hl=> .setObj r (hl r hr) o ho (.pure () trivial)
theorem aa.program (h:Program→Sem β){h':Program→Sem β}{B:eg β}(hh:∀fs L,Tw (aq P fs) P π (B.act π) (fun _=>True) L (h' (aq P fs)) (h P)):aa P π B (Go.program >>=h') (Go.program >>=h):=fun fs L=> .program (hh fs L)
theorem aa.xh (h:Program→Sem β){h':Program→Sem β}{B:eg β}(hf:∀fs,h' (aq P fs)=h' P)(hh:aa P π B (h' P) (h P)):aa P π B (Go.program >>=h') (Go.program >>=h):=fun fs L=> .program (by
 show Tw _ P π _ _ L (h' (aq P fs)) (h P);rw [hf];exact hh fs L)
theorem aa.bm (a:α):aa P π (.none α) (Pure.pure a) (Pure.pure a):=fun _ _=> .pure a trivial
theorem aa.underlying (t:TypeId):aa P π (.none TypeDesc) (Go.underlying t) (Go.underlying t):=by
 unfold Go.underlying;refine aa.program _ fun fs L=> ?_
 show Tw _ P π _ _ L (match P.underlying t with|some d=>Pure.pure d|none=>Go.stuck "no such type") _;cases P.underlying t with
 |some d=>exact .pure d trivial
 |none=>exact .dead _ (.stuck _)
theorem aa.typeInfo (t:TypeId):aa P π (.none TypeInfo) (Go.typeInfo t) (Go.typeInfo t):=by
 unfold Go.typeInfo;refine aa.program _ fun fs L=> ?_
 show Tw _ P π _ _ L (match P.info? t with|some d=>Pure.pure d|none=>Go.stuck "no such type") _;cases P.info? t with
 |some d=>exact .pure d trivial
 |none=>exact .dead _ (.stuck _)
end
end Go.Proofs.YthgpdljlehklhaaGreat.zr
end
namespace Go.Proofs.YthgpdljlehklhaaGreat.zr
open Go
section
variable {P:Program}{π:Pm}{α β:Type}
theorem jh {α β γ:Type}(f:α→Sem β)(g:β→Sem γ):∀s:Sem α,(s.bind f).bind g=s.bind fun a=>(f a).bind g
 | .pure a=>rfl
 | .load m a k=>by simp only [Sem.bind];congr 1;funext v;exact jh f g _
 | .store m a v k=>by simp only [Sem.bind];congr 1;exact jh f g _
 | .new o k=>by simp only [Sem.bind];congr 1;funext v;exact jh f g _
 | .shape r k=>by simp only [Sem.bind];congr 1;funext v;exact jh f g _
 | .freeze a n k=>by simp only [Sem.bind];congr 1;exact jh f g _
 | .frozen a k=>by simp only [Sem.bind];congr 1;funext v;exact jh f g _
 | .getObj r k=>by simp only [Sem.bind];congr 1;funext v;exact jh f g _
 | .setObj r o k=>by simp only [Sem.bind];congr 1;exact jh f g _
 | .choose q k=>by simp only [Sem.bind];congr 1;funext v;exact jh f g _
 | .sys c k=>by simp only [Sem.bind];congr 1;funext v;exact jh f g _
 | .program k=>by simp only [Sem.bind];congr 1;funext v;exact jh f g _
 | .mark m k=>by simp only [Sem.bind];congr 1;exact jh f g _
 | .halt h=>rfl
theorem k9 {α:Type}:∀s:Sem α,s.bind Sem.pure=s
 | .pure a=>rfl
 | .load m a k=>by simp only [Sem.bind];congr 1;funext v;exact k9 _
 | .store m a v k=>by simp only [Sem.bind];congr 1;exact k9 _
 | .new o k=>by simp only [Sem.bind];congr 1;funext v;exact k9 _
 | .shape r k=>by simp only [Sem.bind];congr 1;funext v;exact k9 _
 | .freeze a n k=>by simp only [Sem.bind];congr 1;exact k9 _
 | .frozen a k=>by simp only [Sem.bind];congr 1;funext v;exact k9 _
 | .getObj r k=>by simp only [Sem.bind];congr 1;funext v;exact k9 _
 | .setObj r o k=>by simp only [Sem.bind];congr 1;exact k9 _
 | .choose q k=>by simp only [Sem.bind];congr 1;funext v;exact k9 _
 | .sys c k=>by simp only [Sem.bind];congr 1;funext v;exact k9 _
 | .program k=>by simp only [Sem.bind];congr 1;funext v;exact k9 _
 | .mark m k=>by simp only [Sem.bind];congr 1;exact k9 _
 | .halt h=>rfl
theorem tt:LawfulMonad Sem:=LawfulMonad.mk' Sem (fun x=>k9 x) (fun _ _=>rfl) (fun x f g=>jh f g x)
theorem aa.sizeOf (t:TypeId):aa P π (.none Nat) (Go.sizeOf t) (Go.sizeOf t):=
 aa.bind (.none TypeInfo) (aa.typeInfo t) fun _=>aa.bm _
theorem aa.isAgg (t:TypeId):aa P π (.none Bool) (Go.isAgg t) (Go.isAgg t):=by
 unfold Go.isAgg;refine aa.bind (.none TypeDesc) (aa.underlying t) fun d=> ?_
 cases d <;> exact aa.bm _
structure fw (P:Program)(π:Pm):Prop where
 zero:∀t i v,P.info? t=some i→i.zero=some v→al π v=v
 base:∀n,n≤P.globals.size+4→π.to n=n
theorem ue (hF:fw P π){B:eg β}{t:TypeId}{h' h:Value→Sem β}(hh:∀z,al π z=z→aa P π B (h' z) (h z)):aa P π B (Go.zeroValue t >>=h') (Go.zeroValue t >>=h):=by
 intro fs L;unfold Go.zeroValue Go.typeInfo;refine Tw.program ?_;show Tw _ P π _ _ L (Sem.bind (Sem.bind (match P.info? t with|some i=>Pure.pure i|none=>Go.stuck "no such type") fun i=>match i.zero with|some v=>Pure.pure v|none=>Go.unsupported (.resourceLimit "a value of more than 2^22 cells")) h')
  (Sem.bind (Sem.bind (match P.info? t with|some i=>Pure.pure i|none=>Go.stuck "no such type") fun i=>match i.zero with|some v=>Pure.pure v|none=>Go.unsupported (.resourceLimit "a value of more than 2^22 cells")) h)
 cases hi:P.info? t with
 |none=>exact .dead _ (.stuck _)
 |some i=>
  show Tw _ P π _ _ L (Sem.bind (match i.zero with|some v=>Pure.pure v|none=>Go.unsupported _) h') (Sem.bind (match i.zero with|some v=>Pure.pure v|none=>Go.unsupported _) h);cases hz:i.zero with
  |none=>exact .dead _ (.unsup _ (fun b hb=>by cases hb))
  |some v=>exact hh v (hF.zero t i v hi hz) fs L
theorem aa.zeroValue (hF:fw P π)(t:TypeId):aa P π .val (Go.zeroValue t) (Go.zeroValue t):=by
 have:=ue hF (B:= .val) (t:=t) (h':=Pure.pure) (h:=Pure.pure) fun z hz=>aa.pure .val hz.symm
 have e:(Go.zeroValue t >>=Pure.pure)=Go.zeroValue t:=k9 _
 rwa [e] at this
theorem an0 (a:Array Value)(v:Value):az π (a.push v)=(az π a).push (al π v):=by
 rw [fh,fh,Array.map_push]
theorem il (a:Array Value):(az π a).size=a.size:=by rw [fh,Array.size_map]
theorem ti (v:Value):(al π v).cells=az π v.cells:=by
 cases v <;> simp [al,Value.cells,az,jr]
theorem aa.loadCellsFrom (a:Addr):∀(n i:Nat)(acc:Array Value),aa P π .pq (Go.loadCellsFrom (π.addr a) i n (az π acc)) (Go.loadCellsFrom a i n acc)
 |0,i,acc=>aa.pure _ rfl
 |n+1,i,acc=>by
  unfold Go.loadCellsFrom;rw [Pm.qz];refine aa.bind .val (aa.load _ _) fun v=> ?_
  show aa P π .pq (Go.loadCellsFrom (π.addr a) (i+1) n ((az π acc).push (al π v))) _;rw [←an0];exact aa.loadCellsFrom a n (i+1) _
theorem aa.loadCells (a:Addr)(n:Nat):aa P π .pq (Go.loadCells (π.addr a) n) (Go.loadCells a n):=aa.loadCellsFrom a n 0 #[]
theorem aa.storeCells (a:Addr):∀(vs:List Value)(i:Nat),aa P π (.none Unit) (Go.storeCells (π.addr a) (jr π vs) i) (Go.storeCells a vs i)
 | [],i=>aa.pure _ rfl
 |v::vs,i=>by
  unfold Go.storeCells jr;rw [Pm.qz];exact aa.bind (.none Unit) (aa.store _ _ _) fun _=>aa.storeCells a vs (i+1)
theorem aa.loadVar (t:TypeId)(a:Addr):aa P π .val (Go.loadVar t (π.addr a)) (Go.loadVar t a):=by
 unfold Go.loadVar;refine aa.bind (.none Bool) (aa.isAgg t) fun b=> ?_
 cases b with
 |true=>
  refine aa.bind (.none Nat) (aa.sizeOf t) fun n=> ?_
  refine aa.bind .pq (aa.loadCells a n) fun cs=> ?_
  exact aa.pure _ rfl
 |false=>exact aa.load _ _
theorem aa.storeVar (t:TypeId)(a:Addr)(v:Value):aa P π (.none Unit) (Go.storeVar t (π.addr a) (al π v)) (Go.storeVar t a v):=by
 unfold Go.storeVar;refine aa.bind (.none Nat) (aa.sizeOf t) fun n=> ?_
 show aa P π (.none Unit) (if (al π v).cells.size≠n then _ else _) (if v.cells.size≠n then _ else _);rw [ti,il];split
 ·exact aa.stuck _ _
 ·have:(az π v.cells).toList=jr π v.cells.toList:=by
     cases v.cells;rfl
  show aa P π (.none Unit) (Go.storeCells (π.addr a) (az π v.cells).toList) _;rw [this];exact aa.storeCells a _ 0
theorem aa.newRow (e:TypeId)(cs:Array Value):aa P π .addr (Go.newRow e (az π cs)) (Go.newRow e cs):=by
 unfold Go.newRow;exact aa.bind .block (aa.newObj (.cells cs e)) fun r=>aa.pure _ rfl
theorem aa.newVar (t:TypeId)(v:Value):aa P π .addr (Go.newVar t (al π v)) (Go.newVar t v):=by
 unfold Go.newVar;rw [ti];exact aa.newRow t _
theorem aa.alloc (hF:fw P π)(e:TypeId):aa P π .val (Instr.alloc e true (.tuple #[])) (Instr.alloc e true (.tuple #[])):=by
 unfold Instr.alloc;refine aa.bind .val (aa.zeroValue hF e) fun z=> ?_
 exact aa.bind .addr (aa.newVar e z) fun a=>aa.pure _ rfl
theorem aa.box (e:TypeId)(v:Value):aa P π .val (Instr.box e (al π v)) (Instr.box e v):=by
 unfold Instr.box;exact aa.bind .addr (aa.newVar e v) fun a=>aa.pure _ rfl
theorem aa.sureAddr (v:Value):aa P π .addr (Instr.sureAddr (al π v)) (Instr.sureAddr v):=by
 cases v with
 |pointer a=>cases a <;> (first|exact aa.pure _ rfl|exact aa.stuck _ _|exact aa.unsupported _ _)
 |_=>(first|exact aa.pure _ rfl|exact aa.stuck _ _|exact aa.unsupported _ _)
theorem aa.loadAt (t:TypeId)(v:Value):aa P π .val (Instr.loadAt t (al π v)) (Instr.loadAt t v):=by
 unfold Instr.loadAt;exact aa.bind .addr (aa.sureAddr v) fun a=>aa.loadVar t a
theorem aa.storeAt (t:TypeId)(p v:Value):aa P π (.none Unit) (Instr.storeAt t (al π p) (al π v)) (Instr.storeAt t p v):=by
 unfold Instr.storeAt;exact aa.bind .addr (aa.sureAddr p) fun a=>aa.storeVar t a v
theorem aa.asIntOf (v:Value):aa P π (.none (IntKind×Int)) (Go.asIntOf (al π v)) (Go.asIntOf v):=by
 cases v with
 |pointer a=>cases a <;> (first|exact aa.pure _ rfl|exact aa.stuck _ _|exact aa.unsupported _ _)
 |_=>(first|exact aa.pure _ rfl|exact aa.stuck _ _|exact aa.unsupported _ _)
theorem aa.asInt (v:Value):aa P π (.none Int) (Go.asInt (al π v)) (Go.asInt v):=aa.bind (.none _) (aa.asIntOf v) fun _=>aa.bm _
theorem aa.asBool (v:Value):aa P π (.none Bool) (Go.asBool (al π v)) (Go.asBool v):=by cases v <;> (first|exact aa.pure _ rfl|exact aa.stuck _ _|exact aa.unsupported _ _)
theorem aa.asAgg (v:Value):aa P π .pq (Go.asAgg (al π v)) (Go.asAgg v):=by cases v <;> (first|exact aa.pure _ rfl|exact aa.stuck _ _|exact aa.unsupported _ _)
theorem aa.choose (q:Question):aa P π (.none Nat) (Go.choose q) (Go.choose q):=fun _ _=> .choose q fun n=> .pure n trivial
theorem aa.mark (m:Mark)(h:nv m=true):aa P π (.none Unit) (Go.mark m) (Go.mark m):=fun _ _=> .mark m h (.pure () trivial)
theorem aa.askRoom (n:Nat):aa P π (.none Unit) (Go.askRoom n) (Go.askRoom n):=by
 unfold Go.askRoom;split
 ·exact aa.mark _ rfl
 ·exact aa.bm _
theorem aa.elemOf (t:TypeId):aa P π (.none TypeId) (Go.elemOf t) (Go.elemOf t):=by
 unfold Go.elemOf;refine aa.bind (.none TypeDesc) (aa.underlying t) fun d=> ?_
 cases d <;> first|exact aa.bm _|exact aa.stuck _ _
theorem aa3 (hF:fw P π)(t:TypeId):al π (typeHandle P t)=typeHandle P t:=by
 unfold typeHandle;simp only [al,Option.map_some];congr 2;unfold Pm.addr;simp only;rw [hF.base _ ai]
theorem aa.runtimePanic (hF:fw P π)(A:eg α)(e:RuntimeError):aa P π A (Go.runtimePanic e:Sem α) (Go.runtimePanic e):=by
 unfold Go.runtimePanic;refine aa.xh _ (fun fs=>by cases e <;> rfl) ?_;cases e with
 |bounds x y s c=>exact aa.xf A rfl
 |error m=>exact aa.xf A rfl
 |plain m=>exact aa.xf A rfl
 |nilDeref=>exact aa.xf A rfl
 |typeAssertion i c a m=>
  refine aa.bind (.none TypeId) (aa.elemOf _) fun t=> ?_
  have key:∀cs:Array Value,az π cs=cs→aa P π .addr (Go.newVar t (.agg cs)) (Go.newVar t (.agg cs)):=fun cs hc=>by
   have:=aa.newVar (P:=P) (π:=π) t (.agg cs);simp only [al,hc] at this;exact this
  have h1:∀i:Option TypeId,al π (match i with|some t=>typeHandle P t|none=>Value.pointer none)=(match i with|some t=>typeHandle P t|none=>Value.pointer none):=fun i=>by
   cases i with
   |none=>rfl
   |some t=>exact aa3 hF t
  refine aa.bind .addr (key _ ?_) fun r=> ?_
  ·cases i <;> cases c <;> simp [az,jr,aa3 hF,strVal,al]
  ·exact aa.goPanic A (.iface _ (.pointer (some r)))
 |panicNil=>
  refine aa.bind (.none TypeId) (aa.elemOf _) fun t=> ?_
  refine aa.bind .addr (aa.newVar t (.agg #[])) fun r=> ?_
  exact aa.goPanic A (.iface _ (.pointer (some r)))
 |unhashable t=>
  have h:al π (.iface P.rt.unhashableTypeError (.agg #[typeHandle P t]))= .iface P.rt.unhashableTypeError (.agg #[typeHandle P t]):=by
   simp only [al,az,jr,aa3 hF]
  have:=aa.goPanic (P:=P) (π:=π) A (.iface P.rt.unhashableTypeError (.agg #[typeHandle P t]));rw [h] at this;exact this
theorem aa.boundsPanic (hF:fw P π)(A:eg α)(k:IntKind)(x y:Int)(c:BoundsCode):aa P π A (Go.boundsPanic k x y c:Sem α) (Go.boundsPanic k x y c):=by
 unfold Go.boundsPanic;split
 ·refine aa.bind (.none Bool) ?_ fun b=>aa.runtimePanic hF A _
  exact aa.bk (aa.choose _) fun _=>aa.bm _
 ·exact aa.bind (.none Bool) (aa.bm _) fun b=>aa.runtimePanic hF A _
theorem aa.asAddr (hF:fw P π)(v:Value):aa P π .addr (Go.asAddr (al π v)) (Go.asAddr v):=by
 cases v with
 |pointer a=>
  cases a with
  |none=>
   show aa P π .addr (Go.runtimePanic .nilDeref) (Go.runtimePanic .nilDeref);exact aa.runtimePanic hF _ _
  |some a=>(first|exact aa.pure _ rfl|exact aa.stuck _ _|exact aa.unsupported _ _)
 |_=>(first|exact aa.pure _ rfl|exact aa.stuck _ _|exact aa.unsupported _ _)
theorem ja (a:Array Value)(i:Nat):(az π a)[i]? =a[i]?.map (al π):=by rw [fh,Array.getElem?_map]
theorem ug (a:Array Value)(i j:Nat):(az π a).extract i j=az π (a.extract i j):=by rw [fh,fh,Array.map_extract]
theorem aa.part (t:TypeId)(cs:Array Value)(o:Nat):aa P π .val (Go.part t (az π cs) o) (Go.part t cs o):=by
 unfold Go.part;refine aa.bind (.none Bool) (aa.isAgg t) fun b=> ?_
 cases b with
 |true=>
  refine aa.bind (.none Nat) (aa.sizeOf t) fun n=> ?_
  refine aa.pure _ ?_;show Value.agg _=al π (.agg _);simp only [al,ug];rfl
 |false=>
  show aa P π .val (match (az π cs)[o]? with|some v=>Pure.pure v|none=>Go.stuck _) (match cs[o]? with|some v=>Pure.pure v|none=>Go.stuck _);rw [ja];cases cs[o]? with
  |none=>exact aa.stuck _ _
  |some v=>exact aa.pure _ rfl
theorem aa.ite {A:eg α}{c:Prop} [Decidable c] {a' b' a b:Sem α}(h1:aa P π A a' a)(h2:aa P π A b' b):aa P π A (if c then a' else b') (if c then a else b):=by
 split
 ·exact h1
 ·exact h2
theorem aa.field (x:Value)(t:TypeId)(f:Nat):aa P π .val (Instr.field t (al π x) f) (Instr.field t x f):=by
 unfold Instr.field;refine aa.bind (.none TypeDesc) (aa.underlying t) fun d=> ?_
 cases d <;> try exact aa.stuck _ _
 rename_i fs;show aa P π .val (match fs[f]? with|some f=>Bind.bind (Go.asAgg (al π x)) fun cs=>Go.part f.type cs f.offset|none=>Go.stuck _) (match fs[f]? with|some f=>Bind.bind (Go.asAgg x) fun cs=>Go.part f.type cs f.offset|none=>Go.stuck _);cases fs[f]? with
 |none=>exact aa.stuck _ _
 |some g=>exact aa.bind .pq (aa.asAgg x) fun cs=>aa.part _ _ _
theorem aa.index (hF:fw P π)(t:TypeId)(x i:Value):aa P π .val (Instr.index t (al π x) (al π i)) (Instr.index t x i):=by
 unfold Instr.index;refine aa.bind (.none (IntKind×Int)) (aa.asIntOf i) fun ki=> ?_
 obtain ⟨k,n⟩:=ki;refine aa.bind (.none TypeDesc) (aa.underlying t) fun d=> ?_
 cases d with
 |array len elem=>
  cases x with
  |agg cs=>
   refine aa.ite ?_ (aa.boundsPanic hF _ _ _ _ _);exact aa.bind (.none Nat) (aa.sizeOf _) fun _=>aa.part _ _ _
  |_=>exact aa.stuck _ _
 |string=>
  cases x with
  |string s=>
   show aa P π .val (match (if 0≤n then s[n.toNat]? else Option.none) with|some b=>Pure.pure (.int .u8 b.toNat)|Option.none=>Go.boundsPanic k n s.size .index) (match (if 0≤n then s[n.toNat]? else Option.none) with|some b=>Pure.pure (.int .u8 b.toNat)|Option.none=>Go.boundsPanic k n s.size .index);split
   ·exact aa.pure _ rfl
   ·exact aa.boundsPanic hF _ _ _ _ _
  |_=>exact aa.stuck _ _
 |_=>exact aa.stuck _ _
theorem aa.sliceBound (hF:fw P π)(x:Value)(y:Nat)(c:BoundsCode):aa P π (.none Nat) (Instr.sliceBound (al π x) y c) (Instr.sliceBound x y c):=by
 unfold Instr.sliceBound;refine aa.bind (.none (IntKind×Int)) (aa.asIntOf x) fun ki=> ?_
 obtain ⟨k,n⟩:=ki;exact aa.ite (aa.bm _) (aa.boundsPanic hF _ _ _ _ _)
theorem aa.sliceBounds (hF:fw P π)(b:Bool)(len cap:Nat)(lo hi mx:Option Value):aa P π (.none (Nat×Nat×Nat)) (Instr.sliceBounds b len cap (lo.map (al π)) (hi.map (al π)) (mx.map (al π))) (Instr.sliceBounds b len cap lo hi mx):=by
 unfold Instr.sliceBounds;cases mx <;> cases hi <;> cases lo <;>
  (repeat (first|exact aa.stuck _ _|exact aa.bm _|refine aa.bind (.none Nat) (aa.sliceBound hF _ _ _) fun _=> ?_|refine aa.bind (.none Nat) (aa.bm _) fun _=> ?_))
theorem aa.slice (hF:fw P π)(t:TypeId)(x:Value)(lo hi mx:Option Value):aa P π .val (Instr.slice t (al π x) (lo.map (al π)) (hi.map (al π)) (mx.map (al π))) (Instr.slice t x lo hi mx):=by
 unfold Instr.slice;refine aa.bk (aa.underlying t) fun d=> ?_
 cases d with
 |string=>
  cases x with
  |string s=>
   show aa P π .val (if (mx.map (al π)).isSome then _ else _) (if mx.isSome then _ else _);rw [Option.isSome_map];refine aa.ite ?_ ?_
   ·exact aa.stuck _ _
   ·exact aa.bk (aa.sliceBounds hF _ _ _ _ _ none) fun b=>aa.pure _ rfl
  |_=>exact aa.stuck _ _
 |slice e=>
  cases x with
  |slice a len cap=>
   refine aa.bk (aa.sliceBounds hF _ _ _ _ _ _) fun b=> ?_
   obtain ⟨l,h,m⟩:=b;refine aa.bk (aa.sizeOf _) fun n=> ?_
   refine aa.pure _ ?_;show Value.slice _ _ _=al π (.slice _ _ _);simp only [al];congr 1
   by_cases hm:m=l
   ·rw [if_pos hm,if_pos hm]
   ·rw [if_neg hm,if_neg hm];cases a with
    |none=>rfl
    |some a=>simp [Pm.qz]
  |_=>exact aa.stuck _ _
 |pointer e=>
  refine aa.bind .addr (aa.asAddr hF x) fun a=> ?_
  refine aa.bk (aa.underlying e) fun d=> ?_
  cases d with
  |array n el=>
   refine aa.bk (aa.sliceBounds hF _ _ _ _ _ _) fun b=> ?_
   obtain ⟨l,h,m⟩:=b;refine aa.bk (aa.sizeOf _) fun k=> ?_
   refine aa.pure _ ?_;show Value.slice (some (if m=l then π.addr a else (π.addr a).add (l*k))) (h-l) (m-l)=al π (.slice _ _ _);simp only [al,Option.map_some];congr 2
   by_cases hm:m=l
   ·rw [if_pos hm,if_pos hm]
   ·rw [if_neg hm,if_neg hm,Pm.qz]
  |_=>exact aa.stuck _ _
 |_=>exact aa.stuck _ _
theorem aa.sliceAt (hF:fw P π)(t:TypeId)(x:Value)(lo hi mx:Option Value):aa P π .val (Instr.sliceAt t (al π x) (lo.map (al π)) (hi.map (al π)) (mx.map (al π))) (Instr.sliceAt t x lo hi mx):=by
 unfold Instr.sliceAt;refine aa.bk (aa.underlying t) fun d=> ?_
 cases d with
 |array n el=>
  refine aa.bind .addr (aa.sureAddr x) fun a=> ?_
  refine aa.bk (aa.sliceBounds hF _ _ _ _ _ _) fun b=> ?_
  obtain ⟨l,h,m⟩:=b;refine aa.bk (aa.sizeOf _) fun k=> ?_
  refine aa.pure _ ?_;show Value.slice (some (if m=l then π.addr a else (π.addr a).add (l*k))) (h-l) (m-l)=al π (.slice _ _ _);simp only [al,Option.map_some];congr 2
  by_cases hm:m=l
  ·rw [if_pos hm,if_pos hm]
  ·rw [if_neg hm,if_neg hm,Pm.qz]
 |_=>exact aa.slice hF _ _ _ _ _
theorem aa.indexAt (hF:fw P π)(t:TypeId)(x i:Value):aa P π .val (Instr.indexAt t (al π x) (al π i)) (Instr.indexAt t x i):=by
 unfold Instr.indexAt;refine aa.bk (aa.asIntOf i) fun ki=> ?_
 obtain ⟨k,n⟩:=ki;refine aa.bk (aa.underlying t) fun d=> ?_
 have tail:∀(base:Option Addr)(len:Nat)(elem:TypeId),aa P π .val
   (do let tiny:=len≤1 && (match ←Go.underlying t with| .array .. =>true|_=>false)
       match base.map π.addr with
       |some a=>if 0≤n∧n<len then Pure.pure (.pointer (some (a.add (n.toNat* (←Go.sizeOf elem))))) else if tiny then Go.unsupported (.noEntry "op/indexAddr.an index out of range at an array of length 0 or 1 (ledger 616)") else Go.boundsPanic k n len .index
       |none=>Go.boundsPanic k n 0 .index)
   (do let tiny:=len≤1 && (match ←Go.underlying t with| .array .. =>true|_=>false)
       match base with
       |some a=>if 0≤n∧n<len then Pure.pure (.pointer (some (a.add (n.toNat* (←Go.sizeOf elem))))) else if tiny then Go.unsupported (.noEntry "op/indexAddr.an index out of range at an array of length 0 or 1 (ledger 616)") else Go.boundsPanic k n len .index
       |none=>Go.boundsPanic k n 0 .index):=fun base len elem=>by
  refine aa.bk (aa.underlying t) fun d=> ?_
  cases base with
  |none=>exact aa.boundsPanic hF _ _ _ _ _
  |some a=>
   refine aa.ite ?_ (aa.ite (aa.unsupported _ _) (aa.boundsPanic hF _ _ _ _ _));refine aa.bk (aa.sizeOf _) fun m=> ?_
   refine aa.pure _ ?_;show Value.pointer (some ((π.addr a).add _))=al π (.pointer (some _));rw [Pm.qz];rfl
 cases d with
 |array len elem=>
  refine aa.bind .addr (aa.sureAddr x) fun a=> ?_
  exact tail (some a) len elem
 |slice elem=>
  cases x with
  |slice a len cap=>exact tail a len elem
  |_=>exact aa.stuck _ _
 |_=>exact aa.stuck _ _
theorem jl (a b:Array Value):az π (a++b)=az π a++az π b:=by rw [fh,fh,fh,Array.map_append]
theorem ng (a:Array Value):(az π a).toList=jr π a.toList:=by
 cases a;rfl
theorem aa.lenOf (x:Value):aa P π (.none Nat) (Builtin.lenOf (al π x)) (Builtin.lenOf x):=by cases x <;> (first|exact aa.pure _ rfl|exact aa.stuck _ _|exact aa.unsupported _ _)
theorem agi (b:Array UInt8):az π (b.map fun x=>Value.int .u8 x.toNat)=b.map fun x=>Value.int .u8 x.toNat:=by
 rw [fh,Array.map_map];congr 1
theorem aa.firstCells (k n:Nat)(x:Value):aa P π .pq (Builtin.firstCells k n (al π x)) (Builtin.firstCells k n x):=by
 cases x with
 |slice a l c=>
  cases a with
  |none=>exact aa.pure _ rfl
  |some a=>exact aa.loadCells a (n*k)
 |string s=>
  refine aa.pure _ ?_;show _=az π _;rw [agi]
 |_=>exact aa.stuck _ _
theorem zx (z:Array Value)(n:Nat)(hz:az π z=z):az π (Builtin.zeroCells z n)=Builtin.zeroCells z n:=by
 unfold Builtin.zeroCells;rw [fh,Array.map_map];congr 1
 funext i
 show al π (z[i % z.size]!)=z[i % z.size]!
 by_cases h:i % z.size<z.size
 ·rw [getElem!_pos z _ h];have:=ja (π:=π) z (i % z.size);rw [hz,Array.getElem?_eq_getElem h] at this;simp at this;exact this.symm
 ·rw [getElem!_neg z _ h];rfl
theorem aa.copy (t:Array TypeId)(ty:TypeId)(args:Array Value):aa P π .val (Builtin.copy_ t ty (az π args)) (Builtin.copy_ t ty args):=by
 unfold Builtin.copy_;rw [ja,ja];cases t[0]? with
 |none=>exact aa.stuck _ _
 |some t0=>
  cases args[0]? with
  |none=>exact aa.stuck _ _
  |some d=>
   cases args[1]? with
   |none=>exact aa.stuck _ _
   |some x=>
    refine aa.bk (aa.underlying t0) fun td=> ?_
    cases td with
    |slice elem=>
     cases d with
     |slice base n c=>
      refine aa.bk (aa.lenOf x) fun m=> ?_
      refine aa.bk (aa.sizeOf elem) fun k=> ?_
      refine aa.bind .pq (aa.firstCells k _ x) fun cs=> ?_
      cases base with
      |none=>exact aa.pure _ rfl
      |some a=>
       refine aa.bk (s':=Go.storeCells (π.addr a) (az π cs).toList) (s:=Go.storeCells a cs.toList) ?_ fun _=>aa.pure _ rfl
       rw [ng];exact aa.storeCells a _ 0
     |_=>exact aa.stuck _ _
    |_=>exact aa.stuck _ _
theorem aa.len (t:Array TypeId)(ty:TypeId)(args:Array Value):aa P π .val (Builtin.len_ t ty (az π args)) (Builtin.len_ t ty args):=by
 unfold Builtin.len_;rw [ja];cases t[0]? with
 |none=>exact aa.stuck _ _
 |some t0=>
  cases args[0]? with
  |none=>exact aa.stuck _ _
  |some x=>
   refine aa.bk (aa.underlying t0) fun td=> ?_
   cases td with
   |string=>cases x <;> first|exact aa.stuck _ _|exact aa.pure _ rfl
   |array n e=>cases x <;> exact aa.pure _ rfl
   |pointer e=>
    cases x <;> (refine aa.bk (aa.underlying e) fun d=> ?_;cases d <;> first|exact aa.stuck _ _|exact aa.pure _ rfl)
   |slice e=>cases x <;> first|exact aa.stuck _ _|exact aa.pure _ rfl
   |map k e=>
    cases x with
    |map r=>
     cases r with
     |none=>exact aa.pure _ rfl
     |some r=>
      refine aa.getObj r (fun _ _=> .stuck _) fun o ho=>aa.any ?_
      cases o <;> try exact aa.stuck _ _
      refine aa.pure _ ?_;show goInt _=goInt _;rw [Array.size_map]
    |_=>exact aa.stuck _ _
   |chan d e=>
    cases x with
    |chan r=>
     cases r with
     |none=>exact aa.pure _ rfl
     |some r=>
      refine aa.getObj r (fun _ _=> .stuck _) fun o ho=>aa.any ?_
      cases o <;> try exact aa.stuck _ _
      refine aa.pure _ ?_;show goInt (if _ then 0 else _)=goInt _;rw [il]
    |_=>exact aa.stuck _ _
   |_=>cases x <;> exact aa.stuck _ _
theorem xl {v:Value}(h:al π v=v):az π v.cells=v.cells:=by rw [←ti,h]
theorem ago {z:Array Value}(n:Nat)(hz:az π z=z):az π ((Array.range n).map (z[· % z.size]!))=(Array.range n).map (z[· % z.size]!):=by
 rw [fh,Array.map_map];congr 1
 funext i
 show al π (z[i % z.size]!)=z[i % z.size]!
 by_cases h:i % z.size<z.size
 ·rw [getElem!_pos z _ h];have:=ja (π:=π) z (i % z.size);rw [hz,Array.getElem?_eq_getElem h] at this;simp at this;exact this.symm
 ·rw [getElem!_neg z _ h];rfl
theorem aa.makeSlice (hF:fw P π)(t:TypeId)(l c:Value):aa P π .val (Instr.makeSlice t (al π l) (al π c)) (Instr.makeSlice t l c):=by
 unfold Instr.makeSlice;refine aa.bk (aa.underlying t) fun d=> ?_
 cases d with
 |slice elem=>
  refine aa.bk (aa.asInt l) fun len=> ?_
  refine aa.bk (aa.asInt c) fun cap=> ?_
  refine aa.bk (aa.typeInfo elem) fun info=> ?_
  have tail:∀(k:Nat)(z:Array Value),az π z=z→aa P π .val (do let a ←Go.newRow elem ((Array.range ((IntKind.i64.wrap cap).toNat*k)).map (z[· % z.size]!));Pure.pure (Value.slice (some a) (IntKind.i64.wrap len).toNat (IntKind.i64.wrap cap).toNat)) (do let a ←Go.newRow elem ((Array.range ((IntKind.i64.wrap cap).toNat*k)).map (z[· % z.size]!));Pure.pure (Value.slice (some a) (IntKind.i64.wrap len).toNat (IntKind.i64.wrap cap).toNat)):=fun k z hz=>by
   have h:=aa.newRow (P:=P) (π:=π) elem ((Array.range ((IntKind.i64.wrap cap).toNat*k)).map (z[· % z.size]!));rw [ago _ hz] at h;exact aa.bind .addr h fun a=>aa.pure _ rfl
  refine aa.ite (aa.ite (aa.bk (aa.runtimePanic hF _ _) fun _=> ?_) (aa.ite (aa.bk (aa.runtimePanic hF _ _) fun _=> ?_) (aa.bk (aa.choose _) fun m=>aa.bk (aa.runtimePanic hF _ _) fun _=> ?_))) ?_
  all_goals (
   refine aa.bk (aa.askRoom _) fun _=> ?_
   refine aa.bk (aa.sizeOf elem) fun k=> ?_
   refine aa.ite ?_ ?_
   ·exact tail k #[] rfl
   ·refine ue hF fun z hz=> ?_
    exact tail k z.cells (xl hz))
 |_=>exact aa.stuck _ _
theorem adn (place:Nat→Option (Nat×Nat)):∀(parts:List (Nat×Value))(cells:Array Value),Instr.fill place (az π cells) (parts.map fun x=>(x.1,al π x.2))=(Instr.fill place cells parts).map (az π)
 | [],cells=>rfl
 |(i,v)::rest,cells=>by
  simp only [List.map_cons,Instr.fill];cases place i with
  |none=>rfl
  |some os=>
   obtain ⟨o,k⟩:=os;simp only [ti,il]
   by_cases h:(v.cells.size≠k || o+v.cells.size > cells.size)=true
   ·rw [if_pos h,if_pos h];rfl
   ·rw [if_neg h,if_neg h,←adn place rest];congr 1;have key:∀(l:List (Value×Nat))(cs:Array Value),(l.map fun x=>(al π x.1,x.2)).foldl (fun cs (c,j)=>cs.setIfInBounds (o+j) c) (az π cs)=az π (l.foldl (fun cs (c,j)=>cs.setIfInBounds (o+j) c) cs):=by
     intro l
     induction l with
     |nil=>intro cs;rfl
     |cons x l ih=>
      intro cs;simp only [List.map_cons,List.foldl_cons];rw [←ih];congr 1;rw [fh,fh];simp
    have hz:(az π v.cells).zipIdx.toList=v.cells.zipIdx.toList.map fun x=>(al π x.1,x.2):=by
     rw [fh];simp [List.zipIdx_map]
    rw [←Array.foldl_toList,←Array.foldl_toList,hz];exact key _ _
def py (π:Pm)(ps:Array (Nat×Value)):Array (Nat×Value):=ps.map fun x=>(x.1,al π x.2)
theorem yb (ps:Array (Nat×Value)):(py π ps).toList=ps.toList.map fun x=>(x.1,al π x.2):=by simp [py]
theorem af1 {z:Array Value}(hz:az π z=z)(place:Nat→Option (Nat×Nat))(ps:Array (Nat×Value)):Instr.fill place z (py π ps).toList=(Instr.fill place z ps.toList).map (az π):=by
 have:=adn (π:=π) place ps.toList z;rw [hz] at this;rw [yb];exact this
theorem renA_at (z:Array Value)(i:Nat):(az π z)[i]! =al π z[i]! :=by
 by_cases h:i<z.size
 ·rw [getElem!_pos z _ h,getElem!_pos (az π z) _ (by rw [il];exact h)];have:=ja (π:=π) z i;rw [Array.getElem?_eq_getElem h,Array.getElem?_eq_getElem (by rw [il];exact h)] at this
  simpa using this
 ·rw [getElem!_neg z _ h,getElem!_neg (az π z) _ (by rw [il];exact h)];rfl
theorem alm (z:Array Value)(n:Nat):(Array.range n).map ((az π z)[· % (az π z).size]!)=az π ((Array.range n).map (z[· % z.size]!)):=by
 rw [fh (π:=π) ((Array.range n).map _),Array.map_map];congr 1
 funext i
 show (az π z)[i % (az π z).size]! =al π (z[i % z.size]!);rw [renA_at,il]
theorem aa.buildSlice (hF:fw P π)(t:TypeId)(n:Nat)(ps:Array (Nat×Value)):aa P π .val (Instr.buildSlice t n (py π ps)) (Instr.buildSlice t n ps):=by
 unfold Instr.buildSlice;refine aa.bk (aa.underlying t) fun d=> ?_
 cases d with
 |slice elem=>
  refine aa.bk (aa.sizeOf elem) fun k=> ?_
  have tail:∀z:Array Value,Instr.fill (fun i=>some (i*k,k)) ((Array.range (n*k)).map ((az π z)[· % (az π z).size]!)) (py π ps).toList=(Instr.fill (fun i=>some (i*k,k)) ((Array.range (n*k)).map (z[· % z.size]!)) ps.toList).map (az π):=fun z=>by
   rw [yb,←adn,alm]
  refine aa.ite (aa.bk (aa.unsupported _ _) fun _=> ?_) ?_
  all_goals (
   refine aa.ite ?_ ?_
   ·refine aa.bind .pq (aa.pure _ rfl) fun z=> ?_
    show aa P π .val (match Instr.fill (fun i=>some (i*k,k)) ((Array.range (n*k)).map ((az π z)[· % (az π z).size]!)) (py π ps).toList with|some cells=>_|_=>_) _;dsimp only;rw [tail z];cases Instr.fill (fun i=>some (i*k,k)) ((Array.range (n*k)).map (z[· % z.size]!)) ps.toList with
    |none=>exact aa.stuck _ _
    |some cells=>exact aa.bind .addr (aa.newRow elem cells) fun a=>aa.pure _ rfl
   ·refine aa.bind .val (aa.zeroValue hF _) fun v=> ?_
    refine aa.bind .pq (aa.pure _ (ti v)) fun z=> ?_
    show aa P π .val (match Instr.fill (fun i=>some (i*k,k)) ((Array.range (n*k)).map ((az π z)[· % (az π z).size]!)) (py π ps).toList with|some cells=>_|_=>_) _;dsimp only;rw [tail z];cases Instr.fill (fun i=>some (i*k,k)) ((Array.range (n*k)).map (z[· % z.size]!)) ps.toList with
    |none=>exact aa.stuck _ _
    |some cells=>exact aa.bind .addr (aa.newRow elem cells) fun a=>aa.pure _ rfl)
 |_=>exact aa.stuck _ _
theorem aa.foldl0 {γ δ:Type}{f:δ→γ→Sem δ}(hf:∀d x,aa P π (.none δ) (f d x) (f d x)):∀(l:List γ)(d:δ),aa P π (.none δ) (l.foldlM f d) (l.foldlM f d)
 | [],d=>aa.bm _
 |x::l,d=>aa.bk (hf _ _) fun e=>aa.foldl0 hf l e
theorem aa.mapM {γ δ:Type}{f:γ→Sem δ}(hf:∀x,aa P π (.none δ) (f x) (f x))(as:Array γ):aa P π (.none (Array δ)) (as.mapM f) (as.mapM f):=by
 haveI:=tt
 rw [Array.mapM_eq_foldlM,←Array.foldlM_toList];exact aa.foldl0 (fun d x=>aa.bk (hf x) fun _=>aa.bm _) _ _
theorem aa.build (hF:fw P π)(t:TypeId)(ps:Array (Nat×Value)):aa P π .val (Instr.build t (py π ps)) (Instr.build t ps):=by
 unfold Instr.build;refine ue hF fun z hz=> ?_
 refine aa.bk (aa.underlying t) fun d=> ?_
 cases d with
 |struct fs=>
  refine aa.bk (aa.mapM (fun f=>aa.bk (aa.sizeOf _) fun _=>aa.bm _) fs) fun places=> ?_
  rw [af1 (xl hz)];cases Instr.fill (places[·]?) z.cells ps.toList with
  |none=>exact aa.stuck _ _
  |some cells=>exact aa.pure _ rfl
 |array n e=>
  refine aa.bk (aa.sizeOf _) fun k=> ?_
  rw [af1 (xl hz)];cases Instr.fill (fun i=>some (i*k,k)) z.cells ps.toList with
  |none=>exact aa.stuck _ _
  |some cells=>exact aa.pure _ rfl
 |_=>exact aa.stuck _ _
theorem aa.extract (x:Value)(i:Nat):aa P π .val (Instr.extract (al π x) i) (Instr.extract x i):=by
 cases x with
 |tuple vs=>
  show aa P π .val (match (az π vs)[i]? with|some v=>Pure.pure v|none=>Go.stuck _) (match vs[i]? with|some v=>Pure.pure v|none=>Go.stuck _);rw [ja];cases vs[i]? with
  |none=>exact aa.stuck _ _
  |some v=>exact aa.pure _ rfl
 |_=>exact aa.stuck _ _
theorem aa.makeInterface (t:TypeId)(x:Value):aa P π .val (Instr.makeInterface t (al π x)) (Instr.makeInterface t x):=by
 unfold Instr.makeInterface;refine aa.bk (aa.underlying t) fun d=> ?_
 cases d <;> first|exact aa.stuck _ _|exact aa.pure _ rfl
theorem aa.makeFunc (fn:Fn)(first captured:Array Value)(hfn:π.fn fn=fn):aa P π .val (Instr.makeFunc fn (az π first) (az π captured)) (Instr.makeFunc fn first captured):=by
 refine aa.pure _ ?_;show _=al π (.func fn first captured);simp only [al,hfn]
theorem aa.makeMap (t:TypeId)(r:Option Value):aa P π .val (Instr.makeMap t (r.map (al π))) (Instr.makeMap t r):=by
 unfold Instr.makeMap;have tail:aa P π .val (do Pure.pure (.map (some (←Go.newObj (.map #[] 0))))) (do Pure.pure (.map (some (←Go.newObj (.map #[] 0))))):=aa.bind .block (by have:=aa.newObj (P:=P) (π:=π) (.map #[] 0);simpa [cx] using this) fun a=>aa.pure _ rfl
 cases r with
 |none=>exact tail
 |some v=>
  refine aa.bk (aa.underlying t) fun d=> ?_
  cases d <;> try exact aa.bk (aa.stuck _ _) fun _=>tail
  exact aa.bk (aa.asInt v) fun _=>tail
theorem aa.makeChan (hF:fw P π)(t:TypeId)(x:Value):aa P π .val (Instr.makeChan t (al π x)) (Instr.makeChan t x):=by
 unfold Instr.makeChan;refine aa.bk (aa.asInt x) fun n=> ?_
 refine aa.bk (aa.underlying t) fun d=> ?_
 cases d <;> try exact aa.stuck _ _
 refine aa.bk (aa.typeInfo _) fun i=> ?_
 have tail:aa P π .val (do Pure.pure (.chan (some (←Go.newObj (.chan n.toNat #[] false 0 0 false))))) (do Pure.pure (.chan (some (←Go.newObj (.chan n.toNat #[] false 0 0 false))))):=aa.bind .block (aa.newObj (.chan n.toNat #[] false 0 0 false)) fun a=>aa.pure _ rfl
 exact aa.ite (aa.bk (aa.runtimePanic hF _ _) fun _=>tail) tail
theorem aa.typeAssert (hF:fw P π)(x:Value)(xt at_:TypeId)(ok:Bool):aa P π .val (Instr.typeAssert (al π x) xt at_ ok) (Instr.typeAssert x xt at_ ok):=by
 unfold Instr.typeAssert;have fails:∀(s d:Option TypeId)(m:String),aa P π .val (if ok=true then do Pure.pure (.tuple #[←Go.zeroValue at_,.bool false]) else Go.runtimePanic (.typeAssertion s d at_ m)) (if ok=true then do Pure.pure (.tuple #[←Go.zeroValue at_,.bool false]) else Go.runtimePanic (.typeAssertion s d at_ m)):=fun s d m=>by
  refine aa.ite ?_ (aa.runtimePanic hF _ _);exact aa.bind .val (aa.zeroValue hF _) fun z=>aa.pure _ rfl
 have holds:∀v:Value,aa P π .val (Pure.pure (if ok=true then .tuple #[al π v,.bool true] else al π v)) (Pure.pure (if ok=true then .tuple #[v,.bool true] else v)):=fun v=>by
  refine aa.pure _ ?_;cases ok <;> rfl
 refine aa.bk (aa.underlying at_) fun d=> ?_
 cases d <;> cases x <;> first
  |exact aa.stuck _ _
  |exact fails _ _ _
  |(refine aa.bk (aa.typeInfo _) fun i=> ?_
    show aa P π .val (match Instr.missingMethod _ i.methods with|none=>_|some m=>_) (match Instr.missingMethod _ i.methods with|none=>_|some m=>_);cases Instr.missingMethod _ i.methods with
    |none=>exact holds _
    |some m=>exact fails _ _ _)
  |exact aa.ite (holds _) (fails _ _ _)
theorem aa.intArith (op:BinOp)(k:IntKind)(a b:Int):aa P π .val (Op.intArith op k a b) (Op.intArith op k a b):=by cases op <;> (first|exact aa.pure _ rfl|exact aa.stuck _ _|exact aa.unsupported _ _)
theorem aa.intBits (op:BinOp)(k:IntKind)(a b:Int):aa P π .val (Op.intBits op k a b) (Op.intBits op k a b):=by cases op <;> (first|exact aa.pure _ rfl|exact aa.stuck _ _|exact aa.unsupported _ _)
theorem aa.intCmp (op:BinOp)(a b:Int):aa P π .val (Op.intCmp op a b) (Op.intCmp op a b):=by cases op <;> (first|exact aa.pure _ rfl|exact aa.stuck _ _|exact aa.unsupported _ _)
theorem aa.intDiv (hF:fw P π)(op:BinOp)(k:IntKind)(a b:Int):aa P π .val (Op.intDiv op k a b) (Op.intDiv op k a b):=by
 unfold Op.intDiv;refine aa.ite (aa.runtimePanic hF _ _) ?_;cases op <;> (first|exact aa.pure _ rfl|exact aa.stuck _ _|exact aa.unsupported _ _)
theorem aa.shift (hF:fw P π)(op:BinOp)(k yk:IntKind)(a b:Int):aa P π .val (Op.shift op k a yk b) (Op.shift op k a yk b):=by
 unfold Op.shift;refine aa.ite (aa.runtimePanic hF _ _) ?_;cases op <;> (first|exact aa.pure _ rfl|exact aa.stuck _ _|exact aa.unsupported _ _)
theorem aa.stringOp (op:BinOp)(a b:ByteArray):aa P π .val (Op.stringOp op a b) (Op.stringOp op a b):=by
 unfold Op.stringOp;cases op <;> (first|exact aa.pure _ rfl|exact aa.stuck _ _|exact aa.unsupported _ _|exact aa.ite (aa.unsupported _ _) (aa.pure _ rfl))
theorem aa.unary (op:UnOp)(x:Value):aa P π .val (Op.unary op (al π x)) (Op.unary op x):=by
 cases op <;> cases x <;> (first|exact aa.intArith _ _ _ _|exact aa.intBits _ _ _ _|exact aa.pure _ rfl|exact aa.stuck _ _|exact aa.unsupported _ _|(rename_i a;cases a <;> (first|exact aa.stuck _ _|exact aa.unsupported _ _)))
end
section
variable {P:Program}{π:Pm}{α β:Type}{V:Nat→Prop}
theorem aa.under {B:eg β}{t:TypeId}{d:TypeDesc}{h' h:TypeDesc→Sem β}(ht:P.underlying t=some d)(hh:aa P π B (h' d) (h d)):aa P π B (Go.underlying t >>=h') (Go.underlying t >>=h):=by
 intro fs L;unfold Go.underlying;refine Tw.program ?_;show Tw _ P π _ _ L (Sem.bind (match P.underlying t with|some d=>Pure.pure d|none=>Go.stuck "no such type") h') (Sem.bind (match P.underlying t with|some d=>Pure.pure d|none=>Go.stuck "no such type") h);rw [ht];exact hh fs L
theorem aa.ov {B:eg β}{t:TypeId}{h' h:TypeDesc→Sem β}(ht:P.underlying t=none):aa P π B (Go.underlying t >>=h') (Go.underlying t >>=h):=by
 intro fs L;unfold Go.underlying;refine Tw.program ?_;show Tw _ P π _ _ L (Sem.bind (match P.underlying t with|some d=>Pure.pure d|none=>Go.stuck "no such type") h') (Sem.bind (match P.underlying t with|some d=>Pure.pure d|none=>Go.stuck "no such type") h);rw [ht];exact .dead _ (.stuck _)
theorem aa.info {B:eg β}{t:TypeId}{d:TypeInfo}{h' h:TypeInfo→Sem β}(ht:P.info? t=some d)(hh:aa P π B (h' d) (h d)):aa P π B (Go.typeInfo t >>=h') (Go.typeInfo t >>=h):=by
 intro fs L;unfold Go.typeInfo;refine Tw.program ?_;show Tw _ P π _ _ L (Sem.bind (match P.info? t with|some d=>Pure.pure d|none=>Go.stuck "no such type") h') (Sem.bind (match P.info? t with|some d=>Pure.pure d|none=>Go.stuck "no such type") h);rw [ht];exact hh fs L
theorem dm.under {t:TypeId}{h:TypeDesc→Sem β}(hh:∀d,P.underlying t=some d→dm P V (h d)):dm P V (Go.underlying t >>=h):=by
 unfold Go.underlying;refine .program _ ?_;show dm P V (Sem.bind (match P.underlying t with|some d=>Pure.pure d|none=>Go.stuck "no such type") h);cases hu:P.underlying t with
 |none=>exact .stuck _
 |some d=>exact hh d hu
theorem dm.info {t:TypeId}{h:TypeInfo→Sem β}(hh:∀d,P.info? t=some d→dm P V (h d)):dm P V (Go.typeInfo t >>=h):=by
 unfold Go.typeInfo;refine .program _ ?_;show dm P V (Sem.bind (match P.info? t with|some d=>Pure.pure d|none=>Go.stuck "no such type") h);cases hu:P.info? t with
 |none=>exact .stuck _
 |some d=>exact hh d hu
theorem fg.shapeOf (r:Nat):fg P (Go.shape r):= .shape r _ fun s=> .pure s
theorem fg.getObjOf (r:Nat):fg P (Go.getObj r):= .getObj r _ fun s=> .pure s
theorem fg.frozenOf (a:Addr):fg P (Go.frozen a):= .frozen a _ fun s=> .pure s
theorem fg.ret (a:α):fg P (Pure.pure a:Sem α):= .pure a
theorem fg.then {s:Sem α}{h:α→Sem β}(l:fg P s)(d:∀a,fg P (h a)):fg P (s >>=h):=l.bind d
theorem fg.xe {s:Sem α}{h:α→Sem β}(l:fg P s)(d:∀a,dm P V (h a)):dm P V (s >>=h):=l.ame d
theorem fg.ite {c:Prop} [Decidable c] {a b:Sem α}(h1:fg P a)(h2:fg P b):fg P (if c then a else b):=by
 split
 ·exact h1
 ·exact h2
theorem fg.numberAt (r:Nat):fg P (Go.numberAt r):=by
 unfold Go.numberAt;refine (fg.shapeOf r).then fun s=>fg.ite (.ret _) ((fg.getObjOf r).then fun o=> ?_)
 cases o <;> exact .ret _
theorem fg.behindNumber (n:Addr):fg P (Go.behindNumber n):=by
 unfold Go.behindNumber;exact (fg.numberAt _).then fun s=> .ret _
theorem fg.holdsCells (a:Addr)(n:Nat):fg P (Builtin.holdsCells a n):=by
 unfold Builtin.holdsCells;refine (fg.shapeOf _).then fun s=> ?_
 cases s <;> exact .ret _
theorem fg.mayShare (k l n:Nat)(base:Option Addr)(x:Value):fg P (Builtin.mayShare k l n base x):=by
 unfold Builtin.mayShare;have tail:∀b:Bool,fg P (if (!b)=true then Pure.pure true else (match x with| .slice (some b) _ _=>do Pure.pure (!(←Builtin.holdsCells b (n*k)) || base.any (·.block==b.block))|_=>Pure.pure false:Sem Bool)):=fun b=>by
  refine fg.ite (.ret _) ?_;cases x with
  |slice a l c=>
   cases a with
   |none=>exact .ret _
   |some a=>exact (fg.holdsCells _ _).then fun _=> .ret _
  |_=>exact .ret _
 cases base with
 |none=>exact (fg.ret _).then tail
 |some a=>exact (fg.holdsCells _ _).then fun _=>(fg.frozenOf _).then fun _=>(fg.ret _).then tail
theorem forInL {γ δ:Type}{f' f:γ→δ→Sem (ForInStep δ)}(hf:∀x b,aa P π (.none (ForInStep δ)) (f' x b) (f x b)):∀(l:List γ)(b:δ),aa P π (.none δ) (forIn l b f') (forIn l b f)
 | [],b=>by
  rw [List.forIn_nil,List.forIn_nil];exact aa.bm _
 |x::l,b=>by
  rw [List.forIn_cons,List.forIn_cons];refine aa.bk (hf x b) fun r=> ?_
  cases r with
  |done b=>exact aa.bm _
  |yield b=>exact forInL hf l b
theorem forInA {γ δ:Type}{f' f:γ→δ→Sem (ForInStep δ)}(as:Array γ)(hf:∀x∈as,∀b,aa P π (.none (ForInStep δ)) (f' x b) (f x b))(b:δ):aa P π (.none δ) (forIn as b f') (forIn as b f):=by
 haveI:=tt
 rw [←Array.forIn_toList,←Array.forIn_toList];have key:∀(l:List γ),(∀x∈l,x∈as)→∀b,aa P π (.none δ) (forIn l b f') (forIn l b f):=by
  intro l
  induction l with
  |nil=>
   intro _ b;rw [List.forIn_nil,List.forIn_nil];exact aa.bm _
  |cons x l ih=>
   intro hl b;rw [List.forIn_cons,List.forIn_cons];refine aa.bk (hf x (hl x ae) b) fun r=> ?_
   cases r with
   |done b=>exact aa.bm _
   |yield b=>exact ih (fun y hy=>hl y (by simp [hy])) b
 exact key _ (fun x hx=>Array.mem_toList_iff.1 hx) b
theorem forInR {δ:Type}{f' f:Nat→δ→Sem (ForInStep δ)}(n:Nat)(hf:∀x b,aa P π (.none (ForInStep δ)) (f' x b) (f x b))(b:δ):aa P π (.none δ) (forIn [0:n] b f') (forIn [0:n] b f):=by
 rw [Std.Legacy.Range.forIn_eq_forIn_range',Std.Legacy.Range.forIn_eq_forIn_range'];exact forInL hf _ b
theorem am1 {n:Nat}{t:TypeId}{k:IntKind}(hu:P.underlying t=some (.int k))(h:j8 P (n+1) t=true)(hg:P.globals.size=0)(a b:Addr)(d:Nat):dm P V (Op.equalIn (d+1) t (.pointer (some a)) (.pointer (some b))):=by
 unfold Op.equalIn;refine dm.under fun x hx=> ?_
 obtain rfl:x= .int k:=by rw [hu] at hx;exact (Option.some.inj hx).symm
 refine (fg.behindNumber a).xe fun x=>(fg.behindNumber b).xe fun y=> ?_
 refine dm.program _ ?_;show dm P V (if (x.1.block==y.1.block && decide (x.1.block<P.globals.size))=true then _ else _);rw [hg];simp only [Nat.not_lt_zero,decide_false,Bool.and_false,Bool.false_eq_true,if_false];refine dm.info fun i hi=> ?_
 simp only [j8,hu,hi,Option.any_some] at h;split
 ·rename_i hd;rw [hd] at h;simp at h
 ·exact .unsup _ (fun _ h=>Unsupported.noConfusion h)
theorem aeb (gs:Array Func):∀(n:Nat)(t u:TypeId),(aq P gs).alikeButTags n t u=P.alikeButTags n t u
 |0,_,_=>rfl
 |n+1,t,u=>by
  have ih:(aq P gs).alikeButTags n=P.alikeButTags n:=funext fun t=>funext fun u=>aeb gs n t u
  unfold Program.alikeButTags;rw [ih]
theorem alu (gs:Array Func)(t:TypeId):(aq P gs).stoodInHeld t=P.stoodInHeld t:=by
 have ih:∀n,(aq P gs).alikeButTags n=P.alikeButTags n:=fun n=>funext fun t=>funext fun u=>aeb gs n t u
 unfold Program.stoodInHeld Program.stoodInAs;simp only [ih];rfl
theorem aa.equalIn (hF:fw P π)(hg:P.globals.size=0):∀(n:Nat)(t:TypeId),j8 P n t=true→∀(d:Nat)(x y:Value),aa P π (.none Bool) (Op.equalIn d t (al π x) (al π y)) (Op.equalIn d t x y)
 |0,t,h=>by simp [j8] at h
 |n+1,t,h=>fun d x y=>by
  cases d with
  |zero=>exact aa.unsupported _ _
  |succ d=>
   cases hu:P.underlying t with
   |none=>
    unfold Op.equalIn;exact aa.ov hu
   |some td=>
    have h0:=h;simp only [j8,hu] at h;cases td with
    |bool=>
     unfold Op.equalIn;refine aa.under hu ?_;cases x <;> (try exact aa.stuck _ _)
     cases y <;> first|exact aa.stuck _ _|exact aa.bm _
    |string=>
     unfold Op.equalIn;refine aa.under hu ?_;cases x <;> (try exact aa.stuck _ _)
     cases y <;> first|exact aa.stuck _ _|exact aa.bm _
    |int k=>
     cases x with
     |int kx a=>
      unfold Op.equalIn;refine aa.under hu ?_;cases y with
      |int ky b=>exact aa.ite (aa.bm _) (aa.stuck _ _)
      |pointer b=>
       cases b with
       |none=>exact aa.unsupported _ _
       |some b=>
        cases a with
        |ofNat m=>
         cases m with
         |zero=>exact aa.bm _
         |succ m=>exact aa.unsupported _ _
        |negSucc m=>exact aa.unsupported _ _
      |_=>exact aa.stuck _ _
     |pointer a=>
      cases a with
      |none=>
       unfold Op.equalIn;refine aa.under hu ?_;cases y <;> first|exact aa.stuck _ _|exact aa.unsupported _ _
      |some a=>
       cases y with
       |int ky b=>
        unfold Op.equalIn;refine aa.under hu ?_;cases b with
        |ofNat m=>
         cases m with
         |zero=>exact aa.bm _
         |succ m=>exact aa.unsupported _ _
        |negSucc m=>exact aa.unsupported _ _
       |pointer b=>
        cases b with
        |none=>
         unfold Op.equalIn;refine aa.under hu ?_;exact aa.unsupported _ _
        |some b=>exact aa.dead _ (am1 hu h0 hg a b d)
       |_=>
        unfold Op.equalIn;refine aa.under hu ?_
        first|exact aa.stuck _ _|exact aa.unsupported _ _
     |_=>
      unfold Op.equalIn;refine aa.under hu ?_;cases y <;> first|exact aa.stuck _ _|exact aa.unsupported _ _
    |struct fs=>
     rw [Array.all_eq_true_iff_forall_mem] at h;unfold Op.equalIn;refine aa.under hu ?_;cases x <;> (try exact aa.stuck _ _)
     rename_i xs;cases y <;> (try exact aa.stuck _ _)
     rename_i ys;refine aa.xh _ (fun gs=>by rw [alu gs]) ?_;have tail:aa P π (.none Bool) (do
         for f in fs do
          if f.name≠ "_" then
           if !(←Op.equalIn d f.type (←Go.part f.type (az π xs) f.offset) (←Go.part f.type (az π ys) f.offset)) then return false
         Pure.pure true) (do
         for f in fs do
          if f.name≠ "_" then
           if !(←Op.equalIn d f.type (←Go.part f.type xs f.offset) (←Go.part f.type ys f.offset)) then return false
         Pure.pure true):=by
      refine aa.bk (forInA fs (fun f hf b=> ?_) _) fun r=> ?_
      ·refine aa.ite ?_ (aa.bm _);refine aa.bind .val (aa.part f.type xs f.offset) fun a=> ?_
       refine aa.bind .val (aa.part f.type ys f.offset) fun b=> ?_
       refine aa.bk (aa.equalIn hF hg n f.type (h f hf) d a b) fun q=> ?_
       exact aa.ite (aa.bm _) (aa.bm _)
      ·obtain ⟨r,u⟩:=r;cases r <;> exact aa.bm _
     exact aa.ite (aa.bk (aa.unsupported _ _) fun _=>tail) tail
    |array len e=>
     unfold Op.equalIn;refine aa.under hu ?_;cases x <;> (try exact aa.stuck _ _)
     rename_i xs;cases y <;> (try exact aa.stuck _ _)
     rename_i ys;refine aa.bk (aa.sizeOf e) fun k=> ?_
     refine aa.bk (forInR len (fun i b=> ?_) _) fun r=> ?_
     ·refine aa.bind .val (aa.part e xs _) fun a=> ?_
      refine aa.bind .val (aa.part e ys _) fun b=> ?_
      refine aa.bk (aa.equalIn hF hg n e h d a b) fun q=> ?_
      exact aa.ite (aa.bm _) (aa.bm _)
     ·obtain ⟨r,u⟩:=r;cases r <;> exact aa.bm _
    |_=>simp at h
end
end Go.Proofs.YthgpdljlehklhaaGreat.zr
