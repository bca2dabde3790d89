/- Part QAC of the proof that DropRefused answers true whatever its input. No condition. -/
import Derived.Test.YthgpdljlehklhaaGreatQAB
set_option maxRecDepth 100000
namespace Go.Proofs.YthgpdljlehklhaaGreat.zr
open Go
section
variable {P:Program}{π:Pm}{α β:Type}{V:Nat→Prop}{fs:Array Func}
def bp (P:Program)(fs:Array Func)(π:Pm){α:Type}(q:α→Prop)(A:eg α)(s' s:Sem α):Prop:=∀L,Tw (aq P fs) P π (A.act π) q L s' s
theorem gn.f {q:α→Prop}{A:eg α}{s' s:Sem α}(h:gn P π [] q A s' s):bp P fs π q A s' s:=fun L=>h fs L fun _ hx=>by cases hx
theorem aa.f {A:eg α}{s' s:Sem α}(h:aa P π A s' s):bp P fs π (fun _=>True) A s' s:=fun L=>h fs L
theorem bp.bind {q:α→Prop}{p:β→Prop}(A:eg α){B:eg β}{s' s:Sem α}{h' h:α→Sem β}(h1:bp P fs π q A s' s)(h2:∀a,q a→bp P fs π p B (h' (A.act π a)) (h a)):bp P fs π p B (s' >>=h') (s >>=h):=fun L=>Tw.bind (h1 L) fun L' _ a ha=>h2 a ha L'
theorem bp.pure {q:α→Prop}(A:eg α){a' a:α}(h:a'=A.act π a)(ha:q a):bp P fs π q A (Pure.pure a') (Pure.pure a):=by
 subst h;exact fun _=> .pure a ha
theorem bp.dead {q:α→Prop}(A:eg α){s' s:Sem α}(h:dm P (fun _=>False) s):bp P fs π q A s' s:=fun _=> .dead _ h
theorem bp.stuck {q:α→Prop}(A:eg α){s':Sem α}(w:String):bp P fs π q A s' (Go.stuck w):=fun _=> .dead _ (.stuck w)
theorem bp.ofV {s' s:Sem Value}(h:aa P π .val s' s):bp P fs π (en P) .next (do Pure.pure (.value (←s'))) (do Pure.pure (.value (←s))):=bp.bind .val h.f fun v _=>bp.pure _ rfl trivial
theorem bp.ofU {s' s:Sem Unit}(h:aa P π (.none Unit) s' s):bp P fs π (en P) .next (do s';Pure.pure .skip) (do s;Pure.pure .skip):=bp.bind (.none Unit) h.f fun _ _=>bp.pure _ rfl trivial
theorem aji (e:RuntimeError):(Go.runtimePanic e:Sem α)=(Go.runtimePanic e:Sem PEmpty) >>=fun x=>x.elim:=by
 show _=Sem.bind _ _;unfold Go.runtimePanic;show Sem.program _=Sem.program _;congr 1
 funext p
 cases e with
 |typeAssertion i c a m=>
  show Sem.bind _ _=Sem.bind (Sem.bind _ _) _;rw [jh];congr 1
  funext t
  show Sem.bind _ _=Sem.bind (Sem.bind _ _) _;rw [jh];rfl
 |panicNil=>
  show Sem.bind _ _=Sem.bind (Sem.bind _ _) _;rw [jh];congr 1
  funext t
  show Sem.bind _ _=Sem.bind (Sem.bind _ _) _;rw [jh];rfl
 |_=>rfl
theorem bp.runtimePanic (hF:fw P π){q:α→Prop}(A:eg α)(e:RuntimeError):bp P fs π q A (Go.runtimePanic e:Sem α) (Go.runtimePanic e):=by
 rw [aji (α:=α)];exact bp.bind ⟨fun _ x=>x,fun _ _=>rfl⟩ (aa.runtimePanic hF ⟨fun _ x=>x,fun _ _=>rfl⟩ e).f fun x _=>x.elim
theorem aa.partAt (a:Addr)(c n:Nat):aa P π .addr (Go.partAt (π.addr a) c n) (Go.partAt a c n):=by
 unfold Go.partAt;refine aa.bk (aa.byteOf a) fun x=> ?_
 refine aa.bk (aa.byteOf {block:=a.block,off:=a.off+c}) fun y=> ?_
 refine aa.pure _ ?_;show (if _ then _ else _)=π.addr (if _ then _ else _);split <;> rfl
theorem aa.fieldPlace (a:Addr)(f:Field):aa P π .addr (Go.fieldPlace (π.addr a) f) (Go.fieldPlace a f):=by
 unfold Go.fieldPlace;refine aa.bk (aa.sizeOf _) fun n=> ?_
 exact aa.ite (aa.partAt _ _ _) (aa.pure _ (Pm.qz _ _ _))
theorem aa.fieldAt (t:TypeId)(x:Value)(f:Nat):aa P π .val (Instr.fieldAt t (al π x) f) (Instr.fieldAt t x f):=by
 unfold Instr.fieldAt;refine aa.bk (aa.underlying t) fun d=> ?_
 cases d <;> try exact aa.stuck _ _
 rename_i fs;dsimp only;cases fs[f]? with
 |none=>exact aa.stuck _ _
 |some g=>
  refine aa.bind .addr (aa.sureAddr x) fun a=> ?_
  exact aa.bind .addr (aa.fieldPlace a g) fun b=>aa.pure _ rfl
def vb (π:Pm):Place→Place
 | .val v=> .val (al π v)
 | .var a=> .var (π.addr a)
def eg.place:eg Place:=⟨vb,fun π x=>by cases x <;> simp [vb,pj]⟩
theorem aa.xr (t:TypeId)(x:Place):aa P π .val (Place.get t (vb π x)) (Place.get t x):=by
 cases x with
 |val v=>exact aa.pure _ rfl
 |var a=>exact aa.loadVar t a
theorem aa.follow (hF:fw P π):∀(l:List FieldStep)(t:TypeId)(x:Place),aa P π (.pair (.none TypeId) .place) (Go.follow l t (vb π x)) (Go.follow l t x)
 | [],t,x=>aa.pure _ rfl
 |s::l,t,x=>by
  unfold Go.follow;refine aa.bk (aa.underlying _) fun d=> ?_
  cases d <;> try exact aa.stuck _ _
  rename_i fs;dsimp only;cases fs[s.index]? with
  |none=>exact aa.stuck _ _
  |some g=>
   refine aa.ite ?_ ?_
   ·refine aa.bind .val (aa.xr t x) fun v=> ?_
    refine aa.bind .addr (aa.asAddr hF v) fun a=> ?_
    exact aa.bind .addr (aa.fieldPlace a g) fun b=>aa.follow hF l g.type (.var b)
   ·cases x with
    |var a=>exact aa.bind .addr (aa.fieldPlace a g) fun b=>aa.follow hF l g.type (.var b)
    |val v=>
     cases v with
     |agg cs=>exact aa.bind .val (aa.part g.type cs g.offset) fun b=>aa.follow hF l g.type (.val b)
     |_=>exact aa.stuck _ _
theorem aa.wrapNil (hF:fw P π)(ts:Array TypeId)(t:TypeId)(p:Value)(a b:String):aa P π .val (Builtin.ssaWrapNilChk_ ts t #[al π p,strVal a,strVal b]) (Builtin.ssaWrapNilChk_ ts t #[p,strVal a,strVal b]):=by
 unfold Builtin.ssaWrapNilChk_;cases p with
 |pointer x=>
  cases x with
  |some x=>exact aa.pure _ rfl
  |none=>
   refine aa.bk (aa.choose _) fun n=> ?_
   refine aa.ite (aa.bk (aa.runtimePanic hF _ _) fun _=> ?_) ?_
   all_goals (
    cases ts[0]? with
    |none=>exact aa.stuck _ _
    |some pt=>
     refine aa.bk (aa.underlying pt) fun d=> ?_
     cases d <;> try exact aa.stuck _ _
     refine aa.bk (aa.typeInfo _) fun i=> ?_
     dsimp only;cases i.desc <;> try exact aa.stuck _ _
     dsimp only;cases String.fromUTF8? b.toUTF8 with
     |none=>exact aa.stuck _ _
     |some m=>
      dsimp only;split
      ·exact aa.runtimePanic hF _ _
      ·exact aa.unsupported _ _)
 |_=>exact aa.stuck _ _
theorem aa.receiverAt (hF:fw P π)(xt:TypeId)(x:Place)(pr:Bool)(wr:Option String):aa P π .val (Go.receiverAt xt (vb π x) pr wr) (Go.receiverAt xt x pr wr):=by
 unfold Go.receiverAt;refine aa.bk (aa.underlying xt) fun d=> ?_
 have ptr:∀elem,aa P π .val (do
   let ptr ←Place.get xt (vb π x)
   let ptr ←match wr with
    |some name=>Builtin.ssaWrapNilChk_ #[xt] xt #[ptr,strVal "",strVal name]
    |none=>Pure.pure ptr
   Go.loadVar elem (←Go.asAddr ptr)) (do
   let ptr ←Place.get xt x
   let ptr ←match wr with
    |some name=>Builtin.ssaWrapNilChk_ #[xt] xt #[ptr,strVal "",strVal name]
    |none=>Pure.pure ptr
   Go.loadVar elem (←Go.asAddr ptr)):=fun elem=>by
  refine aa.bind .val (aa.xr xt x) fun p=> ?_
  cases wr with
  |none=>exact aa.bind .val (aa.pure .val (a:=p) rfl) fun p=>aa.bind .addr (aa.asAddr hF p) fun a=>aa.loadVar elem a
  |some name=>exact aa.bind .val (aa.wrapNil hF _ _ p _ _) fun p=>aa.bind .addr (aa.asAddr hF p) fun a=>aa.loadVar elem a
 cases pr with
 |true=>
  cases d <;> first
   |exact aa.xr xt x
   |(cases x with
     |val v=>exact aa.stuck _ _
     |var a=>exact aa.pure _ rfl)
 |false=>
  cases d <;> first
   |exact ptr _
   |exact aa.xr xt x
theorem aa.method (hF:fw P π):∀(n:Nat)(t:TypeId)(v:Value)(name:String),aa P π (.pair (.none FuncId) .val) (Go.method n t (al π v) name) (Go.method n t v name)
 |0,_,_,_=>aa.unsupported _ _
 |n+1,t,v,name=>by
  unfold Go.method;refine aa.bk (aa.typeInfo t) fun i=> ?_
  dsimp only;cases i.methods.find? (·.name==name) with
  |none=>exact aa.stuck _ _
  |some m=>
   refine aa.bind _ (aa.follow hF m.path.toList t (.val v)) fun x=> ?_
   obtain ⟨xt,x⟩:=x;show aa P π _ (match m.func with|none=>_|some (f,pr)=>_) (match m.func with|none=>_|some (f,pr)=>_);cases m.func with
   |none=>
    refine aa.bind .val (aa.xr xt x) fun w=> ?_
    cases w with
    |iface t' v'=>exact aa.method hF n t' v' name
    |nilIface=>exact aa.runtimePanic hF _ _
    |_=>exact aa.stuck _ _
   |some fp=>
    obtain ⟨f,pr⟩:=fp;exact aa.bind .val (aa.receiverAt hF xt x pr _) fun r=>aa.pure _ rfl
end
section
variable {P:Program}{π:Pm}{α β:Type}{V:Nat→Prop}{fs:Array Func}
structure Alike (P:Program)(fs:Array Func):Prop where
 num:∀(f:Nat) fn,P.funcs[f]? =some fn→(fn.name== "runtime.NumGoroutine")=false
 call:∀(f:Nat) fn,P.funcs[f]? =some fn→
  (fn.body.isNone=false∧∃fn',fs[f]? =some fn'∧fn'.body.isNone=false∧(fn'.name== "runtime.NumGoroutine")=false)∨
  (fn.body.isNone=true∧Extern.findNext fn=none∧Extern.find fn=some Extern.MapsClone.clone∧fs[f]? =some fn)∨
  (fn.body.isNone=true∧Extern.findNext fn=none∧Extern.find fn=none∧(fn.name.endsWith ".init" && !fn.name.startsWith "(" && !fn.name.startsWith "gosem.")=false)
theorem bp.callFunc (hA:Alike P fs)(f:FuncId)(args:Array Value):bp P fs π (en P) .next (Go.callFunc f (az π args)) (Go.callFunc f args):=by
 intro L;unfold Go.callFunc;refine Tw.program ?_;show Tw _ P π _ _ L (match fs[f]? with
  |none=>Go.stuck "call: no such function"
  |some fn=>if fn.name== "runtime.NumGoroutine" then Pure.pure .numGoroutine
   else if fn.body.isNone then do
    Go.mark (.extern f)
    if let some e:=Extern.findNext fn then return ←e (az π args)
    match Extern.find fn with
    |some e=>Pure.pure (.value (←e (az π args)))
    |none=>
     if fn.name.endsWith ".init" && !fn.name.startsWith "(" && !fn.name.startsWith "gosem." then Pure.pure (.value (.tuple #[]))
     else Go.unsupported (.extern fn.name)
   else Pure.pure (.enter f (az π args)):Sem Next) (match P.funcs[f]? with
  |none=>Go.stuck "call: no such function"
  |some fn=>if fn.name== "runtime.NumGoroutine" then Pure.pure .numGoroutine
   else if fn.body.isNone then do
    Go.mark (.extern f)
    if let some e:=Extern.findNext fn then return ←e args
    match Extern.find fn with
    |some e=>Pure.pure (.value (←e args))
    |none=>
     if fn.name.endsWith ".init" && !fn.name.startsWith "(" && !fn.name.startsWith "gosem." then Pure.pure (.value (.tuple #[]))
     else Go.unsupported (.extern fn.name)
   else Pure.pure (.enter f args):Sem Next)
 cases hf:P.funcs[f]? with
 |none=>exact .dead _ (.stuck _)
 |some fn=>
  have hn:=hA.num f fn hf;rcases hA.call f fn hf with ⟨hb,fn',hf',hb',hn'⟩|⟨hb,h1,h2,hf'⟩|⟨hb,h1,h2,h3⟩
  ·rw [hf'];simp only [hn,hn',hb,hb',Bool.false_eq_true,if_false];exact .pure (Next.enter f args) trivial
  ·rw [hf'];simp only [hn,hb,h1,h2,Bool.false_eq_true,if_false,if_true];have hm:aa P π (.none Unit) (Go.mark (.extern f)) (Go.mark (.extern f)):=aa.mark _ rfl;exact bp.bind (fs:=fs) (.none Unit) hm.f (fun _ _=>bp.ofV (aa.clone args)) L
  ·simp only [hn,hb,h1,h2,h3,Bool.false_eq_true,if_false,if_true];refine .dead _ (.mark _ _ ?_);exact .unsup _ (fun _ h=>Unsupported.noConfusion h)
theorem bp.callMethod (hF:fw P π)(hA:Alike P fs)(x:Value)(name:String)(args:Array Value):bp P fs π (en P) .next (Go.callMethod (al π x) name (az π args)) (Go.callMethod x name args):=by
 unfold Go.callMethod;cases x with
 |iface t v=>
  intro L;refine Tw.program ?_;have:=bp.bind (fs:=fs) (eg.pair (.none FuncId) .val) (aa.method hF (P.types.size+Made.depth) t v name).f (p:=en P) (B:= .next) (h':=fun x=>Go.callFunc x.1 (#[x.2]++az π args)) (h:=fun x=>Go.callFunc x.1 (#[x.2]++args)) (fun x _=>by
   have e:#[al π x.2]++az π args=az π (#[x.2]++args):=by rw [jl];rfl
   show bp P fs π _ _ (Go.callFunc x.1 (#[al π x.2]++az π args)) _;rw [e];exact bp.callFunc hA x.1 _) L
  exact this
 |nilIface=>exact bp.runtimePanic hF _ _
 |_=>exact bp.stuck _ _
theorem bp.builtin (hF:fw P π)(hg:P.globals.size=0)(b:Builtin)(ts:Array TypeId)(t:TypeId)(cs:Array Bool)(h:q9 P b ts=true)(args:Array Value):bp P fs π (en P) .next (Go.builtin b ts t cs (az π args)) (Go.builtin b ts t cs args):=by
 cases b <;> first|(simp [q9] at h;done)|skip
 ·exact bp.ofV (aa.append hF ts t args)
 ·exact bp.ofV (aa.close hF ts t args)
 ·exact bp.ofV (aa.copy ts t args)
 ·exact bp.ofV (aa.delete hF hg ts t (fun u hu=>by simp only [q9,hu] at h;exact h) args)
 ·exact bp.ofV (aa.len ts t args)
 ·exact bp.ofV (aa.max ts t args)
 ·exact bp.ofV (aa.min ts t args)
theorem aa.receiverVia (hF:fw P π)(t:TypeId)(v:Value)(path:Array FieldStep)(pr:Bool):aa P π .val (Go.receiverVia t (al π v) path pr) (Go.receiverVia t v path pr):=by
 unfold Go.receiverVia;exact aa.bind _ (aa.follow hF path.toList t (.val v)) fun x=>aa.receiverAt hF x.1 x.2 pr none
theorem bp.invoke (hF:fw P π)(hA:Alike P fs)(tg:Target)(ht:iy tg=true)(args:Array Value):
  bp P fs π (en P) .next (Go.invoke (jx π tg) (az π args)) (Go.invoke tg args):=by
 cases tg with
 |nil=>
  show bp P fs π _ _ (Go.runtimePanic .nilDeref) (Go.runtimePanic .nilDeref);exact bp.runtimePanic hF _ _
 |builtin b a c d=>simp [iy] at ht
 |coroexit c=>simp [iy] at ht
 |collected r=>exact bp.stuck _ _
 |fn f captured=>
  cases f with
  |func f=>
   show bp P fs π _ _ (Go.callFunc f (az π args++az π captured)) _;rw [←jl];exact bp.callFunc hA f _
  |yield l=>exact (gn.yield l args).f
  |method name=>
   unfold Go.invoke;simp only [jx,Pm.fn];rw [ja,il,ug];cases args[0]? with
   |none=>exact bp.stuck _ _
   |some r=>exact bp.callMethod hF hA r name _
  |methodOf t name=>
   unfold Go.invoke;simp only [jx,Pm.fn];rw [ja,il,ug];cases args[0]? with
   |none=>exact bp.stuck _ _
   |some r=>
    refine bp.bind (.none TypeDesc) (aa.underlying t).f fun d _=> ?_
    cases d <;> first|exact bp.callMethod hF hA r name _|exact bp.callMethod hF hA (.iface t r) name _
  |via t path f p=>
   unfold Go.invoke;simp only [jx,Pm.fn];rw [ja,il,ug];cases args[0]? with
   |none=>exact bp.stuck _ _
   |some r=>
    refine bp.bind .val (aa.receiverVia hF t r path p).f fun x _=> ?_
    have e:#[al π x]++az π (args.extract 1 args.size)=az π (#[x]++args.extract 1 args.size):=by rw [jl];rfl
    show bp P fs π _ _ (Go.callFunc f (#[al π x]++az π (args.extract 1 args.size))) _;rw [e];exact bp.callFunc hA f _
def Rho (π:Pm)(ρ' ρ:Operand→Value):Prop:=∀o,fv o=true→ρ' o=al π (ρ o)
theorem Rho.arr {ρ' ρ:Operand→Value}(h:Rho π ρ' ρ){as:Array Operand}(ha:as.all fv=true):as.map ρ'=az π (as.map ρ):=by
 rw [Array.all_eq_true_iff_forall_mem] at ha;rw [fh,Array.map_map];exact Array.map_congr_left fun o ho=>h o (ha o ho)
theorem bp.ofValue (f:Value)(args:Array Value):bp P fs π (fun d=>iy d.target=true) .defer (Deferred.ofValue (al π f) (az π args)) (Deferred.ofValue f args):=by
 cases f with
 |func fn first captured=>
  refine bp.pure _ ?_ rfl;show Deferred.mk _ _=dz π (Deferred.mk _ _);simp only [dz,jx,jl]
 |nilFunc=>exact bp.pure _ rfl rfl
 |_=>exact bp.stuck _ _
theorem bp.resolve {ρ' ρ:Operand→Value}(h:Rho π ρ' ρ)(c:Call)(t:TypeId)(hc:tz P c=true)(hb:(match c.callee with| .builtin _=>false|_=>true)=true):bp P fs π (fun d=>iy d.target=true) .defer (Go.resolve ρ' c t) (Go.resolve ρ c t):=by
 unfold tz at hc;simp only [Bool.and_eq_true] at hc;unfold Go.resolve;rw [h.arr hc.1];obtain ⟨callee,cargs,ct⟩:=c;cases callee with
 |builtin b=>simp at hb
 |invoke r name=>
  have hr:=h r hc.2;refine bp.pure _ ?_ rfl;show Deferred.mk _ _=dz π (Deferred.mk _ _);simp only [dz,jx,jl,hr];rfl
 |value f=>
  have hr:=h f hc.2;simp only [hr];exact bp.ofValue _ _
theorem bp.call (hF:fw P π)(hg:P.globals.size=0)(hA:Alike P fs){ρ' ρ:Operand→Value}(h:Rho π ρ' ρ)(c:Call)(t:TypeId)(hc:tz P c=true):bp P fs π (en P) .next (do let d ←Go.resolve ρ' c t;Go.invoke d.target d.args) (do let d ←Go.resolve ρ c t;Go.invoke d.target d.args):=by
 by_cases hb:(match c.callee with| .builtin _=>false|_=>true)=true
 ·exact bp.bind .defer (bp.resolve h c t hc hb) fun d hd=>bp.invoke hF hA d.target hd d.args
 ·unfold tz at hc;simp only [Bool.and_eq_true] at hc;obtain ⟨callee,cargs,ct⟩:=c;cases callee with
  |builtin b=>
   show bp P fs π _ _ (Go.builtin b ct t _ (cargs.map ρ')) (Go.builtin b ct t _ (cargs.map ρ));rw [h.arr hc.1];exact bp.builtin hF hg b ct t _ hc.2 _
  |_=>exact absurd rfl hb
end
def exRen (π:Pm):Except (Option Bool) (TypeId×Option Value)→Except (Option Bool) (TypeId×Option Value)
 | .ok x=> .ok (x.1,x.2.map (al π))
 | .error e=> .error e
def eg.ex:eg (Except (Option Bool) (TypeId×Option Value)):=⟨exRen,fun π x=>by
 cases x with
 |ok x=>obtain ⟨t,v⟩:=x;cases v <;> simp [exRen,pj]
 |error e=>rfl⟩
section
variable {P:Program}{π:Pm}{α β:Type}{V:Nat→Prop}{fs:Array Func}
theorem aa.followBlind:∀(l:List FieldStep)(t:TypeId)(x:Option Value),aa P π .ex (Go.followBlind l t (x.map (al π))) (Go.followBlind l t x)
 | [],t,x=>aa.pure _ rfl
 |s::l,t,x=>by
  unfold Go.followBlind;refine aa.bk (aa.underlying _) fun d=> ?_
  cases d <;> try exact aa.stuck _ _
  rename_i fs;dsimp only;cases fs[s.index]? with
  |none=>exact aa.stuck _ _
  |some g=>
   dsimp only;cases s.deref with
   |true=>
    cases x with
    |none=>exact aa.pure _ rfl
    |some v=>
     cases v with
     |pointer a=>cases a with
      |none=>exact aa.pure _ rfl
      |some a=>exact aa.followBlind l g.type none
     |_=>exact aa.stuck _ _
   |false=>
    cases x with
    |none=>exact aa.followBlind l g.type none
    |some v=>
     cases v with
     |agg cs=>exact aa.bind .val (aa.part g.type cs g.offset) fun b=>aa.followBlind l g.type (some b)
     |_=>exact aa.stuck _ _
theorem aa.nilAhead:∀(n:Nat)(t:TypeId)(v:Value)(name:String),aa P π (.none (Option Bool)) (Go.nilAhead n t (al π v) name) (Go.nilAhead n t v name)
 |0,_,_,_=>aa.bm _
 |n+1,t,v,name=>by
  unfold Go.nilAhead;refine aa.bk (aa.typeInfo t) fun i=> ?_
  cases i.methods.find? (·.name==name) with
  |none=>exact aa.stuck _ _
  |some m=>
   refine aa.bind .ex (aa.followBlind m.path.toList t (some v)) fun x=> ?_
   cases x with
   |error e=>exact aa.bm _
   |ok x=>
    obtain ⟨xt,x⟩:=x;show aa P π _ (match m.func,x.map (al π) with
     |none,some (.iface t' v')=>Go.nilAhead n t' v' name
     |none,some .nilIface=>Pure.pure (some true)
     |none,some _=>Go.stuck "method row: interface value expected"
     |none,none=>Pure.pure none
     |some (_,true),_=>Pure.pure (some false)
     |some (_,false),x=>(do
      match ←Go.underlying xt,x with
      | .pointer _,some (.pointer none)=>Pure.pure (some true)
      | .pointer _,some _=>Pure.pure (some false)
      | .pointer _,none=>Pure.pure none
      |_,_=>Pure.pure (some false))) (match m.func,x with
     |none,some (.iface t' v')=>Go.nilAhead n t' v' name
     |none,some .nilIface=>Pure.pure (some true)
     |none,some _=>Go.stuck "method row: interface value expected"
     |none,none=>Pure.pure none
     |some (_,true),_=>Pure.pure (some false)
     |some (_,false),x=>(do
      match ←Go.underlying xt,x with
      | .pointer _,some (.pointer none)=>Pure.pure (some true)
      | .pointer _,some _=>Pure.pure (some false)
      | .pointer _,none=>Pure.pure none
      |_,_=>Pure.pure (some false)))
    cases m.func with
    |none=>
     cases x with
     |none=>exact aa.bm _
     |some w=>
      cases w with
      |iface t' v'=>exact aa.nilAhead n t' v' name
      |nilIface=>exact aa.bm _
      |_=>exact aa.stuck _ _
    |some fp=>
     obtain ⟨f,p⟩:=fp;cases p with
     |true=>exact aa.bm _
     |false=>
      refine aa.bk (aa.underlying xt) fun d=> ?_
      cases x with
      |none=>cases d <;> exact aa.bm _
      |some w=>
       cases w with
       |pointer a=>cases a <;> cases d <;> exact aa.bm _
       |_=>cases d <;> exact aa.bm _
theorem aa.panicnil:aa P π (.none Int) Instr.panicnil Instr.panicnil:=by
 unfold Instr.panicnil;have h:aa P π (.none SysRet) (Go.sys .env) (Go.sys .env):=fun fs L=> .sysEnv fun r=> .pure r trivial
 refine aa.bk h fun r=> ?_
 cases r <;> first
  |exact aa.stuck _ _
  |(refine aa.xh _ (fun fs=>rfl) ?_;exact aa.bm _)
theorem aa.panic (hF:fw P π)(x:Value):aa P π .val (Instr.panic (al π x)) (Instr.panic x):=by
 unfold Instr.panic;cases x with
 |iface t v=>exact aa.goPanic _ (.iface t v)
 |nilIface=>exact aa.bk aa.panicnil fun n=>aa.ite (aa.xf _ rfl) (aa.runtimePanic hF _ _)
 |_=>exact aa.stuck _ _
theorem aa.nilCheck (hF:fw P π){ρ' ρ:Operand→Value}(h:Rho π ρ' ρ)(x:Operand)(hx:fv x=true)(o:Oper)(ho:o.op= .nilCheck x):bp P fs π (en P) .next (Go.execOp ρ' o) (Go.execOp ρ o):=by
 unfold Go.execOp;rw [ho];dsimp only;rw [h x hx];have ok:∀v:Value,bp P fs π (en P) .next (Pure.pure (.value (al π v))) (Pure.pure (.value v)):=fun v=>bp.pure _ rfl trivial
 have bad:bp P fs π (en P) .next (Go.runtimePanic .nilDeref) (Go.runtimePanic .nilDeref):=bp.runtimePanic hF _ _;cases ρ x with
 |pointer a=>cases a with
  |none=>exact bad
  |some a=>exact ok (.pointer (some a))
 |nilIface=>exact bad
 |nilFunc=>exact bad
 |func fn first captured=>
  cases fn with
  |method name=>
   show bp P fs π _ _ (match ((az π first)[0]? :Option Value) with
    |some .nilIface=>Go.runtimePanic .nilDeref
    |some (.iface t w)=>(do
     if (←Go.nilAhead ((←Go.program).types.size+Made.depth) t w name) !=some false then
      Go.unsupported (.noEntry "op/nilCheck.the method's receiver behind this interface value is a nil pointer, or cannot be seen to be none, and the arguments act or may panic (ledger 612)")
     Pure.pure (.value (.func (.method name) (az π first) (az π captured))):Sem Next)
    |_=>Pure.pure (.value (.func (.method name) (az π first) (az π captured)))) (match (first[0]? :Option Value) with
    |some .nilIface=>Go.runtimePanic .nilDeref
    |some (.iface t w)=>(do
     if (←Go.nilAhead ((←Go.program).types.size+Made.depth) t w name) !=some false then
      Go.unsupported (.noEntry "op/nilCheck.the method's receiver behind this interface value is a nil pointer, or cannot be seen to be none, and the arguments act or may panic (ledger 612)")
     Pure.pure (.value (.func (.method name) first captured)):Sem Next)
    |_=>Pure.pure (.value (.func (.method name) first captured)))
   rw [ja];cases first[0]? with
   |none=>exact ok (.func (.method name) first captured)
   |some w=>
    cases w with
    |nilIface=>exact bad
    |iface t w=>
     intro L;refine Tw.program ?_;have:=bp.bind (fs:=fs) (.none (Option Bool)) (aa.nilAhead (P:=P) (π:=π) (P.types.size+Made.depth) t w name).f (p:=en P) (B:= .next)
      (h':=fun b=>if (b !=some false)=true then (do Go.unsupported (.noEntry "op/nilCheck.the method's receiver behind this interface value is a nil pointer, or cannot be seen to be none, and the arguments act or may panic (ledger 612)");Pure.pure (.value (.func (.method name) (az π first) (az π captured)))) else Pure.pure (.value (.func (.method name) (az π first) (az π captured))))
      (h:=fun b=>if (b !=some false)=true then (do Go.unsupported (.noEntry "op/nilCheck.the method's receiver behind this interface value is a nil pointer, or cannot be seen to be none, and the arguments act or may panic (ledger 612)");Pure.pure (.value (.func (.method name) first captured))) else Pure.pure (.value (.func (.method name) first captured)))
      (fun b _=>by
       show bp P fs π _ _ (if (b !=some false)=true then _ else _) _
       by_cases hb:(b !=some false)=true
       ·rw [if_pos hb,if_pos hb];exact bp.dead _ (dm.bind _ (uns _))
       ·rw [if_neg hb,if_neg hb];exact ok (.func (.method name) first captured)) L
     exact this
    |_=>exact ok (.func (.method name) first captured)
  |_=>exact ok (.func _ first captured)
 |bool b=>exact ok (.bool b)
 |int k n=>exact ok (.int k n)
 |float k n=>exact ok (.float k n)
 |complex k a b=>exact ok (.complex k a b)
 |string s=>exact ok (.string s)
 |slice a l c=>exact ok (.slice a l c)
 |map r=>exact ok (.map r)
 |chan r=>exact ok (.chan r)
 |iface t v=>exact ok (.iface t v)
 |agg cs=>exact ok (.agg cs)
 |tuple vs=>exact ok (.tuple vs)
end
section
variable {P:Program}{π:Pm}{α β:Type}{V:Nat→Prop}{fs:Array Func}
theorem Rho.opt {ρ' ρ:Operand→Value}(h:Rho π ρ' ρ){x:Option Operand}(hx:x.toArray.all fv=true):x.map ρ'=(x.map ρ).map (al π):=by
 cases x with
 |none=>rfl
 |some o=>
  have:fv o=true:=by simpa using hx
  simp [h o this]
theorem Rho.parts {ρ' ρ:Operand→Value}(h:Rho π ρ' ρ){ps:Array (Nat×Operand)}(hp:((ps.toList.map (·.2)).toArray).all fv=true):(ps.map fun x=>(x.1,ρ' x.2))=py π (ps.map fun x=>(x.1,ρ x.2)):=by
 unfold py;rw [Array.map_map];refine Array.map_congr_left fun x hx=> ?_
 rw [Array.all_eq_true_iff_forall_mem] at hp;have:=hp x.2 (by simp;exact ⟨x.1,hx⟩);show (x.1,ρ' x.2)=(x.1,al π (ρ x.2));rw [h x.2 this]
def eg.cases:eg (Array CommCase):=⟨fun π a=>a.map (gq π),fun π a=>by rw [Array.map_map];exact aem (acb π) a⟩
set_option maxHeartbeats 4000000 in
theorem bp.execOp (hF:fw P π)(hg:P.globals.size=0)(hA:Alike P fs){ρ' ρ:Operand→Value}(h:Rho π ρ' ρ)(hc:∀v,lg v=true→ρ (.const v)=v)(o:Oper)(ho:tn P o=true)(hnd:∀c,o.op≠ .defer c):bp P fs π (en P) .next (Go.execOp ρ' o) (Go.execOp ρ o):=by
 have ho':=ho;unfold tn at ho;simp only [Bool.and_eq_true] at ho;obtain ⟨h1,h2⟩:=ho;have one:∀x,o.op.operands=#[x]→ρ' x=al π (ρ x):=fun x hx=>by
  rw [hx] at h1;exact h x (by simpa using h1)
 have two:∀x y,o.op.operands=#[x,y]→ρ' x=al π (ρ x)∧ρ' y=al π (ρ y):=fun x y hx=>by
  rw [hx] at h1;have:fv x=true∧fv y=true:=by simpa using h1
  exact ⟨h x this.1,h y this.2⟩
 have three:∀x y z,o.op.operands=#[x,y,z]→ρ' x=al π (ρ x)∧ρ' y=al π (ρ y)∧ρ' z=al π (ρ z):=fun x y z hx=>by
  rw [hx] at h1;have:fv x=true∧fv y=true∧fv z=true:=by simpa [and_assoc] using h1
  exact ⟨h x this.1,h y this.2.1,h z this.2.2⟩
 have val:∀x,ρ' x=al π (ρ x)→bp P fs π (en P) .next (Pure.pure (Next.value (ρ' x))) (Pure.pure (Next.value (ρ x))):=fun x hx=>bp.pure _ (by rw [hx];rfl) trivial
 obtain ⟨dst,op,ty,pos,aft,gd⟩:=o;cases op with
 |move x=>exact val x (one x rfl)
 |assign x=>exact val x (one x rfl)
 |pick c a b=>
  obtain ⟨e1,e2,e3⟩:=three c a b rfl;show bp P fs π (en P) .next (do Pure.pure (Next.value (if ←Go.asBool (ρ' c) then ρ' a else ρ' b))) (do Pure.pure (Next.value (if ←Go.asBool (ρ c) then ρ a else ρ b)));rw [e1,e2,e3];refine bp.bind (.none Bool) (aa.asBool _).f fun b _=> ?_
  cases b <;> exact bp.pure _ rfl trivial
 |alloc e=>exact bp.ofV (aa.alloc hF e)
 |box e x=>
  show bp P fs π (en P) .next (do Pure.pure (Next.value (←Instr.box e (ρ' x)))) _;rw [one x rfl];exact bp.ofV (aa.box e _)
 |build t ps=>
  show bp P fs π (en P) .next (do Pure.pure (Next.value (←Instr.build t (ps.map fun x=>(x.1,ρ' x.2))))) _;rw [h.parts h1];exact bp.ofV (aa.build hF t _)
 |buildSlice t n ps=>
  show bp P fs π (en P) .next (do Pure.pure (Next.value (←Instr.buildSlice t n (ps.map fun x=>(x.1,ρ' x.2))))) _;rw [h.parts h1];exact bp.ofV (aa.buildSlice hF t n _)
 |insert t m k v=>
  obtain ⟨e1,e2,e3⟩:=three m k v rfl;show bp P fs π (en P) .next (do Instr.mapUpdate t (ρ' m) (ρ' k) (ρ' v);Pure.pure Next.skip) _;rw [e1,e2,e3];exact bp.ofU (aa.mapUpdate hF hg t h2 _ _ _)
 |load t a=>
  show bp P fs π (en P) .next (do Pure.pure (Next.value (←Instr.loadAt t (ρ' a)))) _;rw [one a rfl];exact bp.ofV (aa.loadAt t _)
 |store t a v=>
  obtain ⟨e1,e2⟩:=two a v rfl;show bp P fs π (en P) .next (do Instr.storeAt t (ρ' a) (ρ' v);Pure.pure Next.skip) _;rw [e1,e2];exact bp.ofU (aa.storeAt t _ _)
 |ready g=>simp at h2
 |waits g=>simp at h2
 |nilCheck x=>exact aa.nilCheck hF h x (by simpa [Op.operands] using h1) _ rfl
 |binOp op t x y ty=>
  obtain ⟨e1,e2⟩:=two x y rfl;have hy:fv y=true:=by
   have:fv x=true∧fv y=true:=by simpa [Op.operands] using h1
   exact this.2
  show bp P fs π (en P) .next (do Pure.pure (Next.value (←(do Go.eqGuard op t x y (ρ' x) (ρ' y);Go.binOp op t (ρ' x) (ρ' y))))) _;rw [e1,e2];exact bp.ofV (aa.guarded hF hg op t x y _ _ h2 fun v hv=>by subst hv;exact hc v hy)
 |unOp op t x=>
  show bp P fs π (en P) .next (do Pure.pure (Next.value (←Op.unary op (ρ' x)))) _;rw [one x rfl];exact bp.ofV (aa.unary op _)
 |convert s d x=>
  show bp P fs π (en P) .next (do Pure.pure (Next.value (←Go.convert s d (ρ' x)))) _;rw [one x rfl];exact bp.ofV (aa.convert s d h2 _)
 |sliceToArrayPointer t x=>
  show bp P fs π (en P) .next (do Pure.pure (Next.value (←Instr.arrayAt t (ρ' x)))) _;rw [one x rfl];exact bp.ofV (aa.arrayAt hF t _)
 |makeInterface t x=>
  show bp P fs π (en P) .next (do Pure.pure (Next.value (←Instr.makeInterface t (ρ' x)))) _;rw [one x rfl];exact bp.ofV (aa.makeInterface t _)
 |makeFunc fn first captured=>
  have hh:(first++captured).all fv=true:=h1;rw [Array.all_append,Bool.and_eq_true] at hh;show bp P fs π (en P) .next (do Pure.pure (Next.value (←Instr.makeFunc fn (first.map ρ') (captured.map ρ')))) _;rw [h.arr hh.1,h.arr hh.2];exact bp.ofV (aa.makeFunc fn _ _ (by cases fn <;> first|rfl|simp [okFn] at h2))
 |makeMap t r=>
  show bp P fs π (en P) .next (do Pure.pure (Next.value (←Instr.makeMap t (r.map ρ')))) _;rw [h.opt h1];exact bp.ofV (aa.makeMap t _)
 |makeChan t x=>
  show bp P fs π (en P) .next (do Pure.pure (Next.value (←Instr.makeChan t (ρ' x)))) _;rw [one x rfl];exact bp.ofV (aa.makeChan hF t _)
 |makeSlice t l c=>
  obtain ⟨e1,e2⟩:=two l c rfl;show bp P fs π (en P) .next (do Pure.pure (Next.value (←Instr.makeSlice t (ρ' l) (ρ' c)))) _;rw [e1,e2];exact bp.ofV (aa.makeSlice hF t _ _)
 |slice t x lo hi mx=>
  have hh:(#[x]++lo.toArray++hi.toArray++mx.toArray).all fv=true:=h1;rw [Array.all_append,Array.all_append,Array.all_append,Bool.and_eq_true,Bool.and_eq_true,Bool.and_eq_true] at hh;show bp P fs π (en P) .next (do Pure.pure (Next.value (←Instr.sliceAt t (ρ' x) (lo.map ρ') (hi.map ρ') (mx.map ρ')))) _;rw [h.opt hh.1.1.2,h.opt hh.1.2,h.opt hh.2,h x (by simpa using hh.1.1.1)];exact bp.ofV (aa.sliceAt hF t _ _ _ _)
 |fieldAddr t x f=>
  show bp P fs π (en P) .next (do Pure.pure (Next.value (←Instr.fieldAt t (ρ' x) f))) _;rw [one x rfl];exact bp.ofV (aa.fieldAt t _ f)
 |field t x f=>
  show bp P fs π (en P) .next (do Pure.pure (Next.value (←Instr.field t (ρ' x) f))) _;rw [one x rfl];exact bp.ofV (aa.field _ t f)
 |indexAddr t x i=>
  obtain ⟨e1,e2⟩:=two x i rfl;show bp P fs π (en P) .next (do Pure.pure (Next.value (←Instr.indexAt t (ρ' x) (ρ' i)))) _;rw [e1,e2];exact bp.ofV (aa.indexAt hF t _ _)
 |index t x i=>
  obtain ⟨e1,e2⟩:=two x i rfl;show bp P fs π (en P) .next (do Pure.pure (Next.value (←Instr.index t (ρ' x) (ρ' i)))) _;rw [e1,e2];exact bp.ofV (aa.index hF t _ _)
 |lookup t x i ok=>
  obtain ⟨e1,e2⟩:=two x i rfl;show bp P fs π (en P) .next (do Pure.pure (Next.value (←Instr.lookup t (ρ' x) (ρ' i) ok))) _;rw [e1,e2];exact bp.ofV (aa.lookup hF hg t h2 _ _ ok)
 |mapUpdate t m k v=>
  obtain ⟨e1,e2,e3⟩:=three m k v rfl;show bp P fs π (en P) .next (do Instr.mapUpdate t (ρ' m) (ρ' k) (ρ' v);Pure.pure Next.skip) _;rw [e1,e2,e3];exact bp.ofU (aa.mapUpdate hF hg t h2 _ _ _)
 |mapEntry t m k=>
  obtain ⟨e1,e2⟩:=two m k rfl;show bp P fs π (en P) .next (do Pure.pure (Next.value (←Instr.mapEntry t (ρ' m) (ρ' k)))) _;rw [e1,e2];exact bp.ofV (aa.mapEntry hF hg t h2 _ _)
 |entryStore t m s v=>
  obtain ⟨e1,e2,e3⟩:=three m s v rfl;show bp P fs π (en P) .next (do Instr.entryStore t (ρ' m) (ρ' s) (ρ' v);Pure.pure Next.skip) _;rw [e1,e2,e3];exact bp.ofU (aa.entryStore t _ _ _)
 |range t x=>
  show bp P fs π (en P) .next (do Pure.pure (Next.value (←Instr.range t (ρ' x)))) _;rw [one x rfl];exact bp.ofV (aa.range t _)
 |next x b=>
  show bp P fs π (en P) .next (do Pure.pure (Next.value (←Instr.next (ρ' x) b ty))) _;rw [one x rfl];exact bp.ofV (aa.next hF _ b ty)
 |entry x=>
  show bp P fs π (en P) .next (do Pure.pure (Next.value (←Instr.entry (ρ' x)))) _;rw [one x rfl];exact bp.ofV (aa.entry _)
 |typeAssert x t a ok=>
  show bp P fs π (en P) .next (do Pure.pure (Next.value (←Instr.typeAssert (ρ' x) t a ok))) _;rw [one x rfl];exact bp.ofV (aa.typeAssert hF _ t a ok)
 |extract x i=>
  show bp P fs π (en P) .next (do Pure.pure (Next.value (←Instr.extract (ρ' x) i))) _;rw [one x rfl];exact bp.ofV (aa.extract _ i)
 |call c=>exact bp.call hF hg hA h c ty h2
 |go c=>simp at h2
 |defer c=>exact absurd rfl (hnd c)
 |panic x=>
  show bp P fs π (en P) .next (do Pure.pure (Next.value (←Instr.panic (ρ' x)))) _;rw [one x rfl];exact bp.ofV (aa.panic hF _)
 |send c x=>simp at h2
 |recv t c ok=>simp at h2
 |select cs b=>
  have hcs:∀c∈cs,fv c.chan=true∧c.send.toArray.all fv=true:=fun c hcm=>by
   have hh:(cs.flatMap fun c=>#[c.chan]++c.send.toArray).all fv=true:=h1;rw [Array.all_eq_true_iff_forall_mem] at hh;have hm:∀x∈#[c.chan]++c.send.toArray,fv x=true:=fun x hx=>hh x (Array.mem_flatMap.2 ⟨c,hcm,hx⟩)
   refine ⟨hm _ ae,?_⟩;rw [Array.all_eq_true_iff_forall_mem];exact fun x hx=>hm x (Array.mem_append.2 (.inr hx))
  simp only [Bool.and_eq_true,Bool.not_eq_true',beq_iff_eq] at h2;obtain ⟨⟨rfl,hsz⟩,hsend⟩:=h2;obtain ⟨c0,rfl⟩:∃c,cs=#[c]:=by
   obtain ⟨l⟩:=cs
   match l,hsz with
   | [c],_=>exact ⟨c,rfl⟩
  have hc0:=hcs c0 ae;have hs0:c0.send=none:=by simpa using hsend
  haveI:=tt
  have e1:∀ρ:Operand→Value,(#[c0].mapM fun s=>(do Pure.pure {chan:=ρ s.chan,send:=s.send.map ρ,zero:=←Go.zeroValue s.elem:CommCase}:Sem CommCase))=(do let z ←Go.zeroValue c0.elem;Pure.pure #[{chan:=ρ c0.chan,send:=c0.send.map ρ,zero:=z:CommCase}]):=fun ρ=>by
   simp
  show bp P fs π (en P) .next (do
   let cases ←#[c0].mapM fun s=>do
    Pure.pure {chan:=ρ' s.chan,send:=s.send.map ρ',zero:=←Go.zeroValue s.elem:CommCase}
   Pure.pure (Next.comm cases false .select)) (do
   let cases ←#[c0].mapM fun s=>do
    Pure.pure {chan:=ρ s.chan,send:=s.send.map ρ,zero:=←Go.zeroValue s.elem:CommCase}
   Pure.pure (Next.comm cases false .select))
  rw [e1,e1];refine bp.bind (q:=fun cs=>∃c,cs=#[c]∧c.send=none) .cases ?_ fun cs hc=>bp.pure _ rfl ⟨rfl,hc,rfl⟩
  refine bp.bind .val (aa.zeroValue hF c0.elem).f fun z _=>bp.pure _ ?_ ⟨_,rfl,by simp [hs0]⟩
  rw [h c0.chan hc0.1,hs0];simp [eg.cases,gq,eg.val]
theorem bp.af5 {ρ' ρ:Operand→Value}(h:Rho π ρ' ρ)(o:Oper)(c:Call)(hc:o.op= .defer c)(ho:tn P o=true):bp P fs π (fun x=>∃d,x= .defer d∧iy d.target=true) .next (Go.execOp ρ' o) (Go.execOp ρ o):=by
 unfold tn at ho;simp only [Bool.and_eq_true] at ho;obtain ⟨dst,op,ty,pos,aft,gd⟩:=o;subst hc;have h2:=ho.2;simp only [Bool.and_eq_true] at h2;exact bp.bind .defer (bp.resolve h c ty h2.1 h2.2) fun d hd=>bp.pure _ rfl ⟨d,rfl,hd⟩
end
def gu:Obj:= .view ⟨0,0,some 0⟩ 0
def aw (N:Nat)(π π':Pm):Prop:=∀b,b<N→π'.to b=π.to b
theorem aw.refl (N:Nat)(π:Pm):aw N π π:=fun _ _=>rfl
theorem aw.trans {N:Nat}{a b c:Pm}(h:aw N a b)(k:aw N b c):aw N a c:=fun x hx=>(k x hx).trans (h x hx)
theorem aw.mono {N M:Nat}{a b:Pm}(h:aw M a b)(hn:N≤M):aw N a b:=fun x hx=>h x ai
structure Emb (P:Program)(Z F:Nat→Prop)(π:Pm)(w w':World):Prop where
 gu:∀b,Z b→w.heap[b]? =some gu
 fz:∀b,F b→∃c e z,w.heap[b]? =some (.cells c e (0,c.size))∧w'.heap[π.to b]? =some (.cells (az π c) e z)
 own:∀b o,w.heap[b]? =some o→¬Z b→¬F b→kr P o=true∧w'.heap[π.to b]? =some (cx π o)
 tape:w'.tape=w.tape
 drawn:w'.drawn=w.drawn
 os:w'.os=w.os
 out:w'.output=w.output
def Rob (P:Program)(Z F:Nat→Prop)(π:Pm)(w w':World):Prop:=∀π',aw w.heap.size π π'→Emb P Z F π' w w'
def ub (Z F:Nat→Prop)(N:Nat)(π:Pm)(e:Event):Prop:=
 match e.loc with
 | .cell a=>∃b,b<N∧¬Z b∧(e.write=true→¬F b)∧a.block=π.to b
 | .obj r=>∃b,b<N∧¬Z b∧(e.write=true→¬F b)∧r=π.to b
 | .output=>True
 | .mark m=>nv m=true
 | .goroutines=>False
theorem ub.mono {Z F:Nat→Prop}{N M:Nat}{π π':Pm}{e:Event}(h:ub Z F N π e)(hn:N≤M)(ha:aw N π π'):ub Z F M π' e:=by
 unfold ub at h ⊢;split at h
 ·obtain ⟨b,h1,h2,h3,h4⟩:=h;exact ⟨b,by omega,h2,h3,by rw [h4,ha b h1]⟩
 ·obtain ⟨b,h1,h2,h3,h4⟩:=h;exact ⟨b,by omega,h2,h3,by rw [h4,ha b h1]⟩
 ·trivial
 ·exact h
 ·exact h
structure qu (Z F:Nat→Prop)(N:Nat)(π:Pm)(w w':World):Prop where
 size:w.heap.size≤w'.heap.size
 ff:∀c,c<w.heap.size→(∀b,b<N→¬Z b→¬F b→c≠π.to b)→w'.heap[c]? =w.heap[c]?
theorem qu.refl {Z F:Nat→Prop}{N:Nat}{π:Pm}(w:World):qu Z F N π w w:=⟨Nat.le_refl _,fun _ _ _=>rfl⟩
structure At (P:Program)(Z F:Nat→Prop)(π:Pm)(w w':World):Prop where
 rob:Rob P Z F π w w'
 zlt:∀b,Z b→b<w.heap.size
 flt:∀b,F b→b<w.heap.size
 img:∀b,b<w.heap.size→π.to b<w'.heap.size
structure Kept (w w':World)(π:Pm)(w1 w1':World)(π1:Pm):Prop where
 os:w1.os=w.os
 idn:π=one∧w'.heap.size=w.heap.size→π1=one∧w1'.heap.size=w1.heap.size
 out:w1.output=w.output
 cov:∀c,w'.heap.size≤c→c<w1'.heap.size→∃b,w.heap.size≤b∧b<w1.heap.size∧π1.to b=c
theorem agk {w w' w1 w1' w2 w2':World}{π1 π2:Pm}(h:∀c,w'.heap.size≤c→c<w1'.heap.size→∃b,w.heap.size≤b∧b<w1.heap.size∧π1.to b=c)(k:∀c,w1'.heap.size≤c→c<w2'.heap.size→∃b,w1.heap.size≤b∧b<w2.heap.size∧π2.to b=c)(ha:aw w1.heap.size π1 π2)(s1:w.heap.size≤w1.heap.size)(s2:w1.heap.size≤w2.heap.size):
  ∀c,w'.heap.size≤c→c<w2'.heap.size→∃b,w.heap.size≤b∧b<w2.heap.size∧π2.to b=c:=fun c h1 h2=>by
 by_cases hc:c<w1'.heap.size
 ·obtain ⟨b,x1,x2,x3⟩:=h c h1 hc;exact ⟨b,x1,by omega,by rw [ha b x2];exact x3⟩
 ·obtain ⟨b,x1,x2,x3⟩:=k c ai h2;exact ⟨b,by omega,x2,x3⟩
theorem Kept.trans {w w' w1 w1' w2 w2':World}{π π1 π2:Pm}(h:Kept w w' π w1 w1' π1)(k:Kept w1 w1' π1 w2 w2' π2)(ha:aw w1.heap.size π1 π2)(s1:w.heap.size≤w1.heap.size)(s2:w1.heap.size≤w2.heap.size):Kept w w' π w2 w2' π2:=
 ⟨k.os.trans h.os,fun e=>k.idn (h.idn e),k.out.trans h.out,agk h.cov k.cov ha s1 s2⟩
theorem Kept.refl (w w':World)(π:Pm):Kept w w' π w w' π:=⟨rfl,fun e=>e,rfl,fun c h1 h2=>absurd h2 ai⟩
theorem Kept.flat {w w':World}{π:Pm}{w1 w1':World}{π1:Pm}(h1:w1.os=w.os)(h2:w1.output=w.output)(h3:w1'.heap.size=w'.heap.size)(h4:π=one∧w'.heap.size=w.heap.size→π1=one∧w1'.heap.size=w1.heap.size):Kept w w' π w1 w1' π1:=
 ⟨h1,h4,h2,fun c x y=>absurd y ai⟩
def ik (P:Program)(Z F:Nat→Prop){α:Type}(A:eg α)(q:α→Prop)(π:Pm)(w w':World)(es':Array Event)(r:Result α)(r':Result α×Array Event):Prop:=
 match r with
 | .ok a w1=>q a∧∃π1 w1' new,r'=(.ok (A.act π1 a) w1',es'++new)∧aw w.heap.size π π1∧At P Z F π1 w1 w1'∧(∀π2,aw w1.heap.size π1 π2→A.act π2 a=A.act π1 a)∧
   w.heap.size≤w1.heap.size∧qu Z F w.heap.size π w' w1'∧(∀e∈new,ub Z F w1.heap.size π1 e)∧(∀b,w.heap.size≤b→b<w1.heap.size→w'.heap.size≤π1.to b)∧Kept w w' π w1 w1' π1
 | .halt (.panic v) w1=>∃π1 w1' new,r'=(.halt (.panic (al π1 v)) w1',es'++new)∧aw w.heap.size π π1∧At P Z F π1 w1 w1'∧(∀π2,aw w1.heap.size π1 π2→al π2 v=al π1 v)∧
   w.heap.size≤w1.heap.size∧qu Z F w.heap.size π w' w1'∧(∀e∈new,ub Z F w1.heap.size π1 e)∧(∀b,w.heap.size≤b→b<w1.heap.size→w'.heap.size≤π1.to b)∧Kept w w' π w1 w1' π1
 | .halt h _=>(match h with| .stuck _=>True| .unsupported u=>∀b,u≠ .initOrder b|_=>False)
def Tm (P:Program)(w:World):Prop:=∀(b:Nat)(o:Obj),w.heap[b]? =some o→o=gu∨kr P o=true
theorem At.tm {P:Program}{Z F:Nat→Prop}{π:Pm}{w w':World}(h:At P Z F π w w'):Tm P w:=fun b o ho=>by
 have hE:=h.rob π (aw.refl _ _)
 by_cases hz:Z b
 ·rw [hE.gu b hz] at ho;exact .inl (Option.some.inj ho).symm
 ·by_cases hf:F b
  ·obtain ⟨c,e,z,h1,_⟩:=hE.fz b hf;rw [h1] at ho;obtain rfl:=Option.some.inj ho;exact .inr rfl
  ·exact .inr (hE.own b o ho hz hf).1
def oe:Halt→Prop
 | .stuck _=>True
 | .unsupported u=>∀b,u≠ .initOrder b
 |_=>False
theorem ag5 (P:Program)(w:World)(u:TypeId)(k:Addr)(at_:Bool):∃why,w.seen P ⟨0,0,some 0⟩ u k at_= .error why:=by
 refine ⟨ "memory seen as another type: a place without cells",?_⟩;unfold World.seen;rw [if_pos ae];rfl
theorem dud_load (P:Program)(w:World)(u:TypeId)(k:Addr)(at_:Bool):∃why,w.viewLoad P ⟨0,0,some 0⟩ u k at_= .error why:=by
 obtain ⟨why,h⟩:=ag5 P w u k at_;refine ⟨why,?_⟩;unfold World.viewLoad;rw [h];rfl
theorem am3 (P:Program)(w:World)(u:TypeId)(k:Addr)(v:Value)(at_:Bool):∃why,w.viewStore P ⟨0,0,some 0⟩ u k v at_= .error why:=by
 obtain ⟨why,h⟩:=ag5 P w u k at_;unfold World.viewStore
 by_cases ht:(!tight P P.depth u)=true
 ·rw [if_pos ht];exact ⟨_,rfl⟩
 ·rw [if_neg ht,h];exact ⟨_,rfl⟩
theorem adm {P:Program}{w:World}(ht:Tm P w)(a:Addr)(b:Bool)(hc:w.cell? a=none):∃h,w.farLoad P a b= .error h∧oe h:=by
 unfold World.farLoad World.noCell;cases ho:w.heap[a.block]? with
 |none=>exact ⟨_,rfl,trivial⟩
 |some o=>
  rcases ht _ _ ho with rfl|hg
  ·obtain ⟨why,h⟩:=dud_load P w 0 a b;refine ⟨.unsupported (.unsafePointer why),?_,fun b hb=>Unsupported.noConfusion hb⟩;simp only [gu];rw [h]
  ·cases o <;> first|exact ⟨_,rfl,trivial⟩|simp [kr] at hg
theorem agd {P:Program}{w:World}(ht:Tm P w)(a:Addr)(v:Value)(b:Bool)(hc:w.cell? a=none):∃h,w.farStore P a v b= .error h∧oe h:=by
 unfold World.farStore World.noCell;cases ho:w.heap[a.block]? with
 |none=>exact ⟨_,rfl,trivial⟩
 |some o=>
  rcases ht _ _ ho with rfl|hg
  ·obtain ⟨why,h⟩:=am3 P w 0 a v b;refine ⟨.unsupported (.unsafePointer why),?_,fun b hb=>Unsupported.noConfusion hb⟩;simp only [gu];rw [h]
  ·cases o <;> first|exact ⟨_,rfl,trivial⟩|simp [kr] at hg
theorem dm.run {P:Program}{V:Nat→Prop}{α:Type}{s:Sem α}(d:dm P V s):∀(w:World),Tm P w→(∀r,V r→w.heap[r]? =some zr.gu)→∀es,∃h w1 es1,s.runT P w es=(.halt h w1,es1)∧oe h:=by
 induction d with
 |stuck why=>exact fun w _ _ es=>⟨_,_,_,rfl,trivial⟩
 |unsup u hu=>exact fun w _ _ es=>⟨_,_,_,rfl,hu⟩
 |load m a k _ ih=>
  intro w ht hv es;simp only [Sem.runT];cases hc:w.cell? a with
  |some v=>exact ih v w ht hv _
  |none=>
   obtain ⟨h,e1,e2⟩:=adm ht a (m== .atomic) hc;simp only [e1];exact ⟨_,_,_,rfl,e2⟩
 |shape r k _ ih=>exact fun w ht hv es=>ih _ w ht hv es
 |shapeV r k hr _ ih=>
  intro w ht hv es;simp only [Sem.runT];have:w.shape? r=none:=by
   unfold World.shape?;rw [hv r hr];rfl
  rw [this];exact ih w ht hv es
 |frozen r k _ ih=>exact fun w ht hv es=>ih _ w ht hv es
 |getObj r k _ ih=>
  intro w ht hv es;simp only [Sem.runT];split
  ·exact ⟨_,_,_,rfl,trivial⟩
  ·exact ih _ w ht hv _
  ·exact ⟨_,_,_,rfl,trivial⟩
 |getObjV r k hr _ ih=>
  intro w ht hv es;simp only [Sem.runT];rw [hv r hr];exact ih _ _ w ht hv _
 |choose q k _ ih=>
  intro w ht hv es;simp only [Sem.runT];split
  ·exact ih _ w ht hv es
  ·exact ih _ {w with drawn:=w.drawn+1} ht hv es
 |program k _ ih=>exact fun w ht hv es=>ih w ht hv es
 |mark m k _ ih=>exact fun w ht hv es=>ih w ht hv _
namespace Pm
def sw (a b:Nat):Pm:=⟨fun n=>if n=a then b else if n=b then a else n,fun n=>if n=a then b else if n=b then a else n,fun n=>by
 split <;> (try split) <;> (try split) <;> omega,fun n=>by
 split <;> (try split) <;> (try split) <;> omega⟩
def comp (σ π:Pm):Pm:=⟨fun n=>σ.to (π.to n),fun n=>π.inv (σ.inv n),fun n=>by rw [σ.li,π.li],fun n=>by rw [π.ri,σ.ri]⟩
def move (π:Pm)(n m:Nat):Pm:=comp (sw (π.to n) m) π
theorem tf (π:Pm)(n m:Nat):(π.move n m).to n=m:=by
 show (if π.to n=π.to n then m else _)=m;rw [if_pos rfl]
theorem ae4 (π:Pm){n m b:Nat}(h1:b≠n)(h2:π.to b≠m):(π.move n m).to b=π.to b:=by
 show (if π.to b=π.to n then m else if π.to b=m then _ else π.to b)=π.to b;rw [if_neg (fun h=>h1 (π.inj h)),if_neg h2]
end Pm
theorem aiq (os:Os):Kernel.perform .env os= .done (.strings os.env,os):=rfl
theorem ae9 (w:World):w.sys .env=(.strings w.os.env,w):=by
 unfold World.sys;rw [aiq];rfl
section
variable {P:Program}{Z F:Nat→Prop}{α:Type}{A:eg α}{q:α→Prop}{π:Pm}{w w':World}
theorem qu.trans {N M:Nat}{π1:Pm}{w1 w2:World}(h:qu Z F N π w w1)(k:qu Z F M π1 w1 w2)(ha:aw N π π1)(hf:∀b,N≤b→b<M→w.heap.size≤π1.to b):qu Z F N π w w2:=
 ⟨Nat.le_trans h.size k.size,fun c hc hb=>by
  rw [k.ff c (Nat.lt_of_lt_of_le hc h.size) fun b hbM hz hfr he=> ?_,h.ff c hc hb]
  by_cases hlt:b<N
  ·exact hb b hlt hz hfr (by rw [he,ha b hlt])
  ·have:=hf b ai hbM;omega⟩
theorem ik.chain {π1:Pm}{w1 w1':World}{es' new:Array Event}{r:Result α}{r':Result α×Array Event}(ha:aw w.heap.size π π1)(hs:w.heap.size≤w1.heap.size)(hm:qu Z F w.heap.size π w' w1')
  (he:∀e∈new,ub Z F w1.heap.size π1 e)(hf:∀b,w.heap.size≤b→b<w1.heap.size→w'.heap.size≤π1.to b)(ho:Kept w w' π w1 w1' π1)(h:ik P Z F A q π1 w1 w1' (es'++new) r r'):ik P Z F A q π w w' es' r r':=by
 unfold ik at h ⊢;split at h
 ·obtain ⟨hq,π2,w2',new2,rfl,a2,t2,ag,s2,m2,e2,f2,o2⟩:=h;refine ⟨hq,π2,w2',new++new2,by rw [Array.append_assoc],ha.trans (a2.mono hs),t2,ag,Nat.le_trans hs s2,hm.trans m2 ha hf,?_,?_,ho.trans o2 a2 hs s2⟩
  ·intro e hm;rcases Array.mem_append.1 hm with hm|hm
   ·exact (he e hm).mono s2 a2
   ·exact e2 e hm
  ·intro b hb hb2
   by_cases hlt:b<w1.heap.size
   ·rw [a2 b hlt];exact hf b hb hlt
   ·exact Nat.le_trans hm.size (f2 b ai hb2)
 ·obtain ⟨π2,w2',new2,rfl,a2,t2,ag,s2,m2,e2,f2,o2⟩:=h;refine ⟨π2,w2',new++new2,by rw [Array.append_assoc],ha.trans (a2.mono hs),t2,ag,Nat.le_trans hs s2,hm.trans m2 ha hf,?_,?_,ho.trans o2 a2 hs s2⟩
  ·intro e hm;rcases Array.mem_append.1 hm with hm|hm
   ·exact (he e hm).mono s2 a2
   ·exact e2 e hm
  ·intro b hb hb2
   by_cases hlt:b<w1.heap.size
   ·rw [a2 b hlt];exact hf b hb hlt
   ·exact Nat.le_trans hm.size (f2 b ai hb2)
 ·exact h
theorem ik.still {w1 w1':World}{es' new:Array Event}{r:Result α}{r':Result α×Array Event}(h1:w1.heap=w.heap)(h2:w1'.heap=w'.heap)(he:∀e∈new,ub Z F w.heap.size π e)(ho:w1.os=w.os∧w1.output=w.output)
  (h:ik P Z F A q π w1 w1' (es'++new) r r'):ik P Z F A q π w w' es' r r':=
 ik.chain (aw.refl _ _) (by rw [h1];exact Nat.le_refl _) ⟨by rw [h2];exact Nat.le_refl _,fun c _ _=>by rw [h2]⟩ (by rw [h1];exact he) (fun b hb hb2=>by rw [h1] at hb2;omega) (Kept.flat ho.1 ho.2 (by rw [h2]) fun e=>⟨e.1,by rw [h1,h2];exact e.2⟩) h
theorem At.afc (h:At P Z F π w w'){b:Nat}{o1:Obj}(hb:b<w.heap.size)(hz:¬Z b)(hf:¬F b)(hg:kr P o1=true){w1 w1':World}(h1:w1={w with heap:=w.heap.setIfInBounds b o1})(h1':w1'={w' with heap:=w'.heap.setIfInBounds (π.to b) (cx π o1)})
  (hr:∀π',aw w.heap.size π π'→cx π' o1=cx π o1):At P Z F π w1 w1':=by
 subst h1 h1';refine ⟨fun π' ha=> ?_,fun b hb=>by simpa using h.zlt b hb,fun b hb=>by simpa using h.flt b hb,fun b hb=>by simpa using h.img b (by simpa using hb)⟩;have ha':aw w.heap.size π π':=by simpa using ha
 have hE:=h.rob π' ha';have hlt:=h.img b hb;refine ⟨fun c hc=> ?_,fun c hc=> ?_,fun c o hc hcz hcf=> ?_,hE.tape,hE.drawn,hE.os,hE.out⟩
 ·have hne:b≠c:=fun e=>hz (e▸hc)
  show (w.heap.setIfInBounds b o1)[c]? =_;rw [Array.getElem?_setIfInBounds_ne hne];exact hE.gu c hc
 ·have hne:b≠c:=fun e=>hf (e▸hc)
  obtain ⟨cs,e,z,x1,x2⟩:=hE.fz c hc;refine ⟨cs,e,z,?_,?_⟩
  ·show (w.heap.setIfInBounds b o1)[c]? =_;rw [Array.getElem?_setIfInBounds_ne hne];exact x1
  ·show (w'.heap.setIfInBounds (π.to b) (cx π o1))[π'.to c]? =_;rw [Array.getElem?_setIfInBounds_ne (fun e=>by
    rw [←ha' b hb] at e;exact hne (π'.inj e))]
   exact x2
 ·by_cases hbc:b=c
  ·subst hbc;have hc':(w.heap.setIfInBounds b o1)[b]? =some o:=hc;rw [Array.getElem?_setIfInBounds_self_of_lt hb] at hc';obtain rfl:=Option.some.inj hc';refine ⟨hg,?_⟩;show (w'.heap.setIfInBounds (π.to b) (cx π o1))[π'.to b]? =_;rw [ha' b hb,Array.getElem?_setIfInBounds_self_of_lt hlt,hr π' ha']
  ·have hc':(w.heap.setIfInBounds b o1)[c]? =some o:=hc;rw [Array.getElem?_setIfInBounds_ne hbc] at hc';obtain ⟨x1,x2⟩:=hE.own c o hc' hcz hcf;refine ⟨x1,?_⟩;show (w'.heap.setIfInBounds (π.to b) (cx π o1))[π'.to c]? =_;rw [Array.getElem?_setIfInBounds_ne (fun e=>by
    rw [←ha' b hb] at e;exact hbc (π'.inj e))]
   exact x2
theorem At.qm {b:Nat}{o1':Obj}(hb:b<w.heap.size)(hz:¬Z b)(hf:¬F b):qu Z F w.heap.size π w' {w' with heap:=w'.heap.setIfInBounds (π.to b) o1'}:=
 ⟨by simp,fun c _ h=>by
  show (w'.heap.setIfInBounds (π.to b) o1')[c]? =_;rw [Array.getElem?_setIfInBounds_ne (fun e=>h b hb hz hf e.symm)]⟩
theorem At.push (h:At P Z F π w w'){o:Obj}(hg:kr P o=true)(hr:∀π',aw w.heap.size π π'→cx π' o=cx π o):
  At P Z F (π.move w.heap.size w'.heap.size) {w with heap:=w.heap.push o} {w' with heap:=w'.heap.push (cx π o)}∧aw w.heap.size π (π.move w.heap.size w'.heap.size):=by
 have hag:aw w.heap.size π (π.move w.heap.size w'.heap.size):=fun b hb=>Pm.ae4 π ai (by have:=h.img b hb;omega)
 refine ⟨⟨fun π' ha=> ?_,fun b hb=> ?_,fun b hb=> ?_,fun b hb=> ?_⟩,hag⟩
 ·have ha1:aw (w.heap.size+1) (π.move w.heap.size w'.heap.size) π':=by simpa using ha
  have ha':aw w.heap.size π π':=hag.trans (ha1.mono ai);have hN:π'.to w.heap.size=w'.heap.size:=by rw [ha1 _ ai,Pm.tf]
  have hE:=h.rob π' ha';have lt:∀c,c<w.heap.size→π'.to c<w'.heap.size:=fun c hc=>by rw [ha' c hc];exact h.img c hc
  refine ⟨fun c hc=> ?_,fun c hc=> ?_,fun c o2 hc hcz hcf=> ?_,hE.tape,hE.drawn,hE.os,hE.out⟩
  ·have:=h.zlt c hc;show (w.heap.push o)[c]? =_;rw [Array.getElem?_push_lt this,←hE.gu c hc,Array.getElem?_eq_getElem this]
  ·have hl:=h.flt c hc;obtain ⟨cs,e,z,x1,x2⟩:=hE.fz c hc;refine ⟨cs,e,z,?_,?_⟩
   ·show (w.heap.push o)[c]? =_;rw [Array.getElem?_push_lt hl,←x1,Array.getElem?_eq_getElem hl]
   ·show (w'.heap.push (cx π o))[π'.to c]? =_;rw [Array.getElem?_push_lt (lt c hl),←x2,Array.getElem?_eq_getElem (lt c hl)]
  ·have hc':(w.heap.push o)[c]? =some o2:=hc;rw [Array.getElem?_push] at hc'
   by_cases hcN:c=w.heap.size
   ·rw [if_pos hcN] at hc';obtain rfl:=Option.some.inj hc';refine ⟨hg,?_⟩;show (w'.heap.push (cx π o))[π'.to c]? =_;rw [hcN,hN,Array.getElem?_push,if_pos rfl,hr π' ha']
   ·rw [if_neg hcN] at hc';have hl:c<w.heap.size:=(Array.getElem?_eq_some_iff.1 hc').1;obtain ⟨x1,x2⟩:=hE.own c o2 hc' hcz hcf;refine ⟨x1,?_⟩;show (w'.heap.push (cx π o))[π'.to c]? =_;rw [Array.getElem?_push_lt (lt c hl),←x2,Array.getElem?_eq_getElem (lt c hl)]
 ·have:=h.zlt b hb;simp;omega
 ·have:=h.flt b hb;simp;omega
 ·have hb':b<w.heap.size+1:=by simpa using hb
  show _< (w'.heap.push (cx π o)).size;rw [Array.size_push]
  by_cases hcN:b=w.heap.size
  ·rw [hcN,Pm.tf];omega
  ·rw [hag b ai];have:=h.img b ai;omega
end
theorem yj {a:Array Obj}{b:Nat}{o:Obj}(h:a[b]? =some o)(f:Obj→Obj):a.modify b f=a.setIfInBounds b (f o):=by
 apply Array.ext_getElem?;intro j;rw [Array.getElem?_modify,Array.getElem?_setIfInBounds];split
 ·subst_vars
  have hlt:=(Array.getElem?_eq_some_iff.1 h).1;rw [h,if_pos hlt];rfl
 ·rfl
section
variable {P' P:Program}{Z F:Nat→Prop}{α:Type}{A:eg α}{q:α→Prop}
theorem move_one {π:Pm}{w w':World}(e:π=one∧w'.heap.size=w.heap.size):π.move w.heap.size w'.heap.size=one:=by
 obtain ⟨rfl,h⟩:=e;rw [h];simp only [Pm.move,Pm.comp,Pm.sw,one,id,Pm.mk.injEq];refine ⟨funext fun n=> ?_,funext fun n=> ?_⟩
 ·split
  ·rename_i h;exact h.symm
  ·rfl
 ·split
  ·rename_i h;exact h.symm
  ·rfl
theorem ik.oe {π:Pm}{w w':World}{es':Array Event}{h:Halt}{w1:World}{r':Result α×Array Event}(hd:oe h):ik P Z F A q π w w' es' (.halt h w1) r':=by
 cases h <;> first|exact hd|exact hd.elim
theorem wo {w:World}{a:Addr}{v:Value}(h:w.cell? a=some v):∃c e z,w.heap[a.block]? =some (.cells c e z)∧a.spot.isSome=false∧c[a.off]? =some v:=by
 unfold World.cell? at h;split at h
 ·rename_i c e z ho;split at h
  ·cases h
  ·rename_i hs;exact ⟨c,e,z,ho,by simpa using hs,h⟩
 ·cases h
theorem cell_of {w:World}{a:Addr}{c:Array Value}{e:TypeId}{z:Nat×Nat}(h:w.heap[a.block]? =some (.cells c e z))(hs:a.spot.isSome=false):w.cell? a=c[a.off]? :=by
 unfold World.cell?;rw [h];simp [hs]
theorem At.cell {π π':Pm}{w w':World}(h:At P Z F π w w')(ha:aw w.heap.size π π'){a:Addr}{v:Value}(hc:w.cell? a=some v):¬Z a.block∧a.block<w.heap.size∧w'.cell? (π.addr a)=some (al π' v):=by
 obtain ⟨c,e,z,ho,hs,hv⟩:=wo hc;have hlt:a.block<w.heap.size:=(Array.getElem?_eq_some_iff.1 ho).1;have hE:=h.rob π' ha;have hz:¬Z a.block:=fun hz=>by
  rw [hE.gu _ hz] at ho;cases ho
 refine ⟨hz,hlt,?_⟩;have hb:(π.addr a).block=π'.to a.block:=(ha _ hlt).symm
 by_cases hf:F a.block
 ·obtain ⟨c2,e2,z2,x1,x2⟩:=hE.fz _ hf;rw [ho] at x1;obtain ⟨rfl,rfl,rfl⟩:c=c2∧e=e2∧z=(0,c2.size):=by
   have:=Option.some.inj x1
   simpa using this
  have e3:w'.heap[(π.addr a).block]? =some (.cells (az π' c) e z2):=by rw [hb];exact x2
  rw [cell_of (a:=π.addr a) e3 hs];show (az π' c)[a.off]? =_;rw [ja,hv];rfl
 ·have x2:=(hE.own _ _ ho hz hf).2;have e3:w'.heap[(π.addr a).block]? =some (.cells (az π' c) e z):=by rw [hb];exact x2
  rw [cell_of (a:=π.addr a) e3 hs];show (az π' c)[a.off]? =_;rw [ja,hv];rfl
theorem aoj {π π':Pm}{w w':World}(h:At P Z F π w w')(ha:aw w.heap.size π π'){a:Addr}{v:Value}(hc:w.cell? a=some v):al π' v=al π v:=by
 have h1:=(h.cell ha hc).2.2;have h2:=(h.cell (aw.refl _ _) hc).2.2;rw [h1] at h2;exact Option.some.inj h2
theorem frozen_F {π:Pm}{w w':World}(h:At P Z F π w w'){a:Addr}{v:Value}(hc:w.cell? a=some v)(hf:F a.block):w.frozen? a=true:=by
 obtain ⟨c,e,z,ho,hs,hv⟩:=wo hc;obtain ⟨c2,e2,z2,x1,x2⟩:=(h.rob π (aw.refl _ _)).fz _ hf;rw [ho] at x1;obtain ⟨rfl,rfl,rfl⟩:c=c2∧e=e2∧z=(0,c2.size):=by
  have:=Option.some.inj x1
  simpa using this
 unfold World.frozen?;rw [ho];have:=(Array.getElem?_eq_some_iff.1 hv).1;simp [this]
theorem ik.l4 {π:Pm}{w w':World}{es':Array Event}{s:Sem α}{r':Result α×Array Event}{V:Nat→Prop}(hd:dm P V s)(hA:At P Z F π w w')(hv:∀r,V r→w.heap[r]? =some gu)(es:Array Event):ik P Z F A q π w w' es' (s.runT P w es).1 r':=by
 obtain ⟨h,w1,es1,e1,e2⟩:=hd.run w hA.tm hv es;rw [e1];exact ik.oe e2
theorem ads {π:Pm}{n N:Nat}(h:∀π',aw N π π'→π'.to n=π.to n):n<N:=by
 by_cases hn:n<N
 ·exact hn
 ·have h1:=h (π.move n (π.to (n+1))) fun b hb=>Pm.ae4 π ai (fun e=>by have:=π.inj e;omega)
  rw [Pm.tf] at h1;have:=π.inj h1;omega
theorem xn {w:World}{a:Addr}{v:Value}{c:Array Value}{e:TypeId}{z:Nat×Nat}(ho:w.heap[a.block]? =some (.cells c e z))(hs:a.spot.isSome=false):w.setCell a v={w with heap:=w.heap.setIfInBounds a.block (.cells (c.setIfInBounds a.off v) e z)}:=by
 unfold World.setCell;rw [yj ho];simp [hs]
theorem sk (π:Pm)(c:Array Value)(i:Nat)(v:Value):az π (c.setIfInBounds i v)=(az π c).setIfInBounds i (al π v):=by
 rw [fh,fh];simp
theorem rh:∀(s s':Sem α)(L:List Nat)(π:Pm)(w w':World)(es':Array Event),(∀π',aw w.heap.size π π'→Tw P' P π' (A.act π') q L s' s)→At P Z F π w w'→(∀r∈L,r<w.heap.size∧¬Z r∧¬F r)→
  ∀es,ik P Z F A q π w w' es' (s.runT P w es).1 (s'.runT P' w' es'):=by
 intro s
 induction s with
 |pure a=>
  intro s' L π w w' es' H hA hL es;have inv:∀π',aw w.heap.size π π'→s'= .pure (A.act π' a)∧q a:=fun π' ha=>by
   cases H π' ha with
   |pure _ hq=>exact ⟨rfl,hq⟩
   |dead _ d=>cases d
  obtain ⟨rfl,hq⟩:=inv π (aw.refl _ _);refine ⟨hq,π,w',#[],by simp [Sem.runT],aw.refl _ _,hA,fun π2 h2=> ?_,Nat.le_refl _,qu.refl _,by simp,fun b h1 h2=>by omega,Kept.refl _ _ _⟩;have:=(inv π2 h2).1
  simpa using this.symm
 |load m a k ih=>
  intro s' L π w w' es' H hA hL es;simp only [Sem.runT];cases hc:w.cell? a with
  |none=>
   obtain ⟨h,e1,e2⟩:=adm hA.tm a (m== .atomic) hc;simp only [e1];exact ik.oe e2
  |some v=>
   by_cases hd:dm P (fun _=>False) (.load m a k)
   ·have:=ik.l4 (P:=P) (A:=A) (q:=q) (es':=es') (r':=s'.runT P' w' es') hd hA (fun _ h=>h.elim) es
    simpa only [Sem.runT,hc] using this
   ·have inv:∀π',aw w.heap.size π π'→∃k',s'= .load m (π'.addr a) k'∧∀v,Tw P' P π' (A.act π') q L (k' (al π' v)) (k v):=fun π' ha=>by
     cases H π' ha with
     |load _ _ h=>exact ⟨_,rfl,h⟩
     |dead _ d=>exact absurd d hd
    obtain ⟨k',rfl,hk⟩:=inv π (aw.refl _ _);obtain ⟨hz,hlt,hc'⟩:=hA.cell (aw.refl _ _) hc;simp only [Sem.runT,hc'];refine ik.still (new:=#[⟨.cell (π.addr a),false,m== .atomic⟩]) rfl rfl (fun e he=> ?_) ⟨rfl,rfl⟩ ?_
    ·obtain rfl:e=_:=by simpa using he
     exact ⟨a.block,hlt,hz,(fun h=>by cases h),rfl⟩
    ·have:=ih v (k' (al π v)) L π w w' (es'++ #[⟨.cell (π.addr a),false,m== .atomic⟩]) (fun π' ha=>by
      obtain ⟨k2,e2,h2⟩:=inv π' ha;obtain rfl:k'=k2:=by
       injection e2
      have:=h2 v;rw [aoj hA ha hc] at this;exact this) hA hL (es.push ⟨.cell a,false,m== .atomic⟩)
     simpa using this
 |store m a v k ih=>
  intro s' L π w w' es' H hA hL es
  by_cases hd:dm P (fun _=>False) (.store m a v k)
  ·exact ik.l4 hd hA (fun _ h=>h.elim) es
  have inv:∀π',aw w.heap.size π π'→∃k',s'= .store m (π'.addr a) (al π' v) k'∧Tw P' P π' (A.act π') q L k' k:=fun π' ha=>by
   cases H π' ha with
   |store _ _ _ h=>exact ⟨_,rfl,h⟩
   |dead _ d=>exact absurd d hd
  obtain ⟨k',rfl,hk⟩:=inv π (aw.refl _ _);have hva:∀π',aw w.heap.size π π'→al π' v=al π v:=fun π' ha=>by
   obtain ⟨k2,e2,_⟩:=inv π' ha
   injection e2 with _ _ e3 _
   exact e3.symm
  have hk':∀π',aw w.heap.size π π'→Tw P' P π' (A.act π') q L k' k:=fun π' ha=>by
   obtain ⟨k2,e2,h2⟩:=inv π' ha
   injection e2 with _ _ _ e4
   rw [e4];exact h2
  have main:(∀cs,v≠ .agg cs)→(∀vs,v≠ .tuple vs)→ik P Z F A q π w w' es'
    (match w.cell? a with
     |some _=>if w.frozen? a then (Result.halt (Halt.unsupported (.unsafePointer "a write to bytes that a string shares")) w,es) else k.runT P (w.setCell a v) (es.push ⟨Loc.cell a,true,m==Mode.atomic⟩)
     |none=>match w.farStore P a v (m==Mode.atomic) with
      |Except.ok (w,touched)=>k.runT P w (es++touched.toArray.map (fun x=>(⟨Loc.cell x,true,m==Mode.atomic⟩:Event)))
      |Except.error h=>(Result.halt h w,es)).1
    (match w'.cell? (π.addr a) with
     |some _=>if w'.frozen? (π.addr a) then (Result.halt (Halt.unsupported (.unsafePointer "a write to bytes that a string shares")) w',es') else k'.runT P' (w'.setCell (π.addr a) (al π v)) (es'.push ⟨Loc.cell (π.addr a),true,m==Mode.atomic⟩)
     |none=>match w'.farStore P' (π.addr a) (al π v) (m==Mode.atomic) with
      |Except.ok (w,touched)=>k'.runT P' w (es'++touched.toArray.map (fun x=>(⟨Loc.cell x,true,m==Mode.atomic⟩:Event)))
      |Except.error h=>(Result.halt h w',es')):=fun _ _=>by
   cases hc:w.cell? a with
   |none=>
    obtain ⟨h,e1,e2⟩:=agd hA.tm a v (m== .atomic) hc;simp only [e1];exact ik.oe e2
   |some v0=>
    obtain ⟨hz,hlt,hc'⟩:=hA.cell (aw.refl _ _) hc;simp only [hc']
    by_cases hfr:w.frozen? a=true
    ·rw [if_pos hfr];exact ik.oe (h:= .unsupported _) (fun b hb=>Unsupported.noConfusion hb)
    ·rw [if_neg hfr];have hf:¬F a.block:=fun hf=>hfr (frozen_F hA hc hf)
     obtain ⟨c,e,z,ho,hs,hv0⟩:=wo hc;have ho':=((hA.rob π (aw.refl _ _)).own _ _ ho hz hf).2;have hfr':¬w'.frozen? (π.addr a)=true:=by
      have e1:w.frozen? a=(z.1≤a.off && a.off<z.2):=by
       unfold World.frozen?;rw [ho]
      have e2:w'.frozen? (π.addr a)=(z.1≤a.off && a.off<z.2):=by
       unfold World.frozen?;rw [show (π.addr a).block=π.to a.block from rfl,ho'];rfl
      rw [e2,←e1];exact hfr
     rw [if_neg hfr',xn ho hs,xn (a:=π.addr a) ho' hs];have hob:cx π (.cells (c.setIfInBounds a.off v) e z)= .cells ((az π c).setIfInBounds (π.addr a).off (al π v)) e z:=by
      simp only [cx,sk];rfl
     have hcs:∀π',aw w.heap.size π π'→az π' c=az π c:=fun π' ha=>by
      have x1:=((hA.rob π' ha).own _ _ ho hz hf).2;rw [ha _ hlt,ho'] at x1;have:=Option.some.inj x1;simp only [cx,Obj.cells.injEq] at this;exact this.1.symm
     have hA1:=hA.afc (o1:= .cells (c.setIfInBounds a.off v) e z) hlt hz hf rfl (w1:={w with heap:=w.heap.setIfInBounds a.block (.cells (c.setIfInBounds a.off v) e z)}) (w1':={w' with heap:=w'.heap.setIfInBounds (π.to a.block) (.cells ((az π c).setIfInBounds (π.addr a).off (al π v)) e z)}) rfl (by rw [hob]) (fun π' ha=>by
      simp only [cx,sk,hcs π' ha,hva π' ha])
     refine ik.chain (new:=#[⟨.cell (π.addr a),true,m== .atomic⟩]) (w1:={w with heap:=w.heap.setIfInBounds a.block (.cells (c.setIfInBounds a.off v) e z)}) (aw.refl _ _) ae (At.qm (o1':= .cells ((az π c).setIfInBounds (π.addr a).off (al π v)) e z) hlt hz hf) (fun e he=> ?_) (fun b h1 h2=> ?_) (Kept.flat rfl rfl ae fun e=>⟨e.1,by simp [e.2]⟩) ?_
     ·obtain rfl:e=_:=by simpa using he
      exact ⟨a.block,by simpa using hlt,hz,(fun _=>hf),rfl⟩
     ·have:b<w.heap.size:=by simpa using h2
      omega
     ·have:=ih k' L π _ _ (es'++ #[⟨.cell (π.addr a),true,m== .atomic⟩]) (fun π' ha=>hk' π' (by simpa using ha)) hA1 (fun r hr=>by simpa using hL r hr) (es.push ⟨.cell a,true,m== .atomic⟩)
      simpa using this
  cases v with
  |agg cs=>exact ik.oe trivial
  |tuple vs=>exact ik.oe trivial
  |_=>exact main (fun _ h=>Value.noConfusion h) (fun _ h=>Value.noConfusion h)
 |new o k ih=>
  intro s' L π w w' es' H hA hL es
  by_cases hd:dm P (fun _=>False) (.new o k)
  ·exact ik.l4 hd hA (fun _ h=>h.elim) es
  have inv:∀π',aw w.heap.size π π'→kr P o=true∧∃k',s'= .new (cx π' o) k'∧∀r,Tw P' P π' (A.act π') q (r::L) (k' (π'.to r)) (k r):=fun π' ha=>by
   cases H π' ha with
   |new _ ho h=>exact ⟨ho,_,rfl,h⟩
   |dead _ d=>exact absurd d hd
  obtain ⟨hg,k',rfl,hk⟩:=inv π (aw.refl _ _);have hoa:∀π',aw w.heap.size π π'→cx π' o=cx π o:=fun π' ha=>by
   obtain ⟨_,k2,e2,_⟩:=inv π' ha
   injection e2 with e3 _
   exact e3.symm
  obtain ⟨hA1,hag⟩:=hA.push hg hoa;simp only [Sem.runT];refine ik.chain (new:=#[]) (w1:={w with heap:=w.heap.push o}) (w1':={w' with heap:=w'.heap.push (cx π o)}) hag ae ⟨by simp,fun c hc _=> ?_⟩ ae (fun b h1 h2=> ?_) ⟨rfl,fun e=>⟨move_one e,by simp [e.2]⟩,rfl,fun c h1 h2=>⟨w.heap.size,Nat.le_refl _,by simp,by
   have:c=w'.heap.size:=by
    have:c<w'.heap.size+1:=by simpa using h2
    omega
   rw [Pm.tf,this]⟩⟩ ?_
  ·show (w'.heap.push (cx π o))[c]? =_;rw [Array.getElem?_push_lt hc,Array.getElem?_eq_getElem hc]
  ·have:b=w.heap.size:=by
    have:b<w.heap.size+1:=by simpa using h2
    omega
   rw [this,Pm.tf];exact Nat.le_refl _
  ·have:=ih w.heap.size (k' w'.heap.size) (w.heap.size::L) _ _ _ (es'++ #[]) (fun π' ha=>by
    have ha1:aw (w.heap.size+1) (π.move w.heap.size w'.heap.size) π':=by simpa using ha
    obtain ⟨_,k2,e2,h2⟩:=inv π' (hag.trans (ha1.mono ai))
    injection e2 with _ e4
    have h3:=h2 w.heap.size;rw [ha1 _ ai,Pm.tf] at h3;rw [e4];exact h3) hA1 (fun r hr=>by
    rcases List.mem_cons.1 hr with rfl|hr
    ·refine ⟨by simp,fun hz=> ?_,fun hf=> ?_⟩
     ·have:=hA.zlt _ hz;omega
     ·have:=hA.flt _ hf;omega
    ·obtain ⟨x1,x2,x3⟩:=hL r hr;refine ⟨?_,x2,x3⟩;simp;omega) es
   simpa using this
 |shape r k ih=>
  intro s' L π w w' es' H hA hL es
  by_cases hd:dm P (fun _=>False) (.shape r k)
  ·exact ik.l4 hd hA (fun _ h=>h.elim) es
  have inv:∀π',aw w.heap.size π π'→∃k',s'= .shape (π'.to r) k'∧(∀s,Tw P' P π' (A.act π') q L (k' s) (k s))∧(r∈L∨dm P (· =r) (k none)):=fun π' ha=>by
   cases H π' ha with
   |shape _ h h2=>exact ⟨_,rfl,h,h2⟩
   |dead _ d=>exact absurd d hd
  obtain ⟨k',rfl,hk,hor⟩:=inv π (aw.refl _ _);have hlt:r<w.heap.size:=ads fun π' ha=>by
   obtain ⟨k2,e2,_⟩:=inv π' ha
   injection e2 with e3 _
   exact e3.symm
  have hE:=hA.rob π (aw.refl _ _)
  by_cases hz:Z r
  ·rcases hor with hr|hr
   ·exact absurd hz (hL r hr).2.1
   ·exact ik.l4 (.shapeV (V:=(· =r)) r k rfl hr) hA (fun x hx=>by subst hx;exact hE.gu x hz) es
  ·have hsh:w'.shape? (π.to r)=w.shape? r:=by
    obtain ⟨o,ho⟩:∃o,w.heap[r]? =some o:=⟨_,Array.getElem?_eq_getElem hlt⟩;unfold World.shape?
    by_cases hf:F r
    ·obtain ⟨c,e,z,x1,x2⟩:=hE.fz r hf;rw [x1,x2];simp only [il]
    ·rw [ho,(hE.own r o ho hz hf).2];cases o <;> simp only [cx,il]
   simp only [Sem.runT,hsh];exact ih _ _ L π w w' es' (fun π' ha=>by
    obtain ⟨k2,e2,h2,_⟩:=inv π' ha
    injection e2 with _ e4
    rw [e4];exact h2 _) hA hL es
 |freeze a n k ih=>
  intro s' L π w w' es' H hA hL es
  by_cases hd:dm P (fun _=>False) (.freeze a n k)
  ·exact ik.l4 hd hA (fun _ h=>h.elim) es
  have inv:∀π',aw w.heap.size π π'→∃k',s'= .freeze (π'.addr a) n k'∧Tw P' P π' (A.act π') q L k' k∧a.block∈L:=fun π' ha=>by
   cases H π' ha with
   |freeze _ _ h2 h=>exact ⟨_,rfl,h,h2⟩
   |dead _ d=>exact absurd d hd
  obtain ⟨k',rfl,hk,hor⟩:=inv π (aw.refl _ _);obtain ⟨hlt,hz,hf⟩:=hL _ hor;have hk':∀π',aw w.heap.size π π'→Tw P' P π' (A.act π') q L k' k:=fun π' ha=>by
   obtain ⟨k2,e2,h2,_⟩:=inv π' ha
   injection e2 with _ _ e4
   rw [e4];exact h2
  simp only [Sem.runT]
  by_cases hn:n=0
  ·have e1:w.freeze a n=w:=by unfold World.freeze;rw [if_pos hn]
   have e2:w'.freeze (π.addr a) n=w':=by unfold World.freeze;rw [if_pos hn]
   rw [e1,e2];exact ih k' L π w w' es' hk' hA hL es
  ·obtain ⟨o,ho⟩:∃o,w.heap[a.block]? =some o:=⟨_,Array.getElem?_eq_getElem hlt⟩;have hE:=hA.rob π (aw.refl _ _);obtain ⟨hg,ho'⟩:=hE.own _ o ho hz hf
   let fz:Obj→Obj:=fun
    | .cells c elem (lo,hi)=> .cells c elem (if lo==hi then (a.off,a.off+n) else (min lo a.off,max hi (a.off+n)))
    |o=>o
   have e1:w.freeze a n={w with heap:=w.heap.setIfInBounds a.block (fz o)}:=by
    unfold World.freeze;rw [if_neg hn,yj ho];cases o with
    |cells c e z=>obtain ⟨lo,hi⟩:=z;rfl
    |_=>rfl
   have e2:w'.freeze (π.addr a) n={w' with heap:=w'.heap.setIfInBounds (π.to a.block) (cx π (fz o))}:=by
    unfold World.freeze;rw [if_neg hn,yj (b:=(π.addr a).block) ho'];cases o with
    |cells c e z=>obtain ⟨lo,hi⟩:=z;rfl
    |_=>rfl
   have hoa:∀π',aw w.heap.size π π'→cx π' (fz o)=cx π (fz o):=fun π' ha=>by
    have x1:=((hA.rob π' ha).own _ _ ho hz hf).2;rw [ha _ hlt,ho'] at x1;have:=Option.some.inj x1;cases o with
    |cells c e z=>
     simp only [cx,Obj.cells.injEq] at this;simp only [fz,cx,this.1]
    |_=>exact this.symm
   rw [e1,e2];refine ik.chain (new:=#[]) (w1:={w with heap:=w.heap.setIfInBounds a.block (fz o)}) (aw.refl _ _) ae (At.qm (o1':=cx π (fz o)) hlt hz hf) ae (fun b h1 h2=> ?_) (Kept.flat rfl rfl ae fun e=>⟨e.1,by simp [e.2]⟩) ?_
   ·have:b<w.heap.size:=by simpa using h2
    omega
   ·have:=ih k' L π _ _ (es'++ #[]) (fun π' ha=>hk' π' (by simpa using ha)) (hA.afc (o1:=fz o) hlt hz hf (by cases o <;> exact hg) rfl rfl hoa) (fun r hr=>by simpa using hL r hr) es
    simpa using this
 |frozen a k ih=>
  intro s' L π w w' es' H hA hL es
  by_cases hd:dm P (fun _=>False) (.frozen a k)
  ·exact ik.l4 hd hA (fun _ h=>h.elim) es
  ·cases H π (aw.refl _ _) with
   |dead _ d=>exact absurd d hd
 |getObj r k ih=>
  intro s' L π w w' es' H hA hL es
  by_cases hd:dm P (fun _=>False) (.getObj r k)
  ·exact ik.l4 hd hA (fun _ h=>h.elim) es
  have inv:∀π',aw w.heap.size π π'→∃k',s'= .getObj (π'.to r) k'∧(∀o,kr P o=true→Tw P' P π' (A.act π') q (r::L) (k' (cx π' o)) (k o))∧(∀a t,dm P (· =r) (k (.view a t))):=fun π' ha=>by
   cases H π' ha with
   |getObj _ h h2=>exact ⟨_,rfl,h,h2⟩
   |dead _ d=>exact absurd d hd
  obtain ⟨k',rfl,hk,hor⟩:=inv π (aw.refl _ _);have hlt:r<w.heap.size:=ads fun π' ha=>by
   obtain ⟨k2,e2,_⟩:=inv π' ha
   injection e2 with e3 _
   exact e3.symm
  have hE:=hA.rob π (aw.refl _ _)
  by_cases hz:Z r
  ·exact ik.l4 (.getObjV (V:=(· =r)) r k rfl hor) hA (fun x hx=>by subst hx;exact hE.gu x hz) es
  ·obtain ⟨o,ho⟩:∃o,w.heap[r]? =some o:=⟨_,Array.getElem?_eq_getElem hlt⟩
   by_cases hf:F r
   ·obtain ⟨c,e,z,x1,x2⟩:=hE.fz r hf;simp only [Sem.runT,x1];exact ik.oe trivial
   ·obtain ⟨hg,ho'⟩:=hE.own r o ho hz hf;have main:(∀c e z,o≠ .cells c e z)→ik P Z F A q π w w' es' ((k o).runT P w (es.push ⟨.obj r,false,o.isChan⟩)).1 ((k' (cx π o)).runT P' w' (es'.push ⟨.obj (π.to r),false,(cx π o).isChan⟩)):=fun _=>by
     refine ik.still (new:=#[⟨.obj (π.to r),false,(cx π o).isChan⟩]) rfl rfl (fun e he=> ?_) ⟨rfl,rfl⟩ ?_
     ·obtain rfl:e=_:=by simpa using he
      exact ⟨r,hlt,hz,(fun h=>by cases h),rfl⟩
     ·have:=ih o (k' (cx π o)) (r::L) π w w' (es'++ #[⟨.obj (π.to r),false,(cx π o).isChan⟩]) (fun π' ha=>by
       obtain ⟨k2,e2,h2,_⟩:=inv π' ha
       injection e2 with _ e4
       have h3:=h2 o hg;have x1:=((hA.rob π' ha).own _ _ ho hz hf).2;rw [ha _ hlt,ho'] at x1;rw [←Option.some.inj x1] at h3;rw [e4];exact h3) hA (fun x hx=>by
       rcases List.mem_cons.1 hx with rfl|hx
       ·exact ⟨hlt,hz,hf⟩
       ·exact hL x hx) (es.push ⟨.obj r,false,o.isChan⟩)
      simpa using this
    simp only [Sem.runT,ho,ho'];cases o with
    |cells c e z=>exact ik.oe trivial
    |_=>exact main (fun _ _ _ h=>Obj.noConfusion h)
 |setObj r o k ih=>
  intro s' L π w w' es' H hA hL es
  by_cases hd:dm P (fun _=>False) (.setObj r o k)
  ·exact ik.l4 hd hA (fun _ h=>h.elim) es
  have inv:∀π',aw w.heap.size π π'→∃k',s'= .setObj (π'.to r) (cx π' o) k'∧Tw P' P π' (A.act π') q L k' k∧r∈L∧kr P o=true:=fun π' ha=>by
   cases H π' ha with
   |setObj _ hr _ hg h=>exact ⟨_,rfl,h,hr,hg⟩
   |dead _ d=>exact absurd d hd
  obtain ⟨k',rfl,hk,hr,hg⟩:=inv π (aw.refl _ _);obtain ⟨hlt,hz,hf⟩:=hL r hr;have hoa:∀π',aw w.heap.size π π'→cx π' o=cx π o:=fun π' ha=>by
   obtain ⟨k2,e2,_⟩:=inv π' ha
   injection e2 with _ e3 _
   exact e3.symm
  have hE:=hA.rob π (aw.refl _ _);obtain ⟨o0,ho⟩:∃o,w.heap[r]? =some o:=⟨_,Array.getElem?_eq_getElem hlt⟩;obtain ⟨_,ho'⟩:=hE.own r o0 ho hz hf;have main:(∀c e z,o0≠ .cells c e z)→ik P Z F A q π w w' es' (k.runT P {w with heap:=w.heap.setIfInBounds r o} (es.push ⟨.obj r,true,o.isChan⟩)).1 (k'.runT P' {w' with heap:=w'.heap.setIfInBounds (π.to r) (cx π o)} (es'.push ⟨.obj (π.to r),true,(cx π o).isChan⟩)):=fun _=>by
   refine ik.chain (new:=#[⟨.obj (π.to r),true,(cx π o).isChan⟩]) (w1:={w with heap:=w.heap.setIfInBounds r o}) (aw.refl _ _) ae (At.qm (o1':=cx π o) hlt hz hf) (fun e he=> ?_) (fun b h1 h2=> ?_) (Kept.flat rfl rfl ae fun e=>⟨e.1,by simp [e.2]⟩) ?_
   ·obtain rfl:e=_:=by simpa using he
    exact ⟨r,by simpa using hlt,hz,(fun _=>hf),rfl⟩
   ·have:b<w.heap.size:=by simpa using h2
    omega
   ·have:=ih k' L π _ _ (es'++ #[⟨.obj (π.to r),true,(cx π o).isChan⟩]) (fun π' ha=>by
     obtain ⟨k2,e2,h2,_⟩:=inv π' (by simpa using ha)
     injection e2 with _ _ e4
     rw [e4];exact h2) (hA.afc (o1:=o) hlt hz hf hg rfl rfl hoa) (fun r hr=>by simpa using hL r hr) (es.push ⟨.obj r,true,o.isChan⟩)
    simpa using this
  simp only [Sem.runT,ho,ho'];cases o0 with
  |cells c e z=>exact ik.oe trivial
  |_=>exact main (fun _ _ _ h=>Obj.noConfusion h)
 |choose ask k ih=>
  intro s' L π w w' es' H hA hL es
  by_cases hd:dm P (fun _=>False) (.choose ask k)
  ·exact ik.l4 hd hA (fun _ h=>h.elim) es
  have inv:∀π',aw w.heap.size π π'→∃k',s'= .choose ask k'∧∀n,Tw P' P π' (A.act π') q L (k' n) (k n):=fun π' ha=>by
   cases H π' ha with
   |choose _ h=>exact ⟨_,rfl,h⟩
   |dead _ d=>exact absurd d hd
  obtain ⟨k',rfl,hk⟩:=inv π (aw.refl _ _);have hk':∀n π',aw w.heap.size π π'→Tw P' P π' (A.act π') q L (k' n) (k n):=fun n π' ha=>by
   obtain ⟨k2,e2,h2⟩:=inv π' ha
   injection e2 with _ e4
   rw [e4];exact h2 n
  have hE:=hA.rob π (aw.refl _ _);simp only [Sem.runT]
  by_cases hf:ask.forced=true
  ·rw [if_pos hf,if_pos hf];exact ih 0 _ L π w w' es' (hk' 0) hA hL es
  ·rw [if_neg hf,if_neg hf,hE.tape,hE.drawn];refine ik.still (new:=#[]) (w1:={w with drawn:=w.drawn+1}) (w1':={w' with drawn:=w.drawn+1}) rfl rfl ae ⟨rfl,rfl⟩ ?_;have hA1:At P Z F π {w with drawn:=w.drawn+1} {w' with drawn:=w.drawn+1}:=⟨fun π' ha=>by
    have hE':=hA.rob π' ha;exact ⟨hE'.gu,hE'.fz,hE'.own,hE'.tape,rfl,hE'.os,hE'.out⟩,hA.zlt,hA.flt,hA.img⟩
   have:=ih (ask.cut (w.tape w.drawn ask)) _ L π {w with drawn:=w.drawn+1} {w' with drawn:=w.drawn+1} (es'++ #[]) (hk' _) hA1 hL es
   simpa [hE.tape] using this
 |sys c k ih=>
  intro s' L π w w' es' H hA hL es
  by_cases hd:dm P (fun _=>False) (.sys c k)
  ·exact ik.l4 hd hA (fun _ h=>h.elim) es
  have inv:∀π',aw w.heap.size π π'→c= .env∧∃k',s'= .sys .env k'∧∀n,Tw P' P π' (A.act π') q L (k' n) (k n):=fun π' ha=>by
   cases H π' ha with
   |sysEnv h=>exact ⟨rfl,_,rfl,h⟩
   |dead _ d=>exact absurd d hd
  obtain ⟨rfl,k',rfl,hk⟩:=inv π (aw.refl _ _);have hE:=hA.rob π (aw.refl _ _);simp only [Sem.runT,ae9,hE.os];refine ik.still (new:=#[⟨.output,true,false⟩]) rfl rfl (fun e he=> ?_) ⟨rfl,rfl⟩ ?_
  ·obtain rfl:e=_:=by simpa using he
   trivial
  ·have:=ih (.strings w.os.env) (k' (.strings w.os.env)) L π w w' (es'++ #[⟨.output,true,false⟩]) (fun π' ha=>by
    obtain ⟨_,k2,e2,h2⟩:=inv π' ha
    injection e2 with _ e4
    rw [e4];exact h2 _) hA hL (es.push ⟨.output,true,false⟩)
   simpa using this
 |program k ih=>
  intro s' L π w w' es' H hA hL es
  by_cases hd:dm P (fun _=>False) (.program k)
  ·exact ik.l4 hd hA (fun _ h=>h.elim) es
  have inv:∀π',aw w.heap.size π π'→∃k',s'= .program k'∧Tw P' P π' (A.act π') q L (k' P') (k P):=fun π' ha=>by
   cases H π' ha with
   |program h=>exact ⟨_,rfl,h⟩
   |dead _ d=>exact absurd d hd
  obtain ⟨k',rfl,hk⟩:=inv π (aw.refl _ _);simp only [Sem.runT];exact ih P _ L π w w' es' (fun π' ha=>by
   obtain ⟨k2,e2,h2⟩:=inv π' ha
   injection e2 with e4
   rw [e4];exact h2) hA hL es
 |mark m k ih=>
  intro s' L π w w' es' H hA hL es
  by_cases hd:dm P (fun _=>False) (.mark m k)
  ·exact ik.l4 hd hA (fun _ h=>h.elim) es
  have inv:∀π',aw w.heap.size π π'→nv m=true∧∃k',s'= .mark m k'∧Tw P' P π' (A.act π') q L k' k:=fun π' ha=>by
   cases H π' ha with
   |mark _ hm h=>exact ⟨hm,_,rfl,h⟩
   |dead _ d=>exact absurd d hd
  obtain ⟨hm,k',rfl,hk⟩:=inv π (aw.refl _ _);simp only [Sem.runT];refine ik.still (new:=#[⟨.mark m,false,true⟩]) rfl rfl (fun e he=> ?_) ⟨rfl,rfl⟩ ?_
  ·obtain rfl:e=_:=by simpa using he
   exact hm
  ·have:=ih k' L π w w' (es'++ #[⟨.mark m,false,true⟩]) (fun π' ha=>by
    obtain ⟨_,k2,e2,h2⟩:=inv π' ha
    injection e2 with _ e4
    rw [e4];exact h2) hA hL (es.push ⟨.mark m,false,true⟩)
   simpa using this
 |halt h=>
  intro s' L π w w' es' H hA hL es
  by_cases hd:dm P (fun _=>False) (.halt h:Sem α)
  ·exact ik.l4 hd hA (fun _ h=>h.elim) es
  have inv:∀π',aw w.heap.size π π'→∃v,h= .panic v∧s'= .halt (.panic (al π' v)):=fun π' ha=>by
   cases H π' ha with
   |panic v=>exact ⟨v,rfl,rfl⟩
   |dead _ d=>exact absurd d hd
  obtain ⟨v,rfl,rfl⟩:=inv π (aw.refl _ _);refine ⟨π,w',#[],by simp [Sem.runT],aw.refl _ _,hA,fun π2 h2=> ?_,Nat.le_refl _,qu.refl _,by simp,fun b h1 h2=>by omega,Kept.refl _ _ _⟩;obtain ⟨v2,e1,e2⟩:=inv π2 h2;obtain rfl:=Halt.panic.inj e1
  injection e2 with e3
  injection e3 with e4
  exact e4.symm
end
end Go.Proofs.YthgpdljlehklhaaGreat.zr
