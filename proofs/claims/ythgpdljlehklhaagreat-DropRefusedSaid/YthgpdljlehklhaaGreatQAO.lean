/- Part QAO of the proof that DropRefused answers true whatever its input. No condition. -/
import Derived.Maps.AppendAt
import Derived.Test.YthgpdljlehklhaaGreatQAI
import Derived.Test.YthgpdljlehklhaaGreatQAN
set_option maxRecDepth 100000
namespace Go.Proofs.YthgpdljlehklhaaGreat.wk
open Go Go.Conc zr dr
set_option linter.unusedVariables false
noncomputable def aay (f:FuncId):Bool:=match Tryz.prog.funcs[f]? with
 |some fn=>match fn.body with
  |some c=>dy Tryz.prog c
  |none=>false
 |none=>false
theorem ey (f:FuncId)(h:aay f=true)(args:Array Value)(w:World):(callFunc f args).run GP w= .ok (.enter f args) w:=by
 unfold aay at h;cases hf:Tryz.prog.funcs[f]? with
 |none=>rw [hf] at h;cases h
 |some fn=>
  rw [hf] at h;dsimp only at h;cases hb:fn.body with
  |none=>rw [hb] at h;cases h
  |some c=>
   rw [hb] at h;exact nq (jd hf hb h) hb (my f fn hf) args w
section
variable {R:Ending→World→Prop}{w:World}{args:Array Value}
theorem gcalls (f:FuncId){fn:Func}{c:Code}{m n:Nat}(hf:Tryz.prog.funcs[f]? =some fn)(hb:fn.body=some c)(ho:dy Tryz.prog c=true)(hm:fn.ntmps-args.size=m)(hn:args.size+m=n)
  (h:∀a:Act,GP.funcs[f]? =some fn→a.tmps.size=n∧a.defers=[]→(∀j v,args[j]? =some v→a.eval (.tmp j)=v)→ad GP R {(default:Frame) with fn:=f,kind:= .normal} a [.code c] w):Calls GP f args w R:=
 calls_at (jd hf hb ho) hb hm hn fun a h1 h2=>h a (jd hf hb ho) h1 h2
end
theorem eo:GP.follows .mixedOrders=true:=by
 rw [ak7]
 decide+kernel
theorem aj {P:Prop}(h:P:=by first|(simp+decide only [eval_put,bn,eval_const,size_put,if_true,if_false,List.getElem_toArray,List.getElem_cons_zero,List.getElem_cons_succ, *];done)|fail):P:=h
theorem et {P:Prop}(h:P:=by simp+decide only [eval_put,bn,eval_const,size_put,if_true,if_false,List.getElem_toArray,List.getElem_cons_zero,List.getElem_cons_succ, *];first|done|rfl):P:=h
theorem ay {P' P:Prop}(h2:P')(h:Wrp P'→P:=by intro hG;(try simp only [List.getElem_toArray,List.getElem_cons_zero,List.getElem_cons_succ]);exact hG.out):P:=h ⟨h2⟩
theorem zes {P' P:Prop}(h2:P')(h:Wrp P'→P:=by intro hG;(simp+decide only [eval_put,bn,eval_const,size_put,if_true,if_false,List.getElem_toArray,List.getElem_cons_zero,List.getElem_cons_succ, *]);exact hG.out):P:=h ⟨h2⟩
theorem zxr {P:Prop}(h:P:=by (try simp only [List.getElem_toArray,List.getElem_cons_zero,List.getElem_cons_succ]);dsimp only [execOp,resolve];(try simp+decide only [eval_put,bn,eval_const,size_put,if_true,if_false,List.map_toArray,List.map_cons,List.map_nil, *]);go_simp;first|done|exact ⟨rfl,rfl⟩|rfl):P:=h
theorem zxs {P:Prop}(h:P:=by (try simp only [List.getElem_toArray,List.getElem_cons_zero,List.getElem_cons_succ]);dsimp only [execOp,resolve];(try simp+decide only [eval_put,bn,eval_const,size_put,if_true,if_false,List.map_toArray,List.map_cons,List.map_nil, *]);go_simp;first|done|rfl):P:=h
theorem zgd {P:Prop}(h:P:=by first|(refine (oy (t':=true) rfl rfl rfl ?_ ?_).trans ?_;(focus (simp [hsz];done));(focus (exact aj));rfl)|(refine (oy (t':=false) rfl rfl rfl ?_ ?_).trans ?_;(focus (simp [hsz];done));(focus (exact aj));rfl)):P:=h
theorem bj {P:Prop}(h:P:=by first|exact dt rfl|exact zgd):P:=h
theorem zpr {P' P:Prop}(h2:P')(h:Wrp P'→P:=by intro hG;((try simp only [List.getElem_toArray,List.getElem_cons_zero,List.getElem_cons_succ]);dsimp only [execOp,resolve];(try simp+decide only [eval_put,bn,eval_const,size_put,if_true,if_false,List.map_toArray,List.map_cons,List.map_nil, *]));exact hG.out):P:=h ⟨h2⟩
theorem zag {P:Prop}(h:P:=by simp+decide only [List.map_toArray,List.map_cons,List.map_nil,eval_put,bn,eval_const,size_put,if_true,if_false,List.getElem_toArray,List.getElem_cons_zero,List.getElem_cons_succ, *];first|done|rfl):P:=h
theorem zam {P' P:Prop}(h2:P')(h:Wrp P'→P:=by intro hG;(simp+decide only [List.map_toArray,List.map_cons,List.map_nil,eval_put,bn,eval_const,size_put,if_true,if_false,List.getElem_toArray,List.getElem_cons_zero,List.getElem_cons_succ, *]);exact hG.out):P:=h ⟨h2⟩
theorem a9 {P:Prop}(h:P:=by decide+kernel):P:=h
theorem dn {R:Ending→World→Prop}{w:World}{args:Array Value}(f:FuncId)(n:Nat){fn:Func}{c:Code}{m:Nat}(hf:Tryz.prog.funcs[f]? =some fn)(h:∀a:Act,GP.funcs[f]? =some fn→a.tmps.size=n∧a.defers=[]→(∀j v,args[j]? =some v→a.eval (.tmp j)=v)→ad GP R {(default:Frame) with fn:=f,kind:= .normal} a [.code c] w)(hb:fn.body=some c:=by rfl)(ho:dy Tryz.prog c=true:=by decide+kernel)(hm:fn.ntmps-args.size=m:=by rfl)(hn:args.size+m=n:=by rfl):Calls GP f args w R:=gcalls f hf hb ho hm hn h
theorem bh {a b:Value}(h:Ending.returned a= .returned b):a=b:=Ending.returned.inj h
theorem ie {a:Act}{x0:Value}(hv:∀(j:Nat) v,#[x0][j]? =some v→a.eval (.tmp j)=v):a.eval (.tmp 0)=x0∧True:=⟨hv 0 _ rfl,trivial⟩
theorem ir {a:Act}{x0 x1:Value}(hv:∀(j:Nat) v,#[x0,x1][j]? =some v→a.eval (.tmp j)=v):a.eval (.tmp 0)=x0∧a.eval (.tmp 1)=x1∧True:=⟨hv 0 _ rfl,hv 1 _ rfl,trivial⟩
theorem za3 {a:Act}{x0 x1 x2:Value}(hv:∀(j:Nat) v,#[x0,x1,x2][j]? =some v→a.eval (.tmp j)=v):a.eval (.tmp 0)=x0∧a.eval (.tmp 1)=x1∧a.eval (.tmp 2)=x2∧True:=⟨hv 0 _ rfl,hv 1 _ rfl,hv 2 _ rfl,trivial⟩
theorem za4 {a:Act}{x0 x1 x2 x3:Value}(hv:∀(j:Nat) v,#[x0,x1,x2,x3][j]? =some v→a.eval (.tmp j)=v):a.eval (.tmp 0)=x0∧a.eval (.tmp 1)=x1∧a.eval (.tmp 2)=x2∧a.eval (.tmp 3)=x3∧True:=⟨hv 0 _ rfl,hv 1 _ rfl,hv 2 _ rfl,hv 3 _ rfl,trivial⟩
theorem za5 {a:Act}{x0 x1 x2 x3 x4:Value}(hv:∀(j:Nat) v,#[x0,x1,x2,x3,x4][j]? =some v→a.eval (.tmp j)=v):a.eval (.tmp 0)=x0∧a.eval (.tmp 1)=x1∧a.eval (.tmp 2)=x2∧a.eval (.tmp 3)=x3∧a.eval (.tmp 4)=x4∧True:=⟨hv 0 _ rfl,hv 1 _ rfl,hv 2 _ rfl,hv 3 _ rfl,hv 4 _ rfl,trivial⟩
theorem za6 {a:Act}{x0 x1 x2 x3 x4 x5:Value}(hv:∀(j:Nat) v,#[x0,x1,x2,x3,x4,x5][j]? =some v→a.eval (.tmp j)=v):a.eval (.tmp 0)=x0∧a.eval (.tmp 1)=x1∧a.eval (.tmp 2)=x2∧a.eval (.tmp 3)=x3∧a.eval (.tmp 4)=x4∧a.eval (.tmp 5)=x5∧True:=⟨hv 0 _ rfl,hv 1 _ rfl,hv 2 _ rfl,hv 3 _ rfl,hv 4 _ rfl,hv 5 _ rfl,trivial⟩
theorem bt {P:Program}{R R':Ending→World→Prop}{b:Frame}{a:Act}{k:List Item}{w:World}{ops:Array Oper}{i:Nat}{rest:List Nat}{o:Oper}(f:FuncId){args:Array Value}{xs:Array Operand}{ts:Array TypeId}(hc:Calls P f args w R')(h:∀v w2,R' (.returned v) w2→ad P R b (a.put o.dst v) (.inRegion ops rest::k) w2)(hk:b.kind= .normal:=by rfl)(ho:ops[i]? =some o:=by rfl)(hop:o.op= .call {callee:= .value (.func f),args:=xs,argTypes:=ts}:=by rfl)(hw:Region.wanted o (yielded ops a.tmps)=true:=by exact bj)(hargs:xs.map a.eval=args:=by exact zag)(hent:(callFunc f args).run P w= .ok (.enter f args) w:=by exact ey _ a9 _ _)(hret:∀e w2,R' e w2→∃v,e= .returned v:=by first|exact fun e w2 h=>⟨_,h.1⟩|exact fun e w2 h=>h.1):ad P R b a (.inRegion ops (i::rest)::k) w:=ad.fn f args hk ho hop hw hargs hent hc hret h
theorem zdv {P:Program}{R:Ending→World→Prop}{b:Frame}{a:Act}{k:List Item}{w:World}{ops:Array Oper}{o:Oper}{v:Value}{S:World→Prop}{n:Nat}{listed:Array Bool}(i:Nat)(h:LDr P R b k ops S n (listed.setIfInBounds i true) (a.put o.dst v) w)(hi:ops[i]? =some o:=by rfl)(hs:Region.noSelect ops=true:=by kernel_rfl)(hf:Region.free .any ops listed i=true:=by kernel_rfl)(hr:(Region.ready .any ops listed).contains i=true:=by kernel_rfl)(hw:Region.wanted o (yielded ops a.tmps)=true:=by exact bj)(hv:∀u,S u→(execOp a.eval o).run P u= .ok (.value v) u:=by intro u hu;(try dsimp only at hu);exact zxr)(hS:S w:=by exact hS0):LDr P R b k ops S (n+1) listed a w:=LDr.take i hi hs hf hr v hw hv hS h
theorem zlv {P' P:Prop}(h2:P')(h:Wrp P'→P:=by intro hG;((apply ad.val0 rfl;(case' ho=>rfl);(case' hs=>rfl);(case' hw=>exact dt rfl);(case' hr=>exact zxr);refine ay ?_));exact hG.out):P:=h ⟨h2⟩
theorem zlp {P' P:Prop}(h2:P')(h:Wrp P'→P:=by intro hG;((apply ad.put0 rfl;(case' ho=>rfl);(case' hs=>rfl);(case' hw=>exact dt rfl);(case' hr=>exact zxs);refine ay ?_));exact hG.out):P:=h ⟨h2⟩
theorem zlg {P' P:Prop}(h2:P')(h:Wrp P'→P:=by intro hG;((apply ad.val0 rfl;(case' ho=>rfl);(case' hs=>rfl);(case' hw=>exact zgd);(case' hr=>exact zxr);refine ay ?_));exact hG.out):P:=h ⟨h2⟩
theorem zln {P' P:Prop}(h2:P')(h:Wrp P'→P:=by intro hG;((apply ad.not;(case' ho=>rfl);(case' hw=>exact zgd);refine ay ?_));exact hG.out):P:=h ⟨h2⟩
theorem zqv {P' P:Prop}(h2:P')(h:Wrp P'→P:=by intro hG;((apply LQ.val;(case' ho=>rfl);(case' hs=>rfl);(case' hw=>exact dt rfl);(case' hr=>exact zxr);refine ay ?_));exact hG.out):P:=h ⟨h2⟩
theorem zqg {P' P:Prop}(h2:P')(h:Wrp P'→P:=by intro hG;((apply LQ.val;(case' ho=>rfl);(case' hs=>rfl);(case' hw=>exact zgd);(case' hr=>exact zxr);refine ay ?_));exact hG.out):P:=h ⟨h2⟩
theorem zqn {P' P:Prop}(h2:P')(h:Wrp P'→P:=by intro hG;((apply LQ.not;(case' ho=>rfl);(case' hw=>exact zgd);refine ay ?_));exact hG.out):P:=h ⟨h2⟩
theorem zqs {P' P:Prop}(h2:P')(h:Wrp P'→P:=by intro hG;(repeat (first|refine zqv ?_|refine zqg ?_|refine zqn ?_));exact hG.out):P:=h ⟨h2⟩
theorem zwq {P' P:Prop}(h2:P')(h:Wrp P'→P:=by intro hG;((apply ad.drawQ eo;(case' ht=>decide+kernel);intro dd;refine zqs ?_;apply LQ.fin;revert dd));exact hG.out):P:=h ⟨h2⟩
theorem zwqo {P' P:Prop}(h2:P')(h:Wrp P'→P:=by intro hG;((apply ad.drawQ eo;(case' ht=>decide+kernel);intro dd;refine zqs ?_;revert dd));exact hG.out):P:=h ⟨h2⟩
theorem zsv {P' P:Prop}(h2:P')(h:Wrp P'→P:=by intro hG;((apply LS.val;(case' ho=>rfl);(case' hs=>rfl);(case' hw=>exact dt rfl);(case' hr=>exact zxr);refine ay ?_));exact hG.out):P:=h ⟨h2⟩
theorem zsp {P' P:Prop}(h2:P')(h:Wrp P'→P:=by intro hG;((apply LS.put;(case' ho=>rfl);(case' hs=>rfl);(case' hw=>exact dt rfl);(case' hr=>exact zxs);refine ay ?_));exact hG.out):P:=h ⟨h2⟩
theorem zsg {P' P:Prop}(h2:P')(h:Wrp P'→P:=by intro hG;((apply LS.val;(case' ho=>rfl);(case' hs=>rfl);(case' hw=>exact zgd);(case' hr=>exact zxr);refine ay ?_));exact hG.out):P:=h ⟨h2⟩
theorem zsn {P' P:Prop}(h2:P')(h:Wrp P'→P:=by intro hG;((apply LS.not;(case' ho=>rfl);(case' hw=>exact zgd);refine ay ?_));exact hG.out):P:=h ⟨h2⟩
theorem zss {P' P:Prop}(h2:P')(h:Wrp P'→P:=by intro hG;(repeat (first|refine zsv ?_|refine zsp ?_|refine zsg ?_|refine zsn ?_));exact hG.out):P:=h ⟨h2⟩
theorem ba {P' P:Prop}(h2:P')(h:Wrp P'→P:=by intro hG;(repeat (first|refine zlv ?_|refine zlp ?_|refine zlg ?_|refine zln ?_|apply ad.ak|apply ad.seq|apply ad.region|apply ad.skip|(apply ad.se;(focus (exact aj)))|(apply ad.p9;(focus (exact aj)))|apply ad.block|apply ad.inBlock|apply ad.exit rfl));exact hG.out):P:=h ⟨h2⟩
theorem ei {P:Prop}(h:P:=by (repeat (first|with_reducible exact ah.refl _ _|with_reducible apply ah.at|with_reducible apply ah.alloc|(with_reducible refine ah.set ?_ ?_;rotate_left;focus (first|(left;simp;done)|(right;(try simp);omega)))|(with_reducible refine ah.obj ?_ ?_;rotate_left;focus (first|(left;simp;done)|(right;(try simp);omega)))))):P:=h
theorem zls {P' P:Prop}(h2:P')(h:Wrp P'→P:=by intro hG;(repeat (first|refine zlv ?_|refine zlp ?_|refine zlg ?_|refine zln ?_));exact hG.out):P:=h ⟨h2⟩
theorem zxl {P' P:Prop}(h2:P')(h:Wrp P'→P:=by intro hG;((apply ad.inLoop;apply ad.seq;apply ad.region;refine zls ?_;apply ad.ak;apply ad.seq;(apply ad.p9;focus (exact aj));apply ad.exit rfl));exact hG.out):P:=h ⟨h2⟩
def fnd (es:Array MapEntry)(s:ByteArray):Option (Nat×Value):=((Instr.findNow .string (.string s) es.toList 0).getD none)
def txt (es:Array MapEntry):Prop:=∀e∈es.toList,∃t,e.key= .string t
theorem aj5 {s:ByteArray}:∀(l:List MapEntry)(i:Nat),(∀e∈l,∃t,e.key= .string t)→∃r,Instr.findNow .string (.string s) l i=some r
 | [],i,_=>⟨none,rfl⟩
 |e::l,i,h=>by
  obtain ⟨t,ht⟩:=h e ae;unfold Instr.findNow;rw [ht];show ∃r,(match some (s==t) with|some true=>_|some false=>_|none=>_)=some r;cases s==t
  ·exact aj5 l (i+1) fun e he=>h e (by simp [he])
  ·exact ⟨_,rfl⟩
theorem txt_run {es:Array MapEntry}(h:txt es)(s:ByteArray):Instr.findNow .string (.string s) es.toList 0=some (fnd es s):=by
 obtain ⟨r,hr⟩:=aj5 (s:=s) es.toList 0 h;unfold fnd;rw [hr];rfl
theorem aia {es:Array MapEntry}(h:txt es)(s:ByteArray)(v:Value)(k:Nat):txt (es.push ⟨.string s,v,k⟩):=by
 intro e he;simp only [Array.toList_push,List.mem_append,List.mem_singleton] at he;rcases he with he|he
 ·exact h e he
 ·exact ⟨s,by rw [he]⟩
theorem acj {es:Array MapEntry}(h:txt es)(i:Nat):txt (es.eraseIdxIfInBounds i):=by
 intro e he;refine h e ?_;rw [Array.toList_eraseIdxIfInBounds] at he;exact List.mem_of_mem_eraseIdx he
theorem ajz (s:ByteArray):fnd #[] s=none:=rfl
theorem aky (s:ByteArray):(s==s)=true:=by
 show (s.data==s.data)=true;simp
theorem aja {s t:ByteArray}(h:s≠t):(s==t)=false:=by
 show (s.data==t.data)=false
 simpa using fun x=>h (by
  cases s;cases t
  simpa using x)
theorem fnd_one {s t:ByteArray}{v:Value}{k:Nat}:fnd #[⟨.string t,v,k⟩] s=if s=t then some (0,v) else none:=by
 unfold fnd Instr.findNow Instr.sameNow Instr.findNow
 by_cases e:s=t
 ·subst e;simp [aky]
 ·simp [e,aja e]
def ah3 (r:Option (Nat×Value)):Value:=match r with|some (_,v)=>v|none=> .pointer none
@[simp] theorem ada:ah3 none= .pointer none:=rfl
@[simp] theorem aiu (i:Nat)(v:Value):ah3 (some (i,v))=v:=rfl
section
variable {w:World}{m k:Nat}{es:Array MapEntry}{s:ByteArray}{v:Value}
theorem aei (w:World):(underlying 136).run GP w= .ok (.map 9 143) w:=by kernel_rfl
theorem und9 (w:World):(underlying 9).run GP w= .ok .string w:=by kernel_rfl
theorem zero143 (w:World):(zeroValue 143).run GP w= .ok (.pointer none) w:=by kernel_rfl
theorem afr (e:Bool)(n:Nat)(w:World):(Instr.checkKey e (n+1) 9 (.string s)).run GP w= .ok () w:=by
 unfold Instr.checkKey;rw [Sem.run_bind,und9];rfl
theorem afh (ht:txt es)(w:World):(Instr.findKey 9 (.string s) es.toList).run GP w= .ok (fnd es s) w:=by
 unfold Instr.findKey;rw [Sem.run_bind,und9];show Sem.run GP (match Instr.findNow .string (.string s) es.toList 0 with|some r=>pure r|none=>_) w=_;rw [txt_run ht s];rfl
theorem get_map (h:w.heap[m]? =some (.map es k)):(getObj m).run GP w= .ok (.map es k) w:=by
 simp only [getObj,Sem.run,h]
theorem zi (h:w.heap[m]? =some (.map es k))(o:Obj):(setObj m o).run GP w= .ok () (putObj w m o):=by
 simp only [setObj,Sem.run,h];rfl
theorem ou (h:w.heap[m]? =some (.map es k))(ht:txt es):(Instr.lookup 136 (.map (some m)) (.string s) false).run GP w= .ok (ah3 (fnd es s)) w:=by
 unfold Instr.lookup;rw [Sem.run_bind,aei];simp only [Result.andThen_ok];rw [Sem.run_bind,get_map h];simp only [Result.andThen_ok,pure_bind];rw [Sem.run_bind,show (10000:Nat)=9999+1 from rfl,afr];simp only [Result.andThen_ok];rw [Sem.run_bind,afh ht];simp only [Result.andThen_ok];cases fnd es s with
 |none=>
  dsimp only;rw [Sem.run_bind,zero143];rfl
 |some r=>
  obtain ⟨i,v⟩:=r;rfl
theorem ak0 (h:w.heap[m]? =some (.map es k))(ht:txt es)(hf:fnd es s=none):(Instr.mapUpdate 136 (.map (some m)) (.string s) v).run GP w= .ok () (putObj w m (.map (es.push ⟨.string s,v,k⟩) (k+1))):=by
 unfold Instr.mapUpdate;rw [Sem.run_bind,aei];simp only [Result.andThen_ok];rw [Sem.run_bind,get_map h];simp only [Result.andThen_ok];rw [Sem.run_bind,show (10000:Nat)=9999+1 from rfl,afr];simp only [Result.andThen_ok];rw [Sem.run_bind,afh ht,hf];simp only [Result.andThen_ok];exact zi h _
theorem ako {ty:TypeId}(h:w.heap[m]? =some (.map es k))(ht:txt es){i:Nat}(hf:fnd es s=some (i,v)):(Builtin.delete_ #[136,9] ty #[.map (some m),.string s]).run GP w= .ok (.tuple #[]) (putObj w m (.map (es.eraseIdxIfInBounds i) k)):=by
 unfold Builtin.delete_;show Sem.run GP (do
  let .map keyType _ ←underlying 136|stuck "delete: map type expected"
  _) w=_
 rw [Sem.run_bind,aei];simp only [Result.andThen_ok,List.getElem_toArray,List.getElem_cons_zero,List.getElem_cons_succ];rw [Sem.run_bind,get_map h];simp only [Result.andThen_ok];rw [Sem.run_bind,show (10000:Nat)=9999+1 from rfl,afr];simp only [Result.andThen_ok];rw [Sem.run_bind,afh ht,hf];simp only [Result.andThen_ok];rw [Sem.run_bind,zi h];rfl
theorem len_map {ty:TypeId}(h:w.heap[m]? =some (.map es k)):(Builtin.len_ #[136] ty #[.map (some m)]).run GP w= .ok (.int .i64 es.size) w:=by
 unfold Builtin.len_;simp only [List.getElem?_toArray,List.getElem?_cons_zero];rw [Sem.run_bind,aei];simp only [Result.andThen_ok];rw [Sem.run_bind,get_map h];rfl
theorem map_nil (m:Nat)(w:World):Sem.run GP (do
  eqGuard .eql 136 (.tmp 10) (.const (.map none)) (.map (some m)) (.map none)
  binOp .eql 136 (.map (some m)) (.map none)) w= .ok (.bool false) w:=by kernel_rfl
end
def blk (v:Value):List Nat:=v.ownBlock.toList
section
variable {w w':World}{v:Value}{n m c e:Nat}{xs news:List Value}{a:Addr}{S:List Nat}
theorem ln (h:w.grownBy w' v.ownBlock):ah (blk v) w w':=by
 refine ⟨h.size,fun b hb hn=>h.block b hb fun e=>hn ?_,h.os,h.output⟩;simp [blk,←e]
theorem jk {v:Value}(h:w.ownsRow 0 e 1 v n xs)(hk:ah S w w')(hn:∀b∈blk v,b∉S):w'.ownsRow 0 e 1 v n xs:=by
 refine ⟨h.1,h.2.imp id ?_⟩;rintro ⟨g,cap,cur,rfl,h1,h2,h3⟩;exact ⟨g,cap,cur,rfl,h1,hk.on h2 (hn g (by simp [blk,Value.ownBlock])),h3⟩
theorem lj (h:w.ownsRow 0 e 1 v n xs):∀b∈blk v,b<w.heap.size:=by
 rcases h.2 with ⟨rfl,-⟩|⟨g,cap,cur,rfl,h1,h2,h3⟩
 ·simp [blk,Value.ownBlock]
 ·intro b hb;simp only [blk,Value.ownBlock,Option.toList_some,List.mem_singleton] at hb;subst hb;exact bf h2
theorem app137 (h:w.ownsRow 0 285 1 v n xs)(hl:news.length=m)(hnews:∀j u,news[j]? =some u→w.cell? (a.add j)=some u)(h1:∀u∈news,u.oneCell'=true)(hb:n+m<1000000000):
  ∃v' w',(Builtin.append_ #[137,137] 137 #[v,.slice (some a) m c]).run GP w= .ok v' w'∧w'.ownsRow 0 285 1 v' (n+m) (xs++news)∧ah (blk v) w w'∧(blk v'=blk v∨blk v'=[w.heap.size]):=by
 obtain ⟨v',w',r1,r2,r3,r4,r5⟩:=run_append_own_at (P:=GP) w 0 137 137 285 ((Tryz.prog.info? 285).getD default) (.slice none 0 0) 1 24 (by rw [fb];kernel_rfl) (by rw [ek];kernel_rfl) du du du rfl ai v n xs h a m c news ai hnews h1 (by simp only [maxLen];omega) ai (Nat.zero_le _);exact ⟨v',w',r1,r2,ln r3,r5.imp (fun h=>by simp [blk,h]) fun h=>by simp [blk,h]⟩
theorem qt (h:w.ownsRow 0 5 1 v n xs)(hl:news.length=m)(hnews:∀j u,news[j]? =some u→w.cell? (a.add j)=some u)(h1:∀u∈news,u.oneCell'=true)(hb:n+m<1000000000):
  ∃v' w',(Builtin.append_ #[49,49] 49 #[v,.slice (some a) m c]).run GP w= .ok v' w'∧w'.ownsRow 0 5 1 v' (n+m) (xs++news)∧ah (blk v) w w'∧(blk v'=blk v∨blk v'=[w.heap.size]):=by
 obtain ⟨v',w',r1,r2,r3,r4,r5⟩:=run_append_own_at (P:=GP) w 0 49 49 5 ((Tryz.prog.info? 5).getD default) (.int .u8 0) 1 1 (by rw [fb];kernel_rfl) (by rw [ek];kernel_rfl) du du du rfl ai v n xs h a m c news ai hnews h1 (by simp only [maxLen];omega) ai (Nat.zero_le _);exact ⟨v',w',r1,r2,ln r3,r5.imp (fun h=>by simp [blk,h]) fun h=>by simp [blk,h]⟩
end
end Go.Proofs.YthgpdljlehklhaaGreat.wk
namespace Go.Proofs.YthgpdljlehklhaaGreat.wk
open Go Go.Conc zr dr wd
set_option linter.unusedVariables false
section
variable {w:World}{g:Nat}{dp plan:Value}{down away:Bool}{calls round:Int}
theorem Wnd_0 (h:Wnd w g dp down away plan calls round):w.cell? ⟨g,0,none⟩=some dp:=af h ae
theorem Wnd_2 (h:Wnd w g dp down away plan calls round):w.cell? ⟨g,2,none⟩=some (.bool away):=af h ae
theorem Wnd_3 (h:Wnd w g dp down away plan calls round):w.cell? ⟨g,3,none⟩=some plan:=af h ae
theorem Wnd_4 (h:Wnd w g dp down away plan calls round):w.cell? ⟨g,4,none⟩=some (.int .i64 calls):=af h ae
theorem Wnd_fz (h:Wnd w g dp down away plan calls round)(i:Nat):w.frozen? ⟨g,i,none⟩=false:=ed h
theorem aop {may:Bool}(h:Wnd w g dp false false (.slice none 0 0) calls round):Calls GP 226 #[pO g,.bool may] w fun e w2=>e= .returned (.tuple #[.int .i64 0,.int .i64 (-1)])∧Wnd w2 g dp false false (.slice none 0 0) (IntKind.i64.wrap (calls+1)) (IntKind.i64.wrap (round+1))∧Oth g w w2∧w2.os=w.os∧w2.output=w.output:=by
 refine dn 226 92 Tryz.func226 fun a hf hsz hv=> ?_
 obtain ⟨v0,v1,-⟩:=ir hv;clear hv;have c1:=h.c1;have c2:=Wnd_2 h;have c4:=Wnd_4 h;have c5:=h.c5;have c6:=h.c6;have c3:=Wnd_3 h;have fz:=Wnd_fz h;refine ba ?_;refine zwq ?_;intro dd;refine ad.cut (fun a1 w1=>(a1.tmps.size=92∧a1.defers=[])∧a1.eval (.tmp 0)=pO g∧a1.eval (.tmp 1)= .bool may∧Wnd w1 g dp false false (.slice none 0 0) calls round∧Oth g w w1∧w1.os=w.os∧w1.output=w.output) ⟨by simp [hsz],aj,aj,h,Oth.refl _ _,rfl,rfl⟩ fun a w1 ⟨hsz,v0,v1,h,ho,o1,o2⟩=> ?_
 have c4:=Wnd_4 h;have c5:=h.c5;have fz:=Wnd_fz h;refine ba ?_;refine ad.cut (fun a1 w2=>(a1.tmps.size=92∧a1.defers=[])∧a1.eval (.tmp 0)=pO g∧a1.eval (.tmp 1)= .bool may∧a1.eval (.tmp 45)=pO g∧Wnd w2 g dp false false (.slice none 0 0) (IntKind.i64.wrap (calls+1)) (IntKind.i64.wrap (round+1))∧Oth g w w2∧w2.os=w.os∧w2.output=w.output) ⟨by simp [hsz],aj,aj,aj,ee (ee h),ho.trans (Oth.set.trans Oth.set),o1,o2⟩ fun a w2 ⟨hsz,v0,v1,v45,h,ho,o1,o2⟩=> ?_
 have c3:=Wnd_3 h;refine bt 27 (uj h) fun v w2 hr=> ?_
 obtain ⟨hv,rfl⟩:=hr;obtain rfl:v= .bool false:=by simpa using hv
 refine ba ?_;apply ad.loop;refine ba ?_;exact ad.qs rfl hf rfl bz aj aj ⟨rfl,h,ho,o1,o2⟩
end
section
variable {w:World}{m k b:Nat}{es:Array MapEntry}{s:ByteArray}{v:Value}{p:Addr}
theorem aor (h:w.heap[m]? =some (.map es k))(ht:txt es)(hn:fnd es s=none)(hr:w.heap[b]? =some (.cells #[.string s,.pointer (some p)] 311 (0,0))):
  Calls GP 153 #[.map (some m),sO b 1 1] w fun e w2=>e= .returned (.tuple #[])∧w2.heap[m]? =some (.map (es.push ⟨.string s,.pointer (some p),k⟩) (k+1))∧ah [m] w w2:=by
 refine dn 153 24 Tryz.func153 fun a hf hsz hv=> ?_
 obtain ⟨v0,v1,-⟩:=ir hv;clear hv;have c0:w.cell? ⟨b,0,none⟩=some (.string s):=af hr ae;have c1:w.cell? ⟨b,1,none⟩=some (.pointer (some p)):=af hr ae;have hb:=bf hr;refine ba ?_;apply ad.loop;refine ba ?_
 (apply ad.put rfl;(case ho=>rfl);(case hw=>exact bj);(case hr=>refine zpr ?_;rw [Sem.run_bind,(ak0 (bw h) ht hn)];rfl);refine ay ?_)
 refine ba ?_;apply ad.inLoop;refine ba ?_;exact ad.fin rfl hf bz (results_none rfl _ _ _) ⟨rfl,pe (by have:=bf h;simp;omega),(ah.refl [m] w).alloc.obj (.inl ae)⟩
theorem ao0 (h:w.heap[m]? =some (.map es k))(ht:txt es){i:Nat}(hn:fnd es s=some (i,v))(hr:w.heap[b]? =some (.cells #[.string s,.pointer none] 311 (0,0))):
  Calls GP 153 #[.map (some m),sO b 1 1] w fun e w2=>e= .returned (.tuple #[])∧w2.heap[m]? =some (.map (es.eraseIdxIfInBounds i) k)∧ah [m] w w2:=by
 refine dn 153 24 Tryz.func153 fun a hf hsz hv=> ?_
 obtain ⟨v0,v1,-⟩:=ir hv;clear hv;have c0:w.cell? ⟨b,0,none⟩=some (.string s):=af hr ae;have c1:w.cell? ⟨b,1,none⟩=some (.pointer none):=af hr ae;have hb:=bf hr;refine ba ?_;apply ad.loop;refine ba ?_
 (refine ad.del rfl rfl rfl bj aj aj (ako (bw h) ht hn) ?_;refine ay ?_)
 refine ba ?_;apply ad.inLoop;refine ba ?_;exact ad.fin rfl hf bz (results_none rfl _ _ _) ⟨rfl,pe (by have:=bf h;simp;omega),(ah.refl [m] w).alloc.obj (.inl ae)⟩
end
end Go.Proofs.YthgpdljlehklhaaGreat.wk
namespace Go.Proofs.YthgpdljlehklhaaGreat.wk
open Go Go.Conc zr dr wd
set_option linter.unusedVariables false
set_option maxHeartbeats 4000000
def sL:Code→Code| .seq a _=>a|c=>c
def sR:Code→Code| .seq _ b=>b|c=>c
def inB:Code→Code| .block _ c=>c|c=>c
def inL:Code→Code| .loop c=>c|c=>c
noncomputable def chB:Code:=inL (inB (sR (sL (sR (Tryz.f234.body.getD .skip)))))
def bF (f:FuncId):Frame:={(default:Frame) with fn:=f,kind:= .normal}
def Drv (w:World)(d:Nat)(room used:Int)(now kept:Nat)(pend:Value):Prop:=w.heap[d]? =some (.cells #[.int .i64 room,.int .i64 used,.map (some now),.map (some kept),pend] 139 (0,0))
section
variable {w:World}{d now kept b k j n x:Nat}{room used:Int}{pend:Value}{es:Array MapEntry}{s:ByteArray}{v dat:Value}{safe:Int}{a:Act}{R:Ending→World→Prop}{K:List Item}
theorem Drv.c0 (h:Drv w d room used now kept pend):w.cell? ⟨d,0,none⟩=some (.int .i64 room):=af h ae
theorem Drv.c1 (h:Drv w d room used now kept pend):w.cell? ⟨d,1,none⟩=some (.int .i64 used):=af h ae
theorem Drv.c2 (h:Drv w d room used now kept pend):w.cell? ⟨d,2,none⟩=some (.map (some now)):=af h ae
theorem Drv.c3 (h:Drv w d room used now kept pend):w.cell? ⟨d,3,none⟩=some (.map (some kept)):=af h ae
theorem Drv.c4 (h:Drv w d room used now kept pend):w.cell? ⟨d,4,none⟩=some pend:=af h ae
theorem Drv.fz (h:Drv w d room used now kept pend)(i:Nat):w.frozen? ⟨d,i,none⟩=false:=ed h
theorem ajs {L cp:Nat}{da:Option Addr}(hd:Drv w d room used now kept pend)(hm:w.heap[now]? =some (.map es k))(ht:txt es)(hn:fnd es s=none)(c0:w.cell? ⟨b,j*2,none⟩=some (.string s))(c1:w.cell? ⟨b,j*2+1,none⟩=some (pO x))(hb:b<w.heap.size)(hdn:now≠d)
  (hx:w.cell? ⟨x,0,none⟩=some (.slice da L cp))(hxx:x<w.heap.size)
  (hsz:a.tmps.size=81∧a.defers=[])(v0:a.eval (.tmp 0)=pO d)(v20:a.eval (.tmp 20)=sO b n n)(v21:a.eval (.tmp 21)= .int .i64 n)(v22:a.eval (.tmp 22)= .int .i64 j)(hj:j<n)(hnn:n<1000)
  (hk:∀a1 w1,a1.tmps.size=81∧a1.defers=[]→a1.eval (.tmp 22)= .int .i64 (j+1:Nat)→Kp [0,1,20,21] a a1→ah [d,now] w w1→Drv w1 d room (IntKind.i64.wrap (used+L)) now kept pend→w1.heap[now]? =some (.map (es.push ⟨.string s,pO x,k⟩) (k+1))→ad GP R (bF 234) a1 K w1):
  ad GP R (bF 234) a (.code chB::K) w:=by
 have d2:=hd.c2;have d1:=hd.c1;have fz:=hd.fz;have hdl:=bf hd;have e1:(j:Int)<n:=by omega
 apply ad.seq;refine ba ?_;refine zwqo ?_;intro dd
 (apply LQ.valw;(case ho=>rfl);(case hw=>exact bj);(case hr=>refine zpr ?_;first|(rw [Sem.run_bind,(ou (w:=World.at (World.alloc w _) dd) (bw hm) ht)];rfl)|exact (ou (w:=World.at (World.alloc w _) dd) (bw hm) ht));refine ay ?_)
 rw [hn,ada];refine zqs ?_;apply LQ.fin;refine ba ?_
 ((apply ad.drawT 11 eo;(case ht=>decide+kernel);intro dd;refine zqs ?_);apply LQ.fin;refine zss ?_;apply LS.fin)
 refine ad.cut (fun a1 w1=>(a1.tmps.size=81∧a1.defers=[])∧a1.eval (.tmp 5)=pO w.heap.size∧Kp [0,1,20,21,22] a a1∧ah [d] w w1∧w.heap.size<w1.heap.size∧Drv w1 d room (IntKind.i64.wrap (used+L)) now kept pend∧w1.heap[w.heap.size]? =some (.cells #[.string s,pO x] 311 (0,0))) ⟨by simp [hsz],aj,by (intro kk hkk;simp only [List.mem_cons,List.not_mem_nil,or_false] at hkk;(repeat' (rcases hkk with hkk|hkk)) <;> (simp+decide only [eval_put,bn,size_put,if_true,if_false, *])),ei,by simp,bw (ee hd),fy ae⟩ fun a1 w1 ⟨hsz1,v5,hkp,hkt,hlt,hd1,iu⟩=> ?_
 have d2:=hd1.c2;have v0:=(hkp 0 ae).trans v0;have hdl1:=bf hd1;have c0:w1.cell? ⟨w.heap.size,0,none⟩=some (.string s):=af iu ae;have c1:w1.cell? ⟨w.heap.size,1,none⟩=some (pO x):=af iu ae;have hm1:=hkt.on hm (by simpa using hdn);apply ad.wu (fun dd u=>u.cell? ⟨d,2,none⟩=some (.map (some now))∧u.cell? ⟨w.heap.size,0,none⟩=some (.string s)∧u.cell? ⟨w.heap.size,1,none⟩=some (pO x)) eo;intro dd;clear hsz;have hsz:=hsz1;have hS0:(w1.at dd).cell? ⟨d,2,none⟩=some (.map (some now))∧(w1.at dd).cell? ⟨w.heap.size,0,none⟩=some (.string s)∧(w1.at dd).cell? ⟨w.heap.size,1,none⟩=some (pO x):=⟨d2,c0,c1⟩;refine zdv 0 ?_;refine zdv 1 ?_;refine zdv 2 ?_;refine zdv 3 ?_;refine zdv 4 ?_
 (apply LDr.solo 5 a9 rfl;(case hw=>exact bj);(case hv=>exact zxr);(try simp only [List.getElem_toArray,List.getElem_cons_zero,List.getElem_cons_succ]))
 case hS=>exact ⟨by go_simp,by go_simp,by go_simp⟩
 refine ay ?_;have hnw:=bf hm1;have hap:=aor (w:=World.at (World.alloc w1 (.cells #[.string s,pO x] 311)) dd) (m:=now) (b:=w1.heap.size) (p:=⟨x,0,none⟩) (bw hm1) ht hn bu
 (apply LDr.gw 6 (f:=153) a9 rfl;(case hw=>exact bj);(case hc=>exact hap);(case hv=>rw [cw (f:=153) rfl];refine zam ?_;exact ey 153 a9 _ _);(case hret=>exact fun e w2 h=>⟨_,h.1⟩))
 case hS=>
   intro v w2 ⟨_,_,h3⟩;have hbn:∀b,b<w1.heap.size+1→b≠now→∀i,w2.cell? ⟨b,i,none⟩=(w1.alloc (.cells #[.string s,pO x] 311)).cell? ⟨b,i,none⟩:=fun b hb hn i=>h3.cell (by simpa using hb) (by simpa using hn)
   have q1:=bf hm;have q2:=bf hd;exact ⟨by rw [hbn d ai ai];go_simp,by rw [hbn _ ai ai];go_simp,by rw [hbn _ ai ai];go_simp⟩
 intro v w2 ⟨_,h2,h3⟩;apply LDr.fin a9;refine ay ?_;have v22':=(hkp 22 ae).trans v22;refine ba ?_;have hkt2:ah [d,now] w w2:=ah.trans ((hkt.more ae).alloc.at) h3 ae;refine hk _ w2 ?_ ?_ ?_ hkt2 ?_ h2
 ·simp [hsz]
 ·refine zes ?_;rw [jv j ai]
 ·exact Kp.trans (fun x hx=>hkp x (by simp at hx ⊢;omega)) (by (intro kk hkk;simp only [List.mem_cons,List.not_mem_nil,or_false] at hkk;(repeat' (rcases hkk with hkk|hkk)) <;> (simp+decide only [eval_put,bn,size_put,if_true,if_false, *])))
 ·exact h3.on (bw hd1) (by simpa using hdn.symm)
theorem akd {L cp:Nat}{da:Option Addr}(hd:Drv w d room used now kept pend)(hm:w.heap[now]? =some (.map es k))(ht:txt es){i:Nat}(hn:fnd es s=some (i,pO x))(c0:w.cell? ⟨b,j*2,none⟩=some (.string s))(c1:w.cell? ⟨b,j*2+1,none⟩=some (.pointer none))(hb:b<w.heap.size)(hdn:now≠d)
  (hx:w.cell? ⟨x,0,none⟩=some (.slice da L cp))(hxx:x<w.heap.size)
  (hsz:a.tmps.size=81∧a.defers=[])(v0:a.eval (.tmp 0)=pO d)(v20:a.eval (.tmp 20)=sO b n n)(v21:a.eval (.tmp 21)= .int .i64 n)(v22:a.eval (.tmp 22)= .int .i64 j)(hj:j<n)(hnn:n<1000)
  (hk:∀a1 w1,a1.tmps.size=81∧a1.defers=[]→a1.eval (.tmp 22)= .int .i64 (j+1:Nat)→Kp [0,1,20,21] a a1→ah [d,now] w w1→Drv w1 d room (IntKind.i64.wrap (used-L)) now kept pend→w1.heap[now]? =some (.map (es.eraseIdxIfInBounds i) k)→ad GP R (bF 234) a1 K w1):
  ad GP R (bF 234) a (.code chB::K) w:=by
 have d2:=hd.c2;have d1:=hd.c1;have fz:=hd.fz;have hdl:=bf hd;have e1:(j:Int)<n:=by omega
 apply ad.seq;refine ba ?_;refine zwqo ?_;intro dd
 (apply LQ.valw;(case ho=>rfl);(case hw=>exact bj);(case hr=>refine zpr ?_;first|(rw [Sem.run_bind,(ou (w:=World.at (World.alloc w _) dd) (bw hm) ht)];rfl)|exact (ou (w:=World.at (World.alloc w _) dd) (bw hm) ht));refine ay ?_)
 rw [hn,aiu];refine zqs ?_;apply LQ.fin;refine ba ?_
 ((apply ad.drawT 10 eo;(case ht=>decide+kernel);intro dd;refine zqs ?_);apply LQ.fin;refine zss ?_;apply LS.fin)
 refine ba ?_;refine ad.cut (fun a1 w1=>(a1.tmps.size=81∧a1.defers=[])∧a1.eval (.tmp 5)=pO w.heap.size∧Kp [0,1,20,21,22] a a1∧ah [d] w w1∧w.heap.size<w1.heap.size∧Drv w1 d room (IntKind.i64.wrap (used-L)) now kept pend∧w1.heap[w.heap.size]? =some (.cells #[.string s,.pointer none] 311 (0,0))) ⟨by simp [hsz],aj,by (intro kk hkk;simp only [List.mem_cons,List.not_mem_nil,or_false] at hkk;(repeat' (rcases hkk with hkk|hkk)) <;> (simp+decide only [eval_put,bn,size_put,if_true,if_false, *])),ei,by simp,bw (ee hd),fy ae⟩ fun a1 w1 ⟨hsz1,v5,hkp,hkt,hlt,hd1,iu⟩=> ?_
 have d2:=hd1.c2;have v0:=(hkp 0 ae).trans v0;have hdl1:=bf hd1;have c0:w1.cell? ⟨w.heap.size,0,none⟩=some (.string s):=af iu ae;have c1:w1.cell? ⟨w.heap.size,1,none⟩=some (.pointer none):=af iu ae;have hm1:=hkt.on hm (by simpa using hdn);apply ad.wu (fun dd u=>u.cell? ⟨d,2,none⟩=some (.map (some now))∧u.cell? ⟨w.heap.size,0,none⟩=some (.string s)∧u.cell? ⟨w.heap.size,1,none⟩=some (.pointer none)) eo;intro dd;clear hsz;have hsz:=hsz1;have hS0:(w1.at dd).cell? ⟨d,2,none⟩=some (.map (some now))∧(w1.at dd).cell? ⟨w.heap.size,0,none⟩=some (.string s)∧(w1.at dd).cell? ⟨w.heap.size,1,none⟩=some (.pointer none):=⟨d2,c0,c1⟩;refine zdv 0 ?_;refine zdv 1 ?_;refine zdv 2 ?_;refine zdv 3 ?_;refine zdv 4 ?_
 (apply LDr.solo 5 a9 rfl;(case hw=>exact bj);(case hv=>exact zxr);(try simp only [List.getElem_toArray,List.getElem_cons_zero,List.getElem_cons_succ]))
 case hS=>exact ⟨by go_simp,by go_simp,by go_simp⟩
 refine ay ?_;have hnw:=bf hm1;have hap:=ao0 (w:=World.at (World.alloc w1 (.cells #[.string s,.pointer none] 311)) dd) (m:=now) (b:=w1.heap.size) (bw hm1) ht hn bu
 (apply LDr.gw 6 (f:=153) a9 rfl;(case hw=>exact bj);(case hc=>exact hap);(case hv=>rw [cw (f:=153) rfl];refine zam ?_;exact ey 153 a9 _ _);(case hret=>exact fun e w2 h=>⟨_,h.1⟩))
 case hS=>
   intro v w2 ⟨_,_,h3⟩;have hbn:∀b,b<w1.heap.size+1→b≠now→∀i,w2.cell? ⟨b,i,none⟩=(w1.alloc (.cells #[.string s,.pointer none] 311)).cell? ⟨b,i,none⟩:=fun b hb hn i=>h3.cell (by simpa using hb) (by simpa using hn)
   have q1:=bf hm;have q2:=bf hd;exact ⟨by rw [hbn d ai ai];go_simp,by rw [hbn _ ai ai];go_simp,by rw [hbn _ ai ai];go_simp⟩
 intro v w2 ⟨_,h2,h3⟩;apply LDr.fin a9;refine ay ?_;have v22':=(hkp 22 ae).trans v22;refine ba ?_;have hkt2:ah [d,now] w w2:=ah.trans ((hkt.more ae).alloc.at) h3 ae;refine hk _ w2 ?_ ?_ ?_ hkt2 ?_ h2
 ·simp [hsz]
 ·refine zes ?_;rw [jv j ai]
 ·exact Kp.trans (fun x hx=>hkp x (by simp at hx ⊢;omega)) (by (intro kk hkk;simp only [List.mem_cons,List.not_mem_nil,or_false] at hkk;(repeat' (rcases hkk with hkk|hkk)) <;> (simp+decide only [eval_put,bn,size_put,if_true,if_false, *])))
 ·exact h3.on (bw hd1) (by simpa using hdn.symm)
end
end Go.Proofs.YthgpdljlehklhaaGreat.wk
