/- Part QAK of the proof that DropRefused answers true whatever its input. No condition. -/
import Derived.WalkKit
import Derived.WalkLawsBesides
import Derived.WalkSpells
import Derived.StillTailTactics
import Derived.Deep.QuietTactic
import Derived.BigQuiet
import Derived.Deep.DeepFit
import Derived.Lib.Hide
import Derived.Laws.Rows
import Derived.Deep.AppendLies
import Derived.Test.YthgpdljlehklhaaGreatChecked
import Derived.Test.YthgpdljlehklhaaGreatQAH
set_option maxRecDepth 100000
namespace Go.Proofs.YthgpdljlehklhaaGreat.kit
open Go.RowKit
def Bk (w:World)(g:Nat)(t:TypeId)(cs:Array Value):Prop:=w.heap[g]? =some (.cells cs t (0,0))
theorem aci (a:Addr)(n:Nat):(a.add n).block=a.block:=by
 unfold Addr.add;split <;> rfl
end Go.Proofs.YthgpdljlehklhaaGreat.kit
namespace Go.Proofs.YthgpdljlehklhaaGreat.dr
open Go Go.Conc zr
set_option linter.unusedVariables false
noncomputable def gpf:Array Func:=Tryz.prog.funcs.map (mj Tryz.prog)
noncomputable def GP:Program:=aq Tryz.prog gpf
@[simp] theorem ek (n:TypeId):GP.info? n=Tryz.prog.info? n:=aj9 (P:=Tryz.prog) (fs:=gpf) n
@[simp] theorem fb (n:TypeId):GP.underlying n=Tryz.prog.underlying n:=agy (P:=Tryz.prog) (fs:=gpf) n
@[simp] theorem gp_depth:GP.depth=Tryz.prog.depth:=wf_depth (P:=Tryz.prog) (fs:=gpf)
@[simp] theorem gp_guard (d:Nat)(n:TypeId):GP.eqGuardType d n=Tryz.prog.eqGuardType d n:=yn (P:=Tryz.prog) (fs:=gpf) d n
@[simp] theorem ak7 (d:Departure):GP.follows d=Tryz.prog.follows d:=aku (P:=Tryz.prog) (fs:=gpf) d
@[simp] theorem gp_cells (n:TypeId):GP.cellsOf n=Tryz.prog.cellsOf n:=wf_cells (P:=Tryz.prog) (fs:=gpf) n
@[simp] theorem gp_rt:GP.rt=Tryz.prog.rt:=wf_rt (P:=Tryz.prog) (fs:=gpf)
section
variable (n:TypeId)(w:World)
@[simp] theorem gp_typeInfo:(typeInfo n).run GP w=(typeInfo n).run Tryz.prog w:=yv (P:=Tryz.prog) (fs:=gpf) n w
@[simp] theorem mq:(sizeOf n).run GP w=(sizeOf n).run Tryz.prog w:=aoi (P:=Tryz.prog) (fs:=gpf) n w
@[simp] theorem gp_runUnder:(underlying n).run GP w=(underlying n).run Tryz.prog w:=adg (P:=Tryz.prog) (fs:=gpf) n w
@[simp] theorem n9:(isAgg n).run GP w=(isAgg n).run Tryz.prog w:=wf_isAgg (P:=Tryz.prog) (fs:=gpf) n w
@[simp] theorem qf:(zeroValue n).run GP w=(zeroValue n).run Tryz.prog w:=wf_zero (P:=Tryz.prog) (fs:=gpf) n w
end
theorem jd {f:FuncId}{fn:Func}{c:Code}(hf:Tryz.prog.funcs[f]? =some fn)(hb:fn.body=some c)(ho:dy Tryz.prog c=true):GP.funcs[f]? =some fn:=(aeq hf hb ho).1
theorem uw {f:FuncId}{fn:Func}{c:Code}(hf:Tryz.prog.funcs[f]? =some fn)(hb:fn.body=some c)(ho:dy Tryz.prog c=true):Plain GP Tryz.prog.funcs f:=(aeq hf hb ho).2
theorem nq {f:FuncId}{fn:Func}{c:Code}(hf:GP.funcs[f]? =some fn)(hb:fn.body=some c)(hn:(fn.name== "runtime.NumGoroutine")=false)(args:Array Value)(w:World):(callFunc f args).run GP w= .ok (.enter f args) w:=by
 have hn':¬fn.name= "runtime.NumGoroutine":=by simpa using hn
 simp [callFunc,hf,hb,hn']
theorem my (f:Nat)(fn:Func)(h:Tryz.prog.funcs[f]? =some fn):(fn.name== "runtime.NumGoroutine")=false:=by
 have h0:(Tryz.prog.funcs.all fun fn=> !(fn.name== "runtime.NumGoroutine"))=true:=by decide+kernel
 rw [Array.all_eq_true_iff_forall_mem] at h0;have:=h0 fn (Array.mem_of_getElem? h)
 simpa using this
theorem ah7 (f:Nat)(fn:Func)(h:Tryz.prog.funcs[f]? =some fn)(hb:fn.body=none)(hn:fn.name= "maps.clone"):Extern.findNext fn=none∧Extern.find fn=some Extern.MapsClone.clone:=by
 have h0:((List.range Tryz.prog.funcs.size).all fun f=>match Tryz.prog.funcs[f]? with|some fn=>fn.body.isSome || !(fn.name== "maps.clone") || f==236|none=>true)=true:=by decide+kernel
 rw [List.all_eq_true] at h0;have h1:=h0 f (List.mem_range.2 (Array.getElem?_eq_some_iff.1 h).1);rw [h] at h1;simp only [hb,hn,Option.isSome_none,beq_self_eq_true,Bool.not_true,Bool.or_self,Bool.false_or,beq_iff_eq] at h1;subst h1;rw [Tryz.func236] at h;obtain rfl:=Option.some.inj h;exact ⟨by kernel_rfl,by kernel_rfl⟩
theorem mh:Ctx GP Tryz.prog.funcs:=aow Tryz.globals_size (amp (by decide+kernel)) my ah7
theorem vh:∀f,Plain GP Tryz.prog.funcs f∨jj GP f:=ajh
end Go.Proofs.YthgpdljlehklhaaGreat.dr
namespace Go.Proofs.YthgpdljlehklhaaGreat.eb
open Go Go.Conc zr dr
set_option linter.unusedVariables false
def sL:Code→Code| .seq a _=>a|c=>c
def sR:Code→Code| .seq _ b=>b|c=>c
def inB:Code→Code| .block _ c=>c|c=>c
def inL:Code→Code| .loop c=>c|c=>c
noncomputable def ec:Code:=Tryz.f38.body.getD .skip
noncomputable def e14:Code:=sR (sR (sR (sR (sR (sR ec)))))
noncomputable def e15:Code:=sR e14
noncomputable def si:Code:=inL (inB (sR (sL e15)))
theorem fev {P:Prop}(h:P:=by first|(simp+decide only [eval_put,bn,eval_const,size_put,if_true,if_false, *];done)|fail):P:=h
theorem fer {P:Prop}(h:P:=by simp+decide only [eval_put,bn,eval_const,size_put,if_true,if_false, *];first|done|rfl):P:=h
theorem fnr {P' P:Prop}(h2:P')(h:Wrp P'→P:=by intro hG;(try simp only [List.getElem_toArray,List.getElem_cons_zero,List.getElem_cons_succ,sL,sR,inB,inL]);exact hG.out):P:=h ⟨h2⟩
theorem fes {P' P:Prop}(h2:P')(h:Wrp P'→P:=by intro hG;(simp+decide only [eval_put,bn,eval_const,size_put,if_true,if_false, *]);exact hG.out):P:=h ⟨h2⟩
theorem fxr {P:Prop}(h:P:=by (try simp only [List.getElem_toArray,List.getElem_cons_zero,List.getElem_cons_succ,sL,sR,inB,inL]);dsimp only [execOp,resolve];(try simp+decide only [eval_put,bn,eval_const,size_put,if_true,if_false,List.map_toArray,List.map_cons,List.map_nil, *]);go_simp;first|done|exact ⟨rfl,rfl⟩|rfl):P:=h
theorem fxs {P:Prop}(h:P:=by (try simp only [List.getElem_toArray,List.getElem_cons_zero,List.getElem_cons_succ,sL,sR,inB,inL]);dsimp only [execOp,resolve];(try simp+decide only [eval_put,bn,eval_const,size_put,if_true,if_false,List.map_toArray,List.map_cons,List.map_nil, *]);go_simp;first|done|rfl):P:=h
theorem fpv {P' P:Prop}(h2:P')(h:Wrp P'→P:=by intro hG;((apply bc.val (by assumption);(case' ho=>rfl);(case' hm=>kernel_rfl);(case' hw=>rfl);(case' hr=>intro τ d;exact fxr);refine fnr ?_));exact hG.out):P:=h ⟨h2⟩
def kpL:List Nat:=[0,1,2,3,7,10,11,14,42]
theorem fkp {P:Prop}(h:P:=by (intro kk hkk;simp only [kpL,List.mem_cons,List.not_mem_nil,or_false] at hkk;(repeat' (rcases hkk with hkk|hkk)) <;> (simp+decide only [eval_put,bn,size_put,if_true,if_false, *]))):P:=h
section
variable {X:Ph}{Q:Sg→Act→List Item→World→Prop}{σ:Sg}{k:List Item}{a:Act}{w:World}{n i ob bx:Nat}{cells sc:Array Value}{zb:Nat×Nat}
theorem u112:GP.underlying 112=some (Tryz.prog.underlying 112).get! :=by kernel_rfl
theorem agb {b o:Nat}{cs:Array Value}(h:w.rangeAt b o cs.toList)(hs:cs.size=19)(τ:Tap)(d:Nat):(Instr.loadAt 112 (.pointer (some ⟨b,o,none⟩))).run GP (tp w τ d)= .ok (.agg cs) (tp w τ d):=
 run_loadAt_mid (P:=GP) (tp w τ d) b o 112 cs.toList _ h u112 du (by rw [Array.length_toList,hs];kernel_rfl)
theorem aev {b o:Nat}{cs:Array Value}(h:w.there b o cs.size)(hs:cs.size=19)(h1:cs.all (·.oneCell')=true)(τ:Tap)(d:Nat):(Instr.storeAt 112 (.pointer (some ⟨b,o,none⟩)) (.agg cs)).run GP (tp w τ d)= .ok () (tp (w.setCells b o cs.toList) τ d):=by
 rw [←yr];exact run_storeAt_mid (P:=GP) (tp w τ d) b o 112 cs h (by rw [hs];kernel_rfl) h1
theorem ab0 (K:js GP Tryz.prog.funcs X)
  (hsz:(a.tmps.size=66∧a.defers=[]))(h43:a.eval (.tmp 43)= .int .i64 i)(h42:a.eval (.tmp 42)= .int .i64 n)(h14:a.eval (.tmp 14)=sO ob n n)(h7:a.eval (.tmp 7)=pO bx)(hbx:w.heap[bx]? =some (.cells sc 112 zb))(hsc:sc.size=19)(hso:sc.all (·.oneCell')=true)(hi:i<n)(hn:n<1000000)(hc:w.heap[ob]? =some (.cells cells 112 (0,0)))(hcs:cells.size=n*19)
  (hk:∀(a1:Act)(cells':Array Value),(a1.tmps.size=66∧a1.defers=[])→a1.eval (.tmp 43)= .int .i64 (i+1:Nat)→Kp kpL a a1→(w.setCells ob (i*19) sc.toList).heap[ob]? =some (.cells cells' 112 (0,0))→cells'.size=n*19→Row 19 cells' i sc→(∀q cs,i≠q→Row 19 cells q cs→Row 19 cells' q cs)→bc GP Tryz.prog.funcs X Q σ a1 k (w.setCells ob (i*19) sc.toList)):bc GP Tryz.prog.funcs X Q σ a (.code si::k) w:=by
 have hld:=agb (w:=w) (b:=bx) (o:=0) (cs:=sc) (jy hbx fun j hj=>by simp) hsc;have hst:=aev (w:=w) (b:=ob) (o:=i*19) (cs:=sc) (qn hc ai) hsc hso;obtain ⟨cells',q1,q2,q3,q4⟩:=uz sc.toList (i*19) w cells hc;have hk':=hk;clear hk;refine bc.seq K (bc.region K ?_);refine fpv ?_;refine bc.ak K (bc.seq K (bc.cond K (t:=true) du ?_ ?_))
 ·exact fev
 refine bc.skip K ?_;refine bc.seq K (bc.block K (bc.seq K (bc.region K ?_)));refine fpv ?_;refine fpv ?_;refine bc.ak K (bc.region K ?_);refine fpv ?_;refine fpv ?_
 (apply bc.val (by assumption);(case ho=>rfl);(case hm=>kernel_rfl);(case hw=>rfl);(case hr=>intro τ d;refine fnr ?_;dsimp only [execOp];(try simp+decide only [eval_put,bn,eval_const,size_put,if_true,if_false, *]);rw [Sem.run_bind,hld τ d];rfl);refine fnr ?_)
 refine fpv ?_
 (apply bc.put (by assumption);(case ho=>rfl);(case hm=>kernel_rfl);(case hw=>rfl);(case hr=>intro τ d;refine fnr ?_;dsimp only [execOp];(try simp+decide only [eval_put,bn,eval_const,size_put,if_true,if_false, *]);rw [Sem.run_bind,hst τ d];rfl);refine fnr ?_)
 refine bc.ak K (bc.inBlock K (bc.region K ?_));refine fpv ?_;refine fpv ?_;refine bc.ak K (hk' _ cells' bz ?_ (fkp) q1 (q2.trans hcs) (ag8 hsc q3 ai) fun q cs hq hr=>af6 hsc hr hq q4);refine fes ?_;rw [jv i ai]
theorem abp (K:js GP Tryz.prog.funcs X){a0:Act}{w0:World}(hn:n<1000000)(h7:a0.eval (.tmp 7)=pO bx)(hbx:w0.heap[bx]? =some (.cells sc 112 zb))(hne:bx≠ob)(hsc:sc.size=19)(hso:sc.all (·.oneCell')=true)(h42:a0.eval (.tmp 42)= .int .i64 n)(h14:a0.eval (.tmp 14)=sO ob n n)
  (hk:∀(a1:Act)(w1:World)(cells:Array Value),(a1.tmps.size=66∧a1.defers=[])→Kp kpL a0 a1→Oth ob w0 w1→w1.heap[ob]? =some (.cells cells 112 (0,0))→cells.size=n*19→(∀j,j<n→Row 19 cells j sc)→bc GP Tryz.prog.funcs X Q σ a1 k w1):
  ∀m i a w cells,i+m=n→(a.tmps.size=66∧a.defers=[])→Kp kpL a0 a→Oth ob w0 w→a.eval (.tmp 43)= .int .i64 (i:Nat)→w.heap[ob]? =some (.cells cells 112 (0,0))→cells.size=n*19→(∀j,j<i→Row 19 cells j sc)→
   bc GP Tryz.prog.funcs X Q σ a (.code si:: .inLoop si:: .inBlock 2::k) w:=by
 intro m
 induction m with
 |zero=>
  intro i a w cells him hsz hkp ho h43 hc hcs hall;obtain rfl:i=n:=by omega
  have e42:=(hkp 42 (by simp [kpL])).trans h42;refine bc.seq K (bc.region K ?_);refine fpv ?_;refine bc.ak K (bc.seq K (bc.cond K (t:=false) du ?_ ?_))
  ·exact fev
  refine bc.exit K rfl (hk _ w cells bz (hkp.trans (fkp)) ho hc hcs hall)
 |succ m ih=>
  intro i a w cells him hsz hkp ho h43 hc hcs hall;have e42:=(hkp 42 (by simp [kpL])).trans h42;have e14:=(hkp 14 (by simp [kpL])).trans h14;have e7:=(hkp 7 (by simp [kpL])).trans h7;refine ab0 K hsz h43 e42 e14 e7 ((ho.2 bx hne).trans hbx) hsc hso ai hn hc hcs fun a1 cells' g1 g2 g3 g4 g5 g6 g7=>bc.inLoop K (ih (i+1) a1 _ cells' ai g1 (hkp.trans g3) (ho.trans (Oth.aal _ _ _)) g2 g4 g5 fun j hj=> ?_)
  by_cases e:i=j
  ·subst e;exact g6
  ·exact g7 j sc e (hall j ai)
end
noncomputable def e7:Code:=sR (sR (sR (sR (sR ec))))
noncomputable def q7:Code:=inL (inB (sR (sL e7)))
def inR:Code→Array Oper| .region _ o _=>o|_=>#[]
noncomputable def aat:Array Oper:=inR (Tryz.f67.body.getD .skip)
theorem vp:aaz Tryz.f67 0 aat 173:=⟨rfl,rfl,rfl,rfl,⟨_,rfl,rfl,rfl,rfl⟩,⟨_,rfl,rfl,rfl,rfl⟩,⟨_,rfl,rfl,rfl,rfl⟩,⟨_,rfl,rfl,rfl,rfl⟩,⟨_,rfl,rfl,rfl,rfl⟩,⟨_,_,rfl,rfl,rfl,rfl⟩,⟨_,rfl,rfl,rfl,rfl⟩,⟨_,rfl,rfl,rfl,rfl⟩⟩
def kpS:List Nat:=[0,1,2,3,7,10,22,23]
theorem fks {P:Prop}(h:P:=by (intro kk hkk;simp only [kpS,List.mem_cons,List.not_mem_nil,or_false] at hkk;(repeat' (rcases hkk with hkk|hkk)) <;> (simp+decide only [eval_put,bn,size_put,if_true,if_false, *]))):P:=h
structure aap (X:Ph)(c:Nat)(i j:Nat)(d:Value)(fj:FuncId)(first capt:Array Value):Prop where
 it:∃R told ok,X.J j=wJ Tryz.prog 67 aat (.int .i64 i) d fj first capt c R told ok
 nz:∃t x,d= .iface t x
 cl:∀π',aw X.N0 one π'→al π' d=d
section
variable {X:Ph}{Q:Sg→Act→List Item→World→Prop}{σ:Sg}{k:List Item}{a:Act}{w:World}{n i bd off cap:Nat}{D:Nat→Value}{cnt:Nat→Nat}{fj:FuncId}{first capt:Array Value}
theorem aai (K:js GP Tryz.prog.funcs X){fnj:Func}{cj:Code}(hfj:Tryz.prog.funcs[fj]? =some fnj)(hbj:fnj.body=some cj)
  (hsz:(a.tmps.size=66∧a.defers=[]))(h24:a.eval (.tmp 24)= .int .i64 i)(h23:a.eval (.tmp 23)= .int .i64 n)(h22:a.eval (.tmp 22)= .slice (some ⟨bd,off,none⟩) n cap)(h2:a.eval (.tmp 2)= .func (.func fj) first capt)(h10:a.eval (.tmp 10)= .chan (some X.c))(h11:a.eval (.tmp 11)= .int .i64 (cnt i))(hi:i<n)(hn:n<1000000)(hci:cnt i≤i)
  (hsp:σ.sp=cnt i)(hgv:∀j,σ.gv j=none)(hX:cnt (i+1)≤X.n)(hc0:X.c<X.N0)(hjf:∀π',aw X.N0 one π'→al π' (.func (.func fj) first capt)= .func (.func fj) first capt)
  (hD:w.cell? ⟨bd,off+i,none⟩=some (D i))(hJ:(D i= .nilIface∧cnt (i+1)=cnt i)∨(aap X X.c i (cnt i+1) (D i) fj first capt∧cnt (i+1)=cnt i+1))
  (hk:∀(a1:Act)(σ1:Sg),(a1.tmps.size=66∧a1.defers=[])→a1.eval (.tmp 24)= .int .i64 (i+1:Nat)→a1.eval (.tmp 11)= .int .i64 (cnt (i+1):Nat)→Kp kpS a a1→σ1.sp=cnt (i+1)→(∀j,σ1.gv j=none)→bc GP Tryz.prog.funcs X Q σ1 a1 k w):bc GP Tryz.prog.funcs X Q σ a (.code q7::k) w:=by
 refine bc.seq K (bc.region K ?_);refine fpv ?_;refine bc.ak K (bc.seq K (bc.cond K (t:=true) du ?_ ?_))
 ·exact fev
 refine bc.skip K ?_;refine bc.seq K (bc.block K (bc.seq K (bc.region K ?_)));refine fpv ?_;refine fpv ?_;refine fpv ?_;refine fpv ?_;refine fpv ?_;refine bc.ak K (bc.seq K (bc.region K ?_));rcases hJ with ⟨hd,hcn⟩|⟨⟨⟨R,told,ok,hj⟩,⟨t,x,hd⟩,hcl⟩,hcn⟩
 ·refine fpv ?_;refine fpv ?_;refine bc.ak K (bc.cond K (t:=false) du ?_ ?_)
  ·exact fev
  refine bc.skip K (bc.inBlock K (bc.region K ?_));refine fpv ?_;refine fpv ?_;refine bc.ak K (hk _ σ bz ?_ ?_ (fks) ai hgv)
  ·refine fes ?_;rw [jv i ai]
  ·exact fev
 ·rw [hd] at hcl hj;refine fpv ?_;refine fpv ?_;refine bc.ak K (bc.cond K (t:=true) du ?_ ?_)
  ·exact fev
  refine bc.seq K (bc.region K ?_);refine fpv ?_;refine fpv ?_;refine fpv ?_;refine bc.ak K (bc.region K ?_);refine fpv ?_;refine fpv ?_;refine fpv ?_;refine fpv ?_;refine bc.go K (f:=67) (args:=#[.tmp 33,.tmp 34,.tmp 35,.tmp 36]) rfl (fun a u=>aka rfl u) rfl du ?_ ai (hgv _) ?_ ?_
  ·intro π' hag;simp+decide only [List.map_toArray,List.map_cons,List.map_nil,eval_put,bn,eval_const,size_put,if_true,if_false, *];simp only [az,jr];rw [hcl π' hag,hjf π' hag];simp only [al,Option.map_some];rw [hag X.c hc0];rfl
  ·rw [hsp,hj];simp+decide only [List.map_toArray,List.map_cons,List.map_nil,eval_put,bn,eval_const,size_put,if_true,if_false,hsz,h24,h2,h10,hd];exact aj6 Tryz.func67 vp (by decide+kernel) hfj hbj (my _ _ hfj)
  refine fnr ?_;refine bc.ak K (bc.inBlock K (bc.region K ?_));refine fpv ?_;refine fpv ?_;refine bc.ak K (hk _ _ bz ?_ ?_ (fks) (by show σ.sp+1=_;omega) hgv)
  ·refine fes ?_;rw [jv i ai]
  ·refine fes ?_;rw [jv (cnt i) ai]
theorem aao (K:js GP Tryz.prog.funcs X){fnj:Func}{cj:Code}(hfj:Tryz.prog.funcs[fj]? =some fnj)(hbj:fnj.body=some cj){a0:Act}
  (h23:a0.eval (.tmp 23)= .int .i64 n)(h22:a0.eval (.tmp 22)= .slice (some ⟨bd,off,none⟩) n cap)(h2:a0.eval (.tmp 2)= .func (.func fj) first capt)(h10:a0.eval (.tmp 10)= .chan (some X.c))(hn:n<1000000)
  (hc0:X.c<X.N0)(hjf:∀π',aw X.N0 one π'→al π' (.func (.func fj) first capt)= .func (.func fj) first capt)(hcnt:∀i,cnt i≤i)(hX:X.n=cnt n)(hmono:∀i,i<n→cnt (i+1)≤cnt n)
  (hD:∀i,i<n→w.cell? ⟨bd,off+i,none⟩=some (D i))(hJ:∀i,i<n→(D i= .nilIface∧cnt (i+1)=cnt i)∨(aap X X.c i (cnt i+1) (D i) fj first capt∧cnt (i+1)=cnt i+1))
  (hk:∀(a1:Act)(σ1:Sg),(a1.tmps.size=66∧a1.defers=[])→a1.eval (.tmp 11)= .int .i64 (cnt n:Nat)→Kp kpS a0 a1→σ1.sp=cnt n→(∀j,σ1.gv j=none)→bc GP Tryz.prog.funcs X Q σ1 a1 k w):
  ∀m i a (σ:Sg),i+m=n→(a.tmps.size=66∧a.defers=[])→Kp kpS a0 a→a.eval (.tmp 24)= .int .i64 (i:Nat)→a.eval (.tmp 11)= .int .i64 (cnt i:Nat)→σ.sp=cnt i→(∀j,σ.gv j=none)→
   bc GP Tryz.prog.funcs X Q σ a (.code q7:: .inLoop q7:: .inBlock 0::k) w:=by
 intro m
 induction m with
 |zero=>
  intro i a σ him hsz hkp h24 h11 hsp hgv;obtain rfl:i=n:=by omega
  have e23:=(hkp 23 (by simp [kpS])).trans h23;refine bc.seq K (bc.region K ?_);refine fpv ?_;refine bc.ak K (bc.seq K (bc.cond K (t:=false) du ?_ ?_))
  ·exact fev
  refine bc.exit K rfl (hk _ _ bz ?_ (hkp.trans (fks)) hsp hgv);exact fev
 |succ m ih=>
  intro i a σ him hsz hkp h24 h11 hsp hgv;refine aai K hfj hbj hsz h24 ((hkp 23 (by simp [kpS])).trans h23) ((hkp 22 (by simp [kpS])).trans h22) ((hkp 2 (by simp [kpS])).trans h2) ((hkp 10 (by simp [kpS])).trans h10) h11 ai hn (hcnt i) hsp hgv (by rw [hX];exact hmono i ai) hc0 hjf (hD i ai) (hJ i ai) fun a1 σ1 g1 g2 g3 g4 g5 g6=> ?_
  exact bc.inLoop K (ih (i+1) a1 σ1 ai g1 (hkp.trans g4) g2 g3 g5 g6)
end
end Go.Proofs.YthgpdljlehklhaaGreat.eb
namespace Go.Proofs.YthgpdljlehklhaaGreat.eb
open Go Go.Conc zr dr
open Go.ConcN (upd upd_ne upd_same)
set_option linter.unusedVariables false
noncomputable def e20:Code:=sR e15
noncomputable def sr:Code:=inL (inB (sR (sL e20)))
def kpR:List Nat:=[0,1,2,3,7,10,14,51]
theorem fkr {P:Prop}(h:P:=by (intro kk hkk;simp only [kpR,List.mem_cons,List.not_mem_nil,or_false] at hkk;(repeat' (rcases hkk with hkk|hkk)) <;> (simp+decide only [eval_put,bn,size_put,if_true,if_false, *]))):P:=h
section
variable {X:Ph}{Q:Sg→Act→List Item→World→Prop}{σ:Sg}{k:List Item}{a:Act}{w:World}{n ob:Nat}{cells:Array Value}{pl:Nat→Nat}
theorem akl {b:Nat}{cs:Array Value}{p:Nat}(h:w.there b 0 20)(hs:cs.size=19)(h1:cs.all (·.oneCell')=true)(τ:Tap)(d:Nat):(Instr.storeAt 173 (pO b) (.agg (#[Value.int .i64 p]++cs))).run GP (tp w τ d)= .ok () (tp (w.setCells b 0 (#[Value.int .i64 p]++cs).toList) τ d):=by
 have hz:(#[Value.int .i64 p]++cs).size=20:=by simp [hs]
 rw [←yr];refine run_storeAt_mid (P:=GP) (tp w τ d) b 0 173 (#[Value.int .i64 p]++cs) (by rw [hz];exact h) (by rw [hz];kernel_rfl) ?_;rw [Array.all_append,h1];simp [Value.oneCell']
noncomputable def aag:Value:=(Tryz.t173.zero).getD undef
theorem abx (K:js GP Tryz.prog.funcs X){r N:Nat}
  (hsz:(a.tmps.size=66∧a.defers=[]))(h52:a.eval (.tmp 52)= .int .i64 r)(h51:a.eval (.tmp 51)= .int .i64 N)(h14:a.eval (.tmp 14)=sO ob n n)(h10:a.eval (.tmp 10)= .chan (some X.c))(hr:r<N)(hN:N<1000000)(hn:n<1000000)(hc:w.heap[ob]? =some (.cells cells 112 (0,0)))(hcs:cells.size=n*19)
  (hpl:∀j,j≠0→j≤σ.sp→pl j<n∧∀cs,(X.J j).told (.agg cs)= .agg (#[.int .i64 (pl j:Nat)]++cs))(hok:∀j v,j≠0→j≤σ.sp→(X.J j).ok v→∃cs:Array Value,v= .agg cs∧cs.size=19∧cs.all (·.oneCell')=true)(hex:∃j,j≠0∧j≤σ.sp∧σ.gv j=none)
  (hk:∀(a1:Act)(w1:World)(j:Nat)(cs cells':Array Value),j≠0→j≤σ.sp→σ.gv j=none→cs.size=19→cs.all (·.oneCell')=true→(a1.tmps.size=66∧a1.defers=[])→a1.eval (.tmp 52)= .int .i64 (r+1:Nat)→Kp kpR a a1→Gro ob w w1→w1.heap[ob]? =some (.cells cells' 112 (0,0))→cells'.size=n*19→Row 19 cells' (pl j) cs→(∀q cs2,pl j≠q→Row 19 cells q cs2→Row 19 cells' q cs2)→bc GP Tryz.prog.funcs X Q {σ with gv:=upd σ.gv j (some (.agg cs))} a1 k w1):
  bc GP Tryz.prog.funcs X Q σ a (.code sr::k) w:=by
 have hk':=hk;clear hk;refine bc.seq K (bc.region K ?_);refine fpv ?_;refine bc.ak K (bc.seq K (bc.cond K (t:=true) du ?_ ?_))
 ·exact fev
 refine bc.skip K ?_;refine bc.seq K (bc.block K (bc.seq K (bc.region K ?_)));refine fpv ?_;refine bc.recv K (x:= .tmp 54) (z:=aag) rfl (fun a u hx=> ?_) rfl rfl (fev) hex fun j v kd hj0 hj hgj hv=> ?_
 ·show (execOp a.eval _).runT Tryz.prog u #[]=_;rw [Sem.runT_eq];refine fnr ?_;dsimp only [execOp];rw [hx];refine Prod.ext ?_ ?_
  ·go_simp
   rfl
  ·simp [go_sem]
 obtain ⟨cs,rfl,hsz1,hone⟩:=hok j v hj0 hj hv;obtain ⟨hpn,htl⟩:=hpl j hj0 hj;rw [htl];refine fnr ?_;have hG0:Gro ob w {w with heap:=w.heap++Array.replicate kd gu}:=Gro.gu;have hc0:({w with heap:=w.heap++Array.replicate kd gu}:World).heap[ob]? =some (.cells cells 112 (0,0)):=by
  show (w.heap++Array.replicate kd gu)[ob]? =_;rw [Array.getElem?_append_left (bf hc),hc]
 generalize ({w with heap:=w.heap++Array.replicate kd gu}:World)=W at hG0 hc0 ⊢;have hb1:w.heap.size≤W.heap.size:=hG0.1;have hob:ob<w.heap.size:=bf hc;have hG1:=hG0.trans (Gro.alloc (b:=ob) (w:=W) (o:= .cells aag.cells 173));have hc1:=bw (o2:= .cells aag.cells 173) hc0;have hr1:=bu (w:=W) (o:= .cells aag.cells 173);have hal:∀u:World,(Instr.alloc 173 true (.tuple #[])).run GP u= .ok (pO u.heap.size) (u.alloc (.cells aag.cells 173)):=fun u=>by
  unfold Instr.alloc
  go_simp
  rfl
 have hal2:∀τ d,(Instr.alloc 173 true (.tuple #[])).run GP (tp W τ d)= .ok (pO W.heap.size) (tp (W.alloc (.cells aag.cells 173)) τ d):=fun τ d=>hal _
 (apply bc.val (by assumption);(case ho=>rfl);(case hm=>kernel_rfl);(case hw=>rfl);(case hr=>intro τ d;refine fnr ?_;dsimp only [execOp];(try simp+decide only [eval_put,bn,eval_const,size_put,if_true,if_false, *]);rw [Sem.run_bind,hal2 τ d];rfl);refine fnr ?_)
 have hzc:aag.cells.size=20:=by kernel_rfl
 generalize W.alloc (.cells aag.cells 173)=V at hG1 hc1 hr1 ⊢;generalize aag.cells=zc at hr1 hzc;generalize W.heap.size=b1 at hb1 hr1 ⊢;clear hal hal2 hG0 hc0;have hst:=akl (w:=V) (b:=b1) (cs:=cs) (p:=pl j) (qn hr1 ai) hsz1 hone
 (apply bc.put (by assumption);(case ho=>rfl);(case hm=>kernel_rfl);(case hw=>rfl);(case hr=>intro τ d;refine fnr ?_;dsimp only [execOp];(try simp+decide only [eval_put,bn,eval_const,size_put,if_true,if_false, *]);rw [Sem.run_bind,hst τ d];rfl);refine fnr ?_)
 have ho:=Oth.aal (b:=b1) (#[Value.int .i64 (pl j:Nat)]++cs).toList 0 V;obtain ⟨uc,u1,u2,u3,-⟩:=uz (#[Value.int .i64 (pl j:Nat)]++cs).toList 0 V zc hr1;have hG2:=hG1.oth ho hb1;have hc2:=(ho.2 ob ai).trans hc1;generalize V.setCells b1 0 (#[Value.int .i64 (pl j:Nat)]++cs).toList=U at ho u1 hG2 hc2 ⊢;clear hst ho hr1 hc1 hG1;have hlen:(#[Value.int .i64 (pl j:Nat)]++cs).toList.length=20:=by simp [hsz1]
 have hp0:uc[0]? =some (.int .i64 (pl j:Nat)):=by
  have:=u3 0 ai ai
  simpa using this
 have q0:U.cell? ⟨b1,0,none⟩=some (.int .i64 (pl j:Nat)):=by
  simp only [World.cell?,u1]
  simpa using hp0
 have hld:=agb (w:=U) (b:=b1) (o:=1) (cs:=cs) (jy u1 fun t ht=>by
  have ht:t<19:=by simpa [hsz1] using ht
  have:=u3 (t+1) ai ai;rw [show 1+t=0+ (t+1) by omega,this];simp) hsz1
 have hst:=aev (w:=U) (b:=ob) (o:=pl j*19) (cs:=cs) (qn hc2 ai) hsz1 hone;obtain ⟨cells',q1,q2,q3,q4⟩:=uz cs.toList (pl j*19) U cells hc2;clear u3 u1 u2 hp0;refine bc.ak K (bc.region K ?_);refine fpv ?_;refine fpv ?_;refine fpv ?_;refine fpv ?_
 (apply bc.val (by assumption);(case ho=>rfl);(case hm=>kernel_rfl);(case hw=>rfl);(case hr=>intro τ d;refine fnr ?_;dsimp only [execOp];(try simp+decide only [eval_put,bn,eval_const,size_put,if_true,if_false, *]);rw [Sem.run_bind,hld τ d];rfl);refine fnr ?_)
 refine fpv ?_
 (apply bc.put (by assumption);(case ho=>rfl);(case hm=>kernel_rfl);(case hw=>rfl);(case hr=>intro τ d;refine fnr ?_;dsimp only [execOp];(try simp+decide only [eval_put,bn,eval_const,size_put,if_true,if_false, *]);rw [Sem.run_bind,hst τ d];rfl);refine fnr ?_)
 refine bc.ak K (bc.inBlock K (bc.region K ?_));refine fpv ?_;refine fpv ?_;refine bc.ak K (hk' _ _ j cs cells' hj0 hj hgj hsz1 hone bz ?_ (fkr) (hG2.trans (Oth.aal _ _ _).gro) q1 (q2.trans hcs) (ag8 hsz1 q3 ai) fun q cs2 hq hr=>af6 hsz1 hr hq q4);refine fes ?_;rw [jv r ai]
end
section
variable {X:Ph}{Q:Sg→Act→List Item→World→Prop}{σ:Sg}{k:List Item}{a:Act}{w:World}{n ob:Nat}{cells:Array Value}{pl:Nat→Nat}{sc:Array Value}{bx:Nat}{zb:Nat×Nat}
theorem abt (K:js GP Tryz.prog.funcs X){a0:Act}{w0:World}(h51:a0.eval (.tmp 51)= .int .i64 (X.n:Nat))(h14:a0.eval (.tmp 14)=sO ob n n)(h10:a0.eval (.tmp 10)= .chan (some X.c))(hN:X.n<1000000)(hn:n<1000000)
  (hpl:∀j,j≠0→j≤X.n→pl j<n∧∀cs,(X.J j).told (.agg cs)= .agg (#[.int .i64 (pl j:Nat)]++cs))(hok:∀j v,j≠0→j≤X.n→(X.J j).ok v→∃cs:Array Value,v= .agg cs∧cs.size=19∧cs.all (·.oneCell')=true)(hin:∀j j',j≠0→j≤X.n→j'≠0→j'≤X.n→pl j=pl j'→j=j')
  (hk:∀(a1:Act)(w1:World)(σ1:Sg)(cells:Array Value),(a1.tmps.size=66∧a1.defers=[])→Kp kpR a0 a1→Gro ob w0 w1→w1.heap[ob]? =some (.cells cells 112 (0,0))→cells.size=n*19→σ1.sp=X.n→(∀j,j≠0→j≤X.n→∃cs:Array Value,σ1.gv j=some (.agg cs)∧cs.size=19∧Row 19 cells (pl j) cs)→(∀p,p<n→(∀j,j≠0→j≤X.n→pl j≠p)→Row 19 cells p sc)→bc GP Tryz.prog.funcs X Q σ1 a1 k w1):
  ∀m r a w cells (σ:Sg),r+m=X.n→left σ.gv X.n=m→(a.tmps.size=66∧a.defers=[])→Kp kpR a0 a→Gro ob w0 w→a.eval (.tmp 52)= .int .i64 (r:Nat)→w.heap[ob]? =some (.cells cells 112 (0,0))→cells.size=n*19→σ.sp=X.n→
   (∀j,j≠0→j≤X.n→∀v,σ.gv j=some v→∃cs:Array Value,v= .agg cs∧cs.size=19∧Row 19 cells (pl j) cs)→(∀p,p<n→(∀j,j≠0→j≤X.n→σ.gv j≠none→pl j≠p)→Row 19 cells p sc)→
   bc GP Tryz.prog.funcs X Q σ a (.code sr:: .inLoop sr:: .inBlock 4::k) w:=by
 intro m
 induction m with
 |zero=>
  intro r a w cells σ hrm hlf hsz hkp ho h52 hc hcs hsp hI1 hI2;obtain rfl:r=X.n:=by omega
  have e51:=(hkp 51 (by simp [kpR])).trans h51;refine bc.seq K (bc.region K ?_);refine fpv ?_;refine bc.ak K (bc.seq K (bc.cond K (t:=false) du ?_ ?_))
  ·exact fev
  have hall:=ach hlf;refine bc.exit K rfl (hk _ w σ cells bz (hkp.trans (fkr)) ho hc hcs hsp (fun j h0 hj=> ?_) fun p hp hx=>hI2 p hp fun j h0 hj _=>hx j h0 hj);cases hg:σ.gv j with
  |none=>exact absurd hg (hall j h0 hj)
  |some v=>
   obtain ⟨cs,rfl,h1,h2⟩:=hI1 j h0 hj v hg;exact ⟨cs,rfl,h1,h2⟩
 |succ m ih=>
  intro r a w cells σ hrm hlf hsz hkp ho h52 hc hcs hsp hI1 hI2;obtain ⟨j0,e1,e2,e3⟩:=adk (gv:=σ.gv) (n:=X.n) ai;refine abx (n:=n) (ob:=ob) (cells:=cells) (pl:=pl) (r:=r) (N:=X.n) K hsz h52 ((hkp 51 (by simp [kpR])).trans h51) ((hkp 14 (by simp [kpR])).trans h14) ((hkp 10 (by simp [kpR])).trans h10) ai hN hn hc hcs (by rw [hsp];exact hpl) (by rw [hsp];exact hok) ⟨j0,e1,by omega,e3⟩ fun a1 w1 j cs cells' h0 hj hg x1 x2 g1 g2 g3 g4 g5 g6 g7 g8=> ?_
  rw [hsp] at hj;have hlu:=adq (v:= .agg cs) h0 hj hg;have hpj:=(hpl j h0 hj).1;refine bc.inLoop K (ih (r+1) a1 w1 cells' _ ai (by show left (upd σ.gv j _) X.n=m;omega) g1 (hkp.trans g3) (ho.trans g4) g2 g5 g6 hsp (fun j' h0' hj' v hv=> ?_) fun p hp hx=> ?_)
  ·by_cases e:j'=j
   ·subst e;have hv:upd σ.gv j' (some (.agg cs)) j'=some v:=hv;rw [upd_same] at hv;obtain rfl:=Option.some.inj hv;exact ⟨cs,rfl,x1,g7⟩
   ·have hv:upd σ.gv j (some (.agg cs)) j'=some v:=hv;rw [upd_ne _ _ e] at hv;have hne:pl j≠pl j':=fun h=>e (hin j' j h0' hj' h0 hj h.symm)
    obtain ⟨cs2,y1,y2,y3⟩:=hI1 j' h0' hj' v hv;exact ⟨cs2,y1,y2,g8 _ _ hne y3⟩
  ·have h1:pl j≠p:=hx j h0 hj (by show upd σ.gv j _ j≠none;rw [upd_same];simp);refine g8 _ _ h1 (hI2 p hp fun j' h0' hj' hg'=>hx j' h0' hj' ?_);show upd σ.gv j _ j'≠none
   by_cases e:j'=j
   ·subst e;exact absurd hg hg'
   ·rw [upd_ne _ _ e];exact hg'
theorem gen {todo:List Item}{F:Act→Prop}(hF:F a)(h:∀a2,F a2→bc GP Tryz.prog.funcs X Q σ a2 todo w):bc GP Tryz.prog.funcs X Q σ a todo w:=h a hF
theorem ms (n:Nat)(hn:n<1000000)(w:World):(Instr.makeSlice 61 (.int .i64 n) (.int .i64 n)).run GP w= .ok (sO w.heap.size n n) (w.alloc (.cells (madeCells ((Tryz.t112.zero).getD undef).cells (n*19)) 112)):=by
 have h:=run_make (P:=GP) w 61 112 Tryz.t112 ((Tryz.t112.zero).getD undef) du du du .i64 .i64 n n ai ai (by
  show ((Tryz.t112.bytes:Nat):Int)*n≤_;rw [show Tryz.t112.bytes=120 from by kernel_rfl];omega) ai
 rw [show Tryz.t112.size=19 from by kernel_rfl] at h
 simpa using h
set_option maxHeartbeats 4000000 in
/-- The round, from its first loop to its last. -/
theorem loops (K:js GP Tryz.prog.funcs X){fj:FuncId}{first capt:Array Value}{fnj:Func}{cj:Code}{bd off cap:Nat}{D:Nat→Value}{cnt:Nat→Nat}(hfj:Tryz.prog.funcs[fj]? =some fnj)(hbj:fnj.body=some cj)(hsz:(a.tmps.size=66∧a.defers=[]))(h0:a.eval (.tmp 0)= .slice (some ⟨bd,off,none⟩) n cap)
  (h2:a.eval (.tmp 2)= .func (.func fj) first capt)(h7:a.eval (.tmp 7)=pO bx)(hbx:w.heap[bx]? =some (.cells sc 112 zb))(hsc:sc.size=19)(hso:sc.all (·.oneCell')=true)(h10:a.eval (.tmp 10)= .chan (some X.c))(h11:a.eval (.tmp 11)= .int .i64 0)(hn:n<1000000)
  (hc0:X.c<X.N0)(hjf:∀π',aw X.N0 one π'→al π' (.func (.func fj) first capt)= .func (.func fj) first capt)(hcn0:cnt 0=0)(hcnt:∀i,cnt i≤i)(hX:X.n=cnt n)(hmono:∀i,i<n→cnt (i+1)≤cnt n)
  (hD:∀i,i<n→w.cell? ⟨bd,off+i,none⟩=some (D i))(hJ:∀i,i<n→(D i= .nilIface∧cnt (i+1)=cnt i)∨(aap X X.c i (cnt i+1) (D i) fj first capt∧cnt (i+1)=cnt i+1))
  (hpl:∀j,j≠0→j≤X.n→pl j<n∧∀cs,(X.J j).told (.agg cs)= .agg (#[.int .i64 (pl j:Nat)]++cs))(hok:∀j v,j≠0→j≤X.n→(X.J j).ok v→∃cs:Array Value,v= .agg cs∧cs.size=19∧cs.all (·.oneCell')=true)(hin:∀j j',j≠0→j≤X.n→j'≠0→j'≤X.n→pl j=pl j'→j=j')
  (hk:∀(a1:Act)(w1:World)(σ1:Sg)(cells:Array Value),(a1.tmps.size=66∧a1.defers=[])→Kp [0,1,2,3,7,10] a a1→a1.eval (.tmp 14)=sO w.heap.size n n→Gro w.heap.size w w1→w1.heap[w.heap.size]? =some (.cells cells 112 (0,0))→cells.size=n*19→σ1.sp=X.n→(∀j,j≠0→j≤X.n→∃cs:Array Value,σ1.gv j=some (.agg cs)∧cs.size=19∧Row 19 cells (pl j) cs)→(∀p,p<n→(∀j,j≠0→j≤X.n→pl j≠p)→Row 19 cells p sc)→bc GP Tryz.prog.funcs X Q σ1 a1 (.code (sR e20)::k) w1):
  bc GP Tryz.prog.funcs X Q ⟨0,fun _=>none⟩ a (.code e7::k) w:=by
 refine bc.seq K (bc.seq K (bc.region K ?_));refine fpv ?_;refine fpv ?_;refine fpv ?_;refine bc.ak K (bc.block K (bc.loop K ?_));refine aao (n:=n) (bd:=bd) (off:=off) (cap:=cap) (D:=D) (cnt:=cnt) (a0:=((a.put (some 22) (.slice (some ⟨bd,off,none⟩) n cap)).put (some 23) (.int .i64 n)).put (some 24) (.int .i64 0)) K hfj hbj (fev) (fev) (fev) (fev) hn hc0 hjf hcnt hX hmono hD hJ (fun a1 σ1 g1 g2 g3 g4 g5=> ?_) n 0 _ _ ai bz (Kp.refl _ _) (fer) (by rw [hcn0];refine fes ?_;rfl) hcn0.symm (fun _=>rfl);have q:∀x,x∈[0,1,2,3,7,10]→a1.eval (.tmp x)=a.eval (.tmp x):=fun x hx=>(g3 x (by simp only [List.mem_cons,List.not_mem_nil,or_false] at hx;rcases hx with rfl|rfl|rfl|rfl|rfl|rfl <;> decide)).trans (by
  simp only [List.mem_cons,List.not_mem_nil,or_false] at hx;rcases hx with rfl|rfl|rfl|rfl|rfl|rfl <;> exact fev)
 have j0:=(q 0 ae).trans h0;have j7:=(q 7 ae).trans h7;have j10:=(q 10 ae).trans h10;refine bc.seq K (bc.region K ?_);refine fpv ?_;refine fpv ?_;have hms:=ms n hn;apply bc.val K
 (case ho=>rfl);(case hm=>kernel_rfl);(case hw=>rfl)
 (case hr=>
  intro τ d;refine fnr ?_;dsimp only [execOp];simp+decide only [eval_put,size_put,if_true,if_false, *];simp only [Sem.run_bind,hms,afe,aih];rfl)
 refine fnr ?_;refine fpv ?_;refine bc.ak K (bc.seq K (bc.seq K (bc.region K ?_)));refine fpv ?_;refine fpv ?_;refine fpv ?_;refine bc.ak K (bc.block K (bc.loop K ?_));refine gen (F:=fun a2=>(a2.tmps.size=66∧a2.defers=[])∧a2.eval (.tmp 43)= .int .i64 (0:Nat)∧a2.eval (.tmp 42)= .int .i64 n∧a2.eval (.tmp 14)=sO w.heap.size n n∧a2.eval (.tmp 7)=pO bx∧a2.eval (.tmp 11)= .int .i64 (cnt n)∧a2.eval (.tmp 10)= .chan (some X.c)∧Kp [0,1,2,3,7,10] a1 a2) ⟨by simp [g1],fer,fev,fev,fev,fev,fev,fun x hx=>by
  simp only [List.mem_cons,List.not_mem_nil,or_false] at hx;rcases hx with rfl|rfl|rfl|rfl|rfl|rfl <;> exact fev⟩ fun a2 ⟨k1,k2,k3,k4,k5,k6,k7,k8⟩=> ?_
 refine abp (sc:=sc) (n:=n) (bx:=bx) (zb:=zb) (ob:=w.heap.size) (a0:=a2) (w0:=w.alloc (.cells (madeCells ((Tryz.t112.zero).getD undef).cells (n*19)) 112)) K hn k5 (bw hbx) (by have:=bf hbx;omega) hsc hso k3 k4 (fun a3 w3 cs3 m1 m2 m3 m4 m5 m6=> ?_) n 0 _ _ _ ai k1 (Kp.refl _ _) (Oth.refl _ _) k2 bu (size_madeCells _ _) (fun j hj=>absurd hj (Nat.not_lt_zero _));have e3:∀x,x∈kpL→a3.eval (.tmp x)=a2.eval (.tmp x):=m2;have e11:=(e3 11 (by decide)).trans k6;have e10:=(e3 10 (by decide)).trans k7;have e14:=(e3 14 (by decide)).trans k4;refine bc.seq K (bc.seq K (bc.region K ?_));refine fpv ?_;refine fpv ?_;refine bc.ak K (bc.block K (bc.loop K ?_));refine gen (F:=fun a4=>(a4.tmps.size=66∧a4.defers=[])∧a4.eval (.tmp 52)= .int .i64 (0:Nat)∧a4.eval (.tmp 51)= .int .i64 (X.n:Nat)∧a4.eval (.tmp 14)=sO w.heap.size n n∧a4.eval (.tmp 10)= .chan (some X.c)∧Kp [0,1,2,3,7,10] a3 a4) ⟨by simp [m1],fer,by rw [hX];exact fev,fev,fev,fun x hx=>by
  simp only [List.mem_cons,List.not_mem_nil,or_false] at hx;rcases hx with rfl|rfl|rfl|rfl|rfl|rfl <;> exact fev⟩ fun a4 ⟨n1,n2,n3,n4,n5,n6⟩=> ?_
 have hN:X.n<1000000:=by have:=hcnt n;omega
 refine abt (sc:=sc) (n:=n) (ob:=w.heap.size) (a0:=a4) (w0:=w3) (pl:=pl) K n3 n4 n5 hN hn hpl hok hin (fun a5 w5 σ5 cs5 p1 p2 p3 p4 p5 p6 p7 p8=> ?_) X.n 0 _ _ cs3 _ ai (abj g5) n1 (Kp.refl _ _) (Gro.refl _ _) n2 m4 m5 (g4.trans hX.symm) (fun j _ _ v hv=>by rw [g5 j] at hv;cases hv) (fun p hp _=>m6 p hp);refine hk a5 w5 σ5 cs5 p1 (fun x hx=> ?_) ((p2 14 (by decide)).trans n4) ((Gro.alloc.trans m3.gro).trans p3) p4 p5 p6 p7 p8;have x5:x∈kpR:=by
  simp only [List.mem_cons,List.not_mem_nil,or_false] at hx;rcases hx with rfl|rfl|rfl|rfl|rfl|rfl <;> decide
 have x3:x∈kpL:=by
  simp only [List.mem_cons,List.not_mem_nil,or_false] at hx;rcases hx with rfl|rfl|rfl|rfl|rfl|rfl <;> decide
 exact (p2 x x5).trans ((n6 x hx).trans ((m2 x x3).trans ((k8 x hx).trans (q x hx))))
end
end Go.Proofs.YthgpdljlehklhaaGreat.eb
