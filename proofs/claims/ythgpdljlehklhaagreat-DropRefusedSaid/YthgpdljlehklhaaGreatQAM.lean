/- Part QAM of the proof that DropRefused answers true whatever its input. No condition. -/
import Derived.Conc.LoneSelect
import Derived.Conc.LoneCalls
import Derived.Test.YthgpdljlehklhaaGreatQAL
import Derived.Test.YthgpdljlehklhaaGreatQAH
import Derived.Test.YthgpdljlehklhaaGreatQAJ
set_option maxRecDepth 100000
namespace Go.Proofs.YthgpdljlehklhaaGreat.ea
open Go Go.Conc zr dr
open Go.ConcN (upd upd_ne upd_same)
set_option linter.unusedVariables false
noncomputable def e20:Code:=sR e15
noncomputable def sr:Code:=inL (inB (sR (sL e20)))
def kpR:List Nat:=[0,1,2,3,7,10,14,51]
theorem ekr {P:Prop}(h:P:=by (intro kk hkk;simp only [kpR,List.mem_cons,List.not_mem_nil,or_false] at hkk;(repeat' (rcases hkk with hkk|hkk)) <;> (simp+decide only [eval_put,bn,size_put,if_true,if_false, *]))):P:=h
section
variable {X:Ph}{Q:Sg→Act→List Item→World→Prop}{σ:Sg}{k:List Item}{a:Act}{w:World}{n ob:Nat}{cells:Array Value}{pl:Nat→Nat}
theorem abx (K:js GP Tryz.prog.funcs X){r N:Nat}
  (hsz:(a.tmps.size=66∧a.defers=[]))(h52:a.eval (.tmp 52)= .int .i64 r)(h51:a.eval (.tmp 51)= .int .i64 N)(h14:a.eval (.tmp 14)=sO ob n n)(h10:a.eval (.tmp 10)= .chan (some X.c))(hr:r<N)(hN:N<1000000)(hn:n<1000000)(hc:w.heap[ob]? =some (.cells cells 33 (0,0)))(hcs:cells.size=n)
  (hpl:∀j,j≠0→j≤σ.sp→pl j<n∧∀v,(X.J j).told v= .agg #[.int .i64 (pl j:Nat),v])(hok:∀j v,j≠0→j≤σ.sp→(X.J j).ok v→∃z:Int,v= .int .i64 z)(hex:∃j,j≠0∧j≤σ.sp∧σ.gv j=none)
  (hk:∀(a1:Act)(w1:World)(j:Nat)(z:Int),j≠0→j≤σ.sp→σ.gv j=none→(a1.tmps.size=66∧a1.defers=[])→a1.eval (.tmp 52)= .int .i64 (r+1:Nat)→Kp kpR a a1→Gro ob w w1→w1.heap[ob]? =some (.cells (cells.setIfInBounds (pl j) (.int .i64 z)) 33 (0,0))→bc GP Tryz.prog.funcs X Q {σ with gv:=upd σ.gv j (some (.int .i64 z))} a1 k w1):
  bc GP Tryz.prog.funcs X Q σ a (.code sr::k) w:=by
 refine bc.seq K (bc.region K ?_);refine epv ?_;refine bc.ak K (bc.seq K (bc.cond K (t:=true) du ?_ ?_))
 ·exact eev
 refine bc.skip K ?_;refine bc.seq K (bc.block K (bc.seq K (bc.region K ?_)));refine epv ?_;refine bc.recv K (x:= .tmp 54) (z:= .agg #[.int .i64 0,.int .i64 0]) rfl (fun a u hx=> ?_) rfl rfl (eev) hex fun j v kd hj0 hj hgj hv=> ?_
 ·show (execOp a.eval _).runT Tryz.prog u #[]=_;rw [Sem.runT_eq];refine enr ?_;dsimp only [execOp];rw [hx];refine Prod.ext ?_ ?_
  ·go_simp
   rfl
  ·simp [go_sem]
 obtain ⟨z,rfl⟩:=hok j v hj0 hj hv;obtain ⟨hpn,htl⟩:=hpl j hj0 hj;rw [htl];refine enr ?_;have hG0:Gro ob w {w with heap:=w.heap++Array.replicate kd gu}:=Gro.gu;have hc0:({w with heap:=w.heap++Array.replicate kd gu}:World).heap[ob]? =some (.cells cells 33 (0,0)):=by
  show (w.heap++Array.replicate kd gu)[ob]? =_;rw [Array.getElem?_append_left (bf hc),hc]
 generalize ({w with heap:=w.heap++Array.replicate kd gu}:World)=W at hG0 hc0 ⊢;refine epv ?_;have hb1:w.heap.size≤W.heap.size:=hG0.1;have hob:ob<w.heap.size:=bf hc;have hG1:=hG0.trans (Gro.alloc (b:=ob) (w:=W) (o:= .cells #[.int .i64 0,.int .i64 0] 120));have hc1:=bw (o2:= .cells #[.int .i64 0,.int .i64 0] 120) hc0;have hr1:=bu (w:=W) (o:= .cells #[.int .i64 0,.int .i64 0] 120);generalize W.alloc (.cells #[.int .i64 0,.int .i64 0] 120)=V at hG1 hc1 hr1 ⊢;generalize W.heap.size=b1 at hb1 hr1 ⊢;have q0:=af (i:=0) hr1 ae;have q1:=af (i:=1) hr1 ae;have f0:=ed (i:=0) hr1;have f1:=ed (i:=1) hr1;refine epp ?_;have hG2:=(hG1.new (i:=0) (v:= .int .i64 (pl j)) hb1).new (i:=1) (v:= .int .i64 z) hb1;have hc2:((V.setCell ⟨b1,0,none⟩ (.int .i64 (pl j))).setCell ⟨b1,1,none⟩ (.int .i64 z)).heap[ob]? =some (.cells cells 33 (0,0)):=by
  rw [ig ai,ig ai,hc1]
 have hr2:=ee (i:=1) (v:= .int .i64 z) (ee (i:=0) (v:= .int .i64 (pl j)) hr1);simp only [List.setIfInBounds_toArray,List.set_cons_zero,List.set_cons_succ] at hr2;generalize ((V.setCell ⟨b1,0,none⟩ (.int .i64 (pl j))).setCell ⟨b1,1,none⟩ (.int .i64 z))=U at hG2 hc2 hr2 ⊢;clear q0 q1 f0 f1 hr1 hc1 hG1;have q0:=af (i:=0) hr2 ae;have q1:=af (i:=1) hr2 ae;simp only [List.getElem_toArray,List.getElem_cons_zero,List.getElem_cons_succ] at q0 q1;have q2:=af (i:=pl j) hc2 ai;have f2:=ed (i:=pl j) hc2;refine bc.ak K (bc.region K ?_);refine epv ?_;refine epv ?_;refine epv ?_;refine epv ?_;refine epv ?_;refine epv ?_;refine epp ?_;refine bc.ak K (bc.inBlock K (bc.region K ?_));refine epv ?_;refine epv ?_;refine bc.ak K (hk _ _ j z hj0 hj hgj bz ?_ (ekr) (hG2.trans Oth.set.gro) (ee hc2));refine ees ?_;rw [jv r ai]
end
section
variable {X:Ph}{Q:Sg→Act→List Item→World→Prop}{σ:Sg}{k:List Item}{a:Act}{w:World}{n ob:Nat}{cells:Array Value}{pl:Nat→Nat}{s:Int}
theorem abt (K:js GP Tryz.prog.funcs X){a0:Act}{w0:World}(h51:a0.eval (.tmp 51)= .int .i64 (X.n:Nat))(h14:a0.eval (.tmp 14)=sO ob n n)(h10:a0.eval (.tmp 10)= .chan (some X.c))(hN:X.n<1000000)(hn:n<1000000)
  (hpl:∀j,j≠0→j≤X.n→pl j<n∧∀v,(X.J j).told v= .agg #[.int .i64 (pl j:Nat),v])(hok:∀j v,j≠0→j≤X.n→(X.J j).ok v→∃z:Int,v= .int .i64 z)(hin:∀j j',j≠0→j≤X.n→j'≠0→j'≤X.n→pl j=pl j'→j=j')
  (hk:∀(a1:Act)(w1:World)(σ1:Sg)(cells:Array Value),(a1.tmps.size=66∧a1.defers=[])→Kp kpR a0 a1→Gro ob w0 w1→w1.heap[ob]? =some (.cells cells 33 (0,0))→cells.size=n→σ1.sp=X.n→(∀j,j≠0→j≤X.n→∃z:Int,σ1.gv j=some (.int .i64 z)∧cells[pl j]? =some (.int .i64 z))→(∀p,p<n→(∀j,j≠0→j≤X.n→pl j≠p)→cells[p]? =some (.int .i64 s))→bc GP Tryz.prog.funcs X Q σ1 a1 k w1):
  ∀m r a w cells (σ:Sg),r+m=X.n→left σ.gv X.n=m→(a.tmps.size=66∧a.defers=[])→Kp kpR a0 a→Gro ob w0 w→a.eval (.tmp 52)= .int .i64 (r:Nat)→w.heap[ob]? =some (.cells cells 33 (0,0))→cells.size=n→σ.sp=X.n→
   (∀j,j≠0→j≤X.n→∀v,σ.gv j=some v→(∃z:Int,v= .int .i64 z)∧cells[pl j]? =some v)→(∀p,p<n→(∀j,j≠0→j≤X.n→σ.gv j≠none→pl j≠p)→cells[p]? =some (.int .i64 s))→
   bc GP Tryz.prog.funcs X Q σ a (.code sr:: .inLoop sr:: .inBlock 4::k) w:=by
 intro m
 induction m with
 |zero=>
  intro r a w cells σ hrm hlf hsz hkp ho h52 hc hcs hsp hI1 hI2;obtain rfl:r=X.n:=by omega
  have e51:=(hkp 51 (by simp [kpR])).trans h51;refine bc.seq K (bc.region K ?_);refine epv ?_;refine bc.ak K (bc.seq K (bc.cond K (t:=false) du ?_ ?_))
  ·exact eev
  have hall:=ach hlf;refine bc.exit K rfl (hk _ w σ cells bz (hkp.trans (ekr)) ho hc hcs hsp (fun j h0 hj=> ?_) fun p hp hx=>hI2 p hp fun j h0 hj _=>hx j h0 hj);cases hg:σ.gv j with
  |none=>exact absurd hg (hall j h0 hj)
  |some v=>
   obtain ⟨⟨z,rfl⟩,h2⟩:=hI1 j h0 hj v hg;exact ⟨z,rfl,h2⟩
 |succ m ih=>
  intro r a w cells σ hrm hlf hsz hkp ho h52 hc hcs hsp hI1 hI2;obtain ⟨j0,e1,e2,e3⟩:=adk (gv:=σ.gv) (n:=X.n) ai;refine abx (n:=n) (ob:=ob) (cells:=cells) (pl:=pl) (r:=r) (N:=X.n) K hsz h52 ((hkp 51 (by simp [kpR])).trans h51) ((hkp 14 (by simp [kpR])).trans h14) ((hkp 10 (by simp [kpR])).trans h10) ai hN hn hc hcs (by rw [hsp];exact hpl) (by rw [hsp];exact hok) ⟨j0,e1,by omega,e3⟩ fun a1 w1 j z h0 hj hg g1 g2 g3 g4 g5=> ?_
  rw [hsp] at hj;have hlu:=adq (v:= .int .i64 z) h0 hj hg;have hpj:=(hpl j h0 hj).1;refine bc.inLoop K (ih (r+1) a1 w1 (cells.setIfInBounds (pl j) (.int .i64 z)) _ ai (by show left (upd σ.gv j _) X.n=m;omega) g1 (hkp.trans g3) (ho.trans g4) g2 g5 (by simp [hcs]) hsp (fun j' h0' hj' v hv=> ?_) fun p hp hx=> ?_)
  ·rw [Array.getElem?_setIfInBounds]
   by_cases e:j'=j
   ·subst e;have hv:upd σ.gv j' (some (.int .i64 z)) j'=some v:=hv;rw [upd_same] at hv;obtain rfl:=Option.some.inj hv;exact ⟨⟨z,rfl⟩,by simp [hcs,hpj]⟩
   ·have hv:upd σ.gv j (some (.int .i64 z)) j'=some v:=hv;rw [upd_ne _ _ e] at hv;have hne:pl j≠pl j':=fun h=>e (hin j' j h0' hj' h0 hj h.symm)
    rw [if_neg hne];exact hI1 j' h0' hj' v hv
  ·rw [Array.getElem?_setIfInBounds];have h1:pl j≠p:=hx j h0 hj (by show upd σ.gv j _ j≠none;rw [upd_same];simp);rw [if_neg h1];refine hI2 p hp fun j' h0' hj' hg'=>hx j' h0' hj' ?_
   show upd σ.gv j _ j'≠none
   by_cases e:j'=j
   ·subst e;exact absurd hg hg'
   ·rw [upd_ne _ _ e];exact hg'
theorem gen {todo:List Item}{F:Act→Prop}(hF:F a)(h:∀a2,F a2→bc GP Tryz.prog.funcs X Q σ a2 todo w):bc GP Tryz.prog.funcs X Q σ a todo w:=h a hF
theorem ms (n:Nat)(hn:n<1000000)(w:World):(Instr.makeSlice 64 (.int .i64 n) (.int .i64 n)).run GP w= .ok (sO w.heap.size n n) (w.alloc (.cells (madeCells #[.int .i64 0] n) 33)):=by
 have h:=run_make (P:=GP) w 64 33 Tryz.t33 (.int .i64 0) du du du .i64 .i64 n n ai ai (by
  show ((Tryz.t33.bytes:Nat):Int)*n≤_;rw [show Tryz.t33.bytes=8 from by kernel_rfl];omega) ai
 rw [show Tryz.t33.size=1 from by kernel_rfl] at h
 simpa [Value.cells] using h
set_option maxHeartbeats 4000000 in
/-- The round, from its first loop to its last. -/
theorem loops (K:js GP Tryz.prog.funcs X){fj:FuncId}{first capt:Array Value}{fnj:Func}{cj:Code}{bd off cap:Nat}{D:Nat→Value}{cnt:Nat→Nat}(hfj:Tryz.prog.funcs[fj]? =some fnj)(hbj:fnj.body=some cj)(hsz:(a.tmps.size=66∧a.defers=[]))(h0:a.eval (.tmp 0)= .slice (some ⟨bd,off,none⟩) n cap)
  (h2:a.eval (.tmp 2)= .func (.func fj) first capt)(h3:a.eval (.tmp 3)= .int .i64 s)(h10:a.eval (.tmp 10)= .chan (some X.c))(h11:a.eval (.tmp 11)= .int .i64 0)(hn:n<1000000)
  (hc0:X.c<X.N0)(hjf:∀π',aw X.N0 one π'→al π' (.func (.func fj) first capt)= .func (.func fj) first capt)(hcn0:cnt 0=0)(hcnt:∀i,cnt i≤i)(hX:X.n=cnt n)(hmono:∀i,i<n→cnt (i+1)≤cnt n)
  (hD:∀i,i<n→w.cell? ⟨bd,off+i,none⟩=some (D i))(hJ:∀i,i<n→(D i= .nilIface∧cnt (i+1)=cnt i)∨(aap X X.c i (cnt i+1) (D i) fj first capt∧cnt (i+1)=cnt i+1))
  (hpl:∀j,j≠0→j≤X.n→pl j<n∧∀v,(X.J j).told v= .agg #[.int .i64 (pl j:Nat),v])(hok:∀j v,j≠0→j≤X.n→(X.J j).ok v→∃z:Int,v= .int .i64 z)(hin:∀j j',j≠0→j≤X.n→j'≠0→j'≤X.n→pl j=pl j'→j=j')
  (hk:∀(a1:Act)(w1:World)(σ1:Sg)(cells:Array Value),(a1.tmps.size=66∧a1.defers=[])→Kp [0,1,2,3,7,10] a a1→a1.eval (.tmp 14)=sO w.heap.size n n→Gro w.heap.size w w1→w1.heap[w.heap.size]? =some (.cells cells 33 (0,0))→cells.size=n→σ1.sp=X.n→(∀j,j≠0→j≤X.n→∃z:Int,σ1.gv j=some (.int .i64 z)∧cells[pl j]? =some (.int .i64 z))→(∀p,p<n→(∀j,j≠0→j≤X.n→pl j≠p)→cells[p]? =some (.int .i64 s))→bc GP Tryz.prog.funcs X Q σ1 a1 (.code (sR e20)::k) w1):
  bc GP Tryz.prog.funcs X Q ⟨0,fun _=>none⟩ a (.code e7::k) w:=by
 refine bc.seq K (bc.seq K (bc.region K ?_));refine epv ?_;refine epv ?_;refine epv ?_;refine bc.ak K (bc.block K (bc.loop K ?_));refine aao (n:=n) (bd:=bd) (off:=off) (cap:=cap) (D:=D) (cnt:=cnt) (a0:=((a.put (some 22) (.slice (some ⟨bd,off,none⟩) n cap)).put (some 23) (.int .i64 n)).put (some 24) (.int .i64 0)) K hfj hbj (eev) (eev) (eev) (eev) hn hc0 hjf hcnt hX hmono hD hJ (fun a1 σ1 g1 g2 g3 g4 g5=> ?_) n 0 _ _ ai bz (Kp.refl _ _) (eer) (by rw [hcn0];refine ees ?_;rfl) hcn0.symm (fun _=>rfl);have q:∀x,x∈[0,1,2,3,7,10]→a1.eval (.tmp x)=a.eval (.tmp x):=fun x hx=>(g3 x (by simp only [List.mem_cons,List.not_mem_nil,or_false] at hx;rcases hx with rfl|rfl|rfl|rfl|rfl|rfl <;> decide)).trans (by
  simp only [List.mem_cons,List.not_mem_nil,or_false] at hx;rcases hx with rfl|rfl|rfl|rfl|rfl|rfl <;> exact eev)
 have j0:=(q 0 ae).trans h0;have j3:=(q 3 ae).trans h3;have j10:=(q 10 ae).trans h10;refine bc.seq K (bc.region K ?_);refine epv ?_;refine epv ?_;have hms:=ms n hn;apply bc.val K
 (case ho=>rfl);(case hm=>kernel_rfl);(case hw=>rfl)
 (case hr=>
  intro τ d;refine enr ?_;dsimp only [execOp];simp+decide only [eval_put,size_put,if_true,if_false, *];simp only [Sem.run_bind,hms,afe,aih];rfl)
 refine enr ?_;refine epv ?_;refine bc.ak K (bc.seq K (bc.seq K (bc.region K ?_)));refine epv ?_;refine epv ?_;refine epv ?_;refine bc.ak K (bc.block K (bc.loop K ?_));refine gen (F:=fun a2=>(a2.tmps.size=66∧a2.defers=[])∧a2.eval (.tmp 43)= .int .i64 (0:Nat)∧a2.eval (.tmp 42)= .int .i64 n∧a2.eval (.tmp 14)=sO w.heap.size n n∧a2.eval (.tmp 3)= .int .i64 s∧a2.eval (.tmp 11)= .int .i64 (cnt n)∧a2.eval (.tmp 10)= .chan (some X.c)∧Kp [0,1,2,3,7,10] a1 a2) ⟨by simp [g1],eer,eev,eev,eev,eev,eev,fun x hx=>by
  simp only [List.mem_cons,List.not_mem_nil,or_false] at hx;rcases hx with rfl|rfl|rfl|rfl|rfl|rfl <;> exact eev⟩ fun a2 ⟨k1,k2,k3,k4,k5,k6,k7,k8⟩=> ?_
 refine abp (s:=s) (n:=n) (ob:=w.heap.size) (a0:=a2) (w0:=w.alloc (.cells (madeCells #[.int .i64 0] n) 33)) K hn k5 k3 k4 (fun a3 w3 cs3 m1 m2 m3 m4 m5 m6=> ?_) n 0 _ _ _ ai k1 (Kp.refl _ _) (Oth.refl _ _) k2 bu (size_madeCells _ _) (fun j hj=>absurd hj (Nat.not_lt_zero _));have e3:∀x,x∈kpL→a3.eval (.tmp x)=a2.eval (.tmp x):=m2;have e11:=(e3 11 (by decide)).trans k6;have e10:=(e3 10 (by decide)).trans k7;have e14:=(e3 14 (by decide)).trans k4;refine bc.seq K (bc.seq K (bc.region K ?_));refine epv ?_;refine epv ?_;refine bc.ak K (bc.block K (bc.loop K ?_));refine gen (F:=fun a4=>(a4.tmps.size=66∧a4.defers=[])∧a4.eval (.tmp 52)= .int .i64 (0:Nat)∧a4.eval (.tmp 51)= .int .i64 (X.n:Nat)∧a4.eval (.tmp 14)=sO w.heap.size n n∧a4.eval (.tmp 10)= .chan (some X.c)∧Kp [0,1,2,3,7,10] a3 a4) ⟨by simp [m1],eer,by rw [hX];exact eev,eev,eev,fun x hx=>by
  simp only [List.mem_cons,List.not_mem_nil,or_false] at hx;rcases hx with rfl|rfl|rfl|rfl|rfl|rfl <;> exact eev⟩ fun a4 ⟨n1,n2,n3,n4,n5,n6⟩=> ?_
 have hN:X.n<1000000:=by have:=hcnt n;omega
 refine abt (s:=s) (n:=n) (ob:=w.heap.size) (a0:=a4) (w0:=w3) (pl:=pl) K n3 n4 n5 hN hn hpl hok hin (fun a5 w5 σ5 cs5 p1 p2 p3 p4 p5 p6 p7 p8=> ?_) X.n 0 _ _ cs3 _ ai (abj g5) n1 (Kp.refl _ _) (Gro.refl _ _) n2 m4 m5 (g4.trans hX.symm) (fun j _ _ v hv=>by rw [g5 j] at hv;cases hv) (fun p hp _=>m6 p hp);refine hk a5 w5 σ5 cs5 p1 (fun x hx=> ?_) ((p2 14 (by decide)).trans n4) ((Gro.alloc.trans m3.gro).trans p3) p4 p5 p6 p7 p8;have x5:x∈kpR:=by
  simp only [List.mem_cons,List.not_mem_nil,or_false] at hx;rcases hx with rfl|rfl|rfl|rfl|rfl|rfl <;> decide
 have x3:x∈kpL:=by
  simp only [List.mem_cons,List.not_mem_nil,or_false] at hx;rcases hx with rfl|rfl|rfl|rfl|rfl|rfl <;> decide
 exact (p2 x x5).trans ((n6 x hx).trans ((m2 x x3).trans ((k8 x hx).trans (q x hx))))
end
theorem ebv {P' P:Prop}(h2:P')(h:Wrp P'→P:=by intro hG;((apply cr.valS mh (by assumption) rfl;(case' ho=>rfl);(case' hm=>kernel_rfl);(case' hw=>rfl);(case' hr=>intro d;exact exs);refine enr ?_));exact hG.out):P:=h ⟨h2⟩
def vg (p:Nat)(v:Value):Value:= .agg #[.int .i64 p,v]
def okE (v:Value):Prop:=∃z:Int,v= .int .i64 z
def bE:Frame:={(default:Frame) with fn:=14,kind:= .normal}
noncomputable def wc (w:World):World:=w.alloc (.chan 0 #[] false 0 0 false)
noncomputable def XE [Bg] (w:World)(nj:Nat)(own:Nat→Nat→Prop)(pl:Nat→Nat)(D:Nat→Value)(fj:FuncId)(first capt:Array Value)(Rj:Nat→Value→World→Prop)(cs:List Frame):Ph:=
 {n:=nj,N0:=w.heap.size+1,b0:=0,c:=w.heap.size,wS:=⟨cy (wc w),own⟩,J:=fun j=>wJ Tryz.prog 43 aat (.int .i64 (pl j)) (D (pl j)) fj first capt w.heap.size (Rj j) (vg (pl j)) okE,b:=bE,CS:=cs}
section
variable {w:World}{nj:Nat}{own:Nat→Nat→Prop}{pl:Nat→Nat}{D:Nat→Value}{fj:FuncId}{first capt:Array Value}{Rj:Nat→Value→World→Prop}{cs:List Frame}{b0:Nat}
theorem xe_ok [Bg] (hblind:∀j v w τ d,Rj j v w→Rj j v (tp w τ d))(hokR:∀j v w,Rj j v w→okE v):js GP Tryz.prog.funcs {XE w nj own pl D fj first capt Rj cs with b0:=b0}:=by
 refine ⟨mh,vh,rfl,fun j h0 hj=>wJ_ok Tryz.func43 vp fun v hv w=> ?_,fun j v w τ d h=>hblind j v w τ d h,fun j π v=> ?_,fun j v v' h1 h2 h=> ?_,fun j v w h=>hokR j v w h,fun j π v ⟨z,hz⟩=>⟨z,by rw [hz];rfl⟩⟩
 ·obtain ⟨z,rfl⟩:=hv;constructor
  ·show (Instr.build 120 _).run Tryz.prog w=_
   go_simp
   rfl
  ·show (Instr.build 120 _).events Tryz.prog w #[]=_;simp [go_sem]
 ·show al π (.agg #[.int .i64 (pl j),v])= .agg #[.int .i64 (pl j),al π v];simp only [al,az,jr]
 ·have h:(.agg #[.int .i64 (pl j),v]:Value)= .agg #[.int .i64 (pl j),v']:=h
  simpa using h
end
structure RIn [Bg] (w:World)(n bd off:Nat)(D:Nat→Value)(cnt pl:Nat→Nat)(nj:Nat)(own frz:Nat→Nat→Prop)(fj:FuncId)(first capt:Array Value)(Rj:Nat→Value→World→Prop):Prop where
 pos:0<n
 lt:n<1000000
 disks:∀i,i<n→w.cell? ⟨bd,off+i,none⟩=some (D i)
 frz0:frz 0 bd
 own0:∀b,¬own 0 b
 ownOk:∀j,j≤nj→∀b,own j b→b<w.heap.size∧¬frz j b
 ownZ:∀j,j≤nj→∀b,own j b→¬zb b
 frzOk:∀j,j≤nj→∀b,frz j b→∃c e z,w.heap[b]? =some (.cells c e z)
 apart:∀j k,j≤nj→k≤nj→j≠k→∀b,own j b→¬own k b∧¬frz k b
 cl:∀j,j≠0→j≤nj→∀π',aw w.heap.size one π'→al π' (D (pl j))=D (pl j)
 jf:∀π',aw w.heap.size one π'→al π' (.func (.func fj) first capt)= .func (.func fj) first capt
 jobs:∀j,j≠0→j≤nj→∀τ d,Calls GP fj (first++ #[.int .i64 (pl j),D (pl j)]++capt) (tp (mask (own j) (frz j) (wc w)) τ d) (Ret (Rj j))
 blind:∀j v w τ d,Rj j v w→Rj j v (tp w τ d)
 okR:∀j v w,Rj j v w→okE v
 cnt0:cnt 0=0
 cntN:nj=cnt n
 cntLe:∀i,cnt i≤i
 cntMono:∀i,i<n→cnt (i+1)≤cnt n
 place:∀i,i<n→(D i= .nilIface∧cnt (i+1)=cnt i)∨((∃t x,D i= .iface t x)∧cnt (i+1)=cnt i+1∧pl (cnt i+1)=i)
 plLt:∀j,j≠0→j≤nj→pl j<n
 plInj:∀j j',j≠0→j≤nj→j'≠0→j'≤nj→pl j=pl j'→j=j'
structure uq [Bg] (w w':World)(n:Nat)(pl:Nat→Nat)(nj:Nat)(own:Nat→Nat→Prop)(Rj:Nat→Value→World→Prop)(s:Int)(o:Nat)(cells:Array Value):Prop where
 whole:Whole GP w'
 base:Base one w'.heap.size
 size:w.heap.size<w'.heap.size
 new:w.heap.size<o
 out:w'.heap[o]? =some (.cells cells 33 (0,0))
 len:cells.size=n
 rest:∀b,b<w.heap.size→(∀j,j≤nj→¬own j b)→w'.heap[b]? =w.heap[b]?
 jobs:∃M:Nat→Mem,(∀j k,j≠0→j≤nj→k≤nj→j≠k→∀r,(M j).Has r→¬(M k).sg r)∧(∀j,j≠0→j≤nj→¬(M j).sg o)∧(∀j,j≤nj→∀r,(M j).Has r→¬zb r)∧
  ∀j,j≠0→j≤nj→∃z:Int,Rj j (.int .i64 z) (M j).w∧At GP (M j).Z (M j).F (M j).π (tp (M j).w w'.tape w'.drawn) (cy w')∧aw (w.heap.size+1) one (M j).π∧w.heap.size+1≤(M j).w.heap.size∧cells[pl j]? =some (.int .i64 z)
 nil:∀p,p<n→(∀j,j≠0→j≤nj→pl j≠p)→cells[p]? =some (.int .i64 s)
 os:w'.os=w.os
 output:w'.output=w.output
section
variable {w:World}{n bd off cap nj:Nat}{own frz:Nat→Nat→Prop}{cnt pl:Nat→Nat}{D:Nat→Value}{fj:FuncId}{first capt:Array Value}{Rj:Nat→Value→World→Prop}{cs:List Frame}{b0:Nat}{a:Act}{s:Int}{Q:Goroutine→World→Prop}
theorem aah [Bg] (R:RIn w n bd off D cnt pl nj own frz fj first capt Rj){fnj:Func}{cj:Code}(hfj:Tryz.prog.funcs[fj]? =some fnj)(hbj:fnj.body=some cj)(hS:Sound GP (wc w) a)(hsz:(a.tmps.size=66∧a.defers=[]))(h0:a.eval (.tmp 0)= .slice (some ⟨bd,off,none⟩) n cap)(h2:a.eval (.tmp 2)= .func (.func fj) first capt)(h3:a.eval (.tmp 3)= .int .i64 s)(h10:a.eval (.tmp 10)= .chan (some w.heap.size))(h11:a.eval (.tmp 11)= .int .i64 0)
  (hk:∀a1 w' o cells,uq w w' n pl nj own Rj s o cells→Sound GP w' a1→(a1.tmps.size=66∧a1.defers=[])→a1.eval (.tmp 0)= .slice (some ⟨bd,off,none⟩) n cap→a1.eval (.tmp 14)=sO o n n→cr (aq GP Tryz.prog.funcs) Q (av (bE.at a1 [.code (sR e20)]) cs) w'):
  cr (aq GP Tryz.prog.funcs) Q (av (bE.at a [.code e7]) cs) (wc w):=by
 have hsw:(wc w).heap.size=w.heap.size+1:=by simp [wc]
 have hold:∀b,b<w.heap.size→(wc w).heap[b]? =w.heap[b]? :=fun b hb=>by
  unfold wc World.alloc;rw [Array.getElem?_push_lt hb,Array.getElem?_eq_getElem hb]
 have hK:=fun b0=>xe_ok (w:=w) (nj:=nj) (own:=own) (pl:=pl) (D:=D) (fj:=fj) (first:=first) (capt:=capt) (cs:=cs) (b0:=b0) R.blind R.okR
 have hfz:∀j,j≤nj→∀b,frz j b→b<w.heap.size:=fun j hj b hb=>by
  obtain ⟨c,e,z,h⟩:=R.frzOk j hj b hb;exact bf h
 have hB:uf GP (XE w nj own pl D fj first capt Rj cs) frz (wc w):=by
  refine ⟨hS.whole,hS.base,hsw.symm,⟨rfl,rfl,rfl⟩,R.ownZ,R.own0,fun j hj b hb=> ?_,fun j hj b hb=> ?_,R.apart,⟨0,false,bu⟩,fun j h0 hj π' ha=> ?_,fun j h0 hj τ d=>R.jobs j h0 hj τ d⟩
  ·obtain ⟨x1,x2⟩:=R.ownOk j hj b hb;exact ⟨by show b<w.heap.size+1;omega,by show b≠w.heap.size;omega,x2⟩
  ·have hlt:=hfz j hj b hb;obtain ⟨c,e,z,h⟩:=R.frzOk j hj b hb;exact ⟨by show b≠w.heap.size;omega,c,e,z,by rw [hold b hlt,h]⟩
  ·have ha:aw w.heap.size one π':=aw.mono (show aw (w.heap.size+1) one π' from ha) ai;have hj1:=R.jf π' ha;simp only [al,Value.func.injEq] at hj1;show az π' (first++ #[.int .i64 (pl j),D (pl j)]++capt)=_;simp only [fh] at hj1 ⊢;rw [Array.map_append,Array.map_append,hj1.2.1,hj1.2.2];simp only [List.map_toArray,List.map_cons,List.map_nil,R.cl j h0 hj π' ha];rfl
 have hbd:bd<w.heap.size:=hfz 0 (Nat.zero_le _) bd R.frz0;refine cr.round (X:=XE w nj own pl D fj first capt Rj cs) (frz:=frz) (hK 0) hB hS.defers (fun π' ha=>hS.act π' (by rw [hsw];exact ha)) fun b0=> ?_
 have hsm:(oc (XE w nj own pl D fj first capt Rj cs) frz (wc w) 0).w.heap.size=w.heap.size+1:=(mi _ _ _).trans hsw;refine loops (X:={XE w nj own pl D fj first capt Rj cs with b0:=b0}) (n:=n) (cnt:=cnt) (pl:=pl) (D:=D) (s:=s) (hK b0) hfj hbj hsz h0 h2 h3 h10 h11 R.lt (by show w.heap.size<w.heap.size+1;omega) (fun π' ha=>R.jf π' (aw.mono ha (by show w.heap.size≤w.heap.size+1;omega))) R.cnt0 R.cntLe R.cntN R.cntMono (fun i hi=> ?_) (fun i hi=> ?_) (fun j h0 hj=>⟨R.plLt j h0 hj,fun v=>rfl⟩) (fun j v _ _ h=>h) R.plInj (fun a1 w1 σ1 cells g1 g2 g3 g4 g5 g6 g7 g8 g9=> ?_)
 ·obtain ⟨c,e,z,hc⟩:=R.frzOk 0 (Nat.zero_le _) bd R.frz0;have hd:=R.disks i hi;unfold World.cell? at hd ⊢;rw [hc] at hd;show (match (mask (own 0) (frz 0) (wc w)).heap[bd]? with|some (.cells c _ _)=>_|_=>none)=_;rw [sn,hold bd hbd,hc,Option.map_some,if_pos R.frz0];exact hd
 ·rcases R.place i hi with h|⟨h1,h2,h3⟩
  ·exact .inl h
  ·have hle:cnt i+1≤nj:=by
    have:=R.cntMono i hi;have:=R.cntN;omega
   refine .inr ⟨⟨⟨Rj (cnt i+1),vg i,okE,?_⟩,h1,fun π' ha=> ?_⟩,h2⟩
   ·show wJ Tryz.prog 43 aat (.int .i64 (pl (cnt i+1))) (D (pl (cnt i+1))) fj first capt w.heap.size (Rj (cnt i+1)) (vg (pl (cnt i+1))) okE=_
    rw [h3];rfl
   ·have:=R.cl (cnt i+1) ai hle π' (aw.mono (show aw (w.heap.size+1) one π' from ha) ai);rw [h3] at this;exact this
 ·refine bc.done ⟨g7,fun j h0 hj=> ?_,fun π0 w' hcl hE=> ?_⟩
  ·obtain ⟨z,hz,-⟩:=g8 j h0 hj;rw [hz];simp
  ·obtain ⟨M,rfl,⟨τ0,d0,hM0⟩,hA,hap,hnz,hjb⟩:=hE.all;rw [hsm] at g3 g5;have hag:aw (w.heap.size+1) one (M 0).π:=hE.ag;have hZ:¬(M 0).Z (w.heap.size+1):=fun h=>by
    have h1:=(hA.rob (M 0).π (aw.refl _ _)).gu _ h;have h1:w1.heap[w.heap.size+1]? =some gu:=h1;rw [g5] at h1;cases h1
   have hF:¬(M 0).F (w.heap.size+1):=fun h=>by
    obtain ⟨c,e,z,h1,-⟩:=(hA.rob (M 0).π (aw.refl _ _)).fz _ h;have h1:w1.heap[w.heap.size+1]? =some (.cells c e (0,c.size)):=h1;rw [g5] at h1;simp only [Option.some.injEq,Obj.cells.injEq,Prod.mk.injEq,true_and] at h1;obtain ⟨rfl,-,h2⟩:=h1;have:=R.pos;omega
   have hob:=((hA.rob (M 0).π (aw.refl _ _)).own _ _ (show (tp w1 w'.tape w'.drawn).heap[w.heap.size+1]? =_ from g5) hZ hF).2;have hob:w'.heap[(M 0).π.to (w.heap.size+1)]? =_:=(j9 (hnz 0 (Nat.zero_le _) _ ⟨w.heap.size+1,by rw [hM0];exact bf g5,hZ,hF,rfl⟩)).symm.trans hob;have hnew:w.heap.size< (M 0).π.to (w.heap.size+1):=by
    apply Classical.byContradiction;intro hx;have h1:=hag ((M 0).π.to (w.heap.size+1)) ai;have h2:=(M 0).π.inj (h1.trans rfl);have h2:(M 0).π.to (w.heap.size+1)=w.heap.size+1:=h2;omega
   have hget:∀p (z:Int),cells[p]? =some (Value.int .i64 z)→(az (M 0).π cells)[p]? =some (Value.int .i64 z):=fun p z h=>by
    rw [ja,h];rfl
   have hev:∀x,(dw (M 0).π a1).eval (.tmp x)=al (M 0).π (a1.eval (.tmp x)):=fun x=>pw (M 0).π a1 (.tmp x) rfl
   have hsz':w.heap.size+1≤w'.heap.size:=hE.size;refine hk (dw (M 0).π a1) w' ((M 0).π.to (w.heap.size+1)) (az (M 0).π cells) ⟨hE.whole,hE.base,by omega,hnew,hob,(il cells).trans g6,fun b hb hn=> ?_,⟨M,fun j k hj0 hj hk hne r=>hap j k hj hk hne r,fun j hj0 hj=>hap 0 j (Nat.zero_le _) hj (fun e=>hj0 e.symm) _ ⟨w.heap.size+1,by rw [hM0];exact bf g5,hZ,hF,rfl⟩,hnz,fun j hj0 hj=> ?_⟩,fun p hp hx=>hget p s (g9 p hp hx),hE.os,hE.out⟩ (abk (w1:=tp w1 w'.tape w'.drawn) hcl hA hE.whole hE.base g1.2) ⟨(il a1.tmps).trans g1.1,g1.2⟩ ?_ ?_
   ·rw [←hold b hb]
    by_cases hz:zb b
    ·rw [(hE.whole.rob one (aw.refl _ _)).gu b hz,(hS.whole.rob one (aw.refl _ _)).gu b hz]
    ·rw [←j9 hz,hE.rest b (show b<w.heap.size+1 by omega) (show b≠w.heap.size by omega) hn];exact j9 hz
   ·obtain ⟨v0,v,e1,e2,e3,e4,e5,e6,e7⟩:=hjb j hj0 hj;obtain ⟨z,e8,e9⟩:=g8 j hj0 hj;rw [e1] at e8;obtain rfl:=Option.some.inj e8;obtain ⟨z2,rfl⟩:=R.okR j v _ e2;have e7:(Value.int .i64 z)= .int .i64 z2:=e7;obtain rfl:z=z2:=by simpa using e7
    exact ⟨z,e2,e4,e5,e6,hget _ _ e9⟩
   ·rw [hev,(g2 0 ae).trans h0];show Value.slice (some ⟨(M 0).π.to bd,off,none⟩) n cap=_;rw [hag bd ai];rfl
   ·rw [hev,g3];rfl
end
end Go.Proofs.YthgpdljlehklhaaGreat.ea
namespace Go.Proofs.YthgpdljlehklhaaGreat.ea
open Go Go.Conc zr dr
set_option linter.unusedVariables false
def wa (w:World):Ending→World→Prop:=fun e w2=>e= .returned (.bool false)∧∃τ d,w2=tp w τ d
section
variable {w:World}{n bd off cap nj:Nat}{own frz:Nat→Nat→Prop}{cnt pl:Nat→Nat}{D:Nat→Value}{fj:FuncId}{first capt:Array Value}{Rj:Nat→Value→World→Prop}{cs:List Frame}{b0:Nat}{a:Act}{s:Int}{Q:Goroutine→World→Prop}{done:Value}{T A':List Frame}{c fr0:Frame}{RE:Ending→World→Prop}
theorem ad0 [Bg] {N o:Nat}(hsz0:N≤w.heap.size)(hS:Sound GP w a)(hsz:a.tmps.size=66∧a.defers=[])(h0:a.eval (.tmp 0)= .slice (some ⟨bd,off,none⟩) n cap)(h14:a.eval (.tmp 14)=sO o n n)(ho:o<w.heap.size)
  {R:Ending→World→Prop}(hbE:gz RE)(hbl:gz R)(hcl:∀τ d,Calls GP 44 #[.slice (some ⟨bd,off,none⟩) n cap] (tp w τ d) R)(hret:∀e w2,R e w2→∃v,e= .returned v)(hmono:∀e w2,R e w2→w.heap.size≤w2.heap.size)(hRE:∀v w2,R (.returned v) w2→RE (.returned (.tuple #[sO o n n,.int .i64 0])) w2):
  cr (aq GP Tryz.prog.funcs) (Bk GP RE N c T) (av (bE.at a [.code (sR e20)]) (c::T)) w:=by
 refine cr.seq (cr.region ?_);refine ebv ?_;intro hS;rename_i hS0;refine cr.agv mh vh hS rfl rfl du ae rfl hbl (f:=44) (args:=#[.slice (some ⟨bd,off,none⟩) n cap]) (uw Tryz.func44 rfl (by decide+kernel)) (fun d=> ?_) hcl hret hmono fun v w2 hr hS2=> ?_
 ·rw [cw (a:=a.put (some 63) (.slice (some ⟨bd,off,none⟩) n cap)) (f:=44) (xs:=#[.tmp 63]) (ts:=#[23]) rfl];simp+decide only [List.map_toArray,List.map_cons,List.map_nil,eval_put,size_put,if_true,hsz];exact nq (jd Tryz.func44 rfl (by decide+kernel)) rfl (my _ _ Tryz.func44) _ _
 refine enr ?_;simp only [List.getElem_toArray,List.getElem_cons_zero,List.getElem_cons_succ] at hS2;refine cr.ak (cr.seq (cr.region ?_));have hm2:=hmono _ _ hr;refine ebv ?_;intro hS;refine ebv ?_;intro hS;refine ebv ?_;intro hS;refine cr.ak (cr.ahv hS rfl Tryz.func14 rfl (fun d=> ?_) (Nat.le_trans hsz0 hm2) fun π' ha=> ?_)
 ·refine ees ?_;exact hbE _ _ w2.tape d (hRE v w2 hr)
 ·refine ees ?_;simp only [al,az,jr];show Value.tuple #[sO (π'.to o) n n,_]=_;rw [ha o ai];rfl
theorem aef [Bg] (f:Fn)(first capt:Array Value)(w:World):Sem.run GP (do
  eqGuard .eql 70 (.tmp 17) (.const .nilFunc) (.func f first capt) .nilFunc
  binOp .eql 70 (.func f first capt) .nilFunc) w= .ok (.bool false) w:=by
 go_simp
 have e:binOp .eql 70 (.func f first capt) .nilFunc=(do pure (.bool (←Op.equal 70 (.func f first capt) .nilFunc))):=by kernel_rfl
 have h:(Op.equal 70 (.func f first capt) .nilFunc).run GP w= .ok false w:=by kernel_rfl
 rw [e,Sem.run_bind,h];rfl
theorem RIn.tp [Bg] (R:RIn w n bd off D cnt pl nj own frz fj first capt Rj)(τ:Tap)(d:Nat):RIn (zr.tp w τ d) n bd off D cnt pl nj own frz fj first capt Rj:=
 ⟨R.pos,R.lt,R.disks,R.frz0,R.own0,R.ownOk,R.ownZ,R.frzOk,R.apart,R.cl,R.jf,fun j h0 hj τ2 d2=>R.jobs j h0 hj τ2 d2,R.blind,R.okR,R.cnt0,R.cntN,R.cntLe,R.cntMono,R.place,R.plLt,R.plInj⟩
theorem uq.untp [Bg] {w':World}{o:Nat}{cells:Array Value}{τ:Tap}{d:Nat}(h:uq (zr.tp w τ d) w' n pl nj own Rj s o cells):uq w w' n pl nj own Rj s o cells:=
 ⟨h.whole,h.base,h.size,h.new,h.out,h.len,h.rest,h.jobs,h.nil,h.os,h.output⟩
theorem ah0 [Bg] (u:World):(Instr.makeChan 117 (.int .i64 0)).run GP u= .ok (.chan (some u.heap.size)) (wc u):=by
 unfold Instr.makeChan
 go_simp
 rfl
theorem afu [Bg] {fnj:Func}{cj:Code}(hfj:Tryz.prog.funcs[fj]? =some fnj)(hbj:fnj.body=some cj)(hR:RIn w n bd off D cnt pl nj own frz fj first capt Rj)
  (hstop:∀τ d,Calls GP 42 #[done] (tp w τ d) (wa w))(hbE:gz RE)
  (hend:∀w' o cells,uq w w' n pl nj own Rj s o cells→∃R:Ending→World→Prop,gz R∧(∀τ d,Calls GP 44 #[.slice (some ⟨bd,off,none⟩) n cap] (tp w' τ d) R)∧(∀e w2,R e w2→∃v,e= .returned v)∧(∀e w2,R e w2→w'.heap.size≤w2.heap.size)∧∀v w2,R (.returned v) w2→RE (.returned (.tuple #[sO o n n,.int .i64 0])) w2):
  UCx GP Tryz.prog.funcs 14 #[.slice (some ⟨bd,off,none⟩) n cap,done,.func (.func fj) first capt,.int .i64 s] w RE:=by
 intro c T hF;have hS:=yy (m:=62) hF;rw [enter_at (P:=aq GP Tryz.prog.funcs) (m:=62) Tryz.func14 (c:=ec) rfl rfl];have v0:=jb (m:=62) (k:=0) (xs:=#[.slice (some ⟨bd,off,none⟩) n cap,done,.func (.func fj) first capt,.int .i64 s]) rfl;have v1:=jb (m:=62) (k:=1) (xs:=#[.slice (some ⟨bd,off,none⟩) n cap,done,.func (.func fj) first capt,.int .i64 s]) rfl;have v2:=jb (m:=62) (k:=2) (xs:=#[.slice (some ⟨bd,off,none⟩) n cap,done,.func (.func fj) first capt,.int .i64 s]) rfl;have v3:=jb (m:=62) (k:=3) (xs:=#[.slice (some ⟨bd,off,none⟩) n cap,done,.func (.func fj) first capt,.int .i64 s]) rfl;have hsz:(⟨#[.slice (some ⟨bd,off,none⟩) n cap,done,.func (.func fj) first capt,.int .i64 s]++Array.replicate 62 undef,[]⟩:Act).tmps.size=66∧(⟨#[.slice (some ⟨bd,off,none⟩) n cap,done,.func (.func fj) first capt,.int .i64 s]++Array.replicate 62 undef,[]⟩:Act).defers=[]:=⟨by simp,rfl⟩;simp only [List.getElem_toArray,List.getElem_cons_zero,List.getElem_cons_succ] at v0 v1 v2 v3;generalize (⟨#[.slice (some ⟨bd,off,none⟩) n cap,done,.func (.func fj) first capt,.int .i64 s]++Array.replicate 62 undef,[]⟩:Act)=a at hS hsz v0 v1 v2 v3 ⊢;show cr _ _ (av (bE.at a [.code ec]) (c::T)) w;refine cr.seq (cr.region ?_);refine ebv ?_;intro hS;refine ebv ?_;intro hS;refine cr.ak (cr.seq (cr.seq (cr.region ?_)));refine ebv ?_;intro hS;apply cr.valS (v:= .bool false) mh hS rfl
 (case ho=>rfl);(case hm=>kernel_rfl);(case hw=>rfl)
 (case hr=>
  intro d;refine enr ?_;dsimp only [execOp];simp+decide only [eval_put,eval_const,size_put,if_true,if_false,v2,hsz];rw [Sem.run_bind,aef];rfl)
 refine enr ?_;intro hS;refine cr.ak (cr.cond (t:=false) (by simp+decide only [eval_put,size_put,if_true,if_false,hsz]) (cr.skip (cr.seq (cr.seq (cr.region ?_)))));refine ebv ?_;intro hS;have hrs:gz (wa w):=fun e w2 τ d ⟨h1,τ2,d2,h2⟩=>⟨h1,τ,d,by rw [h2];rfl⟩
 refine cr.agv mh vh hS rfl rfl du ae rfl hrs (f:=42) (args:=#[done]) (uw Tryz.func42 rfl (by decide+kernel)) (fun d=> ?_) hstop (fun e w2 h=>⟨_,h.1⟩) (fun e w2 ⟨_,τ,d,h⟩=>by rw [h];exact Nat.le_refl _) fun v w2 hr hS2=> ?_
 ·rw [cw (f:=42) (xs:=#[.tmp 19]) (ts:=#[43]) rfl];simp+decide only [List.map_toArray,List.map_cons,List.map_nil,eval_put,size_put,if_true,if_false,hsz,v1];exact nq (jd Tryz.func42 rfl (by decide+kernel)) rfl (my _ _ Tryz.func42) _ _
 obtain ⟨hv,τ,d,rfl⟩:=hr;obtain rfl:v= .bool false:=by simpa using hv
 refine enr ?_;simp only [List.getElem_toArray,List.getElem_cons_zero,List.getElem_cons_succ] at hS2;refine cr.ak (cr.cond (t:=false) (by simp+decide only [eval_put,size_put,if_true,if_false,hsz]) (cr.skip (cr.seq (cr.region ?_))));have hsw:(wc (tp w τ d)).heap.size=w.heap.size+1:=by simp [wc]
 apply cr.val (v:= .chan (some w.heap.size)) (w1:=wc (tp w τ d)) mh hS2 rfl
 (case ho=>rfl);(case hm=>kernel_rfl);(case hw=>rfl)
 (case hr=>
  intro d2;refine enr ?_;dsimp only [execOp];simp only [eval_const];rw [Sem.run_bind,ah0];rfl)
 refine enr ?_;intro hS;refine ebv ?_;intro hS;refine cr.ak (cr.seq (cr.region ?_));refine ebv ?_;intro hS;refine cr.ak ?_;refine aah (w:=tp w τ d) (n:=n) (bd:=bd) (off:=off) (cap:=cap) (s:=s) (hR.tp τ d) hfj hbj hS bz (eev) (eev) (eev) (eer) (eev) fun a1 w' o cells hO hS1 hsz1 h0 h14=> ?_
 obtain ⟨R,r1,r2,r3,r4,r5⟩:=hend w' o cells hO.untp;have hlt:w.heap.size≤w'.heap.size:=Nat.le_of_lt hO.untp.size;exact ad0 (N:=w.heap.size) hlt hS1 hsz1 h0 h14 (bf hO.out) hbE r1 r2 r3 r4 r5
end
end Go.Proofs.YthgpdljlehklhaaGreat.ea
namespace Go.Proofs.YthgpdljlehklhaaGreat.la
open Go Go.Conc zr dr
set_option linter.unusedVariables false
set_option maxRecDepth 100000 in
/-- Nobody has stopped it: there is no channel. -/
theorem adb (w:World):Calls GP 42 #[.chan none] w fun e w2=>e= .returned (.bool false)∧w2=w:=by
 refine calls_of_loneTo fun cs=> ?_
 have hf:GP.funcs[42]? =some Tryz.f42:=jd Tryz.func42 rfl (by decide+kernel);have e:Frame.enter GP 42 #[.chan none] .normal=(base 42).at ⟨#[.chan none,undef,undef,undef,undef,undef,undef],[]⟩ [.code (Tryz.f42.body.getD .skip)]:=by
  simp [Frame.enter,Frame.at,hf,base,Tryz.f42]
 rw [e];refine LoneTo.goes (n:=50) ?_;simp only [Tryz.f42,Option.getD_some]
 s_c stepG_seq
 s_reg
 s_op
 s_c stepG_region_end
 s_c stepG_seq
 s_reg
 s_op
 s_c stepG_region_end
 s_c stepG_seq
 s_reg
 s_stop
 refine LoneTo.step (step_lone_select_recv_nil (z:= .agg #[]) (stepG_comm (cases:=#[rcaseNil (.agg #[])]) (blocking:=false) (shape:= .select) (w':=w) rfl rfl (by decide) (by go_simp;rfl))) ?_;rw [Frame.finish_at]
 walk_nrm
 refine LoneTo.goes (n:=50) ?_
 s_op
 s_op
 s_c stepG_region_end
 s_c stepG_block
 s_cond false
 s_c stepG_seq
 s_reg
 s_op
 s_c stepG_region_end
 s_c stepG_ret'
 s_stop
 exact LoneTo.done ⟨.returned (.bool false),_,rfl,⟨rfl,rfl⟩,rfl,rfl,rfl,rfl,_,hf,by simp [results,Tryz.f42,Frame.at]⟩
theorem vv (w:World):∀τ d,Calls GP 42 #[.chan none] (tp w τ d) (eb.wa w):=fun τ d=>
 (adb (tp w τ d)).mono fun e w2 ⟨h1,h2⟩=>⟨h1,τ,d,h2⟩
theorem zn (w:World):∀τ d,Calls GP 42 #[.chan none] (tp w τ d) (ea.wa w):=fun τ d=>
 (adb (tp w τ d)).mono fun e w2 ⟨h1,h2⟩=>⟨h1,τ,d,h2⟩
end Go.Proofs.YthgpdljlehklhaaGreat.la
