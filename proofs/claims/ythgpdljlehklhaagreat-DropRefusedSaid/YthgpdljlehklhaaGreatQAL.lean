/- Part QAL of the proof that DropRefused answers true whatever its input. No condition. -/
import Derived.Test.YthgpdljlehklhaaGreatQAH
import Derived.Test.YthgpdljlehklhaaGreatQAK
import Derived.Test.YthgpdljlehklhaaGreatQAJ
set_option maxRecDepth 100000
namespace Go.Proofs.YthgpdljlehklhaaGreat.eb
open Go Go.Conc zr dr
open Go.ConcN (upd upd_ne upd_same)
set_option linter.unusedVariables false
theorem fbv {P' P:Prop}(h2:P')(h:Wrp P'→P:=by intro hG;((apply cr.valS mh (by assumption) rfl;(case' ho=>rfl);(case' hm=>kernel_rfl);(case' hw=>rfl);(case' hr=>intro d;exact fxs);refine fnr ?_));exact hG.out):P:=h ⟨h2⟩
def vg (p:Nat)(v:Value):Value:= .agg (#[.int .i64 p]++v.cells)
def okE (v:Value):Prop:=∃cs:Array Value,v= .agg cs∧cs.size=19∧cs.all (·.oneCell')=true
def bE:Frame:={(default:Frame) with fn:=38,kind:= .normal}
noncomputable def wc (w:World):World:=w.alloc (.chan 0 #[] false 0 0 false)
noncomputable def XE [Bg] (w:World)(nj:Nat)(own:Nat→Nat→Prop)(pl:Nat→Nat)(D:Nat→Value)(fj:FuncId)(first capt:Array Value)(Rj:Nat→Value→World→Prop)(cs:List Frame):Ph:=
 {n:=nj,N0:=w.heap.size+1,b0:=0,c:=w.heap.size,wS:=⟨cy (wc w),own⟩,J:=fun j=>wJ Tryz.prog 67 aat (.int .i64 (pl j)) (D (pl j)) fj first capt w.heap.size (Rj j) (vg (pl j)) okE,b:=bE,CS:=cs}
theorem nineteen [Bg] {cs:Array Value}(h:cs.size=19):∃c0 c1 c2 c3 c4 c5 c6 c7 c8 c9 c10 c11 c12 c13 c14 c15 c16 c17 c18:Value,cs=#[c0,c1,c2,c3,c4,c5,c6,c7,c8,c9,c10,c11,c12,c13,c14,c15,c16,c17,c18]:=by
 obtain ⟨l⟩:=cs;have h:l.length=19:=h
 match l,h with
 | [c0,c1,c2,c3,c4,c5,c6,c7,c8,c9,c10,c11,c12,c13,c14,c15,c16,c17,c18],_=>exact ⟨c0,c1,c2,c3,c4,c5,c6,c7,c8,c9,c10,c11,c12,c13,c14,c15,c16,c17,c18,rfl⟩
theorem alk [Bg] {cs:Array Value}(p:Nat):vg p (.agg cs)= .agg (#[.int .i64 p]++cs):=rfl
theorem ak9 [Bg] {cs:Array Value}(h:cs.size=19)(p:Nat)(w:World):(Instr.build 173 #[(0,.int .i64 p),(1,.agg cs)]).run Tryz.prog w= .ok (vg p (.agg cs)) w∧(Instr.build 173 #[(0,.int .i64 p),(1,.agg cs)]).events Tryz.prog w #[]=#[]:=by
 obtain ⟨c0,c1,c2,c3,c4,c5,c6,c7,c8,c9,c10,c11,c12,c13,c14,c15,c16,c17,c18,rfl⟩:=nineteen h;have e:vg p (.agg #[c0,c1,c2,c3,c4,c5,c6,c7,c8,c9,c10,c11,c12,c13,c14,c15,c16,c17,c18])= .agg #[.int .i64 p,c0,c1,c2,c3,c4,c5,c6,c7,c8,c9,c10,c11,c12,c13,c14,c15,c16,c17,c18]:=by
  rw [alk];simp
 rw [e];constructor
 ·kernel_rfl
 ·kernel_rfl
theorem aj1 [Bg] (π:Pm)(v:Value):(al π v).oneCell'=v.oneCell':=by cases v <;> rfl
theorem ok_ren [Bg] (π:Pm){v:Value}(h:okE v):okE (al π v):=by
 obtain ⟨cs,rfl,h1,h2⟩:=h;refine ⟨az π cs,rfl,(il cs).trans h1,?_⟩;rw [Array.all_eq_true_iff_forall_mem] at h2 ⊢;intro x hx;rw [fh,Array.mem_map] at hx;obtain ⟨y,hy,rfl⟩:=hx;rw [aj1];exact h2 y hy
section
variable {w:World}{nj:Nat}{own:Nat→Nat→Prop}{pl:Nat→Nat}{D:Nat→Value}{fj:FuncId}{first capt:Array Value}{Rj:Nat→Value→World→Prop}{cs:List Frame}{b0:Nat}
theorem xe_ok [Bg] (hblind:∀j v w τ d,Rj j v w→Rj j v (tp w τ d))(hokR:∀j v w,Rj j v w→okE v):js GP Tryz.prog.funcs {XE w nj own pl D fj first capt Rj cs with b0:=b0}:=by
 refine ⟨mh,vh,rfl,fun j h0 hj=>wJ_ok Tryz.func67 vp fun v hv w=> ?_,fun j v w τ d h=>hblind j v w τ d h,fun j π v=> ?_,fun j v v' h1 h2 h=> ?_,fun j v w h=>hokR j v w h,fun j π v h=>ok_ren π h⟩
 ·obtain ⟨cs,rfl,h1,-⟩:=hv;exact ak9 h1 (pl j) w
 ·show al π (.agg (#[.int .i64 (pl j)]++v.cells))= .agg (#[.int .i64 (pl j)]++ (al π v).cells);simp only [al];rw [jl,ti];rfl
 ·obtain ⟨cs,rfl,-,-⟩:=h1;obtain ⟨cs',rfl,-,-⟩:=h2;have h:(.agg (#[.int .i64 (pl j)]++cs):Value)= .agg (#[.int .i64 (pl j)]++cs'):=h;rw [(Array.append_right_inj _).1 (Value.agg.inj h)]
end
structure RIn [Bg] (w:World)(n bd off:Nat)(D:Nat→Value)(cnt pl:Nat→Nat)(nj:Nat)(own frz:Nat→Nat→Prop)(fj:FuncId)(first capt:Array Value)(Rj:Nat→Value→World→Prop)(sc:Array Value)(bx:Nat):Prop where
 box:w.heap[bx]? =some (.cells sc 112 (0,0))
 frzb:frz 0 bx
 scs:sc.size=19
 sco:sc.all (·.oneCell')=true
 scl:∀π',aw w.heap.size one π'→az π' sc=sc
 pos:0<n
 lt:n<1000000
 disks:∀i,i<n→w.cell? ⟨bd,off+i,none⟩=some (D i)
 frz0:frz 0 bd
 own0:∀b,¬own 0 b
 ownOk:∀j,j≤nj→∀b,own j b→b<w.heap.size∧¬frz j b
 ownZ:∀j,j≤nj→∀b,own j b→¬zb b
 frzOk:∀j,j≤nj→∀b,frz j b→∃c e z,w.heap[b]? =some (.cells c e z)
 apart:∀j k,j≤nj→k≤nj→j≠k→∀b,own j b→¬own k b∧¬frz k b
 cl:∀j,j≠0→j≤nj→∀π',aw w.heap.size one π'→al π' (D (pl j))=D (pl j)
 jf:∀π',aw w.heap.size one π'→al π' (.func (.func fj) first capt)= .func (.func fj) first capt
 jobs:∀j,j≠0→j≤nj→∀τ d,Calls GP fj (first++ #[.int .i64 (pl j),D (pl j)]++capt) (tp (mask (own j) (frz j) (wc w)) τ d) (Ret (Rj j))
 blind:∀j v w τ d,Rj j v w→Rj j v (tp w τ d)
 okR:∀j v w,Rj j v w→okE v
 cnt0:cnt 0=0
 cntN:nj=cnt n
 cntLe:∀i,cnt i≤i
 cntMono:∀i,i<n→cnt (i+1)≤cnt n
 place:∀i,i<n→(D i= .nilIface∧cnt (i+1)=cnt i)∨((∃t x,D i= .iface t x)∧cnt (i+1)=cnt i+1∧pl (cnt i+1)=i)
 plLt:∀j,j≠0→j≤nj→pl j<n
 plInj:∀j j',j≠0→j≤nj→j'≠0→j'≤nj→pl j=pl j'→j=j'
structure uq [Bg] (w w':World)(n:Nat)(pl:Nat→Nat)(nj:Nat)(own:Nat→Nat→Prop)(Rj:Nat→Value→World→Prop)(sc:Array Value)(o:Nat)(cells:Array Value):Prop where
 whole:Whole GP w'
 base:Base one w'.heap.size
 size:w.heap.size<w'.heap.size
 new:w.heap.size<o
 out:w'.heap[o]? =some (.cells cells 112 (0,0))
 len:cells.size=n*19
 rest:∀b,b<w.heap.size→(∀j,j≤nj→¬own j b)→w'.heap[b]? =w.heap[b]?
 jobs:∃M:Nat→Mem,(∀j k,j≠0→j≤nj→k≤nj→j≠k→∀r,(M j).Has r→¬(M k).sg r)∧(∀j,j≠0→j≤nj→¬(M j).sg o)∧(∀j,j≤nj→∀r,(M j).Has r→¬zb r)∧
  ∀j,j≠0→j≤nj→∃cs:Array Value,Rj j (.agg cs) (M j).w∧At GP (M j).Z (M j).F (M j).π (tp (M j).w w'.tape w'.drawn) (cy w')∧aw (w.heap.size+1) one (M j).π∧w.heap.size+1≤(M j).w.heap.size∧cs.size=19∧Row 19 cells (pl j) (az (M j).π cs)
 nil:∀p,p<n→(∀j,j≠0→j≤nj→pl j≠p)→Row 19 cells p sc
 os:w'.os=w.os
 output:w'.output=w.output
section
variable {w:World}{n bd off cap nj:Nat}{own frz:Nat→Nat→Prop}{cnt pl:Nat→Nat}{D:Nat→Value}{fj:FuncId}{first capt:Array Value}{Rj:Nat→Value→World→Prop}{cs:List Frame}{b0:Nat}{a:Act}{sc:Array Value}{bx:Nat}{Q:Goroutine→World→Prop}
theorem aah [Bg] (R:RIn w n bd off D cnt pl nj own frz fj first capt Rj sc bx){fnj:Func}{cj:Code}(hfj:Tryz.prog.funcs[fj]? =some fnj)(hbj:fnj.body=some cj)(hS:Sound GP (wc w) a)(hsz:(a.tmps.size=66∧a.defers=[]))(h0:a.eval (.tmp 0)= .slice (some ⟨bd,off,none⟩) n cap)(h2:a.eval (.tmp 2)= .func (.func fj) first capt)(h7:a.eval (.tmp 7)=pO bx)(h10:a.eval (.tmp 10)= .chan (some w.heap.size))(h11:a.eval (.tmp 11)= .int .i64 0)
  (hk:∀a1 w' o cells,uq w w' n pl nj own Rj sc o cells→Sound GP w' a1→(a1.tmps.size=66∧a1.defers=[])→a1.eval (.tmp 0)= .slice (some ⟨bd,off,none⟩) n cap→a1.eval (.tmp 14)=sO o n n→cr (aq GP Tryz.prog.funcs) Q (av (bE.at a1 [.code (sR e20)]) cs) w'):
  cr (aq GP Tryz.prog.funcs) Q (av (bE.at a [.code e7]) cs) (wc w):=by
 have hsw:(wc w).heap.size=w.heap.size+1:=by simp [wc]
 have hold:∀b,b<w.heap.size→(wc w).heap[b]? =w.heap[b]? :=fun b hb=>by
  unfold wc World.alloc;rw [Array.getElem?_push_lt hb,Array.getElem?_eq_getElem hb]
 have hK:=fun b0=>xe_ok (w:=w) (nj:=nj) (own:=own) (pl:=pl) (D:=D) (fj:=fj) (first:=first) (capt:=capt) (cs:=cs) (b0:=b0) R.blind R.okR
 have hfz:∀j,j≤nj→∀b,frz j b→b<w.heap.size:=fun j hj b hb=>by
  obtain ⟨c,e,z,h⟩:=R.frzOk j hj b hb;exact bf h
 have hB:uf GP (XE w nj own pl D fj first capt Rj cs) frz (wc w):=by
  refine ⟨hS.whole,hS.base,hsw.symm,⟨rfl,rfl,rfl⟩,R.ownZ,R.own0,fun j hj b hb=> ?_,fun j hj b hb=> ?_,R.apart,⟨0,false,bu⟩,fun j h0 hj π' ha=> ?_,fun j h0 hj τ d=>R.jobs j h0 hj τ d⟩
  ·obtain ⟨x1,x2⟩:=R.ownOk j hj b hb;exact ⟨by show b<w.heap.size+1;omega,by show b≠w.heap.size;omega,x2⟩
  ·have hlt:=hfz j hj b hb;obtain ⟨c,e,z,h⟩:=R.frzOk j hj b hb;exact ⟨by show b≠w.heap.size;omega,c,e,z,by rw [hold b hlt,h]⟩
  ·have ha:aw w.heap.size one π':=aw.mono (show aw (w.heap.size+1) one π' from ha) ai;have hj1:=R.jf π' ha;simp only [al,Value.func.injEq] at hj1;show az π' (first++ #[.int .i64 (pl j),D (pl j)]++capt)=_;simp only [fh] at hj1 ⊢;rw [Array.map_append,Array.map_append,hj1.2.1,hj1.2.2];simp only [List.map_toArray,List.map_cons,List.map_nil,R.cl j h0 hj π' ha];rfl
 have hbd:bd<w.heap.size:=hfz 0 (Nat.zero_le _) bd R.frz0;refine cr.round (X:=XE w nj own pl D fj first capt Rj cs) (frz:=frz) (hK 0) hB hS.defers (fun π' ha=>hS.act π' (by rw [hsw];exact ha)) fun b0=> ?_
 have hsm:(oc (XE w nj own pl D fj first capt Rj cs) frz (wc w) 0).w.heap.size=w.heap.size+1:=(mi _ _ _).trans hsw;have hbox:(oc (XE w nj own pl D fj first capt Rj cs) frz (wc w) 0).w.heap[bx]? =some (.cells sc 112 (0,sc.size)):=by
  show (mask (own 0) (frz 0) (wc w)).heap[bx]? =_;rw [sn,hold bx (bf R.box),R.box,Option.map_some,if_pos R.frzb];rfl
 refine loops (X:={XE w nj own pl D fj first capt Rj cs with b0:=b0}) (n:=n) (cnt:=cnt) (pl:=pl) (D:=D) (sc:=sc) (bx:=bx) (zb:=(0,sc.size)) (hK b0) hfj hbj hsz h0 h2 h7 hbox R.scs R.sco h10 h11 R.lt (by show w.heap.size<w.heap.size+1;omega) (fun π' ha=>R.jf π' (aw.mono ha (by show w.heap.size≤w.heap.size+1;omega))) R.cnt0 R.cntLe R.cntN R.cntMono (fun i hi=> ?_) (fun i hi=> ?_) (fun j h0 hj=>⟨R.plLt j h0 hj,fun cs=>rfl⟩) (fun j v _ _ h=>h) R.plInj (fun a1 w1 σ1 cells g1 g2 g3 g4 g5 g6 g7 g8 g9=> ?_)
 ·obtain ⟨c,e,z,hc⟩:=R.frzOk 0 (Nat.zero_le _) bd R.frz0;have hd:=R.disks i hi;unfold World.cell? at hd ⊢;rw [hc] at hd;show (match (mask (own 0) (frz 0) (wc w)).heap[bd]? with|some (.cells c _ _)=>_|_=>none)=_;rw [sn,hold bd hbd,hc,Option.map_some,if_pos R.frz0];exact hd
 ·rcases R.place i hi with h|⟨h1,h2,h3⟩
  ·exact .inl h
  ·have hle:cnt i+1≤nj:=by
    have:=R.cntMono i hi;have:=R.cntN;omega
   refine .inr ⟨⟨⟨Rj (cnt i+1),vg i,okE,?_⟩,h1,fun π' ha=> ?_⟩,h2⟩
   ·show wJ Tryz.prog 67 aat (.int .i64 (pl (cnt i+1))) (D (pl (cnt i+1))) fj first capt w.heap.size (Rj (cnt i+1)) (vg (pl (cnt i+1))) okE=_
    rw [h3];rfl
   ·have:=R.cl (cnt i+1) ai hle π' (aw.mono (show aw (w.heap.size+1) one π' from ha) ai);rw [h3] at this;exact this
 ·refine bc.done ⟨g7,fun j h0 hj=> ?_,fun π0 w' hcl hE=> ?_⟩
  ·obtain ⟨z,hz,-⟩:=g8 j h0 hj;rw [hz];simp
  ·obtain ⟨M,rfl,⟨τ0,d0,hM0⟩,hA,hap,hnz,hjb⟩:=hE.all;rw [hsm] at g3 g5;have hag:aw (w.heap.size+1) one (M 0).π:=hE.ag;have hZ:¬(M 0).Z (w.heap.size+1):=fun h=>by
    have h1:=(hA.rob (M 0).π (aw.refl _ _)).gu _ h;have h1:w1.heap[w.heap.size+1]? =some gu:=h1;rw [g5] at h1;cases h1
   have hF:¬(M 0).F (w.heap.size+1):=fun h=>by
    obtain ⟨c,e,z,h1,-⟩:=(hA.rob (M 0).π (aw.refl _ _)).fz _ h;have h1:w1.heap[w.heap.size+1]? =some (.cells c e (0,c.size)):=h1;rw [g5] at h1;simp only [Option.some.injEq,Obj.cells.injEq,Prod.mk.injEq,true_and] at h1;obtain ⟨rfl,-,h2⟩:=h1;have:=R.pos;omega
   have hob:=((hA.rob (M 0).π (aw.refl _ _)).own _ _ (show (tp w1 w'.tape w'.drawn).heap[w.heap.size+1]? =_ from g5) hZ hF).2;have hob:w'.heap[(M 0).π.to (w.heap.size+1)]? =_:=(j9 (hnz 0 (Nat.zero_le _) _ ⟨w.heap.size+1,by rw [hM0];exact bf g5,hZ,hF,rfl⟩)).symm.trans hob;have hnew:w.heap.size< (M 0).π.to (w.heap.size+1):=by
    apply Classical.byContradiction;intro hx;have h1:=hag ((M 0).π.to (w.heap.size+1)) ai;have h2:=(M 0).π.inj (h1.trans rfl);have h2:(M 0).π.to (w.heap.size+1)=w.heap.size+1:=h2;omega
   have hget:∀p (cs:Array Value),Row 19 cells p cs→Row 19 (az (M 0).π cells) p (az (M 0).π cs):=fun p cs h t ht=>by
    rw [ja,ja,h t ht]
   have hsc0:az (M 0).π sc=sc:=R.scl (M 0).π (aw.mono hag ai);have hev:∀x,(dw (M 0).π a1).eval (.tmp x)=al (M 0).π (a1.eval (.tmp x)):=fun x=>pw (M 0).π a1 (.tmp x) rfl
   have hsz':w.heap.size+1≤w'.heap.size:=hE.size;refine hk (dw (M 0).π a1) w' ((M 0).π.to (w.heap.size+1)) (az (M 0).π cells) ⟨hE.whole,hE.base,by omega,hnew,hob,(il cells).trans g6,fun b hb hn=> ?_,⟨M,fun j k hj0 hj hk hne r=>hap j k hj hk hne r,fun j hj0 hj=>hap 0 j (Nat.zero_le _) hj (fun e=>hj0 e.symm) _ ⟨w.heap.size+1,by rw [hM0];exact bf g5,hZ,hF,rfl⟩,hnz,fun j hj0 hj=> ?_⟩,fun p hp hx=>by have:=hget p sc (g9 p hp hx);rwa [hsc0] at this,hE.os,hE.out⟩ (abk (w1:=tp w1 w'.tape w'.drawn) hcl hA hE.whole hE.base g1.2) ⟨(il a1.tmps).trans g1.1,g1.2⟩ ?_ ?_
   ·rw [←hold b hb]
    by_cases hz:zb b
    ·rw [(hE.whole.rob one (aw.refl _ _)).gu b hz,(hS.whole.rob one (aw.refl _ _)).gu b hz]
    ·rw [←j9 hz,hE.rest b (show b<w.heap.size+1 by omega) (show b≠w.heap.size by omega) hn];exact j9 hz
   ·obtain ⟨v0,v,e1,e2,e3,e4,e5,e6,e7⟩:=hjb j hj0 hj;obtain ⟨cs0,e8,e9,e10⟩:=g8 j hj0 hj;rw [e1] at e8;obtain rfl:=Option.some.inj e8;obtain ⟨cs1,rfl,x1,x2⟩:=R.okR j v _ e2;have e7:(Value.agg (az (M 0).π cs0))= .agg (az (M j).π cs1):=e7;have e7:=Value.agg.inj e7;refine ⟨cs1,e2,e4,e5,e6,x1,?_⟩;rw [←e7];exact hget _ _ e10
   ·rw [hev,(g2 0 ae).trans h0];show Value.slice (some ⟨(M 0).π.to bd,off,none⟩) n cap=_;rw [hag bd ai];rfl
   ·rw [hev,g3];rfl
end
end Go.Proofs.YthgpdljlehklhaaGreat.eb
namespace Go.Proofs.YthgpdljlehklhaaGreat.eb
open Go Go.Conc zr dr
set_option linter.unusedVariables false
def wb (w:World)(sc:Array Value):World:=w.alloc (.cells sc 112)
def wa (w:World):Ending→World→Prop:=fun e w2=>e= .returned (.bool false)∧∃τ d,w2=tp w τ d
section
variable {w:World}{n bd off cap nj:Nat}{own frz:Nat→Nat→Prop}{cnt pl:Nat→Nat}{D:Nat→Value}{fj:FuncId}{first capt:Array Value}{Rj:Nat→Value→World→Prop}{cs:List Frame}{b0:Nat}{a:Act}{sc:Array Value}{bx:Nat}{Q:Goroutine→World→Prop}{done:Value}{T A':List Frame}{c fr0:Frame}{RE:Ending→World→Prop}
theorem ad0 [Bg] {N o:Nat}(hsz0:N≤w.heap.size)(hS:Sound GP w a)(hsz:a.tmps.size=66∧a.defers=[])(h0:a.eval (.tmp 0)= .slice (some ⟨bd,off,none⟩) n cap)(h14:a.eval (.tmp 14)=sO o n n)(ho:o<w.heap.size)
  {R:Ending→World→Prop}(hbE:gz RE)(hbl:gz R)(hcl:∀τ d,Calls GP 44 #[.slice (some ⟨bd,off,none⟩) n cap] (tp w τ d) R)(hret:∀e w2,R e w2→∃v,e= .returned v)(hmono:∀e w2,R e w2→w.heap.size≤w2.heap.size)(hRE:∀v w2,R (.returned v) w2→RE (.returned (.tuple #[sO o n n,.int .i64 0])) w2):
  cr (aq GP Tryz.prog.funcs) (Bk GP RE N c T) (av (bE.at a [.code (sR e20)]) (c::T)) w:=by
 refine cr.seq (cr.region ?_);refine fbv ?_;intro hS;rename_i hS0;refine cr.agv mh vh hS rfl rfl du ae rfl hbl (f:=44) (args:=#[.slice (some ⟨bd,off,none⟩) n cap]) (uw Tryz.func44 rfl (by decide+kernel)) (fun d=> ?_) hcl hret hmono fun v w2 hr hS2=> ?_
 ·rw [cw (a:=a.put (some 63) (.slice (some ⟨bd,off,none⟩) n cap)) (f:=44) (xs:=#[.tmp 63]) (ts:=#[23]) rfl];simp+decide only [List.map_toArray,List.map_cons,List.map_nil,eval_put,size_put,if_true,hsz];exact nq (jd Tryz.func44 rfl (by decide+kernel)) rfl (my _ _ Tryz.func44) _ _
 refine fnr ?_;simp only [List.getElem_toArray,List.getElem_cons_zero,List.getElem_cons_succ] at hS2;refine cr.ak (cr.seq (cr.region ?_));have hm2:=hmono _ _ hr;refine fbv ?_;intro hS;refine fbv ?_;intro hS;refine fbv ?_;intro hS;refine cr.ak (cr.ahv hS rfl Tryz.func38 rfl (fun d=> ?_) (Nat.le_trans hsz0 hm2) fun π' ha=> ?_)
 ·refine fes ?_;exact hbE _ _ w2.tape d (hRE v w2 hr)
 ·refine fes ?_;simp only [al,az,jr];show Value.tuple #[sO (π'.to o) n n,_]=_;rw [ha o ai];rfl
theorem aef [Bg] (f:Fn)(first capt:Array Value)(w:World):Sem.run GP (do
  eqGuard .eql 114 (.tmp 17) (.const .nilFunc) (.func f first capt) .nilFunc
  binOp .eql 114 (.func f first capt) .nilFunc) w= .ok (.bool false) w:=by
 go_simp
 have e:binOp .eql 114 (.func f first capt) .nilFunc=(do pure (.bool (←Op.equal 114 (.func f first capt) .nilFunc))):=by kernel_rfl
 have h:(Op.equal 114 (.func f first capt) .nilFunc).run GP w= .ok false w:=by kernel_rfl
 rw [e,Sem.run_bind,h];rfl
theorem RIn.tp [Bg] (R:RIn w n bd off D cnt pl nj own frz fj first capt Rj sc bx)(τ:Tap)(d:Nat):RIn (zr.tp w τ d) n bd off D cnt pl nj own frz fj first capt Rj sc bx:=
 ⟨R.box,R.frzb,R.scs,R.sco,R.scl,R.pos,R.lt,R.disks,R.frz0,R.own0,R.ownOk,R.ownZ,R.frzOk,R.apart,R.cl,R.jf,fun j h0 hj τ2 d2=>R.jobs j h0 hj τ2 d2,R.blind,R.okR,R.cnt0,R.cntN,R.cntLe,R.cntMono,R.place,R.plLt,R.plInj⟩
theorem uq.untp [Bg] {w':World}{o:Nat}{cells:Array Value}{τ:Tap}{d:Nat}(h:uq (zr.tp w τ d) w' n pl nj own Rj sc o cells):uq w w' n pl nj own Rj sc o cells:=
 ⟨h.whole,h.base,h.size,h.new,h.out,h.len,h.rest,h.jobs,h.nil,h.os,h.output⟩
theorem ah0 [Bg] (u:World):(Instr.makeChan 170 (.int .i64 0)).run GP u= .ok (.chan (some u.heap.size)) (wc u):=by
 unfold Instr.makeChan
 go_simp
 rfl
theorem box_run [Bg] (u:World):(Instr.box 112 (.agg sc)).run GP u= .ok (pO u.heap.size) (wb u sc):=by
 unfold Instr.box
 go_simp
 rfl
theorem afu [Bg] {fnj:Func}{cj:Code}(hfj:Tryz.prog.funcs[fj]? =some fnj)(hbj:fnj.body=some cj)(hR:RIn (wb w sc) n bd off D cnt pl nj own frz fj first capt Rj sc w.heap.size)
  (hstop:∀τ d,Calls GP 42 #[done] (tp (wb w sc) τ d) (wa (wb w sc)))(hbE:gz RE)
  (hend:∀w' o cells,uq (wb w sc) w' n pl nj own Rj sc o cells→∃R:Ending→World→Prop,gz R∧(∀τ d,Calls GP 44 #[.slice (some ⟨bd,off,none⟩) n cap] (tp w' τ d) R)∧(∀e w2,R e w2→∃v,e= .returned v)∧(∀e w2,R e w2→w'.heap.size≤w2.heap.size)∧∀v w2,R (.returned v) w2→RE (.returned (.tuple #[sO o n n,.int .i64 0])) w2):
  UCx GP Tryz.prog.funcs 38 #[.slice (some ⟨bd,off,none⟩) n cap,done,.func (.func fj) first capt,.agg sc] w RE:=by
 intro c T hF;have hS:=yy (m:=62) hF;rw [enter_at (P:=aq GP Tryz.prog.funcs) (m:=62) Tryz.func38 (c:=ec) rfl rfl];have v0:=jb (m:=62) (k:=0) (xs:=#[.slice (some ⟨bd,off,none⟩) n cap,done,.func (.func fj) first capt,.agg sc]) rfl;have v1:=jb (m:=62) (k:=1) (xs:=#[.slice (some ⟨bd,off,none⟩) n cap,done,.func (.func fj) first capt,.agg sc]) rfl;have v2:=jb (m:=62) (k:=2) (xs:=#[.slice (some ⟨bd,off,none⟩) n cap,done,.func (.func fj) first capt,.agg sc]) rfl;have v3:=jb (m:=62) (k:=3) (xs:=#[.slice (some ⟨bd,off,none⟩) n cap,done,.func (.func fj) first capt,.agg sc]) rfl;have hsz:(⟨#[.slice (some ⟨bd,off,none⟩) n cap,done,.func (.func fj) first capt,.agg sc]++Array.replicate 62 undef,[]⟩:Act).tmps.size=66∧(⟨#[.slice (some ⟨bd,off,none⟩) n cap,done,.func (.func fj) first capt,.agg sc]++Array.replicate 62 undef,[]⟩:Act).defers=[]:=⟨by simp,rfl⟩;simp only [List.getElem_toArray,List.getElem_cons_zero,List.getElem_cons_succ] at v0 v1 v2 v3;generalize (⟨#[.slice (some ⟨bd,off,none⟩) n cap,done,.func (.func fj) first capt,.agg sc]++Array.replicate 62 undef,[]⟩:Act)=a at hS hsz v0 v1 v2 v3 ⊢;show cr _ _ (av (bE.at a [.code ec]) (c::T)) w;refine cr.seq (cr.region ?_);apply cr.val (v:=pO w.heap.size) (w1:=wb w sc) mh hS rfl
 (case ho=>rfl);(case hm=>kernel_rfl);(case hw=>rfl)
 (case hr=>
  intro d2;refine fnr ?_;dsimp only [execOp];simp only [v3];rw [Sem.run_bind,box_run];rfl)
 refine fnr ?_;intro hS;refine fbv ?_;intro hS;refine fbv ?_;intro hS;have hsb:(wb w sc).heap.size=w.heap.size+1:=by simp [wb]
 refine cr.ak (cr.seq (cr.seq (cr.region ?_)));refine fbv ?_;intro hS;apply cr.valS (v:= .bool false) mh hS rfl
 (case ho=>rfl);(case hm=>kernel_rfl);(case hw=>rfl)
 (case hr=>
  intro d;refine fnr ?_;dsimp only [execOp];simp+decide only [eval_put,eval_const,size_put,if_true,if_false,v2,hsz];rw [Sem.run_bind,aef];rfl)
 refine fnr ?_;intro hS;refine cr.ak (cr.cond (t:=false) (by simp+decide only [eval_put,size_put,if_true,if_false,hsz]) (cr.skip (cr.seq (cr.seq (cr.region ?_)))));refine fbv ?_;intro hS;have hrs:gz (wa (wb w sc)):=fun e w2 τ d ⟨h1,τ2,d2,h2⟩=>⟨h1,τ,d,by rw [h2];rfl⟩
 refine cr.agv mh vh hS rfl rfl du ae rfl hrs (f:=42) (args:=#[done]) (uw Tryz.func42 rfl (by decide+kernel)) (fun d=> ?_) hstop (fun e w2 h=>⟨_,h.1⟩) (fun e w2 ⟨_,τ,d,h⟩=>by rw [h];exact Nat.le_refl _) fun v w2 hr hS2=> ?_
 ·rw [cw (f:=42) (xs:=#[.tmp 19]) (ts:=#[43]) rfl];simp+decide only [List.map_toArray,List.map_cons,List.map_nil,eval_put,size_put,if_true,if_false,hsz,v1];exact nq (jd Tryz.func42 rfl (by decide+kernel)) rfl (my _ _ Tryz.func42) _ _
 obtain ⟨hv,τ,d,rfl⟩:=hr;obtain rfl:v= .bool false:=by simpa using hv
 refine fnr ?_;simp only [List.getElem_toArray,List.getElem_cons_zero,List.getElem_cons_succ] at hS2;refine cr.ak (cr.cond (t:=false) (by simp+decide only [eval_put,size_put,if_true,if_false,hsz]) (cr.skip (cr.seq (cr.region ?_))));have hsw:(wc (tp (wb w sc) τ d)).heap.size=w.heap.size+2:=by simp [wc,wb]
 apply cr.val (v:= .chan (some (wb w sc).heap.size)) (w1:=wc (tp (wb w sc) τ d)) mh hS2 rfl
 (case ho=>rfl);(case hm=>kernel_rfl);(case hw=>rfl)
 (case hr=>
  intro d2;refine fnr ?_;dsimp only [execOp];simp only [eval_const];rw [Sem.run_bind,ah0];rfl)
 refine fnr ?_;intro hS;refine fbv ?_;intro hS;refine cr.ak (cr.seq (cr.region ?_));refine fbv ?_;intro hS;refine cr.ak ?_;refine aah (w:=tp (wb w sc) τ d) (n:=n) (bd:=bd) (off:=off) (cap:=cap) (sc:=sc) (bx:=w.heap.size) (hR.tp τ d) hfj hbj hS bz (fev) (fev) (fev) (by refine fes ?_;rw [afe,hsb]) (fev) fun a1 w' o cells hO hS1 hsz1 h0 h14=> ?_
 obtain ⟨R,r1,r2,r3,r4,r5⟩:=hend w' o cells hO.untp;have hlt:w.heap.size≤w'.heap.size:=by
  have:=hO.untp.size;omega
 exact ad0 (N:=w.heap.size) hlt hS1 hsz1 h0 h14 (bf hO.out) hbE r1 r2 r3 r4 r5
end
end Go.Proofs.YthgpdljlehklhaaGreat.eb
namespace Go.Proofs.YthgpdljlehklhaaGreat.ea
open Go Go.Conc zr dr
set_option linter.unusedVariables false
def sL:Code→Code| .seq a _=>a|c=>c
def sR:Code→Code| .seq _ b=>b|c=>c
def inB:Code→Code| .block _ c=>c|c=>c
def inL:Code→Code| .loop c=>c|c=>c
noncomputable def ec:Code:=Tryz.f14.body.getD .skip
noncomputable def e14:Code:=sR (sR (sR (sR (sR (sR ec)))))
noncomputable def e15:Code:=sR e14
noncomputable def si:Code:=inL (inB (sR (sL e15)))
theorem eev {P:Prop}(h:P:=by first|(simp+decide only [eval_put,bn,eval_const,size_put,if_true,if_false, *];done)|fail):P:=h
theorem eer {P:Prop}(h:P:=by simp+decide only [eval_put,bn,eval_const,size_put,if_true,if_false, *];first|done|rfl):P:=h
theorem enr {P' P:Prop}(h2:P')(h:Wrp P'→P:=by intro hG;(try simp only [List.getElem_toArray,List.getElem_cons_zero,List.getElem_cons_succ,sL,sR,inB,inL]);exact hG.out):P:=h ⟨h2⟩
theorem ees {P' P:Prop}(h2:P')(h:Wrp P'→P:=by intro hG;(simp+decide only [eval_put,bn,eval_const,size_put,if_true,if_false, *]);exact hG.out):P:=h ⟨h2⟩
theorem exr {P:Prop}(h:P:=by (try simp only [List.getElem_toArray,List.getElem_cons_zero,List.getElem_cons_succ,sL,sR,inB,inL]);dsimp only [execOp,resolve];(try simp+decide only [eval_put,bn,eval_const,size_put,if_true,if_false,List.map_toArray,List.map_cons,List.map_nil, *]);go_simp;first|done|exact ⟨rfl,rfl⟩|rfl):P:=h
theorem exs {P:Prop}(h:P:=by (try simp only [List.getElem_toArray,List.getElem_cons_zero,List.getElem_cons_succ,sL,sR,inB,inL]);dsimp only [execOp,resolve];(try simp+decide only [eval_put,bn,eval_const,size_put,if_true,if_false,List.map_toArray,List.map_cons,List.map_nil, *]);go_simp;first|done|rfl):P:=h
theorem epv {P' P:Prop}(h2:P')(h:Wrp P'→P:=by intro hG;((apply bc.val (by assumption);(case' ho=>rfl);(case' hm=>kernel_rfl);(case' hw=>rfl);(case' hr=>intro τ d;exact exr);refine enr ?_));exact hG.out):P:=h ⟨h2⟩
theorem epp {P' P:Prop}(h2:P')(h:Wrp P'→P:=by intro hG;((apply bc.put (by assumption);(case' ho=>rfl);(case' hm=>kernel_rfl);(case' hw=>rfl);(case' hr=>intro τ d;exact exs);refine enr ?_));exact hG.out):P:=h ⟨h2⟩
def kpL:List Nat:=[0,1,2,3,7,10,11,14,42]
theorem ekp {P:Prop}(h:P:=by (intro kk hkk;simp only [kpL,List.mem_cons,List.not_mem_nil,or_false] at hkk;(repeat' (rcases hkk with hkk|hkk)) <;> (simp+decide only [eval_put,bn,size_put,if_true,if_false, *]))):P:=h
section
variable {X:Ph}{Q:Sg→Act→List Item→World→Prop}{σ:Sg}{k:List Item}{a:Act}{w:World}{n i ob:Nat}{cells:Array Value}{s:Int}
theorem ab0 (K:js GP Tryz.prog.funcs X)
  (hsz:(a.tmps.size=66∧a.defers=[]))(h43:a.eval (.tmp 43)= .int .i64 i)(h42:a.eval (.tmp 42)= .int .i64 n)(h14:a.eval (.tmp 14)=sO ob n n)(h3:a.eval (.tmp 3)= .int .i64 s)(hi:i<n)(hn:n<1000000)(hc:w.heap[ob]? =some (.cells cells 33 (0,0)))(hcs:cells.size=n)
  (hk:∀a1:Act,(a1.tmps.size=66∧a1.defers=[])→a1.eval (.tmp 43)= .int .i64 (i+1:Nat)→Kp kpL a a1→bc GP Tryz.prog.funcs X Q σ a1 k (w.setCell ⟨ob,i,none⟩ (.int .i64 s))):bc GP Tryz.prog.funcs X Q σ a (.code si::k) w:=by
 have hcell:w.cell? ⟨ob,i,none⟩=some cells[i]! :=by
  have:i<cells.size:=by omega
  simp [World.cell?,hc,this]
 have hfree:w.frozen? ⟨ob,i,none⟩=false:=by
  simp [World.frozen?,hc]
 refine bc.seq K (bc.region K ?_);refine epv ?_;refine bc.ak K (bc.seq K (bc.cond K (t:=true) du ?_ ?_))
 ·exact eev
 refine bc.skip K ?_;refine bc.seq K (bc.block K (bc.seq K (bc.region K ?_)));refine epv ?_;refine epv ?_;refine bc.ak K (bc.region K ?_);refine epv ?_;refine epv ?_;refine epv ?_;refine epv ?_;refine epp ?_;refine bc.ak K (bc.inBlock K (bc.region K ?_));refine epv ?_;refine epv ?_;refine bc.ak K (hk _ bz ?_ (ekp));refine ees ?_;rw [jv i ai]
theorem abp (K:js GP Tryz.prog.funcs X){a0:Act}{w0:World}(hn:n<1000000)(h3:a0.eval (.tmp 3)= .int .i64 s)(h42:a0.eval (.tmp 42)= .int .i64 n)(h14:a0.eval (.tmp 14)=sO ob n n)
  (hk:∀(a1:Act)(w1:World)(cells:Array Value),(a1.tmps.size=66∧a1.defers=[])→Kp kpL a0 a1→Oth ob w0 w1→w1.heap[ob]? =some (.cells cells 33 (0,0))→cells.size=n→(∀j,j<n→cells[j]? =some (.int .i64 s))→bc GP Tryz.prog.funcs X Q σ a1 k w1):
  ∀m i a w cells,i+m=n→(a.tmps.size=66∧a.defers=[])→Kp kpL a0 a→Oth ob w0 w→a.eval (.tmp 43)= .int .i64 (i:Nat)→w.heap[ob]? =some (.cells cells 33 (0,0))→cells.size=n→(∀j,j<i→cells[j]? =some (.int .i64 s))→
   bc GP Tryz.prog.funcs X Q σ a (.code si:: .inLoop si:: .inBlock 2::k) w:=by
 intro m
 induction m with
 |zero=>
  intro i a w cells him hsz hkp ho h43 hc hcs hall;obtain rfl:i=n:=by omega
  have e42:=(hkp 42 (by simp [kpL])).trans h42;refine bc.seq K (bc.region K ?_);refine epv ?_;refine bc.ak K (bc.seq K (bc.cond K (t:=false) du ?_ ?_))
  ·exact eev
  refine bc.exit K rfl (hk _ w cells bz (hkp.trans (ekp)) ho hc hcs hall)
 |succ m ih=>
  intro i a w cells him hsz hkp ho h43 hc hcs hall;have e42:=(hkp 42 (by simp [kpL])).trans h42;have e14:=(hkp 14 (by simp [kpL])).trans h14;have e3:=(hkp 3 (by simp [kpL])).trans h3;refine ab0 K hsz h43 e42 e14 e3 ai hn hc hcs fun a1 g1 g2 g3=>bc.inLoop K (ih (i+1) a1 _ (cells.setIfInBounds i (.int .i64 s)) ai g1 (hkp.trans g3) (ho.trans Oth.set) g2 (ee hc) (by simp [hcs]) fun j hj=> ?_)
  rw [Array.getElem?_setIfInBounds]
  by_cases e:i=j
  ·subst e;simp [hcs];omega
  ·rw [if_neg e];exact hall j ai
end
noncomputable def e7:Code:=sR (sR (sR (sR (sR ec))))
noncomputable def q7:Code:=inL (inB (sR (sL e7)))
def inR:Code→Array Oper| .region _ o _=>o|_=>#[]
noncomputable def aat:Array Oper:=inR (Tryz.f43.body.getD .skip)
theorem vp:aaz Tryz.f43 0 aat 120:=⟨rfl,rfl,rfl,rfl,⟨_,rfl,rfl,rfl,rfl⟩,⟨_,rfl,rfl,rfl,rfl⟩,⟨_,rfl,rfl,rfl,rfl⟩,⟨_,rfl,rfl,rfl,rfl⟩,⟨_,rfl,rfl,rfl,rfl⟩,⟨_,_,rfl,rfl,rfl,rfl⟩,⟨_,rfl,rfl,rfl,rfl⟩,⟨_,rfl,rfl,rfl,rfl⟩⟩
def kpS:List Nat:=[0,1,2,3,7,10,22,23]
theorem eks {P:Prop}(h:P:=by (intro kk hkk;simp only [kpS,List.mem_cons,List.not_mem_nil,or_false] at hkk;(repeat' (rcases hkk with hkk|hkk)) <;> (simp+decide only [eval_put,bn,size_put,if_true,if_false, *]))):P:=h
structure aap (X:Ph)(c:Nat)(i j:Nat)(d:Value)(fj:FuncId)(first capt:Array Value):Prop where
 it:∃R told ok,X.J j=wJ Tryz.prog 43 aat (.int .i64 i) d fj first capt c R told ok
 nz:∃t x,d= .iface t x
 cl:∀π',aw X.N0 one π'→al π' d=d
section
variable {X:Ph}{Q:Sg→Act→List Item→World→Prop}{σ:Sg}{k:List Item}{a:Act}{w:World}{n i bd off cap:Nat}{D:Nat→Value}{cnt:Nat→Nat}{fj:FuncId}{first capt:Array Value}
theorem aai (K:js GP Tryz.prog.funcs X){fnj:Func}{cj:Code}(hfj:Tryz.prog.funcs[fj]? =some fnj)(hbj:fnj.body=some cj)
  (hsz:(a.tmps.size=66∧a.defers=[]))(h24:a.eval (.tmp 24)= .int .i64 i)(h23:a.eval (.tmp 23)= .int .i64 n)(h22:a.eval (.tmp 22)= .slice (some ⟨bd,off,none⟩) n cap)(h2:a.eval (.tmp 2)= .func (.func fj) first capt)(h10:a.eval (.tmp 10)= .chan (some X.c))(h11:a.eval (.tmp 11)= .int .i64 (cnt i))(hi:i<n)(hn:n<1000000)(hci:cnt i≤i)
  (hsp:σ.sp=cnt i)(hgv:∀j,σ.gv j=none)(hX:cnt (i+1)≤X.n)(hc0:X.c<X.N0)(hjf:∀π',aw X.N0 one π'→al π' (.func (.func fj) first capt)= .func (.func fj) first capt)
  (hD:w.cell? ⟨bd,off+i,none⟩=some (D i))(hJ:(D i= .nilIface∧cnt (i+1)=cnt i)∨(aap X X.c i (cnt i+1) (D i) fj first capt∧cnt (i+1)=cnt i+1))
  (hk:∀(a1:Act)(σ1:Sg),(a1.tmps.size=66∧a1.defers=[])→a1.eval (.tmp 24)= .int .i64 (i+1:Nat)→a1.eval (.tmp 11)= .int .i64 (cnt (i+1):Nat)→Kp kpS a a1→σ1.sp=cnt (i+1)→(∀j,σ1.gv j=none)→bc GP Tryz.prog.funcs X Q σ1 a1 k w):bc GP Tryz.prog.funcs X Q σ a (.code q7::k) w:=by
 refine bc.seq K (bc.region K ?_);refine epv ?_;refine bc.ak K (bc.seq K (bc.cond K (t:=true) du ?_ ?_))
 ·exact eev
 refine bc.skip K ?_;refine bc.seq K (bc.block K (bc.seq K (bc.region K ?_)));refine epv ?_;refine epv ?_;refine epv ?_;refine epv ?_;refine epv ?_;refine bc.ak K (bc.seq K (bc.region K ?_));rcases hJ with ⟨hd,hcn⟩|⟨⟨⟨R,told,ok,hj⟩,⟨t,x,hd⟩,hcl⟩,hcn⟩
 ·refine epv ?_;refine epv ?_;refine bc.ak K (bc.cond K (t:=false) du ?_ ?_)
  ·exact eev
  refine bc.skip K (bc.inBlock K (bc.region K ?_));refine epv ?_;refine epv ?_;refine bc.ak K (hk _ σ bz ?_ ?_ (eks) ai hgv)
  ·refine ees ?_;rw [jv i ai]
  ·exact eev
 ·rw [hd] at hcl hj;refine epv ?_;refine epv ?_;refine bc.ak K (bc.cond K (t:=true) du ?_ ?_)
  ·exact eev
  refine bc.seq K (bc.region K ?_);refine epv ?_;refine epv ?_;refine epv ?_;refine bc.ak K (bc.region K ?_);refine epv ?_;refine epv ?_;refine epv ?_;refine epv ?_;refine bc.go K (f:=43) (args:=#[.tmp 33,.tmp 34,.tmp 35,.tmp 36]) rfl (fun a u=>aka rfl u) rfl du ?_ ai (hgv _) ?_ ?_
  ·intro π' hag;simp+decide only [List.map_toArray,List.map_cons,List.map_nil,eval_put,bn,eval_const,size_put,if_true,if_false, *];simp only [az,jr];rw [hcl π' hag,hjf π' hag];simp only [al,Option.map_some];rw [hag X.c hc0];rfl
  ·rw [hsp,hj];simp+decide only [List.map_toArray,List.map_cons,List.map_nil,eval_put,bn,eval_const,size_put,if_true,if_false,hsz,h24,h2,h10,hd];exact aj6 Tryz.func43 vp (by decide+kernel) hfj hbj (my _ _ hfj)
  refine enr ?_;refine bc.ak K (bc.inBlock K (bc.region K ?_));refine epv ?_;refine epv ?_;refine bc.ak K (hk _ _ bz ?_ ?_ (eks) (by show σ.sp+1=_;omega) hgv)
  ·refine ees ?_;rw [jv i ai]
  ·refine ees ?_;rw [jv (cnt i) ai]
theorem aao (K:js GP Tryz.prog.funcs X){fnj:Func}{cj:Code}(hfj:Tryz.prog.funcs[fj]? =some fnj)(hbj:fnj.body=some cj){a0:Act}
  (h23:a0.eval (.tmp 23)= .int .i64 n)(h22:a0.eval (.tmp 22)= .slice (some ⟨bd,off,none⟩) n cap)(h2:a0.eval (.tmp 2)= .func (.func fj) first capt)(h10:a0.eval (.tmp 10)= .chan (some X.c))(hn:n<1000000)
  (hc0:X.c<X.N0)(hjf:∀π',aw X.N0 one π'→al π' (.func (.func fj) first capt)= .func (.func fj) first capt)(hcnt:∀i,cnt i≤i)(hX:X.n=cnt n)(hmono:∀i,i<n→cnt (i+1)≤cnt n)
  (hD:∀i,i<n→w.cell? ⟨bd,off+i,none⟩=some (D i))(hJ:∀i,i<n→(D i= .nilIface∧cnt (i+1)=cnt i)∨(aap X X.c i (cnt i+1) (D i) fj first capt∧cnt (i+1)=cnt i+1))
  (hk:∀(a1:Act)(σ1:Sg),(a1.tmps.size=66∧a1.defers=[])→a1.eval (.tmp 11)= .int .i64 (cnt n:Nat)→Kp kpS a0 a1→σ1.sp=cnt n→(∀j,σ1.gv j=none)→bc GP Tryz.prog.funcs X Q σ1 a1 k w):
  ∀m i a (σ:Sg),i+m=n→(a.tmps.size=66∧a.defers=[])→Kp kpS a0 a→a.eval (.tmp 24)= .int .i64 (i:Nat)→a.eval (.tmp 11)= .int .i64 (cnt i:Nat)→σ.sp=cnt i→(∀j,σ.gv j=none)→
   bc GP Tryz.prog.funcs X Q σ a (.code q7:: .inLoop q7:: .inBlock 0::k) w:=by
 intro m
 induction m with
 |zero=>
  intro i a σ him hsz hkp h24 h11 hsp hgv;obtain rfl:i=n:=by omega
  have e23:=(hkp 23 (by simp [kpS])).trans h23;refine bc.seq K (bc.region K ?_);refine epv ?_;refine bc.ak K (bc.seq K (bc.cond K (t:=false) du ?_ ?_))
  ·exact eev
  refine bc.exit K rfl (hk _ _ bz ?_ (hkp.trans (eks)) hsp hgv);exact eev
 |succ m ih=>
  intro i a σ him hsz hkp h24 h11 hsp hgv;refine aai K hfj hbj hsz h24 ((hkp 23 (by simp [kpS])).trans h23) ((hkp 22 (by simp [kpS])).trans h22) ((hkp 2 (by simp [kpS])).trans h2) ((hkp 10 (by simp [kpS])).trans h10) h11 ai hn (hcnt i) hsp hgv (by rw [hX];exact hmono i ai) hc0 hjf (hD i ai) (hJ i ai) fun a1 σ1 g1 g2 g3 g4 g5 g6=> ?_
  exact bc.inLoop K (ih (i+1) a1 σ1 ai g1 (hkp.trans g4) g2 g3 g5 g6)
end
end Go.Proofs.YthgpdljlehklhaaGreat.ea
