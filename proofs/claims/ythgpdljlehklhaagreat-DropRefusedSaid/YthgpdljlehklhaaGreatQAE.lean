/- Part QAE of the proof that DropRefused answers true whatever its input. No condition. -/
import Derived.Conc.LoneCalls
import Derived.Conc.Beside
import Derived.Test.YthgpdljlehklhaaGreatQAD
set_option maxRecDepth 100000
namespace Go.Proofs.YthgpdljlehklhaaGreat.zr
open Go
abbrev Tap:=Nat→Question→Nat
def tp (w:World)(τ:Tap)(d:Nat):World:={w with tape:=τ,drawn:=d}
def Win (w:World)(n:Nat)(τ:Tap)(d:Nat):Prop:=∀i q,w.drawn+i<n→τ (d+i) q=w.tape (w.drawn+i) q
structure Lc (P:Program){β:Type}(run:World→β)(w:World)(mk:World→β)(w1:World):Prop where
 tm:Tm P w1
 mono:w.drawn≤w1.drawn
 tape:w1.tape=w.tape
 eq:∀τ d,Win w w1.drawn τ d→run (tp w τ d)=mk (tp w1 τ (d+ (w1.drawn-w.drawn)))
def LA (P:Program){α:Type}(q:α→Prop)(s:Sem α)(w:World)(es:Array Event):Prop:=
 match s.runT P w es with
 |(.ok a w1,es1)=>q a∧Lc P (fun u=>s.runT P u es) w (fun u=>(.ok a u,es1)) w1
 |(.halt (.panic v) w1,es1)=>Lc P (fun u=>s.runT P u es) w (fun u=>(.halt (.panic v) u,es1)) w1
 |(.halt h _,_)=>oe h
section
variable {P:Program}{α:Type}{q:α→Prop}
theorem LA.qe {s:Sem α}{w:World}{es:Array Event}{h:Halt}{w1:World}{es1:Array Event}(hx:s.runT P w es=(.halt h w1,es1))(hd:oe h):LA P q s w es:=by
 unfold LA;rw [hx];cases h <;> first|exact hd|exact hd.elim
theorem LA.step {s k:Sem α}{w w2:World}{es es2:Array Event}(h1:s.runT P w es=k.runT P w2 es2)(hd:w2.drawn=w.drawn)(ht:w2.tape=w.tape)(h2:∀τ d,s.runT P (tp w τ d) es=k.runT P (tp w2 τ d) es2)(ih:LA P q k w2 es2):LA P q s w es:=by
 unfold LA at ih ⊢;rw [h1];have key:∀(mk:World→Result α×Array Event)(w1:World),Lc P (fun u=>k.runT P u es2) w2 mk w1→Lc P (fun u=>s.runT P u es) w mk w1:=fun mk w1 h=>⟨h.tm,hd▸h.mono,h.tape.trans ht,fun τ d hw=>by
  rw [h2];have:=h.eq τ d (fun i q hi=>by rw [hd,ht];rw [hd] at hi;exact hw i q hi);rw [hd] at this;exact this⟩
 generalize k.runT P w2 es2=x at ih;obtain ⟨r,es1⟩:=x;cases r with
 |ok a w1=>exact ⟨ih.1,key _ _ ih.2⟩
 |halt h w1=>
  cases h with
  |panic v=>exact key _ _ ih
  |_=>exact ih
theorem Tm.set {w:World}(h:Tm P w){b:Nat}{o:Obj}(hg:kr P o=true):Tm P {w with heap:=w.heap.setIfInBounds b o}:=fun c o' hc=>by
 by_cases hb:b=c
 ·subst hb
  by_cases hl:b<w.heap.size
  ·rw [show ({w with heap:=w.heap.setIfInBounds b o}:World).heap=w.heap.setIfInBounds b o from rfl,Array.getElem?_setIfInBounds_self_of_lt hl] at hc;obtain rfl:=Option.some.inj hc;exact .inr hg
  ·rw [show ({w with heap:=w.heap.setIfInBounds b o}:World).heap=w.heap.setIfInBounds b o from rfl,Array.getElem?_eq_none (by simp;omega)] at hc;cases hc
 ·rw [show ({w with heap:=w.heap.setIfInBounds b o}:World).heap=w.heap.setIfInBounds b o from rfl,Array.getElem?_setIfInBounds_ne hb] at hc;exact h c o' hc
theorem Tm.push {w:World}(h:Tm P w){o:Obj}(hg:kr P o=true):Tm P {w with heap:=w.heap.push o}:=fun c o' hc=>by
 rw [show ({w with heap:=w.heap.push o}:World).heap=w.heap.push o from rfl,Array.getElem?_push] at hc;split at hc
 ·obtain rfl:=Option.some.inj hc;exact .inr hg
 ·exact h c o' hc
theorem ama (w:World)(τ:Tap)(d:Nat):(tp w τ d).sys .env=(.strings w.os.env,tp w τ d):=ae9 _
theorem nn {P':Program}{π:Pm}{f:α→α}{L:List Nat}{s' s:Sem α}(h:Tw P' P π f q L s' s):∀(w:World)(es:Array Event),Tm P w→LA P q s w es:=by
 induction h with
 |pure a ha=>
  intro w es hm;exact ⟨ha,hm,Nat.le_refl _,rfl,fun τ d _=>by simp [Sem.runT,tp]⟩
 |load m a _ ih=>
  rename_i L k' k _;intro w es hm;cases hc:w.cell? a with
  |none=>
   obtain ⟨h,e1,e2⟩:=adm hm a (m== .atomic) hc;exact LA.qe (h:=h) (w1:=w) (es1:=es) (by simp only [Sem.runT,hc,e1]) e2
  |some v=>
   refine LA.step (k:=k v) (w2:=w) (es2:=es.push ⟨.cell a,false,m== .atomic⟩) (by simp only [Sem.runT,hc]) rfl rfl (fun τ d=> ?_) (ih v w _ hm);have:(tp w τ d).cell? a=some v:=hc;simp only [Sem.runT,this]
 |store m a v _ ih=>
  rename_i L k' k _;intro w es hm
  by_cases hv:(∃cs,v= .agg cs)∨∃vs,v= .tuple vs
  ·rcases hv with ⟨cs,rfl⟩|⟨cs,rfl⟩
   ·exact LA.qe (h:= .stuck "store: not the value of one cell") (w1:=w) (es1:=es) (by simp only [Sem.runT]) trivial
   ·exact LA.qe (h:= .stuck "store: not the value of one cell") (w1:=w) (es1:=es) (by simp only [Sem.runT]) trivial
  ·have e:∀u:World,(Sem.store m a v k).runT P u es=(match u.cell? a with
     |some _=>if u.frozen? a then (.halt (.unsupported (.unsafePointer "a write to bytes that a string shares")) u,es) else k.runT P (u.setCell a v) (es.push ⟨.cell a,true,m== .atomic⟩)
     |none=>match u.farStore P a v (m== .atomic) with
      | .ok (u,touched)=>k.runT P u (es++touched.toArray.map (⟨.cell ·,true,m== .atomic⟩))
      | .error h=>(.halt h u,es)):=fun u=>by
    cases v <;> first|rfl|exact absurd (.inl ⟨_,rfl⟩) hv|exact absurd (.inr ⟨_,rfl⟩) hv
   cases hc:w.cell? a with
   |none=>
    obtain ⟨h,e1,e2⟩:=agd hm a v (m== .atomic) hc;exact LA.qe (h:=h) (w1:=w) (es1:=es) (by rw [e];simp only [hc,e1]) e2
   |some v0=>
    by_cases hf:w.frozen? a=true
    ·exact LA.qe (h:= .unsupported (.unsafePointer "a write to bytes that a string shares")) (w1:=w) (es1:=es) (by rw [e];simp only [hc,hf,if_true]) (fun b hb=>Unsupported.noConfusion hb)
    ·obtain ⟨c,el,z,h1,h2,h3⟩:=wo hc;have hs:=xn (v:=v) h1 h2;refine LA.step (k:=k) (w2:=w.setCell a v) (es2:=es.push ⟨.cell a,true,m== .atomic⟩) (by rw [e];simp only [hc,hf];rfl) (by rw [hs]) (by rw [hs]) (fun τ d=> ?_) (ih _ _ (by rw [hs];exact hm.set rfl));rw [e];have c1:(tp w τ d).cell? a=some v0:=hc;have c2:(tp w τ d).frozen? a=w.frozen? a:=rfl;simp only [c1,c2,hf];rfl
 |new o ho _ ih=>
  rename_i L k' k _;intro w es hm;exact LA.step (k:=k w.heap.size) (w2:={w with heap:=w.heap.push o}) (es2:=es) (by simp only [Sem.runT]) rfl rfl (fun τ d=>rfl) (ih _ _ _ (hm.push ho))
 |freeze a n ha _ ih=>
  rename_i L k' k _;intro w es hm
  by_cases hn:n=0
  ·have e:∀u:World,u.freeze a n=u:=fun u=>by unfold World.freeze;rw [if_pos hn]
   exact LA.step (k:=k) (w2:=w) (es2:=es) (by simp only [Sem.runT,e]) rfl rfl (fun τ d=>by simp only [Sem.runT,e]) (ih _ _ hm)
  ·let fz:Obj→Obj:=fun
    | .cells c elem (lo,hi)=> .cells c elem (if lo==hi then (a.off,a.off+n) else (min lo a.off,max hi (a.off+n)))
    |o=>o
   have e:∀u:World,u.freeze a n={u with heap:=u.heap.modify a.block fz}:=fun u=>by
    unfold World.freeze;rw [if_neg hn];congr 2
   refine LA.step (k:=k) (w2:={w with heap:=w.heap.modify a.block fz}) (es2:=es) (by simp only [Sem.runT,e]) rfl rfl (fun τ d=>by simp only [Sem.runT,e];rfl) (ih _ _ ?_);intro c o' hc;rw [show ({w with heap:=w.heap.modify a.block fz}:World).heap=w.heap.modify a.block fz from rfl,Array.getElem?_modify] at hc
   by_cases hb:a.block=c
   ·rw [if_pos hb] at hc;obtain ⟨o,ho,rfl⟩:=Option.map_eq_some_iff.1 hc;rcases hm c o ho with rfl|hg
    ·exact .inl rfl
    ·cases o with
     |cells c e z=>exact .inr rfl
     |_=>exact .inr hg
   ·rw [if_neg hb] at hc;exact hm c o' hc
 |shape r _ hd ih=>
  rename_i L k' k _;intro w es hm;exact LA.step (k:=k (w.shape? r)) (w2:=w) (es2:=es) (by simp only [Sem.runT]) rfl rfl (fun τ d=>rfl) (ih _ _ _ hm)
 |getObj r _ hd ih=>
  rename_i L k' k _;intro w es hm;cases ho:w.heap[r]? with
  |none=>exact LA.qe (h:= .stuck "getObj: no such block") (w1:=w) (es1:=es) (by simp only [Sem.runT,ho]) trivial
  |some o=>
   by_cases hcell:∃c e z,o= .cells c e z
   ·obtain ⟨c,e,z,rfl⟩:=hcell;exact LA.qe (h:= .stuck "getObj: a row of cells") (w1:=w) (es1:=es) (by simp only [Sem.runT,ho]) trivial
   ·have e:∀u:World,u.heap[r]? =some o→(Sem.getObj r k).runT P u es=(k o).runT P u (es.push ⟨.obj r,false,o.isChan⟩):=fun u hu=>by
     simp only [Sem.runT,hu];cases o <;> first|rfl|exact absurd ⟨_,_,_,rfl⟩ hcell
    rcases hm r o ho with rfl|hg
    ·obtain ⟨h,w1,es1,hx,hdull⟩:=(hd ⟨0,0,some 0⟩ 0).run w hm (fun r' hr=>by subst hr;exact ho) (es.push ⟨.obj r,false,Obj.isChan gu⟩);exact LA.qe (by rw [e w ho];exact hx) hdull
    ·exact LA.step (k:=k o) (w2:=w) (es2:=es.push ⟨.obj r,false,o.isChan⟩) (e w ho) rfl rfl (fun τ d=>e _ ho) (ih o hg _ _ hm)
 |setObj r hr o ho _ ih=>
  rename_i L k' k _;intro w es hm;cases hx:w.heap[r]? with
  |none=>exact LA.qe (h:= .stuck "setObj: no such block") (w1:=w) (es1:=es) (by simp only [Sem.runT,hx]) trivial
  |some x=>
   by_cases hcell:∃c e z,x= .cells c e z
   ·obtain ⟨c,e,z,rfl⟩:=hcell;exact LA.qe (h:= .stuck "setObj: a row of cells") (w1:=w) (es1:=es) (by simp only [Sem.runT,hx]) trivial
   ·have e:∀u:World,u.heap[r]? =some x→(Sem.setObj r o k).runT P u es=k.runT P {u with heap:=u.heap.setIfInBounds r o} (es.push ⟨.obj r,true,o.isChan⟩):=fun u hu=>by
     simp only [Sem.runT,hu];cases x <;> first|rfl|exact absurd ⟨_,_,_,rfl⟩ hcell
    exact LA.step (k:=k) (w2:={w with heap:=w.heap.setIfInBounds r o}) (es2:=es.push ⟨.obj r,true,o.isChan⟩) (e w hx) rfl rfl (fun τ d=>e _ hx) (ih _ _ (hm.set ho))
 |choose ask _ ih=>
  rename_i L k' k _;intro w es hm
  by_cases hf:ask.forced=true
  ·exact LA.step (k:=k 0) (w2:=w) (es2:=es) (by simp only [Sem.runT,hf,if_true]) rfl rfl (fun τ d=>by simp only [Sem.runT,hf,if_true]) (ih 0 w es hm)
  ·have hr:∀u:World,(Sem.choose ask k).runT P u es=(k (ask.cut (u.tape u.drawn ask))).runT P {u with drawn:=u.drawn+1} es:=fun u=>by simp only [Sem.runT,hf];rfl
   have ih1:=ih (ask.cut (w.tape w.drawn ask)) {w with drawn:=w.drawn+1} es hm;have key:∀(mk:World→Result α×Array Event)(w1:World),Lc P (fun u=>(k (ask.cut (w.tape w.drawn ask))).runT P u es) {w with drawn:=w.drawn+1} mk w1→Lc P (fun u=>(Sem.choose ask k).runT P u es) w mk w1:=fun mk w1 h=>by
    have hmono:w.drawn+1≤w1.drawn:=h.mono;refine ⟨h.tm,by omega,h.tape,fun τ d hw=> ?_⟩;have h0:=hw 0 ask ai;rw [hr];show (k (ask.cut (τ d ask))).runT P (tp {w with drawn:=w.drawn+1} τ (d+1)) es=_;rw [show τ d ask=w.tape w.drawn ask from h0,h.eq τ (d+1) (fun i q hi=>by
     have hi':w.drawn+1+i<w1.drawn:=hi;have:=hw (1+i) q ai;rw [show d+1+i=d+ (1+i) by omega,this];show w.tape (w.drawn+ (1+i)) q=w.tape (w.drawn+1+i) q;congr 1;omega)]
    show mk (tp w1 τ (d+1+ (w1.drawn- (w.drawn+1))))=_;congr 2;omega
   unfold LA at ih1 ⊢;rw [hr];generalize (k (ask.cut (w.tape w.drawn ask))).runT P {w with drawn:=w.drawn+1} es=x at ih1;obtain ⟨r,es1⟩:=x;cases r with
   |ok a w1=>exact ⟨ih1.1,key _ _ ih1.2⟩
   |halt h w1=>
    cases h with
    |panic v=>exact key _ _ ih1
    |_=>exact ih1
 |program _ ih=>
  rename_i L k' k _;intro w es hm;exact LA.step (k:=k P) (w2:=w) (es2:=es) (by simp only [Sem.runT]) rfl rfl (fun τ d=>rfl) (ih w es hm)
 |sysEnv _ ih=>
  rename_i L k' k _;intro w es hm;refine LA.step (k:=k (.strings w.os.env)) (w2:=w) (es2:=es.push ⟨.output,true,false⟩) (by simp only [Sem.runT,ae9]) rfl rfl (fun τ d=>by simp only [Sem.runT,ama]) (ih _ w _ hm)
 |mark m hm' _ ih=>
  rename_i L k' k _;intro w es hm;exact LA.step (k:=k) (w2:=w) (es2:=es.push ⟨.mark m,false,true⟩) (by simp only [Sem.runT]) rfl rfl (fun τ d=>rfl) (ih w _ hm)
 |panic v=>
  intro w es hm;exact ⟨hm,Nat.le_refl _,rfl,fun τ d _=>by simp [Sem.runT,tp]⟩
 |dead s' hd=>
  intro w es hm;obtain ⟨h,w1,es1,hx,hdull⟩:=hd.run w hm (fun r hr=>hr.elim) es;exact LA.qe hx hdull
end
section
variable {P:Program}{fs:Array Func}{w w1:World}{m:Bool}{fr:Frame}{cs:List Frame}
def ahg (g:Goroutine)(ca:Array CommCase)(b:Bool)(sh:CommShape):Prop:=b=false∧sh= .select∧(∃c,ca=#[c]∧c.send=none)∧∃fr cs,g=av fr cs
def LG (P:Program)(F:World→GStep)(w:World):Prop:=
 match F w with
 | .go g1 w1 es=>Lc P F w (fun u=> .go g1 u es) w1
 | .comm g1 cs b sh w1 es=>ahg g1 cs b sh∧Lc P F w (fun u=> .comm g1 cs b sh u es) w1
 | .ended .. =>True
 |_=>False
theorem Lc.refl {β:Type}{F:World→β}{mk:World→β}(hm:Tm P w)(e:∀u,F u=mk u):Lc P F w mk w:=⟨hm,Nat.le_refl _,rfl,fun τ d _=>by
 rw [e,Nat.sub_self,Nat.add_zero]⟩
theorem LG.go {F:World→GStep}{g:Goroutine}{es:Array Event}(hm:Tm P w)(e:∀u,F u= .go g u es):LG P F w:=by
 unfold LG;rw [e w];exact Lc.refl hm e
theorem LG.ended {F:World→GStep}{o:Outcome}{w2:World}{es:Array Event}(e:F w= .ended o w2 es):LG P F w:=by
 unfold LG;rw [e]
 trivial
theorem LG.congr {F G:World→GStep}(e:∀u,F u=G u)(h:LG P G w):LG P F w:=by
 rw [show F=G from funext e];exact h
theorem Win.left {n n1:Nat}{τ:Tap}{d:Nat}(h:Win w n τ d)(hn:n1≤n):Win w n1 τ d:=fun i q hi=>h i q ai
theorem Win.right {n:Nat}{τ:Tap}{d:Nat}(h:Win w n τ d)(ht:w1.tape=w.tape)(hm:w.drawn≤w1.drawn):Win w1 n τ (d+ (w1.drawn-w.drawn)):=fun i q hi=>by
 rw [show d+ (w1.drawn-w.drawn)+i=d+ ((w1.drawn-w.drawn)+i) by omega,h ((w1.drawn-w.drawn)+i) q ai,ht];congr 1;omega
theorem Lc.seq {β γ:Type}{run:World→β}{mkr:World→β}(hl:Lc P run w mkr w1){F G mk mk2:World→γ}{w2:World}(e:∀u u1,run u=mkr u1→F u=mk u1)(hG:Lc P mk w1 mk2 w2):Lc P F w mk2 w2:=
 ⟨hG.tm,Nat.le_trans hl.mono hG.mono,hG.tape.trans hl.tape,fun τ d hw=>by
  rw [e _ _ (hl.eq τ d (hw.left hG.mono)),hG.eq _ _ (hw.right hl.tape hl.mono)];congr 2;have:=hl.mono;have:=hG.mono;omega⟩
theorem LG.seq {β:Type}{run:World→β}{mkr:World→β}(hl:Lc P run w mkr w1)(hx:run w=mkr w1){F G:World→GStep}{es:Array Event}(e:∀u u1,run u=mkr u1→F u=(G u1).after es)(hG:LG P G w1):LG P F w:=by
 unfold LG at hG ⊢;rw [e w w1 hx];cases hg:G w1 with
 |go g w2 es2=>
  rw [hg] at hG;refine Lc.seq (G:=F) hl e ⟨hG.tm,hG.mono,hG.tape,fun τ d hw=> ?_⟩;rw [hG.eq τ d hw];rfl
 |comm g cs b sh w2 es2=>
  rw [hg] at hG;refine ⟨hG.1,Lc.seq (G:=F) hl e ⟨hG.2.tm,hG.2.mono,hG.2.tape,fun τ d hw=> ?_⟩⟩;rw [hG.2.eq τ d hw];rfl
 |ended=>trivial
 |_=>
  rw [hg] at hG;exact hG
theorem LG.of {β:Type}{run:World→β}{mkr:World→β}(hl:Lc P run w mkr w1)(hx:run w=mkr w1){F:World→GStep}{g:Goroutine}{es:Array Event}(e:∀u u1,run u=mkr u1→F u= .go g u1 es):LG P F w:=by
 unfold LG;rw [e w w1 hx];exact ⟨hl.tm,hl.mono,hl.tape,fun τ d hw=>e _ _ (hl.eq τ d hw)⟩
theorem LG.ofComm {β:Type}{run:World→β}{mkr:World→β}(hl:Lc P run w mkr w1)(hx:run w=mkr w1){F:World→GStep}{g:Goroutine}{es:Array Event}{ca:Array CommCase}{b:Bool}{sh:CommShape}(hc:ahg g ca b sh)(e:∀u u1,run u=mkr u1→F u= .comm g ca b sh u1 es):LG P F w:=by
 unfold LG;rw [e w w1 hx];exact ⟨hc,⟨hl.tm,hl.mono,hl.tape,fun τ d hw=>e _ _ (hl.eq τ d hw)⟩⟩
theorem vi {s:Sem Next}{q:Next→Prop}(h:LA P q s w #[])(hfr:gp P fr)(hq:∀x,q x→en P x∨∃d,x= .defer d):LG P (fun u=>stepG.apply P true fr cs none s u) w:=by
 have hext:=hfr.qv;have hke:(fr.kind==CallKind.early)=false:=by rcases hfr.kind with h|h <;> rw [h] <;> rfl
 have hk1:(match fr.todo with| .call _ true _ _::_=>CallKind.wrapped|_=> .normal)= .normal:=by
  split
  ·rename_i heq;have:=hext _ (by rw [heq];exact List.mem_cons_self);simp at this
  ·rfl
 unfold LA at h;generalize hx:s.runT P w #[]=x at h;obtain ⟨r,es⟩:=x;cases r with
 |ok a w1=>
  obtain ⟨hqa,hl⟩:=h;rcases hq a hqa with hn|⟨d,rfl⟩
  ·cases a with
   |value v=>exact LG.of hl hx fun u u1 hu=>nc hu hke
   |skip=>exact LG.of hl hx fun u u1 hu=>rk hu hke
   |enter f args=>exact LG.of hl hx fun u u1 hu=>m8 hu hke hk1
   |round l f tm a b=>exact LG.of hl hx fun u u1 hu=>yo hu hke
   |comm ca b sh=>exact LG.ofComm hl hx ⟨hn.1,hn.2.2,hn.2.1,fr,cs,rfl⟩ fun u u1 hu=>wj hu hke
   |_=>exact hn.elim
  ·exact LG.of hl hx fun u u1 hu=>yz hu hke
 |halt hh w1=>
  by_cases hd:oe hh
  ·obtain ⟨o,w2,es2,e⟩:=ael (fr:=fr) (cs:=cs) hx hd;exact LG.ended e
  ·cases hh with
   |panic v=>exact LG.of h hx fun u u1 hu=>yu hu hke
   |_=>exact absurd h hd
theorem uv (hm:Tm P w){v:Value}(hk:fr.kind= .normal∨fr.kind= .deferred):LG P (fun u=>doReturn P m fr cs none v u) w:=by
 cases cs with
 |cons c cs=>exact LG.go hm fun u=>pf hk
 |nil=>
  have e:∀u,doReturn P m fr [] none v u=(if !m then .go {frame:=fr,callers:=[],status:= .finished,dying:=none} u else match P.inits.idxOf? fr.fn with
    |some k=> .go {frame:=Frame.enter P (P.initFrom (k+1)) #[] .normal,callers:=[],status:= .running,dying:=none} u
    |none=> .ended (.done v) u):=fun u=>by
   unfold doReturn;rcases hk with hk|hk <;> simp only [hk] <;> rfl
  refine LG.congr e ?_;cases m with
  |false=>exact LG.go hm fun u=>rfl
  |true=>
   cases P.inits.idxOf? fr.fn with
   |some k=>exact LG.go hm fun u=>rfl
   |none=>exact LG.ended rfl
theorem Ctx.one (C:Ctx P fs):fw P one:=C.fixed (π:=zr.one) (N:=6) ⟨by omega,fun _ _=>rfl⟩ (aw.refl _ _)
theorem ym (hm:Tm P w)(hfr:gp P fr)(jump:Option Code)(hj:∀c,jump=some c→dy P c=true∧gk c=true):LG P (fun u=>rj P m fr cs jump u) w:=by
 cases hro:fr.roundOf with
 |none=>
  by_cases hjr:jump=none∨jump=some .ret
  ·exact LG.go hm fun u=>yq hro hjr
  ·exact LG.ended (ab3 hro hjr)
 |some l=>
  have h:=nn ((aa.endRound (P:=P) (π:=zr.one) l jump hj).f (fs:=#[]) []) w #[] hm;refine LG.congr (fun u=>vx hro) ?_;unfold LA at h;generalize hx:(Instr.endRound l jump).runT P w #[]=x at h;obtain ⟨r,es⟩:=x;cases r with
  |ok v w1=>exact LG.seq (G:=fun u=>doReturn P m fr cs none v u) (es:=seen P fr.fn es) h.2 hx (fun u u1 hu=>by simp only [hu]) (uv h.2.tm hfr.kind)
  |halt h w1=>exact LG.ended (by simp only [hx];rfl)
end
section
variable {P:Program}{fs:Array Func}{w w1:World}{m:Bool}{fr:Frame}{cs:List Frame}
theorem so (hm:Tm P w){F:World→GStep}{t:List Item}(e:∀u,F u=od fr cs t u):LG P F w:=LG.go hm e
theorem alw (C:Ctx P fs)(hm:Tm P w)(hfr:gp P fr){ops:Array Oper}{i:Nat}{r:List Nat}{k:List Item}(ht:fr.todo= .inRegion ops (i::r)::k):LG P (fun u=>stepG.oper P true fr cs none u) w:=by
 have e1:fr.oper? =ops[i]? :=by unfold Frame.oper?;rw [ht]
 obtain ⟨⟨hx,hk⟩,hmild⟩:=wv hfr ht;have hke:(fr.kind==CallKind.early)=false:=by rcases hfr.kind with h|h <;> rw [h] <;> rfl
 cases ho:ops[i]? with
 |none=>
  have:∀u,stepG.oper P true fr cs none u= .ended (.stuck "no operation here" (fr.pos P)) u:=fun u=>by
   unfold stepG.oper;rw [e1,ho]
  exact LG.ended (this w)
 |some o=>
  rw [ho] at e1;have hmem:o∈ops:=Array.mem_of_getElem? ho;have hoo:qd P o=true:=by
   have:ops.all (qd P)=true:=hx;rw [Array.all_eq_true_iff_forall_mem] at this;exact this o hmem
  have hom:fr.roundOf.isSome=true→pk o=true:=fun hr=>by
   have:ops.all pk=true:=(hmild hr).1;rw [Array.all_eq_true_iff_forall_mem] at this;exact this o hmem
  by_cases hrec:isRec o=true
  ·have hro:fr.roundOf=none:=by
      cases h:fr.roundOf with
      |none=>rfl
      |some l=>
       have:=hom (by rw [h];rfl);simp [pk,hrec] at this
   refine LG.congr (fun u=>by rw [px e1 (.inl hro),aa6 hrec,vu hke hro]) ?_;cases tryRecover fr cs with
   |none=>exact LG.go hm fun u=>rfl
   |some x=>exact LG.go hm fun u=>rfl
  ·have hop:tn P o=true:=by
      simp only [qd,Bool.or_eq_true] at hoo;exact hoo.resolve_right hrec
   have hrho:Rho zr.one (ax zr.one fr).eval fr.eval:=we zr.one fr
   by_cases hdf:∃c,o.op= .defer c
   ·obtain ⟨c,hc⟩:=hdf;have hro:fr.roundOf=none:=by
     cases h:fr.roundOf with
     |none=>rfl
     |some l=>
      have:=hom (by rw [h];rfl);simp [pk,hc] at this
    refine LG.congr (fun u=>px e1 (.inl hro)) ?_;exact vi (q:=fun x=>∃d,x= .defer d∧iy d.target=true) (nn (bp.af5 (fs:=fs) hrho o c hc hop []) w #[] hm) hfr fun x ⟨d,h,_⟩=> .inr ⟨d,h⟩
   ·have hnd:∀c,o.op≠ .defer c:=fun c h=>hdf ⟨c,h⟩
    refine LG.congr (fun u=>px e1 (.inr hnd)) ?_;exact vi (q:=en P) (nn (bp.execOp (fs:=fs) C.one C.globals C.alike hrho (fun _ _=>rfl) o hop hnd []) w #[] hm) hfr fun x hx=> .inl hx
theorem ak3 (C:Ctx P fs)(hm:Tm P w)(hfr:gp P fr):LG P (fun u=>stepG.exec P m true fr cs none u) w:=by
 cases ht:fr.todo with
 |nil=>exact LG.congr (fun u=>ahw ht) (ym hm hfr none fun c h=>by cases h)
 |cons x k=>
  obtain ⟨⟨hx,hk⟩,hmild⟩:=wv hfr ht;cases x with
  |call=>simp [lk] at hx
  |extern=>simp [lk] at hx
  |inScope=>simp [lk] at hx
  |inBlock i=>exact so hm fun u=>aae ht
  |inLoop a=>exact so hm fun u=>ab2 ht
  |inRangeFunc l=>
   obtain ⟨o,e⟩:=aex (Q:=P) (m:=m) (fr:=fr) (cs:=cs) (w:=w) ht;exact LG.ended e
  |beginRound=>
   refine LG.congr (fun u=>ad2 ht) (vi (q:=en P) ?_ hfr fun x hx=> .inl hx);cases hro:fr.roundOf with
   |none=>exact nn (bp.bind (P:=P) (fs:=fs) (π:=zr.one) (s':=stuck "beginRound: no round") (h':=fun _=>pure .skip) (.none Unit) (bp.stuck (.none Unit) _) (q:=fun _=>True) (fun _ _=>bp.pure .next rfl trivial) []) w #[] hm
   |some l=>exact nn (bp.ofU (fs:=fs) (aa.beginRound C.one l) []) w #[] hm
  |endRangeFunc l=>
   have h:=nn ((gn.endLoop C.one l).f (fs:=fs) []) w #[] hm;refine LG.congr (fun u=>y9 ht) ?_;unfold LA at h;generalize hx:(Instr.endLoop l).runT P w #[]=x at h;obtain ⟨r,es⟩:=x;cases r with
   |ok j w1=>exact LG.seq (G:=fun u=>od fr cs ((j.map Item.code).toList++k) u) (es:=seen P fr.fn es) h.2 hx (fun u u1 hu=>by simp only [hu]) (LG.go h.2.tm fun u=>rfl)
   |halt hh w1=>
    cases hh with
    |panic v=>exact LG.seq (G:=fun u=> .go (av (fr.raise [{v,recovered:=false}]) cs) u) (es:=seen P fr.fn es) h hx (fun u u1 hu=>by simp only [hu]) (LG.go h.tm fun u=>rfl)
    |_=>exact LG.ended (by simp only [hx];rfl)
  |inRegion ops todo=>
   cases todo with
   |nil=>exact so hm fun u=>xd ht
   |cons i r=>
    refine LG.congr (fun u=>vl ht) ?_
    by_cases hw:((ops[i]?).map (Region.wanted · (yielded ops fr.tmps))).getD false=true
    ·exact LG.congr (fun u=>by rw [if_pos hw]) (alw C hm hfr ht)
    ·exact LG.go (g:=av (fr.finish undef) cs) (es:=#[]) hm fun u=>by rw [if_neg hw]
  |code c=>
   have hxo:dy P c=true:=hx;cases c with
   |scope=>simp [dy] at hxo
   |label=>simp [dy] at hxo
   |goto=>simp [dy] at hxo
   |ret=>exact LG.congr (fun u=>aij ht) (ym hm hfr _ fun c h=>by cases h;exact ⟨rfl,rfl⟩)
   |skip=>exact so hm fun u=>ae8 ht
   |seq a b=>exact so hm fun u=>ahz ht
   |block i a=>exact so hm fun u=>ado ht
   |loop a=>exact so hm fun u=>ae6 ht
   |cond c a b=>
    refine LG.congr (fun u=>afo ht) ?_;cases fr.eval c with
    |bool x=>exact LG.go hm fun u=>rfl
    |_=>exact LG.ended rfl
   |exit i=>
    refine LG.congr (fun u=>afi ht) ?_;cases exitTo i k with
    |none=>exact ym hm hfr _ fun c h=>by cases h;exact ⟨rfl,rfl⟩
    |some t=>exact LG.go hm fun u=>rfl
   |refuse s=>
    obtain ⟨o,e⟩:=xy (Q:=P) (m:=m) (fr:=fr) (cs:=cs) (w:=w) ht;exact LG.ended e
   |region i ops d=>
    refine LG.congr (fun u=>abr ht) ?_;cases d with
    |false=>exact LG.go hm fun u=>rfl
    |true=>
     have h:=nn (P:=P) (P':=P) (π:=zr.one) (f:=id) (L:=[]) (q:=fun _=>True) (s:=choose (.order fr.fn i)) (s':=choose (.order fr.fn i)) (.choose _ fun n=> .pure (f:=id) n trivial) w #[] hm;unfold LA at h;generalize hx:(choose (.order fr.fn i)).runT P w #[]=x at h;obtain ⟨r,es⟩:=x;have hrun:∀u,(choose (.order fr.fn i)).run P u=((choose (.order fr.fn i)).runT P u #[]).1:=fun u=>(Sem.runT_fst P _ u #[]).symm
     cases r with
     |ok t w1=>exact LG.seq (G:=fun u=>od fr cs (.inRegion ops (Region.schedule (P.follows .mixedOrders) ops t)::k) u) (es:=#[]) h.2 hx (fun u u1 hu=>by simp only [hrun,hu];rfl) (LG.go h.2.tm fun u=>rfl)
     |halt hh w1=>exact LG.ended (o:= .stuck "order" (fr.pos P)) (w2:=w1) (es:=#[]) (by simp only [hrun,hx];rfl)
   |rangeFunc f ps a b=>
    simp only [dy,Bool.and_eq_true] at hxo;have h:=nn ((gn.enterLoop (P:=P) (π:=zr.one) fr.fn fr.tmps ps a b fr.roundOf (by simp [hxo]) (by simp [hxo])).f (fs:=fs) []) w #[] hm;refine LG.congr (fun u=>ad5 ht) ?_;unfold LA at h;generalize hx:(Instr.enterLoop fr.fn fr.tmps ps a b fr.roundOf).runT P w #[]=x at h;obtain ⟨r,es⟩:=x;cases r with
    |halt hh w1=>exact LG.ended (by simp only [hx];rfl)
    |ok x w1=>
     obtain ⟨l,mark⟩:=x;obtain ⟨⟨hq1,hq2⟩,hl⟩:=h;refine LG.seq (G:=fun u=>stepG.apply P true {fr with todo:= .inRangeFunc l::k,defers:=mark++fr.defers} cs none (do let d ←resolve fr.eval {callee:= .value f,args:=#[.const (.func (.yield l) #[] #[])],argTypes:=#[]} 0;invoke d.target d.args) u) (es:=seen P fr.fn es) hl hx (fun u u1 hu=>by simp only [hu]) ?_;have hfr1:gp P {fr with todo:= .inRangeFunc l::k,defers:=mark++fr.defers}:=by
      refine ⟨all_cons rfl hk,fun d hd=> ?_,hfr.kind,fun hr=>⟨all_cons rfl (hmild hr).2,?_⟩⟩
      ·rcases List.mem_append.1 hd with hd|hd
       ·rw [List.all_eq_true] at hq1;exact hq1 d hd
       ·exact hfr.defers d hd
      ·show mark++fr.defers=[];have hm:mark=[]:=hq2 hr;rw [hm,(hfr.round hr).2];rfl
     refine vi (q:=en P) ?_ hfr1 fun x hx=> .inl hx
     have e':resolve fr.eval {callee:= .value f,args:=#[.const (.func (.yield l) #[] #[])],argTypes:=#[]} 0=Deferred.ofValue (fr.eval f) #[.func (.yield l) #[] #[]]:=by
      unfold resolve;simp only [List.map_toArray,List.map_cons,List.map_nil,Frame.eval]
     rw [e'];exact nn (bp.bind (P:=P) (fs:=fs) (π:=zr.one) (B:= .next) (h':=fun d=>invoke d.target d.args) (h:=fun d=>invoke d.target d.args) .defer (bp.ofValue (fr.eval f) #[.func (.yield l) #[] #[]]) (fun d hd=>bp.invoke C.one C.alike d.target hd d.args) []) w1 #[] hl.tm
theorem ai3 (C:Ctx P fs)(hm:Tm P w){d:Deferred}(hd:iy d.target=true):LG P (fun u=>callDeferred P fr cs none d u) w:=by
 cases hnp:jn d fr with
 |true=>
  obtain ⟨o,w2,e⟩:=ag0 (Q:=P) (cs:=cs) (w:=w) hnp;exact LG.ended e
 |false=>
  have h:=nn (bp.invoke (fs:=fs) C.one C.alike d.target hd d.args []) w #[] hm;unfold LA at h;generalize hx:(invoke d.target d.args).runT P w #[]=x at h;obtain ⟨r,es⟩:=x;cases r with
  |ok a w1=>
   obtain ⟨hn,hl⟩:=h;cases a with
   |value v=>exact LG.of hl hx fun u u1 hu=>rm hnp hu rfl
   |skip=>exact LG.of hl hx fun u u1 hu=>rm hnp hu rfl
   |comm ca b sh=>exact LG.of hl hx fun u u1 hu=>rm hnp hu rfl
   |enter f args=>exact LG.of hl hx fun u u1 hu=>aak hnp hu
   |round l f tm a b=>exact LG.of hl hx fun u u1 hu=>adz hnp hu
   |_=>exact hn.elim
  |halt hh w1=>
   by_cases hd:oe hh
   ·obtain ⟨o,w2,es2,e⟩:=aj4 (fr:=fr) (cs:=cs) hnp hx hd;exact LG.ended e
   ·cases hh with
    |panic v=>exact LG.of h hx fun u u1 hu=>ad3 hnp hu
    |_=>exact absurd h hd
theorem ah9 (C:Ctx P fs)(hm:Tm P w)(hfr:gp P fr)(hcs:cs≠[]):LG P (fun u=>unwind P m fr cs none u) w:=by
 cases hdf:fr.defers with
 |cons d ds=>
  have hdt:iy d.target=true:=hfr.defers d (by rw [hdf];simp)
  by_cases hcol:∃b,d.target= .collected b
  ·obtain ⟨tg,as⟩:=d;obtain ⟨b,hbq⟩:=hcol;obtain rfl:tg= .collected b:=hbq;have h:=nn ((gn.takeDeferred (P:=P) (π:=zr.one) b).f (fs:=fs) []) w #[] hm;refine LG.congr (fun u=>xc hdf) ?_;unfold LA at h;generalize hx:(Instr.takeDeferred b).runT P w #[]=x at h;obtain ⟨r,es⟩:=x;cases r with
   |halt hh w1=>exact LG.ended (by simp only [hx];rfl)
   |ok c w1=>exact LG.seq (G:=fun u=> .go (av {fr with defers:=c++ds} cs) u) (es:=seen P fr.fn es) h.2 hx (fun u u1 hu=>by simp only [hu]) (LG.go h.2.tm fun u=>rfl)
  ·exact LG.congr (fun u=>zu hdf fun b h=>hcol ⟨b,h⟩) (ai3 C hm hdt)
 |nil=>
  cases hmd:fr.mode with
  |run=>
   have:∀u,unwind P m fr cs none u= .ended (.stuck "unwind: the frame is running" (fr.pos P)) u:=fun u=>by
    obtain ⟨fn,tmps,todo,defers,mode,kind,rof⟩:=fr;subst (hdf:defers=_);subst (hmd:mode=_);rfl
   exact LG.ended (this w)
  |panicking chain=>
   cases cs with
   |nil=>exact absurd rfl hcs
   |cons c cs=>exact LG.go hm fun u=>aan hdf hmd (wx hfr.qv)
  |returning=>
   refine LG.congr (fun u=>vo hdf hmd) ?_;cases hp:P.funcs[fr.fn]? with
   |none=>exact uv hm hfr.kind
   |some fn=>
    have h:=nn ((aa.results (π:=zr.one) C.one fn fr.tmps).f (fs:=fs) []) w #[] hm;unfold LA at h;generalize hx:(Go.results fn fr.tmps).runT P w #[]=x at h;obtain ⟨r,es⟩:=x;cases r with
    |halt hh w1=>
     cases hh <;> exact LG.ended (by simp only [hx];rfl)
    |ok v w1=>exact LG.seq (G:=fun u=>doReturn P m fr cs none v u) (es:=seen P fr.fn es) h.2 hx (fun u u1 hu=>by simp only [hu]) (uv h.2.tm hfr.kind)
theorem amd (C:Ctx P fs)(hm:Tm P w)(hfr:gp P fr)(hcs:cs≠[]):LG P (fun u=>stepG P m (av fr cs) u) w:=by
 by_cases h:fr.mode= .run
 ·exact LG.congr (fun u=>sv h) (ak3 C hm hfr)
 ·exact LG.congr (fun u=>lh h) (ah9 C hm hfr hcs)
end
end Go.Proofs.YthgpdljlehklhaaGreat.zr
namespace Go.Proofs.YthgpdljlehklhaaGreat.zr
open Go Go.Conc
section
variable {P:Program}{fs:Array Func}{w w1:World}{m:Bool}{fr:Frame}{cs:List Frame}
def lf (c:CommCase)(w:World):Option (Value×World):=
 match c.chan with
 | .chan none=>some (.tuple #[goInt (-1),.bool false,c.zero],w)
 | .chan (some r)=>
  match w.heap[r]? with
  |some (.chan cap buf closed s rc tm)=>
   if 0<buf.size then some (.tuple #[goInt 0,.bool true,buf.getD 0 undef],{w with heap:=w.heap.setIfInBounds r (.chan cap (buf.extract 1 buf.size) closed s (rc+1) tm)})
   else if closed then some (.tuple #[goInt 0,.bool false,c.zero],w)
   else some (.tuple #[goInt (-1),.bool false,c.zero],w)
  |_=>none
 |_=>none
theorem o9 (rest:Rest)(gs:Array Goroutine)(i:Nat)(g:Goroutine)(c:CommCase)(hs:c.send=none)(hp:∀r,c.chan= .chan (some r)→partners gs r true=[])(w:World):
  (∀v w2,lf c w=some (v,w2)→(communicate P rest gs i g #[c] false .select w).1= .next {world:=w2,gs:=gs.setIfInBounds i {g with frame:=g.frame.finish v,status:= .running,offers:=none},rest})∧
  (lf c w=none→∃o w2,(communicate P rest gs i g #[c] false .select w).1= .ended o w2):=by
 obtain ⟨ch,send,zero⟩:=c;obtain rfl:send=none:=hs;cases ch with
 |chan r=>
  cases r with
  |none=>
   refine ⟨fun v w2 h=> ?_,fun h=>by simp [lf] at h⟩;obtain ⟨rfl,rfl⟩:=Prod.mk.inj (Option.some.inj h);simp [communicate,ways,Goroutine.finishComm,commResult]
  |some r=>
   have hp:=hp r rfl;unfold lf;dsimp only;cases ho:w.heap[r]? with
   |none=>exact ⟨fun v w2 h=>by simp at h,fun _=>⟨.stuck "a communication at a channel whose block is no channel's" (g.frame.pos P),w,by simp [communicate,ho]⟩⟩
   |some o=>
    cases o with
    |chan cap buf closed s rc tm=>
     refine ⟨fun v w2 h=> ?_,fun h=>by (repeat' split at h) <;> simp at h⟩
     by_cases hb:0<buf.size
     ·simp only [hb,if_true,Option.some.injEq,Prod.mk.injEq] at h;obtain ⟨rfl,rfl⟩:=h;simp [communicate,ways,ho,hp,hb,choose,Sem.run,Question.forced,bind,Sem.bind,pure,Goroutine.finishComm,commResult]
     ·simp only [hb,if_false] at h;have hb0:buf.size=0:=by omega
      cases closed with
      |true=>
       simp only [if_true,Option.some.injEq,Prod.mk.injEq] at h;obtain ⟨rfl,rfl⟩:=h;simp [communicate,ways,ho,hp,hb0,choose,Sem.run,Question.forced,bind,Sem.bind,pure,Goroutine.finishComm,commResult]
      |false=>
       simp only [Bool.false_eq_true,if_false,Option.some.injEq,Prod.mk.injEq] at h;obtain ⟨rfl,rfl⟩:=h;simp [communicate,ways,ho,hp,hb0,Goroutine.finishComm,commResult]
    |_=>exact ⟨fun v w2 h=>by simp at h,fun _=>⟨.stuck "a communication at a channel whose block is no channel's" (g.frame.pos P),w,by simp [communicate,ho]⟩⟩
 |_=>exact ⟨fun v w2 h=>by simp [lf] at h,fun _=>⟨.stuck "a communication at a channel whose block is no channel's" (g.frame.pos P),w,by simp [communicate]⟩⟩
end
end Go.Proofs.YthgpdljlehklhaaGreat.zr
namespace Go.Proofs.YthgpdljlehklhaaGreat.zr
open Go
section
variable {α:Type}
inductive mu (f:α→World→Option (α×World))(S:α→World→Prop):α→World→Prop
 |stop {g:α}{w:World}:S g w→mu f S g w
 |step {g:α}{w:World}(nx:Tap→Nat→α×World):(∀τ d,f g (tp w τ d)=some (nx τ d))→(∀τ d,mu f S (nx τ d).1 (nx τ d).2)→mu f S g w
theorem mu.step' {f:α→World→Option (α×World)}{S:α→World→Prop}{g:α}{w:World}(h:∀τ d,∃g' w',f g (tp w τ d)=some (g',w')∧mu f S g' w'):mu f S g w:=by
 have ⟨nx,hn⟩:∃nx:Tap→Nat→α×World,∀τ d,f g (tp w τ d)=some (nx τ d)∧mu f S (nx τ d).1 (nx τ d).2:=
  ⟨fun τ d=>(Classical.choose (h τ d),Classical.choose (Classical.choose_spec (h τ d))),fun τ d=>Classical.choose_spec (Classical.choose_spec (h τ d))⟩
 exact .step nx (fun τ d=>(hn τ d).1) fun τ d=>(hn τ d).2
def iter (f:α→World→Option (α×World)):Nat→α→World→Option (α×World)
 |0,g,w=>some (g,w)
 |n+1,g,w=>(iter f n g w).bind fun x=>f x.1 x.2
theorem aov {f:α→World→Option (α×World)}{g:α}{w:World}:∀{n j:Nat}{x:α×World},iter f n g w=some x→j≤n→∃y,iter f j g w=some y:=by
 intro n
 induction n with
 |zero=>intro j x h hj;obtain rfl:j=0:=by omega
        exact ⟨x,h⟩
 |succ n ih=>
  intro j x h hj
  by_cases hjn:j=n+1
  ·subst hjn;exact ⟨x,h⟩
  ·simp only [iter] at h;cases hi:iter f n g w with
   |none=>rw [hi] at h;cases h
   |some y=>exact ih hi ai
theorem merge {D c:Nat→Nat}{stuck:Nat→Prop}{ans:Nat→Nat→Question→Nat}(hD:∀i,D (i+1)=D i+c i)(hs:∀i,stuck i→stuck (i+1)∧c i=0∧ans (i+1)=ans i):
  ∃τ:Tap,∀i k q,(k<c i∨stuck i)→τ (D i+k) q=ans i k q:=by
 classical
 have mono:∀i j,i≤j→D i≤D j:=by
  intro i j hij
  induction j with
  |zero=>obtain rfl:i=0:=by omega
         exact Nat.le_refl _
  |succ j ih=>
   by_cases h:i=j+1
   ·subst h;exact Nat.le_refl _
   ·rw [hD];have:=ih ai;omega
 have stay:∀i n,stuck i→stuck (i+n)∧D (i+n)=D i∧ans (i+n)=ans i:=by
  intro i n h
  induction n with
  |zero=>exact ⟨h,rfl,rfl⟩
  |succ n ih=>
   obtain ⟨h1,h2,h3⟩:=ih;obtain ⟨k1,k2,k3⟩:=hs _ h1;exact ⟨k1,by rw [show i+ (n+1)=(i+n)+1 by omega,hD,k2,h2];rfl,by rw [show i+ (n+1)=(i+n)+1 by omega,k3,h3]⟩
 have uni:∀i j p,i≤j→D i≤p→(p<D i+c i∨stuck i)→D j≤p→ans i (p-D i)=ans j (p-D j):=by
  intro i j p hij h1 h2 h3
  by_cases h:i=j
  ·subst h;rfl
  ·have hst:stuck i:=by
    rcases h2 with h2|h2
    ·have:=mono (i+1) j ai;rw [hD] at this;omega
    ·exact h2
   obtain ⟨-,e1,e2⟩:=stay i (j-i) hst;rw [show i+ (j-i)=j by omega] at e1 e2;rw [e1,e2]
 refine ⟨fun p q=>if h:∃i,D i≤p∧(p<D i+c i∨stuck i) then ans (Classical.choose h) (p-D (Classical.choose h)) q else 0,fun i k q hk=> ?_⟩;have hex:∃j,D j≤D i+k∧(D i+k<D j+c j∨stuck j):=⟨i,by omega,hk.imp ai id⟩;simp only [dif_pos hex];have hc:=Classical.choose_spec hex;generalize Classical.choose hex=j at hc;have:ans i k=ans j (D i+k-D j):=by
  rcases Nat.le_total i j with hij|hij
  ·have:=uni i j (D i+k) hij ai (hk.imp ai id) hc.1
   rwa [Nat.add_sub_cancel_left] at this
  ·have:=uni j i (D i+k) hij hc.1 hc.2 ai;rw [Nat.add_sub_cancel_left] at this;exact this.symm
 rw [this]
theorem least {p:Nat→Prop}(n:Nat):∀j,j<n→p j→∃j,j<n∧p j∧∀k,k<j→¬p k:=by
 intro j
 induction j using Nat.strongRecOn with
 |ind j ih=>
  intro h1 h2
  by_cases h:∃k,k<j∧p k
  ·obtain ⟨k,hk,hp⟩:=h;exact ih k hk ai hp
  ·exact ⟨j,h1,h2,fun k hk hp=>h ⟨k,hk,hp⟩⟩
theorem ahb {f:α→World→Option (α×World)}{S Inv:α→World→Prop}(hI:∀g w τ d,Inv g w→Inv g (tp w τ d))
  (hstep:∀g w g1 w1,Inv g w→f g w=some (g1,w1)→Inv g1 w1∧w.drawn≤w1.drawn∧∀τ d,Win w w1.drawn τ d→f g (tp w τ d)=some (g1,tp w1 τ (d+ (w1.drawn-w.drawn))))
  (hS:∀g w τ d,S g w→S g (tp w τ d)){g0:α}{w0:World}(h0:Inv g0 w0)(hall:∀τ d,∃n g1 w1,iter f n g0 (tp w0 τ d)=some (g1,w1)∧S g1 w1):mu f S g0 w0:=by
 classical
 refine Classical.byContradiction fun hn=> ?_
 have hbad:∀x:α×World,∃td:Tap×Nat,¬mu f S x.1 x.2→∀g' w',f x.1 (tp x.2 td.1 td.2)=some (g',w')→¬mu f S g' w':=fun x=>by
  by_cases hx:mu f S x.1 x.2
  ·exact ⟨(x.2.tape,0),fun h=>absurd hx h⟩
  ·refine Classical.byContradiction fun hno=>hx (.step' fun τ d=> ?_)
   refine Classical.byContradiction fun hno2=>hno ⟨(τ,d),fun _ g' w' he hf=>hno2 ⟨g',w',he,hf⟩⟩
 have ⟨td,htd⟩:∃td:α×World→Tap×Nat,∀x,¬mu f S x.1 x.2→∀g' w',f x.1 (tp x.2 (td x).1 (td x).2)=some (g',w')→¬mu f S g' w':=⟨fun x=>Classical.choose (hbad x),fun x=>Classical.choose_spec (hbad x)⟩
 let nx:α×World→α×World:=fun x=>(f x.1 (tp x.2 (td x).1 (td x).2)).getD x
 let X:Nat→α×World:=fun i=>Nat.rec (g0,w0) (fun _ x=>nx x) i
 have X1:∀i,X (i+1)=nx (X i):=fun i=>rfl
 let stuck:Nat→Prop:=fun i=>f (X i).1 (tp (X i).2 (td (X i)).1 (td (X i)).2)=none
 let c:Nat→Nat:=fun i=>if f (X i).1 (tp (X i).2 (td (X i)).1 (td (X i)).2)=none then 0 else (X (i+1)).2.drawn- (td (X i)).2
 let D:Nat→Nat:=fun i=>Nat.rec 0 (fun i d=>d+c i) i
 have D1:∀i,D (i+1)=D i+c i:=fun i=>rfl
 have stay:∀i,stuck i→X (i+1)=X i:=fun i h=>by
  rw [X1];show (f (X i).1 (tp (X i).2 (td (X i)).1 (td (X i)).2)).getD (X i)=X i;rw [show f (X i).1 (tp (X i).2 (td (X i)).1 (td (X i)).2)=none from h];rfl
 obtain ⟨τ,hτ⟩:=merge (D:=D) (c:=c) (stuck:=stuck) (ans:=fun i k q=>(td (X i)).1 ((td (X i)).2+k) q) D1 (fun i h=>by
  have e:=stay i h;refine ⟨?_,if_pos h,?_⟩
  ·show f (X (i+1)).1 (tp (X (i+1)).2 (td (X (i+1))).1 (td (X (i+1))).2)=none;rw [e];exact h
  ·funext k q
   rw [e])
 have A:∀i,¬mu f S (X i).1 (X i).2∧Inv (X i).1 (X i).2:=by
  intro i
  induction i with
  |zero=>exact ⟨hn,h0⟩
  |succ i ih=>
   cases hf:f (X i).1 (tp (X i).2 (td (X i)).1 (td (X i)).2) with
   |none=>rw [stay i hf];exact ih
   |some y=>
    have e:X (i+1)=y:=by
     rw [X1];show (f (X i).1 (tp (X i).2 (td (X i)).1 (td (X i)).2)).getD (X i)=y;rw [hf];rfl
    rw [e];exact ⟨htd (X i) ih.1 y.1 y.2 hf,(hstep _ _ y.1 y.2 (hI _ _ _ _ ih.2) hf).1⟩
 have B:∀i,(∀j,j<i→¬stuck j)→iter f i g0 (tp w0 τ 0)=some ((X i).1,tp (X i).2 τ (D i)):=by
  intro i
  induction i with
  |zero=>intro _;rfl
  |succ i ih=>
   intro hj;have hi:=ih fun j h=>hj j ai
   simp only [iter,hi,Option.bind_some];cases hf:f (X i).1 (tp (X i).2 (td (X i)).1 (td (X i)).2) with
   |none=>exact absurd hf (hj i ai)
   |some y=>
    have e:X (i+1)=y:=by
     rw [X1];show (f (X i).1 (tp (X i).2 (td (X i)).1 (td (X i)).2)).getD (X i)=y;rw [hf];rfl
    have hc:c i=y.2.drawn- (td (X i)).2:=by
     show (if f (X i).1 (tp (X i).2 (td (X i)).1 (td (X i)).2)=none then 0 else (X (i+1)).2.drawn- (td (X i)).2)=_;rw [if_neg (by rw [hf];simp),e]
    obtain ⟨-,hm,heq⟩:=hstep _ _ y.1 y.2 (hI _ _ (td (X i)).1 (td (X i)).2 (A i).2) hf;have:=heq τ (D i) (fun k q hk=>by
     have hk':(td (X i)).2+k<y.2.drawn:=hk;exact hτ i k q (.inl ai))
    rw [e,D1,hc];exact this
 obtain ⟨n,g1,w1,hit,hs1⟩:=hall τ 0
 by_cases hst:∃j,j<n∧stuck j
 ·have ⟨j,hj1,hj2,hj3⟩:∃j,j<n∧stuck j∧∀k,k<j→¬stuck k:=by
   obtain ⟨j,h1,h2⟩:=hst;exact least n j h1 h2
  have hb:=B j hj3;obtain ⟨y,hy⟩:=aov hit (show j+1≤n by omega);simp only [iter,hb,Option.bind_some] at hy;obtain ⟨-,hm,heq⟩:=hstep _ _ y.1 y.2 (hI _ _ _ _ (A j).2) hy;have:=heq (td (X j)).1 (td (X j)).2 (fun k q _=>(hτ j k q (.inr hj2)).symm);have h2:f (X j).1 (tp (X j).2 (td (X j)).1 (td (X j)).2)=none:=hj2;rw [show tp (tp (X j).2 τ (D j)) (td (X j)).1 (td (X j)).2=tp (X j).2 (td (X j)).1 (td (X j)).2 from rfl,h2] at this;cases this
 ·have hb:=B n fun j hj hs=>hst ⟨j,hj,hs⟩
  rw [hb] at hit;obtain ⟨rfl,rfl⟩:=Prod.mk.inj (Option.some.inj hit);exact (A n).1 (.stop (hS _ (tp (X n).2 τ (D n)) (X n).2.tape (X n).2.drawn hs1))
end
end Go.Proofs.YthgpdljlehklhaaGreat.zr
namespace Go.Proofs.YthgpdljlehklhaaGreat.zr
open Go Go.Conc
section
variable {P:Program}{fs:Array Func}{Z F:Nat→Prop}{π:Pm}{w w' w1 w2:World}{m:Bool}{fr:Frame}{cs:List Frame}{T T':List Frame}
theorem selTo_tp (c:CommCase)(w:World)(τ:Tap)(d:Nat):lf c (tp w τ d)=(lf c w).map fun x=>(x.1,tp x.2 τ d):=by
 obtain ⟨ch,send,zero⟩:=c;cases ch with
 |chan r=>
  cases r with
  |none=>rfl
  |some r=>
   have e:(tp w τ d).heap[r]? =w.heap[r]? :=rfl;unfold lf;dsimp only;rw [e];cases w.heap[r]? with
   |none=>rfl
   |some o=>
    cases o with
    |chan cap buf closed s rc tm=>
     dsimp only
     by_cases hb:0<buf.size
     ·rw [if_pos hb,if_pos hb];rfl
     ·rw [if_neg hb,if_neg hb];cases closed <;> rfl
    |_=>rfl
 |_=>rfl
theorem ai0 {c:CommCase}{v:Value}(h:lf c w=some (v,w2))(hm:Tm P w):w2.drawn=w.drawn∧w2.tape=w.tape∧Tm P w2:=by
 obtain ⟨ch,send,zero⟩:=c;unfold lf at h;cases ch with
 |chan r=>
  cases r with
  |none=>
   obtain ⟨rfl,rfl⟩:=Prod.mk.inj (Option.some.inj h);exact ⟨rfl,rfl,hm⟩
  |some r=>
   dsimp only at h;cases ho:w.heap[r]? with
   |none=>rw [ho] at h;cases h
   |some o=>
    rw [ho] at h;cases o with
    |chan cap buf closed s rc tm=>
     dsimp only at h
     by_cases hb:0<buf.size
     ·rw [if_pos hb] at h;obtain ⟨rfl,rfl⟩:=Prod.mk.inj (Option.some.inj h);exact ⟨rfl,rfl,hm.set rfl⟩
     ·rw [if_neg hb] at h;cases closed with
      |true=>
       rw [if_pos rfl] at h;obtain ⟨rfl,rfl⟩:=Prod.mk.inj (Option.some.inj h);exact ⟨rfl,rfl,hm⟩
      |false=>
       rw [if_neg ae] at h;obtain ⟨rfl,rfl⟩:=Prod.mk.inj (Option.some.inj h);exact ⟨rfl,rfl,hm⟩
    |_=>cases h
 |_=>cases h
theorem ad1 (hA:At P Z F π w w'){c:CommCase}(hc:∀π',aw w.heap.size π π'→gq π' c=gq π c){v:Value}(h:lf c w=some (v,w2)):
  ∃w2',lf (gq π c) w'=some (al π v,w2')∧Adv P Z F π w w' π w2 w2' #[]∧∀π',aw w2.heap.size π π'→al π' v=al π v:=by
 obtain ⟨ch,send,zero⟩:=c;have hz:∀π',aw w.heap.size π π'→al π' zero=al π zero:=fun π' ha=>by
  have:=hc π' ha;simp only [gq,CommCase.mk.injEq] at this;exact this.2.2
 have t3:∀(π':Pm)(i b x y:Value),al π' x=y→al π' i=i→al π' b=b→al π' (.tuple #[i,b,x])= .tuple #[i,b,y]:=fun π' i b x y h1 h2 h3=>by simp [al,az,jr,h1,h2,h3]
 have gi:∀(π':Pm)(n:Int),al π' (goInt n)=goInt n:=fun π' n=>by simp [goInt,al]
 unfold lf at h;cases ch with
 |chan r=>
  cases r with
  |none=>
   obtain ⟨rfl,rfl⟩:=Prod.mk.inj (Option.some.inj h);refine ⟨w',?_,Adv.refl hA,fun π' ha=>by rw [t3 π' _ _ _ _ (hz π' ha) (gi _ _) (by simp [al]),t3 π _ _ _ _ rfl (gi _ _) (by simp [al])]⟩;rw [t3 π _ _ _ _ rfl (gi _ _) (by simp [al])];simp [lf,gq,al]
  |some r=>
   dsimp only at h;have hrs:∀π',aw w.heap.size π π'→π'.to r=π.to r:=fun π' ha=>by
    have:=hc π' ha;simp only [gq,CommCase.mk.injEq,al,Option.map_some,Value.chan.injEq,Option.some.injEq] at this;exact this.1
   have hlt:=ads hrs;have hE:=hA.rob π (aw.refl _ _);cases ho:w.heap[r]? with
   |none=>rw [ho] at h;cases h
   |some o=>
    rw [ho] at h;cases o with
    |chan cap buf closed s rc tm=>
     dsimp only at h;have nz:¬Z r:=fun hz=>by
      have:=hE.gu r hz;rw [ho] at this;cases this
     have nf:¬F r:=fun hf=>by
      obtain ⟨c,e,z,h1,-⟩:=hE.fz r hf;rw [ho] at h1;cases h1
     have ho':w'.heap[π.to r]? =some (.chan cap (az π buf) closed s rc tm):=(hE.own r _ ho nz nf).2;have hbs:∀π',aw w.heap.size π π'→az π' buf=az π buf:=fun π' ha=>by
      have:=((hA.rob π' ha).own r _ ho nz nf).2;rw [hrs π' ha,ho'] at this;simp only [cx,Option.some.injEq,Obj.chan.injEq] at this;exact this.2.1.symm
     have hsz:(az π buf).size=buf.size:=by rw [fh,Array.size_map]
     have same:∀(i:Int)(b:Bool),(v,w2)=(.tuple #[goInt i,.bool b,zero],w)→(lf (gq π {chan:= .chan (some r),send:=send,zero:=zero}) w'=some (.tuple #[goInt i,.bool b,al π zero],w'))→∃w2',lf (gq π {chan:= .chan (some r),send:=send,zero:=zero}) w'=some (al π v,w2')∧Adv P Z F π w w' π w2 w2' #[]∧∀π',aw w2.heap.size π π'→al π' v=al π v:=fun i b e1 e2=>by
      obtain ⟨rfl,rfl⟩:=Prod.mk.inj e1;refine ⟨w',?_,Adv.refl hA,fun π' ha=>by rw [t3 π' _ _ _ _ (hz π' ha) (gi _ _) (by simp [al]),t3 π _ _ _ _ rfl (gi _ _) (by simp [al])]⟩;rw [t3 π _ _ _ _ rfl (gi _ _) (by simp [al])];exact e2
     have e0:lf (gq π {chan:= .chan (some r),send:=send,zero:=zero}) w'=(if 0< (az π buf).size then some (.tuple #[goInt 0,.bool true,(az π buf).getD 0 undef],{w' with heap:=w'.heap.setIfInBounds (π.to r) (.chan cap ((az π buf).extract 1 (az π buf).size) closed s (rc+1) tm)})
       else if closed then some (.tuple #[goInt 0,.bool false,al π zero],w') else some (.tuple #[goInt (-1),.bool false,al π zero],w')):=by
      simp only [lf,gq,al,Option.map_some,ho']
     by_cases hb:0<buf.size
     ·rw [if_pos hb] at h;obtain ⟨rfl,rfl⟩:=Prod.mk.inj (Option.some.inj h);have hv:∀π',al π' (.tuple #[goInt 0,.bool true,buf.getD 0 undef])= .tuple #[goInt 0,.bool true,(az π' buf).getD 0 undef]:=fun π'=>t3 π' _ _ _ _ (sj buf 0).symm (gi _ _) (by simp [al])
      have hex:∀π',az π' (buf.extract 1 buf.size)=(az π' buf).extract 1 (az π' buf).size:=fun π'=>by
       rw [fh,fh,Array.map_extract,Array.size_map]
      refine ⟨_,by rw [e0,if_pos (by rw [hsz];exact hb),hv],?_,fun π' ha=>by rw [hv,hv,hbs π' (by simpa using ha)]⟩;refine ⟨aw.refl _ _,hA.afc (o1:= .chan cap (buf.extract 1 buf.size) closed s (rc+1) tm) hlt nz nf rfl rfl (by simp only [cx,hex]) (fun π' ha=>by simp only [cx,hex,hbs π' ha]),by simp,At.qm hlt nz nf,by simp,fun b h1 h2=> ?_,rfl,fun e=>⟨e.1,by simp [e.2]⟩,rfl,fun c h1 h2=>absurd h2 (by simp;omega)⟩;have h2':b< (w.heap.setIfInBounds r (.chan cap (buf.extract 1 buf.size) closed s (rc+1) tm)).size:=h2;rw [Array.size_setIfInBounds] at h2';omega
     ·rw [if_neg hb] at h;rw [if_neg (by rw [hsz];exact hb)] at e0;cases closed with
      |true=>
       rw [if_pos rfl] at h e0;exact same 0 false (Option.some.inj h).symm e0
      |false=>
       rw [if_neg ae] at h e0;exact same (-1) false (Option.some.inj h).symm e0
    |_=>cases h
 |_=>cases h
end
section
variable {P:Program}{fs:Array Func}{Z F:Nat→Prop}{π:Pm}{w w' w1 w2:World}{m:Bool}{fr:Frame}{cs:List Frame}{T T':List Frame}
theorem th (C:Ctx P fs)(hA:At P Z F π w w')(hb:Base π w.heap.size){m m':Bool}{fr:Frame}{A:List Frame}(hok:iz P (fr::A))(hst:Still w.heap.size π (fr::A))(hnb:fr.mode= .run∨A≠[]∨fr.defers≠[]):
  lp P fs Z F π w w' T T' (stepG P m (av fr (A++T)) w) (stepG (aq P fs) m' (av (ax π fr) (A.map (ax π)++T')) w'):=by
 by_cases h:fr.mode= .run
 ·have h':(ax π fr).mode= .run:=by simp [ax,h,ko]
  rw [sv h,sv h'];exact aog C hA hb hok hst
 ·have h':(ax π fr).mode≠ .run:=by
   cases hm:fr.mode with
   |run=>exact absurd hm h
   |_=>simp [ax,hm,ko]
  rw [lh h,lh h'];exact ajd C hA hb hok hst (hnb.resolve_left h)
theorem j4 {g:Goroutine}{o:Outcome}{es:Array Event}(hs:g.status= .running)(h:stepG P true g w= .ended o w1 es):step P (solo g w)= .ended o w1:=by
 rw [step,stepT_solo hs];simp [runT,solo,Array.swapAt!,Array.swapAt,h]
theorem lv {g g2:Goroutine}{c:CommCase}{es:Array Event}(hs:g.status= .running)(h:stepG P true g w= .comm g2 #[c] false .select w1 es):
  step P (solo g w)=(communicate P {timers:=#[],alone:=none,slice:=none} #[{(default:Goroutine) with status:= .finished}] 0 g2 #[c] false .select w1).1:=by
 rw [step,stepT_solo hs];simp [runT,solo,Array.swapAt!,Array.swapAt,h]
theorem At.tp (h:At P Z F π w w')(τ:Tap)(d:Nat):At P Z F π (zr.tp w τ d) (zr.tp w' τ d):=
 ⟨fun π' ha=>let e:=h.rob π' ha;⟨e.gu,e.fz,e.own,rfl,rfl,e.os,e.out⟩,h.zlt,h.flt,h.img⟩
def de:Frame:={fn:=0,tmps:=#[],todo:=[.code (.refuse "")],defers:=[{target:= .nil,args:=#[]}],mode:= .run,kind:= .normal}
def low (g:Goroutine):Bool:=g.callers.length≤1 && g.frame.defers.isEmpty && (match g.frame.mode with| .run=>false|_=>true)
def lst (P:Program)(g:Goroutine)(w:World):Option (Goroutine×World):=
 if low g then none else match step P (solo g w) with
 | .next m=>some ((m.gs[0]?).getD g,m.world)
 |_=>none
def Inv (P:Program)(Z F:Nat→Prop)(g:Goroutine)(w:World):Prop:=∃fr A π w',g=av fr (A++ [de])∧iz P (fr::A)∧Still w.heap.size π (fr::A)∧Base π w.heap.size∧At P Z F π w w'
theorem Inv.tp {g:Goroutine}(h:Inv P Z F g w)(τ:Tap)(d:Nat):Inv P Z F g (zr.tp w τ d):=by
 obtain ⟨fr,A,π,w',h1,h2,h3,h4,h5⟩:=h;exact ⟨fr,A,π,zr.tp w' τ d,h1,h2,h3,h4,h5.tp τ d⟩
theorem Top.still {N:Nat}{fr fr':Frame}(h:Top P fs N π fr fr'):∀π',aw N π π'→ax π' fr=ax π fr:=fun π' ha=>by
 rcases h with h|⟨f,args,k,rfl,rfl,h⟩
 ·rw [←h π' ha,←h π (aw.refl _ _)]
 ·have:=h π' ha;have key:∀π:Pm,ax π (Frame.enter P f args k)={Frame.enter P f args k with tmps:=az π args++Array.replicate (((P.funcs[f]?).map (·.ntmps)).getD 0-args.size) undef}:=fun π=>by
   simp only [ax,Frame.enter,Frame.mk.injEq,List.map_cons,List.map_nil,ez,ko,Option.map_none];refine ⟨trivial,?_,trivial,trivial,trivial,trivial,trivial⟩;rw [jl];congr 1;rw [fh,Array.map_replicate];rfl
  rw [key,key,this]
theorem aco {fr:Frame}{A:List Frame}(h:low (av fr (A++ [de]))=false):fr.mode= .run∨A≠[]∨fr.defers≠[]:=by
 by_cases h1:fr.mode= .run
 ·exact .inl h1
 ·by_cases h2:A=[]
  ·refine .inr (.inr fun h3=> ?_);subst h2;have:low (av fr ([]++ [de]))=true:=by
    unfold low av;simp only [h3];cases hm:fr.mode with
    |run=>exact absurd hm h1
    |_=>rfl
   rw [h] at this;cases this
  ·exact .inr (.inl h2)
theorem sf (C:Ctx P fs){g g1:Goroutine}(h:Inv P Z F g w)(hs:lst P g w=some (g1,w1)):Inv P Z F g1 w1∧step P (solo g w)= .next (solo g1 w1)∧w.drawn≤w1.drawn∧∀τ d,Win w w1.drawn τ d→lst P g (zr.tp w τ d)=some (g1,zr.tp w1 τ (d+ (w1.drawn-w.drawn))):=by
 obtain ⟨fr,A,π,w',rfl,hok,hst,hb,hA⟩:=h;have hlow:low (av fr (A++ [de]))=false:=by
  cases hl:low (av fr (A++ [de])) with
  |false=>rfl
  |true=>simp [lst,hl] at hs
 have hlst:∀u,lst P (av fr (A++ [de])) u=(match step P (solo (av fr (A++ [de])) u) with| .next m=>some ((m.gs[0]?).getD (av fr (A++ [de])),m.world)|_=>none):=fun u=>by
  unfold lst;rw [hlow];rfl
 have hL:=amd (m:=true) (cs:=A++ [de]) C hA.tm (hok.ok fr List.mem_cons_self) ae;have hT:=th (T:=[de]) (T':=[]) C hA hb (m:=true) (m':=true) hok hst (aco hlow);have hL:(match stepG P true (av fr (A++ [de])) w with
   | .go g1 w1 es=>Lc P (fun u=>stepG P true (av fr (A++ [de])) u) w (fun u=> .go g1 u es) w1
   | .comm g1 cs b sh w1 es=>ahg g1 cs b sh∧Lc P (fun u=>stepG P true (av fr (A++ [de])) u) w (fun u=> .comm g1 cs b sh u es) w1
   | .ended .. =>True
   |_=>False):=hL
 rw [hlst] at hs;cases hg:stepG P true (av fr (A++ [de])) w with
 |go g2 w2 es=>
  rw [hg] at hL hT;rw [step_solo_go rfl hg] at hs;obtain ⟨rfl,rfl⟩:=Prod.mk.inj (Option.some.inj hs);obtain ⟨fr1,A1,e,hok1,π1,w1',fr1',new,-,hadv,htop,hst1⟩:=hT;refine ⟨⟨fr1,A1,π1,w1',e,hok1,Still.cons.2 ⟨htop.still,hst1⟩,hb.adv hadv,hadv.at_⟩,step_solo_go rfl hg,hL.mono,fun τ d hw=> ?_⟩;rw [hlst,step_solo_go rfl (hL.eq τ d hw)];rfl
 |comm g2 ca b sh w2 es=>
  rw [hg] at hL hT;obtain ⟨⟨rfl,rfl,⟨c,rfl,hsend⟩,-⟩,hl⟩:=hL;obtain ⟨-,-,fr1,A1,rfl,hok1,c',hc',-,π1,w1',new,-,hadv,hcs,hst1⟩:=hT;obtain rfl:c=c':=by simpa using hc'
  have hpart:∀r,c.chan= .chan (some r)→partners #[{(default:Goroutine) with status:= .finished}] r true=[]:=fun r _=>partners_alone (c:=r) true
  rw [lv rfl hg] at hs;obtain ⟨k1,k2⟩:=o9 (P:=P) {timers:=#[],alone:=none,slice:=none} #[{(default:Goroutine) with status:= .finished}] 0 (av fr1 (A1++ [de])) c hsend hpart w2;cases hsel:lf c w2 with
  |none=>
   obtain ⟨o,w3,e⟩:=k2 hsel;rw [e] at hs;cases hs
  |some x=>
   obtain ⟨v,w3⟩:=x;rw [k1 v w3 hsel] at hs;obtain ⟨hg1,rfl⟩:=Prod.mk.inj (Option.some.inj hs);have hg1':g1=av (fr1.finish v) (A1++ [de]):=by rw [←hg1];rfl
   subst hg1';obtain ⟨w2',-,hadv2,hv⟩:=ad1 hadv.at_ hcs hsel;obtain ⟨d1,d2,d3⟩:=ai0 hsel hl.tm;have hfr1:=hok1.ok fr1 List.mem_cons_self;obtain ⟨hst2,-⟩:=hst1.adv hadv2;have hst3:=Still.cons.1 hst2;refine ⟨⟨fr1.finish v,A1,π1,w2',rfl,hok1.top (hfr1.finish v) (fq fr1 v).1 (fq fr1 v).2,Still.cons.2 ⟨kh hfr1 hst3.1 hv,hst3.2⟩,(hb.adv hadv).adv hadv2,hadv2.at_⟩,(lv rfl hg).trans (k1 v w3 hsel),by rw [d1];exact hl.mono,fun τ d hw=> ?_⟩;rw [d1] at hw;obtain ⟨j1,-⟩:=o9 (P:=P) {timers:=#[],alone:=none,slice:=none} #[{(default:Goroutine) with status:= .finished}] 0 (av fr1 (A1++ [de])) c hsend hpart (zr.tp w2 τ (d+ (w2.drawn-w.drawn)));rw [hlst,lv rfl (hl.eq τ d hw),j1 v (zr.tp w3 τ (d+ (w2.drawn-w.drawn))) (by rw [selTo_tp,hsel];rfl),d1];rfl
 |ended o w2 es=>
  rw [j4 rfl hg] at hs;cases hs
 |_=>
  rw [hg] at hL;exact hL.elim
end
section
variable {P:Program}{fs:Array Func}{Z F:Nat→Prop}{π:Pm}{w w' w1 w2:World}{m:Bool}{fr:Frame}{cs:List Frame}{T T':List Frame}
theorem xz {α:Type}{f:α→World→Option (α×World)}:∀(n:Nat)(g:α)(w:World),iter f (n+1) g w=(f g w).bind fun x=>iter f n x.1 x.2
 |0,g,w=>by
  simp only [iter,Option.bind_some];cases f g w <;> rfl
 |n+1,g,w=>by
  rw [iter,xz n g w];cases f g w with
  |none=>rfl
  |some x=>rfl
theorem aek (w:World):(∃o w2,step P (solo (av de []) w)= .ended o w2)∧∀chain,∃o w2,step P (solo (av (de.raise chain) []) w)= .ended o w2:=by
 refine ⟨?_,fun chain=> ?_⟩
 ·obtain ⟨o,e⟩:=xy (Q:=P) (m:=true) (fr:=de) (cs:=[]) (w:=w) rfl;exact ⟨o,w,j4 rfl ((sv rfl).trans e)⟩
 ·have hd:(de.raise chain).defers=[{target:= .nil,args:=#[]}]:=rfl;obtain ⟨o,w2,e⟩:=ag0 (Q:=P) (cs:=[]) (w:=w) (d:={target:= .nil,args:=#[]}) (fr:={de.raise chain with defers:=[]}) rfl;exact ⟨o,w2,j4 rfl ((lh (by simp [de,Frame.raise])).trans ((zu hd (fun b h=>by cases h)).trans e))⟩
theorem low_step {g:Goroutine}(h:Inv P Z F g w)(hl:low g=true):(∃o w2,step P (solo g w)= .ended o w2)∨∃c' w2,step P (solo g w)= .next (solo (av c' []) w2)∧(c'=de∨∃chain,c'=de.raise chain):=by
 obtain ⟨fr,A,π,w',rfl,hok,hst,hb,hA⟩:=h;unfold low av at hl;simp only [Bool.and_eq_true,decide_eq_true_eq,List.length_append,List.length_singleton,List.isEmpty_iff] at hl;obtain ⟨⟨hlen,hdf⟩,hmd⟩:=hl;have hA0:A=[]:=by
  cases A with
  |nil=>rfl
  |cons a l=>simp at hlen
 subst hA0;have hfr:=hok.ok fr List.mem_cons_self;have hkind:fr.kind= .normal:=by
  obtain ⟨b,hb,h1,h2⟩:=hok.bot;obtain rfl:fr=b:=by simpa using hb
  exact h2
 have hret:∀v u,doReturn P true fr [de] none v u= .go (av de []) u:=fun v u=>by
  rw [pf (.inl hkind),hkind];rfl
 cases hm:fr.mode with
 |run=>rw [hm] at hmd;simp at hmd
 |panicking chain=>
  refine .inr ⟨de.raise chain,w,step_solo_go rfl ((lh (by rw [hm];simp)).trans (aan hdf hm (wx hfr.qv))),.inr ⟨chain,rfl⟩⟩
 |returning=>
  have e:stepG P true (av fr ([]++ [de])) w=_:=(lh (by rw [hm];simp)).trans (vo hdf hm);cases hp:P.funcs[fr.fn]? with
  |none=>
   rw [hp] at e;exact .inr ⟨de,w,step_solo_go rfl (e.trans (hret _ _)),.inl rfl⟩
  |some fn=>
   rw [hp] at e;cases hx:(Go.results fn fr.tmps).runT P w #[] with
   |mk r es=>
    simp only [hx] at e;cases r with
    |ok v w1=>
     have e2:stepG P true (av fr ([]++ [de])) w=GStep.after (seen P fr.fn es) (doReturn P true fr [de] none v w1):=e;rw [hret] at e2;exact .inr ⟨de,w1,step_solo_go rfl e2,.inl rfl⟩
    |halt hh w1=>
     refine .inl ?_;cases hh <;> exact ⟨_,_,j4 rfl e⟩
theorem ad8 (C:Ctx P fs){fr':Frame}:∀(n:Nat)(g:Goroutine)(w:World),Inv P Z F g w→runN P n (solo g w)= .next (solo (av fr' [de]) w2)→iter (lst P) n g w=some (av fr' [de],w2):=by
 intro n
 induction n with
 |zero=>
  intro g w _ h;have h:Stepped.next (solo g w)= .next (solo (av fr' [de]) w2):=h;simp only [Stepped.next.injEq,solo,Machine.mk.injEq] at h;obtain ⟨h1,h2,-⟩:=h;have:g=av fr' [de]:=by simpa using h2
  rw [this,h1];rfl
 |succ n ih=>
  intro g w hI h;cases hl:low g with
  |true=>
   exfalso;rcases low_step hI hl with ⟨o,w3,e⟩|⟨c',w3,e,hc⟩
   ·simp only [runN,e] at h;cases h
   ·simp only [runN,e] at h;cases n with
    |zero=>
     have h:Stepped.next (solo (av c' []) w3)= .next (solo (av fr' [de]) w2):=h;simp only [Stepped.next.injEq,solo,Machine.mk.injEq] at h;have:av c' []=av fr' [de]:=by simpa using h.2.1
     simp [av] at this
    |succ n=>
     have:∃o w4,step P (solo (av c' []) w3)= .ended o w4:=by
      rcases hc with rfl|⟨chain,rfl⟩
      ·exact (aek w3).1
      ·exact (aek w3).2 chain
     obtain ⟨o,w4,e2⟩:=this;simp only [runN,e2] at h;cases h
  |false=>
   rw [xz];cases hst:step P (solo g w) with
   |ended o w3=>
    simp only [runN,hst] at h;cases h
   |next m1=>
    simp only [runN,hst] at h;have hls:lst P g w=some ((m1.gs[0]?).getD g,m1.world):=by
     unfold lst;rw [hl,hst];rfl
    obtain ⟨hI1,hst1,-,-⟩:=sf C hI hls;have hm1:m1=solo ((m1.gs[0]?).getD g) m1.world:=by
     rw [hst] at hst1;exact Stepped.next.inj hst1
    rw [hls];rw [hm1] at h;exact ih _ _ hI1 h
def qa (P:Program)(f:FuncId)(R:Ending→World→Prop)(g:Goroutine)(w:World):Prop:=
 ∃e fr,e≠ .outgrown∧g=av fr [de]∧fr.fn=f∧fr.leaving P w e∧R e w∧Tm P w
theorem xu (C:Ctx P fs){f:FuncId}{R:Ending→World→Prop}(hR:∀e w τ d,R e w→R e (tp w τ d)){g:Goroutine}(h:qa P f R g w)(τ:Tap)(d:Nat):qa P f R g (tp w τ d):=by
 obtain ⟨e,fr,h1,h2,h3,h4,h5,h6⟩:=h;refine ⟨e,fr,h1,h2,h3,?_,hR _ _ _ _ h5,h6⟩;cases e with
 |outgrown=>trivial
 |panicked chain=>exact h4
 |returned v=>
  obtain ⟨a1,a2,a3,fn,a4,a5⟩:=h4;refine ⟨a1,a2,a3,fn,a4,?_⟩;have hl:=nn ((aa.results (π:=zr.one) C.one fn fr.tmps).f (fs:=fs) []) w #[] h6;rw [←Sem.runT_fst P _ _ #[]] at a5 ⊢;unfold LA at hl;cases hx:(Go.results fn fr.tmps).runT P w #[] with
  |mk r es=>
   rw [hx] at a5 hl;obtain rfl:r= .ok v w:=a5;have:=hl.2.eq τ d (fun i q hi=>by omega);rw [show (Go.results fn fr.tmps).runT P (tp w τ d) #[]=_ from this,Nat.sub_self];rfl
theorem abl (C:Ctx P fs){f:FuncId}{args:Array Value}{R:Ending→World→Prop}(hR:∀e w τ d,R e w→R e (tp w τ d))(hno:∀w,¬R .outgrown w)(h:∀τ d,Calls P f args (tp w τ d) R)
  (hI:Inv P Z F (av (Frame.enter P f args .normal) [de]) w):mu (lst P) (qa P f R) (av (Frame.enter P f args .normal) [de]) w:=by
 have hI0:∀n g w w2 fr',Inv P Z F g w→iter (lst P) n g w=some (av fr' [de],w2)→Tm P w2:=by
  intro n
  induction n with
  |zero=>
   intro g w w2 fr' hI h;obtain ⟨-,rfl⟩:=Prod.mk.inj (Option.some.inj h);obtain ⟨_,_,_,_,_,_,_,_,hA⟩:=hI;exact hA.tm
  |succ n ih=>
   intro g w w2 fr' hI h;rw [xz] at h;cases hs:lst P g w with
   |none=>rw [hs] at h;cases h
   |some x=>
    rw [hs] at h;exact ih _ _ _ _ (sf C hI (w1:=x.2) (g1:=x.1) hs).1 h
 refine ahb (S:=qa P f R) (Inv:=Inv P Z F) (fun g w τ d hi=>hi.tp τ d) (fun g w g1 w1 hi hs=> ?_) (fun g w τ d hs=>xu C hR hs τ d) hI fun τ d=> ?_
 ·obtain ⟨a,b,c,e⟩:=sf C hi hs;exact ⟨a,c,e⟩
 ·obtain ⟨e,w',fr,hr,hc,hf,hl⟩:=h τ d [de];have he:e≠ .outgrown:=fun he=>by subst he;exact hno _ hr
  have hsteps:Steps P (lone (Frame.enter P f args .normal) [de] (tp w τ d)) (lone fr [de] w'):=by
   cases e with
   |outgrown=>exact absurd rfl he
   |_=>exact hc
  obtain ⟨n,hn⟩:=hsteps;have hit:=ad8 C n _ _ (hI.tp τ d) hn;exact ⟨n,_,_,hit,e,fr,he,rfl,hf,hl,hr,hI0 n _ _ _ _ (hI.tp τ d) hit⟩
end
theorem one_addr (a:Addr):one.addr a=a:=rfl
theorem afw (a:Option Addr):a.map one.addr=a:=by cases a <;> rfl
theorem aes (a:Option Nat):a.map one.to=a:=by cases a <;> rfl
theorem one_fn (f:Fn):one.fn f=f:=by cases f <;> rfl
mutual
theorem jw:∀v:Value,al one v=v
 | .pointer a=>by simp [al,afw]
 | .slice a l c=>by simp [al,afw]
 | .map r=>by simp [al,aes]
 | .chan r=>by simp [al,aes]
 | .func fn first captured=>by simp [al,one_fn,jg first,jg captured]
 | .iface t v=>by simp [al,jw v]
 | .agg cs=>by simp [al,jg cs]
 | .tuple vs=>by simp [al,jg vs]
 | .bool b=>by simp [al]
 | .int k n=>by simp [al]
 | .float k b=>by simp [al]
 | .complex k a b=>by simp [al]
 | .string s=>by simp [al]
 | .nilFunc=>by simp [al]
 | .nilIface=>by simp [al]
theorem jg:∀a:Array Value,az one a=a
 |⟨l⟩=>by simp [az,ag9 l]
theorem ag9:∀l:List Value,jr one l=l
 | []=>by simp [jr]
 |v::l=>by simp [jr,jw v,ag9 l]
end
theorem ur (d:Deferred):dz one d=d:=by
 obtain ⟨t,as⟩:=d;cases t <;> simp [dz,jx,one_fn,jg] <;> rfl
theorem aer (o:Obj):cx one o=o:=by
 cases o with
 |map es k=>
  simp only [cx,jw];rw [show (fun e:MapEntry=>({e with key:=e.key,val:=e.val}:MapEntry))=id from rfl,Array.map_id]
 |mapIter m s seen st=>simp only [cx,aes]
 |deferred c=>
  cases c with
  |none=>rfl
  |some ds=>
   simp only [cx,Option.map_some];rw [show dz one=id from funext ur,List.map_id]
 |_=>simp [cx,jg,one_addr,ll] <;> rfl
theorem ajc (x:Item):ez one x=x:=by cases x <;> rfl
theorem aks (e:PanicEntry):j6 one e=e:=by simp [j6,jw]
theorem na (fr:Frame):ax one fr=fr:=by
 obtain ⟨fn,tmps,todo,defers,mode,kind,rof⟩:=fr;simp only [ax,Frame.mk.injEq];refine ⟨trivial,jg _,?_,?_,?_,trivial,aes _⟩
 ·rw [show ez one=id from funext ajc,List.map_id]
 ·rw [show dz one=id from funext ur,List.map_id]
 ·cases mode with
  |panicking chain=>
   simp only [ko];rw [show j6 one=id from funext aks,List.map_id]
  |_=>rfl
theorem u9 (A:List Frame):A.map (ax one)=A:=by
 rw [show ax one=id from funext na,List.map_id]
def kz:Nat→Prop:=fun _=>False
theorem xw {w w':World}(hh:w'.heap=w.heap)(e1:w'.tape=w.tape)(e2:w'.drawn=w.drawn)(e3:w'.os=w.os)(e4:w'.output=w.output):w'=w:=by
 obtain ⟨h1,h2,h3,h4,h5⟩:=w';obtain ⟨k1,k2,k3,k4,k5⟩:=w;simp only at hh e1 e2 e3 e4;subst hh e1 e2 e3 e4;rfl
class Bg where
 H0:Array Obj
def zb [Bg] (b:Nat):Prop:=b<Bg.H0.size
def cy [Bg] (w:World):World:={w with heap:=w.heap.mapIdx fun b o=>if h:b<Bg.H0.size then Bg.H0[b] else o}
theorem ahm [Bg] (w:World)(b:Nat):(cy w).heap[b]? =(w.heap[b]?).map fun o=>if h:b<Bg.H0.size then Bg.H0[b] else o:=by simp [cy]
@[simp] theorem ji [Bg] (w:World):(cy w).heap.size=w.heap.size:=by simp [cy]
theorem j9 [Bg] {w:World}{b:Nat}(h:¬zb b):(cy w).heap[b]? =w.heap[b]? :=by
 rw [ahm];unfold zb at h;cases w.heap[b]? <;> simp [h]
theorem uy [Bg] {w:World}{b:Nat}(h:b<Bg.H0.size)(hb:b<w.heap.size):(cy w).heap[b]? =some Bg.H0[b]:=by
 rw [ahm,Array.getElem?_eq_getElem hb];simp [h]
abbrev Whole [Bg] (P:Program)(w:World):Prop:=At P zb kz one w (cy w)
theorem Whole.self [Bg] {P:Program}{w:World}(h:Whole P w):At P zb kz one w w:=by
 refine ⟨fun π' ha=> ?_,h.zlt,h.flt,fun b hb=>hb⟩;have e:=h.rob π' ha;refine ⟨e.gu,fun b hb=>hb.elim,fun b o ho hz hf=> ?_,rfl,rfl,rfl,rfl⟩;obtain ⟨h1,h2⟩:=e.own b o ho hz hf;have hb:b<w.heap.size:=(Array.getElem?_eq_some_iff.1 ho).1;have e1:π'.to b=b:=ha b hb;refine ⟨h1,?_⟩;rw [e1] at h2 ⊢;rw [j9 hz] at h2;exact h2
theorem Whole.tp [Bg] {P:Program}{w:World}(h:Whole P w)(τ:Tap)(d:Nat):Whole P (zr.tp w τ d):=At.tp h τ d
section
variable {P:Program}{fs:Array Func}{w w1:World}{m m':Bool}{a a1:Goroutine}
def mn:Loc→Prop:=fun _=>False
theorem evl [Bg] {e:Event}{N:Nat}(h:ub zb kz N one e):EvL mn N e:=by
 obtain ⟨loc,wr,sy⟩:=e;refine ⟨fun _ _ h=>h.elim,?_,?_,?_⟩
 ·intro hl;simp only at hl;subst hl;exact absurd h (by simp [ub,nv])
 ·intro hl;simp only at hl;subst hl;exact absurd h (by simp [ub,nv])
 ·cases loc with
  |cell x=>
   obtain ⟨b,h1,-,-,h2⟩:=h;show x.block<N;rw [h2];exact h1
  |obj r=>
   obtain ⟨b,h1,-,-,h2⟩:=h;have hr:r<N:=by
    rw [h2];exact h1
   cases wr <;> cases sy <;> exact hr
  |output=>trivial
  |goroutines=>exact h.elim
  |mark mk=>
   have hb:nv mk=true:=h;cases mk <;> first|trivial|simp [nv] at hb
def Fit [Bg] (P:Program)(T:List Frame)(a:Goroutine)(w:World):Prop:=∃fr A,a=av fr (A++T)∧iz P (fr::A)∧Still w.heap.size one (fr::A)∧Base one w.heap.size∧Whole P w
def zw (P:Program)(fs:Array Func)(a a':Goroutine):Prop:=a'=a∨∃f args k cs,a=av (Frame.enter P f args k) cs∧a'=av (Frame.enter (aq P fs) f args k) cs
def zh (T:List Frame)(a:Goroutine):Prop:=∀fr,a≠av fr T∨fr.mode= .run∨fr.defers≠[]
theorem ux [Bg] (hA:Whole P w){π1:Pm}{w1':World}{new:Array Event}(h:Adv P zb kz one w (cy w) π1 w1 w1' new):π1=one∧w1'=cy w1∧Whole P w1:=by
 obtain ⟨h1,h2⟩:=h.idn ⟨rfl,ji w⟩;subst h1;have e:=h.at_.rob one (aw.refl _ _);have hh:w1'.heap=(cy w1).heap:=by
  refine Array.ext_getElem? fun b=> ?_
  by_cases hb:b<w1.heap.size
  ·by_cases hz:b<Bg.H0.size
   ·have hbw:b<w.heap.size:=hA.zlt b hz;rw [uy hz hb,h.qm.ff b (by simpa using hbw) fun x hx hzx hfx e=>hzx (by rw [←show b=x from e];exact hz),uy hz hbw]
   ·rw [j9 hz];have:=(e.own b _ (Array.getElem?_eq_getElem hb) hz (fun h=>h)).2;rw [aer] at this;rw [Array.getElem?_eq_getElem hb];exact this
  ·rw [Array.getElem?_eq_none ai,Array.getElem?_eq_none (by simp;omega)]
 have he:w1'=cy w1:=xw hh e.tape e.drawn e.os e.out;have h3:=h.at_;rw [he] at h3;exact ⟨rfl,he,h3⟩
theorem aho [Bg] (hA:At P zb kz one w w){π1:Pm}{w1':World}{new:Array Event}(h:Adv P zb kz one w w π1 w1 w1' new):π1=one∧w1'=w1:=by
 obtain ⟨h1,h2⟩:=h.idn ⟨rfl,rfl⟩;subst h1;have e:=h.at_.rob one (aw.refl _ _);have hh:w1'.heap=w1.heap:=by
  refine Array.ext_getElem? fun b=> ?_
  by_cases hb:b<w1.heap.size
  ·by_cases hz:zb b
   ·have hbw:b<w.heap.size:=hA.zlt b hz;rw [e.gu b hz,h.qm.ff b hbw fun x hx hzx hfx e=>hzx (by rw [←show b=x from e];exact hz)];exact (hA.rob one (aw.refl _ _)).gu b hz
   ·have:=(e.own b _ (Array.getElem?_eq_getElem hb) hz (fun h=>h)).2;rw [aer] at this;rw [Array.getElem?_eq_getElem hb];exact this
  ·rw [Array.getElem?_eq_none ai,Array.getElem?_eq_none ai]
 exact ⟨rfl,xw hh e.tape e.drawn e.os e.out⟩
theorem fit_go [Bg] {T:List Frame}(C:Ctx P fs)(h:Fit P T a w)(hn:zh T a){es:Array Event}(hs:stepG P m a w= .go a1 w1 es):
  ∃a1' es',stepG (aq P fs) m' a (cy w)= .go a1' (cy w1) es'∧(∀e∈es',EvL mn w1.heap.size e)∧Fit P T a1 w1∧zw P fs a1 a1'∧w.heap.size≤w1.heap.size:=by
 obtain ⟨fr,A,rfl,hok,hst,hb,hA⟩:=h;have hnb:fr.mode= .run∨A≠[]∨fr.defers≠[]:=by
  rcases hn fr with h|h|h
  ·refine .inr (.inl fun h0=>h ?_);rw [h0];rfl
  ·exact .inl h
  ·exact .inr (.inr h)
 have hT:=th (T:=T) (T':=T) C hA hb (m:=m) (m':=m') hok hst hnb;rw [na,u9,hs] at hT;obtain ⟨fr1,A1,e,hok1,π1,w1',fr1',new,he,hadv,htop,hst1⟩:=hT;obtain ⟨rfl,rfl,hW1⟩:=ux hA hadv;rw [u9] at he;refine ⟨_,new,he,fun e he=>evl (hadv.evs e he),⟨fr1,A1,e,hok1,Still.cons.2 ⟨htop.still,hst1⟩,hb.adv hadv,hadv.at_⟩,?_⟩;refine ⟨?_,hadv.size⟩;rcases htop with h|⟨f,args,k,rfl,rfl,-⟩
 ·left;rw [e,h one (aw.refl _ _),na]
 ·right;rw [jg];exact ⟨f,args,k,A1++T,e,rfl⟩
theorem fit_comm [Bg] {T:List Frame}(C:Ctx P fs)(h:Fit P T a w)(hn:zh T a){es:Array Event}{cs:Array CommCase}{b:Bool}{sh:CommShape}(hs:stepG P m a w= .comm a1 cs b sh w1 es):
  b=false∧sh= .select∧∃c,cs=#[c]∧c.send=none∧(∀π',aw w1.heap.size one π'→gq π' c=gq one c)∧∃es',stepG (aq P fs) m' a (cy w)= .comm a1 #[c] false .select (cy w1) es'∧(∀e∈es',EvL mn w1.heap.size e)∧Fit P T a1 w1∧w.heap.size≤w1.heap.size:=by
 obtain ⟨fr,A,rfl,hok,hst,hb,hA⟩:=h;have hnb:fr.mode= .run∨A≠[]∨fr.defers≠[]:=by
  rcases hn fr with h|h|h
  ·refine .inr (.inl fun h0=>h ?_);rw [h0];rfl
  ·exact .inl h
  ·exact .inr (.inr h)
 have hT:=th (T:=T) (T':=T) C hA hb (m:=m) (m':=m') hok hst hnb;rw [na,u9,hs] at hT;obtain ⟨h1,h2,fr1,A1,rfl,hok1,c,rfl,hsd,π1,w1',new,he,hadv,hc,hst1⟩:=hT;obtain ⟨rfl,rfl,hW1⟩:=ux hA hadv;rw [u9,na] at he;have hco:gq one c=c:=by
  obtain ⟨x,y,z⟩:=c;obtain rfl:y=none:=hsd;simp [gq,jw]
 rw [hco] at he;exact ⟨h1,h2,c,rfl,hsd,hc,new,he,fun e he=>evl (hadv.evs e he),⟨fr1,A1,rfl,hok1,hst1,hb.adv hadv,hadv.at_⟩,hadv.size⟩
end
end Go.Proofs.YthgpdljlehklhaaGreat.zr
namespace Go.Proofs.YthgpdljlehklhaaGreat.zr
open Go Go.Conc
open Go.ConcN (sumTo upd sumTo_upd upd_ne upd_same)
section
variable {P:Program}{w w1:World}{a a1:Goroutine}
def Calm (P:Program)(gs:Array Goroutine)(w:World)(t:Trace):Prop:=(∃q,Leavers P t gs q)∧Past mn w.heap.size t
theorem af7:∀(M:Nat)(gs:Array Goroutine)(d:Nat)(sl:Option (Nat×Nat))(t:Trace)(q:Nat→Nat),sumTo gs.size q≤M→gs[0]? =some a→a.status= .running→Leavers P t gs q→Past mn w.heap.size t→
  ∃N gs' d' sl' t' q' d'' sl'',runNT P N (crowd gs (w.at d) sl) t=(.next (crowd gs' (w.at d') sl'),t')∧gs'.size=gs.size∧gs'[0]? =some a∧Leavers P t' gs' q'∧Past mn w.heap.size t'∧stepT P (crowd gs' (w.at d') sl')=runT P (crowd gs' (w.at d'') sl'') 0:=by
 intro M
 induction M with
 |zero=>
  intro gs d sl t q hM h0 hrun hL hP;have haw:∀g∈gs,awake g:=by
   intro g hg;obtain ⟨i,hi,rfl⟩:=Array.mem_iff_getElem.1 hg;rcases Nat.eq_zero_or_pos i with rfl|hpos
   ·have:gs[0]=a:=by simpa [Array.getElem?_eq_getElem hi] using h0
    rw [this];exact awake_of (.inl hrun)
   ·exact awake_of ((hL.old i _ hpos (Array.getElem?_eq_getElem hi)).status.elim .inl fun x=> .inr (.inr x))
  obtain ⟨i,g,d1,sl1,hi,hg,hst⟩:=crowd_pick (P:=P) (w:=w.at d) (sl:=sl) haw ⟨0,a,h0,hrun⟩;rcases Nat.eq_zero_or_pos i with rfl|hpos
  ·exact ⟨0,gs,d,sl,t,q,d1,sl1,rfl,rfl,h0,hL,hP,hst⟩
  ·have hq:=hL.old i g hpos hi;have hlt:i<gs.size:=(Array.getElem?_eq_some_iff.1 hi).1;cases hqi:q i with
   |zero=>rw [hqi] at hq;rw [hq.1] at hg;cases hg
   |succ k=>
    have hsum:sumTo gs.size (upd q i k)+ (k+1)=sumTo gs.size q+k:=by
     have:=sumTo_upd q k id hlt
     simpa [hqi] using this
    omega
 |succ M ih=>
  intro gs d sl t q hM h0 hrun hL hP;have haw:∀g∈gs,awake g:=by
   intro g hg;obtain ⟨i,hi,rfl⟩:=Array.mem_iff_getElem.1 hg;rcases Nat.eq_zero_or_pos i with rfl|hpos
   ·have:gs[0]=a:=by simpa [Array.getElem?_eq_getElem hi] using h0
    rw [this];exact awake_of (.inl hrun)
   ·exact awake_of ((hL.old i _ hpos (Array.getElem?_eq_getElem hi)).status.elim .inl fun x=> .inr (.inr x))
  obtain ⟨i,g,d1,sl1,hi,hg,hst⟩:=crowd_pick (P:=P) (w:=w.at d) (sl:=sl) haw ⟨0,a,h0,hrun⟩;rcases Nat.eq_zero_or_pos i with rfl|hpos
  ·exact ⟨0,gs,d,sl,t,q,d1,sl1,rfl,rfl,h0,hL,hP,hst⟩
  ·have hq:=hL.old i g hpos hi;have hi0:(i==0)=false:=by simp;omega
   have hlt:i<gs.size:=(Array.getElem?_eq_some_iff.1 hi).1;cases hqi:q i with
   |zero=>rw [hqi] at hq;rw [hq.1] at hg;cases hg
   |succ k=>
    rw [hqi] at hq;rcases hq with ⟨hf,_⟩|⟨_,g',es,hm,hstp,hq'⟩
    ·rw [hf] at hg;cases hg
    have hrunT:=runT_crowd_go (P:=P) (sl:=sl1) (i:=i) hi (by rw [hi0];exact hstp ((w.at d).at d1));have hsz:((gs.map (woken P g g' ((w.at d).at d1))).setIfInBounds i g').size=gs.size:=by simp
    have hsum:sumTo gs.size (upd q i k)+ (k+1)=sumTo gs.size q+k:=by
     have:=sumTo_upd q k id hlt
     simpa [hqi] using this
    obtain ⟨N,gs',d',sl',t',q',d'',sl'',hr,hs',h0',hL',hP',hst'⟩:=ih ((gs.map (woken P g g' ((w.at d).at d1))).setIfInBounds i g') d1 sl1 (t++MemOp.ofEvents i g.frame.fn g.frame.place es) (upd q i k) (by rw [hsz];omega)
     (by
      have hne:i≠0:=by omega
      rw [Array.getElem?_setIfInBounds_ne hne,Array.getElem?_map,h0];simp [woken_run hrun]) hrun
     ⟨fun j x hj hx=>by
      by_cases hji:i=j
      ·subst hji;rw [Array.getElem?_setIfInBounds_self_of_lt (by simpa using hlt)] at hx;obtain rfl:=Option.some.inj hx;rw [upd_same,Deaf_own];exact hq'
      ·rw [Array.getElem?_setIfInBounds_ne hji,Array.getElem?_map] at hx;obtain ⟨y,hy,rfl⟩:=Option.map_eq_some_iff.1 hx;have hqj:=hL.old j y hj hy;rw [woken_quitsD hqj,upd_ne q k (Ne.symm hji),Deaf_other t hji _ (fun op hop=>by obtain ⟨e,_,rfl⟩:=Go.Conc.mem_ofEvents hop;rfl)];exact hqj,fun j hj=>by
      rw [Deaf_other t (g':=i) (by simp at hj;omega) _ (fun op hop=>by obtain ⟨e,_,rfl⟩:=Go.Conc.mem_ofEvents hop;rfl)];exact hL.above j (by simpa using hj)⟩
     (hP.mute ai hm)
    refine ⟨N+1,gs',d',sl',t',q',d'',sl'',?_,hs'.trans hsz,h0',hL',hP',hst'⟩;simp only [runNT,hst,hrunT];exact hr
theorem l8 (P:Program):∀(n k:Nat)(m:Machine)(t:Trace){m1:Machine}{t1:Trace},runNT P n m t=(.next m1,t1)→runNT P (n+k) m t=runNT P k m1 t1
 |0,k,m,t,m1,t1,h=>by
  obtain ⟨h1,rfl⟩:=Prod.mk.inj h;obtain rfl:=Stepped.next.inj h1;rw [Nat.zero_add]
 |n+1,k,m,t,m1,t1,h=>by
  rw [show n+1+k=(n+k)+1 by omega];simp only [runNT] at h ⊢;cases hs:stepT P m with
  |mk r ops=>
   rw [hs] at h;cases r with
   |next m2=>exact l8 P n k m2 _ h
   |ended o w=>cases h
end
end Go.Proofs.YthgpdljlehklhaaGreat.zr
