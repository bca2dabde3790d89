/- Part QBL of the proof that DropRefused answers true whatever its input. No condition. -/
import Derived.Test.YthgpdljlehklhaaGreatRows
import Derived.ProofKit
import Derived.Carry
import Derived.Deep.Slices
import Derived.SizedLaws
import Derived.OpenShut
import Derived.Conc.LeavingOf
import Derived.Test.YthgpdljlehklhaaGreatQBJ
import Derived.Test.YthgpdljlehklhaaGreatQBK
import Derived.Test.YthgpdljlehklhaaGreatQBI
import Derived.Test.YthgpdljlehklhaaGreatQBA
import Derived.Test.YthgpdljlehklhaaGreatQAJ
import Derived.Test.YthgpdljlehklhaaGreatQAK
set_option maxRecDepth 100000
namespace Go.Proofs.YthgpdljlehklhaaGreat.rn
open Go Go.Conc zr dr wd drv wk la
set_option linter.unusedVariables false
set_option maxHeartbeats 4000000
def FS (N qW cW qM cM:Nat)(u:World):Prop:=∃lo1 lo2 hi g0 d0 now0 kept0 m0 b0 g1 d1 now1 kept1 m1 b1 g2 d2 now2 kept2 m2 b2:Nat,
 u.ownsRow N 73 1 (sO qW 3 cW) 3 [ptr g0,ptr g1,ptr g2]∧u.ownsRow N 75 1 (sO qM 3 cM) 3 [ptr m0,ptr m1,ptr m2]∧
 Pl1 u N lo1 g0 d0 now0 kept0 m0 b0∧Pl1 u lo1 lo2 g1 d1 now1 kept1 m1 b1∧Pl1 u lo2 hi g2 d2 now2 kept2 m2 b2
section
variable {w w1 w2 u u2 y:World}{N qW cW qM cM bd cap s ch:Nat}{D:Value}{S:List Nat}{key:ByteArray}{ans:Int}{c:Array Value}
theorem row3 {e q cq:Nat}{x0 x1 x2:Value}(h:u.ownsRow N e 1 (sO q 3 cq) 3 [x0,x1,x2]):u.cell? ⟨q,0,none⟩=some x0∧u.cell? ⟨q,1,none⟩=some x1∧u.cell? ⟨q,2,none⟩=some x2∧q<u.heap.size:=by
 rcases h.2 with ⟨h0,-⟩|⟨g,cp,cur,hv,-,hq,h1,h2,h3,h4⟩
 ·cases h0
 ·cases hv;have key:∀j v,[x0,x1,x2][j]? =some v→u.cell? ⟨q,j,none⟩=some v:=fun j v hj=>by
   rw [←h4,List.getElem?_take] at hj;split at hj
   ·simp only [World.cell?,hq]
    simpa using hj
   ·cases hj
  exact ⟨key 0 _ rfl,key 1 _ rfl,key 2 _ rfl,bf hq⟩
theorem FS.on (h:FS N qW cW qM cM u)(hk:ah S u u2)(hS:∀b∈S,∃c e z,u.heap[b]? =some (.cells c e z)∧e≠86∧e≠139∧e≠80∧e≠128∧e≠73∧e≠75):FS N qW cW qM cM u2:=by
 obtain ⟨lo1,lo2,hi,g0,d0,now0,kept0,m0,b0,g1,d1,now1,kept1,m1,b1,g2,d2,now2,kept2,m2,b2,oW,oM,P0,P1,P2⟩:=h;have hs:ef u S:=fun b hb=>by
  obtain ⟨c,e,z,h1,h2,h3,h4,h5,-⟩:=hS b hb;exact ⟨c,e,z,h1,h2,h3,h4,h5⟩
 refine ⟨lo1,lo2,hi,g0,d0,now0,kept0,m0,b0,g1,d1,now1,kept1,m1,b1,g2,d2,now2,kept2,m2,b2,bq oW hk fun b hb hm=> ?_,bq oM hk fun b hb hm=> ?_,P0.on hk hs,P1.on hk hs,P2.on hk hs⟩
 ·obtain ⟨c,e,z,h1,-,-,-,-,h5,-⟩:=hS b hm;obtain ⟨-,cur,h2⟩:=ew oW b hb;rw [h1] at h2;simp only [Option.some.injEq,Obj.cells.injEq] at h2;exact h5 h2.2.1
 ·obtain ⟨c,e,z,h1,-,-,-,-,-,h5⟩:=hS b hm;obtain ⟨-,cur,h2⟩:=ew oM b hb;rw [h1] at h2;simp only [Option.some.injEq,Obj.cells.injEq] at h2;exact h5 h2.2.1
theorem FS.ff (h:FS N qW cW qM cM u)(hk:ah [] u u2):FS N qW cW qM cM u2:=h.on hk fun b hb=>by cases hb
theorem FS.calls {M:Value}(h:FS N qW cW qM cM u):Calls GP 9 #[.agg #[D,sO qW 3 cW,M]] u fun e w2=>(∃v,e= .returned v)∧(∃q c,e= .returned (sO q 3 c)∧w2.ownsRow u.heap.size 3 1 (sO q 3 c) 3 [.int .i64 0,.int .i64 0,.int .i64 0])∧ah [] u w2:=by
 obtain ⟨lo1,lo2,hi,g0,d0,now0,kept0,m0,b0,g1,d1,now1,kept1,m1,b1,g2,d2,now2,kept2,m2,b2,oW,oM,P0,P1,P2⟩:=h;obtain ⟨c0,c1,c2,hq⟩:=row3 oW;exact amu c0 c1 c2 hq P0.wn P1.wn P2.wn
theorem FS.same (h:FS N qW cW qM cM u):Calls GP 10 #[.agg #[D,sO qW 3 cW,sO qM 3 cM]] u fun e w2=>e= .returned (.bool true)∧ah [] u w2:=by
 obtain ⟨lo1,lo2,hi,g0,d0,now0,kept0,m0,b0,g1,d1,now1,kept1,m1,b1,g2,d2,now2,kept2,m2,b2,oW,oM,P0,P1,P2⟩:=h;obtain ⟨c0,c1,c2,hq⟩:=row3 oW;obtain ⟨e0,e1,e2,hm⟩:=row3 oM;exact same_ok c0 c1 c2 e0 e1 e2 hq hm P0 P1 P2
theorem FS.tp (h:FS N qW cW qM cM u)(τ:Tap)(d:Nat):FS N qW cW qM cM (zr.tp u τ d):=h.ff ((ah.refl [] u).tp τ d)
def acm (key:ByteArray):Int:=if key.size=0 then 90 else if 255<key.size then 90 else 160
theorem key_nil (h:key.size=0):key=⟨#[]⟩:=by
 obtain ⟨d⟩:=key;have:d.size=0:=h;rw [Array.size_eq_zero_iff.1 this]
theorem key_some (h:key.size≠0):key.toList.isEmpty=false:=by
 rw [ByteArray.toList_eq];obtain ⟨d⟩:=key;have h:d.size≠0:=h;obtain ⟨l⟩:=d;cases l with
 |nil=>exact absurd rfl h
 |cons _ _=>rfl
def DelQ (u:World)(ans:Int):Ending→World→Prop:=fun e w2=>(∃v,e= .returned v)∧e= .returned (.int .i64 ans)∧ah [] u w2
theorem ak5 [Bg]:gz (DelQ u ans):=fun e w2 τ dd ⟨h1,h2,h3⟩=>⟨h1,h2,h3.tp τ dd⟩
theorem abi [Bg] {k:Int}(h:∀τ d,Calls GP 7 #[pO s,.chan (some ch),.string key] (tp u τ d) fun e w2=>e= .returned (.int .i64 k)∧ah [] (tp u τ d) w2):UCx GP Tryz.prog.funcs 7 #[pO s,.chan (some ch),.string key] u (DelQ u k):=
 mw a9 ak5 (fun e w2 h=>h.2.2.size) (fun τ dd=>(h τ dd).mono fun e w2 ⟨h1,h2⟩=>⟨⟨_,h1⟩,h1,h2.un⟩) fun e w2 h=>h.1
def Del [Bg] (y:World)(s:Nat)(key:ByteArray)(ans:Int):Prop:=∀u ch,ah [] y u→z6 u ch→UCx GP Tryz.prog.funcs 7 #[pO s,.chan (some ch),.string key] u (DelQ u ans)
theorem akf [Bg] (hs:y.heap[s]? =some (.cells c 41 (0,0)))(h:∀x:World,x.heap[s]? =some (.cells c 41 (0,0))→Calls GP 52 #[pO s] x fun e w2=>e= .returned (.int .i64 2)∧ah [] x w2):Del y s key 2:=fun u ch K hc=>
 abi fun τ dd=>zm (w:=tp u τ dd) (pa:=some ⟨s,0,none⟩) (.inr (.inl rfl)) fun x hx=>agc (.inr rfl) (h x (hx.on (K.on hs ae) ae))
theorem aou [Bg] (hs:y.heap[s]? =some (.cells (df (sO bd 3 cap) 2 1 16 1 0) 41 (0,0))):Del y s key (acm key):=fun u ch K hc=>by
 have hs:=K.on hs ae;unfold acm
 by_cases h0:key.size=0
 ·obtain rfl:=key_nil h0;rw [if_pos h0];exact abi fun τ dd=>zm (w:=tp u τ dd) (pa:=some ⟨s,0,none⟩) (.inr (.inr rfl)) fun x hx=>yg (.inr rfl) (aa0 (cap:=cap) (bd:=bd) (hx.on hs ae)) fun u=>rkey_e
 ·rw [if_neg h0];have hk:=fun u:World=>rkey_any (w:=u) (key_some h0)
  by_cases h1:255<key.size
  ·simp only [if_pos h1] at hk ⊢;exact abi fun τ dd=>zm (w:=tp u τ dd) (pa:=some ⟨s,0,none⟩) (.inr (.inr rfl)) fun x hx=>yg (.inr rfl) (aa0 (cap:=cap) (bd:=bd) (hx.on hs ae)) hk
  ·simp only [if_neg h1] at hk ⊢;exact del_stop hs hc hk
end
theorem ag2 [Bg] {ops:Array Oper}{a:Act}{o og:Oper}{j d:Nat}{t:Bool}(hg:o.guard=some (j,t))(hj:ops[j]? =some og)(hd:og.dst=some d)(he:a.eval (.tmp d)=undef):Region.wanted o (yielded ops a.tmps)=false:=by
 have he:a.tmps.getD d undef=undef:=he;unfold Region.wanted;rw [hg];show (yielded ops a.tmps j==some t)=_;unfold yielded;rw [hj,Option.bind_some,hd,Option.bind_some];rw [Array.getD_eq_getD_getElem?] at he;cases h:a.tmps[d]? with
 |none=>cases t <;> rfl
 |some v=>
  rw [h] at he;have he:v=undef:=he;subst he;cases t <;> rfl
theorem vjoin [Bg] {P:Program}{fs:Array Func}{E:VE P fs}{R:Ending→World→Prop}{b:Frame}{a:Act}{x:Item}{k:List Item}{w:World}(K:Act→World→Prop)(h2:∀a1 w1,K a1 w1→dh E R b a1 k w1)(h1:(∀a1 w1,K a1 w1→dh E R b a1 k w1)→dh E R b a (x::k) w):dh E R b a (x::k) w:=h1 h2
theorem zvlp {P' P:Prop}(h2:P')(h:Wrp P'→P:=by intro hG;((apply dh.put rfl;(case' ho=>rfl);(case' hm=>kernel_rfl);(case' hw=>exact bj);(case' hr=>intro d;exact zxs);refine ay ?_));exact hG.out):P:=h ⟨h2⟩
theorem zvln {P' P:Prop}(h2:P')(h:Wrp P'→P:=by intro hG;((apply dh.not rfl;(case' ho=>rfl);(case' hw=>first|exact zgd|(refine ag2 rfl rfl rfl ?_;exact aj));refine ay ?_));exact hG.out):P:=h ⟨h2⟩
theorem aaf {P' P:Prop}(h2:P')(h:Wrp P'→P:=by intro hG;(repeat (first|refine ru ?_|refine zvlp ?_|refine zvln ?_|apply dh.ak|apply dh.seq|apply dh.region|apply dh.skip|(apply dh.se;(focus (exact aj)))|(apply dh.p9;(focus (exact aj)))|apply dh.block));exact hG.out):P:=h ⟨h2⟩
theorem zvwo {P' P:Prop}(h2:P')(h:Wrp P'→P:=by intro hG;(repeat (first|refine ru ?_|refine zvln ?_));exact hG.out):P:=h ⟨h2⟩
theorem vldv [Bg] {P:Program}{fs:Array Func}{E:VE P fs}{R:Ending→World→Prop}{b:Frame}{a:Act}{k:List Item}{w:World}{ops:Array Oper}{i:Nat}{rest:List Nat}{o:Oper}{x:Operand}{ty:TypeId}{p:Addr}{v:Value}(hk:b.kind= .normal)(ho:ops[i]? =some o)(hop:o.op= .load ty x)(hm:sq P o=true)(hw:Region.wanted o (yielded ops a.tmps)=true)(hx:a.eval x= .pointer (some p))(hl:∀d,(Instr.loadAt ty (.pointer (some p))).run P (w.at d)= .ok v (w.at d))
  (h:dh E R b (a.put o.dst v) (.inRegion ops rest::k) w):dh E R b a (.inRegion ops (i::rest)::k) w:=
 dh.val hk v w ho hm hw (fun d=>by
  cases o;subst hop;show Sem.run P (do pure (Next.value (←Instr.loadAt ty (a.eval x)))) (w.at d)=_;rw [hx,Sem.run_bind,hl];rfl) h
section
variable {w:World}{key:ByteArray}{n:Int}
theorem ldB27 [Bg] {u:World}{B:Nat}{x0 x1 x2 x3 x4:Value}{e:TypeId} {z}(h:u.heap[B]? =some (.cells #[x0,x1,x2,x3,x4] e z)):(Instr.loadAt 27 (pO B)).run GP u= .ok (.agg #[x0,x1,x2]) u:=
 run_loadAt_mid (P:=GP) u B 0 27 [x0,x1,x2] _ (jy h fun j hj=>by
  simp at hj;rcases j with _|_|_|j <;> first|rfl|omega) u27 du (by rw [ek];kernel_rfl)
def agu (w:World):Ending→World→Prop:=fun e w2=>(∃v,e= .returned v)∧e= .returned (.bool true)∧ah [] w w2
def DK [Bg] (w:World)(key:ByteArray)(N qD cD qW cW qM cM s t B:Nat)(a1:Act)(w1:World):Prop:=
 (a1.tmps.size=126∧a1.defers=[])∧a1.eval (.tmp 0)= .string key∧a1.eval (.tmp 5)=pO B∧∃want ans:Int,a1.eval (.tmp 6)= .int .i64 want∧(want=2∧ans=2∨want=160∧ans=acm key)∧Del w1 s key ans∧FS N qW cW qM cM w1∧w1.heap[B]? =some (.cells #[sO qD 3 cD,sO qW 3 cW,sO qM 3 cM,ptr s,ptr t] 31 (0,0))∧ah [] w w1
noncomputable def c23:Code:=match Tryz.f3.body with
 |some (.seq _ (.seq _ (.seq _ (.seq _ (.seq _ c)))))=>c
 |_=> .skip
noncomputable def c24:Code:=match c23 with
 | .seq _ c=>c
 |_=> .skip
noncomputable def c26:Code:=match c24 with
 | .seq _ c=>c
 |_=> .skip
def b3:Frame:={(default:Frame) with fn:=3,kind:= .normal}
section
variable {a:Act}{w1:World}{N qD cD qW cW qM cM s t B:Nat}{want ans:Int}
theorem t26 [Bg] {E:VE GP Tryz.prog.funcs}(hsz:a.tmps.size=126∧a.defers=[])(v5:a.eval (.tmp 5)=pO B)(v6:a.eval (.tmp 6)= .int .i64 ans)(v7:a.eval (.tmp 7)= .int .i64 ans)(hF:FS N qW cW qM cM w1)(h1:w1.heap[B]? =some (.cells #[sO qD 3 cD,sO qW 3 cW,sO qM 3 cM,ptr s,ptr t] 31 (0,0)))(K:ah [] w w1):dh E (agu w) {(default:Frame) with fn:=3,kind:= .normal} a [.code c26] w1:=by
 apply dh.seq;apply dh.region;refine ru ?_
 (refine vldv rfl rfl rfl du bj aj (fun d=>(ldB27 h1)) ?_;refine ay ?_)
 (refine dh.cal 9 _ rfl rfl rfl du bj zag (im 9 a9 _) (mw (R':=fun e w2=>(∃v,e= .returned v)∧(∃q c,e= .returned (sO q 3 c)∧w2.ownsRow w1.heap.size 3 1 (sO q 3 c) 3 [.int .i64 0,.int .i64 0,.int .i64 0])∧ah [] w1 w2) a9 (fun e w2 τ dd ⟨h1,⟨q,c,h2,h4⟩,h3⟩=>⟨h1,⟨q,c,h2,bq h4 ((ah.refl [] w2).tp τ dd) ae⟩,h3.tp τ dd⟩) (fun e w2 h=>h.2.2.size) (fun τ dd=>(FS.calls (D:=sO qD 3 cD) (M:=sO qM 3 cM) (hF.tp τ dd)).mono fun e w2 ⟨h1,h2,h3⟩=>⟨h1,h2,h3.un⟩) fun e w2 h=>h.1) fun v w2 hr=> ?_;refine ay ?_)
 rename World=>u
 obtain ⟨-,⟨q,cq,hv,hq⟩,K5⟩:=hr;obtain rfl:=bh hv;obtain ⟨q0,q1,q2,-⟩:=row3 hq;have hF:=hF.ff K5;have h1:=K5.on h1 ae;have K:=K.trans K5 ae;clear hv K5 hq;refine ru ?_;refine kw [5,6,7,8] fun a1 hsz hK=> ?_;obtain ⟨v5,v6,v7,v8,-⟩:=hK
 refine rv ?_
 (refine vldv rfl rfl rfl du bj aj (fun d=>(ldB27 h1)) ?_;refine ay ?_)
 (refine dh.cal 10 _ rfl rfl rfl du bj zag (im 10 a9 _) (mw (R':=fun e w2=>(∃v,e= .returned v)∧e= .returned (.bool true)∧ah [] u w2) a9 (fun e w2 τ dd ⟨h1,h2,h3⟩=>⟨h1,h2,h3.tp τ dd⟩) (fun e w2 h=>h.2.2.size) (fun τ dd=>(FS.same (D:=sO qD 3 cD) (hF.tp τ dd)).mono fun e w2 ⟨h1,h2⟩=>⟨⟨_,h1⟩,h1,h2.un⟩) fun e w2 h=>h.1) fun v w2 hr=> ?_;refine ay ?_)
 obtain ⟨-,hv,K5⟩:=hr;obtain rfl:=bh hv;have K:=K.trans K5 ae;clear hv K5;refine rv ?_;exact dh.dq rfl Tryz.func3 rfl aj (fun π=>rfl) ⟨⟨_,rfl⟩,rfl,K⟩
theorem t24 [Bg] {E:VE GP Tryz.prog.funcs}(hsz:a.tmps.size=126∧a.defers=[])(v0:a.eval (.tmp 0)= .string key)(v5:a.eval (.tmp 5)=pO B)(v6:a.eval (.tmp 6)= .int .i64 want)(v7:a.eval (.tmp 7)= .int .i64 ans)(hwa:want=2∧ans=2∨want=160∧ans=acm key)(hF:FS N qW cW qM cM w1)(h1:w1.heap[B]? =some (.cells #[sO qD 3 cD,sO qW 3 cW,sO qM 3 cM,ptr s,ptr t] 31 (0,0)))(K:ah [] w w1):dh E (agu w) {(default:Frame) with fn:=3,kind:= .normal} a [.code c24] w1:=by
 apply dh.seq;refine vjoin (fun a1 u=>u=w1∧(a1.tmps.size=126∧a1.defers=[])∧a1.eval (.tmp 5)=pO B∧a1.eval (.tmp 6)= .int .i64 ans∧a1.eval (.tmp 7)= .int .i64 ans) (fun a1 u ⟨hu,hsz,v5,v6,v7⟩=>by
  subst hu;exact t26 hsz v5 v6 v7 hF h1 K) fun hT=> ?_
 clear hF h1 K;rcases hwa with ⟨rfl,rfl⟩|⟨rfl,rfl⟩
 ·apply dh.seq;apply dh.region;refine zvwo ?_;apply dh.ak;apply dh.p9
  ·exact aj
  apply dh.skip;exact hT _ _ ⟨rfl,by simp [hsz],aj,aj,aj⟩
 unfold acm at v7 hT
 by_cases h0:key.size=0
 ·simp only [if_pos h0] at v7 hT;have hI:(key.size:Int)<1:=by omega
  have hD:decide ((key.size:Int)<1)=true:=decide_eq_true hI;apply dh.seq;apply dh.region;refine zvwo ?_;apply dh.ak;apply dh.se
  ·exact aj
  apply dh.region;refine ru ?_;apply dh.ak;exact hT _ _ ⟨rfl,by simp [hsz],aj,aj,aj⟩
 ·simp only [if_neg h0] at v7 hT;have hI:¬(key.size:Int)<1:=by omega
  have hD:decide ((key.size:Int)<1)=false:=decide_eq_false hI
  by_cases h1:255<key.size
  ·simp only [if_pos h1] at v7 hT;have hJ:(255:Int)< (key.size:Int):=by omega
   have hE:decide ((255:Int)< (key.size:Int))=true:=decide_eq_true hJ;apply dh.seq;apply dh.region;refine zvwo ?_;apply dh.ak;apply dh.se
   ·exact aj
   apply dh.region;refine ru ?_;apply dh.ak;exact hT _ _ ⟨rfl,by simp [hsz],aj,aj,aj⟩
  ·simp only [if_neg h1] at v7 hT;have hJ:¬(255:Int)< (key.size:Int):=by omega
   have hE:decide ((255:Int)< (key.size:Int))=false:=decide_eq_false hJ;apply dh.seq;apply dh.region;refine zvwo ?_;apply dh.ak;apply dh.p9
   ·exact aj
   apply dh.skip;exact hT _ _ ⟨rfl,by simp [hsz],aj,aj,aj⟩
end
end
section
variable {w:World}{key:ByteArray}{n:Int}
section
variable {a:Act}{w1:World}{N qD cD qW cW qM cM s t B:Nat}{want ans:Int}
theorem t23 [Bg] {E:VE GP Tryz.prog.funcs}(h:DK w key N qD cD qW cW qM cM s t B a w1):dh E (agu w) {(default:Frame) with fn:=3,kind:= .normal} a [.code c23] w1:=by
 obtain ⟨hsz,v0,v5,want,ans,v6,hwa,hD,hF,h1,K⟩:=h;have c3:w1.cell? ⟨B,3,none⟩=some (pO s):=af h1 (by simp [ptr]);apply dh.seq;refine vjoin (fun a1 u=>(a1.tmps.size=126∧a1.defers=[])∧a1.eval (.tmp 0)= .string key∧a1.eval (.tmp 5)=pO B∧a1.eval (.tmp 6)= .int .i64 want∧a1.eval (.tmp 7)= .int .i64 ans∧ah [] w1 u) (fun a1 u ⟨hsz,v0,v5,v6,v7,K5⟩=>t24 hsz v0 v5 v6 v7 hwa (hF.ff K5) (K5.on h1 ae) (K.trans K5 ae)) fun hT=> ?_
 refine dh.draws eo (L:=[[0,1,2,3,4,5],[0,1,3,2,4,5],[0,2,1,3,4,5],[0,2,3,1,4,5],[0,3,1,2,4,5],[0,3,2,1,4,5],[2,0,1,3,4,5],[2,0,3,1,4,5],[2,3,0,1,4,5],[3,0,1,2,4,5],[3,0,2,1,4,5],[3,2,0,1,4,5]]) a9 fun l hl=> ?_
 simp only [List.mem_cons,List.not_mem_nil,or_false] at hl;have h8:=mw (R':=fun e w2=>(∃v,e= .returned v)∧(∃ch,e= .returned (.chan (some ch))∧z6 w2 ch)∧ah [] w1 w2) (f:=8) a9 (fun e w2 τ dd ⟨h1,⟨ch,h2,h4⟩,h3⟩=>⟨h1,⟨ch,h2,h4⟩,h3.tp τ dd⟩) (fun e w2 h=>h.2.2.size) (fun τ dd=>(an5 (w:=tp w1 τ dd)).mono fun e w2 ⟨h1,h2,h3⟩=>⟨⟨_,h1⟩,⟨_,h1,h2⟩,h3.un⟩) fun e w2 h=>h.1
 rcases hl with rfl|rfl|rfl|rfl|rfl|rfl|rfl|rfl|rfl|rfl|rfl|rfl
 all_goals
  refine rv ?_
  (refine dh.cal 8 _ rfl rfl rfl du bj zag (im 8 a9 _) h8 fun v w2 hr=> ?_;refine ay ?_)
  rename World=>u
  obtain ⟨-,⟨ch,hv,hc⟩,K5⟩:=hr;obtain rfl:=bh hv;have c3:u.cell? ⟨B,3,none⟩=some (pO s):=af (K5.on h1 ae) (by simp [ptr]);clear hv;refine rv ?_
  (refine dh.cal 7 _ rfl rfl rfl du bj zag (im 7 a9 _) (hD u ch K5 hc) fun v w2 hr=> ?_;refine ay ?_)
  rename World=>u2
  obtain ⟨-,hv,K6⟩:=hr;obtain rfl:=bh hv;refine ru ?_;apply dh.ak;exact hT _ _ ⟨by simp [hsz],aj,aj,aj,aj,K5.trans K6 ae⟩
end
end
section
variable {w:World}{key:ByteArray}{n:Int}
theorem amt [Bg] (hW:Whole GP w)(hba:Base one w.heap.size):
  ∃N last o w' t',runNT (aq GP Tryz.prog.funcs) (N+1) (solo (G (Frame.enter (aq GP Tryz.prog.funcs) 3 #[.string key,.int .i64 n] .normal) []) (cy w)) #[]=(.ended o w',t')∧runN (aq GP Tryz.prog.funcs) N (solo (G (Frame.enter (aq GP Tryz.prog.funcs) 3 #[.string key,.int .i64 n] .normal) []) (cy w))= .next last∧step (aq GP Tryz.prog.funcs) last= .ended o w'∧Go.Conc.Good (aq GP Tryz.prog.funcs) (fun v W'=>∃w2,W'=cy w2∧agu w (.returned v) w2) last o w' t':=by
 refine ai1 mh vh (n:=126) (fun e w2 τ dd ⟨h1,h2,h3⟩=>⟨h1,h2,h3.tp τ dd⟩) Tryz.func3 rfl rfl rfl a9 hW hba (fun π=>rfl) fun E a hsz hv=> ?_
 obtain ⟨v0,v1,-⟩:=ir hv;clear hv;refine rv ?_
 (refine dh.cal 4 _ rfl rfl rfl du bj zag (im 4 a9 _) known_uc fun v w2 hr=> ?_;refine ay ?_)
 rename World=>y0
 obtain ⟨-,hv,K0⟩:=hr;obtain rfl:=bh hv;clear hv;refine rv ?_
 (refine dh.cal 5 _ rfl rfl rfl du bj zag (im 5 a9 _) (mw a9 abq adj (fun τ dd=>(ah2 (w:=tp y0 τ dd)).mono fun e w2 h=>agh h) fun e w2 h=>h.1) fun v w2 hr=> ?_;refine ay ?_)
 unfold vq at hr;rename World=>y
 obtain ⟨-,D,W,M,s,t,lo1,lo2,hi,g0,d0,now0,kept0,m0,b0,g1,d1,now1,kept1,m1,b1,g2,d2,now2,kept2,m2,b2,hv,hs,ht,ls,oD,oW,oM,P0,P1,P2,K⟩:=hr;obtain rfl:=bh hv;obtain ⟨qD,cD,rfl⟩:=iw oD ai;obtain ⟨qW,cW,rfl⟩:=iw oW ai;obtain ⟨qM,cM,rfl⟩:=iw oM ai;have hcD:(2:Int)≤(cD:Int):=by
  rcases oD.2 with ⟨h0,-⟩|⟨q,cp,cur,hv,-,hq,h1,h2,h3,h4⟩
  ·cases h0
  ·cases hv;omega
 have hF:FS y0.heap.size qW cW qM cM y:=⟨lo1,lo2,hi,g0,d0,now0,kept0,m0,b0,g1,d1,now1,kept1,m1,b1,g2,d2,now2,kept2,m2,b2,oW,oM,P0,P1,P2⟩;clear P0 P1 P2 oD oW oM ht hv;have K:=K0.trans K ae;have ls:w.heap.size≤s:=Nat.le_trans K0.size ls;clear K0;generalize y0.heap.size=N at hF;refine rv ?_;obtain ⟨y1,r5,h1,K5,-⟩:=st31U (w:=World.alloc y (.cells z31 31)) (vs:=#[sO qD 3 cD,sO qW 3 cW,sO qM 3 cM,ptr s,ptr t]) bu rfl rfl (by simp [Value.oneCell',ptr])
 (refine vsrow rfl rfl rfl du bj aj et r5 ?_;refine ay ?_)
 have K5:ah [] y y1:=(ah.alloc (ah.refl [] _)).trans K5 ae;have hs:=K5.on hs ae;have hF:=hF.ff K5;have K:=K.trans K5 ae;have nsy:s≠y.heap.size:=fun e=>by
  rw [e,h1] at hs;cases hs
 clear K5 r5;generalize y.heap.size=B at*;refine rv ?_;refine kw [0,5,6,12] fun a1 hsz hK=> ?_;obtain ⟨v0,v5,v6,v12,-⟩:=hK
 (refine dh.cal 6 _ rfl rfl rfl du bj zag (im 6 a9 _) (mw (R':=fun e w2=>(∃v,e= .returned v)∧(∃k:Int,0≤k∧k<9∧e= .returned (.int .i64 k))∧ah [] y1 w2) a9 (fun e w2 τ dd ⟨h1,h2,h3⟩=>⟨h1,h2,h3.tp τ dd⟩) (fun e w2 h=>h.2.2.size) (fun τ dd=>(pick_ok (w:=tp y1 τ dd) (n:=n)).mono fun e w2 ⟨h1,h2,h3⟩=>⟨h1,h2,by rw [h3];exact (ah.refl [] y1).tp τ dd⟩) fun e w2 h=>h.1) fun v w2 hr=> ?_;refine ay ?_)
 rename World=>y2
 obtain ⟨-,⟨k,hk0,hk9,hv⟩,K5⟩:=hr;obtain rfl:=bh hv;have hs:=K5.on hs ae;have h1:=K5.on h1 ae;have hF:=hF.ff K5;have K:=K.trans K5 ae;clear K5 hv;have c3:y2.cell? ⟨B,3,none⟩=some (pO s):=af h1 (by simp [ptr]);apply dh.ak;refine vjoin (DK w key N qD cD qW cW qM cM s t B) (fun a1 w1 h=>t23 h) fun hT=> ?_
 have hsp:∀(off:Nat)(v:Value)(c:Array Value),(df (sO qD 3 cD) 2 1 16 1 0).setIfInBounds off v=c→(∀x:World,x.heap[s]? =some (.cells c 41 (0,0))→Calls GP 52 #[pO s] x fun e w2=>e= .returned (.int .i64 2)∧ah [] x w2)→Del (y2.setCell ⟨s,off,none⟩ v) s key 2∧FS N qW cW qM cM (y2.setCell ⟨s,off,none⟩ v)∧(y2.setCell ⟨s,off,none⟩ v).heap[B]? =some (.cells #[sO qD 3 cD,sO qW 3 cW,sO qM 3 cM,ptr s,ptr t] 31 (0,0))∧ah [] w (y2.setCell ⟨s,off,none⟩ v):=fun off v c hc hx=>by
  have hb:=ee (i:=off) (v:=v) hs;rw [hc] at hb;have K6:ah [s] y2 (y2.setCell ⟨s,off,none⟩ v):=ah.set (ah.refl _ _) (.inl ae);exact ⟨akf hb hx,hF.on K6 fun b hb=>by
   rw [List.mem_singleton] at hb;subst hb;exact ⟨_,_,_,hs,by decide⟩,K6.on h1 (by simp;exact fun e=>nsy e.symm),K.trans K6 fun b hb=> .inr (by rw [List.mem_singleton] at hb;subst hb;exact ls)⟩
 have fs:∀off,y2.frozen? ⟨s,off,none⟩=false:=fun off=>ed hs
 have cs:∀off,off<14→∃v,y2.cell? ⟨s,off,none⟩=some v:=fun off ho=>⟨_,af hs (by simpa [df] using ho)⟩
 have hkk:k=0∨k=1∨k=2∨k=3∨k=4∨k=5∨k=6∨k=7∨k=8:=by omega
 clear hk0 hk9;rcases hkk with rfl|rfl|rfl|rfl|rfl|rfl|rfl|rfl|rfl
 ·obtain ⟨z,cz⟩:=cs 1 ai;have fz:=fs 1;refine aaf ?_;apply dh.inBlock;obtain ⟨x1,x2,x3,x4⟩:=hsp 1 (.int .i64 3) _ rfl fun x hx=>rset_w0 hx
  exact hT _ _ ⟨by simp [hsz],aj,aj,2,2,aj,.inl ⟨rfl,rfl⟩,x1,x2,x3,x4⟩
 ·obtain ⟨z,cz⟩:=cs 2 ai;have fz:=fs 2;refine aaf ?_;apply dh.inBlock;obtain ⟨x1,x2,x3,x4⟩:=hsp 2 (.int .i64 0) _ rfl fun x hx=>rset_w1 hx
  exact hT _ _ ⟨by simp [hsz],aj,aj,2,2,aj,.inl ⟨rfl,rfl⟩,x1,x2,x3,x4⟩
 ·obtain ⟨z,cz⟩:=cs 3 ai;have fz:=fs 3;refine aaf ?_;apply dh.inBlock;obtain ⟨x1,x2,x3,x4⟩:=hsp 3 (.int .i64 65537) _ rfl fun x hx=>rset_w2 hx
  exact hT _ _ ⟨by simp [hsz],aj,aj,2,2,aj,.inl ⟨rfl,rfl⟩,x1,x2,x3,x4⟩
 ·obtain ⟨z,cz⟩:=cs 12 ai;have fz:=fs 12;refine aaf ?_;apply dh.inBlock;obtain ⟨x1,x2,x3,x4⟩:=hsp 12 (.int .i64 0) _ rfl fun x hx=>rset_w3 hx
  exact hT _ _ ⟨by simp [hsz],aj,aj,2,2,aj,.inl ⟨rfl,rfl⟩,x1,x2,x3,x4⟩
 ·obtain ⟨z,cz⟩:=cs 12 ai;have fz:=fs 12;refine aaf ?_;apply dh.inBlock;obtain ⟨x1,x2,x3,x4⟩:=hsp 12 (.int .i64 4294967296) _ rfl fun x hx=>rset_w4 hx
  exact hT _ _ ⟨by simp [hsz],aj,aj,2,2,aj,.inl ⟨rfl,rfl⟩,x1,x2,x3,x4⟩
 ·obtain ⟨z,cz⟩:=cs 13 ai;have fz:=fs 13;refine aaf ?_;apply dh.inBlock;obtain ⟨x1,x2,x3,x4⟩:=hsp 13 (.int .i64 (-1)) _ rfl fun x hx=>rset_w5 hx
  exact hT _ _ ⟨by simp [hsz],aj,aj,2,2,aj,.inl ⟨rfl,rfl⟩,x1,x2,x3,x4⟩
 ·obtain ⟨z,cz⟩:=cs 13 ai;have fz:=fs 13;refine aaf ?_;apply dh.inBlock;obtain ⟨x1,x2,x3,x4⟩:=hsp 13 (.int .i64 4294967296) _ rfl fun x hx=>rset_w6 hx
  exact hT _ _ ⟨by simp [hsz],aj,aj,2,2,aj,.inl ⟨rfl,rfl⟩,x1,x2,x3,x4⟩
 ·refine aaf ?_;have cd:y2.cell? ⟨s,0,none⟩=some (sO qD 3 cD):=af hs (by simp [df]);refine kw [0,5,6] fun a1 hsz hK=> ?_;obtain ⟨v0,v5,v6,-⟩:=hK
  apply dh.drawK (f:=3) (fun a1 w1=>(a1.tmps.size=126∧a1.defers=[])∧a1.eval (.tmp 0)= .string key∧a1.eval (.tmp 5)=pO B∧a1.eval (.tmp 6)= .int .i64 2∧w1.heap[s]? =some (.cells (df (sO qD 2 cD) 2 1 16 1 0) 41 (0,0))∧ah [s] y2 w1) 8 (fun x=>x.cell? ⟨B,3,none⟩=some (pO s)∧x.cell? ⟨s,0,none⟩=some (sO qD 3 cD)) eo rfl (afx 3 a9) du du
  case hK=>exact fun a w τ dd ⟨h1,h2,h3,h4,h5,h6⟩=>⟨h1,h2,h3,h4,h5,h6.tp τ dd⟩
  case hKd=>exact fun a w h=>h.1.2
  case h=>
   intro τ dd;have hS0:(tp y2 τ dd).cell? ⟨B,3,none⟩=some (pO s)∧(tp y2 τ dd).cell? ⟨s,0,none⟩=some (sO qD 3 cD):=⟨c3,cd⟩
   (apply LDK.take 0 rfl a9 a9 a9 a9;(case hw=>exact bj);(case hv=>intro u hu;(try dsimp only at hu);exact zxr);(case hS=>exact hS0);refine ay ?_)
   (apply LDK.take 1 rfl a9 a9 a9 a9;(case hw=>exact bj);(case hv=>intro u hu;(try dsimp only at hu);exact zxr);(case hS=>exact hS0);refine ay ?_)
   (apply LDK.take 2 rfl a9 a9 a9 a9;(case hw=>exact bj);(case hv=>intro u hu;(try dsimp only at hu);exact zxr);(case hS=>exact hS0);refine ay ?_)
   (apply LDK.take 3 rfl a9 a9 a9 a9;(case hw=>exact bj);(case hv=>intro u hu;(try dsimp only at hu);exact zxr);(case hS=>exact hS0);refine ay ?_)
   (apply LDK.take 4 rfl a9 a9 a9 a9;(case hw=>exact bj);(case hv=>intro u hu;(try dsimp only at hu);exact zxr);(case hS=>exact hS0);refine ay ?_)
   (apply LDK.take 5 rfl a9 a9 a9 a9;(case hw=>exact bj);(case hv=>intro u hu;(try dsimp only at hu);exact zxr);(case hS=>exact hS0);refine ay ?_)
   (apply LDK.take 6 rfl a9 a9 a9 a9;(case hw=>exact bj);(case hv=>intro u hu;(try dsimp only at hu);exact zxr);(case hS=>exact hS0);refine ay ?_)
   (apply LDK.take 7 rfl a9 a9 a9 a9;(case hw=>exact bj);(case hv=>intro u hu;(try dsimp only at hu);exact zxr);(case hS=>exact hS0);refine ay ?_)
   have fz:(tp y2 τ dd).frozen? ⟨s,0,none⟩=false:=fs 0;have cd':=hS0.2
   (apply LDK.solo 8 a9 rfl;(case hw=>exact bj);(case hv=>exact zxr);(case hS=>exact (fun h=>by omega));refine ay ?_)
   (apply LDK.solo 9 a9 rfl;(case hw=>exact bj);(case hv=>exact zxr);(case hS=>exact (fun h=>by omega));refine ay ?_)
   apply LDK.vf 10 a9 rfl
   case hw=>exact dt rfl
   case hv=>
    ((try simp only [List.getElem_toArray,List.getElem_cons_zero,List.getElem_cons_succ]);dsimp only [execOp,resolve];(try simp+decide only [eval_put,bn,eval_const,size_put,if_true,if_false,List.map_toArray,List.map_cons,List.map_nil, *]);go_simp)
    first|done|rfl
   case hS=>exact fun h=>by omega
   refine ay ?_;apply LDK.fin a9;exact ⟨by simp [hsz],aj,aj,aj,ee (i:=0) (v:=sO qD 2 cD) (w:=tp y2 τ dd) hs,ah.un (τ:=τ) (d:=dd) (ah.set (ah.refl [s] (tp y2 τ dd)) (.inl (List.mem_singleton.2 rfl)))⟩
  case hn=>
   intro a w1 ⟨hsz,v0,v5,v6,hb,K6⟩;apply dh.inBlock;refine hT _ _ ⟨hsz,v0,v5,2,2,v6,.inl ⟨rfl,rfl⟩,akf hb fun x hx=>rset_w7 hx,hF.on K6 fun b hb=> ?_,K6.on h1 (by simp;exact fun e=>nsy e.symm),K.trans K6 fun b hb=> .inr (by rw [List.mem_singleton] at hb;subst hb;exact ls)⟩;rw [List.mem_singleton] at hb;subst hb;exact ⟨_,_,_,hs,by decide⟩
 ·refine aaf ?_;apply dh.inBlock;exact hT _ _ ⟨by simp [hsz],aj,aj,160,_,aj,.inr ⟨rfl,rfl⟩,aou hs,hF,h1,K⟩
end
end Go.Proofs.YthgpdljlehklhaaGreat.rn
namespace Go.Proofs.YthgpdljlehklhaaGreat.frame
open Go.ChangeShapes Go.WideShapes Go.ChangeAt Go.RowKit Go.Deep
section
variable {H:Type}{enc:TypeId×Value→H}{P:Program}
theorem abd (hl:laidOutB P=true){W W':World}(hb:Below W.heap.size W W'):∀(ts:List TypeId)(vs:List Value)(ds:List (DataW H))(ps:List MemPlace),
  (∀t∈ts,P.readableRec t=true∧t<P.types.size)→(∀x∈ps,x.block<W.heap.size)→DataW.TrodAll enc P W 0 (fun _=>true) true ts vs ds ps→
  DataW.TrodAll enc P W' 0 (fun b=>decide (b<W.heap.size)) true ts vs ds ps
 | [],[],[],_,_,_,h=>h
 |t::ts,v::vs,d::ds,ps,hp,hlt,h=>by
  obtain ⟨p,q,h1,h2,rfl⟩:=h;have ht:=hp t (by simp);exact ⟨p,q,Below.trod hl ht.1 ht.2 h1 hb (fun x hx=>hlt x (by simp [hx])),abd hl hb ts vs ds q (fun t ht=>hp t (by simp [ht])) (fun x hx=>hlt x (by simp [hx])) h2,rfl⟩
 | [],_::_,_,_,_,_,h=>by simp [DataW.TrodAll] at h
 | [],[],_::_,_,_,_,h=>by simp [DataW.TrodAll] at h
 |_::_,[],_,_,_,_,h=>by simp [DataW.TrodAll] at h
 |_::_,_::_,[],_,_,_,h=>by simp [DataW.TrodAll] at h
theorem post_law {fn:Func}{s:ChangeSpec}{W W':World}{args:Array Value}{ds gs:List (DataW H)}{before:List MemPlace}{tb:TypeId}(hl:laidOutB P=true)
  (hW:DataW.Whole enc P fn.params.toList s.vars false W args.toList ds gs before)(hsv:s.vars=[])(hp:∀t∈fn.params.toList,P.readableRec t=true∧t<P.types.size)
  (hr:fn.resultTypes=#[tb])(htb:P.underlying tb=some .bool)(hres:(s.fn H (ds++gs)).results=[.lit (.bool true)])(harg:(s.fn H (ds++gs)).args=ds)(hvar:(s.fn H (ds++gs)).vars=[])
  (hb:Below W.heap.size W W'):s.post enc P fn false true false false W args (.bool true) W':=by
 have hlt:∀p∈before,p.block<W.heap.size:=fun p hp=>hW.lt p hp
 have hW':=hW;obtain ⟨p,q,hA,hV,rfl,_,_⟩:=hW';rw [hsv] at hV;obtain ⟨rfl,rfl⟩:=trodVars_none hV;refine ⟨ds,[],p++ [],[],p,[],hW,?_,?_,?_,hb.frame _,fun h=>by cases h⟩
 ·rw [hres,hr];exact trodAll_cons_mk (shut_bool htb _) trodAll_mk0
 ·rw [harg];exact abd hl hb _ _ _ _ hp (fun x hx=>hlt x (by simp [hx])) hA
 ·rw [hvar,hsv];rfl
end
theorem laidOut:laidOutB Tryz.prog=true:=by kernel_rfl
theorem own:ownKnob Tryz.prog.godebug=none:=by kernel_rfl
end Go.Proofs.YthgpdljlehklhaaGreat.frame
namespace Go.Proofs.YthgpdljlehklhaaGreat.drop
open Go Go.Conc zr dr rn wk
open Go.ChangeShapes Go.WideShapes Go.ChangeAt Go.RowKit Go.Deep frame
open Go.ChangeMaps (open_string)
set_option linter.unusedVariables false
theorem sized {w:World}(h:w.ShapedOpen Tryz.prog):4<w.heap.size:=by
 obtain ⟨-,h2⟩:=h;obtain ⟨o,o0,h3,-⟩:=h2 4 (by have:Tryz.prog.globals.size=0:=du;omega) (of_decide_eq_true du);exact (Array.getElem?_eq_some_iff.1 h3).1
theorem amj (W:World)(key:ByteArray)(n:Int)(hsz:4<W.heap.size):
  ∃N last o w' t',runNT Tryz.prog (N+1) (solo (G (Frame.enter Tryz.prog 3 #[.string key,.int .i64 n] .normal) []) W) #[]=(.ended o w',t')∧runN Tryz.prog N (solo (G (Frame.enter Tryz.prog 3 #[.string key,.int .i64 n] .normal) []) W)= .next last∧step Tryz.prog last= .ended o w'∧Go.Conc.Good Tryz.prog (fun v W'=>v= .bool true∧Below W.heap.size W {W' with tape:=W.tape}) last o w' t':=by
 letI:Bg:=⟨W.heap⟩
 have hb:Base zr.one (hid W).heap.size:=⟨by simpa [hid] using hsz,fun n _=>rfl⟩;obtain ⟨N,last,o,w',t',h1,h2,h3,h4⟩:=amt (w:=hid W) (key:=key) (n:=n) (am5 W) hb;rw [fill_hid] at h1 h2;refine ⟨N,last,o,w',t',h1,h2,h3,Go.Conc.Good.mono h4 fun v hv=> ?_⟩;obtain ⟨w2,e,-,h5,K⟩:=hv;have h5:v= .bool true:=by simpa using h5
 have hs:W.heap.size≤w2.heap.size:=by
  have:=K.size
  simpa [hid] using this
 subst e;exact ⟨h5,K.os,rfl,K.out,by rw [ji];exact hs,fun k hk=>akz W w2 hs hk⟩
set_option maxRecDepth 100000 in
theorem ajf (os:Os)(started:os.Started)(H:Type)(enc:TypeId×Value→H):
  ReturnsInLeavingWide {} Tryz.checked os 3 .any (Rows.dropRefusedSpec.pre6 enc Tryz.prog Tryz.f3 Rows.dropRefusedRow.domain false) (Rows.dropRefusedSpec.post enc Tryz.prog Tryz.f3 false true false false):=by
 refine returnsInLeavingWide_of_good (C:=Tryz.checked) own started (ChangeSpec.witness6 (enc:=enc) (C:=Tryz.checked) false ⟨#[],#[.string .empty,.int .i64 0],[]⟩ 8 du du du du) ?_;intro w tape i _ hsh _ hok hpre _;obtain ⟨_,_,_,fn',hfn',_,_,_,_,vr⟩:=hok;have e:fn'=Tryz.f3:=Option.some.inj (hfn'.symm.trans Tryz.func3);subst e;obtain ⟨⟨ds,gs,before,hw,hc⟩,hz⟩:=hpre;have hW:=DataW.Whole.of_heap (w':=w.forCall tape i) (by rfl) hw;have h5:=sized hsh;obtain ⟨W,hWe⟩:∃W,w.forCall tape i=W:=⟨_,rfl⟩;obtain ⟨args,hae⟩:∃a,i.args=a:=⟨_,rfl⟩;rw [hWe,hae] at hW;rw [hWe] at h5;rw [hWe,hae] at vr;rw [hWe,hae];have hW':=hW;obtain ⟨p,q,hA,hV,rfl,hfz,hnd⟩:=hW';obtain ⟨rfl,rfl⟩:=trodVars_none hV;have hA0:DataW.TrodAll enc Tryz.prog W 0 (fun _=>true) true Tryz.f3.params.toList args.toList ds p:=hA;rw [Tryz.params3] at hA0 vr;obtain ⟨v0,v1,d0,d1,p0,p1,hargs,rfl,rfl,h0,h1⟩:=trodAll_two hA0;obtain rfl:args=#[v0,v1]:=by cases args;simp_all
 obtain ⟨key,rfl,_,_,_⟩:=open_string Tryz.underlying9 (vr 0 9 v0 rfl rfl) h0;obtain ⟨n,rfl,_,_,_⟩:=open_int Tryz.underlying3 (vr 1 3 v1 rfl rfl) h1;obtain ⟨N,last,o,w',t',r1,r2,r3,r4⟩:=amj W key n h5;refine ⟨N,last,o,w',t',r1,r2,r3,Go.Conc.Good.mono r4 fun v hv=> ?_⟩;obtain ⟨rfl,hb⟩:=hv;exact ChangeSpec.post_blind (W':={w' with tape:=W.tape}) (post_law laidOut hW rfl a9 rfl Tryz.underlying4 rfl rfl rfl hb)
theorem droprefused_proved:Rows.DropRefusedSaid:=
 OpenClaim.holds_of_wide_leaving 3 Tryz.f3 rfl rfl rfl rfl rfl rfl rfl ⟨rfl,rfl,rfl,rfl,rfl⟩ rfl rfl rfl rfl rfl du Tryz.func3 du
  (of_decide_eq_true du) (by unfold Func.isWrapper;first|(rw [if_pos a9];kernel_rfl)|(rw [if_neg a9];exact ⟨rfl,rfl⟩))
  (fun os started H enc _=>ajf os started H enc)
#print axioms droprefused_proved
end Go.Proofs.YthgpdljlehklhaaGreat.drop
