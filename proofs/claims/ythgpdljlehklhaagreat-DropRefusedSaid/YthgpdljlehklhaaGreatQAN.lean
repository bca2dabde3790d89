/- Part QAN of the proof that DropRefused answers true whatever its input. No condition. -/
import Derived.Test.YthgpdljlehklhaaGreatQAH
import Derived.Test.YthgpdljlehklhaaGreatQAM
set_option maxRecDepth 100000
namespace Go.Proofs.YthgpdljlehklhaaGreat.la
open Go Go.Conc zr dr
set_option linter.unusedVariables false
def sL:Code→Code| .seq a _=>a|c=>c
def sR:Code→Code| .seq _ b=>b|c=>c
def inB:Code→Code| .block _ c=>c|c=>c
def inL:Code→Code| .loop c=>c|c=>c
theorem yev {P:Prop}(h:P:=by first|(simp+decide only [eval_put,bn,eval_const,size_put,if_true,if_false, *];done)|fail):P:=h
theorem yer {P:Prop}(h:P:=by simp+decide only [eval_put,bn,eval_const,size_put,if_true,if_false, *];first|done|rfl):P:=h
theorem ynr {P' P:Prop}(h2:P')(h:Wrp P'→P:=by intro hG;(try simp only [List.getElem_toArray,List.getElem_cons_zero,List.getElem_cons_succ,sL,sR,inB,inL]);exact hG.out):P:=h ⟨h2⟩
theorem yes {P' P:Prop}(h2:P')(h:Wrp P'→P:=by intro hG;(simp+decide only [eval_put,bn,eval_const,size_put,if_true,if_false, *]);exact hG.out):P:=h ⟨h2⟩
theorem yxr {P:Prop}(h:P:=by (try simp only [List.getElem_toArray,List.getElem_cons_zero,List.getElem_cons_succ,sL,sR,inB,inL]);dsimp only [execOp,resolve];(try simp+decide only [eval_put,bn,eval_const,size_put,if_true,if_false,List.map_toArray,List.map_cons,List.map_nil, *]);go_simp;first|done|exact ⟨rfl,rfl⟩|rfl):P:=h
theorem yxs {P:Prop}(h:P:=by (try simp only [List.getElem_toArray,List.getElem_cons_zero,List.getElem_cons_succ,sL,sR,inB,inL]);dsimp only [execOp,resolve];(try simp+decide only [eval_put,bn,eval_const,size_put,if_true,if_false,List.map_toArray,List.map_cons,List.map_nil, *]);go_simp;first|done|rfl):P:=h
theorem ylv {P' P:Prop}(h2:P')(h:Wrp P'→P:=by intro hG;((apply ad.val rfl;(case' ho=>rfl);(case' hw=>exact dt rfl);(case' hr=>exact yxr);refine ynr ?_));exact hG.out):P:=h ⟨h2⟩
theorem yln {P' P:Prop}(h2:P')(h:Wrp P'→P:=by intro hG;((apply ad.not;(case' ho=>rfl);(case' hw=>(refine (oy (t':=false) rfl rfl rfl ?_ ?_).trans ?_;(focus (simp [hsz];done));(focus (exact yev));rfl));refine ynr ?_));exact hG.out):P:=h ⟨h2⟩
theorem ylg {P' P:Prop}(h2:P')(h:Wrp P'→P:=by intro hG;((apply ad.val rfl;(case' ho=>rfl);(case' hw=>(refine (oy (t':=true) rfl rfl rfl ?_ ?_).trans ?_;(focus (simp [hsz];done));(focus (exact yev));rfl));(case' hr=>exact yxr);refine ynr ?_));exact hG.out):P:=h ⟨h2⟩
theorem yln2 {P' P:Prop}(h2:P')(h:Wrp P'→P:=by intro hG;((apply ad.not;(case' ho=>rfl);(case' hw=>(refine (oy (t':=true) rfl rfl rfl ?_ ?_).trans ?_;(focus (simp [hsz];done));(focus (exact yev));rfl));refine ynr ?_));exact hG.out):P:=h ⟨h2⟩
theorem ylg2 {P' P:Prop}(h2:P')(h:Wrp P'→P:=by intro hG;((apply ad.val rfl;(case' ho=>rfl);(case' hw=>(refine (oy (t':=false) rfl rfl rfl ?_ ?_).trans ?_;(focus (simp [hsz];done));(focus (exact yev));rfl));(case' hr=>exact yxr);refine ynr ?_));exact hG.out):P:=h ⟨h2⟩
theorem ylp {P' P:Prop}(h2:P')(h:Wrp P'→P:=by intro hG;((apply ad.put rfl;(case' ho=>rfl);(case' hw=>exact dt rfl);(case' hr=>exact yxs);refine ynr ?_));exact hG.out):P:=h ⟨h2⟩
theorem ylo {P' P:Prop}(h2:P')(h:Wrp P'→P:=by intro hG;(first|refine ylv ?_|refine ylp ?_|refine ylg ?_|refine yln ?_|refine ylg2 ?_|refine yln2 ?_);exact hG.out):P:=h ⟨h2⟩
theorem mf {P' P:Prop}(h2:P')(h:Wrp P'→P:=by intro hG;(repeat refine ylo ?_);exact hG.out):P:=h ⟨h2⟩
noncomputable def rc:Code:=Tryz.f44.body.getD .skip
noncomputable def rb1:Code:=inL (inB (sR (sL (sR rc))))
noncomputable def rb2:Code:=inL (inB (sR (sR (sR rc))))
def bR:Frame:={(default:Frame) with fn:=44,kind:= .normal}
section
variable {R:Ending→World→Prop}{a:Act}{w:World}{n i bd off cap:Nat}{d:Value}{k:List Item}
theorem an4 (hsz:a.tmps.size=32∧a.defers=[])(h9:a.eval (.tmp 9)= .int .i64 i)(h8:a.eval (.tmp 8)= .int .i64 n)(h7:a.eval (.tmp 7)= .slice (some ⟨bd,off,none⟩) n cap)(hi:i<n)(hn:n<1000000)(hd:w.cell? ⟨bd,off+i,none⟩=some .nilIface)
  (hk:∀a1:Act,(a1.tmps.size=32∧a1.defers=[])→a1.eval (.tmp 9)= .int .i64 (i+1:Nat)→Kp [0,2,7,8] a a1→ad GP R bR a1 k w):ad GP R bR a (.code rb1::k) w:=by
 refine ad.seq (ad.region ?_);refine ylv ?_;refine ad.ak (ad.seq (ad.cond (t:=true) ?_ (ad.skip (ad.seq (ad.block (ad.seq (ad.region ?_)))))))
 ·exact yev
 refine ylv ?_;refine ylv ?_;refine ylv ?_;refine ad.ak (ad.seq (ad.region ?_));refine ylv ?_;refine ylv ?_;refine ylv ?_;refine yln ?_;refine yln ?_;refine ylv ?_;refine ad.ak (ad.cond (t:=false) ?_ (ad.skip (ad.inBlock (ad.region ?_))))
 ·exact yev
 refine ylv ?_;refine ylv ?_;refine ad.ak (hk _ bz ?_ (by (intro kk hkk;simp only [List.mem_cons,List.not_mem_nil,or_false] at hkk;(repeat' (rcases hkk with hkk|hkk)) <;> (simp+decide only [eval_put,bn,size_put,if_true,if_false, *]))));refine yes ?_;rw [jv i ai]
theorem am2 {f:FuncId}{args:Array Value}{t:TypeId}{x:Value}{R':Ending→World→Prop}(hsz:a.tmps.size=32∧a.defers=[])(h9:a.eval (.tmp 9)= .int .i64 i)(h8:a.eval (.tmp 8)= .int .i64 n)(h7:a.eval (.tmp 7)= .slice (some ⟨bd,off,none⟩) n cap)(hi:i<n)(hn:n<1000000)(hd:w.cell? ⟨bd,off+i,none⟩=some (.iface t x))
  (hm:(callMethod (.iface t x) "Struck" #[]).run GP w= .ok (.enter f args) w)(hc:Calls GP f args w R')(hR:∀e w2,R' e w2→e= .returned (.bool false))
  (hk:∀(a1:Act)(w1:World),R' (.returned (.bool false)) w1→(a1.tmps.size=32∧a1.defers=[])→a1.eval (.tmp 9)= .int .i64 (i+1:Nat)→Kp [0,2,7,8] a a1→ad GP R bR a1 k w1):ad GP R bR a (.code rb1::k) w:=by
 have hk':=hk;clear hk;refine ad.seq (ad.region ?_);refine ylv ?_;refine ad.ak (ad.seq (ad.cond (t:=true) ?_ (ad.skip (ad.seq (ad.block (ad.seq (ad.region ?_)))))))
 ·exact yev
 refine ylv ?_;refine ylv ?_;refine ylv ?_;refine ad.ak (ad.seq (ad.region ?_));refine ylv ?_;refine ylv ?_;refine ylv ?_;refine ylg ?_;refine ad.call (f:=f) (args:=args) rfl rfl (by rw [oy (t':=true) rfl rfl rfl bz (yev)];rfl) ?_ hc (fun e w2 h=>⟨_,hR e w2 h⟩) fun v w2 hr=> ?_
 ·rw [yt (r:= .tmp 16) (name:= "Struck") (xs:=#[]) (ts:=#[]) rfl];rw [show (Act.eval _ (.tmp 16))= .iface t x from yev];simp only [List.map_toArray,List.map_nil];exact hm
 obtain rfl:v= .bool false:=by simpa using hR _ _ hr
 refine ynr ?_;refine ylv ?_;refine ad.ak (ad.cond (t:=false) ?_ (ad.skip (ad.inBlock (ad.region ?_))))
 ·exact yev
 refine ylv ?_;refine ylv ?_;refine ad.ak (hk' _ w2 hr bz ?_ (by (intro kk hkk;simp only [List.mem_cons,List.not_mem_nil,or_false] at hkk;(repeat' (rcases hkk with hkk|hkk)) <;> (simp+decide only [eval_put,bn,size_put,if_true,if_false, *]))));refine yes ?_;rw [jv i ai]
end
section
variable {R:Ending→World→Prop}{a:Act}{w:World}{n i bd off cap:Nat}{d:Value}{k:List Item}
theorem amg (hsz:a.tmps.size=32∧a.defers=[])(h22:a.eval (.tmp 22)= .int .i64 i)(h21:a.eval (.tmp 21)= .int .i64 n)(h20:a.eval (.tmp 20)= .slice (some ⟨bd,off,none⟩) n cap)(hi:i<n)(hn:n<1000000)(hd:w.cell? ⟨bd,off+i,none⟩=some .nilIface)
  (hk:∀a1:Act,(a1.tmps.size=32∧a1.defers=[])→a1.eval (.tmp 22)= .int .i64 (i+1:Nat)→Kp [2,20,21] a a1→ad GP R bR a1 k w):ad GP R bR a (.code rb2::k) w:=by
 refine ad.seq (ad.region ?_);refine ylv ?_;refine ad.ak (ad.seq (ad.cond (t:=true) ?_ (ad.skip (ad.seq (ad.block (ad.seq (ad.region ?_)))))))
 ·exact yev
 refine ylv ?_;refine ylv ?_;refine ylv ?_;refine ad.ak (ad.seq (ad.region ?_));refine ylv ?_;refine ylv ?_;refine ad.ak (ad.cond (t:=false) ?_ (ad.skip (ad.inBlock (ad.region ?_))))
 ·exact yev
 refine ylv ?_;refine ylv ?_;refine ad.ak (hk _ bz ?_ (by (intro kk hkk;simp only [List.mem_cons,List.not_mem_nil,or_false] at hkk;(repeat' (rcases hkk with hkk|hkk)) <;> (simp+decide only [eval_put,bn,size_put,if_true,if_false, *]))));refine yes ?_;rw [jv i ai]
theorem aos {f:FuncId}{args:Array Value}{t:TypeId}{x:Value}{R':Ending→World→Prop}(hsz:a.tmps.size=32∧a.defers=[])(h22:a.eval (.tmp 22)= .int .i64 i)(h21:a.eval (.tmp 21)= .int .i64 n)(h20:a.eval (.tmp 20)= .slice (some ⟨bd,off,none⟩) n cap)(h2:a.eval (.tmp 2)= .bool false)(hi:i<n)(hn:n<1000000)(hd:w.cell? ⟨bd,off+i,none⟩=some (.iface t x))
  (hm:(callMethod (.iface t x) "Rest" #[.bool false]).run GP w= .ok (.enter f args) w)(hc:Calls GP f args w R')(hR:∀e w2,R' e w2→∃v,e= .returned v)
  (hk:∀(a1:Act)(w1:World)(v:Value),R' (.returned v) w1→(a1.tmps.size=32∧a1.defers=[])→a1.eval (.tmp 22)= .int .i64 (i+1:Nat)→Kp [2,20,21] a a1→ad GP R bR a1 k w1):ad GP R bR a (.code rb2::k) w:=by
 have hk':=hk;clear hk;refine ad.seq (ad.region ?_);refine ylv ?_;refine ad.ak (ad.seq (ad.cond (t:=true) ?_ (ad.skip (ad.seq (ad.block (ad.seq (ad.region ?_)))))))
 ·exact yev
 refine ylv ?_;refine ylv ?_;refine ylv ?_;refine ad.ak (ad.seq (ad.region ?_));refine ylv ?_;refine ylv ?_;refine ad.ak (ad.cond (t:=true) ?_ (ad.region ?_))
 ·exact yev
 refine ylv ?_;refine ylv ?_;refine ad.call (f:=f) (args:=args) rfl rfl rfl ?_ hc hR fun v w2 hr=> ?_
 ·rw [yt (r:= .tmp 28) (name:= "Rest") (xs:=#[.tmp 29]) (ts:=#[4]) rfl];rw [show (Act.eval _ (.tmp 28))= .iface t x from yev];simp+decide only [List.map_toArray,List.map_cons,List.map_nil,eval_put,size_put,if_true,if_false,hsz,h2];exact hm
 refine ynr ?_;refine ad.ak (ad.inBlock (ad.region ?_));refine ylv ?_;refine ylv ?_;refine ad.ak (hk' _ w2 v hr bz ?_ (by (intro kk hkk;simp only [List.mem_cons,List.not_mem_nil,or_false] at hkk;(repeat' (rcases hkk with hkk|hkk)) <;> (simp+decide only [eval_put,bn,size_put,if_true,if_false, *]))));refine yes ?_;rw [jv i ai]
end
structure ags (Inv:World→Prop)(D:Nat→Value)(n bd off:Nat):Prop where
 cell:∀w,Inv w→∀i,i<n→w.cell? ⟨bd,off+i,none⟩=some (D i)
 drv:∀i,i<n→D i= .nilIface∨∃t x,D i= .iface t x∧
  (∃f args,(∀w,Inv w→(callMethod (.iface t x) "Struck" #[]).run GP w= .ok (.enter f args) w)∧∀w,Inv w→Calls GP f args w fun e w2=>e= .returned (.bool false)∧Inv w2∧w.heap.size≤w2.heap.size)∧
  (∃f args,(∀w,Inv w→(callMethod (.iface t x) "Rest" #[.bool false]).run GP w= .ok (.enter f args) w)∧∀w,Inv w→Calls GP f args w fun e w2=>(∃v,e= .returned v)∧Inv w2∧w.heap.size≤w2.heap.size)
section
variable {R:Ending→World→Prop}{a a0:Act}{w w0:World}{n bd off cap:Nat}{D:Nat→Value}{k:List Item}{Inv:World→Prop}
theorem al2 (V:ags Inv D n bd off)(hn:n<1000000)(h8:a0.eval (.tmp 8)= .int .i64 n)(h7:a0.eval (.tmp 7)= .slice (some ⟨bd,off,none⟩) n cap)
  (hk:∀(a1:Act)(w1:World),(a1.tmps.size=32∧a1.defers=[])→Kp [0,2,7,8] a0 a1→Inv w1→w0.heap.size≤w1.heap.size→ad GP R bR a1 k w1):
  ∀m i a w,i+m=n→(a.tmps.size=32∧a.defers=[])→a.eval (.tmp 9)= .int .i64 (i:Nat)→Kp [0,2,7,8] a0 a→Inv w→w0.heap.size≤w.heap.size→ad GP R bR a (.code rb1:: .inLoop rb1:: .inBlock 0::k) w:=by
 intro m
 induction m with
 |zero=>
  intro i a w him hsz h9 hkp hI hw;obtain rfl:i=n:=by omega
  have e8:=(hkp 8 (by decide)).trans h8;refine ad.seq (ad.region ?_);refine ylv ?_;refine ad.ak (ad.seq (ad.cond (t:=false) ?_ (ad.exit rfl (hk _ w bz (hkp.trans (by (intro kk hkk;simp only [List.mem_cons,List.not_mem_nil,or_false] at hkk;(repeat' (rcases hkk with hkk|hkk)) <;> (simp+decide only [eval_put,bn,size_put,if_true,if_false, *])))) hI hw))));exact yev
 |succ m ih=>
  intro i a w him hsz h9 hkp hI hw;have e8:=(hkp 8 (by decide)).trans h8;have e7:=(hkp 7 (by decide)).trans h7;have hc:=V.cell w hI i ai;rcases V.drv i ai with hd|⟨t,x,hd,⟨f,args,hm,hcl⟩,-⟩
  ·rw [hd] at hc;exact an4 hsz h9 e8 e7 ai hn hc fun a1 g1 g2 g3=>ad.inLoop (ih (i+1) a1 w ai g1 g2 (hkp.trans g3) hI hw)
  ·rw [hd] at hc;exact am2 hsz h9 e8 e7 ai hn hc (hm w hI) (hcl w hI) (fun e w2 h=>h.1) fun a1 w1 hr g1 g2 g3=>ad.inLoop (ih (i+1) a1 w1 ai g1 g2 (hkp.trans g3) hr.2.1 (Nat.le_trans hw hr.2.2))
theorem aln (V:ags Inv D n bd off)(hn:n<1000000)(h21:a0.eval (.tmp 21)= .int .i64 n)(h20:a0.eval (.tmp 20)= .slice (some ⟨bd,off,none⟩) n cap)(h2:a0.eval (.tmp 2)= .bool false)
  (hk:∀(a1:Act)(w1:World),(a1.tmps.size=32∧a1.defers=[])→Inv w1→w0.heap.size≤w1.heap.size→ad GP R bR a1 k w1):
  ∀m i a w,i+m=n→(a.tmps.size=32∧a.defers=[])→a.eval (.tmp 22)= .int .i64 (i:Nat)→Kp [2,20,21] a0 a→Inv w→w0.heap.size≤w.heap.size→ad GP R bR a (.code rb2:: .inLoop rb2:: .inBlock 2::k) w:=by
 intro m
 induction m with
 |zero=>
  intro i a w him hsz h22 hkp hI hw;obtain rfl:i=n:=by omega
  have e21:=(hkp 21 (by decide)).trans h21;refine ad.seq (ad.region ?_);refine ylv ?_;refine ad.ak (ad.seq (ad.cond (t:=false) ?_ (ad.exit rfl (hk _ w bz hI hw))));exact yev
 |succ m ih=>
  intro i a w him hsz h22 hkp hI hw;have e21:=(hkp 21 (by decide)).trans h21;have e20:=(hkp 20 (by decide)).trans h20;have e2:=(hkp 2 (by decide)).trans h2;have hc:=V.cell w hI i ai;rcases V.drv i ai with hd|⟨t,x,hd,-,⟨f,args,hm,hcl⟩⟩
  ·rw [hd] at hc;exact amg hsz h22 e21 e20 ai hn hc fun a1 g1 g2 g3=>ad.inLoop (ih (i+1) a1 w ai g1 g2 (hkp.trans g3) hI hw)
  ·rw [hd] at hc;exact aos hsz h22 e21 e20 e2 ai hn hc (hm w hI) (hcl w hI) (fun e w2 h=>h.1) fun a1 w1 v hr g1 g2 g3=>ad.inLoop (ih (i+1) a1 w1 ai g1 g2 (hkp.trans g3) hr.2.1 (Nat.le_trans hw hr.2.2))
theorem alc (V:ags Inv D n bd off)(hn:n<1000000)(hI:Inv w):Calls GP 44 #[.slice (some ⟨bd,off,none⟩) n cap] w fun e w2=>e= .returned (.tuple #[])∧Inv w2∧w.heap.size≤w2.heap.size:=by
 have hf:GP.funcs[44]? =some Tryz.f44:=jd Tryz.func44 rfl (by decide+kernel);refine mc (m:=31) hf rfl (c:=rc) rfl ?_;have v0:=jb (m:=31) (k:=0) (xs:=#[.slice (some ⟨bd,off,none⟩) n cap]) rfl;have hsz:(⟨#[.slice (some ⟨bd,off,none⟩) n cap]++Array.replicate 31 undef,[]⟩:Act).tmps.size=32∧(⟨#[.slice (some ⟨bd,off,none⟩) n cap]++Array.replicate 31 undef,[]⟩:Act).defers=[]:=⟨by simp,rfl⟩;simp only [List.getElem_toArray,List.getElem_cons_zero,List.getElem_cons_succ] at v0;generalize (⟨#[.slice (some ⟨bd,off,none⟩) n cap]++Array.replicate 31 undef,[]⟩:Act)=a at hsz v0 ⊢;show ad GP _ bR a [.code rc] w;refine ad.seq (ad.region ?_);refine ylv ?_;refine ad.ak (ad.seq (ad.seq (ad.region ?_)));refine ylv ?_;refine ylv ?_;refine ylv ?_;refine ad.ak (ad.block (ad.loop ?_));refine al2 (w0:=w) (n:=n) (cap:=cap) (a0:=(((a.put (some 2) (.bool false)).put (some 7) (.slice (some ⟨bd,off,none⟩) n cap)).put (some 8) (.int .i64 n)).put (some 9) (.int .i64 0)) V hn (yev) (yev) (fun a1 w1 g1 g2 g3 g4=> ?_) n 0 _ _ ai bz (yer) (Kp.refl _ _) hI (Nat.le_refl _);have e0:a1.eval (.tmp 0)= .slice (some ⟨bd,off,none⟩) n cap:=(g2 0 (by decide)).trans (yev);have e2:a1.eval (.tmp 2)= .bool false:=(g2 2 (by decide)).trans (yev);refine ad.seq (ad.region ?_);refine ylv ?_;refine ylv ?_;refine ylv ?_;refine ad.ak (ad.block (ad.loop ?_));refine aln (w0:=w) (n:=n) (cap:=cap) (a0:=((a1.put (some 20) (.slice (some ⟨bd,off,none⟩) n cap)).put (some 21) (.int .i64 n)).put (some 22) (.int .i64 0)) V hn (yev) (yev) (yev) (fun a2 w2 k1 k2 k3=> ?_) n 0 _ _ ai (by simp [g1]) (yer) (Kp.refl _ _) g3 g4;exact ad.fin rfl hf k1.2 (results_none rfl _ _ _) ⟨rfl,k2,k3⟩
end
end Go.Proofs.YthgpdljlehklhaaGreat.la
namespace Go.Proofs.YthgpdljlehklhaaGreat.wd
open Go Go.Conc zr dr la
set_option linter.unusedVariables false
def Wnd (w:World)(g:Nat)(dp:Value)(down away:Bool)(plan:Value)(calls round:Int):Prop:=w.heap[g]? =some (.cells #[dp,.bool down,.bool away,plan,.int .i64 calls,.int .i64 round,.pointer none] 86)
section
variable {w:World}{g:Nat}{dp plan:Value}{down away:Bool}{calls round:Int}
theorem Wnd.c1 (h:Wnd w g dp down away plan calls round):w.cell? ⟨g,1,none⟩=some (.bool down):=af h ae
theorem Wnd.c5 (h:Wnd w g dp down away plan calls round):w.cell? ⟨g,5,none⟩=some (.int .i64 round):=af h ae
theorem Wnd.c6 (h:Wnd w g dp down away plan calls round):w.cell? ⟨g,6,none⟩=some (.pointer none):=af h ae
theorem uj (h:Wnd w g dp down away plan calls round):Calls GP 27 #[pO g] w fun e w2=>e= .returned (.bool false)∧w2=w:=by
 have hf:GP.funcs[27]? =some Tryz.f27:=jd Tryz.func27 rfl (by decide+kernel);have c6:=h.c6;refine mc (m:=21) hf rfl (c:=Tryz.f27.body.getD .skip) rfl ?_;have v0:=jb (m:=21) (k:=0) (xs:=#[pO g]) rfl;have hsz:(⟨#[pO g]++Array.replicate 21 undef,[]⟩:Act).tmps.size=22∧(⟨#[pO g]++Array.replicate 21 undef,[]⟩:Act).defers=[]:=⟨by simp,rfl⟩;simp only [List.getElem_toArray,List.getElem_cons_zero,List.getElem_cons_succ] at v0;generalize (⟨#[pO g]++Array.replicate 21 undef,[]⟩:Act)=a at hsz v0 ⊢;refine ad.seq (ad.region ?_);refine mf ?_;refine ad.ak (ad.seq (ad.region ?_));refine mf ?_;exact ad.ak (ad.dq rfl hf rfl bz (yev) ⟨rfl,rfl⟩)
theorem ald {off:Bool}(h:Wnd w g dp down away plan calls round):Calls GP 212 #[pO g,.bool off] w fun e w2=>e= .returned (.tuple #[])∧w2=(w.setCell ⟨g,5,none⟩ (.int .i64 0)).setCell ⟨g,1,none⟩ (.bool (down || off)):=by
 have hf:GP.funcs[212]? =some Tryz.f212:=jd Tryz.func212 rfl (by decide+kernel);have c6:=h.c6;have c5:=h.c5;have f5:w.frozen? ⟨g,5,none⟩=false:=ed h;refine mc (m:=37) hf rfl (c:=Tryz.f212.body.getD .skip) rfl ?_;have v0:=jb (m:=37) (k:=0) (xs:=#[pO g,.bool off]) rfl;have v1:=jb (m:=37) (k:=1) (xs:=#[pO g,.bool off]) rfl;have hsz:(⟨#[pO g,.bool off]++Array.replicate 37 undef,[]⟩:Act).tmps.size=39∧(⟨#[pO g,.bool off]++Array.replicate 37 undef,[]⟩:Act).defers=[]:=⟨by simp,rfl⟩;simp only [List.getElem_toArray,List.getElem_cons_zero,List.getElem_cons_succ] at v0 v1;generalize (⟨#[pO g,.bool off]++Array.replicate 37 undef,[]⟩:Act)=a at hsz v0 v1 ⊢;refine ad.seq (ad.seq (ad.region ?_));refine mf ?_;refine ad.ak (ad.cond (t:=false) ?_ (ad.skip (ad.seq (ad.seq (ad.region ?_)))))
 ·exact yev
 refine mf ?_;refine ad.call (f:=27) (args:=#[pO g]) rfl rfl rfl ?_ (uj h) (fun e w2 h=>⟨_,h.1⟩) fun v w2 hr=> ?_
 ·rw [cw (f:=27) (xs:=#[.tmp 6]) (ts:=#[73]) rfl];simp+decide only [List.map_toArray,List.map_cons,List.map_nil,eval_put,size_put,if_true,if_false,hsz];exact nq (jd Tryz.func27 rfl (by decide+kernel)) rfl (my _ _ Tryz.func27) _ _
 obtain ⟨hv,rfl⟩:=hr;obtain rfl:v= .bool false:=by simpa using hv
 refine ynr ?_;refine ad.ak (ad.cond (t:=false) ?_ (ad.skip (ad.seq (ad.seq (ad.region ?_)))))
 ·exact yev
 refine mf ?_;refine ad.ak (ad.cond (t:=false) ?_ (ad.skip (ad.seq (ad.region ?_))))
 ·exact yev
 refine mf ?_;refine ad.ak (ad.region ?_);have h2:Wnd (w2.setCell ⟨g,5,none⟩ (.int .i64 0)) g dp down away plan calls 0:=ee h;have c1:=h2.c1;have f1:(w2.setCell ⟨g,5,none⟩ (.int .i64 0)).frozen? ⟨g,1,none⟩=false:=ed h2;cases down
 ·refine mf ?_;exact ad.ak (ad.fin rfl hf bz (results_none rfl _ _ _) ⟨rfl,rfl⟩)
 ·refine mf ?_;exact ad.ak (ad.fin rfl hf bz (results_none rfl _ _ _) ⟨rfl,rfl⟩)
end
theorem ajb (x:Value)(w:World):(method (GP.types.size+Made.depth) 73 x "Struck").run GP w= .ok (27,x) w:=by kernel_rfl
theorem aoc (x:Value)(w:World):(method (GP.types.size+Made.depth) 73 x "Rest").run GP w= .ok (212,x) w:=by kernel_rfl
theorem ait (x:Value)(w:World):(callMethod (.iface 73 x) "Struck" #[]).run GP w= .ok (.enter 27 #[x]) w:=by
 unfold callMethod;simp only [Sem.run_bind,run_program,Result.andThen_ok,ajb];exact nq (jd Tryz.func27 rfl (by decide+kernel)) rfl (my _ _ Tryz.func27) _ _
theorem ana (x:Value)(b:Bool)(w:World):(callMethod (.iface 73 x) "Rest" #[.bool b]).run GP w= .ok (.enter 212 #[x,.bool b]) w:=by
 unfold callMethod;simp only [Sem.run_bind,run_program,Result.andThen_ok,aoc];exact nq (jd Tryz.func212 rfl (by decide+kernel)) rfl (my _ _ Tryz.func212) _ _
end Go.Proofs.YthgpdljlehklhaaGreat.wd
namespace Go.Proofs.YthgpdljlehklhaaGreat.drv
open Go Go.Conc zr dr la
set_option linter.unusedVariables false
theorem sd {s:ByteArray}(h1:1≤s.size)(h2:s.size≤1024)(w:World):Calls GP 78 #[.string s] w fun e w2=>e= .returned (.bool true)∧w2=w:=by
 have hf:GP.funcs[78]? =some Tryz.f78:=jd Tryz.func78 rfl (by decide+kernel);refine mc (m:=10) hf rfl (c:=Tryz.f78.body.getD .skip) rfl ?_;have v0:=jb (m:=10) (k:=0) (xs:=#[.string s]) rfl;have hsz:(⟨#[.string s]++Array.replicate 10 undef,[]⟩:Act).tmps.size=11∧(⟨#[.string s]++Array.replicate 10 undef,[]⟩:Act).defers=[]:=⟨by simp,rfl⟩;simp only [List.getElem_toArray,List.getElem_cons_zero,List.getElem_cons_succ] at v0;generalize (⟨#[.string s]++Array.replicate 10 undef,[]⟩:Act)=a at hsz v0 ⊢;have g1:(1:Int)≤s.size:=by omega
 have g2:(s.size:Int)≤1024:=by omega
 refine ad.seq (ad.region ?_);refine mf ?_;refine ad.ak (ad.seq (ad.region ?_));refine mf ?_;exact ad.ak (ad.dq rfl hf rfl bz (yev) ⟨rfl,rfl⟩)
theorem ak8 {s:ByteArray}(h1:1≤s.size)(h2:s.size≤1024){w:World}{d m:Nat}{p:Addr}(hd:w.cell? ⟨d,2,none⟩=some (.map (some m)))(hl:(Instr.lookup 136 (.map (some m)) (.string s) false).run GP w= .ok (.pointer (some p)) w):
  Calls GP 50 #[pO d,.string s] w fun e w2=>e= .returned (.tuple #[.pointer (some p),.int .i64 0])∧w2=w:=by
 have hf:GP.funcs[50]? =some Tryz.f50:=jd Tryz.func50 rfl (by decide+kernel);refine mc (m:=19) hf rfl (c:=Tryz.f50.body.getD .skip) rfl ?_;have v0:=jb (m:=19) (k:=0) (xs:=#[pO d,.string s]) rfl;have v1:=jb (m:=19) (k:=1) (xs:=#[pO d,.string s]) rfl;have hsz:(⟨#[pO d,.string s]++Array.replicate 19 undef,[]⟩:Act).tmps.size=21∧(⟨#[pO d,.string s]++Array.replicate 19 undef,[]⟩:Act).defers=[]:=⟨by simp,rfl⟩;simp only [List.getElem_toArray,List.getElem_cons_zero,List.getElem_cons_succ] at v0 v1;generalize (⟨#[pO d,.string s]++Array.replicate 19 undef,[]⟩:Act)=a at hsz v0 v1 ⊢;refine ad.seq (ad.region ?_);refine mf ?_;refine ad.ak (ad.seq (ad.seq (ad.region ?_)));refine mf ?_;refine ad.ak (ad.cond (t:=false) ?_ (ad.skip (ad.seq (ad.seq (ad.region ?_)))))
 ·exact yev
 refine mf ?_;refine ad.call (f:=78) (args:=#[.string s]) rfl rfl rfl ?_ (sd h1 h2 w) (fun e w2 h=>⟨_,h.1⟩) fun v w2 hr=> ?_
 ·rw [cw (f:=78) (xs:=#[.tmp 9]) (ts:=#[9]) rfl];simp+decide only [List.map_toArray,List.map_cons,List.map_nil,eval_put,size_put,if_true,if_false,hsz];exact nq (jd Tryz.func78 rfl (by decide+kernel)) rfl (my _ _ Tryz.func78) _ _
 obtain ⟨hv,rfl⟩:=hr;obtain rfl:v= .bool true:=by simpa using hv
 refine ynr ?_;refine mf ?_;refine ad.ak (ad.cond (t:=false) ?_ (ad.skip (ad.seq (ad.seq (ad.region ?_)))))
 ·exact yev
 refine mf ?_;refine ad.ak (ad.seq (ad.region ?_));refine mf ?_;refine ad.ak (ad.cond (t:=true) ?_ (ad.seq (ad.region ?_)))
 ·exact yev
 refine mf ?_;exact ad.ak (ad.qs (v:= .pointer (some p)) (v2:= .int .i64 0) rfl hf rfl bz (yev) (yev) ⟨rfl,rfl⟩)
theorem ab6 {s:ByteArray}(h1:1≤s.size)(h2:s.size≤1024){w:World}{d m:Nat}(hd:w.cell? ⟨d,2,none⟩=some (.map (some m)))(hl:(Instr.lookup 136 (.map (some m)) (.string s) false).run GP w= .ok (.pointer none) w):
  Calls GP 50 #[pO d,.string s] w fun e w2=>e= .returned (.tuple #[.pointer none,.int .i64 110])∧w2=w:=by
 have hf:GP.funcs[50]? =some Tryz.f50:=jd Tryz.func50 rfl (by decide+kernel);refine mc (m:=19) hf rfl (c:=Tryz.f50.body.getD .skip) rfl ?_;have v0:=jb (m:=19) (k:=0) (xs:=#[pO d,.string s]) rfl;have v1:=jb (m:=19) (k:=1) (xs:=#[pO d,.string s]) rfl;have hsz:(⟨#[pO d,.string s]++Array.replicate 19 undef,[]⟩:Act).tmps.size=21∧(⟨#[pO d,.string s]++Array.replicate 19 undef,[]⟩:Act).defers=[]:=⟨by simp,rfl⟩;simp only [List.getElem_toArray,List.getElem_cons_zero,List.getElem_cons_succ] at v0 v1;generalize (⟨#[pO d,.string s]++Array.replicate 19 undef,[]⟩:Act)=a at hsz v0 v1 ⊢;refine ad.seq (ad.region ?_);refine mf ?_;refine ad.ak (ad.seq (ad.seq (ad.region ?_)));refine mf ?_;refine ad.ak (ad.cond (t:=false) ?_ (ad.skip (ad.seq (ad.seq (ad.region ?_)))))
 ·exact yev
 refine mf ?_;refine ad.call (f:=78) (args:=#[.string s]) rfl rfl rfl ?_ (sd h1 h2 w) (fun e w2 h=>⟨_,h.1⟩) fun v w2 hr=> ?_
 ·rw [cw (f:=78) (xs:=#[.tmp 9]) (ts:=#[9]) rfl];simp+decide only [List.map_toArray,List.map_cons,List.map_nil,eval_put,size_put,if_true,if_false,hsz];exact nq (jd Tryz.func78 rfl (by decide+kernel)) rfl (my _ _ Tryz.func78) _ _
 obtain ⟨hv,rfl⟩:=hr;obtain rfl:v= .bool true:=by simpa using hv
 refine ynr ?_;refine mf ?_;refine ad.ak (ad.cond (t:=false) ?_ (ad.skip (ad.seq (ad.seq (ad.region ?_)))))
 ·exact yev
 refine mf ?_;refine ad.ak (ad.seq (ad.region ?_));refine mf ?_;refine ad.ak (ad.cond (t:=false) ?_ (ad.skip (ad.seq (ad.region ?_))))
 ·exact yev
 refine mf ?_;exact ad.ak (ad.qs (v:= .pointer none) (v2:= .int .i64 110) rfl hf rfl bz (yev) (yev) ⟨rfl,rfl⟩)
theorem sl_nil (w:World):Sem.run GP (do
  eqGuard .eql 49 (.tmp 3) (.const (.slice none 0 0)) (.slice none 0 0) (.slice none 0 0)
  binOp .eql 49 (.slice none 0 0) (.slice none 0 0)) w= .ok (.bool true) w:=by kernel_rfl
theorem anj (w:World):Calls GP 49 #[.slice none 0 0] w fun e w2=>e= .returned (.slice none 0 0)∧w2=w:=by
 have hf:GP.funcs[49]? =some Tryz.f49:=jd Tryz.func49 rfl (by decide+kernel);refine mc (m:=7) hf rfl (c:=Tryz.f49.body.getD .skip) rfl ?_;have v0:=jb (m:=7) (k:=0) (xs:=#[.slice none 0 0]) rfl;have hsz:(⟨#[.slice none 0 0]++Array.replicate 7 undef,[]⟩:Act).tmps.size=8∧(⟨#[.slice none 0 0]++Array.replicate 7 undef,[]⟩:Act).defers=[]:=⟨by simp,rfl⟩;simp only [List.getElem_toArray,List.getElem_cons_zero,List.getElem_cons_succ] at v0;generalize (⟨#[.slice none 0 0]++Array.replicate 7 undef,[]⟩:Act)=a at hsz v0 ⊢;refine ad.seq (ad.region ?_);refine mf ?_;refine ad.ak (ad.seq (ad.seq (ad.region ?_)));refine ylv ?_;apply ad.val (v:= .bool true) rfl
 (case ho=>rfl);(case hw=>exact dt rfl)
 (case hr=>
  refine ynr ?_;dsimp only [execOp];simp+decide only [eval_put,eval_const,size_put,if_true,if_false,v0,hsz];rw [Sem.run_bind,sl_nil];rfl)
 refine ynr ?_;refine ad.ak (ad.cond (t:=true) ?_ (ad.seq (ad.region ?_)))
 ·exact yev
 refine mf ?_;exact ad.ak (ad.dq rfl hf rfl bz (yev) ⟨rfl,rfl⟩)
end Go.Proofs.YthgpdljlehklhaaGreat.drv
