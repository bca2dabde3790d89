/- Part QBD of the proof that DropRefused answers true whatever its input. No condition. -/
import Derived.Test.YthgpdljlehklhaaGreatQAJ
import Derived.Test.YthgpdljlehklhaaGreatQAT
import Derived.Test.YthgpdljlehklhaaGreatQBC
import Derived.Test.YthgpdljlehklhaaGreatQBB
import Derived.Test.YthgpdljlehklhaaGreatQBA
set_option maxRecDepth 100000
namespace Go.Proofs.YthgpdljlehklhaaGreat.wk
open Go Go.Conc zr dr wd drv
set_option linter.unusedVariables false
theorem uu [Bg] (f:FuncId){fn:Func}{c:Code}{args:Array Value}{m n:Nat}{w:World}{R:Ending→World→Prop}(hR:gz R)(hmn:∀e w2,R e w2→w.heap.size≤w2.heap.size)(hf:Tryz.prog.funcs[f]? =some fn)(hb:fn.body=some c)(ho:dy Tryz.prog c=true)(hm:fn.ntmps-args.size=m)(hn:args.size+m=n)
  (h:∀(E:UE GP Tryz.prog.funcs)(a:Act),GP.funcs[f]? =some fn→a.tmps.size=n∧a.defers=[]→(∀j v,args[j]? =some v→a.eval (.tmp j)=v)→cu E R {(default:Frame) with fn:=f,kind:= .normal} a [.code c] w):UCx GP Tryz.prog.funcs f args w R:=
 akt mh vh hR hmn (jd hf hb ho) hb (uw hf hb ho) hm hn fun E a h1 h2=>h E a (jd hf hb ho) h1 h2
theorem afx [Bg] (f:FuncId)(h:aay f=true):Plain GP Tryz.prog.funcs f:=by
 unfold aay at h;cases hf:Tryz.prog.funcs[f]? with
 |none=>rw [hf] at h;cases h
 |some fn=>
  rw [hf] at h;dsimp only at h;cases hb:fn.body with
  |none=>rw [hb] at h;cases h
  |some c=>
   rw [hb] at h;exact uw hf hb h
theorem mw [Bg] {f:FuncId}{args:Array Value}{w:World}{R':Ending→World→Prop}(he:aay f=true)(hR:gz R')(hmn:∀e w2,R' e w2→w.heap.size≤w2.heap.size)(hc:∀τ d,Calls GP f args (tp w τ d) R')(hret:∀e w2,R' e w2→∃v,e= .returned v):UCx GP Tryz.prog.funcs f args w R':=UCx.of_lone mh vh (afx f he) hR hmn hret hc
noncomputable def entB (f:FuncId):Bool:=match Tryz.prog.funcs[f]? with
 |some fn=>fn.body.isSome
 |none=>false
theorem im [Bg] (f:FuncId)(h:entB f=true)(args:Array Value)(w:World):(callFunc f args).run GP w= .ok (.enter f args) w:=by
 unfold entB at h;cases hf:Tryz.prog.funcs[f]? with
 |none=>rw [hf] at h;cases h
 |some fn=>
  rw [hf] at h;dsimp only at h;cases hb:fn.body with
  |none=>rw [hb] at h;cases h
  |some c=>
   have hg:GP.funcs[f]? =some (mj Tryz.prog fn):=by
    show (ghost Tryz.prog).funcs[f]? =_;rw [oz,hf];rfl
   have hn:=my f fn hf;unfold mj at hg;rw [hb] at hg
   by_cases ho:dy Tryz.prog c=true
   ·simp only [ho,if_true] at hg;exact nq hg hb hn args w
   ·simp only [ho] at hg;exact nq hg rfl hn args w
theorem zulv {P' P:Prop}(h2:P')(h:Wrp P'→P:=by intro hG;((apply cu.val0 rfl;(case' ho=>rfl);(case' hs=>rfl);(case' hw=>exact dt rfl);(case' hr=>intro d;exact zxr);refine ay ?_));exact hG.out):P:=h ⟨h2⟩
theorem zulp {P' P:Prop}(h2:P')(h:Wrp P'→P:=by intro hG;((apply cu.put0 rfl;(case' ho=>rfl);(case' hs=>rfl);(case' hw=>exact dt rfl);(case' hr=>intro d;exact zxs);refine ay ?_));exact hG.out):P:=h ⟨h2⟩
theorem zulg {P' P:Prop}(h2:P')(h:Wrp P'→P:=by intro hG;((apply cu.val0 rfl;(case' ho=>rfl);(case' hs=>rfl);(case' hw=>exact zgd);(case' hr=>intro d;exact zxr);refine ay ?_));exact hG.out):P:=h ⟨h2⟩
theorem zuln {P' P:Prop}(h2:P')(h:Wrp P'→P:=by intro hG;((apply cu.not;(case' ho=>rfl);(case' hw=>exact zgd);refine ay ?_));exact hG.out):P:=h ⟨h2⟩
theorem zuwk {P' P:Prop}(h2:P')(h:Wrp P'→P:=by intro hG;(repeat (first|refine zulv ?_|refine zulp ?_|refine zulg ?_|refine zuln ?_|apply cu.ak|apply cu.seq|apply cu.region|apply cu.skip|(apply cu.se;(focus (exact aj)))|(apply cu.p9;(focus (exact aj)))|apply cu.block|apply cu.inBlock|apply cu.exit rfl));exact hG.out):P:=h ⟨h2⟩
theorem ic {P' P:Prop}(h2:P')(h:Wrp P'→P:=by intro hG;(repeat (first|refine zulv ?_|refine zulg ?_|refine zuln ?_|apply cu.ak|apply cu.seq|apply cu.region|apply cu.skip|(apply cu.se;(focus (exact aj)))|(apply cu.p9;(focus (exact aj)))|apply cu.block|apply cu.inBlock|apply cu.exit rfl));exact hG.out):P:=h ⟨h2⟩
theorem akb [Bg] (f:FuncId){fn:Func}{c:Code}{args:Array Value}{m n:Nat}{w:World}{R:Ending→World→Prop}(hR:gz R)(hmn:∀e w2,R e w2→w.heap.size≤w2.heap.size)(hf:Tryz.prog.funcs[f]? =some fn)(hb:fn.body=some c)(hm:fn.ntmps-args.size=m)(hn:args.size+m=n)
  (h:∀(E:VE GP Tryz.prog.funcs)(a:Act),a.tmps.size=n∧a.defers=[]→(∀j v,args[j]? =some v→a.eval (.tmp j)=v)→dh E R {(default:Frame) with fn:=f,kind:= .normal} a [.code c] w):UCx GP Tryz.prog.funcs f args w R:=
 alh mh vh hR hmn hf hb hm hn h
theorem ru {P' P:Prop}(h2:P')(h:Wrp P'→P:=by intro hG;((apply dh.val rfl;(case' ho=>rfl);(case' hm=>kernel_rfl);(case' hw=>exact bj);(case' hr=>intro d;exact zxr);refine ay ?_));exact hG.out):P:=h ⟨h2⟩
theorem rv {P' P:Prop}(h2:P')(h:Wrp P'→P:=by intro hG;(repeat (first|refine ru ?_|apply dh.ak|apply dh.seq|apply dh.region|apply dh.skip|(apply dh.se;(focus (exact aj)))|(apply dh.p9;(focus (exact aj)))));exact hG.out):P:=h ⟨h2⟩
theorem ku [Bg] {P:Program}{fs:Array Func}{R:Ending→World→Prop}{E:UE P fs}{b:Frame}{a:Act}{k:List Item}{w:World}{m:Nat}{X:List Value}(L:List Nat)(h:∀a1:Act,(a1.tmps.size=m∧a1.defers=[])→KC a1 L X→cu E R b a1 k w)(hX:KA a L X:=by repeat (first|exact KA.nil|(apply KA.cons;focus (intro y hy;(try simp+decide only [eval_put,bn,eval_const,size_put,if_true,if_false,List.getElem_toArray,List.getElem_cons_zero,List.getElem_cons_succ, *] at hy);exact hy))))(hs:∀y,a.tmps.size=y→m=y:=by intro y hy;simp only [size_put,hsz] at hy;exact hy)(hd:a.defers=[]:=by simp only [abc,hsz]):cu E R b a k w:=cu.ff fun a1 ha hv=>h a1 ⟨ha.1.trans (hs _ rfl).symm,ha.2.trans hd⟩ (agw hv hX)
theorem kw [Bg] {P:Program}{fs:Array Func}{R:Ending→World→Prop}{E:VE P fs}{b:Frame}{a:Act}{k:List Item}{w:World}{m:Nat}{X:List Value}(L:List Nat)(h:∀a1:Act,(a1.tmps.size=m∧a1.defers=[])→KC a1 L X→dh E R b a1 k w)(hX:KA a L X:=by repeat (first|exact KA.nil|(apply KA.cons;focus (intro y hy;(try simp+decide only [eval_put,bn,eval_const,size_put,if_true,if_false,List.getElem_toArray,List.getElem_cons_zero,List.getElem_cons_succ, *] at hy);exact hy))))(hs:∀y,a.tmps.size=y→m=y:=by intro y hy;simp only [size_put,hsz] at hy;exact hy)(hd:a.defers=[]:=by simp only [abc,hsz]):dh E R b a k w:=dh.ff fun a1 ha hv=>h a1 ⟨ha.1.trans (hs _ rfl).symm,ha.2.trans hd⟩ (agw hv hX)
end Go.Proofs.YthgpdljlehklhaaGreat.wk
namespace Go.Proofs.YthgpdljlehklhaaGreat.rn
open Go Go.Conc zr dr wd drv wk la
set_option linter.unusedVariables false
set_option maxHeartbeats 4000000
section
variable {w w1 w2 u:World}{bd cap s:Nat}{g d now x q:Nat→Nat}{ft:Nat→List Nat}{PD:Nat→World→Prop}
theorem Fl.tp [Bg] {fr:List Nat}(h:Fl w bd g d ft fr)(τ:Tap)(dd:Nat):Fl (zr.tp w τ dd) bd g d ft fr:=⟨h.list,h.bdf,h.gm,h.lt,h.ap,h.fz,h.nz⟩
theorem pe_tp [Bg] {i:Nat}(h:PE g d now i w)(τ:Tap)(dd:Nat):PE g d now i (zr.tp w τ dd):=by
 obtain ⟨kept,k,hw⟩:=h;exact ⟨kept,k,WD.tp hw τ dd⟩
theorem ph_tp [Bg] {i:Nat}(h:PH g d now x q i w)(τ:Tap)(dd:Nat):PH g d now x q i (zr.tp w τ dd):=by
 obtain ⟨kept,k,k',cp,ch,hw,hb,ho,hl,hx⟩:=h;exact ⟨kept,k,k',cp,ch,WD.tp hw τ dd,hb,ho,hl,hx⟩
theorem St.tpE [Bg] (h:St w bd g d (ga g d now) (PE g d now))(τ:Tap)(dd:Nat):St (zr.tp w τ dd) bd g d (ga g d now) (PE g d now):=⟨Fl.tp h.fl τ dd,fun i hi=>pe_tp (h.dr i hi) τ dd⟩
theorem St.tpH [Bg] (h:St w bd g d (ftH g d now x q) (PH g d now x q))(τ:Tap)(dd:Nat):St (zr.tp w τ dd) bd g d (ftH g d now x q) (PH g d now x q):=⟨Fl.tp h.fl τ dd,fun i hi=>ph_tp (h.dr i hi) τ dd⟩
theorem St.onE [Bg] (h:St w bd g d (ga g d now) (PE g d now))(hk:ah [] w u):St u bd g d (ga g d now) (PE g d now):=h.on hk fun i hi hp hb=>tu i hi hp hb
theorem St.onH [Bg] (h:St w bd g d (ftH g d now x q) (PH g d now x q))(hk:ah [] w u):St u bd g d (ftH g d now x q) (PH g d now x q):=h.on hk fun i hi hp hb=>zg i hi hp hb
theorem zd [Bg] {b:Nat}{c v:Array Value}{e:TypeId}(h:w.heap[b]? =some (.cells c e (0,0)))(hs:c.size=19)(hv:v.size=19)(h1:v.all (·.oneCell')=true):∃w2,(∀d,(Instr.storeAt 112 (pO b) (.agg v)).run GP (w.at d)= .ok () (w2.at d))∧w2.heap[b]? =some (.cells v e (0,0))∧ah [b] w w2∧w2.heap.size=w.heap.size:=z9 (i112 hv) h1 ai h
theorem fld60 [Bg] {a b c e:Int}{v:Value}(w:World):(Instr.field 60 (.agg #[.int .i64 a,.int .i64 b,.int .i64 c,.int .i64 e,v]) 0).run GP w= .ok (.int .i64 a) w:=by kernel_rfl
theorem amw [Bg] (HS:St w bd g d (ga g d now) (PE g d now))(hs:w.heap[s]? =some (.cells (df (sO bd 3 cap) 2 1 16 1 0) 41 (0,0)))(hn:∀i,i<3→s∉ga g d now i):
  UCx GP Tryz.prog.funcs 32 #[pO s,.chan none,.agg (dx 0 0 0 0)] w fun e w2=>(∃v,e= .returned v)∧e= .returned (.int .i64 0)∧St w2 bd g d (ga g d now) (PE g d now)∧ah (ft3 (ga g d now)) w w2:=by
 refine uu 32 (n:=46) (fun e w2 τ dd ⟨h1,h2,h3,h4⟩=>⟨h1,h2,h3.tpE τ dd,h4.tp τ dd⟩) (fun e w2 h=>h.2.2.2.size) Tryz.func32 rfl a9 rfl rfl fun E a hf hsz hv=> ?_
 obtain ⟨v0,v1,v2,-⟩:=za3 hv;clear hv;simp only [dx] at v2;have hsl:=bf hs;refine ic ?_;refine cu.ib (fun u=>u.heap[w.heap.size]? =some (.cells (dx 0 0 0 0) 95 (0,0))∧ah [] w u) ⟨bu,ei⟩ fun u ⟨hb,K⟩=> ?_
 have HS0:=HS;have hs:=K.on hs ae;have HS:=HS.onE K;have hnb:∀i,i<3→w.heap.size∉ga g d now i:=fun i hi hm=>by
  have:=HS.fl.lt i hi _ hm;have:=ve i hi _ (HS0.dr i hi) _ hm;omega
 refine ku [0,1,5,6,14] fun a1 hsz hK=> ?_;obtain ⟨v0,v1,v5,v6,v14,-⟩:=hK
 have c0:u.cell? ⟨s,0,none⟩=some (sO bd 3 cap):=af hs (by simp [df]);refine ic ?_
 (refine cu.fn 38 _ rfl rfl rfl du bz bj zag (im 38 a9 _) (alq (cap:=cap) HS hb hnb) fun v w2 hr=> ?_;refine ay ?_)
 unfold aa4 at hr;rename World=>y
 obtain ⟨-,o,cells,c,hv,ho,lo,hR,HS,K1⟩:=hr;obtain rfl:=bh hv;have lo:w.heap.size≤o:=by have:=K.size;omega
 have hs:=K1.on hs (fun h=>by
  obtain ⟨i,hi,hm⟩:=xp h;exact hn i hi hm)
 have K:=(K.more (T:=ft3 (ga g d now)) ae).trans K1 fun b hb=> .inl hb
 clear K1 hv;refine ic ?_;refine ku [0,6,7,25,26,27] fun a1 hsz hK=> ?_;obtain ⟨v0,v6,v7,v25,v26,v27,-⟩:=hK
 apply cu.loop;refine ic ?_
 (refine cu.ldv rfl rfl rfl bj aj (fun d=>(ldA0 ho rfl (hR 0 ai).1)) ?_;refine ay ?_)
 refine ic ?_;obtain ⟨y1,r5,h5,K5,-⟩:=zd (w:=World.alloc y (.cells (fc 0 0) 112)) (v:=fc 1 0) bu rfl rfl (by simp [fc,Value.oneCell'])
 (refine cu.oa rfl rfl rfl bj aj et r5 ?_;refine ay ?_)
 have K5:ah [] y y1:=(ah.alloc (ah.refl [] _)).trans K5 ae;have ho:=K5.on ho ae;have hs:=K5.on hs ae;have HS:=HS.onE K5;have K:=K.trans K5 ae;have c18:y1.cell? ⟨y.heap.size,18,none⟩=some (.int .i64 0):=af h5 (by simp [fc]);clear K5 r5;refine ic ?_;refine ku [0,6,7,25,26,27] fun a1 hsz hK=> ?_;obtain ⟨v0,v6,v7,v25,v26,v27,-⟩:=hK
 clear c18 h5;apply cu.inLoop;refine ic ?_
 (refine cu.ldv rfl rfl rfl bj aj (fun d=>(ldA1 ho rfl (hR 1 ai).1)) ?_;refine ay ?_)
 refine ic ?_;obtain ⟨y2,r5,h5,K5,-⟩:=zd (w:=World.alloc y1 (.cells (fc 0 0) 112)) (v:=fc 1 0) bu rfl rfl (by simp [fc,Value.oneCell'])
 (refine cu.oa rfl rfl rfl bj aj et r5 ?_;refine ay ?_)
 have K5:ah [] y1 y2:=(ah.alloc (ah.refl [] _)).trans K5 ae;have ho:=K5.on ho ae;have hs:=K5.on hs ae;have HS:=HS.onE K5;have K:=K.trans K5 ae;have c18:y2.cell? ⟨y1.heap.size,18,none⟩=some (.int .i64 0):=af h5 (by simp [fc]);clear K5 r5;refine ic ?_;refine ku [0,6,7,25,26,27] fun a1 hsz hK=> ?_;obtain ⟨v0,v6,v7,v25,v26,v27,-⟩:=hK
 clear c18 h5;apply cu.inLoop;refine ic ?_
 (refine cu.ldv rfl rfl rfl bj aj (fun d=>(ldA2 ho rfl (hR 2 ai).1)) ?_;refine ay ?_)
 refine ic ?_;obtain ⟨y3,r5,h5,K5,-⟩:=zd (w:=World.alloc y2 (.cells (fc 0 0) 112)) (v:=fc 1 0) bu rfl rfl (by simp [fc,Value.oneCell'])
 (refine cu.oa rfl rfl rfl bj aj et r5 ?_;refine ay ?_)
 have K5:ah [] y2 y3:=(ah.alloc (ah.refl [] _)).trans K5 ae;have ho:=K5.on ho ae;have hs:=K5.on hs ae;have HS:=HS.onE K5;have K:=K.trans K5 ae;have c18:y3.cell? ⟨y2.heap.size,18,none⟩=some (.int .i64 0):=af h5 (by simp [fc]);clear K5 r5;refine ic ?_;refine ku [0,6,7,25,26,27] fun a1 hsz hK=> ?_;obtain ⟨v0,v6,v7,v25,v26,v27,-⟩:=hK
 clear c18 h5;apply cu.inLoop;refine ic ?_
 (refine cu.ldv rfl rfl rfl bj aj (fun d=>(oq hs)) ?_;refine ay ?_)
 refine ic ?_;have hS:gz fun e (w2:World)=>(∃v,e= .returned v)∧e= .returned (.agg #[.int .i64 2,.int .i64 0,.int .i64 0,.int .i64 0,.slice none 0 0])∧ah [] y3 w2:=fun e w2 τ dd ⟨h1,h2,h3⟩=>⟨h1,h2,h3.tp τ dd⟩
 (refine cu.fn 41 _ rfl rfl rfl du bz bj zag (im 41 a9 _) (mw a9 hS (fun e w2 h=>h.2.2.size) (fun τ dd=>(ahj (w:=tp y3 τ dd) ho (hR 0 ai).1 (hR 1 ai).1 (hR 2 ai).1).mono fun e w2 ⟨h1,h2⟩=>⟨⟨_,h1⟩,h1,h2.un⟩) fun e w2 h=>h.1) fun v w2 hr=> ?_;refine ay ?_)
 rename World=>z
 obtain ⟨-,hv,K1⟩:=hr;obtain rfl:=bh hv;have HS:=HS.onE K1;have K:=K.trans K1 ae
 (apply cu.val rfl;(case ho=>rfl);(case hw=>exact bj);(case hr=>intro d;refine zpr ?_;first|(rw [Sem.run_bind,(fld60 _)];rfl)|exact (fld60 _));refine ay ?_)
 refine ic ?_;exact cu.dq rfl hf rfl bz aj ⟨⟨_,rfl⟩,rfl,HS,K⟩
end
end Go.Proofs.YthgpdljlehklhaaGreat.rn
namespace Go.Proofs.YthgpdljlehklhaaGreat.wk
open Go Go.Conc zr dr wd drv
set_option linter.unusedVariables false
set_option maxHeartbeats 4000000
def ae2 (w:World):Ending→World→Prop:=fun e w2=>(∃v,e= .returned v)∧∃bb,e= .returned (.tuple #[sO bb 3 3,.int .i64 0])∧adr w2 bb 0∧adr w2 bb 1∧adr w2 bb 2∧bb<w2.heap.size∧ah [] w w2
noncomputable def sp29:Code:=sR (sR (sR (sR (sR (sR (sR (sR (sR (sR (sR (Tryz.f33.body.getD .skip)))))))))))
structure Chk (u:World)(L cb:Nat):Prop where
 ex:∃(pb c2:Nat)(ch:List Int),u.cell? ⟨cb,0,none⟩=some (sO pb 3 c2)∧pb<u.heap.size∧L≤pb∧ch.length=3∧(∀i x,ch[i]? =some x→u.cell? ⟨pb,0+i,none⟩=some (.int .u8 x))∧∀x∈ch,0≤x∧x<256
 lt:cb<u.heap.size
 ge:L≤cb
section
variable {w u x8 x9 u2:World}{cb ob t0 t1 t2 g9 bb L:Nat}{a1:Act}{S:List Nat}
theorem Chk.on (h:Chk u L cb)(hk:ah S u u2)(hS:∀b∈S,b<L):Chk u2 L cb:=by
 obtain ⟨pb,c2,ch,h1,h2,h3,h4,h5,h6⟩:=h.ex;have n1:cb∉S:=fun hb=>by have:=hS _ hb;have:=h.ge;omega
 have n2:pb∉S:=fun hb=>by have:=hS _ hb;omega
 exact ⟨⟨pb,c2,ch,(hk.cell h.lt n1).trans h1,Nat.lt_of_lt_of_le h2 hk.size,h3,h4,fun i x hx=>(hk.cell h2 n2).trans (h5 i x hx),h6⟩,Nat.lt_of_lt_of_le h.lt hk.size,h.ge⟩
theorem Chk.blk {X:Nat→Array Value}{i cc:Nat}(h:Chk u L cb)(hs:Shs u bb X)(hi:i<3)(hX:X i=iv i (sO cb 1 cc)):∃(cb pb po cc c2:Nat)(ch:List Int),u.rangeAt bb (i*17) (iv i (sO cb 1 cc)).toList∧u.cell? ⟨cb,0,none⟩=some (.slice (some ⟨pb,po,none⟩) 3 c2)∧cb<u.heap.size∧pb<u.heap.size∧ch.length=3∧(∀i x,ch[i]? =some x→u.cell? ⟨pb,po+i,none⟩=some (.int .u8 x))∧∀x∈ch,0≤x∧x<256:=by
 obtain ⟨pb,c2,ch,h1,h2,h3,h4,h5,h6⟩:=h.ex;have hr:=hs.range hi;rw [hX] at hr;exact ⟨cb,pb,0,cc,c2,ch,hr,h1,h.lt,h2,h4,h5,h6⟩
theorem sl49y {g o m c l:Nat}{lI:Int}{w:World}(el:lI=l)(h1:l≤m):∃q n k,(Instr.sliceAt 49 (.slice (some ⟨g,o,none⟩) m c) (some (.int .i64 lI)) none none).run GP w= .ok (.slice q n k) w:=by
 subst el;rw [run_sliceAt_slice _ _ _ _ _ _ y8,run_slice_l _ _ _ _ _ y8 _ _ ai ai,sz49];exact ⟨_,_,_,rfl⟩
theorem akw (hf:GP.funcs[33]? =some Tryz.f33)(K:ah [] w x9)(P:Prd x8 x9 ob t0 t1 t2)(S:Shs x9 bb (hdX 3))(hbw:w.heap.size≤bb)(hb8:bb<x8.heap.size)(hw8:w.heap.size≤x8.heap.size)(h9:x9.heap[g9]? =some (.cells #[.int .i64 3] 3 (0,0)))(h98:g9<x8.heap.size)(hg9:g9≠bb)
  (hsz:a1.tmps.size=164∧a1.defers=[])(v4:a1.eval (.tmp 4)= .slice none 0 0)(v5:a1.eval (.tmp 5)= .int .i64 0)(v9:a1.eval (.tmp 9)=sO g9 1 1)(v11:a1.eval (.tmp 11)=sO bb 3 3)(v18:a1.eval (.tmp 18)=sO ob 3 3):
  ad GP (ae2 w) (bF 33) a1 [.code sp29] x9:=by
 unfold ae2;unfold sp29;simp only [Tryz.f33,Option.getD_some,sR];obtain ⟨L,hL⟩:∃L,x9.heap.size=L:=⟨_,rfl⟩;have hLL:L≤x9.heap.size:=by omega
 have sl:=S.lt;have gl:=bf h9;have oL:=bf P.ho;have ho:=P.ho;obtain ⟨e0,e1,e2,e3⟩:=P.le;obtain ⟨n01,n02,n12,no0,no1,no2⟩:=P.ne;have B0:=P.b0;have B1:=P.b1;have B2:=P.b2;have TL0:t0<L:=by
  obtain ⟨_,_,_,_,_,_,hh⟩:=B0;exact hL▸bf hh
 have TL1:t1<L:=by
  obtain ⟨_,_,_,_,_,_,hh⟩:=B1;exact hL▸bf hh
 have TL2:t2<L:=by
  obtain ⟨_,_,_,_,_,_,hh⟩:=B2;exact hL▸bf hh
 rw [hL] at sl gl oL;clear hL P;refine au ?_;refine kl [4,5,9,11,18,123,124,125] fun a1 hsz hK=> ?_;obtain ⟨v4,v5,v9,v11,v18,v123,v124,v125,-⟩:=hK
 apply ad.loop;have c9:x9.cell? ⟨g9,0,none⟩=some (.int .i64 3):=af h9 ae;refine au ?_;refine kl [4,5,9,11,18,20,123,124,125,128,129,130] fun a1 hsz hK=> ?_;obtain ⟨v4,v5,v9,v11,v18,v20,v123,v124,v125,v128,v129,v130,-⟩:=hK
 apply ad.loop;refine au ?_;refine kl [4,5,9,11,18,20,22,123,124,125,128,129,130] fun a1 hsz hK=> ?_;obtain ⟨v4,v5,v9,v11,v18,v20,v22,v123,v124,v125,v128,v129,v130,-⟩:=hK
 obtain ⟨pa,pb,pc,ra,rb,rc,hT⟩:=B0;have s16:x9.cell? ⟨bb,16,none⟩=some (.slice none 0 0):=(S.cell (p:=0) (k:=16) ai ai).trans rfl;have o0:x9.cell? ⟨ob,0,none⟩=some (sO t0 3 3):=af ho ae;apply ad.kj 16 (fun _ q=>q.cell? ⟨bb,16,none⟩=some (.slice none 0 0)∧q.cell? ⟨ob,0,none⟩=some (sO t0 3 3)) eo;intro dd;have hS0:(World.at x9 dd).cell? ⟨bb,16,none⟩=some (.slice none 0 0)∧(World.at x9 dd).cell? ⟨ob,0,none⟩=some (sO t0 3 3):=⟨s16,o0⟩;refine cg 0 ?_;refine cg 1 ?_;refine cg 2 ?_;refine cg 3 ?_;refine cg 4 ?_;refine cg 5 ?_;refine cg 6 ?_;refine cg 7 ?_;refine cg 8 ?_;refine cg 9 ?_;refine cg 10 ?_;refine cg 11 ?_;apply fa.take 12 rfl a9 a9 a9 a9
 case hw=>exact dt rfl
 case hv=>
  intro x hu;refine ay ?_;dsimp only [execOp,resolve];simp+decide only [eval_put,bn,eval_const,size_put,if_true,if_false,Option.map_some,Option.map_none, *];rw [Sem.run_bind,wm (hI:=3) (h:=3) (o:=0) (m:=3) (c:=3) (g:=t0) rfl ai ai];rfl
 case hS=>exact hS0
 refine ay ?_
 (apply fa.gw 13 (f:=49) a9 rfl;(case hw=>exact bj);(case hc=>exact (rf (w:=World.at x9 dd) (p:=⟨t0,0,none⟩) (m:=3) (c:=3) (news:=fi [pa,pb,pc]) rfl (fun j v hj=>by
  rw [Addr.add_lit];simp only [World.cell?,World.at,hT,Nat.zero_add];rcases j with _|_|_|j
  ·exact hj
  ·exact hj
  ·exact hj
  ·simp [fi] at hj) (bf hT) (by simp [fi,Value.oneCell']) ai ai));(case hv=>rw [cw (f:=49) rfl];refine zam ?_;exact ey 49 a9 _ _);(case hret=>exact fun e w2 h=>h.1))
 intro v w2 ⟨_,q2,cap2,hv,O2,l2,K2⟩;obtain rfl:=bh hv;have K2:ah [] x9 w2:=⟨K2.size,K2.ff,K2.os,K2.out⟩;have l2:x9.heap.size≤q2:=l2;have hS1:=And.intro ((K2.cell S.lt ae).trans s16) ((K2.cell (bf ho) ae).trans o0);refine ⟨fun _=>hS1,?_⟩;refine ay ?_;have KA:ah [] w2 (w2.alloc (.cells #[sO q2 3 cap2] 49)):=ei;have S2:=S.on K2 ae;have ho2:=K2.on ho ae;refine zmo 14 ?_ (hS:=by exact (fun _=>⟨(KA.cell S2.lt ae).trans hS1.1,(KA.cell (bf ho2) ae).trans hS1.2⟩));refine ay ?_;have q2l:=lj O2 q2 (by simp [blk,Value.ownBlock]);obtain ⟨v',w3,r1,O3,K3,e3⟩:=aez (w:=w2.alloc (.cells #[sO q2 3 cap2] 49)) (v:= .slice none 0 0) (n:=0) (m:=1) (c:=1) (xs:=[]) (news:=[sO q2 3 cap2]) (a:=⟨w2.heap.size,0,none⟩) (World.ownsRow_nil _ _ _ _) rfl (jc _ 49 rfl) (by simp [Value.oneCell']) ai;have K3:ah [] w2 w3:=KA.trans K3 (by simp [blk,Value.ownBlock]);have S3:=S2.on K3 ae;have ho3:=K3.on ho2 ae
 (refine fa.app 15 a9 rfl rfl bj aj aj r1 (fun _=>⟨(K3.cell S2.lt ae).trans hS1.1,(K3.cell (bf ho2) ae).trans hS1.2⟩) ?_;refine ay ?_)
 obtain ⟨cq0,cc0,rfl,ql,qc⟩:=acr O3;have qge:w2.heap.size≤cq0:=by
  rcases e3 with e3|e3
  ·simp [blk,Value.ownBlock] at e3
  ·simp [blk,Value.ownBlock] at e3;omega
 clear e3;have C0:Chk w3 L cq0:=by
  have:=K2.size;refine ⟨⟨q2,cap2,[pa,pb,pc],qc,Nat.lt_of_lt_of_le q2l K3.size,by omega,rfl,fun i x hx=> ?_,?_⟩,ql,by omega⟩
  ·have:=O2.cells (g:=q2) rfl i (.int .u8 x) (by simp only [fi,List.getElem?_map,hx,Option.map_some]);rw [Addr.add_lit] at this;exact (K3.cell q2l ae).trans this
  ·intro x hx;simp at hx;rcases hx with rfl|rfl|rfl <;> assumption
 have KK:ah [] x9 w3:=K2.trans K3 ae;have B1:=B1.on KK ae;have B2:=B2.on KK ae;have h9:=KK.on h9 ae;have K:=K.trans KK ae;have hLL:=Nat.le_trans hLL KK.size;have s16:w3.cell? ⟨bb,16,none⟩=some (.slice none 0 0):=(KK.cell S.lt ae).trans s16;have f16:=S3.fz 16;refine zmo 16 ?_ (hS:=by exact (fun h=>by omega));refine ay ?_;refine zmo 17 ?_ (hS:=by exact (fun h=>by omega));refine ay ?_;refine zms 18 ?_ (hS:=by exact (fun h=>by omega));apply fa.fin a9;have S:=S3.set (p:=0) (k:=16) (v:=sO cq0 1 cc0) ai ai;have S:Shs (w3.setCell ⟨bb,16,none⟩ (sO cq0 1 cc0)) bb _:=S;have K5:=ah.set (i:=16) (v:=sO cq0 1 cc0) (b:=bb) (ah.refl [bb] w3) (.inl ae);have ho:=K5.on ho3 (by simp;omega);have h9:=K5.on h9 (by simpa using hg9);have C0:=C0.on K5 (by simpa using sl);have B1:=B1.on K5 (by simp;omega);have B2:=B2.on K5 (by simp;omega);have K:=K.trans K5 (fun b hb=>by simp at hb;exact .inr ai);have hLL:=Nat.le_trans hLL K5.size;clear s16 o0 hS0 hS1 f16 r1 K5 KK K3 K2 KA S2 S3 ho2 ho3 O2 O3 hT qc;refine kl [4,5,9,11,18,20,22,123,124,125,128,129,130] fun a1 hsz hK=> ?_;obtain ⟨v4,v5,v9,v11,v18,v20,v22,v123,v124,v125,v128,v129,v130,-⟩:=hK
 generalize w3.setCell ⟨bb,16,none⟩ (sO cq0 1 cc0)=x0' at*;have o0:(x0').cell? ⟨ob,0,none⟩=some (sO t0 3 3):=af ho ae;have fo:(x0').frozen? ⟨ob,0,none⟩=false:=ed ho;obtain ⟨q0,n0,k0,rz⟩:=sl49y (g:=t0) (o:=0) (m:=3) (c:=3) (l:=3) (lI:=3) (w:=x0') rfl ai;refine ba ?_;have ho:=ee (i:=0) (v:= .slice q0 n0 k0) ho;have K5:=ah.set (i:=0) (v:= .slice q0 n0 k0) (b:=ob) (ah.refl [ob] (x0')) (.inl ae);have S:=S.on K5 (by simp;omega);have h9:=K5.on h9 (by simp;omega);have C0:=C0.on K5 (by simpa using oL);have B1:=B1.on K5 (by simp;omega);have B2:=B2.on K5 (by simp;omega);have K:=K.trans K5 (fun b hb=>by simp at hb;exact .inr ai);have hLL:=Nat.le_trans hLL K5.size;clear o0 fo rz K5;refine kl [4,5,9,11,18,20,123,124,125,128,129,130] fun a1 hsz hK=> ?_;obtain ⟨v4,v5,v9,v11,v18,v20,v123,v124,v125,v128,v129,v130,-⟩:=hK
 generalize (x0').setCell ⟨ob,0,none⟩ (.slice q0 n0 k0)=y1 at*;apply ad.inLoop;refine au ?_;refine kl [4,5,9,11,18,123,124,125] fun a1 hsz hK=> ?_;obtain ⟨v4,v5,v9,v11,v18,v123,v124,v125,-⟩:=hK
 apply ad.inLoop;have c9:y1.cell? ⟨g9,0,none⟩=some (.int .i64 3):=af h9 ae;refine au ?_;refine kl [4,5,9,11,18,20,123,124,125,128,129,130] fun a1 hsz hK=> ?_;obtain ⟨v4,v5,v9,v11,v18,v20,v123,v124,v125,v128,v129,v130,-⟩:=hK
 apply ad.loop;refine au ?_;refine kl [4,5,9,11,18,20,22,123,124,125,128,129,130] fun a1 hsz hK=> ?_;obtain ⟨v4,v5,v9,v11,v18,v20,v22,v123,v124,v125,v128,v129,v130,-⟩:=hK
 obtain ⟨pa,pb,pc,ra,rb,rc,hT⟩:=B1;have s16:y1.cell? ⟨bb,33,none⟩=some (.slice none 0 0):=(S.cell (p:=1) (k:=16) ai ai).trans rfl;have o0:y1.cell? ⟨ob,1,none⟩=some (sO t1 3 3):=af ho ae;apply ad.kj 16 (fun _ q=>q.cell? ⟨bb,33,none⟩=some (.slice none 0 0)∧q.cell? ⟨ob,1,none⟩=some (sO t1 3 3)) eo;intro dd;have hS0:(World.at y1 dd).cell? ⟨bb,33,none⟩=some (.slice none 0 0)∧(World.at y1 dd).cell? ⟨ob,1,none⟩=some (sO t1 3 3):=⟨s16,o0⟩;refine cg 0 ?_;refine cg 1 ?_;refine cg 2 ?_;refine cg 3 ?_;refine cg 4 ?_;refine cg 5 ?_;refine cg 6 ?_;refine cg 7 ?_;refine cg 8 ?_;refine cg 9 ?_;refine cg 10 ?_;refine cg 11 ?_;apply fa.take 12 rfl a9 a9 a9 a9
 case hw=>exact dt rfl
 case hv=>
  intro x hu;refine ay ?_;dsimp only [execOp,resolve];simp+decide only [eval_put,bn,eval_const,size_put,if_true,if_false,Option.map_some,Option.map_none, *];rw [Sem.run_bind,wm (hI:=3) (h:=3) (o:=0) (m:=3) (c:=3) (g:=t1) rfl ai ai];rfl
 case hS=>exact hS0
 refine ay ?_
 (apply fa.gw 13 (f:=49) a9 rfl;(case hw=>exact bj);(case hc=>exact (rf (w:=World.at y1 dd) (p:=⟨t1,0,none⟩) (m:=3) (c:=3) (news:=fi [pa,pb,pc]) rfl (fun j v hj=>by
  rw [Addr.add_lit];simp only [World.cell?,World.at,hT,Nat.zero_add];rcases j with _|_|_|j
  ·exact hj
  ·exact hj
  ·exact hj
  ·simp [fi] at hj) (bf hT) (by simp [fi,Value.oneCell']) ai ai));(case hv=>rw [cw (f:=49) rfl];refine zam ?_;exact ey 49 a9 _ _);(case hret=>exact fun e w2 h=>h.1))
 intro v w2 ⟨_,q2,cap2,hv,O2,l2,K2⟩;obtain rfl:=bh hv;have K2:ah [] y1 w2:=⟨K2.size,K2.ff,K2.os,K2.out⟩;have l2:y1.heap.size≤q2:=l2;have hS1:=And.intro ((K2.cell S.lt ae).trans s16) ((K2.cell (bf ho) ae).trans o0);refine ⟨fun _=>hS1,?_⟩;refine ay ?_;have KA:ah [] w2 (w2.alloc (.cells #[sO q2 3 cap2] 49)):=ei;have S2:=S.on K2 ae;have ho2:=K2.on ho ae;refine zmo 14 ?_ (hS:=by exact (fun _=>⟨(KA.cell S2.lt ae).trans hS1.1,(KA.cell (bf ho2) ae).trans hS1.2⟩));refine ay ?_;have q2l:=lj O2 q2 (by simp [blk,Value.ownBlock]);obtain ⟨v',w3,r1,O3,K3,e3⟩:=aez (w:=w2.alloc (.cells #[sO q2 3 cap2] 49)) (v:= .slice none 0 0) (n:=0) (m:=1) (c:=1) (xs:=[]) (news:=[sO q2 3 cap2]) (a:=⟨w2.heap.size,0,none⟩) (World.ownsRow_nil _ _ _ _) rfl (jc _ 49 rfl) (by simp [Value.oneCell']) ai;have K3:ah [] w2 w3:=KA.trans K3 (by simp [blk,Value.ownBlock]);have S3:=S2.on K3 ae;have ho3:=K3.on ho2 ae
 (refine fa.app 15 a9 rfl rfl bj aj aj r1 (fun _=>⟨(K3.cell S2.lt ae).trans hS1.1,(K3.cell (bf ho2) ae).trans hS1.2⟩) ?_;refine ay ?_)
 obtain ⟨cq1,cc1,rfl,ql,qc⟩:=acr O3;have qge:w2.heap.size≤cq1:=by
  rcases e3 with e3|e3
  ·simp [blk,Value.ownBlock] at e3
  ·simp [blk,Value.ownBlock] at e3;omega
 clear e3;have C1:Chk w3 L cq1:=by
  have:=K2.size;refine ⟨⟨q2,cap2,[pa,pb,pc],qc,Nat.lt_of_lt_of_le q2l K3.size,by omega,rfl,fun i x hx=> ?_,?_⟩,ql,by omega⟩
  ·have:=O2.cells (g:=q2) rfl i (.int .u8 x) (by simp only [fi,List.getElem?_map,hx,Option.map_some]);rw [Addr.add_lit] at this;exact (K3.cell q2l ae).trans this
  ·intro x hx;simp at hx;rcases hx with rfl|rfl|rfl <;> assumption
 have KK:ah [] y1 w3:=K2.trans K3 ae;have C0:=C0.on KK ae;have B2:=B2.on KK ae;have h9:=KK.on h9 ae;have K:=K.trans KK ae;have hLL:=Nat.le_trans hLL KK.size;have s16:w3.cell? ⟨bb,33,none⟩=some (.slice none 0 0):=(KK.cell S.lt ae).trans s16;have f16:=S3.fz 33;refine zmo 16 ?_ (hS:=by exact (fun h=>by omega));refine ay ?_;refine zmo 17 ?_ (hS:=by exact (fun h=>by omega));refine ay ?_;refine zms 18 ?_ (hS:=by exact (fun h=>by omega));apply fa.fin a9;have S:=S3.set (p:=1) (k:=16) (v:=sO cq1 1 cc1) ai ai;have S:Shs (w3.setCell ⟨bb,33,none⟩ (sO cq1 1 cc1)) bb _:=S;have K5:=ah.set (i:=33) (v:=sO cq1 1 cc1) (b:=bb) (ah.refl [bb] w3) (.inl ae);have ho:=K5.on ho3 (by simp;omega);have h9:=K5.on h9 (by simpa using hg9);have C0:=C0.on K5 (by simpa using sl);have C1:=C1.on K5 (by simpa using sl);have B2:=B2.on K5 (by simp;omega);have K:=K.trans K5 (fun b hb=>by simp at hb;exact .inr ai);have hLL:=Nat.le_trans hLL K5.size;clear s16 o0 hS0 hS1 f16 r1 K5 KK K3 K2 KA S2 S3 ho2 ho3 O2 O3 hT qc;refine kl [4,5,9,11,18,20,22,123,124,125,128,129,130] fun a1 hsz hK=> ?_;obtain ⟨v4,v5,v9,v11,v18,v20,v22,v123,v124,v125,v128,v129,v130,-⟩:=hK
 generalize w3.setCell ⟨bb,33,none⟩ (sO cq1 1 cc1)=x1' at*;have o0:(x1').cell? ⟨ob,1,none⟩=some (sO t1 3 3):=af ho ae;have fo:(x1').frozen? ⟨ob,1,none⟩=false:=ed ho;obtain ⟨q1,n1,k1,rz⟩:=sl49y (g:=t1) (o:=0) (m:=3) (c:=3) (l:=3) (lI:=3) (w:=x1') rfl ai;refine ba ?_;have ho:=ee (i:=1) (v:= .slice q1 n1 k1) ho;have K5:=ah.set (i:=1) (v:= .slice q1 n1 k1) (b:=ob) (ah.refl [ob] (x1')) (.inl ae);have S:=S.on K5 (by simp;omega);have h9:=K5.on h9 (by simp;omega);have C0:=C0.on K5 (by simpa using oL);have C1:=C1.on K5 (by simpa using oL);have B2:=B2.on K5 (by simp;omega);have K:=K.trans K5 (fun b hb=>by simp at hb;exact .inr ai);have hLL:=Nat.le_trans hLL K5.size;clear o0 fo rz K5;refine kl [4,5,9,11,18,20,123,124,125,128,129,130] fun a1 hsz hK=> ?_;obtain ⟨v4,v5,v9,v11,v18,v20,v123,v124,v125,v128,v129,v130,-⟩:=hK
 generalize (x1').setCell ⟨ob,1,none⟩ (.slice q1 n1 k1)=y2 at*;apply ad.inLoop;refine au ?_;refine kl [4,5,9,11,18,123,124,125] fun a1 hsz hK=> ?_;obtain ⟨v4,v5,v9,v11,v18,v123,v124,v125,-⟩:=hK
 apply ad.inLoop;have c9:y2.cell? ⟨g9,0,none⟩=some (.int .i64 3):=af h9 ae;refine au ?_;refine kl [4,5,9,11,18,20,123,124,125,128,129,130] fun a1 hsz hK=> ?_;obtain ⟨v4,v5,v9,v11,v18,v20,v123,v124,v125,v128,v129,v130,-⟩:=hK
 apply ad.loop;refine au ?_;refine kl [4,5,9,11,18,20,22,123,124,125,128,129,130] fun a1 hsz hK=> ?_;obtain ⟨v4,v5,v9,v11,v18,v20,v22,v123,v124,v125,v128,v129,v130,-⟩:=hK
 obtain ⟨pa,pb,pc,ra,rb,rc,hT⟩:=B2;have s16:y2.cell? ⟨bb,50,none⟩=some (.slice none 0 0):=(S.cell (p:=2) (k:=16) ai ai).trans rfl;have o0:y2.cell? ⟨ob,2,none⟩=some (sO t2 3 3):=af ho ae;apply ad.kj 16 (fun _ q=>q.cell? ⟨bb,50,none⟩=some (.slice none 0 0)∧q.cell? ⟨ob,2,none⟩=some (sO t2 3 3)) eo;intro dd;have hS0:(World.at y2 dd).cell? ⟨bb,50,none⟩=some (.slice none 0 0)∧(World.at y2 dd).cell? ⟨ob,2,none⟩=some (sO t2 3 3):=⟨s16,o0⟩;refine cg 0 ?_;refine cg 1 ?_;refine cg 2 ?_;refine cg 3 ?_;refine cg 4 ?_;refine cg 5 ?_;refine cg 6 ?_;refine cg 7 ?_;refine cg 8 ?_;refine cg 9 ?_;refine cg 10 ?_;refine cg 11 ?_;apply fa.take 12 rfl a9 a9 a9 a9
 case hw=>exact dt rfl
 case hv=>
  intro x hu;refine ay ?_;dsimp only [execOp,resolve];simp+decide only [eval_put,bn,eval_const,size_put,if_true,if_false,Option.map_some,Option.map_none, *];rw [Sem.run_bind,wm (hI:=3) (h:=3) (o:=0) (m:=3) (c:=3) (g:=t2) rfl ai ai];rfl
 case hS=>exact hS0
 refine ay ?_
 (apply fa.gw 13 (f:=49) a9 rfl;(case hw=>exact bj);(case hc=>exact (rf (w:=World.at y2 dd) (p:=⟨t2,0,none⟩) (m:=3) (c:=3) (news:=fi [pa,pb,pc]) rfl (fun j v hj=>by
  rw [Addr.add_lit];simp only [World.cell?,World.at,hT,Nat.zero_add];rcases j with _|_|_|j
  ·exact hj
  ·exact hj
  ·exact hj
  ·simp [fi] at hj) (bf hT) (by simp [fi,Value.oneCell']) ai ai));(case hv=>rw [cw (f:=49) rfl];refine zam ?_;exact ey 49 a9 _ _);(case hret=>exact fun e w2 h=>h.1))
 intro v w2 ⟨_,q2,cap2,hv,O2,l2,K2⟩;obtain rfl:=bh hv;have K2:ah [] y2 w2:=⟨K2.size,K2.ff,K2.os,K2.out⟩;have l2:y2.heap.size≤q2:=l2;have hS1:=And.intro ((K2.cell S.lt ae).trans s16) ((K2.cell (bf ho) ae).trans o0);refine ⟨fun _=>hS1,?_⟩;refine ay ?_;have KA:ah [] w2 (w2.alloc (.cells #[sO q2 3 cap2] 49)):=ei;have S2:=S.on K2 ae;have ho2:=K2.on ho ae;refine zmo 14 ?_ (hS:=by exact (fun _=>⟨(KA.cell S2.lt ae).trans hS1.1,(KA.cell (bf ho2) ae).trans hS1.2⟩));refine ay ?_;have q2l:=lj O2 q2 (by simp [blk,Value.ownBlock]);obtain ⟨v',w3,r1,O3,K3,e3⟩:=aez (w:=w2.alloc (.cells #[sO q2 3 cap2] 49)) (v:= .slice none 0 0) (n:=0) (m:=1) (c:=1) (xs:=[]) (news:=[sO q2 3 cap2]) (a:=⟨w2.heap.size,0,none⟩) (World.ownsRow_nil _ _ _ _) rfl (jc _ 49 rfl) (by simp [Value.oneCell']) ai;have K3:ah [] w2 w3:=KA.trans K3 (by simp [blk,Value.ownBlock]);have S3:=S2.on K3 ae;have ho3:=K3.on ho2 ae
 (refine fa.app 15 a9 rfl rfl bj aj aj r1 (fun _=>⟨(K3.cell S2.lt ae).trans hS1.1,(K3.cell (bf ho2) ae).trans hS1.2⟩) ?_;refine ay ?_)
 obtain ⟨cq2,cc2,rfl,ql,qc⟩:=acr O3;have qge:w2.heap.size≤cq2:=by
  rcases e3 with e3|e3
  ·simp [blk,Value.ownBlock] at e3
  ·simp [blk,Value.ownBlock] at e3;omega
 clear e3;have C2:Chk w3 L cq2:=by
  have:=K2.size;refine ⟨⟨q2,cap2,[pa,pb,pc],qc,Nat.lt_of_lt_of_le q2l K3.size,by omega,rfl,fun i x hx=> ?_,?_⟩,ql,by omega⟩
  ·have:=O2.cells (g:=q2) rfl i (.int .u8 x) (by simp only [fi,List.getElem?_map,hx,Option.map_some]);rw [Addr.add_lit] at this;exact (K3.cell q2l ae).trans this
  ·intro x hx;simp at hx;rcases hx with rfl|rfl|rfl <;> assumption
 have KK:ah [] y2 w3:=K2.trans K3 ae;have C0:=C0.on KK ae;have C1:=C1.on KK ae;have h9:=KK.on h9 ae;have K:=K.trans KK ae;have hLL:=Nat.le_trans hLL KK.size;have s16:w3.cell? ⟨bb,50,none⟩=some (.slice none 0 0):=(KK.cell S.lt ae).trans s16;have f16:=S3.fz 50;refine zmo 16 ?_ (hS:=by exact (fun h=>by omega));refine ay ?_;refine zmo 17 ?_ (hS:=by exact (fun h=>by omega));refine ay ?_;refine zms 18 ?_ (hS:=by exact (fun h=>by omega));apply fa.fin a9;have S:=S3.set (p:=2) (k:=16) (v:=sO cq2 1 cc2) ai ai;have S:Shs (w3.setCell ⟨bb,50,none⟩ (sO cq2 1 cc2)) bb _:=S;have K5:=ah.set (i:=50) (v:=sO cq2 1 cc2) (b:=bb) (ah.refl [bb] w3) (.inl ae);have ho:=K5.on ho3 (by simp;omega);have h9:=K5.on h9 (by simpa using hg9);have C0:=C0.on K5 (by simpa using sl);have C1:=C1.on K5 (by simpa using sl);have C2:=C2.on K5 (by simpa using sl);have K:=K.trans K5 (fun b hb=>by simp at hb;exact .inr ai);have hLL:=Nat.le_trans hLL K5.size;clear s16 o0 hS0 hS1 f16 r1 K5 KK K3 K2 KA S2 S3 ho2 ho3 O2 O3 hT qc;refine kl [4,5,9,11,18,20,22,123,124,125,128,129,130] fun a1 hsz hK=> ?_;obtain ⟨v4,v5,v9,v11,v18,v20,v22,v123,v124,v125,v128,v129,v130,-⟩:=hK
 generalize w3.setCell ⟨bb,50,none⟩ (sO cq2 1 cc2)=x2' at*;have o0:(x2').cell? ⟨ob,2,none⟩=some (sO t2 3 3):=af ho ae;have fo:(x2').frozen? ⟨ob,2,none⟩=false:=ed ho;obtain ⟨q2,n2,k2,rz⟩:=sl49y (g:=t2) (o:=0) (m:=3) (c:=3) (l:=3) (lI:=3) (w:=x2') rfl ai;refine ba ?_;have ho:=ee (i:=2) (v:= .slice q2 n2 k2) ho;have K5:=ah.set (i:=2) (v:= .slice q2 n2 k2) (b:=ob) (ah.refl [ob] (x2')) (.inl ae);have S:=S.on K5 (by simp;omega);have h9:=K5.on h9 (by simp;omega);have C0:=C0.on K5 (by simpa using oL);have C1:=C1.on K5 (by simpa using oL);have C2:=C2.on K5 (by simpa using oL);have K:=K.trans K5 (fun b hb=>by simp at hb;exact .inr ai);have hLL:=Nat.le_trans hLL K5.size;clear o0 fo rz K5;refine kl [4,5,9,11,18,20,123,124,125,128,129,130] fun a1 hsz hK=> ?_;obtain ⟨v4,v5,v9,v11,v18,v20,v123,v124,v125,v128,v129,v130,-⟩:=hK
 generalize (x2').setCell ⟨ob,2,none⟩ (.slice q2 n2 k2)=y3 at*;apply ad.inLoop;refine au ?_;refine kl [4,5,9,11,18,123,124,125] fun a1 hsz hK=> ?_;obtain ⟨v4,v5,v9,v11,v18,v123,v124,v125,-⟩:=hK
 apply ad.inLoop;refine au ?_;exact ad.qs rfl hf rfl bz aj aj ⟨⟨_,rfl⟩,bb,rfl,C0.blk S ai rfl,C1.blk S ai rfl,C2.blk S ai rfl,S.lt,K⟩
end
end Go.Proofs.YthgpdljlehklhaaGreat.wk
