/- Part QBI of the proof that DropRefused answers true whatever its input. No condition. -/
import Derived.Test.YthgpdljlehklhaaGreatQBH
import Derived.Test.YthgpdljlehklhaaGreatQAW
import Derived.Test.YthgpdljlehklhaaGreatQAT
set_option maxRecDepth 100000
namespace Go.Proofs.YthgpdljlehklhaaGreat.rn
open Go Go.Conc zr dr wd drv wk la
set_option linter.unusedVariables false
set_option maxHeartbeats 4000000
section
variable {w w1 w2 u:World}{bd cap s b:Nat}{g d now x q:Nat→Nat}{ft:Nat→List Nat}{c v:Array Value}{z:Nat×Nat}{e:TypeId}{an:Nat→Value→Array Value}{Sx:World→Prop}{VP:Array Value→Prop}
theorem u60 [Bg]:GP.underlying 60=some (Tryz.prog.underlying 60).get! :=by kernel_rfl
theorem i60 [Bg] (h:c.size=5):(GP.info? 60).map (·.size)=some c.size:=by rw [ek,h];kernel_rfl
theorem ac2 [Bg] (h:w.heap[b]? =some (.cells c e z))(hs:c.size=5):(loadVar 60 ⟨b,0,none⟩).run GP w= .ok (.agg c) w:=ks u60 du (i60 hs) h
theorem aee [Bg] (h:w.heap[b]? =some (.cells c e (0,0)))(hs:c.size=5)(hv:v.size=5)(h1:v.all (·.oneCell')=true):∃w2,(∀d,(Instr.storeAt 60 (pO b) (.agg v)).run GP (w.at d)= .ok () (w2.at d))∧w2.heap[b]? =some (.cells v e (0,0))∧ah [b] w w2∧w2.heap.size=w.heap.size:=z9 (i60 hv) h1 ai h
def z60:Array Value:=#[.int .i64 0,.int .i64 0,.int .i64 0,.int .i64 0,.slice none 0 0]
def aew (w:World)(VP:Array Value→Prop)(Sx:World→Prop)(ft:Nat→List Nat):Ending→World→Prop:=fun e w2=>(∃v,e= .returned v)∧(∃V o,e= .returned (.tuple #[.agg V,sO o 3 3,.int .i64 0])∧VP V∧V.size=5∧V.all (·.oneCell')=true)∧Sx w2∧ah (ft3 ft) w w2
theorem aj8 [Bg] (hbS:∀w τ d,Sx w→Sx (tp w τ d))(hs:w.heap[s]? =some (.cells (df (sO bd 3 cap) 2 1 16 1 1) 41 (0,0)))(hsf:s∉ft3 ft)(hft:∀b∈ft3 ft,b<w.heap.size)
  (hE:∀u cset ck,ah [] w u→u.heap[s]? =some (.cells (df (sO bd 3 cap) 2 1 16 1 1) 41 (0,0))→u.heap[cset]? =some (.cells #[pO s] 28 (0,0))→u.heap[ck]? =some (.cells #[.string kA] 9 (0,0))→w.heap.size≤cset→w.heap.size≤ck→UCx GP Tryz.prog.funcs 38 #[sO bd 3 cap,.chan none,.func (.func 39) #[] #[pO cset,pO ck],.agg (fc 4 0)] u (aa4 u an Sx ft))
  (hJ:∀u o cells (c:Nat→Value),u.heap[o]? =some (.cells cells 112 (0,0))→(∀i,i<3→Row 19 cells i (an i (c i))∧(c i).oneCell'=true)→Calls GP 41 #[.agg shp,sO o 3 3] u fun e w2=>(∃v,e= .returned v)∧(∃V,e= .returned (.agg V)∧VP V∧V.size=5∧V.all (·.oneCell')=true)∧ah [] u w2)
  (han:∀i c,(an i c).size=19∧(c.oneCell'=true→(an i c).all (·.oneCell')=true)∧(an i c)[18]? =some (.int .i64 0))(hSx:∀u u2 S,Sx u→(∀b∈S,w.heap.size≤b)→ah S u u2→Sx u2):
  UCx GP Tryz.prog.funcs 13 #[pO s,.chan none,.string kA] w (aew w VP Sx ft):=by
 refine uu 13 (n:=54) (fun e w2 τ dd ⟨h1,h2,h3,h4⟩=>⟨h1,h2,hbS _ _ _ h3,h4.tp τ dd⟩) (fun e w2 h=>h.2.2.2.size) Tryz.func13 rfl a9 rfl rfl fun E a hf hsz hv=> ?_
 obtain ⟨v0,v1,v2,-⟩:=za3 hv;clear hv;have hsl:=bf hs;refine ic ?_;refine cu.ib (fun u=>u.heap[w.heap.size]? =some (.cells #[pO s] 28 (0,0))∧u.heap[w.heap.size+1]? =some (.cells #[.string kA] 9 (0,0))∧u.heap[w.heap.size+2]? =some (.cells z60 60 (0,0))∧ah [] w u) ⟨bw (bw bu),bw (fy ae),fy ae,ei⟩ fun u ⟨h3,h5,h6,K⟩=> ?_
 have hs:=K.on hs ae;have cc:=af (i:=0) h3 ae;have ck:=af (i:=0) h5 ae;simp only [List.getElem_toArray,List.getElem_cons_zero] at cc ck;refine ku [1,3,5,6,7,8,14,15] fun a1 hsz hK=> ?_;obtain ⟨v1,v3,v5,v6,v7,v8,v14,v15,-⟩:=hK
 refine ic ?_;have hS:gz fun e (w2:World)=>(∃v,e= .returned v)∧e= .returned (.int .i64 0)∧ah [] u w2:=fun e w2 τ dd ⟨h1,h2,h3⟩=>⟨h1,h2,h3.tp τ dd⟩
 (refine cu.fn 37 _ rfl rfl rfl du bz bj zag (im 37 a9 _) (mw a9 hS (fun e w2 h=>h.2.2.size) (fun τ dd=>(anz (w:=tp u τ dd) hs).mono fun e w2 ⟨h1,h2⟩=>⟨⟨_,h1⟩,h1,h2.un⟩) fun e w2 h=>h.1) fun v w2 hr=> ?_;refine ay ?_)
 rename World=>y
 obtain ⟨-,hv,K1⟩:=hr;obtain rfl:=bh hv;have hs:=K1.on hs ae;have h3:=K1.on h3 ae;have h5:=K1.on h5 ae;have h6:=K1.on h6 ae;have K:=K.trans K1 ae;clear cc ck hv K1;have cc:=af (i:=0) h3 ae;simp only [List.getElem_toArray,List.getElem_cons_zero] at cc;have c0:y.cell? ⟨s,0,none⟩=some (sO bd 3 cap):=af hs (by simp [df]);refine ic ?_
 (refine cu.fn 38 _ rfl rfl rfl du bz bj zag (im 38 a9 _) (hE y (w.heap.size) (w.heap.size+1) K hs h3 h5 (Nat.le_refl _) ai) fun v w2 hr=> ?_;refine ay ?_)
 unfold aa4 at hr;rename World=>y0
 obtain ⟨-,o,cells,c,hv,ho,lo,hR,HS,K1⟩:=hr;obtain rfl:=bh hv;have lo:w.heap.size≤o:=by have:=K.size;omega
 have hs:=K1.on hs hsf;have nb:∀b,w.heap.size≤b→b∉ft3 ft:=fun b hb hm=>by
  have:=hft b hm;omega
 have h3:=K1.on h3 (nb _ (Nat.le_refl _));have h6:=K1.on h6 (nb _ ai);have K:=(K.more (T:=ft3 ft) ae).trans K1 fun b hb=> .inl hb
 clear K1 hv h5 cc c0;refine ic ?_;refine ku [3,6,10,36,37,38] fun a1 hsz hK=> ?_;obtain ⟨v3,v6,v10,v36,v37,v38,-⟩:=hK
 apply cu.loop;refine ic ?_
 (refine cu.ldv rfl rfl rfl bj aj (fun d=>(ldA0 ho (han 0 _).1 (hR 0 ai).1)) ?_;refine ay ?_)
 refine ic ?_;obtain ⟨y1,r5,h9,K5,-⟩:=zd (w:=World.alloc y0 (.cells (fc 0 0) 112)) (v:=an 0 (c 0)) bu rfl (han 0 _).1 ((han 0 _).2.1 (hR 0 ai).2)
 (refine cu.oa rfl rfl rfl bj aj et r5 ?_;refine ay ?_)
 have K5:ah [] y0 y1:=(ah.alloc (ah.refl [] _)).trans K5 ae;have ho:=K5.on ho ae;have hs:=K5.on hs ae;have h3:=K5.on h3 ae;have h6:=K5.on h6 ae;have HS:=hSx _ _ _ HS ae K5;have K:=K.trans K5 ae;have c18:y1.cell? ⟨y0.heap.size,18,none⟩=some (.int .i64 0):=by
  simp only [World.cell?,h9];exact (han 0 _).2.2
 clear K5 r5;refine ic ?_;refine ku [3,6,10,36,37,38] fun a1 hsz hK=> ?_;obtain ⟨v3,v6,v10,v36,v37,v38,-⟩:=hK
 clear c18 h9;apply cu.inLoop;refine ic ?_
 (refine cu.ldv rfl rfl rfl bj aj (fun d=>(ldA1 ho (han 1 _).1 (hR 1 ai).1)) ?_;refine ay ?_)
 refine ic ?_;obtain ⟨y2,r5,h9,K5,-⟩:=zd (w:=World.alloc y1 (.cells (fc 0 0) 112)) (v:=an 1 (c 1)) bu rfl (han 1 _).1 ((han 1 _).2.1 (hR 1 ai).2)
 (refine cu.oa rfl rfl rfl bj aj et r5 ?_;refine ay ?_)
 have K5:ah [] y1 y2:=(ah.alloc (ah.refl [] _)).trans K5 ae;have ho:=K5.on ho ae;have hs:=K5.on hs ae;have h3:=K5.on h3 ae;have h6:=K5.on h6 ae;have HS:=hSx _ _ _ HS ae K5;have K:=K.trans K5 ae;have c18:y2.cell? ⟨y1.heap.size,18,none⟩=some (.int .i64 0):=by
  simp only [World.cell?,h9];exact (han 1 _).2.2
 clear K5 r5;refine ic ?_;refine ku [3,6,10,36,37,38] fun a1 hsz hK=> ?_;obtain ⟨v3,v6,v10,v36,v37,v38,-⟩:=hK
 clear c18 h9;apply cu.inLoop;refine ic ?_
 (refine cu.ldv rfl rfl rfl bj aj (fun d=>(ldA2 ho (han 2 _).1 (hR 2 ai).1)) ?_;refine ay ?_)
 refine ic ?_;obtain ⟨y3,r5,h9,K5,-⟩:=zd (w:=World.alloc y2 (.cells (fc 0 0) 112)) (v:=an 2 (c 2)) bu rfl (han 2 _).1 ((han 2 _).2.1 (hR 2 ai).2)
 (refine cu.oa rfl rfl rfl bj aj et r5 ?_;refine ay ?_)
 have K5:ah [] y2 y3:=(ah.alloc (ah.refl [] _)).trans K5 ae;have ho:=K5.on ho ae;have hs:=K5.on hs ae;have h3:=K5.on h3 ae;have h6:=K5.on h6 ae;have HS:=hSx _ _ _ HS ae K5;have K:=K.trans K5 ae;have c18:y3.cell? ⟨y2.heap.size,18,none⟩=some (.int .i64 0):=by
  simp only [World.cell?,h9];exact (han 2 _).2.2
 clear K5 r5;refine ic ?_;refine ku [3,6,10,36,37,38] fun a1 hsz hK=> ?_;obtain ⟨v3,v6,v10,v36,v37,v38,-⟩:=hK
 clear c18 h9;apply cu.inLoop;have cc:=af (i:=0) h3 ae;simp only [List.getElem_toArray,List.getElem_cons_zero] at cc;refine ic ?_
 (refine cu.ldv rfl rfl rfl bj aj (fun d=>(oq hs)) ?_;refine ay ?_)
 refine ic ?_;have hS:gz fun e (w2:World)=>(∃v,e= .returned v)∧(∃V,e= .returned (.agg V)∧VP V∧V.size=5∧V.all (·.oneCell')=true)∧ah [] y3 w2:=fun e w2 τ dd ⟨h1,h2,h3⟩=>⟨h1,h2,h3.tp τ dd⟩
 (refine cu.fn 41 _ rfl rfl rfl du bz bj zag (im 41 a9 _) (mw a9 hS (fun e w2 h=>h.2.2.size) (fun τ dd=>(hJ (tp y3 τ dd) o cells c ho hR).mono fun e w2 ⟨h1,h2,h3⟩=>⟨h1,h2,h3.un⟩) fun e w2 h=>h.1) fun v w2 hr=> ?_;refine ay ?_)
 rename World=>y4
 obtain ⟨-,⟨V,hv,hV,hV5,hV1⟩,K1⟩:=hr;obtain rfl:=bh hv;have h6:=K1.on h6 ae;have HS:=hSx _ _ _ HS ae K1;have K:=K.trans K1 ae;clear cc;refine ic ?_;obtain ⟨y5,r5,h9,K5,-⟩:=aee (v:=V) h6 rfl hV5 hV1
 (refine cu.oa rfl rfl rfl bj aj et r5 ?_;refine ay ?_)
 refine ic ?_
 (apply cu.zl rfl hf rfl (hl:=(ac2 h9 hV5));(case hd=>simp [hsz]);(case hs=>exact et);(case ht=>exact et);(case ht2=>exact et))
 exact ⟨⟨_,rfl⟩,⟨V,o,rfl,hV,hV5,hV1⟩,hSx _ _ _ HS ae K5,K.trans K5 (fun b hb=> .inr (by simp at hb;omega))⟩
end
section
variable {w w1 w2 u:World}{bd cap s b:Nat}{g d now x q:Nat→Nat}{ft:Nat→List Nat}{PD:Nat→World→Prop}
theorem St.onS [Bg] {S:List Nat}{N:Nat}(h:St w bd g d ft PD)(hft:∀i,i<3→∀b∈ft i,b<N)(hbd:bd<N)(hS:∀b∈S,N≤b)(hk:ah S w u)(hloc:∀i,i<3→PD i w→(∀b∈ft i,u.heap[b]? =w.heap[b]?)→PD i u):St u bd g d ft PD:=
 ⟨h.fl.grow hk (fun hm=>by have:=hS _ hm;omega),fun i hi=>hloc i hi (h.dr i hi) fun b hb=>hk.ff b (h.fl.lt i hi b hb) fun hm=>by have:=hS _ hm;have:=hft i hi b hb;omega⟩
theorem St.bdlt [Bg] (h:St w bd g d ft PD):bd<w.heap.size:=h.fl.yw ae
theorem St.ftlt [Bg] (h:St w bd g d ft PD):∀b∈ft3 ft,b<w.heap.size:=fun b hb=>by
 obtain ⟨i,hi,hm⟩:=xp hb;exact h.fl.lt i hi b hm
theorem rq [Bg] (h:∀i,i<3→b∉ft i):b∉ft3 ft:=fun hb=>by
 obtain ⟨i,hi,hm⟩:=xp hb;exact h i hi hm
theorem look_no [Bg] (HS:St w bd g d (ga g d now) (PE g d now))(hs:w.heap[s]? =some (.cells (df (sO bd 3 cap) 2 1 16 1 1) 41 (0,0)))(hn:∀i,i<3→s∉ga g d now i):
  UCx GP Tryz.prog.funcs 13 #[pO s,.chan none,.string kA] w (aew w (fun V=>V=#[.int .i64 2,.int .i64 0,.int .i64 0,.int .i64 0,.slice none 0 0]) (fun w2=>St w2 bd g d (ga g d now) (PE g d now)) (ga g d now)):=by
 have hlt:∀i,i<3→∀b∈ga g d now i,b<w.heap.size:=fun i hi=>HS.fl.lt i hi
 have hN:∀{b:Nat},w.heap.size≤b→∀i,i<3→b∉ga g d now i:=fun hb i hi hm=>by
  have:=hlt i hi _ hm;omega
 refine aj8 (an:=fun i c=>fc 1 0) (fun w τ dd h=>h.tpE τ dd) hs (rq hn) HS.ftlt (fun u cset ck hk hs hc hck l1 l2=>aic (cap:=cap) (HS.onE hk) hc hck hs fun i hi=>⟨hN l1 i hi,hN l2 i hi,hn i hi⟩) (fun u o cells c ho hR=> ?_) (fun i c=>⟨rfl,fun _=>by simp [fc,Value.oneCell'],rfl⟩) (fun u u2 S h hS hk=>h.onS hlt HS.bdlt hS hk fun i hi hp hb=>tu i hi hp hb);exact (ahj ho (hR 0 ai).1 (hR 1 ai).1 (hR 2 ai).1).mono fun e w2 ⟨h1,h2⟩=>⟨⟨_,h1⟩,⟨_,h1,rfl,rfl,by simp [Value.oneCell']⟩,h2⟩
theorem look_ok [Bg] (HS:St w bd g d (ftH g d now x q) (PH g d now x q))(hs:w.heap[s]? =some (.cells (df (sO bd 3 cap) 2 1 16 1 1) 41 (0,0)))(hn:∀i,i<3→s∉ftH g d now x q i):
  UCx GP Tryz.prog.funcs 13 #[pO s,.chan none,.string kA] w (aew w (fun V=>∃p cp,V=#[.int .i64 1,.int .i64 1,.int .i64 1,.int .i64 5,.slice (some p) 3 cp]) (fun w2=>St w2 bd g d (ftH g d now x q) (PH g d now x q)) (ftH g d now x q)):=by
 have hlt:∀i,i<3→∀b∈ftH g d now x q i,b<w.heap.size:=fun i hi=>HS.fl.lt i hi
 have hN:∀{b:Nat},w.heap.size≤b→∀i,i<3→b∉ftH g d now x q i:=fun hb i hi hm=>by
  have:=hlt i hi _ hm;omega
 refine aj8 (an:=fun i c=>snS i c) (fun w τ dd h=>h.tpH τ dd) hs (rq hn) HS.ftlt (fun u cset ck hk hs hc hck l1 l2=>ahe (cap:=cap) (HS.onH hk) hc hck hs fun i hi=>⟨hN l1 i hi,hN l2 i hi,hn i hi⟩) (fun u o cells c ho hR=> ?_) (fun i c=>⟨rfl,fun h=>(by cases c <;> first|(simp [snS,Value.oneCell'];done)|cases h),rfl⟩) (fun u u2 S h hS hk=>h.onS hlt HS.bdlt hS hk fun i hi hp hb=>zg i hi hp hb);exact (judge_ok ho (hR 0 ai).1 (hR 1 ai).1 (hR 2 ai).1 (hR 0 ai).2 (hR 1 ai).2 (hR 2 ai).2).mono fun e w2 ⟨_,p,cp,h1,h2⟩=>⟨⟨_,h1⟩,⟨_,h1,⟨p,cp,rfl⟩,rfl,by simp [Value.oneCell']⟩,h2⟩
theorem del_no [Bg] (HS:St w bd g d (ga g d now) (PE g d now))(hs:w.heap[s]? =some (.cells (df (sO bd 3 cap) 2 1 16 1 1) 41 (0,0)))(hn:∀i,i<3→s∉ga g d now i):
  UCx GP Tryz.prog.funcs 7 #[pO s,.chan none,.string kA] w fun e w2=>(∃v,e= .returned v)∧e= .returned (.int .i64 200)∧St w2 bd g d (ga g d now) (PE g d now)∧ah (ft3 (ga g d now)) w w2:=by
 refine uu 7 (n:=58) ?bl (fun e w2 h=>h.2.2.2.size) Tryz.func7 rfl a9 rfl rfl fun E a hf hsz hv=> ?_
 case bl=>exact fun e w2 τ dd ⟨h1,h2,h3,h4⟩=>⟨h1,h2,h3.tpE τ dd,h4.tp τ dd⟩
 obtain ⟨v0,v1,v2,-⟩:=za3 hv;clear hv;have hsl:=bf hs;refine ic ?_;refine cu.ib (fun u=>u.heap[w.heap.size]? =some (.cells #[.string kA] 9 (0,0))∧ah [] w u) ⟨bu,ei⟩ fun u ⟨h5,K⟩=> ?_
 have HS0:=HS;have hs:=K.on hs ae;have HS:=HS.onE K;have cc:=af (i:=0) h5 ae;simp only [List.getElem_toArray,List.getElem_cons_zero] at cc;refine ku [0,1,5,6,12,13,14] fun a1 hsz hK=> ?_;obtain ⟨v0,v1,v5,v6,v12,v13,v14,-⟩:=hK
 refine ic ?_
 (refine cu.fn 13 _ rfl rfl rfl du bz bj zag (im 13 a9 _) (look_no (cap:=cap) HS hs hn) fun v w2 hr=> ?_;refine ay ?_)
 unfold aew at hr;rename World=>y
 obtain ⟨-,⟨V,o,hv,hV,hV5,hV1⟩,HS,K1⟩:=hr;obtain rfl:=bh hv;subst hV;have hs:=K1.on hs (rq hn);have h5:=K1.on h5 (fun hm=>by have:=HS0.ftlt _ hm;omega);have K:=(K.more (T:=ft3 (ga g d now)) ae).trans K1 fun b hb=> .inl hb
 have ly:w.heap.size<y.heap.size:=bf h5;clear hv K1 cc;refine ic ?_;obtain ⟨y1,r5,h7,K5,-⟩:=aee (w:=World.alloc y (.cells z60 60)) (v:=#[.int .i64 2,.int .i64 0,.int .i64 0,.int .i64 0,.slice none 0 0]) bu rfl rfl (by simp [Value.oneCell'])
 (refine cu.oa rfl rfl rfl bj aj et r5 ?_;refine ay ?_)
 have K5:ah [] y y1:=(ah.alloc (ah.refl [] _)).trans K5 ae;have hs:=K5.on hs ae;have h5:=K5.on h5 ae;have HS:=HS.onE K5;have K:=K.trans K5 ae;have c7:y1.cell? ⟨y.heap.size,0,none⟩=some (.int .i64 2):=af h7 ae;clear K5 r5;refine ic ?_;exact cu.dq rfl hf rfl bz aj ⟨⟨_,rfl⟩,rfl,HS,K⟩
theorem del_ok [Bg] (HS:St w bd g d (ftH g d now x q) (PH g d now x q))(hs:w.heap[s]? =some (.cells (df (sO bd 3 cap) 2 1 16 1 1) 41 (0,0)))(hn:∀i,i<3→s∉ftH g d now x q i):
  UCx GP Tryz.prog.funcs 7 #[pO s,.chan none,.string kA] w fun e w2=>(∃v,e= .returned v)∧e= .returned (.int .i64 0)∧St w2 bd g d (ga g d now) (PE g d now)∧ah (ft3 (ftH g d now x q)) w w2:=by
 have hbl:gz fun e w2=>(∃v,e= .returned v)∧e= .returned (.int .i64 0)∧St w2 bd g d (ga g d now) (PE g d now)∧ah (ft3 (ftH g d now x q)) w w2:=fun e w2 τ dd ⟨h1,h2,h3,h4⟩=>⟨h1,h2,h3.tpE τ dd,h4.tp τ dd⟩
 refine uu 7 (n:=58) ?bl (fun e w2 h=>h.2.2.2.size) Tryz.func7 rfl a9 rfl rfl fun E a hf hsz hv=> ?_
 case bl=>exact hbl
 obtain ⟨v0,v1,v2,-⟩:=za3 hv;clear hv;have hsl:=bf hs;refine ic ?_;refine cu.ib (fun u=>u.heap[w.heap.size]? =some (.cells #[.string kA] 9 (0,0))∧ah [] w u) ⟨bu,ei⟩ fun u ⟨h5,K⟩=> ?_
 have HS0:=HS;have hs:=K.on hs ae;have HS:=HS.onH K;have cc:=af (i:=0) h5 ae;simp only [List.getElem_toArray,List.getElem_cons_zero] at cc;refine ku [0,1,5,6,12,13,14] fun a1 hsz hK=> ?_;obtain ⟨v0,v1,v5,v6,v12,v13,v14,-⟩:=hK
 refine ic ?_
 (refine cu.fn 13 _ rfl rfl rfl du bz bj zag (im 13 a9 _) (look_ok (cap:=cap) HS hs hn) fun v w2 hr=> ?_;refine ay ?_)
 unfold aew at hr;rename World=>y
 obtain ⟨-,⟨V,o,hv,hV,hV5,hV1⟩,HS,K1⟩:=hr;obtain rfl:=bh hv;obtain ⟨p,cp,rfl⟩:=hV;have hs:=K1.on hs (rq hn);have h5:=K1.on h5 (fun hm=>by have:=HS0.ftlt _ hm;omega);have K:=(K.more (T:=ft3 (ftH g d now x q)) ae).trans K1 fun b hb=> .inl hb
 have ly:w.heap.size<y.heap.size:=bf h5;clear hv K1 cc;refine ic ?_;obtain ⟨y1,r5,h7,K5,-⟩:=aee (w:=World.alloc y (.cells z60 60)) (v:=#[.int .i64 1,.int .i64 1,.int .i64 1,.int .i64 5,.slice (some p) 3 cp]) bu rfl rfl (by simp [Value.oneCell'])
 (refine cu.oa rfl rfl rfl bj aj et r5 ?_;refine ay ?_)
 have K5:ah [] y y1:=(ah.alloc (ah.refl [] _)).trans K5 ae;have hs:=K5.on hs ae;have h5:=K5.on h5 ae;have HS:=HS.onH K5;have K:=K.trans K5 ae;have c7:y1.cell? ⟨y.heap.size,0,none⟩=some (.int .i64 1):=af h7 ae;clear K5 r5;refine ic ?_;have c0:y1.cell? ⟨s,0,none⟩=some (sO bd 3 cap):=af hs (by simp [df]);refine ic ?_
 (refine cu.fn 14 _ rfl rfl rfl du bz bj zag (im 14 a9 _) (amr (cap:=cap) HS h5 fun i hi hm=>by
  have:=HS0.fl.lt i hi _ hm;omega) fun v w2 hr=> ?_;refine ay ?_)
 unfold afs at hr;rename World=>z5
 obtain ⟨-,o2,hv,ho,lo,HS,K5⟩:=hr;obtain rfl:=bh hv;have hs:=K5.on hs (rq hn);have K:=K.trans K5 fun b hb=> .inl hb
 have HP:(∃v,Ending.returned (.int .i64 0)= .returned v)∧Ending.returned (.int .i64 0)= .returned (.int .i64 0)∧St z5 bd g d (ga g d now) (PE g d now)∧ah (ft3 (ftH g d now x q)) w z5:=⟨⟨_,rfl⟩,rfl,HS,K⟩;clear K5 hv c0 K c7 h7;refine cu.of_lto rfl (fun e w2 h=>h.1) fun τ dd=> ?_
 refine ad.ib (fun u=>u.heap[o2]? =some (.cells #[.int .i64 0,.int .i64 0,.int .i64 0] 33 (0,0))∧u.heap[s]? =some (.cells (df (sO bd 3 cap) 2 1 16 1 1) 41 (0,0))∧(∃v,Ending.returned (.int .i64 0)= .returned v)∧Ending.returned (.int .i64 0)= .returned (.int .i64 0)∧St u bd g d (ga g d now) (PE g d now)∧ah (ft3 (ftH g d now x q)) w u) ⟨ho,hs,hbl _ _ τ dd HP⟩ fun u ⟨ho,hs,HP⟩=> ?_
 refine au ?_;refine bt 17 (af8 ho) fun v w2 hr=> ?_
 obtain ⟨hv,e⟩:=hr;obtain rfl:=bh hv;have e:=e.symm;subst e;refine au ?_;refine kl [0,6,10] fun a1 hsz hK=> ?_;obtain ⟨v0,v6,v10,-⟩:=hK
 have c1:u.cell? ⟨s,1,none⟩=some (.int .i64 2):=af hs (by simp [df]);apply ad.kj 9 (fun _ y=>y.heap[o2]? =some (.cells #[.int .i64 0,.int .i64 0,.int .i64 0] 33 (0,0))∧y.cell? ⟨s,1,none⟩=some (.int .i64 2)) eo;intro dd;have hS0:(World.at u dd).heap[o2]? =some (.cells #[.int .i64 0,.int .i64 0,.int .i64 0] 33 (0,0))∧(World.at u dd).cell? ⟨s,1,none⟩=some (.int .i64 2):=⟨ho,c1⟩;refine cg 0 ?_;refine cg 2 ?_;refine cg 3 ?_;refine cg 4 ?_;refine cg 5 ?_;refine cg 6 ?_
 (apply fa.gw 1 (f:=17) a9 rfl;(case hw=>exact bj);(case hc=>exact (aki hS0.1));(case hv=>rw [cw (f:=17) rfl];refine zam ?_;exact ey 17 a9 _ _);(case hret=>exact fun e w2 h=>⟨_,h.1⟩))
 intro v w2 ⟨hv,e⟩;obtain rfl:=bh hv;have e:=e.symm;subst e;refine ⟨fun _=>hS0,?_⟩;refine ay ?_;refine zmo 7 ?_ (hS:=by exact (fun _=>hS0));refine ay ?_;refine zmo 8 ?_ (hS:=by exact (fun _=>hS0));refine ay ?_;apply fa.fin a9;refine au ?_;exact ad.dq rfl hf rfl bz aj (hbl _ _ u.tape dd HP)
end
end Go.Proofs.YthgpdljlehklhaaGreat.rn
namespace Go.Proofs.YthgpdljlehklhaaGreat.wk
open Go Go.Conc zr dr wd drv
set_option linter.unusedVariables false
set_option maxHeartbeats 4000000
section
variable {w w1 w2:World}{s bd cap:Nat}
theorem rset_w0 (h:w.heap[s]? =some (.cells (df (sO bd 3 cap) 3 1 16 1 0) 41 (0,0))):Calls GP 52 #[pO s] w fun e w2=>e= .returned (.int .i64 2)∧ah [] w w2:=by
 refine dn 52 55 Tryz.func52 fun a hf hsz hv=> ?_
 obtain ⟨v0,-⟩:=ie hv;clear hv;refine ba ?_;refine iq (oq h) ?_;refine bt 81 (rshape_3 (w:=w)) fun v w2 hr=> ?_
 obtain ⟨hv,K1⟩:=hr;obtain rfl:=bh hv;have h:=K1.on h ae;have c0:w2.cell? ⟨s,0,none⟩=some (sO bd 3 cap):=af h (by simp [df]);have c1:w2.cell? ⟨s,1,none⟩=some (.int .i64 3):=af h (by simp [df]);have c2:w2.cell? ⟨s,2,none⟩=some (.int .i64 1):=af h (by simp [df]);have c12:w2.cell? ⟨s,12,none⟩=some (.int .i64 1):=af h (by simp [df]);have c13:w2.cell? ⟨s,13,none⟩=some (.int .i64 0):=af h (by simp [df]);refine kl [0,11] fun a1 hsz hK=> ?_;obtain ⟨v0,v11,-⟩:=hK
 refine ba ?_;refine zwq ?_;intro dd;refine ba ?_;exact ad.dq rfl hf rfl bz aj ⟨rfl,K1.at⟩
theorem rset_w1 (h:w.heap[s]? =some (.cells (df (sO bd 3 cap) 2 0 16 1 0) 41 (0,0))):Calls GP 52 #[pO s] w fun e w2=>e= .returned (.int .i64 2)∧ah [] w w2:=by
 refine dn 52 55 Tryz.func52 fun a hf hsz hv=> ?_
 obtain ⟨v0,-⟩:=ie hv;clear hv;refine ba ?_;refine iq (oq h) ?_;refine bt 81 (rshape_0 (w:=w)) fun v w2 hr=> ?_
 obtain ⟨hv,K1⟩:=hr;obtain rfl:=bh hv;have h:=K1.on h ae;have c0:w2.cell? ⟨s,0,none⟩=some (sO bd 3 cap):=af h (by simp [df]);have c1:w2.cell? ⟨s,1,none⟩=some (.int .i64 2):=af h (by simp [df]);have c2:w2.cell? ⟨s,2,none⟩=some (.int .i64 0):=af h (by simp [df]);have c12:w2.cell? ⟨s,12,none⟩=some (.int .i64 1):=af h (by simp [df]);have c13:w2.cell? ⟨s,13,none⟩=some (.int .i64 0):=af h (by simp [df]);refine kl [0,11] fun a1 hsz hK=> ?_;obtain ⟨v0,v11,-⟩:=hK
 refine ba ?_;exact ad.dq rfl hf rfl bz aj ⟨rfl,K1⟩
theorem rset_w2 (h:w.heap[s]? =some (.cells (df (sO bd 3 cap) 2 1 65537 1 0) 41 (0,0))):Calls GP 52 #[pO s] w fun e w2=>e= .returned (.int .i64 2)∧ah [] w w2:=by
 refine dn 52 55 Tryz.func52 fun a hf hsz hv=> ?_
 obtain ⟨v0,-⟩:=ie hv;clear hv;refine ba ?_;refine iq (oq h) ?_;refine bt 81 (rshape_b (w:=w)) fun v w2 hr=> ?_
 obtain ⟨hv,K1⟩:=hr;obtain rfl:=bh hv;have h:=K1.on h ae;have c0:w2.cell? ⟨s,0,none⟩=some (sO bd 3 cap):=af h (by simp [df]);have c1:w2.cell? ⟨s,1,none⟩=some (.int .i64 2):=af h (by simp [df]);have c2:w2.cell? ⟨s,2,none⟩=some (.int .i64 1):=af h (by simp [df]);have c12:w2.cell? ⟨s,12,none⟩=some (.int .i64 1):=af h (by simp [df]);have c13:w2.cell? ⟨s,13,none⟩=some (.int .i64 0):=af h (by simp [df]);refine kl [0,11] fun a1 hsz hK=> ?_;obtain ⟨v0,v11,-⟩:=hK
 refine ba ?_;exact ad.dq rfl hf rfl bz aj ⟨rfl,K1⟩
theorem rset_w3 (h:w.heap[s]? =some (.cells (df (sO bd 3 cap) 2 1 16 0 0) 41 (0,0))):Calls GP 52 #[pO s] w fun e w2=>e= .returned (.int .i64 2)∧ah [] w w2:=by
 refine dn 52 55 Tryz.func52 fun a hf hsz hv=> ?_
 obtain ⟨v0,-⟩:=ie hv;clear hv;refine ba ?_;refine iq (oq h) ?_;refine bt 81 (qw (w:=w)) fun v w2 hr=> ?_
 obtain ⟨hv,K1⟩:=hr;obtain rfl:=bh hv;have h:=K1.on h ae;have c0:w2.cell? ⟨s,0,none⟩=some (sO bd 3 cap):=af h (by simp [df]);have c1:w2.cell? ⟨s,1,none⟩=some (.int .i64 2):=af h (by simp [df]);have c2:w2.cell? ⟨s,2,none⟩=some (.int .i64 1):=af h (by simp [df]);have c12:w2.cell? ⟨s,12,none⟩=some (.int .i64 0):=af h (by simp [df]);have c13:w2.cell? ⟨s,13,none⟩=some (.int .i64 0):=af h (by simp [df]);refine kl [0,11] fun a1 hsz hK=> ?_;obtain ⟨v0,v11,-⟩:=hK
 refine ba ?_;refine zwq ?_;intro dd;refine ba ?_;exact ad.dq rfl hf rfl bz aj ⟨rfl,K1.at⟩
theorem rset_w4 (h:w.heap[s]? =some (.cells (df (sO bd 3 cap) 2 1 16 4294967296 0) 41 (0,0))):Calls GP 52 #[pO s] w fun e w2=>e= .returned (.int .i64 2)∧ah [] w w2:=by
 refine dn 52 55 Tryz.func52 fun a hf hsz hv=> ?_
 obtain ⟨v0,-⟩:=ie hv;clear hv;refine ba ?_;refine iq (oq h) ?_;refine bt 81 (qw (w:=w)) fun v w2 hr=> ?_
 obtain ⟨hv,K1⟩:=hr;obtain rfl:=bh hv;have h:=K1.on h ae;have c0:w2.cell? ⟨s,0,none⟩=some (sO bd 3 cap):=af h (by simp [df]);have c1:w2.cell? ⟨s,1,none⟩=some (.int .i64 2):=af h (by simp [df]);have c2:w2.cell? ⟨s,2,none⟩=some (.int .i64 1):=af h (by simp [df]);have c12:w2.cell? ⟨s,12,none⟩=some (.int .i64 4294967296):=af h (by simp [df]);have c13:w2.cell? ⟨s,13,none⟩=some (.int .i64 0):=af h (by simp [df]);refine kl [0,11] fun a1 hsz hK=> ?_;obtain ⟨v0,v11,-⟩:=hK
 refine ba ?_;refine zwq ?_;intro dd;refine ba ?_;exact ad.dq rfl hf rfl bz aj ⟨rfl,K1.at⟩
theorem rset_w5 (h:w.heap[s]? =some (.cells (df (sO bd 3 cap) 2 1 16 1 (-1)) 41 (0,0))):Calls GP 52 #[pO s] w fun e w2=>e= .returned (.int .i64 2)∧ah [] w w2:=by
 refine dn 52 55 Tryz.func52 fun a hf hsz hv=> ?_
 obtain ⟨v0,-⟩:=ie hv;clear hv;refine ba ?_;refine iq (oq h) ?_;refine bt 81 (qw (w:=w)) fun v w2 hr=> ?_
 obtain ⟨hv,K1⟩:=hr;obtain rfl:=bh hv;have h:=K1.on h ae;have c0:w2.cell? ⟨s,0,none⟩=some (sO bd 3 cap):=af h (by simp [df]);have c1:w2.cell? ⟨s,1,none⟩=some (.int .i64 2):=af h (by simp [df]);have c2:w2.cell? ⟨s,2,none⟩=some (.int .i64 1):=af h (by simp [df]);have c12:w2.cell? ⟨s,12,none⟩=some (.int .i64 1):=af h (by simp [df]);have c13:w2.cell? ⟨s,13,none⟩=some (.int .i64 (-1)):=af h (by simp [df]);refine kl [0,11] fun a1 hsz hK=> ?_;obtain ⟨v0,v11,-⟩:=hK
 refine ba ?_;refine zwq ?_;intro dd;refine ba ?_;exact ad.dq rfl hf rfl bz aj ⟨rfl,K1.at⟩
theorem rset_w6 (h:w.heap[s]? =some (.cells (df (sO bd 3 cap) 2 1 16 1 4294967296) 41 (0,0))):Calls GP 52 #[pO s] w fun e w2=>e= .returned (.int .i64 2)∧ah [] w w2:=by
 refine dn 52 55 Tryz.func52 fun a hf hsz hv=> ?_
 obtain ⟨v0,-⟩:=ie hv;clear hv;refine ba ?_;refine iq (oq h) ?_;refine bt 81 (qw (w:=w)) fun v w2 hr=> ?_
 obtain ⟨hv,K1⟩:=hr;obtain rfl:=bh hv;have h:=K1.on h ae;have c0:w2.cell? ⟨s,0,none⟩=some (sO bd 3 cap):=af h (by simp [df]);have c1:w2.cell? ⟨s,1,none⟩=some (.int .i64 2):=af h (by simp [df]);have c2:w2.cell? ⟨s,2,none⟩=some (.int .i64 1):=af h (by simp [df]);have c12:w2.cell? ⟨s,12,none⟩=some (.int .i64 1):=af h (by simp [df]);have c13:w2.cell? ⟨s,13,none⟩=some (.int .i64 4294967296):=af h (by simp [df]);refine kl [0,11] fun a1 hsz hK=> ?_;obtain ⟨v0,v11,-⟩:=hK
 refine ba ?_;refine zwq ?_;intro dd;refine ba ?_;exact ad.dq rfl hf rfl bz aj ⟨rfl,K1.at⟩
theorem rset_w7 (h:w.heap[s]? =some (.cells (df (sO bd 2 cap) 2 1 16 1 0) 41 (0,0))):Calls GP 52 #[pO s] w fun e w2=>e= .returned (.int .i64 2)∧ah [] w w2:=by
 refine dn 52 55 Tryz.func52 fun a hf hsz hv=> ?_
 obtain ⟨v0,-⟩:=ie hv;clear hv;refine ba ?_;refine iq (oq h) ?_;refine bt 81 (qw (w:=w)) fun v w2 hr=> ?_
 obtain ⟨hv,K1⟩:=hr;obtain rfl:=bh hv;have h:=K1.on h ae;have c0:w2.cell? ⟨s,0,none⟩=some (sO bd 2 cap):=af h (by simp [df]);have c1:w2.cell? ⟨s,1,none⟩=some (.int .i64 2):=af h (by simp [df]);have c2:w2.cell? ⟨s,2,none⟩=some (.int .i64 1):=af h (by simp [df]);have c12:w2.cell? ⟨s,12,none⟩=some (.int .i64 1):=af h (by simp [df]);have c13:w2.cell? ⟨s,13,none⟩=some (.int .i64 0):=af h (by simp [df]);refine kl [0,11] fun a1 hsz hK=> ?_;obtain ⟨v0,v11,-⟩:=hK
 refine ba ?_;refine zwq ?_;intro dd;refine ba ?_;exact ad.dq rfl hf rfl bz aj ⟨rfl,K1.at⟩
end
section
variable {w w1 w2 u:World}{s:ByteArray}{p:Value}{k:Int}
theorem rkey_e:Calls GP 53 #[.string ⟨#[]⟩] w fun e w2=>e= .returned (.int .i64 90)∧w2=w:=by
 refine dn 53 10 Tryz.func53 fun a hf hsz hv=> ?_
 obtain ⟨v0,-⟩:=ie hv;clear hv;refine au ?_;exact ad.dq rfl hf rfl bz aj ⟨rfl,rfl⟩
theorem agc (hk:k=1∨k=2)(h:Calls GP 52 #[p] w fun e w2=>e= .returned (.int .i64 k)∧ah [] w w2):Calls GP 37 #[p,.string s] w fun e w2=>e= .returned (.int .i64 k)∧ah [] w w2:=by
 refine dn 37 13 Tryz.func37 fun a hf hsz hv=> ?_
 obtain ⟨v0,v1,-⟩:=ir hv;clear hv;refine au ?_;refine bt 52 h fun v w2 hr=> ?_
 obtain ⟨hv,K1⟩:=hr;obtain rfl:=bh hv;rcases hk with rfl|rfl
 ·refine au ?_;exact ad.dq rfl hf rfl bz aj ⟨rfl,K1⟩
 ·refine au ?_;exact ad.dq rfl hf rfl bz aj ⟨rfl,K1⟩
theorem rkey_any (hE:s.toList.isEmpty=false):Calls GP 53 #[.string s] w fun e w2=>e= .returned (.int .i64 (if 255<s.size then 90 else 0))∧w2=w:=by
 refine dn 53 10 Tryz.func53 fun a hf hsz hv=> ?_
 obtain ⟨v0,-⟩:=ie hv;clear hv
 by_cases hL:255<s.size
 ·have hD:decide ((255:Int)< (s.size:Int))=true:=decide_eq_true ai;have hI:(255:Int)< (s.size:Int):=by omega
  simp only [if_pos hL];refine au ?_;exact ad.dq rfl hf rfl bz aj ⟨rfl,rfl⟩
 ·have hI:¬(255:Int)< (s.size:Int):=by omega
  simp only [if_neg hL];refine au ?_;exact ad.dq rfl hf rfl bz aj ⟨rfl,rfl⟩
end
end Go.Proofs.YthgpdljlehklhaaGreat.wk
namespace Go.Proofs.YthgpdljlehklhaaGreat.rn
open Go Go.Conc zr dr wd drv wk la
set_option linter.unusedVariables false
set_option maxHeartbeats 4000000
section
variable {w w1 w2 u:World}{bd cap s b:Nat}{key:ByteArray}{p done:Value}{pa:Option Addr}{k:Int}
theorem yg [Bg] {k:Int}(hk:k=0∨k=90)(h52:Calls GP 52 #[p] w fun e w2=>e= .returned (.int .i64 0)∧ah [] w w2)(h53:∀u,Calls GP 53 #[.string key] u fun e w2=>e= .returned (.int .i64 k)∧w2=u):Calls GP 37 #[p,.string key] w fun e w2=>e= .returned (.int .i64 k)∧ah [] w w2:=by
 refine dn 37 13 Tryz.func37 fun a hf hsz hv=> ?_
 obtain ⟨v0,v1,-⟩:=ir hv;clear hv;refine ba ?_;refine bt 52 h52 fun v w2 hr=> ?_
 obtain ⟨hv,K1⟩:=hr;obtain rfl:=bh hv;refine ba ?_;refine bt 53 (h53 w2) fun v w2 hr=> ?_
 obtain ⟨hv,e⟩:=hr;obtain rfl:=bh hv;subst e;refine ba ?_;exact ad.dq rfl hf rfl bz aj ⟨rfl,K1⟩
theorem look_ref [Bg] (hk:k=1∨k=2∨k=90)(hA:∀u,ah [] w u→Calls GP 37 #[.pointer pa,.string key] u fun e w2=>e= .returned (.int .i64 k)∧ah [] u w2):Calls GP 13 #[.pointer pa,done,.string key] w fun e w2=>e= .returned (.tuple #[.agg z60,.slice none 0 0,.int .i64 k])∧ah [] w w2:=by
 refine dn 13 54 Tryz.func13 fun a hf hsz hv=> ?_
 obtain ⟨v0,v1,v2,-⟩:=za3 hv;clear hv;refine au ?_;refine ad.ib (fun u=>u.heap[w.heap.size+2]? =some (.cells z60 60 (0,0))∧ah [] w u) ⟨fy ae,ei⟩ fun u ⟨h6,K⟩=> ?_
 refine kl [1,3,5,6,7,8,14,15] fun a1 hsz hK=> ?_;obtain ⟨v1,v3,v5,v6,v7,v8,v14,v15,-⟩:=hK
 refine bt 37 (hA u K) fun v w2 hr=> ?_
 rename World=>y
 obtain ⟨hv,K1⟩:=hr;obtain rfl:=bh hv;have h6:=K1.on h6 ae;have K:=K.trans K1 ae;rcases hk with rfl|rfl|rfl
 all_goals
  refine au ?_;obtain ⟨y5,r5,h9,K5,-⟩:=kg (P:=GP) (ty:=60) (v:=z60) (i60 rfl) (by simp [z60,Value.oneCell']) rfl h6;unfold z60 at r5
  (refine ad.jq rfl rfl rfl bj aj et r5 ?_;refine ay ?_)
  refine au ?_
  (apply ad.zl rfl hf rfl (hl:=(ac2 h9 rfl));(case hd=>simp [hsz]);(case hs=>exact et);(case ht=>exact et);(case ht2=>exact et))
  exact ⟨rfl,K.trans K5 (fun b hb=> .inr (by simp at hb;omega))⟩
theorem zm [Bg] (hk:k=1∨k=2∨k=90)(hA:∀u,ah [] w u→Calls GP 37 #[.pointer pa,.string key] u fun e w2=>e= .returned (.int .i64 k)∧ah [] u w2):Calls GP 7 #[.pointer pa,done,.string key] w fun e w2=>e= .returned (.int .i64 k)∧ah [] w w2:=by
 refine dn 7 58 Tryz.func7 fun a hf hsz hv=> ?_
 obtain ⟨v0,v1,v2,-⟩:=za3 hv;clear hv;refine au ?_;refine ad.ib (fun u=>ah [] w u) (ei) fun u K=> ?_
 refine kl [12,13,14] fun a1 hsz hK=> ?_;obtain ⟨v12,v13,v14,-⟩:=hK
 refine bt 13 (look_ref (done:=done) hk (fun y hy=>hA y (K.trans hy ae))) fun v w2 hr=> ?_
 rename World=>y
 obtain ⟨hv,K1⟩:=hr;obtain rfl:=bh hv;have K:=K.trans K1 ae;rcases hk with rfl|rfl|rfl
 all_goals
  refine au ?_;obtain ⟨y5,r5,h9,K5,-⟩:=kg (P:=GP) (w:=World.alloc y (.cells z60 60)) (ty:=60) (v:=z60) (i60 rfl) (by simp [z60,Value.oneCell']) rfl bu;unfold z60 at r5
  (refine ad.jq rfl rfl rfl bj aj et r5 ?_;refine ay ?_)
  have K5:ah [] y y5:=(ah.alloc (ah.refl [] _)).trans K5 ae;have K:=K.trans K5 ae;refine au ?_;exact ad.dq rfl hf rfl bz aj ⟨rfl,K⟩
end
end Go.Proofs.YthgpdljlehklhaaGreat.rn
namespace Go.Proofs.YthgpdljlehklhaaGreat.wk
open Go Go.Conc zr dr wd drv
set_option linter.unusedVariables false
set_option maxHeartbeats 4000000
section
variable {w w1 w2 u:World}{v:Value}
theorem app50 {n m c:Nat}{xs news:List Value}{a:Addr}(h:w.ownsRow 0 56 9 v n xs)(hl:news.length=m*9)(hnews:∀j u,news[j]? =some u→w.cell? (a.add j)=some u)(h1:∀u∈news,u.oneCell'=true)(hb:n+m<1000000000):
  ∃v' w',(Builtin.append_ #[50,50] 50 #[v,.slice (some a) m c]).run GP w= .ok v' w'∧w'.ownsRow 0 56 9 v' (n+m) (xs++news)∧ah (blk v) w w'∧(blk v'=blk v∨blk v'=[w.heap.size]):=by
 obtain ⟨v',w',r1,r2,r3,r4,r5⟩:=run_append_own_at (P:=GP) w 0 50 50 56 ((Tryz.prog.info? 56).getD default) (.agg z56) 9 96 (by rw [fb];kernel_rfl) (by rw [ek];kernel_rfl) du du du rfl ai v n xs h a m c news hl hnews h1 (by simp only [maxLen];omega) ai (Nat.zero_le _);exact ⟨v',w',r1,r2,ln r3,r5.imp (fun h=>by simp [blk,h]) fun h=>by simp [blk,h]⟩
theorem aoy {q c:Nat}(h:w.ownsRow 0 56 9 (sO q 3 c) 3 (pl9.toList++pl9.toList++pl9.toList)):q<w.heap.size∧∀i,i<3→w.rangeAt q (i*9) pl9.toList:=by
 obtain ⟨-,h|⟨g,cap,cur,hv,-,hg,h1,h2,h3,hx⟩⟩:=h
 ·cases h.1
 obtain ⟨rfl,rfl⟩:g=q∧cap=c:=by
  injection hv with e1 e2 e3
  injection e1 with e1
  injection e1 with e1
  exact ⟨e1.symm,e3.symm⟩
 refine ⟨bf hg,fun i hi j v hj=> ?_⟩;simp only [World.cell?,hg];have hj9:j<9:=by
  have:=(List.getElem?_eq_some_iff.1 hj).1
  simpa [pl9] using this
 have e:cur.toList[i*9+j]? =(pl9.toList++pl9.toList++pl9.toList)[i*9+j]? :=by rw [←hx,List.getElem?_take_of_lt ai]
 rw [←Array.getElem?_toList,e];rcases i with _|_|_|i
 ·rcases j with _|_|_|_|_|_|_|_|_|j <;> first|exact hj|omega
 ·rcases j with _|_|_|_|_|_|_|_|_|j <;> first|exact hj|omega
 ·rcases j with _|_|_|_|_|_|_|_|_|j <;> first|exact hj|omega
 ·omega
theorem mkP {i b:Nat}{V:Value}{gs:List Value}(hb:u.heap[b]? =some (.cells (df V 2 1 16 1 0) 52 (0,0)))(oV:u.ownsRow w.heap.size 56 9 V i gs)(K:ah [] w u)(ge:w.heap.size≤b)(hi:i<1000){j:Nat}(hj:j=i+1):
  ∃q cq w3,(Builtin.append_ #[50,50] 50 #[V,sO u.heap.size 1 1]).run GP (u.alloc (.cells pl9 56))= .ok (sO q j cq) w3∧w3.cell? ⟨b,0,none⟩=some V∧w3.frozen? ⟨b,0,none⟩=false∧(w3.setCell ⟨b,0,none⟩ (sO q j cq)).heap[b]? =some (.cells (df (sO q j cq) 2 1 16 1 0) 52 (0,0))∧(w3.setCell ⟨b,0,none⟩ (sO q j cq)).ownsRow w.heap.size 56 9 (sO q j cq) j (gs++pl9.toList)∧ah [] w (w3.setCell ⟨b,0,none⟩ (sO q j cq))∧ah (blk V++ [b]) u (w3.setCell ⟨b,0,none⟩ (sO q j cq)):=by
 have KA:ah [] u (u.alloc (.cells pl9 56)):=ei;obtain ⟨v',w3,r1,o1,K1,e1⟩:=app50 (w:=u.alloc (.cells pl9 56)) (v:=V) (je (bq oV KA ae) fun b _=>Nat.zero_le b) (news:=pl9.toList) (m:=1) (c:=1) (a:=⟨u.heap.size,0,none⟩) rfl (jc pl9 56 rfl) (by simp [pl9,Value.oneCell']) ai;subst hj;obtain ⟨q,cq,rfl⟩:=iw o1 ai;have bF:=ew oV;have K2:ah (blk V) u w3:=(KA.more ae).trans K1 (fun b hb=> .inl hb);have nb:b∉blk V:=fun h=>by
  obtain ⟨-,cur,hc⟩:=bF b h;rw [hb] at hc;cases hc
 have hb3:=K2.on hb nb;have l1:∀b∈blk (sO q (i+1) cq),w.heap.size≤b:=fun b hb=>by
  rcases e1 with e1|e1
  ·exact (bF b (e1▸hb)).1
  ·rw [e1,List.mem_singleton] at hb;have:=K.size;simp at hb;omega
 have n1:∀x∈blk (sO q (i+1) cq),x≠b:=fun x hx e=>by
  obtain ⟨-,cur,hc⟩:=ew o1 x hx;rw [e,hb3] at hc;cases hc
 have K4:ah [b] w3 (w3.setCell ⟨b,0,none⟩ (sO q (i+1) cq)):=ah.set (ah.refl _ _) (.inl ae);have K5:ah (blk V++ [b]) u (w3.setCell ⟨b,0,none⟩ (sO q (i+1) cq)):=(K2.more (by simp;exact fun b h=> .inl h)).trans (K4.more ae) (fun b hb=> .inl hb);exact ⟨q,cq,w3,r1,af hb3 (by simp [df]),ed hb3,by simpa [df] using ee (i:=0) (v:=sO q (i+1) cq) hb3,je (bq o1 K4 (by simpa using n1)) l1,(K.trans K2 (fun b hb=> .inr (bF b hb).1)).trans K4 (fun b hb=> .inr (by simp at hb;omega)),K5⟩
end
end Go.Proofs.YthgpdljlehklhaaGreat.wk
