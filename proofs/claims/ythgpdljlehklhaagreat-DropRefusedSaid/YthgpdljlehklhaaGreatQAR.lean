/- Part QAR of the proof that DropRefused answers true whatever its input. No condition. -/
import Derived.Test.YthgpdljlehklhaaGreatQAQ
import Derived.Test.YthgpdljlehklhaaGreatQAI
set_option maxRecDepth 100000
namespace Go.Proofs.YthgpdljlehklhaaGreat.wk
open Go Go.Conc zr dr wd drv
set_option linter.unusedVariables false
set_option maxHeartbeats 4000000
section
variable {w w1 w2:World}{g d now kept b k i n x np nd m c L cp:Nat}{room used used1:Int}{pend pend2:Value}{es es2:Array MapEntry}{s s2:ByteArray}{v dat:Value}{safe:Int}{a:Act}{R:Ending→World→Prop}{K:List Item}{ds news:List Value}{p:Addr}{da:Option Addr}{S:List Nat}
theorem akr (h:WD w g d room used now kept pend np es k)(hnp:np<1000)(hn:fnd es nA=some (i,pO x))(hb:Bdy w x (.slice da L cp) safe)(hxg:x≠g):
  Calls GP 46 #[dk g,.string nA] w fun e w2=>e= .returned (.int .i64 0)∧∃kept2,WD w2 g d room (IntKind.i64.wrap (used-L)) now kept2 (.slice none 0 0) 0 (es.eraseIdxIfInBounds i) k∧ah ([g,d,now]++blk pend) w w2:=by
 refine dn 46 25 Tryz.func46 fun a hf hsz hv=> ?_
 obtain ⟨v0,v1,-⟩:=ir hv;clear hv;refine ba ?_;refine bt 75 (look_ok (g:=g) (w:=w)) fun v w2 hr=> ?_
 obtain ⟨hv,e⟩:=hr;obtain rfl:=bh hv;have e:=e.symm;subst e;refine ba ?_
 (refine ad.inv (f:=222) rfl rfl rfl bj et (by first|rfl|(exact zag)) (m_remove (pO g) (.string nA) w) (al5 h hnp hn (by decide) (by decide) hb hxg) (fun e w2 h=>⟨_,h.1⟩) fun v w2 hr=> ?_;refine ay ?_)
 obtain ⟨hv,pend2,H1,K1,hp1⟩:=hr;obtain rfl:=bh hv;refine ba ?_
 (refine ad.inv (f:=225) rfl rfl rfl bj et (by first|rfl|(exact zag)) (agj (pO g) w2) (adf H1) (fun e w2 h=>⟨_,h.1⟩) fun v w2 hr=> ?_;refine ay ?_)
 obtain ⟨hv,kept2,H2,K2,hk2⟩:=hr;obtain rfl:=bh hv;refine ba ?_;exact ad.dq rfl hf rfl bz aj ⟨rfl,kept2,H2,ah.trans K1 K2 (by grind)⟩
theorem drop_ok (h:WD w g d room used now kept pend np es k)(hnp:np<1000)(hn:fnd es nA=some (i,pO x))(hb:Bdy w x (.slice da L cp) safe)(hxg:x≠g):
  Calls GP 16 #[dk g,.string kA] w fun e w2=>e= .returned (.int .i64 0)∧∃kept2,WD w2 g d room (IntKind.i64.wrap (used-L)) now kept2 (.slice none 0 0) 0 (es.eraseIdxIfInBounds i) k∧ah ([g,d,now]++blk pend) w w2:=by
 refine dn 16 20 Tryz.func16 fun a hf hsz hv=> ?_
 obtain ⟨v0,v1,-⟩:=ir hv;clear hv;have v0':a.eval (.tmp 0)= .iface 73 (pO g):=v0;clear v0;refine ba ?_;refine bt 45 (ye (w:=w)) fun v w2 hr=> ?_
 obtain ⟨hv,K0⟩:=hr;obtain rfl:=bh hv;refine ba ?_;have H0:=h.on K0 ae ae ae ae;have hc:=akr H0 hnp hn (K0.on hb ae) hxg;simp only [dk] at hc;refine bt 46 hc fun v w2 hr=> ?_
 obtain ⟨hv,kept2,H2,K2⟩:=hr;obtain rfl:=bh hv;refine ba ?_;exact ad.dq rfl hf rfl bz aj ⟨rfl,kept2,H2,ah.trans (K0.more ae) K2 (by grind)⟩
end
def m7 (n:Int):Int:=if bits .and .u32 n 1==1 then bits .xor .u32 (n / 2) 2197175160 else n / 2
def c4 (n:Int):Int:=m7 (m7 (m7 (m7 n)))
def vr (i j:Nat):Int:=if j<i then c4 j else 0
def iu (i:Nat):Array Value:=((List.range 16).map fun j=>Value.int .u32 (vr i j)).toArray
theorem hrow_set (i:Nat)(h:i<16):(iu i).setIfInBounds i (.int .u32 (c4 i))=iu (i+1):=by
 apply Array.ext
 ·simp [iu]
 ·intro j h1 h2;simp only [iu,List.setIfInBounds_toArray,List.getElem_toArray,List.getElem_set,List.getElem_map,List.getElem_range,vr]
  by_cases e:i=j
  ·subst e;simp
  ·rw [if_neg e]
   by_cases e2:j<i
   ·rw [if_pos e2,if_pos ai]
   ·rw [if_neg e2,if_neg ai]
theorem ahq (i j:Nat)(h:j<16):(iu i)[j]? =some (.int .u32 (vr i j)):=by
 simp [iu,h]
section
variable {w w1 w2:World}
theorem acs (n:Int):Calls GP 181 #[.int .u32 n] w fun e w2=>e= .returned (.int .u32 (m7 n))∧w2=w:=by
 refine dn 181 11 Tryz.func181 fun a hf hsz hv=> ?_
 obtain ⟨v0,-⟩:=ie hv;clear hv;cases hb:(bits BinOp.and IntKind.u32 n 1==1)
 ·refine ba ?_;exact ad.dq (v:= .int .u32 (m7 n)) rfl hf rfl bz (by refine zes ?_;simp [m7,hb]) ⟨rfl,rfl⟩
 ·refine ba ?_;exact ad.dq (v:= .int .u32 (m7 n)) rfl hf rfl bz (by refine zes ?_;simp [m7,hb]) ⟨rfl,rfl⟩
noncomputable def hvB:Code:=inL (inB (sR (sL (sR (sR (Tryz.f150.body.getD .skip))))))
theorem ahc {R:Ending→World→Prop}{K:List Item}{a:Act}{b i:Nat}(hi:i<16)(hb:w.heap[b]? =some (.cells (iu i) 281 (0,0)))(hsz:a.tmps.size=16∧a.defers=[])(v1:a.eval (.tmp 1)=pO b)(v3:a.eval (.tmp 3)= .int .i64 i)
  (hk:∀a1 w1,a1.tmps.size=16∧a1.defers=[]→Kp [0,1] a a1→a1.eval (.tmp 3)= .int .i64 (i+1:Nat)→w1.heap[b]? =some (.cells (iu (i+1)) 281 (0,0))→ah [b] w w1→ad GP R (bF 150) a1 K w1):ad GP R (bF 150) a (.code hvB::K) w:=by
 have e1:decide ((i:Int)<16)=true:=by simp;omega
 have e3:(i:Int)<16:=by omega
 have e2:IntKind.u32.wrap (i:Int)=i:=by
  unfold IntKind.wrap;simp [IntKind.bits,IntKind.signed];omega
 have c0:w.cell? ⟨b,i,none⟩=some (.int .u32 (vr i i)):=by
  simp only [World.cell?,hb];exact ahq i i hi
 have fz:∀j,w.frozen? ⟨b,j,none⟩=false:=fun j=>ed hb
 apply ad.seq;refine ba ?_;refine bt 181 (acs (i:Int)) fun v w2 hr=> ?_
 obtain ⟨hv,e⟩:=hr;obtain rfl:=bh hv;have e:=e.symm;subst e;refine bt 181 (acs (m7 i)) fun v w2 hr=> ?_
 obtain ⟨hv,e⟩:=hr;obtain rfl:=bh hv;have e:=e.symm;subst e;refine bt 181 (acs (m7 (m7 i))) fun v w2 hr=> ?_
 obtain ⟨hv,e⟩:=hr;obtain rfl:=bh hv;have e:=e.symm;subst e;refine bt 181 (acs (m7 (m7 (m7 i)))) fun v w2 hr=> ?_
 obtain ⟨hv,e⟩:=hr;obtain rfl:=bh hv;have e:=e.symm;subst e;refine ba ?_;refine hk _ _ ?_ ?_ ?_ ?_ ?_
 ·simp [hsz]
 ·(intro kk hkk;simp only [List.mem_cons,List.not_mem_nil,or_false] at hkk;(repeat' (rcases hkk with hkk|hkk)) <;> (simp+decide only [eval_put,bn,size_put,if_true,if_false, *]))
 ·refine zes ?_;rw [jv i ai]
 ·exact (ee hb).trans (by rw [show Value.int .u32 (m7 (m7 (m7 (m7 (i:Int)))))= .int .u32 (c4 i) from rfl,hrow_set i hi])
 ·exact ei
theorem air {R:Ending→World→Prop}{K:List Item}{b:Nat}{a0:Act}{w0:World}(v1:a0.eval (.tmp 1)=pO b)
  (hk:∀a1 w1,a1.tmps.size=16∧a1.defers=[]→Kp [0,1] a0 a1→w1.heap[b]? =some (.cells (iu 16) 281 (0,0))→ah [b] w0 w1→ad GP R (bF 150) a1 K w1):
  ∀m i (a:Act)(w:World),i+m=16→a.tmps.size=16∧a.defers=[]→Kp [0,1] a0 a→a.eval (.tmp 3)= .int .i64 (i:Nat)→w.heap[b]? =some (.cells (iu i) 281 (0,0))→ah [b] w0 w→ad GP R (bF 150) a (.code hvB:: .inLoop hvB:: .inBlock 0::K) w:=by
 intro m
 induction m with
 |zero=>
  intro i a w him hsz hkp v3 hb hkt;obtain rfl:i=16:=by omega
  apply ad.seq;apply ad.region;refine zls ?_;refine ad.ak (ad.seq (ad.p9 aj (ad.exit rfl (hk _ w bz (hkp.trans (by (intro kk hkk;simp only [List.mem_cons,List.not_mem_nil,or_false] at hkk;(repeat' (rcases hkk with hkk|hkk)) <;> (simp+decide only [eval_put,bn,size_put,if_true,if_false, *])))) hb hkt))))
 |succ m ih=>
  intro i a w him hsz hkp v3 hb hkt;exact ahc ai hb hsz ((hkp 1 ae).trans v1) v3 fun a1 w1 h1 h2 h3 h4 h5=>ad.inLoop (ih (i+1) a1 w1 ai h1 (hkp.trans h2) h3 h4 (hkt.trans h5 ae))
theorem am6:Calls GP 150 #[] w fun e w2=>e= .returned (.agg (iu 16))∧ah [] w w2:=by
 refine dn 150 16 Tryz.func150 fun a hf hsz hv=> ?_
 clear hv;refine ba ?_;have hz:iu 0=#[.int .u32 0,.int .u32 0,.int .u32 0,.int .u32 0,.int .u32 0,.int .u32 0,.int .u32 0,.int .u32 0,.int .u32 0,.int .u32 0,.int .u32 0,.int .u32 0,.int .u32 0,.int .u32 0,.int .u32 0,.int .u32 0]:=by simp [iu,vr,List.range,List.range.loop]
 rw [←hz];refine ad.cut (fun a1 u=>(a1.tmps.size=16∧a1.defers=[])∧a1.eval (.tmp 0)=pO w.heap.size∧a1.eval (.tmp 1)=pO (w.heap.size+1)∧a1.eval (.tmp 3)= .int .i64 (0:Nat)∧u.heap[w.heap.size]? =some (.cells (iu 0) 281 (0,0))∧u.heap[w.heap.size+1]? =some (.cells (iu 0) 281 (0,0))∧ah [] w u) ⟨by simp [hsz],aj,aj,et,bw bu,fy ae,ei⟩ fun a u ⟨hsz,v0,v1,v3,hb0,hb1,hk⟩=> ?_
 apply ad.loop;refine air (b:=w.heap.size+1) (a0:=a) (w0:=u) v1 (fun a1 w1 hsz1 hkp hb2 hk2=> ?_) 16 0 a u rfl hsz (Kp.refl _ _) v3 hb1 (ah.refl _ _);have v0':=(hkp 0 ae).trans v0;have v1':=(hkp 1 ae).trans v1;clear hsz;have hsz:=hsz1;have hb3:=hk2.on hb0 ae;have hi:(GP.info? 281).map (·.size)=some (iu 16).size:=by rw [ek];kernel_rfl
 have hu:GP.underlying 281=some (.array 16 211):=by rw [fb];kernel_rfl
 apply ad.seq;apply ad.region;refine ad.row rfl rfl rfl (dt rfl) aj (pg (c:=iu 16) hu rfl hi hb2) ?_;refine ay ?_;obtain ⟨w3,hst,hb4,hk3,hs3⟩:=kg (P:=GP) (v:=iu 16) hi (by simp [iu,Value.oneCell']) (by simp [iu]) hb3;refine ad.jq rfl rfl rfl (dt rfl) aj aj hst ?_;refine ay ?_;apply ad.ak;refine ad.ret rfl hf bz (ace rfl (b:=w.heap.size) (show Act.eval _ (.tmp 0)=_ from aj) (ks hu rfl hi hb4)) ⟨rfl,?_⟩;exact ah.trans (ah.trans hk hk2 ae) hk3 ae
end
def shp:Array Value:=#[.int .i64 2,.int .i64 1,.int .i64 16]
def dx (size idx ep cnt:Int):Array Value:=#[.int .u8 0,.int .u8 0,.int .u8 0,.int .u8 0,.int .u8 0,.int .u8 0,.int .u8 0,.int .u8 0,.int .i64 2,.int .i64 1,.int .i64 16,.string kA,.int .i64 size,.int .i64 idx,.int .i64 ep,.int .i64 cnt]
section
variable {w w1 w2:World}{idx:Nat}
theorem may_ok:Calls GP 82 #[.agg shp] w fun e w2=>e= .returned (.bool true)∧ah [] w w2:=by
 refine dn 82 36 Tryz.func82 fun a hf hsz hv=> ?_
 obtain ⟨v0,-⟩:=ie hv;clear hv;simp only [shp] at v0;refine ba ?_;exact ad.dq rfl hf rfl bz aj ⟨rfl,ei⟩
theorem aj0:Calls GP 83 #[.agg shp,.int .i64 5] w fun e w2=>e= .returned (.int .i64 0)∧ah [] w w2:=by
 refine dn 83 26 Tryz.func83 fun a hf hsz hv=> ?_
 obtain ⟨v0,v1,-⟩:=ir hv;clear hv;simp only [shp] at v0;refine ba ?_;exact ad.dq rfl hf rfl bz aj ⟨rfl,ei⟩
theorem mk45 (w:World):(Instr.makeSlice 45 (.int .i64 1) (.int .i64 1)).run GP w= .ok (sO w.heap.size 1 1) (w.alloc (.cells #[.int .i64 0] 3)):=by kernel_rfl
theorem wq:Calls GP 84 #[.agg shp,.int .i64 5] w fun e w2=>(∃v,e= .returned v)∧∃g,e= .returned (sO g 1 1)∧w2.heap[g]? =some (.cells #[.int .i64 3] 3 (0,0))∧w.heap.size≤g∧ah [] w w2:=by
 refine dn 84 51 Tryz.func84 fun a hf hsz hv=> ?_
 obtain ⟨v0,v1,-⟩:=ir hv;clear hv;simp only [shp] at v0;refine ba ?_
 (apply ad.val rfl;(case ho=>rfl);(case hw=>exact bj);(case hr=>refine zpr ?_;first|(rw [Sem.run_bind,(mk45 _)];rfl)|exact (mk45 _));refine ay ?_)
 refine ba ?_;apply ad.loop;refine ba ?_;apply ad.inLoop;refine ba ?_;exact ad.dq rfl hf rfl bz aj ⟨⟨_,rfl⟩,w.heap.size+1,rfl,fy ae,by omega,ei⟩
end
section
variable {w w1 w2:World}{idx:Nat}
theorem adl (h:idx<3):Calls GP 56 #[.agg (dx 5 idx 1 1)] w fun e w2=>e= .returned (.int .i64 0)∧ah [] w w2:=by
 refine dn 56 67 Tryz.func56 fun a hf hsz hv=> ?_
 obtain ⟨v0,-⟩:=ie hv;clear hv;simp only [dx] at v0;have e1:decide ((idx:Int)<0)=false:=by simp
 have e2:decide ((3:Int)≤idx)=false:=by simp;omega
 have e3:kA.size=1:=rfl;refine ba ?_;refine bt 82 may_ok fun v w2 hr=> ?_
 obtain ⟨hv,K1⟩:=hr;obtain rfl:=bh hv;refine ad.cut (fun a1 u=>(a1.tmps.size=67∧a1.defers=[])∧a1.eval (.tmp 1)=pO w.heap.size∧a1.eval (.tmp 7)= .bool true∧ah [] w u∧u.heap[w.heap.size]? =some (.cells (dx 5 idx 1 1) 95 (0,0))) ⟨by simp [hsz],aj,aj,ah.trans (ei) K1 ae,K1.on bu ae⟩ fun a u ⟨hsz,v1,v7,K1,hb⟩=> ?_
 have c8:u.cell? ⟨w.heap.size,8,none⟩=some (.int .i64 2):=af hb (by simp [dx]);have c9:u.cell? ⟨w.heap.size,9,none⟩=some (.int .i64 1):=af hb (by simp [dx]);have c10:u.cell? ⟨w.heap.size,10,none⟩=some (.int .i64 16):=af hb (by simp [dx]);have c11:u.cell? ⟨w.heap.size,11,none⟩=some (.string kA):=af hb (by simp [dx]);have c12:u.cell? ⟨w.heap.size,12,none⟩=some (.int .i64 5):=af hb (by simp [dx]);refine ba ?_;refine bt 83 aj0 fun v w2 hr=> ?_
 obtain ⟨hv,K2⟩:=hr;obtain rfl:=bh hv;refine ad.cut (fun a1 u=>(a1.tmps.size=67∧a1.defers=[])∧a1.eval (.tmp 1)=pO w.heap.size∧a1.eval (.tmp 24)= .int .i64 0∧ah [] w u∧u.heap[w.heap.size]? =some (.cells (dx 5 idx 1 1) 95 (0,0))) ⟨by simp [hsz],aj,aj,ah.trans K1 K2 ae,K2.on hb ae⟩ fun a u ⟨hsz,v1,v24,K1,hb⟩=> ?_
 have c8:u.cell? ⟨w.heap.size,8,none⟩=some (.int .i64 2):=af hb (by simp [dx]);have c9:u.cell? ⟨w.heap.size,9,none⟩=some (.int .i64 1):=af hb (by simp [dx]);have c13:u.cell? ⟨w.heap.size,13,none⟩=some (.int .i64 idx):=af hb (by simp [dx]);have c14:u.cell? ⟨w.heap.size,14,none⟩=some (.int .i64 1):=af hb (by simp [dx]);have c15:u.cell? ⟨w.heap.size,15,none⟩=some (.int .i64 1):=af hb (by simp [dx]);refine ba ?_;exact ad.dq rfl hf rfl bz aj ⟨rfl,K1⟩
theorem af4:Calls GP 93 #[.agg (dx 5 idx 1 1)] w fun e w2=>e= .returned (.int .i64 48)∧ah [] w w2:=by
 refine dn 93 27 Tryz.func93 fun a hf hsz hv=> ?_
 obtain ⟨v0,-⟩:=ie hv;clear hv;simp only [dx] at v0;have e3:kA.size=1:=rfl;refine ba ?_;refine bt 84 wq fun v w2 hr=> ?_
 obtain ⟨-,g,hv,hg,hge,K1⟩:=hr;obtain rfl:=bh hv;have c0:w2.cell? ⟨g,0,none⟩=some (.int .i64 3):=af hg ae;refine ba ?_;apply ad.loop;refine ba ?_;apply ad.inLoop;refine ba ?_;exact ad.dq rfl hf rfl bz aj ⟨rfl,ah.trans (ei) K1 ae⟩
end
theorem wrap15 (t:Nat)(h:t≤15):0≤IntKind.u32.wrap (t:Int)∧IntKind.u32.wrap (t:Int)<16:=by
 unfold IntKind.wrap;simp [IntKind.bits,IntKind.signed];omega
theorem aar (x:Int):0≤bits .and .u32 x 15∧bits .and .u32 x 15<16:=
 wrap15 (BitVec.ofInt 32 x &&& BitVec.ofInt 32 15).toNat (by
  rw [BitVec.toNat_and];exact Nat.and_le_right)
def chalf (r:Int):Int:=bits .xor .u32 (r / 16) (c4 (bits .and .u32 r 15))
def cbyte (r x:Int):Int:=chalf (chalf (bits .xor .u32 r x))
def cneg (r:Int):Int:=bits BinOp.xor IntKind.u32 IntKind.u32.max r
def crcF (r:Int)(l:List Int):Int:=l.foldl cbyte r
theorem hval16 {j:Nat}(h:j<16):vr 16 j=c4 j:=by simp [vr,h]
def um (r:Int)(l:List Int):Int:=cneg (crcF (cneg r) l)
noncomputable def ovB:Code:=inL (inB (sR (sL (sR (sR (Tryz.f132.body.getD .skip))))))
section
variable {w w1 w2:World}
theorem ala {R:Ending→World→Prop}{K:List Item}{a:Act}{tb pb po i m c:Nat}{r x:Int}(hi:i<m)(hm:m<1000000)(hb:w.heap[tb]? =some (.cells (iu 16) 281 (0,0)))(hx:w.cell? ⟨pb,po+i,none⟩=some (.int .u8 x))(hx0:0≤x∧x<256)
  (hsz:a.tmps.size=35∧a.defers=[])(v0:a.eval (.tmp 0)= .int .u32 r)(v5:a.eval (.tmp 5)=pO tb)(v9:a.eval (.tmp 9)= .slice (some ⟨pb,po,none⟩) m c)(v10:a.eval (.tmp 10)= .int .i64 m)(v11:a.eval (.tmp 11)= .int .i64 i)
  (hk:∀a1,a1.tmps.size=35∧a1.defers=[]→Kp [5,9,10] a a1→a1.eval (.tmp 0)= .int .u32 (cbyte r x)→a1.eval (.tmp 11)= .int .i64 (i+1:Nat)→ad GP R (bF 132) a1 K w):ad GP R (bF 132) a (.code ovB::K) w:=by
 have e1:decide ((i:Int)<m)=true:=by simp;omega
 have e3:(i:Int)<m:=by omega
 have e2:IntKind.u32.wrap x=x:=by
  unfold IntKind.wrap;simp [IntKind.bits,IntKind.signed];omega
 have hc:∀y:Int,w.cell? ⟨tb,(bits .and .u32 y 15).toNat,none⟩=some (.int .u32 (c4 (bits .and .u32 y 15))):=fun y=>by
  have hy:=aar y;simp only [World.cell?,hb];show (iu 16)[(bits .and .u32 y 15).toNat]? =_;rw [ahq 16 _ ai,hval16 ai];congr 3
 have k0:∀y:Int,0≤bits .and .u32 y 15:=fun y=>(aar y).1
 have k1:∀y:Int,bits .and .u32 y 15<16:=fun y=>(aar y).2
 apply ad.seq;refine ba ?_;refine hk _ ?_ ?_ ?_ ?_
 ·simp [hsz]
 ·(intro kk hkk;simp only [List.mem_cons,List.not_mem_nil,or_false] at hkk;(repeat' (rcases hkk with hkk|hkk)) <;> (simp+decide only [eval_put,bn,size_put,if_true,if_false, *]))
 ·refine zes ?_;rfl
 ·refine zes ?_;rw [jv i ai]
theorem aod {R:Ending→World→Prop}{K:List Item}{tb pb po m c:Nat}{r:Int}{bs:List Int}{a0:Act}(hm:m<1000000)(hl:bs.length=m)(hb:w.heap[tb]? =some (.cells (iu 16) 281 (0,0)))(hx:∀i x,bs[i]? =some x→w.cell? ⟨pb,po+i,none⟩=some (.int .u8 x))(hx0:∀x∈bs,0≤x∧x<256)
  (v5:a0.eval (.tmp 5)=pO tb)(v9:a0.eval (.tmp 9)= .slice (some ⟨pb,po,none⟩) m c)(v10:a0.eval (.tmp 10)= .int .i64 m)
  (hk:∀a1,a1.tmps.size=35∧a1.defers=[]→a1.eval (.tmp 0)= .int .u32 (crcF r bs)→ad GP R (bF 132) a1 K w):
  ∀n i (a:Act),i+n=m→a.tmps.size=35∧a.defers=[]→Kp [5,9,10] a0 a→a.eval (.tmp 11)= .int .i64 (i:Nat)→a.eval (.tmp 0)= .int .u32 (crcF r (bs.take i))→ad GP R (bF 132) a (.code ovB:: .inLoop ovB:: .inBlock 0::K) w:=by
 intro n
 induction n with
 |zero=>
  intro i a him hsz hkp v11 v0;obtain rfl:i=m:=by omega
  have v10':=(hkp 10 ae).trans v10;rw [List.take_of_length_le ai] at v0;apply ad.seq;apply ad.region;refine zls ?_;refine ad.ak (ad.seq (ad.p9 aj (ad.exit rfl (hk _ bz aj))))
 |succ n ih=>
  intro i a him hsz hkp v11 v0;obtain ⟨x,hxx⟩:∃x,bs[i]? =some x:=⟨_,List.getElem?_eq_getElem ai⟩;refine ala ai hm hb (hx i x hxx) (hx0 x (List.mem_of_getElem? hxx)) hsz v0 ((hkp 5 ae).trans v5) ((hkp 9 ae).trans v9) ((hkp 10 ae).trans v10) v11 fun a1 h1 h2 h3 h4=>ad.inLoop (ih (i+1) a1 ai h1 (hkp.trans h2) h4 ?_)
  rw [h3];have:bs.take (i+1)=bs.take i++ [x]:=by
   rw [List.take_add_one,hxx];rfl
  rw [this];simp [crcF]
theorem over_ok {pb po m c:Nat}{r:Int}{bs:List Int}(hm:m<1000000)(hl:bs.length=m)(hx:∀i x,bs[i]? =some x→w.cell? ⟨pb,po+i,none⟩=some (.int .u8 x))(hp:pb<w.heap.size)(hx0:∀x∈bs,0≤x∧x<256):
  Calls GP 132 #[.int .u32 r,.slice (some ⟨pb,po,none⟩) m c] w fun e w2=>e= .returned (.int .u32 (crcF r bs))∧ah [] w w2:=by
 refine dn 132 35 Tryz.func132 fun a hf hsz hv=> ?_
 obtain ⟨v0,v1,-⟩:=ir hv;clear hv;refine ba ?_;refine bt 150 am6 fun v w2 hr=> ?_
 obtain ⟨hv,K1⟩:=hr;obtain rfl:=bh hv;refine zlv ?_;have hb:(w2.alloc (.cells #[.int .u32 0,.int .u32 0,.int .u32 0,.int .u32 0,.int .u32 0,.int .u32 0,.int .u32 0,.int .u32 0,.int .u32 0,.int .u32 0,.int .u32 0,.int .u32 0,.int .u32 0,.int .u32 0,.int .u32 0,.int .u32 0] 281)).heap[w2.heap.size]? =_:=bu;have hi:(GP.info? 281).map (·.size)=some (iu 16).size:=by rw [ek];kernel_rfl
 obtain ⟨w3,hst,hb4,hk3,hs3⟩:=kg (P:=GP) (v:=iu 16) hi (by simp [iu,Value.oneCell']) (by simp [iu]) hb;refine ad.jq rfl rfl rfl (dt rfl) aj aj hst ?_;refine ay ?_;have hk4:ah [] w w3:=ah.trans (ah.alloc K1) hk3 (by
  intro b hb;have:=K1.size;simp only [List.mem_singleton] at hb;omega)
 refine ad.cut (fun a1 u=>(a1.tmps.size=35∧a1.defers=[])∧a1.eval (.tmp 0)= .int .u32 r∧a1.eval (.tmp 1)= .slice (some ⟨pb,po,none⟩) m c∧a1.eval (.tmp 5)=pO w2.heap.size∧u=w3) ⟨by simp [hsz],aj,aj,aj,rfl⟩ fun a u ⟨hsz,v0,v1,v5,hu⟩=> ?_
 subst hu;refine ba ?_;apply ad.loop;refine aod (r:=r) (c:=c) hm hl hb4 (fun i x h=>(hk4.cell hp ae).trans (hx i x h)) hx0 aj aj aj (fun a1 hsz1 hv0=> ?_) m 0 _ (Nat.zero_add _) bz (Kp.refl _ _) et et;clear hsz;have hsz:=hsz1;refine ba ?_;exact ad.dq rfl hf rfl bz aj ⟨rfl,hk4⟩
theorem acu {pb po m c:Nat}{r:Int}{bs:List Int}(hm:m<1000000)(hl:bs.length=m)(hx:∀i x,bs[i]? =some x→w.cell? ⟨pb,po+i,none⟩=some (.int .u8 x))(hp:pb<w.heap.size)(hx0:∀x∈bs,0≤x∧x<256):
  Calls GP 92 #[.int .u32 r,.slice (some ⟨pb,po,none⟩) m c] w fun e w2=>e= .returned (.int .u32 (um r bs))∧ah [] w w2:=by
 refine dn 92 10 Tryz.func92 fun a hf hsz hv=> ?_
 obtain ⟨v0,v1,-⟩:=ir hv;clear hv;refine ba ?_;have hc:=over_ok (c:=c) (r:=cneg r) hm hl hx hp hx0;refine bt 132 hc fun v w2 hr=> ?_
 obtain ⟨hv,K1⟩:=hr;obtain rfl:=bh hv;refine ba ?_;exact ad.dq (v:= .int .u32 (um r bs)) rfl hf rfl bz et ⟨rfl,K1⟩
theorem sum_ok {pb po m c:Nat}{bs:List Int}(hm:m<1000000)(hl:bs.length=m)(hx:∀i x,bs[i]? =some x→w.cell? ⟨pb,po+i,none⟩=some (.int .u8 x))(hp:pb<w.heap.size)(hx0:∀x∈bs,0≤x∧x<256):
  Calls GP 91 #[.slice (some ⟨pb,po,none⟩) m c] w fun e w2=>e= .returned (.int .u32 (um 0 bs))∧ah [] w w2:=by
 refine dn 91 5 Tryz.func91 fun a hf hsz hv=> ?_
 obtain ⟨v0,-⟩:=ie hv;clear hv;refine ba ?_;refine bt 92 (acu (c:=c) (r:=0) hm hl hx hp hx0) fun v w2 hr=> ?_
 obtain ⟨hv,K1⟩:=hr;obtain rfl:=bh hv;refine ba ?_;exact ad.dq rfl hf rfl bz aj ⟨rfl,K1⟩
end
def isIdx:Op→Bool| .index .. =>true|_=>false
section
variable {P:Program}{R:Ending→World→Prop}{b:Frame}{a:Act}{k:List Item}{w w1:World}{ops:Array Oper}{i:Nat}{rest:List Nat}{o:Oper}{v:Value}
theorem ad.val2 (hk:b.kind= .normal)(ho:ops[i]? =some o)(hs:sa o.op=0)(hi:isIdx o.op=false)(hw:Region.wanted o (yielded ops a.tmps)=true)(hr:(execOp a.eval o).run P w= .ok (.value v) w1)
  (h:ad P R b (a.put o.dst v) (.inRegion ops rest::k) w1):ad P R b a (.inRegion ops (i::rest)::k) w:=ad.val hk v w1 ho hw hr h
end
theorem zlv2 {P' P:Prop}(h2:P')(h:Wrp P'→P:=by intro hG;((apply ad.val2 rfl;(case' ho=>rfl);(case' hs=>rfl);(case' hi=>rfl);(case' hw=>exact dt rfl);(case' hr=>exact zxr);refine ay ?_));exact hG.out):P:=h ⟨h2⟩
theorem zwk2 {P' P:Prop}(h2:P')(h:Wrp P'→P:=by intro hG;(repeat (first|refine zlv2 ?_|apply ad.ak|apply ad.seq|apply ad.region|apply ad.skip|(apply ad.se;(focus (exact aj)))|(apply ad.p9;(focus (exact aj)))|apply ad.block|apply ad.inBlock|apply ad.exit rfl));exact hG.out):P:=h ⟨h2⟩
section
variable {w w1 w2:World}
theorem ao4:Calls GP 151 #[.int .u64 4294967295] w fun e w2=>e= .returned (.int .i64 32)∧w2=w:=by
 refine dn 151 25 Tryz.func151 fun a hf hsz hv=> ?_
 obtain ⟨v0,-⟩:=ie hv;clear hv;refine zwk2 ?_;apply ad.val rfl (v:= .int .u8 8) (w1:=w)
 (case ho=>rfl)
 (case hw=>exact dt rfl)
 (case hr=>
  refine ay ?_;dsimp only [execOp];simp+decide only [eval_put,bn,eval_const,size_put,if_true,if_false, *]
  trace_state
  kernel_rfl)
 refine ay ?_;refine ba ?_;exact ad.dq rfl hf rfl bz aj ⟨rfl,rfl⟩
theorem ah8:Calls GP 133 #[] w fun e w2=>e= .returned (.int .i64 4)∧w2=w:=by
 refine dn 133 6 Tryz.func133 fun a hf hsz hv=> ?_
 clear hv;have e1:bits BinOp.xor IntKind.u32 IntKind.u32.max 0=4294967295:=by kernel_rfl
 refine ba ?_;refine bt 151 ao4 fun v w2 hr=> ?_
 obtain ⟨hv,e⟩:=hr;obtain rfl:=bh hv;have e:=e.symm;subst e;refine ba ?_;exact ad.dq rfl hf rfl bz aj ⟨rfl,rfl⟩
end
section
variable {w w1 w2:World}{v:Value}{n:Nat}{xs:List Value}
theorem amn (h:w.ownsRow 0 5 1 v n xs)(hv:v= .slice none 0 0∨0<n)(h1:∀u∈xs,u.oneCell'=true)(hn:n<1000000):
  Calls GP 49 #[v] w fun e w2=>(∃v,e= .returned v)∧∃v2,e= .returned v2∧w2.ownsRow 0 5 1 v2 n xs∧(v2= .slice none 0 0∨0<n)∧(∀b∈blk v2,w.heap.size≤b)∧ah [] w w2:=by
 rcases h.2 with ⟨rfl,h0⟩|⟨g,cap,cur,rfl,-,hg,-⟩
 ·refine (anj w).mono fun e w2 ⟨h1,h2⟩=> ?_
  subst h2;exact ⟨⟨_,h1⟩,_,h1,h,.inl rfl,by simp [blk,Value.ownBlock],ah.refl _ _⟩
 ·have hm:0<n:=hv.resolve_left ae;have hlen:xs.length=n:=by have:=h.1;omega
  refine (rf (c:=cap) hlen (h.cells (g:=g) rfl) (bf hg) h1 hm ai).mono fun e w2 ⟨h1,g2,c2,h2,h3,h4,h5⟩=> ?_
  exact ⟨h1,_,h2,h3,.inr hm,by simpa [blk,Value.ownBlock] using h4,h5⟩
def fu (x:Int):List Int:=[IntKind.u8.wrap x,IntKind.u8.wrap (x / 256),IntKind.u8.wrap (x / 65536),IntKind.u8.wrap (x / 16777216)]
def fi (l:List Int):List Value:=l.map (Value.int .u8)
theorem qh {x:Int}(h:w.ownsRow 0 5 1 v n xs)(hv:v= .slice none 0 0∨0<n)(h1:∀u∈xs,u.oneCell'=true)(hn:n<1000000)(hx:0≤x∧x<4294967296):
  Calls GP 94 #[v,.int .u32 x] w fun e w2=>(∃v,e= .returned v)∧∃v2,e= .returned v2∧w2.ownsRow 0 5 1 v2 (n+4) (xs++fi (fu x))∧(∀b∈blk v2,w.heap.size≤b)∧ah [] w w2:=by
 refine dn 94 24 Tryz.func94 fun a hf hsz hv'=> ?_
 have v0:=hv' 0 _ rfl;have v1:=hv' 1 _ rfl;simp only [List.getElem_toArray,List.getElem_cons_zero,List.getElem_cons_succ] at v0 v1;clear hv';refine ba ?_;refine bt 49 (amn h hv h1 hn) fun v w2 hr=> ?_
 obtain ⟨-,o0,hv,ho0,hd0,hf0,K0⟩:=hr;have hv:=(bh hv).symm;subst hv;refine ba ?_;refine bt 133 ah8 fun v w2 hr=> ?_
 obtain ⟨hv,e⟩:=hr;obtain rfl:=bh hv;have e:=e.symm;subst e;refine ba ?_;have e1:IntKind.u64.wrap x=x:=by
  unfold IntKind.wrap;simp [IntKind.bits,IntKind.signed];omega
 refine ad.cut (fun a1 u=>(a1.tmps.size=24∧a1.defers=[])∧a1.eval (.tmp 1)= .int .u32 x∧a1.eval (.tmp 5)=o0∧a1.eval (.tmp 9)= .int .i64 4∧a1.eval (.tmp 10)= .int .i64 0∧u=w2) ⟨by simp [hsz],aj,aj,aj,aj,rfl⟩ fun a u0 ⟨hsz,v1,v5,v9,v10,e⟩=> ?_
 subst e;have hr0:=ho0;apply ad.loop;refine ba ?_;obtain ⟨o1,w1',hrun,hr1,hk1,hb1⟩:=qt (w:=World.alloc u0 (.cells #[.int .u8 (IntKind.u8.wrap x)] 5)) (a:=⟨u0.heap.size,0,none⟩) (c:=1) (m:=1) (news:=[.int .u8 (IntKind.u8.wrap x)]) (v:=o0) (World.ownsRow.alloc hr0 _) rfl (jc #[.int .u8 (IntKind.u8.wrap x)] 5 rfl) (by simp [Value.oneCell']) ai
 (refine ad.app rfl rfl rfl bj aj aj hrun ?_;refine ay ?_)
 refine ba ?_;have K1:ah [] w w1':=ah.trans K0.alloc hk1 (fun b hb=> .inr (hf0 b hb));have hf1:∀b∈blk o1,w.heap.size≤b:=by
  intro b hb;rcases hb1 with h|h
  ·exact hf0 b (h▸hb)
  ·rw [h,List.mem_singleton] at hb;have:=K0.size;simp at hb;omega
 refine ad.cut (fun a1 u=>(a1.tmps.size=24∧a1.defers=[])∧a1.eval (.tmp 1)= .int .u32 x∧a1.eval (.tmp 5)=o1∧a1.eval (.tmp 9)= .int .i64 4∧a1.eval (.tmp 10)= .int .i64 1∧u=w1') ⟨by simp [hsz],aj,aj,aj,aj,rfl⟩ fun a u1 ⟨hsz,v1,v5,v9,v10,e⟩=> ?_
 subst e;apply ad.inLoop;refine ba ?_;obtain ⟨o2,w2',hrun,hr2,hk2,hb2⟩:=qt (w:=World.alloc u1 (.cells #[.int .u8 (IntKind.u8.wrap (x / 256))] 5)) (a:=⟨u1.heap.size,0,none⟩) (c:=1) (m:=1) (news:=[.int .u8 (IntKind.u8.wrap (x / 256))]) (v:=o1) (World.ownsRow.alloc hr1 _) rfl (jc #[.int .u8 (IntKind.u8.wrap (x / 256))] 5 rfl) (by simp [Value.oneCell']) ai
 (refine ad.app rfl rfl rfl bj aj aj hrun ?_;refine ay ?_)
 refine ba ?_;have K2:ah [] w w2':=ah.trans K1.alloc hk2 (fun b hb=> .inr (hf1 b hb));have hf2:∀b∈blk o2,w.heap.size≤b:=by
  intro b hb;rcases hb2 with h|h
  ·exact hf1 b (h▸hb)
  ·rw [h,List.mem_singleton] at hb;have:=K1.size;simp at hb;omega
 refine ad.cut (fun a1 u=>(a1.tmps.size=24∧a1.defers=[])∧a1.eval (.tmp 1)= .int .u32 x∧a1.eval (.tmp 5)=o2∧a1.eval (.tmp 9)= .int .i64 4∧a1.eval (.tmp 10)= .int .i64 2∧u=w2') ⟨by simp [hsz],aj,aj,aj,aj,rfl⟩ fun a u2 ⟨hsz,v1,v5,v9,v10,e⟩=> ?_
 subst e;apply ad.inLoop;refine ba ?_;obtain ⟨o3,w3',hrun,hr3,hk3,hb3⟩:=qt (w:=World.alloc u2 (.cells #[.int .u8 (IntKind.u8.wrap (x / 65536))] 5)) (a:=⟨u2.heap.size,0,none⟩) (c:=1) (m:=1) (news:=[.int .u8 (IntKind.u8.wrap (x / 65536))]) (v:=o2) (World.ownsRow.alloc hr2 _) rfl (jc #[.int .u8 (IntKind.u8.wrap (x / 65536))] 5 rfl) (by simp [Value.oneCell']) ai
 (refine ad.app rfl rfl rfl bj aj aj hrun ?_;refine ay ?_)
 refine ba ?_;have K3:ah [] w w3':=ah.trans K2.alloc hk3 (fun b hb=> .inr (hf2 b hb));have hf3:∀b∈blk o3,w.heap.size≤b:=by
  intro b hb;rcases hb3 with h|h
  ·exact hf2 b (h▸hb)
  ·rw [h,List.mem_singleton] at hb;have:=K2.size;simp at hb;omega
 refine ad.cut (fun a1 u=>(a1.tmps.size=24∧a1.defers=[])∧a1.eval (.tmp 1)= .int .u32 x∧a1.eval (.tmp 5)=o3∧a1.eval (.tmp 9)= .int .i64 4∧a1.eval (.tmp 10)= .int .i64 3∧u=w3') ⟨by simp [hsz],aj,aj,aj,aj,rfl⟩ fun a u3 ⟨hsz,v1,v5,v9,v10,e⟩=> ?_
 subst e;apply ad.inLoop;refine ba ?_;obtain ⟨o4,w4',hrun,hr4,hk4,hb4⟩:=qt (w:=World.alloc u3 (.cells #[.int .u8 (IntKind.u8.wrap (x / 16777216))] 5)) (a:=⟨u3.heap.size,0,none⟩) (c:=1) (m:=1) (news:=[.int .u8 (IntKind.u8.wrap (x / 16777216))]) (v:=o3) (World.ownsRow.alloc hr3 _) rfl (jc #[.int .u8 (IntKind.u8.wrap (x / 16777216))] 5 rfl) (by simp [Value.oneCell']) ai
 (refine ad.app rfl rfl rfl bj aj aj hrun ?_;refine ay ?_)
 refine ba ?_;have K4:ah [] w w4':=ah.trans K3.alloc hk4 (fun b hb=> .inr (hf3 b hb));have hf4:∀b∈blk o4,w.heap.size≤b:=by
  intro b hb;rcases hb4 with h|h
  ·exact hf3 b (h▸hb)
  ·rw [h,List.mem_singleton] at hb;have:=K3.size;simp at hb;omega
 refine ad.cut (fun a1 u=>(a1.tmps.size=24∧a1.defers=[])∧a1.eval (.tmp 1)= .int .u32 x∧a1.eval (.tmp 5)=o4∧a1.eval (.tmp 9)= .int .i64 4∧a1.eval (.tmp 10)= .int .i64 4∧u=w4') ⟨by simp [hsz],aj,aj,aj,aj,rfl⟩ fun a u4 ⟨hsz,v1,v5,v9,v10,e⟩=> ?_
 subst e;refine zxl ?_;refine ba ?_;refine ad.dq (v:=o4) rfl hf rfl bz aj ⟨⟨_,rfl⟩,o4,rfl,?_,hf4,K4⟩;have e4:xs++fi (fu x)=xs++ [.int .u8 (IntKind.u8.wrap x)]++ [.int .u8 (IntKind.u8.wrap (x / 256))]++ [.int .u8 (IntKind.u8.wrap (x / 65536))]++ [.int .u8 (IntKind.u8.wrap (x / 16777216))]:=by simp [fi,fu]
 rw [e4];exact hr4
end
section
variable {w w1 w2:World}{v:Value}{n:Nat}{xs:List Value}
theorem afy {s pb po m c:Nat}{r k:Int}{bs:List Int}(hs:w.heap[s]? =some (.cells #[.int .u32 r,.int .u64 k] 260 (0,0)))(hm:m<1000000)(hl:bs.length=m)(hx:∀i x,bs[i]? =some x→w.cell? ⟨pb,po+i,none⟩=some (.int .u8 x))(hp:pb<w.heap.size)(hx0:∀x∈bs,0≤x∧x<256):
  Calls GP 134 #[pO s,.slice (some ⟨pb,po,none⟩) m c] w fun e w2=>e= .returned (.tuple #[])∧(∃k2,w2.heap[s]? =some (.cells #[.int .u32 (um r bs),.int .u64 k2] 260 (0,0)))∧ah [s] w w2:=by
 refine dn 134 29 Tryz.func134 fun a hf hsz hv=> ?_
 obtain ⟨v0,v1,-⟩:=ir hv;clear hv;have c0:w.cell? ⟨s,0,none⟩=some (.int .u32 r):=af hs ae;refine ba ?_;refine bt 92 (acu (c:=c) (r:=r) hm hl hx hp hx0) fun v w2 hr=> ?_
 obtain ⟨hv,K1⟩:=hr;obtain rfl:=bh hv;have hs1:=K1.on hs ae;have c0':w2.cell? ⟨s,0,none⟩=some (.int .u32 r):=af hs1 ae;have c1':w2.cell? ⟨s,1,none⟩=some (.int .u64 k):=af hs1 ae;have fz:∀j,w2.frozen? ⟨s,j,none⟩=false:=fun j=>ed hs1
 refine ba ?_;exact ad.fin rfl hf bz (results_none rfl _ _ _) ⟨rfl,⟨_,ee (ee hs1)⟩,ah.trans (K1.more ae) (by exact ei:ah [s] w2 _) ae⟩
theorem ssum_ok {s:Nat}{r:Int}{x:Value}(hs:w.heap[s]? =some (.cells #[.int .u32 r,x] 260 (0,0))):Calls GP 135 #[pO s] w fun e w2=>e= .returned (.int .u32 r)∧w2=w:=by
 refine dn 135 10 Tryz.func135 fun a hf hsz hv=> ?_
 obtain ⟨v0,-⟩:=ie hv;clear hv;have c0:w.cell? ⟨s,0,none⟩=some (.int .u32 r):=af hs ae;refine ba ?_;exact ad.dq rfl hf rfl bz aj ⟨rfl,rfl⟩
def abb (head j:Int)(bs:List Int):Int:=um (um 0 (fu head++fu j)) bs
theorem abz (x:Int):∀y∈fu x,0≤y∧y<256:=by
 have h:∀z:Int,0≤IntKind.u8.wrap z∧IntKind.u8.wrap z<256:=fun z=>by
  unfold IntKind.wrap;simp [IntKind.bits,IntKind.signed];omega
 intro y hy;simp only [fu,List.mem_cons,List.not_mem_nil,or_false] at hy;rcases hy with rfl|rfl|rfl|rfl <;> exact h _
theorem agf {g m:Nat}{c:Nat}{bs:List Int}(h:w.ownsRow 0 5 1 (sO g m c) m (fi bs)):∀i x,bs[i]? =some x→w.cell? ⟨g,0+i,none⟩=some (.int .u8 x):=fun i x hx=>by
 have:=h.cells (g:=g) rfl i (.int .u8 x) (by simp [fi,hx])
 rwa [Addr.add_lit] at this
theorem own_ok {pb po m c:Nat}{head j:Int}{bs:List Int}(hh:0≤head∧head<4294967296)(hj:0≤j∧j<4294967296)(hm:m<1000000)(hl:bs.length=m)(hx:∀i x,bs[i]? =some x→w.cell? ⟨pb,po+i,none⟩=some (.int .u8 x))(hp:pb<w.heap.size)(hx0:∀x∈bs,0≤x∧x<256):
  Calls GP 95 #[.int .u32 head,.int .i64 j,.slice (some ⟨pb,po,none⟩) m c] w fun e w2=>e= .returned (.int .u32 (abb head j bs))∧ah [] w w2:=by
 refine dn 95 17 Tryz.func95 fun a hf hsz hv=> ?_
 obtain ⟨v0,v1,v2,-⟩:=za3 hv;clear hv;have e1:IntKind.u32.wrap j=j:=by
  unfold IntKind.wrap;simp [IntKind.bits,IntKind.signed];omega
 refine ba ?_;refine bt 94 (qh (w:=World.alloc w (.cells #[.int .u32 0,.int .u64 0] 260)) (v:= .slice none 0 0) (n:=0) (xs:=[]) (World.ownsRow_nil _ _ _ _) (.inl rfl) ae ai hh) fun v w2 hr=> ?_
 obtain ⟨-,p1,hv,O1,F1,K1⟩:=hr;have hv:=(bh hv).symm;subst hv;refine ba ?_;refine bt 94 (qh (n:=0+4) O1 (.inr ai) (by simp [fi,Value.oneCell',fu]) ai hj) fun v w2 hr=> ?_
 obtain ⟨-,p2,hv,O2,F2,K2⟩:=hr;have hv:=(bh hv).symm;subst hv;obtain ⟨g,cap,rfl⟩:∃g cap,p2=sO g 8 cap:=by
  rcases O2.2 with ⟨_,h0⟩|⟨g,cap,cur,h,_⟩
  ·omega
  ·exact ⟨g,cap,h⟩
 have O3:w2.ownsRow 0 5 1 (sO g 8 cap) 8 (fi (fu head++fu j)):=by
  have:fi (fu head++fu j)=[]++fi (fu head)++fi (fu j):=by simp [fi]
  rw [this];exact O2
 have S2:=K2.on (K1.on (bu (w:=w) (o:= .cells #[.int .u32 0,.int .u64 0] 260)) ae) ae;have hg:=lj O3 g (by simp [blk,Value.ownBlock]);have hF:=F2 g (by simp [blk,Value.ownBlock]);have z1:=K1.size;have z2:=K2.size;have KA:ah [] w w2:=ah.trans (ah.trans (S:=[]) (ei) K1 ae) K2 ae;refine ba ?_;refine bt 134 (afy (c:=cap) S2 (by omega:8<1000000) rfl (agf O3) hg (by
  intro x hx;rcases List.mem_append.1 hx with h|h
  ·exact abz _ _ h
  ·exact abz _ _ h)) fun v w2 hr=> ?_
 obtain ⟨hv,⟨k2,S3⟩,K3⟩:=hr;obtain rfl:=bh hv;have KB:ah [] w w2:=ah.trans KA K3 ae;have hne:∀i,(⟨pb,po+i,none⟩:Addr).block∉([]:List Nat):=by simp
 refine ba ?_;refine bt 134 (afy (c:=c) S3 hm hl (fun i x h=>(KB.cell hp ae).trans (hx i x h)) (Nat.lt_of_lt_of_le hp KB.size) hx0) fun v w2 hr=> ?_
 obtain ⟨hv,⟨k3,S4⟩,K4⟩:=hr;obtain rfl:=bh hv;refine ba ?_;refine bt 135 (ssum_ok S4) fun v w2 hr=> ?_
 obtain ⟨hv,e⟩:=hr;obtain rfl:=bh hv;have e:=e.symm;subst e;refine ba ?_;exact ad.dq (v:= .int .u32 (abb head j bs)) rfl hf rfl bz et ⟨rfl,ah.trans KB K4 ae⟩
end
end Go.Proofs.YthgpdljlehklhaaGreat.wk
