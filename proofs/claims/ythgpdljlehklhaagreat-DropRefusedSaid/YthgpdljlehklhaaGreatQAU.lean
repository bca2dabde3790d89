/- Part QAU of the proof that DropRefused answers true whatever its input. No condition. -/
import Derived.Test.YthgpdljlehklhaaGreatQAT
set_option maxRecDepth 100000
namespace Go.Proofs.YthgpdljlehklhaaGreat.wk
open Go Go.Conc zr dr wd drv
set_option linter.unusedVariables false
set_option maxHeartbeats 4000000
def agt (x:Int):Int:=IntKind.u32.wrap (bits .or .u64 (bits .or .u64 (bits .or .u64 (bits .or .u64 0 (IntKind.u8.wrap x)) (IntKind.u64.wrap (IntKind.u8.wrap (x / 256)*256))) (IntKind.u64.wrap (IntKind.u8.wrap (x / 65536)*65536))) (IntKind.u64.wrap (IntKind.u8.wrap (x / 16777216)*16777216)))
theorem or64 {a b k:Nat}(hk:k<64)(ha:a<2 ^ k)(hb:a+b*2 ^ k<18446744073709551616):bits .or .u64 (a:Int) ((b*2 ^ k:Nat):Int)=((a+b*2 ^ k:Nat):Int):=by
 have h1:a ||| b*2 ^ k=a+b*2 ^ k:=by
  have:=Nat.two_pow_add_eq_or_of_lt ha b;rw [Nat.or_comm,Nat.mul_comm b,←this,Nat.add_comm]
 have ea:(BitVec.ofInt 64 (a:Int)).toNat=a:=by
  rw [BitVec.toNat_ofInt];have:(a:Int)<18446744073709551616:=by omega
  simp;omega
 have eb:(BitVec.ofInt 64 ((b*2 ^ k:Nat):Int)).toNat=b*2 ^ k:=by
  rw [BitVec.toNat_ofInt];generalize b*2 ^ k=c at*;simp;omega
 show IntKind.u64.wrap ((BitVec.ofInt 64 (a:Int) ||| BitVec.ofInt 64 ((b*2 ^ k:Nat):Int)).toNat:Int)=_;rw [BitVec.toNat_or,ea,eb,h1];generalize a+b*2 ^ k=c at*;unfold IntKind.wrap;simp [IntKind.bits,IntKind.signed];omega
theorem aio {x:Nat}(h:x<4294967296):agt x=x:=by
 have w8:∀y:Nat,IntKind.u8.wrap (y:Int)=((y % 256:Nat):Int):=fun y=>by
  unfold IntKind.wrap;simp [IntKind.bits,IntKind.signed]
 have w64:∀y:Nat,y<18446744073709551616→IntKind.u64.wrap (y:Int)=(y:Int):=fun y hy=>by
  unfold IntKind.wrap;simp [IntKind.bits,IntKind.signed];omega
 have d1:((x:Int) / 256)=((x / 256:Nat):Int):=by simp
 have d2:((x:Int) / 65536)=((x / 65536:Nat):Int):=by simp
 have d3:((x:Int) / 16777216)=((x / 16777216:Nat):Int):=by simp
 have m1:((x / 256 % 256:Nat):Int)*256=((x / 256 % 256*2 ^ 8:Nat):Int):=by simp
 have m2:((x / 65536 % 256:Nat):Int)*65536=((x / 65536 % 256*2 ^ 16:Nat):Int):=by simp
 have m3:((x / 16777216 % 256:Nat):Int)*16777216=((x / 16777216 % 256*2 ^ 24:Nat):Int):=by simp
 unfold agt;rw [d1,d2,d3,w8,w8,w8,w8,m1,m2,m3,w64 _ ai,w64 _ ai,w64 _ ai];have o0:bits .or .u64 0 ((x % 256:Nat):Int)=((x % 256:Nat):Int):=by
  have:=or64 (a:=0) (b:=x % 256) (k:=0) ai ai ai
  simpa using this
 rw [o0,or64 ai ai ai,or64 ai ai ai,or64 ai ai ai];unfold IntKind.wrap;simp [IntKind.bits,IntKind.signed];omega
def B32 (w:World)(g off:Nat)(x:Int):Prop:=∀j u,(fi (fu x))[j]? =some u→w.cell? ⟨g,off+j,none⟩=some u
section
variable {w w1 w2:World}{r g m c off n pv po:Nat}{x:Nat}
theorem apg (hr:w.heap[r]? =some (.cells (rd g m c off) 289 (0,0)))(hv0:w.cell? ⟨pv,0,none⟩=some (pO r))(hvr:pv≠r)(ho:w.heap[po]? =some (.cells #[.int .u32 0] 211 (0,0)))(hor:po≠r)(hgr:g≠r)(hgl:g<w.heap.size)(hpl:pv<w.heap.size)
  (hx:B32 w g off x)(hx0:x<4294967296)(hn:off+4≤m)(hm:m≤c)(hc:m<1000000):
  Calls GP 161 #[pO pv,pO po] w fun e w2=>e= .returned (.tuple #[])∧w2.heap[r]? =some (.cells (rd g m c ((off+4:Nat):Int)) 289 (0,0))∧w2.heap[po]? =some (.cells #[.int .u32 x] 211 (0,0))∧ah [r,po] w w2:=by
 refine dn 161 25 Tryz.func161 fun a hf hsz hv=> ?_
 obtain ⟨v0,v1,-⟩:=ir hv;clear hv;refine ba ?_;apply ad.wu (fun d u=>u.cell? ⟨pv,0,none⟩=some (pO r)) eo;intro dd;have hS0:(World.at w dd).cell? ⟨pv,0,none⟩=some (pO r):=hv0;refine zdv 0 ?_;refine zdv 5 ?_
 (apply LDr.gw 1 (f:=133) a9 rfl;(case hw=>exact bj);(case hc=>exact (ah8 (w:=World.at w dd)));(case hv=>rw [cw (f:=133) rfl];refine zam ?_;exact ey 133 a9 _ _);(case hret=>exact fun e w2 h=>⟨_,h.1⟩))
 case hS=>exact fun v w2 h=>h.2▸hS0
 intro v w2 ⟨hv,e⟩;obtain rfl:=bh hv;subst e;refine ay ?_;have e4:IntKind.u64.wrap 4=4:=by decide
 (apply LDr.solo 2 a9 rfl;(case hw=>exact bj);(case hv=>exact zxr);(try simp only [List.getElem_toArray,List.getElem_cons_zero,List.getElem_cons_succ]))
 case hS=>exact hS0
 refine ay ?_;have ht:=ae1 (n:=4) (w:=World.at w dd) hr hn hm hc ai;rw [show ((4:Nat):Int)=4 from rfl] at ht
 (apply LDr.gw 3 (f:=158) a9 rfl;(case hw=>exact bj);(case hc=>exact ht);(case hv=>rw [cw (f:=158) rfl];refine zam ?_;exact ey 158 a9 _ _);(case hret=>exact fun e w2 h=>⟨_,h.1⟩))
 case hS=>exact fun v w2 ⟨_,_,k⟩=>(k.cell hpl (by simpa using hvr)).trans hS0
 intro v w2 ⟨hv,R1,K1⟩;obtain rfl:=bh hv;have hS0:w2.cell? ⟨pv,0,none⟩=some (pO r):=(K1.cell hpl (by simpa using hvr)).trans hS0;refine ay ?_
 (apply LDr.solo 4 a9 rfl;(case hw=>exact bj);(case hv=>exact zxr);(try simp only [List.getElem_toArray,List.getElem_cons_zero,List.getElem_cons_succ]))
 case hS=>exact hS0
 refine ay ?_;apply LDr.fin a9;have K2:ah [r] w w2:=⟨K1.size,K1.ff,K1.os,K1.out⟩;have X:B32 w2 g off x:=fun j u h=>(K2.cell hgl (by simpa using hgr)).trans (hx j u h)
 have x0:w2.cell? ⟨g,off,none⟩=some (.int .u8 (IntKind.u8.wrap (x:Int))):=X 0 _ rfl;have x1:=X 1 _ rfl;have x2:=X 2 _ rfl;have x3:=X 3 _ rfl;have q:∀y:Int,IntKind.u64.wrap (IntKind.u8.wrap y)=IntKind.u8.wrap y:=fun y=>by
  unfold IntKind.wrap;simp [IntKind.bits,IntKind.signed];omega
 refine ad.cut (fun a1 u=>(a1.tmps.size=25∧a1.defers=[])∧a1.eval (.tmp 1)=pO po∧a1.eval (.tmp 2)= .int .u64 0∧a1.eval (.tmp 8)= .slice (some ⟨g,off,none⟩) 4 (c-off)∧a1.eval (.tmp 9)= .int .i64 4∧a1.eval (.tmp 10)= .int .i64 0∧u=w2) ⟨by simp [hsz],aj,aj,aj,aj,aj,rfl⟩ fun a u ⟨hsz,v1,v2,v8,v9,v10,e⟩=> ?_
 subst e;refine ba ?_;apply ad.loop;refine ba ?_;refine ad.cut (fun a1 z=>(a1.tmps.size=25∧a1.defers=[])∧a1.eval (.tmp 1)=pO po∧a1.eval (.tmp 2)= .int .u64 (bits .or .u64 0 (IntKind.u8.wrap (x:Int)))∧a1.eval (.tmp 8)= .slice (some ⟨g,off,none⟩) 4 (c-off)∧a1.eval (.tmp 9)= .int .i64 4∧a1.eval (.tmp 10)= .int .i64 1∧z=u) ⟨by simp [hsz],aj,aj,aj,aj,aj,rfl⟩ fun a y ⟨hsz,v1,v2,v8,v9,v10,e⟩=> ?_
 subst e;apply ad.inLoop;refine ba ?_;refine ad.cut (fun a1 z=>(a1.tmps.size=25∧a1.defers=[])∧a1.eval (.tmp 1)=pO po∧a1.eval (.tmp 2)= .int .u64 (bits .or .u64 (bits .or .u64 0 (IntKind.u8.wrap (x:Int))) (IntKind.u64.wrap (IntKind.u8.wrap ((x:Int) / 256)*256)))∧a1.eval (.tmp 8)= .slice (some ⟨g,off,none⟩) 4 (c-off)∧a1.eval (.tmp 9)= .int .i64 4∧a1.eval (.tmp 10)= .int .i64 2∧z=y) ⟨by simp [hsz],aj,aj,aj,aj,aj,rfl⟩ fun a y ⟨hsz,v1,v2,v8,v9,v10,e⟩=> ?_
 subst e;apply ad.inLoop;refine ba ?_;refine ad.cut (fun a1 z=>(a1.tmps.size=25∧a1.defers=[])∧a1.eval (.tmp 1)=pO po∧a1.eval (.tmp 2)= .int .u64 (bits .or .u64 (bits .or .u64 (bits .or .u64 0 (IntKind.u8.wrap (x:Int))) (IntKind.u64.wrap (IntKind.u8.wrap ((x:Int) / 256)*256))) (IntKind.u64.wrap (IntKind.u8.wrap ((x:Int) / 65536)*65536)))∧a1.eval (.tmp 8)= .slice (some ⟨g,off,none⟩) 4 (c-off)∧a1.eval (.tmp 9)= .int .i64 4∧a1.eval (.tmp 10)= .int .i64 3∧z=y) ⟨by simp [hsz],aj,aj,aj,aj,aj,rfl⟩ fun a y ⟨hsz,v1,v2,v8,v9,v10,e⟩=> ?_
 subst e;apply ad.inLoop;refine ba ?_;refine ad.cut (fun a1 z=>(a1.tmps.size=25∧a1.defers=[])∧a1.eval (.tmp 1)=pO po∧a1.eval (.tmp 2)= .int .u64 (bits .or .u64 (bits .or .u64 (bits .or .u64 (bits .or .u64 0 (IntKind.u8.wrap (x:Int))) (IntKind.u64.wrap (IntKind.u8.wrap ((x:Int) / 256)*256))) (IntKind.u64.wrap (IntKind.u8.wrap ((x:Int) / 65536)*65536))) (IntKind.u64.wrap (IntKind.u8.wrap ((x:Int) / 16777216)*16777216)))∧a1.eval (.tmp 8)= .slice (some ⟨g,off,none⟩) 4 (c-off)∧a1.eval (.tmp 9)= .int .i64 4∧a1.eval (.tmp 10)= .int .i64 4∧z=y) ⟨by simp [hsz],aj,aj,aj,aj,aj,rfl⟩ fun a y ⟨hsz,v1,v2,v8,v9,v10,e⟩=> ?_
 subst e;apply ad.inLoop;refine ba ?_;have P1:y.heap[po]? =some (.cells #[.int .u32 0] 211 (0,0)):=K2.on ho (by simpa using hor);have pc:y.cell? ⟨po,0,none⟩=some (.int .u32 0):=af P1 ae;have pz:y.frozen? ⟨po,0,none⟩=false:=ed P1;refine ba ?_;have hb:=ee (i:=0) (v:= .int .u32 (agt x)) P1;rw [aio hx0] at hb;have ev:=aio hx0;unfold agt at ev;rw [ev];have K3:ah [r,po] w (y.setCell ⟨po,0,none⟩ (.int .u32 x)):=ah.set (K2.more ae) (.inl ae);exact ad.fin rfl hf bz (results_none rfl _ _ _) ⟨rfl,(ig (fun e=>hor e.symm)).trans R1,by simpa using hb,K3⟩
theorem ao5:Calls GP 151 #[.int .u64 255] w fun e w2=>e= .returned (.int .i64 8)∧w2=w:=by
 refine dn 151 25 Tryz.func151 fun a hf hsz hv=> ?_
 obtain ⟨v0,-⟩:=ie hv;clear hv;refine zwk2 ?_;apply ad.val rfl (v:= .int .u8 8) (w1:=w)
 (case ho=>rfl)
 (case hw=>exact dt rfl)
 (case hr=>
  refine ay ?_;dsimp only [execOp];simp+decide only [eval_put,bn,eval_const,size_put,if_true,if_false, *];kernel_rfl)
 refine ay ?_;refine ba ?_;exact ad.dq rfl hf rfl bz aj ⟨rfl,rfl⟩
theorem width_8:Calls GP 160 #[] w fun e w2=>e= .returned (.int .i64 1)∧w2=w:=by
 refine dn 160 6 Tryz.func160 fun a hf hsz hv=> ?_
 clear hv;have e1:bits BinOp.xor IntKind.u8 IntKind.u8.max 0=255:=by kernel_rfl
 refine ba ?_;refine bt 151 ao5 fun v w2 hr=> ?_
 obtain ⟨hv,e⟩:=hr;obtain rfl:=bh hv;have e:=e.symm;subst e;refine ba ?_;exact ad.dq rfl hf rfl bz aj ⟨rfl,rfl⟩
theorem aph (hr:w.heap[r]? =some (.cells (rd g m c off) 289 (0,0)))(hv0:w.cell? ⟨pv,0,none⟩=some (pO r))(hvr:pv≠r)(ho:w.heap[po]? =some (.cells #[.int .u8 0] 5 (0,0)))(hor:po≠r)(hgr:g≠r)(hgl:g<w.heap.size)(hpl:pv<w.heap.size)
  (hx:w.cell? ⟨g,off,none⟩=some (.int .u8 x))(hx0:x<256)(hn:off+1≤m)(hm:m≤c)(hc:m<1000000):
  Calls GP 159 #[pO pv,pO po] w fun e w2=>e= .returned (.tuple #[])∧w2.heap[r]? =some (.cells (rd g m c ((off+1:Nat):Int)) 289 (0,0))∧w2.heap[po]? =some (.cells #[.int .u8 x] 5 (0,0))∧ah [r,po] w w2:=by
 refine dn 159 25 Tryz.func159 fun a hf hsz hv=> ?_
 obtain ⟨v0,v1,-⟩:=ir hv;clear hv;refine ba ?_;apply ad.wu (fun d u=>u.cell? ⟨pv,0,none⟩=some (pO r)) eo;intro dd;have hS0:(World.at w dd).cell? ⟨pv,0,none⟩=some (pO r):=hv0;refine zdv 0 ?_;refine zdv 5 ?_
 (apply LDr.gw 1 (f:=160) a9 rfl;(case hw=>exact bj);(case hc=>exact (width_8 (w:=World.at w dd)));(case hv=>rw [cw (f:=160) rfl];refine zam ?_;exact ey 160 a9 _ _);(case hret=>exact fun e w2 h=>⟨_,h.1⟩))
 case hS=>exact fun v w2 h=>h.2▸hS0
 intro v w2 ⟨hv,e⟩;obtain rfl:=bh hv;subst e;refine ay ?_;have e4:IntKind.u64.wrap 1=1:=by decide
 (apply LDr.solo 2 a9 rfl;(case hw=>exact bj);(case hv=>exact zxr);(try simp only [List.getElem_toArray,List.getElem_cons_zero,List.getElem_cons_succ]))
 case hS=>exact hS0
 refine ay ?_;have ht:=ae1 (n:=1) (w:=World.at w dd) hr hn hm hc ai;rw [show ((1:Nat):Int)=1 from rfl] at ht
 (apply LDr.gw 3 (f:=158) a9 rfl;(case hw=>exact bj);(case hc=>exact ht);(case hv=>rw [cw (f:=158) rfl];refine zam ?_;exact ey 158 a9 _ _);(case hret=>exact fun e w2 h=>⟨_,h.1⟩))
 case hS=>exact fun v w2 ⟨_,_,k⟩=>(k.cell hpl (by simpa using hvr)).trans hS0
 intro v w2 ⟨hv,R1,K1⟩;obtain rfl:=bh hv;have hS0:w2.cell? ⟨pv,0,none⟩=some (pO r):=(K1.cell hpl (by simpa using hvr)).trans hS0;refine ay ?_
 (apply LDr.solo 4 a9 rfl;(case hw=>exact bj);(case hv=>exact zxr);(try simp only [List.getElem_toArray,List.getElem_cons_zero,List.getElem_cons_succ]))
 case hS=>exact hS0
 refine ay ?_;apply LDr.fin a9;have K2:ah [r] w w2:=⟨K1.size,K1.ff,K1.os,K1.out⟩;have x0:w2.cell? ⟨g,off,none⟩=some (.int .u8 x):=(K2.cell hgl (by simpa using hgr)).trans hx;have q:IntKind.u64.wrap (x:Int)=x:=by
  unfold IntKind.wrap;simp [IntKind.bits,IntKind.signed];omega
 have q8:IntKind.u8.wrap (x:Int)=x:=by
  unfold IntKind.wrap;simp [IntKind.bits,IntKind.signed];omega
 have qo:bits .or .u64 0 (x:Int)=x:=by
  have:=or64 (a:=0) (b:=x) (k:=0) ai ai ai
  simpa using this
 refine ad.cut (fun a1 u=>(a1.tmps.size=25∧a1.defers=[])∧a1.eval (.tmp 1)=pO po∧a1.eval (.tmp 2)= .int .u64 0∧a1.eval (.tmp 8)= .slice (some ⟨g,off,none⟩) 1 (c-off)∧a1.eval (.tmp 9)= .int .i64 1∧a1.eval (.tmp 10)= .int .i64 0∧u=w2) ⟨by simp [hsz],aj,aj,aj,aj,aj,rfl⟩ fun a u ⟨hsz,v1,v2,v8,v9,v10,e⟩=> ?_
 subst e;have P1:u.heap[po]? =some (.cells #[.int .u8 0] 5 (0,0)):=K2.on ho (by simpa using hor);have pc:u.cell? ⟨po,0,none⟩=some (.int .u8 0):=af P1 ae;have pz:u.frozen? ⟨po,0,none⟩=false:=ed P1;refine ba ?_;apply ad.loop;refine ba ?_;apply ad.inLoop;refine ba ?_;have hb:=ee (i:=0) (v:= .int .u8 x) P1;have K3:ah [r,po] w (u.setCell ⟨po,0,none⟩ (.int .u8 x)):=ah.set (K2.more ae) (.inl ae);exact ad.fin rfl hf bz (results_none rfl _ _ _) ⟨rfl,(ig (fun e=>hor e.symm)).trans R1,by simpa using hb,K3⟩
end
section
variable {w w1 w2:World}{r g m c off n pv po:Nat}{x:Nat}
theorem B32.on {x:Int}{S:List Nat}(h:B32 w g off x)(hk:ah S w w1)(hg:g<w.heap.size)(hn:g∉S):B32 w1 g off x:=fun j u hj=>(hk.cell hg hn).trans (h j u hj)
theorem qx (hr:w.heap[r]? =some (.cells (rd g m c off) 289 (0,0)))(hgr:g≠r)(hgl:g<w.heap.size)(hx:B32 w g off x)(hx0:x<4294967296)(hn:off+4≤m)(hm:m≤c)(hc:m<1000000):
  Calls GP 143 #[pO r] w fun e w2=>e= .returned (.int .u32 x)∧w2.heap[r]? =some (.cells (rd g m c ((off+4:Nat):Int)) 289 (0,0))∧ah [r] w w2:=by
 refine dn 143 8 Tryz.func143 fun a hf hsz hv=> ?_
 obtain ⟨v0,-⟩:=ie hv;clear hv;have hrl:=bf hr;refine ba ?_;have K0:ah [] w ((w.alloc (.cells #[pO r] 268)).alloc (.cells #[.int .u32 0] 211)):=ei;have P1:((w.alloc (.cells #[pO r] 268)).alloc (.cells #[.int .u32 0] 211)).heap[w.heap.size]? =some (.cells #[pO r] 268 (0,0)):=bw bu;have P2:((w.alloc (.cells #[pO r] 268)).alloc (.cells #[.int .u32 0] 211)).heap[w.heap.size+1]? =some (.cells #[.int .u32 0] 211 (0,0)):=fy ae;have hrd:=aab (f:=161) (caps:=#[pO w.heap.size,pO (w.heap.size+1)]) (Q:=fun w1 w2=>w2.heap[r]? =some (.cells (rd g m c ((off+4:Nat):Int)) 289 (0,0))∧w2.heap[w.heap.size+1]? =some (.cells #[.int .u32 x] 211 (0,0))∧ah [r,w.heap.size+1] w1 w2) a9 (K0.on hr ae) fun w1 K=>apg (K.on (K0.on hr ae) ae) (af (K.on P1 ae) ae) ai (K.on P2 ae) ai hgr (Nat.lt_of_lt_of_le hgl (Nat.le_trans K0.size K.size)) (bf (K.on P1 ae)) ((hx.on K0 hgl ae).on K (Nat.lt_of_lt_of_le hgl K0.size) ae) hx0 hn hm hc
 refine bt 155 hrd fun v w2 hr=> ?_
 obtain ⟨hv,w1,K1,R1,R2,K2⟩:=hr;obtain rfl:=bh hv;have c1:w2.cell? ⟨w.heap.size+1,0,none⟩=some (.int .u32 x):=af R2 ae;refine ad.cut (fun a1 u=>(a1.tmps.size=8∧a1.defers=[])∧a1.eval (.tmp 3)=pO (w.heap.size+1)∧u=w2) ⟨by simp [hsz],aj,rfl⟩ fun a u ⟨hsz,v3,e⟩=> ?_
 subst e;refine ba ?_;exact ad.dq rfl hf rfl bz aj ⟨rfl,R1,ah.trans (ah.trans (K0.more ae) K1 ae) K2 (fun b hb=>by
  simp at hb;rcases hb with rfl|rfl
  ·exact .inl ae
  ·exact .inr ai)⟩
theorem aa8 (hr:w.heap[r]? =some (.cells (rd g m c off) 289 (0,0)))(hgr:g≠r)(hgl:g<w.heap.size)(hx:w.cell? ⟨g,off,none⟩=some (.int .u8 x))(hx0:x<256)(hn:off+1≤m)(hm:m≤c)(hc:m<1000000):
  Calls GP 142 #[pO r] w fun e w2=>e= .returned (.int .u8 x)∧w2.heap[r]? =some (.cells (rd g m c ((off+1:Nat):Int)) 289 (0,0))∧ah [r] w w2:=by
 refine dn 142 8 Tryz.func142 fun a hf hsz hv=> ?_
 obtain ⟨v0,-⟩:=ie hv;clear hv;have hrl:=bf hr;refine ba ?_;have K0:ah [] w ((w.alloc (.cells #[pO r] 268)).alloc (.cells #[.int .u8 0] 5)):=ei;have P1:((w.alloc (.cells #[pO r] 268)).alloc (.cells #[.int .u8 0] 5)).heap[w.heap.size]? =some (.cells #[pO r] 268 (0,0)):=bw bu;have P2:((w.alloc (.cells #[pO r] 268)).alloc (.cells #[.int .u8 0] 5)).heap[w.heap.size+1]? =some (.cells #[.int .u8 0] 5 (0,0)):=fy ae;have hrd:=aab (f:=159) (caps:=#[pO w.heap.size,pO (w.heap.size+1)]) (Q:=fun w1 w2=>w2.heap[r]? =some (.cells (rd g m c ((off+1:Nat):Int)) 289 (0,0))∧w2.heap[w.heap.size+1]? =some (.cells #[.int .u8 x] 5 (0,0))∧ah [r,w.heap.size+1] w1 w2) a9 (K0.on hr ae) fun w1 K=>aph (K.on (K0.on hr ae) ae) (af (K.on P1 ae) ae) ai (K.on P2 ae) ai hgr (Nat.lt_of_lt_of_le hgl (Nat.le_trans K0.size K.size)) (bf (K.on P1 ae)) ((K.cell (Nat.lt_of_lt_of_le hgl K0.size) ae).trans ((K0.cell hgl ae).trans hx)) hx0 hn hm hc
 refine bt 155 hrd fun v w2 hr=> ?_
 obtain ⟨hv,w1,K1,R1,R2,K2⟩:=hr;obtain rfl:=bh hv;have c1:w2.cell? ⟨w.heap.size+1,0,none⟩=some (.int .u8 x):=af R2 ae;refine ad.cut (fun a1 u=>(a1.tmps.size=8∧a1.defers=[])∧a1.eval (.tmp 3)=pO (w.heap.size+1)∧u=w2) ⟨by simp [hsz],aj,rfl⟩ fun a u ⟨hsz,v3,e⟩=> ?_
 subst e;refine ba ?_;exact ad.dq rfl hf rfl bz aj ⟨rfl,R1,ah.trans (ah.trans (K0.more ae) K1 ae) K2 (fun b hb=>by
  simp at hb;rcases hb with rfl|rfl
  ·exact .inl ae
  ·exact .inr ai)⟩
end
def BL (w:World)(g off:Nat)(bs:List Int):Prop:=∀j u,(fi bs)[j]? =some u→w.cell? ⟨g,off+j,none⟩=some u
section
variable {w w1 w2:World}{r g m c off n pn pv ps:Nat}{bs:List Int}
theorem BL.on {S:List Nat}(h:BL w g off bs)(hk:ah S w w1)(hg:g<w.heap.size)(hn:g∉S):BL w1 g off bs:=fun j u hj=>(hk.cell hg hn).trans (h j u hj)
theorem byt_ok (hr:w.heap[r]? =some (.cells (rd g m c off) 289 (0,0)))(hn0:w.cell? ⟨pn,0,none⟩=some (.int .i64 n))(hnl:pn<w.heap.size)(hnr:pn≠r)(hv0:w.cell? ⟨pv,0,none⟩=some (pO r))(hvr:pv≠r)(hs:w.heap[ps]? =some (.cells #[.slice none 0 0] 49 (0,0)))(hsr:ps≠r)(hgr:g≠r)(hgl:g<w.heap.size)(hpl:pv<w.heap.size)
  (hx:BL w g off bs)(hl:bs.length=n)(hpos:0<n)(hn:off+n≤m)(hm:m≤c)(hc:m<1000000):
  Calls GP 156 #[pO pn,pO pv,pO ps] w fun e w2=>e= .returned (.tuple #[])∧w2.heap[r]? =some (.cells (rd g m c ((off+n:Nat):Int)) 289 (0,0))∧(∃g2 cap,w2.heap[ps]? =some (.cells #[sO g2 n cap] 49 (0,0))∧w2.ownsRow 0 5 1 (sO g2 n cap) n (fi bs)∧w.heap.size≤g2)∧ah [r,ps] w w2:=by
 refine dn 156 11 Tryz.func156 fun a hf hsz hv=> ?_
 obtain ⟨v0,v1,v2,-⟩:=za3 hv;clear hv;have hrd:=hr;have hge:decide ((0:Int)≤n)=true:=by simp
 have e4:IntKind.u64.wrap (n:Int)=n:=by
  unfold IntKind.wrap;simp [IntKind.bits,IntKind.signed];omega
 refine ba ?_;refine bt 157 (akh (e:=2)) fun v w2 hr=> ?_
 obtain ⟨hv,e⟩:=hr;obtain rfl:=bh hv;have e:=e.symm;subst e;refine ba ?_;refine bt 158 (ae1 hrd hn hm hc hpos) fun v w2 hr=> ?_
 obtain ⟨hv,R1,K1⟩:=hr;obtain rfl:=bh hv;have hx1:=hx.on K1 hgl (by simpa using hgr);refine bt 49 (rf (p:=⟨g,off,none⟩) (m:=n) (c:=c-off) (news:=fi bs) (by simp [fi,hl]) (fun j u hj=>by
  rw [Addr.add_lit];exact hx1 j u hj) (Nat.lt_of_lt_of_le hgl K1.size) (by simp [fi,Value.oneCell']) hpos ai) fun v w2 hr=> ?_
 obtain ⟨-,g2,cap,hv,O1,l1,K2⟩:=hr;have hv:=(bh hv).symm;subst hv;have K3:ah [r] w w2:=K1.trans K2 ae;have P1:w2.heap[ps]? =some (.cells #[.slice none 0 0] 49 (0,0)):=K3.on hs (by simpa using hsr);have R2:=K2.on R1 ae;have pc:w2.cell? ⟨ps,0,none⟩=some (.slice none 0 0):=af P1 ae;have pz:w2.frozen? ⟨ps,0,none⟩=false:=ed P1;have hpsl:=bf hs;refine ba ?_;have hb:=ee (i:=0) (v:=sO g2 n cap) P1;have K4:ah [ps] w2 (w2.setCell ⟨ps,0,none⟩ (sO g2 n cap)):=ah.set (ah.refl _ _) (.inl ae);have q:=K1.size;have O2:=jk O1 K4 (by simp [blk,Value.ownBlock];omega);exact ad.fin rfl hf bz (results_none rfl _ _ _) ⟨rfl,(ig (fun e=>hsr e.symm)).trans R2,⟨g2,cap,by simpa using hb,O2,by omega⟩,ah.trans (K3.more ae) K4 ae⟩
theorem aiw {P:Program}{fn:Func}{tmps:Array Value}{s:Tmp}{ty:TypeId}{b:Nat}{v:Value}(hr:fn.results=#[.cell s ty])(hs:tmps.getD s undef=pO b)(hl:(loadVar ty ⟨b,0,none⟩).run P w= .ok v w):(results fn tmps).run P w= .ok v w:=by
 unfold results;rw [hr];rw [Array.getD_eq_getD_getElem?] at hs;simp [hs,asAddr,Sem.run_bind,hl]
theorem ld49 {v:Value}(h:w.cell? ⟨ps,0,none⟩=some v):(loadVar 49 ⟨ps,0,none⟩).run GP w= .ok v w:=by
 go_simp
theorem bytes_ok (hr:w.heap[r]? =some (.cells (rd g m c off) 289 (0,0)))(hgr:g≠r)(hgl:g<w.heap.size)(hx:BL w g off bs)(hl:bs.length=n)(hpos:0<n)(hn:off+n≤m)(hm:m≤c)(hc:m<1000000):
  Calls GP 141 #[pO r,.int .i64 n] w fun e w2=>(∃v,e= .returned v)∧∃g2 cap,e= .returned (sO g2 n cap)∧w2.ownsRow 0 5 1 (sO g2 n cap) n (fi bs)∧w.heap.size≤g2∧w2.heap[r]? =some (.cells (rd g m c ((off+n:Nat):Int)) 289 (0,0))∧ah [r] w w2:=by
 refine dn 141 9 Tryz.func141 fun a hf hsz hv=> ?_
 obtain ⟨v0,v1,-⟩:=ir hv;clear hv;have hrl:=bf hr;refine ba ?_;have K0:ah [] w (((w.alloc (.cells #[pO r] 268)).alloc (.cells #[.int .i64 n] 3)).alloc (.cells #[.slice none 0 0] 49)):=ei;have P0:(((w.alloc (.cells #[pO r] 268)).alloc (.cells #[.int .i64 n] 3)).alloc (.cells #[.slice none 0 0] 49)).heap[w.heap.size]? =some (.cells #[pO r] 268 (0,0)):=bw (bw bu);have P1:(((w.alloc (.cells #[pO r] 268)).alloc (.cells #[.int .i64 n] 3)).alloc (.cells #[.slice none 0 0] 49)).heap[w.heap.size+1]? =some (.cells #[.int .i64 n] 3 (0,0)):=bw (fy ae);have P2:(((w.alloc (.cells #[pO r] 268)).alloc (.cells #[.int .i64 n] 3)).alloc (.cells #[.slice none 0 0] 49)).heap[w.heap.size+1+1]? =some (.cells #[.slice none 0 0] 49 (0,0)):=fy ae;have hrd:=aab (f:=156) (caps:=#[pO (w.heap.size+1),pO w.heap.size,pO (w.heap.size+1+1)]) (Q:=fun w1 w2=>w2.heap[r]? =some (.cells (rd g m c ((off+n:Nat):Int)) 289 (0,0))∧(∃g2 cap,w2.heap[w.heap.size+1+1]? =some (.cells #[sO g2 n cap] 49 (0,0))∧w2.ownsRow 0 5 1 (sO g2 n cap) n (fi bs)∧w1.heap.size≤g2)∧ah [r,w.heap.size+1+1] w1 w2) a9 (K0.on hr ae) fun w1 K=>byt_ok (K.on (K0.on hr ae) ae) (af (K.on P1 ae) ae) (bf (K.on P1 ae)) ai (af (K.on P0 ae) ae) ai (K.on P2 ae) ai hgr (Nat.lt_of_lt_of_le hgl (Nat.le_trans K0.size K.size)) (bf (K.on P0 ae)) ((hx.on K0 hgl ae).on K (Nat.lt_of_lt_of_le hgl K0.size) ae) hl hpos hn hm hc
 refine bt 155 hrd fun v w2 hr=> ?_
 obtain ⟨hv,w1,K1,R1,⟨g2,cap,R2,O1,l1⟩,K2⟩:=hr;obtain rfl:=bh hv;have c1:w2.cell? ⟨w.heap.size+1+1,0,none⟩=some (sO g2 n cap):=af R2 ae;have z1:w2.frozen? ⟨w.heap.size+1+1,0,none⟩=false:=ed R2;have q0:=K0.size;have q1:=K1.size;have K3:ah [r] w w2:=ah.trans (ah.trans (K0.more ae) K1 ae) K2 (fun b hb=>by
  simp at hb;rcases hb with rfl|rfl
  ·exact .inl ae
  ·exact .inr ai)
 refine ad.cut (fun a1 u=>(a1.tmps.size=9∧a1.defers=[])∧a1.eval (.tmp 4)=pO (w.heap.size+1+1)∧u=w2) ⟨by simp [hsz],aj,rfl⟩ fun a u ⟨hsz,v4,e⟩=> ?_
 subst e;refine ba ?_;have hb:=ee (i:=0) (v:=sO g2 n cap) R2;have hg2:g2≠w.heap.size+1+1:=by
  have:=bf (K1.on P2 ae);omega
 have K4:ah [w.heap.size+1+1] u (u.setCell ⟨w.heap.size+1+1,0,none⟩ (sO g2 n cap)):=ah.set (ah.refl _ _) (.inl ae);refine ad.ret rfl hf bz (aiw rfl (b:=w.heap.size+1+1) (show Act.eval _ (.tmp 4)=_ from aj) (ld49 (af hb ae))) ?_;refine ⟨⟨_,rfl⟩,g2,cap,rfl,jk O1 K4 (by simpa [blk,Value.ownBlock] using hg2),by omega,(ig ai).trans R1,ah.trans K3 K4 (by simp;omega)⟩
end
end Go.Proofs.YthgpdljlehklhaaGreat.wk
