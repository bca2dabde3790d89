/- Part QBG of the proof that DropRefused answers true whatever its input. No condition. -/
import Derived.Test.YthgpdljlehklhaaGreatQBF
set_option maxRecDepth 100000
namespace Go.Proofs.YthgpdljlehklhaaGreat.wk
open Go Go.Conc zr dr wd drv
set_option linter.unusedVariables false
set_option maxHeartbeats 4000000
section
variable {w w1 w2 u:World}{pb cap:Nat}
theorem u27:GP.underlying 27=some (Tryz.prog.underlying 27).get! :=by kernel_rfl
theorem i27 {cs:Array Value}(h:cs.size=3):(GP.info? 27).map (·.size)=some cs.size:=by rw [ek,h];kernel_rfl
theorem ldR27 {b:Nat}{cs:Array Value}{e:TypeId} {z}(h:w.heap[b]? =some (.cells cs e z))(hs:cs.size=3):(Instr.loadAt 27 (pO b)).run GP w= .ok (.agg cs) w:=pg u27 du (i27 hs) h
theorem lvR27 {b:Nat}{cs:Array Value}{e:TypeId} {z}(h:w.heap[b]? =some (.cells cs e z))(hs:cs.size=3):(loadVar 27 ⟨b,0,none⟩).run GP w= .ok (.agg cs) w:=ks u27 du (i27 hs) h
theorem st27 {b:Nat}{cs vs:Array Value}{e:TypeId}(h:w.heap[b]? =some (.cells cs e (0,0)))(hs:cs.size=3)(hv:vs.size=3)(h1:vs.all (·.oneCell')=true):∃w2,(Instr.storeAt 27 (pO b) (.agg vs)).run GP w= .ok () w2∧w2.heap[b]? =some (.cells vs e (0,0))∧ah [b] w w2∧w2.heap.size=w.heap.size:=kg (i27 hv) h1 ai h
theorem Pl1.wide {lo lo2 hi g d now kept m b:Nat}(h:Pl1 w lo hi g d now kept m b)(h1:lo2≤lo):Pl1 w lo2 hi g d now kept m b:=
 ⟨h.wn,h.dr,h.no,h.ke,h.md,h.mb,h.nk,by have:=h.ge;omega,h.lt⟩
def MakQ (w:World):Ending→World→Prop:=fun e w2=>(∃v,e= .returned v)∧∃(D W M:Value)(lo1 lo2 hi g0 d0 now0 kept0 m0 b0 g1 d1 now1 kept1 m1 b1 g2 d2 now2 kept2 m2 b2:Nat),e= .returned (.tuple #[.agg #[D,W,M],.bool true])∧
 w2.ownsRow w.heap.size 68 1 D 3 [dk g0,dk g1,dk g2]∧w2.ownsRow w.heap.size 73 1 W 3 [pO g0,pO g1,pO g2]∧w2.ownsRow w.heap.size 75 1 M 3 [pO m0,pO m1,pO m2]∧
 Pl1 w2 w.heap.size lo1 g0 d0 now0 kept0 m0 b0∧Pl1 w2 lo1 lo2 g1 d1 now1 kept1 m1 b1∧Pl1 w2 lo2 hi g2 d2 now2 kept2 m2 b2∧ah [] w w2
theorem make_ok (hp:pb<w.heap.size)(hP:∀i,i<3→w.rangeAt pb (i*9) pl9.toList):Calls GP 36 #[sO pb 3 cap] w (MakQ w):=by
 refine dn 36 95 Tryz.func36 fun a hf hsz hv=> ?_
 unfold MakQ;obtain ⟨v0,-⟩:=ie hv;clear hv;refine au ?_;refine ad.ib (fun u=>u.heap[w.heap.size]? =some (.cells #[.slice none 0 0,.slice none 0 0,.slice none 0 0] 27 (0,0))∧u.heap[w.heap.size+1]? =some (.cells #[.slice none 0 0,.slice none 0 0,.slice none 0 0] 27 (0,0))∧ah [] w u) ⟨bw bu,fy ae,ei⟩ fun u ⟨hb2,hb,K⟩=> ?_
 obtain ⟨b4,hb4⟩:∃b,w.heap.size+1=b:=⟨_,rfl⟩;rw [hb4] at hb;have oD:=World.ownsRow_nil u w.heap.size 68 1;have oW:=World.ownsRow_nil u w.heap.size 73 1;have oM:=World.ownsRow_nil u w.heap.size 75 1;have ge:w.heap.size≤b4:=by omega
 have n24:w.heap.size≠b4:=by omega
 refine kl [0,2,3,4,5] fun a1 hsz hK=> ?_;obtain ⟨v0,v2,v3,v4,v5,-⟩:=hK
 try rw [hb4] at v4
 clear hb4;apply ad.loop;have hR:=hP 0 ai;have hR:u.rangeAt pb 0 pl9.toList:=fun j v hj=>(K.cell hp ae).trans (hR j v hj)
 obtain ⟨lo0,hlo0⟩:∃l,u.heap.size=l:=⟨_,rfl⟩;have hlo0':lo0≤u.heap.size:=by omega
 have wlo:w.heap.size≤lo0:=by
  have:=K.size;omega
 refine au ?_;refine iq (ld56 hR) ?_;refine au ?_;obtain ⟨x1,r5,b6,K5,-⟩:=st56 (w:=World.alloc _ (.cells z56 56)) (v:=pl9) bu rfl rfl (by simp [pl9,Value.oneCell'])
 (refine ad.jq rfl rfl rfl bj aj et r5 ?_;refine ay ?_)
 have K5:=(ah.alloc (ah.refl [] _)).trans K5 (T:=[_]) (S:=[]) ae;have hb2:=(K5).on hb2 ae;have hb:=(K5).on hb ae;have oD:=bq oD (K5) ae;have oW:=bq oW (K5) ae;have oM:=bq oM (K5) ae;have K:=K.trans (K5) ae;have s1:=K5.size;refine ad.ak ?_;refine kl [0,2,3,4,5,6] fun a1 hsz hK=> ?_;obtain ⟨v0,v2,v3,v4,v5,v6,-⟩:=hK
 try rw [hlo0] at b6
 try rw [hlo0] at v6
 clear hR r5 K5;have d0:x1.cell? ⟨lo0,0,none⟩=some (.bool true):=af b6 (by simp [pl9]);have d1:x1.cell? ⟨lo0,1,none⟩=some (.int .i64 16777216):=af b6 (by simp [pl9]);have d2:x1.cell? ⟨lo0,2,none⟩=some (.slice none 0 0):=af b6 (by simp [pl9]);refine au ?_;refine bt 62 ab1 fun v w2 hr=> ?_
 rename World=>x2
 obtain ⟨hv,hm0,K5⟩:=hr;obtain rfl:=bh hv;have hmb:=hm0;have hb2:=(K5).on hb2 ae;have hb:=(K5).on hb ae;have oD:=bq oD (K5) ae;have oW:=bq oW (K5) ae;have oM:=bq oM (K5) ae;have K:=K.trans (K5) ae;have b6:=K5.on b6 ae;have s2:=K5.size;refine au ?_;refine bt 61 (abn (d:=x1.heap.size)) fun v w2 hr=> ?_
 rename World=>x3
 obtain ⟨hv,hmd,K5⟩:=hr;obtain rfl:=bh hv;have hmb:=K5.on hmb ae;have hb2:=(K5).on hb2 ae;have hb:=(K5).on hb ae;have oD:=bq oD (K5) ae;have oW:=bq oW (K5) ae;have oM:=bq oM (K5) ae;have K:=K.trans (K5) ae;have b6:=K5.on b6 ae;have s3:=K5.size;have s4:=bf hmd;have s4':=bf hmb;clear d0 d1 d2 K5;have d1:x3.cell? ⟨lo0,1,none⟩=some (.int .i64 16777216):=af b6 (by simp [pl9]);have d2:x3.cell? ⟨lo0,2,none⟩=some (.slice none 0 0):=af b6 (by simp [pl9]);refine au ?_;obtain ⟨mm0,hmm⟩:∃n,x2.heap.size=n:=⟨_,rfl⟩;obtain ⟨bm0,hbm⟩:∃n,x1.heap.size=n:=⟨_,rfl⟩;refine kl [0,2,3,4,5,6,7] fun a1 hsz hK=> ?_;obtain ⟨v0,v2,v3,v4,v5,v6,v7,-⟩:=hK
 try rw [hmm] at v7
 try rw [hmm] at hmd
 try rw [hbm] at hmb
 try rw [hbm] at hmd
 have s5:lo0≤mm0∧lo0≤bm0∧mm0<x3.heap.size∧bm0<x3.heap.size:=by omega
 clear hmm hbm s1 s2 s3 s4 s4';apply ad.kj 8 (fun _ q=>q.cell? ⟨lo0,1,none⟩=some (.int .i64 16777216)∧q.cell? ⟨lo0,2,none⟩=some (.slice none 0 0)) eo;intro dd;have hS0:(World.at x3 dd).cell? ⟨lo0,1,none⟩=some (.int .i64 16777216)∧(World.at x3 dd).cell? ⟨lo0,2,none⟩=some (.slice none 0 0):=⟨d1,d2⟩;refine cg 0 ?_;refine cg 1 ?_;refine cg 2 ?_;refine cg 3 ?_
 (apply fa.gw 4 (f:=65) a9 rfl;(case hw=>exact bj);(case hc=>exact (ady (w:=World.at x3 dd)));(case hv=>rw [cw (f:=65) rfl];refine zam ?_;exact ey 65 a9 _ _);(case hret=>exact fun e w2 h=>⟨_,h.1⟩))
 intro v w2 ⟨hv,e⟩;obtain rfl:=bh hv;subst e;refine ⟨fun _=>hS0,?_⟩;refine ay ?_
 (apply fa.gw 5 (f:=64) a9 rfl;(case hw=>exact bj);(case hc=>exact (ae3 (w:=World.at x3 dd)));(case hv=>rw [cw (f:=64) rfl];refine zam ?_;exact ey 64 a9 _ _);(case hret=>exact fun e w2 h=>h.1))
 intro v x4 ⟨_,dd0,now0,kept0,hv,hdr,hno,hke,⟨hnk,hnd,hkd⟩,⟨g1,g2,g3⟩,K5⟩;obtain rfl:=bh hv;have K5:ah [] x3 x4:=⟨K5.size,K5.ff,K5.os,K5.out⟩;have g1:x3.heap.size≤dd0:=g1;have g2:x3.heap.size≤now0:=g2;have g3:x3.heap.size≤kept0:=g3;have l6:=bf b6;refine ⟨fun _=>⟨(K5.cell l6 ae).trans d1,(K5.cell l6 ae).trans d2⟩,?_⟩;refine ay ?_
 (apply fa.gw 6 (f:=63) a9 rfl;(case hw=>exact bj);(case hc=>exact (ab9 (w:=x4) (d:=dd0)));(case hv=>rw [cw (f:=63) rfl];refine zam ?_;exact ey 63 a9 _ _);(case hret=>exact fun e w2 h=>⟨_,h.1⟩))
 intro v x5 ⟨hv,hwn,K6⟩;obtain rfl:=bh hv;have K7:=K5.trans K6 ae;refine ⟨fun _=>⟨(K7.cell l6 ae).trans d1,(K7.cell l6 ae).trans d2⟩,?_⟩;refine ay ?_;refine zmo 7 ?_ (hS:=by exact (fun _=>⟨(K7.cell l6 ae).trans d1,(K7.cell l6 ae).trans d2⟩));refine ay ?_;apply fa.fin a9;obtain ⟨gg0,hgg⟩:∃n,x4.heap.size=n:=⟨_,rfl⟩;have s6:=bf hdr;have s7:=bf hno;have s8:=bf hke;have s9:=bf hwn;have sA:=K5.size;have sB:=K6.size
 try rw [hgg] at hwn
 try rw [hgg] at s9
 have P0:Pl1 x5 lo0 x5.heap.size gg0 dd0 now0 kept0 mm0 bm0:=⟨hwn,K6.on hdr ae,K6.on hno ae,K6.on hke ae,K7.on hmd ae,K7.on hmb ae,hnk,⟨by omega,by omega,by omega,by omega,by omega,by omega⟩,⟨by omega,by omega,by omega,by omega,by omega,by omega⟩⟩;have hb2:=(K7).on hb2 ae;have hb:=(K7).on hb ae;have oD:=bq oD (K7) ae;have oW:=bq oW (K7) ae;have oM:=bq oM (K7) ae;have K:=K.trans (K7) ae;have b6:=K7.on b6 ae;refine au ?_;refine kl [0,2,3,4,5,6,7,8,40] fun a1 hsz hK=> ?_;obtain ⟨v0,v2,v3,v4,v5,v6,v7,v8,v40,-⟩:=hK
 try rw [hgg] at v8
 obtain ⟨hi0,hhi⟩:∃n,x5.heap.size=n:=⟨_,rfl⟩;have zz:hi0≤x5.heap.size:=by omega
 rw [hhi] at P0;clear hhi;clear d1 d2 K5 K6 K7 hdr hno hke hwn hmd hmb hS0 s6 s7 s8 s9 sA sB hgg l6 g1 g2 g3 hnd hkd;have cc:x5.cell? ⟨b4,2,none⟩=some (.slice none 0 0):=af hb ae;refine au ?_;obtain ⟨qM0,cM0,x6,r1,cM,fM,hb',oD',oW',oM',K',⟨KS,hS⟩,sz⟩:=mkM (x:=pO mm0) hb oD oW oM K ge rfl ai (j:=1) rfl;have nb2:w.heap.size∉blk (.slice none 0 0)++ [b4]:=by
  rw [List.mem_append,not_or];exact ⟨ju oM hb2 (by intro cur h;cases h),by simpa using n24⟩
 have nb6:lo0∉blk (.slice none 0 0)++ [b4]:=by
  rw [List.mem_append,not_or];refine ⟨ju oM b6 (by intro cur h;cases h),fun h=> ?_⟩;rw [List.mem_singleton] at h;rw [h,hb] at b6;cases b6
 have hb2:=KS.on hb2 nb2;have b6:=KS.on b6 nb6;have P0:=P0.on KS hS;have oD:=oD';have oW:=oW';have oM:=oM';have hb:=hb';have K:=K';have zz:=Nat.le_trans zz sz;clear sz
 (refine ad.app rfl rfl rfl bj aj aj r1 ?_;refine ay ?_)
 clear cc nb2 nb6 KS hS K' hb' oD' oW' oM';refine zls ?_;refine ad.ak ?_;refine kl [0,2,3,4,5,6,7,8] fun a1 hsz hK=> ?_;obtain ⟨v0,v2,v3,v4,v5,v6,v7,v8,-⟩:=hK
 clear r1 cM fM;generalize x6.setCell ⟨b4,2,none⟩ (sO qM0 1 cM0)=aM0 at*;have cc:aM0.cell? ⟨b4,1,none⟩=some (.slice none 0 0):=af hb ae;refine au ?_;obtain ⟨qW0,cW0,x6,r1,cM,fM,hb',oD',oW',oM',K',⟨KS,hS⟩,sz⟩:=mkW (x:=pO gg0) hb oD oW oM K ge rfl ai (j:=1) rfl;have nb2:w.heap.size∉blk (.slice none 0 0)++ [b4]:=by
  rw [List.mem_append,not_or];exact ⟨ju oW hb2 (by intro cur h;cases h),by simpa using n24⟩
 have nb6:lo0∉blk (.slice none 0 0)++ [b4]:=by
  rw [List.mem_append,not_or];refine ⟨ju oW b6 (by intro cur h;cases h),fun h=> ?_⟩;rw [List.mem_singleton] at h;rw [h,hb] at b6;cases b6
 have hb2:=KS.on hb2 nb2;have b6:=KS.on b6 nb6;have P0:=P0.on KS hS;have oD:=oD';have oW:=oW';have oM:=oM';have hb:=hb';have K:=K';have zz:=Nat.le_trans zz sz;clear sz
 (refine ad.app rfl rfl rfl bj aj aj r1 ?_;refine ay ?_)
 clear cc nb2 nb6 KS hS K' hb' oD' oW' oM';refine zls ?_;refine ad.ak ?_;refine kl [0,2,3,4,5,6,7,8] fun a1 hsz hK=> ?_;obtain ⟨v0,v2,v3,v4,v5,v6,v7,v8,-⟩:=hK
 clear r1 cM fM;generalize x6.setCell ⟨b4,1,none⟩ (sO qW0 1 cW0)=aW0 at*;have cc:aW0.cell? ⟨b4,0,none⟩=some (.slice none 0 0):=af hb ae;refine au ?_;obtain ⟨qD0,cD0,x6,r1,cM,fM,hb',oD',oW',oM',K',⟨KS,hS⟩,sz⟩:=mkD (x:=dk gg0) hb oD oW oM K ge rfl ai (j:=1) rfl;have nb2:w.heap.size∉blk (.slice none 0 0)++ [b4]:=by
  rw [List.mem_append,not_or];exact ⟨ju oD hb2 (by intro cur h;cases h),by simpa using n24⟩
 have nb6:lo0∉blk (.slice none 0 0)++ [b4]:=by
  rw [List.mem_append,not_or];refine ⟨ju oD b6 (by intro cur h;cases h),fun h=> ?_⟩;rw [List.mem_singleton] at h;rw [h,hb] at b6;cases b6
 have hb2:=KS.on hb2 nb2;have b6:=KS.on b6 nb6;have P0:=P0.on KS hS;have oD:=oD';have oW:=oW';have oM:=oM';have hb:=hb';have K:=K';have zz:=Nat.le_trans zz sz;clear sz
 (refine ad.app rfl rfl rfl bj aj aj r1 ?_;refine ay ?_)
 clear cc nb2 nb6 KS hS K' hb' oD' oW' oM';refine zls ?_;refine ad.ak ?_;refine kl [0,2,3,4,5,6,7,8] fun a1 hsz hK=> ?_;obtain ⟨v0,v2,v3,v4,v5,v6,v7,v8,-⟩:=hK
 clear r1 cM fM;generalize x6.setCell ⟨b4,0,none⟩ (sO qD0 1 cD0)=aD0 at*;have d3:aD0.cell? ⟨lo0,3,none⟩=some (.slice none 0 0):=af b6 (by simp [pl9]);have d4:aD0.cell? ⟨lo0,4,none⟩=some (.bool false):=af b6 (by simp [pl9]);have d5:aD0.cell? ⟨lo0,5,none⟩=some (.bool false):=af b6 (by simp [pl9]);refine au ?_;refine kl [0,2,3,4,5] fun a1 hsz hK=> ?_;obtain ⟨v0,v2,v3,v4,v5,-⟩:=hK
 clear d3 d4 d5 b6;apply ad.inLoop;have hR:=hP 1 ai;have hR:aD0.rangeAt pb 9 pl9.toList:=fun j v hj=>(K.cell hp ae).trans (hR j v hj)
 obtain ⟨lo1,hlo1⟩:∃l,aD0.heap.size=l:=⟨_,rfl⟩;have hlo1':lo1≤aD0.heap.size:=by omega
 have zq1:hi0≤lo1:=by omega
 refine au ?_;refine iq (ld56 hR) ?_;refine au ?_;obtain ⟨x1,r5,b6,K5,-⟩:=st56 (w:=World.alloc _ (.cells z56 56)) (v:=pl9) bu rfl rfl (by simp [pl9,Value.oneCell'])
 (refine ad.jq rfl rfl rfl bj aj et r5 ?_;refine ay ?_)
 have K5:=(ah.alloc (ah.refl [] _)).trans K5 (T:=[_]) (S:=[]) ae;have hb2:=(K5).on hb2 ae;have hb:=(K5).on hb ae;have oD:=bq oD (K5) ae;have oW:=bq oW (K5) ae;have oM:=bq oM (K5) ae;have P0:=P0.on (K5) ef.nil;have K:=K.trans (K5) ae;have s1:=K5.size;refine ad.ak ?_;refine kl [0,2,3,4,5,6] fun a1 hsz hK=> ?_;obtain ⟨v0,v2,v3,v4,v5,v6,-⟩:=hK
 try rw [hlo1] at b6
 try rw [hlo1] at v6
 clear hR r5 K5;have d0:x1.cell? ⟨lo1,0,none⟩=some (.bool true):=af b6 (by simp [pl9]);have d1:x1.cell? ⟨lo1,1,none⟩=some (.int .i64 16777216):=af b6 (by simp [pl9]);have d2:x1.cell? ⟨lo1,2,none⟩=some (.slice none 0 0):=af b6 (by simp [pl9]);refine au ?_;refine bt 62 ab1 fun v w2 hr=> ?_
 rename World=>x2
 obtain ⟨hv,hm1,K5⟩:=hr;obtain rfl:=bh hv;have hmb:=hm1;have hb2:=(K5).on hb2 ae;have hb:=(K5).on hb ae;have oD:=bq oD (K5) ae;have oW:=bq oW (K5) ae;have oM:=bq oM (K5) ae;have P0:=P0.on (K5) ef.nil;have K:=K.trans (K5) ae;have b6:=K5.on b6 ae;have s2:=K5.size;refine au ?_;refine bt 61 (abn (d:=x1.heap.size)) fun v w2 hr=> ?_
 rename World=>x3
 obtain ⟨hv,hmd,K5⟩:=hr;obtain rfl:=bh hv;have hmb:=K5.on hmb ae;have hb2:=(K5).on hb2 ae;have hb:=(K5).on hb ae;have oD:=bq oD (K5) ae;have oW:=bq oW (K5) ae;have oM:=bq oM (K5) ae;have P0:=P0.on (K5) ef.nil;have K:=K.trans (K5) ae;have b6:=K5.on b6 ae;have s3:=K5.size;have s4:=bf hmd;have s4':=bf hmb;clear d0 d1 d2 K5;have d1:x3.cell? ⟨lo1,1,none⟩=some (.int .i64 16777216):=af b6 (by simp [pl9]);have d2:x3.cell? ⟨lo1,2,none⟩=some (.slice none 0 0):=af b6 (by simp [pl9]);refine au ?_;obtain ⟨mm1,hmm⟩:∃n,x2.heap.size=n:=⟨_,rfl⟩;obtain ⟨bm1,hbm⟩:∃n,x1.heap.size=n:=⟨_,rfl⟩;refine kl [0,2,3,4,5,6,7] fun a1 hsz hK=> ?_;obtain ⟨v0,v2,v3,v4,v5,v6,v7,-⟩:=hK
 try rw [hmm] at v7
 try rw [hmm] at hmd
 try rw [hbm] at hmb
 try rw [hbm] at hmd
 have s5:lo1≤mm1∧lo1≤bm1∧mm1<x3.heap.size∧bm1<x3.heap.size:=by omega
 clear hmm hbm s1 s2 s3 s4 s4';apply ad.kj 8 (fun _ q=>q.cell? ⟨lo1,1,none⟩=some (.int .i64 16777216)∧q.cell? ⟨lo1,2,none⟩=some (.slice none 0 0)) eo;intro dd;have hS0:(World.at x3 dd).cell? ⟨lo1,1,none⟩=some (.int .i64 16777216)∧(World.at x3 dd).cell? ⟨lo1,2,none⟩=some (.slice none 0 0):=⟨d1,d2⟩;refine cg 0 ?_;refine cg 1 ?_;refine cg 2 ?_;refine cg 3 ?_
 (apply fa.gw 4 (f:=65) a9 rfl;(case hw=>exact bj);(case hc=>exact (ady (w:=World.at x3 dd)));(case hv=>rw [cw (f:=65) rfl];refine zam ?_;exact ey 65 a9 _ _);(case hret=>exact fun e w2 h=>⟨_,h.1⟩))
 intro v w2 ⟨hv,e⟩;obtain rfl:=bh hv;subst e;refine ⟨fun _=>hS0,?_⟩;refine ay ?_
 (apply fa.gw 5 (f:=64) a9 rfl;(case hw=>exact bj);(case hc=>exact (ae3 (w:=World.at x3 dd)));(case hv=>rw [cw (f:=64) rfl];refine zam ?_;exact ey 64 a9 _ _);(case hret=>exact fun e w2 h=>h.1))
 intro v x4 ⟨_,dd1,now1,kept1,hv,hdr,hno,hke,⟨hnk,hnd,hkd⟩,⟨g1,g2,g3⟩,K5⟩;obtain rfl:=bh hv;have K5:ah [] x3 x4:=⟨K5.size,K5.ff,K5.os,K5.out⟩;have g1:x3.heap.size≤dd1:=g1;have g2:x3.heap.size≤now1:=g2;have g3:x3.heap.size≤kept1:=g3;have l6:=bf b6;refine ⟨fun _=>⟨(K5.cell l6 ae).trans d1,(K5.cell l6 ae).trans d2⟩,?_⟩;refine ay ?_
 (apply fa.gw 6 (f:=63) a9 rfl;(case hw=>exact bj);(case hc=>exact (ab9 (w:=x4) (d:=dd1)));(case hv=>rw [cw (f:=63) rfl];refine zam ?_;exact ey 63 a9 _ _);(case hret=>exact fun e w2 h=>⟨_,h.1⟩))
 intro v x5 ⟨hv,hwn,K6⟩;obtain rfl:=bh hv;have K7:=K5.trans K6 ae;refine ⟨fun _=>⟨(K7.cell l6 ae).trans d1,(K7.cell l6 ae).trans d2⟩,?_⟩;refine ay ?_;refine zmo 7 ?_ (hS:=by exact (fun _=>⟨(K7.cell l6 ae).trans d1,(K7.cell l6 ae).trans d2⟩));refine ay ?_;apply fa.fin a9;obtain ⟨gg1,hgg⟩:∃n,x4.heap.size=n:=⟨_,rfl⟩;have s6:=bf hdr;have s7:=bf hno;have s8:=bf hke;have s9:=bf hwn;have sA:=K5.size;have sB:=K6.size
 try rw [hgg] at hwn
 try rw [hgg] at s9
 have P1:Pl1 x5 lo1 x5.heap.size gg1 dd1 now1 kept1 mm1 bm1:=⟨hwn,K6.on hdr ae,K6.on hno ae,K6.on hke ae,K7.on hmd ae,K7.on hmb ae,hnk,⟨by omega,by omega,by omega,by omega,by omega,by omega⟩,⟨by omega,by omega,by omega,by omega,by omega,by omega⟩⟩;have hb2:=(K7).on hb2 ae;have hb:=(K7).on hb ae;have oD:=bq oD (K7) ae;have oW:=bq oW (K7) ae;have oM:=bq oM (K7) ae;have P0:=P0.on (K7) ef.nil;have K:=K.trans (K7) ae;have b6:=K7.on b6 ae;refine au ?_;refine kl [0,2,3,4,5,6,7,8,40] fun a1 hsz hK=> ?_;obtain ⟨v0,v2,v3,v4,v5,v6,v7,v8,v40,-⟩:=hK
 try rw [hgg] at v8
 obtain ⟨hi1,hhi⟩:∃n,x5.heap.size=n:=⟨_,rfl⟩;have zz:hi1≤x5.heap.size:=by omega
 rw [hhi] at P1;clear hhi;clear d1 d2 K5 K6 K7 hdr hno hke hwn hmd hmb hS0 s6 s7 s8 s9 sA sB hgg l6 g1 g2 g3 hnd hkd;have cc:x5.cell? ⟨b4,2,none⟩=some (sO qM0 1 cM0):=af hb ae;refine au ?_;obtain ⟨qM1,cM1,x6,r1,cM,fM,hb',oD',oW',oM',K',⟨KS,hS⟩,sz⟩:=mkM (x:=pO mm1) hb oD oW oM K ge rfl ai (j:=2) rfl;have nb2:w.heap.size∉blk (sO qM0 1 cM0)++ [b4]:=by
  rw [List.mem_append,not_or];exact ⟨ju oM hb2 (by intro cur h;cases h),by simpa using n24⟩
 have nb6:lo1∉blk (sO qM0 1 cM0)++ [b4]:=by
  rw [List.mem_append,not_or];refine ⟨ju oM b6 (by intro cur h;cases h),fun h=> ?_⟩;rw [List.mem_singleton] at h;rw [h,hb] at b6;cases b6
 have hb2:=KS.on hb2 nb2;have b6:=KS.on b6 nb6;have P0:=P0.on KS hS;have P1:=P1.on KS hS;have oD:=oD';have oW:=oW';have oM:=oM';have hb:=hb';have K:=K';have zz:=Nat.le_trans zz sz;clear sz
 (refine ad.app rfl rfl rfl bj aj aj r1 ?_;refine ay ?_)
 clear cc nb2 nb6 KS hS K' hb' oD' oW' oM';refine zls ?_;refine ad.ak ?_;refine kl [0,2,3,4,5,6,7,8] fun a1 hsz hK=> ?_;obtain ⟨v0,v2,v3,v4,v5,v6,v7,v8,-⟩:=hK
 clear r1 cM fM;generalize x6.setCell ⟨b4,2,none⟩ (sO qM1 2 cM1)=aM1 at*;have cc:aM1.cell? ⟨b4,1,none⟩=some (sO qW0 1 cW0):=af hb ae;refine au ?_;obtain ⟨qW1,cW1,x6,r1,cM,fM,hb',oD',oW',oM',K',⟨KS,hS⟩,sz⟩:=mkW (x:=pO gg1) hb oD oW oM K ge rfl ai (j:=2) rfl;have nb2:w.heap.size∉blk (sO qW0 1 cW0)++ [b4]:=by
  rw [List.mem_append,not_or];exact ⟨ju oW hb2 (by intro cur h;cases h),by simpa using n24⟩
 have nb6:lo1∉blk (sO qW0 1 cW0)++ [b4]:=by
  rw [List.mem_append,not_or];refine ⟨ju oW b6 (by intro cur h;cases h),fun h=> ?_⟩;rw [List.mem_singleton] at h;rw [h,hb] at b6;cases b6
 have hb2:=KS.on hb2 nb2;have b6:=KS.on b6 nb6;have P0:=P0.on KS hS;have P1:=P1.on KS hS;have oD:=oD';have oW:=oW';have oM:=oM';have hb:=hb';have K:=K';have zz:=Nat.le_trans zz sz;clear sz
 (refine ad.app rfl rfl rfl bj aj aj r1 ?_;refine ay ?_)
 clear cc nb2 nb6 KS hS K' hb' oD' oW' oM';refine zls ?_;refine ad.ak ?_;refine kl [0,2,3,4,5,6,7,8] fun a1 hsz hK=> ?_;obtain ⟨v0,v2,v3,v4,v5,v6,v7,v8,-⟩:=hK
 clear r1 cM fM;generalize x6.setCell ⟨b4,1,none⟩ (sO qW1 2 cW1)=aW1 at*;have cc:aW1.cell? ⟨b4,0,none⟩=some (sO qD0 1 cD0):=af hb ae;refine au ?_;obtain ⟨qD1,cD1,x6,r1,cM,fM,hb',oD',oW',oM',K',⟨KS,hS⟩,sz⟩:=mkD (x:=dk gg1) hb oD oW oM K ge rfl ai (j:=2) rfl;have nb2:w.heap.size∉blk (sO qD0 1 cD0)++ [b4]:=by
  rw [List.mem_append,not_or];exact ⟨ju oD hb2 (by intro cur h;cases h),by simpa using n24⟩
 have nb6:lo1∉blk (sO qD0 1 cD0)++ [b4]:=by
  rw [List.mem_append,not_or];refine ⟨ju oD b6 (by intro cur h;cases h),fun h=> ?_⟩;rw [List.mem_singleton] at h;rw [h,hb] at b6;cases b6
 have hb2:=KS.on hb2 nb2;have b6:=KS.on b6 nb6;have P0:=P0.on KS hS;have P1:=P1.on KS hS;have oD:=oD';have oW:=oW';have oM:=oM';have hb:=hb';have K:=K';have zz:=Nat.le_trans zz sz;clear sz
 (refine ad.app rfl rfl rfl bj aj aj r1 ?_;refine ay ?_)
 clear cc nb2 nb6 KS hS K' hb' oD' oW' oM';refine zls ?_;refine ad.ak ?_;refine kl [0,2,3,4,5,6,7,8] fun a1 hsz hK=> ?_;obtain ⟨v0,v2,v3,v4,v5,v6,v7,v8,-⟩:=hK
 clear r1 cM fM;generalize x6.setCell ⟨b4,0,none⟩ (sO qD1 2 cD1)=aD1 at*;have d3:aD1.cell? ⟨lo1,3,none⟩=some (.slice none 0 0):=af b6 (by simp [pl9]);have d4:aD1.cell? ⟨lo1,4,none⟩=some (.bool false):=af b6 (by simp [pl9]);have d5:aD1.cell? ⟨lo1,5,none⟩=some (.bool false):=af b6 (by simp [pl9]);refine au ?_;refine kl [0,2,3,4,5] fun a1 hsz hK=> ?_;obtain ⟨v0,v2,v3,v4,v5,-⟩:=hK
 clear d3 d4 d5 b6;apply ad.inLoop;have hR:=hP 2 ai;have hR:aD1.rangeAt pb 18 pl9.toList:=fun j v hj=>(K.cell hp ae).trans (hR j v hj)
 obtain ⟨lo2,hlo2⟩:∃l,aD1.heap.size=l:=⟨_,rfl⟩;have hlo2':lo2≤aD1.heap.size:=by omega
 have zq2:hi1≤lo2:=by omega
 refine au ?_;refine iq (ld56 hR) ?_;refine au ?_;obtain ⟨x1,r5,b6,K5,-⟩:=st56 (w:=World.alloc _ (.cells z56 56)) (v:=pl9) bu rfl rfl (by simp [pl9,Value.oneCell'])
 (refine ad.jq rfl rfl rfl bj aj et r5 ?_;refine ay ?_)
 have K5:=(ah.alloc (ah.refl [] _)).trans K5 (T:=[_]) (S:=[]) ae;have hb2:=(K5).on hb2 ae;have hb:=(K5).on hb ae;have oD:=bq oD (K5) ae;have oW:=bq oW (K5) ae;have oM:=bq oM (K5) ae;have P0:=P0.on (K5) ef.nil;have P1:=P1.on (K5) ef.nil;have K:=K.trans (K5) ae;have s1:=K5.size;refine ad.ak ?_;refine kl [0,2,3,4,5,6] fun a1 hsz hK=> ?_;obtain ⟨v0,v2,v3,v4,v5,v6,-⟩:=hK
 try rw [hlo2] at b6
 try rw [hlo2] at v6
 clear hR r5 K5;have d0:x1.cell? ⟨lo2,0,none⟩=some (.bool true):=af b6 (by simp [pl9]);have d1:x1.cell? ⟨lo2,1,none⟩=some (.int .i64 16777216):=af b6 (by simp [pl9]);have d2:x1.cell? ⟨lo2,2,none⟩=some (.slice none 0 0):=af b6 (by simp [pl9]);refine au ?_;refine bt 62 ab1 fun v w2 hr=> ?_
 rename World=>x2
 obtain ⟨hv,hm2,K5⟩:=hr;obtain rfl:=bh hv;have hmb:=hm2;have hb2:=(K5).on hb2 ae;have hb:=(K5).on hb ae;have oD:=bq oD (K5) ae;have oW:=bq oW (K5) ae;have oM:=bq oM (K5) ae;have P0:=P0.on (K5) ef.nil;have P1:=P1.on (K5) ef.nil;have K:=K.trans (K5) ae;have b6:=K5.on b6 ae;have s2:=K5.size;refine au ?_;refine bt 61 (abn (d:=x1.heap.size)) fun v w2 hr=> ?_
 rename World=>x3
 obtain ⟨hv,hmd,K5⟩:=hr;obtain rfl:=bh hv;have hmb:=K5.on hmb ae;have hb2:=(K5).on hb2 ae;have hb:=(K5).on hb ae;have oD:=bq oD (K5) ae;have oW:=bq oW (K5) ae;have oM:=bq oM (K5) ae;have P0:=P0.on (K5) ef.nil;have P1:=P1.on (K5) ef.nil;have K:=K.trans (K5) ae;have b6:=K5.on b6 ae;have s3:=K5.size;have s4:=bf hmd;have s4':=bf hmb;clear d0 d1 d2 K5;have d1:x3.cell? ⟨lo2,1,none⟩=some (.int .i64 16777216):=af b6 (by simp [pl9]);have d2:x3.cell? ⟨lo2,2,none⟩=some (.slice none 0 0):=af b6 (by simp [pl9]);refine au ?_;obtain ⟨mm2,hmm⟩:∃n,x2.heap.size=n:=⟨_,rfl⟩;obtain ⟨bm2,hbm⟩:∃n,x1.heap.size=n:=⟨_,rfl⟩;refine kl [0,2,3,4,5,6,7] fun a1 hsz hK=> ?_;obtain ⟨v0,v2,v3,v4,v5,v6,v7,-⟩:=hK
 try rw [hmm] at v7
 try rw [hmm] at hmd
 try rw [hbm] at hmb
 try rw [hbm] at hmd
 have s5:lo2≤mm2∧lo2≤bm2∧mm2<x3.heap.size∧bm2<x3.heap.size:=by omega
 clear hmm hbm s1 s2 s3 s4 s4';apply ad.kj 8 (fun _ q=>q.cell? ⟨lo2,1,none⟩=some (.int .i64 16777216)∧q.cell? ⟨lo2,2,none⟩=some (.slice none 0 0)) eo;intro dd;have hS0:(World.at x3 dd).cell? ⟨lo2,1,none⟩=some (.int .i64 16777216)∧(World.at x3 dd).cell? ⟨lo2,2,none⟩=some (.slice none 0 0):=⟨d1,d2⟩;refine cg 0 ?_;refine cg 1 ?_;refine cg 2 ?_;refine cg 3 ?_
 (apply fa.gw 4 (f:=65) a9 rfl;(case hw=>exact bj);(case hc=>exact (ady (w:=World.at x3 dd)));(case hv=>rw [cw (f:=65) rfl];refine zam ?_;exact ey 65 a9 _ _);(case hret=>exact fun e w2 h=>⟨_,h.1⟩))
 intro v w2 ⟨hv,e⟩;obtain rfl:=bh hv;subst e;refine ⟨fun _=>hS0,?_⟩;refine ay ?_
 (apply fa.gw 5 (f:=64) a9 rfl;(case hw=>exact bj);(case hc=>exact (ae3 (w:=World.at x3 dd)));(case hv=>rw [cw (f:=64) rfl];refine zam ?_;exact ey 64 a9 _ _);(case hret=>exact fun e w2 h=>h.1))
 intro v x4 ⟨_,dd2,now2,kept2,hv,hdr,hno,hke,⟨hnk,hnd,hkd⟩,⟨g1,g2,g3⟩,K5⟩;obtain rfl:=bh hv;have K5:ah [] x3 x4:=⟨K5.size,K5.ff,K5.os,K5.out⟩;have g1:x3.heap.size≤dd2:=g1;have g2:x3.heap.size≤now2:=g2;have g3:x3.heap.size≤kept2:=g3;have l6:=bf b6;refine ⟨fun _=>⟨(K5.cell l6 ae).trans d1,(K5.cell l6 ae).trans d2⟩,?_⟩;refine ay ?_
 (apply fa.gw 6 (f:=63) a9 rfl;(case hw=>exact bj);(case hc=>exact (ab9 (w:=x4) (d:=dd2)));(case hv=>rw [cw (f:=63) rfl];refine zam ?_;exact ey 63 a9 _ _);(case hret=>exact fun e w2 h=>⟨_,h.1⟩))
 intro v x5 ⟨hv,hwn,K6⟩;obtain rfl:=bh hv;have K7:=K5.trans K6 ae;refine ⟨fun _=>⟨(K7.cell l6 ae).trans d1,(K7.cell l6 ae).trans d2⟩,?_⟩;refine ay ?_;refine zmo 7 ?_ (hS:=by exact (fun _=>⟨(K7.cell l6 ae).trans d1,(K7.cell l6 ae).trans d2⟩));refine ay ?_;apply fa.fin a9;obtain ⟨gg2,hgg⟩:∃n,x4.heap.size=n:=⟨_,rfl⟩;have s6:=bf hdr;have s7:=bf hno;have s8:=bf hke;have s9:=bf hwn;have sA:=K5.size;have sB:=K6.size
 try rw [hgg] at hwn
 try rw [hgg] at s9
 have P2:Pl1 x5 lo2 x5.heap.size gg2 dd2 now2 kept2 mm2 bm2:=⟨hwn,K6.on hdr ae,K6.on hno ae,K6.on hke ae,K7.on hmd ae,K7.on hmb ae,hnk,⟨by omega,by omega,by omega,by omega,by omega,by omega⟩,⟨by omega,by omega,by omega,by omega,by omega,by omega⟩⟩;have hb2:=(K7).on hb2 ae;have hb:=(K7).on hb ae;have oD:=bq oD (K7) ae;have oW:=bq oW (K7) ae;have oM:=bq oM (K7) ae;have P0:=P0.on (K7) ef.nil;have P1:=P1.on (K7) ef.nil;have K:=K.trans (K7) ae;have b6:=K7.on b6 ae;refine au ?_;refine kl [0,2,3,4,5,6,7,8,40] fun a1 hsz hK=> ?_;obtain ⟨v0,v2,v3,v4,v5,v6,v7,v8,v40,-⟩:=hK
 try rw [hgg] at v8
 obtain ⟨hi2,hhi⟩:∃n,x5.heap.size=n:=⟨_,rfl⟩;have zz:hi2≤x5.heap.size:=by omega
 rw [hhi] at P2;clear hhi;clear d1 d2 K5 K6 K7 hdr hno hke hwn hmd hmb hS0 s6 s7 s8 s9 sA sB hgg l6 g1 g2 g3 hnd hkd;have cc:x5.cell? ⟨b4,2,none⟩=some (sO qM1 2 cM1):=af hb ae;refine au ?_;obtain ⟨qM2,cM2,x6,r1,cM,fM,hb',oD',oW',oM',K',⟨KS,hS⟩,sz⟩:=mkM (x:=pO mm2) hb oD oW oM K ge rfl ai (j:=3) rfl;have nb2:w.heap.size∉blk (sO qM1 2 cM1)++ [b4]:=by
  rw [List.mem_append,not_or];exact ⟨ju oM hb2 (by intro cur h;cases h),by simpa using n24⟩
 have nb6:lo2∉blk (sO qM1 2 cM1)++ [b4]:=by
  rw [List.mem_append,not_or];refine ⟨ju oM b6 (by intro cur h;cases h),fun h=> ?_⟩;rw [List.mem_singleton] at h;rw [h,hb] at b6;cases b6
 have hb2:=KS.on hb2 nb2;have b6:=KS.on b6 nb6;have P0:=P0.on KS hS;have P1:=P1.on KS hS;have P2:=P2.on KS hS;have oD:=oD';have oW:=oW';have oM:=oM';have hb:=hb';have K:=K';have zz:=Nat.le_trans zz sz;clear sz
 (refine ad.app rfl rfl rfl bj aj aj r1 ?_;refine ay ?_)
 clear cc nb2 nb6 KS hS K' hb' oD' oW' oM';refine zls ?_;refine ad.ak ?_;refine kl [0,2,3,4,5,6,7,8] fun a1 hsz hK=> ?_;obtain ⟨v0,v2,v3,v4,v5,v6,v7,v8,-⟩:=hK
 clear r1 cM fM;generalize x6.setCell ⟨b4,2,none⟩ (sO qM2 3 cM2)=aM2 at*;have cc:aM2.cell? ⟨b4,1,none⟩=some (sO qW1 2 cW1):=af hb ae;refine au ?_;obtain ⟨qW2,cW2,x6,r1,cM,fM,hb',oD',oW',oM',K',⟨KS,hS⟩,sz⟩:=mkW (x:=pO gg2) hb oD oW oM K ge rfl ai (j:=3) rfl;have nb2:w.heap.size∉blk (sO qW1 2 cW1)++ [b4]:=by
  rw [List.mem_append,not_or];exact ⟨ju oW hb2 (by intro cur h;cases h),by simpa using n24⟩
 have nb6:lo2∉blk (sO qW1 2 cW1)++ [b4]:=by
  rw [List.mem_append,not_or];refine ⟨ju oW b6 (by intro cur h;cases h),fun h=> ?_⟩;rw [List.mem_singleton] at h;rw [h,hb] at b6;cases b6
 have hb2:=KS.on hb2 nb2;have b6:=KS.on b6 nb6;have P0:=P0.on KS hS;have P1:=P1.on KS hS;have P2:=P2.on KS hS;have oD:=oD';have oW:=oW';have oM:=oM';have hb:=hb';have K:=K';have zz:=Nat.le_trans zz sz;clear sz
 (refine ad.app rfl rfl rfl bj aj aj r1 ?_;refine ay ?_)
 clear cc nb2 nb6 KS hS K' hb' oD' oW' oM';refine zls ?_;refine ad.ak ?_;refine kl [0,2,3,4,5,6,7,8] fun a1 hsz hK=> ?_;obtain ⟨v0,v2,v3,v4,v5,v6,v7,v8,-⟩:=hK
 clear r1 cM fM;generalize x6.setCell ⟨b4,1,none⟩ (sO qW2 3 cW2)=aW2 at*;have cc:aW2.cell? ⟨b4,0,none⟩=some (sO qD1 2 cD1):=af hb ae;refine au ?_;obtain ⟨qD2,cD2,x6,r1,cM,fM,hb',oD',oW',oM',K',⟨KS,hS⟩,sz⟩:=mkD (x:=dk gg2) hb oD oW oM K ge rfl ai (j:=3) rfl;have nb2:w.heap.size∉blk (sO qD1 2 cD1)++ [b4]:=by
  rw [List.mem_append,not_or];exact ⟨ju oD hb2 (by intro cur h;cases h),by simpa using n24⟩
 have nb6:lo2∉blk (sO qD1 2 cD1)++ [b4]:=by
  rw [List.mem_append,not_or];refine ⟨ju oD b6 (by intro cur h;cases h),fun h=> ?_⟩;rw [List.mem_singleton] at h;rw [h,hb] at b6;cases b6
 have hb2:=KS.on hb2 nb2;have b6:=KS.on b6 nb6;have P0:=P0.on KS hS;have P1:=P1.on KS hS;have P2:=P2.on KS hS;have oD:=oD';have oW:=oW';have oM:=oM';have hb:=hb';have K:=K';have zz:=Nat.le_trans zz sz;clear sz
 (refine ad.app rfl rfl rfl bj aj aj r1 ?_;refine ay ?_)
 clear cc nb2 nb6 KS hS K' hb' oD' oW' oM';refine zls ?_;refine ad.ak ?_;refine kl [0,2,3,4,5,6,7,8] fun a1 hsz hK=> ?_;obtain ⟨v0,v2,v3,v4,v5,v6,v7,v8,-⟩:=hK
 clear r1 cM fM;generalize x6.setCell ⟨b4,0,none⟩ (sO qD2 3 cD2)=aD2 at*;have d3:aD2.cell? ⟨lo2,3,none⟩=some (.slice none 0 0):=af b6 (by simp [pl9]);have d4:aD2.cell? ⟨lo2,4,none⟩=some (.bool false):=af b6 (by simp [pl9]);have d5:aD2.cell? ⟨lo2,5,none⟩=some (.bool false):=af b6 (by simp [pl9]);refine au ?_;refine kl [0,2,3,4,5] fun a1 hsz hK=> ?_;obtain ⟨v0,v2,v3,v4,v5,-⟩:=hK
 clear d3 d4 d5 b6;apply ad.inLoop;refine au ?_;refine iq (ldR27 hb rfl) ?_;refine au ?_;obtain ⟨x7,r5,h7,K7,-⟩:=st27 (vs:=#[sO qD2 3 cD2,sO qW2 3 cW2,sO qM2 3 cM2]) hb2 rfl rfl (by simp [Value.oneCell'])
 (refine ad.jq rfl rfl rfl bj aj et r5 ?_;refine ay ?_)
 have hS:=ef.one hb2 (by decide);have dD:∀b∈blk (sO qD2 3 cD2),b∉[w.heap.size]:=fun b hb e=>by
  rw [List.mem_singleton] at e;subst e;exact ju oD hb2 (by intro cur h;cases h) hb
 have dW:∀b∈blk (sO qW2 3 cW2),b∉[w.heap.size]:=fun b hb e=>by
  rw [List.mem_singleton] at e;subst e;exact ju oW hb2 (by intro cur h;cases h) hb
 have dM:∀b∈blk (sO qM2 3 cM2),b∉[w.heap.size]:=fun b hb e=>by
  rw [List.mem_singleton] at e;subst e;exact ju oM hb2 (by intro cur h;cases h) hb
 refine au ?_
 (apply ad.abv rfl hf rfl (hl:=(lvR27 h7 rfl));(case hd=>simp [hsz]);(case hs=>exact et);(case ht=>exact et))
 exact ⟨⟨_,rfl⟩,sO qD2 3 cD2,sO qW2 3 cW2,sO qM2 3 cM2,hi0,hi1,hi2,gg0,dd0,now0,kept0,mm0,bm0,gg1,dd1,now1,kept1,mm1,bm1,gg2,dd2,now2,kept2,mm2,bm2,rfl,bq oD K7 dD,bq oW K7 dW,bq oM K7 dM,(P0.wide wlo).on K7 hS,(P1.wide zq1).on K7 hS,(P2.wide zq2).on K7 hS,K.trans K7 (fun b hb=> .inr (by simp at hb;omega))⟩
end
end Go.Proofs.YthgpdljlehklhaaGreat.wk
