/- Part QAW of the proof that DropRefused answers true whatever its input. No condition. -/
import Derived.Test.YthgpdljlehklhaaGreatQAV
import Derived.Test.YthgpdljlehklhaaGreatQAT
import Derived.Test.YthgpdljlehklhaaGreatQAS
set_option maxRecDepth 100000
namespace Go.Proofs.YthgpdljlehklhaaGreat.wk
open Go Go.Conc zr dr wd drv
set_option linter.unusedVariables false
set_option maxHeartbeats 4000000
section
variable {w w1 w2:World}{g m c n b8 b9 idx c0:Nat}
theorem parse_ok {ch:List Int}(hi:idx<3)(hx:BL w g 0 (ma idx ch))(hgl:g<w.heap.size)(hl:ch.length=3)(hx0:∀x∈ch,0≤x∧x<256)(hc:48≤c0):
  Calls GP 69 #[sO g 48 c0] w fun e w2=>(∃v,e= .returned v)∧∃q cc,e= .returned (.tuple #[.agg (iv idx (sO q 1 cc)),.int .i64 0])∧ah [] w w2:=by
 refine dn 69 45 Tryz.func69 fun a hf hsz hv=> ?_
 obtain ⟨v0,-⟩:=ie hv;clear hv;refine au ?_;refine ad.ib (fun u=>u.heap[w.heap.size]? =some (.cells jo 103 (0,0))∧ah [] w u) ⟨bu,ei⟩ fun u ⟨h2,K⟩=> ?_
 refine bt 116 (openf_ok hi (hx.on K hgl ae) (Nat.lt_of_lt_of_le hgl K.size) hl hc) fun v w2 hr=> ?_
 obtain ⟨hv,K1⟩:=hr;obtain rfl:=bh hv;have h2:=K1.on h2 ae;have K:=K.trans K1 ae;clear K1;refine au ?_;have hl2:=bf h2;have h4:(w2.alloc (.cells z95 95)).heap[w2.heap.size]? =some (.cells z95 95 (0,0)):=bu;have h2:(w2.alloc (.cells z95 95)).heap[w.heap.size]? =some (.cells jo 103 (0,0)):=bw h2;have K:=K.alloc (o:= .cells z95 95);generalize hb4:w2.heap.size=b4 at*;refine ad.ib (fun u=>u.heap[w.heap.size]? =some (.cells jo 103 (0,0))∧u.heap[b4]? =some (.cells z95 95 (0,0))∧ah [] w u) ⟨h2,h4,K⟩ fun u ⟨h2,h4,K⟩=> ?_
 obtain ⟨w5,r5,h4,K5,-⟩:=st95 (v:=dx 5 idx 1 1) h4 rfl rfl (by simp [dx,Value.oneCell'])
 (refine ad.jq rfl rfl rfl bj aj et r5 ?_;refine ay ?_)
 refine au ?_;have h2:=K5.on h2 (by simp;omega);have K:=K.trans K5 (fun b hb=>by simp at hb;exact .inr ai);have X:=hx.on K hgl ae;clear hx r5 K5;refine kl [0,2,4,5] fun a1 hsz hK=> ?_;obtain ⟨v0,v2,v4,v5,-⟩:=hK
 refine iq (qb h4 rfl) ?_;refine bt 93 (af4 (idx:=idx)) fun v w2 hr=> ?_
 obtain ⟨hv,K1⟩:=hr;obtain rfl:=bh hv;have h2:=K1.on h2 ae;have h4:=K1.on h4 ae;have X:=X.on K1 (Nat.lt_of_lt_of_le hgl K.size) ae;have K:=K.trans K1 ae;clear K1;refine au ?_;refine iq (qb h4 rfl) ?_
 (apply ad.val rfl;(case ho=>rfl);(case hw=>exact bj);(case hr=>refine zpr ?_;first|(rw [Sem.run_bind,(bld103 (idx:=idx) _)];rfl)|exact (bld103 (idx:=idx) _));refine ay ?_)
 refine au ?_;have bl4:=bf h4;have hl3:w.heap.size<w2.heap.size:=Nat.lt_trans hl2 bl4;have h8:(w2.alloc (.cells jo 103)).heap[w2.heap.size]? =some (.cells jo 103 (0,0)):=bu;have h2:(w2.alloc (.cells jo 103)).heap[w.heap.size]? =some (.cells jo 103 (0,0)):=bw h2;have h4:(w2.alloc (.cells jo 103)).heap[b4]? =some (.cells (dx 5 idx 1 1) 95 (0,0)):=bw h4;have X:=X.on (ah.alloc (o:= .cells jo 103) (ah.refl [] w2)) (Nat.lt_of_lt_of_le hgl K.size) ae;have hs8:=K.size;have K:=K.alloc (o:= .cells jo 103);have hl4:b4<w2.heap.size:=bl4;refine kl [0,2,4,5,8,35] fun a1 hsz hK=> ?_;obtain ⟨v0,v2,v4,v5,v8,v35,-⟩:=hK
 generalize hb8:w2.heap.size=b8 at*;refine ad.ib (fun u=>u.heap[w.heap.size]? =some (.cells jo 103 (0,0))∧u.heap[b4]? =some (.cells (dx 5 idx 1 1) 95 (0,0))∧u.heap[b8]? =some (.cells jo 103 (0,0))∧BL u g 0 (ma idx ch)∧ah [] w u) ⟨h2,h4,h8,X,K⟩ fun u ⟨h2,h4,h8,X,K⟩=> ?_
 obtain ⟨w5,r5,h8,K5,-⟩:=st103 (v:=iv idx (.slice none 0 0)) h8 rfl rfl (by simp [iv,Value.oneCell'])
 (refine ad.jq rfl rfl rfl bj aj et r5 ?_;refine ay ?_)
 have h2:=K5.on h2 (by simp;omega);have h4:=K5.on h4 (by simp;omega);have X:=X.on K5 (Nat.lt_of_lt_of_le hgl K.size) (by simp;omega);have K:=K.trans K5 (fun b hb=>by simp at hb;exact .inr ai);clear r5 K5;refine au ?_;refine zlp ?_;have h9:(w5.alloc (.cells #[.bool true] 4)).heap[w5.heap.size]? =some (.cells #[.bool true] 4 (0,0)):=bu;have n2:w.heap.size<w5.heap.size:=bf h2;have n4:b4≠w5.heap.size:=by have:=bf h4;omega
 have n8:b8≠w5.heap.size:=by have:=bf h8;omega
 have gl5:g<w5.heap.size:=Nat.lt_of_lt_of_le hgl K.size;have K9:ah [] w5 (w5.alloc (.cells #[.bool true] 4)):=ei;have h2:=K9.on h2 ae;have h4:=K9.on h4 ae;have h8:=K9.on h8 ae;have X:=X.on K9 gl5 ae;have K:=K.trans K9 ae;have g9:g≠w5.heap.size:=by omega
 refine ad.ak ?_;refine kl [0,2,4,5,8,9] fun a1 hsz hK=> ?_;obtain ⟨v0,v2,v4,v5,v8,v9,-⟩:=hK
 generalize hb9:w5.heap.size=b9 at*;refine ad.ib (fun u=>u.heap[w.heap.size]? =some (.cells jo 103 (0,0))∧u.heap[b4]? =some (.cells (dx 5 idx 1 1) 95 (0,0))∧u.heap[b8]? =some (.cells (iv idx (.slice none 0 0)) 103 (0,0))∧u.heap[b9]? =some (.cells #[.bool true] 4 (0,0))∧BL u g 0 (ma idx ch)∧ah [] w u) ⟨h2,h4,h8,h9,X,K⟩ fun u ⟨h2,h4,h8,h9,X,K⟩=> ?_
 refine au ?_;refine iq (qb h4 rfl) ?_;refine au ?_;refine bt 117 (aon (w:=u) (b8:=b8) (b9:=b9) (idx:=idx) X (Nat.lt_of_lt_of_le hgl K.size) hl hx0 hc h9 h8 ai g9 ai) fun v w2 hr=> ?_
 obtain ⟨hv,h9,⟨q,cc,h8⟩,K1⟩:=hr;obtain rfl:=bh hv;have h2:=K1.on h2 (by simp;omega);have K:=K.trans K1 (fun b hb=>by simp at hb;exact .inr ai);have c9:w2.cell? ⟨b9,0,none⟩=some (.bool true):=af h9 ae;refine kl [2,8,9] fun a1 hsz hK=> ?_;obtain ⟨v2,v8,v9,-⟩:=hK
 refine au ?_;refine iq (ldR103 h8 rfl) ?_;refine au ?_;obtain ⟨w6,r6,h2,K6,-⟩:=st103 (v:=iv idx (sO q 1 cc)) h2 rfl rfl (by simp [iv,Value.oneCell'])
 (refine ad.jq rfl rfl rfl bj aj et r6 ?_;refine ay ?_)
 refine au ?_
 (apply ad.abv rfl hf rfl (hl:=(lvR103 h2 rfl));(case hd=>simp [hsz]);(case hs=>exact et);(case ht=>exact et))
 exact ⟨⟨_,rfl⟩,q,cc,rfl,K.trans K6 (fun b hb=>by simp at hb;exact .inr ai)⟩
end
section
variable {w w1 w2:World}{g d now kept k np i x m:Nat}{room used:Int}{pend dat:Value}{es:Array MapEntry}{safe:Int}{news:List Value}
theorem bread_no (h:WD w g d room used now kept pend np es k)(hn:fnd es nA=none):Calls GP 68 #[dk g,.string kA] w fun e w2=>e= .returned (.tuple #[.slice none 0 0,.agg (fc 1 0)])∧WD w2 g d room used now kept pend np es k∧ah [g] w w2:=by
 refine dn 68 37 Tryz.func68 fun a hf hsz hv=> ?_
 obtain ⟨v0,v1,-⟩:=ir hv;clear hv;have v0':a.eval (.tmp 0)= .iface 73 (pO g):=v0;clear v0;refine au ?_;refine bt 45 (ye (w:=w.alloc (.cells (fc 0 0) 112))) fun v w2 hr=> ?_
 obtain ⟨hv,K1⟩:=hr;obtain rfl:=bh hv;have hb:=K1.on (o:= .cells (fc 0 0) 112) (b:=w.heap.size) bu ae;have K1:ah [] w w2:=ah.trans (ei) K1 ae;have H1:=h.on K1 ae ae ae ae;refine kl [0,5,15] fun a1 hsz hK=> ?_;obtain ⟨v0,v5,v15,-⟩:=hK
 refine au ?_
 (refine ad.inv (f:=221) rfl rfl rfl bj et (by first|rfl|(exact zag)) (m_read _ _ _) (wread_no H1 hn (by decide) (by decide)) (fun e w2 h=>⟨_,h.1⟩) fun v w2 hr=> ?_;refine ay ?_)
 rename_i w3 _;obtain ⟨hv,H2,K2⟩:=hr;obtain rfl:=bh hv;have hgl:=h.lt.1;have hb:=K2.on hb (by simp;omega);refine kl [5,24] fun a1 hsz hK=> ?_;obtain ⟨v5,v24,-⟩:=hK
 refine au ?_;obtain ⟨w4,r4,hb,K3,-⟩:=ox (v:=fc 1 0) hb rfl rfl (by simp [fc,Value.oneCell'])
 (refine ad.jq rfl rfl rfl bj aj et r4 ?_;refine ay ?_)
 refine au ?_;have hl:=h.lt;have H3:=H2.on K3 (by simp;omega) (by simp;omega) (by simp;omega) (fun b hb=>by have:=hl.2.2.2 b hb;simp;omega)
 (apply ad.ret_tc rfl hf rfl (hl:=(zp hb rfl));(case hd=>simp [hsz]);(case ht=>exact et);(case hs=>exact et))
 exact ⟨rfl,H3,ah.trans (ah.trans (K1.more ae) K2 ae) K3 (fun b hb=> .inr (by simp at hb;omega))⟩
theorem bread_ok (h:WD w g d room used now kept pend np es k)(hn:fnd es nA=some (i,pO x))(hb:Bdy w x dat safe)(hxg:x≠g)(ho:w.ownsRow 0 5 1 dat m news)(hdg:g∉blk dat)(hm1:∀u∈news,u.oneCell'=true)(hm:0<m)(hmm:m<1000000000):
  Calls GP 68 #[dk g,.string kA] w fun e w2=>(∃v,e= .returned v)∧∃q cap,e= .returned (.tuple #[sO q m cap,.agg (fc 3 0)])∧w2.ownsRow 0 5 1 (sO q m cap) m news∧w.heap.size≤q∧WD w2 g d room used now kept pend np es k∧ah [g] w w2:=by
 refine dn 68 37 Tryz.func68 fun a hf hsz hv=> ?_
 obtain ⟨v0,v1,-⟩:=ir hv;clear hv;have v0':a.eval (.tmp 0)= .iface 73 (pO g):=v0;clear v0;refine au ?_;refine bt 45 (ye (w:=w.alloc (.cells (fc 0 0) 112))) fun v w2 hr=> ?_
 obtain ⟨hv,K1⟩:=hr;obtain rfl:=bh hv;have hr:=K1.on (o:= .cells (fc 0 0) 112) (b:=w.heap.size) bu ae;have K1:ah [] w w2:=ah.trans (ei) K1 ae;have H1:=h.on K1 ae ae ae ae;refine kl [0,5,15] fun a1 hsz hK=> ?_;obtain ⟨v0,v5,v15,-⟩:=hK
 refine au ?_;obtain ⟨O1,B1⟩:w2.ownsRow 0 5 1 dat m news∧Bdy w2 x dat safe:=⟨jk ho K1 ae,K1.on hb ae⟩;have hwl:=bf hr
 (refine ad.inv (f:=221) rfl rfl rfl bj et (by first|rfl|(exact zag)) (m_read _ _ _) (wread_ok H1 hn (by decide) (by decide) B1 hxg O1 hdg hm1 hm hmm) (fun e w2 h=>h.1) fun v w2 hr=> ?_;refine ay ?_)
 rename_i w3 _;obtain ⟨-,q,cap,hv,O2,lq,H2,K2⟩:=hr;obtain rfl:=bh hv;have hgl:=h.lt.1;have hr:=K2.on hr (by simp;omega);refine kl [5,24] fun a1 hsz hK=> ?_;obtain ⟨v5,v24,-⟩:=hK
 refine au ?_;obtain ⟨w4,r4,hr,K3,-⟩:=ox (v:=fc 3 0) hr rfl rfl (by simp [fc,Value.oneCell'])
 (refine ad.jq rfl rfl rfl bj aj et r4 ?_;refine ay ?_)
 refine au ?_;have hl:=h.lt;have hs:=K1.size;have H3:=H2.on K3 (by simp;omega) (by simp;omega) (by simp;omega) (fun b hb=>by have:=hl.2.2.2 b hb;simp;omega)
 (apply ad.ret_tc rfl hf rfl (hl:=(zp hr rfl));(case hd=>simp [hsz]);(case ht=>exact et);(case hs=>exact et))
 exact ⟨⟨_,rfl⟩,q,cap,rfl,jk O2 K3 (by simp [blk,Value.ownBlock];omega),by omega,H3,ah.trans (ah.trans (K1.more ae) K2 ae) K3 (fun b hb=> .inr (by simp at hb;omega))⟩
end
section
variable {w w1 w2:World}{idx:Nat}
theorem eq95 (hi:idx<3)(w:World):Sem.run GP (do
  eqGuard .eql 95 (.tmp 11) (.tmp 12) (.agg (dx 0 idx 0 0)) (.agg (dx 0 idx 0 0))
  binOp .eql 95 (.agg (dx 0 idx 0 0)) (.agg (dx 0 idx 0 0))) w= .ok (.bool true) w:=by
 rcases idx with _|_|_|n
 ·kernel_rfl
 ·kernel_rfl
 ·kernel_rfl
 ·omega
theorem am7 (hi:idx<3):Calls GP 70 #[.agg (dx 5 idx 1 1),.agg (dx 0 idx 0 0)] w fun e w2=>e= .returned (.bool true)∧ah [] w w2:=by
 refine dn 70 14 Tryz.func70 fun a hf hsz hv=> ?_
 obtain ⟨v0,v1,-⟩:=ir hv;clear hv;apply ad.seq;apply ad.region;refine zls ?_;apply ad.ak;refine ad.ib (fun u=>u.heap[w.heap.size]? =some (.cells (dx 5 idx 1 1) 95 (0,0))∧u.heap[w.heap.size+1]? =some (.cells (dx 0 idx 0 0) 95 (0,0))∧ah [] w u) ⟨bw bu,fy ae,ei⟩ fun u ⟨h2,h3,K⟩=> ?_
 refine kl [2,3] fun a1 hsz hK=> ?_;obtain ⟨v2,v3,-⟩:=hK
 apply ad.seq;have c12:u.cell? ⟨w.heap.size+1,12,none⟩=some (.int .i64 0):=af h3 (by simp [dx]);have c14:u.cell? ⟨w.heap.size+1,14,none⟩=some (.int .i64 0):=af h3 (by simp [dx]);have c15:u.cell? ⟨w.heap.size+1,15,none⟩=some (.int .i64 0):=af h3 (by simp [dx]);apply ad.wu (fun d x=>x.cell? ⟨w.heap.size+1,12,none⟩=some (.int .i64 0)∧x.cell? ⟨w.heap.size+1,14,none⟩=some (.int .i64 0)∧x.cell? ⟨w.heap.size+1,15,none⟩=some (.int .i64 0)) eo;intro dd;have hS0:(World.at u dd).cell? ⟨w.heap.size+1,12,none⟩=some (.int .i64 0)∧(World.at u dd).cell? ⟨w.heap.size+1,14,none⟩=some (.int .i64 0)∧(World.at u dd).cell? ⟨w.heap.size+1,15,none⟩=some (.int .i64 0):=⟨c12,c14,c15⟩;refine zdv 0 ?_;refine zdv 1 ?_;refine zdv 2 ?_;refine zdv 3 ?_;refine zdv 4 ?_;have k2:=h2;have f2:∀j,(World.at u dd).frozen? ⟨w.heap.size,j,none⟩=false:=fun j=>ed h2
 have d12:(World.at u dd).cell? ⟨w.heap.size,12,none⟩=some (.int .i64 5):=af h2 (by simp [dx]);apply LDr.vf 5 a9 rfl
 case hw=>exact dt rfl
 case hv=>
  ((try simp only [List.getElem_toArray,List.getElem_cons_zero,List.getElem_cons_succ]);dsimp only [execOp,resolve];(try simp+decide only [eval_put,bn,eval_const,size_put,if_true,if_false,List.map_toArray,List.map_cons,List.map_nil, *]);go_simp)
  rfl
 case hS=>
  have K5:ah [w.heap.size] u (u.setCell ⟨w.heap.size,12,none⟩ (.int .i64 0)):=ah.set (ah.refl _ _) (.inl ae);exact ⟨(K5.cell (bf h3) ae).trans c12,(K5.cell (bf h3) ae).trans c14,(K5.cell (bf h3) ae).trans c15⟩
 refine ay ?_;have h2:=ee (i:=12) (v:= .int .i64 0) h2;have h3:=(ig (w:=u) (b:=w.heap.size) (i:=12) (v:= .int .i64 0) ai).trans h3;have K:=ah.set (i:=12) (v:= .int .i64 0) (b:=w.heap.size) K (.inr (Nat.le_refl _));generalize u.setCell ⟨w.heap.size,12,none⟩ (.int .i64 0)=u5 at*;have c12:u5.cell? ⟨w.heap.size+1,12,none⟩=some (.int .i64 0):=af h3 (by simp [dx]);have c14:u5.cell? ⟨w.heap.size+1,14,none⟩=some (.int .i64 0):=af h3 (by simp [dx]);have c15:u5.cell? ⟨w.heap.size+1,15,none⟩=some (.int .i64 0):=af h3 (by simp [dx]);have hS0:(World.at u5 dd).cell? ⟨w.heap.size+1,12,none⟩=some (.int .i64 0)∧(World.at u5 dd).cell? ⟨w.heap.size+1,14,none⟩=some (.int .i64 0)∧(World.at u5 dd).cell? ⟨w.heap.size+1,15,none⟩=some (.int .i64 0):=⟨c12,c14,c15⟩;refine zdv 6 ?_;have f2:∀j,u5.frozen? ⟨w.heap.size,j,none⟩=false:=fun j=>ed h2
 have d14:u5.cell? ⟨w.heap.size,14,none⟩=some (.int .i64 1):=af h2 (by simp [dx]);have d15:u5.cell? ⟨w.heap.size,15,none⟩=some (.int .i64 1):=af h2 (by simp [dx]);apply LDr.vf 7 a9 rfl
 case hw=>exact dt rfl
 case hv=>
  ((try simp only [List.getElem_toArray,List.getElem_cons_zero,List.getElem_cons_succ]);dsimp only [execOp,resolve];(try simp+decide only [eval_put,bn,eval_const,size_put,if_true,if_false,List.map_toArray,List.map_cons,List.map_nil, *]);go_simp)
  rfl
 case hS=>
  have K6:ah [w.heap.size] u5 ((u5.setCell ⟨w.heap.size,14,none⟩ (.int .i64 0)).setCell ⟨w.heap.size,15,none⟩ (.int .i64 0)):=ah.set (ah.set (ah.refl _ _) (.inl ae)) (.inl ae);exact ⟨(K6.cell (bf h3) ae).trans c12,(K6.cell (bf h3) ae).trans c14,(K6.cell (bf h3) ae).trans c15⟩
 refine ay ?_;apply LDr.fin a9;have h2:=ee (i:=15) (v:= .int .i64 0) (ee (i:=14) (v:= .int .i64 0) h2);have h3:=(ig (w:=u5.setCell ⟨w.heap.size,14,none⟩ (.int .i64 0)) (b:=w.heap.size) (i:=15) (v:= .int .i64 0) ai).trans ((ig (w:=u5) (b:=w.heap.size) (i:=14) (v:= .int .i64 0) ai).trans h3);have K:=ah.set (i:=15) (v:= .int .i64 0) (b:=w.heap.size) (ah.set (i:=14) (v:= .int .i64 0) (b:=w.heap.size) K (.inr (Nat.le_refl _))) (.inr (Nat.le_refl _));have hA:((((dx 5 idx 1 1).setIfInBounds 12 (.int .i64 0)).setIfInBounds 14 (.int .i64 0)).setIfInBounds 15 (.int .i64 0))=dx 0 idx 0 0:=by simp [dx]
 rw [hA] at h2;refine ad.ib (fun x=>x.heap[w.heap.size]? =some (.cells (dx 0 idx 0 0) 95 (0,0))∧x.heap[w.heap.size+1]? =some (.cells (dx 0 idx 0 0) 95 (0,0))∧ah [] w x) ⟨h2,h3,K.at⟩ fun x ⟨h2,h3,K⟩=> ?_
 refine kl [2,3] fun a1 hsz hK=> ?_;obtain ⟨v2,v3,-⟩:=hK
 refine au ?_;refine iq (qb h2 rfl) ?_;refine iq (qb h3 rfl) ?_;apply ad.val rfl (v:= .bool true) (w1:=x)
 case ho=>rfl
 case hw=>exact dt rfl
 case hr=>
  dsimp only [execOp];refine ay ?_;simp+decide only [eval_put,bn,eval_const,size_put,if_true,if_false,hsz,v2,v3];rw [Sem.run_bind,eq95 hi x];rfl
 refine ay ?_;refine au ?_;exact ad.dq rfl hf rfl bz aj ⟨rfl,K⟩
end
section
variable {w w1 w2:World}{g d now kept k np i x m idx:Nat}{room used:Int}{pend dat:Value}{es:Array MapEntry}{safe:Int}{news:List Value}
theorem ah5 (h:WD w g d room used now kept pend np es k)(hn:fnd es nA=none):Calls GP 40 #[dk g,.agg (dx 0 idx 0 0)] w fun e w2=>e= .returned (.agg (fc 1 0))∧WD w2 g d room used now kept pend np es k∧ah [g] w w2:=by
 refine dn 40 36 Tryz.func40 fun a hf hsz hv=> ?_
 obtain ⟨v0,v1,-⟩:=ir hv;clear hv;have v0':a.eval (.tmp 0)= .iface 73 (pO g):=v0;clear v0;simp only [dx] at v1;refine au ?_;have K0:ah [] w ((w.alloc (.cells (dx 0 idx 0 0) 95)).alloc (.cells (fc 0 0) 112)):=ei;have b4:((w.alloc (.cells (dx 0 idx 0 0) 95)).alloc (.cells (fc 0 0) 112)).heap[w.heap.size+1]? =some (.cells (fc 0 0) 112 (0,0)):=fy ae;refine bt 68 (bread_no (h.on K0 ae ae ae ae) hn) fun v w2 hr=> ?_
 obtain ⟨hv,H1,K1⟩:=hr;obtain rfl:=bh hv;have hl:=h.lt;have b4:=K1.on b4 (by simp;omega);have K1:ah [g] w w2:=ah.trans (K0.more ae) K1 ae;refine au ?_;have hs:=bf b4;have b6:(w2.alloc (.cells (fc 0 0) 112)).heap[w2.heap.size]? =some (.cells (fc 0 0) 112 (0,0)):=bu;obtain ⟨w5,r5,b6,K5,-⟩:=ox (v:=fc 1 0) b6 rfl rfl (by simp [fc,Value.oneCell'])
 (refine ad.jq rfl rfl rfl bj aj et r5 ?_;refine ay ?_)
 have K6:ah [] w2 w5:=(ah.alloc (ah.refl [] w2)).trans K5 ae;have b4:=K6.on b4 ae;have H2:=H1.on K6 ae ae ae ae;have c6:w5.cell? ⟨w2.heap.size,0,none⟩=some (.int .i64 1):=af b6 (by simp [fc]);refine ad.ak ?_;refine kl [4,6] fun a1 hsz hK=> ?_;obtain ⟨v4,v6,-⟩:=hK
 refine au ?_;refine iq (xo b6 rfl) ?_;obtain ⟨w7,r7,b4,K7,-⟩:=ox (v:=fc 1 0) b4 rfl rfl (by simp [fc,Value.oneCell'])
 (refine ad.jq rfl rfl rfl bj aj et r7 ?_;refine ay ?_)
 refine au ?_
 (apply ad.aaw rfl hf rfl (hl:=(zp b4 rfl));(case hd=>simp [hsz]);(case hs=>exact et))
 exact ⟨rfl,H2.on K7 (by simp;omega) (by simp;omega) (by simp;omega) (fun b hb=>by have:=hl.2.2.2 b hb;simp;omega),ah.trans (K1.trans K6 ae) K7 (fun b hb=> .inr (by simp at hb;omega))⟩
theorem blook_ok {ch:List Int}(hi:idx<3)(h:WD w g d room used now kept pend np es k)(hn:fnd es nA=some (i,pO x))(hb:Bdy w x dat safe)(hxg:x≠g)(ho:w.ownsRow 0 5 1 dat 48 (fi (ma idx ch)))(hdg:g∉blk dat)(hl3:ch.length=3)(hx0:∀x∈ch,0≤x∧x<256):
  Calls GP 40 #[dk g,.agg (dx 0 idx 0 0)] w fun e w2=>(∃v,e= .returned v)∧∃q cc,e= .returned (.agg (snS idx (sO q 1 cc)))∧WD w2 g d room used now kept pend np es k∧ah [g] w w2:=by
 refine dn 40 36 Tryz.func40 fun a hf hsz hv=> ?_
 obtain ⟨v0,v1,-⟩:=ir hv;clear hv;have v0':a.eval (.tmp 0)= .iface 73 (pO g):=v0;clear v0;simp only [dx] at v1;refine au ?_;have K0:ah [] w ((w.alloc (.cells (dx 0 idx 0 0) 95)).alloc (.cells (fc 0 0) 112)):=ei;have b4:((w.alloc (.cells (dx 0 idx 0 0) 95)).alloc (.cells (fc 0 0) 112)).heap[w.heap.size+1]? =some (.cells (fc 0 0) 112 (0,0)):=fy ae;have b3:((w.alloc (.cells (dx 0 idx 0 0) 95)).alloc (.cells (fc 0 0) 112)).heap[w.heap.size]? =some (.cells (dx 0 idx 0 0) 95 (0,0)):=bw bu;refine bt 68 (bread_ok (h.on K0 ae ae ae ae) hn (K0.on hb ae) hxg (jk ho K0 ae) hdg (by simp [fi,Value.oneCell']) ai ai) fun v w2 hr=> ?_
 obtain ⟨-,q,cap,hv,O1,lq,H1,K1⟩:=hr;obtain rfl:=bh hv;have hl:=h.lt;have b4:=K1.on b4 (by simp;omega);have b3:=K1.on b3 (by simp;omega);have K1:ah [g] w w2:=ah.trans (K0.more ae) K1 ae;refine au ?_;have hs:=bf b4;have b6:(w2.alloc (.cells (fc 0 0) 112)).heap[w2.heap.size]? =some (.cells (fc 0 0) 112 (0,0)):=bu;obtain ⟨w5,r5,b6,K5,-⟩:=ox (v:=fc 3 0) b6 rfl rfl (by simp [fc,Value.oneCell'])
 (refine ad.jq rfl rfl rfl bj aj et r5 ?_;refine ay ?_)
 have K6:ah [] w2 w5:=(ah.alloc (ah.refl [] w2)).trans K5 ae;have b4:=K6.on b4 ae;have b3:=K6.on b3 ae;have H2:=H1.on K6 ae ae ae ae;have O2:=jk O1 K6 ae;have c6:w5.cell? ⟨w2.heap.size,0,none⟩=some (.int .i64 3):=af b6 (by simp [fc]);refine ad.ak ?_;refine kl [3,4,5,6] fun a1 hsz hK=> ?_;obtain ⟨v3,v4,v5,v6,-⟩:=hK
 refine au ?_;have BQ:BL w5 q 0 (ma idx ch):=fun j v hj=>by
  have:=O2.cells (g:=q) rfl j v hj
  rwa [Addr.add_lit] at this
 refine bt 69 (parse_ok hi BQ (lj O2 q (by simp [blk,Value.ownBlock])) hl3 hx0 (aj3 O2)) fun v w2 hr=> ?_
 rename World=>w6
 obtain ⟨-,q2,cc,hv,K7⟩:=hr;obtain rfl:=bh hv;have b4:=K7.on b4 ae;have b3:=K7.on b3 ae;have H3:=H2.on K7 ae ae ae ae;have hs6:=bf b4;refine au ?_;have b7:(w6.alloc (.cells jo 103)).heap[w6.heap.size]? =some (.cells jo 103 (0,0)):=bu;obtain ⟨w7,r7,b7,K8,-⟩:=st103 (v:=iv idx (sO q2 1 cc)) b7 rfl rfl (by simp [iv,Value.oneCell'])
 (refine ad.jq rfl rfl rfl bj aj et r7 ?_;refine ay ?_)
 have K8:ah [] w6 w7:=(ah.alloc (ah.refl [] w6)).trans K8 ae;have b4:=K8.on b4 ae;have b3:=K8.on b3 ae;have H4:=H3.on K8 ae ae ae ae;refine au ?_;refine kl [3,4,7,25,26,27,28] fun a1 hsz hK=> ?_;obtain ⟨v3,v4,v7,v25,v26,v27,v28,-⟩:=hK
 refine iq (row95 b7) ?_;refine iq (qb b3 rfl) ?_
 trace_state
 refine bt 70 (am7 hi) fun v w2 hr=> ?_
 rename World=>w9
 obtain ⟨hv,K9⟩:=hr;obtain rfl:=bh hv;have b4:=K9.on b4 ae;have b7:=K9.on b7 ae;have H5:=H4.on K9 ae ae ae ae;refine au ?_;refine iq (ldR103 b7 rfl) ?_
 (apply ad.val rfl;(case ho=>rfl);(case hw=>exact bj);(case hr=>refine zpr ?_;first|(rw [Sem.run_bind,(ake _)];rfl)|exact (ake _));refine ay ?_)
 obtain ⟨w10,r10,b4,K10,-⟩:=ox (v:=snS idx (sO q2 1 cc)) b4 rfl rfl (by simp [snS,Value.oneCell'])
 (refine ad.jq rfl rfl rfl bj aj et r10 ?_;refine ay ?_)
 refine au ?_
 (apply ad.aaw rfl hf rfl (hl:=(zp b4 rfl));(case hd=>simp [hsz]);(case hs=>exact et))
 exact ⟨⟨_,rfl⟩,q2,cc,rfl,H5.on K10 (by simp;omega) (by simp;omega) (by simp;omega) (fun b hb=>by have:=hl.2.2.2 b hb;simp;omega),ah.trans ((((K1.trans K6 ae).trans K7 ae).trans K8 ae).trans K9 ae) K10 (fun b hb=> .inr (by simp at hb;omega))⟩
end
def df (disks:Value)(K M B ep cn:Int):Array Value:=#[disks,.int .i64 K,.int .i64 M,.int .i64 B,.int .u8 0,.int .u8 0,.int .u8 0,.int .u8 0,.int .u8 0,.int .u8 0,.int .u8 0,.int .u8 0,.int .i64 ep,.int .i64 cn]
section
variable {w w1 w2:World}{s bd cap:Nat}
theorem aht:Calls GP 71 #[.agg shp,.int .i64 3] w fun e w2=>e= .returned (.bool true)∧ah [] w w2:=by
 refine dn 71 47 Tryz.func71 fun a hf hsz hv=> ?_
 obtain ⟨v0,v1,-⟩:=ir hv;clear hv;simp only [shp] at v0;refine ba ?_;exact ad.dq rfl hf rfl bz aj ⟨rfl,ei⟩
theorem qw:Calls GP 81 #[.agg #[.int .i64 2,.int .i64 1,.int .i64 16]] w fun e w2=>e= .returned (.bool true)∧ah [] w w2:=by
 refine dn 81 36 Tryz.func81 fun a hf hsz hv=> ?_
 obtain ⟨v0,-⟩:=ie hv;clear hv;refine ba ?_;exact ad.dq rfl hf rfl bz aj ⟨rfl,ei⟩
theorem rshape_3:Calls GP 81 #[.agg #[.int .i64 3,.int .i64 1,.int .i64 16]] w fun e w2=>e= .returned (.bool true)∧ah [] w w2:=by
 refine dn 81 36 Tryz.func81 fun a hf hsz hv=> ?_
 obtain ⟨v0,-⟩:=ie hv;clear hv;refine ba ?_;exact ad.dq rfl hf rfl bz aj ⟨rfl,ei⟩
theorem rshape_0:Calls GP 81 #[.agg #[.int .i64 2,.int .i64 0,.int .i64 16]] w fun e w2=>e= .returned (.bool false)∧ah [] w w2:=by
 refine dn 81 36 Tryz.func81 fun a hf hsz hv=> ?_
 obtain ⟨v0,-⟩:=ie hv;clear hv;refine ba ?_;exact ad.dq rfl hf rfl bz aj ⟨rfl,ei⟩
theorem rshape_b:Calls GP 81 #[.agg #[.int .i64 2,.int .i64 1,.int .i64 65537]] w fun e w2=>e= .returned (.bool false)∧ah [] w w2:=by
 refine dn 81 36 Tryz.func81 fun a hf hsz hv=> ?_
 obtain ⟨v0,-⟩:=ie hv;clear hv;refine ba ?_;exact ad.dq rfl hf rfl bz aj ⟨rfl,ei⟩
theorem u36':GP.underlying 36=some (Tryz.prog.underlying 36).get! :=by kernel_rfl
theorem oq {u:World}{b:Nat}{dv:Value}{K M B ep cn:Int} {z}(h:u.heap[b]? =some (.cells (df dv K M B ep cn) 41 z)):(Instr.loadAt 36 (.pointer (some ⟨b,1,none⟩))).run GP u= .ok (.agg #[.int .i64 K,.int .i64 M,.int .i64 B]) u:=
 run_loadAt_mid (P:=GP) u b 1 36 [.int .i64 K,.int .i64 M,.int .i64 B] _ (jy h fun j hj=>by
  simp at hj;rcases j with _|_|_|j <;> first|rfl|omega) u36' du (by rw [ek];kernel_rfl)
theorem aa0 (h:w.heap[s]? =some (.cells (df (sO bd 3 cap) 2 1 16 1 0) 41 (0,0))):Calls GP 52 #[pO s] w fun e w2=>e= .returned (.int .i64 0)∧ah [] w w2:=by
 refine dn 52 55 Tryz.func52 fun a hf hsz hv=> ?_
 obtain ⟨v0,-⟩:=ie hv;clear hv;refine ba ?_;refine iq (oq h) ?_;refine bt 81 (qw (w:=w)) fun v w2 hr=> ?_
 obtain ⟨hv,K1⟩:=hr;obtain rfl:=bh hv;have h:=K1.on h ae;have c0:w2.cell? ⟨s,0,none⟩=some (sO bd 3 cap):=af h (by simp [df]);have c1:w2.cell? ⟨s,1,none⟩=some (.int .i64 2):=af h (by simp [df]);have c2:w2.cell? ⟨s,2,none⟩=some (.int .i64 1):=af h (by simp [df]);have c12:w2.cell? ⟨s,12,none⟩=some (.int .i64 1):=af h (by simp [df]);have c13:w2.cell? ⟨s,13,none⟩=some (.int .i64 0):=af h (by simp [df]);refine kl [0,11] fun a1 hsz hK=> ?_;obtain ⟨v0,v11,-⟩:=hK
 refine ba ?_;refine zwq ?_;intro dd;refine ba ?_;exact ad.dq rfl hf rfl bz aj ⟨rfl,K1.at⟩
theorem ahs (h:w.heap[s]? =some (.cells (df (sO bd 3 cap) 2 1 16 1 1) 41 (0,0))):Calls GP 52 #[pO s] w fun e w2=>e= .returned (.int .i64 0)∧ah [] w w2:=by
 refine dn 52 55 Tryz.func52 fun a hf hsz hv=> ?_
 obtain ⟨v0,-⟩:=ie hv;clear hv;refine ba ?_;refine iq (oq h) ?_;refine bt 81 (qw (w:=w)) fun v w2 hr=> ?_
 obtain ⟨hv,K1⟩:=hr;obtain rfl:=bh hv;have h:=K1.on h ae;have c0:w2.cell? ⟨s,0,none⟩=some (sO bd 3 cap):=af h (by simp [df]);have c1:w2.cell? ⟨s,1,none⟩=some (.int .i64 2):=af h (by simp [df]);have c2:w2.cell? ⟨s,2,none⟩=some (.int .i64 1):=af h (by simp [df]);have c12:w2.cell? ⟨s,12,none⟩=some (.int .i64 1):=af h (by simp [df]);have c13:w2.cell? ⟨s,13,none⟩=some (.int .i64 1):=af h (by simp [df]);refine kl [0,11] fun a1 hsz hK=> ?_;obtain ⟨v0,v11,-⟩:=hK
 refine ba ?_;refine zwq ?_;intro dd;refine ba ?_;exact ad.dq rfl hf rfl bz aj ⟨rfl,K1.at⟩
theorem rset_nil:Calls GP 52 #[.pointer none] w fun e w2=>e= .returned (.int .i64 1)∧w2=w:=by
 refine dn 52 55 Tryz.func52 fun a hf hsz hv=> ?_
 obtain ⟨v0,-⟩:=ie hv;clear hv;refine ba ?_;exact ad.dq rfl hf rfl bz aj ⟨rfl,rfl⟩
theorem rkey_a:Calls GP 53 #[.string kA] w fun e w2=>e= .returned (.int .i64 0)∧w2=w:=by
 refine dn 53 10 Tryz.func53 fun a hf hsz hv=> ?_
 obtain ⟨v0,-⟩:=ie hv;clear hv;have e3:kA.size=1:=rfl;have e4:kA.toList.isEmpty=false:=by decide+kernel
 refine ba ?_;exact ad.dq rfl hf rfl bz aj ⟨rfl,rfl⟩
end
section
variable {w w1 w2:World}{g d now kept k np i x m idx hb:Nat}{room used:Int}{pend dat:Value}{es:Array MapEntry}{safe:Int}{news:List Value}
theorem am4 {z:Nat×Nat}(hi:idx<3)(hh:w.heap[hb]? =some (.cells (dx 0 0 0 0) 95 z))(h:WD w g d room used now kept pend np es k)(hn:fnd es nA=none):Calls GP 55 #[.int .i64 idx,dk g,pO hb] w fun e w2=>e= .returned (.agg (fc 1 0))∧WD w2 g d room used now kept pend np es k∧ah [g] w w2:=by
 refine dn 55 13 Tryz.func55 fun a hf hsz hv=> ?_
 obtain ⟨v0,v1,v2,-⟩:=za3 hv;clear hv;have v1':a.eval (.tmp 1)= .iface 73 (pO g):=v1;clear v1;refine au ?_;have hl:=h.lt;refine ad.ib (fun u=>u.heap[w.heap.size]? =some (.cells (fc 0 0) 112 (0,0))∧ah [] w u) ⟨bu,ei⟩ fun u ⟨h5,K⟩=> ?_
 have hh:=K.on hh ae;refine iq (qb hh rfl) ?_;refine au ?_;have h5l:=bf h5;have b6:(u.alloc (.cells z95 95)).heap[u.heap.size]? =some (.cells z95 95 (0,0)):=bu;obtain ⟨w5,r5,b6,K5,-⟩:=st95 (v:=dx 0 0 0 0) b6 rfl rfl (by simp [dx,Value.oneCell'])
 (refine ad.jq rfl rfl rfl bj aj et r5 ?_;refine ay ?_)
 have K5:ah [] u w5:=(ah.alloc (ah.refl [] u)).trans K5 ae;have h5:=K5.on h5 ae;have K:=K.trans K5 ae;have c6:w5.cell? ⟨u.heap.size,13,none⟩=some (.int .i64 0):=af b6 (by simp [dx]);have f6:w5.frozen? ⟨u.heap.size,13,none⟩=false:=ed b6;refine ad.ak ?_;refine kl [0,1,5,6] fun a1 hsz hK=> ?_;obtain ⟨v0,v1,v5,v6,-⟩:=hK
 refine ba ?_;have b6:=ee (i:=13) (v:= .int .i64 idx) b6;have e6:(dx 0 0 0 0).setIfInBounds 13 (.int .i64 idx)=dx 0 idx 0 0:=by simp [dx]
 rw [e6] at b6;have h5:=(ig (w:=w5) (b:=u.heap.size) (i:=13) (v:= .int .i64 idx) ai).trans h5;have K:=ah.set (i:=13) (v:= .int .i64 idx) (b:=u.heap.size) K (.inr (by have:=K.size;have:=K5.size;omega));have H:=h.on K ae ae ae ae;refine iq (qb b6 rfl) ?_;refine bt 40 (ah5 (idx:=idx) H hn) fun v w2 hr=> ?_
 obtain ⟨hv,H1,K1⟩:=hr;obtain rfl:=bh hv;have h5:=K1.on h5 (by simp;omega);obtain ⟨w7,r7,h5,K7,-⟩:=ox (v:=fc 1 0) h5 rfl rfl (by simp [fc,Value.oneCell'])
 (refine ad.jq rfl rfl rfl bj aj et r7 ?_;refine ay ?_)
 refine au ?_
 (apply ad.aaw rfl hf rfl (hl:=(zp h5 rfl));(case hd=>simp [hsz]);(case hs=>exact et))
 exact ⟨rfl,H1.on K7 (by simp;omega) (by simp;omega) (by simp;omega) (fun b hb=>by have:=hl.2.2.2 b hb;simp;omega),ah.trans ((K.more ae).trans K1 ae) K7 (fun b hb=> .inr (by simp at hb;omega))⟩
theorem job_drop {da:Option Addr}{L cp ck:Nat}{pI:Int}(hk:w.cell? ⟨ck,0,none⟩=some (.string kA))(h:WD w g d room used now kept pend np es k)(hnp:np<1000)(hn:fnd es nA=some (i,pO x))(hb:Bdy w x (.slice da L cp) safe)(hxg:x≠g):Calls GP 15 #[.int .i64 pI,dk g,pO ck] w fun e w2=>e= .returned (.int .i64 0)∧∃kept2,WD w2 g d room (IntKind.i64.wrap (used-L)) now kept2 (.slice none 0 0) 0 (es.eraseIdxIfInBounds i) k∧ah ([g,d,now]++blk pend) w w2:=by
 refine dn 15 9 Tryz.func15 fun a hf hsz hv=> ?_
 obtain ⟨v0,v1,v2,-⟩:=za3 hv;clear hv;refine ba ?_;refine bt 16 (drop_ok h hnp hn hb hxg) fun v w2 hr=> ?_
 obtain ⟨hv,H1⟩:=hr;obtain rfl:=bh hv;refine ba ?_;exact ad.dq rfl hf rfl bz aj ⟨rfl,H1⟩
theorem u37':GP.underlying 37=some (Tryz.prog.underlying 37).get! :=by kernel_rfl
theorem acz {u:World}{s:Nat}{dv:Value}{K M B ep cn:Int} {z}(h:u.heap[s]? =some (.cells (df dv K M B ep cn) 41 z)):(Instr.loadAt 37 (.pointer (some ⟨s,4,none⟩))).run GP u= .ok (.agg #[.int .u8 0,.int .u8 0,.int .u8 0,.int .u8 0,.int .u8 0,.int .u8 0,.int .u8 0,.int .u8 0]) u:=
 run_loadAt_mid (P:=GP) u s 4 37 [.int .u8 0,.int .u8 0,.int .u8 0,.int .u8 0,.int .u8 0,.int .u8 0,.int .u8 0,.int .u8 0] _ (jy h fun j hj=>by
  simp at hj;rcases j with _|_|_|_|_|_|_|_|j <;> first|rfl|omega) u37' du (by rw [ek];kernel_rfl)
theorem bld95 {idx:Int}(w:World):(Instr.build 95 #[(0,.agg #[.int .u8 0,.int .u8 0,.int .u8 0,.int .u8 0,.int .u8 0,.int .u8 0,.int .u8 0,.int .u8 0]),(1,.agg #[.int .i64 2,.int .i64 1,.int .i64 16]),(2,.string kA),(4,.int .i64 idx)]).run GP w= .ok (.agg (dx 0 idx 0 0)) w:=by kernel_rfl
theorem ail {zc zk zs:Nat×Nat}{RJ:Array Value→World→Prop}{cset ck s:Nat}{dv:Value}{ep cn:Int}(hi:idx<3)(hc:w.heap[cset]? =some (.cells #[pO s] 28 zc))(hk:w.heap[ck]? =some (.cells #[.string kA] 9 zk))(hs:w.heap[s]? =some (.cells (df dv 2 1 16 ep cn) 41 zs))
  (hJ:∀u,ah [] w u→Calls GP 40 #[dk g,.agg (dx 0 idx 0 0)] u fun e w2=>(∃v,e= .returned v)∧∃cs,e= .returned (.agg cs)∧cs.size=19∧cs.all (·.oneCell')=true∧RJ cs w2∧ah [g] u w2)(hg:g<w.heap.size)(hgc:cset≠g∧ck≠g∧s≠g)(hR:∀b cs w2 w3,w.heap.size≤b→RJ cs w2→ah [b] w2 w3→RJ cs w3):
  Calls GP 39 #[.int .i64 idx,dk g,pO cset,pO ck] w fun e w2=>(∃v,e= .returned v)∧∃cs,e= .returned (.agg cs)∧cs.size=19∧cs.all (·.oneCell')=true∧RJ cs w2∧ah [g] w w2:=by
 refine dn 39 20 Tryz.func39 fun a hf hsz hv=> ?_
 obtain ⟨v0,v1,v2,v3,-⟩:=za4 hv;clear hv;have v1':a.eval (.tmp 1)= .iface 73 (pO g):=v1;clear v1;refine au ?_;refine ad.ib (fun u=>u.heap[w.heap.size]? =some (.cells (fc 0 0) 112 (0,0))∧ah [] w u) ⟨bu,ei⟩ fun u ⟨h6,K⟩=> ?_
 have hc:=K.on hc ae;have hk:=K.on hk ae;have hs:=K.on hs ae;have cc:u.cell? ⟨cset,0,none⟩=some (pO s):=af hc ae;have ckk:u.cell? ⟨ck,0,none⟩=some (.string kA):=af hk ae;refine kl [0,1,2,3,6] fun a1 hsz hK=> ?_;obtain ⟨v0,v1,v2,v3,v6,-⟩:=hK
 apply ad.kj 13 (fun _ x=>x.cell? ⟨cset,0,none⟩=some (pO s)∧x.cell? ⟨ck,0,none⟩=some (.string kA)∧x.heap[s]? =some (.cells (df dv 2 1 16 ep cn) 41 zs)) eo;intro dd;have hS0:(World.at u dd).cell? ⟨cset,0,none⟩=some (pO s)∧(World.at u dd).cell? ⟨ck,0,none⟩=some (.string kA)∧(World.at u dd).heap[s]? =some (.cells (df dv 2 1 16 ep cn) 41 zs):=⟨cc,ckk,hs⟩;refine cg 0 ?_;refine cg 1 ?_;refine cg 2 ?_;refine cg 3 ?_
 (apply fa.take 4 rfl a9 a9 a9 a9;(case hw=>exact bj);(case hv=>intro x hu;refine zpr ?_;first|(rw [Sem.run_bind,(acz hu.2.2)];rfl)|exact (acz hu.2.2));(case hS=>exact hS0);refine ay ?_)
 refine cg 5 ?_;refine cg 6 ?_;refine cg 7 ?_
 (apply fa.take 8 rfl a9 a9 a9 a9;(case hw=>exact bj);(case hv=>intro x hu;refine zpr ?_;first|(rw [Sem.run_bind,(oq hu.2.2)];rfl)|exact (oq hu.2.2));(case hS=>exact hS0);refine ay ?_)
 refine cg 9 ?_;refine cg 10 ?_
 (apply fa.take 11 rfl a9 a9 a9 a9;(case hw=>exact bj);(case hv=>intro x hu;refine zpr ?_;first|(rw [Sem.run_bind,(bld95 (idx:=idx) _)];rfl)|exact (bld95 (idx:=idx) _));(case hS=>exact hS0);refine ay ?_)
 (apply fa.gw 12 (f:=40) a9 rfl;(case hw=>exact bj);(case hc=>exact (hJ (u.at dd) K.at));(case hv=>rw [cw (f:=40) rfl];refine zam ?_;exact ey 40 a9 _ _);(case hret=>exact fun e w2 h=>h.1))
 intro v w2 ⟨_,cs,hv,z1,z2,J1,K2⟩;obtain rfl:=bh hv;have K2':ah [g] u w2:=⟨K2.size,K2.ff,K2.os,K2.out⟩;refine ⟨fun _=>⟨af (K2'.on hc (by simpa using hgc.1)) ae,af (K2'.on hk (by simpa using hgc.2.1)) ae,K2'.on hs (by simpa using hgc.2.2)⟩,?_⟩;refine ay ?_;have h6:=K2'.on h6 (by simp;omega);obtain ⟨w7,r7,h6,K7,-⟩:=ox (v:=cs) h6 rfl z1 z2;apply fa.vf 13 a9 rfl
 case hw=>exact dt rfl
 case hv=>
  try refine ay ?_
  dsimp only [execOp,resolve];simp+decide only [eval_put,bn,eval_const,size_put,if_true,if_false, *];rw [Sem.run_bind,r7];rfl
 case hS=>exact fun h=>by omega
 refine ay ?_;apply fa.fin a9;refine au ?_
 (apply ad.aaw rfl hf rfl (hl:=(zp h6 z1));(case hd=>simp [hsz]);(case hs=>exact et))
 exact ⟨⟨_,rfl⟩,cs,rfl,z1,z2,hR _ _ _ _ (Nat.le_refl _) J1 K7,ah.trans ((K.more ae).trans K2' ae) K7 (fun b hb=> .inr (by simp at hb;omega))⟩
end
end Go.Proofs.YthgpdljlehklhaaGreat.wk
