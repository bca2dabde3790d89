/- Part QAV of the proof that DropRefused answers true whatever its input. No condition. -/
import Derived.Laws.IdiomStrings
import Derived.Test.YthgpdljlehklhaaGreatQAT
import Derived.Test.YthgpdljlehklhaaGreatQAU
set_option maxRecDepth 100000
namespace Go.Proofs.YthgpdljlehklhaaGreat.wk
open Go Go.Conc zr dr wd drv
set_option linter.unusedVariables false
set_option maxHeartbeats 4000000
section
variable {w w1 w2:World}{g m c off n:Nat}{bs:List Int}
theorem arr254 (w:World)(h:4≤m):(Instr.arrayAt 254 (.slice (some ⟨g,off,none⟩) m c)).run GP w= .ok (.pointer (some ⟨g,off,none⟩)) w:=by
 have hu:GP.underlying 254=some (.array 4 5):=by rw [fb];kernel_rfl
 simp [Instr.arrayAt,run_underlying hu];omega
theorem arr37 (w:World)(h:8≤m):(Instr.arrayAt 37 (.slice (some ⟨g,off,none⟩) m c)).run GP w= .ok (.pointer (some ⟨g,off,none⟩)) w:=by
 have hu:GP.underlying 37=some (.array 8 5):=by rw [fb];kernel_rfl
 simp [Instr.arrayAt,run_underlying hu];omega
theorem ld254 {l:List Value}(hl:l.length=4)(h:w.rangeAt g off l):(Instr.loadAt 254 (.pointer (some ⟨g,off,none⟩))).run GP w= .ok (.agg l.toArray) w:=by
 have hu:GP.underlying 254=some (.array 4 5):=by rw [fb];kernel_rfl
 exact run_loadAt_mid (P:=GP) w g off 254 l _ h hu rfl (by rw [ek,hl];kernel_rfl)
theorem ld37 {l:List Value}(hl:l.length=8)(h:w.rangeAt g off l):(Instr.loadAt 37 (.pointer (some ⟨g,off,none⟩))).run GP w= .ok (.agg l.toArray) w:=by
 have hu:GP.underlying 37=some (.array 8 5):=by rw [fb];kernel_rfl
 exact run_loadAt_mid (P:=GP) w g off 37 l _ h hu rfl (by rw [ek,hl];kernel_rfl)
theorem BL.range {o:Nat}{l:List Int}(h:BL w g off bs)(hs:(bs.drop o).take l.length=l):w.rangeAt g (off+o) (fi l):=fun j u hj=>by
 have:(fi bs)[o+j]? =some u:=by
  simp only [fi,List.getElem?_map,Option.map_eq_some_iff] at hj ⊢;obtain ⟨x,hx,rfl⟩:=hj;refine ⟨x,?_,rfl⟩;have hlt:=(List.getElem?_eq_some_iff.1 hx).1;rw [←hs,List.getElem?_take_of_lt hlt,List.getElem?_drop] at hx;exact hx
 have:=h _ _ this;rw [←Nat.add_assoc] at this;exact this
def rdB (idx:Int):List Int:=[0,0,0,0,0,0,0,0,2,1]++fu 16++fu 5++ [idx]++fu 1++fu 1++ [1]++fu (ld idx)
theorem rdB_in (idx:Int)(ch:List Int):((ma idx ch).drop 4).take 32=rdB idx:=by
 simp [ma,ij,rdB,fu]
def hdP (K M B:Int)(s:ByteArray)(sz ix ep cn:Int):Array Value:=#[.int .u8 0,.int .u8 0,.int .u8 0,.int .u8 0,.int .u8 0,.int .u8 0,.int .u8 0,.int .u8 0,.int .i64 K,.int .i64 M,.int .i64 B,.string s,.int .i64 sz,.int .i64 ix,.int .i64 ep,.int .i64 cn]
structure OpI (w u:World)(r gb cap off b:Nat)(cs:Array Value)(idx:Int):Prop where
 rdr:u.heap[r]? =some (.cells (rd gb 32 cap off) 289 (0,0))
 bl:BL u gb 0 (rdB idx)
 gr:gb≠r
 br:b≠r
 bg:b≠gb
 gl:gb<u.heap.size
 hd:u.heap[b]? =some (.cells cs 95 (0,0))
 kp:ah [] w u
 rl:w.heap.size<r
 b0:w.heap.size<b
 rs:u.heap[w.heap.size]? =some (.cells (hdP 0 0 0 ⟨#[]⟩ 0 0 0 0) 95 (0,0))
theorem OpI.yx {u u2:World}{r gb cap o1 b k:Nat}{cs:Array Value}{idx:Int}(h:OpI w u r gb cap o1 b cs idx)(hr:u2.heap[r]? =some (.cells (rd gb 32 cap ((o1+k:Nat):Int)) 289 (0,0)))(hk:ah [r] u u2):OpI w u2 r gb cap (o1+k) b cs idx:=
 ⟨hr,h.bl.on hk h.gl (by simpa using h.gr),h.gr,h.br,h.bg,Nat.lt_of_lt_of_le h.gl hk.size,hk.on h.hd (by simpa using h.br),h.kp.trans hk (fun b hb=>by
  simp at hb;have:=h.rl;exact .inr ai),h.rl,h.b0,hk.on h.rs (by
  have:=h.rl;simp;omega)⟩
theorem OpI.put {u:World}{r gb cap o1 b i:Nat}{cs:Array Value}{idx:Int}{v:Value}(h:OpI w u r gb cap o1 b cs idx):OpI w (u.setCell ⟨b,i,none⟩ v) r gb cap o1 b (cs.setIfInBounds i v) idx:=by
 have hk:ah [b] u (u.setCell ⟨b,i,none⟩ v):=ah.set (ah.refl _ _) (.inl ae);exact ⟨(ig (fun e=>h.br e.symm)).trans h.rdr,h.bl.on hk h.gl (by simpa using fun e=>h.bg e.symm),h.gr,h.br,h.bg,Nat.lt_of_lt_of_le h.gl hk.size,ee h.hd,h.kp.trans hk (fun x hx=>by
  simp at hx;have:=h.b0;exact .inr ai),h.rl,h.b0,hk.on h.rs (by
  have:=h.b0;simp;omega)⟩
theorem OpI.row {u u2:World}{r gb cap o1 b:Nat}{cs c2:Array Value}{idx:Int}(h:OpI w u r gb cap o1 b cs idx)(hb:u2.heap[b]? =some (.cells c2 95 (0,0)))(hk:ah [b] u u2):OpI w u2 r gb cap o1 b c2 idx:=
 ⟨hk.on h.rdr (by simpa using fun e=>h.br e.symm),h.bl.on hk h.gl (by simpa using fun e=>h.bg e.symm),h.gr,h.br,h.bg,Nat.lt_of_lt_of_le h.gl hk.size,hb,h.kp.trans hk (fun x hx=>by
  simp at hx;have:=h.b0;exact .inr ai),h.rl,h.b0,hk.on h.rs (by
  have:=h.b0;simp;omega)⟩
theorem OpI.same {u u2:World}{r gb cap o1 b:Nat}{cs:Array Value}{idx:Int}(h:OpI w u r gb cap o1 b cs idx)(hk:ah [] u u2):OpI w u2 r gb cap o1 b cs idx:=
 ⟨hk.on h.rdr ae,h.bl.on hk h.gl ae,h.gr,h.br,h.bg,Nat.lt_of_lt_of_le h.gl hk.size,hk.on h.hd ae,h.kp.trans hk ae,h.rl,h.b0,hk.on h.rs ae⟩
theorem OpI.keep2 {u1 u u2:World}{r r2 gb cap o1 b:Nat}{cs:Array Value}{idx:Int}(h:OpI w u r gb cap o1 b cs idx)(hk:ah [r2] u u2)(hl:u1.heap.size≤r2)(h1:OpI w u1 r gb cap o1 b cs idx):OpI w u2 r gb cap o1 b cs idx:=by
 have q1:=bf h1.rdr;have q2:=h1.gl;have q3:=bf h1.hd;have q4:=bf h1.rs;exact ⟨hk.on h.rdr (by simp;omega),h.bl.on hk h.gl (by simp;omega),h.gr,h.br,h.bg,Nat.lt_of_lt_of_le h.gl hk.size,hk.on h.hd (by simp;omega),h.kp.trans hk (fun x hx=>by
  simp at hx;exact .inr ai),h.rl,h.b0,hk.on h.rs (by simp;omega)⟩
theorem OpI.byte {u:World}{r gb cap o1 b:Nat}{cs:Array Value}{idx:Int}(h:OpI w u r gb cap o1 b cs idx)(j:Nat){x:Int}(hx:(rdB idx)[j]? =some x):u.cell? ⟨gb,j,none⟩=some (.int .u8 x):=by
 have:=h.bl j (.int .u8 x) (by simp [fi,hx])
 rwa [Nat.zero_add] at this
theorem OpI.b32 {u:World}{r gb cap o1 b:Nat}{cs:Array Value}{idx:Int}(h:OpI w u r gb cap o1 b cs idx)(o:Nat){x:Int}(hx:((rdB idx).drop o).take (fu x).length=fu x):B32 u gb o x:=by
 have:=h.bl.range (o:=o) hx
 rwa [Nat.zero_add] at this
theorem OpI.fz {u:World}{r gb cap o1 b:Nat}{cs:Array Value}{idx:Int}(h:OpI w u r gb cap o1 b cs idx)(j:Nat):u.frozen? ⟨b,j,none⟩=false:=ed h.hd
theorem wm {h o:Nat}{hI:Int}{w:World}(eh:hI=h)(h2:h≤c)(h3:0<c):(Instr.sliceAt 49 (.slice (some ⟨g,o,none⟩) m c) none (some (.int .i64 hI)) none).run GP w= .ok (.slice (some ⟨g,o,none⟩) h c) w:=by
 subst eh;rw [run_sliceAt_slice _ _ _ _ _ _ y8,run_slice_h _ _ _ _ _ y8 _ _ ai ai,sz49];have e:¬c=0:=by omega
 simp [Result.andThen,sliced,e,Addr.add]
theorem sl49l {l o:Nat}{lI:Int}{w:World}(el:lI=l)(h1:l≤m)(h3:l<c):(Instr.sliceAt 49 (.slice (some ⟨g,o,none⟩) m c) (some (.int .i64 lI)) none none).run GP w= .ok (.slice (some ⟨g,o+l,none⟩) (m-l) (c-l)) w:=by
 subst el;have e:¬c=l:=by omega
 rw [run_sliceAt_slice _ _ _ _ _ _ y8,run_slice_l _ _ _ _ _ y8 _ _ ai ai,sz49];simp [Result.andThen,sliced,e,Addr.add_lit]
theorem wr3 (n:Nat)(h:n<4294967296):IntKind.i64.wrap (n:Int)=n:=by
 unfold IntKind.wrap;simp [IntKind.bits,IntKind.signed];omega
theorem openf_ok {idx c0:Nat}{ch:List Int}(hi:idx<3)(hx:BL w g 0 (ma idx ch))(hgl:g<w.heap.size)(hl:ch.length=3)(hc:48≤c0):
  Calls GP 116 #[sO g 48 c0] w fun e w2=>e= .returned (.tuple #[.agg (dx 5 idx 1 1),.int .u32 (lx idx),.int .i64 0])∧ah [] w w2:=by
 refine dn 116 107 Tryz.func116 fun a hf hsz hv=> ?_
 obtain ⟨v0,-⟩:=ie hv;clear hv;have hwi:IntKind.i64.wrap (idx:Int)=idx:=wr3 idx ai;have hc36:¬c0=36:=by omega
 obtain ⟨h1,hE⟩:=Int.eq_ofNat_of_zero_le (mr (r:=0) (ij idx)).1;obtain ⟨k1,kE⟩:=Int.eq_ofNat_of_zero_le (mr (r:=ld idx) [97]).1;have h1l:h1<4294967296:=by have:=(mr (r:=0) (ij idx)).2;omega
 have k1l:k1<4294967296:=by have:=(mr (r:=ld idx) [97]).2;omega
 have hE':ld idx=(h1:Int):=hE;have kE':lx idx=(k1:Int):=kE;clear hE kE;refine ba ?_;apply ad.wu (fun d u=>u.rangeAt g 0 (fi [67,82,78,2])∧g<u.heap.size) eo;intro dd;have r0:w.rangeAt g 0 (fi [67,82,78,2]):=hx.range (o:=0) rfl;have hS0:(World.at (World.alloc w (.cells #[.int .u8 0,.int .u8 0,.int .u8 0,.int .u8 0,.int .u8 0,.int .u8 0,.int .u8 0,.int .u8 0,.int .i64 0,.int .i64 0,.int .i64 0,.string ⟨#[]⟩,.int .i64 0,.int .i64 0,.int .i64 0,.int .i64 0] 95)) dd).rangeAt g 0 (fi [67,82,78,2])∧g< (World.at (World.alloc w (.cells #[.int .u8 0,.int .u8 0,.int .u8 0,.int .u8 0,.int .u8 0,.int .u8 0,.int .u8 0,.int .u8 0,.int .i64 0,.int .i64 0,.int .i64 0,.string ⟨#[]⟩,.int .i64 0,.int .i64 0,.int .i64 0,.int .i64 0] 95)) dd).heap.size:=⟨fun j u hj=>((ah.alloc (ah.refl [] w)).at.cell hgl ae).trans (r0 j u hj),by simp;omega⟩;refine zdv 0 ?_;apply LDr.take 1 rfl du du du (v:=pO g)
 case hw=>exact dt rfl
 case hv=>
  intro u hu
  try refine ay ?_
  dsimp only [execOp,resolve];simp+decide only [eval_put,bn,eval_const,size_put,if_true,if_false,hsz,v0];rw [Sem.run_bind,arr254 u ai];rfl
 case hS=>exact hS0
 refine ay ?_;apply LDr.take 2 rfl du du du (v:= .agg (fi [67,82,78,2]).toArray)
 case hw=>exact dt rfl
 case hv=>
  intro u hu
  try refine ay ?_
  dsimp only [execOp,resolve];simp+decide only [eval_put,bn,eval_const,size_put,if_true,if_false,hsz,v0];rw [Sem.run_bind,ld254 rfl hu.1];rfl
 case hS=>exact hS0
 refine ay ?_
 (apply LDr.gw 3 (f:=131) a9 rfl;(case hw=>exact bj);(case hc=>exact (ajx (w:=World.at (World.alloc w (.cells #[.int .u8 0,.int .u8 0,.int .u8 0,.int .u8 0,.int .u8 0,.int .u8 0,.int .u8 0,.int .u8 0,.int .i64 0,.int .i64 0,.int .i64 0,.string ⟨#[]⟩,.int .i64 0,.int .i64 0,.int .i64 0,.int .i64 0] 95)) dd)));(case hv=>rw [cw (f:=131) rfl];refine zam ?_;exact ey 131 a9 _ _);(case hret=>exact fun e w2 h=>⟨_,h.1⟩))
 case hS=>exact fun v w2 h=>⟨fun j u hj=>(h.2.cell hS0.2 ae).trans (hS0.1 j u hj),Nat.lt_of_lt_of_le hS0.2 h.2.size⟩
 intro v w2 ⟨hv,K1⟩;obtain rfl:=bh hv;have K2:ah [] w w2:=ah.trans (ah.alloc (ah.refl [] w)).at K1 ae;have hb:=K1.on (o:= .cells #[.int .u8 0,.int .u8 0,.int .u8 0,.int .u8 0,.int .u8 0,.int .u8 0,.int .u8 0,.int .u8 0,.int .i64 0,.int .i64 0,.int .i64 0,.string ⟨#[]⟩,.int .i64 0,.int .i64 0,.int .i64 0,.int .i64 0] 95) (b:=w.heap.size) bu ae;have hne:(binOp .neq 254 (.agg (fi [67,82,78,2]).toArray) (.agg #[.int .u8 67,.int .u8 82,.int .u8 78,.int .u8 2])).run GP w2= .ok (.bool false) w2:=by kernel_rfl
 refine ay ?_;apply LDr.solo 4 (w1:=w2) (v:= .bool false) a9 rfl
 case hw=>exact dt rfl
 case hv=>
  try refine ay ?_
  dsimp only [execOp,resolve];simp+decide only [eval_put,bn,eval_const,size_put,if_true,if_false,hsz,v0];kernel_rfl
 case hS=>exact ⟨fun j u hj=>(K1.cell hS0.2 ae).trans (hS0.1 j u hj),Nat.lt_of_lt_of_le hS0.2 K1.size⟩
 refine ay ?_;apply LDr.fin a9;have X:=hx.on K2 hgl ae;have hgl2:g<w2.heap.size:=Nat.lt_of_lt_of_le hgl K2.size;refine kl [0,2,19] fun a1 hsz hK=> ?_;obtain ⟨v0,v2,v19,-⟩:=hK
 refine ba ?_
 (apply ad.val rfl;(case ho=>rfl);(case hw=>exact bj);(case hr=>refine ay ?_;dsimp only [execOp,resolve];(try simp+decide only [eval_put,bn,eval_const,size_put,if_true,if_false,List.map_toArray,List.map_cons,List.map_nil,Option.map_some,Option.map_none, *]);rw [Sem.run_bind,(sl49 (lI:=4) (hI:=36) (l:=4) (h:=36) (o:=0) (m:=48) (c:=c0) (g:=g) rfl rfl ai ai ai)];rfl);refine ay ?_)
 have R0:w2.rangeAt g (0+4) (fi (rdB idx)):=X.range (o:=4) (rdB_in idx ch);refine bt 140 (ae5 (p:=⟨g,0+4,none⟩) (m:=32) (c:=c0-4) (bs:=rdB idx) rfl (fun i x h=>by
  rw [Addr.add_lit];exact R0 i _ (by simp [fi,h])) hgl2 ai ai) fun v w2 hr=> ?_
 obtain ⟨-,r,gb,cap,hv,Rd,Ow,rl,gbl,gbr,hcap,K3⟩:=hr;have hv:=(bh hv).symm;subst hv;have BB:BL w2 gb 0 (rdB idx):=fun j v hj=>by
  have:=Ow.cells (g:=gb) rfl j v hj
  rwa [Addr.add_lit] at this
 refine zls ?_;refine ad.ak ?_;have hbl:=bf hb;have hgb:=lj Ow gb (by simp [blk,Value.ownBlock]);have hrl:=bf Rd;have KW:ah [] w w2:=K2.trans K3 ae;have X:=X.on K3 hgl2 ae;have I0:OpI w (w2.alloc (.cells (hdP 0 0 0 ⟨#[]⟩ 0 0 0 0) 95)) r gb cap 0 w2.heap.size (hdP 0 0 0 ⟨#[]⟩ 0 0 0 0) idx:=⟨bw Rd,BB.on (ah.alloc (ah.refl [] w2)) hgb ae,gbr,by omega,by omega,by simp;omega,bu,KW.alloc,by omega,by omega,bw (K3.on hb ae)⟩;refine ba ?_;generalize w2.heap.size=b6 at*;refine ad.ib (fun x=>OpI w x r gb cap 0 b6 (hdP 0 0 0 ⟨#[]⟩ 0 0 0 0) idx) I0 fun u I=> ?_
 clear I0;refine kl [0,2,5,6,24] fun a1 hsz hK=> ?_;obtain ⟨v0,v2,v5,v6,v24,-⟩:=hK
 have hby:=bytes_ok (n:=8) (off:=0) (bs:=[0,0,0,0,0,0,0,0]) I.rdr I.gr I.gl (I.bl.range (o:=0) rfl) rfl ai ai hcap ai;rw [show ((8:Nat):Int)=8 from rfl] at hby;refine bt 141 hby fun v w2 hr=> ?_
 obtain ⟨-,g2,cap2,hv,O2,l2,R1,K1⟩:=hr;have hv:=(bh hv).symm;subst hv;have I:=I.yx (k:=8) R1 K1
 (apply ad.val rfl;(case ho=>rfl);(case hw=>exact bj);(case hr=>refine zpr ?_;first|(rw [Sem.run_bind,(arr37 _ ai)];rfl)|exact (arr37 _ ai));refine ay ?_)
 refine iq (ld37 (l:=fi [0,0,0,0,0,0,0,0]) rfl (fun j v hj=>by
  have:=O2.cells (g:=g2) rfl j v hj
  rwa [Addr.add_lit] at this)) ?_
 refine au ?_;obtain ⟨w5,c5,r5,h5,s5,i5,j5,K5,-⟩:=ui (P:=GP) (ty:=37) (o:=0) (vs:=(fi [0,0,0,0,0,0,0,0]).toArray) (by rw [ek];kernel_rfl) (by simp [fi,Value.oneCell']) (by simp [hdP,fi]) I.hd
 (refine ad.jq rfl rfl rfl bj aj et r5 ?_;refine ay ?_)
 have e5:c5=hdP 0 0 0 ⟨#[]⟩ 0 0 0 0:=by
  apply Array.ext_getElem?;intro j
  by_cases hj:j<8
  ·have:=i5 j (by simpa [fi] using hj);rw [Nat.zero_add] at this;rw [this];rcases j with _|_|_|_|_|_|_|_|j <;> first|rfl|omega
  ·exact j5 j (.inr (by simp [fi];omega))
 rw [e5] at h5;refine ad.ak ?_;refine ad.ib (fun x=>OpI w x r gb cap 8 b6 (hdP 0 0 0 ⟨#[]⟩ 0 0 0 0) idx) (I.row h5 K5) fun u I=> ?_
 refine kl [0,2,5,6] fun a1 hsz hK=> ?_;obtain ⟨v0,v2,v5,v6,-⟩:=hK
 clear h5 K5 R1 K1 r5 e5 i5 j5 s5 O2 hby;refine au ?_;have ht:=aa8 (x:=2) (off:=8) I.rdr I.gr I.gl (I.byte 8 (x:=2) rfl) ai ai hcap ai;rw [show ((2:Nat):Int)=2 from rfl] at ht;refine bt 142 ht fun v w2 hr=> ?_
 clear ht;obtain ⟨hv,R1,K1⟩:=hr;obtain rfl:=bh hv;have I:=I.yx R1 K1;have fz:=I.fz;have dc:=af (i:=8) I.hd (by simp [hdP]);refine zls ?_;refine ad.ak ?_;refine ad.ib (fun x=>OpI w x r gb cap 9 b6 (hdP 2 0 0 ⟨#[]⟩ 0 0 0 0) idx) I.put fun u I=> ?_
 refine kl [0,2,5,6] fun a1 hsz hK=> ?_;obtain ⟨v0,v2,v5,v6,-⟩:=hK
 clear fz dc hv R1 K1;refine au ?_;have ht:=aa8 (x:=1) (off:=9) I.rdr I.gr I.gl (I.byte 9 (x:=1) rfl) ai ai hcap ai;rw [show ((1:Nat):Int)=1 from rfl] at ht;refine bt 142 ht fun v w2 hr=> ?_
 clear ht;obtain ⟨hv,R1,K1⟩:=hr;obtain rfl:=bh hv;have I:=I.yx R1 K1;have fz:=I.fz;have dc:=af (i:=9) I.hd (by simp [hdP]);refine zls ?_;refine ad.ak ?_;refine ad.ib (fun x=>OpI w x r gb cap 10 b6 (hdP 2 1 0 ⟨#[]⟩ 0 0 0 0) idx) I.put fun u I=> ?_
 refine kl [0,2,5,6] fun a1 hsz hK=> ?_;obtain ⟨v0,v2,v5,v6,-⟩:=hK
 clear fz dc hv R1 K1;refine au ?_;have ht:=qx (x:=16) (off:=10) I.rdr I.gr I.gl (I.b32 10 (x:=16) rfl) ai ai hcap ai;rw [show ((16:Nat):Int)=16 from rfl] at ht;refine bt 143 ht fun v w2 hr=> ?_
 clear ht;obtain ⟨hv,R1,K1⟩:=hr;obtain rfl:=bh hv;have I:=I.yx R1 K1;have fz:=I.fz;have dc:=af (i:=10) I.hd (by simp [hdP]);refine zls ?_;refine ad.ak ?_;refine ad.ib (fun x=>OpI w x r gb cap 14 b6 (hdP 2 1 16 ⟨#[]⟩ 0 0 0 0) idx) I.put fun u I=> ?_
 refine kl [0,2,5,6] fun a1 hsz hK=> ?_;obtain ⟨v0,v2,v5,v6,-⟩:=hK
 clear fz dc hv R1 K1;refine au ?_;have ht:=qx (x:=5) (off:=14) I.rdr I.gr I.gl (I.b32 14 (x:=5) rfl) ai ai hcap ai;rw [show ((5:Nat):Int)=5 from rfl] at ht;refine bt 143 ht fun v w2 hr=> ?_
 clear ht;obtain ⟨hv,R1,K1⟩:=hr;obtain rfl:=bh hv;have I:=I.yx R1 K1;have fz:=I.fz;have dc:=af (i:=12) I.hd (by simp [hdP]);refine zls ?_;refine ad.ak ?_;refine ad.ib (fun x=>OpI w x r gb cap 18 b6 (hdP 2 1 16 ⟨#[]⟩ 5 0 0 0) idx) I.put fun u I=> ?_
 refine kl [0,2,5,6] fun a1 hsz hK=> ?_;obtain ⟨v0,v2,v5,v6,-⟩:=hK
 clear fz dc hv R1 K1;refine au ?_;have ht:=aa8 (x:=idx) (off:=18) I.rdr I.gr I.gl (I.byte 18 (x:=idx) rfl) ai ai hcap ai;refine bt 142 ht fun v w2 hr=> ?_
 clear ht;obtain ⟨hv,R1,K1⟩:=hr;obtain rfl:=bh hv;have I:=I.yx R1 K1;have fz:=I.fz;have dc:=af (i:=13) I.hd (by simp [hdP]);refine zls ?_;refine ad.ak ?_;refine ad.ib (fun x=>OpI w x r gb cap 19 b6 (hdP 2 1 16 ⟨#[]⟩ 5 idx 0 0) idx) I.put fun u I=> ?_
 refine kl [0,2,5,6] fun a1 hsz hK=> ?_;obtain ⟨v0,v2,v5,v6,-⟩:=hK
 clear fz dc hv R1 K1;refine au ?_;have ht:=qx (x:=1) (off:=19) I.rdr I.gr I.gl (I.b32 19 (x:=1) rfl) ai ai hcap ai;rw [show ((1:Nat):Int)=1 from rfl] at ht;refine bt 143 ht fun v w2 hr=> ?_
 clear ht;obtain ⟨hv,R1,K1⟩:=hr;obtain rfl:=bh hv;have I:=I.yx R1 K1;have fz:=I.fz;have dc:=af (i:=14) I.hd (by simp [hdP]);refine zls ?_;refine ad.ak ?_;refine ad.ib (fun x=>OpI w x r gb cap 23 b6 (hdP 2 1 16 ⟨#[]⟩ 5 idx 1 0) idx) I.put fun u I=> ?_
 refine kl [0,2,5,6] fun a1 hsz hK=> ?_;obtain ⟨v0,v2,v5,v6,-⟩:=hK
 clear fz dc hv R1 K1;refine au ?_;have ht:=qx (x:=1) (off:=23) I.rdr I.gr I.gl (I.b32 23 (x:=1) rfl) ai ai hcap ai;rw [show ((1:Nat):Int)=1 from rfl] at ht;refine bt 143 ht fun v w2 hr=> ?_
 clear ht;obtain ⟨hv,R1,K1⟩:=hr;obtain rfl:=bh hv;have I:=I.yx R1 K1;have fz:=I.fz;have dc:=af (i:=15) I.hd (by simp [hdP]);refine zls ?_;refine ad.ak ?_;refine ad.ib (fun x=>OpI w x r gb cap 27 b6 (hdP 2 1 16 ⟨#[]⟩ 5 idx 1 1) idx) I.put fun u I=> ?_
 refine kl [0,2,5,6] fun a1 hsz hK=> ?_;obtain ⟨v0,v2,v5,v6,-⟩:=hK
 clear fz dc hv R1 K1;refine au ?_;have ht:=aa8 (x:=1) (off:=27) I.rdr I.gr I.gl (I.byte 27 (x:=1) rfl) ai ai hcap ai;rw [show ((1:Nat):Int)=1 from rfl] at ht;refine bt 142 ht fun v w2 hr=> ?_
 clear ht;obtain ⟨hv,R1,K1⟩:=hr;obtain rfl:=bh hv;have I:=I.yx R1 K1;refine zls ?_;refine ad.ak ?_;refine kl [0,2,5,6,7] fun a1 hsz hK=> ?_;obtain ⟨v0,v2,v5,v6,v7,-⟩:=hK
 clear hv R1 K1;refine au ?_;have hb4:((rdB idx).drop 28).take (fu (h1:Int)).length=fu (h1:Int):=by
  rw [←hE'];rfl
 have ht:=qx (x:=h1) (off:=28) I.rdr I.gr I.gl (I.b32 28 hb4) h1l ai hcap ai;rw [←hE'] at ht;refine bt 143 ht fun v w2 hr=> ?_
 clear ht;obtain ⟨hv,R1,K1⟩:=hr;obtain rfl:=bh hv;have I:=I.yx R1 K1;refine zls ?_;refine ad.ak ?_;refine kl [0,2,6,7,8] fun a1 hsz hK=> ?_;obtain ⟨v0,v2,v6,v7,v8,-⟩:=hK
 clear hv R1 K1;have X:=hx.on I.kp hgl ae;have hgl3:=Nat.lt_of_lt_of_le hgl I.kp.size;have X1:∀i x,(ij idx)[i]? =some x→w2.cell? ⟨g,0+i,none⟩=some (.int .u8 x):=fun i x h=>X.range (o:=0) (l:=ij idx) (by simp [ma,ij,fu]) i _ (by simp [fi,h])
 refine au ?_
 (apply ad.val rfl;(case ho=>rfl);(case hw=>exact bj);(case hr=>refine ay ?_;dsimp only [execOp,resolve];(try simp+decide only [eval_put,bn,eval_const,size_put,if_true,if_false,List.map_toArray,List.map_cons,List.map_nil,Option.map_some,Option.map_none, *]);rw [Sem.run_bind,(wm (hI:=32) (h:=32) (o:=0) (m:=48) (c:=c0) (g:=g) rfl ai ai)];rfl);refine ay ?_)
 have hs:=sum_ok (w:=w2) (m:=32) (c:=c0) (pb:=g) (po:=0) (bs:=ij idx) ai rfl X1 hgl3 (ac8 hi);rw [show um 0 (ij idx)=ld idx from rfl] at hs;refine bt 91 hs fun v w2 hr=> ?_
 clear hs;obtain ⟨hv,K1⟩:=hr;obtain rfl:=bh hv;refine au ?_;have I:OpI w w2 r gb cap 32 b6 (hdP 2 1 16 ⟨#[]⟩ 5 idx 1 1) idx:=I.same K1;have X:=hx.on I.kp hgl ae;have hgl3:=Nat.lt_of_lt_of_le hgl I.kp.size;refine kl [2,6,7,8,9,81,82] fun a1 hsz hK=> ?_;obtain ⟨v2,v6,v7,v8,v9,v81,v82,-⟩:=hK
 (apply ad.val rfl;(case ho=>rfl);(case hw=>exact bj);(case hr=>refine ay ?_;dsimp only [execOp,resolve];(try simp+decide only [eval_put,bn,eval_const,size_put,if_true,if_false,List.map_toArray,List.map_cons,List.map_nil,Option.map_some,Option.map_none, *]);rw [Sem.run_bind,(wm (hI:=1) (h:=1) (o:=36) (m:=12) (c:=c0-36) (g:=g) rfl ai ai)];rfl);refine ay ?_)
 have X36:w2.cell? ⟨g,36,none⟩=some (.int .u8 97):=by
  have:=X.range (o:=36) (l:=[97]) (by simp [ma,ij,fu]) 0 _ rfl
  rwa [Nat.zero_add] at this
 have hcv:(convert 49 9 (.slice (some ⟨g,36,none⟩) 1 (c0-36))).run GP w2= .ok (.string kA) w2:=run_convert_bytes_back (P:=GP) w2 49 9 5 ⟨g,36,none⟩ (c0-36) [97] (by rw [fb];kernel_rfl) (by rw [fb];kernel_rfl) (by rw [fb];kernel_rfl) (fun j hj=>by
  obtain rfl:j=0:=by simpa using hj
  exact X36)
 (apply ad.val rfl;(case ho=>rfl);(case hw=>exact bj);(case hr=>refine zpr ?_;first|(rw [Sem.run_bind,hcv];rfl)|exact hcv);refine ay ?_)
 have fz:=I.fz;have dc:=af (i:=11) I.hd (by simp [hdP]);refine zls ?_;refine ad.ak ?_;refine ad.ib (fun x=>OpI w x r gb cap 32 b6 (hdP 2 1 16 kA 5 idx 1 1) idx) I.put fun u I=> ?_
 have X:=hx.on I.kp hgl ae;have hgl3:=Nat.lt_of_lt_of_le hgl I.kp.size;have X36:u.cell? ⟨g,36,none⟩=some (.int .u8 97):=by
  have:=X.range (o:=36) (l:=[97]) (by simp [ma,ij,fu]) 0 _ rfl
  rwa [Nat.zero_add] at this
 clear fz dc;refine kl [2,6,7,8,9] fun a1 hsz hK=> ?_;obtain ⟨v2,v6,v7,v8,v9,-⟩:=hK
 refine au ?_
 (apply ad.val rfl;(case ho=>rfl);(case hw=>exact bj);(case hr=>refine ay ?_;dsimp only [execOp,resolve];(try simp+decide only [eval_put,bn,eval_const,size_put,if_true,if_false,List.map_toArray,List.map_cons,List.map_nil,Option.map_some,Option.map_none, *]);rw [Sem.run_bind,(wm (hI:=1) (h:=1) (o:=36) (m:=12) (c:=c0-36) (g:=g) rfl ai ai)];rfl);refine ay ?_)
 have hm:=acu (w:=u) (m:=1) (c:=c0-36) (pb:=g) (po:=36) (r:=ld idx) (bs:=[97]) ai rfl (fun i x h=>by
  rcases i with _|i
  ·simp at h;subst h;exact X36
  ·simp at h) hgl3 ae
 rw [show um (ld idx) [97]=lx idx from rfl,hE',kE'] at hm;refine bt 92 hm fun v w2 hr=> ?_
 clear hm;obtain ⟨hv,K1⟩:=hr;obtain rfl:=bh hv;have I:=I.same K1;refine zls ?_;refine ad.ak ?_;have X:=hx.on I.kp hgl ae;have hgl3:=Nat.lt_of_lt_of_le hgl I.kp.size;refine kl [2,6,7,9,10] fun a1 hsz hK=> ?_;obtain ⟨v2,v6,v7,v9,v10,-⟩:=hK
 refine au ?_
 (apply ad.val rfl;(case ho=>rfl);(case hw=>exact bj);(case hr=>refine ay ?_;dsimp only [execOp,resolve];(try simp+decide only [eval_put,bn,eval_const,size_put,if_true,if_false,List.map_toArray,List.map_cons,List.map_nil,Option.map_some,Option.map_none, *]);rw [Sem.run_bind,(sl49 (lI:=1) (hI:=5) (l:=1) (h:=5) (o:=36) (m:=12) (c:=c0-36) (g:=g) rfl rfl ai ai ai)];rfl);refine ay ?_)
 have R4:w2.rangeAt g (0+37) (fi (fu (k1:Int))):=X.range (o:=37) (by
  rw [←kE'];simp [ma,ij,fu])
 refine bt 140 (ae5 (p:=⟨g,36+1,none⟩) (m:=4) (c:=c0-36-1) (bs:=fu (k1:Int)) rfl (fun i x h=>by
  rw [Addr.add_lit];exact R4 i (.int .u8 x) (by simp [fi,h])) hgl3 ai ai) fun v w2 hr=> ?_
 obtain ⟨-,r2,gb2,cap2,hv,Rd2,Ow2,rl2,gbl2,gbr2,hcap2,K1⟩:=hr;have hv:=(bh hv).symm;subst hv;have I1:=I;have I:=I.same K1;have B2:B32 w2 gb2 0 (k1:Int):=fun j v hj=>by
  have:=Ow2.cells (g:=gb2) rfl j v hj
  rwa [Addr.add_lit] at this
 refine bt 143 (qx (x:=k1) (off:=0) Rd2 gbr2 (lj Ow2 gb2 (by simp [blk,Value.ownBlock])) B2 k1l ai hcap2 ai) fun v w2 hr=> ?_
 obtain ⟨hv,R1,K2⟩:=hr;obtain rfl:=bh hv;rename World=>u
 have I:=I.keep2 K2 rl2 I1;clear I1 R1 Rd2 Ow2 B2 R4 K1 K2;refine au ?_;refine kl [2,6,10] fun a1 hsz hK=> ?_;obtain ⟨v2,v6,v10,-⟩:=hK
 refine iq (qb I.hd rfl) ?_;refine bt 56 (adl hi) fun v w2 hr=> ?_
 obtain ⟨hv,K1⟩:=hr;obtain rfl:=bh hv;have I:=I.same K1;clear K1;refine kl [2,6,10,102] fun a1 hsz hK=> ?_;obtain ⟨v2,v6,v10,v102,-⟩:=hK
 refine au ?_;refine iq (qb I.hd rfl) ?_;refine au ?_;obtain ⟨w5,r5,h5,K5,-⟩:=st95 (v:=dx 5 idx 1 1) I.rs rfl rfl (by simp [dx,Value.oneCell'])
 (refine ad.jq rfl rfl rfl bj aj et r5 ?_;refine ay ?_)
 refine au ?_
 (apply ad.zl rfl hf rfl (hl:=(lvR95 h5 rfl));(case hd=>simp [hsz]);(case hs=>exact et);(case ht=>exact et);(case ht2=>exact et))
 exact ⟨by rw [kE'],I.kp.trans K5 (fun b hb=>by
  simp at hb;exact .inr ai)⟩
end
section
variable {w w1 w2:World}{g m c off n b8 b9:Nat}{bs:List Int}{v:Value}{xs news:List Value}{a:Addr}
theorem aez (h:w.ownsRow 0 49 1 v n xs)(hl:news.length=m)(hnews:∀j u,news[j]? =some u→w.cell? (a.add j)=some u)(h1:∀u∈news,u.oneCell'=true)(hb:n+m<1000000000):
  ∃v' w',(Builtin.append_ #[101,101] 101 #[v,.slice (some a) m c]).run GP w= .ok v' w'∧w'.ownsRow 0 49 1 v' (n+m) (xs++news)∧ah (blk v) w w'∧(blk v'=blk v∨blk v'=[w.heap.size]):=by
 obtain ⟨v',w',r1,r2,r3,r4,r5⟩:=run_append_own_at (P:=GP) w 0 101 101 49 ((Tryz.prog.info? 49).getD default) (.slice none 0 0) 1 24 (by rw [fb];kernel_rfl) (by rw [ek];kernel_rfl) du du du rfl ai v n xs h a m c news ai hnews h1 (by simp only [maxLen];omega) ai (Nat.zero_le _);exact ⟨v',w',r1,r2,ln r3,r5.imp (fun h=>by simp [blk,h]) fun h=>by simp [blk,h]⟩
theorem acr {e:TypeId}{u:Value}(h:w.ownsRow 0 e 1 v 1 [u]):∃g c,v=sO g 1 c∧g<w.heap.size∧w.cell? ⟨g,0,none⟩=some u:=by
 rcases h.2 with ⟨-,h0⟩|⟨g,cap,cur,rfl,h1,h2,h3⟩
 ·omega
 ·have:=h.cells (g:=g) rfl 0 u rfl;rw [Addr.add_lit] at this;exact ⟨g,cap,rfl,bf h2,this⟩
theorem anx {idx:Int}{j:Int}(h9:w.heap[b9]? =some (.cells #[.bool true] 4 (0,0)))(h8:w.heap[b8]? =some (.cells (iv idx (.slice none 0 0)) 103 (0,0)))(hne:b9≠b8)(hg9:g≠b9)(hg8:g≠b8)(hl:bs.length=3)(hg:g<w.heap.size)(hx:∀i x,bs[i]? =some x→w.cell? ⟨g,off+i,none⟩=some (.int .u8 x)):
  Calls GP 118 #[.int .i64 j,.slice (some ⟨g,off,none⟩) 3 c,.bool true,pO b9,pO b8] w fun e w2=>e= .returned (.tuple #[])∧w2.heap[b9]? =some (.cells #[.bool true] 4 (0,0))∧(∃q cc,w2.heap[b8]? =some (.cells (iv idx (sO q 1 cc)) 103 (0,0)))∧ah [b9,b8] w w2:=by
 refine dn 118 19 Tryz.func118 fun a hf hsz hv=> ?_
 have v4:=hv 4 _ rfl;simp only [List.getElem_toArray,List.getElem_cons_zero,List.getElem_cons_succ] at v4;obtain ⟨v0,v1,v2,v3,-⟩:=za5 hv;clear hv;have c9:w.cell? ⟨b9,0,none⟩=some (.bool true):=af h9 ae;have f9:w.frozen? ⟨b9,0,none⟩=false:=ed h9;refine ba ?_;have h9:=ee (i:=0) (v:= .bool true) h9;have h8:=(ig (i:=0) (v:= .bool true) (fun e=>hne e.symm)).trans h8;have K0:ah [b9,b8] w (w.setCell ⟨b9,0,none⟩ (.bool true)):=ei;have hx1:∀i x,bs[i]? =some x→(w.setCell ⟨b9,0,none⟩ (.bool true)).cell? ⟨g,off+i,none⟩=some (.int .u8 x):=fun i x h=>((ah.set (ah.refl [b9] w) (.inl ae)).cell hg (by simpa using hg9)).trans (hx i x h)
 refine ad.ib (fun u=>u.heap[b9]? =some (.cells #[.bool true] 4 (0,0))∧u.heap[b8]? =some (.cells (iv idx (.slice none 0 0)) 103 (0,0))∧ah [b9,b8] w u∧∀i x,bs[i]? =some x→u.cell? ⟨g,off+i,none⟩=some (.int .u8 x)) ⟨h9,h8,K0,hx1⟩ fun u ⟨h9,h8,K,hx⟩=> ?_
 clear hx1 K0 c9 f9;refine kl [1,4] fun a1 hsz hK=> ?_;obtain ⟨v1,v4,-⟩:=hK
 have hg2:=Nat.lt_of_lt_of_le hg K.size;have d16:∀dd,(World.at u dd).cell? ⟨b8,16,none⟩=some (.slice none 0 0):=fun dd=>af (w:=World.at u dd) h8 (by simp [iv])
 apply ad.kj 6 (fun _ x=>x.cell? ⟨b8,16,none⟩=some (.slice none 0 0)) eo;intro dd;have hS0:(World.at u dd).cell? ⟨b8,16,none⟩=some (.slice none 0 0):=d16 dd;refine cg 0 ?_;refine cg 1 ?_;refine cg 2 ?_;have hb8:=bf h8
 (apply fa.gw 3 (f:=49) a9 rfl;(case hw=>exact bj);(case hc=>exact (rf (w:=World.at u dd) (p:=⟨g,off,none⟩) (m:=3) (c:=c) (news:=fi bs) (by simp [fi,hl]) (fun j y hj=>by
  simp only [fi,List.getElem?_map,Option.map_eq_some_iff] at hj;obtain ⟨z,hz,rfl⟩:=hj;rw [Addr.add_lit];exact hx j z hz) hg2 (by simp [fi,Value.oneCell']) ai ai));(case hv=>rw [cw (f:=49) rfl];refine zam ?_;exact ey 49 a9 _ _);(case hret=>exact fun e w2 h=>h.1))
 intro v w2 ⟨_,g2,cap,hv,O2,l2,K2⟩;obtain rfl:=bh hv;have K2:ah [] u w2:=⟨K2.size,K2.ff,K2.os,K2.out⟩;have h8:=K2.on h8 ae;have h9:=K2.on h9 ae;refine ⟨fun _=>af h8 (by simp [iv]),?_⟩;refine ay ?_;refine zmo 4 ?_ (hS:=by exact (fun _=>af (bw h8) (by simp [iv])));refine ay ?_;obtain ⟨v',w3,r1,O3,K3,-⟩:=aez (w:=w2.alloc (.cells #[sO g2 3 cap] 49)) (v:= .slice none 0 0) (n:=0) (m:=1) (c:=1) (xs:=[]) (news:=[sO g2 3 cap]) (a:=⟨w2.heap.size,0,none⟩) (World.ownsRow_nil _ _ _ _) rfl (jc _ 49 rfl) (by simp [Value.oneCell']) ai;have K3:ah [] w2 w3:=(ah.alloc (ah.refl [] w2)).trans K3 (by simp [blk,Value.ownBlock]);have h8:=K3.on h8 ae;have h9:=K3.on h9 ae
 (refine fa.app 5 a9 rfl rfl bj aj aj r1 (fun _=>af h8 (by simp [iv])) ?_;refine ay ?_)
 obtain ⟨q,cc,rfl,ql,qc⟩:=acr O3;have f8:w3.frozen? ⟨b8,16,none⟩=false:=ed h8;have c8:w3.cell? ⟨b8,16,none⟩=some (.slice none 0 0):=af h8 (by simp [iv]);refine zmo 6 ?_ (hS:=by exact (fun h=>by omega));refine ay ?_;refine zms 7 ?_ (hS:=by exact (fun h=>by omega));apply fa.fin a9;refine ba ?_;have hb:=ee (i:=16) (v:=sO q 1 cc) h8;have h9:=(ig (w:=w3) (b:=b8) (i:=16) (v:=sO q 1 cc) hne).trans h9;have K4:ah [b9,b8] w (w3.setCell ⟨b8,16,none⟩ (sO q 1 cc)):=ah.set ((K.trans K2 ae).trans K3 ae) (.inl ae);exact ad.fin rfl hf bz (results_none rfl _ _ _) ⟨rfl,h9,⟨q,cc,by simpa [iv] using hb⟩,K4⟩
end
section
variable {w w1 w2:World}{g m c n b8 b9 idx c0:Nat}
theorem hd36 {u:World}{b:Nat}{s i e c:Int} {z}(h:u.heap[b]? =some (.cells (dx s i e c) 95 z)):(Instr.loadAt 36 (.pointer (some ⟨b,8,none⟩))).run GP u= .ok (.agg shp) u:=
 run_loadAt_mid (P:=GP) u b 8 36 shp.toList _ (jy h fun j hj=>by
  simp [shp] at hj;rcases j with _|_|_|j <;> first|rfl|omega) u36 du (by rw [ek];kernel_rfl)
theorem aon {ch:List Int}(hx:BL w g 0 (ma idx ch))(hgl:g<w.heap.size)(hl:ch.length=3)(hx0:∀x∈ch,0≤x∧x<256)(hc:48≤c0)(h9:w.heap[b9]? =some (.cells #[.bool true] 4 (0,0)))(h8:w.heap[b8]? =some (.cells (iv idx (.slice none 0 0)) 103 (0,0)))(hne:b9≠b8)(hg9:g≠b9)(hg8:g≠b8):
  Calls GP 117 #[.agg (dx 5 idx 1 1),.int .u32 (lx idx),sO g 48 c0,.func (.func 118) #[] #[pO b9,pO b8]] w fun e w2=>e= .returned (.tuple #[])∧w2.heap[b9]? =some (.cells #[.bool true] 4 (0,0))∧(∃q cc,w2.heap[b8]? =some (.cells (iv idx (sO q 1 cc)) 103 (0,0)))∧ah [b9,b8] w w2:=by
 refine dn 117 62 Tryz.func117 fun a hf hsz hv=> ?_
 obtain ⟨v0,v1,v2,v3,-⟩:=za4 hv;clear hv;simp only [dx] at v0;have e3:kA.size=1:=rfl;have hc41:¬c0=41:=by omega
 refine au ?_;refine bt 84 wq fun v w2 hr=> ?_
 obtain ⟨-,g5,hv,G5,l5,K1⟩:=hr;obtain rfl:=bh hv;have K:ah [] w w2:=ah.trans (ei) K1 ae;clear K1;have d5:w2.cell? ⟨g5,0,none⟩=some (.int .i64 3):=af G5 ae;refine kl [1,3,8,23] fun a1 hsz hK=> ?_;obtain ⟨v1,v3,v8,v23,-⟩:=hK
 refine au ?_;apply ad.loop;refine au ?_;have X:=hx.on K hgl ae;have gl2:=Nat.lt_of_lt_of_le hgl K.size;obtain ⟨o1,oE⟩:=Int.eq_ofNat_of_zero_le (mr (r:=um 0 (fu (lx idx)++fu 0)) ch).1;have o1l:o1<4294967296:=by have:=(mr (r:=um 0 (fu (lx idx)++fu 0)) ch).2;omega
 have oE':abb (lx idx) 0 ch=(o1:Int):=oE;clear oE;have R4:w2.rangeAt g (0+44) (fi (fu (o1:Int))):=X.range (o:=44) (by
  rw [←oE'];simp [ma,ij,fu,hl,List.drop_append])
 (apply ad.val rfl;(case ho=>rfl);(case hw=>exact bj);(case hr=>refine ay ?_;dsimp only [execOp,resolve];(try simp+decide only [eval_put,bn,eval_const,size_put,if_true,if_false,List.map_toArray,List.map_cons,List.map_nil,Option.map_some,Option.map_none, *]);rw [Sem.run_bind,(wm (hI:=3) (h:=3) (o:=41) (m:=7) (c:=c0-41) (g:=g) rfl ai ai)];rfl);refine ay ?_)
 refine au ?_;refine kl [1,3,8,9,10,11,24,25,41,42,43,44,45,46,47] fun a1 hsz hK=> ?_;obtain ⟨v1,v3,v8,v9,v10,v11,v24,v25,v41,v42,v43,v44,v45,v46,v47,-⟩:=hK
 (apply ad.val rfl;(case ho=>rfl);(case hw=>exact bj);(case hr=>refine ay ?_;dsimp only [execOp,resolve];(try simp+decide only [eval_put,bn,eval_const,size_put,if_true,if_false,List.map_toArray,List.map_cons,List.map_nil,Option.map_some,Option.map_none, *]);rw [Sem.run_bind,(sl49 (lI:=3) (hI:=7) (l:=3) (h:=7) (o:=41) (m:=7) (c:=c0-41) (g:=g) rfl rfl ai ai ai)];rfl);refine ay ?_)
 refine bt 140 (ae5 (p:=⟨g,41+3,none⟩) (m:=4) (c:=c0-41-3) (bs:=fu (o1:Int)) rfl (fun i x h=>by
  rw [Addr.add_lit];exact R4 i (.int .u8 x) (by simp [fi,h])) gl2 ai ai) fun v w2 hr=> ?_
 obtain ⟨-,r2,gb2,cap2,hv,Rd2,Ow2,rl2,gbl2,gbr2,hcap2,K1⟩:=hr;have hv:=(bh hv).symm;subst hv;have K2:=K.trans K1 ae;have B2:B32 w2 gb2 0 (o1:Int):=fun j v hj=>by
  have:=Ow2.cells (g:=gb2) rfl j v hj
  rwa [Addr.add_lit] at this
 refine bt 143 (qx (x:=o1) (off:=0) Rd2 gbr2 (lj Ow2 gb2 (by simp [blk,Value.ownBlock])) B2 o1l ai hcap2 ai) fun v w2 hr=> ?_
 obtain ⟨hv,R1,K3⟩:=hr;obtain rfl:=bh hv;rename World=>u
 have q1:=K.size;have K4:ah [] w u:=K2.trans K3 (fun b hb=>by simp at hb;exact .inr ai);have X:=hx.on K4 hgl ae;have gl4:=Nat.lt_of_lt_of_le hgl K4.size;have Xc:∀i x,ch[i]? =some x→u.cell? ⟨g,41+i,none⟩=some (.int .u8 x):=fun i x h=>by
  have:=X.range (o:=41) (l:=ch) (by simp [ma,ij,fu,hl]) i (.int .u8 x) (by simp [fi,h])
  rwa [Nat.zero_add] at this
 refine au ?_;refine bt 95 (own_ok (m:=3) (c:=c0-41) (pb:=g) (po:=41) (head:=lx idx) (j:=0) (bs:=ch) (mr (r:=ld idx) [97]) ai ai hl Xc gl4 hx0) fun v w2 hr=> ?_
 obtain ⟨hv,K5⟩:=hr;obtain rfl:=bh hv;have K5:=K4.trans K5 ae;have gl5:=Nat.lt_of_lt_of_le hgl K5.size;have X:=hx.on K5 hgl ae;have Xc:∀i x,ch[i]? =some x→w2.cell? ⟨g,41+i,none⟩=some (.int .u8 x):=fun i x h=>by
  have:=X.range (o:=41) (l:=ch) (by simp [ma,ij,fu,hl]) i (.int .u8 x) (by simp [fi,h])
  rwa [Nat.zero_add] at this
 refine au ?_
 (refine ad.clo (f:=118) (first:=#[]) (capt:=#[pO b9,pO b8]) rfl rfl rfl bj aj (by first|exact zag|simp) (ey 118 a9 _ _) (anx (w:=w2) (j:=0) (bs:=ch) (c:=c0-41) (K5.on h9 ae) (K5.on h8 ae) hne hg9 hg8 hl gl5 Xc) (fun e w2 h=>⟨_,h.1⟩) fun v w2 hr=> ?_;refine ay ?_)
 obtain ⟨hv,g9,⟨q,cc,g8⟩,K6⟩:=hr;obtain rfl:=bh hv;refine au ?_;refine kl [24,25] fun a1 hsz hK=> ?_;obtain ⟨v24,v25,-⟩:=hK
 apply ad.inLoop;refine au ?_;exact ad.fin rfl hf bz (results_none rfl _ _ _) ⟨rfl,g9,⟨q,cc,g8⟩,(K5.more ae).trans K6 (fun b hb=> .inl hb)⟩
end
end Go.Proofs.YthgpdljlehklhaaGreat.wk
