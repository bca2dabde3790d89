/- Part QBC of the proof that DropRefused answers true whatever its input. No condition. -/
import Derived.Test.YthgpdljlehklhaaGreatQBB
import Derived.Test.YthgpdljlehklhaaGreatQAY
import Derived.Test.YthgpdljlehklhaaGreatQBA
set_option maxRecDepth 100000
namespace Go.Proofs.YthgpdljlehklhaaGreat.wk
open Go Go.Conc zr dr wd drv
set_option linter.unusedVariables false
set_option maxHeartbeats 4000000
section
variable {w w1 w2:World}{b m n c k o idx:Nat}{v c0 c1 c2:Value}{cells:Array Value}{z:Nat×Nat}
theorem afp {i:Int}{c:Value}(h:c.oneCell'=true):(snS i c).all (·.oneCell')=true:=by
 cases c <;> first|(simp [Value.oneCell'] at h;done)|simp [snS,Value.oneCell']
theorem own_ge4 {u:World}{B e s n:Nat}{v:Value}{xs:List Value}(h:u.ownsRow B e s v n xs):∀b∈blk v,B≤b:=fun b hb=>by
 rcases h.2 with ⟨rfl,-⟩|⟨g,cap,cur,rfl,h1,-⟩
 ·simp [blk,Value.ownBlock] at hb
 ·simp only [blk,Value.ownBlock,Option.toList_some,List.mem_singleton] at hb;omega
theorem je {u:World}{e s n B B2:Nat}{v:Value}{xs:List Value}(h:u.ownsRow B e s v n xs)(hB:∀b∈blk v,B2≤b):u.ownsRow B2 e s v n xs:=⟨h.1,h.2.imp id fun ⟨g,cap,cur,h1,_,h2⟩=>⟨g,cap,cur,h1,hB g (by rw [h1];simp [blk,Value.ownBlock]),h2⟩⟩
theorem bq {u u2:World}{S:List Nat}{e s n B:Nat}{v:Value}{xs:List Value}(h:u.ownsRow B e s v n xs)(hk:ah S u u2)(hn:∀b∈blk v,b∉S):u2.ownsRow B e s v n xs:=by
 refine ⟨h.1,h.2.imp id fun ⟨g,cap,cur,h1,h2,h3,h4⟩=>⟨g,cap,cur,h1,h2,hk.on h3 (hn g (by rw [h1];simp [blk,Value.ownBlock])),h4⟩⟩
structure GrI (w u:World)(m:Nat)(v out:Value)(i:Nat)(xs:List Value):Prop where
 mp:u.heap[m]? =some (.map #[⟨wrK,v,0⟩] 1)
 own:u.ownsRow w.heap.size 3 1 v i xs
 out:u.ownsRow w.heap.size 183 4 out 1 [.int .i64 1,.int .i64 1,.int .i64 5,.slice none 0 0]
 kp:ah [] w u
 ml:w.heap.size≤m
theorem GrI.more {u u2:World}{out:Value}{i:Nat}{xs:List Value}(h:GrI w u m v out i xs)(hk:ah [] u u2):GrI w u2 m v out i xs:=
 ⟨hk.on h.mp ae,bq h.own hk ae,bq h.out hk ae,h.kp.trans hk ae,h.ml⟩
theorem ew {u:World}{B e s n:Nat}{v:Value}{xs:List Value}(h:u.ownsRow B e s v n xs):∀b∈blk v,B≤b∧∃cur,u.heap[b]? =some (.cells cur e (0,0)):=fun b hb=>by
 rcases h.2 with ⟨rfl,-⟩|⟨g,cap,cur,rfl,h1,h2,-⟩
 ·simp [blk,Value.ownBlock] at hb
 ·simp only [blk,Value.ownBlock,Option.toList_some,List.mem_singleton] at hb;subst hb;exact ⟨h1,cur,h2⟩
theorem iw {u:World}{B e s n:Nat}{v:Value}{xs:List Value}(h:u.ownsRow B e s v n xs)(hn:0<n):∃g c,v=sO g n c:=by
 rcases h.2 with ⟨-,h0⟩|⟨g,cap,cur,rfl,-⟩
 ·omega
 ·exact ⟨g,cap,rfl⟩
theorem aoh {u:World}{B go co:Nat}{a b c d:Value}(h:u.ownsRow B 183 4 (sO go 1 co) 1 [a,b,c,d]):∃cur,u.heap[go]? =some (.cells cur 183 (0,0))∧3<cur.size∧(∀j,j<4→cur[j]? =[a,b,c,d][j]?)∧∀j y,[a,b,c,d][j]? =some y→u.cell? ⟨go,j,none⟩=some y:=by
 rcases h.2 with ⟨h0,-⟩|⟨g,cap,cur,hv,h1,h2,h3,h4,h5,h6⟩
 ·cases h0
 ·cases hv;have hc:∀j,j<4→cur[j]? =[a,b,c,d][j]? :=fun j hj=>by
   rw [←h6,List.getElem?_take_of_lt ai,Array.getElem?_toList]
  refine ⟨cur,h2,by omega,hc,fun j y hy=> ?_⟩;have hj:=(List.getElem?_eq_some_iff.1 hy).1;have:=hc j hj;rw [hy] at this;simp only [World.cell?,h2];exact this
theorem akg {u:World}{out:Value}{i:Nat}{xs:List Value}(hm:u.heap[m]? =some (.map #[⟨wrK,v,0⟩] 1))(hO:u.ownsRow w.heap.size 3 1 v i xs)(hG:u.ownsRow w.heap.size 183 4 out 1 [.int .i64 1,.int .i64 1,.int .i64 5,.slice none 0 0])(K:ah [] w u)(ml:w.heap.size≤m){x:Value}{a:Addr}(hx:u.cell? a=some x)(ha:a.off=0∧a.spot=none)(h1:x.oneCell'=true)(hi:i<1000):
  ∃v' w3 w4,(Builtin.append_ #[45,45] 45 #[v,.slice (some a) 1 1]).run GP u= .ok v' w3∧(Instr.entryStore 240 (.map (some m)) (.int .i64 0) v').run GP w3= .ok () w4∧GrI w w4 m v' out (i+1) (xs++ [x]):=by
 have bv:=ew hO;have bo:=ew hG;obtain ⟨v',w3,r1,O1,K1,e1⟩:=app45 (je hO fun b _=>Nat.zero_le b) (news:=[x]) (m:=1) (c:=1) (a:=a) rfl (fun j y hj=>by
  rcases j with _|j
  ·simp at hj;subst hj;obtain ⟨ab,ao,asp⟩:=a;obtain ⟨rfl,rfl⟩:=ha
   simpa [Addr.add] using hx
  ·simp at hj) (by simp [h1]) ai
 have nm:∀b∈blk v,b≠m:=fun b hb e=>by
  obtain ⟨-,cur,hc⟩:=bv b hb;rw [e,hm] at hc;cases hc
 have nmo:∀b∈blk out,b≠m:=fun b hb e=>by
  obtain ⟨-,cur,hc⟩:=bo b hb;rw [e,hm] at hc;cases hc
 have nvo:∀b∈blk out,b∉blk v:=fun b hb hv=>by
  obtain ⟨-,cur,hc⟩:=bo b hb;obtain ⟨-,cur2,hc2⟩:=bv b hv;rw [hc] at hc2;cases hc2
 have hm3:=K1.on hm (fun hb=>nm m hb rfl);have l1:∀b∈blk v',w.heap.size≤b:=fun b hb=>by
  rcases e1 with e1|e1
  ·exact (bv b (e1▸hb)).1
  ·rw [e1,List.mem_singleton] at hb;have:=K.size;omega
 have bv':=ew O1;have nm':∀b∈blk v',b≠m:=fun b hb e=>by
  obtain ⟨-,cur,hc⟩:=bv' b hb;rw [e,hm3] at hc;cases hc
 have K4:ah [m] w3 (putObj w3 m (.map #[⟨wrK,v',0⟩] 1)):=ah.obj (ah.refl _ _) (.inl ae);exact ⟨v',w3,_,r1,esto (k0:=0) hm3,pe (bf hm3),je (bq O1 K4 (by simpa using nm')) l1,bq (bq hG K1 nvo) K4 (by simpa using nmo),(K.trans K1 (fun b hb=> .inr (bv b hb).1)).trans K4 (fun b hb=> .inr (by simp at hb;omega)),ml⟩
theorem gr_first {u:World}{out x:Value}(hm:u.heap[m]? =some (.map #[] 0))(hG:u.ownsRow w.heap.size 183 4 out 1 [.int .i64 1,.int .i64 1,.int .i64 5,.slice none 0 0])(K:ah [] w u)(ml:w.heap.size≤m)(h1:x.oneCell'=true):
  ∃v' w3 w4,(Builtin.append_ #[45,45] 45 #[.slice none 0 0,sO u.heap.size 1 1]).run GP (putObj (u.alloc (.cells #[x] 3)) m (.map #[⟨wrK,.slice none 0 0,0⟩] 1))= .ok v' w3∧(Instr.entryStore 240 (.map (some m)) (.int .i64 0) v').run GP w3= .ok () w4∧GrI w w4 m v' out 1 [x]:=by
 have hml:=bf hm;have bo:=ew hG;have nmo:∀b∈blk out,b≠m:=fun b hb e=>by
  obtain ⟨-,cur,hc⟩:=bo b hb;rw [e,hm] at hc;cases hc
 have K1:ah [m] u (putObj (u.alloc (.cells #[x] 3)) m (.map #[⟨wrK,.slice none 0 0,0⟩] 1)):=ah.obj (ah.alloc (ah.refl _ _)) (.inl ae);have hx:(putObj (u.alloc (.cells #[x] 3)) m (.map #[⟨wrK,.slice none 0 0,0⟩] 1)).cell? ⟨u.heap.size,0,none⟩=some x:=af (c:=#[x]) ((uo ai).trans bu) ae;exact akg (i:=0) (xs:=[]) (pe (by simp;omega)) (World.ownsRow_nil _ _ _ _) (bq hG K1 (by simpa using nmo)) (K.trans K1 (fun b hb=> .inr (by simp at hb;omega))) ml hx ⟨rfl,rfl⟩ h1 ai
theorem akc {u:World}{out x:Value}{i:Nat}{xs:List Value}(G:GrI w u m v out i xs)(h1:x.oneCell'=true)(hi:i<1000):
  ∃v' w3 w4,(Builtin.append_ #[45,45] 45 #[v,sO u.heap.size 1 1]).run GP (putObj (u.alloc (.cells #[x] 3)) m (.map #[⟨wrK,v,0⟩] 1))= .ok v' w3∧(Instr.entryStore 240 (.map (some m)) (.int .i64 0) v').run GP w3= .ok () w4∧GrI w w4 m v' out (i+1) (xs++ [x]):=by
 have hml:=bf G.mp;have bo:=ew G.out;have bv:=ew G.own;have nmo:∀b∈blk out,b≠m:=fun b hb e=>by
  obtain ⟨-,cur,hc⟩:=bo b hb;rw [e,G.mp] at hc;cases hc
 have nm:∀b∈blk v,b≠m:=fun b hb e=>by
  obtain ⟨-,cur,hc⟩:=bv b hb;rw [e,G.mp] at hc;cases hc
 have K1:ah [m] u (putObj (u.alloc (.cells #[x] 3)) m (.map #[⟨wrK,v,0⟩] 1)):=ah.obj (ah.alloc (ah.refl _ _)) (.inl ae);have hx:(putObj (u.alloc (.cells #[x] 3)) m (.map #[⟨wrK,v,0⟩] 1)).cell? ⟨u.heap.size,0,none⟩=some x:=af (c:=#[x]) ((uo ai).trans bu) ae;exact akg (pe (by simp;omega)) (bq G.own K1 (by simpa using nm)) (bq G.out K1 (by simpa using nmo)) (G.kp.trans K1 (fun b hb=> .inr (by have:=G.ml;simp at hb;omega))) G.ml hx ⟨rfl,rfl⟩ h1 hi
theorem aom (h:w.heap[o]? =some (.cells cells 112 z))(h0:Row 19 cells 0 (snS 0 c0))(h1:Row 19 cells 1 (snS 1 c1))(h2:Row 19 cells 2 (snS 2 c2))(z0:c0.oneCell'=true)(z1:c1.oneCell'=true)(z2:c2.oneCell'=true):Calls GP 72 #[sO o 3 3] w fun e w2=>(∃v,e= .returned v)∧∃g cap p cp,e= .returned (sO g 1 cap)∧w2.rangeAt g 0 [.int .i64 1,.int .i64 1,.int .i64 5,.slice (some p) 3 cp]∧ah [] w w2:=by
 refine dn 72 73 Tryz.func72 fun a hf hsz hv=> ?_
 obtain ⟨v0,-⟩:=ie hv;clear hv;refine au ?_;refine ad.ib (fun u=>u.heap[w.heap.size]? =some (.map #[] 0)∧ah [] w u) ⟨bu,ei⟩ fun u ⟨hm,K⟩=> ?_
 have hw:=h;have h:=K.on h ae;apply ad.loop;refine au ?_;refine iq (ldA0 h rfl h0) ?_;refine au ?_;obtain ⟨w5,r5,b5,K5,-⟩:=ox (w:=World.alloc _ (.cells (fc 0 0) 112)) (v:=snS 0 c0) bu rfl rfl (afp z0)
 (refine ad.jq rfl rfl rfl bj aj et r5 ?_;refine ay ?_)
 have K5:=(ah.alloc (ah.refl [] _)).trans K5 (T:=[_]) (S:=[]) ae;have hm:=K5.on hm ae;have K:=K.trans K5 ae;refine ad.ak ?_;refine kl [3,4,5,6,11,12,13] fun a1 hsz hK=> ?_;obtain ⟨v3,v4,v5,v6,v11,v12,v13,-⟩:=hK
 refine au ?_;refine iq (xo b5 rfl) ?_;refine bt 119 (of_ok (idx:=0) (v:=c0)) fun v w2 hr=> ?_
 obtain ⟨hv,K6⟩:=hr;obtain rfl:=bh hv;have hm:=K6.on hm ae;have K:=K.trans K6 ae;refine au ?_;refine zlp ?_;have K6:=(ah.alloc (o:= .cells #[.int .i64 1,.int .i64 1,.int .i64 5] 242) (ah.refl [] w2));have b7:(w2.alloc (.cells #[.int .i64 1,.int .i64 1,.int .i64 5] 242)).heap[w2.heap.size]? =some (.cells #[.int .i64 1,.int .i64 1,.int .i64 5] 242 (0,0)):=bu;have hm:=K6.on hm ae;have K:=K.trans K6 ae;refine kl [3,4,5,7,11,12,13,22] fun a1 hsz hK=> ?_;obtain ⟨v3,v4,v5,v7,v11,v12,v13,v22,-⟩:=hK
 generalize w2.alloc (.cells #[.int .i64 1,.int .i64 1,.int .i64 5] 242)=u7 at*;generalize w2.heap.size=n7 at*;have d0:u7.cell? ⟨n7,0,none⟩=some (.int .i64 1):=af b7 ae;have d1:u7.cell? ⟨n7,1,none⟩=some (.int .i64 1):=af b7 ae;have d2:u7.cell? ⟨n7,2,none⟩=some (.int .i64 5):=af b7 ae;refine au ?_
 (apply ad.val rfl;(case ho=>rfl);(case hw=>exact bj);(case hr=>refine zpr ?_;first|(rw [Sem.run_bind,(look0 hm)];rfl)|exact (look0 hm));refine ay ?_)
 refine au ?_;obtain ⟨out,w8,r8,O8,K8,e8⟩:=app180 (w:=u7.alloc (.cells #[.int .i64 1,.int .i64 1,.int .i64 5,.slice none 0 0] 183)) (v:= .slice none 0 0) (n:=0) (m:=1) (c:=1) (xs:=[]) (news:=[.int .i64 1,.int .i64 1,.int .i64 5,.slice none 0 0]) (a:=⟨u7.heap.size,0,none⟩) (World.ownsRow_nil _ _ _ _) rfl (jc _ 183 rfl) (by simp [Value.oneCell']) ai;have lo:∀b∈blk out,w.heap.size≤b:=fun b hb=>by
  have:=K.size;rcases e8 with e8|e8
  ·rw [e8] at hb;simp [blk,Value.ownBlock] at hb
  ·rw [e8,List.mem_singleton] at hb;simp at hb;omega
 have K8:ah [] u7 w8:=(ah.alloc (ah.refl [] u7)).trans K8 (by simp [blk,Value.ownBlock])
 (refine ad.app rfl rfl rfl bj aj aj r8 ?_;refine ay ?_)
 refine zls ?_;refine ad.ak ?_;have hm:=K8.on hm ae;have b7:=K8.on b7 ae;have O8:=je O8 (B2:=w.heap.size) lo;have K:=K.trans K8 ae;have d0:w8.cell? ⟨n7,0,none⟩=some (.int .i64 1):=af b7 ae;have d1:w8.cell? ⟨n7,1,none⟩=some (.int .i64 1):=af b7 ae;have d2:w8.cell? ⟨n7,2,none⟩=some (.int .i64 5):=af b7 ae;refine kl [3,4,5,7,11,12,13] fun a1 hsz hK=> ?_;obtain ⟨v3,v4,v5,v7,v11,v12,v13,-⟩:=hK
 refine zwm ?_;have hm':(w8.alloc (.cells #[.int .i64 0] 3)).heap[w.heap.size]? =some (.map #[] 0):=bw hm
 (apply ad.val rfl;(case ho=>rfl);(case hw=>exact bj);(case hr=>refine zpr ?_;first|(rw [Sem.run_bind,(ment0 hm')];rfl)|exact (ment0 hm'));refine ay ?_)
 obtain ⟨v',w9,w10,r9,r10,G⟩:=gr_first (x:= .int .i64 0) hm O8 K (Nat.le_refl _) rfl;refine zwm ?_
 (refine ad.app rfl rfl rfl bj aj aj r9 ?_;refine ay ?_)
 refine zwm ?_
 (apply ad.put rfl;(case ho=>rfl);(case hw=>exact bj);(case hr=>refine zpr ?_;rw [Sem.run_bind,r10];rfl);refine ay ?_)
 refine kl [3,4,11,12,13] fun a1 hsz hK=> ?_;obtain ⟨v3,v4,v11,v12,v13,-⟩:=hK
 refine zwm ?_;apply ad.inLoop;obtain ⟨gv,cv,rfl⟩:=iw G.own ai;refine zwm ?_;refine iq (ldA1 (G.kp.on hw ae) rfl h1) ?_;refine zwm ?_;obtain ⟨w5,r5,b5,K5,-⟩:=ox (w:=World.alloc _ (.cells (fc 0 0) 112)) (v:=snS 1 c1) bu rfl rfl (afp z1)
 (refine ad.jq rfl rfl rfl bj aj et r5 ?_;refine ay ?_)
 have K5:=(ah.alloc (ah.refl [] _)).trans K5 (T:=[_]) (S:=[]) ae;have G:=G.more K5;refine ad.ak ?_;refine kl [3,4,5,6,11,12,13] fun a1 hsz hK=> ?_;obtain ⟨v3,v4,v5,v6,v11,v12,v13,-⟩:=hK
 refine zwm ?_;refine iq (xo b5 rfl) ?_;refine bt 119 (of_ok (idx:=1) (v:=c1)) fun v w2 hr=> ?_
 obtain ⟨hv,K6⟩:=hr;obtain rfl:=bh hv;have G:=G.more K6;refine zwm ?_;refine zlp ?_;have K6:=(ah.alloc (o:= .cells #[.int .i64 1,.int .i64 1,.int .i64 5] 242) (ah.refl [] w2));have b7:(w2.alloc (.cells #[.int .i64 1,.int .i64 1,.int .i64 5] 242)).heap[w2.heap.size]? =some (.cells #[.int .i64 1,.int .i64 1,.int .i64 5] 242 (0,0)):=bu;have G:=G.more K6;refine kl [3,4,5,7,11,12,13,22] fun a1 hsz hK=> ?_;obtain ⟨v3,v4,v5,v7,v11,v12,v13,v22,-⟩:=hK
 generalize w2.alloc (.cells #[.int .i64 1,.int .i64 1,.int .i64 5] 242)=u7 at*;generalize w2.heap.size=n7 at*;have d0:u7.cell? ⟨n7,0,none⟩=some (.int .i64 1):=af b7 ae;have d1:u7.cell? ⟨n7,1,none⟩=some (.int .i64 1):=af b7 ae;have d2:u7.cell? ⟨n7,2,none⟩=some (.int .i64 5):=af b7 ae;refine zwm ?_
 (apply ad.val rfl;(case ho=>rfl);(case hw=>exact bj);(case hr=>refine zpr ?_;first|(rw [Sem.run_bind,(acx G.mp)];rfl)|exact (acx G.mp));refine ay ?_)
 refine zwm ?_;have hm':(u7.alloc (.cells #[.int .i64 1] 3)).heap[w.heap.size]? =_:=bw G.mp
 (apply ad.val rfl;(case ho=>rfl);(case hw=>exact bj);(case hr=>refine zpr ?_;first|(rw [Sem.run_bind,(agx hm')];rfl)|exact (agx hm'));refine ay ?_)
 obtain ⟨v',w9,w10,r9,r10,G⟩:=akc (x:= .int .i64 1) G rfl ai;refine zwm ?_
 (refine ad.app rfl rfl rfl bj aj aj r9 ?_;refine ay ?_)
 refine zwm ?_
 (apply ad.put rfl;(case ho=>rfl);(case hw=>exact bj);(case hr=>refine zpr ?_;rw [Sem.run_bind,r10];rfl);refine ay ?_)
 refine kl [3,4,11,12,13] fun a1 hsz hK=> ?_;obtain ⟨v3,v4,v11,v12,v13,-⟩:=hK
 refine zwm ?_;apply ad.inLoop;obtain ⟨gv,cv,rfl⟩:=iw G.own ai;refine zwm ?_;refine iq (ldA2 (G.kp.on hw ae) rfl h2) ?_;refine zwm ?_;obtain ⟨w5,r5,b5,K5,-⟩:=ox (w:=World.alloc _ (.cells (fc 0 0) 112)) (v:=snS 2 c2) bu rfl rfl (afp z2)
 (refine ad.jq rfl rfl rfl bj aj et r5 ?_;refine ay ?_)
 have K5:=(ah.alloc (ah.refl [] _)).trans K5 (T:=[_]) (S:=[]) ae;have G:=G.more K5;refine ad.ak ?_;refine kl [3,4,5,6,11,12,13] fun a1 hsz hK=> ?_;obtain ⟨v3,v4,v5,v6,v11,v12,v13,-⟩:=hK
 refine zwm ?_;refine iq (xo b5 rfl) ?_;refine bt 119 (of_ok (idx:=2) (v:=c2)) fun v w2 hr=> ?_
 obtain ⟨hv,K6⟩:=hr;obtain rfl:=bh hv;have G:=G.more K6;refine zwm ?_;refine zlp ?_;have K6:=(ah.alloc (o:= .cells #[.int .i64 1,.int .i64 1,.int .i64 5] 242) (ah.refl [] w2));have b7:(w2.alloc (.cells #[.int .i64 1,.int .i64 1,.int .i64 5] 242)).heap[w2.heap.size]? =some (.cells #[.int .i64 1,.int .i64 1,.int .i64 5] 242 (0,0)):=bu;have G:=G.more K6;refine kl [3,4,5,7,11,12,13,22] fun a1 hsz hK=> ?_;obtain ⟨v3,v4,v5,v7,v11,v12,v13,v22,-⟩:=hK
 generalize w2.alloc (.cells #[.int .i64 1,.int .i64 1,.int .i64 5] 242)=u7 at*;generalize w2.heap.size=n7 at*;have d0:u7.cell? ⟨n7,0,none⟩=some (.int .i64 1):=af b7 ae;have d1:u7.cell? ⟨n7,1,none⟩=some (.int .i64 1):=af b7 ae;have d2:u7.cell? ⟨n7,2,none⟩=some (.int .i64 5):=af b7 ae;refine zwm ?_
 (apply ad.val rfl;(case ho=>rfl);(case hw=>exact bj);(case hr=>refine zpr ?_;first|(rw [Sem.run_bind,(acx G.mp)];rfl)|exact (acx G.mp));refine ay ?_)
 refine zwm ?_;have hm':(u7.alloc (.cells #[.int .i64 2] 3)).heap[w.heap.size]? =_:=bw G.mp
 (apply ad.val rfl;(case ho=>rfl);(case hw=>exact bj);(case hr=>refine zpr ?_;first|(rw [Sem.run_bind,(agx hm')];rfl)|exact (agx hm'));refine ay ?_)
 obtain ⟨v',w9,w10,r9,r10,G⟩:=akc (x:= .int .i64 2) G rfl ai;refine zwm ?_
 (refine ad.app rfl rfl rfl bj aj aj r9 ?_;refine ay ?_)
 refine zwm ?_
 (apply ad.put rfl;(case ho=>rfl);(case hw=>exact bj);(case hr=>refine zpr ?_;rw [Sem.run_bind,r10];rfl);refine ay ?_)
 refine kl [3,4,11,12,13] fun a1 hsz hK=> ?_;obtain ⟨v3,v4,v11,v12,v13,-⟩:=hK
 refine zwm ?_;apply ad.inLoop;refine zwm ?_;obtain ⟨go,co,rfl⟩:=iw G.out ai;refine bt 120 (sortf_1 (f:= .func (.func 121) #[] #[]) (p:=⟨go,0,none⟩) (c:=co)) fun v w2 hr=> ?_
 obtain ⟨hv,e⟩:=hr;obtain rfl:=bh hv;have e:=e.symm;subst e;refine kl [3,4] fun a1 hsz hK=> ?_;obtain ⟨v3,v4,-⟩:=hK
 refine zwm ?_;apply ad.loop;refine zwm ?_;obtain ⟨cur,g1,g2,g3,g4⟩:=aoh G.out;obtain ⟨gv,cv,rfl⟩:=iw G.own ai;have e0:w10.cell? ⟨go,0,none⟩=some (.int .i64 1):=g4 0 _ rfl;have e1:w10.cell? ⟨go,1,none⟩=some (.int .i64 1):=g4 1 _ rfl;have e2:w10.cell? ⟨go,2,none⟩=some (.int .i64 5):=g4 2 _ rfl;have e3:w10.cell? ⟨go,3,none⟩=some (.slice none 0 0):=g4 3 _ rfl;have f3:w10.frozen? ⟨go,3,none⟩=false:=ed g1;refine kl [3,4,9,50,51] fun a1 hsz hK=> ?_;obtain ⟨v3,v4,v9,v50,v51,-⟩:=hK
 apply ad.kj 15 (fun _ x=>x.cell? ⟨go,0,none⟩=some (.int .i64 1)∧x.cell? ⟨go,1,none⟩=some (.int .i64 1)∧x.cell? ⟨go,2,none⟩=some (.int .i64 5)∧x.heap[w.heap.size]? =some (.map #[⟨wrK,sO gv 3 cv,0⟩] 1)) eo;intro dd;have hS0:(World.at w10 dd).cell? ⟨go,0,none⟩=some (.int .i64 1)∧(World.at w10 dd).cell? ⟨go,1,none⟩=some (.int .i64 1)∧(World.at w10 dd).cell? ⟨go,2,none⟩=some (.int .i64 5)∧(World.at w10 dd).heap[w.heap.size]? =some (.map #[⟨wrK,sO gv 3 cv,0⟩] 1):=⟨e0,e1,e2,G.mp⟩;refine cg 0 ?_;refine cg 1 ?_;refine cg 2 ?_;refine cg 3 ?_;refine cg 4 ?_;refine cg 5 ?_;refine cg 6 ?_;refine cg 7 ?_;refine cg 8 ?_;refine cg 9 ?_;refine cg 10 ?_;refine cg 11 ?_;refine cg 12 ?_;refine cg 13 ?_
 (apply fa.take 14 rfl a9 a9 a9 a9;(case hw=>exact bj);(case hv=>intro x hu;refine zpr ?_;first|(rw [Sem.run_bind,(acx hu.2.2.2)];rfl)|exact (acx hu.2.2.2));(case hS=>exact hS0);refine ay ?_)
 refine zmo 15 ?_ (hS:=by exact (fun h=>by omega));refine ay ?_;refine zmo 16 ?_ (hS:=by exact (fun h=>by omega));refine ay ?_;refine zms 17 ?_ (hS:=by exact (fun h=>by omega));apply fa.fin a9;refine zwm ?_;refine kl [4,50,51] fun a1 hsz hK=> ?_;obtain ⟨v4,v50,v51,-⟩:=hK
 apply ad.inLoop;refine zwm ?_;have g5:=ee (i:=3) (v:=sO gv 3 cv) g1;exact ad.dq rfl hf rfl bz aj ⟨⟨_,rfl⟩,go,co,⟨gv,0,none⟩,cv,rfl,jy g5 (fun j hj=>by
  rcases j with _|_|_|_|j
  ·simpa using (g3 0 ai)
  ·simpa using (g3 1 ai)
  ·simpa using (g3 2 ai)
  ·simp [g2]
  ·simp at hj;omega),(ah.set G.kp (.inr (ew G.out go (by simp [blk,Value.ownBlock])).1)).at⟩
end
end Go.Proofs.YthgpdljlehklhaaGreat.wk
namespace Go.Proofs.YthgpdljlehklhaaGreat.rn
open Go Go.Conc zr dr wd drv wk la
set_option linter.unusedVariables false
def afs (u:World)(Sx:World→Prop)(ft:Nat→List Nat):Ending→World→Prop:=fun e w2=>(∃v,e= .returned v)∧∃o:Nat,e= .returned (.tuple #[sO o 3 3,.int .i64 0])∧w2.heap[o]? =some (.cells #[.int .i64 0,.int .i64 0,.int .i64 0] 33 (0,0))∧u.heap.size≤o∧Sx w2∧ah (ft3 ft) u w2
section
variable {w w' w2 u:World}{bd cap hb cset ck s i b j:Nat}{g d now x q:Nat→Nat}{ft ft':Nat→List Nat}{fr:List Nat}{PD PD':Nat→World→Prop}{v:Value}{gi di ni:Nat}
theorem aa9 [Bg] {a:Addr}(h:w.cell? a=some v):∃c e z,w.heap[a.block]? =some (.cells c e z):=by
 unfold World.cell? at h;split at h
 ·rename_i c e z hc;exact ⟨c,e,z,hc⟩
 ·cases h
theorem ane [Bg] {p:Option Addr}{n c:Nat}(h:DrE w gi di ni)(hc:w.cell? ⟨b,0,none⟩=some (.slice p n c)):b∉[gi,di,ni]:=by
 obtain ⟨kept,k,hw⟩:=h;obtain ⟨cl,r,hg⟩:=hw.wnd;have hd:=hw.dv.drv;have hm:=hw.dv.mp;unfold Wnd at hg;unfold Drv at hd;simp only [List.mem_cons,List.not_mem_nil,or_false];unfold World.cell? at hc;rintro (rfl|rfl|rfl)
 ·rw [hg] at hc;simp at hc
 ·rw [hd] at hc;simp at hc
 ·rw [hm] at hc;cases hc
theorem nin_u8 [Bg] {z:Int}(h:DrE w gi di ni)(hc:w.cell? ⟨b,j,none⟩=some (.int .u8 z)):b∉[gi,di,ni]:=by
 obtain ⟨kept,k,hw⟩:=h;obtain ⟨cl,r,hg⟩:=hw.wnd;have hd:=hw.dv.drv;have hm:=hw.dv.mp;unfold Wnd at hg;unfold Drv at hd;simp only [List.mem_cons,List.not_mem_nil,or_false];unfold World.cell? at hc;rintro (rfl|rfl|rfl)
 ·rw [hg] at hc;rcases j with _|_|_|_|_|_|_|j <;> simp at hc
 ·rw [hd] at hc;rcases j with _|_|_|_|_|j <;> simp at hc
 ·rw [hm] at hc;cases hc
theorem aga [Bg] {own:Nat→Nat→Prop}{Rj:Nat→Value→World→Prop}{sI:Int}{o:Nat}{cells:Array Value}(hO:ea.uq w w' 3 pl3 3 own Rj sI o cells)(h0:∀j z m,Rj j (.int .i64 z) m→z=0):cells=#[.int .i64 0,.int .i64 0,.int .i64 0]:=by
 obtain ⟨M,-,-,-,hM⟩:=hO.jobs;have key:∀i,i<3→cells[i]? =some (.int .i64 0):=fun i hi=>by
  obtain ⟨z,h1,-,-,-,h2⟩:=hM (i+1) ai ai;rw [h0 _ _ _ h1] at h2;exact h2
 apply Array.ext_getElem?;intro i;rcases i with _|_|_|i
 ·exact key 0 ai
 ·exact key 1 ai
 ·exact key 2 ai
 ·rw [Array.getElem?_eq_none (by rw [hO.len];omega)];rfl
theorem err_fin [Bg] {Rj:Nat→Value→World→Prop}{sI:Int}(H:Fl w bd g d ft fr)(h0:∀j z m,Rj j (.int .i64 z) m→z=0)
  (hout:∀i,i<3→∀(M:Mem) w' v,Rj (i+1) v M.w→At GP M.Z M.F M.π (zr.tp M.w w'.tape w'.drawn) (cy w')→(∀r,M.Has r→¬zb r)→aw (w.heap.size+1) one M.π→∃xq:Nat×Nat,DrH w' (g i) (d i) (now i) xq.1 xq.2 i∧(∀b∈[g i,d i,now i,xq.1,xq.2],M.Has b)∧w.heap.size≤xq.1∧w.heap.size≤xq.2)
  (hold:∀i,i<3→∀b∈[g i,d i,now i],b∈ft i)(e:Ending)(w2:World)(hE:REa w g d ft Rj sI e w2):afs w (fun w2=>∃x q,St w2 bd g d (ftH g d now x q) (PH g d now x q)∧∀i,i<3→w.heap.size≤x i∧w.heap.size≤q i) ft e w2:=by
 obtain ⟨-,o,cells,w',rfl,hO,hK,hWk⟩:=hE;obtain rfl:=aga hO h0;obtain ⟨M,hap,ho,hnz,hM⟩:=hO.jobs;have key:∀i,∃xq:Nat×Nat,i<3→DrH w' (g i) (d i) (now i) xq.1 xq.2 i∧(∀b∈[g i,d i,now i,xq.1,xq.2],(M (i+1)).Has b)∧w.heap.size≤xq.1∧w.heap.size≤xq.2:=fun i=>by
  by_cases hi:i<3
  ·obtain ⟨z,h1,h2,h3,h4,h5⟩:=hM (i+1) ai ai;obtain ⟨xq,h⟩:=hout i hi _ _ _ h1 h2 (hnz (i+1) ai) h3;exact ⟨xq,fun _=>h⟩
  ·exact ⟨(0,0),fun h=>absurd h hi⟩
 obtain ⟨f,hf⟩:=Classical.axiomOfChoice key;have hbd:w'.heap[bd]? =w.heap[bd]? :=hO.rest bd (H.yw H.bdf) fun j hj ho=>(H.fz bd H.bdf).2 (j-1) (by have:=ho.1;omega) ho.2.2
 have HF:Fl w' bd g d (ftH g d now (fun i=>(f i).1) (fun i=>(f i).2)) [bd]:=afn (w2:=w') H (Nat.le_of_lt hO.size) hap hnz (fun i hi b hb=>(hf i hi).2.1 b hb) (fun i hi b hb=>by
  simp only [ftH,List.mem_cons,List.not_mem_nil,or_false] at hb;rcases hb with rfl|rfl|rfl|rfl|rfl
  ·exact .inl (hold i hi _ ae)
  ·exact .inl (hold i hi _ ae)
  ·exact .inl (hold i hi _ ae)
  ·exact .inr (hf i hi).2.2.1
  ·exact .inr (hf i hi).2.2.2) (fun i hi=>by simp [ftH]) hbd (fun i hi=>aib (hf i hi).1)
 have hon:o∉[g 0,g 1,g 2]:=by
  have hg:=fun i hi=>H.lt i hi _ (H.gm i hi).1
  have h0:=hg 0 ai;have h1:=hg 1 ai;have h2:=hg 2 ai;have h3:=hO.new;simp only [List.mem_cons,List.not_mem_nil,or_false];omega
 refine ⟨⟨_,rfl⟩,o,rfl,hK.on hO.out hon,Nat.le_of_lt hO.new,⟨fun i=>(f i).1,fun i=>(f i).2,⟨HF.grow hK (adp H),fun i hi=> ?_⟩,fun i hi=>(hf i hi).2.2⟩,ad4 H (Nat.le_of_lt hO.size) hO.rest hO.os hO.output hK⟩;exact ph_rst (x:=fun i=>(f i).1) (q:=fun i=>(f i).2) i hi w' w2 (hf i hi).1 (hWk i hi) fun b hb hne=>hK.ff b (aib (hf i hi).1 b hb) (not_g HF hi hb hne)
theorem err_fin0 [Bg] {Rj:Nat→Value→World→Prop}{sI:Int}(H:Fl w bd g d ft fr)(h0:∀j z m,Rj j (.int .i64 z) m→z=0)
  (hout:∀i,i<3→∀(M:Mem) w' v,Rj (i+1) v M.w→At GP M.Z M.F M.π (zr.tp M.w w'.tape w'.drawn) (cy w')→(∀r,M.Has r→¬zb r)→aw (w.heap.size+1) one M.π→PE g d now i w'∧∀b∈ga g d now i,M.Has b)
  (hold:∀i,i<3→∀b∈[g i,d i,now i],b∈ft i)(e:Ending)(w2:World)(hE:REa w g d ft Rj sI e w2):afs w (fun w2=>St w2 bd g d (ga g d now) (PE g d now)) ft e w2:=by
 obtain ⟨-,o,cells,w',rfl,hO,hK,hWk⟩:=hE;obtain rfl:=aga hO h0;obtain ⟨M,hap,ho,hnz,hM⟩:=hO.jobs;have hf:∀i,i<3→PE g d now i w'∧∀b∈ga g d now i,(M (i+1)).Has b:=fun i hi=>by
  obtain ⟨z,h1,h2,h3,h4,h5⟩:=hM (i+1) ai ai;exact hout i hi _ _ _ h1 h2 (hnz (i+1) ai) h3
 have hbd:w'.heap[bd]? =w.heap[bd]? :=hO.rest bd (H.yw H.bdf) fun j hj ho=>(H.fz bd H.bdf).2 (j-1) (by have:=ho.1;omega) ho.2.2
 have HF:Fl w' bd g d (ga g d now) [bd]:=afn (w2:=w') H (Nat.le_of_lt hO.size) hap hnz (fun i hi b hb=>(hf i hi).2 b hb) (fun i hi b hb=> .inl (hold i hi b hb)) (fun i hi=>by simp [ga]) hbd (fun i hi=>ve i hi _ (hf i hi).1);have hon:o∉[g 0,g 1,g 2]:=by
  have hg:=fun i hi=>H.lt i hi _ (H.gm i hi).1
  have h0:=hg 0 ai;have h1:=hg 1 ai;have h2:=hg 2 ai;have h3:=hO.new;simp only [List.mem_cons,List.not_mem_nil,or_false];omega
 refine ⟨⟨_,rfl⟩,o,rfl,hK.on hO.out hon,Nat.le_of_lt hO.new,⟨HF.grow hK (adp H),fun i hi=> ?_⟩,ad4 H (Nat.le_of_lt hO.size) hO.rest hO.os hO.output hK⟩;exact ahu i hi w' w2 (hf i hi).1 (hWk i hi) fun b hb hne=>hK.ff b (ve i hi _ (hf i hi).1 b hb) (not_g HF hi hb hne)
theorem akn [Bg] {cv bb c:Nat}(HS:St w bd g d (ga g d now) (PE g d now))(hv:w.cell? ⟨cv,0,none⟩=some (sO bb 3 c))(hB:∀i,i<3→adr w bb i):
  UCx GP Tryz.prog.funcs 14 #[sO bd 3 cap,.chan none,.func (.func 34) #[] #[pO cv],.int .i64 121] w (afs w (fun w2=>∃x q,St w2 bd g d (ftH g d now x q) (PH g d now x q)∧∀i,i<3→w.heap.size≤x i∧w.heap.size≤q i) (ga g d now)):=by
 have key:∀i,∃p:Nat×Nat,i<3→∃(po cc c2:Nat)(ch:List Int),w.rangeAt bb (i*17) (iv i (sO p.1 1 cc)).toList∧w.cell? ⟨p.1,0,none⟩=some (.slice (some ⟨p.2,po,none⟩) 3 c2)∧ch.length=3∧(∀j x,ch[j]? =some x→w.cell? ⟨p.2,po+j,none⟩=some (.int .u8 x))∧∀x∈ch,0≤x∧x<256:=fun i=>by
  by_cases hi:i<3
  ·obtain ⟨cb,pb,po,cc,c2,ch,h1,h2,-,-,h3,h4,h5⟩:=hB i hi;exact ⟨(cb,pb),fun _=>⟨po,cc,c2,ch,h1,h2,h3,h4,h5⟩⟩
  ·exact ⟨(0,0),fun h=>absurd h hi⟩
 obtain ⟨f,hf⟩:=Classical.axiomOfChoice key;have ok1:∀b n c p,w.cell? ⟨b,0,none⟩=some (.slice p n c)→(∃c e z,w.heap[b]? =some (.cells c e z))∧∀i,i<3→b∉ga g d now i:=fun b n c p h=>⟨aa9 h,fun i hi=>ane (HS.dr i hi) h⟩
 have ok2:∀b j z,w.cell? ⟨b,j,none⟩=some (.int .u8 z)→(∃c e z,w.heap[b]? =some (.cells c e z))∧∀i,i<3→b∉ga g d now i:=fun b j z h=>⟨aa9 h,fun i hi=>nin_u8 (HS.dr i hi) h⟩
 have okf:∀i,i<3→((∃c e z,w.heap[(f i).1]? =some (.cells c e z))∧∀j,j<3→(f i).1∉ga g d now j)∧(∃c e z,w.heap[(f i).2]? =some (.cells c e z))∧∀j,j<3→(f i).2∉ga g d now j:=fun i hi=>by
  obtain ⟨po,cc,c2,ch,h1,h2,h3,h4,h5⟩:=hf i hi;obtain ⟨z,hz⟩:∃z,ch[0]? =some z:=⟨_,List.getElem?_eq_getElem ai⟩;exact ⟨ok1 _ _ _ _ h2,ok2 _ _ _ (h4 0 z hz)⟩
 have H:Fl w bd g d (ga g d now) [bd,cv,bb,(f 0).1,(f 0).2,(f 1).1,(f 1).2,(f 2).1,(f 2).2]:=HS.fl.more fun b hb2=>by
  simp only [List.mem_cons,List.not_mem_nil,or_false] at hb2;rcases hb2 with rfl|rfl|rfl|rfl|rfl|rfl|rfl|rfl
  ·exact ok1 _ _ _ _ hv
  ·obtain ⟨po,cc,c2,ch,h1,-⟩:=hf 0 ai;exact ok2 _ 0 0 (h1 0 _ rfl)
  ·exact (okf 0 ai).1
  ·exact (okf 0 ai).2
  ·exact (okf 1 ai).1
  ·exact (okf 1 ai).2
  ·exact (okf 2 ai).1
  ·exact (okf 2 ai).2
 have hN:∀i,i<3→∀b∈[g i,d i,now i],b<w.heap.size:=fun i hi=>ve i hi _ (HS.dr i hi)
 have hcvlt:cv<w.heap.size:=by
  obtain ⟨c,e,z,h⟩:=aa9 hv;exact bf h
 refine UCx.mono (ajq (Rj:=fun j v m=>v= .int .i64 0∧∃x q,w.heap.size+1≤x∧w.heap.size+1≤q∧DrH m (g (j-1)) (d (j-1)) (now (j-1)) x q (j-1)) Tryz.func34 rfl (zn w) H (fun π' ha=> ?_) (fun i hi u hu=> ?_) (fun j v w τ dd h=>⟨h.1,?_⟩) (fun j v w h=>⟨0,h.1⟩) (fun i hi v m h=> ?_)) (err_fin H (fun j z m h=>by have:=h.1;simpa using this) (fun i hi M w' v h hA hnz hag=> ?_) fun i hi b hb=>hb)
 ·show Value.func (.func 34) #[] #[pO (π'.to cv)]=_;rw [show π'.to cv=cv from ha _ hcvlt]
 ·have e:(#[]++ #[Value.int .i64 (i:Int),dk (g i)]++ #[pO cv]:Array Value)=#[.int .i64 i,dk (g i),pO cv]:=by simp
  rw [e];obtain ⟨po,cc,c2,ch,h1,h2,h3,h4,h5⟩:=hf i hi;have m1:(f i).1∈[bd,cv,bb,(f 0).1,(f 0).2,(f 1).1,(f 1).2,(f 2).1,(f 2).2]:=by
   rcases i with _|_|_|i <;> first|(simp;done)|omega
  have m2:(f i).2∈[bd,cv,bb,(f 0).1,(f 0).2,(f 1).1,(f 1).2,(f 2).1,(f 2).2]:=by
   rcases i with _|_|_|i <;> first|(simp;done)|omega
  obtain ⟨z,hz⟩:∃z,ch[0]? =some z:=⟨_,List.getElem?_eq_getElem ai⟩;obtain ⟨kept,k,hw⟩:=tu i hi (HS.dr i hi) hu.own;have l1:(f i).1<u.heap.size:=by have:=H.yw m1;have:=hu.size;omega
  have l2:(f i).2<u.heap.size:=by have:=H.yw m2;have:=hu.size;omega
  refine (amb (idx:=i) (bb:=bb) (cb:=(f i).1) (pb:=(f i).2) (po:=po) (cc:=cc) (c2:=c2) (cv:=cv) (c:=c) (ch:=ch) hi ((hu.cell _ ae).trans hv) (fun j v hj=>(hu.cell _ ae).trans (h1 j v hj)) ((hu.cell _ m1).trans h2) l1 l2 h3 (fun j x hj=>(hu.cell _ m2).trans (h4 j x hj)) h5 hw ai ai ai ai).mono fun e w2 ⟨h1,⟨x,dat,kept2,h6,h7,h8,h9,h10⟩,h11⟩=>⟨_,h1,rfl,?_⟩
  obtain ⟨qq,cap,rfl⟩:=iw h8 ai;have:=hu.size;obtain ⟨h12,h13⟩:=h10 qq (by simp [blk,Value.ownBlock]);exact ⟨x,qq,by omega,by omega,kept2,_,_,cap,ch,h6,h7,h8,h3,h5⟩
 ·obtain ⟨x,q,h1,h2,kept,k,k',cp,ch,hw,hb,ho,hl,hx⟩:=h.2;exact ⟨x,q,h1,h2,kept,k,k',cp,ch,WD.tp hw τ dd,hb,ho,hl,hx⟩
 ·obtain ⟨x,q,h1,h2,h3⟩:=h.2;exact afl h3
 ·obtain ⟨x,q,h1,h2,h3⟩:=h.2;have hN':∀b∈[g i,d i,now i],b<w.heap.size+1:=fun b hb=>by have:=hN i hi b hb;omega
  obtain ⟨h4,h5⟩:=ajm hA hnz hag (hN' _ ae) (hN' _ ae) (hN' _ ae) h3;have hx:=hag.ge h1;have hq:=hag.ge h2;exact ⟨(M.π.to x,M.π.to q),h4,h5,by show w.heap.size≤M.π.to x;omega,by show w.heap.size≤M.π.to q;omega⟩
theorem amr [Bg] (HS:St w bd g d (ftH g d now x q) (PH g d now x q))(hk:w.heap[ck]? =some (.cells #[.string kA] 9 (0,0)))(hn:∀i,i<3→ck∉ftH g d now x q i):
  UCx GP Tryz.prog.funcs 14 #[sO bd 3 cap,.chan none,.func (.func 15) #[] #[pO ck],.int .i64 121] w (afs w (fun w2=>St w2 bd g d (ga g d now) (PE g d now)) (ftH g d now x q)):=by
 have H:Fl w bd g d (ftH g d now x q) [bd,ck]:=HS.fl.more fun b hb2=>by
  simp only [List.mem_cons,List.not_mem_nil,or_false] at hb2;subst hb2;exact ⟨⟨_,_,_,hk⟩,hn⟩
 have hN:∀i,i<3→∀b∈ga g d now i,b<w.heap.size+1:=fun i hi b hb=>by
  have:=aey i hi _ (HS.dr i hi) b (by
   simp only [ga,ftH,List.mem_cons,List.not_mem_nil,or_false] at hb ⊢;rcases hb with h|h|h <;> simp [h])
  omega
 refine UCx.mono (ajq (Rj:=fun j v m=>v= .int .i64 0∧PE g d now (j-1) m) Tryz.func15 rfl (zn w) H (fun π' ha=> ?_) (fun i hi u hu=> ?_) (fun j v w τ dd h=>⟨h.1,?_⟩) (fun j v w h=>⟨0,h.1⟩) (fun i hi v m h=>ac4 h.2)) (err_fin0 H (fun j z m h=>by have:=h.1;simpa using this) (fun i hi M w' v h hA hnz hag=>ahl hN i hi M w' hA hnz hag h.2) fun i hi b hb=>by
   simp only [ftH,List.mem_cons,List.not_mem_nil,or_false] at hb ⊢;rcases hb with h|h|h <;> simp [h])
 ·show Value.func (.func 15) #[] #[pO (π'.to ck)]=_;rw [show π'.to ck=ck from ha _ (bf hk)]
 ·have e:(#[]++ #[Value.int .i64 (i:Int),dk (g i)]++ #[pO ck]:Array Value)=#[.int .i64 i,dk (g i),pO ck]:=by simp
  rw [e];have hP:=zg i hi (HS.dr i hi) hu.own;have hne2:=aie hP;obtain ⟨kept,k,k',cp,ch,hw,hbd,ho,hl,hx⟩:=id hP;refine (job_drop (pI:=i) ((hu.cell ⟨ck,0,none⟩ ae).trans (af hk ae)) hw ai (i:=0) rfl hbd hne2.2.2.1).mono fun e w2 ⟨h1,kept2,h2,h3⟩=>⟨_,h1,rfl,kept2,k,?_⟩
  have e1:IntKind.i64.wrap ((48:Int)- ((48:Nat):Int))=0:=by decide
  have e2:(#[⟨.string nA,pO (x i),k'⟩]:Array MapEntry).eraseIdxIfInBounds 0=#[]:=by simp [Array.eraseIdxIfInBounds]
  rw [e1,e2] at h2;exact h2
 ·obtain ⟨kept,k,hw⟩:=h.2;exact ⟨kept,k,WD.tp hw τ dd⟩
end
end Go.Proofs.YthgpdljlehklhaaGreat.rn
