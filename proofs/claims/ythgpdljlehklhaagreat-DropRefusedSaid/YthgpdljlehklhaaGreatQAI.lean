/- Part QAI of the proof that DropRefused answers true whatever its input. No condition. -/
import Derived.OrdersHeld
import Derived.Test.YthgpdljlehklhaaGreatQAH
set_option maxRecDepth 100000
namespace Go.Proofs.YthgpdljlehklhaaGreat.zr
open Go Go.Conc
def sa:Op→Nat
 | .store .. | .entryStore .. | .insert .. =>1
 | .makeSlice .. | .typeAssert .. | .mapUpdate .. | .lookup .. | .call {callee:= .builtin .delete,..} | .call {callee:= .builtin .append,..}=>3
 | .binOp _ _ _ (.const (.map none)) _| .binOp _ _ _ (.const .nilFunc) _| .binOp _ _ _ (.const (.slice none 0 0)) _=>3
 | .call {callee:= .builtin _,..}=>0
 | .call _| .go _| .defer _| .select .. | .send .. | .recv .. | .panic _=>2
 |_=>0
section
variable {w:World}{d e:Nat}
@[simp] theorem at_cell (x:Addr):(w.at d).cell? x=w.cell? x:=rfl
@[simp] theorem at_frozen (x:Addr):(w.at d).frozen? x=w.frozen? x:=rfl
@[simp] theorem at_heap:(w.at d).heap=w.heap:=rfl
@[simp] theorem at_setCell (x:Addr)(v:Value):(w.at d).setCell x v=(w.setCell x v).at d:=rfl
@[simp] theorem at_alloc (o:Obj):(w.at d).alloc o=(w.alloc o).at d:=rfl
@[simp] theorem at_at:(w.at d).at e=w.at e:=rfl
@[simp] theorem at_os:(w.at d).os=w.os:=rfl
@[simp] theorem at_output:(w.at d).output=w.output:=rfl
end
@[simp] theorem xa (n:Int)(h1:0≤n)(h2:n<9223372036854775808):IntKind.i64.wrap n=n:=wrap_small n h1 h2
def putObj (w:World)(r:Nat)(o:Obj):World:={w with heap:=w.heap.setIfInBounds r o}
section
variable {w w1 w2:World}{b r d:Nat}{o o2:Obj}
@[simp] theorem putObj_size:(putObj w r o).heap.size=w.heap.size:=by simp [putObj]
theorem pe (h:r<w.heap.size):(putObj w r o).heap[r]? =some o:=by simp [putObj,h]
theorem uo (h:b≠r):(putObj w r o).heap[b]? =w.heap[b]? :=by
 unfold putObj;exact Array.getElem?_setIfInBounds_ne (fun e=>h e.symm)
@[simp] theorem putObj_cell {x:Addr}(h:∀c e z,o≠ .cells c e z)(h2:∀c e z,w.heap[r]? ≠some (.cells c e z)):(putObj w r o).cell? x=w.cell? x:=by
  unfold World.cell?
  by_cases e:x.block=r
  ·rw [e]
   by_cases hr:r<w.heap.size
   ·rw [pe hr];cases o with
    |cells c e z=>exact absurd rfl (h c e z)
    |_=>
     all_goals (
      cases hg:w.heap[r]? with
      |none=>rfl
      |some o3=>
       cases o3 with
       |cells c e z=>exact absurd hg (h2 c e z)
       |_=>rfl)
   ·have:(putObj w r o).heap[r]? =none:=by
     rw [Array.getElem?_eq_none_iff];simp;omega
    rw [this,Array.getElem?_eq_none_iff.2 ai]
  ·rw [uo e]
theorem fy {n:Nat}(h:n=w.heap.size):(w.alloc o).heap[n]? =some o:=by
 subst h;exact bu
structure ah (S:List Nat)(w w1:World):Prop where
 size:w.heap.size≤w1.heap.size
 ff:∀b,b<w.heap.size→b∉S→w1.heap[b]? =w.heap[b]?
 os:w1.os=w.os
 out:w1.output=w.output
variable {S T:List Nat}
theorem ah.refl (S:List Nat)(w:World):ah S w w:=⟨Nat.le_refl _,fun _ _ _=>rfl,rfl,rfl⟩
theorem ah.trans (h:ah S w w1)(h2:ah T w1 w2)(hT:∀b∈T,b∈S∨w.heap.size≤b):ah S w w2:=
 ⟨Nat.le_trans h.size h2.size,fun b hb hn=>(h2.ff b (Nat.lt_of_lt_of_le hb h.size) fun hm=>(hT b hm).elim hn ai).trans (h.ff b hb hn),h2.os.trans h.os,h2.out.trans h.out⟩
theorem ah.on (h:ah S w w1)(ho:w.heap[b]? =some o)(hn:b∉S):w1.heap[b]? =some o:=(h.ff b (bf ho) hn).trans ho
theorem ah.set {i:Nat}{v:Value}(h:ah S w w1)(hb:b∈S∨w.heap.size≤b):ah S w (w1.setCell ⟨b,i,none⟩ v):=
 ⟨by simpa using h.size,fun x hx hn=>(ig (fun e:x=b=>by
  subst e;exact hb.elim hn ai)).trans (h.ff x hx hn),h.os,h.out⟩
theorem ah.alloc (h:ah S w w1):ah S w (w1.alloc o):=
 ⟨by simpa using Nat.le_succ_of_le h.size,fun x hx hn=>by
  have:x<w1.heap.size:=Nat.lt_of_lt_of_le hx h.size;unfold World.alloc;rw [Array.getElem?_push_lt this,←Array.getElem?_eq_getElem this];exact h.ff x hx hn,h.os,h.out⟩
theorem ah.obj (h:ah S w w1)(hb:b∈S∨w.heap.size≤b):ah S w (putObj w1 b o):=
 ⟨by simpa using h.size,fun x hx hn=>(uo (fun e:x=b=>by
  subst e;exact hb.elim hn ai)).trans (h.ff x hx hn),h.os,h.out⟩
theorem ah.at (h:ah S w w1):ah S w (w1.at d):=⟨h.size,h.ff,h.os,h.out⟩
theorem ah.cell {x:Addr}(h:ah S w w1)(hb:x.block<w.heap.size)(hn:x.block∉S):w1.cell? x=w.cell? x:=by
 unfold World.cell?;rw [h.ff _ hb hn]
theorem ah.more (h:ah S w w1)(hs:∀b∈S,b∈T):ah T w w1:=⟨h.size,fun b hb hn=>h.ff b hb fun hm=>hn (hs b hm),h.os,h.out⟩
end
def LDr (P:Program)(R:Ending→World→Prop)(b:Frame)(k:List Item)(ops:Array Oper)(S:World→Prop)(n:Nat)(listed:Array Bool)(a:Act)(w:World):Prop:=
 wpAnyH P .any ops (fun x a1 w1=>x= .normal∧ad P R b a1 k w1) S n listed a w
section
variable {P:Program}{R:Ending→World→Prop}{b:Frame}{a:Act}{k:List Item}{w w1:World}{ops:Array Oper}{S:World→Prop}{id n:Nat}{listed:Array Bool}{o:Oper}{v:Value}
theorem LDr.take (i:Nat)(hi:ops[i]? =some o)(hs:Region.noSelect ops=true)(hf:Region.free .any ops listed i=true)(hr:(Region.ready .any ops listed).contains i=true)(v:Value)
  (hw:Region.wanted o (yielded ops a.tmps)=true)(hv:∀u,S u→(execOp a.eval o).run P u= .ok (.value v) u)(hS:S w)
  (h:LDr P R b k ops S n (listed.setIfInBounds i true) (a.put o.dst v) w):LDr P R b k ops S (n+1) listed a w:=
 wpAnyH_take hi hs hf hr (fun _ _ _ h=>by cases h.1) (.inl ⟨hw,hv⟩) hS h
theorem LDr.solo (i:Nat)(hr:Region.ready .any ops listed=[i])(hi:ops[i]? =some o)(hw:Region.wanted o (yielded ops a.tmps)=true)(v:Value)(w1:World)(hv:(execOp a.eval o).run P w= .ok (.value v) w1)(hS:S w1)
  (h:LDr P R b k ops S n (listed.setIfInBounds i true) (a.put o.dst v) w1):LDr P R b k ops S (n+1) listed a w:=
 wpAnyH_all hr ae fun j hj=>by
  obtain rfl:j=i:=by simpa using hj
  unfold wpOp;simp only [hi,hw,if_true];left;simp only [Oper.wp,hv,Oper.upon];exact ⟨hS,h⟩
theorem LDr.vf (i:Nat)(hr:Region.ready .any ops listed=[i])(hi:ops[i]? =some o)(hw:Region.wanted o (yielded ops a.tmps)=true)(w1:World)(hv:(execOp a.eval o).run P w= .ok .skip w1)(hS:S w1)
  (h:LDr P R b k ops S n (listed.setIfInBounds i true) (a.put o.dst undef) w1):LDr P R b k ops S (n+1) listed a w:=
 wpAnyH_all hr ae fun j hj=>by
  obtain rfl:j=i:=by simpa using hj
  unfold wpOp;simp only [hi,hw,if_true];left;simp only [Oper.wp,hv,Oper.upon];exact ⟨hS,h⟩
theorem LDr.gw {R':Ending→World→Prop}(i:Nat)(hr:Region.ready .any ops listed=[i])(hi:ops[i]? =some o)(hw:Region.wanted o (yielded ops a.tmps)=true){f:FuncId}{args:Array Value}(hv:(execOp a.eval o).run P w= .ok (.enter f args) w1)(hc:Calls P f args w1 R')(hret:∀e w2,R' e w2→∃v,e= .returned v)
  (hS:∀v w2,R' (.returned v) w2→S w2)(h:∀v w2,R' (.returned v) w2→LDr P R b k ops S n (listed.setIfInBounds i true) (a.put o.dst v) w2):LDr P R b k ops S (n+1) listed a w:=
 wpAnyH_all hr ae fun j hj=>by
  obtain rfl:j=i:=by simpa using hj
  unfold wpOp;simp only [hi,hw,if_true];left;simp only [Oper.wp,hv,Oper.upon];refine Calls.mono hc fun e w2 he=> ?_
  obtain ⟨v,rfl⟩:=hret e w2 he;exact ⟨hS v w2 he,h v w2 he⟩
theorem LDr.fin (hr:Region.ready .any ops listed=[])(h:ad P R b a k w):LDr P R b k ops S n listed a w:=wpAnyH_done hr ⟨rfl,h⟩ _
end
theorem ad.wu (S:Nat→World→Prop){P:Program}{R:Ending→World→Prop}{b:Frame}{a:Act}{k:List Item}{w:World}{ops:Array Oper}{id:Nat}(hm:P.follows .mixedOrders=true)(h:∀d,LDr P R b k ops (S d) ops.size (Array.replicate ops.size false) a (w.at d)):ad P R b a (.code (.region id ops true)::k) w:=
 ad.wp (wp_region_held (S:=S (w.drawn+1)) hm (h (w.drawn+1)))
def ua (n i:Nat):Array Bool:=((List.range n).map fun j=>decide (j<i)).toArray
theorem ams (n:Nat):ua n 0=Array.replicate n false:=by
 apply Array.ext
 ·simp [ua]
 ·intro i h1 h2;simp [ua]
theorem ag7 {n i:Nat}(h:i<n):(ua n i).setIfInBounds i true=ua n (i+1):=by
 apply Array.ext
 ·simp [ua]
 ·intro j h1 h2;simp only [ua,List.setIfInBounds_toArray,List.getElem_toArray,List.getElem_set,List.getElem_map,List.getElem_range]
  by_cases e:i=j
  ·subst e;simp
  ·rw [if_neg e];rw [decide_eq_decide];omega
def LM (P:Program)(ops:Array Oper)(Q:Exit→Act→World→Prop)(m:Nat)(S:World→Prop):Nat→Array Bool→Act→World→Prop
 |0,listed,a,w=>Region.ready .any ops listed=[]∧Q .normal a w
 |fuel+1,listed,a,w=>(Region.ready .any ops listed=[]→Q .normal a w)∧∀i∈Region.ready .any ops listed,wpOp P ops Q i (fun a' w'=>(i<m→S w')∧LM P ops Q m S fuel (listed.setIfInBounds i true) a' w') a w
section
variable {P:Program}{ops:Array Oper}{Q:Exit→Act→World→Prop}{m:Nat}{S:World→Prop}
theorem LM.any:∀(fuel:Nat)(listed:Array Bool)(a:Act)(w:World),LM P ops Q m S fuel listed a w→wpAny P .any ops Q fuel listed a w
 |0,_,_,_,h=>h
 |fuel+1,_,_,_,h=>⟨h.1,fun i hi=>wpOp_mono (fun a' w' h'=>LM.any fuel _ a' w' h'.2) (h.2 i hi)⟩
theorem LM.first {i:Nat}{oi:Oper}{v:Value}(hi:ops[i]? =some oi)(hm:i<m)(hsel:∀(j:Nat)(o:Oper) cs b,ops[j]? =some o→o.op≠ .select cs b)(hQ:∀c a w,Q (.panic c) (a.put oi.dst v) w→Q (.panic c) a w)
  (htl:∀j oj,ops[j]? =some oj→m≤j→∃e∈oj.after,Region.binds .any e=true∧e.on=i):
  ∀(fuel:Nat)(listed:Array Bool)(a:Act)(w:World),
   (∀j oj,ops[j]? =some oj→j≠i→listed.getD j true=false→(∀e∈oj.after,Region.binds .any e=true→e.on≠i)→oi.apart ops oj=true)→
   i∈Region.ready .any ops listed→YieldsIf P ops S oi v a→S w→LM P ops Q m S fuel (listed.setIfInBounds i true) (a.put oi.dst v) w→LM P ops Q m S (fuel+1) listed a w:=by
 intro fuel
 induction fuel with
 |zero=>
  intro listed a w _ hr hy hS H;refine ⟨fun h=>(by rw [h] at hr;cases hr),fun j hj=> ?_⟩
  by_cases e:j=i
  ·subst e;exact hy.wpOp hi hS ⟨fun _=>hS,H⟩
  ·have h:=ready_mono hj e;rw [H.1] at h;cases h
 |succ fuel ih=>
  intro listed a w hfree hr hy hS H;refine ⟨fun h=>(by rw [h] at hr;cases hr),fun j hj=> ?_⟩
  by_cases e:j=i
  ·subst e;exact hy.wpOp hi hS ⟨fun _=>hS,H⟩
  ·obtain ⟨hun,oj,hoj,hall⟩:=mem_ready.1 hj;have hno:∀x∈oj.after,Region.binds .any x=true→x.on≠i:=fun x hx hb heq=>by
    have h1:=hall x hx hb;have h0:=(mem_ready.1 hr).1;rw [heq] at h1
    by_cases hl:i<listed.size
    ·simp [hl] at h0 h1;rw [h0] at h1;cases h1
    ·simp [Array.getElem?_eq_none (Nat.le_of_not_lt hl)] at h1
   have hjm:j<m:=Nat.lt_of_not_le fun hle=>by
    obtain ⟨x,hx,hb,hxi⟩:=htl j oj hoj hle;exact hno x hx hb hxi
   have h2:=wpOp_putIf hoj (hfree j oj hoj e hun hno) (fun cs b=>hsel i oi cs b hi) (fun cs b=>hsel j oj cs b hoj) hQ hy (H.2 j (ready_mono hj e));refine wpOp_mono (fun a' w' h3=>⟨h3.2.1,ih (listed.setIfInBounds j true) a' w' (fun k ok hk hki hkun hkno=>hfree k ok hk hki ?_ hkno) (ready_mono hr (Ne.symm e)) h3.1 (h3.2.1 hjm) ?_⟩) h2
   ·by_cases hjk:j=k
    ·subst hjk;exact hun
    ·rwa [getD_set_ne true hjk] at hkun
   ·rw [Array.setIfInBounds_comm _ _ e];exact h3.2.2
end
def tOk (m:Nat)(ops:Array Oper):Bool:=Region.noSelect ops && decide (m≤ops.size) && (Region.ready .any ops (ua ops.size ops.size)).isEmpty &&
 ((List.range m).all fun i=>Region.free .any ops (ua ops.size i) i && (Region.ready .any ops (ua ops.size i)).contains i && (List.range' m (ops.size-m)).all fun j=>match ops[j]? with|some oj=>oj.after.any fun e=>Region.binds .any e && e.on==i|none=>true) &&
 (List.range' m (ops.size-m)).all fun i=>Region.ready .any ops (ua ops.size i)==[i]
def LQ (P:Program)(ops:Array Oper)(w:World)(K:Act→Prop):List Nat→Act→Prop
 | [],a=>K a
 |i::rest,a=>∃o v,ops[i]? =some o∧((Region.wanted o (yielded ops a.tmps)=true∧(execOp a.eval o).run P w= .ok (.value v) w)∨(Region.wanted o (yielded ops a.tmps)=false∧v=undef))∧LQ P ops w K rest (a.put o.dst v)
def LS (P:Program)(R:Ending→World→Prop)(b:Frame)(k:List Item)(ops:Array Oper)(is:List Nat)(a:Act)(w:World):Prop:=wpOps P ops (fun x a1 w1=>x= .normal∧ad P R b a1 k w1) is a w
section
variable {P:Program}{R R':Ending→World→Prop}{b:Frame}{a:Act}{k:List Item}{w w1:World}{ops:Array Oper}{i id m:Nat}{rest:List Nat}{o:Oper}{v:Value}{K:Act→Prop}{f:FuncId}{args:Array Value}
theorem LQ.valw (ho:ops[i]? =some o)(hw:Region.wanted o (yielded ops a.tmps)=true)(hr:(execOp a.eval o).run P w= .ok (.value v) w)(h:LQ P ops w K rest (a.put o.dst v)):LQ P ops w K (i::rest) a:=⟨o,v,ho,.inl ⟨hw,hr⟩,h⟩
theorem LQ.val (ho:ops[i]? =some o)(hs:sa o.op=0)(hw:Region.wanted o (yielded ops a.tmps)=true)(hr:(execOp a.eval o).run P w= .ok (.value v) w)(h:LQ P ops w K rest (a.put o.dst v)):LQ P ops w K (i::rest) a:=⟨o,v,ho,.inl ⟨hw,hr⟩,h⟩
theorem LQ.not (ho:ops[i]? =some o)(hw:Region.wanted o (yielded ops a.tmps)=false)(h:LQ P ops w K rest (a.put o.dst undef)):LQ P ops w K (i::rest) a:=⟨o,undef,ho,.inr ⟨hw,rfl⟩,h⟩
theorem LQ.fin (h:K a):LQ P ops w K [] a:=h
theorem LS.valw (ho:ops[i]? =some o)(hw:Region.wanted o (yielded ops a.tmps)=true)(hr:(execOp a.eval o).run P w= .ok (.value v) w1)(h:LS P R b k ops rest (a.put o.dst v) w1):LS P R b k ops (i::rest) a w:=by
 unfold LS;rw [wpOps_cons];unfold wpOp;simp only [ho,hw,if_true];left;simp only [Oper.wp,hr,Oper.upon];exact h
theorem LS.val (ho:ops[i]? =some o)(hs:sa o.op=0)(hw:Region.wanted o (yielded ops a.tmps)=true)(hr:(execOp a.eval o).run P w= .ok (.value v) w1)(h:LS P R b k ops rest (a.put o.dst v) w1):LS P R b k ops (i::rest) a w:=LS.valw ho hw hr h
theorem LS.put (ho:ops[i]? =some o)(hs:sa o.op=1)(hw:Region.wanted o (yielded ops a.tmps)=true)(hr:(execOp a.eval o).run P w= .ok .skip w1)(h:LS P R b k ops rest (a.put o.dst undef) w1):LS P R b k ops (i::rest) a w:=by
 unfold LS;rw [wpOps_cons];unfold wpOp;simp only [ho,hw,if_true];left;simp only [Oper.wp,hr,Oper.upon];exact h
theorem LS.not (ho:ops[i]? =some o)(hw:Region.wanted o (yielded ops a.tmps)=false)(h:LS P R b k ops rest (a.put o.dst undef) w):LS P R b k ops (i::rest) a w:=by
 unfold LS;rw [wpOps_cons];unfold wpOp;simp only [ho,hw];exact h
theorem LS.call {args:Array Value}(ho:ops[i]? =some o)(hw:Region.wanted o (yielded ops a.tmps)=true)(hr:(execOp a.eval o).run P w= .ok (.enter f args) w1)(hc:Calls P f args w1 R')(hret:∀e w2,R' e w2→∃v,e= .returned v)
  (h:∀v w2,R' (.returned v) w2→LS P R b k ops rest (a.put o.dst v) w2):LS P R b k ops (i::rest) a w:=by
 unfold LS;rw [wpOps_cons];unfold wpOp;simp only [ho,hw,if_true];left;simp only [Oper.wp,hr,Oper.upon];refine Calls.mono hc fun e w2 he=> ?_
 obtain ⟨v,rfl⟩:=hret e w2 he;exact h v w2 he
theorem LS.fn (f:FuncId)(args:Array Value){xs:Array Operand}{ts:Array TypeId}(ho:ops[i]? =some o)(hop:o.op= .call {callee:= .value (.func f),args:=xs,argTypes:=ts})(hw:Region.wanted o (yielded ops a.tmps)=true)(hargs:xs.map a.eval=args)(hent:(callFunc f args).run P w= .ok (.enter f args) w)(hc:Calls P f args w R')(hret:∀e w2,R' e w2→∃v,e= .returned v)
  (h:∀v w2,R' (.returned v) w2→LS P R b k ops rest (a.put o.dst v) w2):LS P R b k ops (i::rest) a w:=
 LS.call ho hw (by rw [cw hop,hargs];exact hent) hc hret h
theorem LS.fin (h:ad P R b a k w):LS P R b k ops [] a w:=⟨rfl,h⟩
theorem LS.lm (ht:tOk m ops=true):∀n i (a:Act)(w:World),m≤i→i+n=ops.size→LS P R b k ops (List.range' i n) a w→∀S,LM P ops (fun x a1 w1=>x= .normal∧ad P R b a1 k w1) m S n (ua ops.size i) a w
 |0,i,a,w,hi,hn,h,S=>by
  obtain rfl:i=ops.size:=by omega
  simp only [tOk,Bool.and_eq_true,List.isEmpty_iff] at ht;exact ⟨ht.1.1.2,h⟩
 |n+1,i,a,w,hi,hn,h,S=>by
  have ht':=ht;simp only [tOk,Bool.and_eq_true,List.all_eq_true,List.mem_range',beq_iff_eq] at ht;have hr:Region.ready .any ops (ua ops.size i)=[i]:=ht.2 i ⟨i-m,by omega,by omega⟩;unfold LS at h;rw [List.range'_succ,wpOps_cons] at h;refine ⟨fun h0=>(by rw [h0] at hr;cases hr),fun j hj=> ?_⟩;rw [hr] at hj;obtain rfl:j=i:=by simpa using hj
  refine wpOp_mono (fun a' w' h2=>⟨fun hlt=>absurd hlt ai,?_⟩) h;rw [ag7 ai];exact LS.lm ht' n (j+1) a' w' ai ai h2 S
theorem LQ.lm (ht:tOk m ops=true):∀n i (a:Act),i+n=m→LQ P ops w (fun a1=>LS P R b k ops (List.range' m (ops.size-m)) a1 w) (List.range' i n) a→LM P ops (fun x a1 w1=>x= .normal∧ad P R b a1 k w1) m (· =w) (ops.size-i) (ua ops.size i) a w
 |0,i,a,hi,h=>by
  obtain rfl:i=m:=by omega
  have hle:i≤ops.size:=by
   simp only [tOk,Bool.and_eq_true,decide_eq_true_eq] at ht;exact ht.1.1.1.2
  exact LS.lm ht _ i a w (Nat.le_refl _) ai h _
 |n+1,i,a,hi,h=>by
  rw [List.range'_succ] at h;obtain ⟨o,v,ho,hy,h2⟩:=h;have ht':=ht;simp only [tOk,Bool.and_eq_true,List.all_eq_true,List.mem_range,decide_eq_true_eq] at ht;have hle:m≤ops.size:=ht.1.1.1.2;obtain ⟨⟨hf,hr⟩,htl⟩:=ht.1.2 i ai;have hrec:=LQ.lm ht' n (i+1) (a.put o.dst v) ai h2;rw [←ag7 ai] at hrec;rw [show ops.size-i=(ops.size- (i+1))+1 by omega];refine LM.first ho ai (Region.noSelect_spec ht.1.1.1.1) (fun _ _ _ h=>by cases h.1) (fun j oj hoj hj=> ?_) _ _ a w (Region.free_spec ho hf) (by simpa using hr) (hy.imp (fun ⟨h1,h2⟩=>⟨h1,fun u hu=>by subst hu;exact h2⟩) id) rfl hrec;have hjl:=(Array.getElem?_eq_some_iff.1 hoj).1;have:=htl j (by rw [List.mem_range'];exact ⟨j-m,by omega,by omega⟩);rw [hoj] at this;obtain ⟨e,he,hb⟩:=Array.any_eq_true'.1 this;simp only [Bool.and_eq_true,beq_iff_eq] at hb;exact ⟨e,he,hb⟩
theorem ad.drawT (m:Nat)(hm:P.follows .mixedOrders=true)(ht:tOk m ops=true)(h:∀d,LQ P ops (w.at d) (fun a1=>LS P R b k ops (List.range' m (ops.size-m)) a1 (w.at d)) (List.range m) a):ad P R b a (.code (.region id ops true)::k) w:=
 ad.wp (wp_region_any hm (LM.any _ _ _ _ (by
  have:=LQ.lm ht m 0 a (Nat.zero_add _) (by rw [←List.range_eq_range'];exact h (w.drawn+1));rw [ams] at this;exact this)))
theorem ad.drawQ (hm:P.follows .mixedOrders=true)(ht:tOk ops.size ops=true)(h:∀d,LQ P ops (w.at d) (fun a1=>ad P R b a1 k (w.at d)) (List.range ops.size) a):ad P R b a (.code (.region id ops true)::k) w:=
 ad.drawT ops.size hm ht fun d=>by
  rw [Nat.sub_self];have h1:∀is a,LQ P ops (w.at d) (fun a1=>ad P R b a1 k (w.at d)) is a→LQ P ops (w.at d) (fun a1=>LS P R b k ops (List.range' ops.size 0) a1 (w.at d)) is a:=by
   intro is
   induction is with
   |nil=>exact fun a h=>LS.fin h
   |cons i is ih=>exact fun a ⟨o,v,h1,h2,h3⟩=>⟨o,v,h1,h2,ih _ h3⟩
  exact h1 _ _ (h d)
end
section
variable {P:Program}{R R':Ending→World→Prop}{b:Frame}{a:Act}{k:List Item}{w w1:World}{ops:Array Oper}{i:Nat}{rest:List Nat}{o:Oper}{v:Value}{f:FuncId}{args:Array Value}
theorem ad.cut (I:Act→World→Prop)(h:I a w)(hk:∀a1 w1,I a1 w1→ad P R b a1 k w1):ad P R b a k w:=hk a w h
theorem ad.se {x:Operand}{c1 c2:Code}(ht:a.eval x= .bool true)(h:ad P R b a (.code c1::k) w):ad P R b a (.code (.cond x c1 c2)::k) w:=ad.cond (t:=true) ht h
theorem ad.p9 {x:Operand}{c1 c2:Code}(ht:a.eval x= .bool false)(h:ad P R b a (.code c2::k) w):ad P R b a (.code (.cond x c1 c2)::k) w:=ad.cond (t:=false) ht h
theorem ad.val0 (hk:b.kind= .normal)(ho:ops[i]? =some o)(hs:sa o.op=0)(hw:Region.wanted o (yielded ops a.tmps)=true)(hr:(execOp a.eval o).run P w= .ok (.value v) w1)
  (h:ad P R b (a.put o.dst v) (.inRegion ops rest::k) w1):ad P R b a (.inRegion ops (i::rest)::k) w:=ad.val hk v w1 ho hw hr h
theorem ad.put0 (hk:b.kind= .normal)(ho:ops[i]? =some o)(hs:sa o.op=1)(hw:Region.wanted o (yielded ops a.tmps)=true)(hr:(execOp a.eval o).run P w= .ok .skip w1)
  (h:ad P R b (a.put o.dst undef) (.inRegion ops rest::k) w1):ad P R b a (.inRegion ops (i::rest)::k) w:=ad.put hk w1 ho hw hr h
theorem ad.fn (f:FuncId)(args:Array Value){xs:Array Operand}{ts:Array TypeId}(hk:b.kind= .normal)(ho:ops[i]? =some o)(hop:o.op= .call {callee:= .value (.func f),args:=xs,argTypes:=ts})(hw:Region.wanted o (yielded ops a.tmps)=true)(hargs:xs.map a.eval=args)(hent:(callFunc f args).run P w= .ok (.enter f args) w)(hc:Calls P f args w R')(hret:∀e w2,R' e w2→∃v,e= .returned v)
  (h:∀v w2,R' (.returned v) w2→ad P R b (a.put o.dst v) (.inRegion ops rest::k) w2):ad P R b a (.inRegion ops (i::rest)::k) w:=
 ad.call hk ho hw (by rw [cw hop,hargs];exact hent) hc hret h
theorem nu {bi:Builtin}{xs:Array Operand}{ts:Array TypeId}(hop:o.op= .call {callee:= .builtin bi,args:=xs,argTypes:=ts}):∃cs,execOp a.eval o=builtin bi ts o.type cs (xs.map a.eval):=by
 cases o;subst hop;exact ⟨_,rfl⟩
theorem ad.del {x y:Operand}{ts:Array TypeId}{m key:Value}(hk:b.kind= .normal)(ho:ops[i]? =some o)(hop:o.op= .call {callee:= .builtin .delete,args:=#[x,y],argTypes:=ts})(hw:Region.wanted o (yielded ops a.tmps)=true)(hx:a.eval x=m)(hy:a.eval y=key)(hd:(Builtin.delete_ ts o.type #[m,key]).run P w= .ok v w1)
  (h:ad P R b (a.put o.dst v) (.inRegion ops rest::k) w1):ad P R b a (.inRegion ops (i::rest)::k) w:=
 ad.val hk v w1 ho hw (by
  obtain ⟨cs,e⟩:=nu (a:=a) hop;rw [e,List.map_toArray,List.map_cons,List.map_cons,List.map_nil,hx,hy];show Sem.run P (do pure (Next.value (←Builtin.delete_ ts o.type #[m,key]))) w=_;rw [Sem.run_bind,hd];rfl) h
theorem ad.app {x y:Operand}{ts:Array TypeId}{m key:Value}(hk:b.kind= .normal)(ho:ops[i]? =some o)(hop:o.op= .call {callee:= .builtin .append,args:=#[x,y],argTypes:=ts})(hw:Region.wanted o (yielded ops a.tmps)=true)(hx:a.eval x=m)(hy:a.eval y=key)(hd:(Builtin.append_ ts o.type #[m,key]).run P w= .ok v w1)
  (h:ad P R b (a.put o.dst v) (.inRegion ops rest::k) w1):ad P R b a (.inRegion ops (i::rest)::k) w:=
 ad.val hk v w1 ho hw (by
  obtain ⟨cs,e⟩:=nu (a:=a) hop;rw [e,List.map_toArray,List.map_cons,List.map_cons,List.map_nil,hx,hy];show Sem.run P (do pure (Next.value (←Builtin.append_ ts o.type #[m,key]))) w=_;rw [Sem.run_bind,hd];rfl) h
theorem ad.len {x:Operand}{ts:Array TypeId}{m:Value}(hk:b.kind= .normal)(ho:ops[i]? =some o)(hop:o.op= .call {callee:= .builtin .len,args:=#[x],argTypes:=ts})(hw:Region.wanted o (yielded ops a.tmps)=true)(hx:a.eval x=m)(hd:(Builtin.len_ ts o.type #[m]).run P w= .ok v w1)
  (h:ad P R b (a.put o.dst v) (.inRegion ops rest::k) w1):ad P R b a (.inRegion ops (i::rest)::k) w:=
 ad.val hk v w1 ho hw (by
  obtain ⟨cs,e⟩:=nu (a:=a) hop;rw [e,List.map_toArray,List.map_cons,List.map_nil,hx];show Sem.run P (do pure (Next.value (←Builtin.len_ ts o.type #[m]))) w=_;rw [Sem.run_bind,hd];rfl) h
theorem calls_at {fn:Func}{c:Code}{m n:Nat}(hf:P.funcs[f]? =some fn)(hb:fn.body=some c)(hm:fn.ntmps-args.size=m)(hn:args.size+m=n)
  (h:∀a:Act,a.tmps.size=n∧a.defers=[]→(∀j v,args[j]? =some v→a.eval (.tmp j)=v)→ad P R {(default:Frame) with fn:=f,kind:= .normal} a [.code c] w):Calls P f args w R:=
 mc hf hb hm (h _ ⟨by simp [hn],rfl⟩ fun j v hv=>by
  show (args++Array.replicate m undef).getD j undef=v;rw [Array.getD_eq_getD_getElem?,Array.getElem?_append_left (Array.getElem?_eq_some_iff.1 hv).1,hv];rfl)
end
section
variable {P:Program}{R R':Ending→World→Prop}{b:Frame}{a:Act}{k:List Item}{w w1:World}{ops:Array Oper}{i:Nat}{rest:List Nat}{o:Oper}{v:Value}{f:FuncId}{args args':Array Value}
theorem ad.inv {D:Value}{r:Operand}{name:String}{xs:Array Operand}{ts:Array TypeId}(hk:b.kind= .normal)(ho:ops[i]? =some o)(hop:o.op= .call {callee:= .invoke r name,args:=xs,argTypes:=ts})(hw:Region.wanted o (yielded ops a.tmps)=true)(hD:a.eval r=D)(hargs:xs.map a.eval=args)(hm:(callMethod D name args).run P w= .ok (.enter f args') w)(hc:Calls P f args' w R')(hret:∀e w2,R' e w2→∃v,e= .returned v)
  (h:∀v w2,R' (.returned v) w2→ad P R b (a.put o.dst v) (.inRegion ops rest::k) w2):ad P R b a (.inRegion ops (i::rest)::k) w:=
 ad.call hk ho hw (by rw [yt hop,hD,hargs];exact hm) hc hret h
theorem ahk {g:Fn}{t:Tmp}{first capt:Array Value}{xs:Array Operand}{ts:Array TypeId}(hop:o.op= .call {callee:= .value (.tmp t),args:=xs,argTypes:=ts})(hf:a.eval (.tmp t)= .func g first capt):execOp a.eval o=invoke (.fn g capt) (first++xs.map a.eval):=by
 cases o;subst hop;show (do
  let d ←resolve a.eval _ _
  invoke d.target d.args)=_
 unfold resolve;simp only [hf];rfl
theorem ad.clo {t:Tmp}{f:FuncId}{first capt:Array Value}{xs:Array Operand}{ts:Array TypeId}(hk:b.kind= .normal)(ho:ops[i]? =some o)(hop:o.op= .call {callee:= .value (.tmp t),args:=xs,argTypes:=ts})(hw:Region.wanted o (yielded ops a.tmps)=true)(hf:a.eval (.tmp t)= .func (.func f) first capt)(hargs:first++xs.map a.eval++capt=args)(hent:(callFunc f args).run P w= .ok (.enter f args) w)(hc:Calls P f args w R')(hret:∀e w2,R' e w2→∃v,e= .returned v)
  (h:∀v w2,R' (.returned v) w2→ad P R b (a.put o.dst v) (.inRegion ops rest::k) w2):ad P R b a (.inRegion ops (i::rest)::k) w:=
 ad.call hk ho hw (by
  rw [ahk hop hf];show Sem.run P (callFunc f (first++xs.map a.eval++capt)) w=_;rw [hargs];exact hent) hc hret h
theorem ad.mth {t:Tmp}{D:Value}{name:String}{xs:Array Operand}{ts:Array TypeId}(hk:b.kind= .normal)(ho:ops[i]? =some o)(hop:o.op= .call {callee:= .value (.tmp t),args:=xs,argTypes:=ts})(hw:Region.wanted o (yielded ops a.tmps)=true)(hf:a.eval (.tmp t)= .func (.method name) #[D] #[])(hargs:xs.map a.eval=args)(hm:(callMethod D name args).run P w= .ok (.enter f args') w)(hc:Calls P f args' w R')(hret:∀e w2,R' e w2→∃v,e= .returned v)
  (h:∀v w2,R' (.returned v) w2→ad P R b (a.put o.dst v) (.inRegion ops rest::k) w2):ad P R b a (.inRegion ops (i::rest)::k) w:=
 ad.call hk ho hw (by
  rw [ahk hop hf,hargs];unfold invoke;have h0:(#[D]++args)[0]? =some D:=by
   rw [Array.getElem?_append_left ae];rfl
  have h1:(#[D]++args).extract 1 (#[D]++args).size=args:=by
   apply Array.ext';simp
  simp only [h0,h1];exact hm) hc hret h
end
section
variable {P:Program}{w:World}{b:Nat}{e ty:TypeId}{z:Nat×Nat}{c v:Array Value}{d:TypeDesc}
theorem ks (hu:P.underlying ty=some d)(hd:d.isRow=true)(hi:(P.info? ty).map (·.size)=some c.size)(h:w.heap[b]? =some (.cells c e z)):(loadVar ty ⟨b,0,none⟩).run P w= .ok (.agg c) w:=by
 have:=run_loadVar_mid (P:=P) w b 0 ty c.toList d (jy h fun j hj=>by simp) hu hd (by simpa using hi)
 simpa using this
theorem pg (hu:P.underlying ty=some d)(hd:d.isRow=true)(hi:(P.info? ty).map (·.size)=some c.size)(h:w.heap[b]? =some (.cells c e z)):(Instr.loadAt ty (pO b)).run P w= .ok (.agg c) w:=by
 have:=run_loadAt_mid (P:=P) w b 0 ty c.toList d (jy h fun j hj=>by simp) hu hd (by simpa using hi)
 simpa using this
theorem kg (hi:(P.info? ty).map (·.size)=some v.size)(h1:v.all (·.oneCell')=true)(hs:v.size=c.size)(h:w.heap[b]? =some (.cells c e (0,0))):∃w2,(Instr.storeAt ty (pO b) (.agg v)).run P w= .ok () w2∧w2.heap[b]? =some (.cells v e (0,0))∧ah [b] w w2∧w2.heap.size=w.heap.size:=by
 refine ⟨_,run_storeAt_mid (P:=P) w b 0 ty v (qn h ai) hi h1,?_,?_,?_⟩
 ·obtain ⟨c',q1,q2,q3,q4⟩:=uz (b:=b) v.toList 0 w c h;rw [q1];have:c'=v:=by
   apply Array.ext_getElem?;intro j
   by_cases hj:j<v.size
   ·have:=q3 j (by simpa using hj) ai;rw [Nat.zero_add] at this;rw [this];simp
   ·rw [Array.getElem?_eq_none ai,Array.getElem?_eq_none ai]
  rw [this]
 ·have ho:=Oth.aal (b:=b) v.toList 0 w;exact ⟨Nat.le_of_eq ho.1.symm,fun x hx hn=>ho.2 x (by simpa using hn),(World.keptBut_setCells b (may:=fun _=>True) v.toList 0 w (fun _ _=>trivial)).1,(World.keptBut_setCells b (may:=fun _=>True) v.toList 0 w (fun _ _=>trivial)).2.1⟩
 ·exact (Oth.aal (b:=b) v.toList 0 w).1
variable {fn:Func}{tmps:Array Value}{s t:Tmp}
theorem ace (hr:fn.results=#[.cell s ty])(hs:tmps.getD s undef=pO b)(hl:(loadVar ty ⟨b,0,none⟩).run P w= .ok (.agg c) w):(results fn tmps).run P w= .ok (.agg c) w:=by
 unfold results;rw [hr];rw [Array.getD_eq_getD_getElem?] at hs;simp [hs,asAddr,Sem.run_bind,hl]
end
section
variable {P:Program}{R:Ending→World→Prop}{b:Frame}{a:Act}{k:List Item}{w w1:World}{ops:Array Oper}{i:Nat}{rest:List Nat}{o:Oper}{v:Value}
theorem ad.row {x:Operand}{ty:TypeId}{g:Nat}{c:Array Value}(hk:b.kind= .normal)(ho:ops[i]? =some o)(hop:o.op= .load ty x)(hw:Region.wanted o (yielded ops a.tmps)=true)(hx:a.eval x=pO g)(hl:(Instr.loadAt ty (pO g)).run P w= .ok (.agg c) w)
  (h:ad P R b (a.put o.dst (.agg c)) (.inRegion ops rest::k) w):ad P R b a (.inRegion ops (i::rest)::k) w:=
 ad.val hk _ w ho hw (by
  cases o;subst hop;show Sem.run P (do pure (Next.value (←Instr.loadAt ty (a.eval x)))) w=_;rw [hx,Sem.run_bind,hl];rfl) h
theorem ad.jq {x y:Operand}{ty:TypeId}{g:Nat}{c:Array Value}(hk:b.kind= .normal)(ho:ops[i]? =some o)(hop:o.op= .store ty x y)(hw:Region.wanted o (yielded ops a.tmps)=true)(hx:a.eval x=pO g)(hy:a.eval y= .agg c)(hl:(Instr.storeAt ty (pO g) (.agg c)).run P w= .ok () w1)
  (h:ad P R b (a.put o.dst undef) (.inRegion ops rest::k) w1):ad P R b a (.inRegion ops (i::rest)::k) w:=
 ad.put hk w1 ho hw (by
  cases o;subst hop;show Sem.run P (do Instr.storeAt ty (a.eval x) (a.eval y);pure Next.skip) w=_;rw [hx,hy,Sem.run_bind,hl];rfl) h
end
section
variable {P:Program}{R:Ending→World→Prop}{b:Frame}{a:Act}{k:List Item}{w w1:World}
theorem ad.ff (h:∀a1:Act,(a1.tmps.size=a.tmps.size∧a1.defers=a.defers)→(∀t,a1.eval (.tmp t)=a.eval (.tmp t))→ad P R b a1 k w):ad P R b a k w:=h a ⟨rfl,rfl⟩ fun _=>rfl
theorem ad.ib (F:World→Prop)(h:F w)(hk:∀u,F u→ad P R b a k u):ad P R b a k w:=hk w h
variable {fn:Func}{tmps:Array Value}{s t t2:Tmp}{ty:TypeId}{g:Nat}{v:Value}
theorem agn (hr:fn.results=#[.cell s ty])(hs:tmps.getD s undef=pO g)(hl:(loadVar ty ⟨g,0,none⟩).run P w= .ok v w):(results fn tmps).run P w= .ok v w:=by
 unfold results;rw [hr];rw [Array.getD_eq_getD_getElem?] at hs;simp [hs,asAddr,Sem.run_bind,hl]
theorem results_cell_tmp {v2:Value}(hr:fn.results=#[.cell s ty,.tmp t])(hs:tmps.getD s undef=pO g)(hl:(loadVar ty ⟨g,0,none⟩).run P w= .ok v w)(ht:tmps.getD t undef=v2):(results fn tmps).run P w= .ok (.tuple #[v,v2]) w:=by
 subst ht;unfold results;rw [hr];rw [Array.getD_eq_getD_getElem?] at hs;simp [hs,asAddr,Sem.run_bind,hl]
theorem ac6 {v2:Value}(hr:fn.results=#[.tmp t,.cell s ty])(ht:tmps.getD t undef=v2)(hs:tmps.getD s undef=pO g)(hl:(loadVar ty ⟨g,0,none⟩).run P w= .ok v w):(results fn tmps).run P w= .ok (.tuple #[v2,v]) w:=by
 subst ht;unfold results;rw [hr];rw [Array.getD_eq_getD_getElem?] at hs;simp [hs,asAddr,Sem.run_bind,hl]
theorem yi {v2 v3:Value}(hr:fn.results=#[.cell s ty,.tmp t,.tmp t2])(hs:tmps.getD s undef=pO g)(hl:(loadVar ty ⟨g,0,none⟩).run P w= .ok v w)(ht:tmps.getD t undef=v2)(ht2:tmps.getD t2 undef=v3):(results fn tmps).run P w= .ok (.tuple #[v,v2,v3]) w:=by
 subst ht ht2;unfold results;rw [hr];rw [Array.getD_eq_getD_getElem?] at hs;simp [hs,asAddr,Sem.run_bind,hl]
theorem ad.ret_tc {v2:Value}(hk:b.kind= .normal)(hf:P.funcs[b.fn]? =some fn)(hr:fn.results=#[.tmp t,.cell s ty])(hd:a.defers=[])(ht:a.eval (.tmp t)=v2)(hs:a.eval (.tmp s)=pO g)(hl:(loadVar ty ⟨g,0,none⟩).run P w= .ok v w)(hR:R (.returned (.tuple #[v2,v])) w):ad P R b a (.code .ret::k) w:=
 ad.ret hk hf hd (ac6 hr ht hs hl) hR
theorem ad.aaw (hk:b.kind= .normal)(hf:P.funcs[b.fn]? =some fn)(hr:fn.results=#[.cell s ty])(hd:a.defers=[])(hs:a.eval (.tmp s)=pO g)(hl:(loadVar ty ⟨g,0,none⟩).run P w= .ok v w)(hR:R (.returned v) w):ad P R b a (.code .ret::k) w:=
 ad.ret hk hf hd (agn hr hs hl) hR
theorem ad.abv {v2:Value}(hk:b.kind= .normal)(hf:P.funcs[b.fn]? =some fn)(hr:fn.results=#[.cell s ty,.tmp t])(hd:a.defers=[])(hs:a.eval (.tmp s)=pO g)(ht:a.eval (.tmp t)=v2)(hl:(loadVar ty ⟨g,0,none⟩).run P w= .ok v w)(hR:R (.returned (.tuple #[v,v2])) w):ad P R b a (.code .ret::k) w:=
 ad.ret hk hf hd (results_cell_tmp hr hs hl ht) hR
theorem ad.zl {v2 v3:Value}(hk:b.kind= .normal)(hf:P.funcs[b.fn]? =some fn)(hr:fn.results=#[.cell s ty,.tmp t,.tmp t2])(hd:a.defers=[])(hs:a.eval (.tmp s)=pO g)(ht:a.eval (.tmp t)=v2)(ht2:a.eval (.tmp t2)=v3)(hl:(loadVar ty ⟨g,0,none⟩).run P w= .ok v w)(hR:R (.returned (.tuple #[v,v2,v3])) w):ad P R b a (.code .ret::k) w:=
 ad.ret hk hf hd (yi hr hs hl ht ht2) hR
theorem ad.bi1 {ops:Array Oper}{i:Nat}{rest:List Nat}{o:Oper}{x:Operand}{ts:Array TypeId}{bi:Builtin}{m:Value}{run:Array TypeId→TypeId→Array Value→Sem Value}(hk:b.kind= .normal)(ho:ops[i]? =some o)(hop:o.op= .call {callee:= .builtin bi,args:=#[x],argTypes:=ts})(hw:Region.wanted o (yielded ops a.tmps)=true)(hb:∀ts ty cs args,builtin bi ts ty cs args=(do pure (Next.value (←run ts ty args))))(hx:a.eval x=m)(hd:(run ts o.type #[m]).run P w= .ok v w1)
  (h:ad P R b (a.put o.dst v) (.inRegion ops rest::k) w1):ad P R b a (.inRegion ops (i::rest)::k) w:=
 ad.val hk v w1 ho hw (by
  obtain ⟨cs,e⟩:=nu (a:=a) hop;rw [e,List.map_toArray,List.map_cons,List.map_nil,hx,hb,Sem.run_bind,hd];rfl) h
theorem ui {ty:TypeId}{e:TypeId}{o:Nat}{c vs:Array Value}(hi:(P.info? ty).map (·.size)=some vs.size)(h1:vs.all (·.oneCell')=true)(hs:o+vs.size≤c.size)(h:w.heap[g]? =some (.cells c e (0,0))):
  ∃w2 c2,(Instr.storeAt ty (.pointer (some ⟨g,o,none⟩)) (.agg vs)).run P w= .ok () w2∧w2.heap[g]? =some (.cells c2 e (0,0))∧c2.size=c.size∧(∀j,j<vs.size→c2[o+j]? =vs[j]?)∧(∀x,(x<o∨o+vs.size≤x)→c2[x]? =c[x]?)∧ah [g] w w2∧w2.heap.size=w.heap.size:=by
 obtain ⟨c',q1,q2,q3,q4⟩:=uz (b:=g) vs.toList o w c h;refine ⟨_,c',run_storeAt_mid (P:=P) w g o ty vs (qn h hs) hi h1,q1,q2,fun j hj=> ?_,fun x hx=>q4 x (by simpa using hx),?_,(Oth.aal (b:=g) vs.toList o w).1⟩
 ·have:=q3 j (by simpa using hj) ai;rw [this];simp
 ·have ho:=Oth.aal (b:=g) vs.toList o w;exact ⟨Nat.le_of_eq ho.1.symm,fun x hx hn=>ho.2 x (by simpa using hn),(World.keptBut_setCells g (may:=fun _=>True) vs.toList o w (fun _ _=>trivial)).1,(World.keptBut_setCells g (may:=fun _=>True) vs.toList o w (fun _ _=>trivial)).2.1⟩
end
def fa (P:Program)(R:Ending→World→Prop)(b:Frame)(k:List Item)(ops:Array Oper)(S:World→Prop)(m n:Nat)(listed:Array Bool)(a:Act)(w:World):Prop:=
 LM P ops (fun x a1 w1=>x= .normal∧ad P R b a1 k w1) m S n listed a w
def ack (m:Nat)(ops:Array Oper)(i:Nat):Bool:=decide (i<m) && (List.range' m (ops.size-m)).all fun j=>match ops[j]? with|some oj=>oj.after.any fun e=>Region.binds .any e && e.on==i|none=>true
section
variable {P:Program}{R:Ending→World→Prop}{b:Frame}{a:Act}{k:List Item}{w w1:World}{ops:Array Oper}{S:World→Prop}{id m n:Nat}{listed:Array Bool}{o:Oper}{v:Value}
theorem ad.kj (m:Nat)(S:Nat→World→Prop)(hm:P.follows .mixedOrders=true)(h:∀d,fa P R b k ops (S d) m ops.size (Array.replicate ops.size false) a (w.at d)):ad P R b a (.code (.region id ops true)::k) w:=
 ad.wp (wp_region_any hm (LM.any _ _ _ _ (h (w.drawn+1))))
theorem fa.take (i:Nat)(hi:ops[i]? =some o)(hs:Region.noSelect ops=true)(hf:Region.free .any ops listed i=true)(hr:(Region.ready .any ops listed).contains i=true)(ht:ack m ops i=true)(v:Value)
  (hw:Region.wanted o (yielded ops a.tmps)=true)(hv:∀u,S u→(execOp a.eval o).run P u= .ok (.value v) u)(hS:S w)
  (h:fa P R b k ops S m n (listed.setIfInBounds i true) (a.put o.dst v) w):fa P R b k ops S m (n+1) listed a w:=by
 unfold ack at ht;rw [Bool.and_eq_true,List.all_eq_true] at ht;refine LM.first hi (by simpa using ht.1) (Region.noSelect_spec hs) (fun _ _ _ h=>by cases h.1) (fun j oj hoj hj=> ?_) n listed a w (Region.free_spec hi hf) (by simpa using hr) (.inl ⟨hw,hv⟩) hS h;have hjl:=(Array.getElem?_eq_some_iff.1 hoj).1;have:=ht.2 j (by rw [List.mem_range'];exact ⟨j-m,by omega,by omega⟩);rw [hoj] at this;obtain ⟨e,he,hb⟩:=Array.any_eq_true'.1 this;simp only [Bool.and_eq_true,beq_iff_eq] at hb;exact ⟨e,he,hb⟩
theorem fa.all (i:Nat)(hr:Region.ready .any ops listed=[i])(h:wpOp P ops (fun x a1 w1=>x= .normal∧ad P R b a1 k w1) i (fun a' w'=>(i<m→S w')∧fa P R b k ops S m n (listed.setIfInBounds i true) a' w') a w):fa P R b k ops S m (n+1) listed a w:=
 ⟨fun h0=>(by rw [hr] at h0;cases h0),fun j hj=>by
  rw [hr] at hj;obtain rfl:j=i:=by simpa using hj
  exact h⟩
theorem fa.solo (i:Nat)(hr:Region.ready .any ops listed=[i])(hi:ops[i]? =some o)(hw:Region.wanted o (yielded ops a.tmps)=true)(v:Value)(w1:World)(hv:(execOp a.eval o).run P w= .ok (.value v) w1)(hS:i<m→S w1)
  (h:fa P R b k ops S m n (listed.setIfInBounds i true) (a.put o.dst v) w1):fa P R b k ops S m (n+1) listed a w:=
 fa.all i hr (by
  unfold wpOp;simp only [hi,hw,if_true];left;simp only [Oper.wp,hv,Oper.upon];exact ⟨hS,h⟩)
theorem fa.vf (i:Nat)(hr:Region.ready .any ops listed=[i])(hi:ops[i]? =some o)(hw:Region.wanted o (yielded ops a.tmps)=true)(w1:World)(hv:(execOp a.eval o).run P w= .ok .skip w1)(hS:i<m→S w1)
  (h:fa P R b k ops S m n (listed.setIfInBounds i true) (a.put o.dst undef) w1):fa P R b k ops S m (n+1) listed a w:=
 fa.all i hr (by
  unfold wpOp;simp only [hi,hw,if_true];left;simp only [Oper.wp,hv,Oper.upon];exact ⟨hS,h⟩)
theorem fa.gw {R':Ending→World→Prop}(i:Nat)(hr:Region.ready .any ops listed=[i])(hi:ops[i]? =some o)(hw:Region.wanted o (yielded ops a.tmps)=true){f:FuncId}{args:Array Value}(hv:(execOp a.eval o).run P w= .ok (.enter f args) w1)(hc:Calls P f args w1 R')(hret:∀e w2,R' e w2→∃v,e= .returned v)
  (h:∀v w2,R' (.returned v) w2→(i<m→S w2)∧fa P R b k ops S m n (listed.setIfInBounds i true) (a.put o.dst v) w2):fa P R b k ops S m (n+1) listed a w:=
 fa.all i hr (by
  unfold wpOp;simp only [hi,hw,if_true];left;simp only [Oper.wp,hv,Oper.upon];refine Calls.mono hc fun e w2 he=> ?_
  obtain ⟨v,rfl⟩:=hret e w2 he;exact h v w2 he)
theorem fa.fin (hr:Region.ready .any ops listed=[])(h:ad P R b a k w):fa P R b k ops S m n listed a w:=by
 cases n with
 |zero=>exact ⟨hr,rfl,h⟩
 |succ n=>exact ⟨fun _=>⟨rfl,h⟩,by rw [hr];simp⟩
theorem fa.app (i:Nat){x y:Operand}{ts:Array TypeId}{mv key:Value}(hr:Region.ready .any ops listed=[i])(ho:ops[i]? =some o)(hop:o.op= .call {callee:= .builtin .append,args:=#[x,y],argTypes:=ts})(hw:Region.wanted o (yielded ops a.tmps)=true)(hx:a.eval x=mv)(hy:a.eval y=key)(hd:(Builtin.append_ ts o.type #[mv,key]).run P w= .ok v w1)(hS:i<m→S w1)
  (h:fa P R b k ops S m n (listed.setIfInBounds i true) (a.put o.dst v) w1):fa P R b k ops S m (n+1) listed a w:=
 fa.solo i hr ho hw v w1 (by
  obtain ⟨cs,e⟩:=nu (a:=a) hop;rw [e,List.map_toArray,List.map_cons,List.map_cons,List.map_nil,hx,hy];show Sem.run P (do pure (Next.value (←Builtin.append_ ts o.type #[mv,key]))) w=_;rw [Sem.run_bind,hd];rfl) hS h
end
def isME:Op→Bool| .mapEntry .. =>true| .index .. =>true|_=>false
theorem ad.val3 {P:Program}{R:Ending→World→Prop}{b:Frame}{a:Act}{k:List Item}{w w1:World}{ops:Array Oper}{i:Nat}{rest:List Nat}{o:Oper}{v:Value}(hk:b.kind= .normal)(ho:ops[i]? =some o)(hs:sa o.op=0)(hi:isME o.op=false)(hw:Region.wanted o (yielded ops a.tmps)=true)(hr:(execOp a.eval o).run P w= .ok (.value v) w1)
  (h:ad P R b (a.put o.dst v) (.inRegion ops rest::k) w1):ad P R b a (.inRegion ops (i::rest)::k) w:=ad.val hk v w1 ho hw hr h
theorem ad.ite1 {P:Program}{R:Ending→World→Prop}{b:Frame}{a:Act}{k:List Item}{w:World}{c1 c2:Code}{x:Operand}{t:Bool}(F:Bool→Act→Prop)(hx:a.eval x= .bool t)(h1:t=true→∀k',(∀a1,F true a1→ad P R b a1 k' w)→ad P R b a (.code c1::k') w)(h2:t=false→∀k',(∀a1,F false a1→ad P R b a1 k' w)→ad P R b a (.code c2::k') w)(hk:∀a1,F t a1→ad P R b a1 k w):ad P R b a (.code (.cond x c1 c2)::k) w:=by
 cases t with
 |true=>exact ad.cond (t:=true) hx (h1 rfl k hk)
 |false=>exact ad.cond (t:=false) hx (h2 rfl k hk)
section
variable {P:Program}{R:Ending→World→Prop}{b:Frame}{a:Act}{k:List Item}{w w1:World}{v:Value}
theorem ad.bi2 {ops:Array Oper}{i:Nat}{rest:List Nat}{o:Oper}{x y:Operand}{ts:Array TypeId}{bi:Builtin}{m m2:Value}{run:Array TypeId→TypeId→Array Value→Sem Value}(hk:b.kind= .normal)(ho:ops[i]? =some o)(hop:o.op= .call {callee:= .builtin bi,args:=#[x,y],argTypes:=ts})(hw:Region.wanted o (yielded ops a.tmps)=true)(hb:∀ts ty cs args,builtin bi ts ty cs args=(do pure (Next.value (←run ts ty args))))(hx:a.eval x=m)(hy:a.eval y=m2)(hd:(run ts o.type #[m,m2]).run P w= .ok v w1)
  (h:ad P R b (a.put o.dst v) (.inRegion ops rest::k) w1):ad P R b a (.inRegion ops (i::rest)::k) w:=
 ad.val hk v w1 ho hw (by
  obtain ⟨cs,e⟩:=nu (a:=a) hop;rw [e,List.map_toArray,List.map_cons,List.map_cons,List.map_nil,hx,hy,hb,Sem.run_bind,hd];rfl) h
theorem ad.oa {ops:Array Oper}{i:Nat}{rest:List Nat}{o:Oper}{x y:Operand}{ty:TypeId}{p:Addr}{c:Array Value}(hk:b.kind= .normal)(ho:ops[i]? =some o)(hop:o.op= .store ty x y)(hw:Region.wanted o (yielded ops a.tmps)=true)(hx:a.eval x= .pointer (some p))(hy:a.eval y= .agg c)(hl:(Instr.storeAt ty (.pointer (some p)) (.agg c)).run P w= .ok () w1)
  (h:ad P R b (a.put o.dst undef) (.inRegion ops rest::k) w1):ad P R b a (.inRegion ops (i::rest)::k) w:=
 ad.put hk w1 ho hw (by
  cases o;subst hop;show Sem.run P (do Instr.storeAt ty (a.eval x) (a.eval y);pure Next.skip) w=_;rw [hx,hy,Sem.run_bind,hl];rfl) h
end
structure UE (P:Program)(fs:Array Func) where
 c:Frame
 T:List Frame
 N:Nat
 C:Ctx P fs
 hp:∀f,Plain P fs f∨jj P f
def Bk [Bg] (P:Program)(R:Ending→World→Prop)(N:Nat)(c:Frame)(T:List Frame)(g:Goroutine)(w:World):Prop:=
 ∃v,R (.returned v) w∧g=av (c.finish v) T∧Whole P w∧Base one w.heap.size∧N≤w.heap.size∧∀π',aw w.heap.size one π'→al π' v=v
def UCx [Bg] (P:Program)(fs:Array Func)(f:FuncId)(args:Array Value)(w:World)(R:Ending→World→Prop):Prop:=
 ∀(c:Frame)(T:List Frame),Fit P (c::T) (av (Frame.enter P f args .normal) (c::T)) w→cr (aq P fs) (Bk P R w.heap.size c T) (av (Frame.enter (aq P fs) f args .normal) (c::T)) w
def cu [Bg] {P:Program}{fs:Array Func}(E:UE P fs)(R:Ending→World→Prop)(b:Frame)(a:Act)(todo:List Item)(w:World):Prop:=
 Plain P fs b.fn→gz R→(∀e w2,R e w2→E.N≤w2.heap.size)→Fit P (E.c::E.T) (av (b.at a todo) (E.c::E.T)) w→cr (aq P fs) (Bk P R E.N E.c E.T) (av (b.at a todo) (E.c::E.T)) w
section
variable {P:Program}{fs:Array Func}{R:Ending→World→Prop}{fr c:Frame}{T:List Frame}{w:World}{v:Value}{N:Nat}
theorem wy [Bg] (hF:Fit P T (av fr T) w):iz P [fr]∧Still w.heap.size one [fr]∧Base one w.heap.size∧Whole P w:=by
 obtain ⟨fr2,A2,e,hok,hst,hb,hW⟩:=hF;obtain ⟨rfl,hA⟩:=jz e;have hA0:A2=[]:=by
  have h1:=congrArg List.length hA;rw [List.length_append] at h1;exact List.eq_nil_of_length_eq_zero ai
 subst hA0;exact ⟨hok,hst,hb,hW⟩
theorem cr.leavex [Bg] (C:Ctx P fs)(hR:gz R)(hF:Fit P (c::T) (av fr (c::T)) w)(hl:fr.leaving P w (.returned v))(hr:R (.returned v) w)(hN:N≤w.heap.size):cr (aq P fs) (Bk P R N c T) (av fr (c::T)) w:=by
 obtain ⟨hok,hst,hb,hW⟩:=wy hF;refine cr.real rfl fun d2=> ?_
 obtain ⟨π1,w1',new,hstep,hadv,hact⟩:=abw C (hW.tp w.tape d2) hb (hok.ok _ List.mem_cons_self) (Still.cons.1 hst).1 (aa7 C hl hW.tm w.tape d2) true c T;obtain ⟨rfl,rfl,hW5⟩:=ux (hW.tp w.tape d2) hadv;rw [na,jw] at hstep;refine ⟨_,_,new,hstep,Nat.le_refl _,fun e he=>evl (hadv.evs e he),?_⟩;exact cr.done fun d=>⟨v,hR _ _ w.tape d (hR _ _ w.tape d2 hr),rfl,hW.tp w.tape d,hb,hN,fun π' ha=>(hact π' ha).trans (jw v)⟩
theorem cr.endx [Bg] (C:Ctx P fs)(hp:∀f,Plain P fs f∨jj P f)(hR:gz R)(hm:∀e w2,R e w2→N≤w2.heap.size)(hret:∀e w2,R e w2→∃v,e= .returned v){f:FuncId}(hpl:Plain P fs f)(hfin:mu (lst P) (qa P f R) (av fr [de]) w)(hF:Fit P (c::T) (av fr (c::T)) w)(a':Goroutine)(he:zw P fs (av fr (c::T)) a'):cr (aq P fs) (Bk P R N c T) a' w:=by
 obtain ⟨hok,hst,hb,hW⟩:=wy hF;refine (cr.seg (T:=c::T) (A':=[]) C hp (S:=qa P f R) (fun g w τ d hs=>xu C hR hs τ d) (fun g w ⟨e,fr,_,h2,h3,_⟩=>⟨fr,h2,by rw [h3];exact hpl⟩) hfin _ [] rfl hok hF _ he).then fun a' w2 ⟨hf,fr2,hs,e⟩=> ?_
 subst e;obtain ⟨e2,fr3,he2,hg3,-,hl,hr,htm⟩:=hs;obtain ⟨rfl,-⟩:=jz hg3;obtain ⟨v,rfl⟩:=hret _ _ hr;exact cr.leavex C hR hf hl hr (hm _ _ hr)
theorem UCx.of_lone [Bg] (C:Ctx P fs)(hp:∀f,Plain P fs f∨jj P f){f:FuncId}{args:Array Value}(hpl:Plain P fs f)(hR:gz R)(hm:∀e w2,R e w2→w.heap.size≤w2.heap.size)(hret:∀e w2,R e w2→∃v,e= .returned v)(hc:∀τ d,Calls P f args (zr.tp w τ d) R):UCx P fs f args w R:=fun c T hF=>by
 obtain ⟨hok,hst,hb,hW⟩:=wy hF;have hfin:=abl (Z:=zb) (F:=kz) C hR (fun w2 hr=>by obtain ⟨v,e⟩:=hret _ _ hr;cases e) hc ⟨_,[],one,cy w,rfl,hok,hst,hb,hW⟩;exact cr.endx C hp hR hm hret hpl hfin hF _ (.inr ⟨f,args,.normal,_,rfl,rfl⟩)
theorem UCx.mono [Bg] {f:FuncId}{args:Array Value}{R':Ending→World→Prop}(h:UCx P fs f args w R)(hR:∀e w2,R e w2→R' e w2):UCx P fs f args w R':=fun c T hF=>
 (h c T hF).mono fun g w2 ⟨v,h1,h2⟩=>⟨v,hR _ _ h1,h2⟩
end
section
variable {P:Program}{fs:Array Func}{E:UE P fs}{R R':Ending→World→Prop}{b:Frame}{a a1:Act}{todo todo1 k:List Item}{w w1:World}{ops:Array Oper}{i:Nat}{rest:List Nat}{o:Oper}{v:Value}{c c1 c2:Code}{id:Nat}
theorem cu.step1 [Bg] (h:∀cs d,∃d2,step P (lone (b.at a todo) cs (w.at d))= .next (lone (b.at a1 todo1) cs (w1.at d2)))(hk:cu E R b a1 todo1 w1):cu E R b a todo w:=fun hb hR hm hF=>by
 refine cr.step E.C hF (ad7 (A:=[]) (A0:=[]) (.inl rfl)) fun d=> ?_
 obtain ⟨d2,hs⟩:=h (E.c::E.T) d;refine ⟨_,_,hs,fun a1' he hf=> ?_⟩;have:a1'=av (b.at a1 todo1) (E.c::E.T):=vt (fr:=b.at a1 todo1) hb he;subst this;exact cr.at (hk hb hR hm (hf.tp w1.tape w1.drawn)) d2
theorem cu.ctl [Bg] (hs:∀cs u,stepG P true (G (b.at a todo) cs) u= .go (G (b.at a todo1) cs) u #[])(hk:cu E R b a todo1 w):cu E R b a todo w:=
 cu.step1 (fun cs d=>⟨d,step_lone_go (by
  have:=hs cs (w.at d);unfold G at this;rw [this];rfl)⟩) hk
theorem cu.val [Bg] (hk:b.kind= .normal)(v:Value)(w1:World)(ho:ops[i]? =some o)(hw:Region.wanted o (yielded ops a.tmps)=true)(hr:∀d,(execOp a.eval o).run P (w.at d)= .ok (.value v) (w1.at d))
  (h:cu E R b (a.put o.dst v) (.inRegion ops rest::k) w1):cu E R b a (.inRegion ops (i::rest)::k) w:=cu.step1 (fun cs d=>⟨d,abe hk ho hw (hr d)⟩) h
theorem cu.put [Bg] (hk:b.kind= .normal)(w1:World)(ho:ops[i]? =some o)(hw:Region.wanted o (yielded ops a.tmps)=true)(hr:∀d,(execOp a.eval o).run P (w.at d)= .ok .skip (w1.at d))
  (h:cu E R b (a.put o.dst undef) (.inRegion ops rest::k) w1):cu E R b a (.inRegion ops (i::rest)::k) w:=cu.step1 (fun cs d=>⟨d,abg hk ho hw (hr d)⟩) h
theorem cu.not [Bg] (ho:ops[i]? =some o)(hw:Region.wanted o (yielded ops a.tmps)=false)(h:cu E R b (a.put o.dst undef) (.inRegion ops rest::k) w):cu E R b a (.inRegion ops (i::rest)::k) w:=
 cu.step1 (fun cs d=>⟨d,by
  have:=step_op_skip (P:=P) (b:=b) (a:=a) (k:=k) (cs:=cs) (w:=w.at d) (ops:=ops) (i:=i) (rest:=rest) (by rw [ho];exact hw);rw [ho] at this;exact this⟩) h
theorem cu.seq [Bg] (h:cu E R b a (.code c1:: .code c2::k) w):cu E R b a (.code (.seq c1 c2)::k) w:=cu.ctl (fun _ _=>stepG_seq) h
theorem cu.skip [Bg] (h:cu E R b a k w):cu E R b a (.code .skip::k) w:=cu.ctl (fun _ _=>stepG_skip) h
theorem cu.cond [Bg] {o:Operand}{t:Bool}(ht:a.eval o= .bool t)(h:cu E R b a (.code (if t then c1 else c2)::k) w):cu E R b a (.code (.cond o c1 c2)::k) w:=cu.ctl (fun _ _=>stepG_cond ht) h
theorem cu.se [Bg] {o:Operand}(ht:a.eval o= .bool true)(h:cu E R b a (.code c1::k) w):cu E R b a (.code (.cond o c1 c2)::k) w:=cu.cond ht h
theorem cu.p9 [Bg] {o:Operand}(ht:a.eval o= .bool false)(h:cu E R b a (.code c2::k) w):cu E R b a (.code (.cond o c1 c2)::k) w:=cu.cond ht h
theorem cu.block [Bg] (h:cu E R b a (.code c:: .inBlock id::k) w):cu E R b a (.code (.block id c)::k) w:=cu.ctl (fun _ _=>stepG_block) h
theorem cu.inBlock [Bg] (h:cu E R b a k w):cu E R b a (.inBlock id::k) w:=cu.ctl (fun _ _=>stepG_inBlock) h
theorem cu.loop [Bg] (h:cu E R b a (.code c:: .inLoop c::k) w):cu E R b a (.code (.loop c)::k) w:=cu.ctl (fun _ _=>stepG_loop) h
theorem cu.inLoop [Bg] (h:cu E R b a (.code c:: .inLoop c::k) w):cu E R b a (.inLoop c::k) w:=cu.ctl (fun _ _=>stepG_inLoop) h
theorem cu.exit [Bg] {k':List Item}(hk:exitTo id k=some k')(h:cu E R b a k' w):cu E R b a (.code (.exit id)::k) w:=cu.ctl (fun _ _=>stepG_exit hk) h
theorem cu.region [Bg] (h:cu E R b a (.inRegion ops (List.range ops.size)::k) w):cu E R b a (.code (.region id ops false)::k) w:=cu.ctl (fun _ _=>stepG_region) h
theorem cu.ak [Bg] (h:cu E R b a k w):cu E R b a (.inRegion ops []::k) w:=cu.ctl (fun _ _=>stepG_region_end) h
theorem cu.wp [Bg] (K:Act→World→Prop)(hK:∀a w τ d,K a w→K a (tp w τ d))(hk:b.kind= .normal)(h:∀τ d,c.wp P (fun x a1 w1=>x= .normal∧K a1 w1) a (tp w τ d))(hn:∀a1 w1,K a1 w1→cu E R b a1 k w1):cu E R b a (.code c::k) w:=fun hb hR hm hF=>by
 refine (af3 E.C E.hp (Q:=fun x a1 w1=>x= .normal∧K a1 w1) (fun e a w τ d hq=>⟨hq.1,hK _ _ _ _ hq.2⟩) (fun _ _ h=>by cases h.1) (fun _ _ _ h=>by cases h.1) (fun _ _ _ h=>by cases h.1) h b k [] (E.c::E.T) hk hb hF).then fun a' w' ⟨hf,hr⟩=> ?_
 cases hr with
 |normal hq=>exact hn _ _ hq.2 hb hR hm hf
 |exit hq=>cases hq.1
 |ret hq=>cases hq.1
 |panic hq=>cases hq.1
theorem cu.of_lto [Bg] (hk:b.kind= .normal)(hret:∀e w2,R e w2→∃v,e= .returned v)(h:∀τ d,ad P R b a todo (tp w τ d)):cu E R b a todo w:=fun hb hR hm hF=>by
 obtain ⟨hok,hst,hba,hA⟩:=wy hF;have hI0:∀n g w w2 fr',Inv P zb kz g w→iter (lst P) n g w=some (av fr' [de],w2)→Tm P w2:=by
  intro n
  induction n with
  |zero=>
   intro g w w2 fr' hI h;obtain ⟨-,rfl⟩:=Prod.mk.inj (Option.some.inj h);obtain ⟨_,_,_,_,_,_,_,_,hA⟩:=hI;exact hA.tm
  |succ n ih=>
   intro g w w2 fr' hI h;rw [xz] at h;cases hs:lst P g w with
   |none=>rw [hs] at h;cases h
   |some x=>
    rw [hs] at h;exact ih _ _ _ _ (sf E.C hI (w1:=x.2) (g1:=x.1) hs).1 h
 have hI:Inv P zb kz (av (b.at a todo) [de]) w:=⟨_,[],one,cy w,rfl,hok,hst,hba,hA⟩;have hfin:mu (lst P) (qa P b.fn R) (av (b.at a todo) [de]) w:=by
  refine ahb (S:=qa P b.fn R) (Inv:=Inv P zb kz) (fun g w τ d hi=>hi.tp τ d) (fun g w g1 w1 hi hs=> ?_) (fun g w τ d hs=>xu E.C hR hs τ d) hI fun τ d=> ?_
  ·obtain ⟨a,b,c,e⟩:=sf E.C hi hs;exact ⟨a,c,e⟩
  ·obtain ⟨fr,w',hsteps,hf,e,he,hl,hr⟩:=h τ d [de];obtain ⟨n,hn⟩:=hsteps;have hit:=ad8 E.C n _ _ (hI.tp τ d) hn;exact ⟨n,_,_,hit,e,fr,he,rfl,hf,hl,hr,hI0 n _ _ _ _ (hI.tp τ d) hit⟩
 exact cr.endx E.C E.hp hR hm hret hb hfin hF _ (.inl rfl)
theorem cu.ret [Bg] {fn:Func}(hk:b.kind= .normal)(hf:P.funcs[b.fn]? =some fn)(hd:a.defers=[])(hr:(results fn a.tmps).run P w= .ok v w)(hR:R (.returned v) w):cu E R b a (.code .ret::k) w:=fun hb hRb hm hF=>
 cr.ctl (A':=[]) (T:=E.c::E.T) E.C (fr1:={b.at a (.code .ret::k) with mode:= .returning}) hF rfl hb (fun u=>step_lone_go (by
  have:=stepG_ret' (P:=P) (main:=true) (b:=b) (a:=a) (k:=k) (cs:=E.c::E.T) (w:=u);unfold G at this;rw [List.nil_append,this];rfl)) fun hf2=>cr.leavex E.C hRb hf2 ⟨rfl,hd,hk,fn,hf,hr⟩ hR (hm _ _ hR)
theorem cu.dq [Bg] {fn:Func}{t:Tmp}(hk:b.kind= .normal)(hf:P.funcs[b.fn]? =some fn)(hres:fn.results=#[.tmp t])(hd:a.defers=[])(hv:a.eval (.tmp t)=v)(hR:R (.returned v) w):cu E R b a (.code .ret::k) w:=
 cu.ret hk hf hd ((results_tmp hres _ _ _).trans (by subst hv;rfl)) hR
theorem cu.ff [Bg] (h:∀a1:Act,(a1.tmps.size=a.tmps.size∧a1.defers=a.defers)→(∀t,a1.eval (.tmp t)=a.eval (.tmp t))→cu E R b a1 k w):cu E R b a k w:=h a ⟨rfl,rfl⟩ fun _=>rfl
theorem cu.ib [Bg] (F:World→Prop)(h:F w)(hk:∀u,F u→cu E R b a k u):cu E R b a k w:=hk w h
theorem cu.ucall [Bg] (hk:b.kind= .normal)(ho:ops[i]? =some o)(hm:sq P o=true)(hd:a.defers=[])(hw:Region.wanted o (yielded ops a.tmps)=true){f:FuncId}{args:Array Value}(hr:∀d,(execOp a.eval o).run P (w.at d)= .ok (.enter f args) (w1.at d))(hu:UCx P fs f args w1 R')
  (h:∀v w2,R' (.returned v) w2→cu E R b (a.put o.dst v) (.inRegion ops rest::k) w2):cu E R b a (.inRegion ops (i::rest)::k) w:=fun hb hRb hmn hF=>by
 have hok:=(oo hm).1;have hnd:=(oo hm).2;refine cr.real rfl fun d=> ?_
 have hS:Sound P (w.at d) a:=(Fit.sound (T:=E.c::E.T) (A':=[]) hF hd).tp w.tape d;obtain ⟨new,he,hev,hadv,hcl⟩:=za E.C hS hok hnd (hr d);have hke:((b.at a (.inRegion ops (i::rest)::k)).kind==CallKind.early)=false:=by
  show (b.kind==CallKind.early)=false;rw [hk];rfl
 have hst:=(m9 (P:=aq P fs) (b:=b) (a:=a) (cs:=E.c::E.T) (rest:=rest) (k:=k) (u:=cy (w.at d)) hk ho hw).trans (m8 he hke rfl);refine ⟨_,w1.at d,_,hst,hadv.size,fun e he=>by
  rw [Array.append_empty] at he;exact hev e (kv _ _ _ e he),?_⟩
 obtain ⟨hok2,hst2,hb2,hW2⟩:=wy hF;have hargs:∀π',aw w1.heap.size one π'→az π' args=args:=fun π' ha=>by
  have:=hcl π' ha;simp only [km,Next.enter.injEq] at this;exact this.2
 have hF1:Fit P (b.at a (.inRegion ops (i::rest)::k)::(E.c::E.T)) (av (Frame.enter P f args .normal) (b.at a (.inRegion ops (i::rest)::k)::(E.c::E.T))) w1:=by
  refine ⟨Frame.enter P f args .normal,[],rfl,⟨fun fr hfr=> ?_,_,rfl,rfl,rfl⟩,fun π' ha=> ?_,?_,At.tp (w:=w1.at d) hadv.at_ w1.tape w1.drawn⟩
  ·obtain rfl:fr=_:=by simpa using hfr
   exact om E.C _ _ (.inl rfl)
  ·simp only [List.map_cons,List.map_nil,ry,hargs π' ha,jg]
  ·exact Base.adv (w:=w.at d) (w1:=w1.at d) hS.base hadv
 refine cr.at ?_ d;have hsz:w.heap.size≤w1.heap.size:=hadv.size;refine (hu (b.at a (.inRegion ops (i::rest)::k)) (E.c::E.T) hF1).then fun a2 w2 ⟨v,hv,e,hW,hb3,hsz2,hcl2⟩=> ?_
 subst e;have hc:=hok2.ok _ List.mem_cons_self;have hF2:Fit P (E.c::E.T) (av ((b.at a (.inRegion ops (i::rest)::k)).finish v) (E.c::E.T)) w2:=by
  refine ⟨_,[],rfl,hok2.top (hc.finish v) (fq _ v).1 (fq _ v).2,Still.cons.2 ⟨kh hc (fun π' ha=>(Still.cons.1 hst2).1 π' (ha.mono (Nat.le_trans hsz hsz2))) (fun π' ha=>by rw [hcl2 π' ha,jw]),fun π' ha=>rfl⟩,hb3,hW⟩
 rw [Frame.finish_at,ho] at hF2 ⊢;exact h v w2 hv hb hRb hmn hF2
theorem cu.fn [Bg] (f:FuncId)(xs:Array Operand){ts:Array TypeId}{args:Array Value}(hk:b.kind= .normal)(ho:ops[i]? =some o)(hop:o.op= .call {callee:= .value (.func f),args:=xs,argTypes:=ts})(hm:sq P o=true)(hd:a.defers=[])(hw:Region.wanted o (yielded ops a.tmps)=true)(hargs:xs.map a.eval=args)(hent:∀u,(callFunc f args).run P u= .ok (.enter f args) u)(hu:UCx P fs f args w R')
  (h:∀v w2,R' (.returned v) w2→cu E R b (a.put o.dst v) (.inRegion ops rest::k) w2):cu E R b a (.inRegion ops (i::rest)::k) w:=
 cu.ucall hk ho hm hd hw (fun d=>by rw [cw hop,hargs];exact hent _) hu h
theorem akt [Bg] (C:Ctx P fs)(hp:∀f,Plain P fs f∨jj P f){f:FuncId}{fn:Func}{args:Array Value}{m n:Nat}(hR:gz R)(hmn:∀e w2,R e w2→w.heap.size≤w2.heap.size)(hf:P.funcs[f]? =some fn)(hb:fn.body=some c)(hpl:Plain P fs f)(hm:fn.ntmps-args.size=m)(hn:args.size+m=n)
  (h:∀(E:UE P fs)(a:Act),a.tmps.size=n∧a.defers=[]→(∀j v,args[j]? =some v→a.eval (.tmp j)=v)→cu E R {(default:Frame) with fn:=f,kind:= .normal} a [.code c] w):UCx P fs f args w R:=by
 intro c' T hF;rw [hpl];rw [enter_at hf hb hm] at hF ⊢;refine h ⟨c',T,w.heap.size,C,hp⟩ _ ⟨by simp [hn],rfl⟩ (fun j v hv=> ?_) hpl hR hmn hF;show (args++Array.replicate m undef).getD j undef=v;rw [Array.getD_eq_getD_getElem?,Array.getElem?_append_left (Array.getElem?_eq_some_iff.1 hv).1,hv];rfl
end
def live (o:Obj):Prop:=o≠gu∧∀c e,o≠ .cells c e (0,c.size)
section
variable {P:Program}{Z F:Nat→Prop}{π:Pm}{m w':World}{τ:Tap}{d b N:Nat}{o:Obj}{c:Array Value}{e:TypeId}{es:Array MapEntry}{k:Nat}
theorem uk (hs:0<c.size):live (.cells c e (0,0)):=⟨(by intro h;cases h),fun c' e' h=>by
 simp only [Obj.cells.injEq,Prod.mk.injEq,true_and] at h;obtain ⟨rfl,-,h⟩:=h;omega⟩
theorem live_map:live (.map es k):=⟨(by intro h;cases h),fun _ _ h=>by cases h⟩
theorem At.get (h:At P Z F π (zr.tp m τ d) w')(ho:m.heap[b]? =some o)(hl:live o):w'.heap[π.to b]? =some (cx π o)∧¬Z b∧¬F b:=by
 have e:=h.rob π (aw.refl _ _);have hz:¬Z b:=fun hz=>hl.1 (Option.some.inj (ho.symm.trans (e.gu b hz)))
 have hf:¬F b:=fun hf=>by
  obtain ⟨c,t,z,h1,-⟩:=e.fz b hf;exact hl.2 c t (Option.some.inj (ho.symm.trans h1))
 exact ⟨(e.own b o ho hz hf).2,hz,hf⟩
theorem aw.old (h:aw N one π)(hb:b<N):π.to b=b:=h b hb
theorem aw.ge (h:aw N one π)(hb:N≤b):N≤π.to b:=by
 apply Classical.byContradiction;intro hx;have h1:π.to (π.to b)=π.to b:=h (π.to b) ai;have h2:=π.inj h1;omega
theorem Mem.has_of {M:Mem}(ho:M.w.heap[b]? =some o)(hz:¬M.Z b)(hf:¬M.F b):M.Has (M.π.to b):=⟨b,(Array.getElem?_eq_some_iff.1 ho).1,hz,hf,rfl⟩
theorem Mem.got [Bg] [Bg] {M:Mem}(h:At P M.Z M.F M.π (zr.tp M.w τ d) (cy w'))(hn:∀r,M.Has r→¬zb r)(ho:M.w.heap[b]? =some o)(hl:live o):w'.heap[M.π.to b]? =some (cx M.π o)∧M.Has (M.π.to b):=by
 obtain ⟨h1,h2,h3⟩:=h.get ho hl;have hh:=Mem.has_of ho h2 h3;exact ⟨by rw [←h1,j9 (hn _ hh)],hh⟩
end
def zo (ops:Array Oper):Nat→Array Bool→List (List Nat)
 |0,_=> [[]]
 |n+1,listed=>match Region.ready .any ops listed with
  | []=> [[]]
  |i::l=>(i::l).flatMap fun j=>(zo ops n (listed.setIfInBounds j true)).map (j::·)
theorem go_mem (ops:Array Oper):∀(fuel t:Nat)(listed:Array Bool),Region.linearise.go .any ops fuel t listed []∈zo ops fuel listed
 |0,t,listed=>by simp [Region.linearise.go,zo]
 |fuel+1,t,listed=>by
  simp only [Region.linearise.go];change (match (Region.ready .any ops listed)[t % (Region.ready .any ops listed).length]? with
   |some i=>Region.linearise.go .any ops fuel (t / (Region.ready .any ops listed).length) (listed.setIfInBounds i true) [i]
   |none=> [].reverse)∈_
  unfold zo;cases hi:(Region.ready .any ops listed)[t % (Region.ready .any ops listed).length]? with
  |none=>
   have hnil:Region.ready .any ops listed=[]:=by
    cases hr:Region.ready .any ops listed with
    |nil=>rfl
    |cons x xs=>
     rw [hr] at hi;have hlt:t % (x::xs).length< (x::xs).length:=Nat.mod_lt _ ae;simp at hi;simp at hlt;omega
   rw [hnil];exact List.mem_singleton.2 rfl
  |some i=>
   simp only [];rw [linearise_go_acc,List.reverse_singleton,List.singleton_append];have hm:=List.mem_of_getElem? hi;have key:∀l:List Nat,i∈l→(i::Region.linearise.go .any ops fuel (t / (Region.ready .any ops listed).length) (listed.setIfInBounds i true) [])∈(match l with
    | []=> [[]]
    |j::l'=>(j::l').flatMap fun j=>(zo ops fuel (listed.setIfInBounds j true)).map (j::·)):=fun l hl=>by
    cases l with
    |nil=>cases hl
    |cons x xs=>exact List.mem_flatMap.2 ⟨i,hl,List.mem_map.2 ⟨_,go_mem ops fuel _ _,rfl⟩⟩
   exact key _ hm
def LDK (P:Program)(K:Act→World→Prop)(ops:Array Oper)(S:World→Prop)(m n:Nat)(listed:Array Bool)(a:Act)(w:World):Prop:=
 LM P ops (fun x a1 w1=>x= .normal∧K a1 w1) m S n listed a w
section
variable {P:Program}{fs:Array Func}{E:UE P fs}{R:Ending→World→Prop}{b:Frame}{a:Act}{k:List Item}{w w1:World}{ops:Array Oper}{S:World→Prop}{K:Act→World→Prop}{id m n:Nat}{listed:Array Bool}{o:Oper}{v:Value}
theorem cu.drawK [Bg] (K:Act→World→Prop)(m:Nat)(S:World→Prop)(hm:P.follows .mixedOrders=true)(hk:b.kind= .normal)(hK:∀a w τ d,K a w→K a (tp w τ d))(h:∀τ d,LDK P K ops S m ops.size (Array.replicate ops.size false) a (tp w τ d))(hn:∀a1 w1,K a1 w1→cu E R b a1 k w1):cu E R b a (.code (.region id ops true)::k) w:=
 cu.wp K hK hk (fun τ d=>wp_region_any hm (LM.any _ _ _ _ (h τ (d+1)))) hn
theorem LDK.take (i:Nat)(hi:ops[i]? =some o)(hs:Region.noSelect ops=true)(hf:Region.free .any ops listed i=true)(hr:(Region.ready .any ops listed).contains i=true)(ht:ack m ops i=true)(v:Value)
  (hw:Region.wanted o (yielded ops a.tmps)=true)(hv:∀u,S u→(execOp a.eval o).run P u= .ok (.value v) u)(hS:S w)
  (h:LDK P K ops S m n (listed.setIfInBounds i true) (a.put o.dst v) w):LDK P K ops S m (n+1) listed a w:=by
 unfold ack at ht;rw [Bool.and_eq_true,List.all_eq_true] at ht;refine LM.first hi (by simpa using ht.1) (Region.noSelect_spec hs) (fun _ _ _ h=>by cases h.1) (fun j oj hoj hj=> ?_) n listed a w (Region.free_spec hi hf) (by simpa using hr) (.inl ⟨hw,hv⟩) hS h;have hjl:=(Array.getElem?_eq_some_iff.1 hoj).1;have:=ht.2 j (by rw [List.mem_range'];exact ⟨j-m,by omega,by omega⟩);rw [hoj] at this;obtain ⟨e,he,hb⟩:=Array.any_eq_true'.1 this;simp only [Bool.and_eq_true,beq_iff_eq] at hb;exact ⟨e,he,hb⟩
theorem LDK.all (i:Nat)(hr:Region.ready .any ops listed=[i])(h:wpOp P ops (fun x a1 w1=>x= .normal∧K a1 w1) i (fun a' w'=>(i<m→S w')∧LDK P K ops S m n (listed.setIfInBounds i true) a' w') a w):LDK P K ops S m (n+1) listed a w:=
 ⟨fun h0=>(by rw [hr] at h0;cases h0),fun j hj=>by
  rw [hr] at hj;obtain rfl:j=i:=by simpa using hj
  exact h⟩
theorem LDK.solo [Bg] (i:Nat)(hr:Region.ready .any ops listed=[i])(hi:ops[i]? =some o)(hw:Region.wanted o (yielded ops a.tmps)=true)(v:Value)(w1:World)(hv:(execOp a.eval o).run P w= .ok (.value v) w1)(hS:i<m→S w1)
  (h:LDK P K ops S m n (listed.setIfInBounds i true) (a.put o.dst v) w1):LDK P K ops S m (n+1) listed a w:=
 LDK.all i hr (by
  unfold wpOp;simp only [hi,hw,if_true];left;simp only [Oper.wp,hv,Oper.upon];exact ⟨hS,h⟩)
theorem LDK.vf [Bg] (i:Nat)(hr:Region.ready .any ops listed=[i])(hi:ops[i]? =some o)(hw:Region.wanted o (yielded ops a.tmps)=true)(w1:World)(hv:(execOp a.eval o).run P w= .ok .skip w1)(hS:i<m→S w1)
  (h:LDK P K ops S m n (listed.setIfInBounds i true) (a.put o.dst undef) w1):LDK P K ops S m (n+1) listed a w:=
 LDK.all i hr (by
  unfold wpOp;simp only [hi,hw,if_true];left;simp only [Oper.wp,hv,Oper.upon];exact ⟨hS,h⟩)
theorem LDK.fin (hr:Region.ready .any ops listed=[])(h:K a w):LDK P K ops S m n listed a w:=by
 cases n with
 |zero=>exact ⟨hr,rfl,h⟩
 |succ n=>exact ⟨fun _=>⟨rfl,h⟩,by rw [hr];simp⟩
end
end Go.Proofs.YthgpdljlehklhaaGreat.zr
