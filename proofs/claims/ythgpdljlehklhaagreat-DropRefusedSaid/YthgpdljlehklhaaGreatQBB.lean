/- Part QBB of the proof that DropRefused answers true whatever its input. No condition. -/
import Derived.Test.YthgpdljlehklhaaGreatQAW
set_option maxRecDepth 100000
namespace Go.Proofs.YthgpdljlehklhaaGreat.wk
open Go Go.Conc zr dr wd drv
set_option linter.unusedVariables false
set_option maxHeartbeats 4000000
section
variable {w w1 w2:World}{o n m:Nat}{cells:Array Value}{z:Nat×Nat}
theorem ldA {p:Nat}{cs:Array Value}(h:w.heap[o]? =some (.cells cells 112 z))(hs:cs.size=19)(hr:Row 19 cells p cs):(Instr.loadAt 112 (.pointer (some ⟨o,p*19,none⟩))).run GP w= .ok (.agg cs) w:=by
 have:=run_loadAt_mid (P:=GP) w o (p*19) 112 cs.toList _ (jy h fun j hj=>by
  have:=hr j (by simpa [hs] using hj)
  simpa [Nat.mul_comm] using this) u112 du (by simpa using i112 hs)
 simpa using this
theorem ldA0 {cs:Array Value}(h:w.heap[o]? =some (.cells cells 112 z))(hs:cs.size=19)(hr:Row 19 cells 0 cs):(Instr.loadAt 112 (pO o)).run GP w= .ok (.agg cs) w:=ldA (p:=0) h hs hr
theorem ldA1 {cs:Array Value}(h:w.heap[o]? =some (.cells cells 112 z))(hs:cs.size=19)(hr:Row 19 cells 1 cs):(Instr.loadAt 112 (.pointer (some ⟨o,19,none⟩))).run GP w= .ok (.agg cs) w:=ldA (p:=1) h hs hr
theorem ldA2 {cs:Array Value}(h:w.heap[o]? =some (.cells cells 112 z))(hs:cs.size=19)(hr:Row 19 cells 2 cs):(Instr.loadAt 112 (.pointer (some ⟨o,38,none⟩))).run GP w= .ok (.agg cs) w:=ldA (p:=2) h hs hr
theorem amz (h:w.heap[o]? =some (.cells cells 112 z))(h0:Row 19 cells 0 (fc 1 0))(h1:Row 19 cells 1 (fc 1 0))(h2:Row 19 cells 2 (fc 1 0)):Calls GP 73 #[sO o 3 3] w fun e w2=>e= .returned (.int .i64 0)∧ah [] w w2:=by
 refine dn 73 24 Tryz.func73 fun a hf hsz hv=> ?_
 obtain ⟨v0,-⟩:=ie hv;clear hv;have K:=ah.refl [] w;refine au ?_;apply ad.loop;refine au ?_;refine iq (ldA0 h rfl h0) ?_;refine au ?_;obtain ⟨w5,r5,b5,K5,-⟩:=ox (w:=World.alloc _ (.cells (fc 0 0) 112)) (v:=fc 1 0) bu rfl rfl (by simp [fc,Value.oneCell'])
 (refine ad.jq rfl rfl rfl bj aj et r5 ?_;refine ay ?_)
 have K5:=(ah.alloc (ah.refl [] _)).trans K5 (T:=[_]) (S:=[]) ae;have h:=K5.on h ae;have K:=K.trans K5 ae;have c5:w5.cell? ⟨_,0,none⟩=some (.int .i64 1):=af b5 (by simp [fc]);refine ad.ak ?_;refine kl [3,5,6,7,8] fun a1 hsz hK=> ?_;obtain ⟨v3,v5,v6,v7,v8,-⟩:=hK
 refine au ?_;refine kl [3,6,7,8] fun a1 hsz hK=> ?_;obtain ⟨v3,v6,v7,v8,-⟩:=hK
 apply ad.inLoop;refine au ?_;refine iq (ldA1 h rfl h1) ?_;refine au ?_;obtain ⟨w6,r5,b5,K5,-⟩:=ox (w:=World.alloc _ (.cells (fc 0 0) 112)) (v:=fc 1 0) bu rfl rfl (by simp [fc,Value.oneCell'])
 (refine ad.jq rfl rfl rfl bj aj et r5 ?_;refine ay ?_)
 have K5:=(ah.alloc (ah.refl [] _)).trans K5 (T:=[_]) (S:=[]) ae;have h:=K5.on h ae;have K:=K.trans K5 ae;have c5:w6.cell? ⟨_,0,none⟩=some (.int .i64 1):=af b5 (by simp [fc]);refine ad.ak ?_;refine kl [3,5,6,7,8] fun a1 hsz hK=> ?_;obtain ⟨v3,v5,v6,v7,v8,-⟩:=hK
 refine au ?_;refine kl [3,6,7,8] fun a1 hsz hK=> ?_;obtain ⟨v3,v6,v7,v8,-⟩:=hK
 apply ad.inLoop;refine au ?_;refine iq (ldA2 h rfl h2) ?_;refine au ?_;obtain ⟨w7,r5,b5,K5,-⟩:=ox (w:=World.alloc _ (.cells (fc 0 0) 112)) (v:=fc 1 0) bu rfl rfl (by simp [fc,Value.oneCell'])
 (refine ad.jq rfl rfl rfl bj aj et r5 ?_;refine ay ?_)
 have K5:=(ah.alloc (ah.refl [] _)).trans K5 (T:=[_]) (S:=[]) ae;have h:=K5.on h ae;have K:=K.trans K5 ae;have c5:w7.cell? ⟨_,0,none⟩=some (.int .i64 1):=af b5 (by simp [fc]);refine ad.ak ?_;refine kl [3,5,6,7,8] fun a1 hsz hK=> ?_;obtain ⟨v3,v5,v6,v7,v8,-⟩:=hK
 refine au ?_;refine kl [3,6,7,8] fun a1 hsz hK=> ?_;obtain ⟨v3,v6,v7,v8,-⟩:=hK
 apply ad.inLoop;refine au ?_;exact ad.dq rfl hf rfl bz aj ⟨rfl,K⟩
end
section
variable {w w1 w2:World}{o n m:Nat}{cells:Array Value}{z:Nat×Nat}
theorem ao6:Calls GP 151 #[.int .u64 0] w fun e w2=>e= .returned (.int .i64 0)∧w2=w:=by
 refine dn 151 25 Tryz.func151 fun a hf hsz hv=> ?_
 obtain ⟨v0,-⟩:=ie hv;clear hv;refine zwk2 ?_;apply ad.val rfl (v:= .int .u8 0) (w1:=w)
 (case ho=>rfl)
 (case hw=>exact dt rfl)
 (case hr=>
  refine ay ?_;dsimp only [execOp];simp+decide only [eval_put,bn,eval_const,size_put,if_true,if_false, *];kernel_rfl)
 refine ay ?_;refine ba ?_;exact ad.dq rfl hf rfl bz aj ⟨rfl,rfl⟩
theorem blen_0:Calls GP 145 #[.int .u64 0] w fun e w2=>e= .returned (.int .i64 0)∧w2=w:=by
 refine dn 145 8 Tryz.func145 fun a hf hsz hv=> ?_
 obtain ⟨v0,-⟩:=ie hv;clear hv;refine au ?_;refine bt 151 ao6 fun v w2 hr=> ?_
 obtain ⟨hv,e⟩:=hr;obtain rfl:=bh hv;have e:=e.symm;subst e;refine au ?_;exact ad.dq rfl hf rfl bz aj ⟨rfl,rfl⟩
theorem ins_0 {f:Value}:Calls GP 162 #[(.slice none 0 0),.int .i64 0,.int .i64 0,f] w fun e w2=>e= .returned (.tuple #[])∧w2=w:=by
 refine dn 162 53 Tryz.func162 fun a hf hsz hv=> ?_
 obtain ⟨v0,v1,v2,v3,-⟩:=za4 hv;clear hv;refine au ?_;apply ad.loop;refine au ?_;exact ad.fin rfl hf bz (results_none rfl _ _ _) ⟨rfl,rfl⟩
theorem pdq_0 {f:Value}:Calls GP 144 #[(.slice none 0 0),.int .i64 0,.int .i64 0,.int .i64 0,f] w fun e w2=>e= .returned (.tuple #[])∧w2=w:=by
 refine dn 144 148 Tryz.func144 fun a hf hsz hv=> ?_
 have v4:=hv 4 _ rfl;simp only [List.getElem_toArray,List.getElem_cons_zero,List.getElem_cons_succ] at v4;obtain ⟨v0,v1,v2,v3,-⟩:=za5 hv;clear hv;refine au ?_;apply ad.loop;refine au ?_;refine bt 162 (ins_0 (f:=f)) fun v w2 hr=> ?_
 obtain ⟨hv,e⟩:=hr;obtain rfl:=bh hv;have e:=e.symm;subst e;refine au ?_;exact ad.ret rfl hf bz (results_none rfl _ _ _) ⟨rfl,rfl⟩
theorem sortf_0 {f:Value}:Calls GP 120 #[(.slice none 0 0),f] w fun e w2=>e= .returned (.tuple #[])∧w2=w:=by
 refine dn 120 14 Tryz.func120 fun a hf hsz hv=> ?_
 obtain ⟨v0,v1,-⟩:=ir hv;clear hv;have e0:IntKind.u64.wrap 0=0:=by decide
 refine au ?_;refine bt 145 blen_0 fun v w2 hr=> ?_
 obtain ⟨hv,e⟩:=hr;obtain rfl:=bh hv;have e:=e.symm;subst e;refine au ?_;refine bt 144 (pdq_0 (f:=f)) fun v w2 hr=> ?_
 obtain ⟨hv,e⟩:=hr;obtain rfl:=bh hv;have e:=e.symm;subst e;refine au ?_;exact ad.fin rfl hf bz (results_none rfl _ _ _) ⟨rfl,rfl⟩
theorem ao7:Calls GP 151 #[.int .u64 1] w fun e w2=>e= .returned (.int .i64 1)∧w2=w:=by
 refine dn 151 25 Tryz.func151 fun a hf hsz hv=> ?_
 obtain ⟨v0,-⟩:=ie hv;clear hv;refine zwk2 ?_;apply ad.val rfl (v:= .int .u8 1) (w1:=w)
 (case ho=>rfl)
 (case hw=>exact dt rfl)
 (case hr=>
  refine ay ?_;dsimp only [execOp];simp+decide only [eval_put,bn,eval_const,size_put,if_true,if_false, *];kernel_rfl)
 refine ay ?_;refine ba ?_;exact ad.dq rfl hf rfl bz aj ⟨rfl,rfl⟩
theorem blen_1:Calls GP 145 #[.int .u64 1] w fun e w2=>e= .returned (.int .i64 1)∧w2=w:=by
 refine dn 145 8 Tryz.func145 fun a hf hsz hv=> ?_
 obtain ⟨v0,-⟩:=ie hv;clear hv;refine au ?_;refine bt 151 ao7 fun v w2 hr=> ?_
 obtain ⟨hv,e⟩:=hr;obtain rfl:=bh hv;have e:=e.symm;subst e;refine au ?_;exact ad.dq rfl hf rfl bz aj ⟨rfl,rfl⟩
theorem ins_1 {p:Addr}{c:Nat}{f:Value}:Calls GP 162 #[(.slice (some p) 1 c),.int .i64 0,.int .i64 1,f] w fun e w2=>e= .returned (.tuple #[])∧w2=w:=by
 refine dn 162 53 Tryz.func162 fun a hf hsz hv=> ?_
 obtain ⟨v0,v1,v2,v3,-⟩:=za4 hv;clear hv;refine au ?_;apply ad.loop;refine au ?_;exact ad.fin rfl hf bz (results_none rfl _ _ _) ⟨rfl,rfl⟩
theorem pdq_1 {p:Addr}{c:Nat}{f:Value}:Calls GP 144 #[(.slice (some p) 1 c),.int .i64 0,.int .i64 1,.int .i64 1,f] w fun e w2=>e= .returned (.tuple #[])∧w2=w:=by
 refine dn 144 148 Tryz.func144 fun a hf hsz hv=> ?_
 have v4:=hv 4 _ rfl;simp only [List.getElem_toArray,List.getElem_cons_zero,List.getElem_cons_succ] at v4;obtain ⟨v0,v1,v2,v3,-⟩:=za5 hv;clear hv;refine au ?_;apply ad.loop;refine au ?_;refine bt 162 (ins_1 (f:=f) (p:=p) (c:=c)) fun v w2 hr=> ?_
 obtain ⟨hv,e⟩:=hr;obtain rfl:=bh hv;have e:=e.symm;subst e;refine au ?_;exact ad.ret rfl hf bz (results_none rfl _ _ _) ⟨rfl,rfl⟩
theorem sortf_1 {p:Addr}{c:Nat}{f:Value}:Calls GP 120 #[(.slice (some p) 1 c),f] w fun e w2=>e= .returned (.tuple #[])∧w2=w:=by
 refine dn 120 14 Tryz.func120 fun a hf hsz hv=> ?_
 obtain ⟨v0,v1,-⟩:=ir hv;clear hv;have e0:IntKind.u64.wrap 1=1:=by decide
 refine au ?_;refine bt 145 blen_1 fun v w2 hr=> ?_
 obtain ⟨hv,e⟩:=hr;obtain rfl:=bh hv;have e:=e.symm;subst e;refine au ?_;refine bt 144 (pdq_1 (f:=f) (p:=p) (c:=c)) fun v w2 hr=> ?_
 obtain ⟨hv,e⟩:=hr;obtain rfl:=bh hv;have e:=e.symm;subst e;refine au ?_;exact ad.fin rfl hf bz (results_none rfl _ _ _) ⟨rfl,rfl⟩
end
abbrev wrK:Value:= .agg #[.int .i64 1,.int .i64 1,.int .i64 5]
section
variable {w w1 w2:World}{b m n c k o:Nat}{v:Value}{xs news:List Value}{a:Addr}{cs vs:Array Value}{e:TypeId}{z:Nat×Nat}
theorem aeg (w:World):(underlying 240).run GP w= .ok (.map 242 45) w:=by kernel_rfl
theorem zero45 (w:World):(zeroValue 45).run GP w= .ok (.slice none 0 0) w:=by kernel_rfl
theorem chkK (e:Bool)(w:World):(Instr.checkKey e 10000 242 wrK).run GP w= .ok () w:=by
 cases e <;> kernel_rfl
theorem fndK0 (w:World):(Instr.findKey 242 wrK []).run GP w= .ok none w:=by kernel_rfl
theorem fndK1 (v:Value)(k:Nat)(w:World):(Instr.findKey 242 wrK [⟨wrK,v,k⟩]).run GP w= .ok (some (0,v)) w:=by kernel_rfl
theorem staysK (w:World):(Instr.keyThatStays wrK wrK).run GP w= .ok wrK w:=by kernel_rfl
theorem look0 (h:w.heap[m]? =some (.map #[] k)):(Instr.lookup 240 (.map (some m)) wrK false).run GP w= .ok (.slice none 0 0) w:=by
 unfold Instr.lookup;rw [Sem.run_bind,aeg];simp only [Result.andThen_ok];rw [Sem.run_bind,get_map h];simp only [Result.andThen_ok,pure_bind];rw [Sem.run_bind,chkK];simp only [Result.andThen_ok];rw [Sem.run_bind,fndK0];simp only [Result.andThen_ok];rw [Sem.run_bind,zero45];rfl
theorem acx {k0:Nat}(h:w.heap[m]? =some (.map #[⟨wrK,v,k0⟩] k)):(Instr.lookup 240 (.map (some m)) wrK false).run GP w= .ok v w:=by
 unfold Instr.lookup;rw [Sem.run_bind,aeg];simp only [Result.andThen_ok];rw [Sem.run_bind,get_map h];simp only [Result.andThen_ok,pure_bind];rw [Sem.run_bind,chkK];simp only [Result.andThen_ok];rw [Sem.run_bind,fndK1];rfl
theorem ment0 (h:w.heap[m]? =some (.map #[] k)):(Instr.mapEntry 240 (.map (some m)) wrK).run GP w= .ok (.tuple #[.slice none 0 0,.int .i64 k]) (putObj w m (.map #[⟨wrK,.slice none 0 0,k⟩] (k+1))):=by
 unfold Instr.mapEntry;rw [Sem.run_bind,aeg];simp only [Result.andThen_ok];rw [Sem.run_bind,get_map h];simp only [Result.andThen_ok];rw [Sem.run_bind,chkK];simp only [Result.andThen_ok];rw [Sem.run_bind,fndK0];simp only [Result.andThen_ok];rw [Sem.run_bind,zero45];simp only [Result.andThen_ok];rw [Sem.run_bind,zi h];rfl
theorem agx {k0:Nat}(h:w.heap[m]? =some (.map #[⟨wrK,v,k0⟩] k)):(Instr.mapEntry 240 (.map (some m)) wrK).run GP w= .ok (.tuple #[v,.int .i64 k0]) (putObj w m (.map #[⟨wrK,v,k0⟩] k)):=by
 unfold Instr.mapEntry;rw [Sem.run_bind,aeg];simp only [Result.andThen_ok];rw [Sem.run_bind,get_map h];simp only [Result.andThen_ok];rw [Sem.run_bind,chkK];simp only [Result.andThen_ok];rw [Sem.run_bind,fndK1];simp only [Result.andThen_ok];rw [Sem.run_bind];show ((Instr.keyThatStays wrK wrK).run GP w).andThen _=_;rw [staysK];simp only [Result.andThen_ok];rw [Sem.run_bind,zi h];rfl
theorem esto {v2:Value}{k0:Nat}(h:w.heap[m]? =some (.map #[⟨wrK,v,k0⟩] k)):(Instr.entryStore 240 (.map (some m)) (.int .i64 k0) v2).run GP w= .ok () (putObj w m (.map #[⟨wrK,v2,k0⟩] k)):=by
 unfold Instr.entryStore;simp only [];rw [Sem.run_bind,get_map h];simp only [Result.andThen_ok];rw [Sem.run_bind,show (asInt (.int .i64 k0)).run GP w= .ok (k0:Int) w from rfl];simp only [Result.andThen_ok];have:(#[⟨wrK,v,k0⟩]:Array MapEntry).findIdx? (fun e=>(e.born:Int)==(k0:Int))=some 0:=by simp
 rw [this];exact zi h _
theorem app45 (h:w.ownsRow 0 3 1 v n xs)(hl:news.length=m)(hnews:∀j u,news[j]? =some u→w.cell? (a.add j)=some u)(h1:∀u∈news,u.oneCell'=true)(hb:n+m<1000000000):
  ∃v' w',(Builtin.append_ #[45,45] 45 #[v,.slice (some a) m c]).run GP w= .ok v' w'∧w'.ownsRow 0 3 1 v' (n+m) (xs++news)∧ah (blk v) w w'∧(blk v'=blk v∨blk v'=[w.heap.size]):=by
 obtain ⟨v',w',r1,r2,r3,r4,r5⟩:=run_append_own_at (P:=GP) w 0 45 45 3 ((Tryz.prog.info? 3).getD default) (.int .i64 0) 1 8 (by rw [fb];kernel_rfl) (by rw [ek];kernel_rfl) du du du rfl ai v n xs h a m c news ai hnews h1 (by simp only [maxLen];omega) ai (Nat.zero_le _);exact ⟨v',w',r1,r2,ln r3,r5.imp (fun h=>by simp [blk,h]) fun h=>by simp [blk,h]⟩
theorem app180 (h:w.ownsRow 0 183 4 v n xs)(hl:news.length=m*4)(hnews:∀j u,news[j]? =some u→w.cell? (a.add j)=some u)(h1:∀u∈news,u.oneCell'=true)(hb:n+m<1000000000):
  ∃v' w',(Builtin.append_ #[180,180] 180 #[v,.slice (some a) m c]).run GP w= .ok v' w'∧w'.ownsRow 0 183 4 v' (n+m) (xs++news)∧ah (blk v) w w'∧(blk v'=blk v∨blk v'=[w.heap.size]):=by
 obtain ⟨v',w',r1,r2,r3,r4,r5⟩:=run_append_own_at (P:=GP) w 0 180 180 183 ((Tryz.prog.info? 183).getD default) (.agg #[.int .i64 0,.int .i64 0,.int .i64 0,.slice none 0 0]) 4 48 (by rw [fb];kernel_rfl) (by rw [ek];kernel_rfl) du du du rfl ai v n xs h a m c news hl hnews h1 (by simp only [maxLen];omega) ai (Nat.zero_le _);exact ⟨v',w',r1,r2,ln r3,r5.imp (fun h=>by simp [blk,h]) fun h=>by simp [blk,h]⟩
theorem u242:GP.underlying 242=some (Tryz.prog.underlying 242).get! :=by kernel_rfl
theorem i242 (h:cs.size=3):(GP.info? 242).map (·.size)=some cs.size:=by rw [ek,h];kernel_rfl
theorem lvR242 (h:w.heap[b]? =some (.cells cs e z))(hs:cs.size=3):(loadVar 242 ⟨b,0,none⟩).run GP w= .ok (.agg cs) w:=ks u242 du (i242 hs) h
theorem st242 (h:w.heap[b]? =some (.cells cs e (0,0)))(hs:cs.size=3)(hv:vs.size=3)(h1:vs.all (·.oneCell')=true):∃w2,(Instr.storeAt 242 (pO b) (.agg vs)).run GP w= .ok () w2∧w2.heap[b]? =some (.cells vs e (0,0))∧ah [b] w w2∧w2.heap.size=w.heap.size:=kg (i242 hv) h1 ai h
theorem u60:GP.underlying 60=some (Tryz.prog.underlying 60).get! :=by kernel_rfl
theorem i60 (h:cs.size=5):(GP.info? 60).map (·.size)=some cs.size:=by rw [ek,h];kernel_rfl
theorem ac2 (h:w.heap[b]? =some (.cells cs e z))(hs:cs.size=5):(loadVar 60 ⟨b,0,none⟩).run GP w= .ok (.agg cs) w:=ks u60 du (i60 hs) h
theorem st60 (h:w.heap[b]? =some (.cells cs e (0,0)))(hs:cs.size=5)(hv:vs.size=5)(h1:vs.all (·.oneCell')=true):∃w2,(Instr.storeAt 60 (pO b) (.agg vs)).run GP w= .ok () w2∧w2.heap[b]? =some (.cells vs e (0,0))∧ah [b] w w2∧w2.heap.size=w.heap.size:=kg (i60 hv) h1 ai h
theorem u183:GP.underlying 183=some (Tryz.prog.underlying 183).get! :=by kernel_rfl
theorem i183 (h:cs.size=4):(GP.info? 183).map (·.size)=some cs.size:=by rw [ek,h];kernel_rfl
theorem st183 (h:w.heap[b]? =some (.cells cs e (0,0)))(hs:cs.size=4)(hv:vs.size=4)(h1:vs.all (·.oneCell')=true):∃w2,(Instr.storeAt 183 (pO b) (.agg vs)).run GP w= .ok () w2∧w2.heap[b]? =some (.cells vs e (0,0))∧ah [b] w w2∧w2.heap.size=w.heap.size:=kg (i183 hv) h1 ai h
end
section
variable {w w1 w2:World}{b m n c k o idx:Nat}{v:Value}{cells:Array Value}{z:Nat×Nat}
theorem of_no:Calls GP 119 #[.agg (fc 1 0)] w fun e w2=>e= .returned (.tuple #[.agg #[.int .i64 0,.int .i64 0,.int .i64 0],.bool false])∧ah [] w w2:=by
 refine dn 119 16 Tryz.func119 fun a hf hsz hv=> ?_
 obtain ⟨v0,-⟩:=ie hv;clear hv;simp only [fc] at v0;refine au ?_;refine ad.ib (fun u=>u.heap[w.heap.size]? =some (.cells (fc 1 0) 112 (0,0))∧u.heap[w.heap.size+1]? =some (.cells #[.int .i64 0,.int .i64 0,.int .i64 0] 242 (0,0))∧ah [] w u) ⟨bw bu,fy ae,ei⟩ fun u ⟨h1,h2,K⟩=> ?_
 have c0:u.cell? ⟨w.heap.size,0,none⟩=some (.int .i64 1):=af h1 (by simp [fc]);have c13:u.cell? ⟨w.heap.size,13,none⟩=some (.int .i64 0):=af h1 (by simp [fc]);have c15:u.cell? ⟨w.heap.size,15,none⟩=some (.int .i64 0):=af h1 (by simp [fc]);have c16:u.cell? ⟨w.heap.size,16,none⟩=some (.int .i64 0):=af h1 (by simp [fc]);refine kl [1,2,3] fun a1 hsz hK=> ?_;obtain ⟨v1,v2,v3,-⟩:=hK
 apply ad.kj 14 (fun _ x=>x.cell? ⟨w.heap.size,0,none⟩=some (.int .i64 1)∧x.cell? ⟨w.heap.size,13,none⟩=some (.int .i64 0)∧x.cell? ⟨w.heap.size,15,none⟩=some (.int .i64 0)∧x.cell? ⟨w.heap.size,16,none⟩=some (.int .i64 0)) eo;intro dd;have hS0:(World.at u dd).cell? ⟨w.heap.size,0,none⟩=some (.int .i64 1)∧(World.at u dd).cell? ⟨w.heap.size,13,none⟩=some (.int .i64 0)∧(World.at u dd).cell? ⟨w.heap.size,15,none⟩=some (.int .i64 0)∧(World.at u dd).cell? ⟨w.heap.size,16,none⟩=some (.int .i64 0):=⟨c0,c13,c15,c16⟩;refine cg 0 ?_;refine cg 1 ?_;refine cg 2 ?_;refine cg 3 ?_;refine cg 4 ?_;refine cg 5 ?_;refine cg 6 ?_;refine cg 7 ?_;refine cg 8 ?_;refine cg 9 ?_;refine cg 10 ?_;refine cg 11 ?_;obtain ⟨w5,r5,h2,K5,-⟩:=st242 (w:=u.at dd) (vs:=#[.int .i64 0,.int .i64 0,.int .i64 0]) h2 rfl rfl (by simp [Value.oneCell']);have hl1:=bf h1;have K5':ah [w.heap.size+1] u w5:=⟨K5.size,K5.ff,K5.os,K5.out⟩;have hS1:w5.cell? ⟨w.heap.size,0,none⟩=some (.int .i64 1)∧w5.cell? ⟨w.heap.size,13,none⟩=some (.int .i64 0)∧w5.cell? ⟨w.heap.size,15,none⟩=some (.int .i64 0)∧w5.cell? ⟨w.heap.size,16,none⟩=some (.int .i64 0):=⟨(K5'.cell hl1 ae).trans c0,(K5'.cell hl1 ae).trans c13,(K5'.cell hl1 ae).trans c15,(K5'.cell hl1 ae).trans c16⟩;apply fa.vf 12 a9 rfl
 case hw=>exact dt rfl
 case hv=>
  try refine ay ?_
  dsimp only [execOp,resolve];simp+decide only [eval_put,bn,eval_const,size_put,if_true,if_false, *];rw [Sem.run_bind,r5];rfl
 case hS=>exact fun _=>hS1
 refine ay ?_;refine zmo 13 ?_ (hS:=by exact (fun _=>hS1));refine ay ?_;apply fa.fin a9;refine au ?_
 (apply ad.abv rfl hf rfl (hl:=(lvR242 h2 rfl));(case hd=>simp [hsz]);(case hs=>exact et);(case ht=>exact et))
 exact ⟨rfl,K.trans K5' (fun b hb=>by simp at hb;exact .inr ai)⟩
theorem of_ok:Calls GP 119 #[.agg (snS idx v)] w fun e w2=>e= .returned (.tuple #[.agg #[.int .i64 1,.int .i64 1,.int .i64 5],.bool true])∧ah [] w w2:=by
 refine dn 119 16 Tryz.func119 fun a hf hsz hv=> ?_
 obtain ⟨v0,-⟩:=ie hv;clear hv;simp only [snS] at v0;refine au ?_;refine ad.ib (fun u=>u.heap[w.heap.size]? =some (.cells (snS idx v) 112 (0,0))∧u.heap[w.heap.size+1]? =some (.cells #[.int .i64 0,.int .i64 0,.int .i64 0] 242 (0,0))∧ah [] w u) ⟨bw bu,fy ae,ei⟩ fun u ⟨h1,h2,K⟩=> ?_
 have c0:u.cell? ⟨w.heap.size,0,none⟩=some (.int .i64 2):=af h1 (by simp [snS]);have c13:u.cell? ⟨w.heap.size,13,none⟩=some (.int .i64 5):=af h1 (by simp [snS]);have c15:u.cell? ⟨w.heap.size,15,none⟩=some (.int .i64 1):=af h1 (by simp [snS]);have c16:u.cell? ⟨w.heap.size,16,none⟩=some (.int .i64 1):=af h1 (by simp [snS]);refine kl [1,2,3] fun a1 hsz hK=> ?_;obtain ⟨v1,v2,v3,-⟩:=hK
 apply ad.kj 14 (fun _ x=>x.cell? ⟨w.heap.size,0,none⟩=some (.int .i64 2)∧x.cell? ⟨w.heap.size,13,none⟩=some (.int .i64 5)∧x.cell? ⟨w.heap.size,15,none⟩=some (.int .i64 1)∧x.cell? ⟨w.heap.size,16,none⟩=some (.int .i64 1)) eo;intro dd;have hS0:(World.at u dd).cell? ⟨w.heap.size,0,none⟩=some (.int .i64 2)∧(World.at u dd).cell? ⟨w.heap.size,13,none⟩=some (.int .i64 5)∧(World.at u dd).cell? ⟨w.heap.size,15,none⟩=some (.int .i64 1)∧(World.at u dd).cell? ⟨w.heap.size,16,none⟩=some (.int .i64 1):=⟨c0,c13,c15,c16⟩;refine cg 0 ?_;refine cg 1 ?_;refine cg 2 ?_;refine cg 3 ?_;refine cg 4 ?_;refine cg 5 ?_;refine cg 6 ?_;refine cg 7 ?_;refine cg 8 ?_;refine cg 9 ?_;refine cg 10 ?_;refine cg 11 ?_;obtain ⟨w5,r5,h2,K5,-⟩:=st242 (w:=u.at dd) (vs:=#[.int .i64 1,.int .i64 1,.int .i64 5]) h2 rfl rfl (by simp [Value.oneCell']);have hl1:=bf h1;have K5':ah [w.heap.size+1] u w5:=⟨K5.size,K5.ff,K5.os,K5.out⟩;have hS1:w5.cell? ⟨w.heap.size,0,none⟩=some (.int .i64 2)∧w5.cell? ⟨w.heap.size,13,none⟩=some (.int .i64 5)∧w5.cell? ⟨w.heap.size,15,none⟩=some (.int .i64 1)∧w5.cell? ⟨w.heap.size,16,none⟩=some (.int .i64 1):=⟨(K5'.cell hl1 ae).trans c0,(K5'.cell hl1 ae).trans c13,(K5'.cell hl1 ae).trans c15,(K5'.cell hl1 ae).trans c16⟩;apply fa.vf 12 a9 rfl
 case hw=>exact dt rfl
 case hv=>
  try refine ay ?_
  dsimp only [execOp,resolve];simp+decide only [eval_put,bn,eval_const,size_put,if_true,if_false, *];rw [Sem.run_bind,r5];rfl
 case hS=>exact fun _=>hS1
 refine ay ?_;refine zmo 13 ?_ (hS:=by exact (fun _=>hS1));refine ay ?_;apply fa.fin a9;refine au ?_
 (apply ad.abv rfl hf rfl (hl:=(lvR242 h2 rfl));(case hd=>simp [hsz]);(case hs=>exact et);(case ht=>exact et))
 exact ⟨rfl,K.trans K5' (fun b hb=>by simp at hb;exact .inr ai)⟩
end
section
variable {w w1 w2:World}{b m n c k o idx:Nat}{v:Value}{cells:Array Value}{z:Nat×Nat}
theorem anf (h:w.heap[o]? =some (.cells cells 112 z))(h0:Row 19 cells 0 (fc 1 0))(h1:Row 19 cells 1 (fc 1 0))(h2:Row 19 cells 2 (fc 1 0)):Calls GP 72 #[sO o 3 3] w fun e w2=>e= .returned (.slice none 0 0)∧ah [] w w2:=by
 refine dn 72 73 Tryz.func72 fun a hf hsz hv=> ?_
 obtain ⟨v0,-⟩:=ie hv;clear hv;refine au ?_;refine ad.ib (fun u=>ah [] w u) (ei) fun u K=> ?_
 have h:=K.on h ae;apply ad.loop;refine au ?_;refine iq (ldA0 h rfl h0) ?_;refine au ?_;obtain ⟨w5,r5,b5,K5,-⟩:=ox (w:=World.alloc _ (.cells (fc 0 0) 112)) (v:=fc 1 0) bu rfl rfl (by simp [fc,Value.oneCell'])
 (refine ad.jq rfl rfl rfl bj aj et r5 ?_;refine ay ?_)
 have K5:=(ah.alloc (ah.refl [] _)).trans K5 (T:=[_]) (S:=[]) ae;have h:=K5.on h ae;have K:=K.trans K5 ae;refine ad.ak ?_;refine kl [3,4,6,11,12,13] fun a1 hsz hK=> ?_;obtain ⟨v3,v4,v6,v11,v12,v13,-⟩:=hK
 refine au ?_;refine iq (xo b5 rfl) ?_;refine bt 119 of_no fun v w2 hr=> ?_
 obtain ⟨hv,K6⟩:=hr;obtain rfl:=bh hv;have h:=K6.on h ae;have K:=K.trans K6 ae;refine au ?_;refine zlp ?_;have K6:=(ah.alloc (o:= .cells #[.int .i64 0,.int .i64 0,.int .i64 0] 242) (ah.refl [] w2));have h:=K6.on h ae;have K:=K.trans K6 ae;generalize w2.alloc (.cells #[.int .i64 0,.int .i64 0,.int .i64 0] 242)=u1 at*;refine au ?_;refine kl [3,4,11,12,13] fun a1 hsz hK=> ?_;obtain ⟨v3,v4,v11,v12,v13,-⟩:=hK
 apply ad.inLoop;refine au ?_;refine iq (ldA1 h rfl h1) ?_;refine au ?_;obtain ⟨w5,r5,b5,K5,-⟩:=ox (w:=World.alloc _ (.cells (fc 0 0) 112)) (v:=fc 1 0) bu rfl rfl (by simp [fc,Value.oneCell'])
 (refine ad.jq rfl rfl rfl bj aj et r5 ?_;refine ay ?_)
 have K5:=(ah.alloc (ah.refl [] _)).trans K5 (T:=[_]) (S:=[]) ae;have h:=K5.on h ae;have K:=K.trans K5 ae;refine ad.ak ?_;refine kl [3,4,6,11,12,13] fun a1 hsz hK=> ?_;obtain ⟨v3,v4,v6,v11,v12,v13,-⟩:=hK
 refine au ?_;refine iq (xo b5 rfl) ?_;refine bt 119 of_no fun v w2 hr=> ?_
 obtain ⟨hv,K6⟩:=hr;obtain rfl:=bh hv;have h:=K6.on h ae;have K:=K.trans K6 ae;refine au ?_;refine zlp ?_;have K6:=(ah.alloc (o:= .cells #[.int .i64 0,.int .i64 0,.int .i64 0] 242) (ah.refl [] w2));have h:=K6.on h ae;have K:=K.trans K6 ae;generalize w2.alloc (.cells #[.int .i64 0,.int .i64 0,.int .i64 0] 242)=u2 at*;refine au ?_;refine kl [3,4,11,12,13] fun a1 hsz hK=> ?_;obtain ⟨v3,v4,v11,v12,v13,-⟩:=hK
 apply ad.inLoop;refine au ?_;refine iq (ldA2 h rfl h2) ?_;refine au ?_;obtain ⟨w5,r5,b5,K5,-⟩:=ox (w:=World.alloc _ (.cells (fc 0 0) 112)) (v:=fc 1 0) bu rfl rfl (by simp [fc,Value.oneCell'])
 (refine ad.jq rfl rfl rfl bj aj et r5 ?_;refine ay ?_)
 have K5:=(ah.alloc (ah.refl [] _)).trans K5 (T:=[_]) (S:=[]) ae;have h:=K5.on h ae;have K:=K.trans K5 ae;refine ad.ak ?_;refine kl [3,4,6,11,12,13] fun a1 hsz hK=> ?_;obtain ⟨v3,v4,v6,v11,v12,v13,-⟩:=hK
 refine au ?_;refine iq (xo b5 rfl) ?_;refine bt 119 of_no fun v w2 hr=> ?_
 obtain ⟨hv,K6⟩:=hr;obtain rfl:=bh hv;have h:=K6.on h ae;have K:=K.trans K6 ae;refine au ?_;refine zlp ?_;have K6:=(ah.alloc (o:= .cells #[.int .i64 0,.int .i64 0,.int .i64 0] 242) (ah.refl [] w2));have h:=K6.on h ae;have K:=K.trans K6 ae;generalize w2.alloc (.cells #[.int .i64 0,.int .i64 0,.int .i64 0] 242)=u3 at*;refine au ?_;refine kl [3,4,11,12,13] fun a1 hsz hK=> ?_;obtain ⟨v3,v4,v11,v12,v13,-⟩:=hK
 apply ad.inLoop;refine au ?_;refine bt 120 (sortf_0 (f:= .func (.func 121) #[] #[])) fun v w2 hr=> ?_
 obtain ⟨hv,e⟩:=hr;obtain rfl:=bh hv;have e:=e.symm;subst e;refine au ?_;apply ad.loop;refine au ?_;exact ad.dq rfl hf rfl bz aj ⟨rfl,K⟩
theorem ahj (h:w.heap[o]? =some (.cells cells 112 z))(h0:Row 19 cells 0 (fc 1 0))(h1:Row 19 cells 1 (fc 1 0))(h2:Row 19 cells 2 (fc 1 0)):Calls GP 41 #[.agg shp,sO o 3 3] w fun e w2=>e= .returned (.agg #[.int .i64 2,.int .i64 0,.int .i64 0,.int .i64 0,.slice none 0 0])∧ah [] w w2:=by
 refine dn 41 41 Tryz.func41 fun a hf hsz hv=> ?_
 obtain ⟨v0,v1,-⟩:=ir hv;clear hv;have v0':a.eval (.tmp 0)= .agg #[.int .i64 2,.int .i64 1,.int .i64 16]:=v0;clear v0;refine au ?_;refine bt 71 aht fun v w2 hr=> ?_
 obtain ⟨hv,K1⟩:=hr;obtain rfl:=bh hv;have hb:=K1.on (o:= .cells shp 36) (b:=w.heap.size) (bw bu) ae;have h4:=K1.on (o:= .cells #[.int .i64 0,.int .i64 0,.int .i64 0,.int .i64 0,.slice none 0 0] 60) (b:=w.heap.size+1) (fy ae) ae;have K:ah [] w w2:=ah.trans (ei) K1 ae;have h:=K.on h ae;clear K1;refine au ?_;refine bt 72 (anf h h0 h1 h2) fun v w2 hr=> ?_
 obtain ⟨hv,K1⟩:=hr;obtain rfl:=bh hv;have hb:=K1.on hb ae;have h4:=K1.on h4 ae;have h:=K1.on h ae;have K:=K.trans K1 ae;clear K1;refine au ?_;apply ad.loop;refine au ?_;have c1:w2.cell? ⟨w.heap.size,1,none⟩=some (.int .i64 1):=af hb (by simp [shp]);refine kl [1,2,4] fun a1 hsz hK=> ?_;obtain ⟨v1,v2,v4,-⟩:=hK
 apply ad.kj 5 (fun _ x=>x.cell? ⟨w.heap.size,1,none⟩=some (.int .i64 1)) eo;intro dd;have hS0:(World.at w2 dd).cell? ⟨w.heap.size,1,none⟩=some (.int .i64 1):=c1;refine cg 0 ?_;refine cg 2 ?_;refine cg 3 ?_
 (apply fa.gw 1 (f:=73) a9 rfl;(case hw=>exact bj);(case hc=>exact (amz (w:=w2.at dd) h h0 h1 h2));(case hv=>rw [cw (f:=73) rfl];refine zam ?_;exact ey 73 a9 _ _);(case hret=>exact fun e w2 h=>⟨_,h.1⟩))
 intro v w3 ⟨hv,K1⟩;obtain rfl:=bh hv;have K1:ah [] w2 w3:=⟨K1.size,K1.ff,K1.os,K1.out⟩;refine ⟨fun _=>(K1.cell (bf hb) ae).trans c1,?_⟩;refine ay ?_;refine zmo 4 ?_ (hS:=by exact (fun _=>(K1.cell (bf hb) ae).trans c1));refine ay ?_;apply fa.fin a9;have h4:=K1.on h4 ae;have K:=K.trans K1 ae;refine au ?_;obtain ⟨w5,r5,h4,K5,-⟩:=st60 (vs:=#[.int .i64 2,.int .i64 0,.int .i64 0,.int .i64 0,.slice none 0 0]) h4 rfl rfl (by simp [Value.oneCell'])
 (refine ad.jq rfl rfl rfl bj aj et r5 ?_;refine ay ?_)
 refine au ?_
 (apply ad.aaw rfl hf rfl (hl:=(ac2 h4 rfl));(case hd=>simp [hsz]);(case hs=>exact et))
 exact ⟨rfl,K.trans K5 (fun b hb=>by simp at hb;exact .inr ai)⟩
end
end Go.Proofs.YthgpdljlehklhaaGreat.wk
