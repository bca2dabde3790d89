/- Part QAX of the proof that DropRefused answers true whatever its input. No condition. -/
import Derived.Test.YthgpdljlehklhaaGreatQAJ
import Derived.Test.YthgpdljlehklhaaGreatQAW
import Derived.Test.YthgpdljlehklhaaGreatQAT
set_option maxRecDepth 100000
namespace Go.Proofs.YthgpdljlehklhaaGreat.rn
open Go Go.Conc zr dr wd drv wk la
set_option linter.unusedVariables false
structure Fl [Bg] (w:World)(bd:Nat)(g d:Nat→Nat)(ft:Nat→List Nat)(fr:List Nat):Prop where
 list:∃c e z,w.heap[bd]? =some (.cells c e z)∧∀i,i<3→c[i]? =some (dk (g i))
 bdf:bd∈fr
 gm:∀i,i<3→g i∈ft i∧d i∈ft i
 lt:∀i,i<3→∀b∈ft i,b<w.heap.size
 ap:∀i j,i<3→j<3→i≠j→∀b∈ft i,b∉ft j
 fz:∀b∈fr,(∃c e z,w.heap[b]? =some (.cells c e z))∧∀i,i<3→b∉ft i
 nz:∀i,i<3→∀b∈ft i,¬zb b
def ow (ft:Nat→List Nat)(j b:Nat):Prop:=j≠0∧j≤3∧b∈ft (j-1)
def fzl (fr:List Nat)(j b:Nat):Prop:=b∈fr
def pl3 (j:Nat):Nat:=j-1
structure Msk (w u:World)(ft fr:List Nat):Prop where
 own:∀b∈ft,u.heap[b]? =w.heap[b]?
 cell:∀a:Addr,a.block∈fr→u.cell? a=w.cell? a
 row:∀b∈fr,∀c e z,w.heap[b]? =some (.cells c e z)→∃z',u.heap[b]? =some (.cells c e z')
 size:w.heap.size+1≤u.heap.size
def Wok (w:World)(g d:Nat):Prop:=∃calls round,Wnd w g (pO d) false false (.slice none 0 0) calls round
section
variable {w w' w2 u:World}{bd cap:Nat}{g d:Nat→Nat}{ft:Nat→List Nat}{fr:List Nat}{fj:FuncId}{first capt:Array Value}{Rj:Nat→Value→World→Prop}
theorem ahf [Bg] (w:World){b:Nat}(hb:b<w.heap.size):(ea.wc w).heap[b]? =w.heap[b]? :=by
 unfold ea.wc World.alloc;rw [Array.getElem?_push_lt hb,Array.getElem?_eq_getElem hb]
theorem wc_size [Bg] (w:World):(ea.wc w).heap.size=w.heap.size+1:=by simp [ea.wc]
theorem Fl.yw [Bg] (H:Fl w bd g d ft fr){b:Nat}(hb:b∈fr):b<w.heap.size:=by
 obtain ⟨⟨c,e,z,h⟩,-⟩:=H.fz b hb;exact bf h
theorem Fl.msk [Bg] (H:Fl w bd g d ft fr){i:Nat}(hi:i<3)(τ:Tap)(dd:Nat):Msk w (tp (mask (ow ft (i+1)) (fzl fr (i+1)) (ea.wc w)) τ dd) (ft i) fr:=by
 have hs:(mask (ow ft (i+1)) (fzl fr (i+1)) (ea.wc w)).heap.size=w.heap.size+1:=by rw [mi,wc_size]
 refine ⟨fun b hb=> ?_,fun a ha=> ?_,fun b hb c e z h=> ?_,by show _≤(mask (ow ft (i+1)) (fzl fr (i+1)) (ea.wc w)).heap.size;exact Nat.le_of_eq hs.symm⟩
 ·show (mask (ow ft (i+1)) (fzl fr (i+1)) (ea.wc w)).heap[b]? =_;have h1:ow ft (i+1) b:=⟨by omega,by omega,hb⟩;have h2:¬fzl fr (i+1) b:=fun hf=>(H.fz b hf).2 i hi hb
  rw [adu h1 h2,ahf w (H.lt i hi b hb)]
 ·show (mask (ow ft (i+1)) (fzl fr (i+1)) (ea.wc w)).cell? a=_;have h2:fzl fr (i+1) a.block:=ha;rw [amq (.inr h2)];unfold World.cell?;rw [ahf w (H.yw ha)]
 ·exact ⟨_,ah4 (w:=ea.wc w) hb (by rw [ahf w (H.yw hb)];exact h)⟩
theorem ajt [Bg]:∀b,¬ow ft 0 b:=fun b h=>h.1 rfl
theorem rin_a [Bg] (H:Fl w bd g d ft fr)(hjf:∀π',aw w.heap.size one π'→al π' (.func (.func fj) first capt)= .func (.func fj) first capt)
  (hj:∀i,i<3→∀u,Msk w u (ft i) fr→Calls GP fj (first++ #[.int .i64 i,dk (g i)]++capt) u (Ret (Rj (i+1))))
  (hbl:∀j v w τ d,Rj j v w→Rj j v (tp w τ d))(hok:∀j v w,Rj j v w→ea.okE v):ea.RIn w 3 bd 0 (fun i=>dk (g i)) (fun i=>i) pl3 3 (ow ft) (fzl fr) fj first capt Rj:=by
 obtain ⟨c,e,z,hc,hci⟩:=H.list;refine ⟨by omega,by omega,fun i hi=> ?_,H.bdf,ajt,fun j hj b hb=> ?_,fun j hj b hb=>H.nz (j-1) (by have:=hb.1;omega) b hb.2.2,fun j hj b hb=>(H.fz b hb).1,fun j k hj hk hne b hb=>⟨fun hk2=> ?_,fun hf=> ?_⟩,fun j h0 hj π' ha=> ?_,hjf,fun j h0 hj2 τ dd=> ?_,hbl,hok,rfl,rfl,fun i=>Nat.le_refl _,fun i hi=>by omega,fun i hi=> .inr ⟨⟨_,_,rfl⟩,rfl,by simp [pl3]⟩,fun j h0 hj=>by unfold pl3;omega,fun j j' h0 hj h0' hj' h=>by unfold pl3 at h;omega⟩
 ·rw [Nat.zero_add];simp only [World.cell?,hc];exact hci i hi
 ·obtain ⟨h1,h2,h3⟩:=hb;exact ⟨H.lt (j-1) ai b h3,fun hf=>(H.fz b hf).2 (j-1) ai h3⟩
 ·obtain ⟨h1,h2,h3⟩:=hb;obtain ⟨h4,h5,h6⟩:=hk2;exact H.ap (j-1) (k-1) ai ai ai b h3 h6
 ·obtain ⟨h1,h2,h3⟩:=hb;exact (H.fz b hf).2 (j-1) ai h3
 ·have hlt:=H.lt (pl3 j) (by unfold pl3;omega) _ (H.gm (pl3 j) (by unfold pl3;omega)).1;show Value.iface 73 (.pointer (some ⟨π'.to (g (pl3 j)),0,none⟩))=_;rw [show π'.to (g (pl3 j))=g (pl3 j) from ha _ hlt];rfl
 ·obtain ⟨i,rfl⟩:∃i,j=i+1:=⟨j-1,by omega⟩;exact hj i ai _ (H.msk ai τ dd)
def Rst (w':World)(g d:Nat→Nat)(u:World):Prop:=ah [g 0,g 1,g 2] w' u∧∀i,i<3→Wok u (g i) (d i)
theorem rst_drv [Bg] {c:Array Value}{e:TypeId}{z:Nat×Nat}(hb:w'.heap[bd]? =some (.cells c e z))(hci:∀i,i<3→c[i]? =some (dk (g i)))(hne:∀i,i<3→g i≠bd)(hgg:∀i j,i<3→j<3→i≠j→g i≠g j):ags (Rst w' g d) (fun i=>dk (g i)) 3 bd 0:=by
 have hm:∀i,i<3→g i∈[g 0,g 1,g 2]:=fun i hi=>by
  rcases i with _|_|_|i <;> first|(simp;done)|omega
 refine ⟨fun w h i hi=> ?_,fun i hi=> .inr ⟨73,_,rfl,⟨27,_,fun w _=>ait _ w,fun w h=> ?_⟩,⟨212,_,fun w _=>ana _ false w,fun w h=> ?_⟩⟩⟩
 ·have h0:=hne 0 ai;have h1:=hne 1 ai;have h2:=hne 2 ai;have hk:=h.1.on hb (by simp;exact ⟨fun x=>h0 x.symm,fun x=>h1 x.symm,fun x=>h2 x.symm⟩);rw [Nat.zero_add];simp only [World.cell?,hk];exact hci i hi
 ·obtain ⟨calls,round,hw⟩:=h.2 i hi;exact (uj hw).mono fun e w2 ⟨h1,h2⟩=>by
   subst h2;exact ⟨h1,h,Nat.le_refl _⟩
 ·obtain ⟨calls,round,hw⟩:=h.2 i hi;refine (ald (off:=false) hw).mono fun e w2 ⟨h1,h2⟩=> ?_
  subst h2;refine ⟨⟨_,h1⟩,⟨(h.1.set (.inl (hm i hi))).set (.inl (hm i hi)),fun j hj=> ?_⟩,by simp⟩
  by_cases e:j=i
  ·subst e;exact ⟨calls,0,ee (ee hw)⟩
  ·obtain ⟨c2,r2,hw2⟩:=h.2 j hj;refine ⟨c2,r2,?_⟩;unfold Wnd at hw2 ⊢;rw [ig (hgg j i hj hi e),ig (hgg j i hj hi e)];exact hw2
theorem ahh [Bg] {c:Array Value}{e:TypeId}{z:Nat×Nat}(hb:w'.heap[bd]? =some (.cells c e z))(hci:∀i,i<3→c[i]? =some (dk (g i)))(hne:∀i,i<3→g i≠bd)(hgg:∀i j,i<3→j<3→i≠j→g i≠g j)(hw:∀i,i<3→Wok w' (g i) (d i))(τ:Tap)(dd:Nat):
  Calls GP 44 #[sO bd 3 cap] (tp w' τ dd) fun e w2=>e= .returned (.tuple #[])∧Rst w' g d w2∧w'.heap.size≤w2.heap.size:=
 alc (Inv:=Rst w' g d) (w:=tp w' τ dd) (rst_drv hb hci hne hgg) ai ⟨(ah.refl _ _).tp τ dd,hw⟩
theorem af2 [Bg]:gz fun e w2=>e= .returned (.tuple #[])∧Rst w' g d w2∧w'.heap.size≤w2.heap.size:=fun e w2 τ dd ⟨h1,h2,h3⟩=>⟨h1,⟨h2.1.tp τ dd,h2.2⟩,h3⟩
theorem afb [Bg] {M:Mem}{N:Nat}{gi di:Nat}(hA:At GP M.Z M.F M.π (tp M.w w'.tape w'.drawn) (cy w'))(hnz:∀r,M.Has r→¬zb r)(hag:aw N one M.π)(hg:gi<N)(hd:di<N)(h:Wok M.w gi di):Wok w' gi di:=by
 obtain ⟨c,r,hw⟩:=h;obtain ⟨h1,-⟩:=Mem.got hA hnz hw (uk ae);rw [hag.old hg] at h1;refine ⟨c,r,h1.trans ?_⟩;show some (Obj.cells (az M.π #[pO di,.bool false,.bool false,.slice none 0 0,.int .i64 c,.int .i64 r,.pointer none]) 86 (0,0))=_;show some (Obj.cells #[pO (M.π.to di),.bool false,.bool false,.slice none 0 0,.int .i64 c,.int .i64 r,.pointer none] 86 (0,0))=_;rw [hag.old hd]
def REa [Bg] (w:World)(g d:Nat→Nat)(ft:Nat→List Nat)(Rj:Nat→Value→World→Prop)(s:Int):Ending→World→Prop:=fun e w2=>(∃v,e= .returned v)∧∃o cells w',e= .returned (.tuple #[sO o 3 3,.int .i64 0])∧ea.uq w w' 3 pl3 3 (ow ft) Rj s o cells∧Rst w' g d w2
theorem amh [Bg] {s:Int}:gz (REa w g d ft Rj s):=fun e w2 τ dd ⟨h1,o,cells,w',h2,h3,h4⟩=>⟨h1,o,cells,w',h2,h3,h4.1.tp τ dd,h4.2⟩
theorem Fl.gne [Bg] (H:Fl w bd g d ft fr)(i:Nat)(hi:i<3):g i≠bd:=fun e=>(H.fz bd H.bdf).2 i hi (e▸(H.gm i hi).1)
theorem Fl.ggne [Bg] (H:Fl w bd g d ft fr)(i j:Nat)(hi:i<3)(hj:j<3)(hij:i≠j):g i≠g j:=fun e=>H.ap i j hi hj hij (g i) (H.gm i hi).1 (e▸(H.gm j hj).1)
theorem ajq [Bg] {s:Int}{fnj:Func}{cj:Code}{done:Value}(hfj:Tryz.prog.funcs[fj]? =some fnj)(hbj:fnj.body=some cj)(hdone:∀τ d,Calls GP 42 #[done] (tp w τ d) (ea.wa w))(H:Fl w bd g d ft fr)(hjf:∀π',aw w.heap.size one π'→al π' (.func (.func fj) first capt)= .func (.func fj) first capt)
  (hj:∀i,i<3→∀u,Msk w u (ft i) fr→Calls GP fj (first++ #[.int .i64 i,dk (g i)]++capt) u (Ret (Rj (i+1))))
  (hbl:∀j v w τ d,Rj j v w→Rj j v (tp w τ d))(hok:∀j v w,Rj j v w→ea.okE v)(hwk:∀i,i<3→∀v m,Rj (i+1) v m→Wok m (g i) (d i)):
  UCx GP Tryz.prog.funcs 14 #[sO bd 3 cap,done,.func (.func fj) first capt,.int .i64 s] w (REa w g d ft Rj s):=by
 obtain ⟨c,e,z,hc,hci⟩:=H.list;refine ea.afu (cap:=cap) hfj hbj (rin_a H hjf hj hbl hok) hdone amh fun w' o cells hO=>⟨_,af2 (w':=w') (g:=g) (d:=d),fun τ dd=>ahh (c:=c) (e:=e) (z:=z) ?_ hci (fun i hi=>H.gne i hi) (fun i j hi hj hij=>H.ggne i j hi hj hij) (fun i hi=> ?_) τ dd,fun e w2 h=>⟨_,h.1⟩,fun e w2 h=>h.2.2,fun v w2 h=>⟨⟨_,rfl⟩,o,cells,w',rfl,hO,h.2.1⟩⟩
 ·rw [hO.rest bd (bf hc) fun j hj ho=>(H.fz bd H.bdf).2 (j-1) (by have:=ho.1;omega) ho.2.2];exact hc
 ·obtain ⟨M,-,-,hnz,hM⟩:=hO.jobs;obtain ⟨zz,h1,h2,h3,h4,-⟩:=hM (i+1) ai ai;exact afb h2 (hnz (i+1) ai) h3 (Nat.lt_succ_of_lt (H.lt i hi _ (H.gm i hi).1)) (Nat.lt_succ_of_lt (H.lt i hi _ (H.gm i hi).2)) (hwk i hi _ _ h1)
variable {sc:Array Value}
theorem zq [Bg] {b:Nat}(hb:b<w.heap.size):(eb.wb w sc).heap[b]? =w.heap[b]? :=by
 unfold eb.wb World.alloc;rw [Array.getElem?_push_lt hb,Array.getElem?_eq_getElem hb]
theorem wz [Bg]:(eb.wb w sc).heap.size=w.heap.size+1:=by simp [eb.wb]
theorem Fl.box [Bg] (H:Fl w bd g d ft fr):Fl (eb.wb w sc) bd g d ft (w.heap.size::fr):=by
 obtain ⟨c,e,z,hc,hci⟩:=H.list;refine ⟨⟨c,e,z,by rw [zq (bf hc)];exact hc,hci⟩,List.mem_cons_of_mem _ H.bdf,H.gm,fun i hi b hb=>by have:=H.lt i hi b hb;rw [wz];omega,H.ap,fun b hb=> ?_,H.nz⟩;rcases List.mem_cons.1 hb with rfl|hb
 ·exact ⟨⟨sc,112,(0,0),bu⟩,fun i hi hm=>by have:=H.lt i hi _ hm;omega⟩
 ·obtain ⟨⟨c,e,z,h⟩,h2⟩:=H.fz b hb;exact ⟨⟨c,e,z,by rw [zq (bf h)];exact h⟩,h2⟩
theorem Msk.unbox [Bg] (H:Fl w bd g d ft fr){i:Nat}(hi:i<3)(h:Msk (eb.wb w sc) u (ft i) (w.heap.size::fr)):Msk w u (ft i) fr:=
 ⟨fun b hb=>(h.own b hb).trans (zq (H.lt i hi b hb)),fun a ha=>by
  rw [h.cell a (List.mem_cons_of_mem _ ha)];unfold World.cell?;rw [zq (H.yw ha)],fun b hb c e z hc=>h.row b (List.mem_cons_of_mem _ hb) c e z (by rw [zq (H.yw hb)];exact hc),by have:=h.size;rw [wz] at this;omega⟩
theorem rin_b [Bg] (H:Fl w bd g d ft fr)(hs1:sc.size=19)(hs2:sc.all (·.oneCell')=true)(hs3:∀π',az π' sc=sc)(hjf:∀π',aw w.heap.size one π'→al π' (.func (.func fj) first capt)= .func (.func fj) first capt)
  (hj:∀i,i<3→∀u,Msk w u (ft i) fr→Calls GP fj (first++ #[.int .i64 i,dk (g i)]++capt) u (Ret (Rj (i+1))))
  (hbl:∀j v w τ d,Rj j v w→Rj j v (tp w τ d))(hok:∀j v w,Rj j v w→eb.okE v):eb.RIn (eb.wb w sc) 3 bd 0 (fun i=>dk (g i)) (fun i=>i) pl3 3 (ow ft) (fzl (w.heap.size::fr)) fj first capt Rj sc w.heap.size:=by
 have HB:=H.box (sc:=sc);obtain ⟨c,e,z,hc,hci⟩:=HB.list;refine ⟨bu,List.mem_cons_self,hs1,hs2,fun π' _=>hs3 π',by omega,by omega,fun i hi=> ?_,HB.bdf,ajt,fun j hj b hb=> ?_,fun j hj b hb=>HB.nz (j-1) (by have:=hb.1;omega) b hb.2.2,fun j hj b hb=>(HB.fz b hb).1,fun j k hj hk hne b hb=>⟨fun hk2=> ?_,fun hf=> ?_⟩,fun j h0 hj π' ha=> ?_,fun π' ha=>hjf π' (ha.mono (by rw [wz];omega)),fun j h0 hj2 τ dd=> ?_,hbl,hok,rfl,rfl,fun i=>Nat.le_refl _,fun i hi=>by omega,fun i hi=> .inr ⟨⟨_,_,rfl⟩,rfl,by simp [pl3]⟩,fun j h0 hj=>by unfold pl3;omega,fun j j' h0 hj h0' hj' h=>by unfold pl3 at h;omega⟩
 ·rw [Nat.zero_add];simp only [World.cell?,hc];exact hci i hi
 ·obtain ⟨h1,h2,h3⟩:=hb;exact ⟨HB.lt (j-1) ai b h3,fun hf=>(HB.fz b hf).2 (j-1) ai h3⟩
 ·obtain ⟨h1,h2,h3⟩:=hb;obtain ⟨h4,h5,h6⟩:=hk2;exact HB.ap (j-1) (k-1) ai ai ai b h3 h6
 ·obtain ⟨h1,h2,h3⟩:=hb;exact (HB.fz b hf).2 (j-1) ai h3
 ·have hlt:=HB.lt (pl3 j) (by unfold pl3;omega) _ (HB.gm (pl3 j) (by unfold pl3;omega)).1;show Value.iface 73 (.pointer (some ⟨π'.to (g (pl3 j)),0,none⟩))=_;rw [show π'.to (g (pl3 j))=g (pl3 j) from ha _ hlt];rfl
 ·obtain ⟨i,rfl⟩:∃i,j=i+1:=⟨j-1,by omega⟩;have hm:=HB.msk (i:=i) ai τ dd;exact hj i ai _ (Msk.unbox H ai hm)
def REb [Bg] (w:World)(g d:Nat→Nat)(ft:Nat→List Nat)(Rj:Nat→Value→World→Prop)(sc:Array Value):Ending→World→Prop:=fun e w2=>(∃v,e= .returned v)∧∃o cells w',e= .returned (.tuple #[sO o 3 3,.int .i64 0])∧eb.uq (eb.wb w sc) w' 3 pl3 3 (ow ft) Rj sc o cells∧Rst w' g d w2
theorem an6 [Bg]:gz (REb w g d ft Rj sc):=fun e w2 τ dd ⟨h1,o,cells,w',h2,h3,h4⟩=>⟨h1,o,cells,w',h2,h3,h4.1.tp τ dd,h4.2⟩
theorem afm [Bg] {fnj:Func}{cj:Code}{done:Value}(hfj:Tryz.prog.funcs[fj]? =some fnj)(hbj:fnj.body=some cj)(hdone:∀u τ d,Calls GP 42 #[done] (tp u τ d) (eb.wa u))(H:Fl w bd g d ft fr)(hs1:sc.size=19)(hs2:sc.all (·.oneCell')=true)(hs3:∀π',az π' sc=sc)(hjf:∀π',aw w.heap.size one π'→al π' (.func (.func fj) first capt)= .func (.func fj) first capt)
  (hj:∀i,i<3→∀u,Msk w u (ft i) fr→Calls GP fj (first++ #[.int .i64 i,dk (g i)]++capt) u (Ret (Rj (i+1))))
  (hbl:∀j v w τ d,Rj j v w→Rj j v (tp w τ d))(hok:∀j v w,Rj j v w→eb.okE v)(hwk:∀i,i<3→∀v m,Rj (i+1) v m→Wok m (g i) (d i)):
  UCx GP Tryz.prog.funcs 38 #[sO bd 3 cap,done,.func (.func fj) first capt,.agg sc] w (REb w g d ft Rj sc):=by
 obtain ⟨c,e,z,hc,hci⟩:=H.list;refine eb.afu (cap:=cap) hfj hbj (rin_b H hs1 hs2 hs3 hjf hj hbl hok) (hdone _) an6 fun w' o cells hO=>⟨_,af2 (w':=w') (g:=g) (d:=d),fun τ dd=>ahh (c:=c) (e:=e) (z:=z) ?_ hci (fun i hi=>H.gne i hi) (fun i j hi hj hij=>H.ggne i j hi hj hij) (fun i hi=> ?_) τ dd,fun e w2 h=>⟨_,h.1⟩,fun e w2 h=>h.2.2,fun v w2 h=>⟨⟨_,rfl⟩,o,cells,w',rfl,hO,h.2.1⟩⟩
 ·rw [hO.rest bd (by rw [wz];have:=bf hc;omega) fun j hj ho=>(H.fz bd H.bdf).2 (j-1) (by have:=ho.1;omega) ho.2.2,zq (bf hc)];exact hc
 ·obtain ⟨M,-,-,hnz,hM⟩:=hO.jobs;obtain ⟨zz,h1,h2,h3,h4,-⟩:=hM (i+1) ai ai;have hsz:w.heap.size+1=(eb.wb w sc).heap.size:=wz.symm;exact afb h2 (hnz (i+1) ai) h3 (by rw [←hsz];exact Nat.lt_succ_of_lt (Nat.lt_succ_of_lt (H.lt i hi _ (H.gm i hi).1))) (by rw [←hsz];exact Nat.lt_succ_of_lt (Nat.lt_succ_of_lt (H.lt i hi _ (H.gm i hi).2))) (hwk i hi _ _ h1)
end
def DrE (w:World)(g d now:Nat):Prop:=∃kept k,WD w g d 16777216 0 now kept (.slice none 0 0) 0 #[] k
def DrH (w:World)(g d now x q idx:Nat):Prop:=∃(kept k k' cap:Nat)(ch:List Int),WD w g d 16777216 48 now kept (.slice none 0 0) 0 #[⟨.string nA,pO x,k'⟩] k∧Bdy w x (sO q 48 cap) 48∧w.ownsRow 0 5 1 (sO q 48 cap) 48 (fi (ma idx ch))∧ch.length=3∧∀x∈ch,0≤x∧x<256
section
variable {w w' w2 u:World}{bd cap:Nat}{g d now x q i idx kept k N:Nat}{room used:Int}{es:Array MapEntry}{M:Mem}{xs:List Value}
theorem WD.tp [Bg] (h:WD w g d room used now kept (.slice none 0 0) 0 es k)(τ:Tap)(dd:Nat):WD (zr.tp w τ dd) g d room used now kept (.slice none 0 0) 0 es k:=
 ⟨h.wnd,⟨h.dv.drv,h.dv.own,h.dv.apart,h.dv.mp,h.dv.tx,h.dv.ne⟩,h.gd⟩
theorem wd_loc [Bg] (h:WD w g d room used now kept (.slice none 0 0) 0 es k)(h1:Wok u g d)(h2:u.heap[d]? =w.heap[d]?)(h3:u.heap[now]? =w.heap[now]?):WD u g d room used now kept (.slice none 0 0) 0 es k:=by
 obtain ⟨ys,ho⟩:=h.dv.own;exact ⟨h1,⟨h2.trans h.dv.drv,⟨ys,ho.1,.inl ⟨rfl,rfl⟩⟩,h.dv.apart,h3.trans h.dv.mp,h.dv.tx,h.dv.ne⟩,h.gd⟩
theorem aeu [Bg] (h:WD w g d room used now kept (.slice none 0 0) 0 es k):Wok w g d:=h.wnd
theorem ajv [Bg] (h:Wok w g d)(h1:u.heap[g]? =w.heap[g]?):Wok u g d:=by
 obtain ⟨c,r,hw⟩:=h;exact ⟨c,r,h1.trans hw⟩
theorem wd_out [Bg] (hA:At GP M.Z M.F M.π (zr.tp M.w w'.tape w'.drawn) (cy w'))(hnz:∀r,M.Has r→¬zb r)(hag:aw N one M.π)(hg:g<N)(hd:d<N)(hn:now<N)(h:WD M.w g d room used now kept (.slice none 0 0) 0 es k):
  WD w' g d room used now (M.π.to kept) (.slice none 0 0) 0 (es.map fun e=>{e with key:=al M.π e.key,val:=al M.π e.val}) k∧M.Has g∧M.Has d∧M.Has now:=by
 obtain ⟨c,r,hw⟩:=h.wnd;obtain ⟨-,g2⟩:=Mem.got hA hnz hw (uk ae);obtain ⟨d1,d2⟩:=Mem.got hA hnz h.dv.drv (uk ae);obtain ⟨n1,n2⟩:=Mem.got hA hnz h.dv.mp live_map;rw [hag.old hg] at g2;rw [hag.old hd] at d1 d2;rw [hag.old hn] at n1 n2;refine ⟨⟨afb hA hnz hag hg hd (aeu h),⟨d1.trans ?_,⟨[],rfl,.inl ⟨rfl,rfl⟩⟩,h.dv.apart,n1,fun e he=> ?_,h.dv.ne⟩,h.gd⟩,g2,d2,n2⟩
 ·show some (Obj.cells #[.int .i64 room,.int .i64 used,.map (some (M.π.to now)),.map (some (M.π.to kept)),.slice none 0 0] 139 (0,0))=_;rw [hag.old hn]
 ·rw [Array.toList_map] at he;obtain ⟨e0,h0,rfl⟩:=List.mem_map.1 he;obtain ⟨t,ht⟩:=h.dv.tx e0 h0;exact ⟨t,by show al M.π e0.key=_;rw [ht];rfl⟩
theorem dre_out [Bg] (hA:At GP M.Z M.F M.π (zr.tp M.w w'.tape w'.drawn) (cy w'))(hnz:∀r,M.Has r→¬zb r)(hag:aw N one M.π)(hg:g<N)(hd:d<N)(hn:now<N)(h:DrE M.w g d now):DrE w' g d now∧∀b∈[g,d,now],M.Has b:=by
 obtain ⟨kept,k,h⟩:=h;obtain ⟨h1,h2,h3,h4⟩:=wd_out hA hnz hag hg hd hn h;simp only [List.map_toArray,List.map_nil] at h1;refine ⟨⟨_,_,h1⟩,fun b hb=> ?_⟩;simp only [List.mem_cons,List.not_mem_nil,or_false] at hb;rcases hb with rfl|rfl|rfl
 ·exact h2
 ·exact h3
 ·exact h4
theorem bys_ren [Bg] (π:Pm)(l:List Int):(fi l).map (al π)=fi l:=by
 unfold fi;rw [List.map_map];rfl
theorem ajm [Bg] (hA:At GP M.Z M.F M.π (zr.tp M.w w'.tape w'.drawn) (cy w'))(hnz:∀r,M.Has r→¬zb r)(hag:aw N one M.π)(hg:g<N)(hd:d<N)(hn:now<N)(h:DrH M.w g d now x q idx):DrH w' g d now (M.π.to x) (M.π.to q) idx∧∀b∈[g,d,now,M.π.to x,M.π.to q],M.Has b:=by
 obtain ⟨kept,k,k',cap,ch,h,hb,ho,hl,hx⟩:=h;obtain ⟨h1,h2,h3,h4⟩:=wd_out hA hnz hag hg hd hn h;simp only [List.map_toArray,List.map_cons,List.map_nil,al,Option.map_some,Pm.addr] at h1;obtain ⟨x1,x2⟩:=Mem.got hA hnz hb (uk ae);obtain ⟨ho1,ho2⟩:=ho;rcases ho2 with ⟨h0,-⟩|⟨g3,cap3,cur,hv,-,hq,hc1,hc2,hc3,hc4⟩
 ·cases h0
 ·cases hv;obtain ⟨q1,q2⟩:=Mem.got hA hnz hq (uk ai);refine ⟨⟨_,_,_,cap,ch,h1,x1,⟨ho1,.inr ⟨_,cap,_,rfl,Nat.zero_le _,q1,hc1,hc2,by rw [il];exact hc3,?_⟩⟩,hl,hx⟩,fun b hb=> ?_⟩
  ·rw [fh,Array.toList_map,←List.map_take,hc4,bys_ren]
  ·simp only [List.mem_cons,List.not_mem_nil,or_false] at hb;rcases hb with rfl|rfl|rfl|rfl|rfl
   ·exact h2
   ·exact h3
   ·exact h4
   ·exact x2
   ·exact q2
theorem ajy [Bg] (h:DrE w g d now)(h1:Wok u g d)(hk:∀b∈[d,now],u.heap[b]? =w.heap[b]?):DrE u g d now:=by
 obtain ⟨kept,k,h⟩:=h;exact ⟨kept,k,wd_loc h h1 (hk _ ae) (hk _ ae)⟩
theorem afq [Bg] (h:DrH w g d now x q idx)(h1:Wok u g d)(hk:∀b∈[d,now,x,q],u.heap[b]? =w.heap[b]?):DrH u g d now x q idx:=by
 obtain ⟨kept,k,k',cap,ch,h,hb,ho,hl,hx⟩:=h;refine ⟨kept,k,k',cap,ch,wd_loc h h1 (hk _ ae) (hk _ ae),(hk _ ae).trans hb,⟨ho.1,ho.2.imp id ?_⟩,hl,hx⟩;rintro ⟨g3,cap3,cur,hv,h2,h3,h4⟩;cases hv;exact ⟨_,_,cur,rfl,h2,(hk _ ae).trans h3,h4⟩
theorem ac4 [Bg] (h:DrE w g d now):Wok w g d:=by
 obtain ⟨_,_,h⟩:=h;exact aeu h
theorem afl [Bg] (h:DrH w g d now x q idx):Wok w g d:=by
 obtain ⟨_,_,_,_,_,h,_⟩:=h;exact aeu h
theorem dre_lt [Bg] (h:DrE w g d now):∀b∈[g,d,now],b<w.heap.size:=by
 obtain ⟨_,_,h⟩:=h;have hl:=h.lt;intro b hb;simp only [List.mem_cons,List.not_mem_nil,or_false] at hb;rcases hb with rfl|rfl|rfl
 ·exact hl.1
 ·exact hl.2.1
 ·exact hl.2.2.1
theorem aib [Bg] (h:DrH w g d now x q idx):∀b∈[g,d,now,x,q],b<w.heap.size:=by
 obtain ⟨_,_,_,_,_,h,hb,ho,_⟩:=h;have hl:=h.lt;intro b hb2;simp only [List.mem_cons,List.not_mem_nil,or_false] at hb2;rcases hb2 with rfl|rfl|rfl|rfl|rfl
 ·exact hl.1
 ·exact hl.2.1
 ·exact hl.2.2.1
 ·exact bf hb
 ·exact lj ho _ (by simp [blk,Value.ownBlock])
theorem dre_ne [Bg] (h:DrE w g d now):d≠g∧now≠g:=by
 obtain ⟨_,_,h⟩:=h;exact ⟨fun e=>h.gd.1 e.symm,fun e=>h.gd.2.1 e.symm⟩
theorem aie [Bg] (h:DrH w g d now x q idx):d≠g∧now≠g∧x≠g∧q≠g:=by
 obtain ⟨_,_,_,_,_,h,hb,ho,_⟩:=h;obtain ⟨c,r,hw⟩:=h.wnd;refine ⟨fun e=>h.gd.1 e.symm,fun e=>h.gd.2.1 e.symm,fun e=> ?_,fun e=> ?_⟩
 ·unfold Bdy at hb;unfold Wnd at hw;rw [e,hw] at hb;cases hb
 ·rcases ho.2 with ⟨h0,-⟩|⟨g3,cap3,cur,hv,-,hq,-⟩
  ·cases h0
  ·cases hv;unfold Wnd at hw;rw [e,hw] at hq;cases hq
end
structure St [Bg] (w:World)(bd:Nat)(g d:Nat→Nat)(ft:Nat→List Nat)(PD:Nat→World→Prop):Prop where
 fl:Fl w bd g d ft [bd]
 dr:∀i,i<3→PD i w
def ft3 (ft:Nat→List Nat):List Nat:=ft 0++ft 1++ft 2
section
variable {w w' w2 u:World}{bd cap:Nat}{g d:Nat→Nat}{ft ft':Nat→List Nat}{fr:List Nat}{PD PD':Nat→World→Prop}{S:List Nat}
theorem ac1 [Bg] {i b:Nat}(hi:i<3)(h:b∈ft i):b∈ft3 ft:=by
 unfold ft3;rcases i with _|_|_|i <;> first|(simp;simp [h];done)|omega
theorem xp [Bg] {b:Nat}(h:b∈ft3 ft):∃i,i<3∧b∈ft i:=by
 unfold ft3 at h;rcases List.mem_append.1 h with h|h
 ·rcases List.mem_append.1 h with h|h
  ·exact ⟨0,by omega,h⟩
  ·exact ⟨1,by omega,h⟩
 ·exact ⟨2,by omega,h⟩
theorem Fl.grow [Bg] (H:Fl w bd g d ft fr)(hk:ah S w u)(hb:bd∉S):Fl u bd g d ft [bd]:=by
 obtain ⟨c,e,z,hc,hci⟩:=H.list;have hc':=hk.on hc hb;exact ⟨⟨c,e,z,hc',hci⟩,by simp,H.gm,fun i hi b hb=>Nat.lt_of_lt_of_le (H.lt i hi b hb) hk.size,H.ap,fun b hb2=>by
  rw [List.mem_singleton] at hb2;subst hb2;exact ⟨⟨c,e,z,hc'⟩,(H.fz b H.bdf).2⟩,H.nz⟩
theorem Fl.more [Bg] (H:Fl w bd g d ft fr){fr2:List Nat}(h2:∀b∈fr2,(∃c e z,w.heap[b]? =some (.cells c e z))∧∀i,i<3→b∉ft i):Fl w bd g d ft (bd::fr2):=
 ⟨H.list,by simp,H.gm,H.lt,H.ap,fun b hb=>by
  rcases List.mem_cons.1 hb with rfl|hb
  ·exact H.fz b H.bdf
  ·exact h2 b hb,H.nz⟩
theorem St.on [Bg] (h:St w bd g d ft PD)(hk:ah [] w u)(hloc:∀i,i<3→PD i w→(∀b∈ft i,u.heap[b]? =w.heap[b]?)→PD i u):St u bd g d ft PD:=
 ⟨h.fl.grow hk ae,fun i hi=>hloc i hi (h.dr i hi) fun b hb=>hk.ff b (h.fl.lt i hi b hb) ae⟩
theorem afn [Bg] (H:Fl w bd g d ft fr){M:Nat→Mem}(hsz:w.heap.size≤w2.heap.size)(hap:∀j k,j≠0→j≤3→k≤3→j≠k→∀r,(M j).Has r→¬(M k).sg r)(hz:∀j,j≤3→∀r,(M j).Has r→¬zb r)(hHas:∀i,i<3→∀b∈ft' i,(M (i+1)).Has b)(hnew:∀i,i<3→∀b∈ft' i,b∈ft i∨w.heap.size≤b)(hgm:∀i,i<3→g i∈ft' i∧d i∈ft' i)(hbd:w2.heap[bd]? =w.heap[bd]?)(hlt:∀i,i<3→∀b∈ft' i,b<w2.heap.size):Fl w2 bd g d ft' [bd]:=by
 obtain ⟨c,e,z,hc,hci⟩:=H.list;refine ⟨⟨c,e,z,hbd.trans hc,hci⟩,by simp,hgm,hlt,fun i j hi hj hij b hb hb2=> ?_,fun b hb2=> ?_,fun i hi b hb=>hz (i+1) ai b (hHas i hi b hb)⟩
 ·exact hap (i+1) (j+1) ai ai ai ai b (hHas i hi b hb) (hHas j hj b hb2).sees
 ·rw [List.mem_singleton] at hb2;subst hb2;refine ⟨⟨c,e,z,hbd.trans hc⟩,fun i hi hm=> ?_⟩;rcases hnew i hi b hm with h|h
  ·exact (H.fz b H.bdf).2 i hi h
  ·have:=bf hc;omega
theorem ad4 [Bg] (H:Fl w bd g d ft fr)(hsz:w.heap.size≤w'.heap.size)(hr:∀b,b<w.heap.size→(∀j,j≤3→¬ow ft j b)→w'.heap[b]? =w.heap[b]?)(ho:w'.os=w.os)(hu:w'.output=w.output)(h2:ah [g 0,g 1,g 2] w' w2):ah (ft3 ft) w w2:=by
 have h1:ah (ft3 ft) w w':=⟨hsz,fun b hb hn=>hr b hb fun j hj ho=>hn (ac1 (i:=j-1) (by have:=ho.1;omega) ho.2.2),ho,hu⟩;refine h1.trans h2 fun b hb=> .inl ?_
 simp only [List.mem_cons,List.not_mem_nil,or_false] at hb;rcases hb with rfl|rfl|rfl
 ·exact ac1 (i:=0) ai (H.gm 0 ai).1
 ·exact ac1 (i:=1) ai (H.gm 1 ai).1
 ·exact ac1 (i:=2) ai (H.gm 2 ai).1
theorem not_g [Bg] (H:Fl w bd g d ft fr){i b:Nat}(hi:i<3)(hb:b∈ft i)(hne:b≠g i):b∉[g 0,g 1,g 2]:=by
 have key:∀j,j<3→b≠g j:=fun j hj e=>by
  by_cases hij:i=j
  ·subst hij;exact hne e
  ·exact H.ap i j hi hj hij b hb (e▸(H.gm j hj).1)
 simp only [List.mem_cons,List.not_mem_nil,or_false];rintro (e|e|e)
 ·exact key 0 ai e
 ·exact key 1 ai e
 ·exact key 2 ai e
theorem adp [Bg] (H:Fl w bd g d ft fr):bd∉[g 0,g 1,g 2]:=by
 simp only [List.mem_cons,List.not_mem_nil,or_false];rintro (e|e|e)
 ·exact H.gne 0 ai e.symm
 ·exact H.gne 1 ai e.symm
 ·exact H.gne 2 ai e.symm
def aa4 (u:World)(an:Nat→Value→Array Value)(Sx:World→Prop)(ft:Nat→List Nat):Ending→World→Prop:=fun e w2=>(∃v,e= .returned v)∧∃(o:Nat)(cells:Array Value)(c:Nat→Value),e= .returned (.tuple #[sO o 3 3,.int .i64 0])∧w2.heap[o]? =some (.cells cells 112 (0,0))∧u.heap.size≤o∧(∀i,i<3→Row 19 cells i (an i (c i))∧(c i).oneCell'=true)∧Sx w2∧ah (ft3 ft) u w2
theorem adw [Bg] {an:Nat→Value→Array Value}{sc:Array Value}{Rj:Nat→Value→World→Prop}(H:Fl w bd g d ft fr)(hRj:∀i,i<3→∀v m,Rj (i+1) v m→∃c,v= .agg (an i c)∧c.oneCell'=true∧PD i m)(hren:∀i c π,az π (an i c)=an i (al π c))
  (hout:∀i,i<3→∀(M:Mem) w',At GP M.Z M.F M.π (zr.tp M.w w'.tape w'.drawn) (cy w')→(∀r,M.Has r→¬zb r)→aw (w.heap.size+2) one M.π→PD i M.w→PD i w'∧∀b∈ft i,M.Has b)
  (hrst:∀i,i<3→∀w' w2,PD i w'→Wok w2 (g i) (d i)→(∀b∈ft i,b≠g i→w2.heap[b]? =w'.heap[b]?)→PD i w2)
  (hlt:∀i,i<3→∀w,PD i w→∀b∈ft i,b<w.heap.size)(e:Ending)(w2:World)(hE:REb w g d ft Rj sc e w2):aa4 w an (fun w2=>St w2 bd g d ft PD) ft e w2:=by
 obtain ⟨-,o,cells,w',rfl,hO,hK,hWk⟩:=hE;obtain ⟨M,hap,ho,hnz,hM⟩:=hO.jobs;have hsz:(eb.wb w sc).heap.size=w.heap.size+1:=wz;have HB:=H.box (sc:=sc);have key:∀i,i<3→∃c,Row 19 cells i (an i c)∧c.oneCell'=true∧PD i w'∧∀b∈ft i,(M (i+1)).Has b:=fun i hi=>by
  obtain ⟨cs,h1,h2,h3,h4,h5,h6⟩:=hM (i+1) ai ai;obtain ⟨c,hv,h7,h8⟩:=hRj i hi _ _ h1;obtain rfl:=Value.agg.inj hv;rw [hsz] at h3;obtain ⟨h9,h10⟩:=hout i hi _ _ h2 (hnz (i+1) ai) h3 h8;rw [hren] at h6;exact ⟨_,h6,by rw [eb.aj1];exact h7,h9,h10⟩
 have hbd:w'.heap[bd]? =(eb.wb w sc).heap[bd]? :=hO.rest bd (by rw [hsz];have:=H.yw H.bdf;omega) fun j hj ho=>(H.fz bd H.bdf).2 (j-1) (by have:=ho.1;omega) ho.2.2
 have HF:Fl w' bd g d ft [bd]:=afn (w:=eb.wb w sc) (w2:=w') HB (Nat.le_of_lt hO.size) hap hnz (fun i hi b hb=>by
  obtain ⟨c,-,-,-,h⟩:=key i hi;exact h b hb) (fun i hi b hb=> .inl hb) H.gm hbd (fun i hi=>by
  obtain ⟨c,-,-,h,-⟩:=key i hi;exact hlt i hi _ h)
 have HF2:Fl w2 bd g d ft [bd]:=HF.grow hK (adp H);have hon:o∉[g 0,g 1,g 2]:=by
  have hg:=fun i hi=>H.lt i hi _ (H.gm i hi).1
  have h0:=hg 0 ai;have h1:=hg 1 ai;have h2:=hg 2 ai;have h3:=hO.new;rw [hsz] at h3;simp only [List.mem_cons,List.not_mem_nil,or_false];omega
 have hnew:=hO.new;refine ⟨⟨_,rfl⟩,o,cells,fun i=>if h:i<3 then Classical.choose (key i h) else .bool false,rfl,hK.on hO.out hon,by rw [hsz] at hnew;omega,fun i hi=> ?_,⟨HF2,fun i hi=> ?_⟩,?_⟩
 ·have h:=Classical.choose_spec (key i hi);simp only [hi,dite_true];exact ⟨h.1,h.2.1⟩
 ·obtain ⟨c,-,-,h,-⟩:=key i hi;exact hrst i hi w' w2 h (hWk i hi) fun b hb hne=>hK.ff b (hlt i hi _ h b hb) (not_g HF hi hb hne)
 ·have h1:=ad4 (w2:=w2) HB (Nat.le_of_lt hO.size) hO.rest hO.os hO.output hK;have h0:ah [] w (eb.wb w sc):=ah.alloc (ah.refl _ _);exact (h0.more ae).trans h1 fun b hb=> .inl hb
end
end Go.Proofs.YthgpdljlehklhaaGreat.rn
