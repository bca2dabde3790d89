/- Part QAB of the proof that DropRefused answers true whatever its input. No condition. -/
import GoSem.Machine.Exec
import Derived.Test.YthgpdljlehklhaaGreatQAA
set_option maxRecDepth 100000
namespace Go.Proofs.YthgpdljlehklhaaGreat.zr
open Go
section
variable {P:Program}{π:Pm}{α β:Type}{V:Nat→Prop}
theorem aa.equalNil (hF:fw P π)(d:Nat)(t:TypeId)(x y:Value)(hy:isNil y=true):aa P π (.none Bool) (Op.equalIn d t (al π x) y) (Op.equalIn d t x y):=by
 cases d with
 |zero=>exact aa.unsupported _ _
 |succ d=>
  unfold Op.equalIn;refine aa.bk (aa.underlying t) fun td=> ?_
  cases y with
  |pointer b=>
   cases b with
   |some b=>simp [isNil] at hy
   |none=>cases td <;> (try exact aa.stuck _ _) <;> cases x <;> (first|exact aa.stuck _ _|exact aa.unsupported _ _|exact aa.bm _|exact aa.pure _ rfl|(rename_i a _ _;cases a <;> (first|exact aa.stuck _ _|exact aa.unsupported _ _|exact aa.bm _|exact aa.pure _ rfl))|(rename_i a;cases a <;> (first|exact aa.stuck _ _|exact aa.unsupported _ _|exact aa.bm _|exact aa.pure _ rfl)))
  |slice b l c=>
   cases b with
   |some b=>simp [isNil] at hy
   |none=>cases td <;> (try exact aa.stuck _ _) <;> cases x <;> (first|exact aa.stuck _ _|exact aa.unsupported _ _|exact aa.bm _|exact aa.pure _ rfl|(rename_i a _ _;cases a <;> (first|exact aa.stuck _ _|exact aa.unsupported _ _|exact aa.bm _|exact aa.pure _ rfl))|(rename_i a;cases a <;> (first|exact aa.stuck _ _|exact aa.unsupported _ _|exact aa.bm _|exact aa.pure _ rfl)))
  |map b=>
   cases b with
   |some b=>simp [isNil] at hy
   |none=>cases td <;> (try exact aa.stuck _ _) <;> cases x <;> (first|exact aa.stuck _ _|exact aa.unsupported _ _|exact aa.bm _|exact aa.pure _ rfl|(rename_i a _ _;cases a <;> (first|exact aa.stuck _ _|exact aa.unsupported _ _|exact aa.bm _|exact aa.pure _ rfl))|(rename_i a;cases a <;> (first|exact aa.stuck _ _|exact aa.unsupported _ _|exact aa.bm _|exact aa.pure _ rfl)))
  |chan b=>
   cases b with
   |some b=>simp [isNil] at hy
   |none=>cases td <;> (try exact aa.stuck _ _) <;> cases x <;> (first|exact aa.stuck _ _|exact aa.unsupported _ _|exact aa.bm _|exact aa.pure _ rfl|(rename_i a _ _;cases a <;> (first|exact aa.stuck _ _|exact aa.unsupported _ _|exact aa.bm _|exact aa.pure _ rfl))|(rename_i a;cases a <;> (first|exact aa.stuck _ _|exact aa.unsupported _ _|exact aa.bm _|exact aa.pure _ rfl)))
  |nilFunc=>cases td <;> (try exact aa.stuck _ _) <;> cases x <;> (first|exact aa.stuck _ _|exact aa.unsupported _ _|exact aa.bm _|exact aa.pure _ rfl|(rename_i a _ _;cases a <;> (first|exact aa.stuck _ _|exact aa.unsupported _ _|exact aa.bm _|exact aa.pure _ rfl))|(rename_i a;cases a <;> (first|exact aa.stuck _ _|exact aa.unsupported _ _|exact aa.bm _|exact aa.pure _ rfl)))
  |nilIface=>cases td <;> (try exact aa.stuck _ _) <;> cases x <;> (first|exact aa.stuck _ _|exact aa.unsupported _ _|exact aa.bm _|exact aa.pure _ rfl|(rename_i a _ _;cases a <;> (first|exact aa.stuck _ _|exact aa.unsupported _ _|exact aa.bm _|exact aa.pure _ rfl))|(rename_i a;cases a <;> (first|exact aa.stuck _ _|exact aa.unsupported _ _|exact aa.bm _|exact aa.pure _ rfl)))
  |_=>simp [isNil] at hy
theorem aa.viewAt (r:Nat){B:eg β}{h' h:Option (Addr×TypeId)→Sem β}(h0:aa P π B (h' none) (h none))(hv:∀a t,aa P π B (h' (some (π.addr a,t))) (h (some (a,t))))(hd:∀a t,dm P (· =r) (h (some (a,t)))):
  aa P π B (Go.viewAt (π.to r) >>=h') (Go.viewAt r >>=h):=by
 have e:∀(r:Nat)(h:Option (Addr×TypeId)→Sem β),(Go.viewAt r >>=h)=(Go.shape r >>=fun s=>(if s.isSome then Pure.pure none else (Go.getObj r >>=fun o=>match o with| .view a t=>Pure.pure (some (a,t))|_=>Pure.pure none):Sem (Option (Addr×TypeId))) >>=h):=fun r h=>rfl
 rw [e,e];refine aa.shape r ?_ fun s=> ?_
 ·exact .getObjV r _ rfl fun a t=>hd a t
 ·cases s with
  |some s=>exact h0
  |none=>
   have e2:∀(r:Nat)(h:Option (Addr×TypeId)→Sem β),((Go.getObj r >>=fun o=>match o with| .view a t=>Pure.pure (some (a,t))|_=>Pure.pure none:Sem (Option (Addr×TypeId))) >>=h)=(Go.getObj r >>=fun o=>(match o with| .view a t=>Pure.pure (some (a,t))|_=>Pure.pure none:Sem (Option (Addr×TypeId))) >>=h):=fun r h=>rfl
   show aa P π B ((Go.getObj (π.to r) >>=_) >>=h') ((Go.getObj r >>=_) >>=h);rw [e2,e2];refine aa.getObj r (fun a t=>hd a t) fun o _=>aa.any ?_
   cases o <;> first|exact h0|exact hv _ _
theorem aa.behindNumber (n:Addr){B:eg β}{h' h:Addr×Bool→Sem β}(hh:∀a lost,aa P π B (h' (π.addr a,lost)) (h (a,lost)))(hd:dm P (· =n.block) (h (n,false))):
  aa P π B (Go.behindNumber (π.addr n) >>=h') (Go.behindNumber n >>=h):=by
 have e:∀(n:Addr)(h:Addr×Bool→Sem β),(Go.behindNumber n >>=h)=(Go.shape n.block >>=fun s=>(if s.isSome then Pure.pure none else (Go.getObj n.block >>=fun o=>match o with| .number a l=>Pure.pure (some (a,l))|_=>Pure.pure none):Sem (Option (Addr×Bool))) >>=fun o=>h (o.getD (n,false))):=fun n h=>by
  show ((Go.numberAt n.block).bind fun o=>Sem.pure (o.getD (n,false))).bind h=_;rw [jh];rfl
 rw [e,e];refine aa.shape n.block ?_ fun s=> ?_
 ·exact .getObjV _ _ rfl fun a t=>hd
 ·cases s with
  |some s=>exact hh n false
  |none=>
   have e2:∀(r:Nat)(h:Option (Addr×Bool)→Sem β),((Go.getObj r >>=fun o=>match o with| .number a t=>Pure.pure (some (a,t))|_=>Pure.pure none:Sem (Option (Addr×Bool))) >>=h)=(Go.getObj r >>=fun o=>(match o with| .number a t=>Pure.pure (some (a,t))|_=>Pure.pure none:Sem (Option (Addr×Bool))) >>=h):=fun r h=>rfl
   show aa P π B ((Go.getObj (π.to n.block) >>=_) >>=_) ((Go.getObj n.block >>=_) >>=_);rw [e2,e2];refine aa.getObj n.block (fun a t=>hd) fun o _=>aa.any ?_
   cases o <;> first|exact hh n false|exact hh _ _
theorem dm.viewAtV {r:Nat}{h:Option (Addr×TypeId)→Sem β}(hr:V r)(hd:∀a t,dm P V (h (some (a,t)))):dm P V (Go.viewAt r >>=h):=
 .shapeV r _ hr (.getObjV r _ hr fun a t=>hd a t)
theorem uh (gs:Array Func):∀(n:Nat)(t:TypeId)(o:Nat),byteOfCell (aq P gs) n t o=byteOfCell P n t o
 |0,_,_=>rfl
 |n+1,t,o=>by
  have ih:byteOfCell (aq P gs) n=byteOfCell P n:=funext fun t=>funext fun u=>uh gs n t u
  unfold byteOfCell;rw [ih];rfl
theorem yc (gs:Array Func):∀(n:Nat)(t:TypeId)(o:Nat),cellOfByte (aq P gs) n t o=cellOfByte P n t o
 |0,_,_=>rfl
 |n+1,t,o=>by
  have ih:cellOfByte (aq P gs) n=cellOfByte P n:=funext fun t=>funext fun u=>yc gs n t u
  unfold cellOfByte;rw [ih];rfl
theorem ad6 (gs:Array Func)(n:Nat)(e:TypeId)(c o:Nat)(b:Int):cellAtBytes (aq P gs) n e c o b=cellAtBytes P n e c o b:=by
 have i1:byteOfCell (aq P gs) n=byteOfCell P n:=funext fun t=>funext fun u=>uh gs n t u
 have i2:cellOfByte (aq P gs) n=cellOfByte P n:=funext fun t=>funext fun u=>yc gs n t u
 unfold cellAtBytes;rw [i1,i2];rfl
theorem dm.asInt (v:Value)(h:Int→Sem β)(hd:∀x,dm P V (h x)):dm P V (Go.asInt v >>=h):=by
 cases v with
 |int k n=>exact hd _
 |pointer a=>cases a <;> first|exact .stuck _|exact .unsup _ (fun _ h=>Unsupported.noConfusion h)
 |_=>exact .stuck _
theorem uns {α:Type}(u:Unsupported)(h:∀b,u≠ .initOrder b:=by exact fun _ h=>Unsupported.noConfusion h):dm P V (Go.unsupported u:Sem α):= .unsup u h
theorem dm.ite {c:Prop} [Decidable c] {a b:Sem α}(h1:dm P V a)(h2:dm P V b):dm P V (if c then a else b):=by
 split
 ·exact h1
 ·exact h2
theorem aa.unsafeAdd (t:TypeId)(a:Option Addr)(y:Value):aa P π .val (Builtin.unsafeAdd_ #[] t #[.pointer (a.map π.addr),al π y]) (Builtin.unsafeAdd_ #[] t #[.pointer a,y]):=by
 unfold Builtin.unsafeAdd_;refine aa.bk (aa.asInt y) fun n=> ?_
 cases a with
 |none=>exact aa.ite (aa.unsupported _ _) (aa.ite (aa.dead _ (dm.bind _ (uns _))) (aa.unsupported _ _))
 |some a=>
  refine aa.ite ?_ (aa.ite (aa.dead _ (dm.bind _ (uns _))) ?_)
  ·refine aa.viewAt a.block (aa.pure _ rfl) (fun b t=> ?_) (fun b t=> ?_)
   ·exact aa.dead _ (dm.bind _ (uns _))
   ·exact dm.bind _ (uns _)
  ·refine aa.shape a.block (uns _) fun s=> ?_
   cases s with
   |none=>exact aa.unsupported _ _
   |some s=>
    refine aa.xh _ (fun fs=>by simp only [ad6];rfl) ?_;show aa P π .val (match cellAtBytes P P.depth s.1 (s.2 / P.cellsOf s.1) a.off n with|some off=>_|none=>_) (match cellAtBytes P P.depth s.1 (s.2 / P.cellsOf s.1) a.off n with|some off=>_|none=>_);cases cellAtBytes P P.depth s.1 (s.2 / P.cellsOf s.1) a.off n with
    |none=>exact aa.unsupported _ _
    |some off=>exact aa.pure _ rfl
theorem dm.alr (t:TypeId)(a:Addr)(y:Value)(ha:V a.block){h:Value→Sem β}:dm P V (Builtin.unsafeAdd_ #[] t #[.pointer (some a),y] >>=h):=by
 refine dm.bind _ ?_;unfold Builtin.unsafeAdd_;refine dm.asInt y _ fun n=> ?_
 refine dm.ite ?_ (dm.ite (dm.bind _ (uns _)) ?_)
 ·exact dm.viewAtV ha fun _ _=>dm.bind _ (uns _)
 ·exact .shapeV _ _ ha (uns _)
theorem aa.asNumber (a:Addr)(l:Bool):aa P π .val (Go.asNumber (π.addr a) l) (Go.asNumber a l):=
 aa.bind .block (aa.newObj (.number a l)) fun r=>aa.pure _ rfl
theorem aa.movedNumber (t:TypeId)(x y:Value)(hx:∃a,x= .pointer a):aa P π .val (Go.movedNumber t (al π x) (al π y)) (Go.movedNumber t x y):=by
 obtain ⟨a,rfl⟩:=hx;unfold Go.movedNumber;refine aa.bk (aa.underlying t) fun td=> ?_
 have tail:aa P π .val (match al π (.pointer a),(⟨fun x=>Builtin.unsafeAdd_ #[] t #[x,al π y],fun x=>Builtin.unsafeAdd_ #[] t #[x,al π y]⟩:(Value→Sem Value)×(Value→Sem Value)) with
   | .pointer (some n),_=>do
    let (a,lost) ←Go.behindNumber n
    match ←Builtin.unsafeAdd_ #[] t #[.pointer (some a),al π y] with
    | .pointer (some b)=>Go.asNumber b lost
    |v=>Pure.pure v
   |x,f=>f.1 x) (match Value.pointer a,(⟨fun x=>Builtin.unsafeAdd_ #[] t #[x,y],fun x=>Builtin.unsafeAdd_ #[] t #[x,y]⟩:(Value→Sem Value)×(Value→Sem Value)) with
   | .pointer (some n),_=>do
    let (a,lost) ←Go.behindNumber n
    match ←Builtin.unsafeAdd_ #[] t #[.pointer (some a),y] with
    | .pointer (some b)=>Go.asNumber b lost
    |v=>Pure.pure v
   |x,f=>f.1 x):=by
  cases a with
  |none=>exact aa.unsafeAdd t none y
  |some n=>
   refine aa.behindNumber n (fun a lost=> ?_) ?_
   ·refine aa.bind .val (aa.unsafeAdd t (some a) y) fun v=> ?_
    cases v with
    |pointer b=>cases b with
     |none=>exact aa.pure _ rfl
     |some b=>exact aa.asNumber b lost
    |_=>exact aa.pure _ rfl
   ·exact dm.alr (V:=fun x=>x=n.block) t n y rfl
 refine aa.ite (aa.dead _ (dm.bind _ (uns _))) ?_;cases a with
 |none=>exact tail
 |some n=>exact tail
theorem aa.noView (a:Addr):aa P π (.none Unit) (Go.noView (π.addr a)) (Go.noView a):=by
 unfold Go.noView;exact aa.viewAt a.block (aa.bm _) (fun _ _=>aa.unsupported _ _) (fun _ _=>uns _)
theorem aa.byteOf (a:Addr):aa P π (.none Nat) (Go.byteOf (π.addr a)) (Go.byteOf a):=by
 unfold Go.byteOf;obtain ⟨b,o,sp⟩:=a;cases sp with
 |some s=>exact aa.bm _
 |none=>
  refine aa.xh _ (fun fs=>by simp only [uh];rfl) ?_;refine aa.bk (aa.noView ⟨b,o,none⟩) fun _=> ?_
  refine aa.shape b (.stuck _) fun s=> ?_
  cases s with
  |none=>exact aa.stuck _ _
  |some s=>
   refine aa.ite (aa.bm _) ?_;dsimp only [Pm.addr];split
   ·exact aa.bm _
   ·exact aa.stuck _ _
theorem aa.addrMod (k:IntKind)(a:Addr)(n:Int):aa P π .val (Op.addrMod k (π.addr a) n) (Op.addrMod k a n):=by
 unfold Op.addrMod;refine aa.shape a.block (uns _) fun s=> ?_
 cases s with
 |none=>exact aa.unsupported _ _
 |some s=>
  refine aa.bk (aa.typeInfo _) fun i=> ?_
  refine aa.ite (aa.dead _ (dm.bind _ (uns _))) ?_;exact aa.bk (aa.byteOf a) fun b=>aa.pure _ rfl
theorem dm.ahd (k:IntKind)(a:Addr)(n:Int)(ha:V a.block):dm P V (Op.addrMod k a n):=by
 unfold Op.addrMod;exact .shapeV _ _ ha (uns _)
theorem dm.twoPlaces (hg:P.globals.size=0)(a b:Addr):dm P V (Op.twoPlaces a b):=by
 unfold Op.twoPlaces;refine .program _ ?_;show dm P V (if (a.block !=b.block || decide (a.block≥P.globals.size))=true then _ else _);rw [hg,if_pos ae];exact dm.bind _ (uns _)
theorem aa.floatArith (op:BinOp)(k:FloatKind)(x y:Nat):aa P π .val (Op.floatArith op k x y) (Op.floatArith op k x y):=by
 unfold Op.floatArith;have tail:∀r:Option Nat,aa P π .val (match r with|some r=>Pure.pure (.float k r)|none=>do Pure.pure (.float k (←Go.choose (.nanBits k x y)))) (match r with|some r=>Pure.pure (.float k r)|none=>do Pure.pure (.float k (←Go.choose (.nanBits k x y)))):=fun r=>by
  cases r with
  |some r=>exact aa.pure _ rfl
  |none=>exact aa.bk (aa.choose _) fun n=>aa.pure _ rfl
 cases op <;> first|exact aa.bk (aa.bm _) tail|exact aa.dead _ (dm.bind _ (.stuck _))
theorem aa.floatCmp (op:BinOp)(k:FloatKind)(x y:Nat):aa P π .val (Op.floatCmp op k x y) (Op.floatCmp op k x y):=by
 unfold Op.floatCmp;cases op <;> first|exact aa.pure _ rfl|exact aa.stuck _ _
theorem aa.tq (op:BinOp)(k:FloatKind)(x y:Nat):aa P π (.none Nat) (Op.Complex.arith op k x y) (Op.Complex.arith op k x y):=by
 unfold Op.Complex.arith;refine aa.bind .val (aa.floatArith op k x y) fun v=> ?_
 cases v <;> first|exact aa.bm _|exact aa.stuck _ _
theorem aa.cCmp (op:BinOp)(k:FloatKind)(x y:Nat):aa P π (.none Bool) (Op.Complex.cmp op k x y) (Op.Complex.cmp op k x y):=by
 unfold Op.Complex.cmp;exact aa.bind .val (aa.floatCmp op k x y) fun v=>aa.asBool v
theorem aa.floatToFloat (k:FloatKind)(b:Nat)(d:FloatKind):aa P π .val (Conv.floatToFloat k b d) (Conv.floatToFloat k b d):=by
 unfold Conv.floatToFloat;refine aa.ite (aa.pure _ rfl) ?_;cases k.decode b with
 |nan _ _=>exact aa.bk (aa.choose _) fun n=>aa.pure _ rfl
 |infinity s=>exact aa.pure _ rfl
 |number s m e=>exact aa.ite (aa.bk (aa.choose _) fun n=>aa.pure _ rfl) (aa.pure _ rfl)
theorem aa.ac0 (k:FloatKind)(x:Nat)(d:FloatKind):aa P π (.none Nat) (Op.Complex.conv k x d) (Op.Complex.conv k x d):=by
 unfold Op.Complex.conv;refine aa.ite (aa.bm _) ?_;refine aa.bind .val (aa.floatToFloat _ _ _) fun v=> ?_
 cases v <;> first|exact aa.bm _|exact aa.stuck _ _
theorem aa.cProduct (a b c d:Nat):aa P π (.none (Nat×Nat)) (Op.Complex.product a b c d) (Op.Complex.product a b c d):=by
 unfold Op.Complex.product
 repeat' (first|exact aa.tq _ _ _ _|exact aa.bm _|refine aa.bk ?_ fun _=> ?_)
theorem aa.aep (s a b c d:Nat):aa P π (.none (Nat×Nat)) (Op.Complex.corrected s a b c d) (Op.Complex.corrected s a b c d):=by
 unfold Op.Complex.corrected
 repeat' (first|exact aa.tq _ _ _ _|exact aa.bm _|refine aa.bk ?_ fun _=> ?_)
theorem aa.amf (a b c d:Nat):aa P π (.none (Nat×Nat)) (Op.Complex.quotient a b c d) (Op.Complex.quotient a b c d):=by
 have key:∀(e f:Nat)(zero:Bool),aa P π (.none (Nat×Nat)) (do
   if !(Op.Complex.isNaN e && Op.Complex.isNaN f) then Pure.pure (e,f)
   else if zero && (!Op.Complex.isNaN a || !Op.Complex.isNaN b) then
    Pure.pure (←Op.Complex.mul (Op.Complex.copysign Op.Complex.inf c) a,←Op.Complex.mul (Op.Complex.copysign Op.Complex.inf c) b)
   else if (Op.Complex.isInf a || Op.Complex.isInf b) && Op.Complex.isFinite c && Op.Complex.isFinite d then
    Op.Complex.corrected Op.Complex.inf (Op.Complex.inf2one a) (Op.Complex.inf2one b) c d
   else if (Op.Complex.isInf c || Op.Complex.isInf d) && Op.Complex.isFinite a && Op.Complex.isFinite b then
    Op.Complex.corrected 0 a b (Op.Complex.inf2one c) (Op.Complex.inf2one d)
   else Pure.pure (e,f)) (do
   if !(Op.Complex.isNaN e && Op.Complex.isNaN f) then Pure.pure (e,f)
   else if zero && (!Op.Complex.isNaN a || !Op.Complex.isNaN b) then
    Pure.pure (←Op.Complex.mul (Op.Complex.copysign Op.Complex.inf c) a,←Op.Complex.mul (Op.Complex.copysign Op.Complex.inf c) b)
   else if (Op.Complex.isInf a || Op.Complex.isInf b) && Op.Complex.isFinite c && Op.Complex.isFinite d then
    Op.Complex.corrected Op.Complex.inf (Op.Complex.inf2one a) (Op.Complex.inf2one b) c d
   else if (Op.Complex.isInf c || Op.Complex.isInf d) && Op.Complex.isFinite a && Op.Complex.isFinite b then
    Op.Complex.corrected 0 a b (Op.Complex.inf2one c) (Op.Complex.inf2one d)
   else Pure.pure (e,f)):=fun e f zero=>
  aa.ite (aa.bm _) (aa.ite (aa.bk (aa.tq _ _ _ _) fun _=>aa.bk (aa.tq _ _ _ _) fun _=>aa.bm _) (aa.ite (aa.aep _ _ _ _ _) (aa.ite (aa.aep _ _ _ _ _) (aa.bm _))))
 have tail:∀x:Nat×Nat,aa P π (.none (Nat×Nat)) (do
   let zero:=(←Op.Complex.cmp .eql .f64 c 0) && (←Op.Complex.cmp .eql .f64 d 0)
   if !(Op.Complex.isNaN x.1 && Op.Complex.isNaN x.2) then Pure.pure (x.1,x.2)
   else if zero && (!Op.Complex.isNaN a || !Op.Complex.isNaN b) then
    Pure.pure (←Op.Complex.mul (Op.Complex.copysign Op.Complex.inf c) a,←Op.Complex.mul (Op.Complex.copysign Op.Complex.inf c) b)
   else if (Op.Complex.isInf a || Op.Complex.isInf b) && Op.Complex.isFinite c && Op.Complex.isFinite d then
    Op.Complex.corrected Op.Complex.inf (Op.Complex.inf2one a) (Op.Complex.inf2one b) c d
   else if (Op.Complex.isInf c || Op.Complex.isInf d) && Op.Complex.isFinite a && Op.Complex.isFinite b then
    Op.Complex.corrected 0 a b (Op.Complex.inf2one c) (Op.Complex.inf2one d)
   else Pure.pure (x.1,x.2)) (do
   let zero:=(←Op.Complex.cmp .eql .f64 c 0) && (←Op.Complex.cmp .eql .f64 d 0)
   if !(Op.Complex.isNaN x.1 && Op.Complex.isNaN x.2) then Pure.pure (x.1,x.2)
   else if zero && (!Op.Complex.isNaN a || !Op.Complex.isNaN b) then
    Pure.pure (←Op.Complex.mul (Op.Complex.copysign Op.Complex.inf c) a,←Op.Complex.mul (Op.Complex.copysign Op.Complex.inf c) b)
   else if (Op.Complex.isInf a || Op.Complex.isInf b) && Op.Complex.isFinite c && Op.Complex.isFinite d then
    Op.Complex.corrected Op.Complex.inf (Op.Complex.inf2one a) (Op.Complex.inf2one b) c d
   else if (Op.Complex.isInf c || Op.Complex.isInf d) && Op.Complex.isFinite a && Op.Complex.isFinite b then
    Op.Complex.corrected 0 a b (Op.Complex.inf2one c) (Op.Complex.inf2one d)
   else Pure.pure (x.1,x.2)):=fun x=>
  aa.bk (aa.cCmp _ _ _ _) fun _=>aa.bk (aa.cCmp _ _ _ _) fun _=>key _ _ _
 have A:∀{op:BinOp}{x y:Nat}{h:Nat→Sem (Nat×Nat)},(∀n,aa P π (.none (Nat×Nat)) (h n) (h n))→aa P π (.none (Nat×Nat)) (Op.Complex.arith op .f64 x y >>=h) (Op.Complex.arith op .f64 x y >>=h):=fun hh=>aa.bk (aa.tq _ _ _ _) hh
 unfold Op.Complex.quotient;refine aa.bk (aa.cCmp _ _ _ _) fun t=>aa.ite ?_ ?_
 ·exact A fun r=>A fun d1=>A fun d2=>A fun d3=>A fun d4=>A fun d5=>A fun d6=>A fun d7=>A fun d8=>aa.bk (aa.bm _) tail
 ·exact A fun r=>A fun d1=>A fun d2=>A fun d3=>A fun d4=>A fun d5=>A fun d6=>A fun d7=>A fun d8=>aa.bk (aa.bm _) tail
theorem aa.complexOp (op:BinOp)(k:FloatKind)(a b c d:Nat):aa P π .val (Op.complexOp op k a b c d) (Op.complexOp op k a b c d):=by
 have cmps:∀f:Bool→Bool→Bool,aa P π .val (do Pure.pure (.bool (f (←Op.Complex.cmp .eql k a c) (←Op.Complex.cmp .eql k b d)))) (do Pure.pure (.bool (f (←Op.Complex.cmp .eql k a c) (←Op.Complex.cmp .eql k b d)))):=fun f=>
  aa.bk (aa.cCmp _ _ _ _) fun _=>aa.bk (aa.cCmp _ _ _ _) fun _=>aa.pure _ rfl
 have muls:∀op':BinOp,aa P π .val (do
   let (a,b,c,d):=(←Op.Complex.conv k a .f64,←Op.Complex.conv k b .f64,←Op.Complex.conv k c .f64,←Op.Complex.conv k d .f64)
   let (e,f) ←if op'== .mul then Op.Complex.product a b c d else Op.Complex.quotient a b c d
   Pure.pure (.complex k (←Op.Complex.conv .f64 e k) (←Op.Complex.conv .f64 f k))) (do
   let (a,b,c,d):=(←Op.Complex.conv k a .f64,←Op.Complex.conv k b .f64,←Op.Complex.conv k c .f64,←Op.Complex.conv k d .f64)
   let (e,f) ←if op'== .mul then Op.Complex.product a b c d else Op.Complex.quotient a b c d
   Pure.pure (.complex k (←Op.Complex.conv .f64 e k) (←Op.Complex.conv .f64 f k))):=fun op'=>by
  refine aa.bk (aa.ac0 _ _ _) fun a=>aa.bk (aa.ac0 _ _ _) fun b=>aa.bk (aa.ac0 _ _ _) fun c=>aa.bk (aa.ac0 _ _ _) fun d=> ?_
  have tail:∀x:Nat×Nat,aa P π .val (do Pure.pure (.complex k (←Op.Complex.conv .f64 x.1 k) (←Op.Complex.conv .f64 x.2 k))) (do Pure.pure (.complex k (←Op.Complex.conv .f64 x.1 k) (←Op.Complex.conv .f64 x.2 k))):=fun x=>
   aa.bk (aa.ac0 _ _ _) fun _=>aa.bk (aa.ac0 _ _ _) fun _=>aa.pure _ rfl
  exact aa.ite (aa.bk (aa.cProduct _ _ _ _) tail) (aa.bk (aa.amf _ _ _ _) tail)
 unfold Op.complexOp;cases op with
 |add=>exact aa.bk (aa.tq _ _ _ _) fun _=>aa.bk (aa.tq _ _ _ _) fun _=>aa.pure _ rfl
 |sub=>exact aa.bk (aa.tq _ _ _ _) fun _=>aa.bk (aa.tq _ _ _ _) fun _=>aa.pure _ rfl
 |mul=>exact muls .mul
 |quo=>exact muls .quo
 |eql=>exact cmps fun a b=>a && b
 |neq=>exact cmps fun a b=> !(a && b)
 |_=>exact aa.stuck _ _
theorem aa.equal (hF:fw P π)(hg:P.globals.size=0)(n:Nat)(t:TypeId)(h:j8 P n t=true)(x y:Value):aa P π (.none Bool) (Op.equal t (al π x) (al π y)) (Op.equal t x y):=aa.equalIn hF hg n t h _ x y
theorem aa.binOpNum (hF:fw P π)(hg:P.globals.size=0)(op:BinOp)(t:TypeId)(x y:Value)(ht:∀d,P.underlying t=some d→(match d with| .unsafePointer=>true|_=>false)=false)(h1:op≠ .eql)(h2:op≠ .neq):aa P π .val (Go.binOp op t (al π x) (al π y)) (Go.binOp op t x y):=by
 cases x with
 |int k a=>
  cases y with
  |int j b=>
   by_cases hs:op= .shl
   ·subst hs;exact aa.shift hF .shl k j a b
   by_cases hr:op= .shr
   ·subst hr;exact aa.shift hF .shr k j a b
   cases op <;> first|exact absurd rfl h1|exact absurd rfl h2|exact absurd rfl hs|exact absurd rfl hr|exact aa.ite (aa.stuck _ _) (aa.intArith _ _ _ _)|exact aa.ite (aa.stuck _ _) (aa.intDiv hF _ _ _ _)|exact aa.ite (aa.stuck _ _) (aa.intBits _ _ _ _)|exact aa.ite (aa.stuck _ _) (aa.intCmp _ _ _)
  |pointer b=>
   cases b with
   |none=>cases op <;> first|exact absurd rfl h1|exact absurd rfl h2|exact aa.unsupported _ _|exact aa.movedNumber t (.pointer none) (.int k a) ⟨_,rfl⟩
   |some b=>cases op <;> first|exact absurd rfl h1|exact absurd rfl h2|exact aa.unsupported _ _|exact aa.movedNumber t (.pointer (some b)) (.int k a) ⟨_,rfl⟩|exact aa.behindNumber b (fun a lost=>aa.addrMod _ _ _) (dm.ahd (V:=fun x=>x=b.block) _ _ _ rfl)
  |_=>cases op <;> first|exact absurd rfl h1|exact absurd rfl h2|exact aa.stuck _ _
 |float k a=>
  cases y with
  |float j b=>cases op <;> first|exact absurd rfl h1|exact absurd rfl h2|exact aa.ite (aa.stuck _ _) (aa.floatArith _ _ _ _)|exact aa.ite (aa.stuck _ _) (aa.floatCmp _ _ _ _)
  |pointer b=>cases op <;> first|exact absurd rfl h1|exact absurd rfl h2|exact aa.unsupported _ _
  |_=>cases op <;> first|exact absurd rfl h1|exact absurd rfl h2|exact aa.stuck _ _
 |complex k a b=>
  cases y with
  |complex j c d=>cases op <;> first|exact absurd rfl h1|exact absurd rfl h2|exact aa.ite (aa.stuck _ _) (aa.complexOp _ k a b c d)
  |pointer b=>cases op <;> first|exact absurd rfl h1|exact absurd rfl h2|exact aa.unsupported _ _
  |_=>cases op <;> first|exact absurd rfl h1|exact absurd rfl h2|exact aa.stuck _ _
 |string s=>
  cases y with
  |string r=>
   have h:=aa.stringOp (P:=P) (π:=π) op s r;cases op <;> first|exact absurd rfl h1|exact absurd rfl h2|exact h
  |pointer b=>cases op <;> first|exact absurd rfl h1|exact absurd rfl h2|exact aa.unsupported _ _
  |_=>cases op <;> first|exact absurd rfl h1|exact absurd rfl h2|exact aa.stuck _ _
 |pointer a=>
  have mv:∀y,aa P π .val (Go.movedNumber t (al π (.pointer a)) (al π y)) (Go.movedNumber t (.pointer a) y):=fun y=>aa.movedNumber t (.pointer a) y ⟨_,rfl⟩
  have un:∀y,aa P π .val (do if (←Go.underlying t) matches .unsafePointer then Go.movedPointer t (al π (.pointer a)) (al π y) else Go.movedNumber t (al π (.pointer a)) (al π y)) (do if (←Go.underlying t) matches .unsafePointer then Go.movedPointer t (.pointer a) y else Go.movedNumber t (.pointer a) y):=fun y=>by
   cases hu:P.underlying t with
   |none=>exact aa.ov hu
   |some td=>
    refine aa.under hu ?_;have:=ht td hu;cases td <;> first|exact mv y|simp at this
  cases a with
  |none=>
   cases y with
   |int j b=>cases op <;> first|exact absurd rfl h1|exact absurd rfl h2|exact un _|exact mv (.int j (-b))|exact aa.unsupported _ _
   |pointer b=>cases b <;> cases op <;> first|exact absurd rfl h1|exact absurd rfl h2|exact aa.unsupported _ _
   |_=>cases op <;> first|exact absurd rfl h1|exact absurd rfl h2|exact aa.unsupported _ _
  |some a=>
   have two:∀{β:Type}(b:Addr)(h:Nat×Nat→Sem β),dm P (fun _=>False) (do let x:=(←Go.behindNumber a).1;let y:=(←Go.behindNumber b).1;Op.twoPlaces x y >>=h):=fun b h=>
    (fg.behindNumber a).xe fun x=>(fg.behindNumber b).xe fun y=>dm.bind _ (dm.twoPlaces hg _ _)
   cases y with
   |int j b=>cases op <;> first|exact absurd rfl h1|exact absurd rfl h2|exact un _|exact mv (.int j (-b))|exact aa.unsupported _ _|exact aa.behindNumber a (fun a lost=>aa.addrMod _ _ _) (dm.ahd (V:=fun x=>x=a.block) _ _ _ rfl)
   |pointer b=>
    cases b with
    |none=>cases op <;> first|exact absurd rfl h1|exact absurd rfl h2|exact aa.unsupported _ _
    |some b=>cases op <;> first|exact absurd rfl h1|exact absurd rfl h2|exact aa.unsupported _ _|exact aa.dead _ (two b _)
   |_=>cases op <;> first|exact absurd rfl h1|exact absurd rfl h2|exact aa.unsupported _ _
 |_=>
  cases y with
  |pointer b=>cases op <;> first|exact absurd rfl h1|exact absurd rfl h2|exact aa.unsupported _ _
  |_=>cases op <;> first|exact absurd rfl h1|exact absurd rfl h2|exact aa.stuck _ _
end
section
variable {P:Program}{π:Pm}{α β:Type}{V:Nat→Prop}
theorem xj (gs:Array Func):∀(n:Nat)(t:TypeId),(aq P gs).eqGuardType n t=P.eqGuardType n t
 |0,_=>rfl
 |n+1,t=>by
  have ih:(aq P gs).eqGuardType n=P.eqGuardType n:=funext fun t=>xj gs n t
  unfold Program.eqGuardType;rw [ih];rfl
theorem aj2 {v:Value}(h:isNil v=true):al π v=v:=by
 cases v with
 |pointer a=>cases a <;> simp [isNil] at h;rfl
 |slice a l c=>cases a <;> simp [isNil] at h;rfl
 |map a=>cases a <;> simp [isNil] at h;rfl
 |chan a=>cases a <;> simp [isNil] at h;rfl
 |nilFunc=>rfl
 |nilIface=>rfl
 |_=>simp [isNil] at h
theorem aa.binOpEq (hF:fw P π)(t:TypeId)(a b:Value)(h:aa P π (.none Bool) (Op.equal t (al π a) (al π b)) (Op.equal t a b))(neg:Bool):
  aa P π .val (Go.binOp (if neg then .neq else .eql) t (al π a) (al π b)) (Go.binOp (if neg then .neq else .eql) t a b):=by
 have e:∀f:Bool→Bool,aa P π .val (do Pure.pure (.bool (f (←Op.equal t (al π a) (al π b))))) (do Pure.pure (.bool (f (←Op.equal t a b)))):=fun f=>aa.bk h fun r=>aa.pure _ rfl
 have st:∀(op:BinOp)(r s:ByteArray),aa P π .val (Op.stringOp op r s) (Op.stringOp op r s):=fun op r s=>aa.stringOp op r s
 cases neg with
 |false=>
  cases a <;> cases b <;> first
   |exact e id
   |exact aa.ite (aa.stuck _ _) (aa.intCmp .eql _ _)
   |exact aa.ite (aa.stuck _ _) (aa.floatCmp .eql _ _ _)
   |exact aa.ite (aa.stuck _ _) (aa.complexOp .eql _ _ _ _ _)
   |exact st .eql _ _
 |true=>
  cases a <;> cases b <;> first
   |exact e not
   |exact aa.ite (aa.stuck _ _) (aa.intCmp .neq _ _)
   |exact aa.ite (aa.stuck _ _) (aa.floatCmp .neq _ _ _)
   |exact aa.ite (aa.stuck _ _) (aa.complexOp .neq _ _ _ _ _)
   |exact st .neq _ _
theorem aa.aed {n:Nat}{t:TypeId}(h:j8 P (n+1) t=true)(d:Nat):aa P π (.none Bool) (Op.eqGuardIn d t .nilIface .nilIface) (Op.eqGuardIn d t .nilIface .nilIface):=by
 cases d with
 |zero=>exact aa.unsupported _ _
 |succ d=>
  unfold Op.eqGuardIn;cases hu:P.underlying t with
  |none=>exact aa.ov hu
  |some td=>
   refine aa.under hu ?_;simp only [j8,hu] at h;cases td <;> first|exact aa.bm _|simp at h
theorem aa.guarded (hF:fw P π)(hg:P.globals.size=0)(op:BinOp)(t:TypeId)(x y:Operand)(a b:Value)(hok:aba P op t y=true)(hy:∀v,y= .const v→b=v):
  aa P π .val (do Go.eqGuard op t x y (al π a) (al π b);Go.binOp op t (al π a) (al π b)) (do Go.eqGuard op t x y a b;Go.binOp op t a b):=by
 by_cases hq:op= .eql∨op= .neq
 ·have hcmp:∀neg:Bool,aa P π (.none Bool) (Op.equal t (al π a) (al π b)) (Op.equal t a b)→aa P π .val (Go.binOp (if neg then .neq else .eql) t (al π a) (al π b)) (Go.binOp (if neg then .neq else .eql) t a b):=fun neg h=>aa.binOpEq hF t a b h neg
  have hb:(∃v,y= .const v∧isNil v=true)∨(j8 P 20 t=true∧P.eqGuardType P.depth t=false):=by
   have this:aba P .eql t y=true:=by
    rcases hq with rfl|rfl <;> exact hok
   unfold aba at this;simp only [Bool.or_eq_true] at this;rcases this with h|h
   ·cases y with
    |const v=>exact .inl ⟨v,rfl,h⟩
    |_=>simp at h
   ·simp only [Bool.and_eq_true,Bool.not_eq_true'] at h;exact .inr h
  have guard:aa P π (.none Unit) (Go.eqGuard op t x y (al π a) (al π b)) (Go.eqGuard op t x y a b):=by
   have e0:∀a b:Value,Go.eqGuard op t x y a b=Go.eqGuard .eql t x y a b:=fun a b=>by rcases hq with rfl|rfl <;> rfl
   rw [e0,e0];unfold Go.eqGuard;simp only [Bool.not_true,Bool.false_eq_true,if_false];rcases hb with ⟨v,rfl,hv⟩|⟨hp,he⟩
   ·obtain rfl:=hy v rfl;rw [aj2 hv];cases b with
    |nilIface=>cases a <;> first|exact aa.bm _|(simp only [al,Bool.or_true,if_true];exact aa.bm _)
    |agg c=>simp [isNil] at hv
    |_=>cases a <;> exact aa.bm _
   ·cases a with
    |nilIface=>
     cases b with
     |nilIface=>
      refine aa.ite (aa.bm _) ?_;refine aa.bk (aa.aed (n:=19) hp _) fun r=> ?_
      exact aa.ite (aa.unsupported _ _) (aa.bm _)
     |_=>exact aa.bm _
    |agg ca=>
     cases b with
     |agg cb=>
      intro fs L;refine Tw.program (Tw.program ?_);show Tw _ P π _ _ L (if (!(aq P fs).eqGuardType P.depth t)=true then _ else _) (if (!P.eqGuardType P.depth t)=true then _ else _);rw [xj,he];exact .pure () trivial
     |_=>exact aa.bm _
    |_=>cases b <;> exact aa.bm _
  refine aa.bk guard fun _=> ?_
  have eq:aa P π (.none Bool) (Op.equal t (al π a) (al π b)) (Op.equal t a b):=by
   rcases hb with ⟨v,rfl,hv⟩|⟨hp,he⟩
   ·obtain rfl:=hy v rfl;rw [aj2 hv];exact aa.equalNil hF _ t a b hv
   ·exact aa.equal hF hg 20 t hp a b
  rcases hq with rfl|rfl
  ·exact hcmp false eq
  ·exact hcmp true eq
 ·have h1:op≠ .eql:=fun h=>hq (.inl h)
  have h2:op≠ .neq:=fun h=>hq (.inr h)
  have g:∀a b:Value,Go.eqGuard op t x y a b=Pure.pure ():=fun a b=>by
   unfold Go.eqGuard;cases op <;> first|exact absurd rfl h1|exact absurd rfl h2|rfl
  rw [g,g];refine aa.bk (aa.bm _) fun _=> ?_
  refine aa.binOpNum hF hg op t a b (fun d hd=> ?_) h1 h2;have:(!(match P.underlying t with|some .unsafePointer=>true|_=>false))=true:=by
   cases op <;> first|exact absurd rfl h1|exact absurd rfl h2|exact hok
  rw [hd] at this;cases d <;> first|rfl|simp at this
end
section
variable {P:Program}{π:Pm}{α β:Type}{V:Nat→Prop}
theorem forInV {δ:Type}{f' f:Value→δ→Sem (ForInStep δ)}(hf:∀x b,aa P π (.none (ForInStep δ)) (f' (al π x) b) (f x b))(as:Array Value)(b:δ):aa P π (.none δ) (forIn (az π as) b f') (forIn as b f):=by
 haveI:=tt
 rw [←Array.forIn_toList,←Array.forIn_toList,ng];have key:∀(l:List Value) b,aa P π (.none δ) (forIn (jr π l) b f') (forIn l b f):=by
  intro l
  induction l with
  |nil=>
   intro b;rw [jr,List.forIn_nil,List.forIn_nil];exact aa.bm _
  |cons x l ih=>
   intro b;rw [jr,List.forIn_cons,List.forIn_cons];refine aa.bk (hf x b) fun r=> ?_
   cases r with
   |done b=>exact aa.bm _
   |yield b=>exact ih b
 exact key _ b
theorem aa.bytesToString (x:Value):aa P π .val (Conv.bytesToString (al π x)) (Conv.bytesToString x):=by
 unfold Conv.bytesToString;cases x with
 |slice a l c=>
  cases a with
  |none=>exact aa.pure _ rfl
  |some a=>
   refine aa.bind .pq (aa.loadCells a l) fun cs=> ?_
   refine aa.bk (forInV (fun v b=> ?_) cs _) fun s=>aa.pure _ rfl
   cases v with
   |int k n=>cases k <;> first|exact aa.stuck _ _|exact aa.bm _
   |_=>exact aa.stuck _ _
 |_=>exact aa.stuck _ _
theorem amc (s:ByteArray)(n:Nat):az π (s.data.map (fun b=>Value.int .u8 b.toNat)++Array.replicate n (.int .u8 0))=s.data.map (fun b=>Value.int .u8 b.toNat)++Array.replicate n (.int .u8 0):=by
 rw [jl,agi];congr 1;rw [fh,Array.map_replicate];rfl
theorem aa.stringToBytes (e:TypeId)(s:ByteArray):aa P π .val (Conv.stringToBytes e s) (Conv.stringToBytes e s):=by
 unfold Conv.stringToBytes;refine aa.bk (aa.choose _) fun cap=> ?_
 intro fs L;have hn:=Tw.new (P':=aq P fs) (P:=P) (π:=π) (f:=al π) (q:=fun _=>True) (L:=L) (.cells (s.data.map (fun b=>Value.int .u8 b.toNat)++Array.replicate (cap-s.size) (.int .u8 0)) e) rfl
  (k':=fun r=>do Go.markStringish ⟨r,0,none⟩;Pure.pure (Value.slice (some ⟨r,0,none⟩) s.size cap))
  (k:=fun r=>do Go.markStringish ⟨r,0,none⟩;Pure.pure (Value.slice (some ⟨r,0,none⟩) s.size cap)) (fun r=>by
   refine Tw.shape r (fun x=> ?_) (.inl ae);cases x with
   |none=>exact .pure (Value.slice (some ⟨r,0,none⟩) s.size cap) trivial
   |some x=>exact .freeze ⟨r,x.2,none⟩ 1 ae (.pure (Value.slice (some ⟨r,0,none⟩) s.size cap) trivial))
 rw [show cx π (.cells (s.data.map (fun b=>Value.int .u8 b.toNat)++Array.replicate (cap-s.size) (.int .u8 0)) e)= .cells (s.data.map (fun b=>Value.int .u8 b.toNat)++Array.replicate (cap-s.size) (.int .u8 0)) e from by rw [cx,amc]] at hn;exact hn
theorem aa.floatToInt (k:FloatKind)(b:Nat)(d:IntKind):aa P π .val (Conv.floatToInt k b d) (Conv.floatToInt k b d):=by
 unfold Conv.floatToInt;have any:aa P π .val (do Pure.pure (.int d (d.wrap (←Go.choose (.floatToInt k b d))))) (do Pure.pure (.int d (d.wrap (←Go.choose (.floatToInt k b d))))):=aa.bk (aa.choose _) fun n=>aa.pure _ rfl
 cases (k.decode b).toInt .zero with
 |none=>exact any
 |some n=>exact aa.ite (aa.pure _ rfl) any
theorem aa.convert (src dst:TypeId)(h:ab5 P src dst=true)(x:Value):aa P π .val (Go.convert src dst (al π x)) (Go.convert src dst x):=by
 unfold Go.convert;unfold ab5 at h;cases hs:P.underlying src with
 |none=>exact aa.ov hs
 |some us=>
  cases hd:P.underlying dst with
  |none=>exact aa.under hs (aa.ov hd)
  |some ud=>
   refine aa.under hs (aa.under hd ?_);rw [hs,hd] at h;cases ud with
   |int k=>
    cases us with
    |int l=>
     cases x with
     |int j n=>exact aa.pure _ rfl
     |float j b=>exact aa.floatToInt j b k
     |pointer a=>cases a <;> exact aa.unsupported _ _
     |slice a _ _=>cases a <;> exact aa.unsupported _ _
     |_=>exact aa.unsupported _ _
    |float l=>
     cases x with
     |int j n=>exact aa.pure _ rfl
     |float j b=>exact aa.floatToInt j b k
     |slice a _ _=>cases a <;> exact aa.unsupported _ _
     |_=>exact aa.unsupported _ _
    |_=>simp at h
   |slice e=>
    cases us with
    |string=>
     simp only at h;cases x with
     |string s=>
      cases he:P.underlying e with
      |none=>exact aa.ov he
      |some te=>
       rw [he] at h;refine aa.under he ?_;cases te with
       |int q=>cases q <;> first|exact aa.stringToBytes e s|simp at h
       |_=>simp at h
     |slice a _ _=>cases a <;> exact aa.unsupported _ _
     |_=>exact aa.unsupported _ _
    |_=>simp at h
   |string=>
    cases us with
    |slice e=>
     simp only at h;have hbs:=aa.bytesToString (P:=P) (π:=π) x;cases x with
     |int j n=>exact aa.pure _ rfl
     |string s=>exact aa.pure _ rfl
     |_=>
      cases he:P.underlying e with
      |none=>exact aa.ov he
      |some te=>
       rw [he] at h;refine aa.under he ?_;cases te with
       |int q=>cases q <;> first|exact hbs|simp at h
       |_=>simp at h
    |_=>simp at h
   |_=>cases us <;> simp at h
theorem aa.append (hF:fw P π)(ts:Array TypeId)(ty:TypeId)(args:Array Value):aa P π .val (Builtin.append_ ts ty (az π args)) (Builtin.append_ ts ty args):=by
 unfold Builtin.append_;rw [ja,ja];cases ts[0]? with
 |none=>exact aa.stuck _ _
 |some sT=>
  cases args[0]? with
  |none=>exact aa.stuck _ _
  |some s=>
   cases args[1]? with
   |none=>exact aa.stuck _ _
   |some x=>
    refine aa.bk (aa.underlying sT) fun d=> ?_
    cases d with
    |slice elem=>
     cases s with
     |slice base sLen sCap=>
      refine aa.bk (aa.sizeOf elem) fun size=> ?_
      have app:∀(zeros:Bool)(n:Nat),aa P π .pq (if (!zeros)=true then Builtin.firstCells size n (al π x) else if n*size=0 then Pure.pure #[] else do Pure.pure (Builtin.zeroCells (←Go.zeroValue elem).cells n)) (if (!zeros)=true then Builtin.firstCells size n x else if n*size=0 then Pure.pure #[] else do Pure.pure (Builtin.zeroCells (←Go.zeroValue elem).cells n)):=fun zeros n=>by
       refine aa.ite (aa.firstCells size n x) (aa.ite (aa.pure _ rfl) ?_);exact ue hF fun z hz=>aa.pure _ (zx _ _ (xl hz)).symm
      have st:∀n,aa P π (.none Nat) (Pure.pure n) (Pure.pure n):=fun n=>aa.bm n
      rcases ts[1]? with _|t
      refine aa.bk (aa.bm _) fun zeros=> ?_
      rotate_left
      refine aa.bk (aa.underlying t) fun d=>aa.bk (aa.bm _) fun zeros=> ?_
      all_goals (
       refine aa.ite (aa.bk (aa.asInt x) fun l=>aa.ite (aa.bk (aa.runtimePanic hF _ _) fun _=>aa.bk (aa.typeInfo elem) fun i=>aa.ite (aa.bk (aa.choose _) fun m=>aa.bk (aa.runtimePanic hF _ _) fun _=>aa.bk (st _) fun n=> ?_) (aa.bk (st _) fun n=> ?_)) (aa.bk (aa.typeInfo elem) fun i=>aa.ite (aa.bk (aa.choose _) fun m=>aa.bk (aa.runtimePanic hF _ _) fun _=>aa.bk (st _) fun n=> ?_) (aa.bk (st _) fun n=> ?_))) (aa.bk (aa.lenOf x) fun n=> ?_))
      all_goals (
       refine aa.ite ?_ ?_
       ·refine aa.bind .pq (app zeros n) fun new=> ?_
        cases base with
        |none=>exact aa.pure _ rfl
        |some a=>
         show aa P π .val (Go.storeCells ((π.addr a).add (sLen*size)) (az π new).toList >>=fun _=>Pure.pure (al π (.slice (some a) (sLen+n) sCap))) _;rw [Pm.qz,ng];exact aa.bk (aa.storeCells _ _ 0) fun _=>aa.pure _ rfl
       ·have mem:aa P π .val (do
          let newCap ←Go.choose (.appendCap (sLen+n) sCap elem)
          Go.askRoom (newCap* (←Go.typeInfo elem).bytes)
          let old ←Builtin.firstCells size sLen (al π (.slice base sLen sCap))
          let new ←(if (!zeros)=true then Builtin.firstCells size n (al π x) else if n*size=0 then Pure.pure #[] else do Pure.pure (Builtin.zeroCells (←Go.zeroValue elem).cells n):Sem (Array Value))
          let rest:=Builtin.zeroCells (←Go.zeroValue elem).cells (newCap- (sLen+n))
          Pure.pure (.slice (some (←Go.newRow elem (old++new++rest))) (sLen+n) newCap)) (do
          let newCap ←Go.choose (.appendCap (sLen+n) sCap elem)
          Go.askRoom (newCap* (←Go.typeInfo elem).bytes)
          let old ←Builtin.firstCells size sLen (.slice base sLen sCap)
          let new ←(if (!zeros)=true then Builtin.firstCells size n x else if n*size=0 then Pure.pure #[] else do Pure.pure (Builtin.zeroCells (←Go.zeroValue elem).cells n):Sem (Array Value))
          let rest:=Builtin.zeroCells (←Go.zeroValue elem).cells (newCap- (sLen+n))
          Pure.pure (.slice (some (←Go.newRow elem (old++new++rest))) (sLen+n) newCap)):=by
         refine aa.bk (aa.choose _) fun cap=>aa.bk (aa.typeInfo elem) fun i=>aa.bk (aa.askRoom _) fun _=> ?_
         refine aa.bind .pq (aa.firstCells size sLen (.slice base sLen sCap)) fun old=> ?_
         refine aa.bind .pq (app zeros n) fun new=> ?_
         refine ue hF fun z hz=> ?_
         have iu:=aa.newRow (P:=P) (π:=π) elem (old++new++Builtin.zeroCells z.cells (cap- (sLen+n)));rw [jl,jl,zx _ _ (xl hz)] at iu;exact aa.bind .addr iu fun a=>aa.pure _ rfl
        have big:aa P π .val (do
          if Builtin.nextslicecap (sLen+n) sCap* (←Go.typeInfo elem).bytes > 2 ^ 48 then (if zeros=true then Go.runtimePanic (.error "growslice: len out of range") else do
           if !(←Builtin.mayShare size sLen n (base.map π.addr) (al π x)) then Go.mark .noRoom
           Go.unsupported (.resourceLimit "append: a slice or a string whose bytes no memory bears"))
          let newCap ←Go.choose (.appendCap (sLen+n) sCap elem)
          Go.askRoom (newCap* (←Go.typeInfo elem).bytes)
          let old ←Builtin.firstCells size sLen (al π (.slice base sLen sCap))
          let new ←(if (!zeros)=true then Builtin.firstCells size n (al π x) else if n*size=0 then Pure.pure #[] else do Pure.pure (Builtin.zeroCells (←Go.zeroValue elem).cells n):Sem (Array Value))
          let rest:=Builtin.zeroCells (←Go.zeroValue elem).cells (newCap- (sLen+n))
          Pure.pure (.slice (some (←Go.newRow elem (old++new++rest))) (sLen+n) newCap)) (do
          if Builtin.nextslicecap (sLen+n) sCap* (←Go.typeInfo elem).bytes > 2 ^ 48 then (if zeros=true then Go.runtimePanic (.error "growslice: len out of range") else do
           if !(←Builtin.mayShare size sLen n base x) then Go.mark .noRoom
           Go.unsupported (.resourceLimit "append: a slice or a string whose bytes no memory bears"))
          let newCap ←Go.choose (.appendCap (sLen+n) sCap elem)
          Go.askRoom (newCap* (←Go.typeInfo elem).bytes)
          let old ←Builtin.firstCells size sLen (.slice base sLen sCap)
          let new ←(if (!zeros)=true then Builtin.firstCells size n x else if n*size=0 then Pure.pure #[] else do Pure.pure (Builtin.zeroCells (←Go.zeroValue elem).cells n):Sem (Array Value))
          let rest:=Builtin.zeroCells (←Go.zeroValue elem).cells (newCap- (sLen+n))
          Pure.pure (.slice (some (←Go.newRow elem (old++new++rest))) (sLen+n) newCap)):=by
         refine aa.bk (aa.typeInfo elem) fun i=>aa.ite (aa.bk (aa.ite (aa.runtimePanic hF _ _) (aa.dead _ ?_)) fun _=>mem) mem
         refine (fg.mayShare _ _ _ _ _).xe fun b=> ?_
         refine dm.ite (.mark _ _ ?_) ?_
         ·exact uns _
         ·exact uns _
        exact aa.bk (aa.typeInfo elem) fun i=>aa.ite (aa.bk (aa.runtimePanic hF _ _) fun _=>big) big)
     |_=>exact aa.stuck _ _
    |_=>exact aa.stuck _ _
end
section
variable {P:Program}{π:Pm}{α β:Type}{V:Nat→Prop}
def er (π:Pm)(e:MapEntry):MapEntry:={e with key:=al π e.key,val:=al π e.val}
theorem rp (es:Array MapEntry)(k:Nat):cx π (.map es k)= .map (es.map (er π)) k:=rfl
theorem aa.close (hF:fw P π)(t:Array TypeId)(ty:TypeId)(args:Array Value):aa P π .val (Builtin.close_ t ty (az π args)) (Builtin.close_ t ty args):=by
 unfold Builtin.close_;have bad:∀s',aa P π .val s' (Go.stuck "close: one channel expected"):=fun s'=>aa.stuck _ _
 obtain ⟨l⟩:=args
 match l with
 | []=>exact bad _
 | [v]=>
  cases v with
  |chan r=>
   cases r with
   |none=>exact aa.runtimePanic hF _ _
   |some r=>
    refine aa.getObj r (fun _ _=> .stuck _) fun o ho=> ?_
    cases o with
    |chan room buf closed sent received timer=>
     have tail:fx P π [r] .val (do Go.setObj (π.to r) (cx π (.chan room buf true sent received timer));Pure.pure (.tuple #[])) (do Go.setObj r (.chan room buf true sent received timer);Pure.pure (.tuple #[])):=
      fx.bk (fx.setObj r _ ae) fun _=>aa.any (aa.pure _ rfl)
     cases closed with
     |true=>exact fx.bk (aa.any (aa.runtimePanic hF _ _)) fun _=>tail
     |false=>exact tail
    |_=>exact aa.any (aa.stuck _ _)
  |_=>exact bad _
 |v::w::l=>cases v <;> exact bad _
theorem aa.foldV {f:Value→Value→Sem Value}(hf:∀a b,aa P π .val (f (al π a) (al π b)) (f a b)):∀(l:List Value)(x:Value),aa P π .val ((jr π l).foldlM f (al π x)) (l.foldlM f x)
 | [],x=>aa.pure _ rfl
 |y::l,x=>by
  rw [jr];exact aa.bind .val (hf x y) fun z=>aa.foldV hf l z
theorem aa.max2 (a b:Value):aa P π .val (Builtin.max2 (al π a) (al π b)) (Builtin.max2 a b):=by
 cases a with
 |int k x=>cases b with
  |int j y=>exact aa.pure _ rfl
  |pointer p=>cases p <;> first|exact aa.stuck _ _|exact aa.unsupported _ _
  |_=>exact aa.stuck _ _
 |float k x=>cases b with
  |float j y=>
   show aa P π .val (match k.format.order x y with|none=>_|some .lt=>_|some .gt=>_|some .eq=>_) (match k.format.order x y with|none=>_|some .lt=>_|some .gt=>_|some .eq=>_);cases k.format.order x y with
   |none=>exact aa.bk (aa.choose _) fun n=>aa.pure _ rfl
   |some o=>cases o <;> exact aa.pure _ rfl
  |pointer p=>cases p <;> first|exact aa.stuck _ _|exact aa.unsupported _ _
  |_=>exact aa.stuck _ _
 |string x=>cases b with
  |string y=>exact aa.bind .val (aa.stringOp .geq x y) fun v=>aa.bk (aa.asBool v) fun b=>aa.pure _ rfl
  |pointer p=>cases p <;> first|exact aa.stuck _ _|exact aa.unsupported _ _
  |_=>exact aa.stuck _ _
 |pointer p=>cases p <;> cases b <;> first|exact aa.stuck _ _|exact aa.unsupported _ _|(rename_i q;cases q <;> first|exact aa.stuck _ _|exact aa.unsupported _ _)
 |_=>cases b <;> first|exact aa.stuck _ _|exact aa.unsupported _ _|(rename_i q;cases q <;> first|exact aa.stuck _ _|exact aa.unsupported _ _)
theorem aa.min2 (a b:Value):aa P π .val (Builtin.min2 (al π a) (al π b)) (Builtin.min2 a b):=by
 cases a with
 |int k x=>cases b with
  |int j y=>exact aa.pure _ rfl
  |pointer p=>cases p <;> first|exact aa.stuck _ _|exact aa.unsupported _ _
  |_=>exact aa.stuck _ _
 |float k x=>cases b with
  |float j y=>
   show aa P π .val (match k.format.order x y with|none=>_|some .lt=>_|some .gt=>_|some .eq=>_) (match k.format.order x y with|none=>_|some .lt=>_|some .gt=>_|some .eq=>_);cases k.format.order x y with
   |none=>exact aa.bk (aa.choose _) fun n=>aa.pure _ rfl
   |some o=>cases o <;> exact aa.pure _ rfl
  |pointer p=>cases p <;> first|exact aa.stuck _ _|exact aa.unsupported _ _
  |_=>exact aa.stuck _ _
 |string x=>cases b with
  |string y=>exact aa.bind .val (aa.stringOp .leq x y) fun v=>aa.bk (aa.asBool v) fun b=>aa.pure _ rfl
  |pointer p=>cases p <;> first|exact aa.stuck _ _|exact aa.unsupported _ _
  |_=>exact aa.stuck _ _
 |pointer p=>cases p <;> cases b <;> first|exact aa.stuck _ _|exact aa.unsupported _ _|(rename_i q;cases q <;> first|exact aa.stuck _ _|exact aa.unsupported _ _)
 |_=>cases b <;> first|exact aa.stuck _ _|exact aa.unsupported _ _|(rename_i q;cases q <;> first|exact aa.stuck _ _|exact aa.unsupported _ _)
theorem aa.max (t:Array TypeId)(ty:TypeId)(args:Array Value):aa P π .val (Builtin.max_ t ty (az π args)) (Builtin.max_ t ty args):=by
 unfold Builtin.max_;rw [ng];cases args.toList with
 |nil=>exact aa.stuck _ _
 |cons x l=>exact aa.foldV aa.max2 l x
theorem aa.min (t:Array TypeId)(ty:TypeId)(args:Array Value):aa P π .val (Builtin.min_ t ty (az π args)) (Builtin.min_ t ty args):=by
 unfold Builtin.min_;rw [ng];cases args.toList with
 |nil=>exact aa.stuck _ _
 |cons x l=>exact aa.foldV aa.min2 l x
theorem aa.checkKey (hF:fw P π)(em:Bool):∀(n:Nat)(t:TypeId),j8 P n t=true→∀(d:Nat)(v:Value),aa P π (.none Unit) (Instr.checkKey em d t (al π v)) (Instr.checkKey em d t v)
 |0,t,h=>by simp [j8] at h
 |n+1,t,h=>fun d v=>by
  cases d with
  |zero=>exact aa.unsupported _ _
  |succ d=>
   unfold Instr.checkKey;cases hu:P.underlying t with
   |none=>exact aa.ov hu
   |some td=>
    simp only [j8,hu] at h;refine aa.under hu ?_;cases td with
    |bool=>cases v <;> exact aa.bm _
    |string=>cases v <;> exact aa.bm _
    |int k=>cases v <;> exact aa.bm _
    |struct fs=>
     rw [Array.all_eq_true_iff_forall_mem] at h;cases v <;> (try exact aa.stuck _ _)
     rename_i cs;refine aa.bk (forInA fs (fun f hf b=> ?_) _) fun r=>aa.bm _
     refine aa.ite ?_ (aa.bm _);refine aa.bind .val (aa.part f.type cs f.offset) fun a=> ?_
     exact aa.bk (aa.checkKey hF em n f.type (h f hf) d a) fun _=>aa.bm _
    |array len e=>
     cases v <;> (try exact aa.stuck _ _)
     rename_i cs;refine aa.bk (forInR len (fun i b=> ?_) _) fun r=>aa.bm _
     refine aa.bk (aa.sizeOf e) fun k=> ?_
     refine aa.bind .val (aa.part e cs _) fun a=> ?_
     exact aa.bk (aa.checkKey hF em n e h d a) fun _=>aa.bm _
    |_=>simp at h
theorem aiv (k:TypeDesc)(a b:Value):Instr.sameNow k (al π a) (al π b)=Instr.sameNow k a b:=by
 cases k <;> cases a <;> try rfl
 all_goals (cases b <;> rfl)
def found (π:Pm):Option (Nat×Value)→Option (Nat×Value):=(eg.opt (.pair (.none Nat) .val)).act π
theorem adi (kd:TypeDesc)(k:Value):∀(es:List MapEntry)(i:Nat),Instr.findNow kd (al π k) (es.map (er π)) i=(Instr.findNow kd k es i).map (found π)
 | [],i=>rfl
 |e::es,i=>by
  simp only [List.map_cons,Instr.findNow];rw [show Instr.sameNow kd (al π k) (er π e).key=Instr.sameNow kd k e.key from aiv kd k e.key];cases Instr.sameNow kd k e.key with
  |none=>rfl
  |some b=>cases b with
   |true=>rfl
   |false=>exact adi kd k es (i+1)
theorem aa.findAsking (hF:fw P π)(hg:P.globals.size=0){n:Nat}{t:TypeId}(h:j8 P n t=true)(k:Value):∀(es:List MapEntry)(i:Nat),aa P π (.opt (.pair (.none Nat) .val)) (Instr.findAsking t (al π k) (es.map (er π)) i) (Instr.findAsking t k es i)
 | [],i=>aa.pure _ rfl
 |e::es,i=>by
  simp only [List.map_cons,Instr.findAsking];refine aa.bk (aa.equal hF hg n t h k e.key) fun r=>aa.ite (aa.pure _ rfl) ?_
  exact aa.findAsking hF hg h k es (i+1)
theorem aa.findKey (hF:fw P π)(hg:P.globals.size=0){n:Nat}{t:TypeId}(h:j8 P n t=true)(k:Value)(es:Array MapEntry):aa P π (.opt (.pair (.none Nat) .val)) (Instr.findKey t (al π k) (es.map (er π)).toList) (Instr.findKey t k es.toList):=by
 unfold Instr.findKey;refine aa.bk (aa.underlying t) fun kd=> ?_
 rw [Array.toList_map,adi];cases Instr.findNow kd k es.toList 0 with
 |none=>exact aa.findAsking hF hg h k _ 0
 |some r=>exact aa.pure _ rfl
end
section
variable {P:Program}{π:Pm}{α β:Type}{V:Nat→Prop}
theorem vm {t:TypeId}(h:tv P t=true):∃k e,P.underlying t=some (.map k e)∧j8 P 20 k=true:=by
 unfold tv at h;split at h
 ·exact ⟨_,_,by assumption,h⟩
 ·cases h
theorem er_symm (π:Pm)(e:MapEntry):er π.symm (er π e)=e:=by
 cases e;simp [er,pj]
def eg.ents:eg (Array MapEntry):=⟨fun π es=>es.map (er π),fun π es=>by
 rw [Array.map_map];exact aem (fun e=>er_symm π e) es⟩
theorem addr_beq (a b:Addr):(π.addr a==π.addr b)=(a==b):=by
 show decide (π.addr a=π.addr b)=decide (a=b);exact decide_eq_decide.2 ⟨fun h=>by have:=congrArg π.symm.addr h;simpa using this,fun h=>by rw [h]⟩
theorem an8 (a b:Nat):(π.to a==π.to b)=(a==b):=by
 show decide (π.to a=π.to b)=decide (a=b);exact decide_eq_decide.2 ⟨π.inj,fun h=>by rw [h]⟩
theorem ade (a b:Option Addr):(a.map π.addr==b.map π.addr)=(a==b):=by
 cases a <;> cases b <;> first|rfl|exact addr_beq _ _
theorem ab4 (a b:Option Nat):(a.map π.to==b.map π.to)=(a==b):=by
 cases a <;> cases b <;> first|rfl|exact an8 _ _
theorem aa.lookup (hF:fw P π)(hg:P.globals.size=0)(t:TypeId)(h:tv P t=true)(x k:Value)(ok:Bool):aa P π .val (Instr.lookup t (al π x) (al π k) ok) (Instr.lookup t x k ok):=by
 obtain ⟨kt,e,hu,hp⟩:=vm h;unfold Instr.lookup;generalize (10000:Nat)=dp;refine aa.under hu ?_;have tail:∀es:Array MapEntry,aa P π .val (do
   Instr.checkKey (es.map (er π)).isEmpty dp kt (al π k)
   let (v,f) ←match ←Instr.findKey kt (al π k) (es.map (er π)).toList with
    |some (_,v)=>Pure.pure (v,true)
    |none=>Pure.pure (←Go.zeroValue e,false)
   Pure.pure (if ok then .tuple #[v,.bool f] else v)) (do
   Instr.checkKey es.isEmpty dp kt k
   let (v,f) ←match ←Instr.findKey kt k es.toList with
    |some (_,v)=>Pure.pure (v,true)
    |none=>Pure.pure (←Go.zeroValue e,false)
   Pure.pure (if ok then .tuple #[v,.bool f] else v)):=fun es=>by
  have he:(es.map (er π)).isEmpty=es.isEmpty:=by simp [Array.isEmpty]
  rw [he];refine aa.bk (aa.checkKey hF _ 20 kt hp _ k) fun _=> ?_
  refine aa.bind _ (aa.findKey hF hg hp k es) fun r=> ?_
  have fin:∀(v:Value)(f:Bool),aa P π .val (Pure.pure (if ok then .tuple #[al π v,.bool f] else al π v)) (Pure.pure (if ok then .tuple #[v,.bool f] else v)):=fun v f=>by
   cases ok <;> exact aa.pure _ rfl
  cases r with
  |none=>exact aa.bind .val (aa.zeroValue hF e) fun z=>fin z false
  |some r=>exact fin r.2 true
 cases x with
 |map r=>
  cases r with
  |none=>exact aa.bind .ents (aa.pure .ents (a':=#[]) (a:=#[]) (by simp [eg.ents])) tail
  |some r=>
   refine aa.getObj r (fun _ _=>dm.bind _ (.stuck _)) fun o ho=>aa.any ?_
   cases o with
   |map es c=>exact aa.bind .ents (aa.pure .ents (a':=es.map (er π)) (a:=es) rfl) tail
   |_=>exact aa.dead _ (dm.bind _ (.stuck _))
 |_=>exact aa.dead _ (dm.bind _ (.stuck _))
theorem ahy:∀(n:Nat)(a b:Value),Instr.sameBits n (al π a) (al π b)=Instr.sameBits n a b:=by
 intro n
 induction n with
 |zero=>
  intro a b;cases a <;> cases b <;> first
   |rfl
   |exact ade _ _
   |exact ab4 _ _
 |succ n ih=>
  intro a b;cases a with
  |agg x=>
   cases b with
   |agg y=>
    show ((az π x).size==(az π y).size && ((az π x).toList.zip (az π y).toList).all fun (x,y)=>Instr.sameBits n x y)=(x.size==y.size && (x.toList.zip y.toList).all fun (x,y)=>Instr.sameBits n x y);rw [il,il,ng,ng,xg,xg,List.zip_map,List.all_map];congr 2
    funext p
    exact ih p.1 p.2
   |_=>rfl
  |iface t v=>
   cases b with
   |iface u w=>
    show (t==u && Instr.sameBits n (al π v) (al π w))=(t==u && Instr.sameBits n v w);rw [ih]
   |_=>rfl
  |_=>cases b <;> first
   |rfl
   |exact ade _ _
   |exact ab4 _ _
theorem aa.keyThatStays (a b:Value):aa P π .val (Instr.keyThatStays (al π a) (al π b)) (Instr.keyThatStays a b):=by
 unfold Instr.keyThatStays;rw [ahy];refine aa.ite (aa.pure _ rfl) (aa.bk (aa.choose _) fun n=> ?_)
 by_cases h:n=0
 ·rw [if_pos h,if_pos h];exact aa.pure _ rfl
 ·rw [if_neg h,if_neg h];exact aa.pure _ rfl
theorem key_at (es:Array MapEntry)(i:Nat)(k:Value):((((es.map (er π))[i]?).map (·.key)).getD (al π k))=al π (((es[i]?).map (·.key)).getD k):=by
 rw [Array.getElem?_map];cases es[i]? <;> rfl
theorem born_at (es:Array MapEntry)(i:Nat):((((es.map (er π))[i]?).map (fun x=>(x.born:Int))).getD 0)=(((es[i]?).map (fun x=>(x.born:Int))).getD 0):=by
 rw [Array.getElem?_map];cases es[i]? <;> rfl
theorem abm (es:Array MapEntry)(i:Nat)(f g:MapEntry→MapEntry)(h:∀e,f (er π e)=er π (g e)):(es.map (er π)).modify i f=(es.modify i g).map (er π):=by
 apply Array.ext_getElem?;intro j;simp only [Array.getElem?_modify,Array.getElem?_map];split
 ·rw [Option.map_map,Option.map_map];congr 1
  funext e
  exact h e
 ·rfl
theorem aa.mapUpdate (hF:fw P π)(hg:P.globals.size=0)(t:TypeId)(h:tv P t=true)(m k v:Value):aa P π (.none Unit) (Instr.mapUpdate t (al π m) (al π k) (al π v)) (Instr.mapUpdate t m k v):=by
 obtain ⟨kt,e,hu,hp⟩:=vm h;unfold Instr.mapUpdate;generalize (10000:Nat)=dp;refine aa.under hu ?_;cases m with
 |map r=>
  cases r with
  |none=>exact aa.runtimePanic hF _ _
  |some r=>
   refine aa.getObj r (fun _ _=> .stuck _) fun o ho=> ?_
   cases o with
   |map es c=>
    refine fx.bk (aa.any (aa.checkKey hF _ 20 kt hp _ k)) fun _=> ?_
    refine fx.bind _ (aa.any (aa.findKey hF hg hp k es)) fun q=> ?_
    cases q with
    |none=>
     have hs:=fx.setObj (P:=P) (π:=π) (R:=[r]) r (.map (es.push {key:=k,val:=v,born:=c}) (c+1)) ae;rw [rp,Array.map_push] at hs;exact hs
    |some q=>
     obtain ⟨i,old⟩:=q;show fx P π [r] _ (do let key ←Instr.keyThatStays ((((es.map (er π))[i]?).map (·.key)).getD (al π k)) (al π k);Go.setObj (π.to r) (.map ((es.map (er π)).modify i fun e=>{e with key,val:=al π v}) c)) (do let key ←Instr.keyThatStays (((es[i]?).map (·.key)).getD k) k;Go.setObj r (.map (es.modify i fun e=>{e with key,val:=v}) c));rw [key_at];refine fx.bind .val (aa.any (aa.keyThatStays _ _)) fun key=> ?_
     have hs:=fx.setObj (P:=P) (π:=π) (R:=[r]) r (.map (es.modify i fun e=>{e with key,val:=v}) c) ae;rw [rp,←abm es i (fun e=>{e with key:=al π key,val:=al π v}) _ fun e=>rfl] at hs;exact hs
   |_=>exact aa.any (aa.stuck _ _)
 |_=>exact aa.stuck _ _
theorem aa.mapEntry (hF:fw P π)(hg:P.globals.size=0)(t:TypeId)(h:tv P t=true)(m k:Value):aa P π .val (Instr.mapEntry t (al π m) (al π k)) (Instr.mapEntry t m k):=by
 obtain ⟨kt,e,hu,hp⟩:=vm h;unfold Instr.mapEntry;generalize (10000:Nat)=dp;refine aa.under hu ?_;cases m with
 |map r=>
  cases r with
  |none=>exact aa.runtimePanic hF _ _
  |some r=>
   refine aa.getObj r (fun _ _=> .stuck _) fun o ho=> ?_
   cases o with
   |map es c=>
    refine fx.bk (aa.any (aa.checkKey hF _ 20 kt hp _ k)) fun _=> ?_
    refine fx.bind _ (aa.any (aa.findKey hF hg hp k es)) fun q=> ?_
    cases q with
    |none=>
     refine fx.bind .val (aa.any (aa.zeroValue hF e)) fun z=> ?_
     have hs:=fx.setObj (P:=P) (π:=π) (R:=[r]) r (.map (es.push {key:=k,val:=z,born:=c}) (c+1)) ae;rw [rp,Array.map_push] at hs;exact fx.bk hs fun _=>aa.any (aa.pure _ rfl)
    |some q=>
     obtain ⟨i,old⟩:=q;show fx P π [r] _ (do let key ←Instr.keyThatStays ((((es.map (er π))[i]?).map (·.key)).getD (al π k)) (al π k);Go.setObj (π.to r) (.map ((es.map (er π)).modify i fun e=>{e with key}) c);Pure.pure (Value.tuple #[al π old,goInt ((((es.map (er π))[i]?).map (·.born)).getD 0)])) (do let key ←Instr.keyThatStays (((es[i]?).map (·.key)).getD k) k;Go.setObj r (.map (es.modify i fun e=>{e with key}) c);Pure.pure (Value.tuple #[old,goInt (((es[i]?).map (·.born)).getD 0)]));rw [key_at,born_at];refine fx.bind .val (aa.any (aa.keyThatStays _ _)) fun key=> ?_
     have hs:=fx.setObj (P:=P) (π:=π) (R:=[r]) r (.map (es.modify i fun e=>{e with key}) c) ae;rw [rp,←abm es i (fun e=>{e with key:=al π key}) _ fun e=>rfl] at hs;exact fx.bk hs fun _=>aa.any (aa.pure _ rfl)
   |_=>exact aa.any (aa.stuck _ _)
 |_=>exact aa.stuck _ _
theorem aa.entryStore (t:TypeId)(m s v:Value):aa P π (.none Unit) (Instr.entryStore t (al π m) (al π s) (al π v)) (Instr.entryStore t m s v):=by
 unfold Instr.entryStore;cases m with
 |map r=>
  cases r with
  |none=>exact aa.stuck _ _
  |some r=>
   refine aa.getObj r (fun _ _=> .stuck _) fun o ho=> ?_
   cases o with
   |map es c=>
    refine fx.bk (aa.any (aa.asInt s)) fun b=> ?_
    show fx P π [r] _ (match (es.map (er π)).findIdx? (fun e=>(e.born:Int)==b) with|some i=>Go.setObj (π.to r) (.map ((es.map (er π)).modify i fun e=>{e with val:=al π v}) c)|none=>Go.unsupported _) (match es.findIdx? (fun e=>(e.born:Int)==b) with|some i=>Go.setObj r (.map (es.modify i fun e=>{e with val:=v}) c)|none=>Go.unsupported _);have hf:(es.map (er π)).findIdx? (fun e=>(e.born:Int)==b)=es.findIdx? (fun e=>(e.born:Int)==b):=by
     rw [Array.findIdx?_map];rfl
    rw [hf];cases es.findIdx? (fun e=>(e.born:Int)==b) with
    |none=>exact aa.any (aa.unsupported _ _)
    |some i=>
     have hs:=fx.setObj (P:=P) (π:=π) (R:=[r]) r (.map (es.modify i fun e=>{e with val:=v}) c) ae;rw [rp,←abm es i (fun e=>{e with val:=al π v}) _ fun e=>rfl] at hs;exact hs
   |_=>exact aa.any (aa.stuck _ _)
 |_=>exact aa.stuck _ _
theorem aa.delete (hF:fw P π)(hg:P.globals.size=0)(ts:Array TypeId)(ty:TypeId)(h:∀t,ts[0]? =some t→tv P t=true)(args:Array Value):aa P π .val (Builtin.delete_ ts ty (az π args)) (Builtin.delete_ ts ty args):=by
 unfold Builtin.delete_;generalize (10000:Nat)=dp;rw [ja,ja];cases ht:ts[0]? with
 |none=>exact aa.stuck _ _
 |some t=>
  cases args[0]? with
  |none=>exact aa.stuck _ _
  |some m=>
   cases args[1]? with
   |none=>exact aa.stuck _ _
   |some k=>
    obtain ⟨kt,e,hu,hp⟩:=vm (h t ht);refine aa.under hu ?_;cases m with
    |map r=>
     cases r with
     |none=>exact aa.bk (aa.checkKey hF _ 20 kt hp _ k) fun _=>aa.pure _ rfl
     |some r=>
      refine aa.getObj r (fun _ _=>dm.bind _ (.stuck _)) fun o ho=> ?_
      cases o with
      |map es c=>
       have he:(es.map (er π)).isEmpty=es.isEmpty:=by simp [Array.isEmpty]
       show fx P π [r] _ (do Instr.checkKey (es.map (er π)).isEmpty dp kt (al π k);match ←Instr.findKey kt (al π k) (es.map (er π)).toList with|some (i,_)=>(do Go.setObj (π.to r) (.map ((es.map (er π)).eraseIdxIfInBounds i) c);Pure.pure (Value.tuple #[]))|none=>(do Go.setObj (π.to r) (.map (es.map (er π)) c);Pure.pure (Value.tuple #[]))) (do Instr.checkKey es.isEmpty dp kt k;match ←Instr.findKey kt k es.toList with|some (i,_)=>(do Go.setObj r (.map (es.eraseIdxIfInBounds i) c);Pure.pure (Value.tuple #[]))|none=>(do Go.setObj r (.map es c);Pure.pure (Value.tuple #[])));rw [he];refine fx.bk (aa.any (aa.checkKey hF _ 20 kt hp _ k)) fun _=> ?_
       refine fx.bind _ (aa.any (aa.findKey hF hg hp k es)) fun q=> ?_
       cases q with
       |none=>exact fx.bk (fx.setObj (P:=P) (π:=π) (R:=[r]) r (.map es c) ae) fun _=>aa.any (aa.pure _ rfl)
       |some q=>
        have hs:=fx.setObj (P:=P) (π:=π) (R:=[r]) r (.map (es.eraseIdxIfInBounds q.1) c) ae;have hm:(es.eraseIdxIfInBounds q.1).map (er π)=(es.map (er π)).eraseIdxIfInBounds q.1:=by
         apply Array.ext';simp only [Array.toList_map,Array.toList_eraseIdxIfInBounds];apply List.ext_getElem?;intro j;simp only [List.getElem?_map,List.getElem?_eraseIdx];split <;> rfl
        rw [rp,hm] at hs;exact fx.bk hs fun _=>aa.any (aa.pure _ rfl)
      |_=>exact aa.any (aa.dead _ (dm.bind _ (.stuck _)))
    |_=>exact aa.dead _ (dm.bind _ (.stuck _))
theorem aa.range (t:TypeId)(x:Value):aa P π .val (Instr.range t (al π x)) (Instr.range t x):=by
 unfold Instr.range;have tail:∀o:Obj,kr P o=true→aa P π .val (do Pure.pure (.pointer (some ⟨←Go.newObj (cx π o),0,none⟩))) (do Pure.pure (.pointer (some ⟨←Go.newObj o,0,none⟩))):=fun o ho=>aa.bind .block (aa.newObj o ho) fun r=>aa.pure _ rfl
 refine aa.bk (aa.underlying t) fun d=> ?_
 cases d with
 |string=>
  cases x with
  |string s=>exact tail (.stringIter s 0) rfl
  |map r=>cases r <;> exact aa.dead _ (dm.bind _ (.stuck _))
  |_=>exact aa.dead _ (dm.bind _ (.stuck _))
 |map k e=>
  cases x with
  |map r=>
   cases r with
   |none=>exact tail (.mapIter none 0 #[] 0) rfl
   |some r=>
    refine aa.getObj r (fun _ _=>dm.bind _ (.stuck _)) fun o ho=>aa.any ?_
    cases o with
    |map es c=>exact tail (.mapIter (some r) c #[] c) rfl
    |_=>exact aa.dead _ (dm.bind _ (.stuck _))
  |_=>exact aa.dead _ (dm.bind _ (.stuck _))
 |_=>cases x <;> first|exact aa.dead _ (dm.bind _ (.stuck _))|(rename_i r;cases r <;> exact aa.dead _ (dm.bind _ (.stuck _)))
theorem aa.entry (x:Value):aa P π .val (Instr.entry (al π x)) (Instr.entry x):=by
 unfold Instr.entry;cases x with
 |pointer a=>
  cases a with
  |none=>exact aa.stuck _ _
  |some a=>
   obtain ⟨r,off,sp⟩:=a;cases off with
   |succ n=>exact aa.stuck _ _
   |zero=>
    refine aa.getObj r (fun _ _=> .stuck _) fun o ho=>aa.any ?_
    cases o with
    |mapIter m since seen st=>
     cases m with
     |none=>exact aa.stuck _ _
     |some m=>
      simp only [cx,Option.map_some];cases seen.back? with
      |none=>exact aa.stuck _ _
      |some stamp=>
       refine aa.getObj m (fun _ _=> .stuck _) fun o ho=>aa.any ?_
       cases o with
       |map es c=>
        have hf:(es.map (er π)).find? (fun e=>e.born==stamp)=(es.find? (fun e=>e.born==stamp)).map (er π):=by
         rw [Array.find?_map];rfl
        refine aa.ite (aa.dead _ (dm.bind _ (uns _))) ?_;show aa P π _ (match (es.map (er π)).find? (fun e=>e.born==stamp) with|some e=>Pure.pure (Value.tuple #[e.key,e.val])|none=>Go.unsupported _) (match es.find? (fun e=>e.born==stamp) with|some e=>Pure.pure (Value.tuple #[e.key,e.val])|none=>Go.unsupported _);rw [hf];cases es.find? (fun e=>e.born==stamp) with
        |none=>exact aa.unsupported _ _
        |some e=>exact aa.pure _ rfl
       |_=>exact aa.stuck _ _
    |_=>exact aa.stuck _ _
 |_=>exact aa.stuck _ _
theorem aa.arrayAt (hF:fw P π)(t:TypeId)(x:Value):aa P π .val (Instr.arrayAt t (al π x)) (Instr.arrayAt t x):=by
 unfold Instr.arrayAt;refine aa.bk (aa.underlying t) fun d=> ?_
 cases d with
 |array n e=>
  cases x with
  |slice a l c=>exact aa.ite (aa.runtimePanic hF _ _) (aa.pure _ rfl)
  |_=>exact aa.stuck _ _
 |_=>exact aa.stuck _ _
theorem aa.clone (args:Array Value):aa P π .val (Extern.MapsClone.clone (az π args)) (Extern.MapsClone.clone args):=by
 unfold Extern.MapsClone.clone;obtain ⟨l⟩:=args
 match l with
 | []=>exact aa.stuck _ _
 | [v]=>
  cases v with
  |iface t v=>
   cases v with
   |map r=>
    cases r with
    |none=>exact aa.unsupported _ _
    |some r=>
     refine aa.getObj r (fun _ _=> .stuck _) fun o ho=>aa.any ?_
     cases o with
     |map es c=>exact aa.bind .block (aa.newObj (.map es c)) fun q=>aa.pure _ rfl
     |_=>exact aa.stuck _ _
   |_=>exact aa.stuck _ _
  |_=>exact aa.stuck _ _
 |v::w::l=>cases v <;> first|exact aa.stuck _ _|(rename_i t x;cases x <;> exact aa.stuck _ _)
end
section
variable {P:Program}{π:Pm}{α β:Type}{V:Nat→Prop}
theorem acd (es:Array MapEntry)(p:MapEntry→Bool)(hp:∀e,p (er π e)=p e):(es.map (er π)).filter p=(es.filter p).map (er π):=by
 rw [Array.filter_map];congr 1;congr 1
 funext e
 exact hp e
theorem all_er (es:Array MapEntry)(p:MapEntry→Bool)(hp:∀e,p (er π e)=p e):(es.map (er π)).all p=es.all p:=by
 rw [Array.all_map];congr 1
 funext e
 exact hp e
theorem aej (es:Array MapEntry):(es.map (er π)).isEmpty=es.isEmpty:=by simp [Array.isEmpty]
theorem aa.next (hF:fw P π)(x:Value)(b:Bool)(t:TypeId):aa P π .val (Instr.next (al π x) b t) (Instr.next x b t):=by
 unfold Instr.next;cases x with
 |pointer a=>
  cases a with
  |none=>exact aa.stuck _ _
  |some a=>
   obtain ⟨r,off,sp⟩:=a;cases off with
   |succ n=>exact aa.stuck _ _
   |zero=>
    refine aa.getObj r (fun _ _=>by cases b <;> exact .stuck _) fun o ho=> ?_
    cases o with
    |stringIter s pos=>
     cases b with
     |false=>exact aa.any (aa.stuck _ _)
     |true=>
      show fx P π [r] _ (if pos<s.size then _ else _) (if pos<s.size then _ else _)
      by_cases h:pos<s.size
      ·rw [if_pos h,if_pos h];exact fx.bk (fx.setObj (P:=P) (π:=π) (R:=[r]) r (.stringIter s _) ae) fun _=>aa.any (aa.pure _ rfl)
      ·rw [if_neg h,if_neg h];exact aa.any (aa.pure _ rfl)
    |mapIter m since seen st=>
     cases b with
     |true=>cases m <;> exact aa.any (aa.stuck _ _)
     |false=>
      cases m with
      |none=>exact aa.any (aa.pure _ rfl)
      |some m=>
       refine fx.getObj m (fun _ _=> .stuck _) fun o ho=> ?_
       cases o with
       |map es c=>
        have tail:fx P π [m,r] .val (do
          let left:=(es.map (er π)).filter fun e=> !seen.contains e.born
          let old:=left.filter (·.born<since)
          let new:=left.filter (·.born≥since)
          let candidates:=(if old.isEmpty then #[none] else #[])++ (old++new).map some
          match candidates[←Go.choose (.mapNext candidates.size)]? with
          |some (some e)=>
           Go.setObj (π.to r) (.mapIter (some (π.to m)) since (seen.push e.born) c)
           Pure.pure (.tuple #[.bool true,e.key,e.val])
          |some none=>Pure.pure (.tuple #[.bool false])
          |none=>Go.stuck "Next: no such candidate") (do
          let left:=es.filter fun e=> !seen.contains e.born
          let old:=left.filter (·.born<since)
          let new:=left.filter (·.born≥since)
          let candidates:=(if old.isEmpty then #[none] else #[])++ (old++new).map some
          match candidates[←Go.choose (.mapNext candidates.size)]? with
          |some (some e)=>
           Go.setObj r (.mapIter (some m) since (seen.push e.born) c)
           Pure.pure (.tuple #[.bool true,e.key,e.val])
          |some none=>Pure.pure (.tuple #[.bool false])
          |none=>Go.stuck "Next: no such candidate"):=by
         simp only [];rw [acd es _ fun e=>rfl,acd _ _ fun e=>rfl,acd _ _ fun e=>rfl,aej,←Array.map_append];generalize (es.filter fun e=> !seen.contains e.born).filter (fun x=>decide (x.born<since))++ (es.filter fun e=> !seen.contains e.born).filter (fun x=>decide (x.born≥since))=L;generalize ((es.filter fun e=> !seen.contains e.born).filter (fun x=>decide (x.born<since))).isEmpty=q;have hc:(if q=true then #[none] else #[])++ (L.map (er π)).map some=((if q=true then #[none] else #[])++L.map some).map (Option.map (er π)):=by
          rw [Array.map_append,Array.map_map,Array.map_map];congr 1;cases q <;> simp
         rw [hc,Array.size_map];refine fx.bk (aa.any (aa.choose _)) fun i=> ?_
         rw [Array.getElem?_map];cases ((if q=true then #[none] else #[])++L.map some)[i]? with
         |none=>exact aa.any (aa.stuck _ _)
         |some e=>
          cases e with
          |none=>exact aa.any (aa.pure _ rfl)
          |some e=>exact fx.bk (fx.setObj (P:=P) (π:=π) (R:=[m,r]) r (.mapIter (some m) since (seen.push e.born) c) ae) fun _=>aa.any (aa.pure _ rfl)
        show fx P π [m,r] _ (if (!seen.isEmpty && !(es.map (er π)).isEmpty && (es.map (er π)).all (fun e=>decide (e.born≥st)))=true then _ else _) (if (!seen.isEmpty && !es.isEmpty && es.all (fun e=>decide (e.born≥st)))=true then _ else _);rw [aej,all_er es _ fun e=>rfl]
        by_cases h:(!seen.isEmpty && !es.isEmpty && es.all (fun e=>decide (e.born≥st)))=true
        ·rw [if_pos h,if_pos h];exact aa.any (aa.dead _ (dm.bind _ (uns _)))
        ·rw [if_neg h,if_neg h];exact tail
       |_=>exact aa.any (aa.stuck _ _)
    |_=>cases b <;> exact aa.any (aa.stuck _ _)
 |_=>exact aa.stuck _ _
end
end Go.Proofs.YthgpdljlehklhaaGreat.zr
section
namespace Go.Proofs.YthgpdljlehklhaaGreat.zr
open Go
def gq (π:Pm)(c:CommCase):CommCase:={chan:=al π c.chan,send:=c.send.map (al π),zero:=al π c.zero}
theorem acb (π:Pm)(c:CommCase):gq π.symm (gq π c)=c:=by
 obtain ⟨a,b,z⟩:=c;cases b <;> simp [gq,pj]
def km (π:Pm):Next→Next
 | .value v=> .value (al π v)
 | .enter f args=> .enter f (az π args)
 | .round l f tmps a b=> .round (π.to l) f (az π tmps) a b
 | .defer d=> .defer (dz π d)
 | .spawn d=> .spawn (dz π d)
 | .comm cs b s=> .comm (cs.map (gq π)) b s
 |x=>x
theorem agz (π:Pm)(x:Next):km π.symm (km π x)=x:=by
 cases x <;> simp [km,pj,mm,vw]
 exact aem (acb π) _
namespace eg
def next:eg Next:=⟨km,agz⟩
def defer:eg Deferred:=⟨dz,vw⟩
def loop:eg Loop:=⟨ll,acg⟩
def list {α:Type}(A:eg α):eg (List α):=⟨fun π=>List.map (A.act π),fun π l=>by
 rw [List.map_map];have:A.act π.symm∘A.act π=id:=funext fun a=>A.symm π a
 rw [this,List.map_id]⟩
end eg
section
variable {P:Program}{π:Pm}{α β:Type}{V:Nat→Prop}
theorem fx.getLoop {R:List Nat}(l:Nat){B:eg β}{h' h:Loop→Sem β}(hh:∀r,kr P (.loop r)=true→fx P π (l::R) B (h' (ll π r)) (h r)):fx P π R B (Instr.getLoop (π.to l) >>=h') (Instr.getLoop l >>=h):=by
 have e:∀(l:Nat)(h:Loop→Sem β),(Instr.getLoop l >>=h)=(Go.getObj l >>=fun o=>(match o with| .loop r=>Pure.pure r|_=>Go.stuck "range over a function: no such loop":Sem Loop) >>=h):=fun l h=>rfl
 rw [e,e];refine fx.getObj l (fun _ _=> .stuck _) fun o ho=> ?_
 cases o with
 |loop r=>exact hh r ho
 |_=>exact aa.any (aa.dead _ (dm.bind _ (.stuck _)))
theorem aa.of_R {A:eg α}{s' s:Sem α}(h:fx P π [] A s' s):aa P π A s' s:=fun fs L=>h fs L fun _ hx=>by cases hx
theorem foldSet (l:List (Tmp×Value))(ts:Array Value):(l.map fun x=>(x.1,al π x.2)).foldl (fun tmps (t,a)=>tmps.setIfInBounds t a) (az π ts)=az π (l.foldl (fun tmps (t,a)=>tmps.setIfInBounds t a) ts):=by
 induction l generalizing ts with
 |nil=>rfl
 |cons x l ih=>
  simp only [List.map_cons,List.foldl_cons];rw [←ih];congr 1;rw [fh,fh];simp
theorem gn.getLoop {R:List Nat}(l:Nat){p:β→Prop}{B:eg β}{h' h:Loop→Sem β}(hh:∀r,kr P (.loop r)=true→gn P π (l::R) p B (h' (ll π r)) (h r)):gn P π R p B (Instr.getLoop (π.to l) >>=h') (Instr.getLoop l >>=h):=by
 have e:∀(l:Nat)(h:Loop→Sem β),(Instr.getLoop l >>=h)=(Go.getObj l >>=fun o=>(match o with| .loop r=>Pure.pure r|_=>Go.stuck "range over a function: no such loop":Sem Loop) >>=h):=fun l h=>rfl
 rw [e,e];refine gn.getObj l (fun _ _=> .stuck _) fun o ho=> ?_
 cases o with
 |loop r=>exact hh r ho
 |_=>exact gn.dead _ (dm.bind _ (.stuck _))
theorem gn.enterLoop (fn:FuncId)(tmps:Array Value)(ps:Array Tmp)(a b:Code)(ar:Option Nat)(ha:(dy P a && gk a)=true)(hb:(dy P b && gk b)=true):
  gn P π [] (fun x=>x.2.all (fun d=>iy d.target)=true∧(ar.isSome=true→x.2=[])) (.pair .block (.list .defer)) (Instr.enterLoop fn (az π tmps) ps a b (ar.map π.to)) (Instr.enterLoop fn tmps ps a b ar):=by
 unfold Instr.enterLoop;have tail:∀(R:List Nat)(d:Nat)(m:List Deferred),m.all (fun d=>iy d.target)=true→(ar.isSome=true→m=[])→gn P π R (fun x=>x.2.all (fun d=>iy d.target)=true∧(ar.isSome=true→x.2=[])) (.pair .block (.list .defer)) (do Pure.pure (←Go.newObj (.loop {state:= .ready,pending:=none,fn,tmps:=az π tmps,params:=ps,assign:=a,body:=b,defers:=π.to d}),m.map (dz π))) (do Pure.pure (←Go.newObj (.loop {state:= .ready,pending:=none,fn,tmps,params:=ps,assign:=a,body:=b,defers:=d}),m)):=fun R d m h1 h2=>
  gn.bind .block (aa.newObj (.loop {state:= .ready,pending:=none,fn,tmps,params:=ps,assign:=a,body:=b,defers:=d}) (by simp only [kr,Bool.and_true];rw [ha,hb];rfl)).q fun r _=>gn.pure _ rfl ⟨h1,h2⟩
 cases ar with
 |none=>exact gn.bind .block (aa.newObj (.deferred (some []))).q fun r _=>gn.bind (q:=fun x=>x.2.all (fun d=>iy d.target)=true) (.pair .block (.list .defer)) (gn.pure (.pair .block (.list .defer)) (a:=(r,[{target:= .collected r,args:=#[]}])) rfl rfl) fun x hx=>tail _ x.1 x.2 hx (fun h=>by cases h)
 |some l=>exact gn.getLoop l fun r _=>gn.bind (q:=fun x=>x.2=[]) (.pair .block (.list .defer)) (gn.pure (.pair .block (.list .defer)) (a:=(r.defers,[])) rfl rfl) fun x hx=>tail _ x.1 x.2 (by rw [hx];rfl) (fun _=>hx)
def en (P:Program):Next→Prop
 | .round _ _ _ a b=>(dy P a && gk a)=true∧(dy P b && gk b)=true
 | .comm cs b sh=>b=false∧(∃c,cs=#[c]∧c.send=none)∧sh= .select
 | .value _| .skip| .enter .. =>True
 |_=>False
theorem gn.ite {R:List Nat}{q:α→Prop}{A:eg α}{c:Prop} [Decidable c] {a' b' a b:Sem α}(h1:gn P π R q A a' a)(h2:gn P π R q A b' b):gn P π R q A (if c then a' else b') (if c then a else b):=by
 split
 ·exact h1
 ·exact h2
theorem gn.yield (l:Nat)(args:Array Value):gn P π [] (en P) .next (Instr.yield (π.to l) (az π args)) (Instr.yield l args):=by
 unfold Instr.yield;refine gn.getLoop l fun r hr=> ?_
 have e:((ll π r).params.zip (az π args)).foldl (fun tmps (t,a)=>tmps.setIfInBounds t a) (ll π r).tmps=az π ((r.params.zip args).foldl (fun tmps (t,a)=>tmps.setIfInBounds t a) r.tmps):=by
  rw [←Array.foldl_toList,←Array.foldl_toList,←foldSet];congr 1;rw [Array.toList_zip,Array.toList_zip,ng,xg];show List.zip r.params.toList _=_;rw [List.zip_map_right];rfl
 have hr':(dy P r.assign && gk r.assign)=true∧(dy P r.body && gk r.body)=true:=by
  simp only [kr,Bool.and_eq_true] at hr ⊢;exact hr.1
 show gn P π _ _ _ (if (az π args).size≠r.params.size then _ else Pure.pure (Next.round (π.to l) r.fn (((ll π r).params.zip (az π args)).foldl (fun tmps (t,a)=>tmps.setIfInBounds t a) (ll π r).tmps) r.assign r.body)) (if args.size≠r.params.size then _ else Pure.pure (Next.round l r.fn ((r.params.zip args).foldl (fun tmps (t,a)=>tmps.setIfInBounds t a) r.tmps) r.assign r.body));rw [e,il];exact gn.ite (gn.dead _ (dm.bind _ (.stuck _))) (gn.pure .next rfl hr')
theorem aa.beginRound (hF:fw P π)(l:Nat):aa P π (.none Unit) (Instr.beginRound (π.to l)) (Instr.beginRound l):=by
 unfold Instr.beginRound;refine aa.of_R (fx.getLoop l fun r hr=> ?_);refine fx.bk (fx.setObj (P:=P) (π:=π) l (.loop {r with state:= .busy}) ae hr) fun _=>aa.any ?_
 obtain ⟨st,pd,fn,tm,ps,a,b,d⟩:=r;cases st <;> first|exact aa.bm _|exact aa.runtimePanic hF _ _
theorem aa.endRound (l:Nat)(jump:Option Code)(hj:∀c,jump=some c→dy P c=true∧gk c=true):aa P π .val (Instr.endRound (π.to l) jump) (Instr.endRound l jump):=by
 unfold Instr.endRound;refine aa.of_R (fx.getLoop l fun r hr=> ?_);refine fx.bk (fx.setObj (P:=P) (π:=π) l (.loop {r with state:=if jump.isNone then .ready else .done,pending:=jump}) ae ?_) fun _=>aa.any (aa.pure _ rfl)
 simp only [kr,Bool.and_eq_true] at hr ⊢;refine ⟨hr.1,?_⟩;cases jump with
 |none=>rfl
 |some c=>
  show (dy P c && gk c)=true;rw [(hj c rfl).1,(hj c rfl).2];rfl
theorem gn.endLoop (hF:fw P π)(l:Nat):gn P π [] (fun j=>∀c,j=some c→dy P c=true∧gk c=true) (.none (Option Code)) (Instr.endLoop (π.to l)) (Instr.endLoop l):=by
 unfold Instr.endLoop;refine gn.getLoop l fun r hr=> ?_
 have tail:gn P π [l] (fun j=>∀c,j=some c→dy P c=true∧gk c=true) (.none (Option Code)) (do Go.setObj (π.to l) (cx π (.loop {r with state:= .exhausted}));Pure.pure r.pending) (do Go.setObj l (.loop {r with state:= .exhausted});Pure.pure r.pending):=by
  refine gn.bind (.none Unit) (fx.setObj (P:=P) (π:=π) (R:=[l]) l (.loop {r with state:= .exhausted}) ae hr).q fun _ _=>gn.pure _ rfl ?_
  intro c hc;rw [kr,hc,Bool.and_eq_true] at hr;exact Bool.and_eq_true_iff.1 hr.2
 exact gn.ite (gn.bind (.none Unit) (aa.runtimePanic hF _ _).q fun _ _=>tail) tail
theorem gn.takeDeferred (r:Nat):gn P π [] (fun ds=>ds.all (fun d=>iy d.target)=true) (.list .defer) (Instr.takeDeferred (π.to r)) (Instr.takeDeferred r):=by
 unfold Instr.takeDeferred;refine gn.getObj r (fun _ _=> .stuck _) fun o ho=> ?_
 cases o with
 |deferred c=>
  cases c with
  |none=>exact gn.dead _ (.stuck _)
  |some ds=>exact gn.bind (.none Unit) (fx.setObj (P:=P) (π:=π) (R:=[r]) r (.deferred none) ae).q fun _ _=>gn.pure _ rfl ho
 |_=>exact gn.dead _ (.stuck _)
end
end Go.Proofs.YthgpdljlehklhaaGreat.zr
end
