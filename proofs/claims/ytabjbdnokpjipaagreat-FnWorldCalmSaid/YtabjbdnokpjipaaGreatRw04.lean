/-
What is proved: whatever supported operation keeps the relation of Sr and what rests on it. Conditions: as stated.
-/
import Derived.Test.YtabjbdnokpjipaaGreatRw03
import Derived.Conc.Own
import Derived.Conc.Listed
set_option linter.unusedVariables false
set_option linter.unusedSimpArgs false
namespace Go.Proofs.YtabjbdnokpjipaaGreat.Sr
open Go
inductive km (m:aJ):Next→Next→Prop
 |value {x y:Value} (h:VR m x y):km m (.value x) (.value y)
 |skip:km m .skip .skip
 |enter (f:FuncId) {us vs:Array Value} (hf:m.good f=true) (h:AR m us vs) (hn:∀n,c_ f=some n→us.size=n):km m (.enter f us) (.enter f vs)
def pR (P:Program)(op:BinOp)(t:TypeId):Bool:=
 match op with
 | .eql| .neq=>sL P 8 t&& !P.eqGuardType P.depth t
 |_=>match P.underlying t with|some .unsafePointer=>false|_=>true
def We (good:FuncId→Bool):Fn→Bool
 | .func f=>good f&&(c_ f).isNone
 |_=>false
def gV:Operand→Bool
 | .func f=>BR f
 | .tmp _=>true
 | .const (.bool _)| .const (.int _ _)| .const (.string _)| .const (.pointer none)| .const (.slice none _ _)| .const (.map none)| .const .nilFunc| .const .nilIface=>true
 | .const (.agg xs)=>xs.all fun| .bool _| .int _ _| .string _| .pointer none| .slice none _ _| .map none| .nilFunc| .nilIface=>true|_=>false
 | .const (.tuple xs)=>xs.isEmpty
 |_=>false
def Oq (P:Program)(t:TypeId):Bool:=match P.underlying t with
 |some (.interface _)=>false
 |some _=>true
 |none=>false
def GN (P:Program)(good:FuncId→Bool)(name:String):Bool:=GF.all fun t=>match P.info? t with
 |none=>true
 |some i=>match i.methods.find? (fun m=>m.name==name)with
  |none=>true
  |some m=>m.path.isEmpty&&(match m.func with|some (f,_)=>good f&&(c_ f).isNone|none=>false)
def xw (P:Program)(good:FuncId→Bool)(c:Call):Bool:=
 match c.callee with
 | .value (.func f)=>good f&&(match c_ f with|none=>true|some n=>c.args.size==n)
 | .value (.tmp _)=>true
 | .builtin .len| .builtin .cap| .builtin .max=>true
 | .builtin .append=>yU P c.argTypes
 | .invoke x name=>gV x&&GN P good name
 |_=>false
def jl (P:Program)(good:FuncId→Bool):Op→Bool
 | .move x| .assign x=>gV x
 | .pick c a b=>gV c&&gV a&&gV b
 | .alloc t=>vv P t
 | .box _ x=>gV x
 | .build t ps=>vv P t&&ps.all fun p=>gV p.2
 | .buildSlice t _ ps=>zX P t&&ps.all fun p=>gV p.2
 | .load _ x=>gV x
 | .store _ a x=>gV a&&gV x
 | .nilCheck x=>gV x
 | .binOp op t x y _=>pR P op t&&gV x&&gV y
 | .unOp _ _ x=>gV x
 | .convert s d x=>(match P.underlying s,P.underlying d with|some (.int _),some (.int _)=>true|some .string,some .string=>true|_,_=>false)&&gV x
 | .makeInterface t x=>GF.contains t&&gV x
 | .makeFunc f us vs=>We good f&&us.all gV&&vs.all gV
 | .makeSlice t l c=>zX P t&&gV l&&gV c
 | .slice _ x l h mx=>gV x&&l.all gV&&h.all gV&&mx.all gV
 | .fieldAddr s x f=>BX P s f&&gV x
 | .indexAddr _ x i| .index _ x i=>gV x&&gV i
 | .extract x _=>gV x
 | .typeAssert x _ t ok=>ok&&Oq P t&&vv P t&&gV x
 | .call c=>xw P good c&&c.args.all gV
 |_=>false
section
variable {τ:TypeId}{P:Program}{F:Array Func}{α β γ δ:Type}{m:aJ}
def tA (m:aJ)(ρ ρ':Operand→Value):Prop:=∀x,gV x=true→VR m (ρ x) (ρ' x)
theorem tA.arr {ρ ρ':Operand→Value}(h:tA m ρ ρ'){xs:Array Operand}(hx:xs.all gV=true):AR m (xs.map ρ) (xs.map ρ'):=
 AR.map xs fun x fj=>h x (Array.all_eq_true_iff_forall_mem.1 hx x fj)
theorem tA.opt {ρ ρ':Operand→Value}(h:tA m ρ ρ'){x:Option Operand}(hx:x.all gV=true):oe m (x.map ρ) (x.map ρ'):=by
 cases x with
 |none=>exact .none
 |some x=>exact .some (h x (by simpa using hx))
theorem tA.parts {ρ ρ':Operand→Value}(h:tA m ρ ρ'){ps:Array (Nat×Operand)}(hx:(ps.all fun p=>gV p.2)=true):kU m (ps.map fun(i,x)=>(i,ρ x)).toList (ps.map fun(i,x)=>(i,ρ' x)).toList:=by
 have jN:=Array.all_eq_true_iff_forall_mem.1 hx;rw[Array.toList_map,Array.toList_map];have:∀l:List (Nat×Operand),(∀p∈l,gV p.2=true)→kU m (l.map fun(i,x)=>(i,ρ x)) (l.map fun(i,x)=>(i,ρ' x)):=by
  intro l;induction l with
  |nil=>intro _;exact .nil
  |cons a l ih=>intro hl;exact .cons (h _ (hl a (by simp))) (ih fun p hp=>hl p (by simp[hp]))
 exact this _ fun p hp=>jN p (by simpa using hp)
theorem jW {s s':Sem Value}(h:bk τ P F VR m s s'):bk τ P F km m (s.bind fun x=>Sem.pure (.value x)) (s'.bind fun x=>Sem.pure (.value x)):=h.bind fun _ a b _ eT=>sP (.value eT)
theorem acK {s s':Sem Unit}(h:bk τ P F fw m s s'):bk τ P F km m (s.bind fun _=>Sem.pure .skip) (s'.bind fun _=>Sem.pure .skip):=h.bind fun _ a b _ eT=>sP .skip
theorem Jq (s d:TypeId){x y:Value}(h:VR m x y)(ok:(match P.underlying s,P.underlying d with|some (.int _),some (.int _)=>true|some .string,some .string=>true|_,_=>false)=true):bk τ P F VR m (convert s d x) (convert s d y):=by
 unfold convert;refine(sU s).bind fun n1 a a' cS e=>?_;obtain⟨rfl,ha⟩:=e;refine(sU d).bind fun n2 b b' dt e=>?_;obtain⟨rfl,hb⟩:=e;rw[ha,hb]at ok;have h':=(h.mono cS).mono dt
 cases a with
 |int k=>cases b with
  |int k2=>
   cases h' with
   |int _ _=>exact sP (.int _ _)
   |_=>first|trivial|exact mI nofun
  |_=>cases ok
 |string=>cases b with
  |string=>cases h'<;>first|exact sP (.string _)|trivial|exact mI nofun
  |_=>cases ok
 |_=>cases ok
theorem SA (op:UnOp){x y:Value}(h:VR m x y):bk τ P F VR m (Op.unary op x) (Op.unary op y):=by
 cases op<;>cases h<;>first|exact sP (.int _ _)|exact sP (.bool _)|trivial|exact mI nofun
theorem GO (R:gu τ P){x y:Value}(h:VR m x y)(o:Oper)(ρ ρ':Operand→Value)(z:Operand)(e1:ρ z=x)(e2:ρ' z=y)(eo:o.op= .nilCheck z):bk τ P F km m (execOp ρ o) (execOp ρ' o):=by
 unfold execOp;rw[eo];dsimp only
 rw[e1,e2]
 cases h with
 |nilPtr=>exact ir R
 |nilFunc=>exact ir R
 |iY=>exact zW R
 |nilIface=>exact ir R
 |ptr ha=>exact sP (.value (.ptr ha))
 |func f hf hs hh ht hk=>
  cases f with
  |func f=>exact sP (.value (.func _ hf hs hh ht hk))
  |_=>exact hf.elim
 |_=>exact sP (.value (by constructor<;>assumption))
theorem nc:∀(d:Nat) (t:TypeId),Program.eqGuardType (Program.mk (Program.toTables P) F) d t=P.eqGuardType d t
 |0,_=>rfl
 |d+1,t=>by
  unfold Program.eqGuardType;have e:Program.underlying (Program.mk (Program.toTables P) F) t=P.underlying t:=rfl
  rw[e]
  cases P.underlying t with
  |none=>rfl
  |some dd=>
   cases dd with
   |struct fs=>simp only[nc d]
   |array n e=>exact nc d e
   |_=>rfl
theorem GP (t:TypeId):bk τ P F fw m (Op.eqGuardIn Op.maxDepth t .nilIface .nilIface) (Op.eqGuardIn Op.maxDepth t .nilIface .nilIface):=by
 show bk τ P F fw m (Op.eqGuardIn (9999+1) t .nilIface .nilIface) (Op.eqGuardIn (9999+1) t .nilIface .nilIface)
 unfold Op.eqGuardIn;refine(sU t).bind fun n1 a a' cS e=>?_;obtain⟨rfl,_⟩:=e
 cases a<;>exact bV
theorem Jr (op:BinOp)(t:TypeId)(a b:Operand){x y u v:Value}(hx:VR m x y)(hu:VR m u v)(ok:pR P op t=true):bk τ P F fw m (eqGuard op t a b x u) (eqGuard op t a b y v):=by
 have main:∀op,(op= .eql∨op= .neq)→pR P op t=true→bk τ P F fw m (eqGuard op t a b x u) (eqGuard op t a b y v):=by
  intro op ho ok;have hg:P.eqGuardType P.depth t=false:=by rcases ho with rfl|rfl<;>(simp only[pR,Bool.and_eq_true,Bool.not_eq_true']at ok;exact ok.2)
  have bu:Program.eqGuardType (Program.mk (Program.toTables P) F) (Program.mk (Program.toTables P) F).depth t=false:=by rw[nc];exact hg
  have agg:bk τ P F fw m (Sem.bind program fun p=>Sem.bind program fun q=>if(!p.eqGuardType q.depth t)=true then Sem.pure ()else Sem.bind (Op.eqGuardIn Op.maxDepth t x u) fun b=>if b=true then unsupported (.noEntry "binop/eql: two nil values of an interface type with methods, in a part of a struct or an array")else Sem.pure ())
    (Sem.bind program fun p=>Sem.bind program fun q=>if(!p.eqGuardType q.depth t)=true then Sem.pure ()else Sem.bind (Op.eqGuardIn Op.maxDepth t y v) fun b=>if b=true then unsupported (.noEntry "binop/eql: two nil values of an interface type with methods, in a part of a struct or an array")else Sem.pure ()):=by
   refine dO (dO ?_);rw[hg,bu];exact bV
  have nil:bk τ P F fw m (if(match a with| .const _=>true|_=>false)||(match b with| .const _=>true|_=>false)then(Sem.pure ():Sem Unit)else Sem.bind (Op.eqGuardIn Op.maxDepth t .nilIface .nilIface) fun b=>if b=true then unsupported (.noEntry "binop/eql: two nil values of an interface type with methods, neither of them the literal nil")else Sem.pure ())
    (if(match a with| .const _=>true|_=>false)||(match b with| .const _=>true|_=>false)then(Sem.pure ():Sem Unit)else Sem.bind (Op.eqGuardIn Op.maxDepth t .nilIface .nilIface) fun b=>if b=true then unsupported (.noEntry "binop/eql: two nil values of an interface type with methods, neither of them the literal nil")else Sem.pure ()):=by
   have g:bk τ P F fw m (Sem.bind (Op.eqGuardIn Op.maxDepth t .nilIface .nilIface) fun b=>if b=true then unsupported (.noEntry "binop/eql: two nil values of an interface type with methods, neither of them the literal nil")else Sem.pure ())
     (Sem.bind (Op.eqGuardIn Op.maxDepth t .nilIface .nilIface) fun b=>if b=true then unsupported (.noEntry "binop/eql: two nil values of an interface type with methods, neither of them the literal nil")else Sem.pure ()):=by
    refine(GP t).bind fun n p q _ e=>?_;subst e
    cases p
    ·exact bV
    ·exact mI nofun
   cases a<;>cases b<;>first|exact bV|exact g
  have left:∀{v:Value},(∀cs,v≠.agg cs)→v≠.nilIface→∀(op:BinOp) (z w:Value),bk τ P F fw m (eqGuard op t a b z .nilFunc) (eqGuard op t a b w v):=by
   intro v nH Ei op z w;have e1:eqGuard op t a b z .nilFunc=Sem.pure ():=by cases op<;>cases z<;>rfl
   have e2:eqGuard op t a b w v=Sem.pure ():=by cases v<;>first|exact absurd rfl (nH _)|exact absurd rfl Ei|(cases op<;>cases w<;>rfl)
   rw[e1,e2];exact bV
  have right:∀{v:Value},(∀cs,v≠.agg cs)→v≠.nilIface→∀(op:BinOp) (z w:Value),bk τ P F fw m (eqGuard op t a b .nilFunc z) (eqGuard op t a b v w):=by
   intro v nH Ei op z w;have e1:eqGuard op t a b .nilFunc z=Sem.pure ():=by cases op<;>cases z<;>rfl
   have e2:eqGuard op t a b v w=Sem.pure ():=by cases v<;>first|exact absurd rfl (nH _)|exact absurd rfl Ei|(cases op<;>cases w<;>rfl)
   rw[e1,e2];exact bV
  by_cases SB:u= .nilFunc
  ·subst SB
   cases hu with
   |iY _ h1 h2=>exact left (fun cs=>(h1 cs).1) h2.1 op x y
   |nilFunc=>exact left (v:= .nilFunc) (fun _ e=>(by cases e)) (fun e=>(by cases e)) op x y
  ·by_cases SC:x= .nilFunc
   ·subst SC
    cases hx with
    |iY _ h1 h2=>exact right (fun cs=>(h1 cs).1) h2.1 op u v
    |nilFunc=>exact right (v:= .nilFunc) (fun _ e=>(by cases e)) (fun e=>(by cases e)) op u v
   ·rcases ho with rfl|rfl<;>cases hx<;>first|exact absurd rfl SC|(cases hu<;>first|exact absurd rfl SB|exact bV|exact agg|exact nil)
 cases op<;>first|exact main _ (.inl rfl) ok|exact main _ (.inr rfl) ok|exact bV
theorem Fi (hG:P.globals.size=0)(t:TypeId){x y u v:Value}(hx:VR m x y)(hu:VR m u v)(ok:sL P 8 t=true):bk τ P F fw m (Op.equal t x u) (Op.equal t y v):=tz hG _ _ t ok hx hu
theorem yW {a b:Addr}(h:bJ m a b):bk τ P F fw m (shape a.block) (shape b.block):= .inr ⟨b.block,_,rfl,h.1,fun z=>⟨z,rfl,rfl⟩⟩
theorem vz (hG:P.globals.size=0){RA:aJ→Nat×Nat→Nat×Nat→Prop}{a b a' b':Addr}:bk τ P F RA m (Op.twoPlaces a b) (Op.twoPlaces a' b'):=by
 have e:(a.block !=b.block||decide (a.block≥(Program.mk (Program.toTables P) F).globals.size))=true:=by
  show(a.block !=b.block||decide (a.block≥P.globals.size))=true
  rw[hG];simp
 unfold Op.twoPlaces;refine dO ?_;dsimp only
 rw[if_pos e];exact nofun
theorem Js (hG:P.globals.size=0){x y u v:Addr}(hx:bJ m x y)(hu:bJ m u v):
  bk τ P F VR m (do Op.addrSub .u64 (←behindNumber x).1 (←behindNumber u).1) (do Op.addrSub .u64 (←behindNumber y).1 (←behindNumber v).1):=
 (Jp hx).bind fun n p q hn e=>(Jp (hu.mono hn)).bind fun n2 p' q' dt e2=>(vz (RA:=fun _ _ _=>False) hG).bind fun _ _ _ _ h=>h.elim
theorem Jt (hG:P.globals.size=0)(op:BinOp){x y u v:Addr}(hx:bJ m x y)(hu:bJ m u v):
  bk τ P F VR m (do Op.addrCmp op (←behindNumber x).1 (←behindNumber u).1) (do Op.addrCmp op (←behindNumber y).1 (←behindNumber v).1):=
 (Jp hx).bind fun n p q hn e=>(Jp (hu.mono hn)).bind fun n2 p' q' dt e2=>(vz (RA:=fun _ _ _=>False) hG).bind fun _ _ _ _ h=>h.elim
theorem kV:∀(d:Nat) (t:TypeId) (o:Nat),byteOfCell (Program.mk (Program.toTables P) F) d t o=byteOfCell P d t o
 |0,_,_=>rfl
 |d+1,t,o=>by
  unfold byteOfCell;have e:Program.underlying (Program.mk (Program.toTables P) F) t=P.underlying t:=rfl
  rw[e]
  cases P.underlying t with
  |none=>rfl
  |some dd=>
   cases dd with
   |struct fs=>
    simp only[kV d];rfl
   |array n e=>
    simp only[kV d];rfl
   |_=>rfl
theorem B0 {a b:Addr}(h:bJ m a b):bk τ P F (fun _ x y=>x=none∧y=none) m (viewAt a.block) (viewAt b.block):=by
 refine .inr ⟨b.block,_,rfl,h.1,fun z=>?_⟩
 cases z with
 |none=>exact⟨b.block,_,rfl,h.1,fun p q l Sz=>⟨_,rfl,rfl,rfl⟩⟩
 |some z=>exact⟨none,rfl,rfl,rfl⟩
theorem Ot {a b:Addr}(h:bJ m a b):bk τ P F fw m (noView a) (noView b):=
 (B0 h).bind fun n x y hn e=>by obtain⟨rfl,rfl⟩:=e;exact bV
theorem Ou {a b:Addr}(h:bJ m a b):bk τ P F fw m (byteOf a) (byteOf b):=by
 unfold byteOf;obtain⟨h1,h2,h3,h4⟩:=h;rw[h3,h4];refine dO ?_;dsimp only
 refine(Ot ⟨h1,h2,h3,h4⟩).bind fun n _ _ hn _=>?_;refine(yW (bJ.mono hn ⟨h1,h2,h3,h4⟩)).bind fun n2 z z' dt e=>?_;subst e
 cases z with
 |none=>trivial
 |some z=>
  obtain⟨e,k⟩:=z;dsimp only
  have ec:Program.cellsOf (Program.mk (Program.toTables P) F) e=P.cellsOf e:=rfl
  have eb:Program.bytesOf (Program.mk (Program.toTables P) F) e=P.bytesOf e:=rfl
  have ed:Program.depth (Program.mk (Program.toTables P) F)=P.depth:=rfl
  simp only[ec,eb,ed,kV,h2];split
  ·exact bV
  ·cases byteOfCell P P.depth e (a.off % P.cellsOf e)with
   |none=>trivial
   |some x=>exact bV
theorem zZ (k:IntKind)(c:Int){x y:Addr}(hx:bJ m x y):
  bk τ P F VR m (do Op.addrMod k (←behindNumber x).1 c) (do Op.addrMod k (←behindNumber y).1 c):=by
 refine(Jp hx).bind fun n p q hn e=>?_;unfold Op.addrMod;refine(yW e.1).bind fun n1 z z' cS e1=>?_;subst e1
 cases z with
 |none=>exact nofun
 |some z=>
  obtain⟨t,k⟩:=z;refine(fI t).bind fun n2 i i' dt e2=>?_;subst e2;dsimp only
  split
  ·exact nofun
  ·exact(Ou ((e.1.mono cS).mono dt)).bind fun n3 a b mK e3=>by subst e3;exact sP (.int _ _)
theorem oh:∀(d:Nat) (t:TypeId) (o:Nat),cellOfByte (Program.mk (Program.toTables P) F) d t o=cellOfByte P d t o
 |0,_,_=>rfl
 |d+1,t,o=>by
  unfold cellOfByte;have e:Program.underlying (Program.mk (Program.toTables P) F) t=P.underlying t:=rfl
  rw[e]
  cases P.underlying t with
  |none=>rfl
  |some dd=>
   cases dd with
   |struct fs=>
    simp only[oh d];rfl
   |array n e=>
    simp only[oh d];rfl
   |_=>rfl
theorem AY (e:TypeId)(c o:Nat)(b:Int):cellAtBytes (Program.mk (Program.toTables P) F) (Program.mk (Program.toTables P) F).depth e c o b=cellAtBytes P P.depth e c o b:=by
 unfold cellAtBytes;have ec:Program.cellsOf (Program.mk (Program.toTables P) F) e=P.cellsOf e:=rfl
 have eb:Program.bytesOf (Program.mk (Program.toTables P) F) e=P.bytesOf e:=rfl
 have ed:Program.depth (Program.mk (Program.toTables P) F)=P.depth:=rfl
 simp only[ec,eb,ed,kV,oh]
theorem tB (t:TypeId){x y u v:Value}(hx:VR m x y)(hu:VR m u v):bk τ P F (fun n a b=>VR n a b∧a≠.nilFunc) m (Builtin.unsafeAdd_ #[] t #[x,u]) (Builtin.unsafeAdd_ #[] t #[y,v]):=by
 unfold Builtin.unsafeAdd_;have tail:∀{p q:Option Addr},((p=none∧q=none)∨∃a b,p=some a∧q=some b∧bJ m a b)→VR m (.pointer p) (.pointer q):=by
  rintro p q (⟨rfl,rfl⟩|⟨a,b,rfl,rfl,h⟩)
  ·exact .nilPtr
  ·exact .ptr h
 cases hx with
 |nilPtr=>
  refine(uM hu).bind fun n c c' hn e=>?_;subst e;dsimp only
  split
  ·exact nofun
  ·split
   ·exact nofun
   ·exact nofun
 |ptr ha=>
  refine(uM hu).bind fun n c c' hn e=>?_;subst e;dsimp only
  split
  ·refine(B0 (ha.mono hn)).bind fun n1 z z' cS e1=>?_
   obtain⟨rfl,rfl⟩:=e1;exact sP ⟨.ptr ((ha.mono hn).mono cS),fun e=>(by cases e)⟩
  ·split
   ·exact nofun
   ·refine(yW (ha.mono hn)).bind fun n1 z z' cS e1=>?_
    subst e1
    cases z with
    |none=>exact nofun
    |some z=>
     obtain⟨e,k⟩:=z;refine dO ?_;have ec:Program.cellsOf (Program.mk (Program.toTables P) F) e=P.cellsOf e:=rfl
     simp only[AY,ec];rw[show _=_ from ha.2.1]
     split
     ·exact sP ⟨.ptr ⟨cS.sub _ _ (hn.sub _ _ ha.1),rfl,ha.2.2.1,ha.2.2.2⟩,fun e=>(by cases e)⟩
     ·exact nofun
 |_=>trivial
theorem yX (t:TypeId){x y u v:Value}(hx:VR m x y)(hu:VR m u v):bk τ P F VR m (Builtin.unsafeAdd_ #[] t #[x,u]) (Builtin.unsafeAdd_ #[] t #[y,v]):=(tB t hx hu).mono fun _ _ _ _ h=>h.1
theorem nd (t:TypeId)(ht:∀d,P.underlying t=some d→d≠.unsafePointer){x y u v:Value}(hx:VR m x y)(hu:VR m u v):bk τ P F VR m (movedNumber t x u) (movedNumber t y v):=by
 unfold movedNumber;refine(sU t).bind fun n1 d d' cS e=>?_;obtain⟨rfl,hd⟩:=e;have jN:=hx.mono cS;have tC:=hu.mono cS;have tail:bk τ P F VR n1 (match(generalizing:=false) x with
    | .pointer (some n)=>(behindNumber n).bind fun p=>(Builtin.unsafeAdd_ #[] t #[.pointer (some p.1),u]).bind fun r=>match r with
      | .pointer (some b)=>asNumber b p.2
      |v=>Sem.pure v
    |_=>Builtin.unsafeAdd_ #[] t #[x,u])
   (match(generalizing:=false) y with
    | .pointer (some n)=>(behindNumber n).bind fun p=>(Builtin.unsafeAdd_ #[] t #[.pointer (some p.1),v]).bind fun r=>match r with
      | .pointer (some b)=>asNumber b p.2
      |v=>Sem.pure v
    |_=>Builtin.unsafeAdd_ #[] t #[y,v]):=by
  cases jN with
  |ptr ha=>
   refine(Jp ha).bind fun n2 p q dt e=>?_;obtain⟨p,lost⟩:=p;obtain⟨q,aed⟩:=q;obtain⟨e1,e2⟩:=e;dsimp only at e1 e2
   subst e2;refine(tB t (.ptr e1) (tC.mono dt)).bind fun n3 r r' mK hr=>?_;obtain⟨hr,GQ⟩:=hr
   cases hr with
   |ptr hb=>
    refine⟨_,_,rfl,.inr ⟨_,_,_,rfl,rfl,hb⟩,fun n4 r r' AX hr=>?_⟩
    exact sP (.ptr ⟨hr,rfl,rfl,rfl⟩)
   |func f hf hs hh ht hk=>exact sP (.func f hf hs hh ht hk)
   |iY y hy hn=>exact absurd rfl GQ
   |_=>exact sP (by constructor<;>assumption)
  |nilPtr=>exact yX t .nilPtr tC
  |bool b=>exact yX t (.bool b) tC
  |int k b=>exact yX t (.int k b) tC
  |string b=>exact yX t (.string b) tC
  |c8 l c=>exact yX t (.c8 l c) tC
  |slice l c h=>exact yX t (.slice l c h) tC
  |mz=>exact yX t .mz tC
  |nilFunc=>exact yX t .nilFunc tC
  |iY y hy hn=>trivial
  |nilIface=>exact yX t .nilIface tC
  |iface a ha h=>exact yX t (.iface a ha h) tC
  |func f hf hs hh ht hk=>exact yX t (.func f hf hs hh ht hk) tC
  |agg hs hh=>exact yX t (.agg hs hh) tC
  |tuple hs hh=>exact yX t (.tuple hs hh) tC
 have cf:=ht d hd
 cases d with
 |unsafePointer=>exact absurd rfl cf
 |_=>exact tail
theorem yY (R:gu τ P)(op:BinOp)(t:TypeId)(k k':IntKind)(a b:Int):bk τ P F VR m (binOp op t (.int k a) (.int k' b)) (binOp op t (.int k a) (.int k' b)):=by
 have arith:∀op,bk τ P F VR m (if k≠k' then stuck "BinOp: operands of different kinds" else Op.intArith op k a b) (if k≠k' then stuck "BinOp: operands of different kinds" else Op.intArith op k a b):=by
  intro op;split
  ·trivial
  ·cases op<;>first|exact sP (.int _ _)|trivial
 have ZU:∀op,bk τ P F VR m (if k≠k' then stuck "BinOp: operands of different kinds" else Op.intBits op k a b) (if k≠k' then stuck "BinOp: operands of different kinds" else Op.intBits op k a b):=by
  intro op;split
  ·trivial
  ·cases op<;>first|exact sP (.int _ _)|trivial
 have cmp:∀op,bk τ P F VR m (if k≠k' then stuck "BinOp: operands of different kinds" else Op.intCmp op a b) (if k≠k' then stuck "BinOp: operands of different kinds" else Op.intCmp op a b):=by
  intro op;split
  ·trivial
  ·cases op<;>first|exact sP (.bool _)|trivial
 have div:∀op,bk τ P F VR m (if k≠k' then stuck "BinOp: operands of different kinds" else Op.intDiv op k a b) (if k≠k' then stuck "BinOp: operands of different kinds" else Op.intDiv op k a b):=by
  intro op;split
  ·trivial
  ·unfold Op.intDiv
   split
   ·exact nV R
   ·cases op<;>first|exact sP (.int _ _)|trivial
 have sh:∀op,bk τ P F VR m (Op.shift op k a k' b) (Op.shift op k a k' b):=by
  intro op;unfold Op.shift;split
  ·exact nV R
  ·cases op<;>first|exact sP (.int _ _)|trivial
 cases op<;>first|exact arith _|exact ZU _|exact cmp _|exact div _|exact sh .shl|exact sh .shr
theorem yZ (op:BinOp)(t:TypeId)(a b:ByteArray):bk τ P F VR m (binOp op t (.string a) (.string b)) (binOp op t (.string a) (.string b)):=by
 have e:binOp op t (.string a) (.string b)=Op.stringOp op a b:=by cases op<;>rfl
 rw[e];unfold Op.stringOp;dsimp only
 cases op<;>first|exact sP (.bool _)|trivial|(dsimp only;split<;>first|exact sP (.string _)|exact nofun)
theorem SD (hG:P.globals.size=0)(t:TypeId){x y u v:Value}(hx:VR m x y)(hu:VR m u v)(ok:sL P 8 t=true):bk τ P F VR m (do pure (.bool (←Op.equal t x u))) (do pure (.bool (←Op.equal t y v))):=
 (Fi hG t hx hu ok).bind fun n a b hn e=>by subst e;exact sP (.bool _)
theorem SE (hG:P.globals.size=0)(t:TypeId){x y u v:Value}(hx:VR m x y)(hu:VR m u v)(ok:sL P 8 t=true):bk τ P F VR m (do pure (.bool (!(←Op.equal t x u)))) (do pure (.bool (!(←Op.equal t y v)))):=
 (Fi hG t hx hu ok).bind fun n a b hn e=>by subst e;exact sP (.bool _)
end
end Go.Proofs.YtabjbdnokpjipaaGreat.Sr
namespace Go.Proofs.YtabjbdnokpjipaaGreat.Sr
open Go
section
variable {τ:TypeId}{P:Program}{F:Array Func}{α β γ δ:Type}{m:aJ}
theorem Ov (t:TypeId)(ht:∀d,P.underlying t=some d→d≠.unsafePointer){x y u v:Value}(hx:VR m x y)(hu:VR m u v):
  bk τ P F VR m (do if(←underlying t) matches .unsafePointer then movedPointer t x u else movedNumber t x u) (do if(←underlying t) matches .unsafePointer then movedPointer t y v else movedNumber t y v):=by
 refine(sU t).bind fun n1 d d' cS e=>?_;obtain⟨rfl,hd⟩:=e;have cf:=ht d hd
 cases d with
 |unsafePointer=>exact absurd rfl cf
 |_=>exact nd t ht (hx.mono cS) (hu.mono cS)
theorem B3 (k:IntKind)(c:Int){x y:Addr}(hx:bJ m x y):
  bk τ P F VR m (do Op.addrMod k (←behindNumber x).1 (c+1)) (do Op.addrMod k (←behindNumber y).1 (c+1)):=zZ k (c+1) hx
theorem z_ {RA:aJ→Value→β→Prop}(op:BinOp)(t:TypeId){x u:Value}(ok:pR P op t=true)(h:x= .nilFunc∨u= .nilFunc){s':Sem β}:bk τ P F RA m (binOp op t x u) s':=by
 have eq:(op= .eql∨op= .neq)→sL P 8 t=true:=by rintro(rfl|rfl)<;>(simp only[pR,Bool.and_eq_true]at ok;exact ok.1)
 rcases h with rfl|rfl
 ·cases op<;>cases u<;>first|trivial|exact mI nofun|(rename_i a;cases a<;>first|trivial|exact mI nofun)|exact pe t (eq (.inl rfl)) (.inl rfl)|exact pe t (eq (.inr rfl)) (.inl rfl)
 ·cases op<;>cases x<;>first|trivial|exact mI nofun|(rename_i a;cases a<;>first|trivial|exact mI nofun)|exact pe t (eq (.inl rfl)) (.inr rfl)|exact pe t (eq (.inr rfl)) (.inr rfl)
set_option maxHeartbeats 4000000 in
theorem SG (R:gu τ P)(hG:P.globals.size=0)(op:BinOp)(t:TypeId){x y u v:Value}(hx:VR m x y)(hu:VR m u v)(ok:pR P op t=true):bk τ P F VR m (binOp op t x u) (binOp op t y v):=by
 by_cases SC:x= .nilFunc
 ·exact z_ op t ok (.inl SC)
 by_cases SB:u= .nilFunc
 ·exact z_ op t ok (.inr SB)
 by_cases he:op= .eql
 ·subst he
  simp only[pR,Bool.and_eq_true]at ok;have h:=SD (τ:=τ) (F:=F) hG t hx hu ok.1
  cases hx<;>cases hu<;>first|exact absurd rfl SC|exact absurd rfl SB|exact yY R _ _ _ _ _ _|exact yZ _ _ _ _|exact h
 ·by_cases hn:op= .neq
  ·subst hn
   simp only[pR,Bool.and_eq_true]at ok;have h:=SE (τ:=τ) (F:=F) hG t hx hu ok.1
   cases hx<;>cases hu<;>first|exact absurd rfl SC|exact absurd rfl SB|exact yY R _ _ _ _ _ _|exact yZ _ _ _ _|exact h
  ·have ht:∀d,P.underlying t=some d→d≠.unsafePointer:=by
    rintro d hd rfl
    cases op<;>simp_all[pR]
   have h1:=Ov (τ:=τ) (F:=F) t ht hx hu;have h2:=nd (τ:=τ) (F:=F) t ht hu hx;have h3:=fun k n=>nd (τ:=τ) (F:=F) t ht hx (VR.int (m:=m) k n)
   cases hx with
   |int k a=>
    cases hu with
    |int k2 b=>exact yY R _ _ _ _ _ _
    |ptr hb=>cases op<;>first|exact absurd rfl he|exact absurd rfl hn|exact h2|exact B3 _ _ hb|exact nofun
    |nilPtr=>cases op<;>first|exact absurd rfl he|exact absurd rfl hn|exact h2|exact nofun
    |_=>cases op<;>first|exact absurd rfl he|exact absurd rfl hn|trivial
   |ptr ha=>
    cases hu with
    |int k2 b=>cases op<;>first|exact absurd rfl he|exact absurd rfl hn|exact h1|exact h3 _ _|exact zZ _ _ ha|exact B3 _ _ ha|exact nofun
    |ptr hb=>cases op<;>first|exact absurd rfl he|exact absurd rfl hn|exact Js hG ha hb|exact Jt hG _ ha hb|exact nofun
    |_=>cases op<;>first|exact absurd rfl he|exact absurd rfl hn|exact nofun
   |nilPtr=>
    cases hu with
    |int k2 b=>cases op<;>first|exact absurd rfl he|exact absurd rfl hn|exact h1|exact h3 _ _|exact nofun
    |_=>cases op<;>first|exact absurd rfl he|exact absurd rfl hn|exact nofun
   |string a=>
    cases hu with
    |string b=>exact yZ _ _ _ _
    |ptr hb=>cases op<;>first|exact absurd rfl he|exact absurd rfl hn|exact nofun
    |nilPtr=>cases op<;>first|exact absurd rfl he|exact absurd rfl hn|exact nofun
    |_=>cases op<;>first|exact absurd rfl he|exact absurd rfl hn|trivial
   |_=>
    cases hu with
    |ptr hb=>cases op<;>first|exact absurd rfl he|exact absurd rfl hn|exact nofun
    |nilPtr=>cases op<;>first|exact absurd rfl he|exact absurd rfl hn|exact nofun
    |_=>cases op<;>first|exact absurd rfl he|exact absurd rfl hn|trivial
structure B4 (P:Program) (F:Array Func) (good:FuncId→Bool):Prop where
 both:∀f,good f=true→∃fn SH,F[f]?=some fn∧P.funcs[f]?=some SH∧fn.body.isSome=true∧SH.body.isSome=true∧fn.name≠ "runtime.NumGoroutine"∧SH.name≠ "runtime.NumGoroutine"
theorem qQ (hF:B4 P F m.good)(f:FuncId)(hf:m.good f=true){us vs:Array Value}(h:AR m us vs)(hn:∀n,c_ f=some n→us.size=n):bk τ P F km m (callFunc f us) (callFunc f vs):=by
 obtain⟨fn,SH,h1,h2,b1,b2,n1,n2⟩:=hF.both f hf;unfold callFunc;refine dO ?_;dsimp only
 rw[h1,h2];dsimp only
 rw[if_neg (by simpa using n1),if_neg (by cases hg:fn.body<;>simp_all),if_neg (by simpa using n2),if_neg (by cases hg:SH.body<;>simp_all)]
 exact sP (.enter f hf h hn)
theorem Ej (R:gu τ P)(hF:B4 P F m.good){x y:Value}(h:VR m x y){us vs:Array Value}(k:AR m us vs):
  bk τ P F km m ((Deferred.ofValue x us).bind fun d=>invoke d.target d.args) ((Deferred.ofValue y vs).bind fun d=>invoke d.target d.args):=by
 cases h with
 |func f hf hs hh ht hk=>
  cases f with
  |func f=>
   show bk τ P F km m (invoke (.fn (.func f) _) _) (invoke (.fn (.func f) _) _)
   exact qQ hF f hf.1 ((AR.append (show AR m _ _ from⟨hs,hh⟩) k).append ⟨ht,hk⟩) fun n hn=>by rw[hf.2]at hn;cases hn
  |_=>exact hf.elim
 |nilFunc=>exact ir R
 |iY=>exact zW R
 |_=>trivial
theorem B5 (xt t:TypeId)(hc:Oq P t=true)(hZ:vv P t=true){x y:Value}(h:VR m x y):bk τ P F VR m (Instr.typeAssert x xt t true) (Instr.typeAssert y xt t true):=by
 unfold Instr.typeAssert;have Wf:∀{n:aJ},bk τ P F VR n ((zeroValue t).bind fun z=>Sem.pure (.tuple #[z,.bool false])) ((zeroValue t).bind fun z=>Sem.pure (.tuple #[z,.bool false])):=fun {n}=>
  (iS t hZ).bind fun _ a b _ eT=>sP (.tuple rfl fun i h1 h2=>by
   rcases i with _|_|i
   ·exact eT
   ·exact .bool _
   ·exact absurd h1 (by simp))
 have holds:∀{n:aJ} {u v:Value},VR n u v→bk τ P F VR n (Sem.pure (.tuple #[u,.bool true])) (Sem.pure (.tuple #[v,.bool true])):=fun {n u v} eT=>sP (.tuple rfl fun i h1 h2=>by
   rcases i with _|_|i
   ·exact eT
   ·exact .bool _
   ·exact absurd h1 (by simp))
 refine(sU t).bind fun n a b hn e=>?_;obtain⟨rfl,ha⟩:=e;have ZV:∀ms,a≠.interface ms:=fun ms e=>by
  subst e;unfold Oq at hc;rw[ha]at hc
  cases hc
 cases h with
 |iface t' _ hx=>
  by_cases ht:t'=t
  ·cases a<;>first|exact absurd rfl (ZV _)|(simp only[ht,if_true];exact holds (hx.mono hn))
  ·cases a<;>first|exact absurd rfl (ZV _)|(simp only[ht,if_false];exact Wf)
 |nilIface=>cases a<;>first|exact absurd rfl (ZV _)|exact Wf
 |_=>cases a<;>first|exact absurd rfl (ZV _)|trivial
theorem Wg (R:gu τ P)(t:TypeId)(nm:ByteArray){x y:Value}(h:VR m x y):bk τ P F VR m (Builtin.ssaWrapNilChk_ #[t] t #[x,strVal "",.string nm]) (Builtin.ssaWrapNilChk_ #[t] t #[y,strVal "",.string nm]):=by
 unfold Builtin.ssaWrapNilChk_
 cases h with
 |ptr ha=>exact sP (.ptr ha)
 |nilPtr=>
  refine(qP _).bind fun n a b hn e=>?_;subst e;have rest:∀{n:aJ} {c c':Unit→Sem Value},bk τ P F VR n (c ()) (c' ())→bk τ P F VR n (if(a==1)=true then Sem.bind (runtimePanic .nilDeref) c else c ()) (if(a==1)=true then Sem.bind (runtimePanic .nilDeref) c' else c' ()):=fun {n c c'} h=>by
   split
   ·exact SR.bind (RA:=fun _ _ _=>False) (ir R) fun _ _ _ _ h=>h.elim
   ·exact h
  refine rest (n:=n) ?_;refine(sU t).bind fun n a b hn e=>?_;obtain⟨rfl,_⟩:=e
  cases a<;>first|trivial|skip
  refine(fI _).bind fun n a b hn e=>?_;subst e;dsimp only
  generalize TypeInfo.desc _=d
  cases d<;>first|trivial|skip
  dsimp only
  cases String.fromUTF8? nm<;>first|trivial|skip
  dsimp only
  split
  ·exact mJ (s':=Sem.halt (.stuck "")) R (.inr (.inr (.inl ⟨_,rfl⟩)))
  ·exact mI nofun
 |_=>trivial
theorem GR (R:gu τ P)(t:TypeId)(nm:String)(pr:Bool){x y:Value}(h:VR m x y):bk τ P F VR m (receiverAt t (.val x) pr (some nm)) (receiverAt t (.val y) pr (some nm)):=by
 unfold receiverAt;refine(sU t).bind fun n a b hn e=>?_;obtain⟨rfl,_⟩:=e;have h':=h.mono hn;have load:∀e,bk τ P F VR n ((Sem.pure x).bind fun p=>(Builtin.ssaWrapNilChk_ #[t] t #[p,strVal "",strVal nm]).bind fun p=>(asAddr p).bind fun A=>loadVar e A) ((Sem.pure y).bind fun p=>(Builtin.ssaWrapNilChk_ #[t] t #[p,strVal "",strVal nm]).bind fun p=>(asAddr p).bind fun A=>loadVar e A):=fun e=>
  (sP h').bind fun n a b hn eT=>(Wg R t _ eT).bind fun n a b hn eT=>(wu R eT).bind fun n a b hn eT=>tw e eT
 cases a<;>cases pr<;>first|exact sP h'|exact load _|trivial
theorem Ow (R:gu τ P)(name:String)(hi:GN P m.good name=true)(t:TypeId)(ht:GF.contains t=true){x y:Value}(h:VR m x y)(k:Nat):bk τ P F (fun n a b=>a.1=b.1∧m.good a.1=true∧c_ a.1=none∧VR n a.2 b.2) m (method (k+1) t x name) (method (k+1) t y name):=by
 unfold method;have Ox:bk τ P F (fun _ a b=>a=b∧P.info? t=some a) m (typeInfo t) (typeInfo t):=by
  unfold typeInfo;refine dO ?_;show bk τ P F _ m (match P.info? t with|some i=>pure i|none=>stuck "no such type") _
  cases P.info? t with
  |none=>trivial
  |some i=>exact⟨i,rfl,rfl,rfl⟩
 refine Ox.bind fun n i i' hn e=>?_;obtain⟨rfl,Ox⟩:=e
 cases hm:i.methods.find? (fun m=>m.name==name)with
 |none=>trivial
 |some r=>
  have dP:r.path.isEmpty=true∧∃f pr,r.func=some (f,pr)∧m.good f=true∧c_ f=none:=by
   have:=List.all_eq_true.1 hi t (by simpa using ht)
   rw[Ox]at this;dsimp only at this
   rw[hm]at this;dsimp only at this
   rw[Bool.and_eq_true]at this;refine⟨this.1,?_⟩;have h2:=this.2;split at h2
   ·rename_i f pr hf
    rw[Bool.and_eq_true]at h2;exact⟨f,pr,hf,h2.1,by simpa using h2.2⟩
   ·cases h2
  obtain⟨hp,f,pr,hf,hg,hs⟩:=dP;have bw:r.path= #[]:=by simpa using hp
  dsimp only
  rw[bw];dsimp only[follow]
  refine(sP (RA:=fun n a b=>a=(t,Place.val x)∧b=(t,Place.val y)) ⟨rfl,rfl⟩).bind fun n2 a b dt eT=>?_;obtain⟨rfl,rfl⟩:=eT;rw[hf];have he:(#[]:Array FieldStep).isEmpty=true:=rfl
  simp only[he,if_true];exact(GR R t _ pr ((h.mono hn).mono dt)).bind fun n3 a b mK eT=>sP ⟨rfl,hg,hs,eT⟩
theorem B6 (R:gu τ P)(hF:B4 P F m.good)(name:String)(hi:GN P m.good name=true){x y:Value}(h:VR m x y){us vs:Array Value}(k:AR m us vs):bk τ P F km m (callMethod x name us) (callMethod y name vs):=by
 unfold callMethod
 cases h with
 |iface t ht h=>
  refine dO ?_;refine(Ow R name hi t ht h _).bind fun n a b hn eT=>?_;obtain⟨f,v⟩:=a;obtain⟨f',v'⟩:=b;obtain⟨rfl,hg,hs,hv⟩:=eT;exact qQ (hn.good▸hF) f (by rw[←hn.good];exact hg) ((AR.one hv).append (k.mono hn)) fun n hn=>by rw[hs]at hn;cases hn
 |nilIface=>exact ir R
 |_=>trivial
theorem qR (R:gu τ P)(hG:P.globals.size=0)(hF:B4 P F m.good){ρ ρ':Operand→Value}(h:tA m ρ ρ')(o:Oper)(ok:jl P m.good o.op=true)(ZW:∀f,ρ (.func f)= .func (.func f) #[] #[]∧ρ' (.func f)= .func (.func f) #[] #[]):
  bk τ P F km m (execOp ρ o) (execOp ρ' o):=by
 obtain⟨dst,op,type,pos,after,guard⟩:=o;dsimp only at ok
 cases op with
 |move x=>exact sP (.value (h x ok))
 |assign x=>exact sP (.value (h x ok))
 |pick c a b=>
  simp only[jl,Bool.and_eq_true]at ok;refine(Ol (h c ok.1.1)).bind fun n p q hn e=>?_;subst e
  cases p
  ·exact sP (.value ((h b ok.2).mono hn))
  ·exact sP (.value ((h a ok.1.2).mono hn))
 |alloc t=>exact jW (Su t ok _)
 |box t x=>exact jW (ZQ t (h x ok))
 |build t ps=>
  simp only[jl,Bool.and_eq_true]at ok;exact jW (Sv t ok.1 (h.parts ok.2))
 |buildSlice t l ps=>
  simp only[jl,Bool.and_eq_true]at ok;exact jW (BW t ok.1 l (h.parts ok.2))
 |load t x=>exact jW (Om t (h x ok))
 |store t a x=>
  simp only[jl,Bool.and_eq_true]at ok;exact acK (Jh t (h a ok.1) (h x ok.2))
 |nilCheck x=>exact GO R (h x ok) _ ρ ρ' x rfl rfl rfl
 |binOp op t x y t2=>
  simp only[jl,Bool.and_eq_true]at ok;exact jW ((Jr op t x y (h x ok.1.2) (h y ok.2) ok.1.1).bind fun n _ _ hn _=>SG R hG op t ((h x ok.1.2).mono hn) ((h y ok.2).mono hn) ok.1.1)
 |unOp op t x=>exact jW (SA op (h x ok))
 |convert s d x=>
  simp only[jl,Bool.and_eq_true]at ok;exact jW (Jq s d (h x ok.2) ok.1)
 |makeInterface t x=>
  refine jW ?_;refine(sU t).bind fun n a b hn e=>?_;obtain⟨rfl,_⟩:=e;simp only[jl,Bool.and_eq_true]at ok
  cases a<;>first|trivial|exact sP (.iface _ ok.1 ((h x ok.2).mono hn))
 |makeFunc f us vs=>
  simp only[jl,Bool.and_eq_true]at ok;refine jW (GJ f ?_ (h.arr ok.1.2) (h.arr ok.2))
  cases f<;>first|exact(by simpa[We,aJ.fn]using ok.1.1)|exact absurd ok.1.1 (by simp[We])
 |makeSlice t l c=>
  simp only[jl,Bool.and_eq_true]at ok;exact jW (Eh R t ok.1.1 (h l ok.1.2) (h c ok.2))
 |slice t x lo hi mx=>
  simp only[jl,Bool.and_eq_true]at ok;exact jW (Jm R t (h x ok.1.1.1) (h.opt ok.1.1.2) (h.opt ok.1.2) (h.opt ok.2))
 |fieldAddr s x f=>
  simp only[jl,Bool.and_eq_true]at ok;exact jW (Ji s f (h x ok.2) ok.1)
 |indexAddr t x i=>
  simp only[jl,Bool.and_eq_true]at ok;exact jW (Jj R t (h x ok.1) (h i ok.2))
 |index t x i=>
  simp only[jl,Bool.and_eq_true]at ok;exact jW (Sw R t (h x ok.1) (h i ok.2))
 |extract x i=>exact jW (Jk i (h x ok))
 |typeAssert x xt t c=>
  simp only[jl,Bool.and_eq_true]at ok;obtain⟨⟨⟨rfl,o1⟩,o2⟩,o3⟩:=ok;exact jW (B5 xt t o1 o2 (h x o3))
 |call c=>
  obtain⟨callee,args,ts⟩:=c;simp only[jl,Bool.and_eq_true]at ok;have ha:=h.arr ok.2
  cases callee with
  |value f=>
   cases f with
   |func f=>
    have Wh:m.good f=true∧(match c_ f with|none=>true|some n=>args.size==n)=true:=by
     have:=ok.1
     simp only[xw,Bool.and_eq_true]at this;exact this
    have e0:∀us:Array Value,(#[]++us++ #[]:Array Value)=us:=fun us=>by simp
    show bk τ P F km m ((Deferred.ofValue (ρ (.func f)) (args.map ρ)).bind fun d=>invoke d.target d.args) ((Deferred.ofValue (ρ' (.func f)) (args.map ρ')).bind fun d=>invoke d.target d.args)
    rw[(ZW f).1,(ZW f).2];show bk τ P F km m (callFunc f (#[]++args.map ρ++ #[])) (callFunc f (#[]++args.map ρ'++ #[]))
    rw[e0,e0];refine qQ hF f Wh.1 ha fun n hn=>?_;have:=Wh.2
    rw[hn]at this;simpa using this
   |tmp t=>exact Ej R hF (h (.tmp t) rfl) ha
   |_=>exact absurd ok.1 (by simp[xw])
  |invoke x name=>
   have Wh:gV x=true∧GN P m.good name=true:=by simpa only[xw,Bool.and_eq_true]using ok.1
   have e0:∀(v:Value) (us:Array Value),(#[v]++us).extract 1 (#[v]++us).size=us:=fun v us=>by simp
   have e2:∀(v:Value) (us:Array Value),invoke (.fn (.method name) #[]) (#[v]++us)=callMethod v name us:=fun v us=>by
    have e1:(#[v]++us)[0]?=some v:=by simp[Array.getElem?_append]
    unfold invoke;simp only[e1,e0]
   show bk τ P F km m (invoke (.fn (.method name) #[]) (#[ρ x]++args.map ρ)) (invoke (.fn (.method name) #[]) (#[ρ' x]++args.map ρ'))
   rw[e2,e2];exact B6 R hF name Wh.2 (h x Wh.1) ha
  |builtin b=>
   cases b with
   |len=>exact jW (ZR ts _ ha)
   |cap=>exact jW (ZS ts _ ha)
   |max=>exact jW (ZT ts _ ha)
   |append=>exact jW (On R ts _ ha ok.1)
   |_=>exact absurd ok.1 (by simp[xw])
 |_=>exact absurd ok (by simp[jl])
end
end Go.Proofs.YtabjbdnokpjipaaGreat.Sr
namespace Go.Proofs.YtabjbdnokpjipaaGreat.Sr
open Go Go.Conc
section
variable {τ:TypeId}{P' P:Program}{α β:Type}{RA:aJ→α→β→Prop}
theorem SR.writes {s:Sem α}{s':Sem β}:∀{m:aJ} {v w:World} {es:Array Event} {a:α} {v':World} {bd:Array Event},SR τ P' P RA m s s'→WR m v w→s.runT P' v es=(.ok a v',bd)→
  ∃us:List Event,bd=es++us.toArray∧(∀e∈us,e.write=true→∀a,e.loc= .cell a→¬fc v a.block)∧(∀r,fc v r→v'.heap[r]?=v.heap[r]?):=by
 induction s generalizing s' with
 |pure a=>
  intro m v w es a1 v' bd h hw hr;simp only[Sem.runT,Prod.mk.injEq,Result.ok.injEq]at hr;obtain⟨⟨rfl,rfl⟩,rfl⟩:=hr;exact⟨[],by simp,by simp,fun _ _=>rfl⟩
 |halt h0=>intro m v w es a1 v' bd h hw hr;simp[Sem.runT]at hr
 |load md a c ih=>
  intro m v w es a1 v' bd h hw hr;obtain⟨a',k',rfl,ha,hk⟩:=h;obtain⟨nG,n_,_⟩:=hw.cell ha;simp only[Sem.runT]at hr
  cases hv:v.cell? a with
  |none=>
   obtain⟨o,hb,⟨us,e,fz,rfl⟩|⟨z,l,rfl⟩⟩:=n_<;>
   rw[hv]at hr<;>
   simp[World.farLoad,hb]at hr
  |some x=>
   obtain⟨y,hy,nb⟩:=nG x hv;rw[hv]at hr;obtain⟨us,h1,h2,h3⟩:=ih x (hk m x y (aJ.le_refl m) nb) hw hr;refine⟨⟨.cell a,false,md== .atomic⟩::us,by rw[h1];simp,fun e he tD=>?_,h3⟩
   rcases List.mem_cons.1 he with rfl|he
   ·cases tD
   ·exact h2 e he tD
 |store md a x c ih=>
  intro m v w es a1 v' bd h hw hr;obtain⟨a',x',k',rfl,ha,hx,hk⟩:=h;obtain⟨nG,n_,kh⟩:=hw.cell ha;have tu:(∀cs,x≠.agg cs)∧(∀cs,x≠.tuple cs):=by
   constructor<;>(rintro cs rfl;simp[Sem.runT]at hr)
  have e1:∀(q:World) (gs:Array Event),Sem.runT P' (.store md a x c) q gs=match q.cell? a with
    |some _=>if q.frozen? a then(.halt (.unsupported (.unsafePointer "a write to bytes that a string shares")) q,gs)else c.runT P' (q.setCell a x) (gs.push ⟨.cell a,true,md== .atomic⟩)
    |none=>match q.farStore P' a x (md== .atomic)with
     | .ok (q,jk)=>c.runT P' q (gs++jk.toArray.map (⟨.cell ·,true,md== .atomic⟩))
     | .error h=>(.halt h q,gs):=by
   intro q gs
   cases x<;>first|rfl|exact absurd rfl (tu.1 _)|exact absurd rfl (tu.2 _)
  rw[e1]at hr
  cases hv:v.cell? a with
  |none=>
   obtain⟨o,hb,⟨us,e,fz,rfl⟩|⟨z,l,rfl⟩⟩:=n_<;>
   rw[hv]at hr<;>
   simp[World.farStore,hb]at hr
  |some u=>
   rw[hv]at hr;simp only at hr
   split at hr
   ·simp at hr
   ·rename_i Oj
    have V':¬fc v a.block:=fun h=>Oj (nU h hv)
    have lO:∀r,fc v r→(v.setCell a x).heap[r]?=v.heap[r]?:=by
     intro r hr0;rw[Eg];have:r≠a.block:=fun e=>V' (e▸hr0)
     simp[this]
    have hF:∀r,fc v r→fc (v.setCell a x) r:=fun r h0=>by
     exact h0.same (lO r h0)
    obtain⟨us,h1,h2,h3⟩:=ih (hk m (aJ.le_refl m)) (hw.set ha hx) hr;refine⟨⟨.cell a,true,md== .atomic⟩::us,by rw[h1];simp,fun e he tD b hb=>?_,fun r h0=>(h3 r (hF r h0)).trans (lO r h0)⟩
    rcases List.mem_cons.1 he with rfl|he
    ·injection hb with hb;rw[←hb];exact V'
    ·exact fun h0=>h2 e he tD b hb (hF _ h0)
 |new o c ih=>
  intro m v w es a1 v' bd h hw hr;obtain⟨o',k',rfl,ho,hk⟩:=h;obtain⟨hle,oa⟩:=hw.new ho;simp only[Sem.runT]at hr;have lO:∀r,fc v r→(v.heap.push o)[r]?=v.heap[r]?:=by
   intro r h0;have:=h0.lt
   rw[Array.getElem?_push,if_neg (by omega)]
  have hF:∀r,fc v r→fc {v with heap:=v.heap.push o} r:=fun r h0=>by
   exact h0.same (lO r h0)
  obtain⟨us,h1,h2,h3⟩:=ih v.heap.size (hk _ v.heap.size w.heap.size hle (by simp[aJ.put])) oa hr
  exact⟨us,h1,fun e he tD b hb h0=>h2 e he tD b hb (hF _ h0),fun r h0=>(h3 r (hF r h0)).trans (lO r h0)⟩
 |choose q c ih=>
  intro m v w es a1 v' bd h hw hr;obtain⟨k',rfl,hk⟩:=h;simp only[Sem.runT]at hr;split at hr
  ·exact ih 0 (hk 0) hw hr
  ·exact ih (q.cut (v.tape v.drawn q)) (v:={v with drawn:=v.drawn+1}) (w:={w with tape:=v.tape,drawn:=v.drawn+1}) (hk _) ⟨hw.inj,hw.kL,hw.os,rfl,rfl⟩ hr
 |program c ih=>
  intro m v w es a1 v' bd h hw hr;rcases h with h|⟨k',rfl,hk⟩
  ·simp only[Sem.runT]at hr
   obtain⟨_,_,_,e,_⟩:=fh.run (P:=P') (v:=v) (es:=es) h;rw[e]at hr;simp at hr
  ·exact ih P' hk hw hr
 |mark md c ih=>
  intro m v w es a1 v' bd h hw hr
  cases md with
  |noRoom=>
   obtain⟨k',rfl,hk⟩:=h;simp only[Sem.runT]at hr;obtain⟨us,h1,h2,h3⟩:=ih hk hw hr;refine⟨⟨.mark .noRoom,false,true⟩::us,by rw[h1];simp,fun e he tD=>?_,h3⟩
   rcases List.mem_cons.1 he with rfl|he
   ·cases tD
   ·exact h2 e he tD
  |_=>exact h.elim
 |getObj r c ih=>
  intro m v w es a1 v' bd h hw hr;obtain⟨r',k',rfl,f_,hk⟩:=h;obtain⟨o,p,ho,hp,bf⟩:=hw.kL _ _ f_;simp only[Sem.runT]at hr;rw[ho]at hr;rcases bf with⟨us,vs,e,fz,gz,rfl,rfl,hf,hs,hx⟩|⟨x,y,l,rfl,rfl,nb⟩
  ·simp at hr
  ·obtain⟨us,h1,h2,h3⟩:=ih (.number x l) (hk x y l nb) hw hr
   refine⟨⟨.obj r,false,false⟩::us,by rw[h1];simp[Obj.isChan],fun e he tD=>?_,h3⟩
   rcases List.mem_cons.1 he with rfl|he
   ·cases tD
   ·exact h2 e he tD
 |shape r c ih=>
  intro m v w es a1 v' bd h hw hr;simp only[Sem.runT]at hr;rcases h with h|⟨r',k',rfl,f_,hk⟩
  ·obtain⟨_,_,_,e,_⟩:=fh.run (P:=P') (v:=v) (es:=es) (h (v.shape? r));rw[e]at hr;simp at hr
  ·exact ih _ (hk _) hw hr
 |frozen a c ih=>intro m v w es a1 v' bd h hw hr;simp only[Sem.runT]at hr;obtain⟨_,_,_,e,_⟩:=fh.run (P:=P') (v:=v) (es:=es) (h _);rw[e]at hr;simp at hr
 |freeze a n c ih=>intro m v w es a1 v' bd h;exact h.elim
 |setObj r o c ih=>intro m v w es a1 v' bd h;exact h.elim
 |sys c k2 ih=>intro m v w es a1 v' bd h;exact h.elim
end
end Go.Proofs.YtabjbdnokpjipaaGreat.Sr
