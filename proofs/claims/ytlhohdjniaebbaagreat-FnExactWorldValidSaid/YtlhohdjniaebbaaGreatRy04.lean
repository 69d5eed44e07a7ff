/-
What is proved: whatever supported operation keeps the relation of Sr and what rests on it. Conditions: as stated.
-/
import Derived.Test.YtlhohdjniaebbaaGreatRy03
import Derived.Conc.Own
import Derived.Conc.Listed
set_option linter.unusedVariables false
set_option linter.unusedSimpArgs false
namespace Go.Proofs.YtlhohdjniaebbaaGreat.Sr
open Go
inductive iA (m:aD):Next→Next→Prop
 |value {x y:Value} (h:VR m x y):iA m (.value x) (.value y)
 |skip:iA m .skip .skip
 |enter (f:FuncId) {us vs:Array Value} (hf:m.good f=true) (h:AR m us vs) (hn:∀n,cA f=some n→us.size=n):iA m (.enter f us) (.enter f vs)
def nh (P:Program)(op:BinOp)(t:TypeId):Bool:=
 match op with
 | .eql| .neq=>pg P 8 t&& !P.eqGuardType P.depth t
 |_=>match P.underlying t with|some .unsafePointer=>false|_=>true
def Sd (good:FuncId→Bool):Fn→Bool
 | .func f=>good f&&(cA f).isNone
 |_=>false
def fa:Operand→Bool
 | .func f=>yd f
 | .tmp _=>true
 | .const (.bool _)| .const (.int _ _)| .const (.string _)| .const (.pointer none)| .const (.slice none _ _)| .const (.map none)| .const .nilFunc| .const .nilIface=>true
 | .const (.agg xs)=>xs.all fun| .bool _| .int _ _| .string _| .pointer none| .slice none _ _| .map none| .nilFunc| .nilIface=>true|_=>false
 | .const (.tuple xs)=>xs.isEmpty
 |_=>false
def Kt (P:Program)(t:TypeId):Bool:=match P.underlying t with
 |some (.interface _)=>false
 |some _=>true
 |none=>false
def CX (P:Program)(good:FuncId→Bool)(name:String):Bool:=CP.all fun t=>match P.info? t with
 |none=>true
 |some i=>match i.methods.find? (fun m=>m.name==name)with
  |none=>true
  |some m=>m.path.isEmpty&&(match m.func with|some (f,_)=>good f&&(cA f).isNone|none=>false)
def tF (P:Program)(good:FuncId→Bool)(c:Call):Bool:=
 match c.callee with
 | .value (.func f)=>good f&&(match cA f with|none=>true|some n=>c.args.size==n)
 | .value (.tmp _)=>true
 | .builtin .len| .builtin .cap| .builtin .max=>true
 | .builtin .append=>vq P c.argTypes
 | .invoke x name=>fa x&&CX P good name
 |_=>false
def gk (P:Program)(good:FuncId→Bool):Op→Bool
 | .move x| .assign x=>fa x
 | .pick c a b=>fa c&&fa a&&fa b
 | .alloc t=>rC P t
 | .box _ x=>fa x
 | .build t ps=>rC P t&&ps.all fun p=>fa p.2
 | .buildSlice t _ ps=>wy P t&&ps.all fun p=>fa p.2
 | .load _ x=>fa x
 | .store _ a x=>fa a&&fa x
 | .nilCheck x=>fa x
 | .binOp op t x y _=>nh P op t&&fa x&&fa y
 | .unOp _ _ x=>fa x
 | .convert s d x=>(match P.underlying s,P.underlying d with|some (.int _),some (.int _)=>true|some .string,some .string=>true|_,_=>false)&&fa x
 | .makeInterface t x=>CP.contains t&&fa x
 | .makeFunc f us vs=>Sd good f&&us.all fa&&vs.all fa
 | .makeSlice t l c=>wy P t&&fa l&&fa c
 | .slice _ x l h mx=>fa x&&l.all fa&&h.all fa&&mx.all fa
 | .fieldAddr s x f=>yh P s f&&fa x
 | .indexAddr _ x i| .index _ x i=>fa x&&fa i
 | .extract x _=>fa x
 | .typeAssert x _ t ok=>ok&&Kt P t&&rC P t&&fa x
 | .call c=>tF P good c&&c.args.all fa
 |_=>false
section
variable {τ:TypeId}{P:Program}{F:Array Func}{α β γ δ:Type}{m:aD}
def pP (m:aD)(ρ ρ':Operand→Value):Prop:=∀x,fa x=true→VR m (ρ x) (ρ' x)
theorem pP.arr {ρ ρ':Operand→Value}(h:pP m ρ ρ'){xs:Array Operand}(hx:xs.all fa=true):AR m (xs.map ρ) (xs.map ρ'):=
 AR.map xs fun x lF=>h x (Array.all_eq_true_iff_forall_mem.1 hx x lF)
theorem pP.opt {ρ ρ':Operand→Value}(h:pP m ρ ρ'){x:Option Operand}(hx:x.all fa=true):jI m (x.map ρ) (x.map ρ'):=by
 cases x with
 |none=>exact .none
 |some x=>exact .some (h x (by simpa using hx))
theorem pP.parts {ρ ρ':Operand→Value}(h:pP m ρ ρ'){ps:Array (Nat×Operand)}(hx:(ps.all fun p=>fa p.2)=true):jd m (ps.map fun(i,x)=>(i,ρ x)).toList (ps.map fun(i,x)=>(i,ρ' x)).toList:=by
 have hY:=Array.all_eq_true_iff_forall_mem.1 hx;rw[Array.toList_map,Array.toList_map];have:∀l:List (Nat×Operand),(∀p∈l,fa p.2=true)→jd m (l.map fun(i,x)=>(i,ρ x)) (l.map fun(i,x)=>(i,ρ' x)):=by
  intro l;induction l with
  |nil=>intro _;exact .nil
  |cons a l ih=>intro hl;exact .cons (h _ (hl a (by simp))) (ih fun p hp=>hl p (by simp[hp]))
 exact this _ fun p hp=>hY p (by simpa using hp)
theorem il {s s':Sem Value}(h:aT τ P F VR m s s'):aT τ P F iA m (s.bind fun x=>Sem.pure (.value x)) (s'.bind fun x=>Sem.pure (.value x)):=h.bind fun _ a b _ fL=>sP (.value fL)
theorem aaL {s s':Sem Unit}(h:aT τ P F dY m s s'):aT τ P F iA m (s.bind fun _=>Sem.pure .skip) (s'.bind fun _=>Sem.pure .skip):=h.bind fun _ a b _ fL=>sP .skip
theorem Fu (s d:TypeId){x y:Value}(h:VR m x y)(ok:(match P.underlying s,P.underlying d with|some (.int _),some (.int _)=>true|some .string,some .string=>true|_,_=>false)=true):aT τ P F VR m (convert s d x) (convert s d y):=by
 unfold convert;refine(sU s).bind fun n1 a a' dz e=>?_;obtain⟨rfl,ha⟩:=e;refine(sU d).bind fun n2 b b' eK e=>?_;obtain⟨rfl,hb⟩:=e;rw[ha,hb]at ok;have h':=(h.mono dz).mono eK
 cases a with
 |int k=>cases b with
  |int k2=>
   cases h' with
   |int _ _=>exact sP (.int _ _)
   |_=>first|trivial|exact jN nofun
  |_=>cases ok
 |string=>cases b with
  |string=>cases h'<;>first|exact sP (.string _)|trivial|exact jN nofun
  |_=>cases ok
 |_=>cases ok
theorem OK (op:UnOp){x y:Value}(h:VR m x y):aT τ P F VR m (Op.unary op x) (Op.unary op y):=by
 cases op<;>cases h<;>first|exact sP (.int _ _)|exact sP (.bool _)|trivial|exact jN nofun
theorem CY (R:dZ τ P){x y:Value}(h:VR m x y)(o:Oper)(ρ ρ':Operand→Value)(z:Operand)(e1:ρ z=x)(e2:ρ' z=y)(eo:o.op= .nilCheck z):aT τ P F iA m (execOp ρ o) (execOp ρ' o):=by
 unfold execOp;rw[eo];dsimp only
 rw[e1,e2]
 cases h with
 |nilPtr=>exact fo R
 |nilFunc=>exact fo R
 |fS=>exact wx R
 |nilIface=>exact fo R
 |ptr ha=>exact sP (.value (.ptr ha))
 |func f hf hs hh ht hk=>
  cases f with
  |func f=>exact sP (.value (.func _ hf hs hh ht hk))
  |_=>exact hf.elim
 |_=>exact sP (.value (by first|exact .dO|(constructor<;>assumption)))
theorem kI:∀(d:Nat) (t:TypeId),Program.eqGuardType (Program.mk (Program.toTables P) F) d t=P.eqGuardType d t
 |0,_=>rfl
 |d+1,t=>by
  unfold Program.eqGuardType;have e:Program.underlying (Program.mk (Program.toTables P) F) t=P.underlying t:=rfl
  rw[e]
  cases P.underlying t with
  |none=>rfl
  |some dd=>
   cases dd with
   |struct fs=>simp only[kI d]
   |array n e=>exact kI d e
   |_=>rfl
theorem CZ (t:TypeId):aT τ P F dY m (Op.eqGuardIn Op.maxDepth t .nilIface .nilIface) (Op.eqGuardIn Op.maxDepth t .nilIface .nilIface):=by
 show aT τ P F dY m (Op.eqGuardIn (9999+1) t .nilIface .nilIface) (Op.eqGuardIn (9999+1) t .nilIface .nilIface)
 unfold Op.eqGuardIn;refine(sU t).bind fun n1 a a' dz e=>?_;obtain⟨rfl,_⟩:=e
 cases a<;>exact bL
theorem Fv (op:BinOp)(t:TypeId)(a b:Operand){x y u v:Value}(hx:VR m x y)(hu:VR m u v)(ok:nh P op t=true):aT τ P F dY m (eqGuard op t a b x u) (eqGuard op t a b y v):=by
 have main:∀op,(op= .eql∨op= .neq)→nh P op t=true→aT τ P F dY m (eqGuard op t a b x u) (eqGuard op t a b y v):=by
  intro op ho ok;have hg:P.eqGuardType P.depth t=false:=by rcases ho with rfl|rfl<;>(simp only[nh,Bool.and_eq_true,Bool.not_eq_true']at ok;exact ok.2)
  have bf:Program.eqGuardType (Program.mk (Program.toTables P) F) (Program.mk (Program.toTables P) F).depth t=false:=by rw[kI];exact hg
  have agg:aT τ P F dY m (Sem.bind program fun p=>Sem.bind program fun q=>if(!p.eqGuardType q.depth t)=true then Sem.pure ()else Sem.bind (Op.eqGuardIn Op.maxDepth t x u) fun b=>if b=true then unsupported (.noEntry "binop/eql: two nil values of an interface type with methods, in a part of a struct or an array")else Sem.pure ())
    (Sem.bind program fun p=>Sem.bind program fun q=>if(!p.eqGuardType q.depth t)=true then Sem.pure ()else Sem.bind (Op.eqGuardIn Op.maxDepth t y v) fun b=>if b=true then unsupported (.noEntry "binop/eql: two nil values of an interface type with methods, in a part of a struct or an array")else Sem.pure ()):=by
   refine c9 (c9 ?_);rw[hg,bf];exact bL
  have nil:aT τ P F dY m (if(match a with| .const _=>true|_=>false)||(match b with| .const _=>true|_=>false)then(Sem.pure ():Sem Unit)else Sem.bind (Op.eqGuardIn Op.maxDepth t .nilIface .nilIface) fun b=>if b=true then unsupported (.noEntry "binop/eql: two nil values of an interface type with methods, neither of them the literal nil")else Sem.pure ())
    (if(match a with| .const _=>true|_=>false)||(match b with| .const _=>true|_=>false)then(Sem.pure ():Sem Unit)else Sem.bind (Op.eqGuardIn Op.maxDepth t .nilIface .nilIface) fun b=>if b=true then unsupported (.noEntry "binop/eql: two nil values of an interface type with methods, neither of them the literal nil")else Sem.pure ()):=by
   have g:aT τ P F dY m (Sem.bind (Op.eqGuardIn Op.maxDepth t .nilIface .nilIface) fun b=>if b=true then unsupported (.noEntry "binop/eql: two nil values of an interface type with methods, neither of them the literal nil")else Sem.pure ())
     (Sem.bind (Op.eqGuardIn Op.maxDepth t .nilIface .nilIface) fun b=>if b=true then unsupported (.noEntry "binop/eql: two nil values of an interface type with methods, neither of them the literal nil")else Sem.pure ()):=by
    refine(CZ t).bind fun n p q _ e=>?_;subst e
    cases p
    ·exact bL
    ·exact jN nofun
   cases a<;>cases b<;>first|exact bL|exact g
  have left:∀{v:Value},(∀cs,v≠.agg cs)→v≠.nilIface→∀(op:BinOp) (z w:Value),aT τ P F dY m (eqGuard op t a b z .nilFunc) (eqGuard op t a b w v):=by
   intro v tG AI op z w;have e1:eqGuard op t a b z .nilFunc=Sem.pure ():=by cases op<;>cases z<;>rfl
   have e2:eqGuard op t a b w v=Sem.pure ():=by cases v<;>first|exact absurd rfl (tG _)|exact absurd rfl AI|(cases op<;>cases w<;>rfl)
   rw[e1,e2];exact bL
  have right:∀{v:Value},(∀cs,v≠.agg cs)→v≠.nilIface→∀(op:BinOp) (z w:Value),aT τ P F dY m (eqGuard op t a b .nilFunc z) (eqGuard op t a b v w):=by
   intro v tG AI op z w;have e1:eqGuard op t a b .nilFunc z=Sem.pure ():=by cases op<;>cases z<;>rfl
   have e2:eqGuard op t a b v w=Sem.pure ():=by cases v<;>first|exact absurd rfl (tG _)|exact absurd rfl AI|(cases op<;>cases w<;>rfl)
   rw[e1,e2];exact bL
  by_cases OL:u= .nilFunc
  ·subst OL
   cases hu with
   |fS _ h1 h2=>exact left (fun cs=>(h1 cs).1) h2.1 op x y
   |nilFunc=>exact left (v:= .nilFunc) (fun _ e=>(by cases e)) (fun e=>(by cases e)) op x y
  ·by_cases OM:x= .nilFunc
   ·subst OM
    cases hx with
    |fS _ h1 h2=>exact right (fun cs=>(h1 cs).1) h2.1 op u v
    |nilFunc=>exact right (v:= .nilFunc) (fun _ e=>(by cases e)) (fun e=>(by cases e)) op u v
   ·rcases ho with rfl|rfl<;>cases hx<;>first|exact absurd rfl OM|(cases hu<;>first|exact absurd rfl OL|exact bL|exact agg|exact nil)
 cases op<;>first|exact main _ (.inl rfl) ok|exact main _ (.inr rfl) ok|exact bL
theorem BL (hG:P.globals.size=0)(t:TypeId){x y u v:Value}(hx:VR m x y)(hu:VR m u v)(ok:pg P 8 t=true):aT τ P F dY m (Op.equal t x u) (Op.equal t y v):=pO hG _ _ t ok hx hu
theorem vu {a b:Addr}(h:bA m a b):aT τ P F dY m (shape a.block) (shape b.block):= .inr ⟨b.block,_,rfl,h.1,fun z=>⟨z,rfl,rfl⟩⟩
theorem rE (hG:P.globals.size=0){RA:aD→Nat×Nat→Nat×Nat→Prop}{a b a' b':Addr}:aT τ P F RA m (Op.twoPlaces a b) (Op.twoPlaces a' b'):=by
 have e:(a.block !=b.block||decide (a.block≥(Program.mk (Program.toTables P) F).globals.size))=true:=by
  show(a.block !=b.block||decide (a.block≥P.globals.size))=true
  rw[hG];simp
 unfold Op.twoPlaces;refine c9 ?_;dsimp only
 rw[if_pos e];exact nofun
theorem Fw (hG:P.globals.size=0){x y u v:Addr}(hx:bA m x y)(hu:bA m u v):
  aT τ P F VR m (do Op.addrSub .u64 (←behindNumber x).1 (←behindNumber u).1) (do Op.addrSub .u64 (←behindNumber y).1 (←behindNumber v).1):=
 (Ft hx).bind fun n p q hn e=>(Ft (hu.mono hn)).bind fun n2 p' q' eK e2=>(rE (RA:=fun _ _ _=>False) hG).bind fun _ _ _ _ h=>h.elim
theorem Fx (hG:P.globals.size=0)(op:BinOp){x y u v:Addr}(hx:bA m x y)(hu:bA m u v):
  aT τ P F VR m (do Op.addrCmp op (←behindNumber x).1 (←behindNumber u).1) (do Op.addrCmp op (←behindNumber y).1 (←behindNumber v).1):=
 (Ft hx).bind fun n p q hn e=>(Ft (hu.mono hn)).bind fun n2 p' q' eK e2=>(rE (RA:=fun _ _ _=>False) hG).bind fun _ _ _ _ h=>h.elim
theorem je:∀(d:Nat) (t:TypeId) (o:Nat),byteOfCell (Program.mk (Program.toTables P) F) d t o=byteOfCell P d t o
 |0,_,_=>rfl
 |d+1,t,o=>by
  unfold byteOfCell;have e:Program.underlying (Program.mk (Program.toTables P) F) t=P.underlying t:=rfl
  rw[e]
  cases P.underlying t with
  |none=>rfl
  |some dd=>
   cases dd with
   |struct fs=>
    simp only[je d];rfl
   |array n e=>
    simp only[je d];rfl
   |_=>rfl
theorem yl {a b:Addr}(h:bA m a b):aT τ P F (fun _ x y=>x=none∧y=none) m (viewAt a.block) (viewAt b.block):=by
 refine .inr ⟨b.block,_,rfl,h.1,fun z=>?_⟩
 cases z with
 |none=>exact⟨b.block,_,rfl,h.1,fun p q l V0=>⟨_,rfl,rfl,rfl⟩⟩
 |some z=>exact⟨none,rfl,rfl,rfl⟩
theorem Ku {a b:Addr}(h:bA m a b):aT τ P F dY m (noView a) (noView b):=
 (yl h).bind fun n x y hn e=>by obtain⟨rfl,rfl⟩:=e;exact bL
theorem Kv {a b:Addr}(h:bA m a b):aT τ P F dY m (byteOf a) (byteOf b):=by
 unfold byteOf;obtain⟨h1,h2,h3,h4⟩:=h;rw[h3,h4];refine c9 ?_;dsimp only
 refine(Ku ⟨h1,h2,h3,h4⟩).bind fun n _ _ hn _=>?_;refine(vu (bA.mono hn ⟨h1,h2,h3,h4⟩)).bind fun n2 z z' eK e=>?_;subst e
 cases z with
 |none=>trivial
 |some z=>
  obtain⟨e,k⟩:=z;dsimp only
  have ec:Program.cellsOf (Program.mk (Program.toTables P) F) e=P.cellsOf e:=rfl
  have eb:Program.bytesOf (Program.mk (Program.toTables P) F) e=P.bytesOf e:=rfl
  have ed:Program.depth (Program.mk (Program.toTables P) F)=P.depth:=rfl
  simp only[ec,eb,ed,je,h2];split
  ·exact bL
  ·cases byteOfCell P P.depth e (a.off % P.cellsOf e)with
   |none=>trivial
   |some x=>exact bL
theorem wD (k:IntKind)(c:Int){x y:Addr}(hx:bA m x y):
  aT τ P F VR m (do Op.addrMod k (←behindNumber x).1 c) (do Op.addrMod k (←behindNumber y).1 c):=by
 refine(Ft hx).bind fun n p q hn e=>?_;unfold Op.addrMod;refine(vu e.1).bind fun n1 z z' dz e1=>?_;subst e1
 cases z with
 |none=>exact nofun
 |some z=>
  obtain⟨t,k⟩:=z;refine(d_ t).bind fun n2 i i' eK e2=>?_;subst e2;dsimp only
  split
  ·exact nofun
  ·exact(Kv ((e.1.mono dz).mono eK)).bind fun n3 a b jO e3=>by subst e3;exact sP (.int _ _)
theorem lG:∀(d:Nat) (t:TypeId) (o:Nat),cellOfByte (Program.mk (Program.toTables P) F) d t o=cellOfByte P d t o
 |0,_,_=>rfl
 |d+1,t,o=>by
  unfold cellOfByte;have e:Program.underlying (Program.mk (Program.toTables P) F) t=P.underlying t:=rfl
  rw[e]
  cases P.underlying t with
  |none=>rfl
  |some dd=>
   cases dd with
   |struct fs=>
    simp only[lG d];rfl
   |array n e=>
    simp only[lG d];rfl
   |_=>rfl
theorem xz (e:TypeId)(c o:Nat)(b:Int):cellAtBytes (Program.mk (Program.toTables P) F) (Program.mk (Program.toTables P) F).depth e c o b=cellAtBytes P P.depth e c o b:=by
 unfold cellAtBytes;have ec:Program.cellsOf (Program.mk (Program.toTables P) F) e=P.cellsOf e:=rfl
 have eb:Program.bytesOf (Program.mk (Program.toTables P) F) e=P.bytesOf e:=rfl
 have ed:Program.depth (Program.mk (Program.toTables P) F)=P.depth:=rfl
 simp only[ec,eb,ed,je,lG]
theorem pQ (t:TypeId){x y u v:Value}(hx:VR m x y)(hu:VR m u v):aT τ P F (fun n a b=>VR n a b∧a≠.nilFunc) m (Builtin.unsafeAdd_ #[] t #[x,u]) (Builtin.unsafeAdd_ #[] t #[y,v]):=by
 unfold Builtin.unsafeAdd_;have tail:∀{p q:Option Addr},((p=none∧q=none)∨∃a b,p=some a∧q=some b∧bA m a b)→VR m (.pointer p) (.pointer q):=by
  rintro p q (⟨rfl,rfl⟩|⟨a,b,rfl,rfl,h⟩)
  ·exact .nilPtr
  ·exact .ptr h
 cases hx with
 |nilPtr=>
  refine(qH hu).bind fun n c c' hn e=>?_;subst e;dsimp only
  split
  ·exact nofun
  ·split
   ·exact nofun
   ·exact nofun
 |ptr ha=>
  refine(qH hu).bind fun n c c' hn e=>?_;subst e;dsimp only
  split
  ·refine(yl (ha.mono hn)).bind fun n1 z z' dz e1=>?_
   obtain⟨rfl,rfl⟩:=e1;exact sP ⟨.ptr ((ha.mono hn).mono dz),fun e=>(by cases e)⟩
  ·split
   ·exact nofun
   ·refine(vu (ha.mono hn)).bind fun n1 z z' dz e1=>?_
    subst e1
    cases z with
    |none=>exact nofun
    |some z=>
     obtain⟨e,k⟩:=z;refine c9 ?_;have ec:Program.cellsOf (Program.mk (Program.toTables P) F) e=P.cellsOf e:=rfl
     simp only[xz,ec];rw[show _=_ from ha.2.1]
     split
     ·exact sP ⟨.ptr ⟨dz.sub _ _ (hn.sub _ _ ha.1),rfl,ha.2.2.1,ha.2.2.2⟩,fun e=>(by cases e)⟩
     ·exact nofun
 |_=>trivial
theorem tH (t:TypeId){x y u v:Value}(hx:VR m x y)(hu:VR m u v):aT τ P F VR m (Builtin.unsafeAdd_ #[] t #[x,u]) (Builtin.unsafeAdd_ #[] t #[y,v]):=(pQ t hx hu).mono fun _ _ _ _ h=>h.1
theorem kJ (t:TypeId)(ht:∀d,P.underlying t=some d→d≠.unsafePointer){x y u v:Value}(hx:VR m x y)(hu:VR m u v):aT τ P F VR m (movedNumber t x u) (movedNumber t y v):=by
 unfold movedNumber;refine(sU t).bind fun n1 d d' dz e=>?_;obtain⟨rfl,hd⟩:=e;have hY:=hx.mono dz;have sk:=hu.mono dz;have tail:aT τ P F VR n1 (match(generalizing:=false) x with
    | .pointer (some n)=>(behindNumber n).bind fun p=>(Builtin.unsafeAdd_ #[] t #[.pointer (some p.1),u]).bind fun r=>match r with
      | .pointer (some b)=>asNumber b p.2
      |v=>Sem.pure v
    |_=>Builtin.unsafeAdd_ #[] t #[x,u])
   (match(generalizing:=false) y with
    | .pointer (some n)=>(behindNumber n).bind fun p=>(Builtin.unsafeAdd_ #[] t #[.pointer (some p.1),v]).bind fun r=>match r with
      | .pointer (some b)=>asNumber b p.2
      |v=>Sem.pure v
    |_=>Builtin.unsafeAdd_ #[] t #[y,v]):=by
  cases hY with
  |ptr ha=>
   refine(Ft ha).bind fun n2 p q eK e=>?_;obtain⟨p,lost⟩:=p;obtain⟨q,ab2⟩:=q;obtain⟨e1,e2⟩:=e;dsimp only at e1 e2
   subst e2;refine(pQ t (.ptr e1) (sk.mono eK)).bind fun n3 r r' jO hr=>?_;obtain⟨hr,Kw⟩:=hr
   cases hr with
   |ptr hb=>
    refine⟨_,_,rfl,.inr ⟨_,_,_,rfl,rfl,hb⟩,fun n4 r r' xy hr=>?_⟩
    exact sP (.ptr ⟨hr,rfl,rfl,rfl⟩)
   |func f hf hs hh ht hk=>exact sP (.func f hf hs hh ht hk)
   |fS y hy hn=>exact absurd rfl Kw
   |_=>exact sP (by first|exact .dO|(constructor<;>assumption))
  |nilPtr=>exact tH t .nilPtr sk
  |bool b=>exact tH t (.bool b) sk
  |int k b=>exact tH t (.int k b) sk
  |string b=>exact tH t (.string b) sk
  |cp l c=>exact tH t (.cp l c) sk
  |slice l c h=>exact tH t (.slice l c h) sk
  |dO=>exact tH t .dO sk
  |j_=>exact tH t .j_ sk
  |nilFunc=>exact tH t .nilFunc sk
  |fS y hy hn=>trivial
  |nilIface=>exact tH t .nilIface sk
  |iface a ha h=>exact tH t (.iface a ha h) sk
  |func f hf hs hh ht hk=>exact tH t (.func f hf hs hh ht hk) sk
  |agg hs hh=>exact tH t (.agg hs hh) sk
  |tuple hs hh=>exact tH t (.tuple hs hh) sk
 have cv:=ht d hd
 cases d with
 |unsafePointer=>exact absurd rfl cv
 |_=>exact tail
theorem vv (R:dZ τ P)(op:BinOp)(t:TypeId)(k k':IntKind)(a b:Int):aT τ P F VR m (binOp op t (.int k a) (.int k' b)) (binOp op t (.int k a) (.int k' b)):=by
 have arith:∀op,aT τ P F VR m (if k≠k' then stuck "BinOp: operands of different kinds" else Op.intArith op k a b) (if k≠k' then stuck "BinOp: operands of different kinds" else Op.intArith op k a b):=by
  intro op;split
  ·trivial
  ·cases op<;>first|exact sP (.int _ _)|trivial
 have V1:∀op,aT τ P F VR m (if k≠k' then stuck "BinOp: operands of different kinds" else Op.intBits op k a b) (if k≠k' then stuck "BinOp: operands of different kinds" else Op.intBits op k a b):=by
  intro op;split
  ·trivial
  ·cases op<;>first|exact sP (.int _ _)|trivial
 have cmp:∀op,aT τ P F VR m (if k≠k' then stuck "BinOp: operands of different kinds" else Op.intCmp op a b) (if k≠k' then stuck "BinOp: operands of different kinds" else Op.intCmp op a b):=by
  intro op;split
  ·trivial
  ·cases op<;>first|exact sP (.bool _)|trivial
 have div:∀op,aT τ P F VR m (if k≠k' then stuck "BinOp: operands of different kinds" else Op.intDiv op k a b) (if k≠k' then stuck "BinOp: operands of different kinds" else Op.intDiv op k a b):=by
  intro op;split
  ·trivial
  ·unfold Op.intDiv
   split
   ·exact lB R
   ·cases op<;>first|exact sP (.int _ _)|trivial
 have sh:∀op,aT τ P F VR m (Op.shift op k a k' b) (Op.shift op k a k' b):=by
  intro op;unfold Op.shift;split
  ·exact lB R
  ·cases op<;>first|exact sP (.int _ _)|trivial
 cases op<;>first|exact arith _|exact V1 _|exact cmp _|exact div _|exact sh .shl|exact sh .shr
theorem vw (op:BinOp)(t:TypeId)(a b:ByteArray):aT τ P F VR m (binOp op t (.string a) (.string b)) (binOp op t (.string a) (.string b)):=by
 have e:binOp op t (.string a) (.string b)=Op.stringOp op a b:=by cases op<;>rfl
 rw[e];unfold Op.stringOp;dsimp only
 cases op<;>first|exact sP (.bool _)|trivial|(dsimp only;split<;>first|exact sP (.string _)|exact nofun)
theorem ON (hG:P.globals.size=0)(t:TypeId){x y u v:Value}(hx:VR m x y)(hu:VR m u v)(ok:pg P 8 t=true):aT τ P F VR m (do pure (.bool (←Op.equal t x u))) (do pure (.bool (←Op.equal t y v))):=
 (BL hG t hx hu ok).bind fun n a b hn e=>by subst e;exact sP (.bool _)
theorem OO (hG:P.globals.size=0)(t:TypeId){x y u v:Value}(hx:VR m x y)(hu:VR m u v)(ok:pg P 8 t=true):aT τ P F VR m (do pure (.bool (!(←Op.equal t x u)))) (do pure (.bool (!(←Op.equal t y v)))):=
 (BL hG t hx hu ok).bind fun n a b hn e=>by subst e;exact sP (.bool _)
end
end Go.Proofs.YtlhohdjniaebbaaGreat.Sr
namespace Go.Proofs.YtlhohdjniaebbaaGreat.Sr
open Go
section
variable {τ:TypeId}{P:Program}{F:Array Func}{α β γ δ:Type}{m:aD}
theorem Kx (t:TypeId)(ht:∀d,P.underlying t=some d→d≠.unsafePointer){x y u v:Value}(hx:VR m x y)(hu:VR m u v):
  aT τ P F VR m (do if(←underlying t) matches .unsafePointer then movedPointer t x u else movedNumber t x u) (do if(←underlying t) matches .unsafePointer then movedPointer t y v else movedNumber t y v):=by
 refine(sU t).bind fun n1 d d' dz e=>?_;obtain⟨rfl,hd⟩:=e;have cv:=ht d hd
 cases d with
 |unsafePointer=>exact absurd rfl cv
 |_=>exact kJ t ht (hx.mono dz) (hu.mono dz)
theorem ym (k:IntKind)(c:Int){x y:Addr}(hx:bA m x y):
  aT τ P F VR m (do Op.addrMod k (←behindNumber x).1 (c+1)) (do Op.addrMod k (←behindNumber y).1 (c+1)):=wD k (c+1) hx
theorem wE {RA:aD→Value→β→Prop}(op:BinOp)(t:TypeId){x u:Value}(ok:nh P op t=true)(h:x= .nilFunc∨u= .nilFunc){s':Sem β}:aT τ P F RA m (binOp op t x u) s':=by
 have eq:(op= .eql∨op= .neq)→pg P 8 t=true:=by rintro(rfl|rfl)<;>(simp only[nh,Bool.and_eq_true]at ok;exact ok.1)
 rcases h with rfl|rfl
 ·cases op<;>cases u<;>first|trivial|exact jN nofun|(rename_i a;cases a<;>first|trivial|exact jN nofun)|exact mG t (eq (.inl rfl)) (.inl rfl)|exact mG t (eq (.inr rfl)) (.inl rfl)
 ·cases op<;>cases x<;>first|trivial|exact jN nofun|(rename_i a;cases a<;>first|trivial|exact jN nofun)|exact mG t (eq (.inl rfl)) (.inr rfl)|exact mG t (eq (.inr rfl)) (.inr rfl)
set_option maxHeartbeats 4000000 in
theorem OP (R:dZ τ P)(hG:P.globals.size=0)(op:BinOp)(t:TypeId){x y u v:Value}(hx:VR m x y)(hu:VR m u v)(ok:nh P op t=true):aT τ P F VR m (binOp op t x u) (binOp op t y v):=by
 by_cases OM:x= .nilFunc
 ·exact wE op t ok (.inl OM)
 by_cases OL:u= .nilFunc
 ·exact wE op t ok (.inr OL)
 by_cases he:op= .eql
 ·subst he
  simp only[nh,Bool.and_eq_true]at ok;have h:=ON (τ:=τ) (F:=F) hG t hx hu ok.1
  cases hx<;>cases hu<;>first|exact absurd rfl OM|exact absurd rfl OL|exact vv R _ _ _ _ _ _|exact vw _ _ _ _|exact h
 ·by_cases hn:op= .neq
  ·subst hn
   simp only[nh,Bool.and_eq_true]at ok;have h:=OO (τ:=τ) (F:=F) hG t hx hu ok.1
   cases hx<;>cases hu<;>first|exact absurd rfl OM|exact absurd rfl OL|exact vv R _ _ _ _ _ _|exact vw _ _ _ _|exact h
  ·have ht:∀d,P.underlying t=some d→d≠.unsafePointer:=by
    rintro d hd rfl
    cases op<;>simp_all[nh]
   have h1:=Kx (τ:=τ) (F:=F) t ht hx hu;have h2:=kJ (τ:=τ) (F:=F) t ht hu hx;have h3:=fun k n=>kJ (τ:=τ) (F:=F) t ht hx (VR.int (m:=m) k n)
   cases hx with
   |int k a=>
    cases hu with
    |int k2 b=>exact vv R _ _ _ _ _ _
    |ptr hb=>cases op<;>first|exact absurd rfl he|exact absurd rfl hn|exact h2|exact ym _ _ hb|exact nofun
    |nilPtr=>cases op<;>first|exact absurd rfl he|exact absurd rfl hn|exact h2|exact nofun
    |_=>cases op<;>first|exact absurd rfl he|exact absurd rfl hn|trivial
   |ptr ha=>
    cases hu with
    |int k2 b=>cases op<;>first|exact absurd rfl he|exact absurd rfl hn|exact h1|exact h3 _ _|exact wD _ _ ha|exact ym _ _ ha|exact nofun
    |ptr hb=>cases op<;>first|exact absurd rfl he|exact absurd rfl hn|exact Fw hG ha hb|exact Fx hG _ ha hb|exact nofun
    |_=>cases op<;>first|exact absurd rfl he|exact absurd rfl hn|exact nofun
   |nilPtr=>
    cases hu with
    |int k2 b=>cases op<;>first|exact absurd rfl he|exact absurd rfl hn|exact h1|exact h3 _ _|exact nofun
    |_=>cases op<;>first|exact absurd rfl he|exact absurd rfl hn|exact nofun
   |string a=>
    cases hu with
    |string b=>exact vw _ _ _ _
    |ptr hb=>cases op<;>first|exact absurd rfl he|exact absurd rfl hn|exact nofun
    |nilPtr=>cases op<;>first|exact absurd rfl he|exact absurd rfl hn|exact nofun
    |_=>cases op<;>first|exact absurd rfl he|exact absurd rfl hn|trivial
   |_=>
    cases hu with
    |ptr hb=>cases op<;>first|exact absurd rfl he|exact absurd rfl hn|exact nofun
    |nilPtr=>cases op<;>first|exact absurd rfl he|exact absurd rfl hn|exact nofun
    |_=>cases op<;>first|exact absurd rfl he|exact absurd rfl hn|trivial
structure yn (P:Program) (F:Array Func) (good:FuncId→Bool):Prop where
 both:∀f,good f=true→∃fn OQ,F[f]?=some fn∧P.funcs[f]?=some OQ∧fn.body.isSome=true∧OQ.body.isSome=true∧fn.name≠ "runtime.NumGoroutine"∧OQ.name≠ "runtime.NumGoroutine"
theorem oi (hF:yn P F m.good)(f:FuncId)(hf:m.good f=true){us vs:Array Value}(h:AR m us vs)(hn:∀n,cA f=some n→us.size=n):aT τ P F iA m (callFunc f us) (callFunc f vs):=by
 obtain⟨fn,OQ,h1,h2,b1,b2,n1,n2⟩:=hF.both f hf;unfold callFunc;refine c9 ?_;dsimp only
 rw[h1,h2];dsimp only
 rw[if_neg (by simpa using n1),if_neg (by cases hg:fn.body<;>simp_all),if_neg (by simpa using n2),if_neg (by cases hg:OQ.body<;>simp_all)]
 exact sP (.enter f hf h hn)
theorem AJ (R:dZ τ P)(hF:yn P F m.good){x y:Value}(h:VR m x y){us vs:Array Value}(k:AR m us vs):
  aT τ P F iA m ((Deferred.ofValue x us).bind fun d=>invoke d.target d.args) ((Deferred.ofValue y vs).bind fun d=>invoke d.target d.args):=by
 cases h with
 |func f hf hs hh ht hk=>
  cases f with
  |func f=>
   show aT τ P F iA m (invoke (.fn (.func f) _) _) (invoke (.fn (.func f) _) _)
   exact oi hF f hf.1 ((AR.append (show AR m _ _ from⟨hs,hh⟩) k).append ⟨ht,hk⟩) fun n hn=>by rw[hf.2]at hn;cases hn
  |_=>exact hf.elim
 |nilFunc=>exact fo R
 |fS=>exact wx R
 |_=>trivial
theorem yo (xt t:TypeId)(hc:Kt P t=true)(hZ:rC P t=true){x y:Value}(h:VR m x y):aT τ P F VR m (Instr.typeAssert x xt t true) (Instr.typeAssert y xt t true):=by
 unfold Instr.typeAssert;have Se:∀{n:aD},aT τ P F VR n ((zeroValue t).bind fun z=>Sem.pure (.tuple #[z,.bool false])) ((zeroValue t).bind fun z=>Sem.pure (.tuple #[z,.bool false])):=fun {n}=>
  (fK t hZ).bind fun _ a b _ fL=>sP (.tuple rfl fun i h1 h2=>by
   rcases i with _|_|i
   ·exact fL
   ·exact .bool _
   ·exact absurd h1 (by simp))
 have holds:∀{n:aD} {u v:Value},VR n u v→aT τ P F VR n (Sem.pure (.tuple #[u,.bool true])) (Sem.pure (.tuple #[v,.bool true])):=fun {n u v} fL=>sP (.tuple rfl fun i h1 h2=>by
   rcases i with _|_|i
   ·exact fL
   ·exact .bool _
   ·exact absurd h1 (by simp))
 refine(sU t).bind fun n a b hn e=>?_;obtain⟨rfl,ha⟩:=e;have V2:∀ms,a≠.interface ms:=fun ms e=>by
  subst e;unfold Kt at hc;rw[ha]at hc
  cases hc
 cases h with
 |iface t' _ hx=>
  by_cases ht:t'=t
  ·cases a<;>first|exact absurd rfl (V2 _)|(simp only[ht,if_true];exact holds (hx.mono hn))
  ·cases a<;>first|exact absurd rfl (V2 _)|(simp only[ht,if_false];exact Se)
 |nilIface=>cases a<;>first|exact absurd rfl (V2 _)|exact Se
 |_=>cases a<;>first|exact absurd rfl (V2 _)|trivial
theorem Sf (R:dZ τ P)(t:TypeId)(nm:ByteArray){x y:Value}(h:VR m x y):aT τ P F VR m (Builtin.ssaWrapNilChk_ #[t] t #[x,strVal "",.string nm]) (Builtin.ssaWrapNilChk_ #[t] t #[y,strVal "",.string nm]):=by
 unfold Builtin.ssaWrapNilChk_
 cases h with
 |ptr ha=>exact sP (.ptr ha)
 |nilPtr=>
  refine(oh _).bind fun n a b hn e=>?_;subst e;have rest:∀{n:aD} {c c':Unit→Sem Value},aT τ P F VR n (c ()) (c' ())→aT τ P F VR n (if(a==1)=true then Sem.bind (runtimePanic .nilDeref) c else c ()) (if(a==1)=true then Sem.bind (runtimePanic .nilDeref) c' else c' ()):=fun {n c c'} h=>by
   split
   ·exact SR.bind (RA:=fun _ _ _=>False) (fo R) fun _ _ _ _ h=>h.elim
   ·exact h
  refine rest (n:=n) ?_;refine(sU t).bind fun n a b hn e=>?_;obtain⟨rfl,_⟩:=e
  cases a<;>first|trivial|skip
  refine(d_ _).bind fun n a b hn e=>?_;subst e;dsimp only
  generalize TypeInfo.desc _=d
  cases d<;>first|trivial|skip
  dsimp only
  cases String.fromUTF8? nm<;>first|trivial|skip
  dsimp only
  split
  ·exact kq (s':=Sem.halt (.stuck "")) R (.inr (.inr (.inl ⟨_,rfl⟩)))
  ·exact jN nofun
 |_=>trivial
theorem C0 (R:dZ τ P)(t:TypeId)(nm:String)(pr:Bool){x y:Value}(h:VR m x y):aT τ P F VR m (receiverAt t (.val x) pr (some nm)) (receiverAt t (.val y) pr (some nm)):=by
 unfold receiverAt;refine(sU t).bind fun n a b hn e=>?_;obtain⟨rfl,_⟩:=e;have h':=h.mono hn;have load:∀e,aT τ P F VR n ((Sem.pure x).bind fun p=>(Builtin.ssaWrapNilChk_ #[t] t #[p,strVal "",strVal nm]).bind fun p=>(asAddr p).bind fun A=>loadVar e A) ((Sem.pure y).bind fun p=>(Builtin.ssaWrapNilChk_ #[t] t #[p,strVal "",strVal nm]).bind fun p=>(asAddr p).bind fun A=>loadVar e A):=fun e=>
  (sP h').bind fun n a b hn fL=>(Sf R t _ fL).bind fun n a b hn fL=>(sj R fL).bind fun n a b hn fL=>pM e fL
 cases a<;>cases pr<;>first|exact sP h'|exact load _|trivial
theorem Ky (R:dZ τ P)(name:String)(hi:CX P m.good name=true)(t:TypeId)(ht:CP.contains t=true){x y:Value}(h:VR m x y)(k:Nat):aT τ P F (fun n a b=>a.1=b.1∧m.good a.1=true∧cA a.1=none∧VR n a.2 b.2) m (method (k+1) t x name) (method (k+1) t y name):=by
 unfold method;have Kz:aT τ P F (fun _ a b=>a=b∧P.info? t=some a) m (typeInfo t) (typeInfo t):=by
  unfold typeInfo;refine c9 ?_;show aT τ P F _ m (match P.info? t with|some i=>pure i|none=>stuck "no such type") _
  cases P.info? t with
  |none=>trivial
  |some i=>exact⟨i,rfl,rfl,rfl⟩
 refine Kz.bind fun n i i' hn e=>?_;obtain⟨rfl,Kz⟩:=e
 cases hm:i.methods.find? (fun m=>m.name==name)with
 |none=>trivial
 |some r=>
  have gp:r.path.isEmpty=true∧∃f pr,r.func=some (f,pr)∧m.good f=true∧cA f=none:=by
   have:=List.all_eq_true.1 hi t (by simpa using ht)
   rw[Kz]at this;dsimp only at this
   rw[hm]at this;dsimp only at this
   rw[Bool.and_eq_true]at this;refine⟨this.1,?_⟩;have h2:=this.2;split at h2
   ·rename_i f pr hf
    rw[Bool.and_eq_true]at h2;exact⟨f,pr,hf,h2.1,by simpa using h2.2⟩
   ·cases h2
  obtain⟨hp,f,pr,hf,hg,hs⟩:=gp;have bk:r.path= #[]:=by simpa using hp
  dsimp only
  rw[bk];dsimp only[follow]
  refine(sP (RA:=fun n a b=>a=(t,Place.val x)∧b=(t,Place.val y)) ⟨rfl,rfl⟩).bind fun n2 a b eK fL=>?_;obtain⟨rfl,rfl⟩:=fL;rw[hf];have he:(#[]:Array FieldStep).isEmpty=true:=rfl
  simp only[he,if_true];exact(C0 R t _ pr ((h.mono hn).mono eK)).bind fun n3 a b jO fL=>sP ⟨rfl,hg,hs,fL⟩
theorem yp (R:dZ τ P)(hF:yn P F m.good)(name:String)(hi:CX P m.good name=true){x y:Value}(h:VR m x y){us vs:Array Value}(k:AR m us vs):aT τ P F iA m (callMethod x name us) (callMethod y name vs):=by
 unfold callMethod
 cases h with
 |iface t ht h=>
  refine c9 ?_;refine(Ky R name hi t ht h _).bind fun n a b hn fL=>?_;obtain⟨f,v⟩:=a;obtain⟨f',v'⟩:=b;obtain⟨rfl,hg,hs,hv⟩:=fL;exact oi (hn.good▸hF) f (by rw[←hn.good];exact hg) ((AR.one hv).append (k.mono hn)) fun n hn=>by rw[hs]at hn;cases hn
 |nilIface=>exact fo R
 |_=>trivial
theorem oj (R:dZ τ P)(hG:P.globals.size=0)(hF:yn P F m.good){ρ ρ':Operand→Value}(h:pP m ρ ρ')(o:Oper)(ok:gk P m.good o.op=true)(V3:∀f,ρ (.func f)= .func (.func f) #[] #[]∧ρ' (.func f)= .func (.func f) #[] #[]):
  aT τ P F iA m (execOp ρ o) (execOp ρ' o):=by
 obtain⟨dst,op,type,pos,after,guard⟩:=o;dsimp only at ok
 cases op with
 |move x=>exact sP (.value (h x ok))
 |assign x=>exact sP (.value (h x ok))
 |pick c a b=>
  simp only[gk,Bool.and_eq_true]at ok;refine(Kn (h c ok.1.1)).bind fun n p q hn e=>?_;subst e
  cases p
  ·exact sP (.value ((h b ok.2).mono hn))
  ·exact sP (.value ((h a ok.1.2).mono hn))
 |alloc t=>exact il (OG t ok _)
 |box t x=>exact il (VW t (h x ok))
 |build t ps=>
  simp only[gk,Bool.and_eq_true]at ok;exact il (OH t ok.1 (h.parts ok.2))
 |buildSlice t l ps=>
  simp only[gk,Bool.and_eq_true]at ok;exact il (yg t ok.1 l (h.parts ok.2))
 |load t x=>exact il (Ko t (h x ok))
 |store t a x=>
  simp only[gk,Bool.and_eq_true]at ok;exact aaL (Fj t (h a ok.1) (h x ok.2))
 |nilCheck x=>exact CY R (h x ok) _ ρ ρ' x rfl rfl rfl
 |binOp op t x y t2=>
  simp only[gk,Bool.and_eq_true]at ok;exact il ((Fv op t x y (h x ok.1.2) (h y ok.2) ok.1.1).bind fun n _ _ hn _=>OP R hG op t ((h x ok.1.2).mono hn) ((h y ok.2).mono hn) ok.1.1)
 |unOp op t x=>exact il (OK op (h x ok))
 |convert s d x=>
  simp only[gk,Bool.and_eq_true]at ok;exact il (Fu s d (h x ok.2) ok.1)
 |makeInterface t x=>
  refine il ?_;refine(sU t).bind fun n a b hn e=>?_;obtain⟨rfl,_⟩:=e;simp only[gk,Bool.and_eq_true]at ok
  cases a<;>first|trivial|exact sP (.iface _ ok.1 ((h x ok.2).mono hn))
 |makeFunc f us vs=>
  simp only[gk,Bool.and_eq_true]at ok;refine il (CU f ?_ (h.arr ok.1.2) (h.arr ok.2))
  cases f<;>first|exact(by simpa[Sd,aD.fn]using ok.1.1)|exact absurd ok.1.1 (by simp[Sd])
 |makeSlice t l c=>
  simp only[gk,Bool.and_eq_true]at ok;exact il (AH R t ok.1.1 (h l ok.1.2) (h c ok.2))
 |slice t x lo hi mx=>
  simp only[gk,Bool.and_eq_true]at ok;exact il (Fq R t (h x ok.1.1.1) (h.opt ok.1.1.2) (h.opt ok.1.2) (h.opt ok.2))
 |fieldAddr s x f=>
  simp only[gk,Bool.and_eq_true]at ok;exact il (Fl s f (h x ok.2) ok.1)
 |indexAddr t x i=>
  simp only[gk,Bool.and_eq_true]at ok;exact il (Fo R t (h x ok.1) (h i ok.2))
 |index t x i=>
  simp only[gk,Bool.and_eq_true]at ok;exact il (OI R t (h x ok.1) (h i ok.2))
 |extract x i=>exact il (Fp i (h x ok))
 |typeAssert x xt t c=>
  simp only[gk,Bool.and_eq_true]at ok;obtain⟨⟨⟨rfl,o1⟩,o2⟩,o3⟩:=ok;exact il (yo xt t o1 o2 (h x o3))
 |call c=>
  obtain⟨callee,args,ts⟩:=c;simp only[gk,Bool.and_eq_true]at ok;have ha:=h.arr ok.2
  cases callee with
  |value f=>
   cases f with
   |func f=>
    have Si:m.good f=true∧(match cA f with|none=>true|some n=>args.size==n)=true:=by
     have:=ok.1
     simp only[tF,Bool.and_eq_true]at this;exact this
    have e0:∀us:Array Value,(#[]++us++ #[]:Array Value)=us:=fun us=>by simp
    show aT τ P F iA m ((Deferred.ofValue (ρ (.func f)) (args.map ρ)).bind fun d=>invoke d.target d.args) ((Deferred.ofValue (ρ' (.func f)) (args.map ρ')).bind fun d=>invoke d.target d.args)
    rw[(V3 f).1,(V3 f).2];show aT τ P F iA m (callFunc f (#[]++args.map ρ++ #[])) (callFunc f (#[]++args.map ρ'++ #[]))
    rw[e0,e0];refine oi hF f Si.1 ha fun n hn=>?_;have:=Si.2
    rw[hn]at this;simpa using this
   |tmp t=>exact AJ R hF (h (.tmp t) rfl) ha
   |_=>exact absurd ok.1 (by simp[tF])
  |invoke x name=>
   have Si:fa x=true∧CX P m.good name=true:=by simpa only[tF,Bool.and_eq_true]using ok.1
   have e0:∀(v:Value) (us:Array Value),(#[v]++us).extract 1 (#[v]++us).size=us:=fun v us=>by simp
   have e2:∀(v:Value) (us:Array Value),invoke (.fn (.method name) #[]) (#[v]++us)=callMethod v name us:=fun v us=>by
    have e1:(#[v]++us)[0]?=some v:=by simp[Array.getElem?_append]
    unfold invoke;simp only[e1,e0]
   show aT τ P F iA m (invoke (.fn (.method name) #[]) (#[ρ x]++args.map ρ)) (invoke (.fn (.method name) #[]) (#[ρ' x]++args.map ρ'))
   rw[e2,e2];exact yp R hF name Si.2 (h x Si.1) ha
  |builtin b=>
   cases b with
   |len=>exact il (VX ts _ ha)
   |cap=>exact il (VY ts _ ha)
   |max=>exact il (VZ ts _ ha)
   |append=>exact il (Kr R ts _ ha ok.1)
   |_=>exact absurd ok.1 (by simp[tF])
 |_=>exact absurd ok (by simp[gk])
end
end Go.Proofs.YtlhohdjniaebbaaGreat.Sr
namespace Go.Proofs.YtlhohdjniaebbaaGreat.Sr
open Go Go.Conc
section
variable {τ:TypeId}{P' P:Program}{α β:Type}{RA:aD→α→β→Prop}
theorem SR.writes {s:Sem α}{s':Sem β}:∀{m:aD} {v w:World} {es:Array Event} {a:α} {v':World} {aQ:Array Event},SR τ P' P RA m s s'→WR m v w→s.runT P' v es=(.ok a v',aQ)→
  ∃us:List Event,aQ=es++us.toArray∧(∀e∈us,e.write=true→∀a,e.loc= .cell a→¬dG v a.block)∧(∀r,dG v r→v'.heap[r]?=v.heap[r]?):=by
 induction s generalizing s' with
 |pure a=>
  intro m v w es a1 v' aQ h hw hr;simp only[Sem.runT,Prod.mk.injEq,Result.ok.injEq]at hr;obtain⟨⟨rfl,rfl⟩,rfl⟩:=hr;exact⟨[],by simp,by simp,fun _ _=>rfl⟩
 |halt h0=>intro m v w es a1 v' aQ h hw hr;simp[Sem.runT]at hr
 |load md a c ih=>
  intro m v w es a1 v' aQ h hw hr;obtain⟨a',k',rfl,ha,hk⟩:=h;obtain⟨mA,eJ,_⟩:=hw.cell ha;simp only[Sem.runT]at hr
  cases hv:v.cell? a with
  |none=>
   obtain⟨o,hb,⟨us,e,fz,rfl⟩|⟨z,l,rfl⟩⟩:=eJ<;>
   rw[hv]at hr<;>
   simp[World.farLoad,hb]at hr
  |some x=>
   obtain⟨y,hy,kG⟩:=mA x hv;rw[hv]at hr;obtain⟨us,h1,h2,h3⟩:=ih x (hk m x y (aD.le_refl m) kG) hw hr;refine⟨⟨.cell a,false,md== .atomic⟩::us,by rw[h1];simp,fun e he gJ=>?_,h3⟩
   rcases List.mem_cons.1 he with rfl|he
   ·cases gJ
   ·exact h2 e he gJ
 |store md a x c ih=>
  intro m v w es a1 v' aQ h hw hr;obtain⟨a',x',k',rfl,ha,hx,hk⟩:=h;obtain⟨mA,eJ,kH⟩:=hw.cell ha;have pI:(∀cs,x≠.agg cs)∧(∀cs,x≠.tuple cs):=by
   constructor<;>(rintro cs rfl;simp[Sem.runT]at hr)
  have e1:∀(q:World) (gs:Array Event),Sem.runT P' (.store md a x c) q gs=match q.cell? a with
    |some _=>if q.frozen? a then(.halt (.unsupported (.unsafePointer "a write to bytes that a string shares")) q,gs)else c.runT P' (q.setCell a x) (gs.push ⟨.cell a,true,md== .atomic⟩)
    |none=>match q.farStore P' a x (md== .atomic)with
     | .ok (q,gg)=>c.runT P' q (gs++gg.toArray.map (⟨.cell ·,true,md== .atomic⟩))
     | .error h=>(.halt h q,gs):=by
   intro q gs
   cases x<;>first|rfl|exact absurd rfl (pI.1 _)|exact absurd rfl (pI.2 _)
  rw[e1]at hr
  cases hv:v.cell? a with
  |none=>
   obtain⟨o,hb,⟨us,e,fz,rfl⟩|⟨z,l,rfl⟩⟩:=eJ<;>
   rw[hv]at hr<;>
   simp[World.farStore,hb]at hr
  |some u=>
   rw[hv]at hr;simp only at hr
   split at hr
   ·simp at hr
   ·rename_i Km
    have R8:¬dG v a.block:=fun h=>Km (lA h hv)
    have jM:∀r,dG v r→(v.setCell a x).heap[r]?=v.heap[r]?:=by
     intro r YN;rw[AG];have:r≠a.block:=fun e=>R8 (e▸YN)
     simp[this]
    have hF:∀r,dG v r→dG (v.setCell a x) r:=fun r h0=>by
     exact h0.same (jM r h0)
    obtain⟨us,h1,h2,h3⟩:=ih (hk m (aD.le_refl m)) (hw.set ha hx) hr;refine⟨⟨.cell a,true,md== .atomic⟩::us,by rw[h1];simp,fun e he gJ b hb=>?_,fun r h0=>(h3 r (hF r h0)).trans (jM r h0)⟩
    rcases List.mem_cons.1 he with rfl|he
    ·injection hb with hb;rw[←hb];exact R8
    ·exact fun h0=>h2 e he gJ b hb (hF _ h0)
 |new o c ih=>
  intro m v w es a1 v' aQ h hw hr;obtain⟨o',k',rfl,ho,hk⟩:=h;obtain⟨hle,nf⟩:=hw.new ho;simp only[Sem.runT]at hr;have jM:∀r,dG v r→(v.heap.push o)[r]?=v.heap[r]?:=by
   intro r h0;have:=h0.lt
   rw[Array.getElem?_push,if_neg (by omega)]
  have hF:∀r,dG v r→dG {v with heap:=v.heap.push o} r:=fun r h0=>by
   exact h0.same (jM r h0)
  obtain⟨us,h1,h2,h3⟩:=ih v.heap.size (hk _ v.heap.size w.heap.size hle (by simp[aD.put])) nf hr
  exact⟨us,h1,fun e he gJ b hb h0=>h2 e he gJ b hb (hF _ h0),fun r h0=>(h3 r (hF r h0)).trans (jM r h0)⟩
 |choose q c ih=>
  intro m v w es a1 v' aQ h hw hr;obtain⟨k',rfl,hk⟩:=h;simp only[Sem.runT]at hr;split at hr
  ·exact ih 0 (hk 0) hw hr
  ·exact ih (q.cut (v.tape v.drawn q)) (v:={v with drawn:=v.drawn+1}) (w:={w with tape:=v.tape,drawn:=v.drawn+1}) (hk _) ⟨hw.inj,hw.iX,hw.os,rfl,rfl⟩ hr
 |program c ih=>
  intro m v w es a1 v' aQ h hw hr;rcases h with h|⟨k',rfl,hk⟩
  ·simp only[Sem.runT]at hr
   obtain⟨_,_,_,e,_⟩:=dM.run (P:=P') (v:=v) (es:=es) h;rw[e]at hr;simp at hr
  ·exact ih P' hk hw hr
 |mark md c ih=>
  intro m v w es a1 v' aQ h hw hr
  cases md with
  |noRoom=>
   obtain⟨k',rfl,hk⟩:=h;simp only[Sem.runT]at hr;obtain⟨us,h1,h2,h3⟩:=ih hk hw hr;refine⟨⟨.mark .noRoom,false,true⟩::us,by rw[h1];simp,fun e he gJ=>?_,h3⟩
   rcases List.mem_cons.1 he with rfl|he
   ·cases gJ
   ·exact h2 e he gJ
  |_=>exact h.elim
 |getObj r c ih=>
  intro m v w es a1 v' aQ h hw hr;obtain⟨r',k',rfl,fl,hk⟩:=h;obtain⟨o,p,ho,hp,aW⟩:=hw.iX _ _ fl;simp only[Sem.runT]at hr;rw[ho]at hr;rcases aW with⟨us,vs,e,fz,gz,rfl,rfl,hf,hs,hx⟩|⟨x,y,l,rfl,rfl,kG⟩
  ·simp at hr
  ·obtain⟨us,h1,h2,h3⟩:=ih (.number x l) (hk x y l kG) hw hr
   refine⟨⟨.obj r,false,false⟩::us,by rw[h1];simp[Obj.isChan],fun e he gJ=>?_,h3⟩
   rcases List.mem_cons.1 he with rfl|he
   ·cases gJ
   ·exact h2 e he gJ
 |shape r c ih=>
  intro m v w es a1 v' aQ h hw hr;simp only[Sem.runT]at hr;rcases h with h|⟨r',k',rfl,fl,hk⟩
  ·obtain⟨_,_,_,e,_⟩:=dM.run (P:=P') (v:=v) (es:=es) (h (v.shape? r));rw[e]at hr;simp at hr
  ·exact ih _ (hk _) hw hr
 |frozen a c ih=>intro m v w es a1 v' aQ h hw hr;simp only[Sem.runT]at hr;obtain⟨_,_,_,e,_⟩:=dM.run (P:=P') (v:=v) (es:=es) (h _);rw[e]at hr;simp at hr
 |freeze a n c ih=>intro m v w es a1 v' aQ h;exact h.elim
 |setObj r o c ih=>intro m v w es a1 v' aQ h;exact h.elim
 |sys c k2 ih=>intro m v w es a1 v' aQ h;exact h.elim
end
end Go.Proofs.YtlhohdjniaebbaaGreat.Sr
