/-
What is proved: whatever supported operation keeps the relation of Sr ('sr_execOp'). Conditions: those that the theorem states. whatever supported operation keeps the relation of Sr ('sr_execOp'). Conditions: those that the theorem states. one step of a goroutine keeps the relation of Sr between two goroutines over two programs that differ in some functions' bodies. Conditions: those that each theorem states. one step of a goroutine, in two programs that differ in some functions' bodies, in memories alike up to names, is alike ('sim_step'). Conditions: those that the theorem states.
-/
import Derived.Test.YtjklkppncmhehaaGreatRx03
import Derived.Conc.Own
import Derived.Conc.Listed
set_option linter.unusedVariables false
set_option linter.unusedSimpArgs false
namespace Go.Proofs.YtjklkppncmhehaaGreat.Sr
open Go
inductive iX (m:az):Next→Next→Prop
 |value {x y:Value} (h:VR m x y):iX m (.value x) (.value y)
 |skip:iX m .skip .skip
 |enter (f:FuncId) {us vs:Array Value} (hf:m.good f=true) (h:AR m us vs) (hn:∀n,dj f=some n→us.size=n):iX m (.enter f us) (.enter f vs)
def nR (P:Program)(op:BinOp)(t:TypeId):Bool:=
 match op with
 | .eql| .neq=>qd P 8 t&& !P.eqGuardType P.depth t
 |_=>match P.underlying t with|some .unsafePointer=>false|_=>true
def QP (good:FuncId→Bool):Fn→Bool
 | .func f=>good f&&(dj f).isNone
 |_=>false
def fo:Operand→Bool
 | .func f=>yI f
 | .tmp _=>true
 | .const (.bool _)| .const (.int _ _)| .const (.string _)| .const (.pointer none)| .const (.slice none _ _)| .const (.map none)| .const .nilFunc| .const .nilIface=>true
 | .const (.agg xs)=>xs.all fun| .bool _| .int _ _| .string _| .pointer none| .slice none _ _| .map none| .nilFunc| .nilIface=>true|_=>false
 | .const (.tuple xs)=>xs.isEmpty
 |_=>false
def Ki (P:Program)(t:TypeId):Bool:=match P.underlying t with
 |some (.interface _)=>false
 |some _=>true
 |none=>false
def Di (P:Program)(good:FuncId→Bool)(name:String):Bool:=C'.all fun t=>match P.info? t with
 |none=>true
 |some i=>match i.methods.find? (fun m=>m.name==name)with
  |none=>true
  |some m=>m.path.isEmpty&&(match m.func with|some (f,_)=>good f&&(dj f).isNone|none=>false)
def uo (P:Program)(good:FuncId→Bool)(c:Call):Bool:=
 match c.callee with
 | .value (.func f)=>good f&&(match dj f with|none=>true|some n=>c.args.size==n)
 | .value (.tmp _)=>true
 | .builtin .len| .builtin .cap| .builtin .max=>true
 | .builtin .append=>vM P c.argTypes
 | .invoke x name=>fo x&&Di P good name
 |_=>false
def iB (P:Program)(good:FuncId→Bool):Op→Bool
 | .move x| .assign x=>fo x
 | .pick c a b=>fo c&&fo a&&fo b
 | .alloc t=>sB P t
 | .box _ x=>fo x
 | .build t ps=>sB P t&&ps.all fun p=>fo p.2
 | .buildSlice t _ ps=>xf P t&&ps.all fun p=>fo p.2
 | .load _ x=>fo x
 | .store _ a x=>fo a&&fo x
 | .nilCheck x=>fo x
 | .binOp op t x y _=>nR P op t&&fo x&&fo y
 | .unOp _ _ x=>fo x
 | .convert s d x=>(match P.underlying s,P.underlying d with|some (.int _),some (.int _)=>true|some .string,some .string=>true|_,_=>false)&&fo x
 | .makeInterface t x=>C'.contains t&&fo x
 | .makeFunc f us vs=>QP good f&&us.all fo&&vs.all fo
 | .makeSlice t l c=>xf P t&&fo l&&fo c
 | .slice _ x l h mx=>fo x&&l.all fo&&h.all fo&&mx.all fo
 | .fieldAddr s x f=>yM P s f&&fo x
 | .indexAddr _ x i| .index _ x i=>fo x&&fo i
 | .extract x _=>fo x
 | .typeAssert x _ t ok=>ok&&Ki P t&&sB P t&&fo x
 | .call c=>uo P good c&&c.args.all fo
 |_=>false
section
variable {τ:TypeId}{P:Program}{F:Array Func}{α β γ δ:Type}{m:az}
def qD (m:az)(ρ ρ':Operand→Value):Prop:=∀x,fo x=true→VR m (ρ x) (ρ' x)
theorem qD.arr {ρ ρ':Operand→Value}(h:qD m ρ ρ'){xs:Array Operand}(hx:xs.all fo=true):AR m (xs.map ρ) (xs.map ρ'):=
 AR.map xs fun x fp=>h x (Array.all_eq_true_iff_forall_mem.1 hx x fp)
theorem qD.opt {ρ ρ':Operand→Value}(h:qD m ρ ρ'){x:Option Operand}(hx:x.all fo=true):mA m (x.map ρ) (x.map ρ'):=by
 cases x with
 |none=>exact .none
 |some x=>exact .some (h x (by simpa using hx))
theorem qD.parts {ρ ρ':Operand→Value}(h:qD m ρ ρ'){ps:Array (Nat×Operand)}(hx:(ps.all fun p=>fo p.2)=true):jy m (ps.map fun(i,x)=>(i,ρ x)).toList (ps.map fun(i,x)=>(i,ρ' x)).toList:=by
 have jw:=Array.all_eq_true_iff_forall_mem.1 hx;rw[Array.toList_map,Array.toList_map];have:∀l:List (Nat×Operand),(∀p∈l,fo p.2=true)→jy m (l.map fun(i,x)=>(i,ρ x)) (l.map fun(i,x)=>(i,ρ' x)):=by
  intro l;induction l with
  |nil=>intro _;exact .nil
  |cons a l ih=>intro hl;exact .cons (h _ (hl a (by simp))) (ih fun p hp=>hl p (by simp[hp]))
 exact this _ fun p hp=>jw p (by simpa using hp)
theorem iJ {s s':Sem Value}(h:aR τ P F VR m s s'):aR τ P F iX m (s.bind fun x=>Sem.pure (.value x)) (s'.bind fun x=>Sem.pure (.value x)):=h.bind fun _ a b _ fB=>sP (.value fB)
theorem Yt {s s':Sem Unit}(h:aR τ P F eC m s s'):aR τ P F iX m (s.bind fun _=>Sem.pure .skip) (s'.bind fun _=>Sem.pure .skip):=h.bind fun _ a b _ fB=>sP .skip
theorem FV (s d:TypeId){x y:Value}(h:VR m x y)(ok:(match P.underlying s,P.underlying d with|some (.int _),some (.int _)=>true|some .string,some .string=>true|_,_=>false)=true):aR τ P F VR m (convert s d x) (convert s d y):=by
 unfold convert;refine(sU s).bind fun n1 a a' cj e=>?_;obtain⟨rfl,ha⟩:=e;refine(sU d).bind fun n2 b b' cI e=>?_;obtain⟨rfl,hb⟩:=e;rw[ha,hb]at ok;have h':=(h.mono cj).mono cI
 cases a with
 |int k=>cases b with
  |int k2=>
   cases h' with
   |int _ _=>exact sP (.int _ _)
   |_=>first|trivial|exact kN nofun
  |_=>cases ok
 |string=>cases b with
  |string=>cases h'<;>first|exact sP (.string _)|trivial|exact kN nofun
  |_=>cases ok
 |_=>cases ok
theorem NV (op:UnOp){x y:Value}(h:VR m x y):aR τ P F VR m (Op.unary op x) (Op.unary op y):=by
 cases op<;>cases h<;>first|exact sP (.int _ _)|exact sP (.bool _)|trivial|exact kN nofun
theorem Dj (R:eX τ P){x y:Value}(h:VR m x y)(o:Oper)(ρ ρ':Operand→Value)(z:Operand)(e1:ρ z=x)(e2:ρ' z=y)(eo:o.op= .nilCheck z):aR τ P F iX m (execOp ρ o) (execOp ρ' o):=by
 unfold execOp;rw[eo];dsimp only
 rw[e1,e2]
 cases h with
 |nilPtr=>exact fC R
 |nilFunc=>exact fC R
 |gF=>exact xe R
 |nilIface=>exact fC R
 |ptr ha=>exact sP (.value (.ptr ha))
 |func f hf hs hh ht hk=>
  cases f with
  |func f=>exact sP (.value (.func _ hf hs hh ht hk))
  |_=>exact hf.elim
 |_=>exact sP (.value (by constructor<;>assumption))
theorem lg:∀(d:Nat) (t:TypeId),Program.eqGuardType (Program.mk (Program.toTables P) F) d t=P.eqGuardType d t
 |0,_=>rfl
 |d+1,t=>by
  unfold Program.eqGuardType;have e:Program.underlying (Program.mk (Program.toTables P) F) t=P.underlying t:=rfl
  rw[e]
  cases P.underlying t with
  |none=>rfl
  |some dd=>
   cases dd with
   |struct fs=>simp only[lg d]
   |array n e=>exact lg d e
   |_=>rfl
theorem Dk (t:TypeId):aR τ P F eC m (Op.eqGuardIn Op.maxDepth t .nilIface .nilIface) (Op.eqGuardIn Op.maxDepth t .nilIface .nilIface):=by
 show aR τ P F eC m (Op.eqGuardIn (9999+1) t .nilIface .nilIface) (Op.eqGuardIn (9999+1) t .nilIface .nilIface)
 unfold Op.eqGuardIn;refine(sU t).bind fun n1 a a' cj e=>?_;obtain⟨rfl,_⟩:=e
 cases a<;>exact bH
theorem FW (op:BinOp)(t:TypeId)(a b:Operand){x y u v:Value}(hx:VR m x y)(hu:VR m u v)(ok:nR P op t=true):aR τ P F eC m (eqGuard op t a b x u) (eqGuard op t a b y v):=by
 have main:∀op,(op= .eql∨op= .neq)→nR P op t=true→aR τ P F eC m (eqGuard op t a b x u) (eqGuard op t a b y v):=by
  intro op ho ok;have hg:P.eqGuardType P.depth t=false:=by rcases ho with rfl|rfl<;>(simp only[nR,Bool.and_eq_true,Bool.not_eq_true']at ok;exact ok.2)
  have bh:Program.eqGuardType (Program.mk (Program.toTables P) F) (Program.mk (Program.toTables P) F).depth t=false:=by rw[lg];exact hg
  have agg:aR τ P F eC m (Sem.bind program fun p=>Sem.bind program fun q=>if(!p.eqGuardType q.depth t)=true then Sem.pure ()else Sem.bind (Op.eqGuardIn Op.maxDepth t x u) fun b=>if b=true then unsupported (.noEntry "binop/eql: two nil values of an interface type with methods, in a part of a struct or an array")else Sem.pure ())
    (Sem.bind program fun p=>Sem.bind program fun q=>if(!p.eqGuardType q.depth t)=true then Sem.pure ()else Sem.bind (Op.eqGuardIn Op.maxDepth t y v) fun b=>if b=true then unsupported (.noEntry "binop/eql: two nil values of an interface type with methods, in a part of a struct or an array")else Sem.pure ()):=by
   refine dk (dk ?_);rw[hg,bh];exact bH
  have nil:aR τ P F eC m (if(match a with| .const _=>true|_=>false)||(match b with| .const _=>true|_=>false)then(Sem.pure ():Sem Unit)else Sem.bind (Op.eqGuardIn Op.maxDepth t .nilIface .nilIface) fun b=>if b=true then unsupported (.noEntry "binop/eql: two nil values of an interface type with methods, neither of them the literal nil")else Sem.pure ())
    (if(match a with| .const _=>true|_=>false)||(match b with| .const _=>true|_=>false)then(Sem.pure ():Sem Unit)else Sem.bind (Op.eqGuardIn Op.maxDepth t .nilIface .nilIface) fun b=>if b=true then unsupported (.noEntry "binop/eql: two nil values of an interface type with methods, neither of them the literal nil")else Sem.pure ()):=by
   have g:aR τ P F eC m (Sem.bind (Op.eqGuardIn Op.maxDepth t .nilIface .nilIface) fun b=>if b=true then unsupported (.noEntry "binop/eql: two nil values of an interface type with methods, neither of them the literal nil")else Sem.pure ())
     (Sem.bind (Op.eqGuardIn Op.maxDepth t .nilIface .nilIface) fun b=>if b=true then unsupported (.noEntry "binop/eql: two nil values of an interface type with methods, neither of them the literal nil")else Sem.pure ()):=by
    refine(Dk t).bind fun n p q _ e=>?_;subst e
    cases p
    ·exact bH
    ·exact kN nofun
   cases a<;>cases b<;>first|exact bH|exact g
  have left:∀{v:Value},(∀cs,v≠.agg cs)→v≠.nilIface→∀(op:BinOp) (z w:Value),aR τ P F eC m (eqGuard op t a b z .nilFunc) (eqGuard op t a b w v):=by
   intro v tu Bf op z w;have e1:eqGuard op t a b z .nilFunc=Sem.pure ():=by cases op<;>cases z<;>rfl
   have e2:eqGuard op t a b w v=Sem.pure ():=by cases v<;>first|exact absurd rfl (tu _)|exact absurd rfl Bf|(cases op<;>cases w<;>rfl)
   rw[e1,e2];exact bH
  have right:∀{v:Value},(∀cs,v≠.agg cs)→v≠.nilIface→∀(op:BinOp) (z w:Value),aR τ P F eC m (eqGuard op t a b .nilFunc z) (eqGuard op t a b v w):=by
   intro v tu Bf op z w;have e1:eqGuard op t a b .nilFunc z=Sem.pure ():=by cases op<;>cases z<;>rfl
   have e2:eqGuard op t a b v w=Sem.pure ():=by cases v<;>first|exact absurd rfl (tu _)|exact absurd rfl Bf|(cases op<;>cases w<;>rfl)
   rw[e1,e2];exact bH
  by_cases NW:u= .nilFunc
  ·subst NW
   cases hu with
   |gF _ h1 h2=>exact left (fun cs=>(h1 cs).1) h2.1 op x y
   |nilFunc=>exact left (v:= .nilFunc) (fun _ e=>(by cases e)) (fun e=>(by cases e)) op x y
  ·by_cases NX:x= .nilFunc
   ·subst NX
    cases hx with
    |gF _ h1 h2=>exact right (fun cs=>(h1 cs).1) h2.1 op u v
    |nilFunc=>exact right (v:= .nilFunc) (fun _ e=>(by cases e)) (fun e=>(by cases e)) op u v
   ·rcases ho with rfl|rfl<;>cases hx<;>first|exact absurd rfl NX|(cases hu<;>first|exact absurd rfl NW|exact bH|exact agg|exact nil)
 cases op<;>first|exact main _ (.inl rfl) ok|exact main _ (.inr rfl) ok|exact bH
theorem Cb (hG:P.globals.size=0)(t:TypeId){x y u v:Value}(hx:VR m x y)(hu:VR m u v)(ok:qd P 8 t=true):aR τ P F eC m (Op.equal t x u) (Op.equal t y v):=qC hG _ _ t ok hx hu
theorem vO {a b:Addr}(h:bp m a b):aR τ P F eC m (shape a.block) (shape b.block):= .inr ⟨b.block,_,rfl,h.1,fun z=>⟨z,rfl,rfl⟩⟩
theorem sE (hG:P.globals.size=0){RA:az→Nat×Nat→Nat×Nat→Prop}{a b a' b':Addr}:aR τ P F RA m (Op.twoPlaces a b) (Op.twoPlaces a' b'):=by
 have e:(a.block !=b.block||decide (a.block≥(Program.mk (Program.toTables P) F).globals.size))=true:=by
  show(a.block !=b.block||decide (a.block≥P.globals.size))=true
  rw[hG];simp
 unfold Op.twoPlaces;refine dk ?_;dsimp only
 rw[if_pos e];exact nofun
theorem FX (hG:P.globals.size=0){x y u v:Addr}(hx:bp m x y)(hu:bp m u v):
  aR τ P F VR m (do Op.addrSub .u64 (←behindNumber x).1 (←behindNumber u).1) (do Op.addrSub .u64 (←behindNumber y).1 (←behindNumber v).1):=
 (FU hx).bind fun n p q hn e=>(FU (hu.mono hn)).bind fun n2 p' q' cI e2=>(sE (RA:=fun _ _ _=>False) hG).bind fun _ _ _ _ h=>h.elim
theorem FY (hG:P.globals.size=0)(op:BinOp){x y u v:Addr}(hx:bp m x y)(hu:bp m u v):
  aR τ P F VR m (do Op.addrCmp op (←behindNumber x).1 (←behindNumber u).1) (do Op.addrCmp op (←behindNumber y).1 (←behindNumber v).1):=
 (FU hx).bind fun n p q hn e=>(FU (hu.mono hn)).bind fun n2 p' q' cI e2=>(sE (RA:=fun _ _ _=>False) hG).bind fun _ _ _ _ h=>h.elim
theorem jz:∀(d:Nat) (t:TypeId) (o:Nat),byteOfCell (Program.mk (Program.toTables P) F) d t o=byteOfCell P d t o
 |0,_,_=>rfl
 |d+1,t,o=>by
  unfold byteOfCell;have e:Program.underlying (Program.mk (Program.toTables P) F) t=P.underlying t:=rfl
  rw[e]
  cases P.underlying t with
  |none=>rfl
  |some dd=>
   cases dd with
   |struct fs=>
    simp only[jz d];rfl
   |array n e=>
    simp only[jz d];rfl
   |_=>rfl
theorem yP {a b:Addr}(h:bp m a b):aR τ P F (fun _ x y=>x=none∧y=none) m (viewAt a.block) (viewAt b.block):=by
 refine .inr ⟨b.block,_,rfl,h.1,fun z=>?_⟩
 cases z with
 |none=>exact⟨b.block,_,rfl,h.1,fun p q l Ub=>⟨_,rfl,rfl,rfl⟩⟩
 |some z=>exact⟨none,rfl,rfl,rfl⟩
theorem Kj {a b:Addr}(h:bp m a b):aR τ P F eC m (noView a) (noView b):=
 (yP h).bind fun n x y hn e=>by obtain⟨rfl,rfl⟩:=e;exact bH
theorem Kk {a b:Addr}(h:bp m a b):aR τ P F eC m (byteOf a) (byteOf b):=by
 unfold byteOf;obtain⟨h1,h2,h3,h4⟩:=h;rw[h3,h4];refine dk ?_;dsimp only
 refine(Kj ⟨h1,h2,h3,h4⟩).bind fun n _ _ hn _=>?_;refine(vO (bp.mono hn ⟨h1,h2,h3,h4⟩)).bind fun n2 z z' cI e=>?_;subst e
 cases z with
 |none=>trivial
 |some z=>
  obtain⟨e,k⟩:=z;dsimp only
  have ec:Program.cellsOf (Program.mk (Program.toTables P) F) e=P.cellsOf e:=rfl
  have eb:Program.bytesOf (Program.mk (Program.toTables P) F) e=P.bytesOf e:=rfl
  have ed:Program.depth (Program.mk (Program.toTables P) F)=P.depth:=rfl
  simp only[ec,eb,ed,jz,h2];split
  ·exact bH
  ·cases byteOfCell P P.depth e (a.off % P.cellsOf e)with
   |none=>trivial
   |some x=>exact bH
theorem xh (k:IntKind)(c:Int){x y:Addr}(hx:bp m x y):
  aR τ P F VR m (do Op.addrMod k (←behindNumber x).1 c) (do Op.addrMod k (←behindNumber y).1 c):=by
 refine(FU hx).bind fun n p q hn e=>?_;unfold Op.addrMod;refine(vO e.1).bind fun n1 z z' cj e1=>?_;subst e1
 cases z with
 |none=>exact nofun
 |some z=>
  obtain⟨t,k⟩:=z;refine(eI t).bind fun n2 i i' cI e2=>?_;subst e2;dsimp only
  split
  ·exact nofun
  ·exact(Kk ((e.1.mono cj).mono cI)).bind fun n3 a b kQ e3=>by subst e3;exact sP (.int _ _)
theorem mC:∀(d:Nat) (t:TypeId) (o:Nat),cellOfByte (Program.mk (Program.toTables P) F) d t o=cellOfByte P d t o
 |0,_,_=>rfl
 |d+1,t,o=>by
  unfold cellOfByte;have e:Program.underlying (Program.mk (Program.toTables P) F) t=P.underlying t:=rfl
  rw[e]
  cases P.underlying t with
  |none=>rfl
  |some dd=>
   cases dd with
   |struct fs=>
    simp only[mC d];rfl
   |array n e=>
    simp only[mC d];rfl
   |_=>rfl
theorem xX (e:TypeId)(c o:Nat)(b:Int):cellAtBytes (Program.mk (Program.toTables P) F) (Program.mk (Program.toTables P) F).depth e c o b=cellAtBytes P P.depth e c o b:=by
 unfold cellAtBytes;have ec:Program.cellsOf (Program.mk (Program.toTables P) F) e=P.cellsOf e:=rfl
 have eb:Program.bytesOf (Program.mk (Program.toTables P) F) e=P.bytesOf e:=rfl
 have ed:Program.depth (Program.mk (Program.toTables P) F)=P.depth:=rfl
 simp only[ec,eb,ed,jz,mC]
theorem qE (t:TypeId){x y u v:Value}(hx:VR m x y)(hu:VR m u v):aR τ P F (fun n a b=>VR n a b∧a≠.nilFunc) m (Builtin.unsafeAdd_ #[] t #[x,u]) (Builtin.unsafeAdd_ #[] t #[y,v]):=by
 unfold Builtin.unsafeAdd_;have tail:∀{p q:Option Addr},((p=none∧q=none)∨∃a b,p=some a∧q=some b∧bp m a b)→VR m (.pointer p) (.pointer q):=by
  rintro p q (⟨rfl,rfl⟩|⟨a,b,rfl,rfl,h⟩)
  ·exact .nilPtr
  ·exact .ptr h
 cases hx with
 |nilPtr=>
  refine(rK hu).bind fun n c c' hn e=>?_;subst e;dsimp only
  split
  ·exact nofun
  ·split
   ·exact nofun
   ·exact nofun
 |ptr ha=>
  refine(rK hu).bind fun n c c' hn e=>?_;subst e;dsimp only
  split
  ·refine(yP (ha.mono hn)).bind fun n1 z z' cj e1=>?_
   obtain⟨rfl,rfl⟩:=e1;exact sP ⟨.ptr ((ha.mono hn).mono cj),fun e=>(by cases e)⟩
  ·split
   ·exact nofun
   ·refine(vO (ha.mono hn)).bind fun n1 z z' cj e1=>?_
    subst e1
    cases z with
    |none=>exact nofun
    |some z=>
     obtain⟨e,k⟩:=z;refine dk ?_;have ec:Program.cellsOf (Program.mk (Program.toTables P) F) e=P.cellsOf e:=rfl
     simp only[xX,ec];rw[show _=_ from ha.2.1]
     split
     ·exact sP ⟨.ptr ⟨cj.sub _ _ (hn.sub _ _ ha.1),rfl,ha.2.2.1,ha.2.2.2⟩,fun e=>(by cases e)⟩
     ·exact nofun
 |_=>trivial
theorem vP (t:TypeId){x y u v:Value}(hx:VR m x y)(hu:VR m u v):aR τ P F VR m (Builtin.unsafeAdd_ #[] t #[x,u]) (Builtin.unsafeAdd_ #[] t #[y,v]):=(qE t hx hu).mono fun _ _ _ _ h=>h.1
theorem lh (t:TypeId)(ht:∀d,P.underlying t=some d→d≠.unsafePointer){x y u v:Value}(hx:VR m x y)(hu:VR m u v):aR τ P F VR m (movedNumber t x u) (movedNumber t y v):=by
 unfold movedNumber;refine(sU t).bind fun n1 d d' cj e=>?_;obtain⟨rfl,hd⟩:=e;have jw:=hx.mono cj;have uq:=hu.mono cj;have tail:aR τ P F VR n1 (match(generalizing:=false) x with
    | .pointer (some n)=>(behindNumber n).bind fun p=>(Builtin.unsafeAdd_ #[] t #[.pointer (some p.1),u]).bind fun r=>match r with
      | .pointer (some b)=>asNumber b p.2
      |v=>Sem.pure v
    |_=>Builtin.unsafeAdd_ #[] t #[x,u])
   (match(generalizing:=false) y with
    | .pointer (some n)=>(behindNumber n).bind fun p=>(Builtin.unsafeAdd_ #[] t #[.pointer (some p.1),v]).bind fun r=>match r with
      | .pointer (some b)=>asNumber b p.2
      |v=>Sem.pure v
    |_=>Builtin.unsafeAdd_ #[] t #[y,v]):=by
  cases jw with
  |ptr ha=>
   refine(FU ha).bind fun n2 p q cI e=>?_;obtain⟨p,lost⟩:=p;obtain⟨q,aaz⟩:=q;obtain⟨e1,e2⟩:=e;dsimp only at e1 e2
   subst e2;refine(qE t (.ptr e1) (uq.mono cI)).bind fun n3 r r' kQ hr=>?_;obtain⟨hr,NY⟩:=hr
   cases hr with
   |ptr hb=>
    refine⟨_,_,rfl,.inr ⟨_,_,_,rfl,rfl,hb⟩,fun n4 r r' xW hr=>?_⟩
    exact sP (.ptr ⟨hr,rfl,rfl,rfl⟩)
   |func f hf hs hh ht hk=>exact sP (.func f hf hs hh ht hk)
   |gF y hy hn=>exact absurd rfl NY
   |_=>exact sP (by constructor<;>assumption)
  |nilPtr=>exact vP t .nilPtr uq
  |bool b=>exact vP t (.bool b) uq
  |int k b=>exact vP t (.int k b) uq
  |string b=>exact vP t (.string b) uq
  |cn l c=>exact vP t (.cn l c) uq
  |slice l c h=>exact vP t (.slice l c h) uq
  |kD=>exact vP t .kD uq
  |nilFunc=>exact vP t .nilFunc uq
  |gF y hy hn=>trivial
  |nilIface=>exact vP t .nilIface uq
  |iface a ha h=>exact vP t (.iface a ha h) uq
  |func f hf hs hh ht hk=>exact vP t (.func f hf hs hh ht hk) uq
  |agg hs hh=>exact vP t (.agg hs hh) uq
  |tuple hs hh=>exact vP t (.tuple hs hh) uq
 have bY:=ht d hd
 cases d with
 |unsafePointer=>exact absurd rfl bY
 |_=>exact tail
theorem vQ (R:eX τ P)(op:BinOp)(t:TypeId)(k k':IntKind)(a b:Int):aR τ P F VR m (binOp op t (.int k a) (.int k' b)) (binOp op t (.int k a) (.int k' b)):=by
 have arith:∀op,aR τ P F VR m (if k≠k' then stuck "BinOp: operands of different kinds" else Op.intArith op k a b) (if k≠k' then stuck "BinOp: operands of different kinds" else Op.intArith op k a b):=by
  intro op;split
  ·trivial
  ·cases op<;>first|exact sP (.int _ _)|trivial
 have Uc:∀op,aR τ P F VR m (if k≠k' then stuck "BinOp: operands of different kinds" else Op.intBits op k a b) (if k≠k' then stuck "BinOp: operands of different kinds" else Op.intBits op k a b):=by
  intro op;split
  ·trivial
  ·cases op<;>first|exact sP (.int _ _)|trivial
 have cmp:∀op,aR τ P F VR m (if k≠k' then stuck "BinOp: operands of different kinds" else Op.intCmp op a b) (if k≠k' then stuck "BinOp: operands of different kinds" else Op.intCmp op a b):=by
  intro op;split
  ·trivial
  ·cases op<;>first|exact sP (.bool _)|trivial
 have div:∀op,aR τ P F VR m (if k≠k' then stuck "BinOp: operands of different kinds" else Op.intDiv op k a b) (if k≠k' then stuck "BinOp: operands of different kinds" else Op.intDiv op k a b):=by
  intro op;split
  ·trivial
  ·unfold Op.intDiv
   split
   ·exact mg R
   ·cases op<;>first|exact sP (.int _ _)|trivial
 have sh:∀op,aR τ P F VR m (Op.shift op k a k' b) (Op.shift op k a k' b):=by
  intro op;unfold Op.shift;split
  ·exact mg R
  ·cases op<;>first|exact sP (.int _ _)|trivial
 cases op<;>first|exact arith _|exact Uc _|exact cmp _|exact div _|exact sh .shl|exact sh .shr
theorem vR (op:BinOp)(t:TypeId)(a b:ByteArray):aR τ P F VR m (binOp op t (.string a) (.string b)) (binOp op t (.string a) (.string b)):=by
 have e:binOp op t (.string a) (.string b)=Op.stringOp op a b:=by cases op<;>rfl
 rw[e];unfold Op.stringOp;dsimp only
 cases op<;>first|exact sP (.bool _)|trivial|(dsimp only;split<;>first|exact sP (.string _)|exact nofun)
theorem NZ (hG:P.globals.size=0)(t:TypeId){x y u v:Value}(hx:VR m x y)(hu:VR m u v)(ok:qd P 8 t=true):aR τ P F VR m (do pure (.bool (←Op.equal t x u))) (do pure (.bool (←Op.equal t y v))):=
 (Cb hG t hx hu ok).bind fun n a b hn e=>by subst e;exact sP (.bool _)
theorem N1 (hG:P.globals.size=0)(t:TypeId){x y u v:Value}(hx:VR m x y)(hu:VR m u v)(ok:qd P 8 t=true):aR τ P F VR m (do pure (.bool (!(←Op.equal t x u)))) (do pure (.bool (!(←Op.equal t y v)))):=
 (Cb hG t hx hu ok).bind fun n a b hn e=>by subst e;exact sP (.bool _)
end
end Go.Proofs.YtjklkppncmhehaaGreat.Sr
namespace Go.Proofs.YtjklkppncmhehaaGreat.Sr
open Go
section
variable {τ:TypeId}{P:Program}{F:Array Func}{α β γ δ:Type}{m:az}
theorem Kl (t:TypeId)(ht:∀d,P.underlying t=some d→d≠.unsafePointer){x y u v:Value}(hx:VR m x y)(hu:VR m u v):
  aR τ P F VR m (do if(←underlying t) matches .unsafePointer then movedPointer t x u else movedNumber t x u) (do if(←underlying t) matches .unsafePointer then movedPointer t y v else movedNumber t y v):=by
 refine(sU t).bind fun n1 d d' cj e=>?_;obtain⟨rfl,hd⟩:=e;have bY:=ht d hd
 cases d with
 |unsafePointer=>exact absurd rfl bY
 |_=>exact lh t ht (hx.mono cj) (hu.mono cj)
theorem yQ (k:IntKind)(c:Int){x y:Addr}(hx:bp m x y):
  aR τ P F VR m (do Op.addrMod k (←behindNumber x).1 (c+1)) (do Op.addrMod k (←behindNumber y).1 (c+1)):=xh k (c+1) hx
theorem xi {RA:az→Value→β→Prop}(op:BinOp)(t:TypeId){x u:Value}(ok:nR P op t=true)(h:x= .nilFunc∨u= .nilFunc){s':Sem β}:aR τ P F RA m (binOp op t x u) s':=by
 have eq:(op= .eql∨op= .neq)→qd P 8 t=true:=by rintro(rfl|rfl)<;>(simp only[nR,Bool.and_eq_true]at ok;exact ok.1)
 rcases h with rfl|rfl
 ·cases op<;>cases u<;>first|trivial|exact kN nofun|(rename_i a;cases a<;>first|trivial|exact kN nofun)|exact nk t (eq (.inl rfl)) (.inl rfl)|exact nk t (eq (.inr rfl)) (.inl rfl)
 ·cases op<;>cases x<;>first|trivial|exact kN nofun|(rename_i a;cases a<;>first|trivial|exact kN nofun)|exact nk t (eq (.inl rfl)) (.inr rfl)|exact nk t (eq (.inr rfl)) (.inr rfl)
set_option maxHeartbeats 4000000 in
theorem N2 (R:eX τ P)(hG:P.globals.size=0)(op:BinOp)(t:TypeId){x y u v:Value}(hx:VR m x y)(hu:VR m u v)(ok:nR P op t=true):aR τ P F VR m (binOp op t x u) (binOp op t y v):=by
 by_cases NX:x= .nilFunc
 ·exact xi op t ok (.inl NX)
 by_cases NW:u= .nilFunc
 ·exact xi op t ok (.inr NW)
 by_cases he:op= .eql
 ·subst he
  simp only[nR,Bool.and_eq_true]at ok;have h:=NZ (τ:=τ) (F:=F) hG t hx hu ok.1
  cases hx<;>cases hu<;>first|exact absurd rfl NX|exact absurd rfl NW|exact vQ R _ _ _ _ _ _|exact vR _ _ _ _|exact h
 ·by_cases hn:op= .neq
  ·subst hn
   simp only[nR,Bool.and_eq_true]at ok;have h:=N1 (τ:=τ) (F:=F) hG t hx hu ok.1
   cases hx<;>cases hu<;>first|exact absurd rfl NX|exact absurd rfl NW|exact vQ R _ _ _ _ _ _|exact vR _ _ _ _|exact h
  ·have ht:∀d,P.underlying t=some d→d≠.unsafePointer:=by
    rintro d hd rfl
    cases op<;>simp_all[nR]
   have h1:=Kl (τ:=τ) (F:=F) t ht hx hu;have h2:=lh (τ:=τ) (F:=F) t ht hu hx;have h3:=fun k n=>lh (τ:=τ) (F:=F) t ht hx (VR.int (m:=m) k n)
   cases hx with
   |int k a=>
    cases hu with
    |int k2 b=>exact vQ R _ _ _ _ _ _
    |ptr hb=>cases op<;>first|exact absurd rfl he|exact absurd rfl hn|exact h2|exact yQ _ _ hb|exact nofun
    |nilPtr=>cases op<;>first|exact absurd rfl he|exact absurd rfl hn|exact h2|exact nofun
    |_=>cases op<;>first|exact absurd rfl he|exact absurd rfl hn|trivial
   |ptr ha=>
    cases hu with
    |int k2 b=>cases op<;>first|exact absurd rfl he|exact absurd rfl hn|exact h1|exact h3 _ _|exact xh _ _ ha|exact yQ _ _ ha|exact nofun
    |ptr hb=>cases op<;>first|exact absurd rfl he|exact absurd rfl hn|exact FX hG ha hb|exact FY hG _ ha hb|exact nofun
    |_=>cases op<;>first|exact absurd rfl he|exact absurd rfl hn|exact nofun
   |nilPtr=>
    cases hu with
    |int k2 b=>cases op<;>first|exact absurd rfl he|exact absurd rfl hn|exact h1|exact h3 _ _|exact nofun
    |_=>cases op<;>first|exact absurd rfl he|exact absurd rfl hn|exact nofun
   |string a=>
    cases hu with
    |string b=>exact vR _ _ _ _
    |ptr hb=>cases op<;>first|exact absurd rfl he|exact absurd rfl hn|exact nofun
    |nilPtr=>cases op<;>first|exact absurd rfl he|exact absurd rfl hn|exact nofun
    |_=>cases op<;>first|exact absurd rfl he|exact absurd rfl hn|trivial
   |_=>
    cases hu with
    |ptr hb=>cases op<;>first|exact absurd rfl he|exact absurd rfl hn|exact nofun
    |nilPtr=>cases op<;>first|exact absurd rfl he|exact absurd rfl hn|exact nofun
    |_=>cases op<;>first|exact absurd rfl he|exact absurd rfl hn|trivial
structure yR (P:Program) (F:Array Func) (good:FuncId→Bool):Prop where
 both:∀f,good f=true→∃fn N3,F[f]?=some fn∧P.funcs[f]?=some N3∧fn.body.isSome=true∧N3.body.isSome=true∧fn.name≠ "runtime.NumGoroutine"∧N3.name≠ "runtime.NumGoroutine"
theorem oS (hF:yR P F m.good)(f:FuncId)(hf:m.good f=true){us vs:Array Value}(h:AR m us vs)(hn:∀n,dj f=some n→us.size=n):aR τ P F iX m (callFunc f us) (callFunc f vs):=by
 obtain⟨fn,N3,h1,h2,b1,b2,n1,n2⟩:=hF.both f hf;unfold callFunc;refine dk ?_;dsimp only
 rw[h1,h2];dsimp only
 rw[if_neg (by simpa using n1),if_neg (by cases hg:fn.body<;>simp_all),if_neg (by simpa using n2),if_neg (by cases hg:N3.body<;>simp_all)]
 exact sP (.enter f hf h hn)
theorem Bg (R:eX τ P)(hF:yR P F m.good){x y:Value}(h:VR m x y){us vs:Array Value}(k:AR m us vs):
  aR τ P F iX m ((Deferred.ofValue x us).bind fun d=>invoke d.target d.args) ((Deferred.ofValue y vs).bind fun d=>invoke d.target d.args):=by
 cases h with
 |func f hf hs hh ht hk=>
  cases f with
  |func f=>
   show aR τ P F iX m (invoke (.fn (.func f) _) _) (invoke (.fn (.func f) _) _)
   exact oS hF f hf.1 ((AR.append (show AR m _ _ from⟨hs,hh⟩) k).append ⟨ht,hk⟩) fun n hn=>by rw[hf.2]at hn;cases hn
  |_=>exact hf.elim
 |nilFunc=>exact fC R
 |gF=>exact xe R
 |_=>trivial
theorem yS (xt t:TypeId)(hc:Ki P t=true)(hZ:sB P t=true){x y:Value}(h:VR m x y):aR τ P F VR m (Instr.typeAssert x xt t true) (Instr.typeAssert y xt t true):=by
 unfold Instr.typeAssert;have QQ:∀{n:az},aR τ P F VR n ((zeroValue t).bind fun z=>Sem.pure (.tuple #[z,.bool false])) ((zeroValue t).bind fun z=>Sem.pure (.tuple #[z,.bool false])):=fun {n}=>
  (gq t hZ).bind fun _ a b _ fB=>sP (.tuple rfl fun i h1 h2=>by
   rcases i with _|_|i
   ·exact fB
   ·exact .bool _
   ·exact absurd h1 (by simp))
 have holds:∀{n:az} {u v:Value},VR n u v→aR τ P F VR n (Sem.pure (.tuple #[u,.bool true])) (Sem.pure (.tuple #[v,.bool true])):=fun {n u v} fB=>sP (.tuple rfl fun i h1 h2=>by
   rcases i with _|_|i
   ·exact fB
   ·exact .bool _
   ·exact absurd h1 (by simp))
 refine(sU t).bind fun n a b hn e=>?_;obtain⟨rfl,ha⟩:=e;have Ud:∀ms,a≠.interface ms:=fun ms e=>by
  subst e;unfold Ki at hc;rw[ha]at hc
  cases hc
 cases h with
 |iface t' _ hx=>
  by_cases ht:t'=t
  ·cases a<;>first|exact absurd rfl (Ud _)|(simp only[ht,if_true];exact holds (hx.mono hn))
  ·cases a<;>first|exact absurd rfl (Ud _)|(simp only[ht,if_false];exact QQ)
 |nilIface=>cases a<;>first|exact absurd rfl (Ud _)|exact QQ
 |_=>cases a<;>first|exact absurd rfl (Ud _)|trivial
theorem QR (R:eX τ P)(t:TypeId)(nm:ByteArray){x y:Value}(h:VR m x y):aR τ P F VR m (Builtin.ssaWrapNilChk_ #[t] t #[x,strVal "",.string nm]) (Builtin.ssaWrapNilChk_ #[t] t #[y,strVal "",.string nm]):=by
 unfold Builtin.ssaWrapNilChk_
 cases h with
 |ptr ha=>exact sP (.ptr ha)
 |nilPtr=>
  refine(oR _).bind fun n a b hn e=>?_;subst e;have rest:∀{n:az} {c c':Unit→Sem Value},aR τ P F VR n (c ()) (c' ())→aR τ P F VR n (if(a==1)=true then Sem.bind (runtimePanic .nilDeref) c else c ()) (if(a==1)=true then Sem.bind (runtimePanic .nilDeref) c' else c' ()):=fun {n c c'} h=>by
   split
   ·exact SR.bind (RA:=fun _ _ _=>False) (fC R) fun _ _ _ _ h=>h.elim
   ·exact h
  refine rest (n:=n) ?_;refine(sU t).bind fun n a b hn e=>?_;obtain⟨rfl,_⟩:=e
  cases a<;>first|trivial|skip
  refine(eI _).bind fun n a b hn e=>?_;subst e;dsimp only
  generalize TypeInfo.desc _=d
  cases d<;>first|trivial|skip
  dsimp only
  cases String.fromUTF8? nm<;>first|trivial|skip
  dsimp only
  split
  ·exact kP (s':=Sem.halt (.stuck "")) R (.inr (.inr (.inl ⟨_,rfl⟩)))
  ·exact kN nofun
 |_=>trivial
theorem Dl (R:eX τ P)(t:TypeId)(nm:String)(pr:Bool){x y:Value}(h:VR m x y):aR τ P F VR m (receiverAt t (.val x) pr (some nm)) (receiverAt t (.val y) pr (some nm)):=by
 unfold receiverAt;refine(sU t).bind fun n a b hn e=>?_;obtain⟨rfl,_⟩:=e;have h':=h.mono hn;have load:∀e,aR τ P F VR n ((Sem.pure x).bind fun p=>(Builtin.ssaWrapNilChk_ #[t] t #[p,strVal "",strVal nm]).bind fun p=>(asAddr p).bind fun A=>loadVar e A) ((Sem.pure y).bind fun p=>(Builtin.ssaWrapNilChk_ #[t] t #[p,strVal "",strVal nm]).bind fun p=>(asAddr p).bind fun A=>loadVar e A):=fun e=>
  (sP h').bind fun n a b hn fB=>(QR R t _ fB).bind fun n a b hn fB=>(tq R fB).bind fun n a b hn fB=>qA e fB
 cases a<;>cases pr<;>first|exact sP h'|exact load _|trivial
theorem Km (R:eX τ P)(name:String)(hi:Di P m.good name=true)(t:TypeId)(ht:C'.contains t=true){x y:Value}(h:VR m x y)(k:Nat):aR τ P F (fun n a b=>a.1=b.1∧m.good a.1=true∧dj a.1=none∧VR n a.2 b.2) m (method (k+1) t x name) (method (k+1) t y name):=by
 unfold method;have Kn:aR τ P F (fun _ a b=>a=b∧P.info? t=some a) m (typeInfo t) (typeInfo t):=by
  unfold typeInfo;refine dk ?_;show aR τ P F _ m (match P.info? t with|some i=>pure i|none=>stuck "no such type") _
  cases P.info? t with
  |none=>trivial
  |some i=>exact⟨i,rfl,rfl,rfl⟩
 refine Kn.bind fun n i i' hn e=>?_;obtain⟨rfl,Kn⟩:=e
 cases hm:i.methods.find? (fun m=>m.name==name)with
 |none=>trivial
 |some r=>
  have cl:r.path.isEmpty=true∧∃f pr,r.func=some (f,pr)∧m.good f=true∧dj f=none:=by
   have:=List.all_eq_true.1 hi t (by simpa using ht)
   rw[Kn]at this;dsimp only at this
   rw[hm]at this;dsimp only at this
   rw[Bool.and_eq_true]at this;refine⟨this.1,?_⟩;have h2:=this.2;split at h2
   ·rename_i f pr hf
    rw[Bool.and_eq_true]at h2;exact⟨f,pr,hf,h2.1,by simpa using h2.2⟩
   ·cases h2
  obtain⟨hp,f,pr,hf,hg,hs⟩:=cl;have bc:r.path= #[]:=by simpa using hp
  dsimp only
  rw[bc];dsimp only[follow]
  refine(sP (RA:=fun n a b=>a=(t,Place.val x)∧b=(t,Place.val y)) ⟨rfl,rfl⟩).bind fun n2 a b cI fB=>?_;obtain⟨rfl,rfl⟩:=fB;rw[hf];have he:(#[]:Array FieldStep).isEmpty=true:=rfl
  simp only[he,if_true];exact(Dl R t _ pr ((h.mono hn).mono cI)).bind fun n3 a b kQ fB=>sP ⟨rfl,hg,hs,fB⟩
theorem yT (R:eX τ P)(hF:yR P F m.good)(name:String)(hi:Di P m.good name=true){x y:Value}(h:VR m x y){us vs:Array Value}(k:AR m us vs):aR τ P F iX m (callMethod x name us) (callMethod y name vs):=by
 unfold callMethod
 cases h with
 |iface t ht h=>
  refine dk ?_;refine(Km R name hi t ht h _).bind fun n a b hn fB=>?_;obtain⟨f,v⟩:=a;obtain⟨f',v'⟩:=b;obtain⟨rfl,hg,hs,hv⟩:=fB;exact oS (hn.good▸hF) f (by rw[←hn.good];exact hg) ((AR.one hv).append (k.mono hn)) fun n hn=>by rw[hs]at hn;cases hn
 |nilIface=>exact fC R
 |_=>trivial
theorem tv (R:eX τ P)(hG:P.globals.size=0)(hF:yR P F m.good){ρ ρ':Operand→Value}(h:qD m ρ ρ')(o:Oper)(ok:iB P m.good o.op=true)(Ue:∀f,ρ (.func f)= .func (.func f) #[] #[]∧ρ' (.func f)= .func (.func f) #[] #[]):
  aR τ P F iX m (execOp ρ o) (execOp ρ' o):=by
 obtain⟨dst,op,type,pos,after,guard⟩:=o;dsimp only at ok
 cases op with
 |move x=>exact sP (.value (h x ok))
 |assign x=>exact sP (.value (h x ok))
 |pick c a b=>
  simp only[iB,Bool.and_eq_true]at ok;refine(Kd (h c ok.1.1)).bind fun n p q hn e=>?_;subst e
  cases p
  ·exact sP (.value ((h b ok.2).mono hn))
  ·exact sP (.value ((h a ok.1.2).mono hn))
 |alloc t=>exact iJ (NQ t ok _)
 |box t x=>exact iJ (T8 t (h x ok))
 |build t ps=>
  simp only[iB,Bool.and_eq_true]at ok;exact iJ (NR t ok.1 (h.parts ok.2))
 |buildSlice t l ps=>
  simp only[iB,Bool.and_eq_true]at ok;exact iJ (yL t ok.1 l (h.parts ok.2))
 |load t x=>exact iJ (Ke t (h x ok))
 |store t a x=>
  simp only[iB,Bool.and_eq_true]at ok;exact Yt (FL t (h a ok.1) (h x ok.2))
 |nilCheck x=>exact Dj R (h x ok) _ ρ ρ' x rfl rfl rfl
 |binOp op t x y t2=>
  simp only[iB,Bool.and_eq_true]at ok;exact iJ ((FW op t x y (h x ok.1.2) (h y ok.2) ok.1.1).bind fun n _ _ hn _=>N2 R hG op t ((h x ok.1.2).mono hn) ((h y ok.2).mono hn) ok.1.1)
 |unOp op t x=>exact iJ (NV op (h x ok))
 |convert s d x=>
  simp only[iB,Bool.and_eq_true]at ok;exact iJ (FV s d (h x ok.2) ok.1)
 |makeInterface t x=>
  refine iJ ?_;refine(sU t).bind fun n a b hn e=>?_;obtain⟨rfl,_⟩:=e;simp only[iB,Bool.and_eq_true]at ok
  cases a<;>first|trivial|exact sP (.iface _ ok.1 ((h x ok.2).mono hn))
 |makeFunc f us vs=>
  simp only[iB,Bool.and_eq_true]at ok;refine iJ (Dd f ?_ (h.arr ok.1.2) (h.arr ok.2))
  cases f<;>first|exact(by simpa[QP,az.fn]using ok.1.1)|exact absurd ok.1.1 (by simp[QP])
 |makeSlice t l c=>
  simp only[iB,Bool.and_eq_true]at ok;exact iJ (Be R t ok.1.1 (h l ok.1.2) (h c ok.2))
 |slice t x lo hi mx=>
  simp only[iB,Bool.and_eq_true]at ok;exact iJ (FQ R t (h x ok.1.1.1) (h.opt ok.1.1.2) (h.opt ok.1.2) (h.opt ok.2))
 |fieldAddr s x f=>
  simp only[iB,Bool.and_eq_true]at ok;exact iJ (FM s f (h x ok.2) ok.1)
 |indexAddr t x i=>
  simp only[iB,Bool.and_eq_true]at ok;exact iJ (FN R t (h x ok.1) (h i ok.2))
 |index t x i=>
  simp only[iB,Bool.and_eq_true]at ok;exact iJ (NS R t (h x ok.1) (h i ok.2))
 |extract x i=>exact iJ (FO i (h x ok))
 |typeAssert x xt t c=>
  simp only[iB,Bool.and_eq_true]at ok;obtain⟨⟨⟨rfl,o1⟩,o2⟩,o3⟩:=ok;exact iJ (yS xt t o1 o2 (h x o3))
 |call c=>
  obtain⟨callee,args,ts⟩:=c;simp only[iB,Bool.and_eq_true]at ok;have ha:=h.arr ok.2
  cases callee with
  |value f=>
   cases f with
   |func f=>
    have QS:m.good f=true∧(match dj f with|none=>true|some n=>args.size==n)=true:=by
     have:=ok.1
     simp only[uo,Bool.and_eq_true]at this;exact this
    have e0:∀us:Array Value,(#[]++us++ #[]:Array Value)=us:=fun us=>by simp
    show aR τ P F iX m ((Deferred.ofValue (ρ (.func f)) (args.map ρ)).bind fun d=>invoke d.target d.args) ((Deferred.ofValue (ρ' (.func f)) (args.map ρ')).bind fun d=>invoke d.target d.args)
    rw[(Ue f).1,(Ue f).2];show aR τ P F iX m (callFunc f (#[]++args.map ρ++ #[])) (callFunc f (#[]++args.map ρ'++ #[]))
    rw[e0,e0];refine oS hF f QS.1 ha fun n hn=>?_;have:=QS.2
    rw[hn]at this;simpa using this
   |tmp t=>exact Bg R hF (h (.tmp t) rfl) ha
   |_=>exact absurd ok.1 (by simp[uo])
  |invoke x name=>
   have QS:fo x=true∧Di P m.good name=true:=by simpa only[uo,Bool.and_eq_true]using ok.1
   have e0:∀(v:Value) (us:Array Value),(#[v]++us).extract 1 (#[v]++us).size=us:=fun v us=>by simp
   have e2:∀(v:Value) (us:Array Value),invoke (.fn (.method name) #[]) (#[v]++us)=callMethod v name us:=fun v us=>by
    have e1:(#[v]++us)[0]?=some v:=by simp[Array.getElem?_append]
    unfold invoke;simp only[e1,e0]
   show aR τ P F iX m (invoke (.fn (.method name) #[]) (#[ρ x]++args.map ρ)) (invoke (.fn (.method name) #[]) (#[ρ' x]++args.map ρ'))
   rw[e2,e2];exact yT R hF name QS.2 (h x QS.1) ha
  |builtin b=>
   cases b with
   |len=>exact iJ (T9 ts _ ha)
   |cap=>exact iJ (T_ ts _ ha)
   |max=>exact iJ (Ua ts _ ha)
   |append=>exact iJ (Kf R ts _ ha ok.1)
   |_=>exact absurd ok.1 (by simp[uo])
 |_=>exact absurd ok (by simp[iB])
end
end Go.Proofs.YtjklkppncmhehaaGreat.Sr
namespace Go.Proofs.YtjklkppncmhehaaGreat.Sr
open Go Go.Conc
section
variable {τ:TypeId}{P' P:Program}{α β:Type}{RA:az→α→β→Prop}
theorem SR.writes {s:Sem α}{s':Sem β}:∀{m:az} {v w:World} {es:Array Event} {a:α} {v':World} {aQ:Array Event},SR τ P' P RA m s s'→WR m v w→s.runT P' v es=(.ok a v',aQ)→
  ∃us:List Event,aQ=es++us.toArray∧(∀e∈us,e.write=true→∀a,e.loc= .cell a→¬dV v a.block)∧(∀r,dV v r→v'.heap[r]?=v.heap[r]?):=by
 induction s generalizing s' with
 |pure a=>
  intro m v w es a1 v' aQ h hw hr;simp only[Sem.runT,Prod.mk.injEq,Result.ok.injEq]at hr;obtain⟨⟨rfl,rfl⟩,rfl⟩:=hr;exact⟨[],by simp,by simp,fun _ _=>rfl⟩
 |halt h0=>intro m v w es a1 v' aQ h hw hr;simp[Sem.runT]at hr
 |load md a c ih=>
  intro m v w es a1 v' aQ h hw hr;obtain⟨a',k',rfl,ha,hk⟩:=h;obtain⟨lT,fj,_⟩:=hw.cell ha;simp only[Sem.runT]at hr
  cases hv:v.cell? a with
  |none=>
   obtain⟨o,hb,⟨us,e,fz,rfl⟩|⟨z,l,rfl⟩⟩:=fj<;>
   rw[hv]at hr<;>
   simp[World.farLoad,hb]at hr
  |some x=>
   obtain⟨y,hy,mo⟩:=lT x hv;rw[hv]at hr;obtain⟨us,h1,h2,h3⟩:=ih x (hk m x y (az.le_refl m) mo) hw hr;refine⟨⟨.cell a,false,md== .atomic⟩::us,by rw[h1];simp,fun e he qF=>?_,h3⟩
   rcases List.mem_cons.1 he with rfl|he
   ·cases qF
   ·exact h2 e he qF
 |store md a x c ih=>
  intro m v w es a1 v' aQ h hw hr;obtain⟨a',x',k',rfl,ha,hx,hk⟩:=h;obtain⟨lT,fj,mu⟩:=hw.cell ha;have qx:(∀cs,x≠.agg cs)∧(∀cs,x≠.tuple cs):=by
   constructor<;>(rintro cs rfl;simp[Sem.runT]at hr)
  have e1:∀(q:World) (gs:Array Event),Sem.runT P' (.store md a x c) q gs=match q.cell? a with
    |some _=>if q.frozen? a then(.halt (.unsupported (.unsafePointer "a write to bytes that a string shares")) q,gs)else c.runT P' (q.setCell a x) (gs.push ⟨.cell a,true,md== .atomic⟩)
    |none=>match q.farStore P' a x (md== .atomic)with
     | .ok (q,gV)=>c.runT P' q (gs++gV.toArray.map (⟨.cell ·,true,md== .atomic⟩))
     | .error h=>(.halt h q,gs):=by
   intro q gs
   cases x<;>first|rfl|exact absurd rfl (qx.1 _)|exact absurd rfl (qx.2 _)
  rw[e1]at hr
  cases hv:v.cell? a with
  |none=>
   obtain⟨o,hb,⟨us,e,fz,rfl⟩|⟨z,l,rfl⟩⟩:=fj<;>
   rw[hv]at hr<;>
   simp[World.farStore,hb]at hr
  |some u=>
   rw[hv]at hr;simp only at hr
   split at hr
   ·simp at hr
   ·rename_i T7
    have QK:¬dV v a.block:=fun h=>T7 (B9 h hv)
    have jZ:∀r,dV v r→(v.setCell a x).heap[r]?=v.heap[r]?:=by
     intro r Wq;rw[Bd];have:r≠a.block:=fun e=>QK (e▸Wq)
     simp[this]
    have hF:∀r,dV v r→dV (v.setCell a x) r:=fun r h0=>by
     exact h0.same (jZ r h0)
    obtain⟨us,h1,h2,h3⟩:=ih (hk m (az.le_refl m)) (hw.set ha hx) hr;refine⟨⟨.cell a,true,md== .atomic⟩::us,by rw[h1];simp,fun e he qF b hb=>?_,fun r h0=>(h3 r (hF r h0)).trans (jZ r h0)⟩
    rcases List.mem_cons.1 he with rfl|he
    ·injection hb with hb;rw[←hb];exact QK
    ·exact fun h0=>h2 e he qF b hb (hF _ h0)
 |new o c ih=>
  intro m v w es a1 v' aQ h hw hr;obtain⟨o',k',rfl,ho,hk⟩:=h;obtain⟨hle,qy⟩:=hw.new ho;simp only[Sem.runT]at hr;have jZ:∀r,dV v r→(v.heap.push o)[r]?=v.heap[r]?:=by
   intro r h0;have:=h0.lt
   rw[Array.getElem?_push,if_neg (by omega)]
  have hF:∀r,dV v r→dV {v with heap:=v.heap.push o} r:=fun r h0=>by
   exact h0.same (jZ r h0)
  obtain⟨us,h1,h2,h3⟩:=ih v.heap.size (hk _ v.heap.size w.heap.size hle (by simp[az.put])) qy hr
  exact⟨us,h1,fun e he qF b hb h0=>h2 e he qF b hb (hF _ h0),fun r h0=>(h3 r (hF r h0)).trans (jZ r h0)⟩
 |choose q c ih=>
  intro m v w es a1 v' aQ h hw hr;obtain⟨k',rfl,hk⟩:=h;simp only[Sem.runT]at hr;split at hr
  ·exact ih 0 (hk 0) hw hr
  ·exact ih (q.cut (v.tape v.drawn q)) (v:={v with drawn:=v.drawn+1}) (w:={w with tape:=v.tape,drawn:=v.drawn+1}) (hk _) ⟨hw.inj,hw.kM,hw.os,rfl,rfl⟩ hr
 |program c ih=>
  intro m v w es a1 v' aQ h hw hr;rcases h with h|⟨k',rfl,hk⟩
  ·simp only[Sem.runT]at hr
   obtain⟨_,_,_,e,_⟩:=d_.run (P:=P') (v:=v) (es:=es) h;rw[e]at hr;simp at hr
  ·exact ih P' hk hw hr
 |mark md c ih=>
  intro m v w es a1 v' aQ h hw hr
  cases md with
  |noRoom=>
   obtain⟨k',rfl,hk⟩:=h;simp only[Sem.runT]at hr;obtain⟨us,h1,h2,h3⟩:=ih hk hw hr;refine⟨⟨.mark .noRoom,false,true⟩::us,by rw[h1];simp,fun e he qF=>?_,h3⟩
   rcases List.mem_cons.1 he with rfl|he
   ·cases qF
   ·exact h2 e he qF
  |_=>exact h.elim
 |getObj r c ih=>
  intro m v w es a1 v' aQ h hw hr;obtain⟨r',k',rfl,eH,hk⟩:=h;obtain⟨o,p,ho,hp,aZ⟩:=hw.kM _ _ eH;simp only[Sem.runT]at hr;rw[ho]at hr;rcases aZ with⟨us,vs,e,fz,gz,rfl,rfl,hf,hs,hx⟩|⟨x,y,l,rfl,rfl,mo⟩
  ·simp at hr
  ·obtain⟨us,h1,h2,h3⟩:=ih (.number x l) (hk x y l mo) hw hr
   refine⟨⟨.obj r,false,false⟩::us,by rw[h1];simp[Obj.isChan],fun e he qF=>?_,h3⟩
   rcases List.mem_cons.1 he with rfl|he
   ·cases qF
   ·exact h2 e he qF
 |shape r c ih=>
  intro m v w es a1 v' aQ h hw hr;simp only[Sem.runT]at hr;rcases h with h|⟨r',k',rfl,eH,hk⟩
  ·obtain⟨_,_,_,e,_⟩:=d_.run (P:=P') (v:=v) (es:=es) (h (v.shape? r));rw[e]at hr;simp at hr
  ·exact ih _ (hk _) hw hr
 |frozen a c ih=>intro m v w es a1 v' aQ h hw hr;simp only[Sem.runT]at hr;obtain⟨_,_,_,e,_⟩:=d_.run (P:=P') (v:=v) (es:=es) (h _);rw[e]at hr;simp at hr
 |freeze a n c ih=>intro m v w es a1 v' aQ h;exact h.elim
 |setObj r o c ih=>intro m v w es a1 v' aQ h;exact h.elim
 |sys c k2 ih=>intro m v w es a1 v' aQ h;exact h.elim
end
end Go.Proofs.YtjklkppncmhehaaGreat.Sr
namespace Go.Proofs.YtjklkppncmhehaaGreat.Sr
open Go Go.Conc
def aH (fn:FuncId)(tm:Array Value)(todo:List Item)(mode:FrameMode):Frame:={fn,tmps:=tm,todo,defers:=[],mode,kind:= .normal}
def gG (P:Program)(good:FuncId→Bool):Code→Bool
 | .skip| .ret| .exit _| .label _=>true
 | .region _ ops _=>ops.all fun o=>iB P good o.op
 | .seq a b=>gG P good a&&gG P good b
 | .cond c a b=>fo c&&gG P good a&&gG P good b
 | .block _ a| .loop a=>gG P good a
 |_=>false
def dv (P:Program)(good:FuncId→Bool):Item→Bool
 | .code c=>gG P good c
 | .inBlock _=>true
 | .inLoop b=>gG P good b
 | .inRegion ops _=>ops.all fun o=>iB P good o.op
 |_=>false
def nn (P:Program)(good:FuncId→Bool)(fn:Func):Bool:=
 match fn.body with
 |some c=>gG P good c
 |none=>false
inductive FR (P:Program) (spec:FuncId→Bool) (m:az):Frame→Frame→Prop
 |mk (fn:FuncId) {bd tm:Array Value} (todo:List Item) (mode:FrameMode) (hs:spec fn=false) (hg:m.good fn=true) (h:AR m bd tm) (ok:∀x∈todo,dv P m.good x=true)
   (hm:mode= .run∨mode= .returning):FR P spec m (aH fn bd todo mode) (aH fn tm todo mode)
theorem FR.mono {P:Program}{spec:FuncId→Bool}{m n:az}(h:az.le m n){f' f:Frame}(x:FR P spec m f' f):FR P spec n f' f:=by
 cases x with
 |mk fn todo mode hs hg ha ok hm=>exact .mk fn todo mode hs (h.good▸hg) (ha.mono h) (h.good▸ok) hm
inductive lj (P:Program) (spec:FuncId→Bool) (m:az):List Frame→List Frame→Prop
 |nil:lj P spec m [] []
 |cons {f' f:Frame} {fs' fs:List Frame} (h:FR P spec m f' f) (hr:f'.mode= .run) (k:lj P spec m fs' fs):lj P spec m (f'::fs') (f::fs)
theorem lj.mono {P:Program}{spec:FuncId→Bool}{m n:az}(h:az.le m n){f' f:List Frame}(x:lj P spec m f' f):lj P spec n f' f:=by
 induction x with
 |nil=>exact .nil
 |cons a b _ ih=>exact .cons (a.mono h) b ih
inductive kE (P:Program) (F:Array Func) (spec:FuncId→Bool) (m:az):Frame→Frame→Prop
 |mk (f:FuncId) {us vs:Array Value} (hs:spec f=true) (h:AR m us vs) (hn:∀n,dj f=some n→us.size=n):kE P F spec m (Frame.enter (Program.mk (Program.toTables P) F) f us .normal) (Frame.enter P f vs .normal)
structure iC (τ:TypeId) (P:Program) (F:Array Func) (spec good:FuncId→Bool):Prop where
 rt:eX τ P
 globals:P.globals.size=0
 bN:∀f,yI f=true→good f=true∧dj f=none
 fns:yR P F good
 same:∀f,good f=true→spec f=false→∃fn,F[f]?=some fn∧P.funcs[f]?=some fn∧nn P good fn=true
def oT (n:az)(v:World)(es:Array Event):Prop:=∀e∈es,∃e',Bc n e' e∧(e'.write=true→∀a,e'.loc= .cell a→¬dV v a.block)
theorem oT.none {n:az}{v:World}:oT n v #[]:=fun e he=>by simp at he
section
variable {τ:TypeId}{P:Program}{F:Array Func}{spec:FuncId→Bool}{m:az}
theorem Cc (v:Value)(h:fo (.const v)=true):VR m v v:=by
 have flat:∀x:Value,(match x with| .bool _| .int _ _| .string _| .pointer none| .slice none _ _| .map none| .nilFunc| .nilIface=>true|_=>false)=true→VR m x x:=by
  intro x hx
  cases x with
  |bool b=>exact .bool b
  |int k n=>exact .int k n
  |string s=>exact .string s
  |pointer a=>cases a<;>first|exact .nilPtr|cases hx
  |slice a l c=>cases a<;>first|exact .cn _ _|cases hx
  |map r=>cases r<;>first|exact .kD|cases hx
  |nilFunc=>exact .nilFunc
  |nilIface=>exact .nilIface
  |_=>cases hx
 cases v with
 |agg xs=>exact .agg rfl fun i h1 h2=>flat _ (Array.all_eq_true_iff_forall_mem.1 h _ (Array.getElem_mem _))
 |tuple xs=>
  have:xs= #[]:=by simpa[fo]using h
  subst this;exact .tuple rfl fun i h1 _=>by simp at h1
 |bool b=>exact .bool b
 |int k n=>exact .int k n
 |string s=>exact .string s
 |pointer a=>cases a<;>first|exact .nilPtr|cases h
 |slice a l c=>cases a<;>first|exact .cn _ _|cases h
 |map r=>cases r<;>first|exact .kD|cases h
 |nilFunc=>exact .nilFunc
 |nilIface=>exact .nilIface
 |_=>cases h
theorem AR.oper {us vs:Array Value}(h:AR m us vs)(hv:∀f,yI f=true→m.good f=true∧dj f=none):qD m (Act.eval ⟨us,[]⟩) (Act.eval ⟨vs,[]⟩):=by
 intro x hx
 cases x with
 |tmp t=>exact h.getD t .undef
 |const v=>exact Cc v hx
 |func f=>exact .func (.func f) (hv f hx) rfl (fun i h _=>by simp at h) rfl (fun i h _=>by simp at h)
 |_=>cases hx
theorem tw {p:Item→Prop}:∀{k k':List Item} {id:Nat},exitTo id k=some k'→(∀x∈k,p x)→∀x∈k',p x
 |[],_,_,h,_=>by simp[exitTo]at h
 |i::k,k',id,h,hp=>by
  cases i with
  |inBlock Uf=>
   simp only[exitTo]at h;split at h
   ·cases h;exact fun x hx=>hp x (by simp[hx])
   ·exact tw h fun x hx=>hp x (by simp[hx])
  |_=>simp only[exitTo]at h;exact tw h fun x hx=>hp x (by simp[hx])
theorem jA {fr:Frame}{cs:List Frame}{s:Sem Next}{w w1:World}{x:Value}{es:Array Event}(hk:fr.kind= .normal)(h:s.runT P w #[]=(.ok (.value x) w1,es)):
  stepG.apply P true fr cs none s w= .go (G (fr.finish x) cs) w1 (seen P fr.fn es):=by
 have cc:(fr.kind==CallKind.early)=false:=by rw[hk];rfl
 simp only[stepG.apply,h,cc,if_true,Bool.false_eq_true,if_false,GStep.after,Array.append_empty,G]
theorem kR {fr:Frame}{cs:List Frame}{s:Sem Next}{w w1:World}{es:Array Event}(hk:fr.kind= .normal)(h:s.runT P w #[]=(.ok .skip w1,es)):
  stepG.apply P true fr cs none s w= .go (G (fr.finish undef) cs) w1 (seen P fr.fn es):=by
 have cc:(fr.kind==CallKind.early)=false:=by rw[hk];rfl
 simp only[stepG.apply,h,cc,if_true,Bool.false_eq_true,if_false,GStep.after,Array.append_empty,G]
theorem jB {fr:Frame}{cs:List Frame}{s:Sem Next}{w w1:World}{f:FuncId}{args:Array Value}{es:Array Event}(hk:fr.kind= .normal)(ht:∃ops l k,fr.todo= .inRegion ops l::k)(h:s.runT P w #[]=(.ok (.enter f args) w1,es)):
  stepG.apply P true fr cs none s w= .go (G (Frame.enter P f args .normal) (fr::cs)) w1 (seen P fr.fn es):=by
 obtain⟨ops,l,k,ht⟩:=ht;have cc:(fr.kind==CallKind.early)=false:=by rw[hk];rfl
 simp only[stepG.apply,h,cc,ht,if_true,Bool.false_eq_true,if_false,GStep.after,Array.append_empty,G]
theorem jC {fr:Frame}{cs:List Frame}{s:Sem Next}{w w1:World}{x:Value}{es:Array Event}(hk:fr.kind= .normal)(h:s.runT P w #[]=(.halt (.panic x) w1,es)):
  stepG.apply P true fr cs none s w= .go (G (fr.raise [{v:=x,recovered:=false}]) cs) w1 (seen P fr.fn es):=by
 have cc:(fr.kind==CallKind.early)=false:=by rw[hk];rfl
 simp only[stepG.apply,h,cc,if_true,Bool.false_eq_true,if_false,GStep.after,Array.append_empty,G]
theorem FZ {fr:Frame}{cs:List Frame}{s:Sem Next}{w w1:World}{h0:Halt}{es:Array Event}(hp:Plain τ h0)(h:s.runT P w #[]=(.halt h0 w1,es)):
  (∃x,h0= .panic x)∨∀g v e,stepG.apply P true fr cs none s w≠.go g v e:=by
 cases h0 with
 |panic x=>exact .inl ⟨x,rfl⟩
 |stuck z=>exact .inr fun g v e=>by simp only[stepG.apply,h,if_true,GStep.after];exact nofun
 |unsupported u=>
  refine .inr fun g v e=>?_
  cases u with
  |initOrder g=>exact absurd rfl (hp g)
  |_=>simp only[stepG.apply,h,if_true,GStep.after];exact nofun
 |_=>exact hp.elim
end
end Go.Proofs.YtjklkppncmhehaaGreat.Sr
