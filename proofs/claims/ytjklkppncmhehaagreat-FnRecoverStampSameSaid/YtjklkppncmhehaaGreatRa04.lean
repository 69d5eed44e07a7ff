/-
What is proved: whatever supported operation keeps the relation of Sr ('sr_execOp'). Conditions: those that the theorem states. whatever supported operation keeps the relation of Sr ('sr_execOp'). Conditions: those that the theorem states. one step of a goroutine keeps the relation of Sr between two goroutines over two programs that differ in some functions' bodies. Conditions: those that each theorem states. one step of a goroutine, in two programs that differ in some functions' bodies, in memories alike up to names, is alike ('sim_step'). Conditions: those that the theorem states.
-/
import Derived.Test.YtjklkppncmhehaaGreatRa03
import Derived.Conc.Own
import Derived.Conc.Listed
set_option linter.unusedVariables false
set_option linter.unusedSimpArgs false
namespace Go.Proofs.YtjklkppncmhehaaGreat.Sr
open Go
inductive iJ (m:ao):Next→Next→Prop
 |value {x y:Value} (h:VR m x y):iJ m (.value x) (.value y)
 |skip:iJ m .skip .skip
 |enter (f:FuncId) {us vs:Array Value} (hf:m.good f=true) (h:AR m us vs) (hn:∀n,dk f=some n→us.size=n):iJ m (.enter f us) (.enter f vs)
def lT (P:Program)(op:BinOp)(t:TypeId):Bool:=
 match op with
 | .eql| .neq=>nI P 8 t&& !P.eqGuardType P.depth t
 |_=>match P.underlying t with|some .unsafePointer=>false|_=>true
def M8 (good:FuncId→Bool):Fn→Bool
 | .func f=>good f&&(dk f).isNone
 |_=>false
def ri (P:Program)(good:FuncId→Bool)(c:Call):Bool:=
 match c.callee with
 | .value (.func f)=>good f&&(match dk f with|none=>true|some n=>c.args.size==n)
 | .value (.tmp _)=>true
 | .builtin .len| .builtin .cap| .builtin .max=>true
 | .builtin .append=>sN P c.argTypes
 |_=>false
def eP:Operand→Bool
 | .func f=>vd f
 | .tmp _=>true
 | .const (.bool _)| .const (.int _ _)| .const (.string _)| .const (.pointer none)| .const (.slice none _ _)| .const (.map none)| .const .nilFunc| .const .nilIface=>true
 | .const (.agg xs)=>xs.all fun| .bool _| .int _ _| .string _| .pointer none| .slice none _ _| .map none| .nilFunc| .nilIface=>true|_=>false
 | .const (.tuple xs)=>xs.isEmpty
 |_=>false
def gG (P:Program)(good:FuncId→Bool):Op→Bool
 | .move x| .assign x=>eP x
 | .pick c a b=>eP c&&eP a&&eP b
 | .alloc t=>tP P t
 | .box _ x=>eP x
 | .build t ps=>tP P t&&ps.all fun p=>eP p.2
 | .buildSlice t _ ps=>tR P t&&ps.all fun p=>eP p.2
 | .load _ x=>eP x
 | .store _ a x=>eP a&&eP x
 | .nilCheck x=>eP x
 | .binOp op t x y _=>lT P op t&&eP x&&eP y
 | .unOp _ _ x=>eP x
 | .convert s d x=>(match P.underlying s,P.underlying d with|some (.int _),some (.int _)=>true|some .string,some .string=>true|_,_=>false)&&eP x
 | .makeInterface _ x=>eP x
 | .makeFunc f us vs=>M8 good f&&us.all eP&&vs.all eP
 | .makeSlice t l c=>tR P t&&eP l&&eP c
 | .slice _ x l h mx=>eP x&&l.all eP&&h.all eP&&mx.all eP
 | .fieldAddr s x f=>vi P s f&&eP x
 | .indexAddr _ x i| .index _ x i=>eP x&&eP i
 | .extract x _=>eP x
 | .call c=>ri P good c&&c.args.all eP
 |_=>false
section
variable {τ:TypeId}{P:Program}{F:Array Func}{α β γ δ:Type}{m:ao}
def oh (m:ao)(ρ ρ':Operand→Value):Prop:=∀x,eP x=true→VR m (ρ x) (ρ' x)
theorem oh.arr {ρ ρ':Operand→Value}(h:oh m ρ ρ'){xs:Array Operand}(hx:xs.all eP=true):AR m (xs.map ρ) (xs.map ρ'):=
 AR.map xs fun x iy=>h x (Array.all_eq_true_iff_forall_mem.1 hx x iy)
theorem oh.opt {ρ ρ':Operand→Value}(h:oh m ρ ρ'){x:Option Operand}(hx:x.all eP=true):kA m (x.map ρ) (x.map ρ'):=by
 cases x with
 |none=>exact .none
 |some x=>exact .some (h x (by simpa using hx))
theorem oh.parts {ρ ρ':Operand→Value}(h:oh m ρ ρ'){ps:Array (Nat×Operand)}(hx:(ps.all fun p=>eP p.2)=true):g_ m (ps.map fun(i,x)=>(i,ρ x)).toList (ps.map fun(i,x)=>(i,ρ' x)).toList:=by
 have iG:=Array.all_eq_true_iff_forall_mem.1 hx;rw[Array.toList_map,Array.toList_map];have:∀l:List (Nat×Operand),(∀p∈l,eP p.2=true)→g_ m (l.map fun(i,x)=>(i,ρ x)) (l.map fun(i,x)=>(i,ρ' x)):=by
  intro l;induction l with
  |nil=>intro _;exact .nil
  |cons a l ih=>intro hl;exact .cons (h _ (hl a (by simp))) (ih fun p hp=>hl p (by simp[hp]))
 exact this _ fun p hp=>iG p (by simpa using hp)
theorem gH {s s':Sem Value}(h:aR τ P F VR m s s'):aR τ P F iJ m (s.bind fun x=>Sem.pure (.value x)) (s'.bind fun x=>Sem.pure (.value x)):=h.bind fun _ a b _ lR=>sP (.value lR)
theorem U9 {s s':Sem Unit}(h:aR τ P F dv m s s'):aR τ P F iJ m (s.bind fun _=>Sem.pure .skip) (s'.bind fun _=>Sem.pure .skip):=h.bind fun _ a b _ lR=>sP .skip
theorem Cw (s d:TypeId){x y:Value}(h:VR m x y)(ok:(match P.underlying s,P.underlying d with|some (.int _),some (.int _)=>true|some .string,some .string=>true|_,_=>false)=true):aR τ P F VR m (convert s d x) (convert s d y):=by
 unfold convert;refine(sU s).bind fun n1 a a' dn e=>?_;obtain⟨rfl,ha⟩:=e;refine(sU d).bind fun n2 b b' eO e=>?_;obtain⟨rfl,hb⟩:=e;rw[ha,hb]at ok;have h':=(h.mono dn).mono eO
 cases a with
 |int k=>cases b with
  |int k2=>
   cases h' with
   |int _ _=>exact sP (.int _ _)
   |_=>first|trivial|exact jy nofun
  |_=>cases ok
 |string=>cases b with
  |string=>cases h'<;>first|exact sP (.string _)|trivial|exact jy nofun
  |_=>cases ok
 |_=>cases ok
theorem Kf (op:UnOp){x y:Value}(h:VR m x y):aR τ P F VR m (Op.unary op x) (Op.unary op y):=by
 cases op<;>cases h<;>first|exact sP (.int _ _)|exact sP (.bool _)|trivial|exact jy nofun
theorem zR (R:fo τ P){x y:Value}(h:VR m x y)(o:Oper)(ρ ρ':Operand→Value)(z:Operand)(e1:ρ z=x)(e2:ρ' z=y)(eo:o.op= .nilCheck z):aR τ P F iJ m (execOp ρ o) (execOp ρ' o):=by
 unfold execOp;rw[eo];dsimp only
 rw[e1,e2]
 cases h with
 |nilPtr=>exact gV R
 |nilFunc=>exact gV R
 |eU=>exact tO R
 |nilIface=>exact gV R
 |ptr ha=>exact sP (.value (.ptr ha))
 |func f hf hs hh ht hk=>
  cases f with
  |func f=>exact sP (.value (.func _ hf hs hh ht hk))
  |_=>exact hf.elim
 |_=>exact sP (.value (by constructor<;>assumption))
theorem jA:∀(d:Nat) (t:TypeId),Program.eqGuardType (Program.mk (Program.toTables P) F) d t=P.eqGuardType d t
 |0,_=>rfl
 |d+1,t=>by
  unfold Program.eqGuardType;have e:Program.underlying (Program.mk (Program.toTables P) F) t=P.underlying t:=rfl
  rw[e]
  cases P.underlying t with
  |none=>rfl
  |some dd=>
   cases dd with
   |struct fs=>simp only[jA d]
   |array n e=>exact jA d e
   |_=>rfl
theorem zS (t:TypeId):aR τ P F dv m (Op.eqGuardIn Op.maxDepth t .nilIface .nilIface) (Op.eqGuardIn Op.maxDepth t .nilIface .nilIface):=by
 show aR τ P F dv m (Op.eqGuardIn (9999+1) t .nilIface .nilIface) (Op.eqGuardIn (9999+1) t .nilIface .nilIface)
 unfold Op.eqGuardIn;refine(sU t).bind fun n1 a a' dn e=>?_;obtain⟨rfl,_⟩:=e
 cases a<;>exact bn
theorem Cx (op:BinOp)(t:TypeId)(a b:Operand){x y u v:Value}(hx:VR m x y)(hu:VR m u v)(ok:lT P op t=true):aR τ P F dv m (eqGuard op t a b x u) (eqGuard op t a b y v):=by
 have main:∀op,(op= .eql∨op= .neq)→lT P op t=true→aR τ P F dv m (eqGuard op t a b x u) (eqGuard op t a b y v):=by
  intro op ho ok;have hg:P.eqGuardType P.depth t=false:=by rcases ho with rfl|rfl<;>(simp only[lT,Bool.and_eq_true,Bool.not_eq_true']at ok;exact ok.2)
  have a_:Program.eqGuardType (Program.mk (Program.toTables P) F) (Program.mk (Program.toTables P) F).depth t=false:=by rw[jA];exact hg
  have agg:aR τ P F dv m (Sem.bind program fun p=>Sem.bind program fun q=>if(!p.eqGuardType q.depth t)=true then Sem.pure ()else Sem.bind (Op.eqGuardIn Op.maxDepth t x u) fun b=>if b=true then unsupported (.noEntry "binop/eql: two nil values of an interface type with methods, in a part of a struct or an array")else Sem.pure ())
    (Sem.bind program fun p=>Sem.bind program fun q=>if(!p.eqGuardType q.depth t)=true then Sem.pure ()else Sem.bind (Op.eqGuardIn Op.maxDepth t y v) fun b=>if b=true then unsupported (.noEntry "binop/eql: two nil values of an interface type with methods, in a part of a struct or an array")else Sem.pure ()):=by
   refine c_ (c_ ?_);rw[hg,a_];exact bn
  have nil:aR τ P F dv m (if(match a with| .const _=>true|_=>false)||(match b with| .const _=>true|_=>false)then(Sem.pure ():Sem Unit)else Sem.bind (Op.eqGuardIn Op.maxDepth t .nilIface .nilIface) fun b=>if b=true then unsupported (.noEntry "binop/eql: two nil values of an interface type with methods, neither of them the literal nil")else Sem.pure ())
    (if(match a with| .const _=>true|_=>false)||(match b with| .const _=>true|_=>false)then(Sem.pure ():Sem Unit)else Sem.bind (Op.eqGuardIn Op.maxDepth t .nilIface .nilIface) fun b=>if b=true then unsupported (.noEntry "binop/eql: two nil values of an interface type with methods, neither of them the literal nil")else Sem.pure ()):=by
   have g:aR τ P F dv m (Sem.bind (Op.eqGuardIn Op.maxDepth t .nilIface .nilIface) fun b=>if b=true then unsupported (.noEntry "binop/eql: two nil values of an interface type with methods, neither of them the literal nil")else Sem.pure ())
     (Sem.bind (Op.eqGuardIn Op.maxDepth t .nilIface .nilIface) fun b=>if b=true then unsupported (.noEntry "binop/eql: two nil values of an interface type with methods, neither of them the literal nil")else Sem.pure ()):=by
    refine(zS t).bind fun n p q _ e=>?_;subst e
    cases p
    ·exact bn
    ·exact jy nofun
   cases a<;>cases b<;>first|exact bn|exact g
  have left:∀{v:Value},(∀cs,v≠.agg cs)→v≠.nilIface→∀(op:BinOp) (z w:Value),aR τ P F dv m (eqGuard op t a b z .nilFunc) (eqGuard op t a b w v):=by
   intro v vm xY op z w;have e1:eqGuard op t a b z .nilFunc=Sem.pure ():=by cases op<;>cases z<;>rfl
   have e2:eqGuard op t a b w v=Sem.pure ():=by cases v<;>first|exact absurd rfl (vm _)|exact absurd rfl xY|(cases op<;>cases w<;>rfl)
   rw[e1,e2];exact bn
  have right:∀{v:Value},(∀cs,v≠.agg cs)→v≠.nilIface→∀(op:BinOp) (z w:Value),aR τ P F dv m (eqGuard op t a b .nilFunc z) (eqGuard op t a b v w):=by
   intro v vm xY op z w;have e1:eqGuard op t a b .nilFunc z=Sem.pure ():=by cases op<;>cases z<;>rfl
   have e2:eqGuard op t a b v w=Sem.pure ():=by cases v<;>first|exact absurd rfl (vm _)|exact absurd rfl xY|(cases op<;>cases w<;>rfl)
   rw[e1,e2];exact bn
  by_cases Kg:u= .nilFunc
  ·subst Kg
   cases hu with
   |eU _ U h2=>exact left (fun cs=>(U cs).1) h2.1 op x y
   |nilFunc=>exact left (v:= .nilFunc) (fun _ e=>(by cases e)) (fun e=>(by cases e)) op x y
  ·by_cases Kh:x= .nilFunc
   ·subst Kh
    cases hx with
    |eU _ U h2=>exact right (fun cs=>(U cs).1) h2.1 op u v
    |nilFunc=>exact right (v:= .nilFunc) (fun _ e=>(by cases e)) (fun e=>(by cases e)) op u v
   ·rcases ho with rfl|rfl<;>cases hx<;>first|exact absurd rfl Kh|(cases hu<;>first|exact absurd rfl Kg|exact bn|exact agg|exact nil)
 cases op<;>first|exact main _ (.inl rfl) ok|exact main _ (.inr rfl) ok|exact bn
theorem yQ (hG:P.globals.size=0)(t:TypeId){x y u v:Value}(hx:VR m x y)(hu:VR m u v)(ok:nI P 8 t=true):aR τ P F dv m (Op.equal t x u) (Op.equal t y v):=og hG _ _ t ok hx hu
theorem sQ {a b:Addr}(h:bc m a b):aR τ P F dv m (shape a.block) (shape b.block):= .inr ⟨b.block,_,rfl,h.1,fun z=>⟨z,rfl,rfl⟩⟩
theorem pP (hG:P.globals.size=0){RA:ao→Nat×Nat→Nat×Nat→Prop}{a b a' b':Addr}:aR τ P F RA m (Op.twoPlaces a b) (Op.twoPlaces a' b'):=by
 have e:(a.block !=b.block||decide (a.block≥(Program.mk (Program.toTables P) F).globals.size))=true:=by
  show(a.block !=b.block||decide (a.block≥P.globals.size))=true
  rw[hG];simp
 unfold Op.twoPlaces;refine c_ ?_;dsimp only
 rw[if_pos e];exact nofun
theorem Cy (hG:P.globals.size=0){x y u v:Addr}(hx:bc m x y)(hu:bc m u v):
  aR τ P F VR m (do Op.addrSub .u64 (←behindNumber x).1 (←behindNumber u).1) (do Op.addrSub .u64 (←behindNumber y).1 (←behindNumber v).1):=
 (Cv hx).bind fun n p q hn e=>(Cv (hu.mono hn)).bind fun n2 p' q' eO e2=>(pP (RA:=fun _ _ _=>False) hG).bind fun _ _ _ _ h=>h.elim
theorem Cz (hG:P.globals.size=0)(op:BinOp){x y u v:Addr}(hx:bc m x y)(hu:bc m u v):
  aR τ P F VR m (do Op.addrCmp op (←behindNumber x).1 (←behindNumber u).1) (do Op.addrCmp op (←behindNumber y).1 (←behindNumber v).1):=
 (Cv hx).bind fun n p q hn e=>(Cv (hu.mono hn)).bind fun n2 p' q' eO e2=>(pP (RA:=fun _ _ _=>False) hG).bind fun _ _ _ _ h=>h.elim
theorem hU:∀(d:Nat) (t:TypeId) (o:Nat),byteOfCell (Program.mk (Program.toTables P) F) d t o=byteOfCell P d t o
 |0,_,_=>rfl
 |d+1,t,o=>by
  unfold byteOfCell;have e:Program.underlying (Program.mk (Program.toTables P) F) t=P.underlying t:=rfl
  rw[e]
  cases P.underlying t with
  |none=>rfl
  |some dd=>
   cases dd with
   |struct fs=>
    simp only[hU d];rfl
   |array n e=>
    simp only[hU d];rfl
   |_=>rfl
theorem vn {a b:Addr}(h:bc m a b):aR τ P F (fun _ x y=>x=none∧y=none) m (viewAt a.block) (viewAt b.block):=by
 refine .inr ⟨b.block,_,rfl,h.1,fun z=>?_⟩
 cases z with
 |none=>exact⟨b.block,_,rfl,h.1,fun p q l Qh=>⟨_,rfl,rfl,rfl⟩⟩
 |some z=>exact⟨none,rfl,rfl,rfl⟩
theorem GZ {a b:Addr}(h:bc m a b):aR τ P F dv m (noView a) (noView b):=
 (vn h).bind fun n x y hn e=>by obtain⟨rfl,rfl⟩:=e;exact bn
theorem G0 {a b:Addr}(h:bc m a b):aR τ P F dv m (byteOf a) (byteOf b):=by
 unfold byteOf;obtain⟨U,h2,h3,h4⟩:=h;rw[h3,h4];refine c_ ?_;dsimp only
 refine(GZ ⟨U,h2,h3,h4⟩).bind fun n _ _ hn _=>?_;refine(sQ (bc.mono hn ⟨U,h2,h3,h4⟩)).bind fun n2 z z' eO e=>?_;subst e
 cases z with
 |none=>trivial
 |some z=>
  obtain⟨e,k⟩:=z;dsimp only
  have ec:Program.cellsOf (Program.mk (Program.toTables P) F) e=P.cellsOf e:=rfl
  have eb:Program.bytesOf (Program.mk (Program.toTables P) F) e=P.bytesOf e:=rfl
  have ed:Program.depth (Program.mk (Program.toTables P) F)=P.depth:=rfl
  simp only[ec,eb,ed,hU,h2];split
  ·exact bn
  ·cases byteOfCell P P.depth e (a.off % P.cellsOf e)with
   |none=>trivial
   |some x=>exact bn
theorem tU (k:IntKind)(c:Int){x y:Addr}(hx:bc m x y):
  aR τ P F VR m (do Op.addrMod k (←behindNumber x).1 c) (do Op.addrMod k (←behindNumber y).1 c):=by
 refine(Cv hx).bind fun n p q hn e=>?_;unfold Op.addrMod;refine(sQ e.1).bind fun n1 z z' dn e1=>?_;subst e1
 cases z with
 |none=>exact nofun
 |some z=>
  obtain⟨t,k⟩:=z;refine(dT t).bind fun n2 i i' eO e2=>?_;subst e2;dsimp only
  split
  ·exact nofun
  ·exact(G0 ((e.1.mono dn).mono eO)).bind fun n3 a b jz e3=>by subst e3;exact sP (.int _ _)
theorem kD:∀(d:Nat) (t:TypeId) (o:Nat),cellOfByte (Program.mk (Program.toTables P) F) d t o=cellOfByte P d t o
 |0,_,_=>rfl
 |d+1,t,o=>by
  unfold cellOfByte;have e:Program.underlying (Program.mk (Program.toTables P) F) t=P.underlying t:=rfl
  rw[e]
  cases P.underlying t with
  |none=>rfl
  |some dd=>
   cases dd with
   |struct fs=>
    simp only[kD d];rfl
   |array n e=>
    simp only[kD d];rfl
   |_=>rfl
theorem uE (e:TypeId)(c o:Nat)(b:Int):cellAtBytes (Program.mk (Program.toTables P) F) (Program.mk (Program.toTables P) F).depth e c o b=cellAtBytes P P.depth e c o b:=by
 unfold cellAtBytes;have ec:Program.cellsOf (Program.mk (Program.toTables P) F) e=P.cellsOf e:=rfl
 have eb:Program.bytesOf (Program.mk (Program.toTables P) F) e=P.bytesOf e:=rfl
 have ed:Program.depth (Program.mk (Program.toTables P) F)=P.depth:=rfl
 simp only[ec,eb,ed,hU,kD]
theorem oi (t:TypeId){x y u v:Value}(hx:VR m x y)(hu:VR m u v):aR τ P F (fun n a b=>VR n a b∧a≠.nilFunc) m (Builtin.unsafeAdd_ #[] t #[x,u]) (Builtin.unsafeAdd_ #[] t #[y,v]):=by
 unfold Builtin.unsafeAdd_;have tail:∀{p q:Option Addr},((p=none∧q=none)∨∃a b,p=some a∧q=some b∧bc m a b)→VR m (.pointer p) (.pointer q):=by
  rintro p q (⟨rfl,rfl⟩|⟨a,b,rfl,rfl,h⟩)
  ·exact .nilPtr
  ·exact .ptr h
 cases hx with
 |nilPtr=>
  refine(pc hu).bind fun n c c' hn e=>?_;subst e;dsimp only
  split
  ·exact nofun
  ·split
   ·exact nofun
   ·exact nofun
 |ptr ha=>
  refine(pc hu).bind fun n c c' hn e=>?_;subst e;dsimp only
  split
  ·refine(vn (ha.mono hn)).bind fun n1 z z' dn e1=>?_
   obtain⟨rfl,rfl⟩:=e1;exact sP ⟨.ptr ((ha.mono hn).mono dn),fun e=>(by cases e)⟩
  ·split
   ·exact nofun
   ·refine(sQ (ha.mono hn)).bind fun n1 z z' dn e1=>?_
    subst e1
    cases z with
    |none=>exact nofun
    |some z=>
     obtain⟨e,k⟩:=z;refine c_ ?_;have ec:Program.cellsOf (Program.mk (Program.toTables P) F) e=P.cellsOf e:=rfl
     simp only[uE,ec];rw[show _=_ from ha.2.1]
     split
     ·exact sP ⟨.ptr ⟨dn.sub _ _ (hn.sub _ _ ha.1),rfl,ha.2.2.1,ha.2.2.2⟩,fun e=>(by cases e)⟩
     ·exact nofun
 |_=>trivial
theorem sR (t:TypeId){x y u v:Value}(hx:VR m x y)(hu:VR m u v):aR τ P F VR m (Builtin.unsafeAdd_ #[] t #[x,u]) (Builtin.unsafeAdd_ #[] t #[y,v]):=(oi t hx hu).mono fun _ _ _ _ h=>h.1
theorem jB (t:TypeId)(ht:∀d,P.underlying t=some d→d≠.unsafePointer){x y u v:Value}(hx:VR m x y)(hu:VR m u v):aR τ P F VR m (movedNumber t x u) (movedNumber t y v):=by
 unfold movedNumber;refine(sU t).bind fun n1 d d' dn e=>?_;obtain⟨rfl,hd⟩:=e;have iG:=hx.mono dn;have rj:=hu.mono dn;have tail:aR τ P F VR n1 (match(generalizing:=false) x with
    | .pointer (some n)=>(behindNumber n).bind fun p=>(Builtin.unsafeAdd_ #[] t #[.pointer (some p.1),u]).bind fun r=>match r with
      | .pointer (some b)=>asNumber b p.2
      |v=>Sem.pure v
    |_=>Builtin.unsafeAdd_ #[] t #[x,u])
   (match(generalizing:=false) y with
    | .pointer (some n)=>(behindNumber n).bind fun p=>(Builtin.unsafeAdd_ #[] t #[.pointer (some p.1),v]).bind fun r=>match r with
      | .pointer (some b)=>asNumber b p.2
      |v=>Sem.pure v
    |_=>Builtin.unsafeAdd_ #[] t #[y,v]):=by
  cases iG with
  |ptr ha=>
   refine(Cv ha).bind fun n2 p q eO e=>?_;obtain⟨p,lost⟩:=p;obtain⟨q,X_⟩:=q;obtain⟨e1,e2⟩:=e;dsimp only at e1 e2
   subst e2;refine(oi t (.ptr e1) (rj.mono eO)).bind fun n3 r r' jz hr=>?_;obtain⟨hr,Ki⟩:=hr
   cases hr with
   |ptr hb=>
    refine⟨_,_,rfl,.inr ⟨_,_,_,rfl,rfl,hb⟩,fun n4 r r' uD hr=>?_⟩
    exact sP (.ptr ⟨hr,rfl,rfl,rfl⟩)
   |func f hf hs hh ht hk=>exact sP (.func f hf hs hh ht hk)
   |eU y hy hn=>exact absurd rfl Ki
   |_=>exact sP (by constructor<;>assumption)
  |nilPtr=>exact sR t .nilPtr rj
  |bool b=>exact sR t (.bool b) rj
  |int k b=>exact sR t (.int k b) rj
  |string b=>exact sR t (.string b) rj
  |b9 l c=>exact sR t (.b9 l c) rj
  |slice l c h=>exact sR t (.slice l c h) rj
  |i_=>exact sR t .i_ rj
  |nilFunc=>exact sR t .nilFunc rj
  |eU y hy hn=>trivial
  |nilIface=>exact sR t .nilIface rj
  |iface a h=>exact sR t (.iface a h) rj
  |func f hf hs hh ht hk=>exact sR t (.func f hf hs hh ht hk) rj
  |agg hs hh=>exact sR t (.agg hs hh) rj
  |tuple hs hh=>exact sR t (.tuple hs hh) rj
 have cG:=ht d hd
 cases d with
 |unsafePointer=>exact absurd rfl cG
 |_=>exact tail
theorem sS (R:fo τ P)(op:BinOp)(t:TypeId)(k k':IntKind)(a b:Int):aR τ P F VR m (binOp op t (.int k a) (.int k' b)) (binOp op t (.int k a) (.int k' b)):=by
 have arith:∀op,aR τ P F VR m (if k≠k' then stuck "BinOp: operands of different kinds" else Op.intArith op k a b) (if k≠k' then stuck "BinOp: operands of different kinds" else Op.intArith op k a b):=by
  intro op;split
  ·trivial
  ·cases op<;>first|exact sP (.int _ _)|trivial
 have Qi:∀op,aR τ P F VR m (if k≠k' then stuck "BinOp: operands of different kinds" else Op.intBits op k a b) (if k≠k' then stuck "BinOp: operands of different kinds" else Op.intBits op k a b):=by
  intro op;split
  ·trivial
  ·cases op<;>first|exact sP (.int _ _)|trivial
 have cmp:∀op,aR τ P F VR m (if k≠k' then stuck "BinOp: operands of different kinds" else Op.intCmp op a b) (if k≠k' then stuck "BinOp: operands of different kinds" else Op.intCmp op a b):=by
  intro op;split
  ·trivial
  ·cases op<;>first|exact sP (.bool _)|trivial
 have div:∀op,aR τ P F VR m (if k≠k' then stuck "BinOp: operands of different kinds" else Op.intDiv op k a b) (if k≠k' then stuck "BinOp: operands of different kinds" else Op.intDiv op k a b):=by
  intro op;split
  ·trivial
  ·unfold Op.intDiv
   split
   ·exact kq R
   ·cases op<;>first|exact sP (.int _ _)|trivial
 have sh:∀op,aR τ P F VR m (Op.shift op k a k' b) (Op.shift op k a k' b):=by
  intro op;unfold Op.shift;split
  ·exact kq R
  ·cases op<;>first|exact sP (.int _ _)|trivial
 cases op<;>first|exact arith _|exact Qi _|exact cmp _|exact div _|exact sh .shl|exact sh .shr
theorem sV (op:BinOp)(t:TypeId)(a b:ByteArray):aR τ P F VR m (binOp op t (.string a) (.string b)) (binOp op t (.string a) (.string b)):=by
 have e:binOp op t (.string a) (.string b)=Op.stringOp op a b:=by cases op<;>rfl
 rw[e];unfold Op.stringOp;dsimp only
 cases op<;>first|exact sP (.bool _)|trivial|(dsimp only;split<;>first|exact sP (.string _)|exact nofun)
theorem Kj (hG:P.globals.size=0)(t:TypeId){x y u v:Value}(hx:VR m x y)(hu:VR m u v)(ok:nI P 8 t=true):aR τ P F VR m (do pure (.bool (←Op.equal t x u))) (do pure (.bool (←Op.equal t y v))):=
 (yQ hG t hx hu ok).bind fun n a b hn e=>by subst e;exact sP (.bool _)
theorem Kk (hG:P.globals.size=0)(t:TypeId){x y u v:Value}(hx:VR m x y)(hu:VR m u v)(ok:nI P 8 t=true):aR τ P F VR m (do pure (.bool (!(←Op.equal t x u)))) (do pure (.bool (!(←Op.equal t y v)))):=
 (yQ hG t hx hu ok).bind fun n a b hn e=>by subst e;exact sP (.bool _)
end
end Go.Proofs.YtjklkppncmhehaaGreat.Sr
namespace Go.Proofs.YtjklkppncmhehaaGreat.Sr
open Go
section
variable {τ:TypeId}{P:Program}{F:Array Func}{α β γ δ:Type}{m:ao}
theorem G1 (t:TypeId)(ht:∀d,P.underlying t=some d→d≠.unsafePointer){x y u v:Value}(hx:VR m x y)(hu:VR m u v):
  aR τ P F VR m (do if(←underlying t) matches .unsafePointer then movedPointer t x u else movedNumber t x u) (do if(←underlying t) matches .unsafePointer then movedPointer t y v else movedNumber t y v):=by
 refine(sU t).bind fun n1 d d' dn e=>?_;obtain⟨rfl,hd⟩:=e;have cG:=ht d hd
 cases d with
 |unsafePointer=>exact absurd rfl cG
 |_=>exact jB t ht (hx.mono dn) (hu.mono dn)
theorem vo (k:IntKind)(c:Int){x y:Addr}(hx:bc m x y):
  aR τ P F VR m (do Op.addrMod k (←behindNumber x).1 (c+1)) (do Op.addrMod k (←behindNumber y).1 (c+1)):=tU k (c+1) hx
theorem tV {RA:ao→Value→β→Prop}(op:BinOp)(t:TypeId){x u:Value}(ok:lT P op t=true)(h:x= .nilFunc∨u= .nilFunc){s':Sem β}:aR τ P F RA m (binOp op t x u) s':=by
 have eq:(op= .eql∨op= .neq)→nI P 8 t=true:=by rintro(rfl|rfl)<;>(simp only[lT,Bool.and_eq_true]at ok;exact ok.1)
 rcases h with rfl|rfl
 ·cases op<;>cases u<;>first|trivial|exact jy nofun|(rename_i a;cases a<;>first|trivial|exact jy nofun)|exact lq t (eq (.inl rfl)) (.inl rfl)|exact lq t (eq (.inr rfl)) (.inl rfl)
 ·cases op<;>cases x<;>first|trivial|exact jy nofun|(rename_i a;cases a<;>first|trivial|exact jy nofun)|exact lq t (eq (.inl rfl)) (.inr rfl)|exact lq t (eq (.inr rfl)) (.inr rfl)
set_option maxHeartbeats 4000000 in
theorem Kl (R:fo τ P)(hG:P.globals.size=0)(op:BinOp)(t:TypeId){x y u v:Value}(hx:VR m x y)(hu:VR m u v)(ok:lT P op t=true):aR τ P F VR m (binOp op t x u) (binOp op t y v):=by
 by_cases Kh:x= .nilFunc
 ·exact tV op t ok (.inl Kh)
 by_cases Kg:u= .nilFunc
 ·exact tV op t ok (.inr Kg)
 by_cases he:op= .eql
 ·subst he
  simp only[lT,Bool.and_eq_true]at ok;have h:=Kj (τ:=τ) (F:=F) hG t hx hu ok.1
  cases hx<;>cases hu<;>first|exact absurd rfl Kh|exact absurd rfl Kg|exact sS R _ _ _ _ _ _|exact sV _ _ _ _|exact h
 ·by_cases hn:op= .neq
  ·subst hn
   simp only[lT,Bool.and_eq_true]at ok;have h:=Kk (τ:=τ) (F:=F) hG t hx hu ok.1
   cases hx<;>cases hu<;>first|exact absurd rfl Kh|exact absurd rfl Kg|exact sS R _ _ _ _ _ _|exact sV _ _ _ _|exact h
  ·have ht:∀d,P.underlying t=some d→d≠.unsafePointer:=by
    rintro d hd rfl
    cases op<;>simp_all[lT]
   have U:=G1 (τ:=τ) (F:=F) t ht hx hu;have h2:=jB (τ:=τ) (F:=F) t ht hu hx;have h3:=fun k n=>jB (τ:=τ) (F:=F) t ht hx (VR.int (m:=m) k n)
   cases hx with
   |int k a=>
    cases hu with
    |int k2 b=>exact sS R _ _ _ _ _ _
    |ptr hb=>cases op<;>first|exact absurd rfl he|exact absurd rfl hn|exact h2|exact vo _ _ hb|exact nofun
    |nilPtr=>cases op<;>first|exact absurd rfl he|exact absurd rfl hn|exact h2|exact nofun
    |_=>cases op<;>first|exact absurd rfl he|exact absurd rfl hn|trivial
   |ptr ha=>
    cases hu with
    |int k2 b=>cases op<;>first|exact absurd rfl he|exact absurd rfl hn|exact U|exact h3 _ _|exact tU _ _ ha|exact vo _ _ ha|exact nofun
    |ptr hb=>cases op<;>first|exact absurd rfl he|exact absurd rfl hn|exact Cy hG ha hb|exact Cz hG _ ha hb|exact nofun
    |_=>cases op<;>first|exact absurd rfl he|exact absurd rfl hn|exact nofun
   |nilPtr=>
    cases hu with
    |int k2 b=>cases op<;>first|exact absurd rfl he|exact absurd rfl hn|exact U|exact h3 _ _|exact nofun
    |_=>cases op<;>first|exact absurd rfl he|exact absurd rfl hn|exact nofun
   |string a=>
    cases hu with
    |string b=>exact sV _ _ _ _
    |ptr hb=>cases op<;>first|exact absurd rfl he|exact absurd rfl hn|exact nofun
    |nilPtr=>cases op<;>first|exact absurd rfl he|exact absurd rfl hn|exact nofun
    |_=>cases op<;>first|exact absurd rfl he|exact absurd rfl hn|trivial
   |_=>
    cases hu with
    |ptr hb=>cases op<;>first|exact absurd rfl he|exact absurd rfl hn|exact nofun
    |nilPtr=>cases op<;>first|exact absurd rfl he|exact absurd rfl hn|exact nofun
    |_=>cases op<;>first|exact absurd rfl he|exact absurd rfl hn|trivial
structure zT (P:Program) (F:Array Func) (good:FuncId→Bool):Prop where
 both:∀f,good f=true→∃fn Km,F[f]?=some fn∧P.funcs[f]?=some Km∧fn.body.isSome=true∧Km.body.isSome=true∧fn.name≠ "runtime.NumGoroutine"∧Km.name≠ "runtime.NumGoroutine"
theorem rk (hF:zT P F m.good)(f:FuncId)(hf:m.good f=true){us vs:Array Value}(h:AR m us vs)(hn:∀n,dk f=some n→us.size=n):aR τ P F iJ m (callFunc f us) (callFunc f vs):=by
 obtain⟨fn,Km,U,h2,b1,b2,n1,n2⟩:=hF.both f hf;unfold callFunc;refine c_ ?_;dsimp only
 rw[U,h2];dsimp only
 rw[if_neg (by simpa using n1),if_neg (by cases hg:fn.body<;>simp_all),if_neg (by simpa using n2),if_neg (by cases hg:Km.body<;>simp_all)]
 exact sP (.enter f hf h hn)
theorem xZ (R:fo τ P)(hF:zT P F m.good){x y:Value}(h:VR m x y){us vs:Array Value}(k:AR m us vs):
  aR τ P F iJ m ((Deferred.ofValue x us).bind fun d=>invoke d.target d.args) ((Deferred.ofValue y vs).bind fun d=>invoke d.target d.args):=by
 cases h with
 |func f hf hs hh ht hk=>
  cases f with
  |func f=>
   show aR τ P F iJ m (invoke (.fn (.func f) _) _) (invoke (.fn (.func f) _) _)
   exact rk hF f hf.1 ((AR.append (show AR m _ _ from⟨hs,hh⟩) k).append ⟨ht,hk⟩) fun n hn=>by rw[hf.2]at hn;cases hn
  |_=>exact hf.elim
 |nilFunc=>exact gV R
 |eU=>exact tO R
 |_=>trivial
theorem qy (R:fo τ P)(hG:P.globals.size=0)(hF:zT P F m.good){ρ ρ':Operand→Value}(h:oh m ρ ρ')(o:Oper)(ok:gG P m.good o.op=true)(Qj:∀f,ρ (.func f)= .func (.func f) #[] #[]∧ρ' (.func f)= .func (.func f) #[] #[]):
  aR τ P F iJ m (execOp ρ o) (execOp ρ' o):=by
 obtain⟨dst,op,type,pos,after,guard⟩:=o;dsimp only at ok
 cases op with
 |move x=>exact sP (.value (h x ok))
 |assign x=>exact sP (.value (h x ok))
 |pick c a b=>
  simp only[gG,Bool.and_eq_true]at ok;refine(GS (h c ok.1.1)).bind fun n p q hn e=>?_;subst e
  cases p
  ·exact sP (.value ((h b ok.2).mono hn))
  ·exact sP (.value ((h a ok.1.2).mono hn))
 |alloc t=>exact gH (Ka t ok _)
 |box t x=>exact gH (Qd t (h x ok))
 |build t ps=>
  simp only[gG,Bool.and_eq_true]at ok;exact gH (Kb t ok.1 (h.parts ok.2))
 |buildSlice t l ps=>
  simp only[gG,Bool.and_eq_true]at ok;exact gH (vh t ok.1 l (h.parts ok.2))
 |load t x=>exact gH (GU t (h x ok))
 |store t a x=>
  simp only[gG,Bool.and_eq_true]at ok;exact U9 (Co t (h a ok.1) (h x ok.2))
 |nilCheck x=>exact zR R (h x ok) _ ρ ρ' x rfl rfl rfl
 |binOp op t x y t2=>
  simp only[gG,Bool.and_eq_true]at ok;exact gH ((Cx op t x y (h x ok.1.2) (h y ok.2) ok.1.1).bind fun n _ _ hn _=>Kl R hG op t ((h x ok.1.2).mono hn) ((h y ok.2).mono hn) ok.1.1)
 |unOp op t x=>exact gH (Kf op (h x ok))
 |convert s d x=>
  simp only[gG,Bool.and_eq_true]at ok;exact gH (Cw s d (h x ok.2) ok.1)
 |makeInterface t x=>
  refine gH ?_;refine(sU t).bind fun n a b hn e=>?_;obtain⟨rfl,_⟩:=e
  cases a<;>first|trivial|exact sP (.iface _ ((h x ok).mono hn))
 |makeFunc f us vs=>
  simp only[gG,Bool.and_eq_true]at ok;refine gH (zN f ?_ (h.arr ok.1.2) (h.arr ok.2))
  cases f<;>first|exact(by simpa[M8,ao.fn]using ok.1.1)|exact absurd ok.1.1 (by simp[M8])
 |makeSlice t l c=>
  simp only[gG,Bool.and_eq_true]at ok;exact gH (xX R t ok.1.1 (h l ok.1.2) (h c ok.2))
 |slice t x lo hi mx=>
  simp only[gG,Bool.and_eq_true]at ok;exact gH (Ct R t (h x ok.1.1.1) (h.opt ok.1.1.2) (h.opt ok.1.2) (h.opt ok.2))
 |fieldAddr s x f=>
  simp only[gG,Bool.and_eq_true]at ok;exact gH (Cp s f (h x ok.2) ok.1)
 |indexAddr t x i=>
  simp only[gG,Bool.and_eq_true]at ok;exact gH (Cq R t (h x ok.1) (h i ok.2))
 |index t x i=>
  simp only[gG,Bool.and_eq_true]at ok;exact gH (Kc R t (h x ok.1) (h i ok.2))
 |extract x i=>exact gH (Cr i (h x ok))
 |call c=>
  obtain⟨callee,args,ts⟩:=c;simp only[gG,Bool.and_eq_true]at ok;have ha:=h.arr ok.2
  cases callee with
  |value f=>
   cases f with
   |func f=>
    have U_:m.good f=true∧(match dk f with|none=>true|some n=>args.size==n)=true:=by
     have:=ok.1
     simp only[ri,Bool.and_eq_true]at this;exact this
    have e0:∀us:Array Value,(#[]++us++ #[]:Array Value)=us:=fun us=>by simp
    show aR τ P F iJ m ((Deferred.ofValue (ρ (.func f)) (args.map ρ)).bind fun d=>invoke d.target d.args) ((Deferred.ofValue (ρ' (.func f)) (args.map ρ')).bind fun d=>invoke d.target d.args)
    rw[(Qj f).1,(Qj f).2];show aR τ P F iJ m (callFunc f (#[]++args.map ρ++ #[])) (callFunc f (#[]++args.map ρ'++ #[]))
    rw[e0,e0];refine rk hF f U_.1 ha fun n hn=>?_;have:=U_.2
    rw[hn]at this;simpa using this
   |tmp t=>exact xZ R hF (h (.tmp t) rfl) ha
   |_=>exact absurd ok.1 (by simp[ri])
  |invoke=>exact absurd ok.1 (by simp[ri])
  |builtin b=>
   cases b with
   |len=>exact gH (Qe ts _ ha)
   |cap=>exact gH (Qf ts _ ha)
   |max=>exact gH (Qg ts _ ha)
   |append=>exact gH (GW R ts _ ha ok.1)
   |_=>exact absurd ok.1 (by simp[ri])
 |_=>exact absurd ok (by simp[gG])
end
end Go.Proofs.YtjklkppncmhehaaGreat.Sr
namespace Go.Proofs.YtjklkppncmhehaaGreat.Sr
open Go Go.Conc
section
variable {τ:TypeId}{P' P:Program}{α β:Type}{RA:ao→α→β→Prop}
theorem SR.writes {s:Sem α}{s':Sem β}:∀{m:ao} {v w:World} {es:Array Event} {a:α} {v':World} {aJ:Array Event},SR τ P' P RA m s s'→WR m v w→s.runT P' v es=(.ok a v',aJ)→
  ∃us:List Event,aJ=es++us.toArray∧(∀e∈us,e.write=true→∀a,e.loc= .cell a→¬di v a.block)∧(∀r,di v r→v'.heap[r]?=v.heap[r]?):=by
 induction s generalizing s' with
 |pure a=>
  intro m v w es a1 v' aJ h hw hr;simp only[Sem.runT,Prod.mk.injEq,Result.ok.injEq]at hr;obtain⟨⟨rfl,rfl⟩,rfl⟩:=hr;exact⟨[],by simp,by simp,fun _ _=>rfl⟩
 |halt h0=>intro m v w es a1 v' aJ h hw hr;simp[Sem.runT]at hr
 |load md a c ih=>
  intro m v w es a1 v' aJ h hw hr;obtain⟨a',k',rfl,ha,hk⟩:=h;obtain⟨nT,eC,_⟩:=hw.cell ha;simp only[Sem.runT]at hr
  cases hv:v.cell? a with
  |none=>
   obtain⟨o,hb,⟨us,e,fz,rfl⟩|⟨z,l,rfl⟩⟩:=eC<;>
   rw[hv]at hr<;>
   simp[World.farLoad,hb]at hr
  |some x=>
   obtain⟨y,hy,kv⟩:=nT x hv;rw[hv]at hr;obtain⟨us,U,h2,h3⟩:=ih x (hk m x y (ao.le_refl m) kv) hw hr;refine⟨⟨.cell a,false,md== .atomic⟩::us,by rw[U];simp,fun e he oj=>?_,h3⟩
   rcases List.mem_cons.1 he with rfl|he
   ·cases oj
   ·exact h2 e he oj
 |store md a x c ih=>
  intro m v w es a1 v' aJ h hw hr;obtain⟨a',x',k',rfl,ha,hx,hk⟩:=h;obtain⟨nT,eC,pA⟩:=hw.cell ha;have oa:(∀cs,x≠.agg cs)∧(∀cs,x≠.tuple cs):=by
   constructor<;>(rintro cs rfl;simp[Sem.runT]at hr)
  have e1:∀(q:World) (gs:Array Event),Sem.runT P' (.store md a x c) q gs=match q.cell? a with
    |some _=>if q.frozen? a then(.halt (.unsupported (.unsafePointer "a write to bytes that a string shares")) q,gs)else c.runT P' (q.setCell a x) (gs.push ⟨.cell a,true,md== .atomic⟩)
    |none=>match q.farStore P' a x (md== .atomic)with
     | .ok (q,fl)=>c.runT P' q (gs++fl.toArray.map (⟨.cell ·,true,md== .atomic⟩))
     | .error h=>(.halt h q,gs):=by
   intro q gs
   cases x<;>first|rfl|exact absurd rfl (oa.1 _)|exact absurd rfl (oa.2 _)
  rw[e1]at hr
  cases hv:v.cell? a with
  |none=>
   obtain⟨o,hb,⟨us,e,fz,rfl⟩|⟨z,l,rfl⟩⟩:=eC<;>
   rw[hv]at hr<;>
   simp[World.farStore,hb]at hr
  |some u=>
   rw[hv]at hr;simp only at hr
   split at hr
   ·simp at hr
   ·rename_i Qc
    have MY:¬di v a.block:=fun h=>Qc (yO h hv)
    have iI:∀r,di v r→(v.setCell a x).heap[r]?=v.heap[r]?:=by
     intro r SM;rw[xW];have:r≠a.block:=fun e=>MY (e▸SM)
     simp[this]
    have hF:∀r,di v r→di (v.setCell a x) r:=fun r h0=>by
     exact h0.same (iI r h0)
    obtain⟨us,U,h2,h3⟩:=ih (hk m (ao.le_refl m)) (hw.set ha hx) hr;refine⟨⟨.cell a,true,md== .atomic⟩::us,by rw[U];simp,fun e he oj b hb=>?_,fun r h0=>(h3 r (hF r h0)).trans (iI r h0)⟩
    rcases List.mem_cons.1 he with rfl|he
    ·injection hb with hb;rw[←hb];exact MY
    ·exact fun h0=>h2 e he oj b hb (hF _ h0)
 |new o c ih=>
  intro m v w es a1 v' aJ h hw hr;obtain⟨o',k',rfl,ho,hk⟩:=h;obtain⟨hle,oc⟩:=hw.new ho;simp only[Sem.runT]at hr;have iI:∀r,di v r→(v.heap.push o)[r]?=v.heap[r]?:=by
   intro r h0;have:=h0.lt
   rw[Array.getElem?_push,if_neg (by omega)]
  have hF:∀r,di v r→di {v with heap:=v.heap.push o} r:=fun r h0=>by
   exact h0.same (iI r h0)
  obtain⟨us,U,h2,h3⟩:=ih v.heap.size (hk _ v.heap.size w.heap.size hle (by simp[ao.put])) oc hr
  exact⟨us,U,fun e he oj b hb h0=>h2 e he oj b hb (hF _ h0),fun r h0=>(h3 r (hF r h0)).trans (iI r h0)⟩
 |choose q c ih=>
  intro m v w es a1 v' aJ h hw hr;obtain⟨k',rfl,hk⟩:=h;simp only[Sem.runT]at hr;split at hr
  ·exact ih 0 (hk 0) hw hr
  ·exact ih (q.cut (v.tape v.drawn q)) (v:={v with drawn:=v.drawn+1}) (w:={w with tape:=v.tape,drawn:=v.drawn+1}) (hk _) ⟨hw.inj,hw.jj,hw.os,rfl,rfl⟩ hr
 |program c ih=>
  intro m v w es a1 v' aJ h hw hr;rcases h with h|⟨k',rfl,hk⟩
  ·simp only[Sem.runT]at hr
   obtain⟨_,_,_,e,_⟩:=dm.run (P:=P') (v:=v) (es:=es) h;rw[e]at hr;simp at hr
  ·exact ih P' hk hw hr
 |mark md c ih=>
  intro m v w es a1 v' aJ h hw hr
  cases md with
  |noRoom=>
   obtain⟨k',rfl,hk⟩:=h;simp only[Sem.runT]at hr;obtain⟨us,U,h2,h3⟩:=ih hk hw hr;refine⟨⟨.mark .noRoom,false,true⟩::us,by rw[U];simp,fun e he oj=>?_,h3⟩
   rcases List.mem_cons.1 he with rfl|he
   ·cases oj
   ·exact h2 e he oj
  |_=>exact h.elim
 |getObj r c ih=>
  intro m v w es a1 v' aJ h hw hr;obtain⟨r',k',rfl,dE,hk⟩:=h;obtain⟨o,p,ho,hp,aS⟩:=hw.jj _ _ dE;simp only[Sem.runT]at hr;rw[ho]at hr;rcases aS with⟨us,vs,e,fz,gz,rfl,rfl,hf,hs,hx⟩|⟨x,y,l,rfl,rfl,kv⟩
  ·simp at hr
  ·obtain⟨us,U,h2,h3⟩:=ih (.number x l) (hk x y l kv) hw hr
   refine⟨⟨.obj r,false,false⟩::us,by rw[U];simp[Obj.isChan],fun e he oj=>?_,h3⟩
   rcases List.mem_cons.1 he with rfl|he
   ·cases oj
   ·exact h2 e he oj
 |shape r c ih=>
  intro m v w es a1 v' aJ h hw hr;simp only[Sem.runT]at hr;rcases h with h|⟨r',k',rfl,dE,hk⟩
  ·obtain⟨_,_,_,e,_⟩:=dm.run (P:=P') (v:=v) (es:=es) (h (v.shape? r));rw[e]at hr;simp at hr
  ·exact ih _ (hk _) hw hr
 |frozen a c ih=>intro m v w es a1 v' aJ h hw hr;simp only[Sem.runT]at hr;obtain⟨_,_,_,e,_⟩:=dm.run (P:=P') (v:=v) (es:=es) (h _);rw[e]at hr;simp at hr
 |freeze a n c ih=>intro m v w es a1 v' aJ h;exact h.elim
 |setObj r o c ih=>intro m v w es a1 v' aJ h;exact h.elim
 |sys c k2 ih=>intro m v w es a1 v' aJ h;exact h.elim
end
end Go.Proofs.YtjklkppncmhehaaGreat.Sr
namespace Go.Proofs.YtjklkppncmhehaaGreat.Sr
open Go Go.Conc
def aA (fn:FuncId)(tm:Array Value)(todo:List Item)(mode:FrameMode):Frame:={fn,tmps:=tm,todo,defers:=[],mode,kind:= .normal}
def eV (P:Program)(good:FuncId→Bool):Code→Bool
 | .skip| .ret| .exit _| .label _=>true
 | .region _ ops _=>ops.all fun o=>gG P good o.op
 | .seq a b=>eV P good a&&eV P good b
 | .cond c a b=>eP c&&eV P good a&&eV P good b
 | .block _ a| .loop a=>eV P good a
 |_=>false
def cH (P:Program)(good:FuncId→Bool):Item→Bool
 | .code c=>eV P good c
 | .inBlock _=>true
 | .inLoop b=>eV P good b
 | .inRegion ops _=>ops.all fun o=>gG P good o.op
 |_=>false
def lr (P:Program)(good:FuncId→Bool)(fn:Func):Bool:=
 match fn.body with
 |some c=>eV P good c
 |none=>false
inductive FR (P:Program) (spec:FuncId→Bool) (m:ao):Frame→Frame→Prop
 |mk (fn:FuncId) {aT tm:Array Value} (todo:List Item) (mode:FrameMode) (hs:spec fn=false) (hg:m.good fn=true) (h:AR m aT tm) (ok:∀x∈todo,cH P m.good x=true)
   (hm:mode= .run∨mode= .returning):FR P spec m (aA fn aT todo mode) (aA fn tm todo mode)
theorem FR.mono {P:Program}{spec:FuncId→Bool}{m n:ao}(h:ao.le m n){f' f:Frame}(x:FR P spec m f' f):FR P spec n f' f:=by
 cases x with
 |mk fn todo mode hs hg ha ok hm=>exact .mk fn todo mode hs (h.good▸hg) (ha.mono h) (h.good▸ok) hm
inductive jC (P:Program) (spec:FuncId→Bool) (m:ao):List Frame→List Frame→Prop
 |nil:jC P spec m [] []
 |cons {f' f:Frame} {fs' fs:List Frame} (h:FR P spec m f' f) (hr:f'.mode= .run) (k:jC P spec m fs' fs):jC P spec m (f'::fs') (f::fs)
theorem jC.mono {P:Program}{spec:FuncId→Bool}{m n:ao}(h:ao.le m n){f' f:List Frame}(x:jC P spec m f' f):jC P spec n f' f:=by
 induction x with
 |nil=>exact .nil
 |cons a b _ ih=>exact .cons (a.mono h) b ih
inductive jb (P:Program) (F:Array Func) (spec:FuncId→Bool) (m:ao):Frame→Frame→Prop
 |mk (f:FuncId) {us vs:Array Value} (hs:spec f=true) (h:AR m us vs) (hn:∀n,dk f=some n→us.size=n):jb P F spec m (Frame.enter (Program.mk (Program.toTables P) F) f us .normal) (Frame.enter P f vs .normal)
structure fV (τ:TypeId) (P:Program) (F:Array Func) (spec good:FuncId→Bool):Prop where
 rt:fo τ P
 globals:P.globals.size=0
 bS:∀f,vd f=true→good f=true∧dk f=none
 fns:zT P F good
 same:∀f,good f=true→spec f=false→∃fn,F[f]?=some fn∧P.funcs[f]?=some fn∧lr P good fn=true
def mO (n:ao)(v:World)(es:Array Event):Prop:=∀e∈es,∃e',xV n e' e∧(e'.write=true→∀a,e'.loc= .cell a→¬di v a.block)
theorem mO.none {n:ao}{v:World}:mO n v #[]:=fun e he=>by simp at he
section
variable {τ:TypeId}{P:Program}{F:Array Func}{spec:FuncId→Bool}{m:ao}
theorem yS (v:Value)(h:eP (.const v)=true):VR m v v:=by
 have flat:∀x:Value,(match x with| .bool _| .int _ _| .string _| .pointer none| .slice none _ _| .map none| .nilFunc| .nilIface=>true|_=>false)=true→VR m x x:=by
  intro x hx
  cases x with
  |bool b=>exact .bool b
  |int k n=>exact .int k n
  |string s=>exact .string s
  |pointer a=>cases a<;>first|exact .nilPtr|cases hx
  |slice a l c=>cases a<;>first|exact .b9 _ _|cases hx
  |map r=>cases r<;>first|exact .i_|cases hx
  |nilFunc=>exact .nilFunc
  |nilIface=>exact .nilIface
  |_=>cases hx
 cases v with
 |agg xs=>exact .agg rfl fun i U h2=>flat _ (Array.all_eq_true_iff_forall_mem.1 h _ (Array.getElem_mem _))
 |tuple xs=>
  have:xs= #[]:=by simpa[eP]using h
  subst this;exact .tuple rfl fun i U _=>by simp at U
 |bool b=>exact .bool b
 |int k n=>exact .int k n
 |string s=>exact .string s
 |pointer a=>cases a<;>first|exact .nilPtr|cases h
 |slice a l c=>cases a<;>first|exact .b9 _ _|cases h
 |map r=>cases r<;>first|exact .i_|cases h
 |nilFunc=>exact .nilFunc
 |nilIface=>exact .nilIface
 |_=>cases h
theorem AR.oper {us vs:Array Value}(h:AR m us vs)(hv:∀f,vd f=true→m.good f=true∧dk f=none):oh m (Act.eval ⟨us,[]⟩) (Act.eval ⟨vs,[]⟩):=by
 intro x hx
 cases x with
 |tmp t=>exact h.getD t .undef
 |const v=>exact yS v hx
 |func f=>exact .func (.func f) (hv f hx) rfl (fun i h _=>by simp at h) rfl (fun i h _=>by simp at h)
 |_=>cases hx
theorem qz {p:Item→Prop}:∀{k k':List Item} {id:Nat},exitTo id k=some k'→(∀x∈k,p x)→∀x∈k',p x
 |[],_,_,h,_=>by simp[exitTo]at h
 |i::k,k',id,h,hp=>by
  cases i with
  |inBlock Qk=>
   simp only[exitTo]at h;split at h
   ·cases h;exact fun x hx=>hp x (by simp[hx])
   ·exact qz h fun x hx=>hp x (by simp[hx])
  |_=>simp only[exitTo]at h;exact qz h fun x hx=>hp x (by simp[hx])
theorem hY {fr:Frame}{cs:List Frame}{s:Sem Next}{w w1:World}{x:Value}{es:Array Event}(hk:fr.kind= .normal)(h:s.runT P w #[]=(.ok (.value x) w1,es)):
  stepG.apply P true fr cs none s w= .go (G (fr.finish x) cs) w1 (seen P fr.fn es):=by
 have cB:(fr.kind==CallKind.early)=false:=by rw[hk];rfl
 simp only[stepG.apply,h,cB,if_true,Bool.false_eq_true,if_false,GStep.after,Array.append_empty,G]
theorem jk {fr:Frame}{cs:List Frame}{s:Sem Next}{w w1:World}{es:Array Event}(hk:fr.kind= .normal)(h:s.runT P w #[]=(.ok .skip w1,es)):
  stepG.apply P true fr cs none s w= .go (G (fr.finish undef) cs) w1 (seen P fr.fn es):=by
 have cB:(fr.kind==CallKind.early)=false:=by rw[hk];rfl
 simp only[stepG.apply,h,cB,if_true,Bool.false_eq_true,if_false,GStep.after,Array.append_empty,G]
theorem h_ {fr:Frame}{cs:List Frame}{s:Sem Next}{w w1:World}{f:FuncId}{args:Array Value}{es:Array Event}(hk:fr.kind= .normal)(ht:∃ops l k,fr.todo= .inRegion ops l::k)(h:s.runT P w #[]=(.ok (.enter f args) w1,es)):
  stepG.apply P true fr cs none s w= .go (G (Frame.enter P f args .normal) (fr::cs)) w1 (seen P fr.fn es):=by
 obtain⟨ops,l,k,ht⟩:=ht;have cB:(fr.kind==CallKind.early)=false:=by rw[hk];rfl
 simp only[stepG.apply,h,cB,ht,if_true,Bool.false_eq_true,if_false,GStep.after,Array.append_empty,G]
theorem ia {fr:Frame}{cs:List Frame}{s:Sem Next}{w w1:World}{x:Value}{es:Array Event}(hk:fr.kind= .normal)(h:s.runT P w #[]=(.halt (.panic x) w1,es)):
  stepG.apply P true fr cs none s w= .go (G (fr.raise [{v:=x,recovered:=false}]) cs) w1 (seen P fr.fn es):=by
 have cB:(fr.kind==CallKind.early)=false:=by rw[hk];rfl
 simp only[stepG.apply,h,cB,if_true,Bool.false_eq_true,if_false,GStep.after,Array.append_empty,G]
theorem CA {fr:Frame}{cs:List Frame}{s:Sem Next}{w w1:World}{h0:Halt}{es:Array Event}(hp:Plain τ h0)(h:s.runT P w #[]=(.halt h0 w1,es)):
  (∃x,h0= .panic x)∨∀g v e,stepG.apply P true fr cs none s w≠.go g v e:=by
 cases h0 with
 |panic x=>exact .inl ⟨x,rfl⟩
 |stuck z=>exact .inr fun g v e=>by simp only[stepG.apply,h,if_true,GStep.after];exact nofun
 |unsupported u=>
  refine .inr fun g v e=>?_
  cases u with
  |initOrder g=>exact absurd rfl (hp g)
  |_=>simp only[stepG.apply,h,if_true,GStep.after];exact nofun
 |_=>exact hp.elim
end
end Go.Proofs.YtjklkppncmhehaaGreat.Sr
