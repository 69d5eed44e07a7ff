/-
What is proved: what interfaces do to trees: a value put behind one, asked for its type, called through it ('tgt_rep'). No condition. what a call does to trees ('op_call', 'op_peek'). No condition. '==' and '!=' between structs of integers and Booleans, conversions between integers, and the check that a pointer is there, over trees. No condition.
-/
import Derived.Test.YtjklkppncmhehaaGreatRx30
import Derived.Test.YtjklkppncmhehaaGreatRx27
import Derived.Laws.StructEq
set_option linter.unusedVariables false
set_option linter.unusedSimpArgs false
namespace Go.Proofs.YtjklkppncmhehaaGreat.T
open Go Go.RowKit
def oa (P:Program)(t:TypeId):Bool:=match P.underlying t with
 |some (.interface _)=>false
 |some _=>true
 |none=>false
section
variable {P:Program}{E:List PanicEntry→World→Prop}{nt:Nat}{o:Oper}{s:ae}
theorem tS {t:TypeId}(h:oa P t=true):∃d,P.underlying t=some d∧∀m,d≠.interface m:=by
 unfold oa at h
 cases hu:P.underlying t with
 |none=>rw[hu]at h;cases h
 |some d=>
  refine⟨d,rfl,fun m e=>?_⟩
  subst e;rw[hu]at h
  cases h
theorem u_ {t:TypeId}{x:Operand}(ho:o.op= .makeInterface t x)(hd:bz o nt=true)(h:oa P t=true):eD P E nt o [] (bw s.env [x]) (.eV t (s.ev x)) []:=by
 obtain⟨d,hu,hn⟩:=tS h;refine .still hd fun C env get a w ρ D hf hi hR=>⟨.iface t (a.eval x),?_,.eV (a_ hR hi (x:=x) (by simp))⟩
 simp only[execOp,ho,Instr.makeInterface,Sem.run_bind,run_underlying hu,Result.andThen_ok]
 cases d<;>first|exact absurd rfl (hn _)|simp
def GV.ifc?:GV→Option (TypeId×GV)
 | .eV t g=>some (t,g)
 |_=>none
theorem BV {x:Operand}{xt t:TypeId}{ok:Bool}(ho:o.op= .typeAssert x xt t ok)(hd:bz o nt=true)(h:oa P t=true){g:GV}(hx:(s.ev x).ifc?=some (t,g)):eD P E nt o [] (bw s.env [x]) (if ok=true then .p [g,gB true]else g) []:=by
 obtain⟨d,hu,hn⟩:=tS h;refine .still hd fun C env get a w ρ D hf hi hR=>?_;have hr:=a_ hR hi (x:=x) (by simp)
 have XO:s.ev x= .eV t g:=by
  unfold GV.ifc? at hx;split at hx
  ·rename_i e;cases hx;exact e
  ·cases hx
 rw[XO]at hr;generalize hv:a.eval x=v at hr
 cases hr with| @eV _ v _ hr=>
 refine⟨if ok=true then .tuple #[v,.bool true]else v,?_,?_⟩
 ·simp only[execOp,ho,Instr.typeAssert,Sem.run_bind,run_underlying hu,Result.andThen_ok,hv]
  cases d<;>first|exact absurd rfl (hn _)|(cases ok<;>simp)
 ·cases ok
  ·exact hr
  ·refine .p rfl fun i g' hg=>?_
   rcases i with _|_|i
   ·cases hg;exact hr
   ·cases hg;exact .s (.r (.v rfl))
   ·simp at hg
def Nq (P:Program)(t:TypeId):Bool:=match P.info? t,aw P t with
 |some i,some d=>match i.zero with
  |some (.agg _)=>d.k.agg
  |some _=> !d.k.agg
  |none=>false
 |_,_=>false
theorem zW {x:Operand}{xt t:TypeId}(ho:o.op= .typeAssert x xt t true)(hd:bz o nt=true)(h:oa P t=true)(hz:Nq P t=true){d:TD}(ht:aw P t=some d){t':TypeId}{g:GV}(hx:(s.ev x).ifc?=some (t',g))(bY:t'≠t):eD P E nt o [] (bw s.env [x]) (.p [mk d.k.agg (d.zero.map fun x=> .r (iL x)),gB false]) []:=by
 obtain⟨u,hu,hn⟩:=tS h;refine .still hd fun C env get a w ρ D hf hi hR=>?_;have hr:=a_ hR hi (x:=x) (by simp)
 have XO:s.ev x= .eV t' g:=by
  unfold GV.ifc? at hx;split at hx
  ·rename_i e;cases hx;exact e
  ·cases hx
 rw[XO]at hr;generalize hv:a.eval x=v at hr
 cases hr with| @eV _ v _ hr=>
 obtain⟨i,u',z,h1,h2,h3,h4,h5,h6,h7⟩:=eO ht;refine⟨.tuple #[z,.bool false],?_,?_⟩
 ·simp only[execOp,ho,Instr.typeAssert,Sem.run_bind,run_underlying hu,Result.andThen_ok,hv]
  cases u<;>first|exact absurd rfl (hn _)|simp[bY,zeroValue,typeInfo,h1,h3]
 ·have hc:=gL.zero (ρ:=ρ) (w:=w) (D:=D) (cC ht).2.2.1
  have hzr:bf ρ w D z (mk d.k.agg (d.zero.map fun x=> .r (iL x))):=by
   have hlen:=(cC ht).2.1;have EX:=uS (agg:=d.k.agg) (by rw[List.size_toArray,List.length_map]) hc.2 (by
    rcases(cC ht).2.2.2 with h|h
    ·exact .inl h
    ·right;rw[List.length_map,hlen,h])
   simp only[Nq,h1,ht,h3]at hz
   cases z with
   |agg cs=>
    have QN:cs.toList=d.zero:=h6
    have BN:d.k.agg=true:=hz
    rw[BN]at EX⊢;rw[if_pos rfl,←QN,Array.toArray_toList,QN]at EX;exact EX
   |_=>
    have hf:d.k.agg=false:=by simpa using hz
    rw[hf]at EX⊢;rw[if_neg (by simp),←h6]at EX
    rw[←h6];exact EX
  refine .p rfl fun i g' hg=>?_;rcases i with _|_|i
  ·cases hg;exact hzr
  ·cases hg;exact .s (.r (.v rfl))
  ·simp at hg
def lB (P:Program)(t:TypeId)(name:String):Option (FuncId×Option TypeId):=match P.info? t,P.underlying t with
 |some i,some u=>match i.methods.find? (fun m=>m.name==name)with
  |some m=>if m.path.toList=[]then match m.func,u with
   |some (f,true),.pointer _=>some (f,none)
   |some (f,false),.pointer e=>some (f,some e)
   |some (f,false),_=>some (f,none)
   |_,_=>none
   else none
  |none=>none
 |_,_=>none
def ae.pG (P:Program)(s:ae):Callee→List Operand→Option (FuncId×List GV×List (Nat×Option aj))
 | .value fx,args=>match s.ev fx with
   | .hU (.func f) fs cs=>some (f,fs++args.map s.ev++cs,[])
   |_=>none
 | .invoke r name,args=>match s.ev r with
   | .eV t g=>match lB P t name with
     |some (f,none)=>some (f,g::args.map s.ev,[])
     |some (f,some e)=>match aw P e with
      |some d=>match s.deref g with
       |some (fr,cs)=>if d.size≤cs.length then some (f,T.mk d.k.agg (cs.take d.size)::args.map s.ev,fr)else none
       |none=>none
      |none=>none
     |none=>none
   |_=>none
 |_,_=>none
theorem P6 {P:Program}{o:Oper}{fx:Operand}{args:Array Operand}{ats:Array TypeId}(ho:o.op= .call {callee:= .value fx,args:=args,argTypes:=ats}){a:Act}{f:FuncId}{first mL:Array Value}(hf:a.eval fx= .func (.func f) first mL)(he:Mk P f)(w:World):
  (execOp a.eval o).run P w= .ok (.enter f (first++args.map a.eval++mL)) w:=by
 have:=he (first++args.map a.eval++mL) w
 simp only[execOp,ho,resolve,hf,Deferred.ofValue,Sem.run_bind,Sem.run_pure,Result.andThen_ok,invoke,this]
theorem P7 {C:Ctx}{env:Nat→GV}{get:Nat→Option aj}{a:Act}{w:World}{ρ:Nat→Option Value}{D:Nat→Prop}(hR:Rel C env get a w ρ D){fx:Operand}{args:Array Operand}(hi:∀x∈bw s.env (fx::args.toList),env x.1=x.2){f:FuncId}{fs cs:List GV}(hf:s.ev fx= .hU (.func f) fs cs):
  ∃first mL,a.eval fx= .func (.func f) first mL∧(first++args.map a.eval++mL).size=(fs++args.toList.map s.ev++cs).length∧∀(i:Nat) (g:GV),(fs++args.toList.map s.ev++cs)[i]?=some g→bf ρ w D ((first++args.map a.eval++mL).getD i undef) g:=by
 have hr:=a_ hR hi (x:=fx) (List.mem_cons_self ..);rw[hf]at hr;generalize a.eval fx=v at hr
 cases hr with
 | @hU _ first mL _ _ h1 h2 h3 h4=>
 refine⟨first,mL,rfl,by simp[h1,h2],fun i g hg=>?_⟩
 simp only[Array.getD_eq_getD_getElem?,Array.getElem?_append,Array.size_append,Array.size_map,h1];simp only[List.getElem?_append,List.length_append,List.length_map]at hg;have kU:args.size=args.toList.length:=by simp
 rw[kU];split at hg
 ·rename_i ai
  rw[if_pos ai];split at hg
  ·rename_i Z6
   rw[if_pos Z6];simpa[Array.getD_eq_getD_getElem?]using h3 i g hg
  ·rename_i zl
   rw[if_neg zl];rw[List.getElem?_map,Option.map_eq_some_iff]at hg;obtain⟨x,hx,rfl⟩:=hg;have jw:args[i-fs.length]?=some x:=by simpa using hx
   simp only[Array.getElem?_map,jw,Option.map_some,Option.getD_some];exact a_ hR hi (List.mem_cons_of_mem _ (List.mem_of_getElem? hx))
 ·rename_i zl
  rw[if_neg zl];simpa[Array.getD_eq_getD_getElem?]using h4 _ g hg
theorem Ml {e:List (Nat×GV)}{xs ys:List Operand}{x:Nat×GV}(h:x∈bw e ys):x∈bw e (xs++ys):=by
 induction xs with
 |nil=>exact h
 |cons y xs ih=>cases y<;>first|exact ih|exact List.mem_cons_of_mem _ ih
theorem Ji {C:Ctx}{env:Nat→GV}{get:Nat→Option aj}{a:Act}{w:World}{ρ:Nat→Option Value}{D:Nat→Prop}(hR:Rel C env get a w ρ D){args:Array Operand}(hi:∀x∈bw s.env args.toList,env x.1=x.2){v:Value}{g:GV}(h:bf ρ w D v g):
  (#[v]++args.map a.eval).size=(g::args.toList.map s.ev).length∧∀(i:Nat) (g':GV),(g::args.toList.map s.ev)[i]?=some g'→bf ρ w D ((#[v]++args.map a.eval).getD i undef) g':=by
 refine⟨by simp;omega,fun i g' hg=>?_⟩
 rcases i with _|i
 ·cases hg
  simpa[Array.getD_eq_getD_getElem?,Array.getElem?_append]using h
 ·simp only[List.getElem?_cons_succ,List.getElem?_map,Option.map_eq_some_iff]at hg
  obtain⟨x,hx,rfl⟩:=hg;have jw:args[i]?=some x:=by simpa using hx
  have:(#[v]++args.map a.eval)[i+1]?=some (a.eval x):=by simp[Array.getElem?_append,jw]
  rw[Array.getD_eq_getD_getElem?,this,Option.getD_some];exact a_ hR hi (List.mem_of_getElem? hx)
theorem P8 (ts:Array TypeId)(t:TypeId)(A:Addr)(x y:ByteArray)(w:World):(Builtin.ssaWrapNilChk_ ts t #[.pointer (some A),.string x,.string y]).run P w= .ok (.pointer (some A)) w:=by rfl
theorem Jj {t:TypeId}{name:String}{f:FuncId}{e:Option TypeId}(h:lB P t name=some (f,e)){v:Value}{w:World}(n:Nat){v':Value}(hv:match e with|none=>v'=v|some e=>∃A,v= .pointer (some A)∧(loadVar e A).run P w= .ok v' w):(method (n+1) t v name).run P w= .ok (f,v') w:=by
 unfold lB at h
 cases hi:P.info? t with
 |none=>simp[hi]at h
 |some i=>
  cases hu:P.underlying t with
  |none=>simp[hi,hu]at h
  |some u=>
   simp only[hi,hu]at h
   cases hm:i.methods.find? (fun m=>m.name==name)with
   |none=>simp[hm]at h
   |some m=>
    simp only[hm]at h;split at h
    ·rename_i hp
     have Kn:(typeInfo t).run P w= .ok i w:=by simp[typeInfo,hi]
     have EY:m.path.isEmpty=true:=by simpa[Array.isEmpty_iff]using hp
     have XP:m.path= #[]:=by simpa using hp
     rcases hf:m.func with _|⟨f',pr⟩
     ·simp[hf]at h
     ·cases pr
      ·cases u with
       |pointer e'=>
        simp only[hf,Option.some.injEq,Prod.mk.injEq]at h;obtain⟨rfl,rfl⟩:=h;obtain⟨A,rfl,hl⟩:=hv;simp[method,Kn,hm,XP,follow,hf,receiverAt,run_underlying hu,Place.get,strVal,P8,asAddr,hl]
       |_=>
        simp only[hf,Option.some.injEq,Prod.mk.injEq]at h;obtain⟨rfl,rfl⟩:=h;subst hv;simp[method,Kn,hm,XP,follow,hf,receiverAt,run_underlying hu,Place.get]
      ·cases u with
       |pointer e'=>
        simp only[hf,Option.some.injEq,Prod.mk.injEq]at h;obtain⟨rfl,rfl⟩:=h;subst hv;simp[method,Kn,hm,XP,follow,hf,receiverAt,run_underlying hu,Place.get]
       |_=>simp[hf]at h
    ·cases h
def Nr:Callee→List Operand
 | .value f=>[f]
 | .invoke r _=>[r]
 | .builtin _=>[]
theorem P9 (c:Call):(Op.call c).operands.toList=Nr c.callee++c.args.toList:=by
 obtain⟨callee,iH,Vo⟩:=c
 cases callee<;>simp[Op.operands,Call.operands,Nr]
theorem Jk {c:Call}(ho:o.op= .call c){f:FuncId}{gs:List GV}{fr:List (Nat×Option aj)}(ht:s.pG P c.callee c.args.toList=some (f,gs,fr))(he:Mk P f){C:Ctx}{env:Nat→GV}{get:Nat→Option aj}{a:Act}{w:World}{ρ:Nat→Option Value}{D:Nat→Prop}(hR:Rel C env get a w ρ D)
  (hf:∀x∈fr,get x.1=x.2) (hi:∀x∈bw s.env o.op.operands.toList,env x.1=x.2):
  ∃bN,(execOp a.eval o).run P w= .ok (.enter f bN) w∧bN.size=gs.length∧∀(i:Nat) (g:GV),gs[i]?=some g→bf ρ w D (bN.getD i undef) g:=by
 obtain⟨callee,iH,Vo⟩:=c;simp only at ht
 have xD:o.op.operands.toList=Nr callee++iH.toList:=by rw[ho,P9]
 cases callee with
 |value fx=>
  simp only[ae.pG]at ht;split at ht
  ·rename_i f' fs cs hfx
   cases ht;obtain⟨first,mL,e1,h1,h2⟩:=P7 hR (fx:=fx) (args:=iH) (fun x hx=>hi x (by rw[xD];exact hx)) hfx
   exact⟨_,P6 ho e1 he w,h1,h2⟩
  ·cases ht
 |invoke r name=>
  simp only[ae.pG]at ht;have hr:=a_ hR (x:=r) (xs:=o.op.operands.toList) hi (by rw[xD];simp[Nr])
  have hia:∀x∈bw s.env iH.toList,env x.1=x.2:=fun x hx=>hi x (by rw[xD];exact Ml hx)
  split at ht
  ·rename_i t g XQ
   rw[XQ]at hr;generalize hv:a.eval r=v at hr
   cases hr with| @eV _ v _ hr=>
   have key:∀(v':Value) (g':GV) (e:Option TypeId),lB P t name=some (f,e)→gs=g'::iH.toList.map s.ev→bf ρ w D v' g'→(match e with|none=>v'=v|some e=>∃A,v= .pointer (some A)∧(loadVar e A).run P w= .ok v' w)→
     ∃bN,(execOp a.eval o).run P w= .ok (.enter f bN) w∧bN.size=gs.length∧∀(i:Nat) (g:GV),gs[i]?=some g→bf ρ w D (bN.getD i undef) g:=by
    intro v' g' e hm fD bh hl;have iD:=Jj (w:=w) hm (P.types.size+99) (v':=v') (v:=v) (by cases e<;>exact hl)
    have zX:=he (#[v']++iH.map a.eval) w;obtain⟨h1,h2⟩:=Ji hR hia bh;subst fD;refine⟨#[v']++iH.map a.eval,?_,h1,h2⟩;have hex:(#[Value.iface t v]++iH.map a.eval).extract 1 (#[Value.iface t v]++iH.map a.eval).size=iH.map a.eval:=by
     apply Array.ext'
     simp
     exact List.take_of_length_le (by simp)
    have h0:(#[Value.iface t v]++iH.map a.eval)[0]?=some (Value.iface t v):=by simp[Array.getElem?_append]
    simp only[execOp,ho,resolve,hv,Sem.run_bind,Sem.run_pure,Result.andThen_ok,invoke,h0,hex,callMethod,run_program];rw[show P.types.size+Made.depth=P.types.size+99+1 from rfl,iD]
    simp only[Result.andThen_ok];exact zX
   split at ht
   ·rename_i f' hm
    cases ht;exact key v g none hm rfl hr rfl
   ·rename_i f' e hm
    split at ht
    ·rename_i d SU
     split at ht
     ·rename_i fE cs BL
      split at ht
      ·rename_i kU
       cases ht;obtain⟨b,k,e1,hc⟩:=tM hR BL hf hr;have h1:=(cC SU).2.2.2;have cY:∀j,j<d.size→w.cell? ⟨b,k+j,none⟩=some ((w.cell? ⟨b,k+j,none⟩).getD undef):=fun j hj=>by
        obtain⟨x,hx,_⟩:=hc j cs[j] (List.getElem?_eq_getElem (by omega))
        simp[hx]
       refine key _ _ (some e) hm rfl ?_ ⟨⟨b,k,none⟩,e1,lA SU h1 _ cY⟩;refine uS (by simp;omega) (fun i t hi=>?_) (by rcases h1 with h1|h1;exact .inl h1;right;simp;omega)
       rw[List.getElem?_take]at hi;split at hi
       ·rename_i ai
        obtain⟨x,hx,hr⟩:=hc i t hi;simpa[Array.getD_eq_getD_getElem?,ai,hx]using hr
       ·cases hi
      ·cases ht
     ·cases ht
    ·cases ht
   ·cases ht
  ·cases ht
 |builtin b=>simp[ae.pG]at ht
end
end Go.Proofs.YtjklkppncmhehaaGreat.T
namespace Go.Proofs.YtjklkppncmhehaaGreat.T
open Go Go.RowKit
theorem eD.call {P:Program}{E:List PanicEntry→World→Prop}{nt:Nat}{o:Oper}{fr:List (Nat×Option aj)}{ins:List (Nat×GV)}{gv:GV}{Δ:List (Nat×aj)}(hd:bz o nt=true)
  (h:∀C env get a w ρ D,(∀x∈fr,get x.1=x.2)→(∀x∈ins,env x.1=x.2)→Rel C env get a w ρ D→∃f bN,(execOp a.eval o).run P w= .ok (.enter f bN) w∧Calls P f bN w fun e w'=>(∃ch,e= .panicked ch∧E ch w')∨∃v ρ' D',e= .returned v∧Rel C env (upd get Δ) a w' ρ' D'∧bf ρ' w' D' v gv):eD P E nt o fr ins gv Δ:=by
 intro C env get a w K Q hn hf hi hR hK hE;obtain⟨ρ,D,hR⟩:=hR;obtain⟨f,bN,hv,hc⟩:=h C env get a w ρ D hf hi hR;unfold Oper.wp;rw[hv,Oper.upon_enter];refine hc.mono ?_;rintro e w' (⟨ch,rfl,he⟩|⟨v,ρ',D',rfl,pt,hg⟩)
 ·exact hE ch a w' hR.defers he
 ·refine hK _ _ ⟨ρ',D',pt.put (fun d e=>?_) hg⟩
  unfold bz at hd;rw[e]at hd;simpa[hn]using hd
section
variable {P:Program}{E:List PanicEntry→World→Prop}{nt:Nat}{o:Oper}{s:ae}
def φ (frag:List Nat)(nx:Nat)(b:Nat):Nat:=if b<frag.length then frag.getD b 0 else nx+(b-frag.length)
def rowOf:Option aj→Bool
 |some (.rows ..)=>true
 |_=>false
structure EZ (s:ae) (pH:List GV) (frag peek:List Nat) (bU:List GV) (sto0 sto':List (Nat×aj)) (cnt:Nat):Prop where
 args:f_ s.get peek pH=fZ (φ frag s.nx) bU
 nodup:frag.Nodup
 Ns:∀b∈frag,b<s.nx
 apart:∀b∈peek,b∉frag
 rows:∀b∈peek,rowOf (s.get b)=true
 Z7:∀b,b<frag.length→(s.get (frag.getD b 0))=(gt b sto0).map (aj.bq (φ frag s.nx))∧(gt b sto0).isSome=true
 live:∀x∈sto0,x.1<frag.length∧x.2.live=true
 news:∀x∈sto',x.1<frag.length+cnt
def jq (s:ae)(frag peek:List Nat)(sto':List (Nat×aj))(cnt:Nat):List (Nat×aj):=
 ((List.range frag.length).map fun i=>(frag.getD i 0,match gt i sto' with|some y=>y.bq (φ frag s.nx)|none=> .dead))++((List.range cnt).map fun j=>(s.nx+j,match gt (frag.length+j) sto' with|some y=>y.bq (φ frag s.nx)|none=> .dead))++peek.map fun b=>(b,.dead)
def fL (s:ae)(frag peek:List Nat)(cnt:Nat):List (Nat×Option aj):=(frag.map fun b=>(b,s.get b))++(peek.map fun b=>(b,s.get b))++(List.range cnt).map fun j=>(s.nx+j,none)
theorem pI {β:Type}(f:β→Nat×aj){b:Nat}:∀{l:List β},(∀x∈l,(f x).1≠b)→gt b (l.map f)=none
 |[],_=>rfl
 |x::l,h=>by
  have h0:=h x (List.mem_cons_self ..);simp only[List.map_cons,gt];rw[if_neg (fun e=>h0 e.symm)]
  exact pI f fun y hy=>h y (List.mem_cons_of_mem _ hy)
theorem kr {β:Type}(f:β→Nat×aj){b:Nat}{x:β}:∀{l:List β},x∈l→(f x).1=b→(∀y∈l,(f y).1=b→f y=f x)→gt b (l.map f)=some (f x).2
 |y::l,h,hb,hu=>by
  simp only[List.map_cons,gt];split
  ·rename_i e
   rw[hu y (List.mem_cons_self ..) e.symm]
  ·rename_i e
   rcases List.mem_cons.1 h with rfl|h
   ·exact absurd hb.symm e
   ·exact kr f h hb fun z hz=>hu z (List.mem_cons_of_mem _ hz)
theorem zY {l:List Nat}(h:l.Nodup){i j:Nat}(hi:i<l.length)(hj:j<l.length)(e:l.getD i 0=l.getD j 0):i=j:=by
 simp only[List.getD_eq_getElem?_getD,List.getElem?_eq_getElem hi,List.getElem?_eq_getElem hj,Option.getD_some]at e;exact(List.getElem_inj h).1 e
theorem Jl {c:Call}(ho:o.op= .call c)(hd:bz o nt=true){f:FuncId}{pH:List GV}{cN:List (Nat×Option aj)}(hf:s.pG P c.callee c.args.toList=some (f,pH,cN)){frag peek:List Nat}{bU:List GV}{sto0 sto':List (Nat×aj)}{cnt:Nat}{r:GV}
  (hT:TC P E f bU frag.length sto0 r sto') (hk:EZ s pH frag peek bU sto0 sto' cnt) (hr:∀b∈r.names,b<frag.length+cnt) (XR:∀x∈sto',∀b∈x.2.names,b<frag.length+cnt):
  eD P E nt o (cN++fL s frag peek cnt) (bw s.env o.op.operands.toList) (r.bq (φ frag s.nx)) (jq s frag peek sto' cnt):=by
 refine .call hd fun C env get a w ρ D va hi hR=>?_;have fI:∀x∈fL s frag peek cnt,get x.1=x.2:=fun x hx=>va x (List.mem_append_right _ hx)
 obtain⟨zX,hT⟩:=hT;obtain⟨bN,e1,kU,lC⟩:=Jk ho hf zX hR (fun x hx=>va x (List.mem_append_left _ hx)) hi
 refine⟨f,bN,e1,?_⟩;have XS:∀b∈frag,get b=s.get b:=fun b hb=>fI (b,s.get b) (by simp only[fL,List.mem_append,List.mem_map];exact .inl (.inl ⟨b,hb,rfl⟩))
 have zZ:∀b∈peek,get b=s.get b:=fun b hb=>fI (b,s.get b) (by simp only[fL,List.mem_append,List.mem_map];exact .inl (.inr ⟨b,hb,rfl⟩))
 have q9:∀j,j<cnt→get (s.nx+j)=none:=fun j hj=>fI (s.nx+j,none) (by simp only[fL,List.mem_append,List.mem_map,List.mem_range];exact .inr ⟨j,hj,rfl⟩)
 have P_:∀i,i<frag.length→frag.getD i 0∈frag:=fun i hi=>by
  simp only[List.getD_eq_getElem?_getD,List.getElem?_eq_getElem hi,Option.getD_some];exact List.getElem_mem hi
 have Vp:∀b∈peek,∃z,get b=some z∧z.live=true:=by
  intro b hb;have:=hk.rows b hb
  rw[zZ b hb];unfold rowOf at this;split at this
  ·rename_i h;exact⟨_,h,rfl⟩
  ·cases this
 obtain⟨D1,vb,E0,SV⟩:=hR.consume peek Vp;have SW:∀c,gt c (peek.map fun b=>(b,aj.dead))=if c∈peek then some .dead else none:=by
  intro c;by_cases hc:c∈peek
  ·rw[if_pos hc]
   exact kr (fun b=>(b,aj.dead)) hc rfl fun y _ e=>by simp only at e;rw[e]
  ·rw[if_neg hc]
   exact pI _ fun x hx e=>hc (by simp only at e;rw[←e];exact hx)
 have SX:∀c,upd get (peek.map fun b=>(b,aj.dead)) c=if c∈peek then some .dead else get c:=by
  intro c;simp only[upd,SW];split<;>simp_all
 have Jm:∀i,i<frag.length→φ frag s.nx i=frag.getD i 0:=fun i hi=>by simp only[φ,if_pos hi]
 have V2:∀i,¬i<frag.length→φ frag s.nx i=s.nx+(i-frag.length):=fun i hi=>by simp only[φ,if_neg hi]
 have Jn:∀b y,gt b sto0=some y→b<frag.length∧y.live=true∧get (frag.getD b 0)=some (y.bq (φ frag s.nx))∧upd get (peek.map fun b=>(b,aj.dead)) (frag.getD b 0)=some (y.bq (φ frag s.nx)):=by
  intro b y hy;obtain⟨h1,h2⟩:=hk.live _ (fK hy);obtain⟨h3,_⟩:=hk.Z7 b h1;rw[hy]at h3;have h4:get (frag.getD b 0)=some (y.bq (φ frag s.nx)):=by rw[XS _ (P_ b h1),h3];rfl
  refine⟨h1,h2,h4,?_⟩;rw[SX,if_neg fun h=>hk.apart _ h (P_ b h1)]
  exact h4
 have hrc:∀(i:Nat) (g:GV),bU[i]?=some g→bf (fun b=>ρ (φ frag s.nx b)) w D1 (bN.getD i undef) g:=by
  intro i g hg;have hlen:bU.length=pH.length:=by
   have:=congrArg List.length hk.args
   rw[iz,dx]at this;exact this.symm
  have E1:i<pH.length:=by rw[←hlen];exact(List.getElem?_eq_some_iff.1 hg).1
  have h1:=lC i _ (List.getElem?_eq_getElem E1);have h2:=h1.cr (cs:=peek) hR E0 SV;have h3:(fZ (φ frag s.nx) bU)[i]?=some (g.bq (φ frag s.nx)):=by rw[iy,hg];rfl
  rw[←hk.args,ov,List.getElem?_eq_getElem E1]at h3;simp only[Option.map_some,Option.some.injEq]at h3;have h4:∀g:GV,g.cr get peek=g.cr s.get peek:=GV.i_ zZ
  rw[h4,h3]at h2;exact h2.bq fun b _ x hx=>hx
 refine(hT w _ (fun b=>ρ (φ frag s.nx b)) D1 (by rw[kU,←iz s.get peek,hk.args,dx]) hrc (fun k cc=>(vb.ro k cc).1) (fun b y hy=>?_) (fun b y g hy hl hg=>?_) (fun b y b' y' g hy hl dP aY hg bh=>?_)).mono ?_
 ·obtain⟨h1,h2,h3,h4⟩:=Jn b y hy
  simp only[Jm b h1];exact(vb.blk _ _ h4).bq fun c _ x hx=>hx
 ·obtain⟨h1,h2,h3,h4⟩:=Jn b y hy
  simp only[Jm b h1]at hg;exact(vb.own _ _ g h4 (by rw[aj.dH];exact h2) hg).1
 ·obtain⟨h1,h2,h3,h4⟩:=Jn b y hy
  obtain⟨js,nS,Jg,SY⟩:=Jn b' y' dP;simp only[Jm b h1]at hg;simp only[Jm b' js]at bh;exact zY hk.nodup h1 js (vb.sep _ _ _ _ g h4 (by rw[aj.dH];exact h2) SY (by rw[aj.dH];exact nS) hg bh)
 rintro e w' (h|⟨v,z_,D2,rfl,hv,hP⟩)
 ·exact .inl h
 right
 have XT:∀k,Mf sto0 (fun b=>ρ (φ frag s.nx b)) k→∃i z,i<frag.length∧get (frag.getD i 0)=some z∧z.live=true∧frag.getD i 0∉peek∧bI (ρ (frag.getD i 0))=some k:=by
  rintro k ⟨b,y,hy,hl,hg⟩;obtain⟨h1,h2,h3,h4⟩:=Jn b y hy;simp only[Jm b h1]at hg;exact⟨b,_,h1,h3,by rw[aj.dH];exact h2,fun h=>hk.apart _ h (P_ b h1),hg⟩
 have Z8:∀k,D1 k→¬Mf sto0 (fun b=>ρ (φ frag s.nx b)) k:=by
  intro k pB hm;obtain⟨i,z,h1,h2,h3,h4,h5⟩:=XT k hm;exact(vb.own _ z k (by rw[SX,if_neg h4];exact h2) h3 h5).1 pB
 have hK:cw D1 w w':=fun k pB=>hP.old k (vb.ro k pB).1 (Z8 k pB)
 let Vq:Nat→Option Value:=fun b=>if b<s.nx then ρ b else if b<s.nx+cnt then z_ (frag.length+(b-s.nx))else ρ b
 have SZ:∀b x,ρ b=some x→Vq b=some x:=by
  intro b x hx;show(if b<s.nx then ρ b else if b<s.nx+cnt then z_ (frag.length+(b-s.nx))else ρ b)=some x
  by_cases h1:b<s.nx
  ·rw[if_pos h1];exact hx
  ·by_cases h2:b<s.nx+cnt
   ·have:=hR.free b (by have:=q9 (b-s.nx) (by omega);rwa[show s.nx+(b-s.nx)=b by omega]at this)
    rw[hx]at this;cases this
   ·rw[if_neg h1,if_neg h2];exact hx
 have tT:∀b,b<frag.length+cnt→Vq (φ frag s.nx b)=z_ b:=by
  intro b hb;by_cases h1:b<frag.length
  ·rw[Jm b h1,hP.same b h1]
   have ai:=hk.Ns _ (P_ b h1);show(if frag.getD b 0<s.nx then ρ (frag.getD b 0)else _)=ρ (φ frag s.nx b)
   rw[if_pos ai,Jm b h1]
  ·rw[V2 b h1]
   show(if s.nx+(b-frag.length)<s.nx then _ else if s.nx+(b-frag.length)<s.nx+cnt then z_ (frag.length+(s.nx+(b-frag.length)-s.nx))else _)=z_ b
   rw[if_neg (by omega),if_pos (by omega)]
   congr 1;omega
 let D3:Nat→Prop:=fun k=>D1 k∨D2 k
 have Z9:∀k,D2 k→k<w'.heap.size∧(D1 k∨Mf sto0 (fun b=>ρ (φ frag s.nx b)) k∨w.heap.size≤k):=hP.ro
 have dQ:∀c y,upd get (jq s frag peek sto' cnt) c=some y→y.live=true→(∃b y',b<frag.length+cnt∧c=φ frag s.nx b∧gt b sto'=some y'∧y=y'.bq (φ frag s.nx))∨(c∉frag∧c∉peek∧get c=some y∧¬(s.nx≤c∧c<s.nx+cnt)):=by
  intro c y hy hl;simp only[upd,jq,mO]at hy;by_cases h1:c∈frag
  ·left
   obtain⟨i,eN,hic⟩:=List.getElem_of_mem h1;have S0:frag.getD i 0=c:=by simp[List.getD_eq_getElem?_getD,eN,hic]
   rw[kr (x:=i) _ (List.mem_range.2 eN) S0 (fun j hj e=>by rw[zY hk.nodup (List.mem_range.1 hj) eN (by simp only at e;rw[e,S0])])]at hy
   simp only[Option.some.injEq]at hy;split at hy
   ·rename_i y' dP
    exact⟨i,y',by omega,by rw[Jm i eN,S0],dP,hy.symm⟩
   ·subst hy;simp[aj.live]at hl
  ·rw[pI _ (fun i eN e=>h1 (by simp only at e;rw[←e];exact P_ i (List.mem_range.1 eN)))]at hy
   by_cases h2:s.nx≤c∧c<s.nx+cnt
   ·left
    rw[kr (x:=c-s.nx) _ (List.mem_range.2 (by omega)) (by simp only;omega) (fun j hj e=>by simp only at e;rw[show j=c-s.nx by omega])]at hy
    simp only[Option.some.injEq]at hy;split at hy
    ·rename_i y' dP
     refine⟨frag.length+(c-s.nx),y',by omega,by rw[V2 _ (by omega)];omega,dP,hy.symm⟩
    ·subst hy;simp[aj.live]at hl
   ·rw[pI _ (fun j hj e=>h2 (by have:=List.mem_range.1 hj;simp only at e;omega))]at hy
    by_cases h3:c∈peek
    ·rw[SW,if_pos h3]at hy
     simp only[Option.some.injEq]at hy;subst hy;simp[aj.live]at hl
    ·rw[SW,if_neg h3]at hy
     exact .inr ⟨h1,h3,hy,h2⟩
 have hold:∀c y,c∉frag→c∉peek→get c=some y→y.live=true→∀g,bI (ρ c)=some g→¬D3 g∧¬Mf sto0 (fun b=>ρ (φ frag s.nx b)) g∧g<w.heap.size:=by
  intro c y h1 h2 hy hl g hg;have Z_:¬Mf sto0 (fun b=>ρ (φ frag s.nx b)) g:=by
   intro hm;obtain⟨i,z,i1,i2,i3,i4,i5⟩:=XT g hm;have:=hR.sep c y _ z g hy hl i2 i3 hg i5
   exact h1 (this▸P_ i i1)
  have ai:=hR.h_ hy hl hg;have tD:=(vb.own c y g (by rw[SX,if_neg h2];exact hy) hl hg).1
  refine⟨?_,Z_,ai⟩;rintro(h|h)
  ·exact tD h
  ·rcases(Z9 g h).2 with h|h|h
   ·exact tD h
   ·exact Z_ h
   ·omega
 have Jo:∀c y,get c=some y→¬(s.nx≤c∧c<s.nx+cnt)→Vq c=ρ c:=by
  intro c y _ h;show(if c<s.nx then ρ c else if c<s.nx+cnt then z_ (frag.length+(c-s.nx))else ρ c)=ρ c
  by_cases h1:c<s.nx
  ·rw[if_pos h1]
  ·rw[if_neg h1,if_neg (by omega)]
 have Mm:∀g b y',gt b sto'=some y'→y'.live=true→bI (z_ b)=some g→¬D3 g∧(Mf sto0 (fun b=>ρ (φ frag s.nx b)) g∨w.heap.size≤g):=by
  intro g b y' dP hl hg;obtain⟨h1,h2⟩:=hP.own b y' g dP hl hg;refine⟨?_,h2⟩;rintro(h|h)
  ·rcases h2 with h2|h2
   ·exact Z8 g h h2
   ·have:=(vb.ro g h).1;omega
  ·exact h1 h
 have XU:∀g,Mf sto0 (fun b=>ρ (φ frag s.nx b)) g∨w.heap.size≤g→C.M g∨C.W.heap.size≤g:=by
  rintro g (h|h)
  ·obtain⟨i,z,i1,i2,i3,i4,i5⟩:=XT g h
   exact(hR.own _ z g i2 i3 i5).2
  ·have:=hR.size;exact .inr (by omega)
 have aaB:=hR.size;have aaw:=hP.size;refine⟨v,Vq,D3,rfl,⟨hP.os.trans hR.os,hP.tape.trans hR.tape,hP.output.trans hR.output,by omega,fun k YI E7=>?_,fun k cc=>?_,fun c hc=>?_,fun c y hy=>?_,fun c y g hy hl hg=>?_,fun c y c' y' g hy hl dP aY hg bh=>?_,fun t=>(hR.env t).bK SZ (fun k pB=>hK k (E0 k pB)) (fun k pB=> .inl (E0 k pB)),hR.defers,hR.nt,fun b x hx=>SZ b x (hR.ext b x hx)⟩,?_⟩
 ·rw[hP.old k (by omega) (fun hm=>?_)]
  ·exact hR.old k YI E7
  ·rcases XU k (.inl hm)with h|h
   ·exact E7 h
   ·omega
 ·rcases cc with cc|cc
  ·have:=vb.ro k cc
   exact⟨by omega,this.2⟩
  ·obtain⟨h1,h2⟩:=Z9 k cc
   refine⟨h1,?_⟩;rcases h2 with h2|h2
   ·exact(vb.ro k h2).2
   ·exact .inr (XU k h2)
 ·
  have Sx:gt c (jq s frag peek sto' cnt)=none∧get c=none:=by
   simp only[upd]at hc;split at hc
   ·cases hc
   ·rename_i h;exact⟨h,hc⟩
  have hcn:¬(s.nx≤c∧c<s.nx+cnt):=by
   intro h2;have h0:=Sx.1;simp only[jq,mO]at h0;split at h0
   ·cases h0
   ·rename_i E8
    split at E8
    ·cases E8
    ·rw[kr (x:=c-s.nx) _ (List.mem_range.2 (by omega)) (by simp only;omega) (fun j hj e=>by simp only at e;rw[show j=c-s.nx by omega])]at E8
     cases E8
  show(if c<s.nx then ρ c else if c<s.nx+cnt then z_ (frag.length+(c-s.nx))else ρ c)=none
  have:=hR.free c Sx.2
  by_cases h1:c<s.nx
  ·rw[if_pos h1];exact this
  ·rw[if_neg h1,if_neg (by omega)];exact this
 ·by_cases hl:y.live=true
  ·rcases dQ c y hy hl with⟨b,y',b1,rfl,b2,rfl⟩|⟨h1,h2,h3,h4⟩
   ·rw[tT b b1]
    refine((hP.blk b y' b2).bK (fun _ _ h=>h) (cw.refl _ _) (fun k h=> .inr h) (.inr fun _ _=>rfl)).tR fun c' cY x hx=>?_;rw[tT c' (XR _ (fK b2) c' cY)];exact hx
   ·rw[Jo c y h3 h4]
    exact(hR.blk c y h3).bK SZ (fun k pB=>hK k (E0 k pB)) (fun k pB=> .inl (E0 k pB)) (.inr fun g hg=>by
     obtain⟨_,q2,q3⟩:=hold c y h1 h2 h3 hl g hg;exact hP.old g q3 q2)
  ·cases y with
   |dead=>trivial
   |box=>simp[aj.live]at hl
   |rows=>simp[aj.live]at hl
 ·rcases dQ c y hy hl with⟨b,y',b1,rfl,b2,rfl⟩|⟨h1,h2,h3,h4⟩
  ·rw[tT b b1]at hg
   rw[aj.dH]at hl;obtain⟨q1,q2⟩:=Mm g b y' b2 hl hg;exact⟨q1,XU g q2⟩
  ·rw[Jo c y h3 h4]at hg
   exact⟨(hold c y h1 h2 h3 hl g hg).1,(hR.own c y g h3 hl hg).2⟩
 ·rcases dQ c y hy hl with⟨b,y1,b1,rfl,b2,rfl⟩|⟨h1,h2,h3,h4⟩
  ·rw[tT b b1]at hg
   rw[aj.dH]at hl;rcases dQ c' y' dP aY with⟨b',XV,Ss,rfl,XW,rfl⟩|⟨js,nS,Jg,SY⟩
   ·rw[tT b' Ss]at bh
    rw[aj.dH]at aY;rw[hP.sep b y1 b' XV g b2 hl XW aY hg bh]
   ·rw[Jo c' y' Jg SY]at bh
    obtain⟨_,q2,q3⟩:=hold c' y' js nS Jg aY g bh;rcases(Mm g b y1 b2 hl hg).2 with h|h
    ·exact absurd h q2
    ·omega
  ·rw[Jo c y h3 h4]at hg
   rcases dQ c' y' dP aY with⟨b',XV,Ss,rfl,XW,rfl⟩|⟨js,nS,Jg,SY⟩
   ·rw[tT b' Ss]at bh
    rw[aj.dH]at aY;obtain⟨_,q2,q3⟩:=hold c y h1 h2 h3 hl g hg;rcases(Mm g b' XV XW aY bh).2 with h|h
    ·exact absurd h q2
    ·omega
   ·rw[Jo c' y' Jg SY]at bh
    exact hR.sep c y c' y' g h3 hl Jg aY hg bh
 ·refine(hv.bK (fun _ _ h=>h) (cw.refl _ _) (fun k h=> .inr h)).tR fun b hb x hx=>?_
  rw[tT b (hr b hb)];exact hx
end
end Go.Proofs.YtjklkppncmhehaaGreat.T
namespace Go.Proofs.YtjklkppncmhehaaGreat.T
open Go Go.RowKit
def yC (P:Program)(rec:TypeId→Option (List Bool)):Nat→List Field→Option (List Bool)
 |_,[]=>some []
 |off,f::fs=>match rec f.type,aw P f.type,yC P rec (off+((aw P f.type).map TD.size).getD 0) fs with
  |some a,some d,some b=>if f.name≠ "_"∧f.offset=off∧a.length=d.size then some (a++b)else none
  |_,_,_=>none
def Aa (P:Program):Nat→TypeId→Option (List Bool)
 |0,_=>none
 |n+1,t=>match P.underlying t with
  |some (.int _)=>some [true]
  |some .bool=>some [false]
  |some (.struct fs)=>if P.stoodInHeld t=true then none else yC P (Aa P n) 0 fs.toList
  |_=>none
def kt (P:Program)(t:TypeId):Option (List Bool):=
 if P.eqGuardType P.depth t=true then none else match P.underlying t,aw P t with
  |some (.struct _),some _=>Aa P 8 t
  |_,_=>none
def fM:List Bool→List TV→List TV→Option Bool
 |[],[],[]=>some true
 |true::ks,.r (.v (.int k a))::xs,.r (.v (.int k' b))::ys=>if k=k' then(fM ks xs ys).map fun r=>decide (a=b)&&r else none
 |false::ks,.r (.v (.bool a))::xs,.r (.v (.bool b))::ys=>(fM ks xs ys).map fun r=>(a==b)&&r
 |_,_,_=>none
theorem Ab:∀{ks:List Bool} {xs ys:List TV} {r:Bool},fM ks xs ys=some r→xs.length=ks.length∧ys.length=ks.length:=by
 intro ks;induction ks with
 |nil=>
  intro xs ys r h;unfold fM at h;split at h<;>simp_all
 |cons k ks ih=>
  intro xs ys r h;unfold fM at h;split at h
  ·simp_all
  ·rename_i e1;cases e1
   split at h
   ·obtain⟨r',h',_⟩:=Option.map_eq_some_iff.1 h
    have:=ih h'
    simp[this.1,this.2]
   ·cases h
  ·rename_i e1;cases e1
   obtain⟨r',h',_⟩:=Option.map_eq_some_iff.1 h;have:=ih h'
   simp[this.1,this.2]
  ·cases h
theorem S1:∀{a b:List Bool} {xs ys:List TV} {r:Bool},fM (a++b) xs ys=some r→∃r1 r2,fM a (xs.take a.length) (ys.take a.length)=some r1∧fM b (xs.drop a.length) (ys.drop a.length)=some r2∧r=(r1&&r2):=by
 intro a;induction a with
 |nil=>intro b xs ys r h;exact⟨true,r,by simp[fM],by simpa using h,by simp⟩
 |cons k a ih=>
  intro b xs ys r h;rw[List.cons_append]at h;unfold fM at h;split at h
  ·simp_all
  ·rename_i e1;cases e1
   split at h
   ·rename_i hk
    obtain⟨r',h',rfl⟩:=Option.map_eq_some_iff.1 h;obtain⟨r1,r2,h1,h2,rfl⟩:=ih h';exact⟨_,r2,by simp only[List.length_cons,List.take_succ_cons,fM,h1,hk,if_true];rfl,by simpa using h2,by simp[Bool.and_assoc]⟩
   ·cases h
  ·rename_i e1;cases e1
   obtain⟨r',h',rfl⟩:=Option.map_eq_some_iff.1 h;obtain⟨r1,r2,h1,h2,rfl⟩:=ih h';exact⟨_,r2,by simp only[List.length_cons,List.take_succ_cons,fM,h1];rfl,by simpa using h2,by simp[Bool.and_assoc]⟩
  ·cases h
section
variable {P:Program}{E:List PanicEntry→World→Prop}{nt:Nat}{o:Oper}{s:ae}{ρ:Nat→Option Value}{w:World}{D:Nat→Prop}
theorem pJ {t:TypeId}{d:TD}{u:TypeDesc}(h:aw P t=some d)(hu:P.underlying t=some u):d.k=sN u:=by
 obtain⟨i,u',z,_,h2,_,_,_,_,h7⟩:=eO h;rw[hu]at h2
 cases h2;exact h7.symm
theorem vc (e:Nat){rec:TypeId→Option (List Bool)}(V3:∀t ks,rec t=some ks→∀d,aw P t=some d→∀(v v':Value) (xs ys:List TV) (r:Bool),bf ρ w D v (mk d.k.agg xs)→bf ρ w D v' (mk d.k.agg ys)→fM ks xs ys=some r→(Op.equalIn e t v v').run P w= .ok r w)
  {arr arr':Array Value} {ts Vr:List TV} (hn:arr.size=ts.length) (vV:arr'.size=Vr.length) (h:∀(i:Nat) (t:TV),ts[i]?=some t→cA ρ w D (arr.getD i undef) t) (h':∀(i:Nat) (t:TV),Vr[i]?=some t→cA ρ w D (arr'.getD i undef) t):
  ∀(fs:List Field) (off:Nat) (ks:List Bool) (r:Bool),yC P rec off fs=some ks→off≤ts.length→off≤Vr.length→fM ks (ts.drop off) (Vr.drop off)=some r→(Op.eqFields e arr arr' fs).run P w= .ok r w
 |[],off,ks,r,hl,h1,h2,hr=>by
  cases hl;unfold fM at hr;split at hr<;>simp_all[Op.eqFields]
 |f::fs,off,ks,r,hl,h1,h2,hr=>by
  unfold yC at hl;split at hl
  ·rename_i a d b ha hd hb
   split at hl
   ·rename_i hc
    obtain⟨c1,rfl,c3⟩:=hc
    cases hl;obtain⟨r1,r2,e1,e2,rfl⟩:=S1 hr;have hlen:=Ab hr;simp only[List.length_drop,List.length_append]at hlen;have po:=(cC hd).2.2.2;obtain⟨v,q1,q2⟩:=rN (w:=w) hd hn h (k:=f.offset) (by omega) po
    obtain⟨v',q3,q4⟩:=rN (w:=w) hd vV h' (k:=f.offset) (by omega) po
    rw[c3]at e1 e2;have k1:=V3 _ _ ha d hd v v' _ _ r1 q2 q4 e1;simp only[hd,Option.map_some,Option.getD_some]at hb;have k2:=vc e V3 hn vV h h' fs (f.offset+d.size) b r2 hb (by omega) (by omega) (by rw[List.drop_drop,List.drop_drop]at e2;exact e2)
    simp only[Op.eqFields,c1,ne_eq,not_false_eq_true,if_true,Sem.run_bind,q1,q3,k1,Result.andThen_ok,Sem.run_ite]
    cases r1
    ·simp
    ·simp[k2]
   ·cases hl
  ·cases hl
theorem Jp (e:Nat):∀(n:Nat) (t:TypeId) (ks:List Bool),Aa P n t=some ks→∀d,aw P t=some d→∀(v v':Value) (xs ys:List TV) (r:Bool),bf ρ w D v (mk d.k.agg xs)→bf ρ w D v' (mk d.k.agg ys)→fM ks xs ys=some r→(Op.equalIn (e+n) t v v').run P w= .ok r w
 |0,t,ks,h,_,_,_,_,_,_,_,_,_,_=>by simp[Aa]at h
 |n+1,t,ks,h,d,hd,v,v',xs,ys,r,hv,gZ,hr=>by
  unfold Aa at h;split at h
  ·rename_i k hu
   cases h;have hk:=pJ hd hu;rw[hk]at hv gZ;unfold fM at hr;split at hr
   ·simp_all
   ·rename_i e1;cases e1
    split at hr
    ·rename_i hk
     subst hk;obtain⟨r',h1,rfl⟩:=Option.map_eq_some_iff.1 hr;have:=Ab h1
     simp only[List.length_nil,List.length_eq_zero_iff]at this;obtain⟨rfl,rfl⟩:=this
     cases h1;have a1:=uT hv;have a2:=uT gZ;subst a1 a2;rw[show e+(n+1)=(e+n)+1 from rfl,run_equalIn_int w _ _ _ _ _ _ hu]
     simp only[Bool.and_true];rfl
    ·cases hr
   ·rename_i e1;cases e1
   ·cases hr
  ·rename_i hu
   cases h;have hk:=pJ hd hu;rw[hk]at hv gZ;unfold fM at hr;split at hr
   ·simp_all
   ·rename_i e1;cases e1
   ·rename_i e1;cases e1
    obtain⟨r',h1,rfl⟩:=Option.map_eq_some_iff.1 hr;have:=Ab h1
    simp only[List.length_nil,List.length_eq_zero_iff]at this;obtain⟨rfl,rfl⟩:=this
    cases h1;have a1:=pq hv;have a2:=pq gZ;subst a1 a2;rw[show e+(n+1)=(e+n)+1 from rfl,run_equalIn_bool' w _ _ _ _ hu]
    simp
   ·cases hr
  ·rename_i fs hu
   split at h
   ·cases h
   ·rename_i bk
    have hk:=pJ hd hu;rw[hk]at hv gZ;simp only[sN,TK.agg,mk,if_true]at hv gZ;have sg:P.fieldsOf t=fs:=by simp[Program.fieldsOf,hu]
    cases hv with
    |a hn hv=>
     cases gZ with
     |a vV gZ=>
      rw[show e+(n+1)=(e+n)+1 from rfl,run_equalIn_struct w _ t _ _ (by rw[sg];exact hu) (by simpa using bk),sg]
      exact vc (e+n) (fun t ks h d hd v v' xs ys r q1 q2 q3=>Jp e n t ks h d hd v v' xs ys r q1 q2 q3) hn vV hv gZ _ 0 ks r h (by omega) (by omega) hr
  ·cases h
def aM (P:Program)(t:TypeId):Bool:=match P.underlying t with
 |some .bool=>true
 |_=>false
def Ac (P:Program)(t:TypeId)(op:BinOp)(gx gy:GV):Option GV:=match gx,gy with
 | .a xs,.a ys=>match kt P t with
   |some ks=>match fM ks xs ys with
    |some r=>match op with
     | .eql=>some (gB r)
     | .neq=>some (gB (!r))
     |_=>none
    |none=>none
   |none=>none
 |_,_=>Ni (aM P t) op gx gy
theorem S4 {op:BinOp}{t yt:TypeId}{x y:Operand}(ho:o.op= .binOp op t x y yt)(hd:bz o nt=true){g:GV}(hg:Ac P t op (s.ev x) (s.ev y)=some g):eD P E nt o [] (bw s.env [x,y]) g []:=by
 unfold Ac at hg;split at hg
 ·rename_i xs ys ex ey
  refine .still hd fun C env get a w ρ D hf hi hR=>?_;have hx:=a_ hR hi (x:=x) (by simp)
  have hy:=a_ hR hi (x:=y) (by simp)
  rw[ex]at hx;rw[ey]at hy;split at hg
  ·rename_i ks Mn
   split at hg
   ·rename_i r hr
    unfold kt at Mn;split at Mn
    ·cases Mn
    ·rename_i yD
     split at Mn
     ·rename_i fs d hu SU
      have po:=pJ SU hu;have key:∀v v',bf ρ w D v (.a xs)→bf ρ w D v' (.a ys)→(Op.equalIn 10000 t v v').run P w= .ok r w:=fun v v' h1 h2=>
       Jp (P:=P) 9992 8 t ks Mn d SU v v' xs ys r (by rw[po];exact h1) (by rw[po];exact h2) hr
      generalize ha:a.eval x=vx at hx;generalize hb:a.eval y=vy at hy;have key:=key vx vy hx hy
      cases hx with
      |a hn hx=>
       cases hy with
       |a vV hy=>
        have yD:P.eqGuardType P.depth t=false:=by simpa using yD
        split at hg
        ·cases hg
         exact⟨.bool r,by simp[execOp,ho,ha,hb,run_eqGuard_agg w _ _ _ _ _ _ yD,run_eql_struct,key],.s (.r (.v rfl))⟩
        ·cases hg
         exact⟨.bool (!r),by simp[execOp,ho,ha,hb,run_eqGuard_agg w _ _ _ _ _ _ yD,run_neq_struct,key],.s (.r (.v rfl))⟩
        ·cases hg
     ·cases Mn
   ·cases hg
  ·cases hg
 ·exact Vg ho hd (fun h=>by unfold aM at h;split at h<;>simp_all) hg
def re (P:Program)(t:TypeId):Option IntKind:=match P.underlying t with
 |some (.int k)=>some k
 |_=>none
theorem Jq {src dst:TypeId}{x:Operand}(ho:o.op= .convert src dst x)(hd:bz o nt=true){k k0 k1:IntKind}{n:Int}(h1:re P src=some k1)(h2:re P dst=some k)(h3:(s.ev x).i?=some (k0,n)):eD P E nt o [] (bw s.env [x]) (gI k (k.wrap n)) []:=by
 refine .still hd fun C env get a w ρ D hf hi hR=>?_;have hx:=GV.gK h3 (a_ hR hi (x:=x) (by simp))
 unfold re at h1 h2;split at h1
 ·rename_i u1
  split at h2
  ·rename_i u2
   cases h1;cases h2
   exact⟨.int k (k.wrap n),by simp[execOp,ho,hx,convert,run_underlying u1,run_underlying u2,Conv.intToInt],.s (.r (.v rfl))⟩
  ·cases h2
 ·cases h1
def Jr:GV→Bool
 | .s (.ptr _ _)| .s (.row _ _ _ _)| .s (.ju _ _)=>true
 |_=>false
theorem E9 {x:Operand}(ho:o.op= .nilCheck x)(hd:bz o nt=true)(h:Jr (s.ev x)=true):eD P E nt o [] (bw s.env [x]) (s.ev x) []:=by
 refine .still hd fun C env get a w ρ D hf hi hR=>?_;have hx:=a_ hR hi (x:=x) (by simp)
 generalize hv:a.eval x=v at hx;have:∃A,v= .pointer (some A):=by
  unfold Jr at h;split at h
  ·rename_i e;rw[e]at hx;cases hx with|s hx=>cases hx with|ptr _=>exact⟨_,rfl⟩
  ·rename_i e;rw[e]at hx;cases hx with|s hx=>cases hx with|row _=>exact⟨_,rfl⟩
  ·rename_i e;rw[e]at hx;cases hx with|s hx=>cases hx with|ju _ _ _ _=>exact⟨_,rfl⟩
  ·cases h
 obtain⟨A,hA⟩:=this;exact⟨.pointer (some A),by simp[execOp,ho,hv,hA],hA▸hx⟩
end
end Go.Proofs.YtjklkppncmhehaaGreat.T
