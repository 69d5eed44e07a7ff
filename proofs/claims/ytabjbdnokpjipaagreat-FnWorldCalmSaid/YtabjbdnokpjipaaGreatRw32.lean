/-
What is proved: what interfaces do to trees: a value put behind one, asked for its and what rests on it. Conditions: as stated.
-/
import Derived.Test.YtabjbdnokpjipaaGreatRw31
import Derived.Test.YtabjbdnokpjipaaGreatRw28
import Derived.Laws.StructEq
set_option linter.unusedVariables false
set_option linter.unusedSimpArgs false
namespace Go.Proofs.YtabjbdnokpjipaaGreat.T
open Go Go.RowKit
def pX (P:Program)(t:TypeId):Bool:=match P.underlying t with
 |some (.interface _)=>false
 |some _=>true
 |none=>false
section
variable {P:Program}{E:List PanicEntry→World→Prop}{nt:Nat}{o:Oper}{s:ah}
theorem wX {t:TypeId}(h:pX P t=true):∃d,P.underlying t=some d∧∀m,d≠.interface m:=by
 unfold pX at h
 cases hu:P.underlying t with
 |none=>rw[hu]at h;cases h
 |some d=>
  refine⟨d,rfl,fun m e=>?_⟩
  subst e;rw[hu]at h
  cases h
theorem yg {t:TypeId}{x:Operand}(ho:o.op= .makeInterface t x)(hd:bO o nt=true)(h:pX P t=true):fE P E nt o [] (bN s.env [x]) (.fD t (s.ev x)) []:=by
 obtain⟨d,hu,hn⟩:=wX h;refine .still hd fun C env get a w ρ D hf hi hR=>⟨.iface t (a.eval x),?_,.fD (br hR hi (x:=x) (by simp))⟩
 simp only[execOp,ho,Instr.makeInterface,Sem.run_bind,run_underlying hu,Result.andThen_ok]
 cases d<;>first|exact absurd rfl (hn _)|simp
def GV.ifc?:GV→Option (TypeId×GV)
 | .fD t g=>some (t,g)
 |_=>none
theorem EX {x:Operand}{xt t:TypeId}{ok:Bool}(ho:o.op= .typeAssert x xt t ok)(hd:bO o nt=true)(h:pX P t=true){g:GV}(hx:(s.ev x).ifc?=some (t,g)):fE P E nt o [] (bN s.env [x]) (if ok=true then .p [g,gB true]else g) []:=by
 obtain⟨d,hu,hn⟩:=wX h;refine .still hd fun C env get a w ρ D hf hi hR=>?_;have hr:=br hR hi (x:=x) (by simp)
 have hxe:s.ev x= .fD t g:=by
  unfold GV.ifc? at hx;split at hx
  ·rename_i e;cases hx;exact e
  ·cases hx
 rw[hxe]at hr;generalize hv:a.eval x=v at hr
 cases hr with| @fD _ v _ hr=>
 refine⟨if ok=true then .tuple #[v,.bool true]else v,?_,?_⟩
 ·simp only[execOp,ho,Instr.typeAssert,Sem.run_bind,run_underlying hu,Result.andThen_ok,hv]
  cases d<;>first|exact absurd rfl (hn _)|(cases ok<;>simp)
 ·cases ok
  ·exact hr
  ·refine .p rfl fun i g' hg=>?_
   rcases i with _|_|i
   ·cases hg;exact hr
   ·cases hg;exact .s (.r (.v rfl))
   ·simp at hg
def RV (P:Program)(t:TypeId):Bool:=match P.info? t,aM P t with
 |some i,some d=>match i.zero with
  |some (.agg _)=>d.k.agg
  |some _=> !d.k.agg
  |none=>false
 |_,_=>false
theorem CZ {x:Operand}{xt t:TypeId}(ho:o.op= .typeAssert x xt t true)(hd:bO o nt=true)(h:pX P t=true)(hz:RV P t=true){d:TD}(ht:aM P t=some d){t':TypeId}{g:GV}(hx:(s.ev x).ifc?=some (t',g))(cf:t'≠t):fE P E nt o [] (bN s.env [x]) (.p [mk d.k.agg (d.zero.map fun x=> .r (jY x)),gB false]) []:=by
 obtain⟨u,hu,hn⟩:=wX h;refine .still hd fun C env get a w ρ D hf hi hR=>?_;have hr:=br hR hi (x:=x) (by simp)
 have hxe:s.ev x= .fD t' g:=by
  unfold GV.ifc? at hx;split at hx
  ·rename_i e;cases hx;exact e
  ·cases hx
 rw[hxe]at hr;generalize hv:a.eval x=v at hr
 cases hr with| @fD _ v _ hr=>
 obtain⟨i,u',z,h1,h2,h3,h4,h5,h6,h7⟩:=fS ht;refine⟨.tuple #[z,.bool false],?_,?_⟩
 ·simp only[execOp,ho,Instr.typeAssert,Sem.run_bind,run_underlying hu,Result.andThen_ok,hv]
  cases u<;>first|exact absurd rfl (hn _)|simp[cf,zeroValue,typeInfo,h1,h3]
 ·have hc:=jb.zero (ρ:=ρ) (w:=w) (D:=D) (c9 ht).2.2.1
  have hzr:bA ρ w D z (mk d.k.agg (d.zero.map fun x=> .r (jY x))):=by
   have hlen:=(c9 ht).2.1;have Iy:=xW (agg:=d.k.agg) (by rw[List.size_toArray,List.length_map]) hc.2 (by
    rcases(c9 ht).2.2.2 with h|h
    ·exact .inl h
    ·right;rw[List.length_map,hlen,h])
   simp only[RV,h1,ht,h3]at hz
   cases z with
   |agg cs=>
    have Wc:cs.toList=d.zero:=h6
    have ER:d.k.agg=true:=hz
    rw[ER]at Iy⊢;rw[if_pos rfl,←Wc,Array.toArray_toList,Wc]at Iy;exact Iy
   |_=>
    have hf:d.k.agg=false:=by simpa using hz
    rw[hf]at Iy⊢;rw[if_neg (by simp),←h6]at Iy
    rw[←h6];exact Iy
  refine .p rfl fun i g' hg=>?_;rcases i with _|_|i
  ·cases hg;exact hzr
  ·cases hg;exact .s (.r (.v rfl))
  ·simp at hg
def kv (P:Program)(t:TypeId)(name:String):Option (FuncId×Option TypeId):=match P.info? t,P.underlying t with
 |some i,some u=>match i.methods.find? (fun m=>m.name==name)with
  |some m=>if m.path.toList=[]then match m.func,u with
   |some (f,true),.pointer _=>some (f,none)
   |some (f,false),.pointer e=>some (f,some e)
   |some (f,false),_=>some (f,none)
   |_,_=>none
   else none
  |none=>none
 |_,_=>none
def ah.qy (P:Program)(s:ah):Callee→List Operand→Option (FuncId×List GV×List (Nat×Option az))
 | .value fx,args=>match s.ev fx with
   | .gK (.func f) fs cs=>some (f,fs++args.map s.ev++cs,[])
   |_=>none
 | .invoke r name,args=>match s.ev r with
   | .fD t g=>match kv P t name with
     |some (f,none)=>some (f,g::args.map s.ev,[])
     |some (f,some e)=>match aM P e with
      |some d=>match s.deref g with
       |some (fr,cs)=>if d.size≤cs.length then some (f,T.mk d.k.agg (cs.take d.size)::args.map s.ev,fr)else none
       |none=>none
      |none=>none
     |none=>none
   |_=>none
 |_,_=>none
theorem ae2 {P:Program}{o:Oper}{fx:Operand}{args:Array Operand}{ats:Array TypeId}(ho:o.op= .call {callee:= .value fx,args:=args,argTypes:=ats}){a:Act}{f:FuncId}{first oC:Array Value}(hf:a.eval fx= .func (.func f) first oC)(he:QI P f)(w:World):
  (execOp a.eval o).run P w= .ok (.enter f (first++args.map a.eval++oC)) w:=by
 have:=he (first++args.map a.eval++oC) w
 simp only[execOp,ho,resolve,hf,Deferred.ofValue,Sem.run_bind,Sem.run_pure,Result.andThen_ok,invoke,this]
theorem Vd {C:Ctx}{env:Nat→GV}{get:Nat→Option az}{a:Act}{w:World}{ρ:Nat→Option Value}{D:Nat→Prop}(hR:Rel C env get a w ρ D){fx:Operand}{args:Array Operand}(hi:∀x∈bN s.env (fx::args.toList),env x.1=x.2){f:FuncId}{fs cs:List GV}(hf:s.ev fx= .gK (.func f) fs cs):
  ∃first oC,a.eval fx= .func (.func f) first oC∧(first++args.map a.eval++oC).size=(fs++args.toList.map s.ev++cs).length∧∀(i:Nat) (g:GV),(fs++args.toList.map s.ev++cs)[i]?=some g→bA ρ w D ((first++args.map a.eval++oC).getD i undef) g:=by
 have hr:=br hR hi (x:=fx) (List.mem_cons_self ..);rw[hf]at hr;generalize a.eval fx=v at hr
 cases hr with
 | @gK _ first oC _ _ h1 h2 h3 h4=>
 refine⟨first,oC,rfl,by simp[h1,h2],fun i g hg=>?_⟩
 simp only[Array.getD_eq_getD_getElem?,Array.getElem?_append,Array.size_append,Array.size_map,h1];simp only[List.getElem?_append,List.length_append,List.length_map]at hg;have kq:args.size=args.toList.length:=by simp
 rw[kq];split at hg
 ·rename_i ak
  rw[if_pos ak];split at hg
  ·rename_i adu
   rw[if_pos adu];simpa[Array.getD_eq_getD_getElem?]using h3 i g hg
  ·rename_i ov
   rw[if_neg ov];rw[List.getElem?_map,Option.map_eq_some_iff]at hg;obtain⟨x,hx,rfl⟩:=hg;have jN:args[i-fs.length]?=some x:=by simpa using hx
   simp only[Array.getElem?_map,jN,Option.map_some,Option.getD_some];exact br hR hi (List.mem_cons_of_mem _ (List.mem_of_getElem? hx))
 ·rename_i ov
  rw[if_neg ov];simpa[Array.getD_eq_getD_getElem?]using h4 _ g hg
theorem QJ {e:List (Nat×GV)}{xs ys:List Operand}{x:Nat×GV}(h:x∈bN e ys):x∈bN e (xs++ys):=by
 induction xs with
 |nil=>exact h
 |cons y xs ih=>cases y<;>first|exact ih|exact List.mem_cons_of_mem _ ih
theorem M_ {C:Ctx}{env:Nat→GV}{get:Nat→Option az}{a:Act}{w:World}{ρ:Nat→Option Value}{D:Nat→Prop}(hR:Rel C env get a w ρ D){args:Array Operand}(hi:∀x∈bN s.env args.toList,env x.1=x.2){v:Value}{g:GV}(h:bA ρ w D v g):
  (#[v]++args.map a.eval).size=(g::args.toList.map s.ev).length∧∀(i:Nat) (g':GV),(g::args.toList.map s.ev)[i]?=some g'→bA ρ w D ((#[v]++args.map a.eval).getD i undef) g':=by
 refine⟨by simp;omega,fun i g' hg=>?_⟩
 rcases i with _|i
 ·cases hg
  simpa[Array.getD_eq_getD_getElem?,Array.getElem?_append]using h
 ·simp only[List.getElem?_cons_succ,List.getElem?_map,Option.map_eq_some_iff]at hg
  obtain⟨x,hx,rfl⟩:=hg;have jN:args[i]?=some x:=by simpa using hx
  have:(#[v]++args.map a.eval)[i+1]?=some (a.eval x):=by simp[Array.getElem?_append,jN]
  rw[Array.getD_eq_getD_getElem?,this,Option.getD_some];exact br hR hi (List.mem_of_getElem? hx)
theorem Ve (ts:Array TypeId)(t:TypeId)(A:Addr)(x y:ByteArray)(w:World):(Builtin.ssaWrapNilChk_ ts t #[.pointer (some A),.string x,.string y]).run P w= .ok (.pointer (some A)) w:=by rfl
theorem Na {t:TypeId}{name:String}{f:FuncId}{e:Option TypeId}(h:kv P t name=some (f,e)){v:Value}{w:World}(n:Nat){v':Value}(hv:match e with|none=>v'=v|some e=>∃A,v= .pointer (some A)∧(loadVar e A).run P w= .ok v' w):(method (n+1) t v name).run P w= .ok (f,v') w:=by
 unfold kv at h
 cases hi:P.info? t with
 |none=>simp[hi]at h
 |some i=>
  cases hu:P.underlying t with
  |none=>simp[hi,hu]at h
  |some u=>
   simp only[hi,hu]at h
   cases hm:i.methods.find? (fun m=>m.name==name)with
   |none=>simp[hm]at h
   |some m=>
    simp only[hm]at h;split at h
    ·rename_i hp
     have Ox:(typeInfo t).run P w= .ok i w:=by simp[typeInfo,hi]
     have zq:m.path.isEmpty=true:=by simpa[Array.isEmpty_iff]using hp
     have hpa:m.path= #[]:=by simpa using hp
     rcases hf:m.func with _|⟨f',pr⟩
     ·simp[hf]at h
     ·cases pr
      ·cases u with
       |pointer e'=>
        simp only[hf,Option.some.injEq,Prod.mk.injEq]at h;obtain⟨rfl,rfl⟩:=h;obtain⟨A,rfl,hl⟩:=hv;simp[method,Ox,hm,hpa,follow,hf,receiverAt,run_underlying hu,Place.get,strVal,Ve,asAddr,hl]
       |_=>
        simp only[hf,Option.some.injEq,Prod.mk.injEq]at h;obtain⟨rfl,rfl⟩:=h;subst hv;simp[method,Ox,hm,hpa,follow,hf,receiverAt,run_underlying hu,Place.get]
      ·cases u with
       |pointer e'=>
        simp only[hf,Option.some.injEq,Prod.mk.injEq]at h;obtain⟨rfl,rfl⟩:=h;subst hv;simp[method,Ox,hm,hpa,follow,hf,receiverAt,run_underlying hu,Place.get]
       |_=>simp[hf]at h
    ·cases h
def RX:Callee→List Operand
 | .value f=>[f]
 | .invoke r _=>[r]
 | .builtin _=>[]
theorem Vf (c:Call):(Op.call c).operands.toList=RX c.callee++c.args.toList:=by
 obtain⟨callee,jQ,cts⟩:=c
 cases callee<;>simp[Op.operands,Call.operands,RX]
theorem Nb {c:Call}(ho:o.op= .call c){f:FuncId}{gs:List GV}{fr:List (Nat×Option az)}(ht:s.qy P c.callee c.args.toList=some (f,gs,fr))(he:QI P f){C:Ctx}{env:Nat→GV}{get:Nat→Option az}{a:Act}{w:World}{ρ:Nat→Option Value}{D:Nat→Prop}(hR:Rel C env get a w ρ D)
  (hf:∀x∈fr,get x.1=x.2) (hi:∀x∈bN s.env o.op.operands.toList,env x.1=x.2):
  ∃bR,(execOp a.eval o).run P w= .ok (.enter f bR) w∧bR.size=gs.length∧∀(i:Nat) (g:GV),gs[i]?=some g→bA ρ w D (bR.getD i undef) g:=by
 obtain⟨callee,jQ,cts⟩:=c;simp only at ht
 have Au:o.op.operands.toList=RX callee++jQ.toList:=by rw[ho,Vf]
 cases callee with
 |value fx=>
  simp only[ah.qy]at ht;split at ht
  ·rename_i f' fs cs hfx
   cases ht;obtain⟨first,oC,e1,h1,h2⟩:=Vd hR (fx:=fx) (args:=jQ) (fun x hx=>hi x (by rw[Au];exact hx)) hfx
   exact⟨_,ae2 ho e1 he w,h1,h2⟩
  ·cases ht
 |invoke r name=>
  simp only[ah.qy]at ht;have hr:=br hR (x:=r) (xs:=o.op.operands.toList) hi (by rw[Au];simp[RX])
  have hia:∀x∈bN s.env jQ.toList,env x.1=x.2:=fun x hx=>hi x (by rw[Au];exact QJ hx)
  split at ht
  ·rename_i t g hre
   rw[hre]at hr;generalize hv:a.eval r=v at hr
   cases hr with| @fD _ v _ hr=>
   have key:∀(v':Value) (g':GV) (e:Option TypeId),kv P t name=some (f,e)→gs=g'::jQ.toList.map s.ev→bA ρ w D v' g'→(match e with|none=>v'=v|some e=>∃A,v= .pointer (some A)∧(loadVar e A).run P w= .ok v' w)→
     ∃bR,(execOp a.eval o).run P w= .ok (.enter f bR) w∧bR.size=gs.length∧∀(i:Nat) (g:GV),gs[i]?=some g→bA ρ w D (bR.getD i undef) g:=by
    intro v' g' e hm dQ bu hl;have eV:=Na (w:=w) hm (P.types.size+99) (v':=v') (v:=v) (by cases e<;>exact hl)
    have vM:=he (#[v']++jQ.map a.eval) w;obtain⟨h1,h2⟩:=M_ hR hia bu;subst dQ;refine⟨#[v']++jQ.map a.eval,?_,h1,h2⟩;have hex:(#[Value.iface t v]++jQ.map a.eval).extract 1 (#[Value.iface t v]++jQ.map a.eval).size=jQ.map a.eval:=by
     apply Array.ext'
     simp
     exact List.take_of_length_le (by simp)
    have h0:(#[Value.iface t v]++jQ.map a.eval)[0]?=some (Value.iface t v):=by simp[Array.getElem?_append]
    simp only[execOp,ho,resolve,hv,Sem.run_bind,Sem.run_pure,Result.andThen_ok,invoke,h0,hex,callMethod,run_program];rw[show P.types.size+Made.depth=P.types.size+99+1 from rfl,eV]
    simp only[Result.andThen_ok];exact vM
   split at ht
   ·rename_i f' hm
    cases ht;exact key v g none hm rfl hr rfl
   ·rename_i f' e hm
    split at ht
    ·rename_i d YN
     split at ht
     ·rename_i hU cs EO
      split at ht
      ·rename_i kq
       cases ht;obtain⟨b,k,e1,hc⟩:=wR hR EO hf hr;have h1:=(c9 YN).2.2.2;have cI:∀j,j<d.size→w.cell? ⟨b,k+j,none⟩=some ((w.cell? ⟨b,k+j,none⟩).getD undef):=fun j hj=>by
        obtain⟨x,hx,_⟩:=hc j cs[j] (List.getElem?_eq_getElem (by omega))
        simp[hx]
       refine key _ _ (some e) hm rfl ?_ ⟨⟨b,k,none⟩,e1,nn YN h1 _ cI⟩;refine xW (by simp;omega) (fun i t hi=>?_) (by rcases h1 with h1|h1;exact .inl h1;right;simp;omega)
       rw[List.getElem?_take]at hi;split at hi
       ·rename_i ak
        obtain⟨x,hx,hr⟩:=hc i t hi;simpa[Array.getD_eq_getD_getElem?,ak,hx]using hr
       ·cases hi
      ·cases ht
     ·cases ht
    ·cases ht
   ·cases ht
  ·cases ht
 |builtin b=>simp[ah.qy]at ht
end
end Go.Proofs.YtabjbdnokpjipaaGreat.T
namespace Go.Proofs.YtabjbdnokpjipaaGreat.T
open Go Go.RowKit
theorem fE.call {P:Program}{E:List PanicEntry→World→Prop}{nt:Nat}{o:Oper}{fr:List (Nat×Option az)}{ins:List (Nat×GV)}{gv:GV}{Δ:List (Nat×az)}(hd:bO o nt=true)
  (h:∀C env get a w ρ D,(∀x∈fr,get x.1=x.2)→(∀x∈ins,env x.1=x.2)→Rel C env get a w ρ D→∃f bR,(execOp a.eval o).run P w= .ok (.enter f bR) w∧Calls P f bR w fun e w'=>(∃ch,e= .panicked ch∧E ch w')∨∃v ρ' D',e= .returned v∧Rel C env (upd get Δ) a w' ρ' D'∧bA ρ' w' D' v gv):fE P E nt o fr ins gv Δ:=by
 intro C env get a w K Q hn hf hi hR hK hE;obtain⟨ρ,D,hR⟩:=hR;obtain⟨f,bR,hv,hc⟩:=h C env get a w ρ D hf hi hR;unfold Oper.wp;rw[hv,Oper.upon_enter];refine hc.mono ?_;rintro e w' (⟨ch,rfl,he⟩|⟨v,ρ',D',rfl,ru,hg⟩)
 ·exact hE ch a w' hR.defers he
 ·refine hK _ _ ⟨ρ',D',ru.put (fun d e=>?_) hg⟩
  unfold bO at hd;rw[e]at hd;simpa[hn]using hd
section
variable {P:Program}{E:List PanicEntry→World→Prop}{nt:Nat}{o:Oper}{s:ah}
def φ (frag:List Nat)(nx:Nat)(b:Nat):Nat:=if b<frag.length then frag.getD b 0 else nx+(b-frag.length)
def rowOf:Option az→Bool
 |some (.rows ..)=>true
 |_=>false
structure Iz (s:ah) (rG:List GV) (frag peek:List Nat) (args':List GV) (sto0 sto':List (Nat×az)) (cnt:Nat):Prop where
 args:il s.get peek rG=ik (φ frag s.nx) args'
 nodup:frag.Nodup
 RY:∀b∈frag,b<s.nx
 apart:∀b∈peek,b∉frag
 rows:∀b∈peek,rowOf (s.get b)=true
 adw:∀b,b<frag.length→(s.get (frag.getD b 0))=(gt b sto0).map (az.bI (φ frag s.nx))∧(gt b sto0).isSome=true
 live:∀x∈sto0,x.1<frag.length∧x.2.live=true
 news:∀x∈sto',x.1<frag.length+cnt
def jL (s:ah)(frag peek:List Nat)(sto':List (Nat×az))(cnt:Nat):List (Nat×az):=
 ((List.range frag.length).map fun i=>(frag.getD i 0,match gt i sto' with|some y=>y.bI (φ frag s.nx)|none=> .dead))++((List.range cnt).map fun j=>(s.nx+j,match gt (frag.length+j) sto' with|some y=>y.bI (φ frag s.nx)|none=> .dead))++peek.map fun b=>(b,.dead)
def gr (s:ah)(frag peek:List Nat)(cnt:Nat):List (Nat×Option az):=(frag.map fun b=>(b,s.get b))++(peek.map fun b=>(b,s.get b))++(List.range cnt).map fun j=>(s.nx+j,none)
theorem rH {β:Type}(f:β→Nat×az){b:Nat}:∀{l:List β},(∀x∈l,(f x).1≠b)→gt b (l.map f)=none
 |[],_=>rfl
 |x::l,h=>by
  have h0:=h x (List.mem_cons_self ..);simp only[List.map_cons,gt];rw[if_neg (fun e=>h0 e.symm)]
  exact rH f fun y hy=>h y (List.mem_cons_of_mem _ hy)
theorem lY {β:Type}(f:β→Nat×az){b:Nat}{x:β}:∀{l:List β},x∈l→(f x).1=b→(∀y∈l,(f y).1=b→f y=f x)→gt b (l.map f)=some (f x).2
 |y::l,h,hb,hu=>by
  simp only[List.map_cons,gt];split
  ·rename_i e
   rw[hu y (List.mem_cons_self ..) e.symm]
  ·rename_i e
   rcases List.mem_cons.1 h with rfl|h
   ·exact absurd hb.symm e
   ·exact lY f h hb fun z hz=>hu z (List.mem_cons_of_mem _ hz)
theorem C0 {l:List Nat}(h:l.Nodup){i j:Nat}(hi:i<l.length)(hj:j<l.length)(e:l.getD i 0=l.getD j 0):i=j:=by
 simp only[List.getD_eq_getElem?_getD,List.getElem?_eq_getElem hi,List.getElem?_eq_getElem hj,Option.getD_some]at e;exact(List.getElem_inj h).1 e
theorem Nc {c:Call}(ho:o.op= .call c)(hd:bO o nt=true){f:FuncId}{rG:List GV}{cW:List (Nat×Option az)}(hf:s.qy P c.callee c.args.toList=some (f,rG,cW)){frag peek:List Nat}{args':List GV}{sto0 sto':List (Nat×az)}{cnt:Nat}{r:GV}
  (hT:TC P E f args' frag.length sto0 r sto') (hk:Iz s rG frag peek args' sto0 sto' cnt) (hr:∀b∈r.names,b<frag.length+cnt) (hsn:∀x∈sto',∀b∈x.2.names,b<frag.length+cnt):
  fE P E nt o (cW++gr s frag peek cnt) (bN s.env o.op.operands.toList) (r.bI (φ frag s.nx)) (jL s frag peek sto' cnt):=by
 refine .call hd fun C env get a w ρ D yh hi hR=>?_;have fO:∀x∈gr s frag peek cnt,get x.1=x.2:=fun x hx=>yh x (List.mem_append_right _ hx)
 obtain⟨vM,hT⟩:=hT;obtain⟨bR,e1,kq,lZ⟩:=Nb ho hf vM hR (fun x hx=>yh x (List.mem_append_left _ hx)) hi
 refine⟨f,bR,e1,?_⟩;have aci:∀b∈frag,get b=s.get b:=fun b hb=>fO (b,s.get b) (by simp only[gr,List.mem_append,List.mem_map];exact .inl (.inl ⟨b,hb,rfl⟩))
 have C1:∀b∈peek,get b=s.get b:=fun b hb=>fO (b,s.get b) (by simp only[gr,List.mem_append,List.mem_map];exact .inl (.inr ⟨b,hb,rfl⟩))
 have pC:∀j,j<cnt→get (s.nx+j)=none:=fun j hj=>fO (s.nx+j,none) (by simp only[gr,List.mem_append,List.mem_map,List.mem_range];exact .inr ⟨j,hj,rfl⟩)
 have EL:∀i,i<frag.length→frag.getD i 0∈frag:=fun i hi=>by
  simp only[List.getD_eq_getElem?_getD,List.getElem?_eq_getElem hi,Option.getD_some];exact List.getElem_mem hi
 have aaW:∀b∈peek,∃z,get b=some z∧z.live=true:=by
  intro b hb;have:=hk.rows b hb
  rw[C1 b hb];unfold rowOf at this;split at this
  ·rename_i h;exact⟨_,h,rfl⟩
  ·cases this
 obtain⟨D1,hR1,IA,YO⟩:=hR.consume peek aaW;have YP:∀c,gt c (peek.map fun b=>(b,az.dead))=if c∈peek then some .dead else none:=by
  intro c;by_cases hc:c∈peek
  ·rw[if_pos hc]
   exact lY (fun b=>(b,az.dead)) hc rfl fun y _ e=>by simp only at e;rw[e]
  ·rw[if_neg hc]
   exact rH _ fun x hx e=>hc (by simp only at e;rw[←e];exact hx)
 have YQ:∀c,upd get (peek.map fun b=>(b,az.dead)) c=if c∈peek then some .dead else get c:=by
  intro c;simp only[upd,YP];split<;>simp_all
 have Nd:∀i,i<frag.length→φ frag s.nx i=frag.getD i 0:=fun i hi=>by simp only[φ,if_pos hi]
 have abx:∀i,¬i<frag.length→φ frag s.nx i=s.nx+(i-frag.length):=fun i hi=>by simp only[φ,if_neg hi]
 have Nf:∀b y,gt b sto0=some y→b<frag.length∧y.live=true∧get (frag.getD b 0)=some (y.bI (φ frag s.nx))∧upd get (peek.map fun b=>(b,az.dead)) (frag.getD b 0)=some (y.bI (φ frag s.nx)):=by
  intro b y hy;obtain⟨h1,h2⟩:=hk.live _ (gq hy);obtain⟨h3,_⟩:=hk.adw b h1;rw[hy]at h3;have h4:get (frag.getD b 0)=some (y.bI (φ frag s.nx)):=by rw[aci _ (EL b h1),h3];rfl
  refine⟨h1,h2,h4,?_⟩;rw[YQ,if_neg fun h=>hk.apart _ h (EL b h1)]
  exact h4
 have hrc:∀(i:Nat) (g:GV),args'[i]?=some g→bA (fun b=>ρ (φ frag s.nx b)) w D1 (bR.getD i undef) g:=by
  intro i g hg;have hlen:args'.length=rG.length:=by
   have:=congrArg List.length hk.args
   rw[jG,dZ]at this;exact this.symm
  have Bm:i<rG.length:=by rw[←hlen];exact(List.getElem?_eq_some_iff.1 hg).1
  have h1:=lZ i _ (List.getElem?_eq_getElem Bm);have h2:=h1.cX (cs:=peek) hR IA YO;have h3:(ik (φ frag s.nx) args')[i]?=some (g.bI (φ frag s.nx)):=by rw[jF,hg];rfl
  rw[←hk.args,qx,List.getElem?_eq_getElem Bm]at h3;simp only[Option.map_some,Option.some.injEq]at h3;have h4:∀g:GV,g.cX get peek=g.cX s.get peek:=GV.ku C1
  rw[h4,h3]at h2;exact h2.bI fun b _ x hx=>hx
 refine(hT w _ (fun b=>ρ (φ frag s.nx b)) D1 (by rw[kq,←jG s.get peek,hk.args,dZ]) hrc (fun k cM=>(hR1.ro k cM).1) (fun b y hy=>?_) (fun b y g hy hl hg=>?_) (fun b y b' y' g hy hl eL bz hg bu=>?_)).mono ?_
 ·obtain⟨h1,h2,h3,h4⟩:=Nf b y hy
  simp only[Nd b h1];exact(hR1.blk _ _ h4).bI fun c _ x hx=>hx
 ·obtain⟨h1,h2,h3,h4⟩:=Nf b y hy
  simp only[Nd b h1]at hg;exact(hR1.own _ _ g h4 (by rw[az.eO];exact h2) hg).1
 ·obtain⟨h1,h2,h3,h4⟩:=Nf b y hy
  obtain⟨jg,ot,M8,YR⟩:=Nf b' y' eL;simp only[Nd b h1]at hg;simp only[Nd b' jg]at bu;exact C0 hk.nodup h1 jg (hR1.sep _ _ _ _ g h4 (by rw[az.eO];exact h2) YR (by rw[az.eO];exact ot) hg bu)
 rintro e w' (h|⟨v,C2,D2,rfl,hv,hP⟩)
 ·exact .inl h
 right
 have hMf:∀k,Mf sto0 (fun b=>ρ (φ frag s.nx b)) k→∃i z,i<frag.length∧get (frag.getD i 0)=some z∧z.live=true∧frag.getD i 0∉peek∧bS (ρ (frag.getD i 0))=some k:=by
  rintro k ⟨b,y,hy,hl,hg⟩;obtain⟨h1,h2,h3,h4⟩:=Nf b y hy;simp only[Nd b h1]at hg;exact⟨b,_,h1,h3,by rw[az.eO];exact h2,fun h=>hk.apart _ h (EL b h1),hg⟩
 have hMD:∀k,D1 k→¬Mf sto0 (fun b=>ρ (φ frag s.nx b)) k:=by
  intro k rA hm;obtain⟨i,z,h1,h2,h3,h4,h5⟩:=hMf k hm;exact(hR1.own _ z k (by rw[YQ,if_neg h4];exact h2) h3 h5).1 rA
 have hK:cD D1 w w':=fun k rA=>hP.old k (hR1.ro k rA).1 (hMD k rA)
 let ρ3:Nat→Option Value:=fun b=>if b<s.nx then ρ b else if b<s.nx+cnt then C2 (frag.length+(b-s.nx))else ρ b
 have YS:∀b x,ρ b=some x→ρ3 b=some x:=by
  intro b x hx;show(if b<s.nx then ρ b else if b<s.nx+cnt then C2 (frag.length+(b-s.nx))else ρ b)=some x
  by_cases h1:b<s.nx
  ·rw[if_pos h1];exact hx
  ·by_cases h2:b<s.nx+cnt
   ·have:=hR.free b (by have:=pC (b-s.nx) (by omega);rwa[show s.nx+(b-s.nx)=b by omega]at this)
    rw[hx]at this;cases this
   ·rw[if_neg h1,if_neg h2];exact hx
 have wY:∀b,b<frag.length+cnt→ρ3 (φ frag s.nx b)=C2 b:=by
  intro b hb;by_cases h1:b<frag.length
  ·rw[Nd b h1,hP.same b h1]
   have ak:=hk.RY _ (EL b h1);show(if frag.getD b 0<s.nx then ρ (frag.getD b 0)else _)=ρ (φ frag s.nx b)
   rw[if_pos ak,Nd b h1]
  ·rw[abx b h1]
   show(if s.nx+(b-frag.length)<s.nx then _ else if s.nx+(b-frag.length)<s.nx+cnt then C2 (frag.length+(s.nx+(b-frag.length)-s.nx))else _)=C2 b
   rw[if_neg (by omega),if_pos (by omega)]
   congr 1;omega
 let D3:Nat→Prop:=fun k=>D1 k∨D2 k
 have hD2:∀k,D2 k→k<w'.heap.size∧(D1 k∨Mf sto0 (fun b=>ρ (φ frag s.nx b)) k∨w.heap.size≤k):=hP.ro
 have dR:∀c y,upd get (jL s frag peek sto' cnt) c=some y→y.live=true→(∃b y',b<frag.length+cnt∧c=φ frag s.nx b∧gt b sto'=some y'∧y=y'.bI (φ frag s.nx))∨(c∉frag∧c∉peek∧get c=some y∧¬(s.nx≤c∧c<s.nx+cnt)):=by
  intro c y hy hl;simp only[upd,jL,oE]at hy;by_cases h1:c∈frag
  ·left
   obtain⟨i,fB,hic⟩:=List.getElem_of_mem h1;have YT:frag.getD i 0=c:=by simp[List.getD_eq_getElem?_getD,fB,hic]
   rw[lY (x:=i) _ (List.mem_range.2 fB) YT (fun j hj e=>by rw[C0 hk.nodup (List.mem_range.1 hj) fB (by simp only at e;rw[e,YT])])]at hy
   simp only[Option.some.injEq]at hy;split at hy
   ·rename_i y' eL
    exact⟨i,y',by omega,by rw[Nd i fB,YT],eL,hy.symm⟩
   ·subst hy;simp[az.live]at hl
  ·rw[rH _ (fun i fB e=>h1 (by simp only at e;rw[←e];exact EL i (List.mem_range.1 fB)))]at hy
   by_cases h2:s.nx≤c∧c<s.nx+cnt
   ·left
    rw[lY (x:=c-s.nx) _ (List.mem_range.2 (by omega)) (by simp only;omega) (fun j hj e=>by simp only at e;rw[show j=c-s.nx by omega])]at hy
    simp only[Option.some.injEq]at hy;split at hy
    ·rename_i y' eL
     refine⟨frag.length+(c-s.nx),y',by omega,by rw[abx _ (by omega)];omega,eL,hy.symm⟩
    ·subst hy;simp[az.live]at hl
   ·rw[rH _ (fun j hj e=>h2 (by have:=List.mem_range.1 hj;simp only at e;omega))]at hy
    by_cases h3:c∈peek
    ·rw[YP,if_pos h3]at hy
     simp only[Option.some.injEq]at hy;subst hy;simp[az.live]at hl
    ·rw[YP,if_neg h3]at hy
     exact .inr ⟨h1,h3,hy,h2⟩
 have hold:∀c y,c∉frag→c∉peek→get c=some y→y.live=true→∀g,bS (ρ c)=some g→¬D3 g∧¬Mf sto0 (fun b=>ρ (φ frag s.nx b)) g∧g<w.heap.size:=by
  intro c y h1 h2 hy hl g hg;have hmf:¬Mf sto0 (fun b=>ρ (φ frag s.nx b)) g:=by
   intro hm;obtain⟨i,z,i1,i2,i3,i4,i5⟩:=hMf g hm;have:=hR.sep c y _ z g hy hl i2 i3 hg i5
   exact h1 (this▸EL i i1)
  have ak:=hR.jr hy hl hg;have wG:=(hR1.own c y g (by rw[YQ,if_neg h2];exact hy) hl hg).1
  refine⟨?_,hmf,ak⟩;rintro(h|h)
  ·exact wG h
  ·rcases(hD2 g h).2 with h|h|h
   ·exact wG h
   ·exact hmf h
   ·omega
 have Ng:∀c y,get c=some y→¬(s.nx≤c∧c<s.nx+cnt)→ρ3 c=ρ c:=by
  intro c y _ h;show(if c<s.nx then ρ c else if c<s.nx+cnt then C2 (frag.length+(c-s.nx))else ρ c)=ρ c
  by_cases h1:c<s.nx
  ·rw[if_pos h1]
  ·rw[if_neg h1,if_neg (by omega)]
 have QK:∀g b y',gt b sto'=some y'→y'.live=true→bS (C2 b)=some g→¬D3 g∧(Mf sto0 (fun b=>ρ (φ frag s.nx b)) g∨w.heap.size≤g):=by
  intro g b y' eL hl hg;obtain⟨h1,h2⟩:=hP.own b y' g eL hl hg;refine⟨?_,h2⟩;rintro(h|h)
  ·rcases h2 with h2|h2
   ·exact hMD g h h2
   ·have:=(hR1.ro g h).1;omega
  ·exact h1 h
 have hMo:∀g,Mf sto0 (fun b=>ρ (φ frag s.nx b)) g∨w.heap.size≤g→C.M g∨C.W.heap.size≤g:=by
  rintro g (h|h)
  ·obtain⟨i,z,i1,i2,i3,i4,i5⟩:=hMf g h
   exact(hR.own _ z g i2 i3 i5).2
  ·have:=hR.size;exact .inr (by omega)
 have aeg:=hR.size;have ad_:=hP.size;refine⟨v,ρ3,D3,rfl,⟨hP.os.trans hR.os,hP.tape.trans hR.tape,hP.output.trans hR.output,by omega,fun k Z8 QL=>?_,fun k cM=>?_,fun c hc=>?_,fun c y hy=>?_,fun c y g hy hl hg=>?_,fun c y c' y' g hy hl eL bz hg bu=>?_,fun t=>(hR.env t).keep YS (fun k rA=>hK k (IA k rA)) (fun k rA=> .inl (IA k rA)),hR.defers,hR.nt,fun b x hx=>YS b x (hR.ext b x hx)⟩,?_⟩
 ·rw[hP.old k (by omega) (fun hm=>?_)]
  ·exact hR.old k Z8 QL
  ·rcases hMo k (.inl hm)with h|h
   ·exact QL h
   ·omega
 ·rcases cM with cM|cM
  ·have:=hR1.ro k cM
   exact⟨by omega,this.2⟩
  ·obtain⟨h1,h2⟩:=hD2 k cM
   refine⟨h1,?_⟩;rcases h2 with h2|h2
   ·exact(hR1.ro k h2).2
   ·exact .inr (hMo k h2)
 ·
  have Qh:gt c (jL s frag peek sto' cnt)=none∧get c=none:=by
   simp only[upd]at hc;split at hc
   ·cases hc
   ·rename_i h;exact⟨h,hc⟩
  have hcn:¬(s.nx≤c∧c<s.nx+cnt):=by
   intro h2;have h0:=Qh.1;simp only[jL,oE]at h0;split at h0
   ·cases h0
   ·rename_i IB
    split at IB
    ·cases IB
    ·rw[lY (x:=c-s.nx) _ (List.mem_range.2 (by omega)) (by simp only;omega) (fun j hj e=>by simp only at e;rw[show j=c-s.nx by omega])]at IB
     cases IB
  show(if c<s.nx then ρ c else if c<s.nx+cnt then C2 (frag.length+(c-s.nx))else ρ c)=none
  have:=hR.free c Qh.2
  by_cases h1:c<s.nx
  ·rw[if_pos h1];exact this
  ·rw[if_neg h1,if_neg (by omega)];exact this
 ·by_cases hl:y.live=true
  ·rcases dR c y hy hl with⟨b,y',b1,rfl,b2,rfl⟩|⟨h1,h2,h3,h4⟩
   ·rw[wY b b1]
    refine((hP.blk b y' b2).keep (fun _ _ h=>h) (cD.refl _ _) (fun k h=> .inr h) (.inr fun _ _=>rfl)).wW fun c' cI x hx=>?_;rw[wY c' (hsn _ (gq b2) c' cI)];exact hx
   ·rw[Ng c y h3 h4]
    exact(hR.blk c y h3).keep YS (fun k rA=>hK k (IA k rA)) (fun k rA=> .inl (IA k rA)) (.inr fun g hg=>by
     obtain⟨_,q2,q3⟩:=hold c y h1 h2 h3 hl g hg;exact hP.old g q3 q2)
  ·cases y with
   |dead=>trivial
   |box=>simp[az.live]at hl
   |rows=>simp[az.live]at hl
 ·rcases dR c y hy hl with⟨b,y',b1,rfl,b2,rfl⟩|⟨h1,h2,h3,h4⟩
  ·rw[wY b b1]at hg
   rw[az.eO]at hl;obtain⟨q1,q2⟩:=QK g b y' b2 hl hg;exact⟨q1,hMo g q2⟩
  ·rw[Ng c y h3 h4]at hg
   exact⟨(hold c y h1 h2 h3 hl g hg).1,(hR.own c y g h3 hl hg).2⟩
 ·rcases dR c y hy hl with⟨b,y1,b1,rfl,b2,rfl⟩|⟨h1,h2,h3,h4⟩
  ·rw[wY b b1]at hg
   rw[az.eO]at hl;rcases dR c' y' eL bz with⟨b',y1',XK,rfl,b2',rfl⟩|⟨jg,ot,M8,YR⟩
   ·rw[wY b' XK]at bu
    rw[az.eO]at bz;rw[hP.sep b y1 b' y1' g b2 hl b2' bz hg bu]
   ·rw[Ng c' y' M8 YR]at bu
    obtain⟨_,q2,q3⟩:=hold c' y' jg ot M8 bz g bu;rcases(QK g b y1 b2 hl hg).2 with h|h
    ·exact absurd h q2
    ·omega
  ·rw[Ng c y h3 h4]at hg
   rcases dR c' y' eL bz with⟨b',y1',XK,rfl,b2',rfl⟩|⟨jg,ot,M8,YR⟩
   ·rw[wY b' XK]at bu
    rw[az.eO]at bz;obtain⟨_,q2,q3⟩:=hold c y h1 h2 h3 hl g hg;rcases(QK g b' y1' b2' bz bu).2 with h|h
    ·exact absurd h q2
    ·omega
   ·rw[Ng c' y' M8 YR]at bu
    exact hR.sep c y c' y' g h3 hl M8 bz hg bu
 ·refine(hv.keep (fun _ _ h=>h) (cD.refl _ _) (fun k h=> .inr h)).wW fun b hb x hx=>?_
  rw[wY b (hr b hb)];exact hx
end
end Go.Proofs.YtabjbdnokpjipaaGreat.T
namespace Go.Proofs.YtabjbdnokpjipaaGreat.T
open Go Go.RowKit
def BL (P:Program)(rec:TypeId→Option (List Bool)):Nat→List Field→Option (List Bool)
 |_,[]=>some []
 |off,f::fs=>match rec f.type,aM P f.type,BL P rec (off+((aM P f.type).map TD.size).getD 0) fs with
  |some a,some d,some b=>if f.name≠ "_"∧f.offset=off∧a.length=d.size then some (a++b)else none
  |_,_,_=>none
def C3 (P:Program):Nat→TypeId→Option (List Bool)
 |0,_=>none
 |n+1,t=>match P.underlying t with
  |some (.int _)=>some [true]
  |some .bool=>some [false]
  |some (.struct fs)=>if P.stoodInHeld t=true then none else BL P (C3 P n) 0 fs.toList
  |_=>none
def lj (P:Program)(t:TypeId):Option (List Bool):=
 if P.eqGuardType P.depth t=true then none else match P.underlying t,aM P t with
  |some (.struct _),some _=>C3 P 8 t
  |_,_=>none
def oI:List Bool→List TV→List TV→Option Bool
 |[],[],[]=>some true
 |true::ks,.r (.v (.int k a))::xs,.r (.v (.int k' b))::ys=>if k=k' then(oI ks xs ys).map fun r=>decide (a=b)&&r else none
 |false::ks,.r (.v (.bool a))::xs,.r (.v (.bool b))::ys=>(oI ks xs ys).map fun r=>(a==b)&&r
 |_,_,_=>none
theorem C4:∀{ks:List Bool} {xs ys:List TV} {r:Bool},oI ks xs ys=some r→xs.length=ks.length∧ys.length=ks.length:=by
 intro ks;induction ks with
 |nil=>
  intro xs ys r h;unfold oI at h;split at h<;>simp_all
 |cons k ks ih=>
  intro xs ys r h;unfold oI at h;split at h
  ·simp_all
  ·rename_i e1;cases e1
   split at h
   ·obtain⟨r',h',_⟩:=Option.map_eq_some_iff.1 h
    have:=ih h'
    simp[this.1,this.2]
   ·cases h
  ·rename_i e1;cases e1
   obtain⟨r',h',_⟩:=Option.map_eq_some_iff.1 h;have:=ih h'
   simp[this.1,this.2]
  ·cases h
theorem YU:∀{a b:List Bool} {xs ys:List TV} {r:Bool},oI (a++b) xs ys=some r→∃r1 r2,oI a (xs.take a.length) (ys.take a.length)=some r1∧oI b (xs.drop a.length) (ys.drop a.length)=some r2∧r=(r1&&r2):=by
 intro a;induction a with
 |nil=>intro b xs ys r h;exact⟨true,r,by simp[oI],by simpa using h,by simp⟩
 |cons k a ih=>
  intro b xs ys r h;rw[List.cons_append]at h;unfold oI at h;split at h
  ·simp_all
  ·rename_i e1;cases e1
   split at h
   ·rename_i hk
    obtain⟨r',h',rfl⟩:=Option.map_eq_some_iff.1 h;obtain⟨r1,r2,h1,h2,rfl⟩:=ih h';exact⟨_,r2,by simp only[List.length_cons,List.take_succ_cons,oI,h1,hk,if_true];rfl,by simpa using h2,by simp[Bool.and_assoc]⟩
   ·cases h
  ·rename_i e1;cases e1
   obtain⟨r',h',rfl⟩:=Option.map_eq_some_iff.1 h;obtain⟨r1,r2,h1,h2,rfl⟩:=ih h';exact⟨_,r2,by simp only[List.length_cons,List.take_succ_cons,oI,h1];rfl,by simpa using h2,by simp[Bool.and_assoc]⟩
  ·cases h
section
variable {P:Program}{E:List PanicEntry→World→Prop}{nt:Nat}{o:Oper}{s:ah}{ρ:Nat→Option Value}{w:World}{D:Nat→Prop}
theorem rJ {t:TypeId}{d:TD}{u:TypeDesc}(h:aM P t=some d)(hu:P.underlying t=some u):d.k=vJ u:=by
 obtain⟨i,u',z,_,h2,_,_,_,_,h7⟩:=fS h;rw[hu]at h2
 cases h2;exact h7.symm
theorem yi (e:Nat){rec:TypeId→Option (List Bool)}(aby:∀t ks,rec t=some ks→∀d,aM P t=some d→∀(v v':Value) (xs ys:List TV) (r:Bool),bA ρ w D v (mk d.k.agg xs)→bA ρ w D v' (mk d.k.agg ys)→oI ks xs ys=some r→(Op.equalIn e t v v').run P w= .ok r w)
  {arr arr':Array Value} {ts ts':List TV} (hn:arr.size=ts.length) (Cb:arr'.size=ts'.length) (h:∀(i:Nat) (t:TV),ts[i]?=some t→cG ρ w D (arr.getD i undef) t) (h':∀(i:Nat) (t:TV),ts'[i]?=some t→cG ρ w D (arr'.getD i undef) t):
  ∀(fs:List Field) (off:Nat) (ks:List Bool) (r:Bool),BL P rec off fs=some ks→off≤ts.length→off≤ts'.length→oI ks (ts.drop off) (ts'.drop off)=some r→(Op.eqFields e arr arr' fs).run P w= .ok r w
 |[],off,ks,r,hl,h1,h2,hr=>by
  cases hl;unfold oI at hr;split at hr<;>simp_all[Op.eqFields]
 |f::fs,off,ks,r,hl,h1,h2,hr=>by
  unfold BL at hl;split at hl
  ·rename_i a d b ha hd hb
   split at hl
   ·rename_i hc
    obtain⟨c1,rfl,c3⟩:=hc
    cases hl;obtain⟨r1,r2,e1,e2,rfl⟩:=YU hr;have hlen:=C4 hr;simp only[List.length_drop,List.length_append]at hlen;have rr:=(c9 hd).2.2.2;obtain⟨v,q1,q2⟩:=uP (w:=w) hd hn h (k:=f.offset) (by omega) rr
    obtain⟨v',q3,q4⟩:=uP (w:=w) hd Cb h' (k:=f.offset) (by omega) rr
    rw[c3]at e1 e2;have k1:=aby _ _ ha d hd v v' _ _ r1 q2 q4 e1;simp only[hd,Option.map_some,Option.getD_some]at hb;have k2:=yi e aby hn Cb h h' fs (f.offset+d.size) b r2 hb (by omega) (by omega) (by rw[List.drop_drop,List.drop_drop]at e2;exact e2)
    simp only[Op.eqFields,c1,ne_eq,not_false_eq_true,if_true,Sem.run_bind,q1,q3,k1,Result.andThen_ok,Sem.run_ite]
    cases r1
    ·simp
    ·simp[k2]
   ·cases hl
  ·cases hl
theorem Nh (e:Nat):∀(n:Nat) (t:TypeId) (ks:List Bool),C3 P n t=some ks→∀d,aM P t=some d→∀(v v':Value) (xs ys:List TV) (r:Bool),bA ρ w D v (mk d.k.agg xs)→bA ρ w D v' (mk d.k.agg ys)→oI ks xs ys=some r→(Op.equalIn (e+n) t v v').run P w= .ok r w
 |0,t,ks,h,_,_,_,_,_,_,_,_,_,_=>by simp[C3]at h
 |n+1,t,ks,h,d,hd,v,v',xs,ys,r,hv,g_,hr=>by
  unfold C3 at h;split at h
  ·rename_i k hu
   cases h;have hk:=rJ hd hu;rw[hk]at hv g_;unfold oI at hr;split at hr
   ·simp_all
   ·rename_i e1;cases e1
    split at hr
    ·rename_i hk
     subst hk;obtain⟨r',h1,rfl⟩:=Option.map_eq_some_iff.1 hr;have:=C4 h1
     simp only[List.length_nil,List.length_eq_zero_iff]at this;obtain⟨rfl,rfl⟩:=this
     cases h1;have a1:=xX hv;have a2:=xX g_;subst a1 a2;rw[show e+(n+1)=(e+n)+1 from rfl,run_equalIn_int w _ _ _ _ _ _ hu]
     simp only[Bool.and_true];rfl
    ·cases hr
   ·rename_i e1;cases e1
   ·cases hr
  ·rename_i hu
   cases h;have hk:=rJ hd hu;rw[hk]at hv g_;unfold oI at hr;split at hr
   ·simp_all
   ·rename_i e1;cases e1
   ·rename_i e1;cases e1
    obtain⟨r',h1,rfl⟩:=Option.map_eq_some_iff.1 hr;have:=C4 h1
    simp only[List.length_nil,List.length_eq_zero_iff]at this;obtain⟨rfl,rfl⟩:=this
    cases h1;have a1:=uQ hv;have a2:=uQ g_;subst a1 a2;rw[show e+(n+1)=(e+n)+1 from rfl,run_equalIn_bool' w _ _ _ _ hu]
    simp
   ·cases hr
  ·rename_i fs hu
   split at h
   ·cases h
   ·rename_i aZ
    have hk:=rJ hd hu;rw[hk]at hv g_;simp only[vJ,TK.agg,mk,if_true]at hv g_;have te:P.fieldsOf t=fs:=by simp[Program.fieldsOf,hu]
    cases hv with
    |a hn hv=>
     cases g_ with
     |a Cb g_=>
      rw[show e+(n+1)=(e+n)+1 from rfl,run_equalIn_struct w _ t _ _ (by rw[te];exact hu) (by simpa using aZ),te]
      exact yi (e+n) (fun t ks h d hd v v' xs ys r q1 q2 q3=>Nh e n t ks h d hd v v' xs ys r q1 q2 q3) hn Cb hv g_ _ 0 ks r h (by omega) (by omega) hr
  ·cases h
def bb (P:Program)(t:TypeId):Bool:=match P.underlying t with
 |some .bool=>true
 |_=>false
def C5 (P:Program)(t:TypeId)(op:BinOp)(gx gy:GV):Option GV:=match gx,gy with
 | .a xs,.a ys=>match lj P t with
   |some ks=>match oI ks xs ys with
    |some r=>match op with
     | .eql=>some (gB r)
     | .neq=>some (gB (!r))
     |_=>none
    |none=>none
   |none=>none
 |_,_=>RK (bb P t) op gx gy
theorem YV {op:BinOp}{t yt:TypeId}{x y:Operand}(ho:o.op= .binOp op t x y yt)(hd:bO o nt=true){g:GV}(hg:C5 P t op (s.ev x) (s.ev y)=some g):fE P E nt o [] (bN s.env [x,y]) g []:=by
 unfold C5 at hg;split at hg
 ·rename_i xs ys ex ey
  refine .still hd fun C env get a w ρ D hf hi hR=>?_;have hx:=br hR hi (x:=x) (by simp)
  have hy:=br hR hi (x:=y) (by simp)
  rw[ex]at hx;rw[ey]at hy;split at hg
  ·rename_i ks EY
   split at hg
   ·rename_i r hr
    unfold lj at EY;split at EY
    ·cases EY
    ·rename_i BM
     split at EY
     ·rename_i fs d hu YN
      have rr:=rJ YN hu;have key:∀v v',bA ρ w D v (.a xs)→bA ρ w D v' (.a ys)→(Op.equalIn 10000 t v v').run P w= .ok r w:=fun v v' h1 h2=>
       Nh (P:=P) 9992 8 t ks EY d YN v v' xs ys r (by rw[rr];exact h1) (by rw[rr];exact h2) hr
      generalize ha:a.eval x=vx at hx;generalize hb:a.eval y=vy at hy;have key:=key vx vy hx hy
      cases hx with
      |a hn hx=>
       cases hy with
       |a Cb hy=>
        have BM:P.eqGuardType P.depth t=false:=by simpa using BM
        split at hg
        ·cases hg
         exact⟨.bool r,by simp[execOp,ho,ha,hb,run_eqGuard_agg w _ _ _ _ _ _ BM,run_eql_struct,key],.s (.r (.v rfl))⟩
        ·cases hg
         exact⟨.bool (!r),by simp[execOp,ho,ha,hb,run_eqGuard_agg w _ _ _ _ _ _ BM,run_neq_struct,key],.s (.r (.v rfl))⟩
        ·cases hg
     ·cases EY
   ·cases hg
  ·cases hg
 ·exact aaQ ho hd (fun h=>by unfold bb at h;split at h<;>simp_all) hg
def sS (P:Program)(t:TypeId):Option IntKind:=match P.underlying t with
 |some (.int k)=>some k
 |_=>none
theorem Ni {src dst:TypeId}{x:Operand}(ho:o.op= .convert src dst x)(hd:bO o nt=true){k k0 k1:IntKind}{n:Int}(h1:sS P src=some k1)(h2:sS P dst=some k)(h3:(s.ev x).i?=some (k0,n)):fE P E nt o [] (bN s.env [x]) (gI k (k.wrap n)) []:=by
 refine .still hd fun C env get a w ρ D hf hi hR=>?_;have hx:=GV.i_ h3 (br hR hi (x:=x) (by simp))
 unfold sS at h1 h2;split at h1
 ·rename_i u1
  split at h2
  ·rename_i u2
   cases h1;cases h2
   exact⟨.int k (k.wrap n),by simp[execOp,ho,hx,convert,run_underlying u1,run_underlying u2,Conv.intToInt],.s (.r (.v rfl))⟩
  ·cases h2
 ·cases h1
def Nj:GV→Bool
 | .s (.ptr _ _)| .s (.row _ _ _ _)| .s (.kN _ _)=>true
 |_=>false
theorem IC {x:Operand}(ho:o.op= .nilCheck x)(hd:bO o nt=true)(h:Nj (s.ev x)=true):fE P E nt o [] (bN s.env [x]) (s.ev x) []:=by
 refine .still hd fun C env get a w ρ D hf hi hR=>?_;have hx:=br hR hi (x:=x) (by simp)
 generalize hv:a.eval x=v at hx;have:∃A,v= .pointer (some A):=by
  unfold Nj at h;split at h
  ·rename_i e;rw[e]at hx;cases hx with|s hx=>cases hx with|ptr _=>exact⟨_,rfl⟩
  ·rename_i e;rw[e]at hx;cases hx with|s hx=>cases hx with|row _=>exact⟨_,rfl⟩
  ·rename_i e;rw[e]at hx;cases hx with|s hx=>cases hx with|kN _ _ _ _=>exact⟨_,rfl⟩
  ·cases h
 obtain⟨A,hA⟩:=this;exact⟨.pointer (some A),by simp[execOp,ho,hv,hA],hA▸hx⟩
end
end Go.Proofs.YtabjbdnokpjipaaGreat.T
