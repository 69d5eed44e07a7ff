/-
What is proved: what interfaces do to trees: a value put behind one, asked for its and what rests on it. Conditions: as stated.
-/
import Derived.Test.YtlhohdjniaebbaaGreatRy31
import Derived.Test.YtlhohdjniaebbaaGreatRy28
import Derived.Laws.StructEq
set_option linter.unusedVariables false
set_option linter.unusedSimpArgs false
namespace Go.Proofs.YtlhohdjniaebbaaGreat.T
open Go Go.RowKit
def nu (P:Program)(t:TypeId):Bool:=match P.underlying t with
 |some (.interface _)=>false
 |some _=>true
 |none=>false
section
variable {P:Program}{E:List PanicEntry→World→Prop}{nt:Nat}{o:Oper}{s:ae}
theorem sY {t:TypeId}(h:nu P t=true):∃d,P.underlying t=some d∧∀m,d≠.interface m:=by
 unfold nu at h
 cases hu:P.underlying t with
 |none=>rw[hu]at h;cases h
 |some d=>
  refine⟨d,rfl,fun m e=>?_⟩
  subst e;rw[hu]at h
  cases h
theorem uH {t:TypeId}{x:Operand}(ho:o.op= .makeInterface t x)(hd:bF o nt=true)(h:nu P t=true):dT P E nt o [] (bE s.env [x]) (.fC t (s.ev x)) []:=by
 obtain⟨d,hu,hn⟩:=sY h;refine .still hd fun C env get a w ρ D hf hi hR=>⟨.iface t (a.eval x),?_,.fC (bc hR hi (x:=x) (by simp))⟩
 simp only[execOp,ho,Instr.makeInterface,Sem.run_bind,run_underlying hu,Result.andThen_ok]
 cases d<;>first|exact absurd rfl (hn _)|simp
def GV.ifc?:GV→Option (TypeId×GV)
 | .fC t g=>some (t,g)
 |_=>none
theorem Bv {x:Operand}{xt t:TypeId}{ok:Bool}(ho:o.op= .typeAssert x xt t ok)(hd:bF o nt=true)(h:nu P t=true){g:GV}(hx:(s.ev x).ifc?=some (t,g)):dT P E nt o [] (bE s.env [x]) (if ok=true then .p [g,gB true]else g) []:=by
 obtain⟨d,hu,hn⟩:=sY h;refine .still hd fun C env get a w ρ D hf hi hR=>?_;have hr:=bc hR hi (x:=x) (by simp)
 have hxe:s.ev x= .fC t g:=by
  unfold GV.ifc? at hx;split at hx
  ·rename_i e;cases hx;exact e
  ·cases hx
 rw[hxe]at hr;generalize hv:a.eval x=v at hr
 cases hr with| @fC _ v _ hr=>
 refine⟨if ok=true then .tuple #[v,.bool true]else v,?_,?_⟩
 ·simp only[execOp,ho,Instr.typeAssert,Sem.run_bind,run_underlying hu,Result.andThen_ok,hv]
  cases d<;>first|exact absurd rfl (hn _)|(cases ok<;>simp)
 ·cases ok
  ·exact hr
  ·refine .p rfl fun i g' hg=>?_
   rcases i with _|_|i
   ·cases hg;exact hr
   ·cases hg;exact .s (.r (.v rfl))
   ·simp at hg
def Oe (P:Program)(t:TypeId):Bool:=match P.info? t,aE P t with
 |some i,some d=>match i.zero with
  |some (.agg _)=>d.k.agg
  |some _=> !d.k.agg
  |none=>false
 |_,_=>false
theorem zz {x:Operand}{xt t:TypeId}(ho:o.op= .typeAssert x xt t true)(hd:bF o nt=true)(h:nu P t=true)(hz:Oe P t=true){d:TD}(ht:aE P t=some d){t':TypeId}{g:GV}(hx:(s.ev x).ifc?=some (t',g))(cv:t'≠t):dT P E nt o [] (bE s.env [x]) (.p [mk d.k.agg (d.zero.map fun x=> .r (im x)),gB false]) []:=by
 obtain⟨u,hu,hn⟩:=sY h;refine .still hd fun C env get a w ρ D hf hi hR=>?_;have hr:=bc hR hi (x:=x) (by simp)
 have hxe:s.ev x= .fC t' g:=by
  unfold GV.ifc? at hx;split at hx
  ·rename_i e;cases hx;exact e
  ·cases hx
 rw[hxe]at hr;generalize hv:a.eval x=v at hr
 cases hr with| @fC _ v _ hr=>
 obtain⟨i,u',z,h1,h2,h3,h4,h5,h6,h7⟩:=eF ht;refine⟨.tuple #[z,.bool false],?_,?_⟩
 ·simp only[execOp,ho,Instr.typeAssert,Sem.run_bind,run_underlying hu,Result.andThen_ok,hv]
  cases u<;>first|exact absurd rfl (hn _)|simp[cv,zeroValue,typeInfo,h1,h3]
 ·have hc:=fV.zero (ρ:=ρ) (w:=w) (D:=D) (cz ht).2.2.1
  have hzr:bg ρ w D z (mk d.k.agg (d.zero.map fun x=> .r (im x))):=by
   have hlen:=(cz ht).2.1;have EE:=uq (agg:=d.k.agg) (by rw[List.size_toArray,List.length_map]) hc.2 (by
    rcases(cz ht).2.2.2 with h|h
    ·exact .inl h
    ·right;rw[List.length_map,hlen,h])
   simp only[Oe,h1,ht,h3]at hz
   cases z with
   |agg cs=>
    have Sa:cs.toList=d.zero:=h6
    have Eu:d.k.agg=true:=hz
    rw[Eu]at EE⊢;rw[if_pos rfl,←Sa,Array.toArray_toList,Sa]at EE;exact EE
   |_=>
    have hf:d.k.agg=false:=by simpa using hz
    rw[hf]at EE⊢;rw[if_neg (by simp),←h6]at EE
    rw[←h6];exact EE
  refine .p rfl fun i g' hg=>?_;rcases i with _|_|i
  ·cases hg;exact hzr
  ·cases hg;exact .s (.r (.v rfl))
  ·simp at hg
def iG (P:Program)(t:TypeId)(name:String):Option (FuncId×Option TypeId):=match P.info? t,P.underlying t with
 |some i,some u=>match i.methods.find? (fun m=>m.name==name)with
  |some m=>if m.path.toList=[]then match m.func,u with
   |some (f,true),.pointer _=>some (f,none)
   |some (f,false),.pointer e=>some (f,some e)
   |some (f,false),_=>some (f,none)
   |_,_=>none
   else none
  |none=>none
 |_,_=>none
def ae.qk (P:Program)(s:ae):Callee→List Operand→Option (FuncId×List GV×List (Nat×Option ak))
 | .value fx,args=>match s.ev fx with
   | .fQ (.func f) fs cs=>some (f,fs++args.map s.ev++cs,[])
   |_=>none
 | .invoke r name,args=>match s.ev r with
   | .fC t g=>match iG P t name with
     |some (f,none)=>some (f,g::args.map s.ev,[])
     |some (f,some e)=>match aE P e with
      |some d=>match s.deref g with
       |some (fr,cs)=>if d.size≤cs.length then some (f,T.mk d.k.agg (cs.take d.size)::args.map s.ev,fr)else none
       |none=>none
      |none=>none
     |none=>none
   |_=>none
 |_,_=>none
theorem Rj {P:Program}{o:Oper}{fx:Operand}{args:Array Operand}{ats:Array TypeId}(ho:o.op= .call {callee:= .value fx,args:=args,argTypes:=ats}){a:Act}{f:FuncId}{first lS:Array Value}(hf:a.eval fx= .func (.func f) first lS)(he:ML P f)(w:World):
  (execOp a.eval o).run P w= .ok (.enter f (first++args.map a.eval++lS)) w:=by
 have:=he (first++args.map a.eval++lS) w
 simp only[execOp,ho,resolve,hf,Deferred.ofValue,Sem.run_bind,Sem.run_pure,Result.andThen_ok,invoke,this]
theorem Rk {C:Ctx}{env:Nat→GV}{get:Nat→Option ak}{a:Act}{w:World}{ρ:Nat→Option Value}{D:Nat→Prop}(hR:Rel C env get a w ρ D){fx:Operand}{args:Array Operand}(hi:∀x∈bE s.env (fx::args.toList),env x.1=x.2){f:FuncId}{fs cs:List GV}(hf:s.ev fx= .fQ (.func f) fs cs):
  ∃first lS,a.eval fx= .func (.func f) first lS∧(first++args.map a.eval++lS).size=(fs++args.toList.map s.ev++cs).length∧∀(i:Nat) (g:GV),(fs++args.toList.map s.ev++cs)[i]?=some g→bg ρ w D ((first++args.map a.eval++lS).getD i undef) g:=by
 have hr:=bc hR hi (x:=fx) (List.mem_cons_self ..);rw[hf]at hr;generalize a.eval fx=v at hr
 cases hr with
 | @fQ _ first lS _ _ h1 h2 h3 h4=>
 refine⟨first,lS,rfl,by simp[h1,h2],fun i g hg=>?_⟩
 simp only[Array.getD_eq_getD_getElem?,Array.getElem?_append,Array.size_append,Array.size_map,h1];simp only[List.getElem?_append,List.length_append,List.length_map]at hg;have jj:args.size=args.toList.length:=by simp
 rw[jj];split at hg
 ·rename_i aj
  rw[if_pos aj];split at hg
  ·rename_i abv
   rw[if_pos abv];simpa[Array.getD_eq_getD_getElem?]using h3 i g hg
  ·rename_i AN
   rw[if_neg AN];rw[List.getElem?_map,Option.map_eq_some_iff]at hg;obtain⟨x,hx,rfl⟩:=hg;have hY:args[i-fs.length]?=some x:=by simpa using hx
   simp only[Array.getElem?_map,hY,Option.map_some,Option.getD_some];exact bc hR hi (List.mem_cons_of_mem _ (List.mem_of_getElem? hx))
 ·rename_i AN
  rw[if_neg AN];simpa[Array.getD_eq_getD_getElem?]using h4 _ g hg
theorem MM {e:List (Nat×GV)}{xs ys:List Operand}{x:Nat×GV}(h:x∈bE e ys):x∈bE e (xs++ys):=by
 induction xs with
 |nil=>exact h
 |cons y xs ih=>cases y<;>first|exact ih|exact List.mem_cons_of_mem _ ih
theorem I9 {C:Ctx}{env:Nat→GV}{get:Nat→Option ak}{a:Act}{w:World}{ρ:Nat→Option Value}{D:Nat→Prop}(hR:Rel C env get a w ρ D){args:Array Operand}(hi:∀x∈bE s.env args.toList,env x.1=x.2){v:Value}{g:GV}(h:bg ρ w D v g):
  (#[v]++args.map a.eval).size=(g::args.toList.map s.ev).length∧∀(i:Nat) (g':GV),(g::args.toList.map s.ev)[i]?=some g'→bg ρ w D ((#[v]++args.map a.eval).getD i undef) g':=by
 refine⟨by simp;omega,fun i g' hg=>?_⟩
 rcases i with _|i
 ·cases hg
  simpa[Array.getD_eq_getD_getElem?,Array.getElem?_append]using h
 ·simp only[List.getElem?_cons_succ,List.getElem?_map,Option.map_eq_some_iff]at hg
  obtain⟨x,hx,rfl⟩:=hg;have hY:args[i]?=some x:=by simpa using hx
  have:(#[v]++args.map a.eval)[i+1]?=some (a.eval x):=by simp[Array.getElem?_append,hY]
  rw[Array.getD_eq_getD_getElem?,this,Option.getD_some];exact bc hR hi (List.mem_of_getElem? hx)
theorem Rl (ts:Array TypeId)(t:TypeId)(A:Addr)(x y:ByteArray)(w:World):(Builtin.ssaWrapNilChk_ ts t #[.pointer (some A),.string x,.string y]).run P w= .ok (.pointer (some A)) w:=by rfl
theorem I_ {t:TypeId}{name:String}{f:FuncId}{e:Option TypeId}(h:iG P t name=some (f,e)){v:Value}{w:World}(n:Nat){v':Value}(hv:match e with|none=>v'=v|some e=>∃A,v= .pointer (some A)∧(loadVar e A).run P w= .ok v' w):(method (n+1) t v name).run P w= .ok (f,v') w:=by
 unfold iG at h
 cases hi:P.info? t with
 |none=>simp[hi]at h
 |some i=>
  cases hu:P.underlying t with
  |none=>simp[hi,hu]at h
  |some u=>
   simp only[hi,hu]at h
   cases hm:i.methods.find? (fun m=>m.name==name)with
   |none=>simp[hm]at h
   |some m=>
    simp only[hm]at h;split at h
    ·rename_i hp
     have Kz:(typeInfo t).run P w= .ok i w:=by simp[typeInfo,hi]
     have XE:m.path.isEmpty=true:=by simpa[Array.isEmpty_iff]using hp
     have hpa:m.path= #[]:=by simpa using hp
     rcases hf:m.func with _|⟨f',pr⟩
     ·simp[hf]at h
     ·cases pr
      ·cases u with
       |pointer e'=>
        simp only[hf,Option.some.injEq,Prod.mk.injEq]at h;obtain⟨rfl,rfl⟩:=h;obtain⟨A,rfl,hl⟩:=hv;simp[method,Kz,hm,hpa,follow,hf,receiverAt,run_underlying hu,Place.get,strVal,Rl,asAddr,hl]
       |_=>
        simp only[hf,Option.some.injEq,Prod.mk.injEq]at h;obtain⟨rfl,rfl⟩:=h;subst hv;simp[method,Kz,hm,hpa,follow,hf,receiverAt,run_underlying hu,Place.get]
      ·cases u with
       |pointer e'=>
        simp only[hf,Option.some.injEq,Prod.mk.injEq]at h;obtain⟨rfl,rfl⟩:=h;subst hv;simp[method,Kz,hm,hpa,follow,hf,receiverAt,run_underlying hu,Place.get]
       |_=>simp[hf]at h
    ·cases h
def Of:Callee→List Operand
 | .value f=>[f]
 | .invoke r _=>[r]
 | .builtin _=>[]
theorem Rm (c:Call):(Op.call c).operands.toList=Of c.callee++c.args.toList:=by
 obtain⟨callee,ic,XF⟩:=c
 cases callee<;>simp[Op.operands,Call.operands,Of]
theorem I' {c:Call}(ho:o.op= .call c){f:FuncId}{gs:List GV}{fr:List (Nat×Option ak)}(ht:s.qk P c.callee c.args.toList=some (f,gs,fr))(he:ML P f){C:Ctx}{env:Nat→GV}{get:Nat→Option ak}{a:Act}{w:World}{ρ:Nat→Option Value}{D:Nat→Prop}(hR:Rel C env get a w ρ D)
  (hf:∀x∈fr,get x.1=x.2) (hi:∀x∈bE s.env o.op.operands.toList,env x.1=x.2):
  ∃bJ,(execOp a.eval o).run P w= .ok (.enter f bJ) w∧bJ.size=gs.length∧∀(i:Nat) (g:GV),gs[i]?=some g→bg ρ w D (bJ.getD i undef) g:=by
 obtain⟨callee,ic,XF⟩:=c;simp only at ht
 have wZ:o.op.operands.toList=Of callee++ic.toList:=by rw[ho,Rm]
 cases callee with
 |value fx=>
  simp only[ae.qk]at ht;split at ht
  ·rename_i f' fs cs hfx
   cases ht;obtain⟨first,lS,e1,h1,h2⟩:=Rk hR (fx:=fx) (args:=ic) (fun x hx=>hi x (by rw[wZ];exact hx)) hfx
   exact⟨_,Rj ho e1 he w,h1,h2⟩
  ·cases ht
 |invoke r name=>
  simp only[ae.qk]at ht;have hr:=bc hR (x:=r) (xs:=o.op.operands.toList) hi (by rw[wZ];simp[Of])
  have hia:∀x∈bE s.env ic.toList,env x.1=x.2:=fun x hx=>hi x (by rw[wZ];exact MM hx)
  split at ht
  ·rename_i t g hre
   rw[hre]at hr;generalize hv:a.eval r=v at hr
   cases hr with| @fC _ v _ hr=>
   have key:∀(v':Value) (g':GV) (e:Option TypeId),iG P t name=some (f,e)→gs=g'::ic.toList.map s.ev→bg ρ w D v' g'→(match e with|none=>v'=v|some e=>∃A,v= .pointer (some A)∧(loadVar e A).run P w= .ok v' w)→
     ∃bJ,(execOp a.eval o).run P w= .ok (.enter f bJ) w∧bJ.size=gs.length∧∀(i:Nat) (g:GV),gs[i]?=some g→bg ρ w D (bJ.getD i undef) g:=by
    intro v' g' e hm bW bf hl;have dA:=I_ (w:=w) hm (P.types.size+99) (v':=v') (v:=v) (by cases e<;>exact hl)
    have zA:=he (#[v']++ic.map a.eval) w;obtain⟨h1,h2⟩:=I9 hR hia bf;subst bW;refine⟨#[v']++ic.map a.eval,?_,h1,h2⟩;have hex:(#[Value.iface t v]++ic.map a.eval).extract 1 (#[Value.iface t v]++ic.map a.eval).size=ic.map a.eval:=by
     apply Array.ext'
     simp
     exact List.take_of_length_le (by simp)
    have h0:(#[Value.iface t v]++ic.map a.eval)[0]?=some (Value.iface t v):=by simp[Array.getElem?_append]
    simp only[execOp,ho,resolve,hv,Sem.run_bind,Sem.run_pure,Result.andThen_ok,invoke,h0,hex,callMethod,run_program];rw[show P.types.size+Made.depth=P.types.size+99+1 from rfl,dA]
    simp only[Result.andThen_ok];exact zA
   split at ht
   ·rename_i f' hm
    cases ht;exact key v g none hm rfl hr rfl
   ·rename_i f' e hm
    split at ht
    ·rename_i d U7
     split at ht
     ·rename_i fe cs lp
      split at ht
      ·rename_i jj
       cases ht;obtain⟨b,k,e1,hc⟩:=sV hR lp hf hr;have h1:=(cz U7).2.2.2;have cb:∀j,j<d.size→w.cell? ⟨b,k+j,none⟩=some ((w.cell? ⟨b,k+j,none⟩).getD undef):=fun j hj=>by
        obtain⟨x,hx,_⟩:=hc j cs[j] (List.getElem?_eq_getElem (by omega))
        simp[hx]
       refine key _ _ (some e) hm rfl ?_ ⟨⟨b,k,none⟩,e1,kQ U7 h1 _ cb⟩;refine uq (by simp;omega) (fun i t hi=>?_) (by rcases h1 with h1|h1;exact .inl h1;right;simp;omega)
       rw[List.getElem?_take]at hi;split at hi
       ·rename_i aj
        obtain⟨x,hx,hr⟩:=hc i t hi;simpa[Array.getD_eq_getD_getElem?,aj,hx]using hr
       ·cases hi
      ·cases ht
     ·cases ht
    ·cases ht
   ·cases ht
  ·cases ht
 |builtin b=>simp[ae.qk]at ht
end
end Go.Proofs.YtlhohdjniaebbaaGreat.T
namespace Go.Proofs.YtlhohdjniaebbaaGreat.T
open Go Go.RowKit
theorem dT.call {P:Program}{E:List PanicEntry→World→Prop}{nt:Nat}{o:Oper}{fr:List (Nat×Option ak)}{ins:List (Nat×GV)}{gv:GV}{Δ:List (Nat×ak)}(hd:bF o nt=true)
  (h:∀C env get a w ρ D,(∀x∈fr,get x.1=x.2)→(∀x∈ins,env x.1=x.2)→Rel C env get a w ρ D→∃f bJ,(execOp a.eval o).run P w= .ok (.enter f bJ) w∧Calls P f bJ w fun e w'=>(∃ch,e= .panicked ch∧E ch w')∨∃v ρ' D',e= .returned v∧Rel C env (upd get Δ) a w' ρ' D'∧bg ρ' w' D' v gv):dT P E nt o fr ins gv Δ:=by
 intro C env get a w K Q hn hf hi hR hK hE;obtain⟨ρ,D,hR⟩:=hR;obtain⟨f,bJ,hv,hc⟩:=h C env get a w ρ D hf hi hR;unfold Oper.wp;rw[hv,Oper.upon_enter];refine hc.mono ?_;rintro e w' (⟨ch,rfl,he⟩|⟨v,ρ',D',rfl,oH,hg⟩)
 ·exact hE ch a w' hR.defers he
 ·refine hK _ _ ⟨ρ',D',oH.put (fun d e=>?_) hg⟩
  unfold bF at hd;rw[e]at hd;simpa[hn]using hd
section
variable {P:Program}{E:List PanicEntry→World→Prop}{nt:Nat}{o:Oper}{s:ae}
def φ (frag:List Nat)(nx:Nat)(b:Nat):Nat:=if b<frag.length then frag.getD b 0 else nx+(b-frag.length)
def rowOf:Option ak→Bool
 |some (.rows ..)=>true
 |_=>false
structure EF (s:ae) (oR:List GV) (frag peek:List Nat) (bY:List GV) (sto0 sto':List (Nat×ak)) (cnt:Nat):Prop where
 args:fX s.get peek oR=fH (φ frag s.nx) bY
 nodup:frag.Nodup
 Og:∀b∈frag,b<s.nx
 apart:∀b∈peek,b∉frag
 rows:∀b∈peek,rowOf (s.get b)=true
 abw:∀b,b<frag.length→(s.get (frag.getD b 0))=(gt b sto0).map (ak.bB (φ frag s.nx))∧(gt b sto0).isSome=true
 live:∀x∈sto0,x.1<frag.length∧x.2.live=true
 news:∀x∈sto',x.1<frag.length+cnt
def iS (s:ae)(frag peek:List Nat)(sto':List (Nat×ak))(cnt:Nat):List (Nat×ak):=
 ((List.range frag.length).map fun i=>(frag.getD i 0,match gt i sto' with|some y=>y.bB (φ frag s.nx)|none=> .dead))++((List.range cnt).map fun j=>(s.nx+j,match gt (frag.length+j) sto' with|some y=>y.bB (φ frag s.nx)|none=> .dead))++peek.map fun b=>(b,.dead)
def fD (s:ae)(frag peek:List Nat)(cnt:Nat):List (Nat×Option ak):=(frag.map fun b=>(b,s.get b))++(peek.map fun b=>(b,s.get b))++(List.range cnt).map fun j=>(s.nx+j,none)
theorem oS {β:Type}(f:β→Nat×ak){b:Nat}:∀{l:List β},(∀x∈l,(f x).1≠b)→gt b (l.map f)=none
 |[],_=>rfl
 |x::l,h=>by
  have h0:=h x (List.mem_cons_self ..);simp only[List.map_cons,gt];rw[if_neg (fun e=>h0 e.symm)]
  exact oS f fun y hy=>h y (List.mem_cons_of_mem _ hy)
theorem jX {β:Type}(f:β→Nat×ak){b:Nat}{x:β}:∀{l:List β},x∈l→(f x).1=b→(∀y∈l,(f y).1=b→f y=f x)→gt b (l.map f)=some (f x).2
 |y::l,h,hb,hu=>by
  simp only[List.map_cons,gt];split
  ·rename_i e
   rw[hu y (List.mem_cons_self ..) e.symm]
  ·rename_i e
   rcases List.mem_cons.1 h with rfl|h
   ·exact absurd hb.symm e
   ·exact jX f h hb fun z hz=>hu z (List.mem_cons_of_mem _ hz)
theorem zB {l:List Nat}(h:l.Nodup){i j:Nat}(hi:i<l.length)(hj:j<l.length)(e:l.getD i 0=l.getD j 0):i=j:=by
 simp only[List.getD_eq_getElem?_getD,List.getElem?_eq_getElem hi,List.getElem?_eq_getElem hj,Option.getD_some]at e;exact(List.getElem_inj h).1 e
theorem Jb {c:Call}(ho:o.op= .call c)(hd:bF o nt=true){f:FuncId}{oR:List GV}{cM:List (Nat×Option ak)}(hf:s.qk P c.callee c.args.toList=some (f,oR,cM)){frag peek:List Nat}{bY:List GV}{sto0 sto':List (Nat×ak)}{cnt:Nat}{r:GV}
  (hT:TC P E f bY frag.length sto0 r sto') (hk:EF s oR frag peek bY sto0 sto' cnt) (hr:∀b∈r.names,b<frag.length+cnt) (rv:∀x∈sto',∀b∈x.2.names,b<frag.length+cnt):
  dT P E nt o (cM++fD s frag peek cnt) (bE s.env o.op.operands.toList) (r.bB (φ frag s.nx)) (iS s frag peek sto' cnt):=by
 refine .call hd fun C env get a w ρ D uI hi hR=>?_;have fO:∀x∈fD s frag peek cnt,get x.1=x.2:=fun x hx=>uI x (List.mem_append_right _ hx)
 obtain⟨zA,hT⟩:=hT;obtain⟨bJ,e1,jj,sZ⟩:=I' ho hf zA hR (fun x hx=>uI x (List.mem_append_left _ hx)) hi
 refine⟨f,bJ,e1,?_⟩;have aag:∀b∈frag,get b=s.get b:=fun b hb=>fO (b,s.get b) (by simp only[fD,List.mem_append,List.mem_map];exact .inl (.inl ⟨b,hb,rfl⟩))
 have zC:∀b∈peek,get b=s.get b:=fun b hb=>fO (b,s.get b) (by simp only[fD,List.mem_append,List.mem_map];exact .inl (.inr ⟨b,hb,rfl⟩))
 have mU:∀j,j<cnt→get (s.nx+j)=none:=fun j hj=>fO (s.nx+j,none) (by simp only[fD,List.mem_append,List.mem_map,List.mem_range];exact .inr ⟨j,hj,rfl⟩)
 have Bn:∀i,i<frag.length→frag.getD i 0∈frag:=fun i hi=>by
  simp only[List.getD_eq_getElem?_getD,List.getElem?_eq_getElem hi,Option.getD_some];exact List.getElem_mem hi
 have XG:∀b∈peek,∃z,get b=some z∧z.live=true:=by
  intro b hb;have:=hk.rows b hb
  rw[zC b hb];unfold rowOf at this;split at this
  ·rename_i h;exact⟨_,h,rfl⟩
  ·cases this
 obtain⟨D1,uJ,EG,U8⟩:=hR.consume peek XG;have U9:∀c,gt c (peek.map fun b=>(b,ak.dead))=if c∈peek then some .dead else none:=by
  intro c;by_cases hc:c∈peek
  ·rw[if_pos hc]
   exact jX (fun b=>(b,ak.dead)) hc rfl fun y _ e=>by simp only at e;rw[e]
  ·rw[if_neg hc]
   exact oS _ fun x hx e=>hc (by simp only at e;rw[←e];exact hx)
 have U_:∀c,upd get (peek.map fun b=>(b,ak.dead)) c=if c∈peek then some .dead else get c:=by
  intro c;simp only[upd,U9];split<;>simp_all
 have Jc:∀i,i<frag.length→φ frag s.nx i=frag.getD i 0:=fun i hi=>by simp only[φ,if_pos hi]
 have Yv:∀i,¬i<frag.length→φ frag s.nx i=s.nx+(i-frag.length):=fun i hi=>by simp only[φ,if_neg hi]
 have Jd:∀b y,gt b sto0=some y→b<frag.length∧y.live=true∧get (frag.getD b 0)=some (y.bB (φ frag s.nx))∧upd get (peek.map fun b=>(b,ak.dead)) (frag.getD b 0)=some (y.bB (φ frag s.nx)):=by
  intro b y hy;obtain⟨h1,h2⟩:=hk.live _ (eN hy);obtain⟨h3,_⟩:=hk.abw b h1;rw[hy]at h3;have h4:get (frag.getD b 0)=some (y.bB (φ frag s.nx)):=by rw[aag _ (Bn b h1),h3];rfl
  refine⟨h1,h2,h4,?_⟩;rw[U_,if_neg fun h=>hk.apart _ h (Bn b h1)]
  exact h4
 have hrc:∀(i:Nat) (g:GV),bY[i]?=some g→bg (fun b=>ρ (φ frag s.nx b)) w D1 (bJ.getD i undef) g:=by
  intro i g hg;have hlen:bY.length=oR.length:=by
   have:=congrArg List.length hk.args
   rw[gS,dc]at this;exact this.symm
  have zD:i<oR.length:=by rw[←hlen];exact(List.getElem?_eq_some_iff.1 hg).1
  have h1:=sZ i _ (List.getElem?_eq_getElem zD);have h2:=h1.cr (cs:=peek) hR EG U8;have h3:(fH (φ frag s.nx) bY)[i]?=some (g.bB (φ frag s.nx)):=by rw[gO,hg];rfl
  rw[←hk.args,nU,List.getElem?_eq_getElem zD]at h3;simp only[Option.map_some,Option.some.injEq]at h3;have h4:∀g:GV,g.cr get peek=g.cr s.get peek:=GV.iF zC
  rw[h4,h3]at h2;exact h2.bB fun b _ x hx=>hx
 refine(hT w _ (fun b=>ρ (φ frag s.nx b)) D1 (by rw[jj,←gS s.get peek,hk.args,dc]) hrc (fun k cQ=>(uJ.ro k cQ).1) (fun b y hy=>?_) (fun b y g hy hl hg=>?_) (fun b y b' y' g hy hl dq dm hg bf=>?_)).mono ?_
 ·obtain⟨h1,h2,h3,h4⟩:=Jd b y hy
  simp only[Jc b h1];exact(uJ.blk _ _ h4).bB fun c _ x hx=>hx
 ·obtain⟨h1,h2,h3,h4⟩:=Jd b y hy
  simp only[Jc b h1]at hg;exact(uJ.own _ _ g h4 (by rw[ak.du];exact h2) hg).1
 ·obtain⟨h1,h2,h3,h4⟩:=Jd b y hy
  obtain⟨ji,lL,I7,U'⟩:=Jd b' y' dq;simp only[Jc b h1]at hg;simp only[Jc b' ji]at bf;exact zB hk.nodup h1 ji (uJ.sep _ _ _ _ g h4 (by rw[ak.du];exact h2) U' (by rw[ak.du];exact lL) hg bf)
 rintro e w' (h|⟨v,zE,D2,rfl,hv,hP⟩)
 ·exact .inl h
 right
 have hMf:∀k,Mf sto0 (fun b=>ρ (φ frag s.nx b)) k→∃i z,i<frag.length∧get (frag.getD i 0)=some z∧z.live=true∧frag.getD i 0∉peek∧bI (ρ (frag.getD i 0))=some k:=by
  rintro k ⟨b,y,hy,hl,hg⟩;obtain⟨h1,h2,h3,h4⟩:=Jd b y hy;simp only[Jc b h1]at hg;exact⟨b,_,h1,h3,by rw[ak.du];exact h2,fun h=>hk.apart _ h (Bn b h1),hg⟩
 have hMD:∀k,D1 k→¬Mf sto0 (fun b=>ρ (φ frag s.nx b)) k:=by
  intro k oL hm;obtain⟨i,z,h1,h2,h3,h4,h5⟩:=hMf k hm;exact(uJ.own _ z k (by rw[U_,if_neg h4];exact h2) h3 h5).1 oL
 have hK:cj D1 w w':=fun k oL=>hP.old k (uJ.ro k oL).1 (hMD k oL)
 let XH:Nat→Option Value:=fun b=>if b<s.nx then ρ b else if b<s.nx+cnt then zE (frag.length+(b-s.nx))else ρ b
 have Va:∀b x,ρ b=some x→XH b=some x:=by
  intro b x hx;show(if b<s.nx then ρ b else if b<s.nx+cnt then zE (frag.length+(b-s.nx))else ρ b)=some x
  by_cases h1:b<s.nx
  ·rw[if_pos h1];exact hx
  ·by_cases h2:b<s.nx+cnt
   ·have:=hR.free b (by have:=mU (b-s.nx) (by omega);rwa[show s.nx+(b-s.nx)=b by omega]at this)
    rw[hx]at this;cases this
   ·rw[if_neg h1,if_neg h2];exact hx
 have s_:∀b,b<frag.length+cnt→XH (φ frag s.nx b)=zE b:=by
  intro b hb;by_cases h1:b<frag.length
  ·rw[Jc b h1,hP.same b h1]
   have aj:=hk.Og _ (Bn b h1);show(if frag.getD b 0<s.nx then ρ (frag.getD b 0)else _)=ρ (φ frag s.nx b)
   rw[if_pos aj,Jc b h1]
  ·rw[Yv b h1]
   show(if s.nx+(b-frag.length)<s.nx then _ else if s.nx+(b-frag.length)<s.nx+cnt then zE (frag.length+(s.nx+(b-frag.length)-s.nx))else _)=zE b
   rw[if_neg (by omega),if_pos (by omega)]
   congr 1;omega
 let D3:Nat→Prop:=fun k=>D1 k∨D2 k
 have hD2:∀k,D2 k→k<w'.heap.size∧(D1 k∨Mf sto0 (fun b=>ρ (φ frag s.nx b)) k∨w.heap.size≤k):=hP.ro
 have cc:∀c y,upd get (iS s frag peek sto' cnt) c=some y→y.live=true→(∃b y',b<frag.length+cnt∧c=φ frag s.nx b∧gt b sto'=some y'∧y=y'.bB (φ frag s.nx))∨(c∉frag∧c∉peek∧get c=some y∧¬(s.nx≤c∧c<s.nx+cnt)):=by
  intro c y hy hl;simp only[upd,iS,lU]at hy;by_cases h1:c∈frag
  ·left
   obtain⟨i,dQ,hic⟩:=List.getElem_of_mem h1;have Vb:frag.getD i 0=c:=by simp[List.getD_eq_getElem?_getD,dQ,hic]
   rw[jX (x:=i) _ (List.mem_range.2 dQ) Vb (fun j hj e=>by rw[zB hk.nodup (List.mem_range.1 hj) dQ (by simp only at e;rw[e,Vb])])]at hy
   simp only[Option.some.injEq]at hy;split at hy
   ·rename_i y' dq
    exact⟨i,y',by omega,by rw[Jc i dQ,Vb],dq,hy.symm⟩
   ·subst hy;simp[ak.live]at hl
  ·rw[oS _ (fun i dQ e=>h1 (by simp only at e;rw[←e];exact Bn i (List.mem_range.1 dQ)))]at hy
   by_cases h2:s.nx≤c∧c<s.nx+cnt
   ·left
    rw[jX (x:=c-s.nx) _ (List.mem_range.2 (by omega)) (by simp only;omega) (fun j hj e=>by simp only at e;rw[show j=c-s.nx by omega])]at hy
    simp only[Option.some.injEq]at hy;split at hy
    ·rename_i y' dq
     refine⟨frag.length+(c-s.nx),y',by omega,by rw[Yv _ (by omega)];omega,dq,hy.symm⟩
    ·subst hy;simp[ak.live]at hl
   ·rw[oS _ (fun j hj e=>h2 (by have:=List.mem_range.1 hj;simp only at e;omega))]at hy
    by_cases h3:c∈peek
    ·rw[U9,if_pos h3]at hy
     simp only[Option.some.injEq]at hy;subst hy;simp[ak.live]at hl
    ·rw[U9,if_neg h3]at hy
     exact .inr ⟨h1,h3,hy,h2⟩
 have hold:∀c y,c∉frag→c∉peek→get c=some y→y.live=true→∀g,bI (ρ c)=some g→¬D3 g∧¬Mf sto0 (fun b=>ρ (φ frag s.nx b)) g∧g<w.heap.size:=by
  intro c y h1 h2 hy hl g hg;have hmf:¬Mf sto0 (fun b=>ρ (φ frag s.nx b)) g:=by
   intro hm;obtain⟨i,z,i1,i2,i3,i4,i5⟩:=hMf g hm;have:=hR.sep c y _ z g hy hl i2 i3 hg i5
   exact h1 (this▸Bn i i1)
  have aj:=hR.gu hy hl hg;have sJ:=(uJ.own c y g (by rw[U_,if_neg h2];exact hy) hl hg).1
  refine⟨?_,hmf,aj⟩;rintro(h|h)
  ·exact sJ h
  ·rcases(hD2 g h).2 with h|h|h
   ·exact sJ h
   ·exact hmf h
   ·omega
 have Je:∀c y,get c=some y→¬(s.nx≤c∧c<s.nx+cnt)→XH c=ρ c:=by
  intro c y _ h;show(if c<s.nx then ρ c else if c<s.nx+cnt then zE (frag.length+(c-s.nx))else ρ c)=ρ c
  by_cases h1:c<s.nx
  ·rw[if_pos h1]
  ·rw[if_neg h1,if_neg (by omega)]
 have MN:∀g b y',gt b sto'=some y'→y'.live=true→bI (zE b)=some g→¬D3 g∧(Mf sto0 (fun b=>ρ (φ frag s.nx b)) g∨w.heap.size≤g):=by
  intro g b y' dq hl hg;obtain⟨h1,h2⟩:=hP.own b y' g dq hl hg;refine⟨?_,h2⟩;rintro(h|h)
  ·rcases h2 with h2|h2
   ·exact hMD g h h2
   ·have:=(uJ.ro g h).1;omega
  ·exact h1 h
 have hMo:∀g,Mf sto0 (fun b=>ρ (φ frag s.nx b)) g∨w.heap.size≤g→C.M g∨C.W.heap.size≤g:=by
  rintro g (h|h)
  ·obtain⟨i,z,i1,i2,i3,i4,i5⟩:=hMf g h
   exact(hR.own _ z g i2 i3 i5).2
  ·have:=hR.size;exact .inr (by omega)
 have ab5:=hR.size;have abX:=hP.size;refine⟨v,XH,D3,rfl,⟨hP.os.trans hR.os,hP.tape.trans hR.tape,hP.output.trans hR.output,by omega,fun k Wd hk2=>?_,fun k cQ=>?_,fun c hc=>?_,fun c y hy=>?_,fun c y g hy hl hg=>?_,fun c y c' y' g hy hl dq dm hg bf=>?_,fun t=>(hR.env t).keep Va (fun k oL=>hK k (EG k oL)) (fun k oL=> .inl (EG k oL)),hR.defers,hR.nt,fun b x hx=>Va b x (hR.ext b x hx)⟩,?_⟩
 ·rw[hP.old k (by omega) (fun hm=>?_)]
  ·exact hR.old k Wd hk2
  ·rcases hMo k (.inl hm)with h|h
   ·exact hk2 h
   ·omega
 ·rcases cQ with cQ|cQ
  ·have:=uJ.ro k cQ
   exact⟨by omega,this.2⟩
  ·obtain⟨h1,h2⟩:=hD2 k cQ
   refine⟨h1,?_⟩;rcases h2 with h2|h2
   ·exact(uJ.ro k h2).2
   ·exact .inr (hMo k h2)
 ·
  have vK:gt c (iS s frag peek sto' cnt)=none∧get c=none:=by
   simp only[upd]at hc;split at hc
   ·cases hc
   ·rename_i h;exact⟨h,hc⟩
  have hcn:¬(s.nx≤c∧c<s.nx+cnt):=by
   intro h2;have h0:=vK.1;simp only[iS,lU]at h0;split at h0
   ·cases h0
   ·rename_i EH
    split at EH
    ·cases EH
    ·rw[jX (x:=c-s.nx) _ (List.mem_range.2 (by omega)) (by simp only;omega) (fun j hj e=>by simp only at e;rw[show j=c-s.nx by omega])]at EH
     cases EH
  show(if c<s.nx then ρ c else if c<s.nx+cnt then zE (frag.length+(c-s.nx))else ρ c)=none
  have:=hR.free c vK.2
  by_cases h1:c<s.nx
  ·rw[if_pos h1];exact this
  ·rw[if_neg h1,if_neg (by omega)];exact this
 ·by_cases hl:y.live=true
  ·rcases cc c y hy hl with⟨b,y',b1,rfl,b2,rfl⟩|⟨h1,h2,h3,h4⟩
   ·rw[s_ b b1]
    refine((hP.blk b y' b2).keep (fun _ _ h=>h) (cj.refl _ _) (fun k h=> .inr h) (.inr fun _ _=>rfl)).sX fun c' cb x hx=>?_;rw[s_ c' (rv _ (eN b2) c' cb)];exact hx
   ·rw[Je c y h3 h4]
    exact(hR.blk c y h3).keep Va (fun k oL=>hK k (EG k oL)) (fun k oL=> .inl (EG k oL)) (.inr fun g hg=>by
     obtain⟨_,q2,q3⟩:=hold c y h1 h2 h3 hl g hg;exact hP.old g q3 q2)
  ·cases y with
   |dead=>trivial
   |box=>simp[ak.live]at hl
   |rows=>simp[ak.live]at hl
 ·rcases cc c y hy hl with⟨b,y',b1,rfl,b2,rfl⟩|⟨h1,h2,h3,h4⟩
  ·rw[s_ b b1]at hg
   rw[ak.du]at hl;obtain⟨q1,q2⟩:=MN g b y' b2 hl hg;exact⟨q1,hMo g q2⟩
  ·rw[Je c y h3 h4]at hg
   exact⟨(hold c y h1 h2 h3 hl g hg).1,(hR.own c y g h3 hl hg).2⟩
 ·rcases cc c y hy hl with⟨b,y1,b1,rfl,b2,rfl⟩|⟨h1,h2,h3,h4⟩
  ·rw[s_ b b1]at hg
   rw[ak.du]at hl;rcases cc c' y' dq dm with⟨b',y1',T5,rfl,b2',rfl⟩|⟨ji,lL,I7,U'⟩
   ·rw[s_ b' T5]at bf
    rw[ak.du]at dm;rw[hP.sep b y1 b' y1' g b2 hl b2' dm hg bf]
   ·rw[Je c' y' I7 U']at bf
    obtain⟨_,q2,q3⟩:=hold c' y' ji lL I7 dm g bf;rcases(MN g b y1 b2 hl hg).2 with h|h
    ·exact absurd h q2
    ·omega
  ·rw[Je c y h3 h4]at hg
   rcases cc c' y' dq dm with⟨b',y1',T5,rfl,b2',rfl⟩|⟨ji,lL,I7,U'⟩
   ·rw[s_ b' T5]at bf
    rw[ak.du]at dm;obtain⟨_,q2,q3⟩:=hold c y h1 h2 h3 hl g hg;rcases(MN g b' y1' b2' dm bf).2 with h|h
    ·exact absurd h q2
    ·omega
   ·rw[Je c' y' I7 U']at bf
    exact hR.sep c y c' y' g h3 hl I7 dm hg bf
 ·refine(hv.keep (fun _ _ h=>h) (cj.refl _ _) (fun k h=> .inr h)).sX fun b hb x hx=>?_
  rw[s_ b (hr b hb)];exact hx
end
end Go.Proofs.YtlhohdjniaebbaaGreat.T
namespace Go.Proofs.YtlhohdjniaebbaaGreat.T
open Go Go.RowKit
def xZ (P:Program)(rec:TypeId→Option (List Bool)):Nat→List Field→Option (List Bool)
 |_,[]=>some []
 |off,f::fs=>match rec f.type,aE P f.type,xZ P rec (off+((aE P f.type).map TD.size).getD 0) fs with
  |some a,some d,some b=>if f.name≠ "_"∧f.offset=off∧a.length=d.size then some (a++b)else none
  |_,_,_=>none
def zF (P:Program):Nat→TypeId→Option (List Bool)
 |0,_=>none
 |n+1,t=>match P.underlying t with
  |some (.int _)=>some [true]
  |some .bool=>some [false]
  |some (.struct fs)=>if P.stoodInHeld t=true then none else xZ P (zF P n) 0 fs.toList
  |_=>none
def gA (P:Program)(t:TypeId):Option (List Bool):=
 if P.eqGuardType P.depth t=true then none else match P.underlying t,aE P t with
  |some (.struct _),some _=>zF P 8 t
  |_,_=>none
def cu:List Bool→List TV→List TV→Option Bool
 |[],[],[]=>some true
 |true::ks,.r (.v (.int k a))::xs,.r (.v (.int k' b))::ys=>if k=k' then(cu ks xs ys).map fun r=>decide (a=b)&&r else none
 |false::ks,.r (.v (.bool a))::xs,.r (.v (.bool b))::ys=>(cu ks xs ys).map fun r=>(a==b)&&r
 |_,_,_=>none
theorem zG:∀{ks:List Bool} {xs ys:List TV} {r:Bool},cu ks xs ys=some r→xs.length=ks.length∧ys.length=ks.length:=by
 intro ks;induction ks with
 |nil=>
  intro xs ys r h;unfold cu at h;split at h<;>simp_all
 |cons k ks ih=>
  intro xs ys r h;unfold cu at h;split at h
  ·simp_all
  ·rename_i e1;cases e1
   split at h
   ·obtain⟨r',h',_⟩:=Option.map_eq_some_iff.1 h
    have:=ih h'
    simp[this.1,this.2]
   ·cases h
  ·rename_i e1;cases e1
   obtain⟨r',h',_⟩:=Option.map_eq_some_iff.1 h;have:=ih h'
   simp[this.1,this.2]
  ·cases h
theorem Vd:∀{a b:List Bool} {xs ys:List TV} {r:Bool},cu (a++b) xs ys=some r→∃r1 r2,cu a (xs.take a.length) (ys.take a.length)=some r1∧cu b (xs.drop a.length) (ys.drop a.length)=some r2∧r=(r1&&r2):=by
 intro a;induction a with
 |nil=>intro b xs ys r h;exact⟨true,r,by simp[cu],by simpa using h,by simp⟩
 |cons k a ih=>
  intro b xs ys r h;rw[List.cons_append]at h;unfold cu at h;split at h
  ·simp_all
  ·rename_i e1;cases e1
   split at h
   ·rename_i hk
    obtain⟨r',h',rfl⟩:=Option.map_eq_some_iff.1 h;obtain⟨r1,r2,h1,h2,rfl⟩:=ih h';exact⟨_,r2,by simp only[List.length_cons,List.take_succ_cons,cu,h1,hk,if_true];rfl,by simpa using h2,by simp[Bool.and_assoc]⟩
   ·cases h
  ·rename_i e1;cases e1
   obtain⟨r',h',rfl⟩:=Option.map_eq_some_iff.1 h;obtain⟨r1,r2,h1,h2,rfl⟩:=ih h';exact⟨_,r2,by simp only[List.length_cons,List.take_succ_cons,cu,h1];rfl,by simpa using h2,by simp[Bool.and_assoc]⟩
  ·cases h
section
variable {P:Program}{E:List PanicEntry→World→Prop}{nt:Nat}{o:Oper}{s:ae}{ρ:Nat→Option Value}{w:World}{D:Nat→Prop}
theorem oT {t:TypeId}{d:TD}{u:TypeDesc}(h:aE P t=some d)(hu:P.underlying t=some u):d.k=rO u:=by
 obtain⟨i,u',z,_,h2,_,_,_,_,h7⟩:=eF h;rw[hu]at h2
 cases h2;exact h7.symm
theorem uK (e:Nat){rec:TypeId→Option (List Bool)}(Yw:∀t ks,rec t=some ks→∀d,aE P t=some d→∀(v v':Value) (xs ys:List TV) (r:Bool),bg ρ w D v (mk d.k.agg xs)→bg ρ w D v' (mk d.k.agg ys)→cu ks xs ys=some r→(Op.equalIn e t v v').run P w= .ok r w)
  {arr arr':Array Value} {ts XI:List TV} (hn:arr.size=ts.length) (yv:arr'.size=XI.length) (h:∀(i:Nat) (t:TV),ts[i]?=some t→cn ρ w D (arr.getD i undef) t) (h':∀(i:Nat) (t:TV),XI[i]?=some t→cn ρ w D (arr'.getD i undef) t):
  ∀(fs:List Field) (off:Nat) (ks:List Bool) (r:Bool),xZ P rec off fs=some ks→off≤ts.length→off≤XI.length→cu ks (ts.drop off) (XI.drop off)=some r→(Op.eqFields e arr arr' fs).run P w= .ok r w
 |[],off,ks,r,hl,h1,h2,hr=>by
  cases hl;unfold cu at hr;split at hr<;>simp_all[Op.eqFields]
 |f::fs,off,ks,r,hl,h1,h2,hr=>by
  unfold xZ at hl;split at hl
  ·rename_i a d b ha hd hb
   split at hl
   ·rename_i hc
    obtain⟨c1,rfl,c3⟩:=hc
    cases hl;obtain⟨r1,r2,e1,e2,rfl⟩:=Vd hr;have hlen:=zG hr;simp only[List.length_drop,List.length_append]at hlen;have oG:=(cz hd).2.2.2;obtain⟨v,q1,q2⟩:=qK (w:=w) hd hn h (k:=f.offset) (by omega) oG
    obtain⟨v',q3,q4⟩:=qK (w:=w) hd yv h' (k:=f.offset) (by omega) oG
    rw[c3]at e1 e2;have k1:=Yw _ _ ha d hd v v' _ _ r1 q2 q4 e1;simp only[hd,Option.map_some,Option.getD_some]at hb;have k2:=uK e Yw hn yv h h' fs (f.offset+d.size) b r2 hb (by omega) (by omega) (by rw[List.drop_drop,List.drop_drop]at e2;exact e2)
    simp only[Op.eqFields,c1,ne_eq,not_false_eq_true,if_true,Sem.run_bind,q1,q3,k1,Result.andThen_ok,Sem.run_ite]
    cases r1
    ·simp
    ·simp[k2]
   ·cases hl
  ·cases hl
theorem Jf (e:Nat):∀(n:Nat) (t:TypeId) (ks:List Bool),zF P n t=some ks→∀d,aE P t=some d→∀(v v':Value) (xs ys:List TV) (r:Bool),bg ρ w D v (mk d.k.agg xs)→bg ρ w D v' (mk d.k.agg ys)→cu ks xs ys=some r→(Op.equalIn (e+n) t v v').run P w= .ok r w
 |0,t,ks,h,_,_,_,_,_,_,_,_,_,_=>by simp[zF]at h
 |n+1,t,ks,h,d,hd,v,v',xs,ys,r,hv,fM,hr=>by
  unfold zF at h;split at h
  ·rename_i k hu
   cases h;have hk:=oT hd hu;rw[hk]at hv fM;unfold cu at hr;split at hr
   ·simp_all
   ·rename_i e1;cases e1
    split at hr
    ·rename_i hk
     subst hk;obtain⟨r',h1,rfl⟩:=Option.map_eq_some_iff.1 hr;have:=zG h1
     simp only[List.length_nil,List.length_eq_zero_iff]at this;obtain⟨rfl,rfl⟩:=this
     cases h1;have a1:=uu hv;have a2:=uu fM;subst a1 a2;rw[show e+(n+1)=(e+n)+1 from rfl,run_equalIn_int w _ _ _ _ _ _ hu]
     simp only[Bool.and_true];rfl
    ·cases hr
   ·rename_i e1;cases e1
   ·cases hr
  ·rename_i hu
   cases h;have hk:=oT hd hu;rw[hk]at hv fM;unfold cu at hr;split at hr
   ·simp_all
   ·rename_i e1;cases e1
   ·rename_i e1;cases e1
    obtain⟨r',h1,rfl⟩:=Option.map_eq_some_iff.1 hr;have:=zG h1
    simp only[List.length_nil,List.length_eq_zero_iff]at this;obtain⟨rfl,rfl⟩:=this
    cases h1;have a1:=qL hv;have a2:=qL fM;subst a1 a2;rw[show e+(n+1)=(e+n)+1 from rfl,run_equalIn_bool' w _ _ _ _ hu]
    simp
   ·cases hr
  ·rename_i fs hu
   split at h
   ·cases h
   ·rename_i cC
    have hk:=oT hd hu;rw[hk]at hv fM;simp only[rO,TK.agg,mk,if_true]at hv fM;have pA:P.fieldsOf t=fs:=by simp[Program.fieldsOf,hu]
    cases hv with
    |a hn hv=>
     cases fM with
     |a yv fM=>
      rw[show e+(n+1)=(e+n)+1 from rfl,run_equalIn_struct w _ t _ _ (by rw[pA];exact hu) (by simpa using cC),pA]
      exact uK (e+n) (fun t ks h d hd v v' xs ys r q1 q2 q3=>Jf e n t ks h d hd v v' xs ys r q1 q2 q3) hn yv hv fM _ 0 ks r h (by omega) (by omega) hr
  ·cases h
def aJ (P:Program)(t:TypeId):Bool:=match P.underlying t with
 |some .bool=>true
 |_=>false
def zH (P:Program)(t:TypeId)(op:BinOp)(gx gy:GV):Option GV:=match gx,gy with
 | .a xs,.a ys=>match gA P t with
   |some ks=>match cu ks xs ys with
    |some r=>match op with
     | .eql=>some (gB r)
     | .neq=>some (gB (!r))
     |_=>none
    |none=>none
   |none=>none
 |_,_=>N6 (aJ P t) op gx gy
theorem Ve {op:BinOp}{t yt:TypeId}{x y:Operand}(ho:o.op= .binOp op t x y yt)(hd:bF o nt=true){g:GV}(hg:zH P t op (s.ev x) (s.ev y)=some g):dT P E nt o [] (bE s.env [x,y]) g []:=by
 unfold zH at hg;split at hg
 ·rename_i xs ys ex ey
  refine .still hd fun C env get a w ρ D hf hi hR=>?_;have hx:=bc hR hi (x:=x) (by simp)
  have hy:=bc hR hi (x:=y) (by simp)
  rw[ex]at hx;rw[ey]at hy;split at hg
  ·rename_i ks Rn
   split at hg
   ·rename_i r hr
    unfold gA at Rn;split at Rn
    ·cases Rn
    ·rename_i x_
     split at Rn
     ·rename_i fs d hu U7
      have oG:=oT U7 hu;have key:∀v v',bg ρ w D v (.a xs)→bg ρ w D v' (.a ys)→(Op.equalIn 10000 t v v').run P w= .ok r w:=fun v v' h1 h2=>
       Jf (P:=P) 9992 8 t ks Rn d U7 v v' xs ys r (by rw[oG];exact h1) (by rw[oG];exact h2) hr
      generalize ha:a.eval x=vx at hx;generalize hb:a.eval y=vy at hy;have key:=key vx vy hx hy
      cases hx with
      |a hn hx=>
       cases hy with
       |a yv hy=>
        have x_:P.eqGuardType P.depth t=false:=by simpa using x_
        split at hg
        ·cases hg
         exact⟨.bool r,by simp[execOp,ho,ha,hb,run_eqGuard_agg w _ _ _ _ _ _ x_,run_eql_struct,key],.s (.r (.v rfl))⟩
        ·cases hg
         exact⟨.bool (!r),by simp[execOp,ho,ha,hb,run_eqGuard_agg w _ _ _ _ _ _ x_,run_neq_struct,key],.s (.r (.v rfl))⟩
        ·cases hg
     ·cases Rn
   ·cases hg
  ·cases hg
 ·exact Xw ho hd (fun h=>by unfold aJ at h;split at h<;>simp_all) hg
def pv (P:Program)(t:TypeId):Option IntKind:=match P.underlying t with
 |some (.int k)=>some k
 |_=>none
theorem Jg {src dst:TypeId}{x:Operand}(ho:o.op= .convert src dst x)(hd:bF o nt=true){k k0 k1:IntKind}{n:Int}(h1:pv P src=some k1)(h2:pv P dst=some k)(h3:(s.ev x).i?=some (k0,n)):dT P E nt o [] (bE s.env [x]) (gI k (k.wrap n)) []:=by
 refine .still hd fun C env get a w ρ D hf hi hR=>?_;have hx:=GV.fU h3 (bc hR hi (x:=x) (by simp))
 unfold pv at h1 h2;split at h1
 ·rename_i u1
  split at h2
  ·rename_i u2
   cases h1;cases h2
   exact⟨.int k (k.wrap n),by simp[execOp,ho,hx,convert,run_underlying u1,run_underlying u2,Conv.intToInt],.s (.r (.v rfl))⟩
  ·cases h2
 ·cases h1
def Jh:GV→Bool
 | .s (.ptr _ _)| .s (.row _ _ _ _)| .s (.iZ _ _)=>true
 |_=>false
theorem EI {x:Operand}(ho:o.op= .nilCheck x)(hd:bF o nt=true)(h:Jh (s.ev x)=true):dT P E nt o [] (bE s.env [x]) (s.ev x) []:=by
 refine .still hd fun C env get a w ρ D hf hi hR=>?_;have hx:=bc hR hi (x:=x) (by simp)
 generalize hv:a.eval x=v at hx;have:∃A,v= .pointer (some A):=by
  unfold Jh at h;split at h
  ·rename_i e;rw[e]at hx;cases hx with|s hx=>cases hx with|ptr _=>exact⟨_,rfl⟩
  ·rename_i e;rw[e]at hx;cases hx with|s hx=>cases hx with|row _=>exact⟨_,rfl⟩
  ·rename_i e;rw[e]at hx;cases hx with|s hx=>cases hx with|iZ _ _ _ _=>exact⟨_,rfl⟩
  ·cases h
 obtain⟨A,hA⟩:=this;exact⟨.pointer (some A),by simp[execOp,ho,hv,hA],hA▸hx⟩
end
end Go.Proofs.YtlhohdjniaebbaaGreat.T
