/-
What is proved: the walk of a region in a form that rewriting reckons ('run', 'TW.reg'). No condition.
-/
import Derived.Test.YtlhohdjniaebbaaGreatRy33
set_option linter.unusedVariables false
set_option linter.unusedSimpArgs false
namespace Go.Proofs.YtlhohdjniaebbaaGreat.T
open Go Go.RowKit
structure Out where
 p:Prop
 fr:List (Nat×Option ak)
 gv:GV
 Δ:List (Nat×ak)
 nx:Nat
def MR (P:Program)(s:ae)(t:TypeId)(n:Int)(g:GV):Option Out:=
 match aE P t with
 |some d=>match d.k with
  | .slice e=>match g with
    | .s (.own b)=>match s.get b with
      |some (.rows e' k xs)=>some ⟨0≤n∧(aE P e).map TD.size=some k∧n.toNat<xs.length,[(b,some (.rows e' k xs))],.s (.row b k n.toNat 0),[],s.nx⟩
      |_=>none
    | .s (.r (.sl k xs))=>match xs[n.toNat]? with
      |some y=>some ⟨0≤n∧(aE P e).map TD.size=some k,[],.s (.iZ y 0),[],s.nx⟩
      |none=>none
    |_=>none
  | .array m e=>match(aE P e).map TD.size with
    |some z=>match mP (n.toNat*z) g with
     |some g'=>some ⟨0≤n∧n.toNat<m,[],g',[],s.nx⟩
     |none=>none
    |none=>none
  |_=>none
 |none=>none
def Vg (P:Program)(s:ae)(t:TypeId)(b:Nat)(hi:Option Operand):Option Out:=
 match aE P t with
 |some d=>match d.k with
  | .slice e=>match aE P e with
    |some _=>match s.get b with
     |some (.rows e' k xs)=>match xJ s xs.length hi with
      |some h=>some ⟨h≤xs.length,[(s.nx,none),(b,some (.rows e' k xs))],.s (.own s.nx),[(s.nx,.rows e' k (xs.take h)),(b,.dead)],s.nx+1⟩
      |none=>none
     |_=>none
    |none=>none
  |_=>none
 |none=>none
def uO (P:Program)(s:ae)(t:TypeId)(x:Operand)(lo hi:Option Operand):Option Out:=
 match aE P t with
 |some d=>match d.k with
  | .slice e=>match aE P e with
    |some de=>match s.view (s.ev x)with
     |some (k,xs,fr)=>match xJ s 0 lo with
      |some l=>match xJ s xs.length hi with
       |some h=>some ⟨(k=de.size∨xs=[])∧l≤h∧h≤xs.length,fr,.s (.r (.sl de.size ((xs.take h).drop l))),(iQ (s.ev x)).map fun b=>(b,.dead),s.nx⟩
       |none=>none
      |none=>none
     |none=>none
    |none=>none
  |_=>none
 |none=>none
def EK (P:Program)(s:ae)(t:TypeId)(ax vx:Operand):Option Out:=
 match aE P t with
 |some d=>match(s.ev vx).cells? with
  |some ys=>match s.ev ax with
   | .s (.ptr b off)=>match s.get b with
     |some (.box cs)=>some ⟨ys.length=d.size∧off+ys.length≤cs.length,[(b,some (.box cs))],.u,[(b,.box (cU cs off ys))],s.nx⟩
     |_=>none
   | .s (.row b k i off)=>match s.get b with
     |some (.rows e k' xs)=>match xs[i]? with
      |some y=>match s.nn ys with
       |some (rs,bs)=>some ⟨k=k'∧ys.length=d.size∧off+ys.length≤y.length∧b∉bs,(b,some (.rows e k' xs))::bs.map (fun c=>(c,s.get c)),.u,(b,.rows e k' (xs.set i (cU y off rs)))::bs.map (fun c=>(c,.dead)),s.nx⟩
       |none=>none
      |none=>none
     |_=>none
   |_=>none
  |none=>none
 |none=>none
def oU (P:Program)(s:ae)(t n:Nat)(ps:List (Nat×Operand)):Option Out:=
 match aE P t with
 |some d=>match d.k with
  | .slice e=>match aE P e with
    |some de=>match oM s de.size 0 ps with
     |some (xs,bs)=>some ⟨0<de.size∧ps.length=n∧n*de.size≤16777216,(s.nx,none)::bs.map (fun c=>(c,s.get c)),.s (.own s.nx),(s.nx,.rows e de.size xs)::bs.map (fun c=>(c,.dead)),s.nx+1⟩
     |none=>none
    |none=>none
  |_=>none
 |none=>none
def qn (P:Program)(s:ae)(t:Nat)(lx cx:Operand):Option Out:=
 match aE P t with
 |some d=>match d.k with
  | .slice e=>match aE P e with
    |some de=>match(s.ev lx).i? with
     |some (_,n)=>match(s.ev cx).i? with
      |some (_,m)=>some ⟨0<de.size∧0≤n∧n≤m∧(de.bytes:Int)*m≤281474976710656∧m≤9223372036854775807,[(s.nx,none)],.s (.own s.nx),[(s.nx,.rows e de.size (List.replicate n.toNat (de.zero.map im)))],s.nx+1⟩
      |none=>none
     |none=>none
    |none=>none
  |_=>none
 |none=>none
def uP (P:Program)(s:ae)(t:Nat)(bx yx:Operand):Option Out:=
 match aE P t with
 |some d=>match d.k with
  | .slice e=>match aE P e with
    |some de=>match s.qM e de.size (s.ev bx)with
     |some (xs,ob)=>match s.view (s.ev yx)with
      |some (k,ys,fr)=>some ⟨0<de.size∧(k=de.size∨ys=[])∧(xs.length+ys.length)*de.bytes≤140737488355328∧xs.length+ys.length≤maxLen,(s.nx,none)::(Cm s ob++fr),.s (.own s.nx),(s.nx,.rows e de.size (xs++ys))::uE ob,s.nx+1⟩
      |none=>none
     |none=>none
    |none=>none
  |_=>none
 |none=>none
def EL (P:Program)(s:ae):Callee→List Operand→List TypeId→Option Out
 | .builtin .len,[x],[t]=>match aE P t with
   |some d=>match d.k with
    | .slice _=>match s.view (s.ev x)with
      |some (_,xs,fr)=>some ⟨True,fr,gI .i64 xs.length,[],s.nx⟩
      |none=>none
    |_=>none
   |none=>none
 | .builtin .max,[x,y],_=>match(s.ev x).i? with
   |some (k,m)=>match(s.ev y).i? with
    |some (_,n)=>some ⟨True,[],gI k (if n>m then n else m),[],s.nx⟩
    |none=>none
   |none=>none
 | .builtin .min,[x,y],_=>match(s.ev x).i? with
   |some (k,m)=>match(s.ev y).i? with
    |some (_,n)=>some ⟨True,[],gI k (if n<m then n else m),[],s.nx⟩
    |none=>none
   |none=>none
 | .builtin .append,[bx,yx],[t,t']=>if t=t' then uP P s t bx yx else none
 |_,_,_=>none
def EM (P:Program)(s:ae)(t:TypeId)(x ix:Operand):Option Out:=match aE P t with
 |some d=>match d.k with
  | .array m e=>match aE P e with
    |some de=>match(s.ev ix).i? with
     |some (_,n)=>match(s.ev x).agg? with
      |some ts=>some ⟨0≤n∧n<m∧n.toNat*de.size+de.size≤ts.length,[],mk de.k.agg ((ts.drop (n.toNat*de.size)).take de.size),[],s.nx⟩
      |none=>none
     |none=>none
    |none=>none
  |_=>none
 |none=>none
def Vh (P:Program)(s:ae):Op→Option Out
 | .move x=>some ⟨True,[],s.ev x,[],s.nx⟩
 | .assign x=>some ⟨True,[],s.ev x,[],s.nx⟩
 | .pick c x y=>match(s.ev c).b? with
   |some true=>some ⟨True,[],s.ev x,[],s.nx⟩
   |some false=>some ⟨True,[],s.ev y,[],s.nx⟩
   |none=>none
 | .alloc t=>match aE P t with
   |some d=>some ⟨True,[(s.nx,none)],.s (.ptr s.nx 0),[(s.nx,.box (d.zero.map fun x=> .r (im x)))],s.nx+1⟩
   |none=>none
 | .box _ x=>match(s.ev x).cells? with
   |some cs=>some ⟨True,[(s.nx,none)],.s (.ptr s.nx 0),[(s.nx,.box cs)],s.nx+1⟩
   |none=>none
 | .build t ps=>match aE P t with
   |some d=>match oI (placeOf (aE P) d.k) (d.zero.map fun x=> .r (im x)) (lV s ps.toList)with
    |some cs=>some ⟨d.k.agg=true∧(d.k.Cj.all fun t=>(aE P t).isSome)=true,[],.a cs,[],s.nx⟩
    |none=>none
   |none=>none
 | .buildSlice t n ps=>oU P s t n ps.toList
 | .load t x=>match aE P t with
   |some d=>match s.deref (s.ev x)with
    |some (fr,cs)=>some ⟨d.size≤cs.length,fr,mk d.k.agg (cs.take d.size),[],s.nx⟩
    |none=>none
   |none=>none
 | .store t ax vx=>EK P s t ax vx
 | .fieldAddr t x f=>match oF (aE P) t f with
   |some (k,d')=>match mP k (s.ev x)with
    |some g=>some ⟨d'.size≠0,[],g,[],s.nx⟩
    |none=>none
   |none=>none
 | .field t x f=>match oF (aE P) t f with
   |some (k,d')=>match(s.ev x).agg? with
    |some ts=>some ⟨k+d'.size≤ts.length,[],mk d'.k.agg ((ts.drop k).take d'.size),[],s.nx⟩
    |none=>none
   |none=>none
 | .indexAddr t x ix=>match(s.ev ix).i? with
   |some (_,n)=>MR P s t n (s.ev x)
   |none=>none
 | .index t x ix=>EM P s t x ix
 | .binOp op t x y _=>match zH P t op (s.ev x) (s.ev y)with
   |some g=>some ⟨True,[],g,[],s.nx⟩
   |none=>none
 | .convert src dst x=>match pv P src with
   |some _=>match pv P dst with
    |some k=>match(s.ev x).i? with
     |some (_,n)=>some ⟨True,[],gI k (k.wrap n),[],s.nx⟩
     |none=>none
    |none=>none
   |none=>none
 | .nilCheck x=>if Jh (s.ev x)=true then some ⟨True,[],s.ev x,[],s.nx⟩else none
 | .unOp .not _ x=>match(s.ev x).b? with
   |some b=>some ⟨True,[],gB (!b),[],s.nx⟩
   |none=>none
 | .unOp .neg _ x=>match(s.ev x).i? with
   |some (k,n)=>some ⟨True,[],gI k (k.wrap (0-n)),[],s.nx⟩
   |none=>none
 | .extract x i=>match(s.ev x).tup? with
   |some gs=>match gs[i]? with
    |some g=>some ⟨True,[],g,[],s.nx⟩
    |none=>none
   |none=>none
 | .makeFunc fn f c=>some ⟨True,[],.fQ fn (f.toList.map s.ev) (c.toList.map s.ev),[],s.nx⟩
 | .makeInterface t x=>some ⟨nu P t=true,[],.fC t (s.ev x),[],s.nx⟩
 | .typeAssert x _ t ok=>match(s.ev x).ifc? with
   |some (t',g)=>if t'=t then some ⟨nu P t=true,[],if ok=true then .p [g,gB true]else g,[],s.nx⟩else match aE P t with
    |some d=>some ⟨nu P t=true∧ok=true∧Oe P t=true,[],.p [mk d.k.agg (d.zero.map fun x=> .r (im x)),gB false],[],s.nx⟩
    |none=>none
   |none=>none
 | .makeSlice t lx cx=>qn P s t lx cx
 | .slice t x none hi none=>match s.ev x with
   | .s (.own b)=>Vg P s t b hi
   |_=>uO P s t x none hi
 | .slice t x lo hi none=>uO P s t x lo hi
 | .call c=>EL P s c.callee c.args.toList c.argTypes.toList
 |_=>none
theorem zP {P:Program}{E:List PanicEntry→World→Prop}{s:ae}{t:Nat}{bx yx:Operand}{out:Out}(h:uP P s t bx yx=some out)(hp:out.p){K:KT}(hK:K out.fr out.gv out.Δ out.nx):qQ P E s (.builtin .append) [bx,yx] [t,t] K:=by
 unfold uP at h;repeat' split at h
 all_goals(try cases h)
 exact⟨rfl,_,‹_›,_,‹_›,_,‹_›,hp.1,_,_,‹_›,_,_,_,‹_›,hp.2.1,hp.2.2.1,hp.2.2.2,hK⟩
theorem EN {P:Program}{E:List PanicEntry→World→Prop}{s:ae}{c:Callee}{xs:List Operand}{ts:List TypeId}{out:Out}(h:EL P s c xs ts=some out)(hp:out.p){K:KT}(hK:K out.fr out.gv out.Δ out.nx):qQ P E s c xs ts K:=by
 unfold EL at h;split at h
 ·repeat' split at h
  all_goals(try cases h)
  exact⟨_,‹_›,_,‹_›,_,_,_,‹_›,hK⟩
 ·split at h
  ·split at h
   ·cases h
    exact⟨_,_,‹_›,_,_,‹_›,hK⟩
   ·cases h
  ·cases h
 ·split at h
  ·split at h
   ·cases h
    exact⟨_,_,‹_›,_,_,‹_›,hK⟩
   ·cases h
  ·cases h
 ·split at h
  ·rename_i e;subst e;exact zP h hp hK
  ·cases h
 ·cases h
theorem zQ {P:Program}{E:List PanicEntry→World→Prop}{s:ae}{op:Op}{out:Out}(h:Vh P s op=some out)(hp:out.p){K:KT}(hK:K out.fr out.gv out.Δ out.nx):rR P E s op K:=by
 unfold Vh at h;split at h
 ·cases h;exact hK
 ·cases h;exact hK
 ·split at h
  ·cases h;exact⟨true,‹_›,fun _=>hK,fun h=>by cases h⟩
  ·cases h;exact⟨false,‹_›,fun h=>(by cases h),fun _=>hK⟩
  ·cases h
 ·split at h
  ·cases h;exact⟨_,‹_›,hK⟩
  ·cases h
 ·split at h
  ·cases h;exact⟨_,‹_›,hK⟩
  ·cases h
 ·repeat' split at h
  all_goals(try cases h)
  exact⟨_,‹_›,hp.1,hp.2,_,‹_›,hK⟩
 ·unfold oU at h
  repeat' split at h
  all_goals(try cases h)
  exact⟨_,‹_›,_,‹_›,_,‹_›,hp.1,hp.2.1,hp.2.2,_,_,‹_›,hK⟩
 ·repeat' split at h
  all_goals(try cases h)
  exact⟨_,‹_›,_,_,‹_›,hp,hK⟩
 ·unfold EK at h
  split at h
  ·split at h
   ·split at h
    ·rename_i ha
     split at h
     ·cases h
      refine⟨_,‹_›,_,‹_›,hp.1,?_⟩;rw[ha];exact⟨_,‹_›,hp.2,hK⟩
     ·cases h
    ·rename_i ha
     repeat' split at h
     all_goals(try cases h)
     obtain⟨rfl,h1,h2,h3⟩:=hp;refine⟨_,‹_›,_,‹_›,h1,?_⟩;rw[ha];exact⟨_,_,‹_›,_,‹_›,h2,_,_,‹_›,h3,hK⟩
    ·cases h
   ·cases h
  ·cases h
 ·repeat' split at h
  all_goals(try cases h)
  exact⟨_,_,‹_›,hp,_,‹_›,hK⟩
 ·repeat' split at h
  all_goals(try cases h)
  exact⟨_,_,‹_›,_,‹_›,hp,hK⟩
 ·split at h
  ·rename_i hn
   unfold MR at h;split at h
   ·rename_i hd
    split at h
    ·rename_i hk
     split at h
     ·rename_i eb
      split at h
      ·rename_i hg
       cases h;refine⟨_,_,hn,hp.1,?_⟩;unfold ae.elem;simp only[hd,hk,eb,hg];exact⟨hp.2.1,hp.2.2,hK⟩
      ·cases h
     ·rename_i eb
      split at h
      ·rename_i hy
       cases h;refine⟨_,_,hn,hp.1,?_⟩;unfold ae.elem;simp only[hd,hk,eb];exact⟨hp.2,_,hy,hK⟩
      ·cases h
     ·cases h
    ·rename_i hk
     split at h
     ·rename_i hz
      split at h
      ·rename_i ni
       cases h;refine⟨_,_,hn,hp.1,?_⟩;unfold ae.elem;simp only[hd,hk];exact⟨hp.2,_,_,hz,ni,hK⟩
      ·cases h
     ·cases h
    ·cases h
   ·cases h
  ·cases h
 ·unfold EM at h
  repeat' split at h
  all_goals(try cases h)
  exact⟨_,‹_›,_,_,‹_›,_,‹_›,_,_,‹_›,hp.1,hp.2.1,_,‹_›,hp.2.2,hK⟩
 ·split at h
  ·cases h;exact⟨_,‹_›,hK⟩
  ·cases h
 ·repeat' split at h
  all_goals(try cases h)
  exact⟨_,‹_›,_,‹_›,_,_,‹_›,hK⟩
 ·split at h
  ·cases h;exact⟨‹_›,hK⟩
  ·cases h
 ·split at h
  ·cases h;exact⟨_,‹_›,hK⟩
  ·cases h
 ·split at h
  ·cases h;exact⟨_,_,‹_›,hK⟩
  ·cases h
 ·repeat' split at h
  all_goals(try cases h)
  exact⟨_,‹_›,_,‹_›,hK⟩
 ·cases h;exact hK
 ·cases h;exact⟨hp,hK⟩
 ·split at h
  ·split at h
   ·cases h;exact⟨hp,_,_,‹_›,.inl ⟨‹_›,hK⟩⟩
   ·split at h
    ·cases h;exact⟨hp.1,_,_,‹_›,.inr ⟨‹_›,hp.2.1,hp.2.2,_,‹_›,hK⟩⟩
    ·cases h
  ·cases h
 ·unfold qn at h
  repeat' split at h
  all_goals(try cases h)
  exact⟨_,‹_›,_,‹_›,_,‹_›,hp.1,_,_,‹_›,_,_,‹_›,hp.2.1,hp.2.2.1,hp.2.2.2.1,hp.2.2.2.2,hK⟩
 ·split at h
  ·unfold Vg at h
   repeat' split at h
   all_goals(try cases h)
   exact .inl ⟨rfl,_,‹_›,_,‹_›,_,‹_›,_,_,_,_,‹_›,‹_›,_,‹_›,hp,hK⟩
  ·unfold uO at h
   repeat' split at h
   all_goals(try cases h)
   exact .inr ⟨_,‹_›,_,‹_›,_,‹_›,_,_,_,‹_›,hp.1,_,‹_›,_,‹_›,hp.2.1,hp.2.2,hK⟩
 ·unfold uO at h
  repeat' split at h
  all_goals(try cases h)
  exact .inr ⟨_,‹_›,_,‹_›,_,‹_›,_,_,_,‹_›,hp.1,_,‹_›,_,‹_›,hp.2.1,hp.2.2,hK⟩
 ·exact EN h hp hK
 ·cases h
structure Rg where
 P:Program
 E:List PanicEntry→World→Prop
 nt:Nat
 ops:Array Oper
 draw:Bool
def dP:Op→Bool
 | .call {callee:= .value _, .. }=>true
 | .call {callee:= .invoke _ _, .. }=>true
 |_=>false
abbrev CT:=Oper→List Oper→List (Nat ⊕ Nat)→ae→List Pl→(ae→Prop)→Prop
def Oi (r:Rg)(o:Oper):List Oper→Bool
 |o'::_=>match o'.guard with
  |some (j,_)=>decide (rT r.ops j=o.dst)
  |none=>false
 |[]=>false
def run (C:CT)(r:Rg):List Oper→ae→List Pl→(ae→Prop)→Prop
 |[],s,acc,K=>(r.draw=true→(nq (dx r.ops.toList)&&Ji acc.reverse (np (dx r.ops.toList)))=true)∧K s
 |o::os,s,acc,K=>bF o r.nt=true∧match o.guard with
  |none=>if dP o.op=true then C o os [] s acc K else match Vh r.P s o.op with
   |some out=>out.p∧if Oi r o os=true then match out.gv.b? with
     |some b=>if b=true then run C r os (s.step o.dst (gB true) out.Δ out.nx) (if r.draw then ir o [] out.fr out.Δ::acc else[]) K else run C r os (s.step o.dst (gB false) out.Δ out.nx) (if r.draw then ir o [] out.fr out.Δ::acc else[]) K
     |none=>False
    else run C r os (s.step o.dst out.gv out.Δ out.nx) (if r.draw then ir o [] out.fr out.Δ::acc else[]) K
   |none=>False
  |some (j,want)=>match rT r.ops j with
   |some d=>d<r.nt∧match lk d s.env with
    | .p []=>run C r os (s.step o.dst (.p []) [] s.nx) (if r.draw then([.inl d],match o.dst with|some d=>[.inl d]|none=>[])::acc else[]) K
    | .s (.r (.v (.bool b)))=>if b=want then if dP o.op=true then C o os [.inl d] s acc K else match Vh r.P s o.op with
      |some out=>out.p∧if Oi r o os=true then match out.gv.b? with
        |some b=>if b=true then run C r os (s.step o.dst (gB true) out.Δ out.nx) (if r.draw then ir o [.inl d] out.fr out.Δ::acc else[]) K else run C r os (s.step o.dst (gB false) out.Δ out.nx) (if r.draw then ir o [.inl d] out.fr out.Δ::acc else[]) K
        |none=>False
       else run C r os (s.step o.dst out.gv out.Δ out.nx) (if r.draw then ir o [.inl d] out.fr out.Δ::acc else[]) K
      |none=>False
      else run C r os (s.step o.dst (.p []) [] s.nx) (if r.draw then([.inl d],match o.dst with|some d=>[.inl d]|none=>[])::acc else[]) K
    |_=>False
   |none=>False
theorem GV.aai {g:GV}{b:Bool}(h:g.b?=some b):g=gB b:=by
 unfold GV.b? at h;split at h
 ·cases h;rfl
 ·cases h
theorem zR (d:Nat)(b:Bool):∀{e:List (Nat×GV)},lk d e=gB b→xc d (gB b) e=e
 |[],h=>by cases h
 |(u,x)::e,h=>by
  simp only[lk]at h;simp only[xc];split at h
  ·rename_i hu;rw[if_pos hu,h,hu]
  ·rename_i hu;rw[if_neg hu,zR d b h]
theorem Cr {s:ae}{d:Nat}{b:Bool}(h:lk d s.env=gB b):s.pH d b=s:=by
 unfold ae.pH;rw[zR d b h]
def aC (C:CT)(r:Rg)(o:Oper)(os:List Oper)(gd:List (Nat ⊕ Nat))(s:ae)(acc:List Pl)(K:ae→Prop):Prop:=
 rR r.P r.E s o.op fun fr gv Δ i_=>run C r os (s.step o.dst gv Δ i_) (if r.draw then ir o gd fr Δ::acc else[]) K
theorem uQ {P:Program}{E:List PanicEntry→World→Prop}{s:ae}{c:Callee}{xs:List Operand}{K K':KT}(h:qP P E s c xs K)(hK:∀fr gv Δ nx,K fr gv Δ nx→K' fr gv Δ nx):qP P E s c xs K':=by
 obtain⟨f,gs,cM,h1,fO,h2⟩:=h;refine⟨f,gs,cM,h1,fO,?_⟩;rcases h2 with⟨h0,r,h2,h3,h4⟩|⟨peek,bY,r,h2,h3,h4,h5,h6⟩|⟨frag,peek,bY,sto0,sto',cnt,r,h2,h3,h4,h5,h6⟩
 ·exact .inl ⟨h0,r,h2,h3,hK _ _ _ _ h4⟩
 ·exact .inr (.inl ⟨peek,bY,r,h2,h3,h4,h5,hK _ _ _ _ h6⟩)
 ·exact .inr (.inr ⟨frag,peek,bY,sto0,sto',cnt,r,h2,h3,h4,h5,hK _ _ _ _ h6⟩)
theorem zS {P:Program}{E:List PanicEntry→World→Prop}{s:ae}{op:Op}(hc:dP op=true){K K':KT}(h:rR P E s op K)(hK:∀fr gv Δ nx,K fr gv Δ nx→K' fr gv Δ nx):rR P E s op K':=by
 unfold dP at hc;split at hc
 ·exact uQ h hK
 ·exact uQ h hK
 ·cases hc
def js (r:Rg):CT:=fun o os gd s acc K=>rR r.P r.E s o.op fun fr gv Δ i_=>lX r.P r.E r.nt r.ops r.draw os (s.step o.dst gv Δ i_) (if r.draw=true then acc.reverse++[ir o gd fr Δ]else[]) fun s' pl=>(r.draw=true→(nq (dx r.ops.toList)&&Ji pl (np (dx r.ops.toList)))=true)∧K s'
theorem lY (r:Rg):∀(os:List Oper) (s:ae) (acc:List Pl) (K:ae→Prop),run (js r) r os s acc K→lX r.P r.E r.nt r.ops r.draw os s acc.reverse fun s' pl=>(r.draw=true→(nq (dx r.ops.toList)&&Ji pl (np (dx r.ops.toList)))=true)∧K s'
 |[],s,acc,K,h=>h
 |o::os,s,acc,K,h=>by
  have ih:∀s acc,run (js r) r os s acc K→lX r.P r.E r.nt r.ops r.draw os s acc.reverse fun s' pl=>(r.draw=true→(nq (dx r.ops.toList)&&Ji pl (np (dx r.ops.toList)))=true)∧K s':=fun s acc h=>lY r os s acc K h
  have Jp:∀(x:Pl),(if r.draw=true then x::acc else[]).reverse=if r.draw=true then acc.reverse++[x]else[]:=fun x=>by
   split<;>simp
  have XK:∀s x,run (js r) r os s (if r.draw=true then x::acc else[]) K→lX r.P r.E r.nt r.ops r.draw os s (if r.draw=true then acc.reverse++[x]else[]) fun s' pl=>(r.draw=true→(nq (dx r.ops.toList)&&Ji pl (np (dx r.ops.toList)))=true)∧K s':=fun s x h=>by
   rw[←Jp];exact ih _ _ h
  have Iv:∀{out:Out} {x:Pl},(if Oi r o os=true then match out.gv.b? with
    |some b=>if b=true then run (js r) r os (s.step o.dst (gB true) out.Δ out.nx) (if r.draw=true then x::acc else[]) K else run (js r) r os (s.step o.dst (gB false) out.Δ out.nx) (if r.draw=true then x::acc else[]) K
    |none=>False
   else run (js r) r os (s.step o.dst out.gv out.Δ out.nx) (if r.draw=true then x::acc else[]) K)→run (js r) r os (s.step o.dst out.gv out.Δ out.nx) (if r.draw=true then x::acc else[]) K:=by
   intro out x h;split at h
   ·split at h
    ·rename_i b hb
     rw[GV.aai hb]
     cases b
     ·simpa using h
     ·simpa using h
    ·exact h.elim
   ·exact h
  unfold run at h;obtain⟨hd,h⟩:=h;refine⟨hd,?_⟩;split at h
  ·rename_i hg
   rw[hg];simp only
   split at h
   ·exact h
   ·split at h
    ·exact zQ ‹_› h.1 (XK _ _ (Iv h.2))
    ·exact h.elim
  ·rename_i j want hg
   rw[hg];simp only
   split at h
   ·rename_i d hj
    obtain⟨h1,h⟩:=h;split at h
    ·rename_i hl
     exact⟨d,hj,h1,.inl ⟨by rw[hl];rfl,XK _ _ h⟩⟩
    ·rename_i b hl
     refine⟨d,hj,h1,.inr ⟨b,by rw[hl];rfl,fun hw=>?_,fun hw=>?_⟩⟩
     ·rw[if_pos hw]at h
      subst hw;rw[Cr hl];split at h
      ·exact h
      ·split at h
       ·exact zQ ‹_› h.1 (XK _ _ (Iv h.2))
       ·exact h.elim
     ·subst hw
      rw[if_neg (by cases want<;>simp)]at h
      rw[Cr hl];exact XK _ _ h
    ·exact h.elim
   ·exact h.elim
theorem af {c p q:Prop}[Decidable c](h1:c→p)(h2:¬c→q):if c then p else q:=by
 split
 ·exact h1 ‹_›
 ·exact h2 ‹_›
theorem TW.reg {P:Program}{E:List PanicEntry→World→Prop}{nt m id:Nat}{ops:Array Oper}{draw:Bool}{Q:Exit→ae→Prop}{s:ae}(rU:P.follows .mixedOrders=true)(hs:qm s=true)
  (h:∀(C:CT) (K:ae→Prop),(∀o os gd s acc,dP o.op=true→aC C ⟨P,E,nt,ops,draw⟩ o os gd s acc K→C o os gd s acc K)→(∀s',Q .normal s'→K s')→run C ⟨P,E,nt,ops,draw⟩ ops.toList s [] K):TW P E nt m (.region id ops draw) Q s:=by
 refine .region rU ⟨hs,lY ⟨P,E,nt,ops,draw⟩ _ _ _ _ (h (js _) _ (fun o os gd s acc hc h=>?_) fun _ h=>h)⟩
 refine zS hc h fun fr gv Δ nx h=>?_;have Jp:∀(x:Pl),(if draw=true then x::acc else[]).reverse=if draw=true then acc.reverse++[x]else[]:=fun x=>by
  split<;>simp
 have:=lY ⟨P,E,nt,ops,draw⟩ _ _ _ _ h
 simp only[Jp]at this;exact this
theorem tc {P:Program}{E:List PanicEntry→World→Prop}{s:ae}{c:Call}(hc:dP (.call c)=true){K:KT}(h:qP P E s c.callee c.args.toList K):rR P E s (.call c) K:=by
 obtain⟨callee,args,ts⟩:=c
 cases callee with
 |value fx=>exact h
 |invoke x n=>exact h
 |builtin b=>simp[dP]at hc
theorem aC.plain {C:CT}{r:Rg}{o:Oper}{os:List Oper}{gd:List (Nat ⊕ Nat)}{s:ae}{acc:List Pl}{K:ae→Prop}{c:Call}(ho:o.op= .call c)(hc:dP (.call c)=true){f:FuncId}{gs:List GV}{cM:List (Nat×Option ak)}(hf:s.qk r.P c.callee c.args.toList=some (f,gs,cM))(fO:∀x∈cM,s.get x.1=x.2)
  {res:GV} (hT:TC r.P r.E f gs 0 [] res []) (h0:dt gs=[]) (h1:res.names=[]) (h:run C r os (s.step o.dst res [] s.nx) (if r.draw then ir o gd cM []::acc else[]) K):aC C r o os gd s acc K:=by
 unfold aC;rw[ho];exact tc hc ⟨f,gs,cM,hf,fO,.inl ⟨h0,res,hT,h1,h⟩⟩
theorem aC.peek {C:CT}{r:Rg}{o:Oper}{os:List Oper}{gd:List (Nat ⊕ Nat)}{s:ae}{acc:List Pl}{K:ae→Prop}{c:Call}(ho:o.op= .call c)(hc:dP (.call c)=true){f:FuncId}{gs:List GV}{cM:List (Nat×Option ak)}(hf:s.qk r.P c.callee c.args.toList=some (f,gs,cM))(fO:∀x∈cM,s.get x.1=x.2)
  (peek:List Nat) {bM:List GV} (hg:fX s.get peek gs=bM) (gw:∀b∈peek,rowOf (s.get b)=true) {res:GV} (hT:TC r.P r.E f bM 0 [] res []) (h1:res.flat=true) (h:run C r os (s.step o.dst res [] s.nx) (if r.draw then ir o gd (cM++peek.map fun b=>(b,s.get b)) []::acc else[]) K):aC C r o os gd s acc K:=by
 unfold aC;rw[ho];exact tc hc ⟨f,gs,cM,hf,fO,.inr (.inl ⟨peek,bM,res,hT,hg,gw,h1,h⟩)⟩
theorem aC.any {C:CT}{r:Rg}{o:Oper}{os:List Oper}{gd:List (Nat ⊕ Nat)}{s:ae}{acc:List Pl}{K:ae→Prop}{c:Call}(ho:o.op= .call c)(hc:dP (.call c)=true){f:FuncId}{gs:List GV}{cM:List (Nat×Option ak)}(hf:s.qk r.P c.callee c.args.toList=some (f,gs,cM))(fO:∀x∈cM,s.get x.1=x.2)
  (frag peek:List Nat) {bY:List GV} {sto0 sto':List (Nat×ak)} (cnt:Nat) {res:GV} (hT:TC r.P r.E f bY frag.length sto0 res sto') (hk:EF s gs frag peek bY sto0 sto' cnt) (h1:∀b∈res.names,b<frag.length+cnt) (h2:∀x∈sto',∀b∈x.2.names,b<frag.length+cnt)
  (h:run C r os (s.step o.dst (res.bB (φ frag s.nx)) (iS s frag peek sto' cnt) (s.nx+cnt)) (if r.draw then ir o gd (cM++fD s frag peek cnt) (iS s frag peek sto' cnt)::acc else[]) K):aC C r o os gd s acc K:=by
 unfold aC;rw[ho];exact tc hc ⟨f,gs,cM,hf,fO,.inr (.inr ⟨frag,peek,bY,sto0,sto',cnt,res,hT,hk,h1,h2,h⟩)⟩
end Go.Proofs.YtlhohdjniaebbaaGreat.T
