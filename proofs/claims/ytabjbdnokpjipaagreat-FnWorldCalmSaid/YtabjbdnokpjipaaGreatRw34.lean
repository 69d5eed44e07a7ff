/-
What is proved: the walk of a region in a form that rewriting reckons ('run', 'TW.reg'). No condition.
-/
import Derived.Test.YtabjbdnokpjipaaGreatRw33
set_option linter.unusedVariables false
set_option linter.unusedSimpArgs false
namespace Go.Proofs.YtabjbdnokpjipaaGreat.T
open Go Go.RowKit
structure Out where
 p:Prop
 fr:List (Nat×Option az)
 gv:GV
 Δ:List (Nat×az)
 nx:Nat
def QP (P:Program)(s:ah)(t:TypeId)(n:Int)(g:GV):Option Out:=
 match aM P t with
 |some d=>match d.k with
  | .slice e=>match g with
    | .s (.own b)=>match s.get b with
      |some (.rows e' k xs)=>some ⟨0≤n∧(aM P e).map TD.size=some k∧n.toNat<xs.length,[(b,some (.rows e' k xs))],.s (.row b k n.toNat 0),[],s.nx⟩
      |_=>none
    | .s (.r (.sl k xs))=>match xs[n.toNat]? with
      |some y=>some ⟨0≤n∧(aM P e).map TD.size=some k,[],.s (.kN y 0),[],s.nx⟩
      |none=>none
    |_=>none
  | .array m e=>match(aM P e).map TD.size with
    |some z=>match pw (n.toNat*z) g with
     |some g'=>some ⟨0≤n∧n.toNat<m,[],g',[],s.nx⟩
     |none=>none
    |none=>none
  |_=>none
 |none=>none
def YY (P:Program)(s:ah)(t:TypeId)(b:Nat)(hi:Option Operand):Option Out:=
 match aM P t with
 |some d=>match d.k with
  | .slice e=>match aM P e with
    |some _=>match s.get b with
     |some (.rows e' k xs)=>match Bh s xs.length hi with
      |some h=>some ⟨h≤xs.length,[(s.nx,none),(b,some (.rows e' k xs))],.s (.own s.nx),[(s.nx,.rows e' k (xs.take h)),(b,.dead)],s.nx+1⟩
      |none=>none
     |_=>none
    |none=>none
  |_=>none
 |none=>none
def ym (P:Program)(s:ah)(t:TypeId)(x:Operand)(lo hi:Option Operand):Option Out:=
 match aM P t with
 |some d=>match d.k with
  | .slice e=>match aM P e with
    |some de=>match s.view (s.ev x)with
     |some (k,xs,fr)=>match Bh s 0 lo with
      |some l=>match Bh s xs.length hi with
       |some h=>some ⟨(k=de.size∨xs=[])∧l≤h∧h≤xs.length,fr,.s (.r (.sl de.size ((xs.take h).drop l))),(kH (s.ev x)).map fun b=>(b,.dead),s.nx⟩
       |none=>none
      |none=>none
     |none=>none
    |none=>none
  |_=>none
 |none=>none
def IE (P:Program)(s:ah)(t:TypeId)(ax vx:Operand):Option Out:=
 match aM P t with
 |some d=>match(s.ev vx).cells? with
  |some ys=>match s.ev ax with
   | .s (.ptr b off)=>match s.get b with
     |some (.box cs)=>some ⟨ys.length=d.size∧off+ys.length≤cs.length,[(b,some (.box cs))],.u,[(b,.box (dC cs off ys))],s.nx⟩
     |_=>none
   | .s (.row b k i off)=>match s.get b with
     |some (.rows e k' xs)=>match xs[i]? with
      |some y=>match s.pU ys with
       |some (rs,bs)=>some ⟨k=k'∧ys.length=d.size∧off+ys.length≤y.length∧b∉bs,(b,some (.rows e k' xs))::bs.map (fun c=>(c,s.get c)),.u,(b,.rows e k' (xs.set i (dC y off rs)))::bs.map (fun c=>(c,.dead)),s.nx⟩
       |none=>none
      |none=>none
     |_=>none
   |_=>none
  |none=>none
 |none=>none
def rK (P:Program)(s:ah)(t n:Nat)(ps:List (Nat×Operand)):Option Out:=
 match aM P t with
 |some d=>match d.k with
  | .slice e=>match aM P e with
    |some de=>match rC s de.size 0 ps with
     |some (xs,bs)=>some ⟨0<de.size∧ps.length=n∧n*de.size≤16777216,(s.nx,none)::bs.map (fun c=>(c,s.get c)),.s (.own s.nx),(s.nx,.rows e de.size xs)::bs.map (fun c=>(c,.dead)),s.nx+1⟩
     |none=>none
    |none=>none
  |_=>none
 |none=>none
def ug (P:Program)(s:ah)(t:Nat)(lx cx:Operand):Option Out:=
 match aM P t with
 |some d=>match d.k with
  | .slice e=>match aM P e with
    |some de=>match(s.ev lx).i? with
     |some (_,n)=>match(s.ev cx).i? with
      |some (_,m)=>some ⟨0<de.size∧0≤n∧n≤m∧(de.bytes:Int)*m≤281474976710656∧m≤9223372036854775807,[(s.nx,none)],.s (.own s.nx),[(s.nx,.rows e de.size (List.replicate n.toNat (de.zero.map jY)))],s.nx+1⟩
      |none=>none
     |none=>none
    |none=>none
  |_=>none
 |none=>none
def yn (P:Program)(s:ah)(t:Nat)(bx yx:Operand):Option Out:=
 match aM P t with
 |some d=>match d.k with
  | .slice e=>match aM P e with
    |some de=>match s.uR e de.size (s.ev bx)with
     |some (xs,ob)=>match s.view (s.ev yx)with
      |some (k,ys,fr)=>some ⟨0<de.size∧(k=de.size∨ys=[])∧(xs.length+ys.length)*de.bytes≤140737488355328∧xs.length+ys.length≤maxLen,(s.nx,none)::(FV s ob++fr),.s (.own s.nx),(s.nx,.rows e de.size (xs++ys))::yd ob,s.nx+1⟩
      |none=>none
     |none=>none
    |none=>none
  |_=>none
 |none=>none
def IF (P:Program)(s:ah):Callee→List Operand→List TypeId→Option Out
 | .builtin .len,[x],[t]=>match aM P t with
   |some d=>match d.k with
    | .slice _=>match s.view (s.ev x)with
      |some (_,xs,fr)=>some ⟨True,fr,gI .i64 xs.length,[],s.nx⟩
      |none=>none
    |_=>none
   |none=>none
 | .builtin .max,[x,y],_=>match(s.ev x).i? with
   |some (k,m)=>match(s.ev y).i? with
    |some (_,n)=>some ⟨True,[],gI k (if n>m then n else m),[],s.nx⟩
    |none=>none
   |none=>none
 | .builtin .min,[x,y],_=>match(s.ev x).i? with
   |some (k,m)=>match(s.ev y).i? with
    |some (_,n)=>some ⟨True,[],gI k (if n<m then n else m),[],s.nx⟩
    |none=>none
   |none=>none
 | .builtin .append,[bx,yx],[t,t']=>if t=t' then yn P s t bx yx else none
 |_,_,_=>none
def IG (P:Program)(s:ah)(t:TypeId)(x ix:Operand):Option Out:=match aM P t with
 |some d=>match d.k with
  | .array m e=>match aM P e with
    |some de=>match(s.ev ix).i? with
     |some (_,n)=>match(s.ev x).agg? with
      |some ts=>some ⟨0≤n∧n<m∧n.toNat*de.size+de.size≤ts.length,[],mk de.k.agg ((ts.drop (n.toNat*de.size)).take de.size),[],s.nx⟩
      |none=>none
     |none=>none
    |none=>none
  |_=>none
 |none=>none
def YZ (P:Program)(s:ah):Op→Option Out
 | .move x=>some ⟨True,[],s.ev x,[],s.nx⟩
 | .assign x=>some ⟨True,[],s.ev x,[],s.nx⟩
 | .pick c x y=>match(s.ev c).b? with
   |some true=>some ⟨True,[],s.ev x,[],s.nx⟩
   |some false=>some ⟨True,[],s.ev y,[],s.nx⟩
   |none=>none
 | .alloc t=>match aM P t with
   |some d=>some ⟨True,[(s.nx,none)],.s (.ptr s.nx 0),[(s.nx,.box (d.zero.map fun x=> .r (jY x)))],s.nx+1⟩
   |none=>none
 | .box _ x=>match(s.ev x).cells? with
   |some cs=>some ⟨True,[(s.nx,none)],.s (.ptr s.nx 0),[(s.nx,.box cs)],s.nx+1⟩
   |none=>none
 | .build t ps=>match aM P t with
   |some d=>match rv (placeOf (aM P) d.k) (d.zero.map fun x=> .r (jY x)) (oF s ps.toList)with
    |some cs=>some ⟨d.k.agg=true∧(d.k.FT.all fun t=>(aM P t).isSome)=true,[],.a cs,[],s.nx⟩
    |none=>none
   |none=>none
 | .buildSlice t n ps=>rK P s t n ps.toList
 | .load t x=>match aM P t with
   |some d=>match s.deref (s.ev x)with
    |some (fr,cs)=>some ⟨d.size≤cs.length,fr,mk d.k.agg (cs.take d.size),[],s.nx⟩
    |none=>none
   |none=>none
 | .store t ax vx=>IE P s t ax vx
 | .fieldAddr t x f=>match rq (aM P) t f with
   |some (k,d')=>match pw k (s.ev x)with
    |some g=>some ⟨d'.size≠0,[],g,[],s.nx⟩
    |none=>none
   |none=>none
 | .field t x f=>match rq (aM P) t f with
   |some (k,d')=>match(s.ev x).agg? with
    |some ts=>some ⟨k+d'.size≤ts.length,[],mk d'.k.agg ((ts.drop k).take d'.size),[],s.nx⟩
    |none=>none
   |none=>none
 | .indexAddr t x ix=>match(s.ev ix).i? with
   |some (_,n)=>QP P s t n (s.ev x)
   |none=>none
 | .index t x ix=>IG P s t x ix
 | .binOp op t x y _=>match C5 P t op (s.ev x) (s.ev y)with
   |some g=>some ⟨True,[],g,[],s.nx⟩
   |none=>none
 | .convert src dst x=>match sS P src with
   |some _=>match sS P dst with
    |some k=>match(s.ev x).i? with
     |some (_,n)=>some ⟨True,[],gI k (k.wrap n),[],s.nx⟩
     |none=>none
    |none=>none
   |none=>none
 | .nilCheck x=>if Nj (s.ev x)=true then some ⟨True,[],s.ev x,[],s.nx⟩else none
 | .unOp .not _ x=>match(s.ev x).b? with
   |some b=>some ⟨True,[],gB (!b),[],s.nx⟩
   |none=>none
 | .unOp .neg _ x=>match(s.ev x).i? with
   |some (k,n)=>some ⟨True,[],gI k (k.wrap (0-n)),[],s.nx⟩
   |none=>none
 | .extract x i=>match(s.ev x).tup? with
   |some gs=>match gs[i]? with
    |some g=>some ⟨True,[],g,[],s.nx⟩
    |none=>none
   |none=>none
 | .makeFunc fn f c=>some ⟨True,[],.gK fn (f.toList.map s.ev) (c.toList.map s.ev),[],s.nx⟩
 | .makeInterface t x=>some ⟨pX P t=true,[],.fD t (s.ev x),[],s.nx⟩
 | .typeAssert x _ t ok=>match(s.ev x).ifc? with
   |some (t',g)=>if t'=t then some ⟨pX P t=true,[],if ok=true then .p [g,gB true]else g,[],s.nx⟩else match aM P t with
    |some d=>some ⟨pX P t=true∧ok=true∧RV P t=true,[],.p [mk d.k.agg (d.zero.map fun x=> .r (jY x)),gB false],[],s.nx⟩
    |none=>none
   |none=>none
 | .makeSlice t lx cx=>ug P s t lx cx
 | .slice t x none hi none=>match s.ev x with
   | .s (.own b)=>YY P s t b hi
   |_=>ym P s t x none hi
 | .slice t x lo hi none=>ym P s t x lo hi
 | .call c=>IF P s c.callee c.args.toList c.argTypes.toList
 |_=>none
theorem Db {P:Program}{E:List PanicEntry→World→Prop}{s:ah}{t:Nat}{bx yx:Operand}{out:Out}(h:yn P s t bx yx=some out)(hp:out.p){K:KT}(hK:K out.fr out.gv out.Δ out.nx):uV P E s (.builtin .append) [bx,yx] [t,t] K:=by
 unfold yn at h;repeat' split at h
 all_goals(try cases h)
 exact⟨rfl,_,‹_›,_,‹_›,_,‹_›,hp.1,_,_,‹_›,_,_,_,‹_›,hp.2.1,hp.2.2.1,hp.2.2.2,hK⟩
theorem IH {P:Program}{E:List PanicEntry→World→Prop}{s:ah}{c:Callee}{xs:List Operand}{ts:List TypeId}{out:Out}(h:IF P s c xs ts=some out)(hp:out.p){K:KT}(hK:K out.fr out.gv out.Δ out.nx):uV P E s c xs ts K:=by
 unfold IF at h;split at h
 ·repeat' split at h
  all_goals(try cases h)
  exact⟨_,‹_›,_,‹_›,_,_,_,‹_›,hK⟩
 ·split at h
  ·split at h
   ·cases h
    exact⟨_,_,‹_›,_,_,‹_›,hK⟩
   ·cases h
  ·cases h
 ·split at h
  ·split at h
   ·cases h
    exact⟨_,_,‹_›,_,_,‹_›,hK⟩
   ·cases h
  ·cases h
 ·split at h
  ·rename_i e;subst e;exact Db h hp hK
  ·cases h
 ·cases h
theorem Dc {P:Program}{E:List PanicEntry→World→Prop}{s:ah}{op:Op}{out:Out}(h:YZ P s op=some out)(hp:out.p){K:KT}(hK:K out.fr out.gv out.Δ out.nx):vN P E s op K:=by
 unfold YZ at h;split at h
 ·cases h;exact hK
 ·cases h;exact hK
 ·split at h
  ·cases h;exact⟨true,‹_›,fun _=>hK,fun h=>by cases h⟩
  ·cases h;exact⟨false,‹_›,fun h=>(by cases h),fun _=>hK⟩
  ·cases h
 ·split at h
  ·cases h;exact⟨_,‹_›,hK⟩
  ·cases h
 ·split at h
  ·cases h;exact⟨_,‹_›,hK⟩
  ·cases h
 ·repeat' split at h
  all_goals(try cases h)
  exact⟨_,‹_›,hp.1,hp.2,_,‹_›,hK⟩
 ·unfold rK at h
  repeat' split at h
  all_goals(try cases h)
  exact⟨_,‹_›,_,‹_›,_,‹_›,hp.1,hp.2.1,hp.2.2,_,_,‹_›,hK⟩
 ·repeat' split at h
  all_goals(try cases h)
  exact⟨_,‹_›,_,_,‹_›,hp,hK⟩
 ·unfold IE at h
  split at h
  ·split at h
   ·split at h
    ·rename_i ha
     split at h
     ·cases h
      refine⟨_,‹_›,_,‹_›,hp.1,?_⟩;rw[ha];exact⟨_,‹_›,hp.2,hK⟩
     ·cases h
    ·rename_i ha
     repeat' split at h
     all_goals(try cases h)
     obtain⟨rfl,h1,h2,h3⟩:=hp;refine⟨_,‹_›,_,‹_›,h1,?_⟩;rw[ha];exact⟨_,_,‹_›,_,‹_›,h2,_,_,‹_›,h3,hK⟩
    ·cases h
   ·cases h
  ·cases h
 ·repeat' split at h
  all_goals(try cases h)
  exact⟨_,_,‹_›,hp,_,‹_›,hK⟩
 ·repeat' split at h
  all_goals(try cases h)
  exact⟨_,_,‹_›,_,‹_›,hp,hK⟩
 ·split at h
  ·rename_i hn
   unfold QP at h;split at h
   ·rename_i hd
    split at h
    ·rename_i hk
     split at h
     ·rename_i eb
      split at h
      ·rename_i hg
       cases h;refine⟨_,_,hn,hp.1,?_⟩;unfold ah.elem;simp only[hd,hk,eb,hg];exact⟨hp.2.1,hp.2.2,hK⟩
      ·cases h
     ·rename_i eb
      split at h
      ·rename_i hy
       cases h;refine⟨_,_,hn,hp.1,?_⟩;unfold ah.elem;simp only[hd,hk,eb];exact⟨hp.2,_,hy,hK⟩
      ·cases h
     ·cases h
    ·rename_i hk
     split at h
     ·rename_i hz
      split at h
      ·rename_i nM
       cases h;refine⟨_,_,hn,hp.1,?_⟩;unfold ah.elem;simp only[hd,hk];exact⟨hp.2,_,_,hz,nM,hK⟩
      ·cases h
     ·cases h
    ·cases h
   ·cases h
  ·cases h
 ·unfold IG at h
  repeat' split at h
  all_goals(try cases h)
  exact⟨_,‹_›,_,_,‹_›,_,‹_›,_,_,‹_›,hp.1,hp.2.1,_,‹_›,hp.2.2,hK⟩
 ·split at h
  ·cases h;exact⟨_,‹_›,hK⟩
  ·cases h
 ·repeat' split at h
  all_goals(try cases h)
  exact⟨_,‹_›,_,‹_›,_,_,‹_›,hK⟩
 ·split at h
  ·cases h;exact⟨‹_›,hK⟩
  ·cases h
 ·split at h
  ·cases h;exact⟨_,‹_›,hK⟩
  ·cases h
 ·split at h
  ·cases h;exact⟨_,_,‹_›,hK⟩
  ·cases h
 ·repeat' split at h
  all_goals(try cases h)
  exact⟨_,‹_›,_,‹_›,hK⟩
 ·cases h;exact hK
 ·cases h;exact⟨hp,hK⟩
 ·split at h
  ·split at h
   ·cases h;exact⟨hp,_,_,‹_›,.inl ⟨‹_›,hK⟩⟩
   ·split at h
    ·cases h;exact⟨hp.1,_,_,‹_›,.inr ⟨‹_›,hp.2.1,hp.2.2,_,‹_›,hK⟩⟩
    ·cases h
  ·cases h
 ·unfold ug at h
  repeat' split at h
  all_goals(try cases h)
  exact⟨_,‹_›,_,‹_›,_,‹_›,hp.1,_,_,‹_›,_,_,‹_›,hp.2.1,hp.2.2.1,hp.2.2.2.1,hp.2.2.2.2,hK⟩
 ·split at h
  ·unfold YY at h
   repeat' split at h
   all_goals(try cases h)
   exact .inl ⟨rfl,_,‹_›,_,‹_›,_,‹_›,_,_,_,_,‹_›,‹_›,_,‹_›,hp,hK⟩
  ·unfold ym at h
   repeat' split at h
   all_goals(try cases h)
   exact .inr ⟨_,‹_›,_,‹_›,_,‹_›,_,_,_,‹_›,hp.1,_,‹_›,_,‹_›,hp.2.1,hp.2.2,hK⟩
 ·unfold ym at h
  repeat' split at h
  all_goals(try cases h)
  exact .inr ⟨_,‹_›,_,‹_›,_,‹_›,_,_,_,‹_›,hp.1,_,‹_›,_,‹_›,hp.2.1,hp.2.2,hK⟩
 ·exact IH h hp hK
 ·cases h
structure Rg where
 P:Program
 E:List PanicEntry→World→Prop
 nt:Nat
 ops:Array Oper
 draw:Bool
def d_:Op→Bool
 | .call {callee:= .value _, .. }=>true
 | .call {callee:= .invoke _ _, .. }=>true
 |_=>false
abbrev CT:=Oper→List Oper→List (Nat ⊕ Nat)→ah→List Pl→(ah→Prop)→Prop
def R0 (r:Rg)(o:Oper):List Oper→Bool
 |o'::_=>match o'.guard with
  |some (j,_)=>decide (vP r.ops j=o.dst)
  |none=>false
 |[]=>false
def run (C:CT)(r:Rg):List Oper→ah→List Pl→(ah→Prop)→Prop
 |[],s,acc,K=>(r.draw=true→(pW (eP r.ops.toList)&&Nl acc.reverse (pV (eP r.ops.toList)))=true)∧K s
 |o::os,s,acc,K=>bO o r.nt=true∧match o.guard with
  |none=>if d_ o.op=true then C o os [] s acc K else match YZ r.P s o.op with
   |some out=>out.p∧if R0 r o os=true then match out.gv.b? with
     |some b=>if b=true then run C r os (s.step o.dst (gB true) out.Δ out.nx) (if r.draw then jd o [] out.fr out.Δ::acc else[]) K else run C r os (s.step o.dst (gB false) out.Δ out.nx) (if r.draw then jd o [] out.fr out.Δ::acc else[]) K
     |none=>False
    else run C r os (s.step o.dst out.gv out.Δ out.nx) (if r.draw then jd o [] out.fr out.Δ::acc else[]) K
   |none=>False
  |some (j,want)=>match vP r.ops j with
   |some d=>d<r.nt∧match lk d s.env with
    | .p []=>run C r os (s.step o.dst (.p []) [] s.nx) (if r.draw then([.inl d],match o.dst with|some d=>[.inl d]|none=>[])::acc else[]) K
    | .s (.r (.v (.bool b)))=>if b=want then if d_ o.op=true then C o os [.inl d] s acc K else match YZ r.P s o.op with
      |some out=>out.p∧if R0 r o os=true then match out.gv.b? with
        |some b=>if b=true then run C r os (s.step o.dst (gB true) out.Δ out.nx) (if r.draw then jd o [.inl d] out.fr out.Δ::acc else[]) K else run C r os (s.step o.dst (gB false) out.Δ out.nx) (if r.draw then jd o [.inl d] out.fr out.Δ::acc else[]) K
        |none=>False
       else run C r os (s.step o.dst out.gv out.Δ out.nx) (if r.draw then jd o [.inl d] out.fr out.Δ::acc else[]) K
      |none=>False
      else run C r os (s.step o.dst (.p []) [] s.nx) (if r.draw then([.inl d],match o.dst with|some d=>[.inl d]|none=>[])::acc else[]) K
    |_=>False
   |none=>False
theorem GV.ack {g:GV}{b:Bool}(h:g.b?=some b):g=gB b:=by
 unfold GV.b? at h;split at h
 ·cases h;rfl
 ·cases h
theorem Dd (d:Nat)(b:Bool):∀{e:List (Nat×GV)},lk d e=gB b→Aw d (gB b) e=e
 |[],h=>by cases h
 |(u,x)::e,h=>by
  simp only[lk]at h;simp only[Aw];split at h
  ·rename_i hu;rw[if_pos hu,h,hu]
  ·rename_i hu;rw[if_neg hu,Dd d b h]
theorem F2 {s:ah}{d:Nat}{b:Bool}(h:lk d s.env=gB b):s.tq d b=s:=by
 unfold ah.tq;rw[Dd d b h]
def aC (C:CT)(r:Rg)(o:Oper)(os:List Oper)(gd:List (Nat ⊕ Nat))(s:ah)(acc:List Pl)(K:ah→Prop):Prop:=
 vN r.P r.E s o.op fun fr gv Δ kQ=>run C r os (s.step o.dst gv Δ kQ) (if r.draw then jd o gd fr Δ::acc else[]) K
theorem yo {P:Program}{E:List PanicEntry→World→Prop}{s:ah}{c:Callee}{xs:List Operand}{K K':KT}(h:uU P E s c xs K)(hK:∀fr gv Δ nx,K fr gv Δ nx→K' fr gv Δ nx):uU P E s c xs K':=by
 obtain⟨f,gs,cW,h1,fO,h2⟩:=h;refine⟨f,gs,cW,h1,fO,?_⟩;rcases h2 with⟨h0,r,h2,h3,h4⟩|⟨peek,args',r,h2,h3,h4,h5,h6⟩|⟨frag,peek,args',sto0,sto',cnt,r,h2,h3,h4,h5,h6⟩
 ·exact .inl ⟨h0,r,h2,h3,hK _ _ _ _ h4⟩
 ·exact .inr (.inl ⟨peek,args',r,h2,h3,h4,h5,hK _ _ _ _ h6⟩)
 ·exact .inr (.inr ⟨frag,peek,args',sto0,sto',cnt,r,h2,h3,h4,h5,hK _ _ _ _ h6⟩)
theorem Df {P:Program}{E:List PanicEntry→World→Prop}{s:ah}{op:Op}(hc:d_ op=true){K K':KT}(h:vN P E s op K)(hK:∀fr gv Δ nx,K fr gv Δ nx→K' fr gv Δ nx):vN P E s op K':=by
 unfold d_ at hc;split at hc
 ·exact yo h hK
 ·exact yo h hK
 ·cases hc
def iK (r:Rg):CT:=fun o os gd s acc K=>vN r.P r.E s o.op fun fr gv Δ kQ=>oJ r.P r.E r.nt r.ops r.draw os (s.step o.dst gv Δ kQ) (if r.draw=true then acc.reverse++[jd o gd fr Δ]else[]) fun s' pl=>(r.draw=true→(pW (eP r.ops.toList)&&Nl pl (pV (eP r.ops.toList)))=true)∧K s'
theorem oK (r:Rg):∀(os:List Oper) (s:ah) (acc:List Pl) (K:ah→Prop),run (iK r) r os s acc K→oJ r.P r.E r.nt r.ops r.draw os s acc.reverse fun s' pl=>(r.draw=true→(pW (eP r.ops.toList)&&Nl pl (pV (eP r.ops.toList)))=true)∧K s'
 |[],s,acc,K,h=>h
 |o::os,s,acc,K,h=>by
  have ih:∀s acc,run (iK r) r os s acc K→oJ r.P r.E r.nt r.ops r.draw os s acc.reverse fun s' pl=>(r.draw=true→(pW (eP r.ops.toList)&&Nl pl (pV (eP r.ops.toList)))=true)∧K s':=fun s acc h=>oK r os s acc K h
  have Ns:∀(x:Pl),(if r.draw=true then x::acc else[]).reverse=if r.draw=true then acc.reverse++[x]else[]:=fun x=>by
   split<;>simp
  have ih':∀s x,run (iK r) r os s (if r.draw=true then x::acc else[]) K→oJ r.P r.E r.nt r.ops r.draw os s (if r.draw=true then acc.reverse++[x]else[]) fun s' pl=>(r.draw=true→(pW (eP r.ops.toList)&&Nl pl (pV (eP r.ops.toList)))=true)∧K s':=fun s x h=>by
   rw[←Ns];exact ih _ _ h
  have Mn:∀{out:Out} {x:Pl},(if R0 r o os=true then match out.gv.b? with
    |some b=>if b=true then run (iK r) r os (s.step o.dst (gB true) out.Δ out.nx) (if r.draw=true then x::acc else[]) K else run (iK r) r os (s.step o.dst (gB false) out.Δ out.nx) (if r.draw=true then x::acc else[]) K
    |none=>False
   else run (iK r) r os (s.step o.dst out.gv out.Δ out.nx) (if r.draw=true then x::acc else[]) K)→run (iK r) r os (s.step o.dst out.gv out.Δ out.nx) (if r.draw=true then x::acc else[]) K:=by
   intro out x h;split at h
   ·split at h
    ·rename_i b hb
     rw[GV.ack hb]
     cases b
     ·simpa using h
     ·simpa using h
    ·exact h.elim
   ·exact h
  unfold run at h;obtain⟨hd,h⟩:=h;refine⟨hd,?_⟩;split at h
  ·rename_i hg
   rw[hg];simp only
   split at h
   ·exact h
   ·split at h
    ·exact Dc ‹_› h.1 (ih' _ _ (Mn h.2))
    ·exact h.elim
  ·rename_i j want hg
   rw[hg];simp only
   split at h
   ·rename_i d hj
    obtain⟨h1,h⟩:=h;split at h
    ·rename_i hl
     exact⟨d,hj,h1,.inl ⟨by rw[hl];rfl,ih' _ _ h⟩⟩
    ·rename_i b hl
     refine⟨d,hj,h1,.inr ⟨b,by rw[hl];rfl,fun hw=>?_,fun hw=>?_⟩⟩
     ·rw[if_pos hw]at h
      subst hw;rw[F2 hl];split at h
      ·exact h
      ·split at h
       ·exact Dc ‹_› h.1 (ih' _ _ (Mn h.2))
       ·exact h.elim
     ·subst hw
      rw[if_neg (by cases want<;>simp)]at h
      rw[F2 hl];exact ih' _ _ h
    ·exact h.elim
   ·exact h.elim
theorem af {c p q:Prop}[Decidable c](h1:c→p)(h2:¬c→q):if c then p else q:=by
 split
 ·exact h1 ‹_›
 ·exact h2 ‹_›
theorem TW.reg {P:Program}{E:List PanicEntry→World→Prop}{nt m id:Nat}{ops:Array Oper}{draw:Bool}{Q:Exit→ah→Prop}{s:ah}(vQ:P.follows .mixedOrders=true)(hs:uf s=true)
  (h:∀(C:CT) (K:ah→Prop),(∀o os gd s acc,d_ o.op=true→aC C ⟨P,E,nt,ops,draw⟩ o os gd s acc K→C o os gd s acc K)→(∀s',Q .normal s'→K s')→run C ⟨P,E,nt,ops,draw⟩ ops.toList s [] K):TW P E nt m (.region id ops draw) Q s:=by
 refine .region vQ ⟨hs,oK ⟨P,E,nt,ops,draw⟩ _ _ _ _ (h (iK _) _ (fun o os gd s acc hc h=>?_) fun _ h=>h)⟩
 refine Df hc h fun fr gv Δ nx h=>?_;have Ns:∀(x:Pl),(if draw=true then x::acc else[]).reverse=if draw=true then acc.reverse++[x]else[]:=fun x=>by
  split<;>simp
 have:=oK ⟨P,E,nt,ops,draw⟩ _ _ _ _ h
 simp only[Ns]at this;exact this
theorem wZ {P:Program}{E:List PanicEntry→World→Prop}{s:ah}{c:Call}(hc:d_ (.call c)=true){K:KT}(h:uU P E s c.callee c.args.toList K):vN P E s (.call c) K:=by
 obtain⟨callee,args,ts⟩:=c
 cases callee with
 |value fx=>exact h
 |invoke x n=>exact h
 |builtin b=>simp[d_]at hc
theorem aC.plain {C:CT}{r:Rg}{o:Oper}{os:List Oper}{gd:List (Nat ⊕ Nat)}{s:ah}{acc:List Pl}{K:ah→Prop}{c:Call}(ho:o.op= .call c)(hc:d_ (.call c)=true){f:FuncId}{gs:List GV}{cW:List (Nat×Option az)}(hf:s.qy r.P c.callee c.args.toList=some (f,gs,cW))(fO:∀x∈cW,s.get x.1=x.2)
  {res:GV} (hT:TC r.P r.E f gs 0 [] res []) (h0:dY gs=[]) (h1:res.names=[]) (h:run C r os (s.step o.dst res [] s.nx) (if r.draw then jd o gd cW []::acc else[]) K):aC C r o os gd s acc K:=by
 unfold aC;rw[ho];exact wZ hc ⟨f,gs,cW,hf,fO,.inl ⟨h0,res,hT,h1,h⟩⟩
theorem aC.peek {C:CT}{r:Rg}{o:Oper}{os:List Oper}{gd:List (Nat ⊕ Nat)}{s:ah}{acc:List Pl}{K:ah→Prop}{c:Call}(ho:o.op= .call c)(hc:d_ (.call c)=true){f:FuncId}{gs:List GV}{cW:List (Nat×Option az)}(hf:s.qy r.P c.callee c.args.toList=some (f,gs,cW))(fO:∀x∈cW,s.get x.1=x.2)
  (peek:List Nat) {bX:List GV} (hg:il s.get peek gs=bX) (iH:∀b∈peek,rowOf (s.get b)=true) {res:GV} (hT:TC r.P r.E f bX 0 [] res []) (h1:res.flat=true) (h:run C r os (s.step o.dst res [] s.nx) (if r.draw then jd o gd (cW++peek.map fun b=>(b,s.get b)) []::acc else[]) K):aC C r o os gd s acc K:=by
 unfold aC;rw[ho];exact wZ hc ⟨f,gs,cW,hf,fO,.inr (.inl ⟨peek,bX,res,hT,hg,iH,h1,h⟩)⟩
theorem aC.any {C:CT}{r:Rg}{o:Oper}{os:List Oper}{gd:List (Nat ⊕ Nat)}{s:ah}{acc:List Pl}{K:ah→Prop}{c:Call}(ho:o.op= .call c)(hc:d_ (.call c)=true){f:FuncId}{gs:List GV}{cW:List (Nat×Option az)}(hf:s.qy r.P c.callee c.args.toList=some (f,gs,cW))(fO:∀x∈cW,s.get x.1=x.2)
  (frag peek:List Nat) {args':List GV} {sto0 sto':List (Nat×az)} (cnt:Nat) {res:GV} (hT:TC r.P r.E f args' frag.length sto0 res sto') (hk:Iz s gs frag peek args' sto0 sto' cnt) (h1:∀b∈res.names,b<frag.length+cnt) (h2:∀x∈sto',∀b∈x.2.names,b<frag.length+cnt)
  (h:run C r os (s.step o.dst (res.bI (φ frag s.nx)) (jL s frag peek sto' cnt) (s.nx+cnt)) (if r.draw then jd o gd (cW++gr s frag peek cnt) (jL s frag peek sto' cnt)::acc else[]) K):aC C r o os gd s acc K:=by
 unfold aC;rw[ho];exact wZ hc ⟨f,gs,cW,hf,fO,.inr (.inr ⟨frag,peek,args',sto0,sto',cnt,res,hT,hk,h1,h2,h⟩)⟩
end Go.Proofs.YtabjbdnokpjipaaGreat.T
