/-
What is proved: the walk of a region in a form that rewriting reckons ('run', 'TW.reg'). No condition.
-/
import Derived.Test.YtjklkppncmhehaaGreatRa31
set_option linter.unusedVariables false
set_option linter.unusedSimpArgs false
namespace Go.Proofs.YtjklkppncmhehaaGreat.T
open Go Go.RowKit
structure Out where
 p:Prop
 fr:List (Nat×Option ak)
 gv:GV
 Δ:List (Nat×ak)
 nx:Nat
def I5 (P:Program)(s:ae)(t:TypeId)(n:Int)(g:GV):Option Out:=
 match aq P t with
 |some d=>match d.k with
  | .slice e=>match g with
    | .s (.own b)=>match s.get b with
      |some (.rows e' k xs)=>some ⟨0≤n∧(aq P e).map TD.size=some k∧n.toNat<xs.length,[(b,some (.rows e' k xs))],.s (.row b k n.toNat 0),[],s.nx⟩
      |_=>none
    | .s (.r (.sl k xs))=>match xs[n.toNat]? with
      |some y=>some ⟨0≤n∧(aq P e).map TD.size=some k,[],.s (.gS y 0),[],s.nx⟩
      |none=>none
    |_=>none
  | .array m e=>match(aq P e).map TD.size with
    |some z=>match lE (n.toNat*z) g with
     |some g'=>some ⟨0≤n∧n.toNat<m,[],g',[],s.nx⟩
     |none=>none
    |none=>none
  |_=>none
 |none=>none
def BU (P:Program)(s:ae)(t:TypeId)(x:Operand)(lo hi:Option Operand):Option Out:=
 match aq P t with
 |some d=>match d.k with
  | .slice e=>match aq P e with
    |some de=>match s.view (s.ev x)with
     |some (k,xs,fr)=>match BI s 0 lo with
      |some l=>match BI s xs.length hi with
       |some h=>some ⟨(k=de.size∨xs=[])∧l≤h∧h≤xs.length,fr,.s (.r (.sl de.size ((xs.take h).drop l))),(gM (s.ev x)).map fun b=>(b,.dead),s.nx⟩
       |none=>none
      |none=>none
     |none=>none
    |none=>none
  |_=>none
 |none=>none
def BV (P:Program)(s:ae)(t:TypeId)(ax vx:Operand):Option Out:=
 match aq P t with
 |some d=>match(s.ev vx).cells? with
  |some ys=>match s.ev ax with
   | .s (.ptr b off)=>match s.get b with
     |some (.box cs)=>some ⟨ys.length=d.size∧off+ys.length≤cs.length,[(b,some (.box cs))],.u,[(b,.box (cr cs off ys))],s.nx⟩
     |_=>none
   | .s (.row b k i off)=>match s.get b with
     |some (.rows e k' xs)=>match xs[i]? with
      |some y=>match s.lZ ys with
       |some (rs,bs)=>some ⟨k=k'∧ys.length=d.size∧off+ys.length≤y.length∧b∉bs,(b,some (.rows e k' xs))::bs.map (fun c=>(c,s.get c)),.u,(b,.rows e k' (xs.set i (cr y off rs)))::bs.map (fun c=>(c,.dead)),s.nx⟩
       |none=>none
      |none=>none
     |_=>none
   |_=>none
  |none=>none
 |none=>none
def nw (P:Program)(s:ae)(t n:Nat)(ps:List (Nat×Operand)):Option Out:=
 match aq P t with
 |some d=>match d.k with
  | .slice e=>match aq P e with
    |some de=>match nk s de.size 0 ps with
     |some (xs,bs)=>some ⟨0<de.size∧ps.length=n∧n*de.size≤16777216,(s.nx,none)::bs.map (fun c=>(c,s.get c)),.s (.own s.nx),(s.nx,.rows e de.size xs)::bs.map (fun c=>(c,.dead)),s.nx+1⟩
     |none=>none
    |none=>none
  |_=>none
 |none=>none
def oL (P:Program)(s:ae)(t:Nat)(lx cx:Operand):Option Out:=
 match aq P t with
 |some d=>match d.k with
  | .slice e=>match aq P e with
    |some de=>match(s.ev lx).i? with
     |some (_,n)=>match(s.ev cx).i? with
      |some (_,m)=>some ⟨0<de.size∧0≤n∧n≤m∧(de.bytes:Int)*m≤281474976710656∧m≤9223372036854775807,[(s.nx,none)],.s (.own s.nx),[(s.nx,.rows e de.size (List.replicate n.toNat (de.zero.map jr)))],s.nx+1⟩
      |none=>none
     |none=>none
    |none=>none
  |_=>none
 |none=>none
def sw (P:Program)(s:ae)(t:Nat)(bx yx:Operand):Option Out:=
 match aq P t with
 |some d=>match d.k with
  | .slice e=>match aq P e with
    |some de=>match s.pj e de.size (s.ev bx)with
     |some (xs,ob)=>match s.view (s.ev yx)with
      |some (k,ys,fr)=>some ⟨0<de.size∧(k=de.size∨ys=[])∧(xs.length+ys.length)*de.bytes≤140737488355328∧xs.length+ys.length≤maxLen,(s.nx,none)::(zo s ob++fr),.s (.own s.nx),(s.nx,.rows e de.size (xs++ys))::r_ ob,s.nx+1⟩
      |none=>none
     |none=>none
    |none=>none
  |_=>none
 |none=>none
def BW (P:Program)(s:ae):Callee→List Operand→List TypeId→Option Out
 | .builtin .len,[x],[t]=>match aq P t with
   |some d=>match d.k with
    | .slice _=>match s.view (s.ev x)with
      |some (_,xs,fr)=>some ⟨True,fr,gI .i64 xs.length,[],s.nx⟩
      |none=>none
    |_=>none
   |none=>none
 | .builtin .max,[x,y],_=>match(s.ev x).i? with
   |some (k,m)=>match(s.ev y).i? with
    |some (_,n)=>some ⟨True,[],gI k (if n>m then n else m),[],s.nx⟩
    |none=>none
   |none=>none
 | .builtin .min,[x,y],_=>match(s.ev x).i? with
   |some (k,m)=>match(s.ev y).i? with
    |some (_,n)=>some ⟨True,[],gI k (if n<m then n else m),[],s.nx⟩
    |none=>none
   |none=>none
 | .builtin .append,[bx,yx],[t,t']=>if t=t' then sw P s t bx yx else none
 |_,_,_=>none
def BX (P:Program)(s:ae)(t:TypeId)(x ix:Operand):Option Out:=match aq P t with
 |some d=>match d.k with
  | .array m e=>match aq P e with
    |some de=>match(s.ev ix).i? with
     |some (_,n)=>match(s.ev x).agg? with
      |some ts=>some ⟨0≤n∧n<m∧n.toNat*de.size+de.size≤ts.length,[],mk de.k.agg ((ts.drop (n.toNat*de.size)).take de.size),[],s.nx⟩
      |none=>none
     |none=>none
    |none=>none
  |_=>none
 |none=>none
def Pz (P:Program)(s:ae):Op→Option Out
 | .move x=>some ⟨True,[],s.ev x,[],s.nx⟩
 | .assign x=>some ⟨True,[],s.ev x,[],s.nx⟩
 | .pick c x y=>match(s.ev c).b? with
   |some true=>some ⟨True,[],s.ev x,[],s.nx⟩
   |some false=>some ⟨True,[],s.ev y,[],s.nx⟩
   |none=>none
 | .alloc t=>match aq P t with
   |some d=>some ⟨True,[(s.nx,none)],.s (.ptr s.nx 0),[(s.nx,.box (d.zero.map fun x=> .r (jr x)))],s.nx+1⟩
   |none=>none
 | .box _ x=>match(s.ev x).cells? with
   |some cs=>some ⟨True,[(s.nx,none)],.s (.ptr s.nx 0),[(s.nx,.box cs)],s.nx+1⟩
   |none=>none
 | .build t ps=>match aq P t with
   |some d=>match ng (placeOf (aq P) d.k) (d.zero.map fun x=> .r (jr x)) (kP s ps.toList)with
    |some cs=>some ⟨d.k.agg=true∧(d.k.zm.all fun t=>(aq P t).isSome)=true,[],.a cs,[],s.nx⟩
    |none=>none
   |none=>none
 | .buildSlice t n ps=>nw P s t n ps.toList
 | .load t x=>match aq P t with
   |some d=>match s.deref (s.ev x)with
    |some (fr,cs)=>some ⟨d.size≤cs.length,fr,mk d.k.agg (cs.take d.size),[],s.nx⟩
    |none=>none
   |none=>none
 | .store t ax vx=>BV P s t ax vx
 | .fieldAddr t x f=>match nc (aq P) t f with
   |some (k,d')=>match lE k (s.ev x)with
    |some g=>some ⟨d'.size≠0,[],g,[],s.nx⟩
    |none=>none
   |none=>none
 | .field t x f=>match nc (aq P) t f with
   |some (k,d')=>match(s.ev x).agg? with
    |some ts=>some ⟨k+d'.size≤ts.length,[],mk d'.k.agg ((ts.drop k).take d'.size),[],s.nx⟩
    |none=>none
   |none=>none
 | .indexAddr t x ix=>match(s.ev ix).i? with
   |some (_,n)=>I5 P s t n (s.ev x)
   |none=>none
 | .index t x ix=>BX P s t x ix
 | .binOp op t x y _=>match xe P t op (s.ev x) (s.ev y)with
   |some g=>some ⟨True,[],g,[],s.nx⟩
   |none=>none
 | .convert src dst x=>match oJ P src with
   |some _=>match oJ P dst with
    |some k=>match(s.ev x).i? with
     |some (_,n)=>some ⟨True,[],gI k (k.wrap n),[],s.nx⟩
     |none=>none
    |none=>none
   |none=>none
 | .nilCheck x=>if Gc (s.ev x)=true then some ⟨True,[],s.ev x,[],s.nx⟩else none
 | .unOp .not _ x=>match(s.ev x).b? with
   |some b=>some ⟨True,[],gB (!b),[],s.nx⟩
   |none=>none
 | .unOp .neg _ x=>match(s.ev x).i? with
   |some (k,n)=>some ⟨True,[],gI k (k.wrap (0-n)),[],s.nx⟩
   |none=>none
 | .extract x i=>match(s.ev x).tup? with
   |some gs=>match gs[i]? with
    |some g=>some ⟨True,[],g,[],s.nx⟩
    |none=>none
   |none=>none
 | .makeFunc fn f c=>some ⟨True,[],.eI fn (f.toList.map s.ev) (c.toList.map s.ev),[],s.nx⟩
 | .makeSlice t lx cx=>oL P s t lx cx
 | .slice t x lo hi none=>BU P s t x lo hi
 | .call c=>BW P s c.callee c.args.toList c.argTypes.toList
 |_=>none
theorem xo {P:Program}{E:List PanicEntry→World→Prop}{s:ae}{t:Nat}{bx yx:Operand}{out:Out}(h:sw P s t bx yx=some out)(hp:out.p){K:KT}(hK:K out.fr out.gv out.Δ out.nx):pn P E s (.builtin .append) [bx,yx] [t,t] K:=by
 unfold sw at h;repeat' split at h
 all_goals(try cases h)
 exact⟨rfl,_,‹_›,_,‹_›,_,‹_›,hp.1,_,_,‹_›,_,_,_,‹_›,hp.2.1,hp.2.2.1,hp.2.2.2,hK⟩
theorem BY {P:Program}{E:List PanicEntry→World→Prop}{s:ae}{c:Callee}{xs:List Operand}{ts:List TypeId}{out:Out}(h:BW P s c xs ts=some out)(hp:out.p){K:KT}(hK:K out.fr out.gv out.Δ out.nx):pn P E s c xs ts K:=by
 unfold BW at h;split at h
 ·repeat' split at h
  all_goals(try cases h)
  exact⟨_,‹_›,_,‹_›,_,_,_,‹_›,hK⟩
 ·split at h
  ·split at h
   ·cases h
    exact⟨_,_,‹_›,_,_,‹_›,hK⟩
   ·cases h
  ·cases h
 ·split at h
  ·split at h
   ·cases h
    exact⟨_,_,‹_›,_,_,‹_›,hK⟩
   ·cases h
  ·cases h
 ·split at h
  ·rename_i e;subst e;exact xo h hp hK
  ·cases h
 ·cases h
theorem xp {P:Program}{E:List PanicEntry→World→Prop}{s:ae}{op:Op}{out:Out}(h:Pz P s op=some out)(hp:out.p){K:KT}(hK:K out.fr out.gv out.Δ out.nx):su P E s op K:=by
 unfold Pz at h;split at h
 ·cases h;exact hK
 ·cases h;exact hK
 ·split at h
  ·cases h;exact⟨true,‹_›,fun _=>hK,fun h=>by cases h⟩
  ·cases h;exact⟨false,‹_›,fun h=>(by cases h),fun _=>hK⟩
  ·cases h
 ·split at h
  ·cases h;exact⟨_,‹_›,hK⟩
  ·cases h
 ·split at h
  ·cases h;exact⟨_,‹_›,hK⟩
  ·cases h
 ·repeat' split at h
  all_goals(try cases h)
  exact⟨_,‹_›,hp.1,hp.2,_,‹_›,hK⟩
 ·unfold nw at h
  repeat' split at h
  all_goals(try cases h)
  exact⟨_,‹_›,_,‹_›,_,‹_›,hp.1,hp.2.1,hp.2.2,_,_,‹_›,hK⟩
 ·repeat' split at h
  all_goals(try cases h)
  exact⟨_,‹_›,_,_,‹_›,hp,hK⟩
 ·unfold BV at h
  split at h
  ·split at h
   ·split at h
    ·rename_i ha
     split at h
     ·cases h
      refine⟨_,‹_›,_,‹_›,hp.1,?_⟩;rw[ha];exact⟨_,‹_›,hp.2,hK⟩
     ·cases h
    ·rename_i ha
     repeat' split at h
     all_goals(try cases h)
     obtain⟨rfl,U,h2,h3⟩:=hp;refine⟨_,‹_›,_,‹_›,U,?_⟩;rw[ha];exact⟨_,_,‹_›,_,‹_›,h2,_,_,‹_›,h3,hK⟩
    ·cases h
   ·cases h
  ·cases h
 ·repeat' split at h
  all_goals(try cases h)
  exact⟨_,_,‹_›,hp,_,‹_›,hK⟩
 ·repeat' split at h
  all_goals(try cases h)
  exact⟨_,_,‹_›,_,‹_›,hp,hK⟩
 ·split at h
  ·rename_i hn
   unfold I5 at h;split at h
   ·rename_i hd
    split at h
    ·rename_i hk
     split at h
     ·rename_i eb
      split at h
      ·rename_i hg
       cases h;refine⟨_,_,hn,hp.1,?_⟩;unfold ae.elem;simp only[hd,hk,eb,hg];exact⟨hp.2.1,hp.2.2,hK⟩
      ·cases h
     ·rename_i eb
      split at h
      ·rename_i hy
       cases h;refine⟨_,_,hn,hp.1,?_⟩;unfold ae.elem;simp only[hd,hk,eb];exact⟨hp.2,_,hy,hK⟩
      ·cases h
     ·cases h
    ·rename_i hk
     split at h
     ·rename_i hz
      split at h
      ·rename_i ot
       cases h;refine⟨_,_,hn,hp.1,?_⟩;unfold ae.elem;simp only[hd,hk];exact⟨hp.2,_,_,hz,ot,hK⟩
      ·cases h
     ·cases h
    ·cases h
   ·cases h
  ·cases h
 ·unfold BX at h
  repeat' split at h
  all_goals(try cases h)
  exact⟨_,‹_›,_,_,‹_›,_,‹_›,_,_,‹_›,hp.1,hp.2.1,_,‹_›,hp.2.2,hK⟩
 ·split at h
  ·cases h;exact⟨_,‹_›,hK⟩
  ·cases h
 ·repeat' split at h
  all_goals(try cases h)
  exact⟨_,‹_›,_,‹_›,_,_,‹_›,hK⟩
 ·split at h
  ·cases h;exact⟨‹_›,hK⟩
  ·cases h
 ·split at h
  ·cases h;exact⟨_,‹_›,hK⟩
  ·cases h
 ·split at h
  ·cases h;exact⟨_,_,‹_›,hK⟩
  ·cases h
 ·repeat' split at h
  all_goals(try cases h)
  exact⟨_,‹_›,_,‹_›,hK⟩
 ·cases h;exact hK
 ·unfold oL at h
  repeat' split at h
  all_goals(try cases h)
  exact⟨_,‹_›,_,‹_›,_,‹_›,hp.1,_,_,‹_›,_,_,‹_›,hp.2.1,hp.2.2.1,hp.2.2.2.1,hp.2.2.2.2,hK⟩
 ·unfold BU at h
  repeat' split at h
  all_goals(try cases h)
  exact⟨_,‹_›,_,‹_›,_,‹_›,_,_,_,‹_›,hp.1,_,‹_›,_,‹_›,hp.2.1,hp.2.2,hK⟩
 ·exact BY h hp hK
 ·cases h
structure Rg where
 P:Program
 E:List PanicEntry→World→Prop
 nt:Nat
 ops:Array Oper
 draw:Bool
def lK:Op→Bool
 | .call {callee:= .value _, .. }=>true
 |_=>false
abbrev CT:=Oper→List Oper→List (Nat ⊕ Nat)→ae→List Pl→(ae→Prop)→Prop
def JW (r:Rg)(o:Oper):List Oper→Bool
 |o'::_=>match o'.guard with
  |some (j,_)=>decide (qc r.ops j=o.dst)
  |none=>false
 |[]=>false
def run (C:CT)(r:Rg):List Oper→ae→List Pl→(ae→Prop)→Prop
 |[],s,acc,K=>(r.draw=true→(l9 (c8 r.ops.toList)&&Ge acc.reverse (l8 (c8 r.ops.toList)))=true)∧K s
 |o::os,s,acc,K=>bu o r.nt=true∧match o.guard with
  |none=>if lK o.op=true then C o os [] s acc K else match Pz r.P s o.op with
   |some out=>out.p∧if JW r o os=true then match out.gv.b? with
     |some b=>if b=true then run C r os (s.step o.dst (gB true) out.Δ out.nx) (if r.draw then fy o [] out.fr out.Δ::acc else[]) K else run C r os (s.step o.dst (gB false) out.Δ out.nx) (if r.draw then fy o [] out.fr out.Δ::acc else[]) K
     |none=>False
    else run C r os (s.step o.dst out.gv out.Δ out.nx) (if r.draw then fy o [] out.fr out.Δ::acc else[]) K
   |none=>False
  |some (j,want)=>match qc r.ops j with
   |some d=>d<r.nt∧match lk d s.env with
    | .p []=>run C r os (s.step o.dst (.p []) [] s.nx) (if r.draw then([.inl d],match o.dst with|some d=>[.inl d]|none=>[])::acc else[]) K
    | .s (.r (.v (.bool b)))=>if b=want then if lK o.op=true then C o os [.inl d] s acc K else match Pz r.P s o.op with
      |some out=>out.p∧if JW r o os=true then match out.gv.b? with
        |some b=>if b=true then run C r os (s.step o.dst (gB true) out.Δ out.nx) (if r.draw then fy o [.inl d] out.fr out.Δ::acc else[]) K else run C r os (s.step o.dst (gB false) out.Δ out.nx) (if r.draw then fy o [.inl d] out.fr out.Δ::acc else[]) K
        |none=>False
       else run C r os (s.step o.dst out.gv out.Δ out.nx) (if r.draw then fy o [.inl d] out.fr out.Δ::acc else[]) K
      |none=>False
      else run C r os (s.step o.dst (.p []) [] s.nx) (if r.draw then([.inl d],match o.dst with|some d=>[.inl d]|none=>[])::acc else[]) K
    |_=>False
   |none=>False
theorem GV.UC {g:GV}{b:Bool}(h:g.b?=some b):g=gB b:=by
 unfold GV.b? at h;split at h
 ·cases h;rfl
 ·cases h
theorem xq (d:Nat)(b:Bool):∀{e:List (Nat×GV)},lk d e=gB b→dN d (gB b) e=e
 |[],h=>by cases h
 |(u,x)::e,h=>by
  simp only[lk]at h;simp only[dN];split at h
  ·rename_i hu;rw[if_pos hu,h,hu]
  ·rename_i hu;rw[if_neg hu,xq d b h]
theorem zv {s:ae}{d:Nat}{b:Bool}(h:lk d s.env=gB b):s.n_ d b=s:=by
 unfold ae.n_;rw[xq d b h]
def aC (C:CT)(r:Rg)(o:Oper)(os:List Oper)(gd:List (Nat ⊕ Nat))(s:ae)(acc:List Pl)(K:ae→Prop):Prop:=
 su r.P r.E s o.op fun fr gv Δ iW=>run C r os (s.step o.dst gv Δ iW) (if r.draw then fy o gd fr Δ::acc else[]) K
theorem xr {P:Program}{E:List PanicEntry→World→Prop}{s:ae}{op:Op}(hc:lK op=true){K K':KT}(h:su P E s op K)(hK:∀fr gv Δ nx,K fr gv Δ nx→K' fr gv Δ nx):su P E s op K':=by
 unfold lK at hc;split at hc
 ·obtain⟨f,fs,cs,U,h2⟩:=h
  refine⟨f,fs,cs,U,?_⟩;rcases h2 with⟨h0,r,h2,h3,h4⟩|⟨peek,bJ,r,h2,h3,h4,h5,h6⟩|⟨frag,peek,bJ,sto0,sto',cnt,r,h2,h3,h4,h5,h6⟩
  ·exact .inl ⟨h0,r,h2,h3,hK _ _ _ _ h4⟩
  ·exact .inr (.inl ⟨peek,bJ,r,h2,h3,h4,h5,hK _ _ _ _ h6⟩)
  ·exact .inr (.inr ⟨frag,peek,bJ,sto0,sto',cnt,r,h2,h3,h4,h5,hK _ _ _ _ h6⟩)
 ·cases hc
def fB (r:Rg):CT:=fun o os gd s acc K=>su r.P r.E s o.op fun fr gv Δ iW=>kR r.P r.E r.nt r.ops r.draw os (s.step o.dst gv Δ iW) (if r.draw=true then acc.reverse++[fy o gd fr Δ]else[]) fun s' pl=>(r.draw=true→(l9 (c8 r.ops.toList)&&Ge pl (l8 (c8 r.ops.toList)))=true)∧K s'
theorem kT (r:Rg):∀(os:List Oper) (s:ae) (acc:List Pl) (K:ae→Prop),run (fB r) r os s acc K→kR r.P r.E r.nt r.ops r.draw os s acc.reverse fun s' pl=>(r.draw=true→(l9 (c8 r.ops.toList)&&Ge pl (l8 (c8 r.ops.toList)))=true)∧K s'
 |[],s,acc,K,h=>h
 |o::os,s,acc,K,h=>by
  have ih:∀s acc,run (fB r) r os s acc K→kR r.P r.E r.nt r.ops r.draw os s acc.reverse fun s' pl=>(r.draw=true→(l9 (c8 r.ops.toList)&&Ge pl (l8 (c8 r.ops.toList)))=true)∧K s':=fun s acc h=>kT r os s acc K h
  have Gm:∀(x:Pl),(if r.draw=true then x::acc else[]).reverse=if r.draw=true then acc.reverse++[x]else[]:=fun x=>by
   split<;>simp
  have RI:∀s x,run (fB r) r os s (if r.draw=true then x::acc else[]) K→kR r.P r.E r.nt r.ops r.draw os s (if r.draw=true then acc.reverse++[x]else[]) fun s' pl=>(r.draw=true→(l9 (c8 r.ops.toList)&&Ge pl (l8 (c8 r.ops.toList)))=true)∧K s':=fun s x h=>by
   rw[←Gm];exact ih _ _ h
  have Fw:∀{out:Out} {x:Pl},(if JW r o os=true then match out.gv.b? with
    |some b=>if b=true then run (fB r) r os (s.step o.dst (gB true) out.Δ out.nx) (if r.draw=true then x::acc else[]) K else run (fB r) r os (s.step o.dst (gB false) out.Δ out.nx) (if r.draw=true then x::acc else[]) K
    |none=>False
   else run (fB r) r os (s.step o.dst out.gv out.Δ out.nx) (if r.draw=true then x::acc else[]) K)→run (fB r) r os (s.step o.dst out.gv out.Δ out.nx) (if r.draw=true then x::acc else[]) K:=by
   intro out x h;split at h
   ·split at h
    ·rename_i b hb
     rw[GV.UC hb]
     cases b
     ·simpa using h
     ·simpa using h
    ·exact h.elim
   ·exact h
  unfold run at h;obtain⟨hd,h⟩:=h;refine⟨hd,?_⟩;split at h
  ·rename_i hg
   rw[hg];simp only
   split at h
   ·exact h
   ·split at h
    ·exact xp ‹_› h.1 (RI _ _ (Fw h.2))
    ·exact h.elim
  ·rename_i j want hg
   rw[hg];simp only
   split at h
   ·rename_i d hj
    obtain⟨U,h⟩:=h;split at h
    ·rename_i hl
     exact⟨d,hj,U,.inl ⟨by rw[hl];rfl,RI _ _ h⟩⟩
    ·rename_i b hl
     refine⟨d,hj,U,.inr ⟨b,by rw[hl];rfl,fun hw=>?_,fun hw=>?_⟩⟩
     ·rw[if_pos hw]at h
      subst hw;rw[zv hl];split at h
      ·exact h
      ·split at h
       ·exact xp ‹_› h.1 (RI _ _ (Fw h.2))
       ·exact h.elim
     ·subst hw
      rw[if_neg (by cases want<;>simp)]at h
      rw[zv hl];exact RI _ _ h
    ·exact h.elim
   ·exact h.elim
theorem ah {c p q:Prop}[Decidable c](U:c→p)(h2:¬c→q):if c then p else q:=by
 split
 ·exact U ‹_›
 ·exact h2 ‹_›
theorem TW.bT {P:Program}{E:List PanicEntry→World→Prop}{nt m id:Nat}{ops:Array Oper}{draw:Bool}{Q:Exit→ae→Prop}{s:ae}(qd:P.follows .mixedOrders=true)(hs:qS s=true)
  (h:∀(C:CT) (K:ae→Prop),(∀o os gd s acc,lK o.op=true→aC C ⟨P,E,nt,ops,draw⟩ o os gd s acc K→C o os gd s acc K)→(∀s',Q .normal s'→K s')→run C ⟨P,E,nt,ops,draw⟩ ops.toList s [] K):TW P E nt m (.region id ops draw) Q s:=by
 refine .region qd ⟨hs,kT ⟨P,E,nt,ops,draw⟩ _ _ _ _ (h (fB _) _ (fun o os gd s acc hc h=>?_) fun _ h=>h)⟩
 refine xr hc h fun fr gv Δ nx h=>?_;have Gm:∀(x:Pl),(if draw=true then x::acc else[]).reverse=if draw=true then acc.reverse++[x]else[]:=fun x=>by
  split<;>simp
 have:=kT ⟨P,E,nt,ops,draw⟩ _ _ _ _ h
 simp only[Gm]at this;exact this
theorem aC.plain {C:CT}{r:Rg}{o:Oper}{os:List Oper}{gd:List (Nat ⊕ Nat)}{s:ae}{acc:List Pl}{K:ae→Prop}{fx:Operand}{args:Array Operand}{ts:Array TypeId}(ho:o.op= .call {callee:= .value fx,args:=args,argTypes:=ts}){f:FuncId}{fs cs gs:List GV}(hf:(s.ev fx).fn?=some (f,fs,cs))
  (hg:fs++args.toList.map s.ev++cs=gs) {res:GV} (hT:TC r.P r.E f gs 0 [] res []) (h0:cI gs=[]) (U:res.names=[]) (h:run C r os (s.step o.dst res [] s.nx) (if r.draw then fy o gd [] []::acc else[]) K):aC C r o os gd s acc K:=by
 unfold aC;rw[ho];subst hg;exact⟨f,fs,cs,hf,.inl ⟨h0,res,hT,U,h⟩⟩
theorem aC.peek {C:CT}{r:Rg}{o:Oper}{os:List Oper}{gd:List (Nat ⊕ Nat)}{s:ae}{acc:List Pl}{K:ae→Prop}{fx:Operand}{args:Array Operand}{ts:Array TypeId}(ho:o.op= .call {callee:= .value fx,args:=args,argTypes:=ts}){f:FuncId}{fs cs gs:List GV}(hf:(s.ev fx).fn?=some (f,fs,cs))
  (peek:List Nat) (hg:eL s.get peek (fs++args.toList.map s.ev++cs)=gs) (eJ:∀b∈peek,rowOf (s.get b)=true) {res:GV} (hT:TC r.P r.E f gs 0 [] res []) (U:res.flat=true) (h:run C r os (s.step o.dst res [] s.nx) (if r.draw then fy o gd (peek.map fun b=>(b,s.get b)) []::acc else[]) K):aC C r o os gd s acc K:=by
 unfold aC;rw[ho];exact⟨f,fs,cs,hf,.inr (.inl ⟨peek,gs,res,hT,hg,eJ,U,h⟩)⟩
theorem aC.any {C:CT}{r:Rg}{o:Oper}{os:List Oper}{gd:List (Nat ⊕ Nat)}{s:ae}{acc:List Pl}{K:ae→Prop}{fx:Operand}{args:Array Operand}{ts:Array TypeId}(ho:o.op= .call {callee:= .value fx,args:=args,argTypes:=ts}){f:FuncId}{fs cs:List GV}(hf:(s.ev fx).fn?=some (f,fs,cs))
  (frag peek:List Nat) {bJ:List GV} {sto0 sto':List (Nat×ak)} (cnt:Nat) {res:GV} (hT:TC r.P r.E f bJ frag.length sto0 res sto') (hk:BN s (fs++args.toList.map s.ev++cs) frag peek bJ sto0 sto' cnt) (U:∀b∈res.names,b<frag.length+cnt) (h2:∀x∈sto',∀b∈x.2.names,b<frag.length+cnt)
  (h:run C r os (s.step o.dst (res.bg (φ frag s.nx)) (gO s frag peek sto' cnt) (s.nx+cnt)) (if r.draw then fy o gd (fS s frag peek cnt) (gO s frag peek sto' cnt)::acc else[]) K):aC C r o os gd s acc K:=by
 unfold aC;rw[ho];exact⟨f,fs,cs,hf,.inr (.inr ⟨frag,peek,bJ,sto0,sto',cnt,res,hT,hk,U,h2,h⟩)⟩
end Go.Proofs.YtjklkppncmhehaaGreat.T
