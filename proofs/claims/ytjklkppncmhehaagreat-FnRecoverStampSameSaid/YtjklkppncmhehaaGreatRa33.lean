/-
What is proved: which rewrite rules a walk over trees uses. No condition. where a tree says 'nil', one that says 'no rows' serves as well; and how a function ends that leaves rows of its own. No condition. a function that only reads may as well be given the caller's own rows, and leaves them ('TC.lend'); how a walk goes on at a call that takes one box of the caller's ('atCall.rd'), or some blocks ('atCall.lend'). No condition. what each type is, in short, at the second program. No condition. the walk of a piece of code as one proposition that rewriting reckons ('WV'), and short words for its calls, loops and ends. No condition. plain facts about memory: a slice that reads as a list of values, a block that is known whole, an append onto a row of the call's own. No condition beyond those that each theorem states.
-/
import Derived.Test.YtjklkppncmhehaaGreatRa32
import Derived.Test.YtjklkppncmhehaaGreatRa31
import Derived.Test.YtjklkppncmhehaaGreatRa01
import Derived.KernelRfl
import Derived.Below
import Derived.Laws.OwnMore
import Derived.Deep.AppendLies
import Derived.Deep.Draws
import Derived.Laws.Rows
import Derived.Maps.AppendAt
import Derived.RegionTactic
import Derived.OwnWalk
import Derived.Lib.Hide
set_option linter.unusedVariables false
set_option linter.unusedSimpArgs false
namespace Go.Proofs.YtjklkppncmhehaaGreat.T
open Go Go.RowKit
attribute [simp] run JW lK Pz BW sw I5 BX BU BV nw oL ae.step ae.n_ dN GV.undef? ae.ev lk gt ae.get GV.b? GV.i? GV.agg? GV.tup? GV.cells? GV.fn? ae.view ae.deref ae.ud ae.lZ ae.pj lE nc mk rs gI gB JL xe jv Gc JK Rn oH
 uZ jr oG bu qc qS Value.oneCell' TK.agg TK.zm placeOf ng kP cr nk gM r_ zo BI tQ bQ jf ae.res ae.zq ae.JS TV.bZ GV.bZ eL ak.bZ TV.bg GV.bg eK ak.bg TV.names GV.names cI ak.names
 TV.flat GV.flat xf rowOf fS gO φ
theorem Fits.nil {args:List GV}(h:cI args=[]):Fits args 0 []:=
 ⟨rfl,fun x hx=>(by cases hx),fun g hg b hb=>(by have:=uO hg b hb;rw[h]at this;cases this),fun x hx=>by cases hx⟩
theorem ar.nil {P:Program}{xs:List ResultVar}{s:ae}{r:GV}(h:s.res P xs=some r)(hn:r.names=[]):ar P xs 0 s r []:=
 ⟨id,[],r,h,by rw[GV.kQ,GV.iq _ _ hn],fun b hb=>(by rw[hn]at hb;cases hb),fun b hb=>(by cases hb),fun x hx=>(by cases hx),fun x hx=>(by cases hx),fun b hb=>by omega⟩
section
variable {P:Program}{E:List PanicEntry→World→Prop}{nt m:Nat}{c:Code}{Q:Exit→ae→Prop}{s:ae}
theorem TW.len (t:Nat){k:Nat}{xs:List (List RT)}(ht:lk t s.env= .s (.r (.sl k xs)))(h:xs.length≤maxLen→TW P E nt m c Q s):TW P E nt m c Q s:=by
 intro C a w hn hm hR;obtain⟨ρ,D,hr⟩:=hR;have U:=hr.env t;simp only[gN]at U;rw[ht]at U;generalize a.tmps.getD t undef=v at U
 cases U with|s U=>cases U with|r U=>
 obtain⟨A,c',_,h2,h3,_⟩:=U.slice;exact h (Nat.le_trans h2 h3) C a w hn hm ⟨ρ,D,hr⟩
end
theorem Wk.same {m:Nat}{s s':ae}(U:∀x∈s'.env,lk x.1 s.env=x.2∧x.2.names.all (fun b=>decide (b<s'.nx))=true)(h2:∀x∈s'.sto,s.get x.1=some x.2∧x.1<s'.nx∧x.2.names.all (fun b=>decide (b<s'.nx))=true)(h3:m≤s'.nx):Wk m s s':=by
 have hT:∀t:TV,t.bg id=t:=fun t=>by cases t<;>rfl
 have Z2:∀ts:List TV,ts.map (TV.bg id)=ts:=fun ts=>(List.map_congr_left fun t _=>hT t).trans (List.map_id ts)
 have Z3:∀(get:Nat→Option ak) (ts:List TV),ts.map (TV.bZ get [])=ts:=fun get ts=>(List.map_congr_left fun t _=>TV.kQ get t).trans (List.map_id ts)
 refine⟨id,[],⟨fun b hb=>(by cases hb),fun x hx=> .inr ⟨?_,?_⟩,fun x hx=>⟨(h2 x hx).2.1,(by simp),?_,?_⟩,fun x _ y _ h=>h,h3,fun b _=>rfl⟩⟩
 ·rw[GV.kQ,(U x hx).1,GV.sn]
 ·have:=(U x hx).2
  rw[List.all_eq_true]at this;exact fun b hb=>by simpa using this b hb
 ·simp only[id,(h2 x hx).1,Option.map_some,Option.some.injEq]
  cases x.2<;>simp[ak.bZ,ak.bg,Z2,Z3]
 ·have:=(h2 x hx).2.2
  rw[List.all_eq_true]at this;exact fun b hb=>by simpa using this b hb
end Go.Proofs.YtjklkppncmhehaaGreat.T
namespace Go.Proofs.YtjklkppncmhehaaGreat.T
open Go Go.RowKit
def TV.le (x y:TV):Prop:=x=y∨(x= .r .nil∧∃k,y= .r (.sl k []))
def Mu:List TV→List TV→Prop
 |[],[]=>True
 |x::xs,y::ys=>x.le y∧Mu xs ys
 |_,_=>False
def GV.le:GV→GV→Prop
 | .s x,.s y=>x.le y
 | .a xs,.a ys=>Mu xs ys
 |g,g'=>g=g'
def ak.le:ak→ak→Prop
 | .box xs,.box ys=>Mu xs ys
 |y,y'=>y=y'
def RJ:List (Nat×GV)→List (Nat×GV)→Prop
 |[],[]=>True
 |x::xs,y::ys=>x.1=y.1∧x.2.le y.2∧RJ xs ys
 |_,_=>False
def RK:List (Nat×ak)→List (Nat×ak)→Prop
 |[],[]=>True
 |x::xs,y::ys=>x.1=y.1∧x.2.le y.2∧RK xs ys
 |_,_=>False
def RL:List GV→List GV→Prop
 |[],[]=>True
 |x::xs,y::ys=>x.le y∧RL xs ys
 |_,_=>False
theorem TV.le_refl (x:TV):x.le x:= .inl rfl
theorem TV.le_nil (k:Nat):(TV.r .nil).le (.r (.sl k [])):= .inr ⟨rfl,k,rfl⟩
theorem pq:∀xs:List TV,Mu xs xs
 |[]=>trivial
 |x::xs=>⟨x.le_refl,pq xs⟩
theorem GV.le_refl (g:GV):g.le g:=by
 cases g
 case s x=>exact x.le_refl
 case a xs=>exact pq xs
 all_goals rfl
theorem ak.le_refl (y:ak):y.le y:=by
 cases y
 case box xs=>exact pq xs
 all_goals rfl
theorem xt:∀{xs ys:List TV},Mu xs ys→xs.length=ys.length∧∀(i:Nat) (y:TV),ys[i]?=some y→∃x,xs[i]?=some x∧x.le y
 |[],[],_=>⟨rfl,fun i y h=>by simp at h⟩
 |x::xs,y::ys,h=>by
  obtain⟨U,h2⟩:=xt h.2;refine⟨by simp[U],fun i z hz=>?_⟩
  cases i with
  |zero=>cases hz;exact⟨x,rfl,h.1⟩
  |succ i=>exact h2 i z hz
 |[],_::_,h=>h.elim
 |_::_,[],h=>h.elim
theorem bW.le {ρ:Nat→Option Value}{w:World}{D:Nat→Prop}{v:Value}{x y:TV}(h:x.le y)(hr:bW ρ w D v x):bW ρ w D v y:=by
 rcases h with rfl|⟨rfl,k,rfl⟩
 ·exact hr
 ·cases hr with|r hr=>cases hr with|nil=>exact .r (.yA (Nat.zero_le _))
theorem aY.le {ρ:Nat→Option Value}{w:World}{D:Nat→Prop}{v:Value}{x y:GV}(h:x.le y)(hr:aY ρ w D v x):aY ρ w D v y:=by
 unfold GV.le at h;split at h
 ·cases hr with|s hr=>exact .s (hr.le h)
 ·cases hr with
  |a hn hr=>
   obtain⟨U,h2⟩:=xt h;refine .a (hn.trans U) fun i t ht=>?_;obtain⟨x,hx,hl⟩:=h2 i t ht;exact(hr i x hx).le hl
 ·subst h;exact hr
theorem dt.le {ρ:Nat→Option Value}{w:World}{D:Nat→Prop}{v:Option Value}{x y:ak}(h:x.le y)(hr:dt ρ w D v x):dt ρ w D v y:=by
 unfold ak.le at h;split at h
 ·obtain⟨g,arr,ty,e1,e2,e3,e4⟩:=hr
  obtain⟨U,h2⟩:=xt h;refine⟨g,arr,ty,e1,e2,e3.trans U,fun i t ht=>?_⟩
  obtain⟨x,hx,hl⟩:=h2 i t ht;exact(e4 i x hx).le hl
 ·subst h;exact hr
theorem ak.xu {x y:ak}(h:x.le y):x.live=y.live:=by
 unfold ak.le at h;split at h
 ·rfl
 ·subst h;rfl
theorem JX (t:Nat):∀{e e':List (Nat×GV)},RJ e e'→(lk t e).le (lk t e')
 |[],[],_=>rfl
 |x::xs,y::ys,h=>by
  obtain⟨U,h2,h3⟩:=h;obtain⟨u,g⟩:=x;obtain⟨u',g'⟩:=y
  cases U;simp only[lk];split
  ·exact h2
  ·exact JX t h3
 |[],_::_,h=>h.elim
 |_::_,[],h=>h.elim
theorem JY (b:Nat):∀{e e':List (Nat×ak)},RK e e'→(gt b e=none∧gt b e'=none)∨∃y y',gt b e=some y∧gt b e'=some y'∧y.le y'
 |[],[],_=> .inl ⟨rfl,rfl⟩
 |x::xs,y::ys,h=>by
  obtain⟨U,h2,h3⟩:=h;obtain⟨u,g⟩:=x;obtain⟨u',g'⟩:=y
  cases U;simp only[gt];split
  ·exact .inr ⟨_,_,rfl,rfl,h2⟩
  ·exact JY b h3
 |[],_::_,h=>h.elim
 |_::_,[],h=>h.elim
theorem Gn:∀{xs ys:List GV},RL xs ys→xs.length=ys.length∧∀(i:Nat) (y:GV),ys[i]?=some y→∃x,xs[i]?=some x∧x.le y
 |[],[],_=>⟨rfl,fun i y h=>by simp at h⟩
 |x::xs,y::ys,h=>by
  obtain⟨U,h2⟩:=Gn h.2;refine⟨by simp[U],fun i z hz=>?_⟩
  cases i with
  |zero=>cases hz;exact⟨x,rfl,h.1⟩
  |succ i=>exact h2 i z hz
 |[],_::_,h=>h.elim
 |_::_,[],h=>h.elim
section
variable {P:Program}{E:List PanicEntry→World→Prop}{nt m:Nat}{Q:Exit→ae→Prop}{s:ae}
theorem TW.le {c:Code}(env:List (Nat×GV))(sto:List (Nat×ak))(he:RJ s.env env)(hs:RK s.sto sto)(hw:TW P E nt m c Q ⟨env,sto,s.nx⟩):TW P E nt m c Q s:=by
 intro C a w hn hm hR;refine hw C a w hn hm ?_;obtain⟨ρ,D,h⟩:=hR;have hg:∀b,(s.get b=none∧ae.get ⟨env,sto,s.nx⟩ b=none)∨∃y y',s.get b=some y∧ae.get ⟨env,sto,s.nx⟩ b=some y'∧y.le y':=by
  intro b;unfold ae.get;rcases JY b hs with⟨U,h2⟩|⟨y,y',U,h2,h3⟩
  ·rw[U,h2]
   simp only
   split
   ·exact .inr ⟨_,_,rfl,rfl,rfl⟩
   ·exact .inl ⟨rfl,rfl⟩
  ·rw[U,h2]
   exact .inr ⟨_,_,rfl,rfl,h3⟩
 have hb:∀b y',ae.get ⟨env,sto,s.nx⟩ b=some y'→∃y,s.get b=some y∧y.le y':=by
  intro b y' hy;rcases hg b with⟨U,h2⟩|⟨y,y2,U,h2,h3⟩
  ·rw[h2]at hy;cases hy
  ·rw[h2]at hy;cases hy;exact⟨y,U,h3⟩
 refine⟨ρ,D,⟨h.os,h.tape,h.output,h.size,h.old,h.ro,fun b cv=>?_,fun b y' hy=>?_,fun b y' g hy hl=>?_,fun b y b' y' g hy hl dc bz=>?_,fun t=>(h.env t).le (JX t he),h.defers,h.nt,h.ext⟩⟩
 ·rcases hg b with⟨U,h2⟩|⟨y,y2,U,h2,h3⟩
  ·exact h.free b U
  ·rw[h2]at cv;cases cv
 ·obtain⟨y,U,h2⟩:=hb b y' hy
  exact(h.blk b y U).le h2
 ·obtain⟨y,U,h2⟩:=hb b y' hy
  exact h.own b y g U (by rw[ak.xu h2];exact hl)
 ·obtain⟨z,U,h2⟩:=hb b y hy
  obtain⟨z',iM,lU⟩:=hb b' y' dc;exact h.sep b z b' z' g U (by rw[ak.xu h2];exact hl) iM (by rw[ak.xu lU];exact bz)
theorem TC.le {f:FuncId}{args bJ:List GV}{sto sto':List (Nat×ak)}{r:GV}(h:RL args bJ)(hT:TC P E f bJ m sto r sto'):TC P E f args m sto r sto':=by
 obtain⟨U,h2⟩:=Gn h;refine⟨hT.1,fun w bS ρ D hn hr=>hT.2 w bS ρ D (hn.trans U) fun i g hg=>?_⟩
 obtain⟨x,hx,hl⟩:=h2 i g hg;exact(hr i x hx).le hl
end
attribute [simp] RJ RK RL Mu GV.le ak.le TV.le_refl TV.le_nil pq GV.le_refl ak.le_refl
def fN (m:Nat)(ns:List Nat)(b:Nat):Nat:=if b<m then b else ns.getD (b-m) 0
attribute [simp] fN TV.bZ GV.bZ eL ak.bZ TV.bg GV.bg eK ak.bg TV.names GV.names cI ak.names
theorem ar.own {P:Program}{xs:List ResultVar}{m:Nat}{s:ae}{r:GV}{sto':List (Nat×ak)}(ns cs:List Nat){r0:GV}(h:s.res P xs=some r0)(hv:r0.bZ s.get cs=r.bg (fN m ns))(hn:∀b∈r.names,b<m∨(gt b sto').isSome=true)
  (hc:∀b∈cs,∃e k xs,s.get b=some (.rows e k xs)) (hs:∀x∈sto',fN m ns x.1∉cs∧(s.get (fN m ns x.1)).map (ak.bZ s.get cs)=some (x.2.bg (fN m ns))∧∀b∈x.2.names,b<m∨(gt b sto').isSome=true)
  (hi:∀x∈sto',∀y∈sto',fN m ns x.1=fN m ns y.1→x.1=y.1):ar P xs m s r sto':=
 ⟨fN m ns,cs,r0,h,hv,hn,hc,hs,hi,fun b hb=>by simp[fN,hb]⟩
theorem ny (f:Nat→Nat):∀{gs:List GV},cI gs=[]→eK f gs=gs
 |[],_=>rfl
 |g::gs,h=>by
  simp only[cI,List.append_eq_nil_iff]at h;simp only[eK,GV.iq f _ h.1,ny f h.2]
attribute [simp] List.range_succ List.range_zero rowOf
theorem aC.fresh {C:CT}{r:Rg}{o:Oper}{os:List Oper}{gd:List (Nat ⊕ Nat)}{s:ae}{acc:List Pl}{K:ae→Prop}{fx:Operand}{args:Array Operand}{ts:Array TypeId}(ho:o.op= .call {callee:= .value fx,args:=args,argTypes:=ts}){f:FuncId}{fs cs gs:List GV}(hf:(s.ev fx).fn?=some (f,fs,cs))
  (peek:List Nat) (hg:eL s.get peek (fs++args.toList.map s.ev++cs)=gs) (eJ:∀b∈peek,rowOf (s.get b)=true) (cnt:Nat) {res:GV} {sto':List (Nat×ak)} (hT:TC r.P r.E f gs 0 [] res sto') (h0:cI gs=[]) (U:∀b∈res.names,b<cnt) (h2:∀x∈sto',x.1<cnt∧∀b∈x.2.names,b<cnt)
  (h:run C r os (s.step o.dst (res.bg (φ [] s.nx)) (gO s [] peek sto' cnt) (s.nx+cnt)) (if r.draw then fy o gd (fS s [] peek cnt) (gO s [] peek sto' cnt)::acc else[]) K):aC C r o os gd s acc K:=
 aC.any ho hf [] peek cnt hT ⟨by rw[hg,ny _ h0],List.nodup_nil,fun b hb=>(by cases hb),fun b _ hb=>(by cases hb),eJ,fun b hb=>(by simp at hb),fun x hx=>(by cases hx),fun x hx=>by simpa using(h2 x hx).1⟩ (by simpa using U) (fun x hx b hb=>by simpa using(h2 x hx).2 b hb) h
theorem Wk.own {m:Nat}{s s':ae}(ns cs:List Nat)(hc:∀b∈cs,∃e k xs,s.get b=some (.rows e k xs))(he:∀x∈s'.env,(lk x.1 s.env).bZ s.get cs=x.2.bg (fN m ns)∧∀b∈x.2.names,b<s'.nx)
  (hs:∀x∈s'.sto,x.1<s'.nx∧fN m ns x.1∉cs∧(s.get (fN m ns x.1)).map (ak.bZ s.get cs)=some (x.2.bg (fN m ns))∧∀b∈x.2.names,b<s'.nx) (hi:∀x∈s'.sto,∀y∈s'.sto,fN m ns x.1=fN m ns y.1→x.1=y.1) (hm:m≤s'.nx):Wk m s s':=
 ⟨fN m ns,cs,hc,fun x hx=> .inr (he x hx),hs,hi,hm,fun b hb=>by simp[fN,hb]⟩
theorem kU {α β:Type}{f:α→β}{xs:List α}{k:Nat}{x:α}(h:xs[k]?=some x):List.take (k+1) (List.map f xs)=List.take k (List.map f xs)++[f x]:=by
 rw[List.take_add_one,List.getElem?_map,h];rfl
@[simp] theorem Qa {α β:Type} (f:α→β) (xs:List α):List.take xs.length (List.map f xs)=List.map f xs:=List.take_of_length_le (by simp)
@[simp] theorem W9 (n:Nat):(0:Int)≤(n:Int)+1:=by omega
@[simp] theorem W_ (n:Nat):¬((n:Int)<0):=by omega
end Go.Proofs.YtjklkppncmhehaaGreat.T
namespace Go.Proofs.YtjklkppncmhehaaGreat.T
open Go Go.RowKit
def TV.du:TV→Bool
 | .r (.v _)=>true
 | .own _=>true
 |_=>false
mutual
def GV.du:GV→Bool
 | .s t=>t.du
 | .a ts=>ts.all TV.du
 | .p gs=>tw gs
 |_=>false
def tw:List GV→Bool
 |[]=>true
 |g::gs=>g.du&&tw gs
end
def RT.flat:RT→Bool
 | .v _=>true
 |_=>false
def ak.du:ak→Bool
 | .rows _ _ xs=>xs.all fun y=>y.all RT.flat
 |_=>false
section
variable {ρ ρ':Nat→Option Value}{w w':World}{D D':Nat→Prop}
theorem bW.du {v:Value}{t:TV}(h:bW ρ w D v t)(hf:t.du=true){f:Nat→Nat}(ff:∀b x,ρ b=some x→ρ' (f b)=some x):bW ρ' w' D' v (t.bg f):=by
 unfold TV.du at hf;split at hf
 ·cases h with|r h=>cases h with|v h=>exact .r (.v h)
 ·cases h with|own h=>exact .own (ff _ _ h)
 ·cases hf
theorem xv {g:GV}:∀{gs:List GV},tw gs=true→g∈gs→g.du=true
 |x::gs,h,hm=>by
  simp only[tw,Bool.and_eq_true]at h;rcases List.mem_cons.1 hm with rfl|hm
  ·exact h.1
  ·exact xv h.2 hm
theorem aY.du {v:Value}{g:GV}(h:aY ρ w D v g){f:Nat→Nat}(ff:∀b x,ρ b=some x→ρ' (f b)=some x):g.du=true→aY ρ' w' D' v (g.bg f):=by
 induction h with
 |s h=>exact fun hf=> .s (h.du hf ff)
 |a hn h=>
  intro hf;simp only[GV.du,List.all_eq_true]at hf;simp only[GV.bg];refine .a (by simpa using hn) fun i t ht=>?_
  rw[List.getElem?_map,Option.map_eq_some_iff]at ht;obtain⟨t',uP,rfl⟩:=ht;exact(h i t' uP).du (hf t' (List.mem_of_getElem? uP)) ff
 |p hn _ ih=>
  intro hf;simp only[GV.bg];refine .p (by rw[cJ];exact hn) fun i g hg=>?_
  rw[fP,Option.map_eq_some_iff]at hg;obtain⟨g',a_,rfl⟩:=hg;exact ih i g' a_ (xv hf (List.mem_of_getElem? a_))
 |eI=>exact fun hf=>by simp[GV.du]at hf
 |u=>exact fun hf=>by simp[GV.du]at hf
theorem dt.du {x:Option Value}{y:ak}(h:dt ρ w D x y)(hf:y.du=true):dt ρ' w D' x y:=by
 cases y with
 |rows e k xs=>
  simp only[ak.du,List.all_eq_true]at hf;obtain⟨A,c,U,h2,h3,h4,h5,h6⟩:=h;refine⟨A,c,U,h2,h3,h4,h5,?_⟩;rcases h6 with h6|⟨g,arr,h6,h7,h8,h9⟩
  ·exact .inl h6
  ·refine .inr ⟨g,arr,h6,h7,h8,fun i y hy j r hr=>?_⟩
   have:=hf y (List.mem_of_getElem? hy) r (List.mem_of_getElem? hr)
   have pH:=h9 i y hy j r hr
   cases r with
   |v x=>generalize arr.getD (i*k+j) undef=z at pH;cases pH with|v pH=>exact .v pH
   |nil=>simp[RT.flat]at this
   |sl _ _=>simp[RT.flat]at this
 |box cs=>simp[ak.du]at hf
 |dead=>trivial
theorem BZ (b:Nat):∀(x y:List (Nat×ak)),gt b (x++y)=match gt b x with|some z=>some z|none=>gt b y
 |[],y=>rfl
 |(u,z)::x,y=>by
  simp only[List.cons_append,gt];by_cases h:b=u
  ·rw[if_pos h,if_pos h]
  ·rw[if_neg h,if_neg h,BZ b x y]
theorem tx (m b:Nat):∀(y:List (Nat×ak)),gt b (y.map fun x=>(x.1+m,x.2))=if m≤b then gt (b-m) y else none
 |[]=>by simp[gt]
 |(u,z)::y=>by
  simp only[List.map_cons,gt,tx m b y];by_cases h:m≤b
  ·by_cases e:b=u+m
   ·rw[if_pos e,if_pos h,if_pos (by omega)]
   ·rw[if_neg e,if_pos h,if_pos h,if_neg (by omega)]
  ·rw[if_neg h,if_neg h,if_neg (by omega)]
end
theorem TC.JZ {P:Program}{E:List PanicEntry→World→Prop}{f:FuncId}{args bJ:List GV}{m:Nat}{sto sto':List (Nat×ak)}{r:GV}(hT:TC P E f bJ 0 [] r sto')(hfit:Fits args m sto)
  (qQ:eL (fun b=>gt b sto) (List.range m) args=bJ) (hr:r.du=true) (hs:∀x∈sto',x.2.du=true):TC P E f args m sto (r.bg (·+m)) (sto++sto'.map fun x=>(x.1+m,x.2)):=by
 obtain⟨F8,hT⟩:=hT;refine⟨F8,fun w bS ρ D hv ha hD iH Cm Ry=>?_⟩
 have BL:∀b y,gt b sto=some y→b<m:=fun b y hy=>hfit.lt _ (dY hy)
 have hR:Rel {W:=w,M:=Mf sto ρ,D0:=D,nt:=0,kF:=fun b=>if b<m then ρ b else none} (fun _=> .u) (fun b=>gt b sto) {tmps:= #[],defers:=[]} w (fun b=>if b<m then ρ b else none) D:=by
  refine⟨rfl,rfl,rfl,Nat.le_refl _,fun k _ _=>rfl,fun k hk=>⟨hD k hk,.inl hk⟩,fun b hb=>?_,fun b y hy=>?_,fun b y g hy hl hg=>?_,fun b y b' y' g hy hl dc bz hg a_=>?_,fun t=> .u,rfl,rfl,fun b x hx=>hx⟩
  ·by_cases h:b<m
   ·obtain⟨y,hy,_⟩:=hfit.live h
    rw[hy]at hb;cases hb
   ·simp[h]
  ·have U:=BL _ _ hy
   simp only[U,if_true];exact(iH b y hy).restrict fun c hc x hx=>by rw[if_pos (hfit.sto _ (dY hy) c hc)];exact hx
  ·have U:=BL _ _ hy
   simp only[U,if_true]at hg;exact⟨Cm b y g hy hl hg,.inl ⟨b,y,hy,hl,hg⟩⟩
  ·have U:=BL _ _ hy
   have iM:=BL _ _ dc;simp only[U,iM,if_true]at hg a_;exact Ry b y b' y' g hy hl dc bz hg a_
 obtain⟨D1,sj,BO,Pq⟩:=hR.consume (List.range m) fun b hb=>hfit.live (List.mem_range.1 hb)
 refine(hT w bS (fun b=>if b<m then ρ b else none) D1 (by rw[hv,←qQ,fQ]) (fun i g hg=>?_) (fun k hk=>(sj.ro k hk).1) (fun b y h=>by cases h) (fun b y g h=>by cases h) (fun b y b' y' g h=>by cases h)).mono ?_
 ·rw[←qQ,mz,Option.map_eq_some_iff]at hg
  obtain⟨g',a_,rfl⟩:=hg;exact((ha i g' a_).restrict fun c hc x hx=>by rw[if_pos (hfit.args _ (List.mem_of_getElem? a_) c hc)];exact hx).bZ hR BO Pq
 rintro e w' (h|⟨v,w_,D2,rfl,fp,hP⟩)
 ·exact .inl h
 right
 have hm:∀ρ' k,¬Mf [] ρ' k:=fun _ k ⟨b,y,h,_⟩=>by cases h
 have hold:∀k,k<w.heap.size→w'.heap[k]?=w.heap[k]?:=fun k hk=>hP.old k hk (hm _ k)
 have hK:bV D w w':=fun k hd=>hold k (hD k hd)
 have uF:∀b y,gt b (sto++sto'.map fun x=>(x.1+m,x.2))=some y→(b<m∧gt b sto=some y)∨(m≤b∧gt (b-m) sto'=some y):=by
  intro b y hy;rw[BZ,tx]at hy;by_cases h:b<m
  ·obtain⟨z,hz,_⟩:=hfit.live h
   rw[hz]at hy;exact .inl ⟨h,by rw[hz];exact hy⟩
  ·have:gt b sto=none:=by
    cases hz:gt b sto with
    |none=>rfl
    |some z=>exact absurd (BL _ _ hz) h
   rw[this,if_pos (by omega)]at hy
   exact .inr ⟨by omega,hy⟩
 have aj:∀b y g,gt b sto=some y→y.live=true→bo (ρ b)=some g→g<w.heap.size:=by
  intro b y g hy hl hg;refine hR.fu (b:=b) hy hl ?_;simp only[BL _ _ hy,if_true];exact hg
 refine⟨v,fun b=>if b<m then ρ b else w_ (b-m),D,rfl,fp.du (fun b x hx=>?_) hr,⟨hP.os,hP.tape,hP.output,hP.size,fun k hk _=>hold k hk,fun k hk=>⟨Nat.lt_of_lt_of_le (hD k hk) hP.size,.inl hk⟩,fun b y hy=>?_,fun b y g hy hl hg=>?_,fun b y b' y' g hy hl dc bz hg a_=>?_,fun b hb=>by simp[hb],fun b hb hn=>?_⟩⟩
 ·rw[if_neg (by omega),show b+m-m=b by omega];exact hx
 ·rcases uF b y hy with⟨U,h2⟩|⟨U,h2⟩
  ·rw[if_pos U]
   refine((iH b y h2).restrict (ρ':=fun b=>if b<m then ρ b else none) fun c hc x hx=>by rw[if_pos (hfit.sto _ (dY h2) c hc)];exact hx).bB (fun c x hx=>?_) hK (fun _ h=>h) ?_
   ·split at hx
    ·rename_i hc;rw[if_pos hc];exact hx
    ·cases hx
   ·by_cases hl:y.live=true
    ·exact .inr fun g hg=>hold g (aj b y g h2 hl hg)
    ·left
     cases y<;>simp[ak.live]at hl
     rfl
  ·rw[if_neg (by omega)]
   exact(hP.blk _ _ h2).du (hs _ (dY h2))
 ·rcases uF b y hy with⟨U,h2⟩|⟨U,h2⟩
  ·rw[if_pos U]at hg
   exact⟨Cm b y g h2 hl hg,.inl ⟨b,y,h2,hl,hg⟩⟩
  ·rw[if_neg (by omega)]at hg
   have:=(hP.own _ _ _ h2 hl hg).2
   rcases this with h|h
   ·exact absurd h (hm _ _)
   ·exact⟨fun hd=>by have:=hD g hd;omega,.inr h⟩
 ·rcases uF b y hy with⟨U,h2⟩|⟨U,h2⟩<;>rcases uF b' y' dc with⟨h3,h4⟩|⟨h3,h4⟩
  ·rw[if_pos U]at hg
   rw[if_pos h3]at a_;exact Ry b y b' y' g h2 hl h4 bz hg a_
  ·rw[if_pos U]at hg
   rw[if_neg (by omega)]at a_
   have h5:=aj b y g h2 hl hg;rcases(hP.own _ _ _ h4 bz a_).2 with h|h
   ·exact absurd h (hm _ _)
   ·omega
  ·rw[if_neg (by omega)]at hg
   rw[if_pos h3]at a_;have h5:=aj b' y' g h4 bz a_;rcases(hP.own _ _ _ h2 hl hg).2 with h|h
   ·exact absurd h (hm _ _)
   ·omega
  ·rw[if_neg (by omega)]at hg a_
   have:=hP.sep _ _ _ _ _ h2 hl h4 bz hg a_
   omega
 ·rw[BZ,tx,if_pos hb]at hn
  have:gt b sto=none:=by
   cases hz:gt b sto with
   |none=>rfl
   |some z=>exact absurd (BL _ _ hz) (by omega)
  rw[this]at hn;rw[if_neg (by omega)]
  exact hP.free _ (Nat.zero_le _) hn
theorem Fits.of {args:List GV}{m:Nat}{sto:List (Nat×ak)}(U:iT m sto=true)(h2:∀x∈sto,x.1<m∧∀b∈x.2.names,b<m)(h3:∀b∈cI args,b<m):Fits args m sto:=
 ⟨U,fun x hx=>(h2 x hx).1,fun g hg b hb=>h3 b (uO hg b hb),fun x hx=>(h2 x hx).2⟩
theorem aC.rd {C:CT}{r:Rg}{o:Oper}{os:List Oper}{gd:List (Nat ⊕ Nat)}{s:ae}{acc:List Pl}{K:ae→Prop}{fx:Operand}{args:Array Operand}{ts:Array TypeId}(ho:o.op= .call {callee:= .value fx,args:=args,argTypes:=ts}){f:FuncId}{fs cs gs:List GV}(hf:(s.ev fx).fn?=some (f,fs,cs))
  {b:Nat} {PA:List GV} (UD:fs++args.toList.map s.ev++cs=PA) (uF:PA= .s (.ptr b 0)::gs) {bx:List TV} (hb:s.get b=some (.box bx)) {B0:List TV} {res:GV} (hT:TC r.P r.E f (.s (.ptr 0 0)::gs) 1 [(0,.box bx)] res [(0,.box B0)]) (h0:cI gs=[]) (U:(ak.box bx).names=[]) (iM:(ak.box B0).names=[]) (h2:res.names=[]) (aj:b<s.nx)
  (h:run C r os (s.step o.dst res [(b,.box B0)] s.nx) (if r.draw then fy o gd [(b,some (.box bx))] [(b,.box B0)]::acc else[]) K):aC C r o os gd s acc K:=by
 have hg:=UD.trans uF;have Sp:∀(f:Nat→Nat) (ts:List TV),(ak.box ts).names=[]→(ak.box ts).bg f= .box ts:=by
  intro f ts h;simp only[ak.names,List.flatMap_eq_nil_iff]at h;simp only[ak.bg];congr 1
  exact(List.map_congr_left fun t ht=>TV.iq f t (h t ht)).trans (List.map_id ts)
 refine aC.any ho hf [b] [] 0 hT ⟨?_,by simp,by simpa using aj,by simp,by simp,fun c hc=>?_,by simp[ak.live],by simp⟩ (by simp[h2]) (fun x hx c hc=>by simp only[List.mem_singleton]at hx;subst hx;rw[iM]at hc;cases hc) ?_
 ·rw[hg,mA]
  simp only[eK,GV.bg,TV.bg,φ,List.length_singleton,Nat.lt_add_one,if_true,List.getD_cons_zero];rw[ny _ h0]
 ·simp only[List.length_singleton,Nat.lt_one_iff]at hc
  subst hc;simp only[List.getD_cons_zero,gt,if_true,Option.map_some,hb,Sp _ _ U,Option.isSome_some,and_self]
 ·rw[GV.iq _ _ h2]
  simp only[gO,fS,List.length_singleton,List.range_one,List.map_cons,List.map_nil,List.getD_cons_zero,gt,if_true,Sp _ _ iM,List.range_zero,List.append_nil,hb,Nat.add_zero];exact h
def sz (s:ae)(f:Nat→Nat)(sto0:List (Nat×ak)):Nat→List Nat→Prop
 |_,[]=>True
 |i,c::cs=>(s.get c=(gt i sto0).map (ak.bg f)∧(gt i sto0).isSome=true)∧sz s f sto0 (i+1) cs
attribute [simp] sz ak.live
theorem uu {s:ae}{f:Nat→Nat}{sto0:List (Nat×ak)}:∀{cs:List Nat} {i b:Nat},sz s f sto0 i cs→b<cs.length→s.get (cs.getD b 0)=(gt (i+b) sto0).map (ak.bg f)∧(gt (i+b) sto0).isSome=true
 |c::cs,i,0,h,_=>h.1
 |c::cs,i,b+1,h,hb=>by
  have:=uu (b:=b) h.2 (by simpa using hb)
  rw[show i+1+b=i+(b+1) by omega]at this
  simpa using this
theorem aC.JZ {C:CT}{r:Rg}{o:Oper}{os:List Oper}{gd:List (Nat ⊕ Nat)}{s:ae}{acc:List Pl}{K:ae→Prop}{fx:Operand}{args:Array Operand}{ts:Array TypeId}(ho:o.op= .call {callee:= .value fx,args:=args,argTypes:=ts}){f:FuncId}{fs cs:List GV}(hf:(s.ev fx).fn?=some (f,fs,cs))
  (frag:List Nat) (cnt:Nat) {bJ:List GV} {sto0 sto':List (Nat×ak)} {res:GV} (hT:TC r.P r.E f bJ frag.length sto0 res sto') (ha:fs++args.toList.map s.ev++cs=eK (φ frag s.nx) bJ) (hn:frag.Nodup) (aj:∀b∈frag,b<s.nx)
  (hb:sz s (φ frag s.nx) sto0 0 frag) (hl:∀x∈sto0,x.1<frag.length∧x.2.live=true) (hs:∀x∈sto',x.1<frag.length+cnt∧∀b∈x.2.names,b<frag.length+cnt) (U:∀b∈res.names,b<frag.length+cnt)
  (h:run C r os (s.step o.dst (res.bg (φ frag s.nx)) (gO s frag [] sto' cnt) (s.nx+cnt)) (if r.draw then fy o gd (fS s frag [] cnt) (gO s frag [] sto' cnt)::acc else[]) K):aC C r o os gd s acc K:=
 aC.any ho hf frag [] cnt hT ⟨by rw[mA];exact ha,hn,aj,by simp,by simp,fun b h=>(by have:=uu (b:=b) hb h;rwa[Nat.zero_add]at this),hl,fun x hx=>(hs x hx).1⟩ U (fun x hx=>(hs x hx).2) h
end Go.Proofs.YtjklkppncmhehaaGreat.T
namespace Go.Proofs.YtjklkppncmhehaaGreat.Td
open Go Go.Proofs.YtjklkppncmhehaaGreat.T
theorem mixed:Tw.prog.follows .mixedOrders=true:=by kernel_rfl
@[simp] theorem t3:aq Tw.prog 3=some ⟨1,8,[.int .i64 0],.sc⟩:=by kernel_rfl
@[simp] theorem b3:aD Tw.prog 3=false:=by kernel_rfl
@[simp] theorem i3:oJ Tw.prog 3=some .i64:=by kernel_rfl
@[simp] theorem t4:aq Tw.prog 4=some ⟨1,1,[.bool false],.sc⟩:=by kernel_rfl
@[simp] theorem b4:aD Tw.prog 4=true:=by kernel_rfl
@[simp] theorem t5:aq Tw.prog 5=some ⟨1,1,[.int .u8 0],.sc⟩:=by kernel_rfl
@[simp] theorem b5:aD Tw.prog 5=false:=by kernel_rfl
@[simp] theorem i5:oJ Tw.prog 5=some .u8:=by kernel_rfl
@[simp] theorem t20:aq Tw.prog 20=some ⟨1,16,[.nilIface],.sc⟩:=by kernel_rfl
@[simp] theorem b20:aD Tw.prog 20=false:=by kernel_rfl
@[simp] theorem t22:aq Tw.prog 22=some ⟨1,24,[.slice none 0 0],.slice 5⟩:=by kernel_rfl
@[simp] theorem b22:aD Tw.prog 22=false:=by kernel_rfl
@[simp] theorem t23:aq Tw.prog 23=some ⟨1,24,[.slice none 0 0],.slice 37⟩:=by kernel_rfl
@[simp] theorem b23:aD Tw.prog 23=false:=by kernel_rfl
@[simp] theorem t24:aq Tw.prog 24=some ⟨1,24,[.slice none 0 0],.slice 3⟩:=by kernel_rfl
@[simp] theorem b24:aD Tw.prog 24=false:=by kernel_rfl
@[simp] theorem t28:aq Tw.prog 28=some ⟨2,16,[.int .i64 0,.int .i64 0],.struct [(0,3),(1,3)]⟩:=by kernel_rfl
@[simp] theorem b28:aD Tw.prog 28=false:=by kernel_rfl
@[simp] theorem q28:iV Tw.prog 28=some [true,true]:=by kernel_rfl
@[simp] theorem t32:aq Tw.prog 32=some ⟨4,32,[.int .i64 0,.int .i64 0,.int .i64 0,.bool false],.struct [(0,3),(1,28),(3,4)]⟩:=by kernel_rfl
@[simp] theorem b32:aD Tw.prog 32=false:=by kernel_rfl
@[simp] theorem q32:iV Tw.prog 32=some [true,true,true,false]:=by kernel_rfl
@[simp] theorem t35:aq Tw.prog 35=some ⟨1,24,[.slice none 0 0],.slice 32⟩:=by kernel_rfl
@[simp] theorem b35:aD Tw.prog 35=false:=by kernel_rfl
@[simp] theorem t37:aq Tw.prog 37=some ⟨4,64,[.int .i64 0,.int .i64 0,.slice none 0 0,.slice none 0 0],.struct [(0,3),(1,3),(2,35),(3,35)]⟩:=by kernel_rfl
@[simp] theorem b37:aD Tw.prog 37=false:=by kernel_rfl
@[simp] theorem t41:aq Tw.prog 41=some ⟨1,24,[.slice none 0 0],.slice 28⟩:=by kernel_rfl
@[simp] theorem b41:aD Tw.prog 41=false:=by kernel_rfl
@[simp] theorem t43:aq Tw.prog 43=some ⟨3,56,[.int .i64 0,.slice none 0 0,.slice none 0 0],.struct [(0,3),(1,24),(2,41)]⟩:=by kernel_rfl
@[simp] theorem b43:aD Tw.prog 43=false:=by kernel_rfl
@[simp] theorem t57:aq Tw.prog 57=some ⟨1,24,[.slice none 0 0],.slice 24⟩:=by kernel_rfl
@[simp] theorem b57:aD Tw.prog 57=false:=by kernel_rfl
@[simp] theorem t58:aq Tw.prog 58=some ⟨1,24,[.slice none 0 0],.slice 149⟩:=by kernel_rfl
@[simp] theorem b58:aD Tw.prog 58=false:=by kernel_rfl
@[simp] theorem t59:aq Tw.prog 59=some ⟨1,24,[.slice none 0 0],.slice 153⟩:=by kernel_rfl
@[simp] theorem b59:aD Tw.prog 59=false:=by kernel_rfl
@[simp] theorem t60:aq Tw.prog 60=some ⟨1,24,[.slice none 0 0],.slice 4⟩:=by kernel_rfl
@[simp] theorem b60:aD Tw.prog 60=false:=by kernel_rfl
@[simp] theorem t61:aq Tw.prog 61=some ⟨1,24,[.slice none 0 0],.slice 160⟩:=by kernel_rfl
@[simp] theorem b61:aD Tw.prog 61=false:=by kernel_rfl
@[simp] theorem t63:aq Tw.prog 63=some ⟨5,120,[.slice none 0 0,.slice none 0 0,.slice none 0 0,.slice none 0 0,.slice none 0 0],.struct [(0,57),(1,58),(2,59),(3,60),(4,61)]⟩:=by kernel_rfl
@[simp] theorem b63:aD Tw.prog 63=false:=by kernel_rfl
@[simp] theorem t66:aq Tw.prog 66=some ⟨1,24,[.slice none 0 0],.slice 43⟩:=by kernel_rfl
@[simp] theorem b66:aD Tw.prog 66=false:=by kernel_rfl
@[simp] theorem t67:aq Tw.prog 67=some ⟨1,24,[.slice none 0 0],.slice 117⟩:=by kernel_rfl
@[simp] theorem b67:aD Tw.prog 67=false:=by kernel_rfl
@[simp] theorem t69:aq Tw.prog 69=some ⟨5,120,[.slice none 0 0,.slice none 0 0,.slice none 0 0,.slice none 0 0,.slice none 0 0],.struct [(0,57),(1,23),(2,66),(3,60),(4,67)]⟩:=by kernel_rfl
@[simp] theorem b69:aD Tw.prog 69=false:=by kernel_rfl
@[simp] theorem t77:aq Tw.prog 77=some ⟨1,8,[.pointer none],.sc⟩:=by kernel_rfl
@[simp] theorem b77:aD Tw.prog 77=false:=by kernel_rfl
@[simp] theorem t86:aq Tw.prog 86=some ⟨1,8,[.nilFunc],.sc⟩:=by kernel_rfl
@[simp] theorem b86:aD Tw.prog 86=false:=by kernel_rfl
@[simp] theorem t88:aq Tw.prog 88=some ⟨2,48,[.slice none 0 0,.slice none 0 0],.array 2 35⟩:=by kernel_rfl
@[simp] theorem b88:aD Tw.prog 88=false:=by kernel_rfl
@[simp] theorem t93:aq Tw.prog 93=some ⟨1,24,[.slice none 0 0],.slice 3⟩:=by kernel_rfl
@[simp] theorem b93:aD Tw.prog 93=false:=by kernel_rfl
@[simp] theorem t95:aq Tw.prog 95=some ⟨2,48,[.slice none 0 0,.slice none 0 0],.struct [(0,93),(1,41)]⟩:=by kernel_rfl
@[simp] theorem b95:aD Tw.prog 95=false:=by kernel_rfl
@[simp] theorem t104:aq Tw.prog 104=some ⟨1,24,[.slice none 0 0],.slice 107⟩:=by kernel_rfl
@[simp] theorem aap:aD Tw.prog 104=false:=by kernel_rfl
@[simp] theorem t107:aq Tw.prog 107=some ⟨5,40,[.int .i64 0,.int .i64 0,.int .i64 0,.bool false,.bool false],.struct [(0,32),(4,4)]⟩:=by kernel_rfl
@[simp] theorem aaq:aD Tw.prog 107=false:=by kernel_rfl
@[simp] theorem aar:iV Tw.prog 107=some [true,true,true,false,false]:=by kernel_rfl
@[simp] theorem t117:aq Tw.prog 117=some ⟨5,40,[.int .i64 0,.int .i64 0,.int .i64 0,.int .i64 0,.int .i64 0],.struct [(0,3),(1,3),(2,3),(3,28)]⟩:=by kernel_rfl
@[simp] theorem aas:aD Tw.prog 117=false:=by kernel_rfl
@[simp] theorem aat:iV Tw.prog 117=some [true,true,true,true,true]:=by kernel_rfl
@[simp] theorem t133:aq Tw.prog 133=some ⟨2,32,[.slice none 0 0,.int .i64 0],.struct [(0,22),(1,3)]⟩:=by kernel_rfl
@[simp] theorem aau:aD Tw.prog 133=false:=by kernel_rfl
@[simp] theorem t139:aq Tw.prog 139=some ⟨12,12,[.bool false,.bool false,.bool false,.bool false,.bool false,.bool false,.bool false,.bool false,.bool false,.bool false,.bool false,.bool false],.array 12 4⟩:=by kernel_rfl
@[simp] theorem aav:aD Tw.prog 139=false:=by kernel_rfl
@[simp] theorem t145:aq Tw.prog 145=some ⟨1,8,[.nilFunc],.sc⟩:=by kernel_rfl
@[simp] theorem aaw:aD Tw.prog 145=false:=by kernel_rfl
@[simp] theorem t147:aq Tw.prog 147=some ⟨1,24,[.slice none 0 0],.slice 227⟩:=by kernel_rfl
@[simp] theorem aax:aD Tw.prog 147=false:=by kernel_rfl
@[simp] theorem t149:aq Tw.prog 149=some ⟨4,64,[.int .i64 0,.int .i64 0,.slice none 0 0,.slice none 0 0],.struct [(0,3),(1,3),(2,147),(3,147)]⟩:=by kernel_rfl
@[simp] theorem aay:aD Tw.prog 149=false:=by kernel_rfl
@[simp] theorem t151:aq Tw.prog 151=some ⟨1,24,[.slice none 0 0],.slice 158⟩:=by kernel_rfl
@[simp] theorem aaz:aD Tw.prog 151=false:=by kernel_rfl
@[simp] theorem t153:aq Tw.prog 153=some ⟨3,56,[.int .i64 0,.slice none 0 0,.slice none 0 0],.struct [(0,3),(1,24),(2,151)]⟩:=by kernel_rfl
@[simp] theorem aaA:aD Tw.prog 153=false:=by kernel_rfl
@[simp] theorem t158:aq Tw.prog 158=some ⟨2,16,[.int .i64 0,.int .i64 0],.struct [(0,3),(1,3)]⟩:=by kernel_rfl
@[simp] theorem aaB:aD Tw.prog 158=false:=by kernel_rfl
@[simp] theorem aaC:iV Tw.prog 158=some [true,true]:=by kernel_rfl
@[simp] theorem t160:aq Tw.prog 160=some ⟨5,40,[.int .i64 0,.int .i64 0,.int .i64 0,.int .i64 0,.int .i64 0],.struct [(0,3),(1,3),(2,3),(3,158)]⟩:=by kernel_rfl
@[simp] theorem aaD:aD Tw.prog 160=false:=by kernel_rfl
@[simp] theorem aaE:iV Tw.prog 160=some [true,true,true,true,true]:=by kernel_rfl
@[simp] theorem t172:aq Tw.prog 172=some ⟨2,16,[.int .i64 0,.int .i64 0],.struct [(0,3),(1,3)]⟩:=by kernel_rfl
@[simp] theorem aaF:aD Tw.prog 172=false:=by kernel_rfl
@[simp] theorem aaG:iV Tw.prog 172=some [true,true]:=by kernel_rfl
@[simp] theorem t178:aq Tw.prog 178=some ⟨1,24,[.slice none 0 0],.slice 32⟩:=by kernel_rfl
@[simp] theorem aaH:aD Tw.prog 178=false:=by kernel_rfl
@[simp] theorem t180:aq Tw.prog 180=some ⟨1,8,[.pointer none],.sc⟩:=by kernel_rfl
@[simp] theorem aaI:aD Tw.prog 180=false:=by kernel_rfl
@[simp] theorem t183:aq Tw.prog 183=some ⟨0,0,[],.struct []⟩:=by kernel_rfl
@[simp] theorem aaJ:aD Tw.prog 183=false:=by kernel_rfl
@[simp] theorem aaK:iV Tw.prog 183=some []:=by kernel_rfl
@[simp] theorem t184:aq Tw.prog 184=some ⟨0,0,[],.struct []⟩:=by kernel_rfl
@[simp] theorem aaL:aD Tw.prog 184=false:=by kernel_rfl
@[simp] theorem aaM:iV Tw.prog 184=some []:=by kernel_rfl
@[simp] theorem t185:aq Tw.prog 185=some ⟨0,0,[],.struct []⟩:=by kernel_rfl
@[simp] theorem aaN:aD Tw.prog 185=false:=by kernel_rfl
@[simp] theorem aaO:iV Tw.prog 185=some []:=by kernel_rfl
@[simp] theorem t186:aq Tw.prog 186=some ⟨1,8,[.int .u64 0],.sc⟩:=by kernel_rfl
@[simp] theorem aaP:aD Tw.prog 186=false:=by kernel_rfl
@[simp] theorem aaQ:oJ Tw.prog 186=some .u64:=by kernel_rfl
@[simp] theorem t188:aq Tw.prog 188=some ⟨1,8,[.int .u64 0],.struct [(0,184),(0,185),(0,186)]⟩:=by kernel_rfl
@[simp] theorem aaR:aD Tw.prog 188=false:=by kernel_rfl
@[simp] theorem t189:aq Tw.prog 189=some ⟨1,4,[.int .u32 0],.sc⟩:=by kernel_rfl
@[simp] theorem aaS:aD Tw.prog 189=false:=by kernel_rfl
@[simp] theorem aaT:oJ Tw.prog 189=some .u32:=by kernel_rfl
@[simp] theorem t191:aq Tw.prog 191=some ⟨2,16,[.int .u64 0,.int .u32 0],.struct [(0,183),(0,188),(1,189)]⟩:=by kernel_rfl
@[simp] theorem aaU:aD Tw.prog 191=false:=by kernel_rfl
@[simp] theorem t204:aq Tw.prog 204=some ⟨1,16,[.nilIface],.sc⟩:=by kernel_rfl
@[simp] theorem aaV:aD Tw.prog 204=false:=by kernel_rfl
@[simp] theorem t227:aq Tw.prog 227=some ⟨4,32,[.int .i64 0,.int .i64 0,.int .i64 0,.bool false],.struct [(0,3),(1,158),(3,4)]⟩:=by kernel_rfl
@[simp] theorem aaW:aD Tw.prog 227=false:=by kernel_rfl
@[simp] theorem aaX:iV Tw.prog 227=some [true,true,true,false]:=by kernel_rfl
end Go.Proofs.YtjklkppncmhehaaGreat.Td
namespace Go.Proofs.YtjklkppncmhehaaGreat.T
open Go Go.RowKit
universe u
structure UE (P:Program) (E:List PanicEntry→World→Prop) (nt m:Nat) (c:Code) (Q:Exit→ae→Prop) (s:ae):Prop where
 get:TW P E nt m c Q s
def WV (P:Program)(E:List PanicEntry→World→Prop)(nt m:Nat):Code→(Exit→ae→Prop)→ae→Prop
 | .skip,Q,s=>Q .normal s
 | .exit id,Q,s=>Q (.exit id) s
 | .ret,Q,s=>Q .ret s
 | .seq x y,Q,s=>WV P E nt m x (tQ (WV P E nt m y Q) Q) s
 | .block id c,Q,s=>WV P E nt m c (bQ id Q) s
 | .cond c x y,Q,s=>match(s.ev c).b? with
   |some b=>if b=true then WV P E nt m x Q s else WV P E nt m y Q s
   |none=>False
 | .region _ ops draw,Q,s=>qS s=true∧run (fB ⟨P,E,nt,ops,draw⟩) ⟨P,E,nt,ops,draw⟩ ops.toList s [] (Q .normal)
 |c,Q,s=>UE P E nt m c Q s
section
variable {P:Program}{E:List PanicEntry→World→Prop}{nt m:Nat}{c x y:Code}{Q:Exit→ae→Prop}{s s':ae}
theorem WV.sound (qd:P.follows .mixedOrders=true):∀{c:Code} {Q:Exit→ae→Prop} {s:ae},WV P E nt m c Q s→TW P E nt m c Q s
 | .skip,Q,s,h=> .skip h
 | .exit id,Q,s,h=> .exit h
 | .ret,Q,s,h=> .ret h
 | .seq x y,Q,s,h=> .seq ((WV.sound qd (c:=x) h).mono fun e s h=>by
   cases e with
   |normal=>exact WV.sound qd (c:=y) h
   |_=>exact h)
 | .block id c,Q,s,h=> .block (WV.sound qd (c:=c) h)
 | .cond c x y,Q,s,h=>by
   unfold WV at h;split at h
   ·rename_i b hb
    refine .cond hb (fun e=>?_) fun e=>?_
    ·rw[if_pos e]at h;exact WV.sound qd (c:=x) h
    ·rw[if_neg (by simp[e])]at h;exact WV.sound qd (c:=y) h
   ·exact h.elim
 | .region id ops draw,Q,s,h=> .region qd ⟨h.1,kT ⟨P,E,nt,ops,draw⟩ _ _ _ _ h.2⟩
 | .loop _,Q,s,h=>h.get
 | .rangeFunc ..,Q,s,h=>h.get
 | .scope _,Q,s,h=>h.get
 | .label _,Q,s,h=>h.get
 | .goto _,Q,s,h=>h.get
 | .refuse _,Q,s,h=>h.get
@[simp] theorem Xa:WV P E nt m .skip Q s=Q .normal s:=rfl
@[simp] theorem Xb {id:Nat}:WV P E nt m (.exit id) Q s=Q (.exit id) s:=rfl
@[simp] theorem XV:WV P E nt m .ret Q s=Q .ret s:=rfl
@[simp] theorem XW:WV P E nt m (.seq x y) Q s=WV P E nt m x (tQ (WV P E nt m y Q) Q) s:=rfl
@[simp] theorem U1 {id:Nat}:WV P E nt m (.block id c) Q s=WV P E nt m c (bQ id Q) s:=rfl
@[simp] theorem Xc:WV P E nt m (.loop c) Q s=UE P E nt m (.loop c) Q s:=rfl
@[simp] theorem Xd {o:Operand}:WV P E nt m (.cond o x y) Q s=match(s.ev o).b? with
  |some b=>if b=true then WV P E nt m x Q s else WV P E nt m y Q s
  |none=>False:=rfl
@[simp] theorem UF {id:Nat} {os:List Oper} {draw:Bool}:WV P E nt m (.region id (List.toArray os) draw) Q s=(qS s=true∧run (fB ⟨P,E,nt,List.toArray os,draw⟩) ⟨P,E,nt,List.toArray os,draw⟩ os s [] (Q .normal)):=rfl
end
attribute [-simp] tQ bQ
def Tg {α:Sort u}(_:α):Type:=Unit
def tg {α:Sort u}(x:α):Tg x:=()
def Xe (P:Program)(xs:List ResultVar)(m:Nat)(r:GV)(sto':List (Nat×ak))(_:Tg r)(_:Tg sto'):Exit→ae→Prop:=Pn P xs m r sto'
structure aa {α:Type} (m:Nat) (I:α→ae) (p:α→Prop) (μ:α→Nat) (x:α) (_:Tg I) (_:Tg p) (_:Tg μ) (_:Tg x) (s:ae):Prop where
 mk::
 get:∃y,p y∧μ y<μ x∧Wk m s (I y)
theorem tL {P:Program}{E:List PanicEntry→World→Prop}{nt m:Nat}{Q:Exit→ae→Prop}{s:ae}{α:Type}{c:Code}(I:α→ae)(p:α→Prop)(μ:α→Nat)(x:α)(hx:p x)(h0:Wk m s (I x))
  (round:∀x,p x→TW P E nt m c (tQ (aa m I p μ x (tg I) (tg p) (tg μ) (tg x)) Q) (I x)):UE P E nt m (.loop c) Q s:=⟨TW.loop I p μ x hx h0 fun x hx=>(round x hx).mono fun e s h=>by
   cases e with
   |normal=>exact h.get
   |_=>exact h⟩
theorem TW.go {E:List PanicEntry→World→Prop}{nt m:Nat}{c:Code}{Q:Exit→ae→Prop}{s:ae}(h:WV Tw.prog E nt m c Q s):TW Tw.prog E nt m c Q s:=WV.sound Td.mixed h
theorem tE {E:List PanicEntry→World→Prop}{f:FuncId}(fn:Func){args:List GV}{m:Nat}{sto sto':List (Nat×ak)}{r:GV}{nt:Nat}{xs:List ResultVar}{c:Code}(Ut:fn.ntmps=nt)(iy:fn.results.toList=xs)
  (h:TW Tw.prog E nt m c (Xe Tw.prog xs m r sto' (tg r) (tg sto')) ⟨jf 0 args,sto,m⟩) (hf:Tw.prog.funcs[f]?=some fn:=by kernel_rfl) (hb:fn.body=some c:=by rfl) (Us:(fn.name== "runtime.NumGoroutine")=false:=by kernel_rfl) (hn:args.length≤nt:=by simp) (hfit:Fits args m sto:=by exact Fits.nil rfl):TC Tw.prog E f args m sto r sto':=
 TC.enter hf hb Us Ut iy hn hfit h
section
variable {r:Rg}{o:Oper}{os:List Oper}{gd:List (Nat ⊕ Nat)}{s:ae}{acc:List Pl}{K:ae→Prop}{fx:Operand}{args:Array Operand}{ts:Array TypeId}{f:FuncId}{fs cs:List GV}
theorem fB.of (hc:lK o.op=true)(h:aC (fB r) r o os gd s acc K):fB r o os gd s acc K:=by
 refine xr hc h fun fr gv Δ nx h=>?_;have Gm:∀(x:Pl),(if r.draw=true then x::acc else[]).reverse=if r.draw=true then acc.reverse++[x]else[]:=fun x=>by
  split<;>simp
 have:=kT r _ _ _ _ h
 simp only[Gm]at this;exact this
theorem kV (ho:o.op= .call {callee:= .value fx,args:=args,argTypes:=ts}):lK o.op=true:=by rw[ho];rfl
theorem cP {gs:List GV}(h:∃res,TC r.P r.E f gs 0 [] res []∧res.names=[]∧run (fB r) r os (s.step o.dst res [] s.nx) (if r.draw then fy o gd [] []::acc else[]) K)
  (ho:o.op= .call {callee:= .value fx,args:=args,argTypes:=ts}:=by rfl) (hf:(s.ev fx).fn?=some (f,fs,cs):=by rfl) (hg:fs++args.toList.map s.ev++cs=gs:=by simp;rfl) (h0:cI gs=[]:=by simp):fB r o os gd s acc K:=
 .of (kV ho) (h.elim fun _ h=>aC.plain ho hf hg h.1 h0 h.2.1 h.2.2)
theorem cK (peek:List Nat){gs:List GV}(h:∃res,TC r.P r.E f gs 0 [] res []∧res.flat=true∧run (fB r) r os (s.step o.dst res [] s.nx) (if r.draw then fy o gd (peek.map fun b=>(b,s.get b)) []::acc else[]) K)
  (ho:o.op= .call {callee:= .value fx,args:=args,argTypes:=ts}:=by rfl) (hf:(s.ev fx).fn?=some (f,fs,cs):=by rfl) (hg:eL s.get peek (fs++args.toList.map s.ev++cs)=gs:=by simp;rfl) (eJ:∀b∈peek,rowOf (s.get b)=true:=by simp):fB r o os gd s acc K:=
 .of (kV ho) (h.elim fun _ h=>aC.peek ho hf peek hg eJ h.1 h.2.1 h.2.2)
theorem cF (peek:List Nat)(cnt:Nat){gs:List GV}(h:∃res sto',TC r.P r.E f gs 0 [] res sto'∧(∀b∈res.names,b<cnt)∧(∀x∈sto',x.1<cnt∧∀b∈x.2.names,b<cnt)∧run (fB r) r os (s.step o.dst (res.bg (φ [] s.nx)) (gO s [] peek sto' cnt) (s.nx+cnt)) (if r.draw then fy o gd (fS s [] peek cnt) (gO s [] peek sto' cnt)::acc else[]) K)
  (ho:o.op= .call {callee:= .value fx,args:=args,argTypes:=ts}:=by rfl) (hf:(s.ev fx).fn?=some (f,fs,cs):=by rfl) (hg:eL s.get peek (fs++args.toList.map s.ev++cs)=gs:=by simp;rfl) (eJ:∀b∈peek,rowOf (s.get b)=true:=by simp) (h0:cI gs=[]:=by simp):fB r o os gd s acc K:=
 .of (kV ho) (h.elim fun _ h=>h.elim fun _ h=>aC.fresh ho hf peek hg eJ cnt h.1 h0 h.2.1 h.2.2.1 h.2.2.2)
theorem cR {gs PA:List GV}{b:Nat}{bx:List TV}(h:∃B0 res,TC r.P r.E f (.s (.ptr 0 0)::gs) 1 [(0,.box bx)] res [(0,.box B0)]∧(ak.box B0).names=[]∧res.names=[]∧run (fB r) r os (s.step o.dst res [(b,.box B0)] s.nx) (if r.draw then fy o gd [(b,some (.box bx))] [(b,.box B0)]::acc else[]) K)
  (ho:o.op= .call {callee:= .value fx,args:=args,argTypes:=ts}:=by rfl) (hf:(s.ev fx).fn?=some (f,fs,cs):=by rfl) (UD:fs++args.toList.map s.ev++cs=PA:=by simp;rfl) (uF:PA= .s (.ptr b 0)::gs:=by rfl) (hb:s.get b=some (.box bx):=by simp;rfl) (h0:cI gs=[]:=by simp) (U:(ak.box bx).names=[]:=by simp) (aj:b<s.nx:=by simp):fB r o os gd s acc K:=
 .of (kV ho) (h.elim fun _ h=>h.elim fun _ h=>aC.rd ho hf UD uF hb h.1 h0 U h.2.1 h.2.2.1 aj h.2.2.2)
theorem cL (frag:List Nat)(cnt:Nat)(h:∃bJ sto0 sto' res,TC r.P r.E f bJ frag.length sto0 res sto'∧fs++args.toList.map s.ev++cs=eK (φ frag s.nx) bJ∧sz s (φ frag s.nx) sto0 0 frag∧(∀x∈sto0,x.1<frag.length∧x.2.live=true)∧(∀x∈sto',x.1<frag.length+cnt∧∀b∈x.2.names,b<frag.length+cnt)∧(∀b∈res.names,b<frag.length+cnt)∧run (fB r) r os (s.step o.dst (res.bg (φ frag s.nx)) (gO s frag [] sto' cnt) (s.nx+cnt)) (if r.draw then fy o gd (fS s frag [] cnt) (gO s frag [] sto' cnt)::acc else[]) K)
  (ho:o.op= .call {callee:= .value fx,args:=args,argTypes:=ts}:=by rfl) (hf:(s.ev fx).fn?=some (f,fs,cs):=by rfl) (hn:frag.Nodup:=by simp) (aj:∀b∈frag,b<s.nx:=by simp):fB r o os gd s acc K:=
 .of (kV ho) (h.elim fun _ h=>h.elim fun _ h=>h.elim fun _ h=>h.elim fun _ h=>aC.JZ ho hf frag cnt h.1 h.2.1 hn aj h.2.2.1 h.2.2.2.1 h.2.2.2.2.1 h.2.2.2.2.2.1 h.2.2.2.2.2.2)
end
theorem aI {A B:Prop}(b:B)(a:A:=by first|exact rfl|(show(_:Bool)=true;kernel_rfl)|(show(_:Bool)=true∧(_:Bool)=true;exact⟨by kernel_rfl,by kernel_rfl⟩)|omega|(simp;done)|(simp;omega)|exact Or.inl rfl):A∧B:=⟨a,b⟩
theorem oW {P:Program}{xs:List ResultVar}{m:Nat}{s:ae}{r:GV}{sto':List (Nat×ak)}(ns cs:List Nat){r0:GV}(h:s.res P xs=some r0:=by simp;rfl)(hv:r0.bZ s.get cs=r.bg (fN m ns):=by simp)(hn:∀b∈r.names,b<m∨(gt b sto').isSome=true:=by simp)
  (hc:∀b∈cs,∃e k xs,s.get b=some (.rows e k xs):=by simp) (hs:∀x∈sto',fN m ns x.1∉cs∧(s.get (fN m ns x.1)).map (ak.bZ s.get cs)=some (x.2.bg (fN m ns))∧∀b∈x.2.names,b<m∨(gt b sto').isSome=true:=by simp)
  (hi:∀x∈sto',∀y∈sto',fN m ns x.1=fN m ns y.1→x.1=y.1:=by simp):ar P xs m s r sto':= .own ns cs h hv hn hc hs hi
theorem kO {m:Nat}{s s':ae}(ns cs:List Nat)(hc:∀b∈cs,∃e k xs,s.get b=some (.rows e k xs):=by simp)(he:∀x∈s'.env,(lk x.1 s.env).bZ s.get cs=x.2.bg (fN m ns)∧∀b∈x.2.names,b<s'.nx:=by simp)
  (hs:∀x∈s'.sto,x.1<s'.nx∧fN m ns x.1∉cs∧(s.get (fN m ns x.1)).map (ak.bZ s.get cs)=some (x.2.bg (fN m ns))∧∀b∈x.2.names,b<s'.nx:=by simp) (hi:∀x∈s'.sto,∀y∈s'.sto,fN m ns x.1=fN m ns y.1→x.1=y.1:=by simp) (hm:m≤s'.nx:=by simp):Wk m s s':= .own ns cs hc he hs hi hm
theorem kS {m:Nat}{s s':ae}(U:∀x∈s'.env,lk x.1 s.env=x.2∧x.2.names.all (fun b=>decide (b<s'.nx))=true:=by simp)(h2:∀x∈s'.sto,s.get x.1=some x.2∧x.1<s'.nx∧x.2.names.all (fun b=>decide (b<s'.nx))=true:=by simp)(h3:m≤s'.nx:=by simp):Wk m s s':= .same U h2 h3
end Go.Proofs.YtjklkppncmhehaaGreat.T
namespace Go.Proofs.YtjklkppncmhehaaGreat
open Go.RowKit
theorem jg (a:Addr)(n:Nat):(a.add n).block=a.block:=by unfold Addr.add;split<;>rfl
theorem uw (a:Addr)(i j:Nat):(a.add i).add j=a.add (i+j):=by
 unfold Addr.add;by_cases hi:i=0<;>by_cases hj:j=0<;>simp[hi,hj,Nat.add_assoc]
def Reads (w:World)(B size:Nat)(A:Option Addr)(n:Nat)(xs:List Value):Prop:=
 xs.length=n*size∧(0<n→∃ad,A=some ad∧ad.block<B∧∀j u,xs[j]?=some u→w.cell? (ad.add j)=some u)
section
variable {w w':World}{B B' size n:Nat}{A:Option Addr}{xs:List Value}
theorem Reads.none_:Reads w B size A 0 []:=⟨by simp,fun h=>absurd h (by omega)⟩
theorem Reads.at_ {k:Nat}(h:Reads w B 1 A n xs)(hk:k<n):∃ad u,A=some ad∧ad.block<B∧xs[k]?=some u∧w.cell? (ad.add k)=some u:=by
 obtain⟨ad,e,hb,hc⟩:=h.2 (by omega)
 have hl:k<xs.length:=by have:=h.1;omega
 exact⟨ad,xs[k],e,hb,List.getElem?_eq_getElem hl,hc k _ (List.getElem?_eq_getElem hl)⟩
theorem Reads.bB (h:Reads w B size A n xs)(hk:∀p:Addr,p.block<B→w'.cell? p=w.cell? p):Reads w' B size A n xs:=
 ⟨h.1,fun hn=>by
   obtain⟨ad,e,hb,hc⟩:=h.2 hn;exact⟨ad,e,hb,fun j u hu=>(hk _ (by rw[jg];exact hb)).trans (hc j u hu)⟩⟩
theorem Reads.more (h:Reads w B size A n xs)(hB:B≤B'):Reads w B' size A n xs:=
 ⟨h.1,fun hn=>by
   obtain⟨ad,e,hb,hc⟩:=h.2 hn;exact⟨ad,e,by omega,hc⟩⟩
theorem Reads.below (h:Reads w B size A n xs)(hb:Below B w w'):Reads w' B size A n xs:=h.bB fun _ hp=>hb.cell hp
theorem Reads.drew (h:Reads w B size A n xs):Reads w.drew B size A n xs:=h
theorem Reads.drewN (h:Reads w B size A n xs)(k:Nat):Reads (w.drewN k) B size A n xs:=h
theorem Reads.alloc (h:Reads w B size A n xs)(hB:B≤w.heap.size)(o:Obj):Reads (w.alloc o) B size A n xs:=h.bB fun p hp=>World.cell?_alloc_lt w o p (by omega)
theorem Reads.setCell (h:Reads w B size A n xs){p:Addr}(hB:B≤p.block)(u:Value):Reads (w.setCell p u) B size A n xs:=
 h.bB fun q hq=>World.cell?_setCell_other w p q u (fun e=>by subst e;omega)
theorem Reads.grown (h:Reads w B size A n xs){row:Option Nat}(hg:w.grownBy w' row)(hB:B≤w.heap.size)(hr:∀g,row=some g→B≤g):Reads w' B size A n xs:=
 h.bB fun p hp=>World.cell?_of_block (hg.block p.block (by omega) (fun e=>by have:=hr _ e.symm;omega))
theorem Reads.cut (h:Reads w B size A n xs){k cap:Nat}(hk:k≤n)(hc:n≤cap):
  Reads w B size (if cap=k then A else A.map (·.add (k*size))) (n-k) (xs.drop (k*size)):=by
 refine⟨by rw[List.length_drop,h.1,Nat.sub_mul],fun hn=>?_⟩
 obtain⟨ad,rfl,hb,dq⟩:=h.2 (by omega)
 rw[if_neg (by omega)]
 refine⟨ad.add (k*size),rfl,by rw[jg];exact hb,fun j u hu=>?_⟩
 rw[uw];exact dq _ u (by rw[←hu,List.getElem?_drop])
end
def ak (w:World)(g:Nat)(t:TypeId)(cs:Array Value):Prop:=w.heap[g]?=some (.cells cs t (0,0))
section
variable {w w':World}{g:Nat}{t:TypeId}{cs:Array Value}
theorem ak.lt (h:ak w g t cs):g<w.heap.size:=by
 rcases Nat.lt_or_ge g w.heap.size with aj|vR
 ·exact aj
 ·unfold ak at h;rw[Array.getElem?_eq_none vR]at h;cases h
theorem ak.cell (h:ak w g t cs)(i:Nat):w.cell? ⟨g,i,none⟩=cs[i]?:=cell_of_row w g i cs t (0,0) h
theorem ak.frozen (h:ak w g t cs)(i:Nat):w.frozen? ⟨g,i,none⟩=false:=by
 unfold ak at h;simp[World.frozen?,h]
theorem ak.new (w:World)(t:TypeId)(cs:Array Value):ak (w.alloc (.cells cs t)) w.heap.size t cs:=heap_alloc_new w _
theorem ak.drew (h:ak w g t cs):ak w.drew g t cs:=h
theorem ak.drewN (h:ak w g t cs)(n:Nat):ak (w.drewN n) g t cs:=h
theorem ak.alloc (h:ak w g t cs)(o:Obj):ak (w.alloc o) g t cs:=(Below.heap_alloc w o g h.lt).trans h
theorem ak.Gp (h:ak w g t cs)(i:Nat)(u:Value):ak (w.setCell ⟨g,i,none⟩ u) g t (cs.setIfInBounds i u):=by
 unfold ak at h⊢;simp[World.setCell,Array.getElem?_modify,h]
theorem ak.xk (h:ak w g t cs){p:Addr}(hp:g≠p.block)(u:Value):ak (w.setCell p u) g t cs:=(Below.heap_setCell w p u g hp).trans h
theorem ak.below {B:Nat}(h:ak w g t cs)(hb:Below B w w')(hg:g<B):ak w' g t cs:=(hb.block g hg).trans h
theorem ak.grown {row:Option Nat}(h:ak w g t cs)(hb:w.grownBy w' row)(hg:some g≠row):ak w' g t cs:=(hb.block g h.lt hg).trans h
end
section
variable {P:Program}(w:World)
end
theorem ak.Sq (w:World)(t:TypeId)(cs:Array Value){g:Nat}(hg:g=w.heap.size):ak (w.alloc (.cells cs t)) g t cs:=by subst hg;exact ak.new w t cs
end Go.Proofs.YtjklkppncmhehaaGreat
