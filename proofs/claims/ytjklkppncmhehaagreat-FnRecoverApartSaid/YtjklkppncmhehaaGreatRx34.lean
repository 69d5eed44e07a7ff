/-
What is proved: which rewrite rules a walk over trees uses. No condition. where a tree says 'nil', one that says 'no rows' serves as well; and how a function ends that leaves rows of its own. No condition. a function that only reads may as well be given the caller's own rows, and leaves them ('TC.lend'); how a walk goes on at a call that takes one box of the caller's ('atCall.rd'), or some blocks ('atCall.lend'). No condition. what each type is, in short, at the second program. No condition. the walk of a piece of code as one proposition that rewriting reckons ('WV'), and short words for its calls, loops and ends. No condition. plain facts about memory: a slice that reads as a list of values, a block that is known whole, an append onto a row of the call's own. No condition beyond those that each theorem states.
-/
import Derived.Test.YtjklkppncmhehaaGreatRx33
import Derived.Test.YtjklkppncmhehaaGreatRx32
import Derived.Test.YtjklkppncmhehaaGreatRx01
import Derived.KernelRfl
import Derived.Below
import Derived.Laws.OwnMore
import Derived.Deep.AppendLies
import Derived.Deep.Draws
import Derived.Laws.Rows
import Derived.Maps.AppendAt
import Derived.RegionTactic
import Derived.OwnWalk
import Derived.Lib.Hide
set_option linter.unusedVariables false
set_option linter.unusedSimpArgs false
namespace Go.Proofs.YtjklkppncmhehaaGreat.T
open Go Go.RowKit
attribute [simp] run Nu dI S9 Fa vh Ms Fb vg S7 E' pK rh ae.step ae.qv xF GV.undef? ae.ev lk gt ae.get GV.b? GV.i? GV.agg? GV.tup? GV.cells? ae.pG GV.ifc? ae.view ae.deref ae.xv ae.nW ae.rO nB pn mk rs gI gB Ni Ac fM Jr Nh Vc qY
 yz iL qX bz sW tU Value.oneCell' TK.agg TK.CB placeOf pw mP c8 pC jm u0 CD yh tQ bQ kI ae.res ae.CF ae.Np TV.cr GV.cr f_ aj.cr TV.bq GV.bq fZ aj.bq TV.names GV.names dw aj.names
 TV.flat GV.flat Ad rowOf fL jq φ
theorem Fits.nil {args:List GV}(h:dw args=[]):Fits args 0 []:=
 ⟨rfl,fun x hx=>(by cases hx),fun g hg b hb=>(by have:=yi hg b hb;rw[h]at this;cases this),fun x hx=>by cases hx⟩
theorem aE.nil {P:Program}{xs:List ResultVar}{s:ae}{r:GV}(h:s.res P xs=some r)(hn:r.names=[]):aE P xs 0 s r []:=
 ⟨id,[],r,h,by rw[GV.kZ,GV.iM _ _ hn],fun b hb=>(by rw[hn]at hb;cases hb),fun b hb=>(by cases hb),fun x hx=>(by cases hx),fun x hx=>(by cases hx),fun b hb=>by omega⟩
section
variable {P:Program}{E:List PanicEntry→World→Prop}{nt m:Nat}{c:Code}{Q:Exit→ae→Prop}{s:ae}
theorem TW.len (t:Nat){k:Nat}{xs:List (List RT)}(ht:lk t s.env= .s (.r (.sl k xs)))(h:xs.length≤maxLen→TW P E nt m c Q s):TW P E nt m c Q s:=by
 intro C a w hn hm hR;obtain⟨ρ,D,hr⟩:=hR;have h1:=hr.env t;simp only[jo]at h1;rw[ht]at h1;generalize a.tmps.getD t undef=v at h1
 cases h1 with|s h1=>cases h1 with|r h1=>
 obtain⟨A,c',_,h2,h3,_⟩:=h1.slice;exact h (Nat.le_trans h2 h3) C a w hn hm ⟨ρ,D,hr⟩
end
theorem Wk.same {m:Nat}{s s':ae}(h1:∀x∈s'.env,lk x.1 s.env=x.2∧x.2.names.all (fun b=>decide (b<s'.nx))=true)(h2:∀x∈s'.sto,s.get x.1=some x.2∧x.1<s'.nx∧x.2.names.all (fun b=>decide (b<s'.nx))=true)(h3:m≤s'.nx):Wk m s s':=by
 have hT:∀t:TV,t.bq id=t:=fun t=>by cases t<;>rfl
 have hTL:∀ts:List TV,ts.map (TV.bq id)=ts:=fun ts=>(List.map_congr_left fun t _=>hT t).trans (List.map_id ts)
 have hTF:∀(get:Nat→Option aj) (ts:List TV),ts.map (TV.cr get [])=ts:=fun get ts=>(List.map_congr_left fun t _=>TV.kZ get t).trans (List.map_id ts)
 refine⟨id,[],⟨fun b hb=>(by cases hb),fun x hx=> .inr ⟨?_,?_⟩,fun x hx=>⟨(h2 x hx).2.1,(by simp),?_,?_⟩,fun x _ y _ h=>h,h3,fun b _=>rfl⟩⟩
 ·rw[GV.kZ,(h1 x hx).1,GV.rQ]
 ·have:=(h1 x hx).2
  rw[List.all_eq_true]at this;exact fun b hb=>by simpa using this b hb
 ·simp only[id,(h2 x hx).1,Option.map_some,Option.some.injEq]
  cases x.2<;>simp[aj.cr,aj.bq,hTL,hTF]
 ·have:=(h2 x hx).2.2
  rw[List.all_eq_true]at this;exact fun b hb=>by simpa using this b hb
end Go.Proofs.YtjklkppncmhehaaGreat.T
namespace Go.Proofs.YtjklkppncmhehaaGreat.T
open Go Go.RowKit
def TV.le (x y:TV):Prop:=x=y∨(x= .r .nil∧∃k,y= .r (.sl k []))
def Qd:List TV→List TV→Prop
 |[],[]=>True
 |x::xs,y::ys=>x.le y∧Qd xs ys
 |_,_=>False
def GV.le:GV→GV→Prop
 | .s x,.s y=>x.le y
 | .a xs,.a ys=>Qd xs ys
 |g,g'=>g=g'
def aj.le:aj→aj→Prop
 | .box xs,.box ys=>Qd xs ys
 |y,y'=>y=y'
def Vu:List (Nat×GV)→List (Nat×GV)→Prop
 |[],[]=>True
 |x::xs,y::ys=>x.1=y.1∧x.2.le y.2∧Vu xs ys
 |_,_=>False
def Vv:List (Nat×aj)→List (Nat×aj)→Prop
 |[],[]=>True
 |x::xs,y::ys=>x.1=y.1∧x.2.le y.2∧Vv xs ys
 |_,_=>False
def Vw:List GV→List GV→Prop
 |[],[]=>True
 |x::xs,y::ys=>x.le y∧Vw xs ys
 |_,_=>False
theorem TV.le_refl (x:TV):x.le x:= .inl rfl
theorem TV.le_nil (k:Nat):(TV.r .nil).le (.r (.sl k [])):= .inr ⟨rfl,k,rfl⟩
theorem rU:∀xs:List TV,Qd xs xs
 |[]=>trivial
 |x::xs=>⟨x.le_refl,rU xs⟩
theorem GV.le_refl (g:GV):g.le g:=by
 cases g
 case s x=>exact x.le_refl
 case a xs=>exact rU xs
 all_goals rfl
theorem aj.le_refl (y:aj):y.le y:=by
 cases y
 case box xs=>exact rU xs
 all_goals rfl
theorem Ao:∀{xs ys:List TV},Qd xs ys→xs.length=ys.length∧∀(i:Nat) (y:TV),ys[i]?=some y→∃x,xs[i]?=some x∧x.le y
 |[],[],_=>⟨rfl,fun i y h=>by simp at h⟩
 |x::xs,y::ys,h=>by
  obtain⟨h1,h2⟩:=Ao h.2;refine⟨by simp[h1],fun i z hz=>?_⟩
  cases i with
  |zero=>cases hz;exact⟨x,rfl,h.1⟩
  |succ i=>exact h2 i z hz
 |[],_::_,h=>h.elim
 |_::_,[],h=>h.elim
theorem cA.le {ρ:Nat→Option Value}{w:World}{D:Nat→Prop}{v:Value}{x y:TV}(h:x.le y)(hr:cA ρ w D v x):cA ρ w D v y:=by
 rcases h with rfl|⟨rfl,k,rfl⟩
 ·exact hr
 ·cases hr with|r hr=>cases hr with|nil=>exact .r (.BJ (Nat.zero_le _))
theorem bf.le {ρ:Nat→Option Value}{w:World}{D:Nat→Prop}{v:Value}{x y:GV}(h:x.le y)(hr:bf ρ w D v x):bf ρ w D v y:=by
 unfold GV.le at h;split at h
 ·cases hr with|s hr=>exact .s (hr.le h)
 ·cases hr with
  |a hn hr=>
   obtain⟨h1,h2⟩:=Ao h;refine .a (hn.trans h1) fun i t ht=>?_;obtain⟨x,hx,hl⟩:=h2 i t ht;exact(hr i x hx).le hl
 ·subst h;exact hr
theorem eB.le {ρ:Nat→Option Value}{w:World}{D:Nat→Prop}{v:Option Value}{x y:aj}(h:x.le y)(hr:eB ρ w D v x):eB ρ w D v y:=by
 unfold aj.le at h;split at h
 ·obtain⟨g,arr,ty,e1,e2,e3,e4⟩:=hr
  obtain⟨h1,h2⟩:=Ao h;refine⟨g,arr,ty,e1,e2,e3.trans h1,fun i t ht=>?_⟩
  obtain⟨x,hx,hl⟩:=h2 i t ht;exact(e4 i x hx).le hl
 ·subst h;exact hr
theorem aj.Ap {x y:aj}(h:x.le y):x.live=y.live:=by
 unfold aj.le at h;split at h
 ·rfl
 ·subst h;rfl
theorem Nv (t:Nat):∀{e e':List (Nat×GV)},Vu e e'→(lk t e).le (lk t e')
 |[],[],_=>rfl
 |x::xs,y::ys,h=>by
  obtain⟨h1,h2,h3⟩:=h;obtain⟨u,g⟩:=x;obtain⟨u',g'⟩:=y
  cases h1;simp only[lk];split
  ·exact h2
  ·exact Nv t h3
 |[],_::_,h=>h.elim
 |_::_,[],h=>h.elim
theorem Nw (b:Nat):∀{e e':List (Nat×aj)},Vv e e'→(gt b e=none∧gt b e'=none)∨∃y y',gt b e=some y∧gt b e'=some y'∧y.le y'
 |[],[],_=> .inl ⟨rfl,rfl⟩
 |x::xs,y::ys,h=>by
  obtain⟨h1,h2,h3⟩:=h;obtain⟨u,g⟩:=x;obtain⟨u',g'⟩:=y
  cases h1;simp only[gt];split
  ·exact .inr ⟨_,_,rfl,rfl,h2⟩
  ·exact Nw b h3
 |[],_::_,h=>h.elim
 |_::_,[],h=>h.elim
theorem JA:∀{xs ys:List GV},Vw xs ys→xs.length=ys.length∧∀(i:Nat) (y:GV),ys[i]?=some y→∃x,xs[i]?=some x∧x.le y
 |[],[],_=>⟨rfl,fun i y h=>by simp at h⟩
 |x::xs,y::ys,h=>by
  obtain⟨h1,h2⟩:=JA h.2;refine⟨by simp[h1],fun i z hz=>?_⟩
  cases i with
  |zero=>cases hz;exact⟨x,rfl,h.1⟩
  |succ i=>exact h2 i z hz
 |[],_::_,h=>h.elim
 |_::_,[],h=>h.elim
section
variable {P:Program}{E:List PanicEntry→World→Prop}{nt m:Nat}{Q:Exit→ae→Prop}{s:ae}
theorem TW.le {c:Code}(env:List (Nat×GV))(sto:List (Nat×aj))(he:Vu s.env env)(hs:Vv s.sto sto)(hw:TW P E nt m c Q ⟨env,sto,s.nx⟩):TW P E nt m c Q s:=by
 intro C a w hn hm hR;refine hw C a w hn hm ?_;obtain⟨ρ,D,h⟩:=hR;have hg:∀b,(s.get b=none∧ae.get ⟨env,sto,s.nx⟩ b=none)∨∃y y',s.get b=some y∧ae.get ⟨env,sto,s.nx⟩ b=some y'∧y.le y':=by
  intro b;unfold ae.get;rcases Nw b hs with⟨h1,h2⟩|⟨y,y',h1,h2,h3⟩
  ·rw[h1,h2]
   simp only
   split
   ·exact .inr ⟨_,_,rfl,rfl,rfl⟩
   ·exact .inl ⟨rfl,rfl⟩
  ·rw[h1,h2]
   exact .inr ⟨_,_,rfl,rfl,h3⟩
 have hb:∀b y',ae.get ⟨env,sto,s.nx⟩ b=some y'→∃y,s.get b=some y∧y.le y':=by
  intro b y' hy;rcases hg b with⟨h1,h2⟩|⟨y,y2,h1,h2,h3⟩
  ·rw[h2]at hy;cases hy
  ·rw[h2]at hy;cases hy;exact⟨y,h1,h3⟩
 refine⟨ρ,D,⟨h.os,h.tape,h.output,h.size,h.old,h.ro,fun b cD=>?_,fun b y' hy=>?_,fun b y' g hy hl=>?_,fun b y b' y' g hy hl dP aY=>?_,fun t=>(h.env t).le (Nv t he),h.defers,h.nt,h.ext⟩⟩
 ·rcases hg b with⟨h1,h2⟩|⟨y,y2,h1,h2,h3⟩
  ·exact h.free b h1
  ·rw[h2]at cD;cases cD
 ·obtain⟨y,h1,h2⟩:=hb b y' hy
  exact(h.blk b y h1).le h2
 ·obtain⟨y,h1,h2⟩:=hb b y' hy
  exact h.own b y g h1 (by rw[aj.Ap h2];exact hl)
 ·obtain⟨z,h1,h2⟩:=hb b y hy
  obtain⟨z',js,nS⟩:=hb b' y' dP;exact h.sep b z b' z' g h1 (by rw[aj.Ap h2];exact hl) js (by rw[aj.Ap nS];exact aY)
theorem TC.le {f:FuncId}{args bU:List GV}{sto sto':List (Nat×aj)}{r:GV}(h:Vw args bU)(hT:TC P E f bU m sto r sto'):TC P E f args m sto r sto':=by
 obtain⟨h1,h2⟩:=JA h;refine⟨hT.1,fun w bN ρ D hn hr=>hT.2 w bN ρ D (hn.trans h1) fun i g hg=>?_⟩
 obtain⟨x,hx,hl⟩:=h2 i g hg;exact(hr i x hx).le hl
end
attribute [simp] Vu Vv Vw Qd GV.le aj.le TV.le_refl TV.le_nil rU GV.le_refl aj.le_refl
def fN (m:Nat)(ns:List Nat)(b:Nat):Nat:=if b<m then b else ns.getD (b-m) 0
attribute [simp] fN TV.cr GV.cr f_ aj.cr TV.bq GV.bq fZ aj.bq TV.names GV.names dw aj.names
theorem aE.own {P:Program}{xs:List ResultVar}{m:Nat}{s:ae}{r:GV}{sto':List (Nat×aj)}(ns cs:List Nat){r0:GV}(h:s.res P xs=some r0)(hv:r0.cr s.get cs=r.bq (fN m ns))(hn:∀b∈r.names,b<m∨(gt b sto').isSome=true)
  (hc:∀b∈cs,∃e k xs,s.get b=some (.rows e k xs)) (hs:∀x∈sto',fN m ns x.1∉cs∧(s.get (fN m ns x.1)).map (aj.cr s.get cs)=some (x.2.bq (fN m ns))∧∀b∈x.2.names,b<m∨(gt b sto').isSome=true)
  (hi:∀x∈sto',∀y∈sto',fN m ns x.1=fN m ns y.1→x.1=y.1):aE P xs m s r sto':=
 ⟨fN m ns,cs,r0,h,hv,hn,hc,hs,hi,fun b hb=>by simp[fN,hb]⟩
theorem pL (f:Nat→Nat):∀{gs:List GV},dw gs=[]→fZ f gs=gs
 |[],_=>rfl
 |g::gs,h=>by
  simp only[dw,List.append_eq_nil_iff]at h;simp only[fZ,GV.iM f _ h.1,pL f h.2]
attribute [simp] List.range_succ List.range_zero rowOf
theorem aC.fresh {C:CT}{r:Rg}{o:Oper}{os:List Oper}{gd:List (Nat ⊕ Nat)}{s:ae}{acc:List Pl}{K:ae→Prop}{c:Call}(ho:o.op= .call c)(hc:dI (.call c)=true){f:FuncId}{oz:List GV}{cN:List (Nat×Option aj)}(hf:s.pG r.P c.callee c.args.toList=some (f,oz,cN))(fI:∀x∈cN,s.get x.1=x.2)
  (peek:List Nat) {gs:List GV} (hg:f_ s.get peek oz=gs) (fX:∀b∈peek,rowOf (s.get b)=true) (cnt:Nat) {res:GV} {sto':List (Nat×aj)} (hT:TC r.P r.E f gs 0 [] res sto') (h0:dw gs=[]) (h1:∀b∈res.names,b<cnt) (h2:∀x∈sto',x.1<cnt∧∀b∈x.2.names,b<cnt)
  (h:run C r os (s.step o.dst (res.bq (φ [] s.nx)) (jq s [] peek sto' cnt) (s.nx+cnt)) (if r.draw then ic o gd (cN++fL s [] peek cnt) (jq s [] peek sto' cnt)::acc else[]) K):aC C r o os gd s acc K:=
 aC.any ho hc hf fI [] peek cnt hT ⟨by rw[hg,pL _ h0],List.nodup_nil,fun b hb=>(by cases hb),fun b _ hb=>(by cases hb),fX,fun b hb=>(by simp at hb),fun x hx=>(by cases hx),fun x hx=>by simpa using(h2 x hx).1⟩ (by simpa using h1) (fun x hx b hb=>by simpa using(h2 x hx).2 b hb) h
theorem Wk.own {m:Nat}{s s':ae}(ns cs:List Nat)(hc:∀b∈cs,∃e k xs,s.get b=some (.rows e k xs))(he:∀x∈s'.env,(lk x.1 s.env).cr s.get cs=x.2.bq (fN m ns)∧∀b∈x.2.names,b<s'.nx)
  (hs:∀x∈s'.sto,x.1<s'.nx∧fN m ns x.1∉cs∧(s.get (fN m ns x.1)).map (aj.cr s.get cs)=some (x.2.bq (fN m ns))∧∀b∈x.2.names,b<s'.nx) (hi:∀x∈s'.sto,∀y∈s'.sto,fN m ns x.1=fN m ns y.1→x.1=y.1) (hm:m≤s'.nx):Wk m s s':=
 ⟨fN m ns,cs,hc,fun x hx=> .inr (he x hx),hs,hi,hm,fun b hb=>by simp[fN,hb]⟩
theorem jK {α β:Type}{f:α→β}{xs:List α}{k:Nat}{x:α}(h:xs[k]?=some x):List.take (k+1) (List.map f xs)=List.take k (List.map f xs)++[f x]:=by
 rw[List.take_add_one,List.getElem?_map,h];rfl
@[simp] theorem T5 {α β:Type} (f:α→β) (xs:List α):List.take xs.length (List.map f xs)=List.map f xs:=List.take_of_length_le (by simp)
@[simp] theorem aaa (n:Nat):(0:Int)≤(n:Int)+1:=by omega
@[simp] theorem aab (n:Nat):¬((n:Int)<0):=by omega
end Go.Proofs.YtjklkppncmhehaaGreat.T
namespace Go.Proofs.YtjklkppncmhehaaGreat.T
open Go Go.RowKit
def TV.ee:TV→Bool
 | .r (.v _)=>true
 | .own _=>true
 |_=>false
mutual
def GV.ee:GV→Bool
 | .s t=>t.ee
 | .a ts=>ts.all TV.ee
 | .p gs=>wD gs
 | .eV _ g=>g.ee
 |_=>false
def wD:List GV→Bool
 |[]=>true
 |g::gs=>g.ee&&wD gs
end
def RT.flat:RT→Bool
 | .v _=>true
 |_=>false
def aj.ee:aj→Bool
 | .rows _ _ xs=>xs.all fun y=>y.all RT.flat
 |_=>false
section
variable {ρ ρ':Nat→Option Value}{w w':World}{D D':Nat→Prop}
theorem cA.ee {v:Value}{t:TV}(h:cA ρ w D v t)(hf:t.ee=true){f:Nat→Nat}(fq:∀b x,ρ b=some x→ρ' (f b)=some x):cA ρ' w' D' v (t.bq f):=by
 unfold TV.ee at hf;split at hf
 ·cases h with|r h=>cases h with|v h=>exact .r (.v h)
 ·cases h with|own h=>exact .own (fq _ _ h)
 ·cases hf
theorem Aq {g:GV}:∀{gs:List GV},wD gs=true→g∈gs→g.ee=true
 |x::gs,h,hm=>by
  simp only[wD,Bool.and_eq_true]at h;rcases List.mem_cons.1 hm with rfl|hm
  ·exact h.1
  ·exact Aq h.2 hm
theorem bf.ee {v:Value}{g:GV}(h:bf ρ w D v g){f:Nat→Nat}(fq:∀b x,ρ b=some x→ρ' (f b)=some x):g.ee=true→bf ρ' w' D' v (g.bq f):=by
 induction h with
 |s h=>exact fun hf=> .s (h.ee hf fq)
 |a hn h=>
  intro hf;simp only[GV.ee,List.all_eq_true]at hf;simp only[GV.bq];refine .a (by simpa using hn) fun i t ht=>?_
  rw[List.getElem?_map,Option.map_eq_some_iff]at ht;obtain⟨t',yj,rfl⟩:=ht;exact(h i t' yj).ee (hf t' (List.mem_of_getElem? yj)) fq
 |p hn _ ih=>
  intro hf;simp only[GV.bq];refine .p (by rw[dx];exact hn) fun i g hg=>?_
  rw[iy,Option.map_eq_some_iff]at hg;obtain⟨g',bh,rfl⟩:=hg;exact ih i g' bh (Aq hf (List.mem_of_getElem? bh))
 |hU=>exact fun hf=>by simp[GV.ee]at hf
 |eV _ ih=>exact fun hf=> .eV (ih hf)
 |u=>exact fun hf=>by simp[GV.ee]at hf
theorem eB.ee {x:Option Value}{y:aj}(h:eB ρ w D x y)(hf:y.ee=true):eB ρ' w D' x y:=by
 cases y with
 |rows e k xs=>
  simp only[aj.ee,List.all_eq_true]at hf;obtain⟨A,c,h1,h2,h3,h4,h5,h6⟩:=h;refine⟨A,c,h1,h2,h3,h4,h5,?_⟩;rcases h6 with h6|⟨g,arr,h6,h7,h8,h9⟩
  ·exact .inl h6
  ·refine .inr ⟨g,arr,h6,h7,h8,fun i y hy j r hr=>?_⟩
   have:=hf y (List.mem_of_getElem? hy) r (List.mem_of_getElem? hr)
   have sq:=h9 i y hy j r hr
   cases r with
   |v x=>generalize arr.getD (i*k+j) undef=z at sq;cases sq with|v sq=>exact .v sq
   |nil=>simp[RT.flat]at this
   |sl _ _=>simp[RT.flat]at this
 |box cs=>simp[aj.ee]at hf
 |dead=>trivial
theorem Fe (b:Nat):∀(x y:List (Nat×aj)),gt b (x++y)=match gt b x with|some z=>some z|none=>gt b y
 |[],y=>rfl
 |(u,z)::x,y=>by
  simp only[List.cons_append,gt];by_cases h:b=u
  ·rw[if_pos h,if_pos h]
  ·rw[if_neg h,if_neg h,Fe b x y]
theorem wE (m b:Nat):∀(y:List (Nat×aj)),gt b (y.map fun x=>(x.1+m,x.2))=if m≤b then gt (b-m) y else none
 |[]=>by simp[gt]
 |(u,z)::y=>by
  simp only[List.map_cons,gt,wE m b y];by_cases h:m≤b
  ·by_cases e:b=u+m
   ·rw[if_pos e,if_pos h,if_pos (by omega)]
   ·rw[if_neg e,if_pos h,if_pos h,if_neg (by omega)]
  ·rw[if_neg h,if_neg h,if_neg (by omega)]
end
theorem TC.NA {P:Program}{E:List PanicEntry→World→Prop}{f:FuncId}{args bU:List GV}{m:Nat}{sto sto':List (Nat×aj)}{r:GV}(hT:TC P E f bU 0 [] r sto')(hfit:Fits args m sto)
  (lC:f_ (fun b=>gt b sto) (List.range m) args=bU) (hr:r.ee=true) (hs:∀x∈sto',x.2.ee=true):TC P E f args m sto (r.bq (·+m)) (sto++sto'.map fun x=>(x.1+m,x.2)):=by
 obtain⟨zX,hT⟩:=hT;refine⟨zX,fun w bN ρ D hv ha hD fl FJ Vn=>?_⟩
 have EV:∀b y,gt b sto=some y→b<m:=fun b y hy=>hfit.lt _ (fK hy)
 have hR:Rel {W:=w,M:=Mf sto ρ,D0:=D,nt:=0,mE:=fun b=>if b<m then ρ b else none} (fun _=> .u) (fun b=>gt b sto) {tmps:= #[],defers:=[]} w (fun b=>if b<m then ρ b else none) D:=by
  refine⟨rfl,rfl,rfl,Nat.le_refl _,fun k _ _=>rfl,fun k hk=>⟨hD k hk,.inl hk⟩,fun b hb=>?_,fun b y hy=>?_,fun b y g hy hl hg=>?_,fun b y b' y' g hy hl dP aY hg bh=>?_,fun t=> .u,rfl,rfl,fun b x hx=>hx⟩
  ·by_cases h:b<m
   ·obtain⟨y,hy,_⟩:=hfit.live h
    rw[hy]at hb;cases hb
   ·simp[h]
  ·have h1:=EV _ _ hy
   simp only[h1,if_true];exact(fl b y hy).restrict fun c hc x hx=>by rw[if_pos (hfit.sto _ (fK hy) c hc)];exact hx
  ·have h1:=EV _ _ hy
   simp only[h1,if_true]at hg;exact⟨FJ b y g hy hl hg,.inl ⟨b,y,hy,hl,hg⟩⟩
  ·have h1:=EV _ _ hy
   have js:=EV _ _ dP;simp only[h1,js,if_true]at hg bh;exact Vn b y b' y' g hy hl dP aY hg bh
 obtain⟨D1,vb,E0,SV⟩:=hR.consume (List.range m) fun b hb=>hfit.live (List.mem_range.1 hb)
 refine(hT w bN (fun b=>if b<m then ρ b else none) D1 (by rw[hv,←lC,iz]) (fun i g hg=>?_) (fun k hk=>(vb.ro k hk).1) (fun b y h=>by cases h) (fun b y g h=>by cases h) (fun b y b' y' g h=>by cases h)).mono ?_
 ·rw[←lC,ov,Option.map_eq_some_iff]at hg
  obtain⟨g',bh,rfl⟩:=hg;exact((ha i g' bh).restrict fun c hc x hx=>by rw[if_pos (hfit.args _ (List.mem_of_getElem? bh) c hc)];exact hx).cr hR E0 SV
 rintro e w' (h|⟨v,z_,D2,rfl,gZ,hP⟩)
 ·exact .inl h
 right
 have hm:∀ρ' k,¬Mf [] ρ' k:=fun _ k ⟨b,y,h,_⟩=>by cases h
 have hold:∀k,k<w.heap.size→w'.heap[k]?=w.heap[k]?:=fun k hk=>hP.old k hk (hm _ k)
 have hK:cw D w w':=fun k hd=>hold k (hD k hd)
 have xY:∀b y,gt b (sto++sto'.map fun x=>(x.1+m,x.2))=some y→(b<m∧gt b sto=some y)∨(m≤b∧gt (b-m) sto'=some y):=by
  intro b y hy;rw[Fe,wE]at hy;by_cases h:b<m
  ·obtain⟨z,hz,_⟩:=hfit.live h
   rw[hz]at hy;exact .inl ⟨h,by rw[hz];exact hy⟩
  ·have:gt b sto=none:=by
    cases hz:gt b sto with
    |none=>rfl
    |some z=>exact absurd (EV _ _ hz) h
   rw[this,if_pos (by omega)]at hy
   exact .inr ⟨by omega,hy⟩
 have ai:∀b y g,gt b sto=some y→y.live=true→bI (ρ b)=some g→g<w.heap.size:=by
  intro b y g hy hl hg;refine hR.h_ (b:=b) hy hl ?_;simp only[EV _ _ hy,if_true];exact hg
 refine⟨v,fun b=>if b<m then ρ b else z_ (b-m),D,rfl,gZ.ee (fun b x hx=>?_) hr,⟨hP.os,hP.tape,hP.output,hP.size,fun k hk _=>hold k hk,fun k hk=>⟨Nat.lt_of_lt_of_le (hD k hk) hP.size,.inl hk⟩,fun b y hy=>?_,fun b y g hy hl hg=>?_,fun b y b' y' g hy hl dP aY hg bh=>?_,fun b hb=>by simp[hb],fun b hb hn=>?_⟩⟩
 ·rw[if_neg (by omega),show b+m-m=b by omega];exact hx
 ·rcases xY b y hy with⟨h1,h2⟩|⟨h1,h2⟩
  ·rw[if_pos h1]
   refine((fl b y h2).restrict (ρ':=fun b=>if b<m then ρ b else none) fun c hc x hx=>by rw[if_pos (hfit.sto _ (fK h2) c hc)];exact hx).bK (fun c x hx=>?_) hK (fun _ h=>h) ?_
   ·split at hx
    ·rename_i hc;rw[if_pos hc];exact hx
    ·cases hx
   ·by_cases hl:y.live=true
    ·exact .inr fun g hg=>hold g (ai b y g h2 hl hg)
    ·left
     cases y<;>simp[aj.live]at hl
     rfl
  ·rw[if_neg (by omega)]
   exact(hP.blk _ _ h2).ee (hs _ (fK h2))
 ·rcases xY b y hy with⟨h1,h2⟩|⟨h1,h2⟩
  ·rw[if_pos h1]at hg
   exact⟨FJ b y g h2 hl hg,.inl ⟨b,y,h2,hl,hg⟩⟩
  ·rw[if_neg (by omega)]at hg
   have:=(hP.own _ _ _ h2 hl hg).2
   rcases this with h|h
   ·exact absurd h (hm _ _)
   ·exact⟨fun hd=>by have:=hD g hd;omega,.inr h⟩
 ·rcases xY b y hy with⟨h1,h2⟩|⟨h1,h2⟩<;>rcases xY b' y' dP with⟨h3,h4⟩|⟨h3,h4⟩
  ·rw[if_pos h1]at hg
   rw[if_pos h3]at bh;exact Vn b y b' y' g h2 hl h4 aY hg bh
  ·rw[if_pos h1]at hg
   rw[if_neg (by omega)]at bh
   have h5:=ai b y g h2 hl hg;rcases(hP.own _ _ _ h4 aY bh).2 with h|h
   ·exact absurd h (hm _ _)
   ·omega
  ·rw[if_neg (by omega)]at hg
   rw[if_pos h3]at bh;have h5:=ai b' y' g h4 aY bh;rcases(hP.own _ _ _ h2 hl hg).2 with h|h
   ·exact absurd h (hm _ _)
   ·omega
  ·rw[if_neg (by omega)]at hg bh
   have:=hP.sep _ _ _ _ _ h2 hl h4 aY hg bh
   omega
 ·rw[Fe,wE,if_pos hb]at hn
  have:gt b sto=none:=by
   cases hz:gt b sto with
   |none=>rfl
   |some z=>exact absurd (EV _ _ hz) (by omega)
  rw[this]at hn;rw[if_neg (by omega)]
  exact hP.free _ (Nat.zero_le _) hn
theorem Fits.of {args:List GV}{m:Nat}{sto:List (Nat×aj)}(h1:gA m sto=true)(h2:∀x∈sto,x.1<m∧∀b∈x.2.names,b<m)(h3:∀b∈dw args,b<m):Fits args m sto:=
 ⟨h1,fun x hx=>(h2 x hx).1,fun g hg b hb=>h3 b (yi hg b hb),fun x hx=>(h2 x hx).2⟩
theorem aC.rd {C:CT}{r:Rg}{o:Oper}{os:List Oper}{gd:List (Nat ⊕ Nat)}{s:ae}{acc:List Pl}{K:ae→Prop}{c:Call}(ho:o.op= .call c)(hc:dI (.call c)=true){f:FuncId}{oz:List GV}{cN:List (Nat×Option aj)}(hf:s.pG r.P c.callee c.args.toList=some (f,oz,cN))(fI:∀x∈cN,s.get x.1=x.2)
  {gs:List GV} {b:Nat} (xY:oz= .s (.ptr b 0)::gs) {bx:List TV} (hb:s.get b=some (.box bx)) {Ff:List TV} {res:GV} (hT:TC r.P r.E f (.s (.ptr 0 0)::gs) 1 [(0,.box bx)] res [(0,.box Ff)]) (h0:dw gs=[]) (h1:(aj.box bx).names=[]) (js:(aj.box Ff).names=[]) (h2:res.names=[]) (ai:b<s.nx)
  (h:run C r os (s.step o.dst res [(b,.box Ff)] s.nx) (if r.draw then ic o gd (cN++[(b,some (.box bx))]) [(b,.box Ff)]::acc else[]) K):aC C r o os gd s acc K:=by
 have hg:=xY;have V5:∀(f:Nat→Nat) (ts:List TV),(aj.box ts).names=[]→(aj.box ts).bq f= .box ts:=by
  intro f ts h;simp only[aj.names,List.flatMap_eq_nil_iff]at h;simp only[aj.bq];congr 1
  exact(List.map_congr_left fun t ht=>TV.iM f t (h t ht)).trans (List.map_id ts)
 refine aC.any ho hc hf fI [b] [] 0 hT ⟨?_,by simp,by simpa using ai,by simp,by simp,fun c hc=>?_,by simp[aj.live],by simp⟩ (by simp[h2]) (fun x hx c hc=>by simp only[List.mem_singleton]at hx;subst hx;rw[js]at hc;cases hc) ?_
 ·rw[hg,ox]
  simp only[fZ,GV.bq,TV.bq,φ,List.length_singleton,Nat.lt_add_one,if_true,List.getD_cons_zero];rw[pL _ h0]
 ·simp only[List.length_singleton,Nat.lt_one_iff]at hc
  subst hc;simp only[List.getD_cons_zero,gt,if_true,Option.map_some,hb,V5 _ _ h1,Option.isSome_some,and_self]
 ·rw[GV.iM _ _ h2]
  simp only[jq,fL,List.length_singleton,List.range_one,List.map_cons,List.map_nil,List.getD_cons_zero,gt,if_true,V5 _ _ js,List.range_zero,List.append_nil,hb,Nat.add_zero];exact h
def vj (s:ae)(f:Nat→Nat)(sto0:List (Nat×aj)):Nat→List Nat→Prop
 |_,[]=>True
 |i,c::cs=>(s.get c=(gt i sto0).map (aj.bq f)∧(gt i sto0).isSome=true)∧vj s f sto0 (i+1) cs
attribute [simp] vj aj.live
theorem xG {s:ae}{f:Nat→Nat}{sto0:List (Nat×aj)}:∀{cs:List Nat} {i b:Nat},vj s f sto0 i cs→b<cs.length→s.get (cs.getD b 0)=(gt (i+b) sto0).map (aj.bq f)∧(gt (i+b) sto0).isSome=true
 |c::cs,i,0,h,_=>h.1
 |c::cs,i,b+1,h,hb=>by
  have:=xG (b:=b) h.2 (by simpa using hb)
  rw[show i+1+b=i+(b+1) by omega]at this
  simpa using this
theorem aC.NA {C:CT}{r:Rg}{o:Oper}{os:List Oper}{gd:List (Nat ⊕ Nat)}{s:ae}{acc:List Pl}{K:ae→Prop}{c:Call}(ho:o.op= .call c)(hc:dI (.call c)=true){f:FuncId}{oz:List GV}{cN:List (Nat×Option aj)}(hf:s.pG r.P c.callee c.args.toList=some (f,oz,cN))(fI:∀x∈cN,s.get x.1=x.2)
  (frag:List Nat) (cnt:Nat) {bU:List GV} {sto0 sto':List (Nat×aj)} {res:GV} (hT:TC r.P r.E f bU frag.length sto0 res sto') (ha:oz=fZ (φ frag s.nx) bU) (hn:frag.Nodup) (ai:∀b∈frag,b<s.nx)
  (hb:vj s (φ frag s.nx) sto0 0 frag) (hl:∀x∈sto0,x.1<frag.length∧x.2.live=true) (hs:∀x∈sto',x.1<frag.length+cnt∧∀b∈x.2.names,b<frag.length+cnt) (h1:∀b∈res.names,b<frag.length+cnt)
  (h:run C r os (s.step o.dst (res.bq (φ frag s.nx)) (jq s frag [] sto' cnt) (s.nx+cnt)) (if r.draw then ic o gd (cN++fL s frag [] cnt) (jq s frag [] sto' cnt)::acc else[]) K):aC C r o os gd s acc K:=
 aC.any ho hc hf fI frag [] cnt hT ⟨by rw[ox];exact ha,hn,ai,by simp,by simp,fun b h=>(by have:=xG (b:=b) hb h;rwa[Nat.zero_add]at this),hl,fun x hx=>(hs x hx).1⟩ h1 (fun x hx=>(hs x hx).2) h
end Go.Proofs.YtjklkppncmhehaaGreat.T
namespace Go.Proofs.YtjklkppncmhehaaGreat.Td
open Go Go.Proofs.YtjklkppncmhehaaGreat.T
theorem mixed:Tw.prog.follows .mixedOrders=true:=by kernel_rfl
@[simp] theorem t3:aw Tw.prog 3=some ⟨1,8,[.int .i64 0],.sc⟩:=by kernel_rfl
@[simp] theorem b3:aM Tw.prog 3=false:=by kernel_rfl
@[simp] theorem i3:re Tw.prog 3=some .i64:=by kernel_rfl
@[simp] theorem t4:aw Tw.prog 4=some ⟨1,1,[.bool false],.sc⟩:=by kernel_rfl
@[simp] theorem b4:aM Tw.prog 4=true:=by kernel_rfl
@[simp] theorem t5:aw Tw.prog 5=some ⟨1,1,[.int .u8 0],.sc⟩:=by kernel_rfl
@[simp] theorem b5:aM Tw.prog 5=false:=by kernel_rfl
@[simp] theorem i5:re Tw.prog 5=some .u8:=by kernel_rfl
@[simp] theorem t20:aw Tw.prog 20=some ⟨1,16,[.nilIface],.sc⟩:=by kernel_rfl
@[simp] theorem b20:aM Tw.prog 20=false:=by kernel_rfl
@[simp] theorem t22:aw Tw.prog 22=some ⟨1,24,[.slice none 0 0],.slice 5⟩:=by kernel_rfl
@[simp] theorem b22:aM Tw.prog 22=false:=by kernel_rfl
@[simp] theorem t23:aw Tw.prog 23=some ⟨1,24,[.slice none 0 0],.slice 37⟩:=by kernel_rfl
@[simp] theorem b23:aM Tw.prog 23=false:=by kernel_rfl
@[simp] theorem t24:aw Tw.prog 24=some ⟨1,24,[.slice none 0 0],.slice 3⟩:=by kernel_rfl
@[simp] theorem b24:aM Tw.prog 24=false:=by kernel_rfl
@[simp] theorem t28:aw Tw.prog 28=some ⟨2,16,[.int .i64 0,.int .i64 0],.struct [(0,3),(1,3)]⟩:=by kernel_rfl
@[simp] theorem b28:aM Tw.prog 28=false:=by kernel_rfl
@[simp] theorem q28:kt Tw.prog 28=some [true,true]:=by kernel_rfl
@[simp] theorem t32:aw Tw.prog 32=some ⟨4,32,[.int .i64 0,.int .i64 0,.int .i64 0,.bool false],.struct [(0,3),(1,28),(3,4)]⟩:=by kernel_rfl
@[simp] theorem b32:aM Tw.prog 32=false:=by kernel_rfl
@[simp] theorem q32:kt Tw.prog 32=some [true,true,true,false]:=by kernel_rfl
@[simp] theorem t35:aw Tw.prog 35=some ⟨1,24,[.slice none 0 0],.slice 32⟩:=by kernel_rfl
@[simp] theorem b35:aM Tw.prog 35=false:=by kernel_rfl
@[simp] theorem t37:aw Tw.prog 37=some ⟨4,64,[.int .i64 0,.int .i64 0,.slice none 0 0,.slice none 0 0],.struct [(0,3),(1,3),(2,35),(3,35)]⟩:=by kernel_rfl
@[simp] theorem b37:aM Tw.prog 37=false:=by kernel_rfl
@[simp] theorem t41:aw Tw.prog 41=some ⟨1,24,[.slice none 0 0],.slice 28⟩:=by kernel_rfl
@[simp] theorem b41:aM Tw.prog 41=false:=by kernel_rfl
@[simp] theorem t43:aw Tw.prog 43=some ⟨3,56,[.int .i64 0,.slice none 0 0,.slice none 0 0],.struct [(0,3),(1,24),(2,41)]⟩:=by kernel_rfl
@[simp] theorem b43:aM Tw.prog 43=false:=by kernel_rfl
@[simp] theorem t57:aw Tw.prog 57=some ⟨1,24,[.slice none 0 0],.slice 24⟩:=by kernel_rfl
@[simp] theorem b57:aM Tw.prog 57=false:=by kernel_rfl
@[simp] theorem t58:aw Tw.prog 58=some ⟨1,24,[.slice none 0 0],.slice 149⟩:=by kernel_rfl
@[simp] theorem b58:aM Tw.prog 58=false:=by kernel_rfl
@[simp] theorem t59:aw Tw.prog 59=some ⟨1,24,[.slice none 0 0],.slice 153⟩:=by kernel_rfl
@[simp] theorem b59:aM Tw.prog 59=false:=by kernel_rfl
@[simp] theorem t60:aw Tw.prog 60=some ⟨1,24,[.slice none 0 0],.slice 4⟩:=by kernel_rfl
@[simp] theorem b60:aM Tw.prog 60=false:=by kernel_rfl
@[simp] theorem t61:aw Tw.prog 61=some ⟨1,24,[.slice none 0 0],.slice 160⟩:=by kernel_rfl
@[simp] theorem b61:aM Tw.prog 61=false:=by kernel_rfl
@[simp] theorem t63:aw Tw.prog 63=some ⟨5,120,[.slice none 0 0,.slice none 0 0,.slice none 0 0,.slice none 0 0,.slice none 0 0],.struct [(0,57),(1,58),(2,59),(3,60),(4,61)]⟩:=by kernel_rfl
@[simp] theorem b63:aM Tw.prog 63=false:=by kernel_rfl
@[simp] theorem t66:aw Tw.prog 66=some ⟨1,24,[.slice none 0 0],.slice 43⟩:=by kernel_rfl
@[simp] theorem b66:aM Tw.prog 66=false:=by kernel_rfl
@[simp] theorem t67:aw Tw.prog 67=some ⟨1,24,[.slice none 0 0],.slice 117⟩:=by kernel_rfl
@[simp] theorem b67:aM Tw.prog 67=false:=by kernel_rfl
@[simp] theorem t69:aw Tw.prog 69=some ⟨5,120,[.slice none 0 0,.slice none 0 0,.slice none 0 0,.slice none 0 0,.slice none 0 0],.struct [(0,57),(1,23),(2,66),(3,60),(4,67)]⟩:=by kernel_rfl
@[simp] theorem b69:aM Tw.prog 69=false:=by kernel_rfl
@[simp] theorem t77:aw Tw.prog 77=some ⟨1,8,[.pointer none],.sc⟩:=by kernel_rfl
@[simp] theorem b77:aM Tw.prog 77=false:=by kernel_rfl
@[simp] theorem t86:aw Tw.prog 86=some ⟨1,8,[.nilFunc],.sc⟩:=by kernel_rfl
@[simp] theorem b86:aM Tw.prog 86=false:=by kernel_rfl
@[simp] theorem t88:aw Tw.prog 88=some ⟨2,48,[.slice none 0 0,.slice none 0 0],.array 2 35⟩:=by kernel_rfl
@[simp] theorem b88:aM Tw.prog 88=false:=by kernel_rfl
@[simp] theorem t93:aw Tw.prog 93=some ⟨1,24,[.slice none 0 0],.slice 3⟩:=by kernel_rfl
@[simp] theorem b93:aM Tw.prog 93=false:=by kernel_rfl
@[simp] theorem t95:aw Tw.prog 95=some ⟨2,48,[.slice none 0 0,.slice none 0 0],.struct [(0,93),(1,41)]⟩:=by kernel_rfl
@[simp] theorem b95:aM Tw.prog 95=false:=by kernel_rfl
@[simp] theorem t104:aw Tw.prog 104=some ⟨1,24,[.slice none 0 0],.slice 107⟩:=by kernel_rfl
@[simp] theorem aaJ:aM Tw.prog 104=false:=by kernel_rfl
@[simp] theorem t107:aw Tw.prog 107=some ⟨5,40,[.int .i64 0,.int .i64 0,.int .i64 0,.bool false,.bool false],.struct [(0,32),(4,4)]⟩:=by kernel_rfl
@[simp] theorem aaK:aM Tw.prog 107=false:=by kernel_rfl
@[simp] theorem aaL:kt Tw.prog 107=some [true,true,true,false,false]:=by kernel_rfl
@[simp] theorem t117:aw Tw.prog 117=some ⟨5,40,[.int .i64 0,.int .i64 0,.int .i64 0,.int .i64 0,.int .i64 0],.struct [(0,3),(1,3),(2,3),(3,28)]⟩:=by kernel_rfl
@[simp] theorem aaM:aM Tw.prog 117=false:=by kernel_rfl
@[simp] theorem aaN:kt Tw.prog 117=some [true,true,true,true,true]:=by kernel_rfl
@[simp] theorem t133:aw Tw.prog 133=some ⟨2,32,[.slice none 0 0,.int .i64 0],.struct [(0,22),(1,3)]⟩:=by kernel_rfl
@[simp] theorem aaO:aM Tw.prog 133=false:=by kernel_rfl
@[simp] theorem t139:aw Tw.prog 139=some ⟨12,12,[.bool false,.bool false,.bool false,.bool false,.bool false,.bool false,.bool false,.bool false,.bool false,.bool false,.bool false,.bool false],.array 12 4⟩:=by kernel_rfl
@[simp] theorem aaP:aM Tw.prog 139=false:=by kernel_rfl
@[simp] theorem t145:aw Tw.prog 145=some ⟨1,8,[.nilFunc],.sc⟩:=by kernel_rfl
@[simp] theorem aaQ:aM Tw.prog 145=false:=by kernel_rfl
@[simp] theorem t147:aw Tw.prog 147=some ⟨1,24,[.slice none 0 0],.slice 227⟩:=by kernel_rfl
@[simp] theorem aaR:aM Tw.prog 147=false:=by kernel_rfl
@[simp] theorem t149:aw Tw.prog 149=some ⟨4,64,[.int .i64 0,.int .i64 0,.slice none 0 0,.slice none 0 0],.struct [(0,3),(1,3),(2,147),(3,147)]⟩:=by kernel_rfl
@[simp] theorem aaS:aM Tw.prog 149=false:=by kernel_rfl
@[simp] theorem t151:aw Tw.prog 151=some ⟨1,24,[.slice none 0 0],.slice 158⟩:=by kernel_rfl
@[simp] theorem aaT:aM Tw.prog 151=false:=by kernel_rfl
@[simp] theorem t153:aw Tw.prog 153=some ⟨3,56,[.int .i64 0,.slice none 0 0,.slice none 0 0],.struct [(0,3),(1,24),(2,151)]⟩:=by kernel_rfl
@[simp] theorem aaU:aM Tw.prog 153=false:=by kernel_rfl
@[simp] theorem t158:aw Tw.prog 158=some ⟨2,16,[.int .i64 0,.int .i64 0],.struct [(0,3),(1,3)]⟩:=by kernel_rfl
@[simp] theorem aaV:aM Tw.prog 158=false:=by kernel_rfl
@[simp] theorem aaW:kt Tw.prog 158=some [true,true]:=by kernel_rfl
@[simp] theorem t160:aw Tw.prog 160=some ⟨5,40,[.int .i64 0,.int .i64 0,.int .i64 0,.int .i64 0,.int .i64 0],.struct [(0,3),(1,3),(2,3),(3,158)]⟩:=by kernel_rfl
@[simp] theorem aaX:aM Tw.prog 160=false:=by kernel_rfl
@[simp] theorem aaY:kt Tw.prog 160=some [true,true,true,true,true]:=by kernel_rfl
@[simp] theorem t172:aw Tw.prog 172=some ⟨2,16,[.int .i64 0,.int .i64 0],.struct [(0,3),(1,3)]⟩:=by kernel_rfl
@[simp] theorem aaZ:aM Tw.prog 172=false:=by kernel_rfl
@[simp] theorem aa0:kt Tw.prog 172=some [true,true]:=by kernel_rfl
@[simp] theorem t178:aw Tw.prog 178=some ⟨1,24,[.slice none 0 0],.slice 32⟩:=by kernel_rfl
@[simp] theorem aa1:aM Tw.prog 178=false:=by kernel_rfl
@[simp] theorem t180:aw Tw.prog 180=some ⟨1,8,[.pointer none],.sc⟩:=by kernel_rfl
@[simp] theorem aa2:aM Tw.prog 180=false:=by kernel_rfl
@[simp] theorem t183:aw Tw.prog 183=some ⟨0,0,[],.struct []⟩:=by kernel_rfl
@[simp] theorem aa3:aM Tw.prog 183=false:=by kernel_rfl
@[simp] theorem aa4:kt Tw.prog 183=some []:=by kernel_rfl
@[simp] theorem t184:aw Tw.prog 184=some ⟨0,0,[],.struct []⟩:=by kernel_rfl
@[simp] theorem aa5:aM Tw.prog 184=false:=by kernel_rfl
@[simp] theorem aa6:kt Tw.prog 184=some []:=by kernel_rfl
@[simp] theorem t185:aw Tw.prog 185=some ⟨0,0,[],.struct []⟩:=by kernel_rfl
@[simp] theorem aa7:aM Tw.prog 185=false:=by kernel_rfl
@[simp] theorem aa8:kt Tw.prog 185=some []:=by kernel_rfl
@[simp] theorem t186:aw Tw.prog 186=some ⟨1,8,[.int .u64 0],.sc⟩:=by kernel_rfl
@[simp] theorem aa9:aM Tw.prog 186=false:=by kernel_rfl
@[simp] theorem i186:re Tw.prog 186=some .u64:=by kernel_rfl
@[simp] theorem t188:aw Tw.prog 188=some ⟨1,8,[.int .u64 0],.struct [(0,184),(0,185),(0,186)]⟩:=by kernel_rfl
@[simp] theorem aa_:aM Tw.prog 188=false:=by kernel_rfl
@[simp] theorem t189:aw Tw.prog 189=some ⟨1,4,[.int .u32 0],.sc⟩:=by kernel_rfl
@[simp] theorem aa':aM Tw.prog 189=false:=by kernel_rfl
@[simp] theorem i189:re Tw.prog 189=some .u32:=by kernel_rfl
@[simp] theorem t191:aw Tw.prog 191=some ⟨2,16,[.int .u64 0,.int .u32 0],.struct [(0,183),(0,188),(1,189)]⟩:=by kernel_rfl
@[simp] theorem aba:aM Tw.prog 191=false:=by kernel_rfl
@[simp] theorem t204:aw Tw.prog 204=some ⟨1,16,[.nilIface],.sc⟩:=by kernel_rfl
@[simp] theorem abb:aM Tw.prog 204=false:=by kernel_rfl
@[simp] theorem t227:aw Tw.prog 227=some ⟨4,32,[.int .i64 0,.int .i64 0,.int .i64 0,.bool false],.struct [(0,3),(1,158),(3,4)]⟩:=by kernel_rfl
@[simp] theorem abc:aM Tw.prog 227=false:=by kernel_rfl
@[simp] theorem abd:kt Tw.prog 227=some [true,true,true,false]:=by kernel_rfl
@[simp] theorem Yl:lB Tw.prog 178 "Len"=some (229,none):=by kernel_rfl
@[simp] theorem XZ:lB Tw.prog 178 "Less"=some (230,none):=by kernel_rfl
@[simp] theorem X0:lB Tw.prog 178 "Swap"=some (231,none):=by kernel_rfl
@[simp] theorem Ym:lB Tw.prog 180 "Len"=some (229,some 178):=by kernel_rfl
@[simp] theorem X1:lB Tw.prog 180 "Less"=some (230,some 178):=by kernel_rfl
@[simp] theorem Yn:lB Tw.prog 180 "Pop"=some (232,none):=by kernel_rfl
@[simp] theorem X2:lB Tw.prog 180 "Push"=some (236,none):=by kernel_rfl
@[simp] theorem X3:lB Tw.prog 180 "Swap"=some (231,some 178):=by kernel_rfl
end Go.Proofs.YtjklkppncmhehaaGreat.Td
namespace Go.Proofs.YtjklkppncmhehaaGreat.T
open Go Go.RowKit
universe u
structure X4 (P:Program) (E:List PanicEntry→World→Prop) (nt m:Nat) (c:Code) (Q:Exit→ae→Prop) (s:ae):Prop where
 get:TW P E nt m c Q s
def WV (P:Program)(E:List PanicEntry→World→Prop)(nt m:Nat):Code→(Exit→ae→Prop)→ae→Prop
 | .skip,Q,s=>Q .normal s
 | .exit id,Q,s=>Q (.exit id) s
 | .ret,Q,s=>Q .ret s
 | .seq x y,Q,s=>WV P E nt m x (tQ (WV P E nt m y Q) Q) s
 | .block id c,Q,s=>WV P E nt m c (bQ id Q) s
 | .cond c x y,Q,s=>match(s.ev c).b? with
   |some b=>if b=true then WV P E nt m x Q s else WV P E nt m y Q s
   |none=>False
 | .region _ ops draw,Q,s=>tU s=true∧run (ie ⟨P,E,nt,ops,draw⟩) ⟨P,E,nt,ops,draw⟩ ops.toList s [] (Q .normal)
 |c,Q,s=>X4 P E nt m c Q s
section
variable {P:Program}{E:List PanicEntry→World→Prop}{nt m:Nat}{c x y:Code}{Q:Exit→ae→Prop}{s s':ae}
theorem WV.sound (sX:P.follows .mixedOrders=true):∀{c:Code} {Q:Exit→ae→Prop} {s:ae},WV P E nt m c Q s→TW P E nt m c Q s
 | .skip,Q,s,h=> .skip h
 | .exit id,Q,s,h=> .exit h
 | .ret,Q,s,h=> .ret h
 | .seq x y,Q,s,h=> .seq ((WV.sound sX (c:=x) h).mono fun e s h=>by
   cases e with
   |normal=>exact WV.sound sX (c:=y) h
   |_=>exact h)
 | .block id c,Q,s,h=> .block (WV.sound sX (c:=c) h)
 | .cond c x y,Q,s,h=>by
   unfold WV at h;split at h
   ·rename_i b hb
    refine .cond hb (fun e=>?_) fun e=>?_
    ·rw[if_pos e]at h;exact WV.sound sX (c:=x) h
    ·rw[if_neg (by simp[e])]at h;exact WV.sound sX (c:=y) h
   ·exact h.elim
 | .region id ops draw,Q,s,h=> .region sX ⟨h.1,mT ⟨P,E,nt,ops,draw⟩ _ _ _ _ h.2⟩
 | .loop _,Q,s,h=>h.get
 | .rangeFunc ..,Q,s,h=>h.get
 | .scope _,Q,s,h=>h.get
 | .label _,Q,s,h=>h.get
 | .goto _,Q,s,h=>h.get
 | .refuse _,Q,s,h=>h.get
@[simp] theorem aac:WV P E nt m .skip Q s=Q .normal s:=rfl
@[simp] theorem aad {id:Nat}:WV P E nt m (.exit id) Q s=Q (.exit id) s:=rfl
@[simp] theorem aax:WV P E nt m .ret Q s=Q .ret s:=rfl
@[simp] theorem aay:WV P E nt m (.seq x y) Q s=WV P E nt m x (tQ (WV P E nt m y Q) Q) s:=rfl
@[simp] theorem Yo {id:Nat}:WV P E nt m (.block id c) Q s=WV P E nt m c (bQ id Q) s:=rfl
@[simp] theorem aae:WV P E nt m (.loop c) Q s=X4 P E nt m (.loop c) Q s:=rfl
@[simp] theorem aaf {o:Operand}:WV P E nt m (.cond o x y) Q s=match(s.ev o).b? with
  |some b=>if b=true then WV P E nt m x Q s else WV P E nt m y Q s
  |none=>False:=rfl
@[simp] theorem X5 {id:Nat} {os:List Oper} {draw:Bool}:WV P E nt m (.region id (List.toArray os) draw) Q s=(tU s=true∧run (ie ⟨P,E,nt,List.toArray os,draw⟩) ⟨P,E,nt,List.toArray os,draw⟩ os s [] (Q .normal)):=rfl
end
attribute [-simp] tQ bQ
def Tg {α:Sort u}(_:α):Type:=Unit
def tg {α:Sort u}(x:α):Tg x:=()
def aag (P:Program)(xs:List ResultVar)(m:Nat)(r:GV)(sto':List (Nat×aj))(_:Tg r)(_:Tg sto'):Exit→ae→Prop:=SQ P xs m r sto'
structure U {α:Type} (m:Nat) (I:α→ae) (p:α→Prop) (μ:α→Nat) (x:α) (_:Tg I) (_:Tg p) (_:Tg μ) (_:Tg x) (s:ae):Prop where
 mk::
 get:∃y,p y∧μ y<μ x∧Wk m s (I y)
theorem tL {P:Program}{E:List PanicEntry→World→Prop}{nt m:Nat}{Q:Exit→ae→Prop}{s:ae}{α:Type}{c:Code}(I:α→ae)(p:α→Prop)(μ:α→Nat)(x:α)(hx:p x)(h0:Wk m s (I x))
  (round:∀x,p x→TW P E nt m c (tQ (U m I p μ x (tg I) (tg p) (tg μ) (tg x)) Q) (I x)):X4 P E nt m (.loop c) Q s:=⟨TW.loop I p μ x hx h0 fun x hx=>(round x hx).mono fun e s h=>by
   cases e with
   |normal=>exact h.get
   |_=>exact h⟩
theorem TW.go {E:List PanicEntry→World→Prop}{nt m:Nat}{c:Code}{Q:Exit→ae→Prop}{s:ae}(h:WV Tw.prog E nt m c Q s):TW Tw.prog E nt m c Q s:=WV.sound Td.mixed h
theorem tE {E:List PanicEntry→World→Prop}{f:FuncId}(fn:Func){args:List GV}{m:Nat}{sto sto':List (Nat×aj)}{r:GV}{nt:Nat}{xs:List ResultVar}{c:Code}(XN:fn.ntmps=nt)(fp:fn.results.toList=xs)
  (h:TW Tw.prog E nt m c (aag Tw.prog xs m r sto' (tg r) (tg sto')) ⟨kI 0 args,sto,m⟩) (hf:Tw.prog.funcs[f]?=some fn:=by kernel_rfl) (hb:fn.body=some c:=by rfl) (XM:(fn.name== "runtime.NumGoroutine")=false:=by kernel_rfl) (hn:args.length≤nt:=by simp) (hfit:Fits args m sto:=by exact Fits.nil rfl):TC Tw.prog E f args m sto r sto':=
 TC.enter hf hb XM XN fp hn hfit h
section
variable {r:Rg}{o:Oper}{os:List Oper}{gd:List (Nat ⊕ Nat)}{s:ae}{acc:List Pl}{K:ae→Prop}{c:Call}{f:FuncId}{oz gs:List GV}{cN:List (Nat×Option aj)}{tt:Option (FuncId×List GV×List (Nat×Option aj))}
theorem ie.of (hc:dI (.call c)=true)(ho:o.op= .call c)(h:aC (ie r) r o os gd s acc K):ie r o os gd s acc K:=by
 refine An (by rw[ho];exact hc) h fun fr gv Δ nx h=>?_
 have Jz:∀(x:Pl),(if r.draw=true then x::acc else[]).reverse=if r.draw=true then acc.reverse++[x]else[]:=fun x=>by
  split<;>simp
 have:=mT r _ _ _ _ h
 simp only[Jz]at this;exact this
theorem cP (h:∃res,TC r.P r.E f oz 0 [] res []∧res.names=[]∧run (ie r) r os (s.step o.dst res [] s.nx) (if r.draw then ic o gd cN []::acc else[]) K)
  (ho:o.op= .call c:=by rfl) (hc:dI (.call c)=true:=by rfl) (hf:s.pG r.P c.callee c.args.toList=tt:=by simp;rfl) (ht:tt=some (f,oz,cN):=by rfl) (fI:∀x∈cN,s.get x.1=x.2:=by simp) (h0:dw oz=[]:=by simp):ie r o os gd s acc K:=
 .of hc ho (h.elim fun _ h=>aC.plain ho hc (hf.trans ht) fI h.1 h0 h.2.1 h.2.2)
theorem cK (peek:List Nat)(h:∃res,TC r.P r.E f gs 0 [] res []∧res.flat=true∧run (ie r) r os (s.step o.dst res [] s.nx) (if r.draw then ic o gd (cN++peek.map fun b=>(b,s.get b)) []::acc else[]) K)
  (ho:o.op= .call c:=by rfl) (hc:dI (.call c)=true:=by rfl) (hf:s.pG r.P c.callee c.args.toList=tt:=by simp;rfl) (ht:tt=some (f,oz,cN):=by rfl) (fI:∀x∈cN,s.get x.1=x.2:=by simp) (hg:f_ s.get peek oz=gs:=by simp;rfl) (fX:∀b∈peek,rowOf (s.get b)=true:=by simp):ie r o os gd s acc K:=
 .of hc ho (h.elim fun _ h=>aC.peek ho hc (hf.trans ht) fI peek hg fX h.1 h.2.1 h.2.2)
theorem cF (peek:List Nat)(cnt:Nat)(h:∃res sto',TC r.P r.E f gs 0 [] res sto'∧(∀b∈res.names,b<cnt)∧(∀x∈sto',x.1<cnt∧∀b∈x.2.names,b<cnt)∧run (ie r) r os (s.step o.dst (res.bq (φ [] s.nx)) (jq s [] peek sto' cnt) (s.nx+cnt)) (if r.draw then ic o gd (cN++fL s [] peek cnt) (jq s [] peek sto' cnt)::acc else[]) K)
  (ho:o.op= .call c:=by rfl) (hc:dI (.call c)=true:=by rfl) (hf:s.pG r.P c.callee c.args.toList=tt:=by simp;rfl) (ht:tt=some (f,oz,cN):=by rfl) (fI:∀x∈cN,s.get x.1=x.2:=by simp) (hg:f_ s.get peek oz=gs:=by simp;rfl) (fX:∀b∈peek,rowOf (s.get b)=true:=by simp) (h0:dw gs=[]:=by simp):ie r o os gd s acc K:=
 .of hc ho (h.elim fun _ h=>h.elim fun _ h=>aC.fresh ho hc (hf.trans ht) fI peek hg fX cnt h.1 h0 h.2.1 h.2.2.1 h.2.2.2)
theorem cR {b:Nat}{bx:List TV}(h:∃Ff res,TC r.P r.E f (.s (.ptr 0 0)::gs) 1 [(0,.box bx)] res [(0,.box Ff)]∧(aj.box Ff).names=[]∧res.names=[]∧run (ie r) r os (s.step o.dst res [(b,.box Ff)] s.nx) (if r.draw then ic o gd (cN++[(b,some (.box bx))]) [(b,.box Ff)]::acc else[]) K)
  (ho:o.op= .call c:=by rfl) (hc:dI (.call c)=true:=by rfl) (hf:s.pG r.P c.callee c.args.toList=tt:=by simp;rfl) (ht:tt=some (f,oz,cN):=by rfl) (fI:∀x∈cN,s.get x.1=x.2:=by simp) (xY:oz= .s (.ptr b 0)::gs:=by rfl) (hb:s.get b=some (.box bx):=by simp;rfl) (h0:dw gs=[]:=by simp) (h1:(aj.box bx).names=[]:=by simp) (ai:b<s.nx:=by simp):ie r o os gd s acc K:=
 .of hc ho (h.elim fun _ h=>h.elim fun _ h=>aC.rd ho hc (hf.trans ht) fI xY hb h.1 h0 h1 h.2.1 h.2.2.1 ai h.2.2.2)
theorem cL (frag:List Nat)(cnt:Nat)(h:∃bU sto0 sto' res,TC r.P r.E f bU frag.length sto0 res sto'∧oz=fZ (φ frag s.nx) bU∧vj s (φ frag s.nx) sto0 0 frag∧(∀x∈sto0,x.1<frag.length∧x.2.live=true)∧(∀x∈sto',x.1<frag.length+cnt∧∀b∈x.2.names,b<frag.length+cnt)∧(∀b∈res.names,b<frag.length+cnt)∧run (ie r) r os (s.step o.dst (res.bq (φ frag s.nx)) (jq s frag [] sto' cnt) (s.nx+cnt)) (if r.draw then ic o gd (cN++fL s frag [] cnt) (jq s frag [] sto' cnt)::acc else[]) K)
  (ho:o.op= .call c:=by rfl) (hc:dI (.call c)=true:=by rfl) (hf:s.pG r.P c.callee c.args.toList=tt:=by simp;rfl) (ht:tt=some (f,oz,cN):=by rfl) (fI:∀x∈cN,s.get x.1=x.2:=by simp) (hn:frag.Nodup:=by simp) (ai:∀b∈frag,b<s.nx:=by simp):ie r o os gd s acc K:=
 .of hc ho (h.elim fun _ h=>h.elim fun _ h=>h.elim fun _ h=>h.elim fun _ h=>aC.NA ho hc (hf.trans ht) fI frag cnt h.1 h.2.1 hn ai h.2.2.1 h.2.2.2.1 h.2.2.2.2.1 h.2.2.2.2.2.1 h.2.2.2.2.2.2)
end
theorem aI {A B:Prop}(b:B)(a:A:=by first|exact rfl|(show(_:Bool)=true;kernel_rfl)|(show(_:Bool)=true∧(_:Bool)=true;exact⟨by kernel_rfl,by kernel_rfl⟩)|omega|(simp;done)|(simp;omega)|exact Or.inl rfl):A∧B:=⟨a,b⟩
theorem oW {P:Program}{xs:List ResultVar}{m:Nat}{s:ae}{r:GV}{sto':List (Nat×aj)}(ns cs:List Nat){r0:GV}(h:s.res P xs=some r0:=by simp;rfl)(hv:r0.cr s.get cs=r.bq (fN m ns):=by simp)(hn:∀b∈r.names,b<m∨(gt b sto').isSome=true:=by simp)
  (hc:∀b∈cs,∃e k xs,s.get b=some (.rows e k xs):=by simp) (hs:∀x∈sto',fN m ns x.1∉cs∧(s.get (fN m ns x.1)).map (aj.cr s.get cs)=some (x.2.bq (fN m ns))∧∀b∈x.2.names,b<m∨(gt b sto').isSome=true:=by simp)
  (hi:∀x∈sto',∀y∈sto',fN m ns x.1=fN m ns y.1→x.1=y.1:=by simp):aE P xs m s r sto':= .own ns cs h hv hn hc hs hi
theorem oN {P:Program}{xs:List ResultVar}{s:ae}{r:GV}(h:s.res P xs=some r:=by rfl)(hn:r.names=[]:=by rfl):aE P xs 0 s r []:= .nil h hn
theorem kO {m:Nat}{s s':ae}(ns cs:List Nat)(hc:∀b∈cs,∃e k xs,s.get b=some (.rows e k xs):=by simp)(he:∀x∈s'.env,(lk x.1 s.env).cr s.get cs=x.2.bq (fN m ns)∧∀b∈x.2.names,b<s'.nx:=by simp)
  (hs:∀x∈s'.sto,x.1<s'.nx∧fN m ns x.1∉cs∧(s.get (fN m ns x.1)).map (aj.cr s.get cs)=some (x.2.bq (fN m ns))∧∀b∈x.2.names,b<s'.nx:=by simp) (hi:∀x∈s'.sto,∀y∈s'.sto,fN m ns x.1=fN m ns y.1→x.1=y.1:=by simp) (hm:m≤s'.nx:=by simp):Wk m s s':= .own ns cs hc he hs hi hm
theorem kS {m:Nat}{s s':ae}(h1:∀x∈s'.env,lk x.1 s.env=x.2∧x.2.names.all (fun b=>decide (b<s'.nx))=true:=by simp)(h2:∀x∈s'.sto,s.get x.1=some x.2∧x.1<s'.nx∧x.2.names.all (fun b=>decide (b<s'.nx))=true:=by simp)(h3:m≤s'.nx:=by simp):Wk m s s':= .same h1 h2 h3
end Go.Proofs.YtjklkppncmhehaaGreat.T
namespace Go.Proofs.YtjklkppncmhehaaGreat
open Go.RowKit
theorem kJ (a:Addr)(n:Nat):(a.add n).block=a.block:=by unfold Addr.add;split<;>rfl
theorem xH (a:Addr)(i j:Nat):(a.add i).add j=a.add (i+j):=by
 unfold Addr.add;by_cases hi:i=0<;>by_cases hj:j=0<;>simp[hi,hj,Nat.add_assoc]
def Reads (w:World)(B size:Nat)(A:Option Addr)(n:Nat)(xs:List Value):Prop:=
 xs.length=n*size∧(0<n→∃ad,A=some ad∧ad.block<B∧∀j u,xs[j]?=some u→w.cell? (ad.add j)=some u)
section
variable {w w':World}{B B' size n:Nat}{A:Option Addr}{xs:List Value}
theorem Reads.none_:Reads w B size A 0 []:=⟨by simp,fun h=>absurd h (by omega)⟩
theorem Reads.at_ {k:Nat}(h:Reads w B 1 A n xs)(hk:k<n):∃ad u,A=some ad∧ad.block<B∧xs[k]?=some u∧w.cell? (ad.add k)=some u:=by
 obtain⟨ad,e,hb,hc⟩:=h.2 (by omega)
 have hl:k<xs.length:=by have:=h.1;omega
 exact⟨ad,xs[k],e,hb,List.getElem?_eq_getElem hl,hc k _ (List.getElem?_eq_getElem hl)⟩
theorem Reads.bK (h:Reads w B size A n xs)(hk:∀p:Addr,p.block<B→w'.cell? p=w.cell? p):Reads w' B size A n xs:=
 ⟨h.1,fun hn=>by
   obtain⟨ad,e,hb,hc⟩:=h.2 hn;exact⟨ad,e,hb,fun j u hu=>(hk _ (by rw[kJ];exact hb)).trans (hc j u hu)⟩⟩
theorem Reads.more (h:Reads w B size A n xs)(hB:B≤B'):Reads w B' size A n xs:=
 ⟨h.1,fun hn=>by
   obtain⟨ad,e,hb,hc⟩:=h.2 hn;exact⟨ad,e,by omega,hc⟩⟩
theorem Reads.below (h:Reads w B size A n xs)(hb:Below B w w'):Reads w' B size A n xs:=h.bK fun _ hp=>hb.cell hp
theorem Reads.drew (h:Reads w B size A n xs):Reads w.drew B size A n xs:=h
theorem Reads.drewN (h:Reads w B size A n xs)(k:Nat):Reads (w.drewN k) B size A n xs:=h
theorem Reads.alloc (h:Reads w B size A n xs)(hB:B≤w.heap.size)(o:Obj):Reads (w.alloc o) B size A n xs:=h.bK fun p hp=>World.cell?_alloc_lt w o p (by omega)
theorem Reads.setCell (h:Reads w B size A n xs){p:Addr}(hB:B≤p.block)(u:Value):Reads (w.setCell p u) B size A n xs:=
 h.bK fun q hq=>World.cell?_setCell_other w p q u (fun e=>by subst e;omega)
theorem Reads.grown (h:Reads w B size A n xs){row:Option Nat}(hg:w.grownBy w' row)(hB:B≤w.heap.size)(hr:∀g,row=some g→B≤g):Reads w' B size A n xs:=
 h.bK fun p hp=>World.cell?_of_block (hg.block p.block (by omega) (fun e=>by have:=hr _ e.symm;omega))
theorem Reads.cut (h:Reads w B size A n xs){k cap:Nat}(hk:k≤n)(hc:n≤cap):
  Reads w B size (if cap=k then A else A.map (·.add (k*size))) (n-k) (xs.drop (k*size)):=by
 refine⟨by rw[List.length_drop,h.1,Nat.sub_mul],fun hn=>?_⟩
 obtain⟨ad,rfl,hb,cv⟩:=h.2 (by omega)
 rw[if_neg (by omega)]
 refine⟨ad.add (k*size),rfl,by rw[kJ];exact hb,fun j u hu=>?_⟩
 rw[xH];exact cv _ u (by rw[←hu,List.getElem?_drop])
end
def aj (w:World)(g:Nat)(t:TypeId)(cs:Array Value):Prop:=w.heap[g]?=some (.cells cs t (0,0))
section
variable {w w':World}{g:Nat}{t:TypeId}{cs:Array Value}
theorem aj.lt (h:aj w g t cs):g<w.heap.size:=by
 rcases Nat.lt_or_ge g w.heap.size with ai|zl
 ·exact ai
 ·unfold aj at h;rw[Array.getElem?_eq_none zl]at h;cases h
theorem aj.cell (h:aj w g t cs)(i:Nat):w.cell? ⟨g,i,none⟩=cs[i]?:=cell_of_row w g i cs t (0,0) h
theorem aj.frozen (h:aj w g t cs)(i:Nat):w.frozen? ⟨g,i,none⟩=false:=by
 unfold aj at h;simp[World.frozen?,h]
theorem aj.new (w:World)(t:TypeId)(cs:Array Value):aj (w.alloc (.cells cs t)) w.heap.size t cs:=heap_alloc_new w _
theorem aj.drew (h:aj w g t cs):aj w.drew g t cs:=h
theorem aj.drewN (h:aj w g t cs)(n:Nat):aj (w.drewN n) g t cs:=h
theorem aj.alloc (h:aj w g t cs)(o:Obj):aj (w.alloc o) g t cs:=(Below.heap_alloc w o g h.lt).trans h
theorem aj.JB (h:aj w g t cs)(i:Nat)(u:Value):aj (w.setCell ⟨g,i,none⟩ u) g t (cs.setIfInBounds i u):=by
 unfold aj at h⊢;simp[World.setCell,Array.getElem?_modify,h]
theorem aj.BW (h:aj w g t cs){p:Addr}(hp:g≠p.block)(u:Value):aj (w.setCell p u) g t cs:=(Below.heap_setCell w p u g hp).trans h
theorem aj.below {B:Nat}(h:aj w g t cs)(hb:Below B w w')(hg:g<B):aj w' g t cs:=(hb.block g hg).trans h
theorem aj.grown {row:Option Nat}(h:aj w g t cs)(hb:w.grownBy w' row)(hg:some g≠row):aj w' g t cs:=(hb.block g h.lt hg).trans h
end
section
variable {P:Program}(w:World)
end
theorem aj.V6 (w:World)(t:TypeId)(cs:Array Value){g:Nat}(hg:g=w.heap.size):aj (w.alloc (.cells cs t)) g t cs:=by subst hg;exact aj.new w t cs
end Go.Proofs.YtjklkppncmhehaaGreat
