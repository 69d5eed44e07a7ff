/-
What is proved: which rewrite rules a walk over trees uses and what rests on it. Conditions: as stated.
-/
import Derived.Test.YtlhohdjniaebbaaGreatRy34
import Derived.Test.YtlhohdjniaebbaaGreatRy33
import Derived.Test.YtlhohdjniaebbaaGreatRy01
import Derived.KernelRfl
import Derived.Below
import Derived.Laws.OwnMore
import Derived.Deep.AppendLies
import Derived.Deep.Draws
import Derived.Laws.Rows
import Derived.Maps.AppendAt
import Derived.RegionTactic
import Derived.OwnWalk
import Derived.Lib.Hide
set_option linter.unusedVariables false
set_option linter.unusedSimpArgs false
namespace Go.Proofs.YtlhohdjniaebbaaGreat.T
open Go Go.RowKit
attribute [simp] run Oi dP Vh EL uP MR EM uO Vg EK oU qn ae.step ae.pH xc GV.undef? ae.ev lk gt ae.get GV.b? GV.i? GV.agg? GV.tup? GV.cells? ae.qk GV.ifc? ae.view ae.deref ae.wQ ae.nn ae.qM mP oF mk rs gI gB N6 zH cu Jh N5 Xs qh
 xW im qg bF rT qm Value.oneCell' TK.agg TK.Cj placeOf oI lV cU oM iQ uE Cm xJ tQ bQ kl ae.res ae.Co ae.Od TV.cr GV.cr fX ak.cr TV.bB GV.bB fH ak.bB TV.names GV.names dt ak.names
 TV.flat GV.flat zI rowOf fD iS φ
theorem Fits.nil {args:List GV}(h:dt args=[]):Fits args 0 []:=
 ⟨rfl,fun x hx=>(by cases hx),fun g hg b hb=>(by have:=xL hg b hb;rw[h]at this;cases this),fun x hx=>by cases hx⟩
theorem bo.nil {P:Program}{xs:List ResultVar}{s:ae}{r:GV}(h:s.res P xs=some r)(hn:r.names=[]):bo P xs 0 s r []:=
 ⟨id,[],r,h,by rw[GV.kA,GV.iq _ _ hn],fun b hb=>(by rw[hn]at hb;cases hb),fun b hb=>(by cases hb),fun x hx=>(by cases hx),fun x hx=>(by cases hx),fun b hb=>by omega⟩
section
variable {P:Program}{E:List PanicEntry→World→Prop}{nt m:Nat}{c:Code}{Q:Exit→ae→Prop}{s:ae}
theorem TW.len (t:Nat){k:Nat}{xs:List (List RT)}(ht:lk t s.env= .s (.r (.sl k xs)))(h:xs.length≤maxLen→TW P E nt m c Q s):TW P E nt m c Q s:=by
 intro C a w hn hm hR;obtain⟨ρ,D,hr⟩:=hR;have h1:=hr.env t;simp only[iR]at h1;rw[ht]at h1;generalize a.tmps.getD t undef=v at h1
 cases h1 with|s h1=>cases h1 with|r h1=>
 obtain⟨A,c',_,h2,h3,_⟩:=h1.slice;exact h (Nat.le_trans h2 h3) C a w hn hm ⟨ρ,D,hr⟩
end
theorem Wk.same {m:Nat}{s s':ae}(h1:∀x∈s'.env,lk x.1 s.env=x.2∧x.2.names.all (fun b=>decide (b<s'.nx))=true)(h2:∀x∈s'.bb,s.get x.1=some x.2∧x.1<s'.nx∧x.2.names.all (fun b=>decide (b<s'.nx))=true)(h3:m≤s'.nx):Wk m s s':=by
 have hT:∀t:TV,t.bB id=t:=fun t=>by cases t<;>rfl
 have hTL:∀ts:List TV,ts.map (TV.bB id)=ts:=fun ts=>(List.map_congr_left fun t _=>hT t).trans (List.map_id ts)
 have hTF:∀(get:Nat→Option ak) (ts:List TV),ts.map (TV.cr get [])=ts:=fun get ts=>(List.map_congr_left fun t _=>TV.kA get t).trans (List.map_id ts)
 refine⟨id,[],⟨fun b hb=>(by cases hb),fun x hx=> .inr ⟨?_,?_⟩,fun x hx=>⟨(h2 x hx).2.1,(by simp),?_,?_⟩,fun x _ y _ h=>h,h3,fun b _=>rfl⟩⟩
 ·rw[GV.kA,(h1 x hx).1,GV.qO]
 ·have:=(h1 x hx).2
  rw[List.all_eq_true]at this;exact fun b hb=>by simpa using this b hb
 ·simp only[id,(h2 x hx).1,Option.map_some,Option.some.injEq]
  cases x.2<;>simp[ak.cr,ak.bB,hTL,hTF]
 ·have:=(h2 x hx).2.2
  rw[List.all_eq_true]at this;exact fun b hb=>by simpa using this b hb
end Go.Proofs.YtlhohdjniaebbaaGreat.T
namespace Go.Proofs.YtlhohdjniaebbaaGreat.T
open Go Go.RowKit
def TV.le (x y:TV):Prop:=x=y∨(x= .r .nil∧∃k,y= .r (.sl k []))
def Rr:List TV→List TV→Prop
 |[],[]=>True
 |x::xs,y::ys=>x.le y∧Rr xs ys
 |_,_=>False
def GV.le:GV→GV→Prop
 | .s x,.s y=>x.le y
 | .a xs,.a ys=>Rr xs ys
 |g,g'=>g=g'
def ak.le:ak→ak→Prop
 | .box xs,.box ys=>Rr xs ys
 |y,y'=>y=y'
def XL:List (Nat×GV)→List (Nat×GV)→Prop
 |[],[]=>True
 |x::xs,y::ys=>x.1=y.1∧x.2.le y.2∧XL xs ys
 |_,_=>False
def XM:List (Nat×ak)→List (Nat×ak)→Prop
 |[],[]=>True
 |x::xs,y::ys=>x.1=y.1∧x.2.le y.2∧XM xs ys
 |_,_=>False
def XN:List GV→List GV→Prop
 |[],[]=>True
 |x::xs,y::ys=>x.le y∧XN xs ys
 |_,_=>False
theorem TV.le_refl (x:TV):x.le x:= .inl rfl
theorem TV.le_nil (k:Nat):(TV.r .nil).le (.r (.sl k [])):= .inr ⟨rfl,k,rfl⟩
theorem qS:∀xs:List TV,Rr xs xs
 |[]=>trivial
 |x::xs=>⟨x.le_refl,qS xs⟩
theorem GV.le_refl (g:GV):g.le g:=by
 cases g
 case s x=>exact x.le_refl
 case a xs=>exact qS xs
 all_goals rfl
theorem ak.le_refl (y:ak):y.le y:=by
 cases y
 case box xs=>exact qS xs
 all_goals rfl
theorem zT:∀{xs ys:List TV},Rr xs ys→xs.length=ys.length∧∀(i:Nat) (y:TV),ys[i]?=some y→∃x,xs[i]?=some x∧x.le y
 |[],[],_=>⟨rfl,fun i y h=>by simp at h⟩
 |x::xs,y::ys,h=>by
  obtain⟨h1,h2⟩:=zT h.2;refine⟨by simp[h1],fun i z hz=>?_⟩
  cases i with
  |zero=>cases hz;exact⟨x,rfl,h.1⟩
  |succ i=>exact h2 i z hz
 |[],_::_,h=>h.elim
 |_::_,[],h=>h.elim
theorem cn.le {ρ:Nat→Option Value}{w:World}{D:Nat→Prop}{v:Value}{x y:TV}(h:x.le y)(hr:cn ρ w D v x):cn ρ w D v y:=by
 rcases h with rfl|⟨rfl,k,rfl⟩
 ·exact hr
 ·cases hr with|r hr=>cases hr with|nil=>exact .r (.sS (Nat.zero_le _))
theorem bg.le {ρ:Nat→Option Value}{w:World}{D:Nat→Prop}{v:Value}{x y:GV}(h:x.le y)(hr:bg ρ w D v x):bg ρ w D v y:=by
 unfold GV.le at h;split at h
 ·cases hr with|s hr=>exact .s (hr.le h)
 ·cases hr with
  |a hn hr=>
   obtain⟨h1,h2⟩:=zT h;refine .a (hn.trans h1) fun i t ht=>?_;obtain⟨x,hx,hl⟩:=h2 i t ht;exact(hr i x hx).le hl
 ·subst h;exact hr
theorem dr.le {ρ:Nat→Option Value}{w:World}{D:Nat→Prop}{v:Option Value}{x y:ak}(h:x.le y)(hr:dr ρ w D v x):dr ρ w D v y:=by
 unfold ak.le at h;split at h
 ·obtain⟨g,arr,ty,e1,e2,e3,e4⟩:=hr
  obtain⟨h1,h2⟩:=zT h;refine⟨g,arr,ty,e1,e2,e3.trans h1,fun i t ht=>?_⟩
  obtain⟨x,hx,hl⟩:=h2 i t ht;exact(e4 i x hx).le hl
 ·subst h;exact hr
theorem ak.zU {x y:ak}(h:x.le y):x.live=y.live:=by
 unfold ak.le at h;split at h
 ·rfl
 ·subst h;rfl
theorem Oj (t:Nat):∀{e e':List (Nat×GV)},XL e e'→(lk t e).le (lk t e')
 |[],[],_=>rfl
 |x::xs,y::ys,h=>by
  obtain⟨h1,h2,h3⟩:=h;obtain⟨u,g⟩:=x;obtain⟨u',g'⟩:=y
  cases h1;simp only[lk];split
  ·exact h2
  ·exact Oj t h3
 |[],_::_,h=>h.elim
 |_::_,[],h=>h.elim
theorem Ol (b:Nat):∀{e e':List (Nat×ak)},XM e e'→(gt b e=none∧gt b e'=none)∨∃y y',gt b e=some y∧gt b e'=some y'∧y.le y'
 |[],[],_=> .inl ⟨rfl,rfl⟩
 |x::xs,y::ys,h=>by
  obtain⟨h1,h2,h3⟩:=h;obtain⟨u,g⟩:=x;obtain⟨u',g'⟩:=y
  cases h1;simp only[gt];split
  ·exact .inr ⟨_,_,rfl,rfl,h2⟩
  ·exact Ol b h3
 |[],_::_,h=>h.elim
 |_::_,[],h=>h.elim
theorem Jq:∀{xs ys:List GV},XN xs ys→xs.length=ys.length∧∀(i:Nat) (y:GV),ys[i]?=some y→∃x,xs[i]?=some x∧x.le y
 |[],[],_=>⟨rfl,fun i y h=>by simp at h⟩
 |x::xs,y::ys,h=>by
  obtain⟨h1,h2⟩:=Jq h.2;refine⟨by simp[h1],fun i z hz=>?_⟩
  cases i with
  |zero=>cases hz;exact⟨x,rfl,h.1⟩
  |succ i=>exact h2 i z hz
 |[],_::_,h=>h.elim
 |_::_,[],h=>h.elim
section
variable {P:Program}{E:List PanicEntry→World→Prop}{nt m:Nat}{Q:Exit→ae→Prop}{s:ae}
theorem TW.le {c:Code}(env:List (Nat×GV))(bb:List (Nat×ak))(he:XL s.env env)(hs:XM s.bb bb)(hw:TW P E nt m c Q ⟨env,bb,s.nx⟩):TW P E nt m c Q s:=by
 intro C a w hn hm hR;refine hw C a w hn hm ?_;obtain⟨ρ,D,h⟩:=hR;have hg:∀b,(s.get b=none∧ae.get ⟨env,bb,s.nx⟩ b=none)∨∃y y',s.get b=some y∧ae.get ⟨env,bb,s.nx⟩ b=some y'∧y.le y':=by
  intro b;unfold ae.get;rcases Ol b hs with⟨h1,h2⟩|⟨y,y',h1,h2,h3⟩
  ·rw[h1,h2]
   simp only
   split
   ·exact .inr ⟨_,_,rfl,rfl,rfl⟩
   ·exact .inl ⟨rfl,rfl⟩
  ·rw[h1,h2]
   exact .inr ⟨_,_,rfl,rfl,h3⟩
 have hb:∀b y',ae.get ⟨env,bb,s.nx⟩ b=some y'→∃y,s.get b=some y∧y.le y':=by
  intro b y' hy;rcases hg b with⟨h1,h2⟩|⟨y,y2,h1,h2,h3⟩
  ·rw[h2]at hy;cases hy
  ·rw[h2]at hy;cases hy;exact⟨y,h1,h3⟩
 refine⟨ρ,D,⟨h.os,h.tape,h.output,h.size,h.old,h.ro,fun b cB=>?_,fun b y' hy=>?_,fun b y' g hy hl=>?_,fun b y b' y' g hy hl dq dm=>?_,fun t=>(h.env t).le (Oj t he),h.defers,h.nt,h.ext⟩⟩
 ·rcases hg b with⟨h1,h2⟩|⟨y,y2,h1,h2,h3⟩
  ·exact h.free b h1
  ·rw[h2]at cB;cases cB
 ·obtain⟨y,h1,h2⟩:=hb b y' hy
  exact(h.blk b y h1).le h2
 ·obtain⟨y,h1,h2⟩:=hb b y' hy
  exact h.own b y g h1 (by rw[ak.zU h2];exact hl)
 ·obtain⟨z,h1,h2⟩:=hb b y hy
  obtain⟨z',ji,lL⟩:=hb b' y' dq;exact h.sep b z b' z' g h1 (by rw[ak.zU h2];exact hl) ji (by rw[ak.zU lL];exact dm)
theorem TC.le {f:FuncId}{args bY:List GV}{bb sto':List (Nat×ak)}{r:GV}(h:XN args bY)(hT:TC P E f bY m bb r sto'):TC P E f args m bb r sto':=by
 obtain⟨h1,h2⟩:=Jq h;refine⟨hT.1,fun w bJ ρ D hn hr=>hT.2 w bJ ρ D (hn.trans h1) fun i g hg=>?_⟩
 obtain⟨x,hx,hl⟩:=h2 i g hg;exact(hr i x hx).le hl
end
attribute [simp] XL XM XN Rr GV.le ak.le TV.le_refl TV.le_nil qS GV.le_refl ak.le_refl
def fN (m:Nat)(ns:List Nat)(b:Nat):Nat:=if b<m then b else ns.getD (b-m) 0
attribute [simp] fN TV.cr GV.cr fX ak.cr TV.bB GV.bB fH ak.bB TV.names GV.names dt ak.names
theorem bo.own {P:Program}{xs:List ResultVar}{m:Nat}{s:ae}{r:GV}{sto':List (Nat×ak)}(ns cs:List Nat){r0:GV}(h:s.res P xs=some r0)(hv:r0.cr s.get cs=r.bB (fN m ns))(hn:∀b∈r.names,b<m∨(gt b sto').isSome=true)
  (hc:∀b∈cs,∃e k xs,s.get b=some (.rows e k xs)) (hs:∀x∈sto',fN m ns x.1∉cs∧(s.get (fN m ns x.1)).map (ak.cr s.get cs)=some (x.2.bB (fN m ns))∧∀b∈x.2.names,b<m∨(gt b sto').isSome=true)
  (hi:∀x∈sto',∀y∈sto',fN m ns x.1=fN m ns y.1→x.1=y.1):bo P xs m s r sto':=
 ⟨fN m ns,cs,r0,h,hv,hn,hc,hs,hi,fun b hb=>by simp[fN,hb]⟩
theorem oV (f:Nat→Nat):∀{gs:List GV},dt gs=[]→fH f gs=gs
 |[],_=>rfl
 |g::gs,h=>by
  simp only[dt,List.append_eq_nil_iff]at h;simp only[fH,GV.iq f _ h.1,oV f h.2]
attribute [simp] List.range_succ List.range_zero rowOf
theorem aC.fresh {C:CT}{r:Rg}{o:Oper}{os:List Oper}{gd:List (Nat ⊕ Nat)}{s:ae}{acc:List Pl}{K:ae→Prop}{c:Call}(ho:o.op= .call c)(hc:dP (.call c)=true){f:FuncId}{qp:List GV}{cM:List (Nat×Option ak)}(hf:s.qk r.P c.callee c.args.toList=some (f,qp,cM))(fO:∀x∈cM,s.get x.1=x.2)
  (peek:List Nat) {gs:List GV} (hg:fX s.get peek qp=gs) (gw:∀b∈peek,rowOf (s.get b)=true) (cnt:Nat) {res:GV} {sto':List (Nat×ak)} (hT:TC r.P r.E f gs 0 [] res sto') (h0:dt gs=[]) (h1:∀b∈res.names,b<cnt) (h2:∀x∈sto',x.1<cnt∧∀b∈x.2.names,b<cnt)
  (h:run C r os (s.step o.dst (res.bB (φ [] s.nx)) (iS s [] peek sto' cnt) (s.nx+cnt)) (if r.draw then ir o gd (cM++fD s [] peek cnt) (iS s [] peek sto' cnt)::acc else[]) K):aC C r o os gd s acc K:=
 aC.any ho hc hf fO [] peek cnt hT ⟨by rw[hg,oV _ h0],List.nodup_nil,fun b hb=>(by cases hb),fun b _ hb=>(by cases hb),gw,fun b hb=>(by simp at hb),fun x hx=>(by cases hx),fun x hx=>by simpa using(h2 x hx).1⟩ (by simpa using h1) (fun x hx b hb=>by simpa using(h2 x hx).2 b hb) h
theorem Wk.own {m:Nat}{s s':ae}(ns cs:List Nat)(hc:∀b∈cs,∃e k xs,s.get b=some (.rows e k xs))(he:∀x∈s'.env,(lk x.1 s.env).cr s.get cs=x.2.bB (fN m ns)∧∀b∈x.2.names,b<s'.nx)
  (hs:∀x∈s'.bb,x.1<s'.nx∧fN m ns x.1∉cs∧(s.get (fN m ns x.1)).map (ak.cr s.get cs)=some (x.2.bB (fN m ns))∧∀b∈x.2.names,b<s'.nx) (hi:∀x∈s'.bb,∀y∈s'.bb,fN m ns x.1=fN m ns y.1→x.1=y.1) (hm:m≤s'.nx):Wk m s s':=
 ⟨fN m ns,cs,hc,fun x hx=> .inr (he x hx),hs,hi,hm,fun b hb=>by simp[fN,hb]⟩
@[simp] theorem VS {α β:Type} (f:α→β) (xs:List α):List.take xs.length (List.map f xs)=List.map f xs:=List.take_of_length_le (by simp)
@[simp] theorem aby (n:Nat):(0:Int)≤(n:Int)+1:=by omega
@[simp] theorem abz (n:Nat):¬((n:Int)<0):=by omega
end Go.Proofs.YtlhohdjniaebbaaGreat.T
namespace Go.Proofs.YtlhohdjniaebbaaGreat.T
open Go Go.RowKit
def TV.fI:TV→Bool
 | .r (.v _)=>true
 | .own _=>true
 |_=>false
mutual
def GV.fI:GV→Bool
 | .s t=>t.fI
 | .a ts=>ts.all TV.fI
 | .p gs=>EO gs
 | .fC _ g=>g.fI
 |_=>false
def EO:List GV→Bool
 |[]=>true
 |g::gs=>g.fI&&EO gs
end
def RT.flat:RT→Bool
 | .v _=>true
 |_=>false
def ak.fI:ak→Bool
 | .rows _ _ xs=>xs.all fun y=>y.all RT.flat
 |_=>false
section
variable {ρ ρ':Nat→Option Value}{w w':World}{D D':Nat→Prop}
theorem cn.fI {v:Value}{t:TV}(h:cn ρ w D v t)(hf:t.fI=true){f:Nat→Nat}(dk:∀b x,ρ b=some x→ρ' (f b)=some x):cn ρ' w' D' v (t.bB f):=by
 unfold TV.fI at hf;split at hf
 ·cases h with|r h=>cases h with|v h=>exact .r (.v h)
 ·cases h with|own h=>exact .own (dk _ _ h)
 ·cases hf
theorem zV {g:GV}:∀{gs:List GV},EO gs=true→g∈gs→g.fI=true
 |x::gs,h,hm=>by
  simp only[EO,Bool.and_eq_true]at h;rcases List.mem_cons.1 hm with rfl|hm
  ·exact h.1
  ·exact zV h.2 hm
theorem bg.fI {v:Value}{g:GV}(h:bg ρ w D v g){f:Nat→Nat}(dk:∀b x,ρ b=some x→ρ' (f b)=some x):g.fI=true→bg ρ' w' D' v (g.bB f):=by
 induction h with
 |s h=>exact fun hf=> .s (h.fI hf dk)
 |a hn h=>
  intro hf;simp only[GV.fI,List.all_eq_true]at hf;simp only[GV.bB];refine .a (by simpa using hn) fun i t ht=>?_
  rw[List.getElem?_map,Option.map_eq_some_iff]at ht;obtain⟨t',xM,rfl⟩:=ht;exact(h i t' xM).fI (hf t' (List.mem_of_getElem? xM)) dk
 |p hn _ ih=>
  intro hf;simp only[GV.bB];refine .p (by rw[dc];exact hn) fun i g hg=>?_
  rw[gO,Option.map_eq_some_iff]at hg;obtain⟨g',bf,rfl⟩:=hg;exact ih i g' bf (zV hf (List.mem_of_getElem? bf))
 |fQ=>exact fun hf=>by simp[GV.fI]at hf
 |fC _ ih=>exact fun hf=> .fC (ih hf)
 |u=>exact fun hf=>by simp[GV.fI]at hf
theorem dr.fI {x:Option Value}{y:ak}(h:dr ρ w D x y)(hf:y.fI=true):dr ρ' w D' x y:=by
 cases y with
 |rows e k xs=>
  simp only[ak.fI,List.all_eq_true]at hf;obtain⟨A,c,h1,h2,h3,h4,h5,h6⟩:=h;refine⟨A,c,h1,h2,h3,h4,h5,?_⟩;rcases h6 with h6|⟨g,arr,h6,h7,h8,h9⟩
  ·exact .inl h6
  ·refine .inr ⟨g,arr,h6,h7,h8,fun i y hy j r hr=>?_⟩
   have:=hf y (List.mem_of_getElem? hy) r (List.mem_of_getElem? hr)
   have rr:=h9 i y hy j r hr
   cases r with
   |v x=>generalize arr.getD (i*k+j) undef=z at rr;cases rr with|v rr=>exact .v rr
   |nil=>simp[RT.flat]at this
   |sl _ _=>simp[RT.flat]at this
 |box cs=>simp[ak.fI]at hf
 |dead=>trivial
theorem EP (b:Nat):∀(x y:List (Nat×ak)),gt b (x++y)=match gt b x with|some z=>some z|none=>gt b y
 |[],y=>rfl
 |(u,z)::x,y=>by
  simp only[List.cons_append,gt];by_cases h:b=u
  ·rw[if_pos h,if_pos h]
  ·rw[if_neg h,if_neg h,EP b x y]
theorem vU (m b:Nat):∀(y:List (Nat×ak)),gt b (y.map fun x=>(x.1+m,x.2))=if m≤b then gt (b-m) y else none
 |[]=>by simp[gt]
 |(u,z)::y=>by
  simp only[List.map_cons,gt,vU m b y];by_cases h:m≤b
  ·by_cases e:b=u+m
   ·rw[if_pos e,if_pos h,if_pos (by omega)]
   ·rw[if_neg e,if_pos h,if_pos h,if_neg (by omega)]
  ·rw[if_neg h,if_neg h,if_neg (by omega)]
end
theorem TC.Yy {P:Program}{E:List PanicEntry→World→Prop}{f:FuncId}{args bY:List GV}{m:Nat}{bb sto':List (Nat×ak)}{r:GV}(hT:TC P E f bY 0 [] r sto')(hfit:Fits args m bb)
  (sZ:fX (fun b=>gt b bb) (List.range m) args=bY) (hr:r.fI=true) (hs:∀x∈sto',x.2.fI=true):TC P E f args m bb (r.bB (·+m)) (bb++sto'.map fun x=>(x.1+m,x.2)):=by
 obtain⟨zA,hT⟩:=hT;refine⟨zA,fun w bJ ρ D hv ha hD pJ og Q3=>?_⟩
 have EC:∀b y,gt b bb=some y→b<m:=fun b y hy=>hfit.lt _ (eN hy)
 have hR:Rel {W:=w,M:=Mf bb ρ,D0:=D,nt:=0,lK:=fun b=>if b<m then ρ b else none} (fun _=> .u) (fun b=>gt b bb) {tmps:= #[],defers:=[]} w (fun b=>if b<m then ρ b else none) D:=by
  refine⟨rfl,rfl,rfl,Nat.le_refl _,fun k _ _=>rfl,fun k hk=>⟨hD k hk,.inl hk⟩,fun b hb=>?_,fun b y hy=>?_,fun b y g hy hl hg=>?_,fun b y b' y' g hy hl dq dm hg bf=>?_,fun t=> .u,rfl,rfl,fun b x hx=>hx⟩
  ·by_cases h:b<m
   ·obtain⟨y,hy,_⟩:=hfit.live h
    rw[hy]at hb;cases hb
   ·simp[h]
  ·have h1:=EC _ _ hy
   simp only[h1,if_true];exact(pJ b y hy).restrict fun c hc x hx=>by rw[if_pos (hfit.bb _ (eN hy) c hc)];exact hx
  ·have h1:=EC _ _ hy
   simp only[h1,if_true]at hg;exact⟨og b y g hy hl hg,.inl ⟨b,y,hy,hl,hg⟩⟩
  ·have h1:=EC _ _ hy
   have ji:=EC _ _ dq;simp only[h1,ji,if_true]at hg bf;exact Q3 b y b' y' g hy hl dq dm hg bf
 obtain⟨D1,uJ,EG,U8⟩:=hR.consume (List.range m) fun b hb=>hfit.live (List.mem_range.1 hb)
 refine(hT w bJ (fun b=>if b<m then ρ b else none) D1 (by rw[hv,←sZ,gS]) (fun i g hg=>?_) (fun k hk=>(uJ.ro k hk).1) (fun b y h=>by cases h) (fun b y g h=>by cases h) (fun b y b' y' g h=>by cases h)).mono ?_
 ·rw[←sZ,nU,Option.map_eq_some_iff]at hg
  obtain⟨g',bf,rfl⟩:=hg;exact((ha i g' bf).restrict fun c hc x hx=>by rw[if_pos (hfit.args _ (List.mem_of_getElem? bf) c hc)];exact hx).cr hR EG U8
 rintro e w' (h|⟨v,zE,D2,rfl,fM,hP⟩)
 ·exact .inl h
 right
 have hm:∀ρ' k,¬Mf [] ρ' k:=fun _ k ⟨b,y,h,_⟩=>by cases h
 have hold:∀k,k<w.heap.size→w'.heap[k]?=w.heap[k]?:=fun k hk=>hP.old k hk (hm _ k)
 have hK:cj D w w':=fun k hd=>hold k (hD k hd)
 have sz:∀b y,gt b (bb++sto'.map fun x=>(x.1+m,x.2))=some y→(b<m∧gt b bb=some y)∨(m≤b∧gt (b-m) sto'=some y):=by
  intro b y hy;rw[EP,vU]at hy;by_cases h:b<m
  ·obtain⟨z,hz,_⟩:=hfit.live h
   rw[hz]at hy;exact .inl ⟨h,by rw[hz];exact hy⟩
  ·have:gt b bb=none:=by
    cases hz:gt b bb with
    |none=>rfl
    |some z=>exact absurd (EC _ _ hz) h
   rw[this,if_pos (by omega)]at hy
   exact .inr ⟨by omega,hy⟩
 have aj:∀b y g,gt b bb=some y→y.live=true→bI (ρ b)=some g→g<w.heap.size:=by
  intro b y g hy hl hg;refine hR.gu (b:=b) hy hl ?_;simp only[EC _ _ hy,if_true];exact hg
 refine⟨v,fun b=>if b<m then ρ b else zE (b-m),D,rfl,fM.fI (fun b x hx=>?_) hr,⟨hP.os,hP.tape,hP.output,hP.size,fun k hk _=>hold k hk,fun k hk=>⟨Nat.lt_of_lt_of_le (hD k hk) hP.size,.inl hk⟩,fun b y hy=>?_,fun b y g hy hl hg=>?_,fun b y b' y' g hy hl dq dm hg bf=>?_,fun b hb=>by simp[hb],fun b hb hn=>?_⟩⟩
 ·rw[if_neg (by omega),show b+m-m=b by omega];exact hx
 ·rcases sz b y hy with⟨h1,h2⟩|⟨h1,h2⟩
  ·rw[if_pos h1]
   refine((pJ b y h2).restrict (ρ':=fun b=>if b<m then ρ b else none) fun c hc x hx=>by rw[if_pos (hfit.bb _ (eN h2) c hc)];exact hx).keep (fun c x hx=>?_) hK (fun _ h=>h) ?_
   ·split at hx
    ·rename_i hc;rw[if_pos hc];exact hx
    ·cases hx
   ·by_cases hl:y.live=true
    ·exact .inr fun g hg=>hold g (aj b y g h2 hl hg)
    ·left
     cases y<;>simp[ak.live]at hl
     rfl
  ·rw[if_neg (by omega)]
   exact(hP.blk _ _ h2).fI (hs _ (eN h2))
 ·rcases sz b y hy with⟨h1,h2⟩|⟨h1,h2⟩
  ·rw[if_pos h1]at hg
   exact⟨og b y g h2 hl hg,.inl ⟨b,y,h2,hl,hg⟩⟩
  ·rw[if_neg (by omega)]at hg
   have:=(hP.own _ _ _ h2 hl hg).2
   rcases this with h|h
   ·exact absurd h (hm _ _)
   ·exact⟨fun hd=>by have:=hD g hd;omega,.inr h⟩
 ·rcases sz b y hy with⟨h1,h2⟩|⟨h1,h2⟩<;>rcases sz b' y' dq with⟨h3,h4⟩|⟨h3,h4⟩
  ·rw[if_pos h1]at hg
   rw[if_pos h3]at bf;exact Q3 b y b' y' g h2 hl h4 dm hg bf
  ·rw[if_pos h1]at hg
   rw[if_neg (by omega)]at bf
   have h5:=aj b y g h2 hl hg;rcases(hP.own _ _ _ h4 dm bf).2 with h|h
   ·exact absurd h (hm _ _)
   ·omega
  ·rw[if_neg (by omega)]at hg
   rw[if_pos h3]at bf;have h5:=aj b' y' g h4 dm bf;rcases(hP.own _ _ _ h2 hl hg).2 with h|h
   ·exact absurd h (hm _ _)
   ·omega
  ·rw[if_neg (by omega)]at hg bf
   have:=hP.sep _ _ _ _ _ h2 hl h4 dm hg bf
   omega
 ·rw[EP,vU,if_pos hb]at hn
  have:gt b bb=none:=by
   cases hz:gt b bb with
   |none=>rfl
   |some z=>exact absurd (EC _ _ hz) (by omega)
  rw[this]at hn;rw[if_neg (by omega)]
  exact hP.free _ (Nat.zero_le _) hn
theorem Fits.of {args:List GV}{m:Nat}{bb:List (Nat×ak)}(h1:zx m bb=true)(h2:∀x∈bb,x.1<m∧∀b∈x.2.names,b<m)(h3:∀b∈dt args,b<m):Fits args m bb:=
 ⟨h1,fun x hx=>(h2 x hx).1,fun g hg b hb=>h3 b (xL hg b hb),fun x hx=>(h2 x hx).2⟩
theorem aC.rd {C:CT}{r:Rg}{o:Oper}{os:List Oper}{gd:List (Nat ⊕ Nat)}{s:ae}{acc:List Pl}{K:ae→Prop}{c:Call}(ho:o.op= .call c)(hc:dP (.call c)=true){f:FuncId}{qp:List GV}{cM:List (Nat×Option ak)}(hf:s.qk r.P c.callee c.args.toList=some (f,qp,cM))(fO:∀x∈cM,s.get x.1=x.2)
  {gs:List GV} {b:Nat} (sz:qp= .s (.ptr b 0)::gs) {bx:List TV} (hb:s.get b=some (.box bx)) {XO:List TV} {res:GV} (hT:TC r.P r.E f (.s (.ptr 0 0)::gs) 1 [(0,.box bx)] res [(0,.box XO)]) (h0:dt gs=[]) (h1:(ak.box bx).names=[]) (ji:(ak.box XO).names=[]) (h2:res.names=[]) (aj:b<s.nx)
  (h:run C r os (s.step o.dst res [(b,.box XO)] s.nx) (if r.draw then ir o gd (cM++[(b,some (.box bx))]) [(b,.box XO)]::acc else[]) K):aC C r o os gd s acc K:=by
 have hg:=sz;have Yz:∀(f:Nat→Nat) (ts:List TV),(ak.box ts).names=[]→(ak.box ts).bB f= .box ts:=by
  intro f ts h;simp only[ak.names,List.flatMap_eq_nil_iff]at h;simp only[ak.bB];congr 1
  exact(List.map_congr_left fun t ht=>TV.iq f t (h t ht)).trans (List.map_id ts)
 refine aC.any ho hc hf fO [b] [] 0 hT ⟨?_,by simp,by simpa using aj,by simp,by simp,fun c hc=>?_,by simp[ak.live],by simp⟩ (by simp[h2]) (fun x hx c hc=>by simp only[List.mem_singleton]at hx;subst hx;rw[ji]at hc;cases hc) ?_
 ·rw[hg,nV]
  simp only[fH,GV.bB,TV.bB,φ,List.length_singleton,Nat.lt_add_one,if_true,List.getD_cons_zero];rw[oV _ h0]
 ·simp only[List.length_singleton,Nat.lt_one_iff]at hc
  subst hc;simp only[List.getD_cons_zero,gt,if_true,Option.map_some,hb,Yz _ _ h1,Option.isSome_some,and_self]
 ·rw[GV.iq _ _ h2]
  simp only[iS,fD,List.length_singleton,List.range_one,List.map_cons,List.map_nil,List.getD_cons_zero,gt,if_true,Yz _ _ ji,List.range_zero,List.append_nil,hb,Nat.add_zero];exact h
def uR (s:ae)(f:Nat→Nat)(sto0:List (Nat×ak)):Nat→List Nat→Prop
 |_,[]=>True
 |i,c::cs=>(s.get c=(gt i sto0).map (ak.bB f)∧(gt i sto0).isSome=true)∧uR s f sto0 (i+1) cs
attribute [simp] uR ak.live
theorem xd {s:ae}{f:Nat→Nat}{sto0:List (Nat×ak)}:∀{cs:List Nat} {i b:Nat},uR s f sto0 i cs→b<cs.length→s.get (cs.getD b 0)=(gt (i+b) sto0).map (ak.bB f)∧(gt (i+b) sto0).isSome=true
 |c::cs,i,0,h,_=>h.1
 |c::cs,i,b+1,h,hb=>by
  have:=xd (b:=b) h.2 (by simpa using hb)
  rw[show i+1+b=i+(b+1) by omega]at this
  simpa using this
theorem aC.Yy {C:CT}{r:Rg}{o:Oper}{os:List Oper}{gd:List (Nat ⊕ Nat)}{s:ae}{acc:List Pl}{K:ae→Prop}{c:Call}(ho:o.op= .call c)(hc:dP (.call c)=true){f:FuncId}{qp:List GV}{cM:List (Nat×Option ak)}(hf:s.qk r.P c.callee c.args.toList=some (f,qp,cM))(fO:∀x∈cM,s.get x.1=x.2)
  (frag:List Nat) (cnt:Nat) {bY:List GV} {sto0 sto':List (Nat×ak)} {res:GV} (hT:TC r.P r.E f bY frag.length sto0 res sto') (ha:qp=fH (φ frag s.nx) bY) (hn:frag.Nodup) (aj:∀b∈frag,b<s.nx)
  (hb:uR s (φ frag s.nx) sto0 0 frag) (hl:∀x∈sto0,x.1<frag.length∧x.2.live=true) (hs:∀x∈sto',x.1<frag.length+cnt∧∀b∈x.2.names,b<frag.length+cnt) (h1:∀b∈res.names,b<frag.length+cnt)
  (h:run C r os (s.step o.dst (res.bB (φ frag s.nx)) (iS s frag [] sto' cnt) (s.nx+cnt)) (if r.draw then ir o gd (cM++fD s frag [] cnt) (iS s frag [] sto' cnt)::acc else[]) K):aC C r o os gd s acc K:=
 aC.any ho hc hf fO frag [] cnt hT ⟨by rw[nV];exact ha,hn,aj,by simp,by simp,fun b h=>(by have:=xd (b:=b) hb h;rwa[Nat.zero_add]at this),hl,fun x hx=>(hs x hx).1⟩ h1 (fun x hx=>(hs x hx).2) h
end Go.Proofs.YtlhohdjniaebbaaGreat.T
namespace Go.Proofs.YtlhohdjniaebbaaGreat.Td
open Go Go.Proofs.YtlhohdjniaebbaaGreat.T
theorem mixed:Tw.prog.follows .mixedOrders=true:=by kernel_rfl
@[simp] theorem t3:aE Tw.prog 3=some ⟨1,8,[.int .i64 0],.sc⟩:=by kernel_rfl
@[simp] theorem b3:aJ Tw.prog 3=false:=by kernel_rfl
@[simp] theorem i3:pv Tw.prog 3=some .i64:=by kernel_rfl
@[simp] theorem t4:aE Tw.prog 4=some ⟨1,1,[.bool false],.sc⟩:=by kernel_rfl
@[simp] theorem b4:aJ Tw.prog 4=true:=by kernel_rfl
@[simp] theorem t5:aE Tw.prog 5=some ⟨1,1,[.int .u8 0],.sc⟩:=by kernel_rfl
@[simp] theorem b5:aJ Tw.prog 5=false:=by kernel_rfl
@[simp] theorem i5:pv Tw.prog 5=some .u8:=by kernel_rfl
@[simp] theorem t20:aE Tw.prog 20=some ⟨1,16,[.nilIface],.sc⟩:=by kernel_rfl
@[simp] theorem b20:aJ Tw.prog 20=false:=by kernel_rfl
@[simp] theorem t21:aE Tw.prog 21=some ⟨1,4,[.int .i32 0],.sc⟩:=by kernel_rfl
@[simp] theorem b21:aJ Tw.prog 21=false:=by kernel_rfl
@[simp] theorem i21:pv Tw.prog 21=some .i32:=by kernel_rfl
@[simp] theorem t22:aE Tw.prog 22=some ⟨1,24,[.slice none 0 0],.slice 46⟩:=by kernel_rfl
@[simp] theorem b22:aJ Tw.prog 22=false:=by kernel_rfl
@[simp] theorem t23:aE Tw.prog 23=some ⟨1,24,[.slice none 0 0],.slice 116⟩:=by kernel_rfl
@[simp] theorem b23:aJ Tw.prog 23=false:=by kernel_rfl
@[simp] theorem t24:aE Tw.prog 24=some ⟨1,24,[.slice none 0 0],.slice 120⟩:=by kernel_rfl
@[simp] theorem b24:aJ Tw.prog 24=false:=by kernel_rfl
@[simp] theorem t25:aE Tw.prog 25=some ⟨1,24,[.slice none 0 0],.slice 4⟩:=by kernel_rfl
@[simp] theorem b25:aJ Tw.prog 25=false:=by kernel_rfl
@[simp] theorem t26:aE Tw.prog 26=some ⟨1,24,[.slice none 0 0],.slice 135⟩:=by kernel_rfl
@[simp] theorem b26:aJ Tw.prog 26=false:=by kernel_rfl
@[simp] theorem t28:aE Tw.prog 28=some ⟨5,120,[.slice none 0 0,.slice none 0 0,.slice none 0 0,.slice none 0 0,.slice none 0 0],.struct [(0,22),(1,23),(2,24),(3,25),(4,26)]⟩:=by kernel_rfl
@[simp] theorem b28:aJ Tw.prog 28=false:=by kernel_rfl
@[simp] theorem t31:aE Tw.prog 31=some ⟨1,24,[.slice none 0 0],.slice 50⟩:=by kernel_rfl
@[simp] theorem b31:aJ Tw.prog 31=false:=by kernel_rfl
@[simp] theorem t32:aE Tw.prog 32=some ⟨1,24,[.slice none 0 0],.slice 66⟩:=by kernel_rfl
@[simp] theorem b32:aJ Tw.prog 32=false:=by kernel_rfl
@[simp] theorem t33:aE Tw.prog 33=some ⟨1,24,[.slice none 0 0],.slice 62⟩:=by kernel_rfl
@[simp] theorem b33:aJ Tw.prog 33=false:=by kernel_rfl
@[simp] theorem t35:aE Tw.prog 35=some ⟨5,120,[.slice none 0 0,.slice none 0 0,.slice none 0 0,.slice none 0 0,.slice none 0 0],.struct [(0,22),(1,31),(2,32),(3,25),(4,33)]⟩:=by kernel_rfl
@[simp] theorem b35:aJ Tw.prog 35=false:=by kernel_rfl
@[simp] theorem t43:aE Tw.prog 43=some ⟨1,24,[.slice none 0 0],.slice 5⟩:=by kernel_rfl
@[simp] theorem b43:aJ Tw.prog 43=false:=by kernel_rfl
@[simp] theorem t46:aE Tw.prog 46=some ⟨1,24,[.slice none 0 0],.slice 3⟩:=by kernel_rfl
@[simp] theorem b46:aJ Tw.prog 46=false:=by kernel_rfl
@[simp] theorem t48:aE Tw.prog 48=some ⟨1,24,[.slice none 0 0],.slice 75⟩:=by kernel_rfl
@[simp] theorem b48:aJ Tw.prog 48=false:=by kernel_rfl
@[simp] theorem t50:aE Tw.prog 50=some ⟨4,64,[.int .i64 0,.int .i64 0,.slice none 0 0,.slice none 0 0],.struct [(0,3),(1,3),(2,48),(3,48)]⟩:=by kernel_rfl
@[simp] theorem b50:aJ Tw.prog 50=false:=by kernel_rfl
@[simp] theorem t54:aE Tw.prog 54=some ⟨2,16,[.int .i64 0,.int .i64 0],.struct [(0,3),(1,3)]⟩:=by kernel_rfl
@[simp] theorem b54:aJ Tw.prog 54=false:=by kernel_rfl
@[simp] theorem q54:gA Tw.prog 54=some [true,true]:=by kernel_rfl
@[simp] theorem t60:aE Tw.prog 60=some ⟨2,16,[.int .i64 0,.int .i64 0],.struct [(0,3),(1,3)]⟩:=by kernel_rfl
@[simp] theorem b60:aJ Tw.prog 60=false:=by kernel_rfl
@[simp] theorem q60:gA Tw.prog 60=some [true,true]:=by kernel_rfl
@[simp] theorem t62:aE Tw.prog 62=some ⟨5,40,[.int .i64 0,.int .i64 0,.int .i64 0,.int .i64 0,.int .i64 0],.struct [(0,3),(1,3),(2,3),(3,60)]⟩:=by kernel_rfl
@[simp] theorem b62:aJ Tw.prog 62=false:=by kernel_rfl
@[simp] theorem q62:gA Tw.prog 62=some [true,true,true,true,true]:=by kernel_rfl
@[simp] theorem t64:aE Tw.prog 64=some ⟨1,24,[.slice none 0 0],.slice 60⟩:=by kernel_rfl
@[simp] theorem b64:aJ Tw.prog 64=false:=by kernel_rfl
@[simp] theorem t66:aE Tw.prog 66=some ⟨3,56,[.int .i64 0,.slice none 0 0,.slice none 0 0],.struct [(0,3),(1,46),(2,64)]⟩:=by kernel_rfl
@[simp] theorem b66:aJ Tw.prog 66=false:=by kernel_rfl
@[simp] theorem t75:aE Tw.prog 75=some ⟨4,32,[.int .i64 0,.int .i64 0,.int .i64 0,.bool false],.struct [(0,3),(1,60),(3,4)]⟩:=by kernel_rfl
@[simp] theorem b75:aJ Tw.prog 75=false:=by kernel_rfl
@[simp] theorem q75:gA Tw.prog 75=some [true,true,true,false]:=by kernel_rfl
@[simp] theorem t94:aE Tw.prog 94=some ⟨1,8,[.pointer none],.sc⟩:=by kernel_rfl
@[simp] theorem b94:aJ Tw.prog 94=false:=by kernel_rfl
@[simp] theorem t99:aE Tw.prog 99=some ⟨1,8,[.pointer none],.sc⟩:=by kernel_rfl
@[simp] theorem b99:aJ Tw.prog 99=false:=by kernel_rfl
@[simp] theorem t101:aE Tw.prog 101=some ⟨0,0,[],.struct []⟩:=by kernel_rfl
@[simp] theorem aca:aJ Tw.prog 101=false:=by kernel_rfl
@[simp] theorem acb:gA Tw.prog 101=some []:=by kernel_rfl
@[simp] theorem t102:aE Tw.prog 102=some ⟨1,4,[.int .u32 0],.sc⟩:=by kernel_rfl
@[simp] theorem acd:aJ Tw.prog 102=false:=by kernel_rfl
@[simp] theorem i102:pv Tw.prog 102=some .u32:=by kernel_rfl
@[simp] theorem t104:aE Tw.prog 104=some ⟨2,8,[.int .i32 0,.int .u32 0],.struct [(0,21),(1,102)]⟩:=by kernel_rfl
@[simp] theorem ace:aJ Tw.prog 104=false:=by kernel_rfl
@[simp] theorem acf:gA Tw.prog 104=some [true,true]:=by kernel_rfl
@[simp] theorem t106:aE Tw.prog 106=some ⟨2,8,[.int .i32 0,.int .u32 0],.struct [(0,101),(0,104)]⟩:=by kernel_rfl
@[simp] theorem acg:aJ Tw.prog 106=false:=by kernel_rfl
@[simp] theorem t108:aE Tw.prog 108=some ⟨7,128,[.int .i32 0,.int .u32 0,.slice none 0 0,.slice none 0 0,.slice none 0 0,.slice none 0 0,.slice none 0 0],.struct [(0,106),(2,35)]⟩:=by kernel_rfl
@[simp] theorem ach:aJ Tw.prog 108=false:=by kernel_rfl
@[simp] theorem t114:aE Tw.prog 114=some ⟨1,24,[.slice none 0 0],.slice 201⟩:=by kernel_rfl
@[simp] theorem aci:aJ Tw.prog 114=false:=by kernel_rfl
@[simp] theorem t116:aE Tw.prog 116=some ⟨4,64,[.int .i64 0,.int .i64 0,.slice none 0 0,.slice none 0 0],.struct [(0,3),(1,3),(2,114),(3,114)]⟩:=by kernel_rfl
@[simp] theorem acj:aJ Tw.prog 116=false:=by kernel_rfl
@[simp] theorem t118:aE Tw.prog 118=some ⟨1,24,[.slice none 0 0],.slice 133⟩:=by kernel_rfl
@[simp] theorem ack:aJ Tw.prog 118=false:=by kernel_rfl
@[simp] theorem t120:aE Tw.prog 120=some ⟨3,56,[.int .i64 0,.slice none 0 0,.slice none 0 0],.struct [(0,3),(1,46),(2,118)]⟩:=by kernel_rfl
@[simp] theorem acm:aJ Tw.prog 120=false:=by kernel_rfl
@[simp] theorem t133:aE Tw.prog 133=some ⟨2,16,[.int .i64 0,.int .i64 0],.struct [(0,3),(1,3)]⟩:=by kernel_rfl
@[simp] theorem acn:aJ Tw.prog 133=false:=by kernel_rfl
@[simp] theorem aco:gA Tw.prog 133=some [true,true]:=by kernel_rfl
@[simp] theorem t135:aE Tw.prog 135=some ⟨5,40,[.int .i64 0,.int .i64 0,.int .i64 0,.int .i64 0,.int .i64 0],.struct [(0,3),(1,3),(2,3),(3,133)]⟩:=by kernel_rfl
@[simp] theorem acp:aJ Tw.prog 135=false:=by kernel_rfl
@[simp] theorem acr:gA Tw.prog 135=some [true,true,true,true,true]:=by kernel_rfl
@[simp] theorem t140:aE Tw.prog 140=some ⟨1,24,[.slice none 0 0],.slice 3⟩:=by kernel_rfl
@[simp] theorem acs:aJ Tw.prog 140=false:=by kernel_rfl
@[simp] theorem t141:aE Tw.prog 141=some ⟨1,8,[.nilFunc],.sc⟩:=by kernel_rfl
@[simp] theorem acu:aJ Tw.prog 141=false:=by kernel_rfl
@[simp] theorem t146:aE Tw.prog 146=some ⟨2,32,[.slice none 0 0,.int .i64 0],.struct [(0,43),(1,3)]⟩:=by kernel_rfl
@[simp] theorem acv:aJ Tw.prog 146=false:=by kernel_rfl
@[simp] theorem t154:aE Tw.prog 154=some ⟨12,12,[.bool false,.bool false,.bool false,.bool false,.bool false,.bool false,.bool false,.bool false,.bool false,.bool false,.bool false,.bool false],.array 12 4⟩:=by kernel_rfl
@[simp] theorem acw:aJ Tw.prog 154=false:=by kernel_rfl
@[simp] theorem t166:aE Tw.prog 166=some ⟨1,24,[.slice none 0 0],.slice 170⟩:=by kernel_rfl
@[simp] theorem acx:aJ Tw.prog 166=false:=by kernel_rfl
@[simp] theorem t170:aE Tw.prog 170=some ⟨5,40,[.int .i64 0,.int .i64 0,.int .i64 0,.bool false,.bool false],.struct [(0,75),(4,4)]⟩:=by kernel_rfl
@[simp] theorem acy:aJ Tw.prog 170=false:=by kernel_rfl
@[simp] theorem acz:gA Tw.prog 170=some [true,true,true,false,false]:=by kernel_rfl
@[simp] theorem t172:aE Tw.prog 172=some ⟨2,48,[.slice none 0 0,.slice none 0 0],.struct [(0,140),(1,64)]⟩:=by kernel_rfl
@[simp] theorem acA:aJ Tw.prog 172=false:=by kernel_rfl
@[simp] theorem t189:aE Tw.prog 189=some ⟨1,8,[.pointer none],.sc⟩:=by kernel_rfl
@[simp] theorem acB:aJ Tw.prog 189=false:=by kernel_rfl
@[simp] theorem t193:aE Tw.prog 193=some ⟨1,16,[.nilIface],.sc⟩:=by kernel_rfl
@[simp] theorem acC:aJ Tw.prog 193=false:=by kernel_rfl
@[simp] theorem t201:aE Tw.prog 201=some ⟨4,32,[.int .i64 0,.int .i64 0,.int .i64 0,.bool false],.struct [(0,3),(1,133),(3,4)]⟩:=by kernel_rfl
@[simp] theorem acD:aJ Tw.prog 201=false:=by kernel_rfl
@[simp] theorem acE:gA Tw.prog 201=some [true,true,true,false]:=by kernel_rfl
@[simp] theorem t203:aE Tw.prog 203=some ⟨1,8,[.nilFunc],.sc⟩:=by kernel_rfl
@[simp] theorem acF:aJ Tw.prog 203=false:=by kernel_rfl
@[simp] theorem t205:aE Tw.prog 205=some ⟨2,48,[.slice none 0 0,.slice none 0 0],.array 2 48⟩:=by kernel_rfl
@[simp] theorem acG:aJ Tw.prog 205=false:=by kernel_rfl
@[simp] theorem t216:aE Tw.prog 216=some ⟨2,16,[.int .i64 0,.int .i64 0],.struct [(0,3),(1,3)]⟩:=by kernel_rfl
@[simp] theorem acH:aJ Tw.prog 216=false:=by kernel_rfl
@[simp] theorem acI:gA Tw.prog 216=some [true,true]:=by kernel_rfl
@[simp] theorem t218:aE Tw.prog 218=some ⟨3,24,[.int .i64 0,.int .i64 0,.int .i64 0],.struct [(0,3),(1,60)]⟩:=by kernel_rfl
@[simp] theorem acJ:aJ Tw.prog 218=false:=by kernel_rfl
@[simp] theorem acK:gA Tw.prog 218=some [true,true,true]:=by kernel_rfl
@[simp] theorem t220:aE Tw.prog 220=some ⟨4,32,[.int .i64 0,.int .i64 0,.int .i64 0,.int .i64 0],.struct [(0,3),(1,3),(2,60)]⟩:=by kernel_rfl
@[simp] theorem acL:aJ Tw.prog 220=false:=by kernel_rfl
@[simp] theorem acM:gA Tw.prog 220=some [true,true,true,true]:=by kernel_rfl
@[simp] theorem t225:aE Tw.prog 225=some ⟨0,0,[],.struct []⟩:=by kernel_rfl
@[simp] theorem acN:aJ Tw.prog 225=false:=by kernel_rfl
@[simp] theorem acO:gA Tw.prog 225=some []:=by kernel_rfl
@[simp] theorem t226:aE Tw.prog 226=some ⟨0,0,[],.struct []⟩:=by kernel_rfl
@[simp] theorem acP:aJ Tw.prog 226=false:=by kernel_rfl
@[simp] theorem acQ:gA Tw.prog 226=some []:=by kernel_rfl
@[simp] theorem t227:aE Tw.prog 227=some ⟨1,8,[.int .u64 0],.sc⟩:=by kernel_rfl
@[simp] theorem acR:aJ Tw.prog 227=false:=by kernel_rfl
@[simp] theorem i227:pv Tw.prog 227=some .u64:=by kernel_rfl
@[simp] theorem t229:aE Tw.prog 229=some ⟨1,8,[.int .u64 0],.struct [(0,225),(0,226),(0,227)]⟩:=by kernel_rfl
@[simp] theorem acS:aJ Tw.prog 229=false:=by kernel_rfl
@[simp] theorem t231:aE Tw.prog 231=some ⟨2,16,[.int .u64 0,.int .u32 0],.struct [(0,101),(0,229),(1,102)]⟩:=by kernel_rfl
@[simp] theorem acT:aJ Tw.prog 231=false:=by kernel_rfl
@[simp] theorem t249:aE Tw.prog 249=some ⟨1,24,[.slice none 0 0],.slice 75⟩:=by kernel_rfl
@[simp] theorem acU:aJ Tw.prog 249=false:=by kernel_rfl
@[simp] theorem t251:aE Tw.prog 251=some ⟨1,8,[.pointer none],.sc⟩:=by kernel_rfl
@[simp] theorem acV:aJ Tw.prog 251=false:=by kernel_rfl
@[simp] theorem t260:aE Tw.prog 260=some ⟨1,16,[.nilIface],.sc⟩:=by kernel_rfl
@[simp] theorem acW:aJ Tw.prog 260=false:=by kernel_rfl
@[simp] theorem aaC:iG Tw.prog 249 "Len"=some (265,none):=by kernel_rfl
@[simp] theorem aaj:iG Tw.prog 249 "Less"=some (266,none):=by kernel_rfl
@[simp] theorem aak:iG Tw.prog 249 "Swap"=some (267,none):=by kernel_rfl
@[simp] theorem aaD:iG Tw.prog 251 "Len"=some (265,some 249):=by kernel_rfl
@[simp] theorem aal:iG Tw.prog 251 "Less"=some (266,some 249):=by kernel_rfl
@[simp] theorem aaE:iG Tw.prog 251 "Pop"=some (268,none):=by kernel_rfl
@[simp] theorem aam:iG Tw.prog 251 "Push"=some (272,none):=by kernel_rfl
@[simp] theorem aan:iG Tw.prog 251 "Swap"=some (267,some 249):=by kernel_rfl
end Go.Proofs.YtlhohdjniaebbaaGreat.Td
namespace Go.Proofs.YtlhohdjniaebbaaGreat.T
open Go Go.RowKit
universe u
structure TWs (P:Program) (E:List PanicEntry→World→Prop) (nt m:Nat) (c:Code) (Q:Exit→ae→Prop) (s:ae):Prop where
 get:TW P E nt m c Q s
def WV (P:Program)(E:List PanicEntry→World→Prop)(nt m:Nat):Code→(Exit→ae→Prop)→ae→Prop
 | .skip,Q,s=>Q .normal s
 | .exit id,Q,s=>Q (.exit id) s
 | .ret,Q,s=>Q .ret s
 | .seq x y,Q,s=>WV P E nt m x (tQ (WV P E nt m y Q) Q) s
 | .block id c,Q,s=>WV P E nt m c (bQ id Q) s
 | .cond c x y,Q,s=>match(s.ev c).b? with
   |some b=>if b=true then WV P E nt m x Q s else WV P E nt m y Q s
   |none=>False
 | .region _ ops draw,Q,s=>qm s=true∧run (js ⟨P,E,nt,ops,draw⟩) ⟨P,E,nt,ops,draw⟩ ops.toList s [] (Q .normal)
 |c,Q,s=>TWs P E nt m c Q s
section
variable {P:Program}{E:List PanicEntry→World→Prop}{nt m:Nat}{c x y:Code}{Q:Exit→ae→Prop}{s s':ae}
theorem WV.sound (rU:P.follows .mixedOrders=true):∀{c:Code} {Q:Exit→ae→Prop} {s:ae},WV P E nt m c Q s→TW P E nt m c Q s
 | .skip,Q,s,h=> .skip h
 | .exit id,Q,s,h=> .exit h
 | .ret,Q,s,h=> .ret h
 | .seq x y,Q,s,h=> .seq ((WV.sound rU (c:=x) h).mono fun e s h=>by
   cases e with
   |normal=>exact WV.sound rU (c:=y) h
   |_=>exact h)
 | .block id c,Q,s,h=> .block (WV.sound rU (c:=c) h)
 | .cond c x y,Q,s,h=>by
   unfold WV at h;split at h
   ·rename_i b hb
    refine .cond hb (fun e=>?_) fun e=>?_
    ·rw[if_pos e]at h;exact WV.sound rU (c:=x) h
    ·rw[if_neg (by simp[e])]at h;exact WV.sound rU (c:=y) h
   ·exact h.elim
 | .region id ops draw,Q,s,h=> .region rU ⟨h.1,lY ⟨P,E,nt,ops,draw⟩ _ _ _ _ h.2⟩
 | .loop _,Q,s,h=>h.get
 | .rangeFunc ..,Q,s,h=>h.get
 | .scope _,Q,s,h=>h.get
 | .label _,Q,s,h=>h.get
 | .goto _,Q,s,h=>h.get
 | .refuse _,Q,s,h=>h.get
@[simp] theorem abA:WV P E nt m .skip Q s=Q .normal s:=rfl
@[simp] theorem abB {id:Nat}:WV P E nt m (.exit id) Q s=Q (.exit id) s:=rfl
@[simp] theorem abY:WV P E nt m .ret Q s=Q .ret s:=rfl
@[simp] theorem abZ:WV P E nt m (.seq x y) Q s=WV P E nt m x (tQ (WV P E nt m y Q) Q) s:=rfl
@[simp] theorem aaF {id:Nat}:WV P E nt m (.block id c) Q s=WV P E nt m c (bQ id Q) s:=rfl
@[simp] theorem abC:WV P E nt m (.loop c) Q s=TWs P E nt m (.loop c) Q s:=rfl
@[simp] theorem abD {o:Operand}:WV P E nt m (.cond o x y) Q s=match(s.ev o).b? with
  |some b=>if b=true then WV P E nt m x Q s else WV P E nt m y Q s
  |none=>False:=rfl
@[simp] theorem aao {id:Nat} {os:List Oper} {draw:Bool}:WV P E nt m (.region id (List.toArray os) draw) Q s=(qm s=true∧run (js ⟨P,E,nt,List.toArray os,draw⟩) ⟨P,E,nt,List.toArray os,draw⟩ os s [] (Q .normal)):=rfl
end
attribute [-simp] tQ bQ
def Tg {α:Sort u}(_:α):Type:=Unit
def tg {α:Sort u}(x:α):Tg x:=()
def abE (P:Program)(xs:List ResultVar)(m:Nat)(r:GV)(sto':List (Nat×ak))(_:Tg r)(_:Tg sto'):Exit→ae→Prop:=U5 P xs m r sto'
structure aa {α:Type} (m:Nat) (I:α→ae) (p:α→Prop) (μ:α→Nat) (x:α) (_:Tg I) (_:Tg p) (_:Tg μ) (_:Tg x) (s:ae):Prop where
 mk::
 get:∃y,p y∧μ y<μ x∧Wk m s (I y)
theorem tL {P:Program}{E:List PanicEntry→World→Prop}{nt m:Nat}{Q:Exit→ae→Prop}{s:ae}{α:Type}{c:Code}(I:α→ae)(p:α→Prop)(μ:α→Nat)(x:α)(hx:p x)(h0:Wk m s (I x))
  (round:∀x,p x→TW P E nt m c (tQ (aa m I p μ x (tg I) (tg p) (tg μ) (tg x)) Q) (I x)):TWs P E nt m (.loop c) Q s:=⟨TW.loop I p μ x hx h0 fun x hx=>(round x hx).mono fun e s h=>by
   cases e with
   |normal=>exact h.get
   |_=>exact h⟩
theorem TW.go {E:List PanicEntry→World→Prop}{nt m:Nat}{c:Code}{Q:Exit→ae→Prop}{s:ae}(h:WV Tw.prog E nt m c Q s):TW Tw.prog E nt m c Q s:=WV.sound Td.mixed h
theorem tE {E:List PanicEntry→World→Prop}{f:FuncId}(fn:Func){args:List GV}{m:Nat}{bb sto':List (Nat×ak)}{r:GV}{nt:Nat}{xs:List ResultVar}{c:Code}(hnt:fn.ntmps=nt)(lF:fn.results.toList=xs)
  (h:TW Tw.prog E nt m c (abE Tw.prog xs m r sto' (tg r) (tg sto')) ⟨kl 0 args,bb,m⟩) (hf:Tw.prog.funcs[f]?=some fn:=by kernel_rfl) (hb:fn.body=some c:=by rfl) (hnm:(fn.name== "runtime.NumGoroutine")=false:=by kernel_rfl) (hn:args.length≤nt:=by simp) (hfit:Fits args m bb:=by exact Fits.nil rfl):TC Tw.prog E f args m bb r sto':=
 TC.enter hf hb hnm hnt lF hn hfit h
section
variable {r:Rg}{o:Oper}{os:List Oper}{gd:List (Nat ⊕ Nat)}{s:ae}{acc:List Pl}{K:ae→Prop}{c:Call}{f:FuncId}{qp gs:List GV}{cM:List (Nat×Option ak)}{tt:Option (FuncId×List GV×List (Nat×Option ak))}
theorem js.of (hc:dP (.call c)=true)(ho:o.op= .call c)(h:aC (js r) r o os gd s acc K):js r o os gd s acc K:=by
 refine zS (by rw[ho];exact hc) h fun fr gv Δ nx h=>?_
 have Jp:∀(x:Pl),(if r.draw=true then x::acc else[]).reverse=if r.draw=true then acc.reverse++[x]else[]:=fun x=>by
  split<;>simp
 have:=lY r _ _ _ _ h
 simp only[Jp]at this;exact this
theorem cP (h:∃res,TC r.P r.E f qp 0 [] res []∧res.names=[]∧run (js r) r os (s.step o.dst res [] s.nx) (if r.draw then ir o gd cM []::acc else[]) K)
  (ho:o.op= .call c:=by rfl) (hc:dP (.call c)=true:=by rfl) (hf:s.qk r.P c.callee c.args.toList=tt:=by simp;rfl) (ht:tt=some (f,qp,cM):=by rfl) (fO:∀x∈cM,s.get x.1=x.2:=by simp) (h0:dt qp=[]:=by simp):js r o os gd s acc K:=
 .of hc ho (h.elim fun _ h=>aC.plain ho hc (hf.trans ht) fO h.1 h0 h.2.1 h.2.2)
theorem cF (peek:List Nat)(cnt:Nat)(h:∃res sto',TC r.P r.E f gs 0 [] res sto'∧(∀b∈res.names,b<cnt)∧(∀x∈sto',x.1<cnt∧∀b∈x.2.names,b<cnt)∧run (js r) r os (s.step o.dst (res.bB (φ [] s.nx)) (iS s [] peek sto' cnt) (s.nx+cnt)) (if r.draw then ir o gd (cM++fD s [] peek cnt) (iS s [] peek sto' cnt)::acc else[]) K)
  (ho:o.op= .call c:=by rfl) (hc:dP (.call c)=true:=by rfl) (hf:s.qk r.P c.callee c.args.toList=tt:=by simp;rfl) (ht:tt=some (f,qp,cM):=by rfl) (fO:∀x∈cM,s.get x.1=x.2:=by simp) (hg:fX s.get peek qp=gs:=by simp;rfl) (gw:∀b∈peek,rowOf (s.get b)=true:=by simp) (h0:dt gs=[]:=by simp):js r o os gd s acc K:=
 .of hc ho (h.elim fun _ h=>h.elim fun _ h=>aC.fresh ho hc (hf.trans ht) fO peek hg gw cnt h.1 h0 h.2.1 h.2.2.1 h.2.2.2)
theorem cL (frag:List Nat)(cnt:Nat)(h:∃bY sto0 sto' res,TC r.P r.E f bY frag.length sto0 res sto'∧qp=fH (φ frag s.nx) bY∧uR s (φ frag s.nx) sto0 0 frag∧(∀x∈sto0,x.1<frag.length∧x.2.live=true)∧(∀x∈sto',x.1<frag.length+cnt∧∀b∈x.2.names,b<frag.length+cnt)∧(∀b∈res.names,b<frag.length+cnt)∧run (js r) r os (s.step o.dst (res.bB (φ frag s.nx)) (iS s frag [] sto' cnt) (s.nx+cnt)) (if r.draw then ir o gd (cM++fD s frag [] cnt) (iS s frag [] sto' cnt)::acc else[]) K)
  (ho:o.op= .call c:=by rfl) (hc:dP (.call c)=true:=by rfl) (hf:s.qk r.P c.callee c.args.toList=tt:=by simp;rfl) (ht:tt=some (f,qp,cM):=by rfl) (fO:∀x∈cM,s.get x.1=x.2:=by simp) (hn:frag.Nodup:=by simp) (aj:∀b∈frag,b<s.nx:=by simp):js r o os gd s acc K:=
 .of hc ho (h.elim fun _ h=>h.elim fun _ h=>h.elim fun _ h=>h.elim fun _ h=>aC.Yy ho hc (hf.trans ht) fO frag cnt h.1 h.2.1 hn aj h.2.2.1 h.2.2.2.1 h.2.2.2.2.1 h.2.2.2.2.2.1 h.2.2.2.2.2.2)
end
theorem aI {A B:Prop}(b:B)(a:A:=by first|exact rfl|(show(_:Bool)=true;kernel_rfl)|(show(_:Bool)=true∧(_:Bool)=true;exact⟨by kernel_rfl,by kernel_rfl⟩)|omega|(simp;done)|(simp;omega)|exact Or.inl rfl):A∧B:=⟨a,b⟩
theorem oW {P:Program}{xs:List ResultVar}{m:Nat}{s:ae}{r:GV}{sto':List (Nat×ak)}(ns cs:List Nat){r0:GV}(h:s.res P xs=some r0:=by simp;rfl)(hv:r0.cr s.get cs=r.bB (fN m ns):=by simp)(hn:∀b∈r.names,b<m∨(gt b sto').isSome=true:=by simp)
  (hc:∀b∈cs,∃e k xs,s.get b=some (.rows e k xs):=by simp) (hs:∀x∈sto',fN m ns x.1∉cs∧(s.get (fN m ns x.1)).map (ak.cr s.get cs)=some (x.2.bB (fN m ns))∧∀b∈x.2.names,b<m∨(gt b sto').isSome=true:=by simp)
  (hi:∀x∈sto',∀y∈sto',fN m ns x.1=fN m ns y.1→x.1=y.1:=by simp):bo P xs m s r sto':= .own ns cs h hv hn hc hs hi
theorem kO {m:Nat}{s s':ae}(ns cs:List Nat)(hc:∀b∈cs,∃e k xs,s.get b=some (.rows e k xs):=by simp)(he:∀x∈s'.env,(lk x.1 s.env).cr s.get cs=x.2.bB (fN m ns)∧∀b∈x.2.names,b<s'.nx:=by simp)
  (hs:∀x∈s'.bb,x.1<s'.nx∧fN m ns x.1∉cs∧(s.get (fN m ns x.1)).map (ak.cr s.get cs)=some (x.2.bB (fN m ns))∧∀b∈x.2.names,b<s'.nx:=by simp) (hi:∀x∈s'.bb,∀y∈s'.bb,fN m ns x.1=fN m ns y.1→x.1=y.1:=by simp) (hm:m≤s'.nx:=by simp):Wk m s s':= .own ns cs hc he hs hi hm
theorem kS {m:Nat}{s s':ae}(h1:∀x∈s'.env,lk x.1 s.env=x.2∧x.2.names.all (fun b=>decide (b<s'.nx))=true:=by simp)(h2:∀x∈s'.bb,s.get x.1=some x.2∧x.1<s'.nx∧x.2.names.all (fun b=>decide (b<s'.nx))=true:=by simp)(h3:m≤s'.nx:=by simp):Wk m s s':= .same h1 h2 h3
end Go.Proofs.YtlhohdjniaebbaaGreat.T
namespace Go.Proofs.YtlhohdjniaebbaaGreat
open Go.RowKit
theorem nv (a:Addr)(n:Nat):(a.add n).block=a.block:=by unfold Addr.add;split<;>rfl
theorem xe (a:Addr)(i j:Nat):(a.add i).add j=a.add (i+j):=by
 unfold Addr.add;by_cases hi:i=0<;>by_cases hj:j=0<;>simp[hi,hj,Nat.add_assoc]
def Reads (w:World)(B size:Nat)(A:Option Addr)(n:Nat)(xs:List Value):Prop:=
 xs.length=n*size∧(0<n→∃ad,A=some ad∧ad.block<B∧∀j u,xs[j]?=some u→w.cell? (ad.add j)=some u)
section
variable {w w':World}{B B' size n:Nat}{A:Option Addr}{xs:List Value}
theorem Reads.at_ {k:Nat}(h:Reads w B 1 A n xs)(hk:k<n):∃ad u,A=some ad∧ad.block<B∧xs[k]?=some u∧w.cell? (ad.add k)=some u:=by
 obtain⟨ad,e,hb,hc⟩:=h.2 (by omega)
 have hl:k<xs.length:=by have:=h.1;omega
 exact⟨ad,xs[k],e,hb,List.getElem?_eq_getElem hl,hc k _ (List.getElem?_eq_getElem hl)⟩
theorem Reads.keep (h:Reads w B size A n xs)(hk:∀p:Addr,p.block<B→w'.cell? p=w.cell? p):Reads w' B size A n xs:=
 ⟨h.1,fun hn=>by
   obtain⟨ad,e,hb,hc⟩:=h.2 hn;exact⟨ad,e,hb,fun j u hu=>(hk _ (by rw[nv];exact hb)).trans (hc j u hu)⟩⟩
theorem Reads.more (h:Reads w B size A n xs)(hB:B≤B'):Reads w B' size A n xs:=
 ⟨h.1,fun hn=>by
   obtain⟨ad,e,hb,hc⟩:=h.2 hn;exact⟨ad,e,by omega,hc⟩⟩
theorem Reads.below (h:Reads w B size A n xs)(hb:Below B w w'):Reads w' B size A n xs:=h.keep fun _ hp=>hb.cell hp
theorem Reads.drew (h:Reads w B size A n xs):Reads w.drew B size A n xs:=h
theorem Reads.drewN (h:Reads w B size A n xs)(k:Nat):Reads (w.drewN k) B size A n xs:=h
theorem Reads.alloc (h:Reads w B size A n xs)(hB:B≤w.heap.size)(o:Obj):Reads (w.alloc o) B size A n xs:=h.keep fun p hp=>World.cell?_alloc_lt w o p (by omega)
theorem Reads.setCell (h:Reads w B size A n xs){p:Addr}(hB:B≤p.block)(u:Value):Reads (w.setCell p u) B size A n xs:=
 h.keep fun q hq=>World.cell?_setCell_other w p q u (fun e=>by subst e;omega)
theorem Reads.grown (h:Reads w B size A n xs){row:Option Nat}(hg:w.grownBy w' row)(hB:B≤w.heap.size)(hr:∀g,row=some g→B≤g):Reads w' B size A n xs:=
 h.keep fun p hp=>World.cell?_of_block (hg.block p.block (by omega) (fun e=>by have:=hr _ e.symm;omega))
theorem Reads.cut (h:Reads w B size A n xs){k cap:Nat}(hk:k≤n)(hc:n≤cap):
  Reads w B size (if cap=k then A else A.map (·.add (k*size))) (n-k) (xs.drop (k*size)):=by
 refine⟨by rw[List.length_drop,h.1,Nat.sub_mul],fun hn=>?_⟩
 obtain⟨ad,rfl,hb,eT⟩:=h.2 (by omega)
 rw[if_neg (by omega)]
 refine⟨ad.add (k*size),rfl,by rw[nv];exact hb,fun j u hu=>?_⟩
 rw[xe];exact eT _ u (by rw[←hu,List.getElem?_drop])
end
def ak (w:World)(g:Nat)(t:TypeId)(cs:Array Value):Prop:=w.heap[g]?=some (.cells cs t (0,0))
section
variable {w w':World}{g:Nat}{t:TypeId}{cs:Array Value}
theorem ak.lt (h:ak w g t cs):g<w.heap.size:=by
 rcases Nat.lt_or_ge g w.heap.size with aj|AN
 ·exact aj
 ·unfold ak at h;rw[Array.getElem?_eq_none AN]at h;cases h
theorem ak.cell (h:ak w g t cs)(i:Nat):w.cell? ⟨g,i,none⟩=cs[i]?:=cell_of_row w g i cs t (0,0) h
theorem ak.frozen (h:ak w g t cs)(i:Nat):w.frozen? ⟨g,i,none⟩=false:=by
 unfold ak at h;simp[World.frozen?,h]
theorem ak.new (w:World)(t:TypeId)(cs:Array Value):ak (w.alloc (.cells cs t)) w.heap.size t cs:=heap_alloc_new w _
theorem ak.drew (h:ak w g t cs):ak w.drew g t cs:=h
theorem ak.drewN (h:ak w g t cs)(n:Nat):ak (w.drewN n) g t cs:=h
theorem ak.alloc (h:ak w g t cs)(o:Obj):ak (w.alloc o) g t cs:=(Below.heap_alloc w o g h.lt).trans h
theorem ak.Jr (h:ak w g t cs)(i:Nat)(u:Value):ak (w.setCell ⟨g,i,none⟩ u) g t (cs.setIfInBounds i u):=by
 unfold ak at h⊢;simp[World.setCell,Array.getElem?_modify,h]
theorem ak.Bw (h:ak w g t cs){p:Addr}(hp:g≠p.block)(u:Value):ak (w.setCell p u) g t cs:=(Below.heap_setCell w p u g hp).trans h
theorem ak.below {B:Nat}(h:ak w g t cs)(hb:Below B w w')(hg:g<B):ak w' g t cs:=(hb.block g hg).trans h
theorem ak.grown {row:Option Nat}(h:ak w g t cs)(hb:w.grownBy w' row)(hg:some g≠row):ak w' g t cs:=(hb.block g h.lt hg).trans h
end
section
variable {P:Program}(w:World)
end
theorem ak.YA (w:World)(t:TypeId)(cs:Array Value){g:Nat}(hg:g=w.heap.size):ak (w.alloc (.cells cs t)) g t cs:=by subst hg;exact ak.new w t cs
end Go.Proofs.YtlhohdjniaebbaaGreat
