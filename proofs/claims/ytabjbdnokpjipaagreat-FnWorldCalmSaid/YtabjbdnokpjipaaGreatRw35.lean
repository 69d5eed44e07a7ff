/-
What is proved: which rewrite rules a walk over trees uses and what rests on it. Conditions: as stated.
-/
import Derived.Test.YtabjbdnokpjipaaGreatRw34
import Derived.Test.YtabjbdnokpjipaaGreatRw33
import Derived.Test.YtabjbdnokpjipaaGreatRw01
import Derived.KernelRfl
import Derived.Below
import Derived.Laws.OwnMore
import Derived.Deep.AppendLies
import Derived.Deep.Draws
import Derived.Laws.Rows
import Derived.Maps.AppendAt
import Derived.RegionTactic
import Derived.OwnWalk
import Derived.Lib.Hide
set_option linter.unusedVariables false
set_option linter.unusedSimpArgs false
namespace Go.Proofs.YtabjbdnokpjipaaGreat.T
open Go Go.RowKit
attribute [simp] run R0 d_ YZ IF yn QP IG ym YY IE rK ug ah.step ah.tq Aw GV.undef? ah.ev lk gt ah.get GV.b? GV.i? GV.agg? GV.tup? GV.cells? ah.qy GV.ifc? ah.view ah.deref ah.Am ah.pU ah.uR pw rq mk rs gI gB RK C5 oI Nj RJ arI ua
 BI jY t_ bO vP uf Value.oneCell' TK.agg TK.FT placeOf rv oF dC rC kH yd FV Bh tQ bQ mD ah.res ah.FX ah.RU TV.cX GV.cX il az.cX TV.bI GV.bI ik az.bI TV.names GV.names dY az.names
 TV.flat GV.flat C6 rowOf gr jL φ
theorem Fits.nil {args:List GV}(h:dY args=[]):Fits args 0 []:=
 ⟨rfl,fun x hx=>(by cases hx),fun g hg b hb=>(by have:=Bi hg b hb;rw[h]at this;cases this),fun x hx=>by cases hx⟩
theorem aT.nil {P:Program}{xs:List ResultVar}{s:ah}{r:GV}(h:s.res P xs=some r)(hn:r.names=[]):aT P xs 0 s r []:=
 ⟨id,[],r,h,by rw[GV.mT,GV.js _ _ hn],fun b hb=>(by rw[hn]at hb;cases hb),fun b hb=>(by cases hb),fun x hx=>(by cases hx),fun x hx=>(by cases hx),fun b hb=>by omega⟩
section
variable {P:Program}{E:List PanicEntry→World→Prop}{nt m:Nat}{c:Code}{Q:Exit→ah→Prop}{s:ah}
theorem TW.len (t:Nat){k:Nat}{xs:List (List RT)}(ht:lk t s.env= .s (.r (.sl k xs)))(h:xs.length≤maxLen→TW P E nt m c Q s):TW P E nt m c Q s:=by
 intro C a w hn hm hR;obtain⟨ρ,D,hr⟩:=hR;have h1:=hr.env t;simp only[iI]at h1;rw[ht]at h1;generalize a.tmps.getD t undef=v at h1
 cases h1 with|s h1=>cases h1 with|r h1=>
 obtain⟨A,c',_,h2,h3,_⟩:=h1.slice;exact h (Nat.le_trans h2 h3) C a w hn hm ⟨ρ,D,hr⟩
end
theorem Wk.same {m:Nat}{s s':ah}(h1:∀x∈s'.env,lk x.1 s.env=x.2∧x.2.names.all (fun b=>decide (b<s'.nx))=true)(h2:∀x∈s'.bp,s.get x.1=some x.2∧x.1<s'.nx∧x.2.names.all (fun b=>decide (b<s'.nx))=true)(h3:m≤s'.nx):Wk m s s':=by
 have hT:∀t:TV,t.bI id=t:=fun t=>by cases t<;>rfl
 have hTL:∀ts:List TV,ts.map (TV.bI id)=ts:=fun ts=>(List.map_congr_left fun t _=>hT t).trans (List.map_id ts)
 have hTF:∀(get:Nat→Option az) (ts:List TV),ts.map (TV.cX get [])=ts:=fun get ts=>(List.map_congr_left fun t _=>TV.mT get t).trans (List.map_id ts)
 refine⟨id,[],⟨fun b hb=>(by cases hb),fun x hx=> .inr ⟨?_,?_⟩,fun x hx=>⟨(h2 x hx).2.1,(by simp),?_,?_⟩,fun x _ y _ h=>h,h3,fun b _=>rfl⟩⟩
 ·rw[GV.mT,(h1 x hx).1,GV.uT]
 ·have:=(h1 x hx).2
  rw[List.all_eq_true]at this;exact fun b hb=>by simpa using this b hb
 ·simp only[id,(h2 x hx).1,Option.map_some,Option.some.injEq]
  cases x.2<;>simp[az.cX,az.bI,hTL,hTF]
 ·have:=(h2 x hx).2.2
  rw[List.all_eq_true]at this;exact fun b hb=>by simpa using this b hb
end Go.Proofs.YtabjbdnokpjipaaGreat.T
namespace Go.Proofs.YtabjbdnokpjipaaGreat.T
open Go Go.RowKit
def TV.le (x y:TV):Prop:=x=y∨(x= .r .nil∧∃k,y= .r (.sl k []))
def Vj:List TV→List TV→Prop
 |[],[]=>True
 |x::xs,y::ys=>x.le y∧Vj xs ys
 |_,_=>False
def GV.le:GV→GV→Prop
 | .s x,.s y=>x.le y
 | .a xs,.a ys=>Vj xs ys
 |g,g'=>g=g'
def az.le:az→az→Prop
 | .box xs,.box ys=>Vj xs ys
 |y,y'=>y=y'
def leE:List (Nat×GV)→List (Nat×GV)→Prop
 |[],[]=>True
 |x::xs,y::ys=>x.1=y.1∧x.2.le y.2∧leE xs ys
 |_,_=>False
def leS:List (Nat×az)→List (Nat×az)→Prop
 |[],[]=>True
 |x::xs,y::ys=>x.1=y.1∧x.2.le y.2∧leS xs ys
 |_,_=>False
def leA:List GV→List GV→Prop
 |[],[]=>True
 |x::xs,y::ys=>x.le y∧leA xs ys
 |_,_=>False
theorem TV.le_refl (x:TV):x.le x:= .inl rfl
theorem TV.le_nil (k:Nat):(TV.r .nil).le (.r (.sl k [])):= .inr ⟨rfl,k,rfl⟩
theorem uX:∀xs:List TV,Vj xs xs
 |[]=>trivial
 |x::xs=>⟨x.le_refl,uX xs⟩
theorem GV.le_refl (g:GV):g.le g:=by
 cases g
 case s x=>exact x.le_refl
 case a xs=>exact uX xs
 all_goals rfl
theorem az.le_refl (y:az):y.le y:=by
 cases y
 case box xs=>exact uX xs
 all_goals rfl
theorem Dg:∀{xs ys:List TV},Vj xs ys→xs.length=ys.length∧∀(i:Nat) (y:TV),ys[i]?=some y→∃x,xs[i]?=some x∧x.le y
 |[],[],_=>⟨rfl,fun i y h=>by simp at h⟩
 |x::xs,y::ys,h=>by
  obtain⟨h1,h2⟩:=Dg h.2;refine⟨by simp[h1],fun i z hz=>?_⟩
  cases i with
  |zero=>cases hz;exact⟨x,rfl,h.1⟩
  |succ i=>exact h2 i z hz
 |[],_::_,h=>h.elim
 |_::_,[],h=>h.elim
theorem cG.le {ρ:Nat→Option Value}{w:World}{D:Nat→Prop}{v:Value}{x y:TV}(h:x.le y)(hr:cG ρ w D v x):cG ρ w D v y:=by
 rcases h with rfl|⟨rfl,k,rfl⟩
 ·exact hr
 ·cases hr with|r hr=>cases hr with|nil=>exact .r (.EM (Nat.zero_le _))
theorem bA.le {ρ:Nat→Option Value}{w:World}{D:Nat→Prop}{v:Value}{x y:GV}(h:x.le y)(hr:bA ρ w D v x):bA ρ w D v y:=by
 unfold GV.le at h;split at h
 ·cases hr with|s hr=>exact .s (hr.le h)
 ·cases hr with
  |a hn hr=>
   obtain⟨h1,h2⟩:=Dg h;refine .a (hn.trans h1) fun i t ht=>?_;obtain⟨x,hx,hl⟩:=h2 i t ht;exact(hr i x hx).le hl
 ·subst h;exact hr
theorem ew.le {ρ:Nat→Option Value}{w:World}{D:Nat→Prop}{v:Option Value}{x y:az}(h:x.le y)(hr:ew ρ w D v x):ew ρ w D v y:=by
 unfold az.le at h;split at h
 ·obtain⟨g,arr,ty,e1,e2,e3,e4⟩:=hr
  obtain⟨h1,h2⟩:=Dg h;refine⟨g,arr,ty,e1,e2,e3.trans h1,fun i t ht=>?_⟩
  obtain⟨x,hx,hl⟩:=h2 i t ht;exact(e4 i x hx).le hl
 ·subst h;exact hr
theorem az.Dh {x y:az}(h:x.le y):x.live=y.live:=by
 unfold az.le at h;split at h
 ·rfl
 ·subst h;rfl
theorem R1 (t:Nat):∀{e e':List (Nat×GV)},leE e e'→(lk t e).le (lk t e')
 |[],[],_=>rfl
 |x::xs,y::ys,h=>by
  obtain⟨h1,h2,h3⟩:=h;obtain⟨u,g⟩:=x;obtain⟨u',g'⟩:=y
  cases h1;simp only[lk];split
  ·exact h2
  ·exact R1 t h3
 |[],_::_,h=>h.elim
 |_::_,[],h=>h.elim
theorem R2 (b:Nat):∀{e e':List (Nat×az)},leS e e'→(gt b e=none∧gt b e'=none)∨∃y y',gt b e=some y∧gt b e'=some y'∧y.le y'
 |[],[],_=> .inl ⟨rfl,rfl⟩
 |x::xs,y::ys,h=>by
  obtain⟨h1,h2,h3⟩:=h;obtain⟨u,g⟩:=x;obtain⟨u',g'⟩:=y
  cases h1;simp only[gt];split
  ·exact .inr ⟨_,_,rfl,rfl,h2⟩
  ·exact R2 b h3
 |[],_::_,h=>h.elim
 |_::_,[],h=>h.elim
theorem Nt:∀{xs ys:List GV},leA xs ys→xs.length=ys.length∧∀(i:Nat) (y:GV),ys[i]?=some y→∃x,xs[i]?=some x∧x.le y
 |[],[],_=>⟨rfl,fun i y h=>by simp at h⟩
 |x::xs,y::ys,h=>by
  obtain⟨h1,h2⟩:=Nt h.2;refine⟨by simp[h1],fun i z hz=>?_⟩
  cases i with
  |zero=>cases hz;exact⟨x,rfl,h.1⟩
  |succ i=>exact h2 i z hz
 |[],_::_,h=>h.elim
 |_::_,[],h=>h.elim
section
variable {P:Program}{E:List PanicEntry→World→Prop}{nt m:Nat}{Q:Exit→ah→Prop}{s:ah}
theorem TW.le {c:Code}(env:List (Nat×GV))(bp:List (Nat×az))(he:leE s.env env)(hs:leS s.bp bp)(hw:TW P E nt m c Q ⟨env,bp,s.nx⟩):TW P E nt m c Q s:=by
 intro C a w hn hm hR;refine hw C a w hn hm ?_;obtain⟨ρ,D,h⟩:=hR;have hg:∀b,(s.get b=none∧ah.get ⟨env,bp,s.nx⟩ b=none)∨∃y y',s.get b=some y∧ah.get ⟨env,bp,s.nx⟩ b=some y'∧y.le y':=by
  intro b;unfold ah.get;rcases R2 b hs with⟨h1,h2⟩|⟨y,y',h1,h2,h3⟩
  ·rw[h1,h2]
   simp only
   split
   ·exact .inr ⟨_,_,rfl,rfl,rfl⟩
   ·exact .inl ⟨rfl,rfl⟩
  ·rw[h1,h2]
   exact .inr ⟨_,_,rfl,rfl,h3⟩
 have hb:∀b y',ah.get ⟨env,bp,s.nx⟩ b=some y'→∃y,s.get b=some y∧y.le y':=by
  intro b y' hy;rcases hg b with⟨h1,h2⟩|⟨y,y2,h1,h2,h3⟩
  ·rw[h2]at hy;cases hy
  ·rw[h2]at hy;cases hy;exact⟨y,h1,h3⟩
 refine⟨ρ,D,⟨h.os,h.tape,h.output,h.size,h.old,h.ro,fun b cT=>?_,fun b y' hy=>?_,fun b y' g hy hl=>?_,fun b y b' y' g hy hl eL bz=>?_,fun t=>(h.env t).le (R1 t he),h.defers,h.nt,h.ext⟩⟩
 ·rcases hg b with⟨h1,h2⟩|⟨y,y2,h1,h2,h3⟩
  ·exact h.free b h1
  ·rw[h2]at cT;cases cT
 ·obtain⟨y,h1,h2⟩:=hb b y' hy
  exact(h.blk b y h1).le h2
 ·obtain⟨y,h1,h2⟩:=hb b y' hy
  exact h.own b y g h1 (by rw[az.Dh h2];exact hl)
 ·obtain⟨z,h1,h2⟩:=hb b y hy
  obtain⟨z',jg,ot⟩:=hb b' y' eL;exact h.sep b z b' z' g h1 (by rw[az.Dh h2];exact hl) jg (by rw[az.Dh ot];exact bz)
theorem TC.le {f:FuncId}{args args':List GV}{bp sto':List (Nat×az)}{r:GV}(h:leA args args')(hT:TC P E f args' m bp r sto'):TC P E f args m bp r sto':=by
 obtain⟨h1,h2⟩:=Nt h;refine⟨hT.1,fun w bR ρ D hn hr=>hT.2 w bR ρ D (hn.trans h1) fun i g hg=>?_⟩
 obtain⟨x,hx,hl⟩:=h2 i g hg;exact(hr i x hx).le hl
end
attribute [simp] leE leS leA Vj GV.le az.le TV.le_refl TV.le_nil uX GV.le_refl az.le_refl
def fN (m:Nat)(ns:List Nat)(b:Nat):Nat:=if b<m then b else ns.getD (b-m) 0
attribute [simp] fN TV.cX GV.cX il az.cX TV.bI GV.bI ik az.bI TV.names GV.names dY az.names
theorem aT.own {P:Program}{xs:List ResultVar}{m:Nat}{s:ah}{r:GV}{sto':List (Nat×az)}(ns cs:List Nat){r0:GV}(h:s.res P xs=some r0)(hv:r0.cX s.get cs=r.bI (fN m ns))(hn:∀b∈r.names,b<m∨(gt b sto').isSome=true)
  (hc:∀b∈cs,∃e k xs,s.get b=some (.rows e k xs)) (hs:∀x∈sto',fN m ns x.1∉cs∧(s.get (fN m ns x.1)).map (az.cX s.get cs)=some (x.2.bI (fN m ns))∧∀b∈x.2.names,b<m∨(gt b sto').isSome=true)
  (hi:∀x∈sto',∀y∈sto',fN m ns x.1=fN m ns y.1→x.1=y.1):aT P xs m s r sto':=
 ⟨fN m ns,cs,r0,h,hv,hn,hc,hs,hi,fun b hb=>by simp[fN,hb]⟩
theorem rL (f:Nat→Nat):∀{gs:List GV},dY gs=[]→ik f gs=gs
 |[],_=>rfl
 |g::gs,h=>by
  simp only[dY,List.append_eq_nil_iff]at h;simp only[ik,GV.js f _ h.1,rL f h.2]
attribute [simp] List.range_succ List.range_zero rowOf
theorem aC.fresh {C:CT}{r:Rg}{o:Oper}{os:List Oper}{gd:List (Nat ⊕ Nat)}{s:ah}{acc:List Pl}{K:ah→Prop}{c:Call}(ho:o.op= .call c)(hc:d_ (.call c)=true){f:FuncId}{oL:List GV}{cW:List (Nat×Option az)}(hf:s.qy r.P c.callee c.args.toList=some (f,oL,cW))(fO:∀x∈cW,s.get x.1=x.2)
  (peek:List Nat) {gs:List GV} (hg:il s.get peek oL=gs) (iH:∀b∈peek,rowOf (s.get b)=true) (cnt:Nat) {res:GV} {sto':List (Nat×az)} (hT:TC r.P r.E f gs 0 [] res sto') (h0:dY gs=[]) (h1:∀b∈res.names,b<cnt) (h2:∀x∈sto',x.1<cnt∧∀b∈x.2.names,b<cnt)
  (h:run C r os (s.step o.dst (res.bI (φ [] s.nx)) (jL s [] peek sto' cnt) (s.nx+cnt)) (if r.draw then jd o gd (cW++gr s [] peek cnt) (jL s [] peek sto' cnt)::acc else[]) K):aC C r o os gd s acc K:=
 aC.any ho hc hf fO [] peek cnt hT ⟨by rw[hg,rL _ h0],List.nodup_nil,fun b hb=>(by cases hb),fun b _ hb=>(by cases hb),iH,fun b hb=>(by simp at hb),fun x hx=>(by cases hx),fun x hx=>by simpa using(h2 x hx).1⟩ (by simpa using h1) (fun x hx b hb=>by simpa using(h2 x hx).2 b hb) h
theorem Wk.own {m:Nat}{s s':ah}(ns cs:List Nat)(hc:∀b∈cs,∃e k xs,s.get b=some (.rows e k xs))(he:∀x∈s'.env,(lk x.1 s.env).cX s.get cs=x.2.bI (fN m ns)∧∀b∈x.2.names,b<s'.nx)
  (hs:∀x∈s'.bp,x.1<s'.nx∧fN m ns x.1∉cs∧(s.get (fN m ns x.1)).map (az.cX s.get cs)=some (x.2.bI (fN m ns))∧∀b∈x.2.names,b<s'.nx) (hi:∀x∈s'.bp,∀y∈s'.bp,fN m ns x.1=fN m ns y.1→x.1=y.1) (hm:m≤s'.nx):Wk m s s':=
 ⟨fN m ns,cs,hc,fun x hx=> .inr (he x hx),hs,hi,hm,fun b hb=>by simp[fN,hb]⟩
theorem fl {α β:Type}{f:α→β}{xs:List α}{k:Nat}{x:α}(h:xs[k]?=some x):List.take (k+1) (List.map f xs)=List.take k (List.map f xs)++[f x]:=by
 rw[List.take_add_one,List.getElem?_map,h];rfl
@[simp] theorem ZM {α β:Type} (f:α→β) (xs:List α):List.take xs.length (List.map f xs)=List.map f xs:=List.take_of_length_le (by simp)
@[simp] theorem ady (n:Nat):(0:Int)≤(n:Int)+1:=by omega
@[simp] theorem adz (n:Nat):¬((n:Int)<0):=by omega
end Go.Proofs.YtabjbdnokpjipaaGreat.T
namespace Go.Proofs.YtabjbdnokpjipaaGreat.T
open Go Go.RowKit
def TV.iL:TV→Bool
 | .r (.v _)=>true
 | .own _=>true
 |_=>false
mutual
def GV.iL:GV→Bool
 | .s t=>t.iL
 | .a ts=>ts.all TV.iL
 | .p gs=>II gs
 | .fD _ g=>g.iL
 |_=>false
def II:List GV→Bool
 |[]=>true
 |g::gs=>g.iL&&II gs
end
def RT.flat:RT→Bool
 | .v _=>true
 |_=>false
def az.iL:az→Bool
 | .rows _ _ xs=>xs.all fun y=>y.all RT.flat
 |_=>false
section
variable {ρ ρ':Nat→Option Value}{w w':World}{D D':Nat→Prop}
theorem cG.iL {v:Value}{t:TV}(h:cG ρ w D v t)(hf:t.iL=true){f:Nat→Nat}(eK:∀b x,ρ b=some x→ρ' (f b)=some x):cG ρ' w' D' v (t.bI f):=by
 unfold TV.iL at hf;split at hf
 ·cases h with|r h=>cases h with|v h=>exact .r (.v h)
 ·cases h with|own h=>exact .own (eK _ _ h)
 ·cases hf
theorem Di {g:GV}:∀{gs:List GV},II gs=true→g∈gs→g.iL=true
 |x::gs,h,hm=>by
  simp only[II,Bool.and_eq_true]at h;rcases List.mem_cons.1 hm with rfl|hm
  ·exact h.1
  ·exact Di h.2 hm
theorem bA.iL {v:Value}{g:GV}(h:bA ρ w D v g){f:Nat→Nat}(eK:∀b x,ρ b=some x→ρ' (f b)=some x):g.iL=true→bA ρ' w' D' v (g.bI f):=by
 induction h with
 |s h=>exact fun hf=> .s (h.iL hf eK)
 |a hn h=>
  intro hf;simp only[GV.iL,List.all_eq_true]at hf;simp only[GV.bI];refine .a (by simpa using hn) fun i t ht=>?_
  rw[List.getElem?_map,Option.map_eq_some_iff]at ht;obtain⟨t',Bj,rfl⟩:=ht;exact(h i t' Bj).iL (hf t' (List.mem_of_getElem? Bj)) eK
 |p hn _ ih=>
  intro hf;simp only[GV.bI];refine .p (by rw[dZ];exact hn) fun i g hg=>?_
  rw[jF,Option.map_eq_some_iff]at hg;obtain⟨g',bu,rfl⟩:=hg;exact ih i g' bu (Di hf (List.mem_of_getElem? bu))
 |gK=>exact fun hf=>by simp[GV.iL]at hf
 |fD _ ih=>exact fun hf=> .fD (ih hf)
 |u=>exact fun hf=>by simp[GV.iL]at hf
theorem ew.iL {x:Option Value}{y:az}(h:ew ρ w D x y)(hf:y.iL=true):ew ρ' w D' x y:=by
 cases y with
 |rows e k xs=>
  simp only[az.iL,List.all_eq_true]at hf;obtain⟨A,c,h1,h2,h3,h4,h5,h6⟩:=h;refine⟨A,c,h1,h2,h3,h4,h5,?_⟩;rcases h6 with h6|⟨g,arr,h6,h7,h8,h9⟩
  ·exact .inl h6
  ·refine .inr ⟨g,arr,h6,h7,h8,fun i y hy j r hr=>?_⟩
   have:=hf y (List.mem_of_getElem? hy) r (List.mem_of_getElem? hr)
   have vq:=h9 i y hy j r hr
   cases r with
   |v x=>generalize arr.getD (i*k+j) undef=z at vq;cases vq with|v vq=>exact .v vq
   |nil=>simp[RT.flat]at this
   |sl _ _=>simp[RT.flat]at this
 |box cs=>simp[az.iL]at hf
 |dead=>trivial
theorem IJ (b:Nat):∀(x y:List (Nat×az)),gt b (x++y)=match gt b x with|some z=>some z|none=>gt b y
 |[],y=>rfl
 |(u,z)::x,y=>by
  simp only[List.cons_append,gt];by_cases h:b=u
  ·rw[if_pos h,if_pos h]
  ·rw[if_neg h,if_neg h,IJ b x y]
theorem zt (m b:Nat):∀(y:List (Nat×az)),gt b (y.map fun x=>(x.1+m,x.2))=if m≤b then gt (b-m) y else none
 |[]=>by simp[gt]
 |(u,z)::y=>by
  simp only[List.map_cons,gt,zt m b y];by_cases h:m≤b
  ·by_cases e:b=u+m
   ·rw[if_pos e,if_pos h,if_pos (by omega)]
   ·rw[if_neg e,if_pos h,if_pos h,if_neg (by omega)]
  ·rw[if_neg h,if_neg h,if_neg (by omega)]
end
theorem TC.abA {P:Program}{E:List PanicEntry→World→Prop}{f:FuncId}{args args':List GV}{m:Nat}{bp sto':List (Nat×az)}{r:GV}(hT:TC P E f args' 0 [] r sto')(hfit:Fits args m bp)
  (lZ:il (fun b=>gt b bp) (List.range m) args=args') (hr:r.iL=true) (hs:∀x∈sto',x.2.iL=true):TC P E f args m bp (r.bI (·+m)) (bp++sto'.map fun x=>(x.1+m,x.2)):=by
 obtain⟨vM,hT⟩:=hT;refine⟨vM,fun w bR ρ D hv ha hD dX Jf UZ=>?_⟩
 have Iw:∀b y,gt b bp=some y→b<m:=fun b y hy=>hfit.lt _ (gq hy)
 have hR:Rel {W:=w,M:=Mf bp ρ,D0:=D,nt:=0,oo:=fun b=>if b<m then ρ b else none} (fun _=> .u) (fun b=>gt b bp) {tmps:= #[],defers:=[]} w (fun b=>if b<m then ρ b else none) D:=by
  refine⟨rfl,rfl,rfl,Nat.le_refl _,fun k _ _=>rfl,fun k hk=>⟨hD k hk,.inl hk⟩,fun b hb=>?_,fun b y hy=>?_,fun b y g hy hl hg=>?_,fun b y b' y' g hy hl eL bz hg bu=>?_,fun t=> .u,rfl,rfl,fun b x hx=>hx⟩
  ·by_cases h:b<m
   ·obtain⟨y,hy,_⟩:=hfit.live h
    rw[hy]at hb;cases hb
   ·simp[h]
  ·have h1:=Iw _ _ hy
   simp only[h1,if_true];exact(dX b y hy).restrict fun c hc x hx=>by rw[if_pos (hfit.bp _ (gq hy) c hc)];exact hx
  ·have h1:=Iw _ _ hy
   simp only[h1,if_true]at hg;exact⟨Jf b y g hy hl hg,.inl ⟨b,y,hy,hl,hg⟩⟩
  ·have h1:=Iw _ _ hy
   have jg:=Iw _ _ eL;simp only[h1,jg,if_true]at hg bu;exact UZ b y b' y' g hy hl eL bz hg bu
 obtain⟨D1,hR1,IA,YO⟩:=hR.consume (List.range m) fun b hb=>hfit.live (List.mem_range.1 hb)
 refine(hT w bR (fun b=>if b<m then ρ b else none) D1 (by rw[hv,←lZ,jG]) (fun i g hg=>?_) (fun k hk=>(hR1.ro k hk).1) (fun b y h=>by cases h) (fun b y g h=>by cases h) (fun b y b' y' g h=>by cases h)).mono ?_
 ·rw[←lZ,qx,Option.map_eq_some_iff]at hg
  obtain⟨g',bu,rfl⟩:=hg;exact((ha i g' bu).restrict fun c hc x hx=>by rw[if_pos (hfit.args _ (List.mem_of_getElem? bu) c hc)];exact hx).cX hR IA YO
 rintro e w' (h|⟨v,C2,D2,rfl,g_,hP⟩)
 ·exact .inl h
 right
 have hm:∀ρ' k,¬Mf [] ρ' k:=fun _ k ⟨b,y,h,_⟩=>by cases h
 have hold:∀k,k<w.heap.size→w'.heap[k]?=w.heap[k]?:=fun k hk=>hP.old k hk (hm _ k)
 have hK:cD D w w':=fun k hd=>hold k (hD k hd)
 have th:∀b y,gt b (bp++sto'.map fun x=>(x.1+m,x.2))=some y→(b<m∧gt b bp=some y)∨(m≤b∧gt (b-m) sto'=some y):=by
  intro b y hy;rw[IJ,zt]at hy;by_cases h:b<m
  ·obtain⟨z,hz,_⟩:=hfit.live h
   rw[hz]at hy;exact .inl ⟨h,by rw[hz];exact hy⟩
  ·have:gt b bp=none:=by
    cases hz:gt b bp with
    |none=>rfl
    |some z=>exact absurd (Iw _ _ hz) h
   rw[this,if_pos (by omega)]at hy
   exact .inr ⟨by omega,hy⟩
 have ak:∀b y g,gt b bp=some y→y.live=true→bS (ρ b)=some g→g<w.heap.size:=by
  intro b y g hy hl hg;refine hR.jr (b:=b) hy hl ?_;simp only[Iw _ _ hy,if_true];exact hg
 refine⟨v,fun b=>if b<m then ρ b else C2 (b-m),D,rfl,g_.iL (fun b x hx=>?_) hr,⟨hP.os,hP.tape,hP.output,hP.size,fun k hk _=>hold k hk,fun k hk=>⟨Nat.lt_of_lt_of_le (hD k hk) hP.size,.inl hk⟩,fun b y hy=>?_,fun b y g hy hl hg=>?_,fun b y b' y' g hy hl eL bz hg bu=>?_,fun b hb=>by simp[hb],fun b hb hn=>?_⟩⟩
 ·rw[if_neg (by omega),show b+m-m=b by omega];exact hx
 ·rcases th b y hy with⟨h1,h2⟩|⟨h1,h2⟩
  ·rw[if_pos h1]
   refine((dX b y h2).restrict (ρ':=fun b=>if b<m then ρ b else none) fun c hc x hx=>by rw[if_pos (hfit.bp _ (gq h2) c hc)];exact hx).keep (fun c x hx=>?_) hK (fun _ h=>h) ?_
   ·split at hx
    ·rename_i hc;rw[if_pos hc];exact hx
    ·cases hx
   ·by_cases hl:y.live=true
    ·exact .inr fun g hg=>hold g (ak b y g h2 hl hg)
    ·left
     cases y<;>simp[az.live]at hl
     rfl
  ·rw[if_neg (by omega)]
   exact(hP.blk _ _ h2).iL (hs _ (gq h2))
 ·rcases th b y hy with⟨h1,h2⟩|⟨h1,h2⟩
  ·rw[if_pos h1]at hg
   exact⟨Jf b y g h2 hl hg,.inl ⟨b,y,h2,hl,hg⟩⟩
  ·rw[if_neg (by omega)]at hg
   have:=(hP.own _ _ _ h2 hl hg).2
   rcases this with h|h
   ·exact absurd h (hm _ _)
   ·exact⟨fun hd=>by have:=hD g hd;omega,.inr h⟩
 ·rcases th b y hy with⟨h1,h2⟩|⟨h1,h2⟩<;>rcases th b' y' eL with⟨h3,h4⟩|⟨h3,h4⟩
  ·rw[if_pos h1]at hg
   rw[if_pos h3]at bu;exact UZ b y b' y' g h2 hl h4 bz hg bu
  ·rw[if_pos h1]at hg
   rw[if_neg (by omega)]at bu
   have h5:=ak b y g h2 hl hg;rcases(hP.own _ _ _ h4 bz bu).2 with h|h
   ·exact absurd h (hm _ _)
   ·omega
  ·rw[if_neg (by omega)]at hg
   rw[if_pos h3]at bu;have h5:=ak b' y' g h4 bz bu;rcases(hP.own _ _ _ h2 hl hg).2 with h|h
   ·exact absurd h (hm _ _)
   ·omega
  ·rw[if_neg (by omega)]at hg bu
   have:=hP.sep _ _ _ _ _ h2 hl h4 bz hg bu
   omega
 ·rw[IJ,zt,if_pos hb]at hn
  have:gt b bp=none:=by
   cases hz:gt b bp with
   |none=>rfl
   |some z=>exact absurd (Iw _ _ hz) (by omega)
  rw[this]at hn;rw[if_neg (by omega)]
  exact hP.free _ (Nat.zero_le _) hn
theorem Fits.of {args:List GV}{m:Nat}{bp:List (Nat×az)}(h1:dw m bp=true)(h2:∀x∈bp,x.1<m∧∀b∈x.2.names,b<m)(h3:∀b∈dY args,b<m):Fits args m bp:=
 ⟨h1,fun x hx=>(h2 x hx).1,fun g hg b hb=>h3 b (Bi hg b hb),fun x hx=>(h2 x hx).2⟩
theorem aC.rd {C:CT}{r:Rg}{o:Oper}{os:List Oper}{gd:List (Nat ⊕ Nat)}{s:ah}{acc:List Pl}{K:ah→Prop}{c:Call}(ho:o.op= .call c)(hc:d_ (.call c)=true){f:FuncId}{oL:List GV}{cW:List (Nat×Option az)}(hf:s.qy r.P c.callee c.args.toList=some (f,oL,cW))(fO:∀x∈cW,s.get x.1=x.2)
  {gs:List GV} {b:Nat} (th:oL= .s (.ptr b 0)::gs) {bx:List TV} (hb:s.get b=some (.box bx)) {IK:List TV} {res:GV} (hT:TC r.P r.E f (.s (.ptr 0 0)::gs) 1 [(0,.box bx)] res [(0,.box IK)]) (h0:dY gs=[]) (h1:(az.box bx).names=[]) (jg:(az.box IK).names=[]) (h2:res.names=[]) (ak:b<s.nx)
  (h:run C r os (s.step o.dst res [(b,.box IK)] s.nx) (if r.draw then jd o gd (cW++[(b,some (.box bx))]) [(b,.box IK)]::acc else[]) K):aC C r o os gd s acc K:=by
 have hg:=th;have abB:∀(f:Nat→Nat) (ts:List TV),(az.box ts).names=[]→(az.box ts).bI f= .box ts:=by
  intro f ts h;simp only[az.names,List.flatMap_eq_nil_iff]at h;simp only[az.bI];congr 1
  exact(List.map_congr_left fun t ht=>TV.js f t (h t ht)).trans (List.map_id ts)
 refine aC.any ho hc hf fO [b] [] 0 hT ⟨?_,by simp,by simpa using ak,by simp,by simp,fun c hc=>?_,by simp[az.live],by simp⟩ (by simp[h2]) (fun x hx c hc=>by simp only[List.mem_singleton]at hx;subst hx;rw[jg]at hc;cases hc) ?_
 ·rw[hg,qz]
  simp only[ik,GV.bI,TV.bI,φ,List.length_singleton,Nat.lt_add_one,if_true,List.getD_cons_zero];rw[rL _ h0]
 ·simp only[List.length_singleton,Nat.lt_one_iff]at hc
  subst hc;simp only[List.getD_cons_zero,gt,if_true,Option.map_some,hb,abB _ _ h1,Option.isSome_some,and_self]
 ·rw[GV.js _ _ h2]
  simp only[jL,gr,List.length_singleton,List.range_one,List.map_cons,List.map_nil,List.getD_cons_zero,gt,if_true,abB _ _ jg,List.range_zero,List.append_nil,hb,Nat.add_zero];exact h
def uY (s:ah)(f:Nat→Nat)(sto0:List (Nat×az)):Nat→List Nat→Prop
 |_,[]=>True
 |i,c::cs=>(s.get c=(gt i sto0).map (az.bI f)∧(gt i sto0).isSome=true)∧uY s f sto0 (i+1) cs
attribute [simp] uY az.live
theorem uh {s:ah}{f:Nat→Nat}{sto0:List (Nat×az)}:∀{cs:List Nat} {i b:Nat},uY s f sto0 i cs→b<cs.length→s.get (cs.getD b 0)=(gt (i+b) sto0).map (az.bI f)∧(gt (i+b) sto0).isSome=true
 |c::cs,i,0,h,_=>h.1
 |c::cs,i,b+1,h,hb=>by
  have:=uh (b:=b) h.2 (by simpa using hb)
  rw[show i+1+b=i+(b+1) by omega]at this
  simpa using this
theorem aC.abA {C:CT}{r:Rg}{o:Oper}{os:List Oper}{gd:List (Nat ⊕ Nat)}{s:ah}{acc:List Pl}{K:ah→Prop}{c:Call}(ho:o.op= .call c)(hc:d_ (.call c)=true){f:FuncId}{oL:List GV}{cW:List (Nat×Option az)}(hf:s.qy r.P c.callee c.args.toList=some (f,oL,cW))(fO:∀x∈cW,s.get x.1=x.2)
  (frag:List Nat) (cnt:Nat) {args':List GV} {sto0 sto':List (Nat×az)} {res:GV} (hT:TC r.P r.E f args' frag.length sto0 res sto') (ha:oL=ik (φ frag s.nx) args') (hn:frag.Nodup) (ak:∀b∈frag,b<s.nx)
  (hb:uY s (φ frag s.nx) sto0 0 frag) (hl:∀x∈sto0,x.1<frag.length∧x.2.live=true) (hs:∀x∈sto',x.1<frag.length+cnt∧∀b∈x.2.names,b<frag.length+cnt) (h1:∀b∈res.names,b<frag.length+cnt)
  (h:run C r os (s.step o.dst (res.bI (φ frag s.nx)) (jL s frag [] sto' cnt) (s.nx+cnt)) (if r.draw then jd o gd (cW++gr s frag [] cnt) (jL s frag [] sto' cnt)::acc else[]) K):aC C r o os gd s acc K:=
 aC.any ho hc hf fO frag [] cnt hT ⟨by rw[qz];exact ha,hn,ak,by simp,by simp,fun b h=>(by have:=uh (b:=b) hb h;rwa[Nat.zero_add]at this),hl,fun x hx=>(hs x hx).1⟩ h1 (fun x hx=>(hs x hx).2) h
end Go.Proofs.YtabjbdnokpjipaaGreat.T
namespace Go.Proofs.YtabjbdnokpjipaaGreat.Td
open Go Go.Proofs.YtabjbdnokpjipaaGreat.T
theorem mixed:Tw.prog.follows .mixedOrders=true:=by kernel_rfl
@[simp] theorem t3:aM Tw.prog 3=some ⟨1,8,[.int .i64 0],.sc⟩:=by kernel_rfl
@[simp] theorem b3:bb Tw.prog 3=false:=by kernel_rfl
@[simp] theorem i3:sS Tw.prog 3=some .i64:=by kernel_rfl
@[simp] theorem t4:aM Tw.prog 4=some ⟨1,1,[.bool false],.sc⟩:=by kernel_rfl
@[simp] theorem b4:bb Tw.prog 4=true:=by kernel_rfl
@[simp] theorem t5:aM Tw.prog 5=some ⟨1,1,[.int .u8 0],.sc⟩:=by kernel_rfl
@[simp] theorem b5:bb Tw.prog 5=false:=by kernel_rfl
@[simp] theorem i5:sS Tw.prog 5=some .u8:=by kernel_rfl
@[simp] theorem t20:aM Tw.prog 20=some ⟨1,16,[.nilIface],.sc⟩:=by kernel_rfl
@[simp] theorem b20:bb Tw.prog 20=false:=by kernel_rfl
@[simp] theorem t21:aM Tw.prog 21=some ⟨1,4,[.int .i32 0],.sc⟩:=by kernel_rfl
@[simp] theorem b21:bb Tw.prog 21=false:=by kernel_rfl
@[simp] theorem i21:sS Tw.prog 21=some .i32:=by kernel_rfl
@[simp] theorem t22:aM Tw.prog 22=some ⟨1,24,[.slice none 0 0],.slice 5⟩:=by kernel_rfl
@[simp] theorem b22:bb Tw.prog 22=false:=by kernel_rfl
@[simp] theorem t23:aM Tw.prog 23=some ⟨1,24,[.slice none 0 0],.slice 57⟩:=by kernel_rfl
@[simp] theorem b23:bb Tw.prog 23=false:=by kernel_rfl
@[simp] theorem t25:aM Tw.prog 25=some ⟨1,24,[.slice none 0 0],.slice 45⟩:=by kernel_rfl
@[simp] theorem b25:bb Tw.prog 25=false:=by kernel_rfl
@[simp] theorem t26:aM Tw.prog 26=some ⟨1,24,[.slice none 0 0],.slice 43⟩:=by kernel_rfl
@[simp] theorem b26:bb Tw.prog 26=false:=by kernel_rfl
@[simp] theorem t27:aM Tw.prog 27=some ⟨1,24,[.slice none 0 0],.slice 66⟩:=by kernel_rfl
@[simp] theorem b27:bb Tw.prog 27=false:=by kernel_rfl
@[simp] theorem t28:aM Tw.prog 28=some ⟨1,24,[.slice none 0 0],.slice 4⟩:=by kernel_rfl
@[simp] theorem b28:bb Tw.prog 28=false:=by kernel_rfl
@[simp] theorem t29:aM Tw.prog 29=some ⟨1,24,[.slice none 0 0],.slice 68⟩:=by kernel_rfl
@[simp] theorem b29:bb Tw.prog 29=false:=by kernel_rfl
@[simp] theorem t31:aM Tw.prog 31=some ⟨5,120,[.slice none 0 0,.slice none 0 0,.slice none 0 0,.slice none 0 0,.slice none 0 0],.struct [(0,25),(1,26),(2,27),(3,28),(4,29)]⟩:=by kernel_rfl
@[simp] theorem b31:bb Tw.prog 31=false:=by kernel_rfl
@[simp] theorem t36:aM Tw.prog 36=some ⟨2,16,[.int .i64 0,.int .i64 0],.struct [(0,3),(1,3)]⟩:=by kernel_rfl
@[simp] theorem b36:bb Tw.prog 36=false:=by kernel_rfl
@[simp] theorem q36:lj Tw.prog 36=some [true,true]:=by kernel_rfl
@[simp] theorem t38:aM Tw.prog 38=some ⟨4,32,[.int .i64 0,.int .i64 0,.int .i64 0,.bool false],.struct [(0,3),(1,36),(3,4)]⟩:=by kernel_rfl
@[simp] theorem b38:bb Tw.prog 38=false:=by kernel_rfl
@[simp] theorem q38:lj Tw.prog 38=some [true,true,true,false]:=by kernel_rfl
@[simp] theorem t41:aM Tw.prog 41=some ⟨1,24,[.slice none 0 0],.slice 38⟩:=by kernel_rfl
@[simp] theorem b41:bb Tw.prog 41=false:=by kernel_rfl
@[simp] theorem t43:aM Tw.prog 43=some ⟨4,64,[.int .i64 0,.int .i64 0,.slice none 0 0,.slice none 0 0],.struct [(0,3),(1,3),(2,41),(3,41)]⟩:=by kernel_rfl
@[simp] theorem b43:bb Tw.prog 43=false:=by kernel_rfl
@[simp] theorem t45:aM Tw.prog 45=some ⟨1,24,[.slice none 0 0],.slice 3⟩:=by kernel_rfl
@[simp] theorem b45:bb Tw.prog 45=false:=by kernel_rfl
@[simp] theorem t52:aM Tw.prog 52=some ⟨1,8,[.pointer none],.sc⟩:=by kernel_rfl
@[simp] theorem b52:bb Tw.prog 52=false:=by kernel_rfl
@[simp] theorem t57:aM Tw.prog 57=some ⟨2,16,[.int .i64 0,.int .i64 0],.struct [(0,3),(1,3)]⟩:=by kernel_rfl
@[simp] theorem b57:bb Tw.prog 57=false:=by kernel_rfl
@[simp] theorem q57:lj Tw.prog 57=some [true,true]:=by kernel_rfl
@[simp] theorem t64:aM Tw.prog 64=some ⟨1,24,[.slice none 0 0],.slice 36⟩:=by kernel_rfl
@[simp] theorem b64:bb Tw.prog 64=false:=by kernel_rfl
@[simp] theorem t66:aM Tw.prog 66=some ⟨3,56,[.int .i64 0,.slice none 0 0,.slice none 0 0],.struct [(0,3),(1,45),(2,64)]⟩:=by kernel_rfl
@[simp] theorem b66:bb Tw.prog 66=false:=by kernel_rfl
@[simp] theorem t68:aM Tw.prog 68=some ⟨5,40,[.int .i64 0,.int .i64 0,.int .i64 0,.int .i64 0,.int .i64 0],.struct [(0,3),(1,3),(2,3),(3,36)]⟩:=by kernel_rfl
@[simp] theorem b68:bb Tw.prog 68=false:=by kernel_rfl
@[simp] theorem q68:lj Tw.prog 68=some [true,true,true,true,true]:=by kernel_rfl
@[simp] theorem t70:aM Tw.prog 70=some ⟨2,48,[.slice none 0 0,.slice none 0 0],.array 2 41⟩:=by kernel_rfl
@[simp] theorem b70:bb Tw.prog 70=false:=by kernel_rfl
@[simp] theorem t76:aM Tw.prog 76=some ⟨2,32,[.slice none 0 0,.int .i64 0],.struct [(0,22),(1,3)]⟩:=by kernel_rfl
@[simp] theorem b76:bb Tw.prog 76=false:=by kernel_rfl
@[simp] theorem t80:aM Tw.prog 80=some ⟨1,8,[.pointer none],.sc⟩:=by kernel_rfl
@[simp] theorem b80:bb Tw.prog 80=false:=by kernel_rfl
@[simp] theorem t82:aM Tw.prog 82=some ⟨0,0,[],.struct []⟩:=by kernel_rfl
@[simp] theorem b82:bb Tw.prog 82=false:=by kernel_rfl
@[simp] theorem q82:lj Tw.prog 82=some []:=by kernel_rfl
@[simp] theorem t83:aM Tw.prog 83=some ⟨1,4,[.int .u32 0],.sc⟩:=by kernel_rfl
@[simp] theorem b83:bb Tw.prog 83=false:=by kernel_rfl
@[simp] theorem i83:sS Tw.prog 83=some .u32:=by kernel_rfl
@[simp] theorem t85:aM Tw.prog 85=some ⟨2,8,[.int .i32 0,.int .u32 0],.struct [(0,21),(1,83)]⟩:=by kernel_rfl
@[simp] theorem b85:bb Tw.prog 85=false:=by kernel_rfl
@[simp] theorem q85:lj Tw.prog 85=some [true,true]:=by kernel_rfl
@[simp] theorem t87:aM Tw.prog 87=some ⟨2,8,[.int .i32 0,.int .u32 0],.struct [(0,82),(0,85)]⟩:=by kernel_rfl
@[simp] theorem b87:bb Tw.prog 87=false:=by kernel_rfl
@[simp] theorem t89:aM Tw.prog 89=some ⟨7,128,[.int .i32 0,.int .u32 0,.slice none 0 0,.slice none 0 0,.slice none 0 0,.slice none 0 0,.slice none 0 0],.struct [(0,87),(2,31)]⟩:=by kernel_rfl
@[simp] theorem b89:bb Tw.prog 89=false:=by kernel_rfl
@[simp] theorem t96:aM Tw.prog 96=some ⟨1,8,[.nilFunc],.sc⟩:=by kernel_rfl
@[simp] theorem b96:bb Tw.prog 96=false:=by kernel_rfl
@[simp] theorem t98:aM Tw.prog 98=some ⟨12,12,[.bool false,.bool false,.bool false,.bool false,.bool false,.bool false,.bool false,.bool false,.bool false,.bool false,.bool false,.bool false],.array 12 4⟩:=by kernel_rfl
@[simp] theorem b98:bb Tw.prog 98=false:=by kernel_rfl
@[simp] theorem t124:aM Tw.prog 124=some ⟨1,24,[.slice none 0 0],.slice 3⟩:=by kernel_rfl
@[simp] theorem aen:bb Tw.prog 124=false:=by kernel_rfl
@[simp] theorem t135:aM Tw.prog 135=some ⟨1,8,[.pointer none],.sc⟩:=by kernel_rfl
@[simp] theorem aeo:bb Tw.prog 135=false:=by kernel_rfl
@[simp] theorem t140:aM Tw.prog 140=some ⟨1,16,[.nilIface],.sc⟩:=by kernel_rfl
@[simp] theorem aep:bb Tw.prog 140=false:=by kernel_rfl
@[simp] theorem t142:aM Tw.prog 142=some ⟨1,24,[.slice none 0 0],.slice 146⟩:=by kernel_rfl
@[simp] theorem aeq:bb Tw.prog 142=false:=by kernel_rfl
@[simp] theorem t146:aM Tw.prog 146=some ⟨5,40,[.int .i64 0,.int .i64 0,.int .i64 0,.bool false,.bool false],.struct [(0,38),(4,4)]⟩:=by kernel_rfl
@[simp] theorem aer:bb Tw.prog 146=false:=by kernel_rfl
@[simp] theorem aes:lj Tw.prog 146=some [true,true,true,false,false]:=by kernel_rfl
@[simp] theorem t148:aM Tw.prog 148=some ⟨2,48,[.slice none 0 0,.slice none 0 0],.struct [(0,124),(1,64)]⟩:=by kernel_rfl
@[simp] theorem aet:bb Tw.prog 148=false:=by kernel_rfl
@[simp] theorem t161:aM Tw.prog 161=some ⟨2,16,[.int .i64 0,.int .i64 0],.struct [(0,3),(1,3)]⟩:=by kernel_rfl
@[simp] theorem aeu:bb Tw.prog 161=false:=by kernel_rfl
@[simp] theorem aev:lj Tw.prog 161=some [true,true]:=by kernel_rfl
@[simp] theorem t163:aM Tw.prog 163=some ⟨3,24,[.int .i64 0,.int .i64 0,.int .i64 0],.struct [(0,3),(1,36)]⟩:=by kernel_rfl
@[simp] theorem aew:bb Tw.prog 163=false:=by kernel_rfl
@[simp] theorem aex:lj Tw.prog 163=some [true,true,true]:=by kernel_rfl
@[simp] theorem t165:aM Tw.prog 165=some ⟨4,32,[.int .i64 0,.int .i64 0,.int .i64 0,.int .i64 0],.struct [(0,3),(1,3),(2,36)]⟩:=by kernel_rfl
@[simp] theorem aey:bb Tw.prog 165=false:=by kernel_rfl
@[simp] theorem aez:lj Tw.prog 165=some [true,true,true,true]:=by kernel_rfl
@[simp] theorem t168:aM Tw.prog 168=some ⟨1,8,[.nilFunc],.sc⟩:=by kernel_rfl
@[simp] theorem aeA:bb Tw.prog 168=false:=by kernel_rfl
@[simp] theorem t175:aM Tw.prog 175=some ⟨0,0,[],.struct []⟩:=by kernel_rfl
@[simp] theorem aeB:bb Tw.prog 175=false:=by kernel_rfl
@[simp] theorem aeC:lj Tw.prog 175=some []:=by kernel_rfl
@[simp] theorem t176:aM Tw.prog 176=some ⟨0,0,[],.struct []⟩:=by kernel_rfl
@[simp] theorem aeD:bb Tw.prog 176=false:=by kernel_rfl
@[simp] theorem aeE:lj Tw.prog 176=some []:=by kernel_rfl
@[simp] theorem t177:aM Tw.prog 177=some ⟨1,8,[.int .u64 0],.sc⟩:=by kernel_rfl
@[simp] theorem aeF:bb Tw.prog 177=false:=by kernel_rfl
@[simp] theorem i177:sS Tw.prog 177=some .u64:=by kernel_rfl
@[simp] theorem t179:aM Tw.prog 179=some ⟨1,8,[.int .u64 0],.struct [(0,175),(0,176),(0,177)]⟩:=by kernel_rfl
@[simp] theorem aeG:bb Tw.prog 179=false:=by kernel_rfl
@[simp] theorem t181:aM Tw.prog 181=some ⟨2,16,[.int .u64 0,.int .u32 0],.struct [(0,82),(0,179),(1,83)]⟩:=by kernel_rfl
@[simp] theorem aeH:bb Tw.prog 181=false:=by kernel_rfl
@[simp] theorem t182:aM Tw.prog 182=some ⟨1,24,[.slice none 0 0],.slice 38⟩:=by kernel_rfl
@[simp] theorem aeI:bb Tw.prog 182=false:=by kernel_rfl
@[simp] theorem t184:aM Tw.prog 184=some ⟨1,8,[.pointer none],.sc⟩:=by kernel_rfl
@[simp] theorem aeJ:bb Tw.prog 184=false:=by kernel_rfl
@[simp] theorem t197:aM Tw.prog 197=some ⟨1,16,[.nilIface],.sc⟩:=by kernel_rfl
@[simp] theorem aeK:bb Tw.prog 197=false:=by kernel_rfl
@[simp] theorem acB:kv Tw.prog 182 "Len"=some (196,none):=by kernel_rfl
@[simp] theorem acm:kv Tw.prog 182 "Less"=some (197,none):=by kernel_rfl
@[simp] theorem acn:kv Tw.prog 182 "Swap"=some (198,none):=by kernel_rfl
@[simp] theorem acC:kv Tw.prog 184 "Len"=some (196,some 182):=by kernel_rfl
@[simp] theorem aco:kv Tw.prog 184 "Less"=some (197,some 182):=by kernel_rfl
@[simp] theorem acD:kv Tw.prog 184 "Pop"=some (199,none):=by kernel_rfl
@[simp] theorem acp:kv Tw.prog 184 "Push"=some (203,none):=by kernel_rfl
@[simp] theorem acr:kv Tw.prog 184 "Swap"=some (198,some 182):=by kernel_rfl
end Go.Proofs.YtabjbdnokpjipaaGreat.Td
namespace Go.Proofs.YtabjbdnokpjipaaGreat.T
open Go Go.RowKit
universe u
structure Nu (P:Program) (E:List PanicEntry→World→Prop) (nt m:Nat) (c:Code) (Q:Exit→ah→Prop) (s:ah):Prop where
 get:TW P E nt m c Q s
def WV (P:Program)(E:List PanicEntry→World→Prop)(nt m:Nat):Code→(Exit→ah→Prop)→ah→Prop
 | .skip,Q,s=>Q .normal s
 | .exit id,Q,s=>Q (.exit id) s
 | .ret,Q,s=>Q .ret s
 | .seq x y,Q,s=>WV P E nt m x (tQ (WV P E nt m y Q) Q) s
 | .block id c,Q,s=>WV P E nt m c (bQ id Q) s
 | .cond c x y,Q,s=>match(s.ev c).b? with
   |some b=>if b=true then WV P E nt m x Q s else WV P E nt m y Q s
   |none=>False
 | .region _ ops draw,Q,s=>uf s=true∧run (iK ⟨P,E,nt,ops,draw⟩) ⟨P,E,nt,ops,draw⟩ ops.toList s [] (Q .normal)
 |c,Q,s=>Nu P E nt m c Q s
section
variable {P:Program}{E:List PanicEntry→World→Prop}{nt m:Nat}{c x y:Code}{Q:Exit→ah→Prop}{s s':ah}
theorem WV.sound (vQ:P.follows .mixedOrders=true):∀{c:Code} {Q:Exit→ah→Prop} {s:ah},WV P E nt m c Q s→TW P E nt m c Q s
 | .skip,Q,s,h=> .skip h
 | .exit id,Q,s,h=> .exit h
 | .ret,Q,s,h=> .ret h
 | .seq x y,Q,s,h=> .seq ((WV.sound vQ (c:=x) h).mono fun e s h=>by
   cases e with
   |normal=>exact WV.sound vQ (c:=y) h
   |_=>exact h)
 | .block id c,Q,s,h=> .block (WV.sound vQ (c:=c) h)
 | .cond c x y,Q,s,h=>by
   unfold WV at h;split at h
   ·rename_i b hb
    refine .cond hb (fun e=>?_) fun e=>?_
    ·rw[if_pos e]at h;exact WV.sound vQ (c:=x) h
    ·rw[if_neg (by simp[e])]at h;exact WV.sound vQ (c:=y) h
   ·exact h.elim
 | .region id ops draw,Q,s,h=> .region vQ ⟨h.1,oK ⟨P,E,nt,ops,draw⟩ _ _ _ _ h.2⟩
 | .loop _,Q,s,h=>h.get
 | .rangeFunc ..,Q,s,h=>h.get
 | .scope _,Q,s,h=>h.get
 | .label _,Q,s,h=>h.get
 | .goto _,Q,s,h=>h.get
 | .refuse _,Q,s,h=>h.get
@[simp] theorem adA:WV P E nt m .skip Q s=Q .normal s:=rfl
@[simp] theorem adB {id:Nat}:WV P E nt m (.exit id) Q s=Q (.exit id) s:=rfl
@[simp] theorem ad':WV P E nt m .ret Q s=Q .ret s:=rfl
@[simp] theorem aea:WV P E nt m (.seq x y) Q s=WV P E nt m x (tQ (WV P E nt m y Q) Q) s:=rfl
@[simp] theorem acE {id:Nat}:WV P E nt m (.block id c) Q s=WV P E nt m c (bQ id Q) s:=rfl
@[simp] theorem adC:WV P E nt m (.loop c) Q s=Nu P E nt m (.loop c) Q s:=rfl
@[simp] theorem adD {o:Operand}:WV P E nt m (.cond o x y) Q s=match(s.ev o).b? with
  |some b=>if b=true then WV P E nt m x Q s else WV P E nt m y Q s
  |none=>False:=rfl
@[simp] theorem acs {id:Nat} {os:List Oper} {draw:Bool}:WV P E nt m (.region id (List.toArray os) draw) Q s=(uf s=true∧run (iK ⟨P,E,nt,List.toArray os,draw⟩) ⟨P,E,nt,List.toArray os,draw⟩ os s [] (Q .normal)):=rfl
end
attribute [-simp] tQ bQ
def Tg {α:Sort u}(_:α):Type:=Unit
def tg {α:Sort u}(x:α):Tg x:=()
def adE (P:Program)(xs:List ResultVar)(m:Nat)(r:GV)(sto':List (Nat×az))(_:Tg r)(_:Tg sto'):Exit→ah→Prop:=YL P xs m r sto'
structure aa {α:Type} (m:Nat) (I:α→ah) (p:α→Prop) (μ:α→Nat) (x:α) (_:Tg I) (_:Tg p) (_:Tg μ) (_:Tg x) (s:ah):Prop where
 mk::
 get:∃y,p y∧μ y<μ x∧Wk m s (I y)
theorem tL {P:Program}{E:List PanicEntry→World→Prop}{nt m:Nat}{Q:Exit→ah→Prop}{s:ah}{α:Type}{c:Code}(I:α→ah)(p:α→Prop)(μ:α→Nat)(x:α)(hx:p x)(h0:Wk m s (I x))
  (round:∀x,p x→TW P E nt m c (tQ (aa m I p μ x (tg I) (tg p) (tg μ) (tg x)) Q) (I x)):Nu P E nt m (.loop c) Q s:=⟨TW.loop I p μ x hx h0 fun x hx=>(round x hx).mono fun e s h=>by
   cases e with
   |normal=>exact h.get
   |_=>exact h⟩
theorem TW.go {E:List PanicEntry→World→Prop}{nt m:Nat}{c:Code}{Q:Exit→ah→Prop}{s:ah}(h:WV Tw.prog E nt m c Q s):TW Tw.prog E nt m c Q s:=WV.sound Td.mixed h
theorem tE {E:List PanicEntry→World→Prop}{f:FuncId}(fn:Func){args:List GV}{m:Nat}{bp sto':List (Nat×az)}{r:GV}{nt:Nat}{xs:List ResultVar}{c:Code}(hnt:fn.ntmps=nt)(fj:fn.results.toList=xs)
  (h:TW Tw.prog E nt m c (adE Tw.prog xs m r sto' (tg r) (tg sto')) ⟨mD 0 args,bp,m⟩) (hf:Tw.prog.funcs[f]?=some fn:=by kernel_rfl) (hb:fn.body=some c:=by rfl) (hnm:(fn.name== "runtime.NumGoroutine")=false:=by kernel_rfl) (hn:args.length≤nt:=by simp) (hfit:Fits args m bp:=by exact Fits.nil rfl):TC Tw.prog E f args m bp r sto':=
 TC.enter hf hb hnm hnt fj hn hfit h
section
variable {r:Rg}{o:Oper}{os:List Oper}{gd:List (Nat ⊕ Nat)}{s:ah}{acc:List Pl}{K:ah→Prop}{c:Call}{f:FuncId}{oL gs:List GV}{cW:List (Nat×Option az)}{tt:Option (FuncId×List GV×List (Nat×Option az))}
theorem iK.of (hc:d_ (.call c)=true)(ho:o.op= .call c)(h:aC (iK r) r o os gd s acc K):iK r o os gd s acc K:=by
 refine Df (by rw[ho];exact hc) h fun fr gv Δ nx h=>?_
 have Ns:∀(x:Pl),(if r.draw=true then x::acc else[]).reverse=if r.draw=true then acc.reverse++[x]else[]:=fun x=>by
  split<;>simp
 have:=oK r _ _ _ _ h
 simp only[Ns]at this;exact this
theorem cP (h:∃res,TC r.P r.E f oL 0 [] res []∧res.names=[]∧run (iK r) r os (s.step o.dst res [] s.nx) (if r.draw then jd o gd cW []::acc else[]) K)
  (ho:o.op= .call c:=by rfl) (hc:d_ (.call c)=true:=by rfl) (hf:s.qy r.P c.callee c.args.toList=tt:=by simp;rfl) (ht:tt=some (f,oL,cW):=by rfl) (fO:∀x∈cW,s.get x.1=x.2:=by simp) (h0:dY oL=[]:=by simp):iK r o os gd s acc K:=
 .of hc ho (h.elim fun _ h=>aC.plain ho hc (hf.trans ht) fO h.1 h0 h.2.1 h.2.2)
theorem cK (peek:List Nat)(h:∃res,TC r.P r.E f gs 0 [] res []∧res.flat=true∧run (iK r) r os (s.step o.dst res [] s.nx) (if r.draw then jd o gd (cW++peek.map fun b=>(b,s.get b)) []::acc else[]) K)
  (ho:o.op= .call c:=by rfl) (hc:d_ (.call c)=true:=by rfl) (hf:s.qy r.P c.callee c.args.toList=tt:=by simp;rfl) (ht:tt=some (f,oL,cW):=by rfl) (fO:∀x∈cW,s.get x.1=x.2:=by simp) (hg:il s.get peek oL=gs:=by simp;rfl) (iH:∀b∈peek,rowOf (s.get b)=true:=by simp):iK r o os gd s acc K:=
 .of hc ho (h.elim fun _ h=>aC.peek ho hc (hf.trans ht) fO peek hg iH h.1 h.2.1 h.2.2)
theorem cF (peek:List Nat)(cnt:Nat)(h:∃res sto',TC r.P r.E f gs 0 [] res sto'∧(∀b∈res.names,b<cnt)∧(∀x∈sto',x.1<cnt∧∀b∈x.2.names,b<cnt)∧run (iK r) r os (s.step o.dst (res.bI (φ [] s.nx)) (jL s [] peek sto' cnt) (s.nx+cnt)) (if r.draw then jd o gd (cW++gr s [] peek cnt) (jL s [] peek sto' cnt)::acc else[]) K)
  (ho:o.op= .call c:=by rfl) (hc:d_ (.call c)=true:=by rfl) (hf:s.qy r.P c.callee c.args.toList=tt:=by simp;rfl) (ht:tt=some (f,oL,cW):=by rfl) (fO:∀x∈cW,s.get x.1=x.2:=by simp) (hg:il s.get peek oL=gs:=by simp;rfl) (iH:∀b∈peek,rowOf (s.get b)=true:=by simp) (h0:dY gs=[]:=by simp):iK r o os gd s acc K:=
 .of hc ho (h.elim fun _ h=>h.elim fun _ h=>aC.fresh ho hc (hf.trans ht) fO peek hg iH cnt h.1 h0 h.2.1 h.2.2.1 h.2.2.2)
theorem cR {b:Nat}{bx:List TV}(h:∃IK res,TC r.P r.E f (.s (.ptr 0 0)::gs) 1 [(0,.box bx)] res [(0,.box IK)]∧(az.box IK).names=[]∧res.names=[]∧run (iK r) r os (s.step o.dst res [(b,.box IK)] s.nx) (if r.draw then jd o gd (cW++[(b,some (.box bx))]) [(b,.box IK)]::acc else[]) K)
  (ho:o.op= .call c:=by rfl) (hc:d_ (.call c)=true:=by rfl) (hf:s.qy r.P c.callee c.args.toList=tt:=by simp;rfl) (ht:tt=some (f,oL,cW):=by rfl) (fO:∀x∈cW,s.get x.1=x.2:=by simp) (th:oL= .s (.ptr b 0)::gs:=by rfl) (hb:s.get b=some (.box bx):=by simp;rfl) (h0:dY gs=[]:=by simp) (h1:(az.box bx).names=[]:=by simp) (ak:b<s.nx:=by simp):iK r o os gd s acc K:=
 .of hc ho (h.elim fun _ h=>h.elim fun _ h=>aC.rd ho hc (hf.trans ht) fO th hb h.1 h0 h1 h.2.1 h.2.2.1 ak h.2.2.2)
theorem cL (frag:List Nat)(cnt:Nat)(h:∃args' sto0 sto' res,TC r.P r.E f args' frag.length sto0 res sto'∧oL=ik (φ frag s.nx) args'∧uY s (φ frag s.nx) sto0 0 frag∧(∀x∈sto0,x.1<frag.length∧x.2.live=true)∧(∀x∈sto',x.1<frag.length+cnt∧∀b∈x.2.names,b<frag.length+cnt)∧(∀b∈res.names,b<frag.length+cnt)∧run (iK r) r os (s.step o.dst (res.bI (φ frag s.nx)) (jL s frag [] sto' cnt) (s.nx+cnt)) (if r.draw then jd o gd (cW++gr s frag [] cnt) (jL s frag [] sto' cnt)::acc else[]) K)
  (ho:o.op= .call c:=by rfl) (hc:d_ (.call c)=true:=by rfl) (hf:s.qy r.P c.callee c.args.toList=tt:=by simp;rfl) (ht:tt=some (f,oL,cW):=by rfl) (fO:∀x∈cW,s.get x.1=x.2:=by simp) (hn:frag.Nodup:=by simp) (ak:∀b∈frag,b<s.nx:=by simp):iK r o os gd s acc K:=
 .of hc ho (h.elim fun _ h=>h.elim fun _ h=>h.elim fun _ h=>h.elim fun _ h=>aC.abA ho hc (hf.trans ht) fO frag cnt h.1 h.2.1 hn ak h.2.2.1 h.2.2.2.1 h.2.2.2.2.1 h.2.2.2.2.2.1 h.2.2.2.2.2.2)
end
theorem aI {A B:Prop}(b:B)(a:A:=by first|exact rfl|(show(_:Bool)=true;kernel_rfl)|(show(_:Bool)=true∧(_:Bool)=true;exact⟨by kernel_rfl,by kernel_rfl⟩)|omega|(simp;done)|(simp;omega)|exact Or.inl rfl):A∧B:=⟨a,b⟩
theorem oW {P:Program}{xs:List ResultVar}{m:Nat}{s:ah}{r:GV}{sto':List (Nat×az)}(ns cs:List Nat){r0:GV}(h:s.res P xs=some r0:=by simp;rfl)(hv:r0.cX s.get cs=r.bI (fN m ns):=by simp)(hn:∀b∈r.names,b<m∨(gt b sto').isSome=true:=by simp)
  (hc:∀b∈cs,∃e k xs,s.get b=some (.rows e k xs):=by simp) (hs:∀x∈sto',fN m ns x.1∉cs∧(s.get (fN m ns x.1)).map (az.cX s.get cs)=some (x.2.bI (fN m ns))∧∀b∈x.2.names,b<m∨(gt b sto').isSome=true:=by simp)
  (hi:∀x∈sto',∀y∈sto',fN m ns x.1=fN m ns y.1→x.1=y.1:=by simp):aT P xs m s r sto':= .own ns cs h hv hn hc hs hi
theorem kO {m:Nat}{s s':ah}(ns cs:List Nat)(hc:∀b∈cs,∃e k xs,s.get b=some (.rows e k xs):=by simp)(he:∀x∈s'.env,(lk x.1 s.env).cX s.get cs=x.2.bI (fN m ns)∧∀b∈x.2.names,b<s'.nx:=by simp)
  (hs:∀x∈s'.bp,x.1<s'.nx∧fN m ns x.1∉cs∧(s.get (fN m ns x.1)).map (az.cX s.get cs)=some (x.2.bI (fN m ns))∧∀b∈x.2.names,b<s'.nx:=by simp) (hi:∀x∈s'.bp,∀y∈s'.bp,fN m ns x.1=fN m ns y.1→x.1=y.1:=by simp) (hm:m≤s'.nx:=by simp):Wk m s s':= .own ns cs hc he hs hi hm
theorem kS {m:Nat}{s s':ah}(h1:∀x∈s'.env,lk x.1 s.env=x.2∧x.2.names.all (fun b=>decide (b<s'.nx))=true:=by simp)(h2:∀x∈s'.bp,s.get x.1=some x.2∧x.1<s'.nx∧x.2.names.all (fun b=>decide (b<s'.nx))=true:=by simp)(h3:m≤s'.nx:=by simp):Wk m s s':= .same h1 h2 h3
end Go.Proofs.YtabjbdnokpjipaaGreat.T
namespace Go.Proofs.YtabjbdnokpjipaaGreat
open Go.RowKit
theorem mE (a:Addr)(n:Nat):(a.add n).block=a.block:=by unfold Addr.add;split<;>rfl
theorem Ax (a:Addr)(i j:Nat):(a.add i).add j=a.add (i+j):=by
 unfold Addr.add;by_cases hi:i=0<;>by_cases hj:j=0<;>simp[hi,hj,Nat.add_assoc]
def Reads (w:World)(B size:Nat)(A:Option Addr)(n:Nat)(xs:List Value):Prop:=
 xs.length=n*size∧(0<n→∃ad,A=some ad∧ad.block<B∧∀j u,xs[j]?=some u→w.cell? (ad.add j)=some u)
section
variable {w w':World}{B B' size n:Nat}{A:Option Addr}{xs:List Value}
theorem Reads.none_:Reads w B size A 0 []:=⟨by simp,fun h=>absurd h (by omega)⟩
theorem Reads.at_ {k:Nat}(h:Reads w B 1 A n xs)(hk:k<n):∃ad u,A=some ad∧ad.block<B∧xs[k]?=some u∧w.cell? (ad.add k)=some u:=by
 obtain⟨ad,e,hb,hc⟩:=h.2 (by omega)
 have hl:k<xs.length:=by have:=h.1;omega
 exact⟨ad,xs[k],e,hb,List.getElem?_eq_getElem hl,hc k _ (List.getElem?_eq_getElem hl)⟩
theorem Reads.keep (h:Reads w B size A n xs)(hk:∀p:Addr,p.block<B→w'.cell? p=w.cell? p):Reads w' B size A n xs:=
 ⟨h.1,fun hn=>by
   obtain⟨ad,e,hb,hc⟩:=h.2 hn;exact⟨ad,e,hb,fun j u hu=>(hk _ (by rw[mE];exact hb)).trans (hc j u hu)⟩⟩
theorem Reads.more (h:Reads w B size A n xs)(hB:B≤B'):Reads w B' size A n xs:=
 ⟨h.1,fun hn=>by
   obtain⟨ad,e,hb,hc⟩:=h.2 hn;exact⟨ad,e,by omega,hc⟩⟩
theorem Reads.below (h:Reads w B size A n xs)(hb:Below B w w'):Reads w' B size A n xs:=h.keep fun _ hp=>hb.cell hp
theorem Reads.drew (h:Reads w B size A n xs):Reads w.drew B size A n xs:=h
theorem Reads.drewN (h:Reads w B size A n xs)(k:Nat):Reads (w.drewN k) B size A n xs:=h
theorem Reads.alloc (h:Reads w B size A n xs)(hB:B≤w.heap.size)(o:Obj):Reads (w.alloc o) B size A n xs:=h.keep fun p hp=>World.cell?_alloc_lt w o p (by omega)
theorem Reads.setCell (h:Reads w B size A n xs){p:Addr}(hB:B≤p.block)(u:Value):Reads (w.setCell p u) B size A n xs:=
 h.keep fun q hq=>World.cell?_setCell_other w p q u (fun e=>by subst e;omega)
theorem Reads.grown (h:Reads w B size A n xs){row:Option Nat}(hg:w.grownBy w' row)(hB:B≤w.heap.size)(hr:∀g,row=some g→B≤g):Reads w' B size A n xs:=
 h.keep fun p hp=>World.cell?_of_block (hg.block p.block (by omega) (fun e=>by have:=hr _ e.symm;omega))
theorem Reads.cut (h:Reads w B size A n xs){k cap:Nat}(hk:k≤n)(hc:n≤cap):
  Reads w B size (if cap=k then A else A.map (·.add (k*size))) (n-k) (xs.drop (k*size)):=by
 refine⟨by rw[List.length_drop,h.1,Nat.sub_mul],fun hn=>?_⟩
 obtain⟨ad,rfl,hb,cO⟩:=h.2 (by omega)
 rw[if_neg (by omega)]
 refine⟨ad.add (k*size),rfl,by rw[mE];exact hb,fun j u hu=>?_⟩
 rw[Ax];exact cO _ u (by rw[←hu,List.getElem?_drop])
end
def az (w:World)(g:Nat)(t:TypeId)(cs:Array Value):Prop:=w.heap[g]?=some (.cells cs t (0,0))
section
variable {w w':World}{g:Nat}{t:TypeId}{cs:Array Value}
theorem az.lt (h:az w g t cs):g<w.heap.size:=by
 rcases Nat.lt_or_ge g w.heap.size with ak|ov
 ·exact ak
 ·unfold az at h;rw[Array.getElem?_eq_none ov]at h;cases h
theorem az.cell (h:az w g t cs)(i:Nat):w.cell? ⟨g,i,none⟩=cs[i]?:=cell_of_row w g i cs t (0,0) h
theorem az.frozen (h:az w g t cs)(i:Nat):w.frozen? ⟨g,i,none⟩=false:=by
 unfold az at h;simp[World.frozen?,h]
theorem az.new (w:World)(t:TypeId)(cs:Array Value):az (w.alloc (.cells cs t)) w.heap.size t cs:=heap_alloc_new w _
theorem az.drew (h:az w g t cs):az w.drew g t cs:=h
theorem az.drewN (h:az w g t cs)(n:Nat):az (w.drewN n) g t cs:=h
theorem az.alloc (h:az w g t cs)(o:Obj):az (w.alloc o) g t cs:=(Below.heap_alloc w o g h.lt).trans h
theorem az.Nv (h:az w g t cs)(i:Nat)(u:Value):az (w.setCell ⟨g,i,none⟩ u) g t (cs.setIfInBounds i u):=by
 unfold az at h⊢;simp[World.setCell,Array.getElem?_modify,h]
theorem az.EZ (h:az w g t cs){p:Addr}(hp:g≠p.block)(u:Value):az (w.setCell p u) g t cs:=(Below.heap_setCell w p u g hp).trans h
theorem az.below {B:Nat}(h:az w g t cs)(hb:Below B w w')(hg:g<B):az w' g t cs:=(hb.block g hg).trans h
theorem az.grown {row:Option Nat}(h:az w g t cs)(hb:w.grownBy w' row)(hg:some g≠row):az w' g t cs:=(hb.block g h.lt hg).trans h
end
section
variable {P:Program}(w:World)
end
theorem az.abC (w:World)(t:TypeId)(cs:Array Value){g:Nat}(hg:g=w.heap.size):az (w.alloc (.cells cs t)) g t cs:=by subst hg;exact az.new w t cs
end Go.Proofs.YtabjbdnokpjipaaGreat
