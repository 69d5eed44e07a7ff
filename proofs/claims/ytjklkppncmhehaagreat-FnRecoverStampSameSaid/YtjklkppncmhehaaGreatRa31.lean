/-
What is proved: the walk of a region over trees ('vcRegion'), and that the machine does what it tells ('TW.region'). No condition.
-/
import Derived.Test.YtjklkppncmhehaaGreatRa30
set_option linter.unusedVariables false
set_option linter.unusedSimpArgs false
namespace Go.Proofs.YtjklkppncmhehaaGreat.T
open Go Go.RowKit
open Go.Proofs.YtjklkppncmhehaaGreat.Sr (tY rF)
abbrev Pl:=List (Nat ⊕ Nat)×List (Nat ⊕ Nat)
def tmpsOf:List Operand→List (Nat ⊕ Nat)
 |[]=>[]
 | .tmp t::xs=> .inl t::tmpsOf xs
 |_::xs=>tmpsOf xs
def fy (o:Oper)(gd:List (Nat ⊕ Nat))(fr:List (Nat×Option ak))(Δ:List (Nat×ak)):Pl:=
 (gd++tmpsOf o.op.operands.toList++fr.map (fun x=> .inr x.1),(match o.dst with|some d=>[.inl d]|none=>[])++Δ.map fun x=> .inr x.1)
def UB (g h:Pl):Bool:=g.2.any (fun l=>FX l (h.1++h.2))||h.2.any fun l=>FX l (g.1++g.2)
def Ge (gs:List Pl)(ms:List Nat):Bool:=(List.range gs.length).all fun j=>(List.range j).all fun i=>match gs[i]?,gs[j]? with
 |some g,some h=> !UB g h||(ms.getD j 0).testBit i
 |_,_=>true
def xi (g:Sg):Pl:=(nO g,dM g)
theorem Gf (gs:List Sg)(ms:List Nat):Ge (gs.map xi) ms=nn gs ms:=by
 unfold Ge nn;rw[List.length_map];congr 1
 funext j
 congr 1
 funext i
 rw[List.getElem?_map,List.getElem?_map]
 cases gs[i]?<;>cases gs[j]?<;>rfl
theorem oK (e:List (Nat×GV)):∀(xs:List Operand),(bF e xs).map (fun x=>(Sum.inl x.1:Nat ⊕ Nat))=tmpsOf xs
 |[]=>rfl
 |x::xs=>by cases x<;>simp[bF,tmpsOf,oK e xs]
def ae.step (s:ae)(dst:Option Nat)(g:GV)(Δ:List (Nat×ak))(iW:Nat):ae:=
 ⟨match dst with|some d=>(d,g)::s.env|none=>s.env,Δ++s.sto,iW⟩
def dN (d:Nat)(g:GV):List (Nat×GV)→List (Nat×GV)
 |[]=>[(d,g)]
 |(u,x)::e=>if d=u then(d,g)::e else(u,x)::dN d g e
theorem sv (d:Nat)(g:GV)(t:Nat):∀(e:List (Nat×GV)),lk t (dN d g e)=if t=d then g else lk t e
 |[]=>by simp[dN,lk]
 |(u,x)::e=>by
  simp only[dN];split
  ·rename_i h;subst h
   simp only[lk];split<;>rfl
  ·rename_i h
   simp only[lk,sv d g t e];by_cases U:t=u
   ·subst U;rw[if_pos rfl,if_neg (fun e=>h e.symm),if_pos rfl]
   ·rw[if_neg U,if_neg U]
def ae.n_ (s:ae)(d:Nat)(b:Bool):ae:=⟨dN d (gB b) s.env,s.sto,s.nx⟩
def GV.undef?:GV→Bool
 | .p []=>true
 |_=>false
def qc (ops:Array Oper)(j:Nat):Option Nat:=(ops[j]?).bind (·.dst)
def kR (P:Program)(E:List PanicEntry→World→Prop)(nt:Nat)(ops:Array Oper)(draw:Bool):List Oper→ae→List Pl→(ae→List Pl→Prop)→Prop
 |[],s,acc,K=>K s acc
 |o::os,s,acc,K=>bu o nt=true∧match o.guard with
  |none=>su P E s o.op fun fr gv Δ iW=>kR P E nt ops draw os (s.step o.dst gv Δ iW) (if draw then acc++[fy o [] fr Δ]else[]) K
  |some (j,want)=>∃d,qc ops j=some d∧d<nt∧(((lk d s.env).undef?=true∧kR P E nt ops draw os (s.step o.dst (.p []) [] s.nx) (if draw then acc++[([.inl d],match o.dst with|some d=>[.inl d]|none=>[])]else[]) K)∨∃b,(lk d s.env).b?=some b∧
   (b=want→su P E (s.n_ d want) o.op fun fr gv Δ iW=>kR P E nt ops draw os ((s.n_ d want).step o.dst gv Δ iW) (if draw then acc++[fy o [.inl d] fr Δ]else[]) K)∧
   (b= !want→kR P E nt ops draw os ((s.n_ d (!want)).step o.dst (.p []) [] s.nx) (if draw then acc++[([.inl d],match o.dst with|some d=>[.inl d]|none=>[])]else[]) K))
def qS (s:ae):Bool:=s.sto.all fun x=>decide (x.1<s.nx)
def Ms (P:Program)(E:List PanicEntry→World→Prop)(nt:Nat)(ops:Array Oper)(draw:Bool)(s:ae)(K:ae→Prop):Prop:=
 qS s=true∧kR P E nt ops draw ops.toList s [] fun s' pl=>(draw=true→(l9 (c8 ops.toList)&&Ge pl (l8 (c8 ops.toList)))=true)∧K s'
def Ag (s:ae)(σ:St):Prop:=(∀t,lk t s.env=σ.1 t)∧∀b,s.get b=σ.2 b
theorem Ag.step {s:ae}{σ:St}(h:Ag s σ){fr:List (Nat×Option ak)}{Δ:List (Nat×ak)}{iW:Nat}(hn:uo s fr Δ iW)(ins:List (Nat×GV))(dst:Option Nat)(g:GV):Ag (s.step dst g Δ iW) (ap ⟨fr,ins,dst,g,Δ⟩ σ):=by
 refine⟨fun t=>?_,fun b=>?_⟩
 ·simp only[ae.step,ap,put]
  cases dst with
  |none=>simpa using h.1 t
  |some d=>
   simp only[lk,Option.some.injEq];by_cases e:t=d
   ·subst e;simp
   ·rw[if_neg e,if_neg (fun e'=>e e'.symm)];exact h.1 t
 ·show(match gt b (Δ++s.sto)with|some y=>some y|none=>if b<iW then some ak.dead else none)=(match gt b Δ with|some y=>some y|none=>σ.2 b)
  rw[kN];have hb:=h.2 b
  cases hg:gt b Δ with
  |some y=>rfl
  |none=>
   simp only
   rw[←hb];unfold ae.get
   cases gt b s.sto with
   |some y=>rfl
   |none=>
    simp only
    by_cases U:b<s.nx
    ·rw[if_pos U,if_pos (by have:=hn.le;omega)]
    ·by_cases h2:b<iW
     ·exact absurd hg (hn.new b (by omega) h2)
     ·rw[if_neg U,if_neg h2]
theorem Ag.n_ {s:ae}{σ:St}(h:Ag s σ){d:Nat}{b:Bool}(hb:(lk d s.env).b?=some b):Ag (s.n_ d b) σ:=by
 refine⟨fun t=>?_,h.2⟩
 simp only[ae.n_,sv];by_cases e:t=d
 ·subst e
  rw[if_pos rfl,←h.1 t];unfold GV.b? at hb;split at hb
  ·rename_i e;cases hb;rw[e];rfl
  ·cases hb
 ·rw[if_neg e];exact h.1 t
theorem I1 {s:ae}(h:qS s=true):∀x∈s.sto,x.1<s.nx:=by
 intro x hx;simp only[qS,List.all_eq_true]at h;simpa using h x hx
theorem lJ {s:ae}(h:∀x∈s.sto,x.1<s.nx){fr:List (Nat×Option ak)}{Δ:List (Nat×ak)}{iW:Nat}(hn:uo s fr Δ iW)(dst:Option Nat)(g:GV):∀x∈(s.step dst g Δ iW).sto,x.1<(s.step dst g Δ iW).nx:=by
 intro x hx;rcases List.mem_append.1 hx with hx|hx
 ·exact hn.lt x hx
 ·have:=h x hx;have:=hn.le;simp only[ae.step];omega
theorem Gg {gs dP:List Sg}{σ:St}(n:Nat):n≤gs.length→can (gs++dP) σ n=can gs σ n:=by
 induction n with
 |zero=>intro _;rfl
 |succ n ih=>
  intro h;have ih:=ih (by omega)
  have U:(gs++dP)[n]?=gs[n]?:=List.getElem?_append_left (by omega)
  simp only[can]at ih;simp only[can,dg,U,ih]
section
variable {P:Program}{E:List PanicEntry→World→Prop}{nt:Nat}{ops:Array Oper}
theorem Mt {i:Nat}{o:Oper}(ho:ops[i]?=some o)(hg:o.guard=none){fr:List (Nat×Option ak)}{ins:List (Nat×GV)}{gv:GV}{Δ:List (Nat×ak)}(h:dR P E nt o fr ins gv Δ):nm P E nt ops i ⟨fr,ins,o.dst,gv,Δ⟩:=by
 intro C env get a w rest Q hC hf hi hR hK hE;simp only[wpOps,ho];rw[if_pos (by simp[Region.wanted,hg])]
 exact .inl (h C env get a w _ Q hC hf hi hR (fun a' w' nf=>hK a' w' nf) hE)
theorem xj {C:Ctx}{env:Nat→GV}{get:Nat→Option ak}{a:Act}{w:World}(hR:R C env get a w){j d:Nat}(hd:qc ops j=some d)(aj:d<C.nt){b:Bool}(he:env d=gB b):yielded ops a.tmps j=some b:=by
 obtain⟨ρ,D,hR⟩:=hR;have:=hR.env d
 rw[he]at this;have U:=pg this;have h2:d<a.tmps.size:=by rw[hR.nt];exact aj
 unfold yielded;unfold qc at hd;rw[hd];simp only[Option.bind_some];rw[Array.getElem?_eq_getElem h2];simp only[Array.getD_eq_getD_getElem?,Array.getElem?_eq_getElem h2,Option.getD_some]at U;rw[U]
theorem Gi {i:Nat}{o:Oper}(ho:ops[i]?=some o){j d:Nat}{want:Bool}(hg:o.guard=some (j,want))(hj:qc ops j=some d)(aj:d<nt){fr:List (Nat×Option ak)}{ins:List (Nat×GV)}{gv:GV}{Δ:List (Nat×ak)}(h:dR P E nt o fr ins gv Δ):
  nm P E nt ops i ⟨fr,(d,gB want)::ins,o.dst,gv,Δ⟩:=by
 intro C env get a w rest Q hC hf hi hR hK hE;have hy:=xj hR hj (by rw[hC];exact aj) (hi (d,gB want) (List.mem_cons_self ..))
 simp only[wpOps,ho];rw[if_pos (by simp[Region.wanted,hg,hy])]
 exact .inl (h C env get a w _ Q hC hf (fun x hx=>hi x (List.mem_cons_of_mem _ hx)) hR (fun a' w' nf=>hK a' w' nf) hE)
theorem Gj {i:Nat}{o:Oper}(ho:ops[i]?=some o)(I2:bu o nt=true){j d:Nat}{want:Bool}(hg:o.guard=some (j,want))(hj:qc ops j=some d)(aj:d<nt):
  nm P E nt ops i ⟨[],[(d,gB (!want))],o.dst,.p [],[]⟩:=by
 intro C env get a w rest Q hC hf hi hR hK hE;have hy:=xj hR hj (by rw[hC];exact aj) (hi (d,gB (!want)) (List.mem_cons_self ..))
 simp only[wpOps,ho];rw[if_neg (by simp[Region.wanted,hg,hy])]
 refine hK _ _ ?_;obtain⟨ρ,D,hR⟩:=hR;refine⟨ρ,D,?_⟩;show Rel C (put env o.dst (.p [])) (upd get []) (a.put o.dst undef) w ρ D
 rw[FI];refine hR.put (fun d' e=>?_) (.p rfl fun i g h=>by simp at h)
 unfold bu at I2;rw[e]at I2;simpa[hC]using I2
theorem Gk {i:Nat}{o:Oper}(ho:ops[i]?=some o)(I2:bu o nt=true){j d:Nat}{want:Bool}(hg:o.guard=some (j,want))(hj:qc ops j=some d)(aj:d<nt):
  nm P E nt ops i ⟨[],[(d,.p [])],o.dst,.p [],[]⟩:=by
 intro C env get a w rest Q hC hf hi hR hK hE;obtain⟨ρ,D,hR⟩:=hR;have U:=hR.env d;rw[hi (d,.p []) (List.mem_cons_self ..)]at U;have hy:yielded ops a.tmps j=none:=by
  unfold yielded;unfold qc at hj;rw[hj];have h2:d<a.tmps.size:=by rw[hR.nt,hC];exact aj
  simp only[Option.bind_some,Array.getElem?_eq_getElem h2];simp only[Array.getD_eq_getD_getElem?,Array.getElem?_eq_getElem h2,Option.getD_some]at U;generalize a.tmps[d]=v at U
  cases U;rfl
 simp only[wpOps,ho];rw[if_neg (by simp[Region.wanted,hg,hy])]
 refine hK _ _ ⟨ρ,D,?_⟩;show Rel C (put env o.dst (.p [])) (upd get []) (a.put o.dst undef) w ρ D
 rw[FI];refine hR.put (fun d' e=>?_) (.p rfl fun i g h=>by simp at h)
 unfold bu at I2;rw[e]at I2;simpa[hC]using I2
structure I3 (P:Program) (E:List PanicEntry→World→Prop) (nt:Nat) (ops:Array Oper) (σ:St) (gs:List Sg) (s:ae):Prop where
 step:∀(i:Nat) (g:Sg),gs[i]?=some g→nm P E nt ops i g
 fr:∀(i:Nat) (g:Sg),gs[i]?=some g→∀x∈g.fr,(can gs σ i).2 x.1=x.2
 ins:∀(i:Nat) (g:Sg),gs[i]?=some g→∀x∈g.ins,(can gs σ i).1 x.1=x.2
 ag:Ag s (can gs σ gs.length)
 lt:∀x∈s.sto,x.1<s.nx
theorem I3.push {σ:St}{gs:List Sg}{s s1:ae}(h:I3 P E nt ops σ gs s){g:Sg}(U:nm P E nt ops gs.length g)(h2:∀x∈g.fr,s.get x.1=x.2)(h3:∀x∈g.ins,lk x.1 s.env=x.2)(h4:Ag s1 (ap g (can gs σ gs.length)))(h5:∀x∈s1.sto,x.1<s1.nx):I3 P E nt ops σ (gs++[g]) s1:=by
 have Gl:∀i,i≤gs.length→can (gs++[g]) σ i=can gs σ i:=fun i hi=>Gg i hi
 have vX:(gs++[g])[gs.length]?=some g:=by simp
 have I4:∀(i:Nat) (g':Sg),(gs++[g])[i]?=some g'→(i<gs.length∧gs[i]?=some g')∨(i=gs.length∧g'=g):=by
  intro i g' hi;rw[List.getElem?_append]at hi;split at hi
  ·exact .inl ⟨‹_›,hi⟩
  ·have:i-gs.length=0:=by
    have:=(List.getElem?_eq_some_iff.1 hi).1
    simp at this;omega
   rw[this]at hi
   cases hi;exact .inr ⟨by omega,rfl⟩
 refine⟨fun i g' hi=>?_,fun i g' hi x hx=>?_,fun i g' hi x hx=>?_,?_,h5⟩
 ·rcases I4 i g' hi with⟨_,hi⟩|⟨rfl,rfl⟩
  ·exact h.step i g' hi
  ·exact U
 ·rcases I4 i g' hi with⟨aj,hi⟩|⟨rfl,rfl⟩
  ·rw[Gl i (by omega)];exact h.fr i g' hi x hx
  ·rw[Gl _ (Nat.le_refl _),←h.ag.2];exact h2 x hx
 ·rcases I4 i g' hi with⟨aj,hi⟩|⟨rfl,rfl⟩
  ·rw[Gl i (by omega)];exact h.ins i g' hi x hx
  ·rw[Gl _ (Nat.le_refl _),←h.ag.1];exact h3 x hx
 ·rw[List.length_append,List.length_singleton,tt vX,Gl _ (Nat.le_refl _)]
  exact h4
theorem po (e:List (Nat×GV)):∀(xs:List Operand),∀x∈bF e xs,lk x.1 e=x.2
 |[],x,h=>by cases h
 |y::xs,x,h=>by
  cases y with
  |tmp t=>
   rcases List.mem_cons.1 h with rfl|h
   ·rfl
   ·exact po e xs x h
  |_=>exact po e xs x h
theorem ir {draw:Bool}{σ:St}{K:ae→List Pl→Prop}:∀(os:List Oper) (gs:List Sg) (s:ae) (acc:List Pl) (pre:List Oper),ops.toList=pre++os→gs.length=pre.length→I3 P E nt ops σ gs s→(draw=true→acc=gs.map xi)→kR P E nt ops draw os s acc K→
  ∃dP s' So,I3 P E nt ops σ dP s'∧dP.length=ops.size∧(draw=true→So=dP.map xi)∧K s' So
 |[],gs,s,acc,pre,ur,hl,hp,ha,h=>⟨gs,s,acc,hp,by rw[hl,←Array.length_toList,ur,List.append_nil],ha,h⟩
 |o::os,gs,s,acc,pre,ur,hl,hp,ha,h=>by
  have ho:ops[gs.length]?=some o:=by
   rw[←Array.getElem?_toList,ur,hl];simp
  have BR:ops.toList=(pre++[o])++os:=by simp[ur]
  simp only[kR]at h;obtain⟨hd,h⟩:=h;split at h
  ·rename_i hg
   obtain⟨fr,gv,Δ,iW,U,h2,h3⟩:=uq (nt:=nt) hp.lt hd h;refine ir os (gs++[⟨fr,_,o.dst,gv,Δ⟩]) _ _ (pre++[o]) BR (by simp[hl]) (hp.push (Mt ho hg U) h2.fr (po _ _) (hp.ag.step h2 _ _ _) (lJ hp.lt h2 _ _)) (fun tv=>?_) h3
   rw[tv,if_pos rfl,ha tv,List.map_append];congr 1
   simp only[List.map_cons,List.map_nil,xi,nO,dM,fy,oK,List.nil_append];rfl
  ·rename_i j want hg
   obtain⟨d,hj,aj,⟨hu,h⟩|⟨b,hb,hr,ZY⟩⟩:=h
   ·have ZZ:lk d s.env= .p []:=by
     unfold GV.undef? at hu;split at hu
     ·assumption
     ·cases hu
    have xm:uo s [] [] s.nx:= .nil hp.lt fun x hx=>(by cases hx)
    refine ir os (gs++[⟨[],[(d,.p [])],o.dst,.p [],[]⟩]) _ _ (pre++[o]) BR (by simp[hl]) (hp.push (Gk ho hd hg hj aj) (fun x hx=>by cases hx) (fun x hx=>?_) (hp.ag.step xm _ _ _) (lJ hp.lt xm _ _)) (fun tv=>?_) h
    ·simp only[List.mem_cons,List.not_mem_nil,or_false]at hx
     subst hx;exact ZZ
    ·rw[tv,if_pos rfl,ha tv,List.map_append]
     congr 1
     simp only[List.map_cons,List.map_nil,xi,nO,dM,List.append_nil];rfl
   by_cases Z0:b=want
   ·subst Z0
    obtain⟨fr,gv,Δ,iW,U,h2,h3⟩:=uq (s:=s.n_ d b) (nt:=nt) hp.lt hd (hr rfl);have aV:I3 P E nt ops σ gs (s.n_ d b):=⟨hp.step,hp.fr,hp.ins,hp.ag.n_ hb,hp.lt⟩
    refine ir os (gs++[⟨fr,(d,gB b)::_,o.dst,gv,Δ⟩]) _ _ (pre++[o]) BR (by simp[hl]) (aV.push (Gi ho hg hj aj U) h2.fr (fun x hx=>?_) (aV.ag.step h2 _ _ _) (lJ aV.lt h2 _ _)) (fun tv=>?_) h3
    ·rcases List.mem_cons.1 hx with rfl|hx
     ·simp[ae.n_,sv]
     ·exact po _ _ x hx
    ·rw[tv,if_pos rfl,ha tv,List.map_append]
     congr 1
     simp only[List.map_cons,List.map_nil,xi,nO,dM,fy,oK,List.cons_append,List.nil_append];rfl
   ·have W8:b= !want:=by cases b<;>cases want<;>simp_all
    subst W8;have aV:I3 P E nt ops σ gs (s.n_ d (!want)):=⟨hp.step,hp.fr,hp.ins,hp.ag.n_ hb,hp.lt⟩
    have xm:uo (s.n_ d (!want)) [] [] s.nx:=uo.nil (s:=s.n_ d (!want)) hp.lt fun x hx=>(by cases hx)
    refine ir os (gs++[⟨[],[(d,gB (!want))],o.dst,.p [],[]⟩]) _ _ (pre++[o]) BR (by simp[hl]) (aV.push (Gj ho hd hg hj aj) (fun x hx=>by cases hx) (fun x hx=>?_) (aV.ag.step xm _ _ _) (lJ aV.lt xm _ _)) (fun tv=>?_) (ZY rfl)
    ·simp only[List.mem_cons,List.not_mem_nil,or_false]at hx
     subst hx;simp[ae.n_,sv]
    ·rw[tv,if_pos rfl,ha tv,List.map_append]
     congr 1
     simp only[List.map_cons,List.map_nil,xi,nO,dM,List.append_nil];rfl
theorem TW.region {m id:Nat}{draw:Bool}{Q:Exit→ae→Prop}{s:ae}(qd:P.follows .mixedOrders=true)(h:Ms P E nt ops draw s fun s'=>Q .normal s'):TW P E nt m (.region id ops draw) Q s:=by
 intro C a w hn hm hR Q' hQ hE;obtain⟨aj,h⟩:=h;obtain⟨gs,s',acc,hp,hlen,wU,tv,hK⟩:=ir (σ:=(gN s,s.get)) ops.toList [] s [] [] rfl rfl ⟨fun i g h=>by simp at h,fun i g h=>by simp at h,fun i g h=>by simp at h,⟨fun t=>rfl,fun b=>rfl⟩,I1 aj⟩ (fun _=>rfl) h
 have fL:Region.Ok P E nt ops gs (gN s,s.get):=⟨hlen,hp.step,hp.fr,hp.ins⟩
 have vM:∀a w,R C (can gs (gN s,s.get) gs.length).1 (can gs (gN s,s.get) gs.length).2 a w→Q' .normal a w:=by
  intro a w nf;refine hQ _ s' a w hK ?_;have e1:gN s'=(can gs (gN s,s.get) gs.length).1:=funext hp.ag.1
  have e2:s'.get=(can gs (gN s,s.get) gs.length).2:=funext hp.ag.2
  rw[e1,e2];exact nf
 cases draw with
 |false=>
  refine wp_region ?_;rw[List.range_eq_range'];exact BK fL hn hE vM ops.size 0 (by rw[Nat.zero_add];exact hlen.symm) a w hR
 |true=>
  refine wp_region_draw fun t=>?_;have hd:=tv rfl;simp only[Bool.and_eq_true]at hd;obtain⟨qF,vY⟩:=hd;rw[wU rfl,Gf]at vY;have lA:tY ops ops.size (Array.replicate ops.size false) (Region.schedule (P.follows .mixedOrders) ops t):=by
   unfold Region.schedule;rw[qd];exact rF ops _ _ _
  refine F4 fL qF vY hn hE vM ops.size _ _ lA (by simp) ?_ (fun j es hj hx=>?_) a _ ?_
  ·unfold left
   exact Nat.le_trans (List.countP_le_length) (by simp)
  ·simp only[Array.getD_eq_getD_getElem?,Array.getElem?_replicate]at hx
   split at hx<;>simp at hx
  ·rw[Mk (fun i hi=>by
    simp only[Array.getD_eq_getD_getElem?,Array.getElem?_replicate];split<;>rfl) _ (Nat.le_refl _)]
   obtain⟨ρ,D,hR⟩:=hR;exact⟨ρ,D,hR.heap rfl rfl rfl rfl⟩
end
end Go.Proofs.YtjklkppncmhehaaGreat.T
