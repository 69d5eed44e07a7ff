/-
What is proved: what the program's 'sorted' does to trees and what rests on it. Conditions: as stated.
-/
import Derived.Test.YtabjbdnokpjipaaGreatRw36
set_option linter.unusedVariables false
set_option linter.unusedSimpArgs false
namespace Go.Proofs.YtabjbdnokpjipaaGreat.T
open Go Go.RowKit
set_option maxRecDepth 100000
set_option maxHeartbeats 4000000
variable {E:List PanicEntry→World→Prop}
def lr:Nat→List aB→List aB
 |k+1,x::es=>x::lr k (oT x es)
 |_,_=>[]
def uj (es:List aB):List aB:=lr es.length (rP es)
theorem qD (x:aB)(es:List aB):(oT x es).length=es.length:=by
 unfold oT;rw[List.length_take,kx,jI,List.length_cons];omega
theorem rQ (es:List aB):(rP es).length=es.length:=Dn _ _ _
theorem F7 (es:List aB)(hlen:es.length≤4294967290):TC Tw.prog E 149 [gR (dj es)] 0 [] (.s (.own 0)) [(0,dU (uj es))]:=by
 have hC:=iT (E:=E) es (by omega)
 have hI:=aaZ (E:=E) es (by omega)
 have hl:=rQ es;have acv:uj es=lr es.length (rP es):=rfl
 generalize uj es=R at*;generalize rP es=H at*;refine tE Tryz.f149 Tryz.ntmps149 (by rw[Tryz.results149]) ?_
 (refine TW.go ?_;simp;repeat' first|intro hc|refine aa.mk ?_|refine aI ?_|refine af ?_ ?_|(refine cF [] 1 ?_;refine⟨_,_,hC,?_⟩;simp)|(refine cL [1,0] 0 ?_;refine⟨_,_,_,_,hI,?_⟩;simp))
 refine tL (fun(x:List aB×List aB)=>⟨[(3,.s (.ptr 0 0)),(4,.s (.own 2))],[(0,.box [.own 1]),(1,dU x.1),(2,dU x.2)],3⟩) (fun x=>R=x.2++lr x.1.length x.1∧x.1.length+x.2.length=es.length) (fun x=>x.1.length) (H,[]) ⟨by rw[acv,hl,List.nil_append],by simp[hl]⟩ (kO [1,0,2] []) fun⟨zs,out⟩ hk=>?_
 dsimp only at hk⊢
 obtain⟨hd,Dq⟩:=hk;rcases zs with _|⟨x,zs⟩
 ·have hR:R=out:=by rw[hd];simp[lr]
  subst hR;(refine TW.go ?_;simp;repeat' first|intro hc|refine aa.mk ?_|refine aI ?_|refine af ?_ ?_)
  exact oW [2] []
 ·have hP:=aa0 (E:=E) x zs (by simp at Dq;omega)
  have qv:=qD x zs;have hz:(x::zs).length=zs.length+1:=rfl
  have zg:R=(out++[x])++lr (oT x zs).length (oT x zs):=by rw[hd,qv,hz,lr];simp
  have hol:out.length+1≤maxLen:=by simp at Dq;simp only[maxLen];omega
  generalize oT x zs=Q at*;generalize x::zs=Z at*;(refine TW.go ?_;simp[hz,aG,maxLen,hol];repeat' first|intro hc|refine aa.mk ?_|refine aI ?_|refine af ?_ ?_|(refine cL [0,1] 1 ?_;refine⟨_,_,_,_,hP,?_⟩;simp[hz,aG,maxLen,hol]))
  exact⟨(Q,out++[x]),⟨zg,by simp at Dq⊢;omega⟩,by dsimp only;omega,Wk.own [0,3,6] [] (by simp) (by simp) (by simp[aG]) (by simp) (by simp)⟩
end Go.Proofs.YtabjbdnokpjipaaGreat.T
namespace Go.Proofs.YtabjbdnokpjipaaGreat.T
open Go Go.RowKit
theorem pK {a b:aB}(h:bg a b=true):bg b a=false:=by
 simp only[bg,aO,decide_eq_true_eq,decide_eq_false_iff_not]at*;omega
theorem rR {a b c:aB}(h:bg b a=false)(k:bg c b=false):bg c a=false:=by
 simp only[bg,aO,decide_eq_false_iff_not]at*;omega
theorem pL (a:aB):bg a a=false:=by
 simp only[bg,aO,decide_eq_false_iff_not];omega
def zv (es:List aB)(n p:Nat):Prop:=∀j,(j=2*p+1∨j=2*p+2)→j<n→∀a b,es[p]?=some a→es[j]?=some b→bg b a=false
theorem Dr {es:List aB}{i j:Nat}{a b:aB}(hi:i<es.length)(hj:j<es.length)(m:Nat):(fT es i j a b)[m]?=if j=m then some a else if i=m then some b else es[m]?:=by
 unfold fT;rw[List.getElem?_set,List.length_set,if_pos hj,List.getElem?_set,if_pos hi]
theorem swap_perm {es:List aB}{i j:Nat}{a b:aB}(ha:es[i]?=some a)(hb:es[j]?=some b):(fT es i j a b).Perm es:=by
 obtain⟨hi,rfl⟩:=List.getElem?_eq_some_iff.1 ha;obtain⟨hj,rfl⟩:=List.getElem?_eq_some_iff.1 hb;exact List.set_set_perm hi hj
theorem F8 (es:List aB)(i j:Nat):(gM es i j).Perm es:=by
 unfold gM;split
 ·rename_i ha hb;exact swap_perm ha hb
 ·exact .refl _
theorem w_:∀(f:Nat) (es:List aB) (i n:Nat),(cE f es i n).1.Perm es
 |0,es,_,_=> .refl es
 |f+1,es,i,n=>by
  unfold cE;split
  ·exact(w_ f _ _ _).trans (F8 es _ _)
  ·exact .refl _
theorem Vn {es:List aB}{i n:Nat}(h:qC es i n=none)(hn:n≤es.length)(hi:i<es.length):zv es n i:=by
 intro j hj jC a b ha hb;unfold qC at h;have hle:¬n≤2*i+1:=by omega
 rw[if_neg hle,ha]at h;have h1:es[2*i+1]?=some es[2*i+1]:=List.getElem?_eq_getElem (by omega)
 generalize es[2*i+1]=b1 at h1;rw[h1]at h
 cases h2:es[2*i+2]? with
 |none=>
  rw[h2]at h;rcases hj with rfl|rfl
  ·rw[h1]at hb;cases hb
   simp only at h
   split at h
   ·cases h
   ·rename_i hf;simpa using hf
  ·rw[h2]at hb;cases hb
 |some c=>
  rw[h2]at h;simp only at h
  split at h
  ·rename_i hc
   split at h
   ·cases h
   ·rename_i hf
    have rk:bg c a=false:=by simpa using hf
    rcases hj with rfl|rfl
    ·rw[h1]at hb;cases hb
     exact rR rk (pK hc.2)
    ·rw[h2]at hb;cases hb
     exact rk
  ·rename_i hc
   split at h
   ·cases h
   ·rename_i hf
    have rk:bg b1 a=false:=by simpa using hf
    rcases hj with rfl|rfl
    ·rw[h1]at hb;cases hb
     exact rk
    ·rw[h2]at hb
     cases hb;have:bg b b1=false:=by
      cases yr:bg b b1
      ·rfl
      ·exact absurd ⟨jC,yr⟩ hc
     exact rR rk this
theorem Vo {es:List aB}{i n j:Nat}(h:qC es i n=some j)(hn:n≤es.length)(hi:i<es.length):(j=2*i+1∨j=2*i+2)∧j<n∧∃a b,es[i]?=some a∧es[j]?=some b∧bg b a=true∧∀k,(k=2*i+1∨k=2*i+2)→k<n→∀c,es[k]?=some c→bg c b=false:=by
 have ak:=NB h;unfold qC at h;have ha:es[i]?=some es[i]:=List.getElem?_eq_getElem hi
 generalize es[i]=a at ha;split at h
 ·cases h
 ·rename_i hle
  have h1:es[2*i+1]?=some es[2*i+1]:=List.getElem?_eq_getElem (by omega)
  generalize es[2*i+1]=b1 at h1;rw[ha,h1]at h
  cases h2:es[2*i+2]? with
  |none=>
   rw[h2]at h;simp only at h
   split at h
   ·rename_i hf
    cases h;refine⟨.inl rfl,ak.2,a,b1,ha,h1,hf,fun k hk gN c hc=>?_⟩
    rcases hk with rfl|rfl
    ·rw[h1]at hc;cases hc;exact pL _
    ·rw[h2]at hc;cases hc
   ·cases h
  |some c2=>
   rw[h2]at h;simp only at h
   split at h
   ·rename_i hc
    split at h
    ·rename_i hf
     cases h;refine⟨.inr rfl,ak.2,a,c2,ha,h2,hf,fun k hk gN c cI=>?_⟩
     rcases hk with rfl|rfl
     ·rw[h1]at cI;cases cI;exact pK hc.2
     ·rw[h2]at cI;cases cI;exact pL _
    ·cases h
   ·rename_i hc
    split at h
    ·rename_i hf
     cases h;refine⟨.inl rfl,ak.2,a,b1,ha,h1,hf,fun k hk gN c cI=>?_⟩
     rcases hk with rfl|rfl
     ·rw[h1]at cI;cases cI;exact pL _
     ·rw[h2]at cI;cases cI
      cases yr:bg c2 b1
      ·rfl
      ·exact absurd ⟨gN,yr⟩ hc
    ·cases h
theorem Ds (n lo:Nat):∀(f:Nat) (es:List aB) (i:Nat),lo≤i→i<es.length→n≤es.length→n+1≤f+i→(∀p,lo≤p→p≠i→zv es n p)→
  (∀p,lo≤p→(i=2*p+1∨i=2*p+2)→∀j,(j=2*i+1∨j=2*i+2)→j<n→∀a b,es[p]?=some a→es[j]?=some b→bg b a=false)→∀p,lo≤p→zv (cE f es i n).1 n p
 |0,es,i,It,hi,hn,hf,h1,h2,p,hp=>by
  intro j hj jC;by_cases hpi:p=i
  ·exfalso;omega
  ·exact h1 p hp hpi j hj jC
 |f+1,es,i,It,hi,hn,hf,h1,h2,p,hp=>by
  unfold cE;split
  ·rename_i j hk
   obtain⟨hj,jC,a,b,ha,hb,kZ,adF⟩:=Vo hk hn hi;have NC:j<es.length:=by omega
   have Y1:gM es i j=fT es i j a b:=by unfold gM;rw[ha,hb]
   rw[Y1];have hg:=Dr (a:=a) (b:=b) hi NC;refine Ds n lo f (fT es i j a b) j (by omega) (by rw[l9];exact NC) (by rw[l9];exact hn) (by omega) (fun q hq hqj=>?_) (fun q hq hjq k cM gN x y hx hy=>?_) p hp
   ·intro k cM gN x y hx hy
    rw[hg]at hx hy;rw[if_neg (by omega)]at hx
    by_cases Y2:i=q
    ·subst Y2
     rw[if_pos rfl]at hx
     cases hx;by_cases A0:j=k
     ·rw[if_pos A0]at hy;cases hy;exact pK kZ
     ·rw[if_neg A0,if_neg (by omega)]at hy
      exact adF k cM gN y hy
    ·rw[if_neg Y2]at hx
     have A0:j≠k:=by omega
     rw[if_neg A0]at hy;by_cases hki:i=k
     ·rw[if_pos hki]at hy
      cases hy;subst hki;exact h2 q hq cM j hj jC x _ hx hb
     ·rw[if_neg hki]at hy
      exact h1 q hq (Ne.symm Y2) k cM gN x y hx hy
   ·have Y2:i=q:=by omega
    subst Y2;rw[hg]at hx hy;rw[if_neg (by omega),if_pos rfl]at hx
    cases hx;rw[if_neg (by omega),if_neg (by omega)]at hy
    exact h1 j (by omega) (by omega) k cM gN _ y hb hy
  ·rename_i hk
   by_cases hpi:p=i
   ·subst hpi;exact Vn hk hn hi
   ·exact h1 p hp hpi
theorem Dt (n:Nat):∀(k:Nat) (es:List aB),(rO es n k).Perm es
 |0,es=> .refl es
 |k+1,es=>(Dt n k _).trans (w_ _ _ _ _)
theorem ND (n:Nat):∀(k:Nat) (es:List aB),n=es.length→k≤n / 2→(∀p,k≤p→zv es n p)→∀p,zv (rO es n k) n p
 |0,es,_,_,h,p=>h p (by omega)
 |k+1,es,hn,hk,h,p=>ND n k _ (by rw[kx];exact hn) (by omega) (Ds n k (n+1) es k (by omega) (by omega) (by omega) (by omega) (fun q hq Vp=>h q (by omega)) (fun q hq hkq=>by omega)) p
def yu (es:List aB):Prop:=∀p,zv es es.length p
theorem Y3 (es:List aB):yu (rP es):=by
 intro p;rw[rQ];exact ND es.length (es.length / 2) es rfl (by omega) (fun p hp j hj jC=>by omega) p
theorem QS (es:List aB):(rP es).Perm es:=Dt _ _ _
theorem Vq (x:aB)(es:List aB):(oT x es).Perm es:=by
 have h:=(w_ (es.length+1) (gM (x::es) 0 es.length) 0 es.length).trans (F8 (x::es) 0 es.length);rw[Dp]at h;exact List.Perm.cons_inv ((List.perm_append_comm (l₁:=[x]) (l₂:=oT x es)).trans h)
theorem aa1 {x:aB}{es:List aB}(h:yu (x::es)):yu (oT x es):=by
 have nh:(x::es)[es.length]?=some ((x::es)[es.length]'(by simp)):=List.getElem?_eq_getElem (by simp)
 generalize(x::es)[es.length]'(by simp)=l at nh
 have Y1:gM (x::es) 0 es.length=fT (x::es) 0 es.length x l:=by
  unfold gM;rw[nh];rfl
 have hg:=Dr (es:=x::es) (i:=0) (j:=es.length) (a:=x) (b:=l) (by simp) (by simp)
 have hd:=Ds es.length 0 (es.length+1) (gM (x::es) 0 es.length) 0 (by omega) (by rw[jI];simp) (by rw[jI];simp) (by omega) (fun p hp hp0=>by
  intro j hj jC a b ha hb;rw[Y1,hg]at ha hb;rw[if_neg (by omega),if_neg (by omega)]at ha hb
  exact h p j hj (by simp;omega) a b ha hb) (fun p _ hp0=>by omega)
 intro p j hj jC a b ha hb;rw[qD]at jC;have e:=Dp x es;have hl:=qD x es;refine hd p (by omega) j hj jC a b ?_ ?_
 ·rw[e,List.getElem?_append_left (by omega)];exact ha
 ·rw[e,List.getElem?_append_left (by omega)];exact hb
theorem NF {es:List aB}(h:yu es){r:aB}(hr:es[0]?=some r):∀(j:Nat) (b:aB),es[j]?=some b→bg b r=false:=by
 intro j;induction j using Nat.strongRecOn with
 |_ j ih=>
  intro b hb;by_cases h0:j=0
  ·subst h0;rw[hr]at hb;cases hb;exact pL _
  ·have hj:=(List.getElem?_eq_some_iff.1 hb).1
   obtain⟨p,hp⟩:∃p,p=(j-1)/ 2:=⟨_,rfl⟩;have zq:es[p]?=some es[p]:=List.getElem?_eq_getElem (by omega)
   exact rR (ih p (by omega) _ zq) (h p j (by omega) hj _ _ zq hb)
theorem F9:∀(k:Nat) (es:List aB),k=es.length→yu es→(lr k es).Perm es∧(lr k es).Pairwise fun a b=>bg b a=false
 |0,es,hk,_=>by
  obtain rfl:=List.length_eq_zero_iff.1 hk.symm
  exact⟨.refl _,.nil⟩
 |k+1,[],hk,_=>by simp at hk
 |k+1,x::es,hk,h=>by
  obtain⟨h1,h2⟩:=F9 k (oT x es) (by rw[qD];simpa using hk) (aa1 h)
  have hp:=h1.trans (Vq x es);refine⟨hp.cons x,List.pairwise_cons.2 ⟨fun b hb=>?_,h2⟩⟩
  obtain⟨j,hj⟩:=List.getElem?_of_mem (hp.mem_iff.1 hb);exact NF h (r:=x) rfl (j+1) b (by simpa using hj)
theorem F_ {es ys:List aB}(hp:ys.Perm es)(hs:ys.Pairwise fun a b=>bg a b=true):uj es=ys:=by
 obtain⟨h1,h2⟩:=F9 es.length (rP es) (rQ es).symm (Y3 es);have zw:(uj es).Perm ys:=(h1.trans (QS es)).trans hp.symm
 have wF:ys.Pairwise fun a b=>bg b a=false:=hs.imp fun h=>pK h
 refine List.Perm.eq_of_pairwise (fun a b ha hb eT kZ=>?_) h2 wF zw
 have IM:=zw.mem_iff.1 ha;have ht:∀(l:List aB),l.Pairwise (fun a b=>bg a b=true)→∀a∈l,∀b∈l,a=b∨bg a b=true∨bg b a=true:=by
  intro l;induction l with
  |nil=>intro _ a ha;cases ha
  |cons x l ih=>
   intro h a ha b hb;rw[List.pairwise_cons]at h;rcases List.mem_cons.1 ha with e1|m1
   ·rcases List.mem_cons.1 hb with e2|m2
    ·exact .inl (e1.trans e2.symm)
    ·exact .inr (.inl (e1▸h.1 b m2))
   ·rcases List.mem_cons.1 hb with e2|m2
    ·exact .inr (.inr (e2▸h.1 a m1))
    ·exact ih h.2 a m1 b m2
 rcases ht ys hs a IM b hb with h|h|h
 ·exact h
 ·rw[kZ]at h;cases h
 ·rw[eT]at h;cases h
end Go.Proofs.YtabjbdnokpjipaaGreat.T
namespace Go.Proofs.YtabjbdnokpjipaaGreat.T
open Go Go.RowKit
structure cl where
 m:Int
 gs:List Int
 aH:List (Int×Int)
structure dE where
 k:Int
 m:Int
 g:Int
 t:Int
 s:Int
structure aA where
 aj:List (List Int)
 ae:List aF
 rounds:List cl
 aP:List Bool
 aX:List dE
def aK (r:cl):List RT:=[rI r.m,aY r.gs,lq r.aH]
def cd (p:dE):List RT:=[rI p.k,rI p.m,rI p.g,rI p.t,rI p.s]
abbrev kz (xs:List (List Int)):RT:= .sl 1 (xs.map fun s=>[aY s])
abbrev zx (rs:List cl):RT:= .sl 3 (rs.map aK)
abbrev rS (bs:List Bool):RT:= .sl 1 (bs.map fun b=>[rB b])
abbrev Du (ps:List dE):RT:= .sl 5 (ps.map cd)
def wT (w:aA):List RT:=[kz w.aj,dq w.ae,zx w.rounds,rS w.aP,Du w.aX]
abbrev gW (w:aA):GV:= .a ((wT w).map .r)
def eG:List aB→List aB→List Int→List aB×List aB×List Int
 |[],d,told=>([],d,told)
 |e::es,d,told=>if e.f=true then eG es (d++[e]) (told++[e.m])else(e::es,d,told)
def eX (es:List aB)(t s:Int):Nat:=(es.takeWhile fun e=>aO e.t e.g t s).length
def jR (es:List aB)(n:Nat)(t s:Int):Bool:=match es[n]? with
 |some e=>decide (e.t=t)&&decide (e.g=s)
 |none=>false
def fo (es:List aB)(m t s:Int):List aB:=es.take (eX es t s)++[⟨m,t,s,true⟩]++es.drop (eX es t s)
def bn (g:aF)(m t s:Int):aF×List Int×Bool:=match g.pend[(dN g.pend m).toNat]? with
 |some e=>if dN g.pend m<0∨e.f=true∨aO t s e.t e.g=true then(g,[],false)
  else if jR (g.pend.eraseIdx (dN g.pend m).toNat) (eX (g.pend.eraseIdx (dN g.pend m).toNat) t s) t s=true then(g,[],false)
  else(⟨g.id,if g.clock<t then t else g.clock,(eG (fo (g.pend.eraseIdx (dN g.pend m).toNat) m t s) g.done []).1,(eG (fo (g.pend.eraseIdx (dN g.pend m).toNat) m t s) g.done []).2.1⟩,(eG (fo (g.pend.eraseIdx (dN g.pend m).toNat) m t s) g.done []).2.2,true)
 |none=>(g,[],false)
def je (r:cl)(i:Nat):Bool:=match r.aH[i]? with
 |some s=>bc s.1 s.2&&cb r.gs s.2&&(decide (i=0)||(match r.aH[i-1]? with|some d=>decide (d.2<s.2)|none=>true))
 |none=>true
def fe (r:cl):Bool:=db r.aH.length (je r)&&bj r.m&&cB r.gs
def iM (r:cl)(g:Int):Bool:=r.aH.any fun s=>decide (s.2=g)
def dk (r:cl):List Int:=if fe r=true then r.gs.filter fun g=> !iM r g else[]
def dy (aH:List (Int×Int))(g:Int):Nat:=(aH.takeWhile fun s=>decide (s.2<g)).length
def uk (aH:List (Int×Int))(n:Nat)(g:Int):Bool:=match aH[n]? with
 |some s=>decide (s.2=g)
 |none=>false
def gO (r:cl)(t s:Int):cl×Bool:=
 if cb r.gs s=false∨uk r.aH (dy r.aH s) s=true then(r,false)
 else(⟨r.m,r.gs,r.aH.take (dy r.aH s)++[(t,s)]++r.aH.drop (dy r.aH s)⟩,true)
def lu:List (Int×Int)→Int×Int
 |[]=>(0,0)
 |x::xs=>eF x xs
def dx (r:cl):(Int×Int)×Bool:=if r.aH.length<r.gs.length then((0,0),false)else(lu r.aH,true)
def iX (gs:List aF)(m:Int):List Int→List (Int×Int)→(Int×Int)⊕ List (Int×Int)
 |[],acc=> .inr acc
 |g::set,acc=>if cc (gAt gs g.toNat) m&&(aV (gAt gs g.toNat) m).f then .inl ((aV (gAt gs g.toNat) m).t,(aV (gAt gs g.toNat) m).g)
  else iX gs m set (if cc (gAt gs g.toNat) m then acc++[((aV (gAt gs g.toNat) m).t,(aV (gAt gs g.toNat) m).g)]else acc)
def aS (gs:List aF)(set:List Int)(m:Int):(Int×Int)×Bool:=match iX gs m set []with
 | .inl s=>(s,true)
 | .inr l=>if l.length<set.length then((0,0),false)else(lu l,true)
def aN (gs:List aF)(m:Int)(set:List Int):List aF:=set.foldl (fun gs g=>gs.set g.toNat (aD (gAt gs g.toNat) m).1) gs
def bK (gs:List aF)(m:Int)(s:Int×Int)(set:List Int):List aF:=set.foldl (fun gs g=>gs.set g.toNat (bn (gAt gs g.toNat) m s.1 s.2).1) gs
def dF (gs:List aF)(m:Int)(set:List Int):Bool:=set.all fun g=>cc (gAt gs g.toNat) m&&(aV (gAt gs g.toNat) m).f
def eH (gs:List aF)(set:List Int)(m:Int):List aF×Bool:=
 if(aS (aN gs m set) set m).2=true then(bK (aN gs m set) m (aS (aN gs m set) set m).1 set,dF (bK (aN gs m set) m (aS (aN gs m set) set m).1 set) m set)
 else(aN gs m set,false)
def setAt (w:aA)(m:Int):List Int:=w.aj.getD m.toNat []
def bC (w:aA)(m:Int):cl:=w.rounds.getD m.toNat ⟨0,[],[]⟩
def pM (w:aA)(m:Int):Bool:=w.aP.getD m.toNat false
def dg (w:aA)(p:dE):aA:=if w.aX.length<16 then⟨w.aj,w.ae,w.rounds,w.aP,w.aX++[p]⟩else w
def im (w:aA)(m:Int)(gs:List Int):aA:=gs.foldl (fun w g=>dg w ⟨1,m,g,0,0⟩) w
def rT (w:aA)(m:Int)(s:Int×Int)(gs:List Int):aA:=gs.foldl (fun w g=>dg w ⟨3,m,g,s.1,s.2⟩) w
def jS (w:aA)(m:Int):aA:=if(dx (bC w m)).2=true then rT w m (dx (bC w m)).1 (setAt w m)else w
def rU (n:Int):Nat→Int→List Int
 |0,_=>[]
 |k+1,g=>if n.tmod 2=1 then g::rU (n.tdiv 2) k (g+1)else rU (n.tdiv 2) k (g+1)
def cQ (n:Int):List Int:=rU n 5 0
def kA (w:aA)(n:Int):aA:=if 1≤n∧n≤31∧w.aj.length<12 then im ⟨w.aj++[cQ n],w.ae,w.rounds++[⟨w.aj.length,cQ n,[]⟩],w.aP++[false],w.aX⟩ w.aj.length (cQ n)else w
def np (w:aA)(p:dE):aA:=
 if p.k=1 then
  if(aD (gAt w.ae p.g.toNat) p.m).2.2=true then dg ⟨w.aj,w.ae.set p.g.toNat (aD (gAt w.ae p.g.toNat) p.m).1,w.rounds,w.aP,w.aX⟩ ⟨2,p.m,p.g,(aD (gAt w.ae p.g.toNat) p.m).2.1.1,(aD (gAt w.ae p.g.toNat) p.m).2.1.2⟩
  else⟨w.aj,w.ae.set p.g.toNat (aD (gAt w.ae p.g.toNat) p.m).1,w.rounds,w.aP,w.aX⟩
 else if p.k=2 then
  if pM w p.m=true then w
  else if(gO (bC w p.m) p.t p.s).2=true then jS ⟨w.aj,w.ae,w.rounds.set p.m.toNat (gO (bC w p.m) p.t p.s).1,w.aP,w.aX⟩ p.m
  else⟨w.aj,w.ae,w.rounds.set p.m.toNat (gO (bC w p.m) p.t p.s).1,w.aP,w.aX⟩
 else if p.k=3 then⟨w.aj,w.ae.set p.g.toNat (bn (gAt w.ae p.g.toNat) p.m p.t p.s).1,w.rounds,w.aP,w.aX⟩
 else w
def sW (w:aA)(k a:Int):aA:=if a<0 then w else match w.aX[a.toNat]? with
 |none=>w
 |some p=>if k=4 then dg w p else if k=2 then np ⟨w.aj,w.ae,w.rounds,w.aP,w.aX.eraseIdx a.toNat⟩ p else⟨w.aj,w.ae,w.rounds,w.aP,w.aX.eraseIdx a.toNat⟩
def fM (w:aA)(k a:Int):aA:=if a<0∨(w.aj.length:Int)≤a then w
 else if k=5 then⟨w.aj,w.ae,w.rounds,w.aP.set a.toNat true,w.aX⟩
 else if k=6 then if pM w a=true then w else jS (im w a (dk (bC w a))) a
 else if k=7 then if(eH w.ae (setAt w a) a).2=true then⟨w.aj,(eH w.ae (setAt w a) a).1,w.rounds,w.aP,w.aX⟩else w
 else w
def h_ (w:aA)(k a:Int):aA:=if k=1 then kA w a else if k=2∨k=3∨k=4 then sW w k a else fM w k a
def iN (g:aF)(n:Nat):Prop:=g.pend.length+g.done.length≤n∧0≤g.clock
def IN (s:List Int):Prop:=s≠[]∧s.length≤5∧∀g∈s,0≤g∧g<5
def Az (r:cl)(n:Nat):Prop:=r.gs≠[]∧r.gs.length≤n+5∧r.aH.length≤n
def zy (w:aA)(p:dE):Prop:=0≤p.m∧p.m<w.aj.length∧0≤p.g∧p.g<5
structure cw (n:Nat) (w:aA):Prop where
 g5:w.ae.length=5
 dS:∀g∈w.ae,iN g n
 l_:w.aj.length≤12
 set:∀s∈w.aj,IN s
 rl:w.rounds.length=w.aj.length
 oU:∀r∈w.rounds,Az r n
 sl:w.aP.length=w.aj.length
 nl:w.aX.length≤16
 aX:∀p∈w.aX,zy w p
theorem iN.mono {g:aF}{n n':Nat}(h:iN g n)(hn:n≤n'):iN g n':=⟨Nat.le_trans h.1 hn,h.2⟩
theorem Az.mono {r:cl}{n n':Nat}(h:Az r n)(hn:n≤n'):Az r n':=⟨h.1,by have:=h.2.1;omega,by have:=h.2.2;omega⟩
theorem cw.mono {w:aA}{n n':Nat}(h:cw n w)(hn:n≤n'):cw n' w:={h with dS:=fun g hg=>(h.dS g hg).mono hn,oU:=fun r hr=>(h.oU r hr).mono hn}
theorem F':∀(es d:List aB) (told:List Int),(eG es d told).1.length+(eG es d told).2.1.length=es.length+d.length
 |[],d,told=>rfl
 |e::es,d,told=>by
  unfold eG;split
  ·rw[F' es];simp;omega
  ·rfl
theorem xc {g:aF}{n:Nat}(m:Int)(h:iN g n):iN (aD g m).1 (n+1):=by
 have h1:iN g (n+1):=h.mono (by omega)
 unfold aD;split
 ·split<;>exact h1
 ·split
  ·exact h1
  ·split
   ·exact h1
   ·exact⟨by have:=h.1;simp;omega,by have:=h.2;simp only;omega⟩
theorem NG {g:aF}{n:Nat}(m t s:Int)(h:iN g n):iN (bn g m t s).1 n:=by
 unfold bn;split
 ·rename_i e he
  split
  ·exact h
  ·split
   ·exact h
   ·refine⟨?_,by have:=h.2;simp only;split<;>omega⟩
    simp only
    rw[F'];have ak:(dN g.pend m).toNat<g.pend.length:=(List.getElem?_eq_some_iff.1 he).1
    have h1:=List.length_eraseIdx_of_lt ak;have:=h.1
    simp only[fo,List.length_append,List.length_take,List.length_drop,List.length_singleton];omega
 ·exact h
theorem mX {gs:List aF}{i:Nat}(h:i<gs.length):gAt gs i∈gs:=by
 unfold gAt;rw[List.getD_eq_getElem?_getD,List.getElem?_eq_getElem h];exact List.getElem_mem h
theorem mem_set {α:Type}{xs:List α}{i:Nat}{a x:α}(h:x∈xs.set i a):x=a∨x∈xs:=(List.mem_or_eq_of_mem_set h).symm
theorem cw.IP {w:aA}{n:Nat}(h:cw n w)(i:Nat){g:aF}(hg:iN g n):cw n ⟨w.aj,w.ae.set i g,w.rounds,w.aP,w.aX⟩:=
 {h with
  g5:=by simpa using h.g5
  dS:=fun x hx=>by
   rcases mem_set hx with rfl|hx
   ·exact hg
   ·exact h.dS x hx
  aX:=h.aX}
theorem cw.post {w:aA}{n:Nat}(h:cw n w){p:dE}(hp:zy w p):cw n (dg w p):=by
 unfold dg;split
 ·refine {h with nl:=by simp;omega,aX:=fun x hx=>?_}
  rcases List.mem_append.1 hx with hx|hx
  ·exact h.aX x hx
  ·simp only[List.mem_singleton]at hx;subst hx;exact hp
 ·exact h
theorem um (w:aA)(p:dE):(dg w p).aj=w.aj:=by unfold dg;split<;>rfl
theorem cw.rV {n:Nat}(f:Int→dE):∀(gs:List Int) (w:aA),cw n w→(∀g∈gs,zy w (f g))→cw n (gs.foldl (fun w g=>dg w (f g)) w)
 |[],w,h,_=>h
 |g::gs,w,h,hp=>cw.rV f gs _ (h.post (hp g (List.mem_cons_self ..))) fun x hx=>by
  have:=hp x (List.mem_cons_of_mem _ hx)
  unfold zy at*;rw[um];exact this
theorem mY (f:Int→dE):∀(gs:List Int) (w:aA),(gs.foldl (fun w g=>dg w (f g)) w).aj=w.aj
 |[],w=>rfl
 |g::gs,w=>by rw[List.foldl_cons,mY f gs,um]
theorem nW {w:aA}{n:Nat}(h:cw n w){m:Int}(h0:0≤m)(h1:m<w.aj.length):IN (setAt w m):=by
 unfold setAt;rw[List.getD_eq_getElem?_getD,List.getElem?_eq_getElem (by omega)]
 exact h.set _ (List.getElem_mem _)
theorem kI {w:aA}{n:Nat}(h:cw n w){m:Int}(h0:0≤m)(h1:m<w.aj.length):Az (bC w m) n:=by
 unfold bC;rw[List.getD_eq_getElem?_getD,List.getElem?_eq_getElem (by rw[h.rl];omega)]
 exact h.oU _ (List.getElem_mem _)
theorem cw.tell {w:aA}{n:Nat}(h:cw n w){m:Int}(h0:0≤m)(h1:m<w.aj.length):cw n (jS w m):=by
 unfold jS;split
 ·refine cw.rV (fun g=>⟨3,m,g,(dx (bC w m)).1.1,(dx (bC w m)).1.2⟩) _ w h fun g hg=>?_
  have:=(nW h h0 h1).2.2 g hg
  exact⟨h0,h1,this.1,this.2⟩
 ·exact h
theorem IQ {r:cl}{n:Nat}(t s:Int)(h:Az r n):Az (gO r t s).1 (n+1):=by
 unfold gO;split
 ·exact h.mono (by omega)
 ·refine⟨h.1,by have:=h.2.1;simp only;omega,?_⟩
  have:=h.2.2
  simp only[List.length_append,List.length_take,List.length_drop,List.length_singleton];omega
theorem cw.rW {w:aA}{n:Nat}(h:cw n w)(i:Nat){r:cl}(hr:Az r n):cw n ⟨w.aj,w.ae,w.rounds.set i r,w.aP,w.aX⟩:=
 {h with
  rl:=by simpa using h.rl
  oU:=fun x hx=>by
   rcases mem_set hx with rfl|hx
   ·exact hr
   ·exact h.oU x hx
  aX:=h.aX}
theorem cw.erase {w:aA}{n:Nat}(h:cw n w)(i:Nat):cw n ⟨w.aj,w.ae,w.rounds,w.aP,w.aX.eraseIdx i⟩:=
 {h with
  nl:=Nat.le_trans (List.length_eraseIdx_le ..) h.nl
  aX:=fun p hp=>h.aX p (List.mem_of_mem_eraseIdx hp)}
theorem cw.hear {w:aA}{n:Nat}(h:cw n w){p:dE}(hp:zy w p):cw (n+1) (np w p):=by
 obtain⟨h0,h1,h2,h3⟩:=hp;have h':=h.mono (n':=n+1) (by omega)
 have hg:iN (gAt w.ae p.g.toNat) n:=h.dS _ (mX (by rw[h.g5];omega))
 unfold np;split
 ·split
  ·exact(h'.IP _ (xc _ hg)).post ⟨h0,h1,h2,h3⟩
  ·exact h'.IP _ (xc _ hg)
 ·split
  ·split
   ·exact h'
   ·split
    ·exact(h'.rW _ (IQ _ _ (kI h h0 h1))).tell h0 h1
    ·exact h'.rW _ (IQ _ _ (kI h h0 h1))
  ·split
   ·exact h'.IP _ (NG _ _ _ (hg.mono (by omega)))
   ·exact h'
theorem cw.Y4 {w:aA}{n:Nat}(h:cw n w)(k a:Int):cw (n+1) (sW w k a):=by
 have h':=h.mono (n':=n+1) (by omega)
 unfold sW;split
 ·exact h'
 ·split
  ·exact h'
  ·rename_i p hp
   have E7:=List.mem_of_getElem? hp;split
   ·exact h'.post (h.aX p E7)
   ·split
    ·exact(h.erase _).hear (h.aX p E7)
    ·exact h'.erase _
theorem Ga:∀(k:Nat) (n g:Int),(rU n k g).length≤k∧∀x∈rU n k g,g≤x∧x<g+k
 |0,n,g=>⟨Nat.le_refl _,fun x hx=>by cases hx⟩
 |k+1,n,g=>by
  obtain⟨h1,h2⟩:=Ga k (n.tdiv 2) (g+1);unfold rU;split
  ·refine⟨by simp;omega,fun x hx=>?_⟩
   rcases List.mem_cons.1 hx with rfl|hx
   ·omega
   ·have:=h2 x hx;omega
  ·exact⟨by omega,fun x hx=>by have:=h2 x hx;omega⟩
theorem Vr:∀k,k<31→(cB (cQ (k+1:Nat))=true∧cQ (k+1:Nat)≠[]):=by decide+kernel
theorem yv {n:Int}(h1:1≤n)(h2:n≤31):cB (cQ n)=true∧IN (cQ n):=by
 obtain⟨k,rfl⟩:∃k:Nat,n=(k+1:Nat):=⟨(n-1).toNat,by omega⟩
 obtain⟨a,b⟩:=Vr k (by omega)
 obtain⟨c,d⟩:=Ga 5 ((k+1:Nat):Int) 0;exact⟨a,b,c,fun g hg=>by have:=d g hg;omega⟩
theorem cw.send {w:aA}{n:Nat}(h:cw n w)(k:Int):cw n (kA w k):=by
 unfold kA;split
 ·rename_i hk
  obtain⟨h1,h2,h3⟩:=hk;obtain⟨b1,b2⟩:=yv h1 h2;refine cw.rV (fun g=>⟨1,w.aj.length,g,0,0⟩) _ _ ⟨h.g5,h.dS,by simp;omega,fun s hs=>?_,by simp[h.rl],fun r hr=>?_,by simp[h.sl],h.nl,fun p hp=>?_⟩ fun g hg=>?_
  ·rcases List.mem_append.1 hs with hs|hs
   ·exact h.set s hs
   ·simp only[List.mem_singleton]at hs;subst hs;exact b2
  ·rcases List.mem_append.1 hr with hr|hr
   ·exact h.oU r hr
   ·simp only[List.mem_singleton]at hr;subst hr;exact⟨b2.1,by have:=b2.2.1;simp only;omega,Nat.zero_le _⟩
  ·obtain⟨a,b,c⟩:=h.aX p hp
   exact⟨a,by simp;omega,c⟩
  ·have:=b2.2.2 g hg
   exact⟨by simp only;omega,by simp;omega,this.1,this.2⟩
 ·exact h
theorem ma {n:Nat}(m:Int):∀(set:List Int) (gs:List aF) (j:Nat),(∀g∈set,0≤g∧g<5)→gs.length=5→(∀g∈gs,iN g j)→j+set.length≤n→(aN gs m set).length=5∧∀g∈aN gs m set,iN g n
 |[],gs,j,_,h5,hg,hn=>⟨h5,fun g h=>(hg g h).mono (by simpa using hn)⟩
 |x::set,gs,j,hs,h5,hg,hn=>by
  unfold aN;rw[List.foldl_cons];refine ma m set _ (j+1) (fun g h=>hs g (List.mem_cons_of_mem _ h)) (by simpa using h5) (fun g h=>?_) (by simp at hn;omega)
  rcases mem_set h with rfl|h
  ·have:=hs x (List.mem_cons_self ..)
   exact xc m (hg _ (mX (by omega)))
  ·exact(hg g h).mono (by omega)
theorem nX {n:Nat}(m:Int)(s:Int×Int):∀(set:List Int) (gs:List aF),(∀g∈set,0≤g∧g<5)→gs.length=5→(∀g∈gs,iN g n)→(bK gs m s set).length=5∧∀g∈bK gs m s set,iN g n
 |[],gs,_,h5,hg=>⟨h5,hg⟩
 |x::set,gs,hs,h5,hg=>by
  unfold bK;rw[List.foldl_cons];refine nX m s set _ (fun g h=>hs g (List.mem_cons_of_mem _ h)) (by simpa using h5) fun g h=>?_
  rcases mem_set h with rfl|h
  ·have:=hs x (List.mem_cons_self ..)
   exact NG m _ _ (hg _ (mX (by omega)))
  ·exact hg g h
theorem aa2 {n:Nat}(m:Int)(set:List Int)(gs:List aF)(hs:IN set)(h5:gs.length=5)(hg:∀g∈gs,iN g n):(eH gs set m).1.length=5∧∀g∈(eH gs set m).1,iN g (n+5):=by
 obtain⟨h1,h2⟩:=ma (n:=n+5) m set gs n hs.2.2 h5 hg (by have:=hs.2.1;omega)
 unfold eH;split
 ·exact nX m _ set _ hs.2.2 h1 h2
 ·exact⟨h1,h2⟩
theorem cw.IS {w:aA}{n:Nat}(h:cw n w)(k a:Int):cw (n+5) (fM w k a):=by
 have h':=h.mono (n':=n+5) (by omega)
 unfold fM;split
 ·exact h'
 ·rename_i ha
  have eM:0≤a:=by omega
  have eI:a<w.aj.length:=by omega
  split
  ·exact {h' with sl:=by simpa using h'.sl,aX:=h'.aX}
  ·split
   ·split
    ·exact h'
    ·have hr:=kI h eM eI
     have hm:∀g∈dk (bC w a),0≤g∧g<5:=by
      intro g hg;unfold dk at hg;split at hg
      ·rename_i hb
       have hg:=(List.mem_filter.1 hg).1;simp only[fe,Bool.and_eq_true]at hb;have hs:=hb.2;simp only[cB,Bool.and_eq_true,db,List.all_eq_true,List.mem_range]at hs;obtain⟨i,hi,rfl⟩:=List.getElem_of_mem hg;have:=hs.1 i hi
       simp only[pI,Bool.and_eq_true,bM]at this;have:=this.1
       rw[List.getD_eq_getElem?_getD,List.getElem?_eq_getElem hi]at this;simpa using this
      ·cases hg
     have hA:cw (n+5) (im w a (dk (bC w a))):=cw.rV (fun g=>⟨1,a,g,0,0⟩) _ w h' fun g hg=>⟨eM,eI,(hm g hg).1,(hm g hg).2⟩
     refine hA.tell eM ?_;unfold im;rw[mY];exact eI
   ·split
    ·split
     ·obtain⟨h1,h2⟩:=aa2 (n:=n) a (setAt w a) w.ae (nW h eM eI) h.g5 h.dS
      exact {h' with g5:=h1,dS:=h2,aX:=h'.aX}
     ·exact h'
    ·exact h'
theorem cw.event {w:aA}{n:Nat}(h:cw n w)(k a:Int):cw (n+5) (h_ w k a):=by
 unfold h_;split
 ·exact(h.send a).mono (by omega)
 ·split
  ·exact(h.Y4 k a).mono (by omega)
  ·exact h.IS k a
end Go.Proofs.YtabjbdnokpjipaaGreat.T
namespace Go.Proofs.YtabjbdnokpjipaaGreat.T
open Go Go.RowKit
set_option maxRecDepth 100000
set_option maxHeartbeats 4000000
variable {E:List PanicEntry→World→Prop}
abbrev fU (xs:List Int):az:= .rows 3 1 (xs.map fun n=>[rI n])
theorem Y5 {es:List aB}{t s:Int}{k:Nat}{e:aB}(hk:∀i,i<k→∀x,es[i]?=some x→aO x.t x.g t s=true)(he:es[k]?=some e)(h:aO e.t e.g t s=false):eX es t s=k:=by
 unfold eX;induction es generalizing k with
 |nil=>simp at he
 |cons x es ih=>
  cases k with
  |zero=>
   cases he;rw[List.takeWhile_cons];simp[h]
  |succ k=>
   have h0:=hk 0 (by omega) x rfl
   rw[List.takeWhile_cons,if_pos h0,List.length_cons,ih (k:=k) (fun i hi y hy=>hk (i+1) (by omega) y (by simpa using hy)) (by simpa using he)]
theorem Vs {es:List aB}{t s:Int}(hk:∀i,i<es.length→∀x,es[i]?=some x→aO x.t x.g t s=true):eX es t s=es.length:=by
 have h:es.takeWhile (fun e=>aO e.t e.g t s)=es:=by
  induction es with
  |nil=>rfl
  |cons x es ih=>
   rw[List.takeWhile_cons,if_pos (hk 0 (by simp) x rfl),ih fun i hi y hy=>hk (i+1) (by simp;omega) y (by simpa using hy)]
 unfold eX;rw[h]
abbrev aa3 (r:aF×List Int×Bool):GV:= .p [F3 r.1 0 1,.s (.own 2),gB r.2.2]
abbrev R7 (r:aF×List Int×Bool):List (Nat×az):=[(0,dU r.1.pend),(1,dU r.1.done),(2,fU r.2.1)]
theorem AA (g:aF)(m t s:Int)(h:iN g 4294967290):TC Tw.prog E 96 [.a ((au g).map .r),gI .i64 m,mU (t,s)] 0 [] (aa3 (bn g m t s)) (R7 (bn g m t s)):=by
 obtain⟨Dq,h0⟩:=h;have hle:jv g 4294967296:=⟨by omega,by omega⟩
 refine tE Tryz.f96 Tryz.ntmps96 (by rw[Tryz.results96]) ?_
 rcases ee g.pend m with⟨hp,bw⟩|⟨j,e,hp,he,bw,_⟩
 ·have hr:bn g m t s=(g,[],false):=by
   unfold bn;split
   ·rw[if_pos (.inl (by omega))]
   ·rfl
  rw[hr];(refine TW.go ?_;simp[au,aG,hp];repeat' first|intro hc|refine aa.mk ?_|refine aI ?_|refine af ?_ ?_|(refine cP ?_;(first|refine⟨_,eQ _ _,?_⟩|refine⟨_,jH _ _ _ _,?_⟩);simp[au,aG,hp])|(refine cF [] 2 ?_;refine⟨_,_,eR _ hle,?_⟩;simp[au,aG,hp]))
  exact oW [3,4,6] []
 ·have hj:j<g.pend.length:=(List.getElem?_eq_some_iff.1 he).1
  have Dv:(dN g.pend m).toNat=j:=by omega
  have jC:¬((j:Int)<0):=by omega
  cases hf:e.f
  ·cases hl:aO t s e.t e.g
   ·have Vt:IntKind.i64.wrap ((j:Int)+1)=(j:Int)+1:=aQ (by omega) (by omega)
    generalize IT:g.pend.take j++g.pend.drop (j+1)=rest;have Bn:rest.length≤4294967290:=by rw[←IT];simp;omega
    have hlen:rest.length≤maxLen:=by simp only[maxLen];omega
    have AB:g.pend.eraseIdx j=rest:=by rw[List.eraseIdx_eq_take_drop_succ,IT]
    have nC:bn g m t s=if jR rest (eX rest t s) t s=true then(g,[],false)else(⟨g.id,if g.clock<t then t else g.clock,(eG (fo rest m t s) g.done []).1,(eG (fo rest m t s) g.done []).2.1⟩,(eG (fo rest m t s) g.done []).2.2,true):=by
     unfold bn;rw[Dv,he];simp only
     rw[if_neg (by simp[hp,hf,hl]),AB]
    (refine TW.go ?_;simp[au,aG,hp,he,jC,hf,hl,Vt,maxLen];repeat' first|intro hc|refine aa.mk ?_|refine aI ?_|refine af ?_ ?_|(refine cP ?_;(first|refine⟨_,eQ _ _,?_⟩|refine⟨_,jH _ _ _ _,?_⟩);simp[au,aG,hp,he,jC,hf,hl,Vt,maxLen])|(refine cF [] 2 ?_;refine⟨_,_,eR _ hle,?_⟩;simp[au,aG,hp,he,jC,hf,hl,Vt,maxLen]))
    refine tL (fun(k:Nat)=>⟨[(1,gI .i64 m),(3,.s (.ptr 0 0)),(5,.s (.ptr 1 0)),(6,.s (.ptr 2 0)),(9,.s (.ptr 3 0)),(10,.s (.own 4)),(12,gR (dj rest)),(13,gI .i64 (k:Nat))],
     [(0,.box ((au g).map .r)),(1,.box [.r (rI t),.r (rI s)]),(2,.box [.r (rI 0),.r (rI 0),.r .nil,.r .nil]),(3,.box [.r (rI g.id),.r (rI g.clock),.own 5,.own 6]),(4,fU []),(5,dU g.pend),(6,dU g.done)],7⟩) (fun k=>k≤rest.length∧∀i,i<k→∀x,rest[i]?=some x→aO x.t x.g t s=true) (fun k=>rest.length-k) 0 ⟨by omega,fun i hi=>by omega⟩
     (Wk.own [0,1,2,5,6,3,4] [9] (by simp) (by simp[←IT]) (by simp[au]) (by simp) (by simp)) fun k hk=>?_
    obtain⟨hk,p9⟩:=hk;have kl:(∃x,rest[k]?=some x∧aO x.t x.g t s=true)∨(∃x,rest[k]?=some x∧aO x.t x.g t s=false∧eX rest t s=k)∨(k=rest.length∧eX rest t s=k):=by
     rcases hx:rest[k]? with _|x
     ·have yq:k=rest.length:=by have:=List.getElem?_eq_none_iff.1 hx;omega
      refine .inr (.inr ⟨yq,?_⟩);subst yq;exact Vs p9
     ·cases lI:aO x.t x.g t s
      ·exact .inr (.inl ⟨x,rfl,lI,Y5 p9 hx lI⟩)
      ·exact .inl ⟨x,rfl,lI⟩
    rcases kl with⟨x,hx,lI⟩|kl
    ·have ak:k<rest.length:=(List.getElem?_eq_some_iff.1 hx).1
     have an:(k:Int)<(rest.length:Int):=by omega
     have aE:=wrap_add ak hlen;(refine TW.go ?_;simp[an,hx,lI,aG,aE];repeat' first|intro hc|refine aa.mk ?_|refine aI ?_|refine af ?_ ?_|(refine cP ?_;refine⟨_,jH _ _ _ _,?_⟩;simp[an,hx,lI,aG,aE]))
     refine⟨k+1,⟨by omega,fun i hi y hy=>?_⟩,by omega,Wk.own [0,1,2,3,4,5,6] [] (by simp) (by simp) (by simp[au]) (by simp) (by simp)⟩
     by_cases e:i=k
     ·subst e;rw[hx]at hy;cases hy;exact lI
     ·exact p9 i (by omega) y hy
    ·have nD:eX rest t s=k:=by
      rcases kl with⟨_,_,_,h⟩|⟨_,h⟩<;>exact h
     rw[nD]at nC;by_cases q_:jR rest k t s=true
     ·rw[if_pos q_]at nC
      rw[nC];rcases kl with⟨x,hx,lI,_⟩|⟨yq,_⟩
      ·have ak:k<rest.length:=(List.getElem?_eq_some_iff.1 hx).1
       have an:(k:Int)<(rest.length:Int):=by omega
       simp only[jR,hx]at q_;(refine TW.go ?_;simp[an,hx,lI,q_,au,aG];repeat' first|intro hc|refine aa.mk ?_|refine aI ?_|refine af ?_ ?_|(refine cP ?_;refine⟨_,jH _ _ _ _,?_⟩;simp[an,hx,lI,q_,au,aG]))
       exact oW [5,6,4] []
      ·subst yq
       simp[jR]at q_
     ·rw[if_neg q_]at nC
      rw[nC];have Dw:fo rest m t s=rest.take k++[⟨m,t,s,true⟩]++rest.drop k:=by rw[fo,nD]
      rcases kl with⟨x,hx,lI,_⟩|⟨yq,_⟩;have ak:k<rest.length:=(List.getElem?_eq_some_iff.1 hx).1
      have an:(k:Int)<(rest.length:Int):=by omega
      have abD:(decide (x.t=t)&&decide (x.g=s))=false:=by simpa[jR,hx]using q_
      focus (refine TW.go ?_;simp[an,hx,lI,abD,au,aG,maxLen];repeat' first|intro hc|refine aa.mk ?_|refine aI ?_|refine af ?_ ?_|(refine cP ?_;refine⟨_,jH _ _ _ _,?_⟩;simp[an,hx,lI,abD,au,aG,maxLen]))
      rotate_left
      subst yq;focus (refine TW.go ?_;simp[au,aG,maxLen];repeat' first|intro hc|refine aa.mk ?_|refine aI ?_|refine af ?_ ?_|(refine cP ?_;refine⟨_,jH _ _ _ _,?_⟩;simp[au,aG,maxLen]))
      all_goals
       generalize Y6:(if g.clock<t then t else g.clock)=Bo
       have Bc:(fo rest m t s).length+g.done.length≤4294967295:=by
        rw[Dw,←IT];simp
        omega
       refine tL (fun(p:List aB×List aB×List Int)=>⟨[(6,.s (.ptr 0 0)),(9,.s (.ptr 1 0)),(10,.s (.own 2))],[(0,.box [.r (rI 0),.r (rI 0),.r .nil,.r .nil]),(1,.box [.r (rI g.id),.r (rI Bo),.r (dj p.1),.own 3]),(2,fU p.2.2),(3,dU p.2.1)],4⟩)
        (fun p=>p.1.length+p.2.1.length≤4294967295∧p.2.2.length+p.1.length≤4294967295∧eG p.1 p.2.1 p.2.2=eG (fo rest m t s) g.done []) (fun p=>p.1.length) (fo rest m t s,g.done,[]) ⟨Bc,by simp;omega,rfl⟩
        (Wk.own [2,3,4,6] [11] (by simp) (by simp) (by simp[Dw,aG]) (by simp) (by simp)) fun p hp=>?_
       obtain⟨es,d,told⟩:=p;obtain⟨b1,b2,b3⟩:=hp;simp only at b1 b2 b3⊢
       rcases es with _|⟨x,es⟩
       ·have Y7:jv ⟨g.id,Bo,[],d⟩ 4294967296:=⟨by simp,by simp at b1;simp only;omega⟩
        rw[←b3];simp only[eG];(refine TW.go ?_;simp[au,aG,maxLen];repeat' first|intro hc|refine aa.mk ?_|refine aI ?_|refine af ?_ ?_|(refine cF [3] 2 ?_;refine⟨_,_,eR ⟨g.id,Bo,[],d⟩ Y7,?_⟩;simp[au,aG,maxLen]))
        exact oW [4,5,2] []
       ·simp only[List.length_cons]at b1 b2
        cases uo:x.f
        ·have Y7:jv ⟨g.id,Bo,x::es,d⟩ 4294967296:=⟨by simp;omega,by simp only;omega⟩
         rw[←b3];simp only[eG,uo,Bool.false_eq_true,if_false];(refine TW.go ?_;simp[au,aG,uo,maxLen];repeat' first|intro hc|refine aa.mk ?_|refine aI ?_|refine af ?_ ?_|(refine cF [3] 2 ?_;refine⟨_,_,eR ⟨g.id,Bo,x::es,d⟩ Y7,?_⟩;simp[au,aG,uo,maxLen]))
         refine aT.own [4,5,2] [] (by simp;rfl) (by simp[aG,uo]) (by simp) (by simp) (by simp[aG,uo]) (by simp)
        ·(refine TW.go ?_;simp[au,aG,uo,maxLen];repeat' first|intro hc|refine aa.mk ?_|refine aI ?_|refine af ?_ ?_)
         refine⟨(es,d++[x],told++[x.m]),⟨by simp;omega,by simp;omega,?_⟩,by simp,Wk.own [0,1,5,7] [] (by simp) (by simp) (by simp[aG,uo]) (by simp) (by simp)⟩
         rw[←b3,eG,if_pos uo]
   ·have hr:bn g m t s=(g,[],false):=by
     unfold bn;rw[Dv,he];simp only
     rw[if_pos (.inr (.inr hl))]
    rw[hr];(refine TW.go ?_;simp[au,aG,hp,he,jC,hf,hl];repeat' first|intro hc|refine aa.mk ?_|refine aI ?_|refine af ?_ ?_|(refine cP ?_;(first|refine⟨_,eQ _ _,?_⟩|refine⟨_,jH _ _ _ _,?_⟩);simp[au,aG,hp,he,jC,hf,hl])|(refine cF [] 2 ?_;refine⟨_,_,eR _ hle,?_⟩;simp[au,aG,hp,he,jC,hf,hl]))
    exact oW [3,4,6] []
  ·have hr:bn g m t s=(g,[],false):=by
    unfold bn;rw[Dv,he];simp only
    rw[if_pos (.inr (.inl hf))]
   rw[hr];(refine TW.go ?_;simp[au,aG,hp,he,jC,hf];repeat' first|intro hc|refine aa.mk ?_|refine aI ?_|refine af ?_ ?_|(refine cP ?_;(first|refine⟨_,eQ _ _,?_⟩|refine⟨_,jH _ _ _ _,?_⟩);simp[au,aG,hp,he,jC,hf])|(refine cF [] 2 ?_;refine⟨_,_,eR _ hle,?_⟩;simp[au,aG,hp,he,jC,hf]))
   exact oW [3,4,6] []
end Go.Proofs.YtabjbdnokpjipaaGreat.T
namespace Go.Proofs.YtabjbdnokpjipaaGreat.T
open Go Go.RowKit
set_option maxRecDepth 100000
set_option maxHeartbeats 4000000
variable {E:List PanicEntry→World→Prop}
def zz (es:List aB)(k:Nat):List Bool:=(List.range 12).map fun m=>(es.take k).any fun e=>decide (e.m=(m:Nat))
def gS (es:List aB)(k:Nat):List TV:=(zz es k).map fun b=> .r (rB b)
theorem me (es:List aB)(k:Nat):(gS es k).length=12:=by simp[gS,zz]
def sX (es:List aB)(k:Nat)(m:Int):Bool:=(es.take k).any fun e=>decide (e.m=m)
theorem Dx (es:List aB)(k:Nat){m:Int}(h0:0≤m)(h1:m<12):List.take 1 (List.drop m.toNat (gS es k))=[.r (rB (sX es k m))]:=by
 have ak:m.toNat<(gS es k).length:=by rw[me];omega
 rw[List.drop_eq_getElem_cons ak];simp only[List.take_succ_cons,List.take_zero,gS,zz,List.getElem_map,List.getElem_range,sX];rw[show((m.toNat:Nat):Int)=m by omega]
theorem Dy (es:List aB)(k:Nat){e:aB}(he:es[k]?=some e)(h0:0≤e.m)(h1:e.m<12):List.take e.m.toNat (gS es k)++ .r (rB true)::List.drop (e.m.toNat+1) (gS es k)=gS es (k+1):=by
 have ak:e.m.toNat<(gS es k).length:=by rw[me];omega
 have Bp:(gS es k).set e.m.toNat (.r (rB true))=List.take e.m.toNat (gS es k)++ .r (rB true)::List.drop (e.m.toNat+1) (gS es k):=by rw[List.set_eq_take_append_cons_drop,if_pos ak]
 rw[←Bp];apply List.ext_getElem
 ·simp[me]
 ·intro i h2 h3
  have hi:i<12:=by rw[me]at h3;exact h3
  rw[List.getElem_set];simp only[gS,zz,List.getElem_map,List.getElem_range];rw[List.take_add_one,he,List.any_append];by_cases hm:e.m.toNat=i
  ·rw[if_pos hm]
   simp only[Option.toList_some,List.any_cons,List.any_nil,Bool.or_false];rw[show decide (e.m=(i:Nat))=true by simp;omega,Bool.or_true]
  ·rw[if_neg hm]
   simp only[Option.toList_some,List.any_cons,List.any_nil,Bool.or_false];rw[show decide (e.m=(i:Nat))=false by simp;omega,Bool.or_false]
theorem yw {es:List aB}{k:Nat}{x:TV}(h:x∈gS es k):∃b,x= .r (rB b):=by
 obtain⟨b,_,rfl⟩:=List.mem_map.1 h;exact⟨b,rfl⟩
def kB (es:List aB)(i:Nat):Bool:=match es[i]? with
 |some e=> !sX es i e.m
 |none=>true
def yy (es:List aB)(i:Nat):Bool:=match es[i]? with
 |some e=>e.f
 |none=>true
def nS (g:aF):Bool:=bM g.id&&ju g.clock&&lM g.id g.clock g.pend&&lM g.id g.clock g.done&&db (g.done++g.pend).length (kB (g.done++g.pend))&&db g.done.length (yy g.done)&&oQ g
theorem Gb {id clock:Int}{es:List aB}(h:lM id clock es=true){e:aB}(he:e∈es):0≤e.m∧e.m<12:=by
 obtain⟨i,hi,rfl⟩:=List.getElem_of_mem he;simp only[lM,db,List.all_eq_true,List.mem_range]at h;have:=h i hi
 unfold qB at this;rw[List.getElem?_eq_getElem hi]at this;simp only[Bool.and_eq_true,bj,decide_eq_true_eq]at this;exact this.1.1.1.1
theorem iU (g:aF)(h:jv g 4294967290):TC Tw.prog E 33 [.a ((au g).map .r)] 0 [] (gB (nS g)) []:=by
 obtain⟨qv,QR⟩:=h;have hlen:g.done.length≤maxLen:=by simp only[maxLen];omega
 refine tE Tryz.f33 Tryz.ntmps33 (by rw[Tryz.results33]) ?_
 cases hv:bM g.id&&ju g.clock&&lM g.id g.clock g.pend&&lM g.id g.clock g.done
 ·rw[show nS g=false by rw[nS,hv];simp]
  (refine TW.go ?_;simp[au];repeat' first|intro hc|refine aa.mk ?_|refine aI ?_|refine af ?_ ?_|(refine cP ?_;(first|refine⟨_,oR _,?_⟩|refine⟨_,F5 _,?_⟩|refine⟨_,vT g _,?_⟩);simp[au]))
  all_goals first
   |(exact oW [] [])
   |(exfalso;simp_all)
 ·have g_:=hv
  simp only[Bool.and_eq_true]at g_;obtain⟨⟨⟨v1,v2⟩,v3⟩,v4⟩:=g_;generalize bh:g.done++g.pend=es;have mf:es.length≤8589934580:=by rw[←bh];simp;omega
  have abE:es.length≤maxLen:=by simp only[maxLen];omega
  have abF:∀e∈es,0≤e.m∧e.m<12:=fun e he=>by
   rw[←bh]at he;rcases List.mem_append.1 he with he|he
   ·exact Gb v4 he
   ·exact Gb v3 he
  have Y8:nS g=(db es.length (kB es)&&db g.done.length (yy g.done)&&oQ g):=by
   rw[nS,hv,bh,Bool.true_and]
  have wV:=iT (E:=E) g.done (by omega)
  have R8:gS es 0=[.r (rB false),.r (rB false),.r (rB false),.r (rB false),.r (rB false),.r (rB false),.r (rB false),.r (rB false),.r (rB false),.r (rB false),.r (rB false),.r (rB false)]:=by simp[gS,zz,List.range_succ]
  (refine TW.go ?_;simp[au,v1,v2,v3,v4,maxLen];repeat' first|intro hc|refine aa.mk ?_|refine aI ?_|refine af ?_ ?_|(refine cP ?_;(first|refine⟨_,oR _,?_⟩|refine⟨_,F5 _,?_⟩|refine⟨_,vT g _,?_⟩);simp[au,v1,v2,v3,v4,maxLen])|(refine cF [] 1 ?_;refine⟨_,_,wV,?_⟩;simp[au,v1,v2,v3,v4,maxLen]))
  refine tL (fun(k:Nat)=>⟨[(1,.s (.ptr 0 0)),(3,.s (.ptr 1 0)),(38,gR (dj es)),(39,gI .i64 es.length),(40,gI .i64 (k:Nat))],[(0,.box ((au g).map .r)),(1,.box (gS es k))],2⟩) (fun k=>k≤es.length∧∀i,i<k→kB es i=true) (fun k=>es.length-k) 0 ⟨by omega,fun i hi=>by omega⟩
   (Wk.own [0,1] [3] (by simp) (by simp[←bh]) (by simp[au,R8]) (by simp) (by simp)) fun k hk=>?_
  obtain⟨hk,hf⟩:=hk;by_cases ak:k<es.length
  ·have he:es[k]?=some es[k]:=List.getElem?_eq_getElem ak
   have an:(k:Int)<(es.length:Int):=by omega
   have aE:=wrap_add ak abE;obtain⟨m0,m1⟩:=abF _ (List.getElem_mem ak);generalize es[k]=e at he m0 m1;have dR:=Dx es k m0 m1;have bT:=Dy es k he m0 m1;have Dq:=me es k;have Y9:kB es k= !sX es k e.m:=by rw[kB,he]
   cases hd:sX es k e.m
   ·rw[hd]at dR
    (refine TW.go ?_;simp[an,he,m0,dR,bT,Dq,aG,au,aE];repeat' first|intro hc|refine aa.mk ?_|refine aI ?_|refine af ?_ ?_)
    refine⟨k+1,⟨by omega,fun i hi=>?_⟩,by omega,Wk.own [0,1] [] (by simp) (by simp) (by simp[au];exact⟨fun a ha=>by obtain⟨c,rfl⟩:=yw ha;rfl,fun b x hx hb=>by obtain⟨c,rfl⟩:=yw hx;cases hb⟩) (by simp) (by simp)⟩
    by_cases e:i=k
    ·subst e;rw[Y9,hd];rfl
    ·exact hf i (by omega)
   ·rw[hd]at dR
    rw[show nS g=false by rw[Y8,eD ak (by rw[Y9,hd];rfl)];rfl]
    (refine TW.go ?_;simp[an,he,m0,dR,Dq,aG,au];repeat' first|intro hc|refine aa.mk ?_|refine aI ?_|refine af ?_ ?_)
    exact oW [] []
  ·obtain rfl:k=es.length:=by omega
   have dW:db es.length (kB es)=true:=dD hf
   rw[dW,Bool.true_and]at Y8;clear hf;(refine TW.go ?_;simp[au];repeat' first|intro hc|refine aa.mk ?_|refine aI ?_|refine af ?_ ?_)
   refine tL (fun(k:Nat)=>⟨[(1,.s (.ptr 0 0)),(53,gR (dj g.done)),(54,gI .i64 g.done.length),(55,gI .i64 (k:Nat))],[(0,.box ((au g).map .r))],1⟩) (fun k=>k≤g.done.length∧∀i,i<k→yy g.done i=true) (fun k=>g.done.length-k) 0 ⟨by omega,fun i hi=>by omega⟩
    (Wk.own [0] [] (by simp) (by simp) (by simp[au]) (by simp) (by simp)) fun k hk=>?_
   obtain⟨hk,hf⟩:=hk;by_cases ak:k<g.done.length
   ·have he:g.done[k]?=some g.done[k]:=List.getElem?_eq_getElem ak
    have an:(k:Int)<(g.done.length:Int):=by omega
    have aE:=wrap_add ak hlen;generalize g.done[k]=e at he;have Y9:yy g.done k=e.f:=by rw[yy,he]
    cases hd:e.f
    ·rw[show nS g=false by rw[Y8,eD ak (by rw[Y9,hd])];rfl]
     (refine TW.go ?_;simp[an,he,hd,aG,au];repeat' first|intro hc|refine aa.mk ?_|refine aI ?_|refine af ?_ ?_)
     exact oW [] []
    ·(refine TW.go ?_;simp[an,he,hd,aG,au,aE];repeat' first|intro hc|refine aa.mk ?_|refine aI ?_|refine af ?_ ?_)
     refine⟨k+1,⟨by omega,fun i hi=>?_⟩,by omega,Wk.own [0] [] (by simp) (by simp) (by simp[au]) (by simp) (by simp)⟩
     by_cases e:i=k
     ·subst e;rw[Y9,hd]
     ·exact hf i (by omega)
   ·obtain rfl:k=g.done.length:=by omega
    have acw:db g.done.length (yy g.done)=true:=dD hf
    rw[acw,Bool.true_and]at Y8;clear hf bh mf abE abF dW hv wV R8;rw[Y8];rcases hp:g.pend with _|⟨p,ps⟩
    ·(refine TW.go ?_;simp[au,hp];repeat' first|intro hc|refine aa.mk ?_|refine aI ?_|refine af ?_ ?_)
     refine aT.nil (r:=gB (oQ g)) ?_ rfl;simp[oQ,hp]
    ·have U8:¬((ps.length:Int)+1=0):=by omega
     rcases hn:g.done.length with _|n
     ·have ic:g.done=[]:=List.length_eq_zero_iff.1 hn
      (refine TW.go ?_;simp[au,aG,hp,hn,U8];repeat' first|intro hc|refine aa.mk ?_|refine aI ?_|refine af ?_ ?_|(refine cP ?_;refine⟨_,iD _ _ _ _,?_⟩;simp[au,aG,hp,hn,U8]))
      all_goals
       refine aT.nil (r:=gB (oQ g)) ?_ rfl;simp_all[oQ]
     ·have mf:g.done[n]?=some g.done[n]:=List.getElem?_eq_getElem (by omega)
      have nh:g.done.getLast?=some g.done[n]:=by rw[List.getLast?_eq_getElem?,show g.done.length-1=n by omega];exact mf
      have hw:=l8 (k:=n) (by omega)
      have QE:¬((n:Int)+1=0):=by omega
      (refine TW.go ?_;simp[au,aG,hp,hn,U8,QE,hw,mf];repeat' first|intro hc|refine aa.mk ?_|refine aI ?_|refine af ?_ ?_|(refine cP ?_;refine⟨_,iD _ _ _ _,?_⟩;simp[au,aG,hp,hn,U8,QE,hw,mf]))
      all_goals
       refine aT.nil (r:=gB (oQ g)) ?_ rfl;simp_all[oQ]
end Go.Proofs.YtabjbdnokpjipaaGreat.T
