/-
What is proved: clocks of runs, and what a quiet period does and what rests on it. Conditions: as stated.
-/
import Derived.Test.YtabjbdnokpjipaaGreatRw45
import Derived.Test.YtabjbdnokpjipaaGreatRw40
import Derived.Test.YtabjbdnokpjipaaGreatRw44
import Derived.Test.YtabjbdnokpjipaaGreatRw35
import Derived.Test.YtabjbdnokpjipaaGreatRw42
set_option linter.unusedVariables false
set_option linter.unusedSimpArgs false
namespace Go.Proofs.YtabjbdnokpjipaaGreat.T
open Go Go.RowKit
theorem DU {w:aA}(h:b_ w):jM w.ae=true:=by
 have h5:=h.gs.g5;simp only[jM,Bool.and_eq_true,decide_eq_true_eq,bZ,h5];refine⟨⟨trivial,fun i hi=>?_⟩,fun m hm=>?_⟩
 ·simp only[E1,Bool.and_eq_true,decide_eq_true_eq];exact h.gs.dS i hi
 ·simp only[Dl,bZ,h5,R3]
  intro i hi k hk;unfold zu
  cases h1:cc (gAt w.ae i) m
  ·rfl
  ·cases h2:(aV (gAt w.ae i) m).f
   ·rfl
   ·cases h3:cc (gAt w.ae k) m
    ·rfl
    ·obtain⟨e,he⟩:=Option.isSome_iff_exists.1 h1
     obtain⟨d,hd⟩:=Option.isSome_iff_exists.1 h3;have hE:aV (gAt w.ae i) m=e:=by rw[aV,he];rfl
     have hD:aV (gAt w.ae k) m=d:=by rw[aV,hd];rfl
     rw[hE]at h2;obtain⟨-, -, -,F⟩:=h.gs.lJ i m e hi he;have F:=F h2;obtain⟨-, -,cH, -⟩:=h.gs.lJ k m d hk hd;have a:=F.fi k cH;have b:=F.le k cH;rw[show((k:Nat):Int).toNat=k by omega,hD]at a b
     rw[hE,hD]
     cases hf:d.f
     ·simp[b]
     ·obtain⟨a1,a2⟩:=a hf;simp[a1,a2]
theorem VV {m n:Int}:∀{set:List Int} {gs:List aF},cm set→set.Pairwise (·<·)→gs.length=5→iQ gs n→iQ (aN gs m set) (n+1):=fun hr hp h5 h i hi=>by
 rw[(uA m hr hp h5).2 i hi];split
 ·exact AS _ m n (h i hi)
 ·have:=h i hi;omega
theorem Zy {m n:Int}{s:Int×Int}{set:List Int}{gs:List aF}(hr:cm set)(hp:set.Pairwise (·<·))(h5:gs.length=5)(h:iQ gs n)(hs:s.1≤n):iQ (bK gs m s set) n:=fun i hi=>by
 rw[(BP m s hr hp h5).2 i hi];split
 ·exact Gw _ m s.1 s.2 n (h i hi) hs
 ·exact h i hi
theorem Gx {ss:List (List Int)}{gs:List aF}(h:lA ss gs)(jj:∀s∈ss,cB s=true){m t s n:Int}(hF:gT gs (ss.getD m.toNat []) m t s)(hc:iQ gs n):t≤n:=by
 obtain⟨q0,q1⟩:=b9 jj _ s hF.mem;obtain⟨e,he⟩:=Option.isSome_iff_exists.1 (hF.kn s hF.mem);have ho:=hF.own;rw[aV,he]at ho;have K:=cv.1 (h.dS s.toNat (by omega)).1
 rw[c7,fg K.nq]at he;have:e.t≤(gAt gs s.toNat).clock:=by
  rcases List.mem_append.1 he.1 with a|a
  ·exact(K.pl.lJ e a).ck
  ·exact(K.dl.lJ e a).ck
 have:=hc s.toNat (by omega)
 simp only[Option.getD_some]at ho;omega
theorem Sl {gs:List aF}{n:Int}{g:Int}{G:aF}(h5:gs.length=5)(hg0:0≤g)(th:g<5)(h:iQ gs n)(hG:G.clock≤n):iQ (gs.set g.toNat G) n:=fun i hi=>by
 rw[yE G (by omega)]
 split
 ·exact hG
 ·exact h i hi
theorem iQ.mono {gs:List aF}{n n':Int}(h:iQ gs n)(hn:n≤n'):iQ gs n':=fun i hi=>by have:=h i hi;omega
theorem qa (f:Int→dE):∀(gs:List Int) (w:aA),(gs.foldl (fun w g=>dg w (f g)) w).ae=w.ae
 |[],w=>rfl
 |g::gs,w=>by rw[List.foldl_cons,qa f gs,mG]
theorem yM (w:aA)(m:Int):(jS w m).ae=w.ae:=by
 unfold jS;split
 ·exact qa (fun g=>⟨3,m,g,(dx (bC w m)).1.1,(dx (bC w m)).1.2⟩) _ w
 ·rfl
theorem AT (w:aA)(m:Int)(gs:List Int):(im w m gs).ae=w.ae:=qa (fun g=>⟨1,m,g,0,0⟩) gs w
theorem ve {w:aA}(h:b_ w){a:Int}(h0:0≤a)(h1:a<w.aj.length):cB (setAt w a)=true:=by
 unfold setAt;rw[List.getD_eq_getElem?_getD,List.getElem?_eq_getElem (by omega)]
 exact h.set _ (List.getElem_mem _)
theorem Zz {w:aA}(h:b_ w){n:Int}(hc:iQ w.ae n){a:Int}(h0:0≤a)(h1:a<w.aj.length):iQ (eH w.ae (setAt w a) a).1 (n+1):=by
 have hb:=ve h h0 h1;obtain⟨cf, -,hr⟩:=eY hb;have hp:=vb hb;have hP:=h.props h0 (set:=setAt w a) h1 fun g hg=>hg
 have Zb:=VV (m:=a) hr hp h.gs.g5 hc;unfold eH;split
 ·rename_i aZ
  have hF:=xr hP.gs hP.set cf aZ;exact Zy hr hp (uA a hr hp h.gs.g5).1 Zb (Gx hP.gs hP.set hF Zb)
 ·exact Zb
theorem Gy {w:aA}(h:b_ w){n:Int}(hc:iQ w.ae n)(k a:Int):iQ (h_ w k a).ae (n+1):=by
 have cI:=hc.mono (n':=n+1) (by omega)
 unfold h_;split
 ·unfold kA;split
  ·rw[AT];exact cI
  ·exact cI
 ·split
  ·unfold sW;split
   ·exact cI
   ·split
    ·exact cI
    ·rename_i p hp
     have E7:=h.aX p (List.mem_of_getElem? hp);obtain⟨g0,g1⟩:=b9 h.set _ p.g E7.g;split
     ·rw[mG];exact cI
     ·split
      ·unfold np
       split
       ·have hG:iQ (w.ae.set p.g.toNat (aD (gAt w.ae p.g.toNat) p.m).1) (n+1):=Sl h.gs.g5 g0 g1 cI (AS _ _ _ (hc _ (by omega)))
        split
        ·rw[mG];exact hG
        ·exact hG
       ·split
        ·split
         ·exact cI
         ·split
          ·rw[yM];exact cI
          ·exact cI
        ·split
         ·rename_i k1 k2 k3
          rcases E7.k with⟨e, -⟩|⟨e, -⟩|⟨-,hF⟩
          ·omega
          ·omega
          ·exact Sl h.gs.g5 g0 g1 cI (Gw _ _ _ _ _ (cI _ (by omega)) (Gx h.gs h.set hF cI))
         ·exact cI
      ·exact cI
  ·unfold fM
   split
   ·exact cI
   ·split
    ·exact cI
    ·split
     ·split
      ·exact cI
      ·rw[yM,AT];exact cI
     ·split
      ·split
       ·exact Zz h hc (by omega) (by omega)
       ·exact cI
      ·exact cI
theorem I6 {w:aA}(h:b_ w){n:Int}(hc:iQ w.ae n)(hn:n<999){a:Int}(h0:0≤a)(h1:a<w.aj.length):(eH w.ae (setAt w a) a).2=true:=by
 have hb:=ve h h0 h1;obtain⟨cf, -,hr⟩:=eY hb;have hp:=vb hb;have hP:=h.props h0 (set:=setAt w a) h1 fun g hg=>hg
 obtain⟨p5,pA⟩:=uA a hr hp h.gs.g5;have gN:∀g∈setAt w a,cc (gAt (aN w.ae a (setAt w a)) g.toNat) a=true:=fun g hg=>by
  obtain⟨g0,g1⟩:=hr g hg;rw[pA g.toNat (by omega),if_pos (by rw[show((g.toNat:Nat):Int)=g by omega];exact hg)]
  exact N' (by have:=hc g.toNat (by omega);omega)
 have aZ:(aS (aN w.ae a (setAt w a)) (setAt w a) a).2=true:=by
  unfold aS;split
  ·rfl
  ·rename_i l he
   have Gv:=sG he;have:((setAt w a).filter fun g=>cc (gAt (aN w.ae a (setAt w a)) g.toNat) a)=setAt w a:=List.filter_eq_self.2 gN
   rw[this]at Gv;rw[if_neg (by simp at Gv;omega)]
 have hF:gT (aN w.ae a (setAt w a)) (w.aj.getD a.toNat []) a (aS (aN w.ae a (setAt w a)) (setAt w a) a).1.1 (aS (aN w.ae a (setAt w a)) (setAt w a) a).1.2:=xr hP.gs hP.set cf aZ
 have hG:lA w.aj (aN w.ae a (setAt w a)):=hP.gs
 unfold eH;rw[if_pos aZ];simp only
 generalize(aS (aN w.ae a (setAt w a)) (setAt w a) a).1=s at*;obtain⟨f5,fA⟩:=BP a s hr hp p5;refine List.all_eq_true.2 fun g hg=>?_;obtain⟨g0,g1⟩:=hr g hg;rw[fA g.toNat (by omega),if_pos (by rw[show((g.toNat:Nat):Int)=g by omega];exact hg)]
 rcases I5 hG h.set h.l_ h0 h1 hg hF with e|⟨e1,e2⟩
 ·unfold cc aV;rw[e];rfl
 ·rw[e1,hF.kn g hg];simpa using e2
def dG (w:aA):Nat→aA
 |0=>⟨w.aj,w.ae,w.rounds,w.aP,[]⟩
 |k+1=>h_ (dG w k) 7 k
def mj (w:aA):aA:=dG w w.aj.length
theorem Sm (w:aA){k:Int}(h0:0≤k)(h1:k<w.aj.length):h_ w 7 k=if(eH w.ae (setAt w k) k).2=true then⟨w.aj,(eH w.ae (setAt w k) k).1,w.rounds,w.aP,w.aX⟩else w:=by
 unfold h_ fM;rw[if_neg (by omega),if_neg (by omega),if_neg (by omega),if_neg (by omega),if_neg (by omega),if_pos rfl]
def I7 (w:aA)(m:Int):Prop:=∀g∈setAt w m,cc (gAt w.ae g.toNat) m=true∧(aV (gAt w.ae g.toNat) m).f=true
theorem Q9 {w:aA}(h:b_ w){n:Int}(hc:iQ w.ae n)(hn:n<999){k:Int}(h0:0≤k)(h1:k<w.aj.length):
  (h_ w 7 k).aj=w.aj∧(h_ w 7 k).aX=w.aX∧I7 (h_ w 7 k) k∧(∀j,I7 w j→I7 (h_ w 7 k) j)∧∀i:Nat,i<5→∃p,(gAt (h_ w 7 k).ae i).done=(gAt w.ae i).done++p:=by
 have hy:=I6 h hc hn h0 h1;have hb:=ve h h0 h1;have dP:mi w.ae (setAt w k) k=true:=by
  simp only[mi,Bool.and_eq_true];have:=h.l_
  exact⟨⟨DU h,hb⟩,by simp only[bj,decide_eq_true_eq];omega⟩
 obtain⟨s,hs,K⟩:=Zs dP hy;rw[Sm w h0 h1,if_pos hy];refine⟨rfl,rfl,fun g hg=>⟨(K.st g hg).1,(K.st g hg).2.1⟩,fun j hj g hg=>?_,K.pre⟩
 by_cases vr:j=k
 ·subst vr;exact⟨(K.st g hg).1,(K.st g hg).2.1⟩
 ·have bu:g∈setAt w j:=hg
  obtain⟨g0,g1⟩:=b9 h.set j.toNat g bu;have e:=K.other g.toNat (by omega) j vr
  have:=hj g bu
  unfold cc aV at*;show(aU (gAt (eH w.ae (setAt w k) k).1 g.toNat) j).isSome=true∧((aU (gAt (eH w.ae (setAt w k) k).1 g.toNat) j).getD aB.zero).f=true
  rw[e];exact this
structure Calm (w:aA) (n:Int) (k:Nat) (x:aA):Prop where
 ok:b_ x
 ck:iQ x.ae (n+k)
 aj:x.aj=w.aj
 aX:x.aX=[]
 fin:∀j:Nat,j<k→I7 x j
 pre:∀i:Nat,i<5→∃p,(gAt x.ae i).done=(gAt w.ae i).done++p
theorem Oc {w:aA}(h:b_ w){n:Int}(hc:iQ w.ae n)(hn:n<900):∀{k:Nat},k≤w.aj.length→Calm w n k (dG w k)
 |0,_=>⟨{h with nl:=Nat.zero_le _,aX:=fun p hp=>(by cases hp)},fun i hi=>(by have:=hc i hi;show(gAt w.ae i).clock≤n+((0:Nat):Int);omega),rfl,rfl,fun j hj=>(by omega),fun i _=>⟨[],(by simp[dG])⟩⟩
 |k+1,hk=>by
  have K:=Oc h hc hn (k:=k) (by omega)
  have hs:=h.l_;have hl:(k:Int)<((dG w k).aj.length:Int):=by rw[K.aj];omega
  obtain⟨a,b,c,d,e⟩:=Q9 K.ok K.ck (by omega) (k:=k) (by omega) hl
  refine⟨K.ok.event 7 k,?_,by rw[dG,a,K.aj],by rw[dG,b,K.aX],fun j hj=>?_,fun i hi=>?_⟩
  ·have:=Gy K.ok K.ck 7 k
   exact this.mono (by omega)
  ·by_cases vr:j=k
   ·subst vr;exact c
   ·exact d j (K.fin j (by omega))
  ·obtain⟨p,hp⟩:=K.pre i hi
   obtain⟨q,hq⟩:=e i hi;exact⟨p++q,by rw[dG,hq,hp,List.append_assoc]⟩
theorem Gz {w:aA}(h:b_ w){n:Int}(hc:iQ w.ae n)(hn:n<900):Calm w n w.aj.length (mj w):=Oc h hc hn (Nat.le_refl _)
theorem DV {w x:aA}{n:Int}(K:Calm w n w.aj.length x){g:Nat}(hg:g<5):(gAt x.ae g).pend=[]∧∀m:Int,m∈cr (gAt x.ae g)↔0≤m∧m<x.aj.length∧(g:Int)∈setAt x m:=by
 have hv:=(K.ok.gs.dS g hg).1;have G:=cv.1 hv;have cJ:∀e∈(gAt x.ae g).pend++(gAt x.ae g).done,0≤e.m∧e.m<x.aj.length∧(g:Int)∈setAt x e.m∧e.f=true:=fun e he=>by
  have aZ:aU (gAt x.ae g) e.m=some e:=by rw[c7,fg G.nq];exact⟨he,rfl⟩
  obtain⟨a,b,c, -⟩:=K.ok.gs.lJ g e.m e hg aZ;have hf:=(K.fin e.m.toNat (by rw[←K.aj];omega)) g (by rw[show((e.m.toNat:Nat):Int)=e.m by omega];exact c)
  rw[show((e.m.toNat:Nat):Int)=e.m by omega,show((g:Nat):Int).toNat=g by omega,aV,aZ]at hf
  exact⟨a,b,c,hf.2⟩
 have hp:(gAt x.ae g).pend=[]:=by
  rcases hq:(gAt x.ae g).pend with _|⟨p,l⟩
  ·rfl
  ·have h1:=(G.hd p l hq).1
   have h2:=(cJ p (by rw[hq];simp)).2.2.2
   rw[h1]at h2;cases h2
 refine⟨hp,fun m=>⟨fun hm=>?_,fun hm=>?_⟩⟩
 ·obtain⟨e,he,rfl⟩:=uF.1 hm
  obtain⟨a,b,c, -⟩:=cJ e (by simp[he])
  exact⟨a,b,c⟩
 ·obtain⟨a,b,c⟩:=hm
  have hf:=(K.fin m.toNat (by rw[←K.aj];omega)) g (by rw[show((m.toNat:Nat):Int)=m by omega];exact c)
  rw[show((m.toNat:Nat):Int)=m by omega,show((g:Nat):Int).toNat=g by omega]at hf
  obtain⟨e,he⟩:=Option.isSome_iff_exists.1 hf.1;rw[c7,fg G.nq,hp,List.nil_append]at he;exact uF.2 ⟨e,he.1,he.2⟩
theorem DW {g:aF}(h:bB g=true):(cr g).Nodup:=by
 have:=(cv.1 h).dl.nq
 exact List.pairwise_map.2 (this.imp fun h=>h)
def o5 (ss:List (List Int))(g:Int):Nat→Nat
 |0=>0
 |k+1=>if cb (ss.getD k []) g=true then o5 ss g k+1 else o5 ss g k
def wi (ss:List (List Int))(g:Int):Nat→List Int
 |0=>[]
 |k+1=>if cb (ss.getD k []) g=true then wi ss g k++[(k:Int)]else wi ss g k
theorem zI (ss:List (List Int))(g:Int):∀k,(wi ss g k).length=o5 ss g k
 |0=>rfl
 |k+1=>by
  unfold wi o5;split
  ·simp[zI ss g k]
  ·exact zI ss g k
theorem zJ {ss:List (List Int)}{g:Int}:∀{k:Nat} {m:Int},m∈wi ss g k↔0≤m∧m<k∧g∈ss.getD m.toNat []
 |0,m=>by simp[wi];intros;omega
 |k+1,m=>by
  have ih:=zJ (ss:=ss) (g:=g) (k:=k) (m:=m);unfold wi;split
  ·rename_i h
   rw[cY]at h;rw[List.mem_append,ih,List.mem_singleton];constructor
   ·rintro(⟨a,b,c⟩|rfl)
    ·exact⟨a,by omega,c⟩
    ·exact⟨by omega,by omega,by simpa using h⟩
   ·rintro⟨a,b,c⟩
    by_cases e:m=k
    ·exact .inr e
    ·exact .inl ⟨a,by omega,c⟩
  ·rename_i h
   rw[cY]at h;rw[ih];constructor
   ·rintro⟨a,b,c⟩;exact⟨a,by omega,c⟩
   ·rintro⟨a,b,c⟩
    refine⟨a,?_,c⟩;by_cases e:m=k
    ·subst e;exact absurd (by simpa using c) h
    ·omega
theorem uG (ss:List (List Int))(g:Int):∀k,(wi ss g k).Nodup
 |0=> .nil
 |k+1=>by
  unfold wi;split
  ·refine List.pairwise_append.2 ⟨uG ss g k,List.pairwise_singleton ..,fun a ha b hb=>?_⟩
   obtain rfl:=List.mem_singleton.1 hb
   have:=(zJ.1 ha).2.1
   omega
  ·exact uG ss g k
theorem VW {w x:aA}{n:Int}(K:Calm w n w.aj.length x){g:Nat}(hg:g<5):o5 x.aj g x.aj.length=(cr (gAt x.ae g)).length:=by
 have h:=(DV K hg).2;have hn:=DW (K.ok.gs.dS g hg).1;have hm:=uG x.aj g x.aj.length;have e:∀m,m∈cr (gAt x.ae g)↔m∈wi x.aj g x.aj.length:=fun m=>by rw[h m,zJ];exact Iff.rfl
 have a:=hn.length_le_of_subset fun m hm=>(e m).1 hm
 have b:=hm.length_le_of_subset fun m hm=>(e m).2 hm
 rw[←zI];omega
theorem Od {w x:aA}{n:Int}(K:Calm w n w.aj.length x):mj x=x:=by
 have cf:∀k:Nat,k<x.aj.length→cB (setAt x k)=true:=fun k hk=>ve K.ok (by omega) (by omega)
 have:∀k,k≤x.aj.length→dG x k=x:=fun k=>by
  induction k with
  |zero=>
   intro _;have:=K.aX
   obtain⟨a,b,c,d,e⟩:=x;simp only at this
   subst this;rfl
  |succ k ih=>
   intro hk;rw[dG,ih (by omega),Sm x (by omega) (by omega)]
   have hb:=cf k (by omega)
   obtain⟨h1, -,hr⟩:=eY hb;have:=Q8 (gs:=x.ae) (m:=k) h1 hr (vb hb) K.ok.gs.g5 (K.fin k (by rw[←K.aj];omega))
   rw[this];rfl
 exact this _ (Nat.le_refl _)
theorem Sn:b_ iP∧iQ iP.ae 0:=by
 have oq:∀i:Nat,i<5→gAt iP.ae i=⟨i,0,[],[]⟩:=fun i hi=>by
  rcases i with _|_|_|_|_|i
  ·rfl
  ·rfl
  ·rfl
  ·rfl
  ·rfl
  ·omega
 refine⟨⟨by decide,fun s hs=>?_,⟨by decide,fun i hi=>?_,fun i m e hi he=>?_⟩,rfl,rfl,by decide,fun m hm=>?_,fun p hp=>?_⟩,fun i hi=>?_⟩
 ·cases hs
 ·rw[oq i hi]
  refine⟨cv.2 ⟨?_,⟨Int.le_refl 0,by simp⟩,⟨.nil,.nil,fun e h=>?_⟩,⟨.nil,.nil,fun e h=>?_⟩,fun e h=>?_,fun e h=>?_,fun p l h=>?_⟩,rfl⟩
  ·simp only[bM,decide_eq_true_eq];omega
  all_goals cases h
 ·rw[oq i hi]at he;cases he
 ·cases hm
 ·cases hp
 ·rw[oq i hi];exact Int.le_refl 0
def eJ (es:List (Int×Int)):aA:=es.foldl (fun w e=>h_ w e.1 e.2) iP
theorem DX:∀(es:List (Int×Int)),b_ (eJ es)∧iQ (eJ es).ae es.length:=fun es=>by
 have:∀(es:List (Int×Int)) (w:aA) (n:Int),b_ w→iQ w.ae n→b_ (es.foldl (fun w e=>h_ w e.1 e.2) w)∧iQ (es.foldl (fun w e=>h_ w e.1 e.2) w).ae (n+es.length):=by
  intro es;induction es with
  |nil=>intro w n h hc;exact⟨h,by simpa using hc⟩
  |cons e es ih=>
   intro w n h hc;obtain⟨a,b⟩:=ih (h_ w e.1 e.2) (n+1) (h.event _ _) (Gy h hc _ _);exact⟨a,b.mono (by simp;omega)⟩
 have:=this es iP 0 Sn.1 Sn.2
 exact⟨this.1,this.2.mono (by omega)⟩
end Go.Proofs.YtabjbdnokpjipaaGreat.T
namespace Go.Proofs.YtabjbdnokpjipaaGreat.T
open Go Go.RowKit
set_option maxRecDepth 100000
set_option maxHeartbeats 4000000
variable {E:List PanicEntry→World→Prop}
theorem TC.Mo {P:Program}{f:FuncId}{args:List GV}{m:Nat}{bp sto':List (Nat×az)}{x y z:GV}(hl:x.le y)(h:TC P E f args m bp (.p [x,z]) sto'):TC P E f args m bp (.p [y,z]) sto':=by
 refine⟨h.1,fun w bR ρ D hv ha hD h1 h2 h3=>(h.2 w bR ρ D hv ha hD h1 h2 h3).mono ?_⟩
 rintro e w' (hE|⟨v,ρ',D',rfl,hr,hP⟩)
 ·exact .inl hE
 ·refine .inr ⟨v,ρ',D',rfl,?_,hP⟩
  cases hr with
  |p hn hr=>
   refine .p hn fun i t ht=>?_;rcases i with _|i
   ·cases ht
    exact(hr 0 x rfl).le hl
   ·exact hr (i+1) t ht
theorem zK (m:Int)(set:List Int)(hm:bj m=true)(hs:cB set=true):TC Tw.prog E 105 [gI .i64 m,gR (aY set)] 0 [] (.p [.a [.r (rI m),.own 0,.r (.sl 2 [])],gB true]) [(0,fU set)]:=
 TC.Mo (by simp) (By m set hm hs)
theorem DY {w:aA}(h:jw w){m:Int}(h0:0≤m)(h1:m<w.aj.length):jT (bC w m) 4294967296:=by
 have:=kI h h0 h1
 exact⟨by have:=this.2.1;omega,by have:=this.2.2;omega⟩
theorem GA (w:aA)(lk m:Int)(h:jw w)(h0:0≤m)(h1:m<w.aj.length)(hv:fe (bC w m)=true):TC Tw.prog E 110 [I3,gI .i64 m] 6 (AP lk w) (.p []) (N2 lk (jS w m)):=by
 have Bn:=h.rl;have kP:=h.nl;have hR:=nY h h0 h1;have hle:=DY h h0 h1;have qG:m.toNat<w.aj.length:=by omega
 have bh:w.aj[m.toNat]?=some (setAt w m):=by rw[setAt,List.getD_eq_getElem?_getD,List.getElem?_eq_getElem qG];rfl
 obtain⟨-,hS5, -⟩:=nW h h0 h1;have hF:=Fa (E:=E) (bC w m) hle hv;unfold jS;generalize setAt w m=S at*;refine tE Tryz.f110 Tryz.ntmps110 (by rw[Tryz.results110]) ?_ (hfit:=(Fits.of (by simp[dw,az.live,List.range_succ]) (by simp) (by simp)))
 generalize bC w m=r at*
 cases hb:(dx r).2
 ·rw[hb]at hF
  rw[if_neg (by simp)]
  (refine TW.go ?_;simp[h0,hR,aK];repeat' first|intro hc|refine aa.mk ?_|refine aI ?_|refine af ?_ ?_|(refine cP ?_;refine⟨_,hF,?_⟩;simp[h0,hR,aK]))
  exact oW [1,2,3,4,5] []
 ·rw[hb]at hF
  rw[if_pos rfl];have hT:=m_ (E:=E) w lk 3 m (dx r).1.1 (dx r).1.2 S (by omega) kP
  unfold rT;generalize(S.foldl (fun w g=>dg w ⟨3,m,g,(dx r).1.1,(dx r).1.2⟩) w)=v at*
  (refine TW.go ?_;simp[h0,hR,bh,aK];repeat' first|intro hc|refine aa.mk ?_|refine aI ?_|refine af ?_ ?_|(refine cP ?_;refine⟨_,hF,?_⟩;simp[h0,hR,bh,aK])|(refine cL [0,1,2,3,4,5] 5 ?_;refine⟨_,_,_,_,hT,?_⟩;simp[h0,hR,bh,aK]))
  exact oW [7,8,9,10,11] []
def DZ (n:Int)(k:Nat):Bool:=decide (IntKind.i64.wrap (((n.fdiv (2^min k IntKind.i64.bits) % 2^IntKind.i64.bits).toNat&&& 1 % 2^IntKind.i64.bits:Nat):Int)=1)
def uH (n:Int)(k:Nat):List Int:=(upto k).filter fun g=>DZ n g.toNat
theorem Q_ (n:Int)(k:Nat):uH n (k+1)=uH n k++if DZ n k=true then[(k:Int)]else[]:=by
 rw[uH,sk,List.filter_append,uH];congr 1
 cases h:DZ n k<;>simp[h]
theorem VX (n:Int)(k:Nat):(uH n k).length≤k:=Nat.le_trans (List.length_filter_le _ _) (by rw[va];exact Nat.le_refl _)
theorem VY:∀k,k<31→uH ((k+1:Nat):Int) 5=cQ (k+1:Nat):=by decide+kernel
theorem ZA {n:Int}(h1:1≤n)(h2:n≤31):uH n 5=cQ n:=by
 obtain⟨k,rfl⟩:∃k:Nat,n=(k+1:Nat):=⟨(n-1).toNat,by omega⟩
 exact VY k (by omega)
theorem ZB (n:Int)(k:Nat):TC Tw.prog E 104 [gI .i64 (k:Nat),.s (.ptr 0 0)] 1 [(0,.box [.r (rI n)])] (gB (DZ n k)) [(0,.box [.r (rI n)])]:=by
 have hk:¬(k:Int)<0:=by omega
 refine tE Tryz.f104 Tryz.ntmps104 (by rw[Tryz.results104]) ?_ (hfit:=(Fits.of (by simp[dw,List.range_succ]) (by simp) (by simp)))
 (refine TW.go ?_;simp[hk];repeat' first|intro hc|refine aa.mk ?_|refine aI ?_|refine af ?_ ?_)
 refine aT.own [] [] (by simp;rfl) (by simp[DZ]) (by simp) (by simp) (by simp[DZ]) (by simp)
theorem I8 (n:Int):TC Tw.prog E 103 [.gK (.func 104) [] [.s (.ptr 0 0)]] 1 [(0,.box [.r (rI n)])] (gR (aY (uH n 5))) [(0,.box [.r (rI n)])]:=by
 refine tE Tryz.f103 Tryz.ntmps103 (by rw[Tryz.results103]) ?_ (hfit:=(Fits.of (by simp[dw,List.range_succ]) (by simp) (by simp)))
 (refine TW.go ?_;simp;repeat' first|intro hc|refine aa.mk ?_|refine aI ?_|refine af ?_ ?_)
 refine tL (fun(k:Nat)=>⟨[(0,.gK (.func 104) [] [.s (.ptr 0 0)]),(3,.s (.own 1)),(6,gI .i64 (k:Nat))],[(0,.box [.r (rI n)]),(1,fU (uH n k))],2⟩) (fun k=>k≤5) (fun k=>5-k) 0 (by omega)
  (Wk.own [1] [] (by simp) (by simp) (by simp[uH,upto]) (by simp) (by simp)) fun k hk=>?_
 by_cases ak:k<5
 ·have an:(k:Int)<5:=by omega
  have aE:IntKind.i64.wrap ((k:Int)+1)=(k:Int)+1:=aQ (by omega) (by omega)
  have hl:=VX n k;have hs:=Q_ n k;have qt:=ZB (E:=E) n k;generalize uH n k=out at*
  cases hb:DZ n k
  ·rw[hb]at qt hs
   (refine TW.go ?_;simp[an,aE,maxLen];repeat' first|intro hc|refine aa.mk ?_|refine aI ?_|refine af ?_ ?_|(refine cL [0] 0 ?_;refine⟨_,_,_,_,qt,?_⟩;simp[an,aE,maxLen]))
   exact⟨k+1,by omega,by omega,Wk.own [1] [] (by simp) (by simp) (by simp[hs]) (by simp) (by simp)⟩
  ·rw[hb]at qt hs
   (refine TW.go ?_;simp[an,aE,maxLen];repeat' first|intro hc|refine aa.mk ?_|refine aI ?_|refine af ?_ ?_|(refine cL [0] 0 ?_;refine⟨_,_,_,_,qt,?_⟩;simp[an,aE,maxLen]))
   exact⟨k+1,by omega,by omega,Wk.own [3] [] (by simp) (by simp) (by simp[hs]) (by simp) (by simp)⟩
 ·obtain rfl:k=5:=by omega
  (refine TW.go ?_;simp;repeat' first|intro hc|refine aa.mk ?_|refine aI ?_|refine af ?_ ?_)
  exact oW [] [1]
theorem aa6 (w:aA)(lk n:Int)(h:jw w):TC Tw.prog E 77 [I3,gI .i64 n] 6 (AP lk w) (.p []) (N2 lk (kA w n)):=by
 have vW:=h.l_;have Bn:=h.rl;have kl:=h.sl;have kP:=h.nl;refine tE Tryz.f77 Tryz.ntmps77 (by rw[Tryz.results77]) ?_ (hfit:=(Fits.of (by simp[dw,az.live,List.range_succ]) (by simp) (by simp)))
 by_cases hc:1≤n∧n≤31∧w.aj.length<12
 ·obtain⟨c1,c2,c3⟩:=hc
  have c1':¬n<1:=by omega
  have c2':¬31<n:=by omega
  have c3':¬(w.aj.length:Int)=12:=by omega
  obtain⟨b1,b2⟩:=yv c1 c2;have qG:bj (w.aj.length:Int)=true:=by simp[bj];omega
  have hP:=I8 (E:=E) n;rw[ZA c1 c2]at hP;have hA:=m_ (E:=E) ⟨w.aj++[cQ n],w.ae,w.rounds++[⟨w.aj.length,cQ n,[]⟩],w.aP++[false],w.aX⟩ lk 1 w.aj.length 0 0 (cQ n) (by have:=b2.2.1;omega) kP
  rw[kA,if_pos ⟨c1,c2,c3⟩];unfold im;have hR:=zK (E:=E) (w.aj.length:Int) (cQ n) qG b1;generalize cQ n=S at*;generalize S.foldl (fun w_1 g=>dg w_1 ⟨1,w.aj.length,g,0,0⟩) (⟨w.aj++[S],w.ae,w.rounds++[⟨w.aj.length,S,[]⟩],w.aP++[false],w.aX⟩:aA)=v at*
  simp[aK]at hA;(refine TW.go ?_;simp[c1',c2',c3',maxLen];repeat' first|intro hc|refine aa.mk ?_|refine aI ?_|refine af ?_ ?_|(refine cL [6] 0 ?_;refine⟨_,_,_,_,hP,?_⟩;simp[c1',c2',c3',maxLen])|(refine cF [] 1 ?_;refine⟨_,_,hR,?_⟩;simp[c1',c2',c3',maxLen])|(refine cL [0,10,2,12,14,5] 5 ?_;refine⟨_,_,_,_,hA,?_⟩;simp[c1',c2',c3',maxLen]))
  exact oW [15,16,17,18,19] []
 ·rw[kA,if_neg hc]
  by_cases c1:n<1
  ·(refine TW.go ?_;simp[c1];repeat' first|intro hc|refine aa.mk ?_|refine aI ?_|refine af ?_ ?_)
   exact oW [1,2,3,4,5] []
  ·by_cases c2:31<n
   ·(refine TW.go ?_;simp[c1,c2];repeat' first|intro hc|refine aa.mk ?_|refine aI ?_|refine af ?_ ?_)
    exact oW [1,2,3,4,5] []
   ·have c3:(w.aj.length:Int)=12:=by omega
    (refine TW.go ?_;simp[c1,c2,c3];repeat' first|intro hc|refine aa.mk ?_|refine aI ?_|refine af ?_ ?_)
    exact oW [1,2,3,4,5] []
end Go.Proofs.YtabjbdnokpjipaaGreat.T
namespace Go.Proofs.YtabjbdnokpjipaaGreat.T
open Go Go.RowKit
section
variable {r:Rg}{o:Oper}{os:List Oper}{gd:List (Nat ⊕ Nat)}{s:ah}{acc:List Pl}{K:ah→Prop}{c:Call}{f:FuncId}{oL gs:List GV}{cW:List (Nat×Option az)}{tt:Option (FuncId×List GV×List (Nat×Option az))}
theorem cLP (frag peek:List Nat)(cnt:Nat)(h:∃args' sto0 sto' res,TC r.P r.E f args' frag.length sto0 res sto'∧il s.get peek oL=ik (φ frag s.nx) args'∧uY s (φ frag s.nx) sto0 0 frag∧(∀b∈peek,b∉frag)∧(∀b∈peek,rowOf (s.get b)=true)∧(∀x∈sto0,x.1<frag.length∧x.2.live=true)∧(∀x∈sto',x.1<frag.length+cnt∧∀b∈x.2.names,b<frag.length+cnt)∧(∀b∈res.names,b<frag.length+cnt)∧run (iK r) r os (s.step o.dst (res.bI (φ frag s.nx)) (jL s frag peek sto' cnt) (s.nx+cnt)) (if r.draw then jd o gd (cW++gr s frag peek cnt) (jL s frag peek sto' cnt)::acc else[]) K)
  (ho:o.op= .call c:=by rfl) (hc:d_ (.call c)=true:=by rfl) (hf:s.qy r.P c.callee c.args.toList=tt:=by simp;rfl) (ht:tt=some (f,oL,cW):=by rfl) (fO:∀x∈cW,s.get x.1=x.2:=by simp) (hn:frag.Nodup:=by simp) (ak:∀b∈frag,b<s.nx:=by simp):iK r o os gd s acc K:=by
 obtain⟨args',sto0,sto',res,hT,ha,hb,hp,iH,hl,hs,h1,h⟩:=h;exact .of hc ho (aC.any ho hc (hf.trans ht) fO frag peek cnt hT ⟨ha,hn,ak,hp,iH,fun b h=>(by have:=uh (b:=b) hb h;rwa[Nat.zero_add]at this),hl,fun x hx=>(hs x hx).1⟩ h1 (fun x hx=>(hs x hx).2) h)
end
end Go.Proofs.YtabjbdnokpjipaaGreat.T
namespace Go.Proofs.YtabjbdnokpjipaaGreat.T
open Go Go.RowKit
set_option maxRecDepth 100000
set_option maxHeartbeats 4000000
variable {E:List PanicEntry→World→Prop}
@[simp] theorem aeb:kv Tw.prog 161 "loop.example/groupmulticast/impl.message"=some (193,none):=by kernel_rfl
@[simp] theorem acG:kv Tw.prog 163 "loop.example/groupmulticast/impl.message"=some (194,none):=by kernel_rfl
@[simp] theorem aec:kv Tw.prog 165 "loop.example/groupmulticast/impl.message"=some (195,none):=by kernel_rfl
theorem ZC {r:cl}(h:fe r=true):jT r 1000:=by
 have h1:=(pP h).1;have h2:=(eY h1).2.1;have h3:=(yH h).2;exact⟨by omega,by omega⟩
theorem aa7 {r:cl}(h:fe r=true):kJ r 5=dk r:=by
 obtain⟨h1, -⟩:=pP h;obtain⟨-, -,hr⟩:=eY h1;have hg:=uB (sz h1) hr;unfold dk;rw[if_pos h,hg];unfold kJ;rw[List.filter_filter];refine List.filter_congr fun x hx=>?_;exact Bool.and_comm _ _
theorem yN {w:aA}(h:b_ w)(hs:cw 2000 w){g:Int}(h0:0≤g)(h1:g<5):w.ae[g.toNat]?=some (gAt w.ae g.toNat)∧bB (gAt w.ae g.toNat)=true∧iN (gAt w.ae g.toNat) 2000:=by
 have hg:=cu (gs:=w.ae) (i:=g.toNat) (by have:=hs.g5;omega)
 exact⟨hg,(h.gs.dS _ (by omega)).1,hs.dS _ (List.mem_of_getElem? hg)⟩
theorem Oe {w:aA}(h:b_ w){m:Int}(h0:0≤m)(h1:m<w.aj.length):bj m=true:=by
 have:=h.l_
 simp[bj];omega
theorem uI {w:aA}(h:b_ w){m:Int}(h0:0≤m)(h1:m<w.aj.length):fe (bC w m)=true:=(h.oU m.toNat (by omega)).ok
theorem aa8 {w:aA}(h:b_ w){p:dE}(hp:tc w.aj w.ae p):0≤p.g∧p.g<5:=b9 h.set _ _ hp.g
theorem Ra (w:aA)(lk:Int)(p:dE)(h:b_ w)(hs:cw 2000 w)(hp:tc w.aj w.ae p):TC Tw.prog E 107 [I3,xp p] 6 (AP lk w) (.p []) (N2 lk (np w p)):=by
 have hN:jw w:=hs.mono (by omega)
 obtain⟨g0,g1⟩:=aa8 h hp;obtain⟨hG,hV,xj⟩:=yN h hs g0 g1;have hm:=Oe h hp.m0 hp.m1;have hR:=nY hN hp.m0 hp.m1;have hS:=se hN hp.m0 hp.m1;have Rb:=uI h hp.m0 hp.m1;have I9:=hp.m0;have hm1:=hp.m1;have zC:=hs.g5;have Bn:=h.rl;have kl:=h.sl;have kP:=h.nl;unfold np xp;rcases hp.k with⟨k1,ht,kq⟩|⟨k2,hsg,IW⟩|⟨k3,hF⟩
 ·rw[if_pos k1,if_pos k1]
  refine tE Tryz.f107 Tryz.ntmps107 (by rw[Tryz.results107]) ?_ (hfit:=(Fits.of (by simp[dw,az.live,List.range_succ]) (by simp) (by simp)))
  have hle:jv (gAt w.ae p.g.toNat) 4294967280:=by have:=xj.1;exact⟨by omega,by omega⟩
  generalize gAt w.ae p.g.toNat=G at*;have hP:=sY (E:=E) G p.m hle hV hm
  cases hb:(aD G p.m).2.2
  ·rw[if_neg (by simp)]
   (refine TW.go ?_;simp[au,g0,hG,hb];repeat' first|intro hc|refine aa.mk ?_|refine aI ?_|refine af ?_ ?_|(refine cP ?_;refine⟨_,Gq _ _,?_⟩;simp[au,g0,hG,hb])|(refine cF [] 2 ?_;refine⟨_,_,hP,?_⟩;simp[au,g0,hG,hb]))
   refine aT.own [1,2,3,4,5] [] (by simp;rfl) (by simp[au]) (by simp) (by simp) (by simp[au]) (by simp)
  ·rw[if_pos rfl]
   have hT:=m_ (E:=E) ⟨w.aj,w.ae.set p.g.toNat (aD G p.m).1,w.rounds,w.aP,w.aX⟩ lk 2 p.m (aD G p.m).2.1.1 (aD G p.m).2.1.2 [p.g] (by simp) kP
   simp only[List.foldl_cons,List.foldl_nil]at hT;generalize dg ⟨w.aj,w.ae.set p.g.toNat (aD G p.m).1,w.rounds,w.aP,w.aX⟩ ⟨2,p.m,p.g,(aD G p.m).2.1.1,(aD G p.m).2.1.2⟩=v at*;simp[au]at hT;(refine TW.go ?_;simp[au,g0,hG,hb];repeat' first|intro hc|refine aa.mk ?_|refine aI ?_|refine af ?_ ?_|(refine cP ?_;refine⟨_,Gq _ _,?_⟩;simp[au,g0,hG,hb])|(refine cF [] 2 ?_;refine⟨_,_,hP,?_⟩;simp[au,g0,hG,hb])|(refine cLP [0,1,2,3,4,5] [11] 5 ?_;refine⟨_,_,_,_,hT,?_⟩;simp[au,g0,hG,hb]))
   exact oW [12,13,14,15,16] []
 ·have k1:¬p.k=1:=by omega
  rw[if_neg k1,if_neg k1,if_pos k2,if_pos k2];refine tE Tryz.f107 Tryz.ntmps107 (by rw[Tryz.results107]) ?_ (hfit:=(Fits.of (by simp[dw,az.live,List.range_succ]) (by simp) (by simp)))
  cases aZ:pM w p.m
  ·rw[if_neg (by simp)]
   have hr:=h.oU p.m.toNat (by have:=hp.m1;omega)
   rw[show((p.m.toNat:Nat):Int)=p.m by omega]at hr
   have hw:=h.rW hp.m0 hp.m1 (Zv hr IW);have hwN:jw ⟨w.aj,w.ae,w.rounds.set p.m.toNat (gO (bC w p.m) p.t p.s).1,w.aP,w.aX⟩:=((hs.mono (Nat.le_succ _)).rW p.m.toNat (IQ p.t p.s (kI hs hp.m0 hp.m1))).mono (by omega)
   have hA:=N1 (E:=E) (bC w p.m) p.t p.s (ZC Rb) Rb IW.ok;have hwv:=uI hw hp.m0 hp.m1;have hFi:=GA (E:=E) ⟨w.aj,w.ae,w.rounds.set p.m.toNat (gO (bC w p.m) p.t p.s).1,w.aP,w.aX⟩ lk p.m hwN hp.m0 hp.m1 hwv;clear hwv hwN hw hr;generalize bC w p.m=r at*
   cases hb:(gO r p.t p.s).2
   ·rw[hb]at hA
    rw[if_neg (by simp)]
    (refine TW.go ?_;simp[aK,I9,hR,hS,aZ];repeat' first|intro hc|refine aa.mk ?_|refine aI ?_|refine af ?_ ?_|(refine cP ?_;refine⟨_,uD _ _ _,?_⟩;simp[aK,I9,hR,hS,aZ])|(refine cF [] 2 ?_;refine⟨_,_,hA,?_⟩;simp[aK,I9,hR,hS,aZ]))
    refine aT.own [1,2,3,4,5] [] (by simp;rfl) (by simp[aK]) (by simp) (by simp) (by simp[aK]) (by simp)
   ·rw[hb]at hA
    rw[if_pos rfl];generalize jS ⟨w.aj,w.ae,w.rounds.set p.m.toNat (gO r p.t p.s).1,w.aP,w.aX⟩ p.m=v at*;simp[aK]at hFi;(refine TW.go ?_;simp[aK,I9,hR,hS,aZ];repeat' first|intro hc|refine aa.mk ?_|refine aI ?_|refine af ?_ ?_|(refine cP ?_;refine⟨_,uD _ _ _,?_⟩;simp[aK,I9,hR,hS,aZ])|(refine cF [] 2 ?_;refine⟨_,_,hA,?_⟩;simp[aK,I9,hR,hS,aZ])|(refine cL [0,1,2,3,4,5] 5 ?_;refine⟨_,_,_,_,hFi,?_⟩;simp[aK,I9,hR,hS,aZ]))
    exact oW [10,11,12,13,14] []
  ·rw[if_pos rfl]
   (refine TW.go ?_;simp[I9,hS,aZ];repeat' first|intro hc|refine aa.mk ?_|refine aI ?_|refine af ?_ ?_|(refine cP ?_;refine⟨_,uD _ _ _,?_⟩;simp[I9,hS,aZ]))
   exact oW [1,2,3,4,5] []
 ·have k1:¬p.k=1:=by omega
  have k2:¬p.k=2:=by omega
  rw[if_neg k1,if_neg k1,if_neg k2,if_neg k2,if_pos k3];refine tE Tryz.f107 Tryz.ntmps107 (by rw[Tryz.results107]) ?_ (hfit:=(Fits.of (by simp[dw,az.live,List.range_succ]) (by simp) (by simp)))
  have hle:iN (gAt w.ae p.g.toNat) 4294967280:=xj.mono (by omega)
  generalize Y_:gAt w.ae p.g.toNat=G at*;rcases vZ (E:=E) G p.m p.t p.s hle hV hm hF.ok with⟨e,hP⟩|⟨e,hP⟩
  ·rw[e]
   (refine TW.go ?_;simp[au,g0,hG];repeat' first|intro hc|refine aa.mk ?_|refine aI ?_|refine af ?_ ?_|(refine cP ?_;refine⟨_,Gr _ _ _ _,?_⟩;simp[au,g0,hG])|(refine cF [] 2 ?_;refine⟨_,_,hP,?_⟩;simp[au,g0,hG]))
   refine aT.own [1,2,3,4,5] [] (by simp;rfl) (by simp[au]) (by simp) (by simp) (by simp[au]) (by simp)
  ·(refine TW.go ?_;simp[au,g0,hG];repeat' first|intro hc|refine aa.mk ?_|refine aI ?_|refine af ?_ ?_|(refine cP ?_;refine⟨_,Gr _ _ _ _,?_⟩;simp[au,g0,hG])|(refine cF [] 3 ?_;refine⟨_,_,hP,?_⟩;simp[au,g0,hG]))
   refine aT.own [1,2,3,4,5] [] (by simp;rfl) (by simp[au]) (by simp) (by simp) (by simp[au]) (by simp)
end Go.Proofs.YtabjbdnokpjipaaGreat.T
namespace Go.Proofs.YtabjbdnokpjipaaGreat.T
open Go Go.RowKit
set_option maxRecDepth 100000
set_option maxHeartbeats 4000000
theorem uJ {E:List PanicEntry→World→Prop}{w:aA}(h:b_ w)(hs:cw 2000 w){g:Int}(h0:0≤g)(h1:g<5)(m:Int):TC Tw.prog E 14 [.a ((au (gAt w.ae g.toNat)).map .r),gI .i64 m] 0 [] (.p [oO (aV (gAt w.ae g.toNat) m),gB (cc (gAt w.ae g.toNat) m)]) []:=by
 obtain⟨hG,hV,hN⟩:=yN h hs h0 h1;have:=p_ (E:=E) (gAt w.ae g.toNat) m (by have:=hN.1;exact⟨by omega,by omega⟩)
 rwa[dJ,rX,if_pos hV,hV,Bool.true_and]at this
theorem iq {w:aA}{m:Int}(h0:0≤m)(h1:m<w.aj.length):w.aj[m.toNat]?=some (setAt w m):=by
 rw[setAt,List.getD_eq_getElem?_getD,List.getElem?_eq_getElem (by omega)];rfl
theorem AU {E:List PanicEntry→World→Prop}(w:aA)(m t s:Int)(h:b_ w)(hs:cw 2000 w)(h0:0≤m)(h1:m<w.aj.length)(hS:we w.ae (setAt w m) m t s):TC Tw.prog E 87 [gW w,gI .i64 m,mU (t,s)] 0 [] (gB true) []:=by
 have bh:=iq h0 h1;have hr:cm (setAt w m):=b9 h.set m.toNat
 obtain⟨s0,s1⟩:=hr s hS.mem;obtain⟨hG,hV,hN⟩:=yN h hs s0 s1;have hC:=uJ (E:=E) h hs s0 s1 m;have Rc:=dc (E:=E) t s;have hH:=aeQ (E:=E) (setAt w m) s;rw[hS.ok]at Rc;rw[cY.2 hS.mem]at hH;rw[hS.kn]at hC;have bf:=hS.op;have hfi:=hS.fi;have zC:=hs.g5;generalize setAt w m=S at*;generalize gAt w.ae s.toNat=G at*;generalize aV G m=e at*;refine tE Tryz.f87 Tryz.ntmps87 (by rw[Tryz.results87]) ?_
 cases hf:e.f
 ·obtain⟨rfl,rfl⟩:=bf hf
  (refine TW.go ?_;simp[wT,aG,au,h0,s0,bh,hG,hf];repeat' first|intro hc|refine aa.mk ?_|refine aI ?_|refine af ?_ ?_|(refine cP ?_;(first|refine⟨_,Rc,?_⟩|refine⟨_,hH,?_⟩|refine⟨_,hC,?_⟩);simp[wT,aG,au,h0,s0,bh,hG,hf]))
  exact oW [] []
 ·obtain⟨hle,heq⟩:=hfi hf
  have hL:=iD (E:=E) e.t e.g t s;rw[hle]at hL;by_cases dQ:e.g=s
  ·have ht:=heq dQ
   subst dQ ht;(refine TW.go ?_;simp[wT,aG,au,h0,s0,bh,hG,hf];repeat' first|intro hc|refine aa.mk ?_|refine aI ?_|refine af ?_ ?_|(refine cP ?_;(first|refine⟨_,Rc,?_⟩|refine⟨_,hH,?_⟩|refine⟨_,hC,?_⟩);simp[wT,aG,au,h0,s0,bh,hG,hf]))
   exact oW [] []
  ·(refine TW.go ?_;simp[wT,aG,au,h0,s0,bh,hG,hf,dQ];repeat' first|intro hc|refine aa.mk ?_|refine aI ?_|refine af ?_ ?_|(refine cP ?_;(first|refine⟨_,Rc,?_⟩|refine⟨_,hH,?_⟩|refine⟨_,hC,?_⟩|refine⟨_,hL,?_⟩);simp[wT,aG,au,h0,s0,bh,hG,hf,dQ]))
   exact oW [] []
theorem D4 {E:List PanicEntry→World→Prop}(w:aA)(m t s:Int)(h:b_ w)(hs:cw 2000 w)(h0:0≤m)(h1:m<w.aj.length)(hF:gT w.ae (setAt w m) m t s):TC Tw.prog E 89 [gW w,gI .i64 m,mU (t,s)] 0 [] (gB true) []:=by
 have bh:=iq h0 h1;have hr:cm (setAt w m):=b9 h.set m.toNat
 have hN:jw w:=hs.mono (by omega)
 obtain⟨-,hS5, -⟩:=nW hN h0 h1;have zC:=hs.g5;have Rc:=dc (E:=E) t s;have hH:=aeQ (E:=E) (setAt w m) s;rw[hF.ok]at Rc;rw[cY.2 hF.mem]at hH;have hlen:(setAt w m).length≤maxLen:=by simp only[maxLen];omega
 generalize setAt w m=S at*;refine tE Tryz.f89 Tryz.ntmps89 (by rw[Tryz.results89]) ?_
 (refine TW.go ?_;simp[wT,h0,bh];repeat' first|intro hc|refine aa.mk ?_|refine aI ?_|refine af ?_ ?_|(refine cP ?_;(first|refine⟨_,Rc,?_⟩|refine⟨_,hH,?_⟩);simp[wT,h0,bh]))
 refine tL (fun(k:Nat)=>⟨[(1,gI .i64 m),(3,.s (.ptr 0 0)),(5,.s (.ptr 1 0)),(29,gR (aY S)),(30,gI .i64 S.length),(31,gI .i64 (k:Nat))],[(0,.box ((wT w).map .r)),(1,.box [.r (rI t),.r (rI s)])],2⟩) (fun k=>k≤S.length) (fun k=>S.length-k) 0 (by omega) (Wk.own [0,1] [] (by simp) (by simp) (by simp[wT]) (by simp) (by simp)) fun k hk=>?_
 by_cases ak:k<S.length
 ·have he:S[k]?=some S[k]:=List.getElem?_eq_getElem ak
  have an:(k:Int)<(S.length:Int):=by omega
  have aE:=wrap_add ak hlen;have cH:=List.getElem_mem ak;generalize S[k]=g at*;obtain⟨g0,g1⟩:=hr g cH;obtain⟨hG,hV,xj⟩:=yN h hs g0 g1;have hC:=uJ (E:=E) h hs g0 g1 m;rw[hF.kn g cH]at hC;have hfi:=hF.fi g cH;have hle:=hF.le g cH;have oG:=hF.own;have hL:=iD (E:=E) t s (aV (gAt w.ae g.toNat) m).t (aV (gAt w.ae g.toNat) m).g;rw[hle]at hL;by_cases dQ:g=s
  ·subst dQ
   generalize gAt w.ae g.toNat=G at*;generalize aV G m=e at*;obtain⟨rfl,rfl⟩:=oG
   cases hf:e.f
   ·(refine TW.go ?_;simp[wT,aG,au,he,an,aE,g0,hG,hf];repeat' first|intro hc|refine aa.mk ?_|refine aI ?_|refine af ?_ ?_|(refine cP ?_;(first|refine⟨_,hC,?_⟩|refine⟨_,hL,?_⟩);simp[wT,aG,au,he,an,aE,g0,hG,hf]))
    exact⟨k+1,by omega,by omega,Wk.own [0,1] [] (by simp) (by simp) (by simp[wT]) (by simp) (by simp)⟩
   ·(refine TW.go ?_;simp[wT,aG,au,he,an,aE,g0,hG,hf];repeat' first|intro hc|refine aa.mk ?_|refine aI ?_|refine af ?_ ?_|(refine cP ?_;(first|refine⟨_,hC,?_⟩|refine⟨_,hL,?_⟩);simp[wT,aG,au,he,an,aE,g0,hG,hf]))
    exact⟨k+1,by omega,by omega,Wk.own [0,1] [] (by simp) (by simp) (by simp[wT]) (by simp) (by simp)⟩
  ·clear oG
   generalize gAt w.ae g.toNat=G at*;generalize aV G m=e at*
   cases hf:e.f
   ·(refine TW.go ?_;simp[wT,aG,au,he,an,aE,g0,hG,hf,dQ];repeat' first|intro hc|refine aa.mk ?_|refine aI ?_|refine af ?_ ?_|(refine cP ?_;(first|refine⟨_,hC,?_⟩|refine⟨_,hL,?_⟩);simp[wT,aG,au,he,an,aE,g0,hG,hf,dQ]))
    exact⟨k+1,by omega,by omega,Wk.own [0,1] [] (by simp) (by simp) (by simp[wT]) (by simp) (by simp)⟩
   ·obtain⟨e1,e2⟩:=hfi hf
    rw[e1,e2]at hL;(refine TW.go ?_;simp[wT,aG,au,he,an,aE,g0,hG,hf,dQ,e1,e2];repeat' first|intro hc|refine aa.mk ?_|refine aI ?_|refine af ?_ ?_|(refine cP ?_;(first|refine⟨_,hC,?_⟩|refine⟨_,hL,?_⟩);simp[wT,aG,au,he,an,aE,g0,hG,hf,dQ,e1,e2]))
    exact⟨k+1,by omega,by omega,Wk.own [0,1] [] (by simp) (by simp) (by simp[wT]) (by simp) (by simp)⟩
 ·obtain rfl:k=S.length:=by omega
  (refine TW.go ?_;simp;repeat' first|intro hc|refine aa.mk ?_|refine aI ?_|refine af ?_ ?_)
  exact oW [] []
theorem D5 {E:List PanicEntry→World→Prop}(w:aA)(p:dE)(h:b_ w)(hs:cw 2000 w)(hp:tc w.aj w.ae p):TC Tw.prog E 58 [gW w,gP p] 0 [] (gB true) []:=by
 obtain⟨k,m,g,t,s⟩:=p;obtain⟨h0,h1,hg,hk⟩:=hp;simp only at h0 h1 hg hk
 have bh:=iq h0 h1;have VZ:¬m<0:=by omega
 have Nk:¬(w.aj.length:Int)≤m:=by omega
 have hH:=aeQ (E:=E) (setAt w m) g;have bu:g∈setAt w m:=hg
 rw[cY.2 bu]at hH;rcases hk with⟨rfl,rfl,rfl⟩|⟨rfl,rfl,hS⟩|⟨rfl,hF⟩
 ·generalize setAt w m=S at*
  refine tE Tryz.f58 Tryz.ntmps58 (by rw[Tryz.results58]) ?_
  (refine TW.go ?_;simp[wT,cd,h0,VZ,Nk,bh];repeat' first|intro hc|refine aa.mk ?_|refine aI ?_|refine af ?_ ?_|(refine cP ?_;refine⟨_,hH,?_⟩;simp[wT,cd,h0,VZ,Nk,bh]))
  exact oW [] []
 ·have hC:=AU (E:=E) w m t s h hs h0 h1 hS
  generalize setAt w m=S at*;refine tE Tryz.f58 Tryz.ntmps58 (by rw[Tryz.results58]) ?_
  (refine TW.go ?_;simp[wT,cd,h0,VZ,Nk,bh];repeat' first|intro hc|refine aa.mk ?_|refine aI ?_|refine af ?_ ?_|(refine cP ?_;(first|refine⟨_,hH,?_⟩|refine⟨_,hC,?_⟩);simp[wT,cd,h0,VZ,Nk,bh]))
  exact oW [] []
 ·have hC:=D4 (E:=E) w m t s h hs h0 h1 hF
  generalize setAt w m=S at*;refine tE Tryz.f58 Tryz.ntmps58 (by rw[Tryz.results58]) ?_
  (refine TW.go ?_;simp[wT,cd,h0,VZ,Nk,bh];repeat' first|intro hc|refine aa.mk ?_|refine aI ?_|refine af ?_ ?_|(refine cP ?_;(first|refine⟨_,hH,?_⟩|refine⟨_,hC,?_⟩);simp[wT,cd,h0,VZ,Nk,bh]))
  exact oW [] []
theorem V0 {S:List Int}(h:cB S=true):qJ S S 5=S:=by
 obtain⟨-, -,hr⟩:=eY h;have hg:=uB (sz h) hr;unfold qJ;simp only[Bool.and_self];exact hg.symm
theorem zL {E:List PanicEntry→World→Prop}(w:aA)(h:b_ w)(hs:cw 2000 w):TC Tw.prog E 56 [gW w] 0 [] (gB true) []:=by
 have vW:=h.l_;have Bn:=h.rl;have kl:=h.sl;have hN:jw w:=hs.mono (by omega)
 have hlen:w.aj.length≤maxLen:=by simp only[maxLen];omega
 have c1:¬12<(w.aj.length:Int):=by omega
 have c2:(w.rounds.length:Int)=(w.aj.length:Int):=by omega
 have c3:(w.aP.length:Int)=(w.aj.length:Int):=by omega
 refine tE Tryz.f56 Tryz.ntmps56 (by rw[Tryz.results56]) ?_
 (refine TW.go ?_;simp[wT,c1,c2,c3];repeat' first|intro hc|refine aa.mk ?_|refine aI ?_|refine af ?_ ?_)
 refine tL (fun(k:Nat)=>⟨[(1,.s (.ptr 0 0)),(31,gR (kz w.aj)),(32,gI .i64 w.aj.length),(33,gI .i64 (k:Nat))],[(0,.box ((wT w).map .r))],1⟩) (fun k=>k≤w.aj.length) (fun k=>w.aj.length-k) 0 (by omega) (Wk.own [0] [] (by simp) (by simp) (by simp[wT]) (by simp) (by simp)) fun k hk=>?_
 by_cases ak:k<w.aj.length
 ·have k0:(0:Int)≤(k:Nat):=by omega
  have k1:((k:Nat):Int)<w.aj.length:=by omega
  have he:=iq k0 k1;have hR:=nY hN k0 k1;have hrv:=h.oU k ak;have hrb:=uI h k0 k1;have bT:=ve h k0 k1;rw[show((k:Nat):Int).toNat=k by omega]at he hR
  have aE:=wrap_add ak hlen;have abT:∀s∈(bC w (k:Nat)).aH,we w.ae (setAt w (k:Nat)) (k:Nat) s.1 s.2:=hrv.aH
  have qG:(bC w (k:Nat)).m=(k:Nat):=hrv.ms
  have aZ:(bC w (k:Nat)).gs=setAt w (k:Nat):=hrv.st
  have hGV:=jx (E:=E) (setAt w (k:Nat));have hRV:=mF (E:=E) (bC w (k:Nat)) (DY hN k0 k1);have NT:=Bw (E:=E) (setAt w (k:Nat)) (setAt w (k:Nat)) bT bT;rw[V0 bT]at NT;rw[bT]at hGV;rw[hrb]at hRV;have Ek:∀s∈(bC w (k:Nat)).aH,TC Tw.prog E 87 [gW w,gI .i64 (k:Nat),mU s] 0 [] (gB true) []:=fun s hh=>AU w (k:Nat) s.1 s.2 h hs k0 k1 (abT s hh)
  have NN:(bC w (k:Nat)).aH.length≤5:=by
   have a:=(yH hrb).2;have b:=(eY bT).2.1;rw[aZ]at a;omega
  clear abT hrv hrb bT;generalize setAt w (k:Nat)=S at*;generalize bC w (k:Nat)=r at*;obtain⟨rm,rgs,aH⟩:=r;simp only at qG aZ
  subst qG aZ;simp only at NN Ek
  have nu:aH.length≤maxLen:=by simp only[maxLen];omega
  (refine TW.go ?_;simp[wT,aK,k1,he,hR,aE];repeat' first|intro hc|refine aa.mk ?_|refine aI ?_|refine af ?_ ?_|(refine cP ?_;(first|refine⟨_,hGV,?_⟩|refine⟨_,hRV,?_⟩|refine⟨_,NT,?_⟩);simp[wT,aK,k1,he,hR,aE]))
  refine tL (fun(j:Nat)=>⟨[(1,.s (.ptr 0 0)),(3,gI .i64 (k:Nat)),(31,gR (kz w.aj)),(32,gI .i64 w.aj.length),(33,gI .i64 (k:Nat)),(76,gR (lq aH)),(77,gI .i64 aH.length),(78,gI .i64 (j:Nat))],[(0,.box ((wT w).map .r))],1⟩) (fun j=>j≤aH.length) (fun j=>aH.length-j) 0 (by omega) (Wk.own [0] [] (by simp) (by simp) (by simp[wT]) (by simp) (by simp)) fun j hj=>?_
  by_cases yO:j<aH.length
  ·have Bt:aH[j]?=some aH[j]:=List.getElem?_eq_getElem yO
   have eZ:(j:Int)<(aH.length:Int):=by omega
   have cU:=wrap_add yO nu;have hcj:=Ek _ (List.getElem_mem yO);generalize aH[j]=s at*;(refine TW.go ?_;simp[wT,eE,Bt,eZ,cU];repeat' first|intro hc|refine aa.mk ?_|refine aI ?_|refine af ?_ ?_|(refine cP ?_;refine⟨_,hcj,?_⟩;simp[wT,eE,Bt,eZ,cU]))
   exact⟨j+1,by omega,by omega,Wk.own [0] [] (by simp) (by simp) (by simp[wT]) (by simp) (by simp)⟩
  ·obtain rfl:j=aH.length:=by omega
   (refine TW.go ?_;simp[aE];repeat' first|intro hc|refine aa.mk ?_|refine aI ?_|refine af ?_ ?_)
   exact⟨k+1,by omega,by omega,Wk.own [0] [] (by simp) (by simp) (by simp[wT]) (by simp) (by simp)⟩
 ·obtain rfl:k=w.aj.length:=by omega
  (refine TW.go ?_;simp;repeat' first|intro hc|refine aa.mk ?_|refine aI ?_|refine af ?_ ?_)
  exact oW [] []
theorem D6 {E:List PanicEntry→World→Prop}(w:aA)(h:b_ w)(hs:cw 2000 w):TC Tw.prog E 57 [gW w] 0 [] (gB true) []:=by
 have zC:=hs.g5;have hlen:w.ae.length≤maxLen:=by simp only[maxLen];omega
 refine tE Tryz.f57 Tryz.ntmps57 (by rw[Tryz.results57]) ?_
 (refine TW.go ?_;simp[wT];repeat' first|intro hc|refine aa.mk ?_|refine aI ?_|refine af ?_ ?_)
 refine tL (fun(k:Nat)=>⟨[(1,.s (.ptr 0 0)),(8,gR (dq w.ae)),(9,gI .i64 w.ae.length),(10,gI .i64 (k:Nat))],[(0,.box ((wT w).map .r))],1⟩) (fun k=>k≤w.ae.length) (fun k=>w.ae.length-k) 0 (by omega) (Wk.own [0] [] (by simp) (by simp) (by simp[wT]) (by simp) (by simp)) fun k hk=>?_
 by_cases ak:k<w.ae.length
 ·have he:=cu (gs:=w.ae) (i:=k) ak
  have aE:=wrap_add ak hlen;have an:(k:Int)<(w.ae.length:Int):=by omega
  obtain⟨hV,hid⟩:=h.gs.dS k (by omega)
  have xj:=hs.dS _ (List.mem_of_getElem? he);have hK:=cv.1 hV;have vM:∀e∈(gAt w.ae k).pend++(gAt w.ae k).done,0≤e.m∧e.m<w.aj.length∧(k:Int)∈setAt w e.m∧(e.f=true→gT w.ae (setAt w e.m) e.m e.t e.g):=fun e hh=>by
   have:aU (gAt w.ae k) e.m=some e:=by rw[c7,fg hK.nq];exact⟨hh,rfl⟩
   exact h.gs.lJ k e.m e (by omega) this
  have adS:∀e∈(gAt w.ae k).pend++(gAt w.ae k).done,e.f=true→TC Tw.prog E 89 [gW w,gI .i64 e.m,mU (e.t,e.g)] 0 [] (gB true) []:=fun e hh hf=>by
   obtain⟨a,b, -,d⟩:=vM e hh;exact D4 w e.m e.t e.g h hs a b (d hf)
  generalize gAt w.ae k=G at*;have hC:=iT (E:=E) G.pend (by have:=xj.1;omega)
  have Ux:=xj.1;have hlp:G.pend.length+G.done.length≤maxLen:=by simp only[maxLen];omega
  (refine TW.go ?_;simp[wT,au,he,an,aE,maxLen];repeat' first|intro hc|refine aa.mk ?_|refine aI ?_|refine af ?_ ?_|(refine cF [] 1 ?_;refine⟨_,_,hC,?_⟩;simp[wT,au,he,an,aE,maxLen]))
  refine tL (fun(j:Nat)=>⟨[(1,.s (.ptr 0 0)),(4,.s (.ptr 1 0)),(8,gR (dq w.ae)),(9,gI .i64 w.ae.length),(10,gI .i64 (k:Nat)),(19,gR (dj (G.pend++G.done))),(20,gI .i64 (G.pend++G.done).length),(21,gI .i64 (j:Nat))],[(0,.box ((wT w).map .r)),(1,.box ((au G).map .r))],2⟩) (fun j=>j≤(G.pend++G.done).length) (fun j=>(G.pend++G.done).length-j) 0 (by omega) (Wk.own [0,1] [3] (by simp) (by simp) (by simp[wT,au]) (by simp) (by simp)) fun j hj=>?_
  have nu:(G.pend++G.done).length≤maxLen:=by rw[List.length_append];exact hlp
  generalize G.pend++G.done=L at*;by_cases yO:j<L.length
  ·have Bt:L[j]?=some L[j]:=List.getElem?_eq_getElem yO
   have eZ:(j:Int)<(L.length:Int):=by omega
   have cU:=wrap_add yO nu;obtain⟨e0,e1,adT, -⟩:=vM _ (List.getElem_mem yO);have hd:=adS _ (List.getElem_mem yO);generalize L[j]=e at*;have bh:=iq e0 e1;have e1':¬(w.aj.length:Int)≤e.m:=by omega
   have hH:=aeQ (E:=E) (setAt w e.m) (k:Nat);rw[cY.2 adT]at hH;generalize setAt w e.m=S at*
   cases hf:e.f
   ·(refine TW.go ?_;simp[wT,au,aG,Bt,eZ,cU,e0,e1',bh,hf,hid];repeat' first|intro hc|refine aa.mk ?_|refine aI ?_|refine af ?_ ?_|(refine cP ?_;refine⟨_,hH,?_⟩;simp[wT,au,aG,Bt,eZ,cU,e0,e1',bh,hf,hid]))
    exact⟨j+1,by omega,by omega,Wk.own [0,1] [] (by simp) (by simp) (by simp[wT,au,hid]) (by simp) (by simp)⟩
   ·have hd:=hd hf
    (refine TW.go ?_;simp[wT,au,aG,Bt,eZ,cU,e0,e1',bh,hf,hid];repeat' first|intro hc|refine aa.mk ?_|refine aI ?_|refine af ?_ ?_|(refine cP ?_;(first|refine⟨_,hH,?_⟩|refine⟨_,hd,?_⟩);simp[wT,au,aG,Bt,eZ,cU,e0,e1',bh,hf,hid]))
    exact⟨j+1,by omega,by omega,Wk.own [0,1] [] (by simp) (by simp) (by simp[wT,au,hid]) (by simp) (by simp)⟩
  ·obtain rfl:j=L.length:=by omega
   (refine TW.go ?_;simp[aE];repeat' first|intro hc|refine aa.mk ?_|refine aI ?_|refine af ?_ ?_)
   exact⟨k+1,by omega,by omega,Wk.own [0] [] (by simp) (by simp) (by simp[wT]) (by simp) (by simp)⟩
 ·obtain rfl:k=w.ae.length:=by omega
  (refine TW.go ?_;simp;repeat' first|intro hc|refine aa.mk ?_|refine aI ?_|refine af ?_ ?_)
  exact oW [] []
theorem qc (w:aA)(h:b_ w)(hs:cw 2000 w):TC Tw.prog bq 35 [gW w] 0 [] (gB true) []:=by
 have kP:=h.nl;have hL:iC w.ae 4294967290:=⟨by have:=hs.g5;omega,fun g hg=>by have:=(hs.dS g hg).1;exact⟨by omega,by omega⟩⟩
 have hS:=uz w.ae hL;rw[DU h]at hS;have hM:=zL (E:=bq) w h hs;have hG:=D6 (E:=bq) w h hs;have hlen:w.aX.length≤maxLen:=by simp only[maxLen];omega
 have c1:¬16<(w.aX.length:Int):=by omega
 refine tE Tryz.f35 Tryz.ntmps35 (by rw[Tryz.results35]) ?_
 (refine TW.go ?_;simp[wT,c1];repeat' first|intro hc|refine aa.mk ?_|refine aI ?_|refine af ?_ ?_|(refine cP ?_;(first|refine⟨_,hS,?_⟩|refine⟨_,hM,?_⟩|refine⟨_,hG,?_⟩);simp[wT,c1]))
 refine tL (fun(k:Nat)=>⟨[(1,.s (.ptr 0 0)),(26,gR (Du w.aX)),(27,gI .i64 w.aX.length),(28,gI .i64 (k:Nat))],[(0,.box ((wT w).map .r))],1⟩) (fun k=>k≤w.aX.length) (fun k=>w.aX.length-k) 0 (by omega) (Wk.own [0] [] (by simp) (by simp) (by simp[wT]) (by simp) (by simp)) fun k hk=>?_
 by_cases ak:k<w.aX.length
 ·have he:w.aX[k]?=some w.aX[k]:=List.getElem?_eq_getElem ak
  have an:(k:Int)<(w.aX.length:Int):=by omega
  have aE:=wrap_add ak hlen;have hP:=D5 (E:=bq) w w.aX[k] h hs (h.aX _ (List.getElem_mem ak));generalize w.aX[k]=p at*;(refine TW.go ?_;simp[wT,cd,he,an,aE];repeat' first|intro hc|refine aa.mk ?_|refine aI ?_|refine af ?_ ?_|(refine cP ?_;refine⟨_,hP,?_⟩;simp[wT,cd,he,an,aE]))
  exact⟨k+1,by omega,by omega,Wk.own [0] [] (by simp) (by simp) (by simp[wT]) (by simp) (by simp)⟩
 ·obtain rfl:k=w.aX.length:=by omega
  (refine TW.go ?_;simp;repeat' first|intro hc|refine aa.mk ?_|refine aI ?_|refine af ?_ ?_)
  exact oW [] []
end Go.Proofs.YtabjbdnokpjipaaGreat.T
