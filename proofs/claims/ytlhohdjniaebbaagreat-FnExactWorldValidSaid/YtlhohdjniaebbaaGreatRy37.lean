/-
What is proved: worlds as data, what the reference's events do to them, and that and what rests on it. Conditions: as stated.
-/
import Derived.Test.YtlhohdjniaebbaaGreatRy36
set_option linter.unusedVariables false
set_option linter.unusedSimpArgs false
namespace Go.Proofs.YtlhohdjniaebbaaGreat.T
open Go Go.RowKit
structure cH where
 m:Int
 gs:List Int
 aN:List (Int×Int)
structure eI where
 k:Int
 m:Int
 g:Int
 t:Int
 s:Int
structure az where
 an:List (List Int)
 ai:List aH
 rounds:List cH
 bh:List Bool
 bC:List eI
def aX (r:cH):List RT:=[rI r.m,bu r.gs,m_ r.aN]
def bP (p:eI):List RT:=[rI p.k,rI p.m,rI p.g,rI p.t,rI p.s]
abbrev iH (xs:List (List Int)):RT:= .sl 1 (xs.map fun s=>[bu s])
abbrev l9 (rs:List cH):RT:= .sl 3 (rs.map aX)
abbrev nA (bs:List Bool):RT:= .sl 1 (bs.map fun b=>[rB b])
abbrev qu (ps:List eI):RT:= .sl 5 (ps.map bP)
def wT (w:az):List RT:=[iH w.an,eZ w.ai,l9 w.rounds,nA w.bh,qu w.bC]
abbrev gW (w:az):GV:= .a ((wT w).map .r)
def jz:List aK→List aK→List Int→List aK×List aK×List Int
 |[],d,told=>([],d,told)
 |e::es,d,told=>if e.f=true then jz es (d++[e]) (told++[e.m])else(e::es,d,told)
def g_ (es:List aK)(t s:Int):Nat:=(es.takeWhile fun e=>aS e.t e.g t s).length
def qv (es:List aK)(n:Nat)(t s:Int):Bool:=match es[n]? with
 |some e=>decide (e.t=t)&&decide (e.g=s)
 |none=>false
def l_ (es:List aK)(m t s:Int):List aK:=es.take (g_ es t s)++[⟨m,t,s,true⟩]++es.drop (g_ es t s)
def c8 (g:aH)(m t s:Int):aH×List Int×Bool:=match g.pend[(cV g.pend m).toNat]? with
 |some e=>if cV g.pend m<0∨e.f=true∨aS t s e.t e.g=true then(g,[],false)
  else if qv (g.pend.eraseIdx (cV g.pend m).toNat) (g_ (g.pend.eraseIdx (cV g.pend m).toNat) t s) t s=true then(g,[],false)
  else(⟨g.id,if g.clock<t then t else g.clock,(jz (l_ (g.pend.eraseIdx (cV g.pend m).toNat) m t s) g.done []).1,(jz (l_ (g.pend.eraseIdx (cV g.pend m).toNat) m t s) g.done []).2.1⟩,(jz (l_ (g.pend.eraseIdx (cV g.pend m).toNat) m t s) g.done []).2.2,true)
 |none=>(g,[],false)
def fY (r:cH)(i:Nat):Bool:=match r.aN[i]? with
 |some s=>aP s.1 s.2&&bX r.gs s.2&&(decide (i=0)||(match r.aN[i-1]? with|some d=>decide (d.2<s.2)|none=>true))
 |none=>true
def ef (r:cH):Bool:=bR r.aN.length (fY r)&&br r.m&&cf r.gs
def Om (r:cH)(g:Int):Bool:=r.aN.any fun s=>decide (s.2=g)
def tf (r:cH):List Int:=if ef r=true then r.gs.filter fun g=> !Om r g else[]
def iu (aN:List (Int×Int))(g:Int):Nat:=(aN.takeWhile fun s=>decide (s.2<g)).length
def ES (aN:List (Int×Int))(n:Nat)(g:Int):Bool:=match aN[n]? with
 |some s=>decide (s.2=g)
 |none=>false
def zY (r:cH)(t s:Int):cH×Bool:=
 if bX r.gs s=false∨ES r.aN (iu r.aN s) s=true then(r,false)
 else(⟨r.m,r.gs,r.aN.take (iu r.aN s)++[(t,s)]++r.aN.drop (iu r.aN s)⟩,true)
def xg:List (Int×Int)→Int×Int
 |[]=>(0,0)
 |x::xs=>pz x xs
def kT (r:cH):(Int×Int)×Bool:=if r.aN.length<r.gs.length then((0,0),false)else(xg r.aN,true)
def qw (gs:List aH)(m:Int):List Int→List (Int×Int)→(Int×Int)⊕ List (Int×Int)
 |[],acc=> .inr acc
 |g::set,acc=>if cl (aB gs g.toNat) m&&(aU (aB gs g.toNat) m).f then .inl ((aU (aB gs g.toNat) m).t,(aU (aB gs g.toNat) m).g)
  else qw gs m set (if cl (aB gs g.toNat) m then acc++[((aU (aB gs g.toNat) m).t,(aU (aB gs g.toNat) m).g)]else acc)
def iI (gs:List aH)(set:List Int)(m:Int):(Int×Int)×Bool:=match qw gs m set []with
 | .inl s=>(s,true)
 | .inr l=>if l.length<set.length then((0,0),false)else(xg l,true)
def iw (gs:List aH)(m:Int)(set:List Int):List aH:=set.foldl (fun gs g=>gs.set g.toNat (aV (aB gs g.toNat) m).1) gs
def qT (gs:List aH)(m:Int)(s:Int×Int)(set:List Int):List aH:=set.foldl (fun gs g=>gs.set g.toNat (c8 (aB gs g.toNat) m s.1 s.2).1) gs
def Vi (gs:List aH)(m:Int)(set:List Int):Bool:=set.all fun g=>cl (aB gs g.toNat) m&&(aU (aB gs g.toNat) m).f
def xh (gs:List aH)(set:List Int)(m:Int):List aH×Bool:=
 if(iI (iw gs m set) set m).2=true then(qT (iw gs m set) m (iI (iw gs m set) set m).1 set,Vi (qT (iw gs m set) m (iI (iw gs m set) set m).1 set) m set)
 else(iw gs m set,false)
def setAt (w:az)(m:Int):List Int:=w.an.getD m.toNat []
def bT (w:az)(m:Int):cH:=w.rounds.getD m.toNat ⟨0,[],[]⟩
def On (w:az)(m:Int):Bool:=w.bh.getD m.toNat false
def iJ (w:az)(p:eI):az:=if w.bC.length<16 then⟨w.an,w.ai,w.rounds,w.bh,w.bC++[p]⟩else w
def zZ (w:az)(m:Int)(gs:List Int):az:=gs.foldl (fun w g=>iJ w ⟨1,m,g,0,0⟩) w
def aar (w:az)(m:Int)(s:Int×Int)(gs:List Int):az:=gs.foldl (fun w g=>iJ w ⟨3,m,g,s.1,s.2⟩) w
def vW (w:az)(m:Int):az:=if(kT (bT w m)).2=true then aar w m (kT (bT w m)).1 (setAt w m)else w
def vX (n:Int):Nat→Int→List Int
 |0,_=>[]
 |k+1,g=>if n.tmod 2=1 then g::vX (n.tdiv 2) k (g+1)else vX (n.tdiv 2) k (g+1)
def dU (n:Int):List Int:=vX n 5 0
def z_ (w:az)(n:Int):az:=if 1≤n∧n≤31∧w.an.length<12 then zZ ⟨w.an++[dU n],w.ai,w.rounds++[⟨w.an.length,dU n,[]⟩],w.bh++[false],w.bC⟩ w.an.length (dU n)else w
def Aa (w:az)(p:eI):az:=
 if p.k=1 then
  if(aV (aB w.ai p.g.toNat) p.m).2.2=true then iJ ⟨w.an,w.ai.set p.g.toNat (aV (aB w.ai p.g.toNat) p.m).1,w.rounds,w.bh,w.bC⟩ ⟨2,p.m,p.g,(aV (aB w.ai p.g.toNat) p.m).2.1.1,(aV (aB w.ai p.g.toNat) p.m).2.1.2⟩
  else⟨w.an,w.ai.set p.g.toNat (aV (aB w.ai p.g.toNat) p.m).1,w.rounds,w.bh,w.bC⟩
 else if p.k=2 then
  if On w p.m=true then w
  else if(zY (bT w p.m) p.t p.s).2=true then vW ⟨w.an,w.ai,w.rounds.set p.m.toNat (zY (bT w p.m) p.t p.s).1,w.bh,w.bC⟩ p.m
  else⟨w.an,w.ai,w.rounds.set p.m.toNat (zY (bT w p.m) p.t p.s).1,w.bh,w.bC⟩
 else if p.k=3 then⟨w.an,w.ai.set p.g.toNat (c8 (aB w.ai p.g.toNat) p.m p.t p.s).1,w.rounds,w.bh,w.bC⟩
 else w
def Jv (w:az)(k a:Int):az:=if a<0 then w else match w.bC[a.toNat]? with
 |none=>w
 |some p=>if k=4 then iJ w p else if k=2 then Aa ⟨w.an,w.ai,w.rounds,w.bh,w.bC.eraseIdx a.toNat⟩ p else⟨w.an,w.ai,w.rounds,w.bh,w.bC.eraseIdx a.toNat⟩
def qx (w:az)(k a:Int):az:=if a<0∨(w.an.length:Int)≤a then w
 else if k=5 then⟨w.an,w.ai,w.rounds,w.bh.set a.toNat true,w.bC⟩
 else if k=6 then if On w a=true then w else vW (zZ w a (tf (bT w a))) a
 else if k=7 then if(xh w.ai (setAt w a) a).2=true then⟨w.an,(xh w.ai (setAt w a) a).1,w.rounds,w.bh,w.bC⟩else w
 else w
def XR (w:az)(k a:Int):az:=if k=1 then z_ w a else if k=2∨k=3∨k=4 then Jv w k a else qx w k a
def kB (g:aH)(n:Nat):Prop:=g.pend.length+g.done.length≤n∧0≤g.clock
def ET (s:List Int):Prop:=s≠[]∧s.length≤5∧∀g∈s,0≤g∧g<5
def xi (r:cH)(n:Nat):Prop:=r.gs≠[]∧r.gs.length≤n+5∧r.aN.length≤n
def Ab (w:az)(p:eI):Prop:=0≤p.m∧p.m<w.an.length∧0≤p.g∧p.g<5
structure ep (n:Nat) (w:az):Prop where
 g5:w.ai.length=5
 jH:∀g∈w.ai,kB g n
 MV:w.an.length≤12
 set:∀s∈w.an,ET s
 rl:w.rounds.length=w.an.length
 o_:∀r∈w.rounds,xi r n
 sl:w.bh.length=w.an.length
 nl:w.bC.length≤16
 bC:∀p∈w.bC,Ab w p
theorem kB.mono {g:aH}{n n':Nat}(h:kB g n)(hn:n≤n'):kB g n':=⟨Nat.le_trans h.1 hn,h.2⟩
theorem xi.mono {r:cH}{n n':Nat}(h:xi r n)(hn:n≤n'):xi r n':=⟨h.1,by have:=h.2.1;omega,by have:=h.2.2;omega⟩
theorem ep.mono {w:az}{n n':Nat}(h:ep n w)(hn:n≤n'):ep n' w:={h with jH:=fun g hg=>(h.jH g hg).mono hn,o_:=fun r hr=>(h.o_ r hr).mono hn}
theorem Cu:∀(es d:List aK) (told:List Int),(jz es d told).1.length+(jz es d told).2.1.length=es.length+d.length
 |[],d,told=>rfl
 |e::es,d,told=>by
  unfold jz;split
  ·rw[Cu es];simp;omega
  ·rfl
theorem th {g:aH}{n:Nat}(m:Int)(h:kB g n):kB (aV g m).1 (n+1):=by
 have h1:kB g (n+1):=h.mono (by omega)
 unfold aV;split
 ·split<;>exact h1
 ·split
  ·exact h1
  ·split
   ·exact h1
   ·exact⟨by have:=h.1;simp;omega,by have:=h.2;simp only;omega⟩
theorem Jw {g:aH}{n:Nat}(m t s:Int)(h:kB g n):kB (c8 g m t s).1 n:=by
 unfold c8;split
 ·rename_i e he
  split
  ·exact h
  ·split
   ·exact h
   ·refine⟨?_,by have:=h.2;simp only;split<;>omega⟩
    simp only
    rw[Cu];have aj:(cV g.pend m).toNat<g.pend.length:=(List.getElem?_eq_some_iff.1 he).1
    have h1:=List.length_eraseIdx_of_lt aj;have:=h.1
    simp only[l_,List.length_append,List.length_take,List.length_drop,List.length_singleton];omega
 ·exact h
theorem Ac {gs:List aH}{i:Nat}(h:i<gs.length):aB gs i∈gs:=by
 unfold aB;rw[List.getD_eq_getElem?_getD,List.getElem?_eq_getElem h];exact List.getElem_mem h
theorem mem_set {α:Type}{xs:List α}{i:Nat}{a x:α}(h:x∈xs.set i a):x=a∨x∈xs:=(List.mem_or_eq_of_mem_set h).symm
theorem ep.EU {w:az}{n:Nat}(h:ep n w)(i:Nat){g:aH}(hg:kB g n):ep n ⟨w.an,w.ai.set i g,w.rounds,w.bh,w.bC⟩:=
 {h with
  g5:=by simpa using h.g5
  jH:=fun x hx=>by
   rcases mem_set hx with rfl|hx
   ·exact hg
   ·exact h.jH x hx
  bC:=h.bC}
theorem ep.post {w:az}{n:Nat}(h:ep n w){p:eI}(hp:Ab w p):ep n (iJ w p):=by
 unfold iJ;split
 ·refine {h with nl:=by simp;omega,bC:=fun x hx=>?_}
  rcases List.mem_append.1 hx with hx|hx
  ·exact h.bC x hx
  ·simp only[List.mem_singleton]at hx;subst hx;exact hp
 ·exact h
theorem qy (w:az)(p:eI):(iJ w p).an=w.an:=by unfold iJ;split<;>rfl
theorem ep.qz {n:Nat}(f:Int→eI):∀(gs:List Int) (w:az),ep n w→(∀g∈gs,Ab w (f g))→ep n (gs.foldl (fun w g=>iJ w (f g)) w)
 |[],w,h,_=>h
 |g::gs,w,h,hp=>ep.qz f gs _ (h.post (hp g (List.mem_cons_self ..))) fun x hx=>by
  have:=hp x (List.mem_cons_of_mem _ hx)
  unfold Ab at*;rw[qy];exact this
theorem qA (f:Int→eI):∀(gs:List Int) (w:az),(gs.foldl (fun w g=>iJ w (f g)) w).an=w.an
 |[],w=>rfl
 |g::gs,w=>by rw[List.foldl_cons,qA f gs,qy]
theorem Cv {w:az}{n:Nat}(h:ep n w){m:Int}(h0:0≤m)(h1:m<w.an.length):ET (setAt w m):=by
 unfold setAt;rw[List.getD_eq_getElem?_getD,List.getElem?_eq_getElem (by omega)]
 exact h.set _ (List.getElem_mem _)
theorem vY {w:az}{n:Nat}(h:ep n w){m:Int}(h0:0≤m)(h1:m<w.an.length):xi (bT w m) n:=by
 unfold bT;rw[List.getD_eq_getElem?_getD,List.getElem?_eq_getElem (by rw[h.rl];omega)]
 exact h.o_ _ (List.getElem_mem _)
theorem ep.tell {w:az}{n:Nat}(h:ep n w){m:Int}(h0:0≤m)(h1:m<w.an.length):ep n (vW w m):=by
 unfold vW;split
 ·refine ep.qz (fun g=>⟨3,m,g,(kT (bT w m)).1.1,(kT (bT w m)).1.2⟩) _ w h fun g hg=>?_
  have:=(Cv h h0 h1).2.2 g hg
  exact⟨h0,h1,this.1,this.2⟩
 ·exact h
theorem Vj {r:cH}{n:Nat}(t s:Int)(h:xi r n):xi (zY r t s).1 (n+1):=by
 unfold zY;split
 ·exact h.mono (by omega)
 ·refine⟨h.1,by have:=h.2.1;simp only;omega,?_⟩
  have:=h.2.2
  simp only[List.length_append,List.length_take,List.length_drop,List.length_singleton];omega
theorem ep.ya {w:az}{n:Nat}(h:ep n w)(i:Nat){r:cH}(hr:xi r n):ep n ⟨w.an,w.ai,w.rounds.set i r,w.bh,w.bC⟩:=
 {h with
  rl:=by simpa using h.rl
  o_:=fun x hx=>by
   rcases mem_set hx with rfl|hx
   ·exact hr
   ·exact h.o_ x hx
  bC:=h.bC}
theorem ep.erase {w:az}{n:Nat}(h:ep n w)(i:Nat):ep n ⟨w.an,w.ai,w.rounds,w.bh,w.bC.eraseIdx i⟩:=
 {h with
  nl:=Nat.le_trans (List.length_eraseIdx_le ..) h.nl
  bC:=fun p hp=>h.bC p (List.mem_of_mem_eraseIdx hp)}
theorem ep.hear {w:az}{n:Nat}(h:ep n w){p:eI}(hp:Ab w p):ep (n+1) (Aa w p):=by
 obtain⟨h0,h1,h2,h3⟩:=hp;have h':=h.mono (n':=n+1) (by omega)
 have hg:kB (aB w.ai p.g.toNat) n:=h.jH _ (Ac (by rw[h.g5];omega))
 unfold Aa;split
 ·split
  ·exact(h'.EU _ (th _ hg)).post ⟨h0,h1,h2,h3⟩
  ·exact h'.EU _ (th _ hg)
 ·split
  ·split
   ·exact h'
   ·split
    ·exact(h'.ya _ (Vj _ _ (vY h h0 h1))).tell h0 h1
    ·exact h'.ya _ (Vj _ _ (vY h h0 h1))
  ·split
   ·exact h'.EU _ (Jw _ _ _ (hg.mono (by omega)))
   ·exact h'
theorem ep.Vk {w:az}{n:Nat}(h:ep n w)(k a:Int):ep (n+1) (Jv w k a):=by
 have h':=h.mono (n':=n+1) (by omega)
 unfold Jv;split
 ·exact h'
 ·split
  ·exact h'
  ·rename_i p hp
   have Vl:=List.mem_of_getElem? hp;split
   ·exact h'.post (h.bC p Vl)
   ·split
    ·exact(h.erase _).hear (h.bC p Vl)
    ·exact h'.erase _
theorem Cw:∀(k:Nat) (n g:Int),(vX n k g).length≤k∧∀x∈vX n k g,g≤x∧x<g+k
 |0,n,g=>⟨Nat.le_refl _,fun x hx=>by cases hx⟩
 |k+1,n,g=>by
  obtain⟨h1,h2⟩:=Cw k (n.tdiv 2) (g+1);unfold vX;split
  ·refine⟨by simp;omega,fun x hx=>?_⟩
   rcases List.mem_cons.1 hx with rfl|hx
   ·omega
   ·have:=h2 x hx;omega
  ·exact⟨by omega,fun x hx=>by have:=h2 x hx;omega⟩
theorem Rv:∀k,k<31→(cf (dU (k+1:Nat))=true∧dU (k+1:Nat)≠[]):=by decide+kernel
theorem Jx {n:Int}(h1:1≤n)(h2:n≤31):cf (dU n)=true∧ET (dU n):=by
 obtain⟨k,rfl⟩:∃k:Nat,n=(k+1:Nat):=⟨(n-1).toNat,by omega⟩
 obtain⟨a,b⟩:=Rv k (by omega)
 obtain⟨c,d⟩:=Cw 5 ((k+1:Nat):Int) 0;exact⟨a,b,c,fun g hg=>by have:=d g hg;omega⟩
theorem ep.send {w:az}{n:Nat}(h:ep n w)(k:Int):ep n (z_ w k):=by
 unfold z_;split
 ·rename_i hk
  obtain⟨h1,h2,h3⟩:=hk;obtain⟨b1,b2⟩:=Jx h1 h2;refine ep.qz (fun g=>⟨1,w.an.length,g,0,0⟩) _ _ ⟨h.g5,h.jH,by simp;omega,fun s hs=>?_,by simp[h.rl],fun r hr=>?_,by simp[h.sl],h.nl,fun p hp=>?_⟩ fun g hg=>?_
  ·rcases List.mem_append.1 hs with hs|hs
   ·exact h.set s hs
   ·simp only[List.mem_singleton]at hs;subst hs;exact b2
  ·rcases List.mem_append.1 hr with hr|hr
   ·exact h.o_ r hr
   ·simp only[List.mem_singleton]at hr;subst hr;exact⟨b2.1,by have:=b2.2.1;simp only;omega,Nat.zero_le _⟩
  ·obtain⟨a,b,c⟩:=h.bC p hp
   exact⟨a,by simp;omega,c⟩
  ·have:=b2.2.2 g hg
   exact⟨by simp only;omega,by simp;omega,this.1,this.2⟩
 ·exact h
theorem Ad {n:Nat}(m:Int):∀(set:List Int) (gs:List aH) (j:Nat),(∀g∈set,0≤g∧g<5)→gs.length=5→(∀g∈gs,kB g j)→j+set.length≤n→(iw gs m set).length=5∧∀g∈iw gs m set,kB g n
 |[],gs,j,_,h5,hg,hn=>⟨h5,fun g h=>(hg g h).mono (by simpa using hn)⟩
 |x::set,gs,j,hs,h5,hg,hn=>by
  unfold iw;rw[List.foldl_cons];refine Ad m set _ (j+1) (fun g h=>hs g (List.mem_cons_of_mem _ h)) (by simpa using h5) (fun g h=>?_) (by simp at hn;omega)
  rcases mem_set h with rfl|h
  ·have:=hs x (List.mem_cons_self ..)
   exact th m (hg _ (Ac (by omega)))
  ·exact(hg g h).mono (by omega)
theorem Cx {n:Nat}(m:Int)(s:Int×Int):∀(set:List Int) (gs:List aH),(∀g∈set,0≤g∧g<5)→gs.length=5→(∀g∈gs,kB g n)→(qT gs m s set).length=5∧∀g∈qT gs m s set,kB g n
 |[],gs,_,h5,hg=>⟨h5,hg⟩
 |x::set,gs,hs,h5,hg=>by
  unfold qT;rw[List.foldl_cons];refine Cx m s set _ (fun g h=>hs g (List.mem_cons_of_mem _ h)) (by simpa using h5) fun g h=>?_
  rcases mem_set h with rfl|h
  ·have:=hs x (List.mem_cons_self ..)
   exact Jw m _ _ (hg _ (Ac (by omega)))
  ·exact hg g h
theorem XS {n:Nat}(m:Int)(set:List Int)(gs:List aH)(hs:ET set)(h5:gs.length=5)(hg:∀g∈gs,kB g n):(xh gs set m).1.length=5∧∀g∈(xh gs set m).1,kB g (n+5):=by
 obtain⟨h1,h2⟩:=Ad (n:=n+5) m set gs n hs.2.2 h5 hg (by have:=hs.2.1;omega)
 unfold xh;split
 ·exact Cx m _ set _ hs.2.2 h1 h2
 ·exact⟨h1,h2⟩
theorem ep.EV {w:az}{n:Nat}(h:ep n w)(k a:Int):ep (n+5) (qx w k a):=by
 have h':=h.mono (n':=n+5) (by omega)
 unfold qx;split
 ·exact h'
 ·rename_i ha
  have Jy:0≤a:=by omega
  have Jz:a<w.an.length:=by omega
  split
  ·exact {h' with sl:=by simpa using h'.sl,bC:=h'.bC}
  ·split
   ·split
    ·exact h'
    ·have hr:=vY h Jy Jz
     have hm:∀g∈tf (bT w a),0≤g∧g<5:=by
      intro g hg;unfold tf at hg;split at hg
      ·rename_i hb
       have hg:=(List.mem_filter.1 hg).1;simp only[ef,Bool.and_eq_true]at hb;have hs:=hb.2;simp only[cf,Bool.and_eq_true,bR,List.all_eq_true,List.mem_range]at hs;obtain⟨i,hi,rfl⟩:=List.getElem_of_mem hg;have:=hs.1 i hi
       simp only[pw,Bool.and_eq_true,cd]at this;have:=this.1
       rw[List.getD_eq_getElem?_getD,List.getElem?_eq_getElem hi]at this;simpa using this
      ·cases hg
     have hA:ep (n+5) (zZ w a (tf (bT w a))):=ep.qz (fun g=>⟨1,a,g,0,0⟩) _ w h' fun g hg=>⟨Jy,Jz,(hm g hg).1,(hm g hg).2⟩
     refine hA.tell Jy ?_;unfold zZ;rw[qA];exact Jz
   ·split
    ·split
     ·obtain⟨h1,h2⟩:=XS (n:=n) a (setAt w a) w.ai (Cv h Jy Jz) h.g5 h.jH
      exact {h' with g5:=h1,jH:=h2,bC:=h'.bC}
     ·exact h'
    ·exact h'
theorem ep.event {w:az}{n:Nat}(h:ep n w)(k a:Int):ep (n+5) (XR w k a):=by
 unfold XR;split
 ·exact(h.send a).mono (by omega)
 ·split
  ·exact(h.Vk k a).mono (by omega)
  ·exact h.EV k a
end Go.Proofs.YtlhohdjniaebbaaGreat.T
namespace Go.Proofs.YtlhohdjniaebbaaGreat.T
open Go Go.RowKit
set_option maxRecDepth 100000
set_option maxHeartbeats 4000000
variable {E:List PanicEntry→World→Prop}
abbrev Vm (xs:List Int):ak:= .rows 3 1 (xs.map fun n=>[rI n])
end Go.Proofs.YtlhohdjniaebbaaGreat.T
namespace Go.Proofs.YtlhohdjniaebbaaGreat.T
open Go Go.RowKit
set_option maxRecDepth 100000
set_option maxHeartbeats 4000000
variable {E:List PanicEntry→World→Prop}
def Ae (es:List aK)(k:Nat):List Bool:=(List.range 12).map fun m=>(es.take k).any fun e=>decide (e.m=(m:Nat))
def gF (es:List aK)(k:Nat):List TV:=(Ae es k).map fun b=> .r (rB b)
theorem ma (es:List aK)(k:Nat):(gF es k).length=12:=by simp[gF,Ae]
def rY (es:List aK)(k:Nat)(m:Int):Bool:=(es.take k).any fun e=>decide (e.m=m)
theorem MW (es:List aK)(k:Nat){m:Int}(h0:0≤m)(h1:m<12):List.take 1 (List.drop m.toNat (gF es k))=[.r (rB (rY es k m))]:=by
 have aj:m.toNat<(gF es k).length:=by rw[ma];omega
 rw[List.drop_eq_getElem_cons aj];simp only[List.take_succ_cons,List.take_zero,gF,Ae,List.getElem_map,List.getElem_range,rY];rw[show((m.toNat:Nat):Int)=m by omega]
theorem MX (es:List aK)(k:Nat){e:aK}(he:es[k]?=some e)(h0:0≤e.m)(h1:e.m<12):List.take e.m.toNat (gF es k)++ .r (rB true)::List.drop (e.m.toNat+1) (gF es k)=gF es (k+1):=by
 have aj:e.m.toNat<(gF es k).length:=by rw[ma];omega
 have MY:(gF es k).set e.m.toNat (.r (rB true))=List.take e.m.toNat (gF es k)++ .r (rB true)::List.drop (e.m.toNat+1) (gF es k):=by rw[List.set_eq_take_append_cons_drop,if_pos aj]
 rw[←MY];apply List.ext_getElem
 ·simp[ma]
 ·intro i h2 h3
  have hi:i<12:=by rw[ma]at h3;exact h3
  rw[List.getElem_set];simp only[gF,Ae,List.getElem_map,List.getElem_range];rw[List.take_add_one,he,List.any_append];by_cases hm:e.m.toNat=i
  ·rw[if_pos hm]
   simp only[Option.toList_some,List.any_cons,List.any_nil,Bool.or_false];rw[show decide (e.m=(i:Nat))=true by simp;omega,Bool.or_true]
  ·rw[if_neg hm]
   simp only[Option.toList_some,List.any_cons,List.any_nil,Bool.or_false];rw[show decide (e.m=(i:Nat))=false by simp;omega,Bool.or_false]
theorem JA {es:List aK}{k:Nat}{x:TV}(h:x∈gF es k):∃b,x= .r (rB b):=by
 obtain⟨b,_,rfl⟩:=List.mem_map.1 h;exact⟨b,rfl⟩
def iK (es:List aK)(i:Nat):Bool:=match es[i]? with
 |some e=> !rY es i e.m
 |none=>true
def uW (es:List aK)(i:Nat):Bool:=match es[i]? with
 |some e=>e.f
 |none=>true
def lr (g:aH):Bool:=cd g.id&&gC g.clock&&jK g.id g.clock g.pend&&jK g.id g.clock g.done&&bR (g.done++g.pend).length (iK (g.done++g.pend))&&bR g.done.length (uW g.done)&&jy g
theorem Cy {id clock:Int}{es:List aK}(h:jK id clock es=true){e:aK}(he:e∈es):0≤e.m∧e.m<12:=by
 obtain⟨i,hi,rfl⟩:=List.getElem_of_mem he;simp only[jK,bR,List.all_eq_true,List.mem_range]at h;have:=h i hi
 unfold nY at this;rw[List.getElem?_eq_getElem hi]at this;simp only[Bool.and_eq_true,br,decide_eq_true_eq]at this;exact this.1.1.1.1
theorem rZ (g:aH)(h:vV g 4294967290):TC Tw.prog E 74 [.a ((au g).map .r)] 0 [] (gB (lr g)) []:=by
 obtain⟨uA,MU⟩:=h;have hlen:g.done.length≤maxLen:=by simp only[maxLen];omega
 refine tE Tryz.f74 Tryz.ntmps74 (by rw[Tryz.results74]) ?_
 cases hv:cd g.id&&gC g.clock&&jK g.id g.clock g.pend&&jK g.id g.clock g.done
 ·rw[show lr g=false by rw[lr,hv];simp]
  (refine TW.go ?_;simp[au];repeat' first|intro hc|refine aa.mk ?_|refine aI ?_|refine af ?_ ?_|(refine cP ?_;(first|refine⟨_,oZ _,?_⟩|refine⟨_,Ct _,?_⟩|refine⟨_,rW g _,?_⟩);simp[au]))
  all_goals first
   |(exact oW [] [])
   |(exfalso;simp_all)
 ·have fM:=hv
  simp only[Bool.and_eq_true]at fM;obtain⟨⟨⟨v1,v2⟩,v3⟩,v4⟩:=fM;generalize aR:g.done++g.pend=es;have By:es.length≤8589934580:=by rw[←aR];simp;omega
  have YB:es.length≤maxLen:=by simp only[maxLen];omega
  have Cs:∀e∈es,0≤e.m∧e.m<12:=fun e he=>by
   rw[←aR]at he;rcases List.mem_append.1 he with he|he
   ·exact Cy v4 he
   ·exact Cy v3 he
  have Vn:lr g=(bR es.length (iK es)&&bR g.done.length (uW g.done)&&jy g):=by
   rw[lr,hv,aR,Bool.true_and]
  have xK:=rX (E:=E) g.done (by omega)
  have YC:gF es 0=[.r (rB false),.r (rB false),.r (rB false),.r (rB false),.r (rB false),.r (rB false),.r (rB false),.r (rB false),.r (rB false),.r (rB false),.r (rB false),.r (rB false)]:=by simp[gF,Ae,List.range_succ]
  (refine TW.go ?_;simp[au,v1,v2,v3,v4,maxLen];repeat' first|intro hc|refine aa.mk ?_|refine aI ?_|refine af ?_ ?_|(refine cP ?_;(first|refine⟨_,oZ _,?_⟩|refine⟨_,Ct _,?_⟩|refine⟨_,rW g _,?_⟩);simp[au,v1,v2,v3,v4,maxLen])|(refine cF [] 1 ?_;refine⟨_,_,xK,?_⟩;simp[au,v1,v2,v3,v4,maxLen]))
  refine tL (fun(k:Nat)=>⟨[(1,.s (.ptr 0 0)),(3,.s (.ptr 1 0)),(38,gR (c7 es)),(39,gI .i64 es.length),(40,gI .i64 (k:Nat))],[(0,.box ((au g).map .r)),(1,.box (gF es k))],2⟩) (fun k=>k≤es.length∧∀i,i<k→iK es i=true) (fun k=>es.length-k) 0 ⟨by omega,fun i hi=>by omega⟩
   (Wk.own [0,1] [3] (by simp) (by simp[←aR]) (by simp[au,YC]) (by simp) (by simp)) fun k hk=>?_
  obtain⟨hk,hf⟩:=hk;by_cases aj:k<es.length
  ·have he:es[k]?=some es[k]:=List.getElem?_eq_getElem aj
   have aA:(k:Int)<(es.length:Int):=by omega
   have aG:=wrap_add aj YB;obtain⟨m0,m1⟩:=Cs _ (List.getElem_mem aj);generalize es[k]=e at he m0 m1;have cc:=MW es k m0 m1;have aY:=MX es k he m0 m1;have hln:=ma es k;have Vo:iK es k= !rY es k e.m:=by rw[iK,he]
   cases hd:rY es k e.m
   ·rw[hd]at cc
    (refine TW.go ?_;simp[aA,he,m0,cc,aY,hln,aF,au,aG];repeat' first|intro hc|refine aa.mk ?_|refine aI ?_|refine af ?_ ?_)
    refine⟨k+1,⟨by omega,fun i hi=>?_⟩,by omega,Wk.own [0,1] [] (by simp) (by simp) (by simp[au];exact⟨fun a ha=>by obtain⟨c,rfl⟩:=JA ha;rfl,fun b x hx hb=>by obtain⟨c,rfl⟩:=JA hx;cases hb⟩) (by simp) (by simp)⟩
    by_cases e:i=k
    ·subst e;rw[Vo,hd];rfl
    ·exact hf i (by omega)
   ·rw[hd]at cc
    rw[show lr g=false by rw[Vn,bH aj (by rw[Vo,hd];rfl)];rfl]
    (refine TW.go ?_;simp[aA,he,m0,cc,hln,aF,au];repeat' first|intro hc|refine aa.mk ?_|refine aI ?_|refine af ?_ ?_)
    exact oW [] []
  ·obtain rfl:k=es.length:=by omega
   have cS:bR es.length (iK es)=true:=bw hf
   rw[cS,Bool.true_and]at Vn;clear hf;(refine TW.go ?_;simp[au];repeat' first|intro hc|refine aa.mk ?_|refine aI ?_|refine af ?_ ?_)
   refine tL (fun(k:Nat)=>⟨[(1,.s (.ptr 0 0)),(53,gR (c7 g.done)),(54,gI .i64 g.done.length),(55,gI .i64 (k:Nat))],[(0,.box ((au g).map .r))],1⟩) (fun k=>k≤g.done.length∧∀i,i<k→uW g.done i=true) (fun k=>g.done.length-k) 0 ⟨by omega,fun i hi=>by omega⟩
    (Wk.own [0] [] (by simp) (by simp) (by simp[au]) (by simp) (by simp)) fun k hk=>?_
   obtain⟨hk,hf⟩:=hk;by_cases aj:k<g.done.length
   ·have he:g.done[k]?=some g.done[k]:=List.getElem?_eq_getElem aj
    have aA:(k:Int)<(g.done.length:Int):=by omega
    have aG:=wrap_add aj hlen;generalize g.done[k]=e at he;have Vo:uW g.done k=e.f:=by rw[uW,he]
    cases hd:e.f
    ·rw[show lr g=false by rw[Vn,bH aj (by rw[Vo,hd])];rfl]
     (refine TW.go ?_;simp[aA,he,hd,aF,au];repeat' first|intro hc|refine aa.mk ?_|refine aI ?_|refine af ?_ ?_)
     exact oW [] []
    ·(refine TW.go ?_;simp[aA,he,hd,aF,au,aG];repeat' first|intro hc|refine aa.mk ?_|refine aI ?_|refine af ?_ ?_)
     refine⟨k+1,⟨by omega,fun i hi=>?_⟩,by omega,Wk.own [0] [] (by simp) (by simp) (by simp[au]) (by simp) (by simp)⟩
     by_cases e:i=k
     ·subst e;rw[Vo,hd]
     ·exact hf i (by omega)
   ·obtain rfl:k=g.done.length:=by omega
    have aas:bR g.done.length (uW g.done)=true:=bw hf
    rw[aas,Bool.true_and]at Vn;clear hf aR By YB Cs cS hv xK YC;rw[Vn];rcases hp:g.pend with _|⟨p,ps⟩
    ·(refine TW.go ?_;simp[au,hp];repeat' first|intro hc|refine aa.mk ?_|refine aI ?_|refine af ?_ ?_)
     refine bo.nil (r:=gB (jy g)) ?_ rfl;simp[jy,hp]
    ·have zo:¬((ps.length:Int)+1=0):=by omega
     rcases hn:g.done.length with _|n
     ·have eQ:g.done=[]:=List.length_eq_zero_iff.1 hn
      (refine TW.go ?_;simp[au,aF,hp,hn,zo];repeat' first|intro hc|refine aa.mk ?_|refine aI ?_|refine af ?_ ?_|(refine cP ?_;refine⟨_,o8 _ _ _ _,?_⟩;simp[au,aF,hp,hn,zo]))
      all_goals
       refine bo.nil (r:=gB (jy g)) ?_ rfl;simp_all[jy]
     ·have By:g.done[n]?=some g.done[n]:=List.getElem?_eq_getElem (by omega)
      have yR:g.done.getLast?=some g.done[n]:=by rw[List.getLast?_eq_getElem?,show g.done.length-1=n by omega];exact By
      have hw:=dX (k:=n) (by omega)
      have MF:¬((n:Int)+1=0):=by omega
      (refine TW.go ?_;simp[au,aF,hp,hn,zo,MF,hw,By];repeat' first|intro hc|refine aa.mk ?_|refine aI ?_|refine af ?_ ?_|(refine cP ?_;refine⟨_,o8 _ _ _ _,?_⟩;simp[au,aF,hp,hn,zo,MF,hw,By]))
      all_goals
       refine bo.nil (r:=gB (jy g)) ?_ rfl;simp_all[jy]
end Go.Proofs.YtlhohdjniaebbaaGreat.T
namespace Go.Proofs.YtlhohdjniaebbaaGreat.T
open Go Go.RowKit
set_option maxRecDepth 100000
set_option maxHeartbeats 4000000
variable {E:List PanicEntry→World→Prop}
def dN (set:List Int):Prop:=∀g∈set,0≤g∧g<5
theorem jZ {gs:List aH}{i:Nat}(h:i<gs.length):gs[i]?=some (aB gs i):=by
 rw[aB,List.getD_eq_getElem?_getD,List.getElem?_eq_getElem h];rfl
theorem dN.take {set:List Int}(h:dN set)(k:Nat):dN (set.take k):=fun g hg=>h g (List.mem_of_mem_take hg)
end Go.Proofs.YtlhohdjniaebbaaGreat.T
namespace Go.Proofs.YtlhohdjniaebbaaGreat.T
open Go Go.RowKit
set_option maxRecDepth 100000
set_option maxHeartbeats 4000000
variable {E:List PanicEntry→World→Prop}
theorem r_ (m:Int):∀(es:List aK) (k:Nat),cG m es k<0↔∀e∈es,e.m≠m
 |[],k=>by simp[cG]
 |e::es,k=>by
  unfold cG;by_cases h:e.m=m
  ·rw[if_pos h]
   simp only[List.mem_cons,forall_eq_or_imp];constructor
   ·intro h1;omega
   ·intro h1;exact absurd h h1.1
  ·rw[if_neg h,r_ m es (k+1)]
   simp only[List.mem_cons,forall_eq_or_imp];exact⟨fun h1=>⟨h,h1⟩,fun h1=>h1.2⟩
theorem me (es:List aK)(m:Int):cV es m<0↔∀e∈es,e.m≠m:=r_ m es 0
theorem bd {n:Nat}{c:Nat→Bool}:bR n c=true↔∀i,i<n→c i=true:=by simp[bR]
theorem Cz {es:List aK}{k:Nat}{m:Int}:rY es k m=false↔∀i,i<k→∀e,es[i]?=some e→e.m≠m:=by
 unfold rY;rw[List.any_eq_false];constructor
 ·intro h i hi e he
  have:=h e (List.mem_of_getElem? (by rw[List.getElem?_take,if_pos hi];exact he))
  simpa using this
 ·intro h e he
  obtain⟨i,hi⟩:=List.getElem?_of_mem he;rw[List.getElem?_take]at hi;split at hi
  ·simpa using h i (by assumption) e hi
  ·cases hi
theorem ti {id clock:Int}{es:List aK}{i:Nat}:kR id clock es i=true↔nY id clock es i=true∧iK es i=true:=by
 unfold kR nY iK
 cases h:es[i]? with
 |none=>simp
 |some e=>
  have hd:decide (cV (es.take i) e.m<0)= !rY es i e.m:=by
   rw[Bool.eq_iff_iff,decide_eq_true_eq,me,Bool.not_eq_true',rY,List.any_eq_false];simp
  simp only[hd]
  cases br e.m<;>cases aP e.t e.g<;>cases decide (e.t≤clock)<;>cases e.f<;>cases decide (e.g=id)<;>cases rY es i e.m<;>simp<;>exact Iff.rfl
theorem tk {id clock:Int}{es:List aK}:ie id clock es=true↔jK id clock es=true∧bR es.length (iK es)=true:=by
 unfold ie jK;rw[bd,bd,bd];exact⟨fun h=>⟨fun i hi=>(ti.1 (h i hi)).1,fun i hi=>(ti.1 (h i hi)).2⟩,fun h i hi=>ti.2 ⟨h.1 i hi,h.2 i hi⟩⟩
theorem nZ {es:List aK}:bR es.length (iK es)=true↔∀(i j:Nat) (e d:aK),j<i→es[i]?=some e→es[j]?=some d→d.m≠e.m:=by
 rw[bd];constructor
 ·intro h i j e d Bp he hd
  have:=h i (List.getElem?_eq_some_iff.1 he).1
  unfold iK at this;rw[he]at this;exact Cz.1 (by simpa using this) j Bp d hd
 ·intro h i hi
  unfold iK;rw[List.getElem?_eq_getElem hi];simp only[Bool.not_eq_true'];exact Cz.2 fun j hj d hd=>h i j _ d hj (List.getElem?_eq_getElem hi) hd
theorem EW {a b:List aK}:bR (a++b).length (iK (a++b))=true↔bR a.length (iK a)=true∧bR b.length (iK b)=true∧∀e∈a,∀d∈b,d.m≠e.m:=by
 rw[nZ,nZ,nZ];constructor
 ·intro h
  refine⟨fun i j e d Bp he hd=>?_,fun i j e d Bp he hd=>?_,fun e he d hd=>?_⟩
  ·exact h i j e d Bp (by rw[List.getElem?_append_left (List.getElem?_eq_some_iff.1 he).1];exact he) (by rw[List.getElem?_append_left (List.getElem?_eq_some_iff.1 hd).1];exact hd)
  ·exact h (a.length+i) (a.length+j) e d (by omega) (by rw[List.getElem?_append_right (by omega)];simpa using he) (by rw[List.getElem?_append_right (by omega)];simpa using hd)
  ·obtain⟨i,hi⟩:=List.getElem?_of_mem he
   obtain⟨j,hj⟩:=List.getElem?_of_mem hd;have zD:=(List.getElem?_eq_some_iff.1 hi).1;exact fun e'=>h (a.length+j) i d e (by omega) (by rw[List.getElem?_append_right (by omega)];simpa using hj) (by rw[List.getElem?_append_left zD];exact hi) e'.symm
 ·rintro⟨h1,h2,h3⟩ i j e d Bp he hd
  rw[List.getElem?_append]at he hd;split at he
  ·rw[if_pos (by omega)]at hd
   exact h1 i j e d Bp he hd
  ·split at hd
   ·exact fun e'=>h3 d (List.mem_of_getElem? hd) e (List.mem_of_getElem? he) e'.symm
   ·exact h2 _ _ e d (by omega) he hd
theorem Rw {g:aH}:bR g.done.length (jx g)=true↔bR g.done.length (uW g.done)=true∧∀e∈g.done,∀d∈g.pend,d.m≠e.m:=by
 rw[bd,bd];constructor
 ·intro h
  refine⟨fun i hi=>?_,fun e he d hd=>?_⟩
  ·have:=h i hi
   unfold jx at this;unfold uW;rw[List.getElem?_eq_getElem hi]at this⊢;simp only[Bool.and_eq_true]at this;exact this.1
  ·obtain⟨i,hi,rfl⟩:=List.getElem_of_mem he
   have:=h i hi
   unfold jx at this;rw[List.getElem?_eq_getElem hi]at this;simp only[Bool.and_eq_true,decide_eq_true_eq]at this;exact(me _ _).1 this.2 d hd
 ·rintro⟨h1,h2⟩ i hi
  have:=h1 i hi
  unfold uW at this;unfold jx;rw[List.getElem?_eq_getElem hi]at this⊢;simp only[Bool.and_eq_true,decide_eq_true_eq];exact⟨this,(me _ _).2 fun d hd=>h2 _ (List.getElem_mem hi) d hd⟩
theorem Af (g:aH):lr g=bm g:=by
 rw[Bool.eq_iff_iff];unfold lr bm;simp only[Bool.and_eq_true,tk,EW,Rw,gC];constructor
 ·rintro⟨⟨⟨⟨⟨⟨a,b⟩,c⟩,d⟩,e,f,h⟩,i⟩,j⟩
  exact⟨⟨⟨⟨⟨a,b⟩,c,f⟩,d,e⟩,i,h⟩,j⟩
 ·rintro⟨⟨⟨⟨⟨a,b⟩,c,f⟩,d,e⟩,i,h⟩,j⟩
  exact⟨⟨⟨⟨⟨⟨a,b⟩,c⟩,d⟩,e,f,h⟩,i⟩,j⟩
def fJ (g:aH)(m:Int):aK:=if bm g=true then aU g m else aK.zero
def vZ (g:aH)(m:Int):Bool:=bm g&&cl g m
theorem sd (g:aH)(m:Int)(h:vV g 4294967290):TC Tw.prog E 155 [.a ((au g).map .r),gI .i64 m] 0 [] (.p [jw (fJ g m),gB (vZ g m)]) []:=by
 have hV:=rZ (E:=E) g h;rw[Af]at hV;unfold fJ vZ;refine tE Tryz.f155 Tryz.ntmps155 (by rw[Tryz.results155]) ?_
 cases hv:bm g
 ·rw[if_neg (by simp)]
  rw[hv]at hV;(refine TW.go ?_;simp[au];repeat' first|intro hc|refine aa.mk ?_|refine aI ?_|refine af ?_ ?_|(refine cP ?_;refine⟨_,hV,?_⟩;simp[au]))
  refine bo.nil (r:= .p [jw aK.zero,gB false]) ?_ rfl;simp[aF,aK.zero]
 ·rw[if_pos rfl,Bool.true_and]
  rw[hv]at hV;(refine TW.go ?_;simp[au];repeat' first|intro hc|refine aa.mk ?_|refine aI ?_|refine af ?_ ?_|(refine cP ?_;refine⟨_,hV,?_⟩;simp[au]))
  refine tL (fun(k:Nat)=>⟨[(1,gI .i64 m),(4,.s (.ptr 1 0)),(17,.a [.r (c7 g.pend),.r (c7 g.done)]),(18,gI .i64 (k:Nat))],[(1,.box [.r (rI 0),.r (rI 0),.r (rI 0),.r (rB false)])],2⟩)
   (fun k=>k≤2∧(1≤k→g.pend.find? (fun e=>decide (e.m=m))=none)∧(2≤k→g.done.find? (fun e=>decide (e.m=m))=none)) (fun k=>2-k) 0 ⟨by omega,fun h=>by omega,fun h=>by omega⟩
   (Wk.same (by simp[au]) (by simp) (by simp)) fun k hk=>?_
  obtain⟨hk,k1,k2⟩:=hk;rcases k with _|_|_|k
  ·rcases jv g.pend m with⟨hp,bk⟩|⟨j,e,hp,he,bk,_⟩
   ·(refine TW.go ?_;simp[hp];repeat' first|intro hc|refine aa.mk ?_|refine aI ?_|refine af ?_ ?_|(refine cP ?_;refine⟨_,o9 _ _,?_⟩;simp[hp]))
    exact⟨1,⟨by omega,fun _=>by simpa using bk,fun h=>by omega⟩,by omega,kS⟩
   ·rw[show aU g m=e by simp[aU,bj,bk],show cl g m=true by simp[cl,bj,bk]]
    (refine TW.go ?_;simp[hp,he,aF];repeat' first|intro hc|refine aa.mk ?_|refine aI ?_|refine af ?_ ?_|(refine cP ?_;refine⟨_,o9 _ _,?_⟩;simp[hp,he,aF]))
    refine bo.nil (r:= .p [jw e,gB true]) ?_ rfl;simp[aF]
  ·have k1:=k1 (by omega)
   rcases jv g.done m with⟨hp,bk⟩|⟨j,e,hp,he,bk,_⟩
   ·(refine TW.go ?_;simp[hp];repeat' first|intro hc|refine aa.mk ?_|refine aI ?_|refine af ?_ ?_|(refine cP ?_;refine⟨_,o9 _ _,?_⟩;simp[hp]))
    exact⟨2,⟨by omega,fun _=>by simpa using k1,fun _=>by simpa using bk⟩,by omega,Wk.same (by simp[show IntKind.i64.wrap 2=2 by decide]) (by simp) (by simp)⟩
   ·rw[show aU g m=e by simp[aU,bj,k1,bk],show cl g m=true by simp[cl,bj,k1,bk]]
    (refine TW.go ?_;simp[hp,he,aF];repeat' first|intro hc|refine aa.mk ?_|refine aI ?_|refine af ?_ ?_|(refine cP ?_;refine⟨_,o9 _ _,?_⟩;simp[hp,he,aF]))
    refine bo.nil (r:= .p [jw e,gB true]) ?_ rfl;simp[aF]
  ·have k1:=k1 (by omega)
   have k2:=k2 (by omega)
   rw[show aU g m=aK.zero by simp[aU,bj,k1,k2],show cl g m=false by simp[cl,bj,k1,k2]]
   (refine TW.go ?_;simp;repeat' first|intro hc|refine aa.mk ?_|refine aI ?_|refine af ?_ ?_)
   refine bo.nil (r:= .p [jw aK.zero,gB false]) ?_ rfl;simp[aF,aK.zero]
  ·omega
def kZ (g:aH)(m:Int):List RT:=[rI (fJ g m).m,rI (fJ g m).t,rI (fJ g m).g,rB (fJ g m).f,rB (vZ g m)]
theorem JB (gs:List aH)(x m:Int)(h:ju gs 4294967290)(h0:0≤x)(h1:x<gs.length):
  TC Tw.prog E 187 [gI .i64 x,.s (.iZ [eZ gs] 0),.s (.iZ [rI m] 0)] 0 [] (.a ((kZ (aB gs x.toNat) m).map .r)) []:=by
 have hG:=jZ (gs:=gs) (i:=x.toNat) (by omega)
 have hle:=h.2 _ (List.mem_of_getElem? hG);generalize aB gs x.toNat=G at*;refine tE Tryz.f187 Tryz.ntmps187 (by rw[Tryz.results187]) ?_
 (refine TW.go ?_;simp[h0,hG,au,aF];repeat' first|intro hc|refine aa.mk ?_|refine aI ?_|refine af ?_ ?_|(refine cP ?_;refine⟨_,sd G m hle,?_⟩;simp[h0,hG,au,aF]))
 refine bo.own [] [] (by simp;rfl) (by simp[kZ,aF]) (by simp) (by simp) (by simp[kZ,aF]) (by simp)
end Go.Proofs.YtlhohdjniaebbaaGreat.T
namespace Go.Proofs.YtlhohdjniaebbaaGreat.T
open Go Go.RowKit
set_option maxRecDepth 100000
set_option maxHeartbeats 4000000
variable {E:List PanicEntry→World→Prop}
theorem qU {a b c:aK}(h:dF a b=true)(k:dF b c=true):dF a c=true:=by
 simp only[dF,aS,decide_eq_true_eq]at*;omega
theorem JC {id clock:Int}{es:List aK}(h:ie id clock es=true):es.Pairwise (fun a b=>dF a b=true)∧∀e∈es,e.t≤clock∧aP e.t e.g=true∧(e.f=true∨e.g=id):=by
 rw[ie,bd]at h;have one:∀(i:Nat) (hi:i<es.length),(es[i].t≤clock∧aP es[i].t es[i].g=true∧(es[i].f=true∨es[i].g=id))∧∀(_:i≠0) (hj:i-1<es.length),dF es[i-1] es[i]=true:=by
  intro i hi;have:=h i hi
  rw[kR,List.getElem?_eq_getElem hi]at this;simp only[Bool.and_eq_true,Bool.or_eq_true,decide_eq_true_eq]at this;obtain⟨⟨⟨⟨⟨-,h1⟩,h2⟩,h3⟩, -⟩,h4⟩:=this;refine⟨⟨h2,h1,h4⟩,fun h0 hj=>?_⟩
  rcases h3 with h3|h3
  ·exact absurd h3 h0
  ·rw[List.getElem?_eq_getElem hj]at h3
   exact h3
 refine⟨?_,fun e he=>?_⟩
 ·rw[List.pairwise_iff_getElem]
  have:∀(d i:Nat) (hi:i<es.length) (hj:i+d+1<es.length),dF es[i] es[i+d+1]=true:=by
   intro d;induction d with
   |zero=>intro i hi hj;exact(one (i+1) hj).2 (by omega) hi
   |succ d ih=>
    intro i hi hj;exact qU (ih i hi (by omega)) ((one (i+(d+1)+1) hj).2 (by omega) (by omega))
  intro i j hi hj pR;obtain⟨d,rfl⟩:∃d,j=i+d+1:=⟨j-i-1,by omega⟩
  exact this d i hi hj
 ·obtain⟨i,hi,rfl⟩:=List.getElem_of_mem he
  exact(one i hi).1
end Go.Proofs.YtlhohdjniaebbaaGreat.T
namespace Go.Proofs.YtlhohdjniaebbaaGreat.T
open Go Go.RowKit
theorem CA (m t s:Int):∀{rest:List aK},rest.Pairwise (fun a b=>dF a b=true)→(∀x∈rest,¬(x.t=t∧x.g=s))→(rest.take (g_ rest t s)++[(⟨m,t,s,true⟩:aK)]++rest.drop (g_ rest t s)).Pairwise fun a b=>dF a b=true
 |[],_,_=>by simp[g_]
 |x::l,hp,hn=>by
  rw[List.pairwise_cons]at hp;by_cases hx:aS x.t x.g t s=true
  ·have qB:g_ (x::l) t s=g_ l t s+1:=by
    unfold g_;rw[List.takeWhile_cons,if_pos hx,List.length_cons]
   rw[qB,List.take_succ_cons,List.drop_succ_cons];refine List.pairwise_cons.2 ⟨fun y hy=>?_,CA m t s hp.2 fun y hy=>hn y (by simp[hy])⟩
   rcases List.mem_append.1 hy with hy|hy
   ·rcases List.mem_append.1 hy with hy|hy
    ·exact hp.1 y (List.mem_of_mem_take hy)
    ·obtain rfl:=List.mem_singleton.1 hy
     exact hx
   ·exact hp.1 y (List.mem_of_mem_drop hy)
  ·have qB:g_ (x::l) t s=0:=by
    unfold g_;rw[List.takeWhile_cons,if_neg hx,List.length_nil]
   have aj:dF ⟨m,t,s,true⟩ x=true:=by
    have:=hn x (by simp)
    simp only[dF,aS,decide_eq_true_eq]at*;omega
   rw[qB];refine List.pairwise_cons.2 ⟨fun y hy=>?_,List.pairwise_cons.2 hp⟩
   rcases List.mem_cons.1 hy with rfl|hy
   ·exact aj
   ·exact qU aj (hp.1 y hy)
theorem CB (t s:Int):∀{rest:List aK},rest.Pairwise (fun a b=>dF a b=true)→(qv rest (g_ rest t s) t s=true↔∃x∈rest,x.t=t∧x.g=s)
 |[],_=>by simp[g_,qv]
 |x::l,hp=>by
  rw[List.pairwise_cons]at hp;by_cases hx:aS x.t x.g t s=true
  ·have qB:g_ (x::l) t s=g_ l t s+1:=by
    unfold g_;rw[List.takeWhile_cons,if_pos hx,List.length_cons]
   have oQ:qv (x::l) (g_ l t s+1) t s=qv l (g_ l t s) t s:=rfl
   rw[qB,oQ,CB t s hp.2];constructor
   ·rintro⟨y,hy,h⟩;exact⟨y,by simp[hy],h⟩
   ·rintro⟨y,hy,h⟩
    rcases List.mem_cons.1 hy with rfl|hy
    ·simp only[aS,decide_eq_true_eq]at hx;omega
    ·exact⟨y,hy,h⟩
  ·have qB:g_ (x::l) t s=0:=by
    unfold g_;rw[List.takeWhile_cons,if_neg hx,List.length_nil]
   have oQ:qv (x::l) 0 t s=(decide (x.t=t)&&decide (x.g=s)):=rfl
   rw[qB,oQ];simp only[Bool.and_eq_true,decide_eq_true_eq];constructor
   ·intro h;exact⟨x,by simp,h⟩
   ·rintro⟨y,hy,h⟩
    rcases List.mem_cons.1 hy with rfl|hy
    ·exact h
    ·have:=hp.1 y hy
     simp only[dF,aS,decide_eq_true_eq]at*;omega
theorem MZ {es:List aK}{j:Nat}{x:aK}:x∈es.eraseIdx j↔∃i,i≠j∧es[i]?=some x:=List.mem_eraseIdx_iff_getElem?
end Go.Proofs.YtlhohdjniaebbaaGreat.T
