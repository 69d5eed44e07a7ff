/-
What is proved: what is true of every run, and that every event keeps it and what rests on it. Conditions: as stated.
-/
import Derived.Test.YtabjbdnokpjipaaGreatRw44
set_option linter.unusedVariables false
set_option linter.unusedSimpArgs false
namespace Go.Proofs.YtabjbdnokpjipaaGreat.T
open Go Go.RowKit
structure we (gs:List aF) (set:List Int) (m t s:Int):Prop where
 ok:bc t s=true
 mem:s∈set
 kn:cc (gAt gs s.toNat) m=true
 op:(aV (gAt gs s.toNat) m).f=false→(aV (gAt gs s.toNat) m).t=t∧(aV (gAt gs s.toNat) m).g=s
 fi:(aV (gAt gs s.toNat) m).f=true→aO (aV (gAt gs s.toNat) m).t (aV (gAt gs s.toNat) m).g t s=false∧((aV (gAt gs s.toNat) m).g=s→(aV (gAt gs s.toNat) m).t=t)
structure gT (gs:List aF) (set:List Int) (m t s:Int):Prop where
 ok:bc t s=true
 mem:s∈set
 kn:∀g∈set,cc (gAt gs g.toNat) m=true
 fi:∀g∈set,(aV (gAt gs g.toNat) m).f=true→(aV (gAt gs g.toNat) m).t=t∧(aV (gAt gs g.toNat) m).g=s
 le:∀g∈set,aO t s (aV (gAt gs g.toNat) m).t (aV (gAt gs g.toNat) m).g=false
 own:(aV (gAt gs s.toNat) m).t=t∧(aV (gAt gs s.toNat) m).g=s
theorem N7 {t s t' s':Int}(h:aO t s t' s'=false)(k:aO t' s' t s=false):t=t'∧s=s':=by
 simp only[aO,decide_eq_false_iff_not]at*;omega
theorem gT.uniq {gs:List aF}{set:List Int}{m t s t' s':Int}(h:gT gs set m t s)(k:gT gs set m t' s'):t=t'∧s=s':=by
 have a:=h.le s' k.mem;rw[k.own.1,k.own.2]at a;have b:=k.le s h.mem;rw[h.own.1,h.own.2]at b;exact N7 a b
inductive Chg (gs:List aF) (set:List Int) (i:Nat) (m:Int) (o n:Option aB):Prop
 |same (h:n=o)
 |new (e:aB) (ho:o=none) (hn:n=some e) (hf:e.f=false) (cH:(i:Int)∈set)
 |fin (e:aB) (t s:Int) (ho:o=some e) (hf:e.f=false) (hn:n=some ⟨m,t,s,true⟩) (cH:(i:Int)∈set) (hF:gT gs set m t s)
structure Fc (gs bX:List aF) (set:List Int) (m:Int):Prop where
 other:∀i:Nat,i<5→∀k,k≠m→aU (gAt bX i) k=aU (gAt gs i) k
 chg:∀i:Nat,i<5→Chg gs set i m (aU (gAt gs i) m) (aU (gAt bX i) m)
theorem gT.upd {gs bX:List aF}{set nF:List Int}{m k t s:Int}(h:gT gs nF k t s)(U:Fc gs bX set m)(hr:cm nF)(hs:k=m→nF=set):gT bX nF k t s:=by
 have one:∀g∈nF,cc (gAt bX g.toNat) k=true∧(aV (gAt bX g.toNat) k=aV (gAt gs g.toNat) k∨aV (gAt bX g.toNat) k=⟨k,t,s,true⟩):=by
  intro g hg;obtain⟨g0,g1⟩:=hr g hg;have gN:=h.kn g hg;by_cases hk:k=m
  ·subst hk
   have jj:=hs rfl;subst jj;rcases U.chg g.toNat (by omega)with e|⟨e,ho, -, -, -⟩|⟨e,t0,s0,ho,hf,hn, -,hF⟩
   ·unfold cc aV at*;rw[e];exact⟨gN,.inl rfl⟩
   ·rw[cc,ho]at gN;cases gN
   ·obtain⟨rfl,rfl⟩:=h.uniq hF
    unfold cc aV;rw[hn];exact⟨rfl,.inr rfl⟩
  ·have e:=U.other g.toNat (by omega) k hk
   unfold cc aV at*;rw[e];exact⟨gN,.inl rfl⟩
 refine⟨h.ok,h.mem,fun g hg=>(one g hg).1,fun g hg hf=>?_,fun g hg=>?_,?_⟩
 ·rcases(one g hg).2 with e|e
  ·rw[e]at hf⊢;exact h.fi g hg hf
  ·rw[e];exact⟨rfl,rfl⟩
 ·rcases(one g hg).2 with e|e
  ·rw[e];exact h.le g hg
  ·rw[e];exact nT _ _
 ·rcases(one s h.mem).2 with e|e
  ·rw[e];exact h.own
  ·rw[e];exact⟨rfl,rfl⟩
theorem we.upd {gs bX:List aF}{set nF:List Int}{m k t s:Int}(h:we gs nF k t s)(U:Fc gs bX set m)(hr:cm nF)(hs:k=m→nF=set):we bX nF k t s:=by
 obtain⟨g0,g1⟩:=hr s h.mem;have same:aU (gAt bX s.toNat) k=aU (gAt gs s.toNat) k→we bX nF k t s:=fun e=>by
  have a:=h.kn;have b:=h.op;have c:=h.fi;refine⟨h.ok,h.mem,?_,?_,?_⟩<;>(unfold cc aV at*;rw[e];assumption)
 by_cases hk:k=m
 ·subst hk
  have jj:=hs rfl;subst jj;have gN:=h.kn;rcases U.chg s.toNat (by omega)with e|⟨e,ho, -, -, -⟩|⟨e,t0,s0,ho,hf,hn, -,hF⟩
  ·exact same e
  ·rw[cc,ho]at gN;cases gN
  ·have hD:aV (gAt gs s.toNat) k=e:=by rw[aV,ho];rfl
   have hD':aV (gAt bX s.toNat) k=⟨k,t0,s0,true⟩:=by rw[aV,hn];rfl
   have bf:=h.op (by rw[hD];exact hf)
   have hle:=hF.le s h.mem;rw[hD]at bf hle;refine⟨h.ok,h.mem,by rw[cc,hn];rfl,fun rk=>?_,fun _=>?_⟩
   ·rw[hD']at rk;cases rk
   ·rw[hD']
    rw[bf.1,bf.2]at hle;refine⟨hle,fun e0=>?_⟩
    simp only at e0⊢
    have:=hF.own
    rw[e0,hD]at this;rw[←this.1];exact bf.1
 ·exact same (U.other s.toNat (by omega) k hk)
structure lA (ss:List (List Int)) (gs:List aF):Prop where
 g5:gs.length=5
 dS:∀i:Nat,i<5→bB (gAt gs i)=true∧(gAt gs i).id=i
 lJ:∀(i:Nat) (m:Int) (e:aB),i<5→aU (gAt gs i) m=some e→0≤m∧m<ss.length∧(i:Int)∈ss.getD m.toNat []∧(e.f=true→gT gs (ss.getD m.toNat []) m e.t e.g)
theorem b9 {ss:List (List Int)}(h:∀s∈ss,cB s=true)(m:Nat):cm (ss.getD m []):=by
 rw[List.getD_eq_getElem?_getD]
 cases e:ss[m]? with
 |none=>exact fun g hg=>by cases hg
 |some s=>exact(eY (h s (List.mem_of_getElem? e))).2.2
theorem lA.upd {ss:List (List Int)}{gs bX:List aF}{m:Int}(h:lA ss gs)(jj:∀s∈ss,cB s=true)(U:Fc gs bX (ss.getD m.toNat []) m)(h5:bX.length=5)(hg:∀i:Nat,i<5→bB (gAt bX i)=true∧(gAt bX i).id=i)(h0:0≤m)(h1:m<ss.length):lA ss bX:=by
 refine⟨h5,hg,fun i k e hi he=>?_⟩
 have old:aU (gAt bX i) k=aU (gAt gs i) k→0≤k∧k<ss.length∧(i:Int)∈ss.getD k.toNat []∧(e.f=true→gT bX (ss.getD k.toNat []) k e.t e.g):=fun e0=>by
  rw[e0]at he;obtain⟨a,b,c,d⟩:=h.lJ i k e hi he;exact⟨a,b,c,fun hf=>(d hf).upd U (b9 jj _) fun ek=>by rw[ek]⟩
 by_cases hk:k=m
 ·subst hk
  rcases U.chg i hi with e0|⟨x, -,hn,hf,cH⟩|⟨x,t0,s0,ho,hf,hn,cH,hF⟩
  ·exact old e0
  ·rw[hn]at he;cases he
   exact⟨h0,h1,cH,fun rk=>by rw[hf]at rk;cases rk⟩
  ·rw[hn]at he;cases he
   exact⟨h0,h1,cH,fun _=>hF.upd U (b9 jj _) fun _=>rfl⟩
 ·exact old (U.other i hi k hk)
theorem N8 {ss:List (List Int)}{gs:List aF}(h:lA ss gs)(jj:∀s∈ss,cB s=true){m g:Int}(h0:0≤m)(h1:m<ss.length)(hg0:0≤g)(th:g<5){G:aF}(hG:bB G=true∧G.id=(gAt gs g.toNat).id)
  (ho:∀k,k≠m→aU G k=aU (gAt gs g.toNat) k) (hc:Chg gs (ss.getD m.toNat []) g.toNat m (aU (gAt gs g.toNat) m) (aU G m)):Fc gs (gs.set g.toNat G) (ss.getD m.toNat []) m∧lA ss (gs.set g.toNat G):=by
 have h5:=h.g5;have oq:∀i:Nat,gAt (gs.set g.toNat G) i=if i=g.toNat then G else gAt gs i:=fun i=>yE G (by omega)
 have U:Fc gs (gs.set g.toNat G) (ss.getD m.toNat []) m:=by
  refine⟨fun i hi k hk=>?_,fun i hi=>?_⟩
  ·rw[oq];split
   ·rename_i e;subst e;exact ho k hk
   ·rfl
  ·rw[oq];split
   ·rename_i e;subst e;exact hc
   ·exact .same rfl
 refine⟨U,h.upd jj U (by simpa using h5) (fun i hi=>?_) h0 h1⟩
 rw[oq];split
 ·rename_i e;subst e;exact⟨hG.1,hG.2.trans (h.dS _ hi).2⟩
 ·exact h.dS i hi
theorem vd {g:aF}{m:Int}{e:aB}(hg:bB g=true)(h:aU g m=some e):e.m=m∧bc e.t e.g=true∧(e.f=false→e.g=g.id):=by
 have k:=cv.1 hg;rw[c7,fg k.nq]at h;obtain⟨h1,h2⟩:=h;have:EOk g.id g.clock e:=by
  rcases List.mem_append.1 h1 with h1|h1
  ·exact k.pl.lJ e h1
  ·exact k.dl.lJ e h1
 exact⟨h2,this.st,fun hf=>by rcases this.ow with h|h;rw[h]at hf;cases hf;exact h⟩
theorem I4 {g:aF}{m:Int}(h:(aD g m).2.2=true):∃e,aU (aD g m).1 m=some e∧e.f=false∧(aD g m).2.1=(e.t,e.g):=by
 cases hs:cc g m
 ·obtain⟨h1,h2⟩:=qK.1 hs
  rcases qL hs with e|⟨e,e'⟩
  ·exfalso
   unfold aD at h e;rw[h1,h2]at h e;simp only at h e
   split at h
   ·cases h
   ·rename_i hc;rw[if_neg hc]at e
    have:=congrArg aF.clock e
    simp at this
    omega
  ·refine⟨_,e',rfl,?_⟩
   unfold aD at h⊢;rw[h1,h2]at h⊢;simp only at h⊢
   split at h
   ·cases h
   ·rename_i hc;rw[if_neg hc]
 ·rw[kD hs]
  cases he:g.pend.find? (fun e=>decide (e.m=m))with
  |some e=>
   have hS:aU g m=some e:=by unfold aU;rw[he]
   by_cases hf:e.f=true
   ·have hP:aD g m=(g,(0,0),false):=by unfold aD;rw[he];exact if_pos hf
    rw[hP]at h
    cases h
   ·have hP:aD g m=(g,(e.t,e.g),true):=by unfold aD;rw[he];exact if_neg hf
    rw[hP];exact⟨e,hS,by simpa using hf,rfl⟩
  |none=>
   cases hd:g.done.find? (fun e=>decide (e.m=m))with
   |some x=>
    have hP:aD g m=(g,(0,0),false):=by unfold aD;rw[he,hd]
    rw[hP]at h
    cases h
   |none=>rw[qK.2 ⟨he,hd⟩]at hs;cases hs
theorem DS {ss:List (List Int)}{gs:List aF}(h:lA ss gs)(jj:∀s∈ss,cB s=true)(h12:ss.length≤12){m g:Int}(h0:0≤m)(h1:m<ss.length)(hg:g∈ss.getD m.toNat []):
  Fc gs (gs.set g.toNat (aD (gAt gs g.toNat) m).1) (ss.getD m.toNat []) m∧lA ss (gs.set g.toNat (aD (gAt gs g.toNat) m).1)∧
   ((aD (gAt gs g.toNat) m).2.2=true→(aD (gAt gs g.toNat) m).2.1.2=g∧we (gs.set g.toNat (aD (gAt gs g.toNat) m).1) (ss.getD m.toNat []) m (aD (gAt gs g.toNat) m).2.1.1 (aD (gAt gs g.toNat) m).2.1.2):=by
 obtain⟨g0,g1⟩:=b9 jj _ g hg;have hm:bj m=true:=by simp only[bj,decide_eq_true_eq];omega
 have hv:=(h.dS g.toNat (by omega)).1
 have hid:=(h.dS g.toNat (by omega)).2
 have dP:=mZ hv hm;have abR:=NK (gAt gs g.toNat) m;obtain⟨U,K⟩:=N8 h jj h0 h1 g0 g1 (G:=(aD (gAt gs g.toNat) m).1) ⟨dP,abR⟩ (fun k hk=>(uE hk).1) (by
  cases hs:cc (gAt gs g.toNat) m
  ·rcases qL hs with e|⟨-,e⟩
   ·rw[e];exact .same rfl
   ·refine .new _ ?_ e rfl (by rw[show((g.toNat:Nat):Int)=g by omega];exact hg)
    unfold cc at hs
    cases hx:aU (gAt gs g.toNat) m with
    |none=>rfl
    |some x=>rw[hx]at hs;cases hs
  ·rw[kD hs];exact .same rfl)
 refine⟨U,K,fun ha=>?_⟩
 obtain⟨e,he,hf,aZ⟩:=I4 ha;obtain⟨-,e2,e3⟩:=vd dP he;have oG:=e3 hf;rw[abR,hid,show((g.toNat:Nat):Int)=g by omega]at oG
 rw[aZ];simp only
 refine⟨oG,?_⟩;have oq:gAt (gs.set g.toNat (aD (gAt gs g.toNat) m).1) e.g.toNat=(aD (gAt gs g.toNat) m).1:=by
  rw[yE _ (by rw[h.g5];omega),oG,if_pos rfl]
 refine⟨e2,by rw[oG];exact hg,?_,fun _=>?_,fun rk=>?_⟩
 ·rw[oq,cc,he];rfl
 ·rw[oq,aV,he];exact⟨rfl,rfl⟩
 ·rw[oq,aV,he]at rk;simp only[Option.getD_some]at rk;rw[hf]at rk;cases rk
theorem Gt {ss:List (List Int)}{gs:List aF}(h:lA ss gs)(jj:∀s∈ss,cB s=true)(h12:ss.length≤12){m g t s:Int}(h0:0≤m)(h1:m<ss.length)(hg:g∈ss.getD m.toNat [])(hF:gT gs (ss.getD m.toNat []) m t s):
  Fc gs (gs.set g.toNat (bn (gAt gs g.toNat) m t s).1) (ss.getD m.toNat []) m∧lA ss (gs.set g.toNat (bn (gAt gs g.toNat) m t s).1):=by
 obtain⟨g0,g1⟩:=b9 jj _ g hg;have hm:bj m=true:=by simp only[bj,decide_eq_true_eq];omega
 have hv:=(h.dS g.toNat (by omega)).1
 have dP:=u9 hv hm hF.ok;refine N8 h jj h0 h1 g0 g1 (G:=(bn (gAt gs g.toNat) m t s).1) ⟨dP,VB _ _ _ _⟩ (fun k hk=>(sF hv hk hm hF.ok).1) ?_
 rcases xq (m:=m) (t:=t) (s:=s) hv with e|⟨e,rest,pre,o_,VA,aZ,p1,p2,p3, -⟩
 ·rw[e];exact .same rfl
 ·refine .fin e t s aZ VA ?_ (by rw[show((g.toNat:Nat):Int)=g by omega];exact hg) hF
  rw[c7,sE (cv.1 dP).nq p2,List.find?_cons_of_pos (by simp)]
structure wh (gs:List aF) (set:List Int) (m:Int) (r:cl):Prop where
 ok:fe r=true
 ms:r.m=m
 st:r.gs=set
 aH:∀s∈r.aH,we gs set m s.1 s.2
theorem VQ {ss:List (List Int)}{gs:List aF}(h:lA ss gs)(jj:∀s∈ss,cB s=true){m:Int}{r:cl}(hr:wh gs (ss.getD m.toNat []) m r)(hl:(dx r).2=true):gT gs (ss.getD m.toNat []) m (dx r).1.1 (dx r).1.2:=by
 have aZ:=hr.st;have Sj:=b9 jj m.toNat;generalize bT:ss.getD m.toNat []=set at*;have hlen:r.gs.length≤r.aH.length:=by
  unfold dx at hl;split at hl
  ·cases hl
  ·omega
 have hs:(dx r).1=lu r.aH:=by
  unfold dx;rw[if_neg (by omega)]
 have qk:∀g∈set,∃t,(t,g)∈r.aH:=fun g hg=>by
  have hm:=(yH hr.ok).1.2 hlen;simp only[kJ,List.filter_eq_nil_iff,Bool.and_eq_true,Bool.not_eq_true',not_and,Bool.not_eq_false]at hm;have:=hm g (zG.2 (Sj g hg)) (cY.2 (by rw[aZ];exact hg))
  obtain⟨x,hx,rfl⟩:=List.mem_map.1 (zH.1 this);exact⟨x.1,hx⟩
 obtain⟨cf, -, -⟩:=eY (pP hr.ok).1;rw[aZ]at cf;rw[hs];have adP:lu r.aH∈r.aH∧∀x∈r.aH,aO (lu r.aH).1 (lu r.aH).2 x.1 x.2=false:=by
  rcases hg:r.aH with _|⟨x,xs⟩
  ·obtain⟨g,bu⟩:=List.exists_mem_of_ne_nil set cf
   obtain⟨t,ht⟩:=qk g bu;rw[hg]at ht;cases ht
  ·obtain⟨m1,m2,m3⟩:=yD x xs
   refine⟨?_,fun y hy=>?_⟩
   ·rcases m3 with e|e
    ·exact List.mem_cons.2 (.inl e)
    ·exact List.mem_cons.2 (.inr e)
   ·rcases List.mem_cons.1 hy with rfl|hy
    ·exact m1
    ·exact m2 y hy
 obtain⟨cJ,hle⟩:=adP;generalize lu r.aH=s at*;have hS:=hr.aH s cJ;by_cases hc:∃g∈set,cc (gAt gs g.toNat) m=true∧(aV (gAt gs g.toNat) m).f=true
 ·obtain⟨g,hg,k1,k2⟩:=hc
  obtain⟨e,he⟩:=Option.isSome_iff_exists.1 k1;have hD:aV (gAt gs g.toNat) m=e:=by rw[aV,he];rfl
  rw[hD]at k2;obtain⟨g0,g1⟩:=Sj g hg;obtain⟨-, -, -,hF⟩:=h.lJ g.toNat m e (by omega) he
  have hF:=hF k2;rw[bT]at hF;have a:aO s.1 s.2 e.t e.g=false:=by
   obtain⟨t,ht⟩:=qk e.g hF.mem;have hT:=hr.aH _ ht;have:t=e.t:=by
    cases hf:(aV (gAt gs e.g.toNat) m).f
    ·exact(hT.op hf).1.symm.trans hF.own.1
    ·exact((hT.fi hf).2 hF.own.2).symm.trans hF.own.1
   rw[←this];exact hle _ ht
  have b:aO e.t e.g s.1 s.2=false:=by
   cases hf:(aV (gAt gs s.2.toNat) m).f
   ·have:=hF.le s.2 hS.mem
    rwa[(hS.op hf).1,(hS.op hf).2]at this
   ·have:=(hS.fi hf).1
    rwa[(hF.fi s.2 hS.mem hf).1,(hF.fi s.2 hS.mem hf).2]at this
  obtain⟨e1,e2⟩:=N7 a b;rw[e1,e2];exact hF
 ·have bf:∀g∈set,∃t,(t,g)∈r.aH∧cc (gAt gs g.toNat) m=true∧(aV (gAt gs g.toNat) m).f=false∧(aV (gAt gs g.toNat) m).t=t∧(aV (gAt gs g.toNat) m).g=g:=fun g hg=>by
   obtain⟨t,ht⟩:=qk g hg;have hT:=hr.aH _ ht;have hf:(aV (gAt gs g.toNat) m).f=false:=by
    cases hf:(aV (gAt gs g.toNat) m).f
    ·rfl
    ·exact absurd ⟨g,hg,hT.kn,hf⟩ hc
   exact⟨t,ht,hT.kn,hf,hT.op hf⟩
  refine⟨hS.ok,hS.mem,fun g hg=>?_,fun g hg hf=>?_,fun g hg=>?_,?_⟩
  ·obtain⟨t, -,k, -⟩:=bf g hg;exact k
  ·obtain⟨t, -, -,k, -⟩:=bf g hg;rw[k]at hf;cases hf
  ·obtain⟨t,ht, -, -,k1,k2⟩:=bf g hg;rw[k1,k2];exact hle _ ht
  ·obtain⟨t,ht, -,k, -, -⟩:=bf s.2 hS.mem;exact hS.op k
structure tc (ss:List (List Int)) (gs:List aF) (p:dE):Prop where
 m0:0≤p.m
 m1:p.m<ss.length
 g:p.g∈ss.getD p.m.toNat []
 k:(p.k=1∧p.t=0∧p.s=0)∨(p.k=2∧p.s=p.g∧we gs (ss.getD p.m.toNat []) p.m p.t p.s)∨(p.k=3∧gT gs (ss.getD p.m.toNat []) p.m p.t p.s)
structure b_ (w:aA):Prop where
 l_:w.aj.length≤12
 set:∀s∈w.aj,cB s=true
 gs:lA w.aj w.ae
 rl:w.rounds.length=w.aj.length
 sl:w.aP.length=w.aj.length
 nl:w.aX.length≤16
 oU:∀m:Nat,m<w.aj.length→wh w.ae (w.aj.getD m []) m (w.rounds.getD m ⟨0,[],[]⟩)
 aX:∀p∈w.aX,tc w.aj w.ae p
theorem wh.upd {gs bX:List aF}{set nF:List Int}{m k:Int}{r:cl}(h:wh gs nF k r)(U:Fc gs bX set m)(hr:cm nF)(hs:k=m→nF=set):wh bX nF k r:=⟨h.ok,h.ms,h.st,fun s wF=>(h.aH s wF).upd U hr hs⟩
theorem tc.upd {ss:List (List Int)}{gs bX:List aF}{m:Int}{p:dE}(h:tc ss gs p)(jj:∀s∈ss,cB s=true)(U:Fc gs bX (ss.getD m.toNat []) m):tc ss bX p:=by
 refine⟨h.m0,h.m1,h.g,?_⟩;rcases h.k with h|⟨a,b,c⟩|⟨a,c⟩
 ·exact .inl h
 ·exact .inr (.inl ⟨a,b,c.upd U (b9 jj _) fun e=>by rw[e]⟩)
 ·exact .inr (.inr ⟨a,c.upd U (b9 jj _) fun e=>by rw[e]⟩)
theorem b_.upd {w:aA}(h:b_ w){bX:List aF}{m:Int}(hm:0≤m)(U:Fc w.ae bX (w.aj.getD m.toNat []) m)(K:lA w.aj bX):b_ ⟨w.aj,bX,w.rounds,w.aP,w.aX⟩:=
 {h with
  gs:=K
  oU:=fun k hk=>(h.oU k hk).upd U (b9 h.set _) fun e=>by rw[←e];simp
  aX:=fun p hp=>(h.aX p hp).upd h.set U}
theorem b_.post {w:aA}(h:b_ w){p:dE}(hp:tc w.aj w.ae p):b_ (dg w p):=by
 unfold dg;split
 ·refine {h with nl:=by simp;omega,aX:=fun x hx=>?_}
  rcases List.mem_append.1 hx with hx|hx
  ·exact h.aX x hx
  ·rw[List.mem_singleton]at hx;subst hx;exact hp
 ·exact h
theorem mG (w:aA)(p:dE):(dg w p).ae=w.ae:=by unfold dg;split<;>rfl
theorem b_.rV (f:Int→dE):∀(gs:List Int) (w:aA),b_ w→(∀g∈gs,tc w.aj w.ae (f g))→b_ (gs.foldl (fun w g=>dg w (f g)) w)
 |[],w,h,_=>h
 |g::gs,w,h,hp=>b_.rV f gs _ (h.post (hp g (List.mem_cons_self ..))) fun x hx=>by
  rw[um,mG];exact hp x (List.mem_cons_of_mem _ hx)
theorem b_.tell {w:aA}(h:b_ w){m:Int}(h0:0≤m)(h1:m<w.aj.length):b_ (jS w m):=by
 unfold jS;split
 ·rename_i hl
  have hr:=h.oU m.toNat (by omega)
  rw[show((m.toNat:Nat):Int)=m by omega]at hr
  have hF:=VQ h.gs h.set hr hl;exact b_.rV (fun g=>⟨3,m,g,(dx (bC w m)).1.1,(dx (bC w m)).1.2⟩) _ w h fun g hg=>⟨h0,h1,hg,.inr (.inr ⟨rfl,hF⟩)⟩
 ·exact h
theorem b_.ask {w:aA}(h:b_ w){m:Int}(h0:0≤m)(h1:m<w.aj.length){gs:List Int}(hg:∀g∈gs,g∈w.aj.getD m.toNat []):b_ (im w m gs):=
 b_.rV (fun g=>⟨1,m,g,0,0⟩) _ w h fun g dQ=>⟨h0,h1,hg g dQ,.inl ⟨rfl,rfl,rfl⟩⟩
theorem b_.erase {w:aA}(h:b_ w)(i:Nat):b_ ⟨w.aj,w.ae,w.rounds,w.aP,w.aX.eraseIdx i⟩:=
 {h with
  nl:=Nat.le_trans (List.length_eraseIdx_le ..) h.nl
  aX:=fun p hp=>h.aX p (List.mem_of_mem_eraseIdx hp)}
theorem VS {α:Type}{xs:List α}{i k:Nat}{x d:α}(hi:i<xs.length):(xs.set i x).getD k d=if k=i then x else xs.getD k d:=by
 simp only[List.getD_eq_getElem?_getD,List.getElem?_set];by_cases h:k=i
 ·subst h;simp[hi]
 ·rw[if_neg h,if_neg (fun e=>h e.symm)]
theorem b_.rW {w:aA}(h:b_ w){m:Int}(h0:0≤m)(h1:m<w.aj.length){r:cl}(hr:wh w.ae (w.aj.getD m.toNat []) m r):b_ ⟨w.aj,w.ae,w.rounds.set m.toNat r,w.aP,w.aX⟩:=
 {h with
  rl:=by simpa using h.rl
  oU:=fun k hk=>by
   show wh w.ae (w.aj.getD k []) k ((w.rounds.set m.toNat r).getD k ⟨0,[],[]⟩)
   rw[VS (by rw[h.rl];omega)]
   split
   ·rename_i e;subst e;rwa[show((m.toNat:Nat):Int)=m by omega]
   ·exact h.oU k hk
  aX:=h.aX}
theorem VT {r:cl}(h1:cB r.gs=true)(h2:bj r.m=true)(h3:∀s∈r.aH,bc s.1 s.2=true∧s.2∈r.gs)(h4:r.aH.Pairwise (fun a b=>a.2<b.2)):fe r=true:=by
 simp only[fe,Bool.and_eq_true,bZ];refine⟨⟨fun i hi=>?_,h2⟩,h1⟩
 have hm:=h3 _ (List.getElem_mem hi);rw[je,List.getElem?_eq_getElem hi];simp only[Bool.and_eq_true,Bool.or_eq_true,decide_eq_true_eq];refine⟨⟨hm.1,cY.2 hm.2⟩,?_⟩;rcases i with _|i
 ·exact .inl rfl
 ·right
  rw[Nat.add_sub_cancel,List.getElem?_eq_getElem (show i<r.aH.length by omega)]
  simp only[decide_eq_true_eq];exact List.pairwise_iff_getElem.1 h4 i (i+1) (by omega) hi (by omega)
theorem Gu (s t:Int):∀{aH:List (Int×Int)},aH.Pairwise (fun a b=>a.2<b.2)→(∀x∈aH,x.2≠s)→(aH.take (dy aH s)++[(t,s)]++aH.drop (dy aH s)).Pairwise fun a b=>a.2<b.2
 |[],_,_=>by simp[dy]
 |x::l,hp,hn=>by
  rw[List.pairwise_cons]at hp;by_cases hx:x.2<s
  ·have nD:dy (x::l) s=dy l s+1:=by
    unfold dy;rw[List.takeWhile_cons,if_pos (by simpa using hx),List.length_cons]
   rw[nD,List.take_succ_cons,List.drop_succ_cons];refine List.pairwise_cons.2 ⟨fun y hy=>?_,Gu s t hp.2 fun y hy=>hn y (by simp[hy])⟩
   rcases List.mem_append.1 hy with hy|hy
   ·rcases List.mem_append.1 hy with hy|hy
    ·exact hp.1 y (List.mem_of_mem_take hy)
    ·obtain rfl:=List.mem_singleton.1 hy
     exact hx
   ·exact hp.1 y (List.mem_of_mem_drop hy)
  ·have nD:dy (x::l) s=0:=by
    unfold dy;rw[List.takeWhile_cons,if_neg (by simpa using hx),List.length_nil]
   have ak:s<x.2:=by have:=hn x (by simp);omega
   rw[nD];refine List.pairwise_cons.2 ⟨fun y hy=>?_,List.pairwise_cons.2 hp⟩
   rcases List.mem_cons.1 hy with rfl|hy
   ·exact ak
   ·have:=hp.1 y hy
    show s<y.2
    omega
theorem Zv {gs:List aF}{set:List Int}{m t s:Int}{r:cl}(h:wh gs set m r)(hs:we gs set m t s):wh gs set m (gO r t s).1:=by
 unfold gO;split
 ·exact h
 ·rename_i hc
  obtain⟨h1,h2,h3,h4⟩:=pP h.ok;have cJ:∀x∈r.aH.take (dy r.aH s)++[(t,s)]++r.aH.drop (dy r.aH s),x=(t,s)∨x∈r.aH:=fun x hx=>by
   rcases List.mem_append.1 hx with hx|hx
   ·rcases List.mem_append.1 hx with hx|hx
    ·exact .inr (List.mem_of_mem_take hx)
    ·exact .inl (List.mem_singleton.1 hx)
   ·exact .inr (List.mem_of_mem_drop hx)
  refine⟨?_,h.ms,h.st,fun x hx=>?_⟩
  ·refine VT h1 h2 (fun x hx=>?_) ?_
   ·rcases cJ x hx with rfl|hx
    ·exact⟨hs.ok,by rw[h.st];exact hs.mem⟩
    ·exact h3 x hx
   ·refine Gu s t h4 fun x hx e=>hc (.inr ?_)
    rw[Gn s h4,List.any_eq_true];exact⟨x,hx,by simpa using e⟩
  ·rcases cJ x hx with rfl|hx
   ·exact hs
   ·exact h.aH x hx
theorem b_.hear {w:aA}(h:b_ w){p:dE}(hp:tc w.aj w.ae p):b_ (np w p):=by
 have hg:=hp.g;unfold np;split
 ·obtain⟨U,K,S⟩:=DS h.gs h.set h.l_ hp.m0 hp.m1 hg
  have hw:=h.upd hp.m0 U K;split
  ·rename_i ha
   obtain⟨s1,s2⟩:=S ha;exact hw.post ⟨hp.m0,hp.m1,hg,.inr (.inl ⟨rfl,s1,s2⟩)⟩
  ·exact hw
 ·rename_i Z8
  split
  ·rename_i QL
   rcases hp.k with⟨e, -⟩|⟨-,hsg,hS⟩|⟨e, -⟩
   ·exact absurd e Z8
   ·have hr:=h.oU p.m.toNat (by have:=hp.m1;have:=hp.m0;omega)
    rw[show((p.m.toNat:Nat):Int)=p.m by have:=hp.m0;omega]at hr
    split
    ·exact h
    ·have hw:=h.rW hp.m0 hp.m1 (Zv hr hS)
     split
     ·exact hw.tell hp.m0 hp.m1
     ·exact hw
   ·omega
  ·split
   ·rename_i hk3
    rcases hp.k with⟨e, -⟩|⟨e, -⟩|⟨-,hF⟩
    ·omega
    ·omega
    ·obtain⟨U,K⟩:=Gt h.gs h.set h.l_ hp.m0 hp.m1 hg hF
     exact h.upd hp.m0 U K
   ·exact h
theorem b_.Y4 {w:aA}(h:b_ w)(k a:Int):b_ (sW w k a):=by
 unfold sW;split
 ·exact h
 ·split
  ·exact h
  ·rename_i p hp
   have E7:=h.aX p (List.mem_of_getElem? hp);split
   ·exact h.post E7
   ·split
    ·exact(h.erase _).hear E7
    ·exact h.erase _
theorem b_.send {w:aA}(h:b_ w)(k:Int):b_ (kA w k):=by
 unfold kA;split
 ·rename_i hk
  obtain⟨h1,h2,h3⟩:=hk;obtain⟨b1,b2⟩:=yv h1 h2;have old:∀m:Nat,m<w.aj.length→(w.aj++[cQ k]).getD m []=w.aj.getD m []:=fun m hm=>by
   rw[List.getD_eq_getElem?_getD,List.getD_eq_getElem?_getD,List.getElem?_append_left hm]
  have pC:(w.aj++[cQ k]).getD w.aj.length []=cQ k:=by simp[List.getD_eq_getElem?_getD]
  have hw:b_ ⟨w.aj++[cQ k],w.ae,w.rounds++[⟨w.aj.length,cQ k,[]⟩],w.aP++[false],w.aX⟩:=by
   refine⟨by simp;omega,fun s hs=>?_,⟨h.gs.g5,h.gs.dS,fun i m e hi he=>?_⟩,by simp[h.rl],by simp[h.sl],h.nl,fun m hm=>?_,fun p hp=>?_⟩
   ·rcases List.mem_append.1 hs with hs|hs
    ·exact h.set s hs
    ·rw[List.mem_singleton]at hs;subst hs;exact b1
   ·obtain⟨a,b,c,d⟩:=h.gs.lJ i m e hi he
    show 0≤m∧m<((w.aj++[cQ k]).length:Int)∧(i:Int)∈(w.aj++[cQ k]).getD m.toNat []∧(e.f=true→gT w.ae ((w.aj++[cQ k]).getD m.toNat []) m e.t e.g)
    rw[old m.toNat (by omega)]
    exact⟨a,by simp;omega,c,d⟩
   ·show wh w.ae ((w.aj++[cQ k]).getD m []) m ((w.rounds++[(⟨w.aj.length,cQ k,[]⟩:cl)]).getD m ⟨0,[],[]⟩)
    by_cases hl:m<w.aj.length
    ·rw[old m hl,show(w.rounds++[(⟨w.aj.length,cQ k,[]⟩:cl)]).getD m ⟨0,[],[]⟩=w.rounds.getD m ⟨0,[],[]⟩ by
      rw[List.getD_eq_getElem?_getD,List.getD_eq_getElem?_getD,List.getElem?_append_left (by rw[h.rl];exact hl)]]
     exact h.oU m hl
    ·obtain rfl:m=w.aj.length:=by simp at hm;omega
     rw[pC,show(w.rounds++[(⟨w.aj.length,cQ k,[]⟩:cl)]).getD w.aj.length ⟨0,[],[]⟩=⟨w.aj.length,cQ k,[]⟩ by simp[List.getD_eq_getElem?_getD,←h.rl]]
     refine⟨?_,rfl,rfl,fun s hs=>by cases hs⟩
     simp only[fe,Bool.and_eq_true];exact⟨⟨dD fun i hi=>by simp at hi,by simp only[bj,decide_eq_true_eq];omega⟩,b1⟩
   ·have hv:=h.aX p hp
    show tc (w.aj++[cQ k]) w.ae p
    have e:=old p.m.toNat (by have:=hv.m0;have:=hv.m1;omega)
    exact⟨hv.m0,by have:=hv.m1;simp;omega,by rw[e];exact hv.g,by rw[e];exact hv.k⟩
  refine hw.ask (m:=w.aj.length) (by omega) (by simp;omega) fun g hg=>?_
  rw[show((w.aj.length:Nat):Int).toNat=w.aj.length by omega]
  show g∈(w.aj++[cQ k]).getD w.aj.length []
  rw[pC];exact hg
 ·exact h
theorem b_.props {m:Int}(h0:0≤m):∀{set:List Int} {w:aA},b_ w→m<w.aj.length→(∀g∈set,g∈w.aj.getD m.toNat [])→b_ ⟨w.aj,aN w.ae m set,w.rounds,w.aP,w.aX⟩
 |[],w,h,_,_=>h
 |g::set,w,h,h1,hg=>by
  obtain⟨U,K, -⟩:=DS h.gs h.set h.l_ h0 h1 (hg g (List.mem_cons_self ..));exact b_.props h0 (set:=set) (h.upd h0 U K) h1 fun x hx=>hg x (List.mem_cons_of_mem _ hx)
theorem b_.abS {m:Int}{s:Int×Int}(h0:0≤m):∀{set:List Int} {w:aA},b_ w→m<w.aj.length→gT w.ae (w.aj.getD m.toNat []) m s.1 s.2→(∀g∈set,g∈w.aj.getD m.toNat [])→b_ ⟨w.aj,bK w.ae m s set,w.rounds,w.aP,w.aX⟩
 |[],w,h,_,_,_=>h
 |g::set,w,h,h1,hF,hg=>by
  obtain⟨U,K⟩:=Gt h.gs h.set h.l_ h0 h1 (hg g (List.mem_cons_self ..)) hF;exact b_.abS h0 (set:=set) (h.upd h0 U K) h1 (hF.upd U (b9 h.set _) fun _=>rfl) fun x hx=>hg x (List.mem_cons_of_mem _ hx)
theorem sG {gs:List aF}{m:Int}{l:List (Int×Int)}:∀{set:List Int} {acc:List (Int×Int)},iX gs m set acc= .inr l→l.length=acc.length+(set.filter fun g=>cc (gAt gs g.toNat) m).length
 |[],acc,h=>by cases h;simp
 |g::set,acc,h=>by
  rw[iX]at h;split at h
  ·cases h
  ·have:=sG h
   rw[this]
   cases hs:cc (gAt gs g.toNat) m
   ·simp[hs]
   ·simp[hs];omega
theorem xr {ss:List (List Int)}{gs:List aF}(h:lA ss gs)(jj:∀s∈ss,cB s=true){m:Int}(cf:ss.getD m.toNat []≠[])(hs:(aS gs (ss.getD m.toNat []) m).2=true):gT gs (ss.getD m.toNat []) m (aS gs (ss.getD m.toNat []) m).1.1 (aS gs (ss.getD m.toNat []) m).1.2:=by
 have hr:=b9 jj m.toNat;have hv:∀g∈gs,bB g=true:=fun g hg=>by
  obtain⟨i,hi,rfl⟩:=List.getElem_of_mem hg;have:=(h.dS i (by rw[←h.g5];exact hi)).1
  rwa[gAt,List.getD_eq_getElem?_getD,List.getElem?_eq_getElem hi]at this
 generalize bT:ss.getD m.toNat []=set at*;unfold aS at hs⊢;split at hs
 ·rename_i s' he
  obtain⟨a,ha,a1,a2,rfl⟩:=su he;obtain⟨e,Bp⟩:=Option.isSome_iff_exists.1 a1;have hD:aV (gAt gs a.toNat) m=e:=by rw[aV,Bp];rfl
  rw[hD]at a2⊢;obtain⟨a0,a3⟩:=hr a ha;obtain⟨-, -, -,hF⟩:=h.lJ a.toNat m e (by omega) Bp
  have:=hF a2
  rwa[bT]at this
 ·rename_i l he
  split at hs
  ·cases hs
  ·rename_i hlen
   rw[if_neg hlen];have Gv:=sG he;have dW:∀g∈set,cc (gAt gs g.toNat) m=true:=by
    have h1:=List.length_filter_le (fun g=>cc (gAt gs g.toNat) m) set
    simp only[List.length_nil,Nat.zero_add]at Gv;exact List.length_filter_eq_length_iff.1 (by omega)
   obtain⟨-,k2,k3, -⟩:=aeT he;have oG:∀g∈set,(aV (gAt gs g.toNat) m).g=g:=fun g hg=>by
    obtain⟨e,Bp⟩:=Option.isSome_iff_exists.1 (dW g hg);have hD:aV (gAt gs g.toNat) m=e:=by rw[aV,Bp];rfl
    have hf:=(k2 g hg (dW g hg)).1;rw[hD]at hf⊢;obtain⟨g0,g1⟩:=hr g hg;have:=(vd (h.dS g.toNat (by omega)).1 Bp).2.2 hf
    rw[this,(h.dS g.toNat (by omega)).2];omega
   rcases l with _|⟨x,xs⟩
   ·exact absurd (List.length_pos_iff.2 cf) (by simpa using hlen)
   ·obtain⟨m1,m2,m3⟩:=yD x xs
    have cH:eF x xs∈x::xs:=by
     rcases m3 with h|h
     ·rw[h];exact List.mem_cons_self ..
     ·exact List.mem_cons_of_mem _ h
    rcases k3 _ cH with h'|⟨g,hg,dQ,e⟩
    ·cases h'
    ·have hle:∀y∈x::xs,aO (eF x xs).1 (eF x xs).2 y.1 y.2=false:=fun y hy=>by
      rcases List.mem_cons.1 hy with rfl|hy
      ·exact m1
      ·exact m2 y hy
     simp only[lu];rw[e]at hle⊢;have ho:=oG g hg;obtain⟨g0,g1⟩:=hr g hg;have dP:=aeS (h.dS g.toNat (by omega)).1 dQ
     simp only at hle⊢
     refine⟨dP,by rw[ho];exact hg,dW,fun g' bu hf=>?_,fun g' bu=>hle _ (k2 g' bu (dW g' bu)).2,?_⟩
     ·rw[(k2 g' bu (dW g' bu)).1]at hf;cases hf
     ·rw[ho];exact⟨rfl,ho⟩
theorem b_.recover {w:aA}(h:b_ w){a:Int}(h0:0≤a)(h1:a<w.aj.length)(hs:(eH w.ae (setAt w a) a).2=true):b_ ⟨w.aj,(eH w.ae (setAt w a) a).1,w.rounds,w.aP,w.aX⟩:=by
 have bT:setAt w a=w.aj.getD a.toNat []:=rfl
 have cf:w.aj.getD a.toNat []≠[]:=by
  rw[List.getD_eq_getElem?_getD,List.getElem?_eq_getElem (by omega)]
  exact(eY (h.set _ (List.getElem_mem _))).1
 have hP:=h.props h0 (set:=w.aj.getD a.toNat []) h1 fun g hg=>hg
 unfold eH at hs⊢;rw[bT]at hs⊢;split at hs
 ·rename_i aZ
  rw[if_pos aZ];have hF:=xr hP.gs hP.set cf aZ;exact hP.abS h0 (set:=w.aj.getD a.toNat []) h1 hF fun g hg=>hg
 ·cases hs
theorem N9 {r:cl}{g:Int}(h:g∈dk r):g∈r.gs:=by
 unfold dk at h;split at h
 ·exact(List.mem_filter.1 h).1
 ·cases h
theorem b_.IS {w:aA}(h:b_ w)(k a:Int):b_ (fM w k a):=by
 unfold fM;split
 ·exact h
 ·rename_i ha
  have eM:0≤a:=by omega
  have eI:a<w.aj.length:=by omega
  split
  ·exact {h with sl:=by simpa using h.sl,aX:=h.aX,oU:=h.oU}
  ·split
   ·split
    ·exact h
    ·have hr:=h.oU a.toNat (by omega)
     have hA:b_ (im w a (dk (bC w a))):=h.ask eM eI fun g hg=>by
      have:=N9 hg
      rw[show(bC w a).gs=w.aj.getD a.toNat []from hr.st]at this
      exact this
     refine hA.tell eM ?_;unfold im;rw[mY];exact eI
   ·split
    ·split
     ·rename_i hs;exact h.recover eM eI hs
     ·exact h
    ·exact h
theorem b_.event {w:aA}(h:b_ w)(k a:Int):b_ (h_ w k a):=by
 unfold h_;split
 ·exact h.send a
 ·split
  ·exact h.Y4 k a
  ·exact h.IS k a
end Go.Proofs.YtabjbdnokpjipaaGreat.T
namespace Go.Proofs.YtabjbdnokpjipaaGreat.T
open Go Go.RowKit
theorem N_ {es:List aB}(h:es.Pairwise (fun a b=>bg a b=true)){e d:aB}(he:e∈es)(hd:d∈es):e=d∨bg e d=true∨bg d e=true:=by
 obtain⟨i,hi,rfl⟩:=List.getElem_of_mem he;obtain⟨j,hj,rfl⟩:=List.getElem_of_mem hd;rw[List.pairwise_iff_getElem]at h;rcases Nat.lt_trichotomy i j with jf|jf|jf
 ·exact .inr (.inl (h i j hi hj jf))
 ·subst jf;exact .inl rfl
 ·exact .inr (.inr (h j i hj hi jf))
theorem DT {g:aF}(h:bB g=true){m k:Int}{e d:aB}(he:aU g m=some e)(hd:aU g k=some d)(ht:e.t=d.t)(hg:e.g=d.g):m=k:=by
 have K:=cv.1 h;rw[c7,fg K.nq]at he hd;obtain⟨e1,e2⟩:=he;obtain⟨d1,d2⟩:=hd;have no:∀{x y:aB},bg x y=true→x.t=y.t→x.g=y.g→False:=fun h a b=>by
  simp only[bg,aO,decide_eq_true_eq]at h;omega
 have:e=d:=by
  rcases List.mem_append.1 e1 with a|a<;>rcases List.mem_append.1 d1 with b|b
  ·rcases N_ K.pl.ord a b with h|h|h
   ·exact h
   ·exact(no h ht hg).elim
   ·exact(no h ht.symm hg.symm).elim
  ·exact(no (K.less b a) ht.symm hg.symm).elim
  ·exact(no (K.less a b) ht hg).elim
  ·rcases N_ K.dl.ord a b with h|h|h
   ·exact h
   ·exact(no h ht hg).elim
   ·exact(no h ht.symm hg.symm).elim
 rw[←e2,←d2,this]
theorem yL {ss:List (List Int)}{gs:List aF}(h:lA ss gs)(jj:∀s∈ss,cB s=true){i j:Nat}(hi:i<5)(hj:j<5){a b:Int}{x y:aB}(hx:aU (gAt gs i) a=some x)(hy:aU (gAt gs j) b=some y)(fx:x.f=true)(fy:y.f=true):(x.t=y.t∧x.g=y.g)↔a=b:=by
 obtain⟨-, -, -,F⟩:=h.lJ i a x hi hx;obtain⟨-, -, -,H⟩:=h.lJ j b y hj hy;have F:=F fx;have H:=H fy;constructor
 ·rintro⟨e1,e2⟩
  obtain⟨q0,q1⟩:=b9 jj _ x.g F.mem;obtain⟨u,hu⟩:=Option.isSome_iff_exists.1 (F.kn x.g F.mem);obtain⟨v,hv⟩:=Option.isSome_iff_exists.1 (H.kn y.g H.mem);have hu1:=F.own;have nH:=H.own;rw[aV,hu]at hu1;rw[aV,hv]at nH;rw[←e2]at hv nH;exact DT (h.dS x.g.toNat (by omega)).1 hu hv (by have:=hu1.1;have:=nH.1;simp only[Option.getD_some]at*;omega) (by have:=hu1.2;have:=nH.2;simp only[Option.getD_some]at*;omega)
 ·rintro rfl
  exact F.uniq H
theorem jJ {g:aF}(h:bB g=true){e:aB}(he:e∈g.done):aU g e.m=some e∧e.f=true:=by
 have K:=cv.1 h;exact⟨by rw[c7,fg K.nq];exact⟨by simp[he],rfl⟩,K.df e he⟩
abbrev cr (g:aF):List Int:=g.done.map aB.m
theorem uF {g:aF}{m:Int}:m∈cr g↔∃e∈g.done,e.m=m:=List.mem_map
theorem xu {g:aF}(h:bB g=true){i j:Nat}(jf:i<j){e d:aB}(he:g.done[i]?=some e)(hd:g.done[j]?=some d):bg e d=true:=by
 obtain⟨hi,rfl⟩:=List.getElem?_eq_some_iff.1 he;obtain⟨hj,rfl⟩:=List.getElem?_eq_some_iff.1 hd;exact List.pairwise_iff_getElem.1 (cv.1 h).dl.ord i j hi hj jf
theorem Zw {ss:List (List Int)}{gs:List aF}(h:lA ss gs)(jj:∀s∈ss,cB s=true){i k:Nat}(hi:i<5)(hk:k<5){a b:Nat}(eT:a<b){x y:aB}(hx:(gAt gs i).done[a]?=some x)(hy:(gAt gs i).done[b]?=some y)
  (hs:(k:Int)∈ss.getD x.m.toNat []) (hyk:y.m∈cr (gAt gs k)):x.m∈cr (gAt gs k):=by
 have hl:=xu (h.dS i hi).1 eT hx hy;obtain⟨x1,x2⟩:=jJ (h.dS i hi).1 (List.mem_of_getElem? hx);obtain⟨y1,y2⟩:=jJ (h.dS i hi).1 (List.mem_of_getElem? hy);obtain⟨z,hz,hzm⟩:=uF.1 hyk;obtain⟨z1,z2⟩:=jJ (h.dS k hk).1 hz;rw[hzm]at z1;obtain⟨e1,e2⟩:=(yL h jj hi hk y1 z1 y2 z2).2 rfl;obtain⟨-, -, -,F⟩:=h.lJ i x.m x hi x1;have F:=F x2;obtain⟨u,hu⟩:=Option.isSome_iff_exists.1 (F.kn k hs);have hle:=F.le k hs;rw[show((k:Nat):Int).toNat=k by omega]at hu
 rw[aV,show((k:Nat):Int).toNat=k by omega,hu]at hle
 simp only[Option.getD_some]at hle;have K:=cv.1 (h.dS k hk).1;have tC:=hu;rw[c7,fg K.nq]at tC;obtain⟨u1,u2⟩:=tC;rcases List.mem_append.1 u1 with u1|u1
 ·have hzu:=K.less hz u1
  exfalso
  simp only[bg,aO,decide_eq_true_eq,decide_eq_false_iff_not]at hl hle hzu;omega
 ·exact uF.2 ⟨u,u1,u2⟩
def oZ (a b:Int):List Int→Bool
 |[]=>false
 |x::l=>if x=a then cb l b else oZ a b l
theorem Sk {a b:Int}:∀{l:List Int},oZ a b l=true→∃i j:Nat,i<j∧l[i]?=some a∧l[j]?=some b
 |[],h=>by cases h
 |x::l,h=>by
  unfold oZ at h;split at h
  ·rename_i e
   rw[cY]at h;obtain⟨j,hj⟩:=List.getElem?_of_mem h;exact⟨0,j+1,by omega,by simp[e],by simpa using hj⟩
  ·obtain⟨i,j,h1,h2,h3⟩:=Sk h
   exact⟨i+1,j+1,by omega,by simpa using h2,by simpa using h3⟩
theorem VU {ss:List (List Int)}{gs:List aF}(h:lA ss gs)(jj:∀s∈ss,cB s=true){i k:Nat}(hi:i<5)(hk:k<5){a b:Nat}(eT:b<a){x y:Int}(hx:(cr (gAt gs i))[a]?=some x)(hy:(cr (gAt gs i))[b]?=some y):oZ x y (cr (gAt gs k))=false:=by
 cases hb:oZ x y (cr (gAt gs k))
 ·rfl
 ·exfalso
  obtain⟨p,q,Sz,hp,hq⟩:=Sk hb;rw[List.getElem?_map,Option.map_eq_some_iff]at hx hy hp hq;obtain⟨ex,hx,rfl⟩:=hx;obtain⟨ey,hy,rfl⟩:=hy;obtain⟨fx,hp,E7⟩:=hp;obtain⟨fy,hq,hqm⟩:=hq;have l1:=xu (h.dS i hi).1 eT hy hx;have l2:=xu (h.dS k hk).1 Sz hp hq;obtain⟨x1,x2⟩:=jJ (h.dS i hi).1 (List.mem_of_getElem? hx);obtain⟨y1,y2⟩:=jJ (h.dS i hi).1 (List.mem_of_getElem? hy);obtain⟨p1,p2⟩:=jJ (h.dS k hk).1 (List.mem_of_getElem? hp);obtain⟨q1,q2⟩:=jJ (h.dS k hk).1 (List.mem_of_getElem? hq);rw[E7]at p1;rw[hqm]at q1;obtain⟨a1,a2⟩:=(yL h jj hi hk x1 p1 x2 p2).2 rfl;obtain⟨b1,b2⟩:=(yL h jj hi hk y1 q1 y2 q2).2 rfl;simp only[bg,aO,decide_eq_true_eq]at l1 l2;omega
def iQ (gs:List aF)(n:Int):Prop:=∀i:Nat,i<5→(gAt gs i).clock≤n
theorem AS (g:aF)(m n:Int)(h:g.clock≤n):(aD g m).1.clock≤n+1:=by
 unfold aD;split
 ·split<;>(simp only;omega)
 ·split
  ·simp only;omega
  ·split<;>(simp only;omega)
theorem Gw (g:aF)(m t s n:Int)(h:g.clock≤n)(ht:t≤n):(bn g m t s).1.clock≤n:=by
 rcases ly g m t s with e|⟨j,e, -, -, -, -, -, -,eq⟩
 ·rw[e];exact h
 ·rw[eq];simp only;split<;>omega
theorem N' {g:aF}{m:Int}(h:g.clock<999):cc (aD g m).1 m=true:=by
 cases hs:cc g m
 ·obtain⟨h1,h2⟩:=qK.1 hs
  rcases qL hs with e|⟨-,e⟩
  ·exfalso
   unfold aD at e;rw[h1,h2]at e;simp only at e
   rw[if_neg (by omega)]at e
   have:=congrArg aF.clock e
   simp at this
   omega
  ·rw[cc,e];rfl
 ·rw[kD hs];exact hs
theorem I5 {ss:List (List Int)}{gs:List aF}(h:lA ss gs)(jj:∀s∈ss,cB s=true)(h12:ss.length≤12){m g t s:Int}(h0:0≤m)(h1:m<ss.length)(hg:g∈ss.getD m.toNat [])(hF:gT gs (ss.getD m.toNat []) m t s):
  aU (bn (gAt gs g.toNat) m t s).1 m=some ⟨m,t,s,true⟩∨(bn (gAt gs g.toNat) m t s).1=gAt gs g.toNat∧(aV (gAt gs g.toNat) m).f=true:=by
 obtain⟨g0,g1⟩:=b9 jj _ g hg;have hm:bj m=true:=by simp only[bj,decide_eq_true_eq];omega
 have hv:=(h.dS g.toNat (by omega)).1
 have K:=cv.1 hv;rcases yK (t:=t) (s:=s) hv hm hF.ok with e|e
 ·right
  refine⟨by rw[e],?_⟩
  cases hf:(aV (gAt gs g.toNat) m).f
  ·exfalso
   obtain⟨x,hx⟩:=Option.isSome_iff_exists.1 (hF.kn g hg);have hD:aV (gAt gs g.toNat) m=x:=by rw[aV,hx];rfl
   rw[hD]at hf;have hle:=hF.le g hg;rw[hD]at hle;have hxm:x∈(gAt gs g.toNat).pend:=by
    have:=hx
    rw[c7,fg K.nq]at this;rcases List.mem_append.1 this.1 with h|h
    ·exact h
    ·have:=K.df x h;rw[hf]at this;cases this
   rcases ee (gAt gs g.toNat).pend m with⟨-,hn⟩|⟨j,y,hp,hy,zq,hym⟩
   ·have:=xh hn x hxm
    exact this (vd hv hx).1
   ·have hyx:y=x:=by
     have:aU (gAt gs g.toNat) m=some y:=by unfold aU;rw[zq]
     rw[hx]at this;exact(Option.some.inj this).symm
    subst hyx;have Dv:(dN (gAt gs g.toNat).pend m).toNat=j:=by omega
    unfold bn at e;rw[Dv,hy]at e;simp only at e
    rw[if_neg (by rw[hf,hle];simp;omega)]at e
    cases hs:jR ((gAt gs g.toNat).pend.eraseIdx j) (eX ((gAt gs g.toNat).pend.eraseIdx j) t s) t s
    ·rw[hs,if_neg (by simp)]at e
     have:=congrArg (fun r:aF×List Int×Bool=>r.2.2) e
     simp at this
    ·have tX:=K.pl.ord.sublist (List.eraseIdx_sublist (gAt gs g.toNat).pend j)
     obtain⟨z,hz,z1,z2⟩:=(u5 t s tX).1 hs;obtain⟨i0,jf,hzi⟩:=xg.1 hz;have hzm:z∈(gAt gs g.toNat).pend:=List.mem_of_getElem? hzi
     have Zx:aU (gAt gs g.toNat) z.m=some z:=by rw[c7,fg K.nq];exact⟨by simp[hzm],rfl⟩
     have adQ:z.m≠m:=fun e'=>by
      rw[e',hx]at Zx
      cases Zx;obtain⟨Bm,e1⟩:=List.getElem?_eq_some_iff.1 hzi;obtain⟨NC,e2⟩:=List.getElem?_eq_some_iff.1 hy;have hd:=List.pairwise_iff_getElem.1 K.pl.nq;rcases Nat.lt_or_gt_of_ne jf with ak|ak
      ·exact hd i0 j Bm NC ak (by rw[e1,e2])
      ·exact hd j i0 NC Bm ak (by rw[e1,e2])
     have own:∃q:Int,0≤q∧q<5∧∃w,aU (gAt gs q.toNat) z.m=some w∧w.t=t∧w.g=s∧q=s:=by
      cases hzf:z.f
      ·have:=(vd hv Zx).2.2 hzf
       rw[(h.dS g.toNat (by omega)).2]at this
       exact⟨g,g0,g1,z,Zx,z1,z2,by omega⟩
      ·obtain⟨-, -, -,F⟩:=h.lJ g.toNat z.m z (by omega) Zx
       have F:=F hzf;rw[z1,z2]at F;obtain⟨q0,q1⟩:=b9 jj _ s F.mem;obtain⟨w,hw⟩:=Option.isSome_iff_exists.1 (F.kn s F.mem);have:=F.own
       rw[aV,hw]at this;exact⟨s,q0,q1,w,hw,this.1,this.2,rfl⟩
     obtain⟨q,q0,q1,w,hw,w1,w2,rfl⟩:=own;obtain⟨v,g_⟩:=Option.isSome_iff_exists.1 (hF.kn q hF.mem);have nH:=hF.own;rw[aV,g_]at nH;simp only[Option.getD_some]at nH;exact adQ (DT (h.dS q.toNat (by omega)).1 hw g_ (by rw[w1,nH.1]) (by rw[w2,nH.2]))
  ·rfl
 ·exact .inl e
end Go.Proofs.YtabjbdnokpjipaaGreat.T
