/-
What is proved: the checks of a group as propositions and what rests on it. Conditions: as stated.
-/
import Derived.Test.YtlhohdjniaebbaaGreatRy37
import Derived.Test.YtlhohdjniaebbaaGreatRy35
import Derived.Test.YtlhohdjniaebbaaGreatRy36
import Derived.BigQuiet
import Derived.Deep.RegionLaw
set_option linter.unusedVariables false
set_option linter.unusedSimpArgs false
namespace Go.Proofs.YtlhohdjniaebbaaGreat.T
open Go Go.RowKit
structure EOk (id clock:Int) (e:aK):Prop where
 ms:br e.m=true
 st:aP e.t e.g=true
 ck:e.t≤clock
 ow:e.f=true∨e.g=id
structure M0 (id clock:Int) (es:List aK):Prop where
 ord:es.Pairwise (fun a b=>dF a b=true)
 uX:es.Pairwise (fun a b=>a.m≠b.m)
 kC:∀e∈es,EOk id clock e
theorem Rx {id clock:Int}{es:List aK}:ie id clock es=true↔M0 id clock es:=by
 constructor
 ·intro h
  obtain⟨p,q⟩:=JC h;obtain⟨a,d⟩:=tk.1 h;rw[nZ]at d;refine⟨p,List.pairwise_iff_getElem.2 fun i j hi hj pR=>d j i _ _ pR (List.getElem?_eq_getElem hj) (List.getElem?_eq_getElem hi),fun e he=>?_⟩
  obtain⟨q1,q2,q3⟩:=q e he;refine⟨?_,q2,q1,q3⟩;obtain⟨i,hi,rfl⟩:=List.getElem_of_mem he;rw[jK,bd]at a;have:=a i hi
  rw[nY,List.getElem?_eq_getElem hi]at this;simp only[Bool.and_eq_true]at this;exact this.1.1.1.1
 ·rintro⟨p,d,e⟩
  refine tk.2 ⟨?_,?_⟩
  ·rw[jK,bd]
   intro i hi;obtain⟨e1,e2,e3,e4⟩:=e _ (List.getElem_mem hi);rw[nY,List.getElem?_eq_getElem hi];simp only[Bool.and_eq_true,Bool.or_eq_true,decide_eq_true_eq];refine⟨⟨⟨⟨e1,e2⟩,e3⟩,e4⟩,?_⟩;rcases i with _|i
   ·exact .inl rfl
   ·right
    rw[Nat.add_sub_cancel,List.getElem?_eq_getElem (show i<es.length by omega)]
    exact List.pairwise_iff_getElem.1 p i (i+1) (by omega) hi (by omega)
  ·rw[nZ]
   intro i j a b Bp ha hb;obtain⟨hi,rfl⟩:=List.getElem?_eq_some_iff.1 ha;obtain⟨hj,rfl⟩:=List.getElem?_eq_some_iff.1 hb;exact List.pairwise_iff_getElem.1 d j i hj hi Bp
structure Vp (g:aH):Prop where
 id:cd g.id=true
 ck:0≤g.clock∧g.clock≤999
 pl:M0 g.id g.clock g.pend
 dl:M0 g.id g.clock g.done
 df:∀e∈g.done,e.f=true
 dp:∀e∈g.done,∀p∈g.pend,p.m≠e.m
 hd:∀p l,g.pend=p::l→p.f=false∧∀d∈g.done,dF d p=true
theorem Vq {g:aH}:bR g.done.length (jx g)=true↔∀e∈g.done,e.f=true∧∀p∈g.pend,p.m≠e.m:=by
 rw[bd];constructor
 ·intro h e he
  obtain⟨i,hi,rfl⟩:=List.getElem_of_mem he;have:=h i hi
  rw[jx,List.getElem?_eq_getElem hi]at this;simp only[Bool.and_eq_true,decide_eq_true_eq]at this;exact⟨this.1,(me _ _).1 this.2⟩
 ·intro h i hi
  have:=h _ (List.getElem_mem hi)
  rw[jx,List.getElem?_eq_getElem hi];simp only[Bool.and_eq_true,decide_eq_true_eq];exact⟨this.1,(me _ _).2 this.2⟩
theorem JD {g:aH}(h:g.done.Pairwise (fun a b=>dF a b=true)):jy g=true↔∀p l,g.pend=p::l→p.f=false∧∀d∈g.done,dF d p=true:=by
 unfold jy;rcases hp:g.pend with _|⟨p,l⟩
 ·simp
 ·simp only[Bool.and_eq_true,Bool.not_eq_true',List.cons.injEq,and_imp]
  constructor
  ·rintro⟨h1,h2⟩ _ _ rfl rfl
   refine⟨h1,fun d hd=>?_⟩
   cases hl:g.done.getLast? with
   |none=>rw[List.getLast?_eq_none_iff]at hl;rw[hl]at hd;cases hd
   |some x=>
    rw[hl]at h2;obtain⟨ys,e⟩:=List.getLast?_eq_some_iff.1 hl;rw[e]at h hd;rcases List.mem_append.1 hd with hd|hd
    ·exact qU ((List.pairwise_append.1 h).2.2 d hd x (by simp)) h2
    ·obtain rfl:=List.mem_singleton.1 hd
     exact h2
  ·intro k
   obtain⟨k1,k2⟩:=k p l rfl rfl;refine⟨k1,?_⟩;split
   ·rename_i x hl
    obtain⟨ys,e⟩:=List.getLast?_eq_some_iff.1 hl;exact k2 x (by rw[e];simp)
   ·rfl
theorem dy {g:aH}:bm g=true↔Vp g:=by
 unfold bm;simp only[Bool.and_eq_true,decide_eq_true_eq,Rx,Vq];constructor
 ·rintro⟨⟨⟨⟨⟨a,b⟩,c⟩,d⟩,e⟩,f⟩
  exact⟨a,b,c,d,fun x hx=>(e x hx).1,fun x hx=>(e x hx).2,(JD d.ord).1 f⟩
 ·rintro⟨a,b,c,d,e,f,k⟩
  exact⟨⟨⟨⟨⟨a,b⟩,c⟩,d⟩,fun x hx=>⟨e x hx,f x hx⟩⟩,(JD d.ord).2 k⟩
theorem M0.mono {id c c':Int}{es:List aK}(h:M0 id c es)(hc:c≤c'):M0 id c' es:=⟨h.ord,h.uX,fun e he=>by have:=h.kC e he;exact⟨this.ms,this.st,by have:=this.ck;omega,this.ow⟩⟩
theorem Vp.less {g:aH}(h:Vp g){d p:aK}(hd:d∈g.done)(hp:p∈g.pend):dF d p=true:=by
 rcases hq:g.pend with _|⟨x,l⟩
 ·rw[hq]at hp;cases hp
 ·have h1:=(h.hd x l hq).2 d hd
  rw[hq]at hp;rcases List.mem_cons.1 hp with rfl|hp
  ·exact h1
  ·have:=h.pl.ord
   rw[hq]at this;exact qU h1 ((List.pairwise_cons.1 this).1 p hp)
theorem Ah {es:List aK}{m:Int}(h:es.find? (fun e=>decide (e.m=m))=none):∀e∈es,e.m≠m:=fun e he=>by
 simpa using List.find?_eq_none.1 h e he
theorem JE {g:aH}{m:Int}(h:bm g=true)(hm:br m=true):bm (aV g m).1=true:=by
 unfold aV;split
 ·split<;>exact h
 ·rename_i hp
  split
  ·exact h
  ·rename_i hd
   split
   ·exact h
   ·rename_i hc
    have hp:=Ah hp;have hd:=Ah hd;have k:=dy.1 h;have hid:=k.id;have hck:=k.ck;refine dy.2 ⟨k.id,⟨by simp only;omega,by simp only;omega⟩,⟨?_,?_,?_⟩,k.dl.mono (by simp only;omega),k.df,fun e he p Vr=>?_,fun p l e=>?_⟩
    ·refine List.pairwise_append.2 ⟨k.pl.ord,List.pairwise_singleton ..,fun a ha b hb=>?_⟩
     obtain rfl:=List.mem_singleton.1 hb
     have:=(k.pl.kC a ha).ck
     simp only[dF,aS,decide_eq_true_eq];omega
    ·refine List.pairwise_append.2 ⟨k.pl.uX,List.pairwise_singleton ..,fun a ha b hb=>?_⟩
     obtain rfl:=List.mem_singleton.1 hb
     exact hp a ha
    ·intro e he
     rcases List.mem_append.1 he with he|he
     ·have:=k.pl.kC e he
      exact⟨this.ms,this.st,by have:=this.ck;simp only;omega,this.ow⟩
     ·obtain rfl:=List.mem_singleton.1 he
      refine⟨hm,?_,by simp only;omega,.inr rfl⟩
      simp only[aP,Bool.and_eq_true,decide_eq_true_eq];exact⟨by omega,hid⟩
    ·rcases List.mem_append.1 Vr with Vr|Vr
     ·exact k.dp e he p Vr
     ·obtain rfl:=List.mem_singleton.1 Vr
      exact fun e'=>hd e he e'.symm
    ·simp only at e
     rcases hq:g.pend with _|⟨x,q⟩
     ·rw[hq]at e
      cases e;refine⟨rfl,fun d xA=>?_⟩
      have:=(k.dl.kC d xA).ck
      simp only[dF,aS,decide_eq_true_eq];omega
     ·rw[hq]at e
      cases e;exact k.hd _ _ hq
theorem v_:∀(es d:List aK) (told:List Int),∃pre,es=pre++(jz es d told).1∧(jz es d told).2.1=d++pre∧(jz es d told).2.2=told++pre.map aK.m∧(∀e∈pre,e.f=true)∧∀p l,(jz es d told).1=p::l→p.f=false
 |[],d,told=>⟨[],rfl,by simp[jz],by simp[jz],fun e h=>(by cases h),fun p l h=>(by cases h)⟩
 |e::es,d,told=>by
  unfold jz;split
  ·rename_i hf
   obtain⟨pre,h1,h2,h3,h4,h5⟩:=v_ es (d++[e]) (told++[e.m]);refine⟨e::pre,by rw[List.cons_append,←h1],by rw[h2];simp,by rw[h3];simp,fun x hx=>?_,h5⟩
   rcases List.mem_cons.1 hx with rfl|hx
   ·exact hf
   ·exact h4 x hx
  ·rename_i hf
   refine⟨[],rfl,by simp,by simp,fun e h=>(by cases h),fun p l h=>?_⟩
   cases h;simpa using hf
theorem Ai (es:List aK)(m t s:Int):(l_ es m t s).Perm (⟨m,t,s,true⟩::es):=by
 unfold l_;rw[List.append_assoc,List.singleton_append];refine List.perm_middle.trans ?_;rw[List.take_append_drop]
theorem pa (g:aH)(m t s:Int):c8 g m t s=(g,[],false)∨∃(j:Nat) (e:aK),g.pend[j]?=some e∧e.m=m∧e.f=false∧g.pend.find? (fun e=>decide (e.m=m))=some e∧aS t s e.t e.g=false∧qv (g.pend.eraseIdx j) (g_ (g.pend.eraseIdx j) t s) t s=false∧
  c8 g m t s=(⟨g.id,if g.clock<t then t else g.clock,(jz (l_ (g.pend.eraseIdx j) m t s) g.done []).1,(jz (l_ (g.pend.eraseIdx j) m t s) g.done []).2.1⟩,(jz (l_ (g.pend.eraseIdx j) m t s) g.done []).2.2,true):=by
 rcases jv g.pend m with⟨hp, -⟩|⟨j,e,hp,he,XE,lW⟩
 ·left
  unfold c8;split
  ·rw[if_pos (.inl (by omega))]
  ·rfl
 ·have htn:(cV g.pend m).toNat=j:=by omega
  unfold c8;rw[htn,he];simp only
  by_cases hc:cV g.pend m<0∨e.f=true∨aS t s e.t e.g=true
  ·rw[if_pos hc];exact .inl rfl
  ·rw[if_neg hc]
   cases hs:qv (g.pend.eraseIdx j) (g_ (g.pend.eraseIdx j) t s) t s
   ·rw[if_neg (by simp)]
    exact .inr ⟨j,e,he,lW,by cases h:e.f<;>simp_all,XE,by cases h:aS t s e.t e.g<;>simp_all,hs,rfl⟩
   ·rw[if_pos rfl];exact .inl rfl
theorem CC {g:aH}{m t s:Int}(h:bm g=true)(hm:br m=true)(cC:aP t s=true):bm (c8 g m t s).1=true:=by
 rcases pa g m t s with e|⟨j,e,he,lW,XT, -,hl,hs,eq⟩
 ·rw[e];exact h
 ·rw[eq]
  have k:=dy.1 h;generalize hr:g.pend.eraseIdx j=rest at*;have xj:rest.Sublist g.pend:=by rw[←hr];exact List.eraseIdx_sublist ..
  have W0:=k.pl.ord.sublist xj;have hn:∀x∈rest,¬(x.t=t∧x.g=s):=fun x hx lF=>by
   have:=(CB t s W0).2 ⟨x,hx,lF⟩
   rw[hs]at this;cases this
  have cK:e∈g.pend:=List.mem_of_getElem? he
  have cv:∀x∈rest,x.m≠m:=fun x hx=>by
   rw[←hr]at hx;obtain⟨i,pR,hi⟩:=MZ.1 hx;obtain⟨zD,rfl⟩:=List.getElem?_eq_some_iff.1 hi;obtain⟨JF,rfl⟩:=List.getElem?_eq_some_iff.1 he;have hd:=List.pairwise_iff_getElem.1 k.pl.uX;rcases Nat.lt_or_gt_of_ne pR with aj|aj
   ·exact fun e'=>hd i j zD JF aj (e'.trans lW.symm)
   ·exact fun e'=>hd j i JF zD aj (lW.trans e'.symm)
  have M7:=Ai rest m t s;have hck:=k.ck;have abF:=cC;simp only[aP,Bool.and_eq_true,decide_eq_true_eq]at abF;generalize hc:(if g.clock<t then t else g.clock)=XU
  have mA:g.clock≤XU∧t≤XU∧XU≤999:=by rw[←hc];split<;>omega
  have hP:M0 g.id XU (l_ rest m t s):=by
   refine⟨CA m t s W0 hn,?_,fun x hx=>?_⟩
   ·refine(M7.pairwise_iff (fun h=>Ne.symm h)).2 (List.pairwise_cons.2 ⟨fun x hx=>Ne.symm (cv x hx),k.pl.uX.sublist xj⟩)
   ·rcases List.mem_cons.1 (M7.mem_iff.1 hx)with rfl|hx
    ·exact⟨hm,cC,mA.2.1,.inl rfl⟩
    ·have:=k.pl.kC x (xj.subset hx)
     exact⟨this.ms,this.st,by have:=this.ck;omega,this.ow⟩
  have MU:∀d∈g.done,∀x∈l_ rest m t s,dF d x=true∧x.m≠d.m:=fun d hd x hx=>by
   rcases List.mem_cons.1 (M7.mem_iff.1 hx)with rfl|hx
   ·refine⟨?_,?_⟩
    ·have:=k.less hd cK
     simp only[dF,aS,decide_eq_true_eq,decide_eq_false_iff_not]at*;omega
    ·have:=k.dp d hd e cK
     rwa[lW]at this
   ·exact⟨k.less hd (xj.subset hx),k.dp d hd x (xj.subset hx)⟩
  obtain⟨pre,p1,p2, -,p4,p5⟩:=v_ (l_ rest m t s) g.done [];generalize jz (l_ rest m t s) g.done []=R at*;obtain⟨es,dn,td⟩:=R;simp only at p1 p2 p5⊢
  rw[p1]at hP MU;subst p2;have hD:=k.dl.mono mA.1;obtain⟨o1,o2,o3⟩:=List.pairwise_append.1 hP.ord;obtain⟨d1,d2,d3⟩:=List.pairwise_append.1 hP.uX;refine dy.2 ⟨k.id,⟨by simp only;omega,mA.2.2⟩,⟨o2,d2,fun x hx=>hP.kC x (by simp[hx])⟩,⟨?_,?_,fun x hx=>?_⟩,fun x hx=>?_,fun x hx p hp=>?_,fun p l uA=>⟨p5 p l uA,fun d hd=>?_⟩⟩
  ·exact List.pairwise_append.2 ⟨hD.ord,o1,fun a ha b hb=>(MU a ha b (by simp[hb])).1⟩
  ·exact List.pairwise_append.2 ⟨hD.uX,d1,fun a ha b hb=>Ne.symm (MU a ha b (by simp[hb])).2⟩
  ·rcases List.mem_append.1 hx with hx|hx
   ·exact hD.kC x hx
   ·exact hP.kC x (by simp[hx])
  ·rcases List.mem_append.1 hx with hx|hx
   ·exact k.df x hx
   ·exact p4 x hx
  ·rcases List.mem_append.1 hx with hx|hx
   ·exact(MU x hx p (by simp[hp])).2
   ·exact Ne.symm (d3 x hx p hp)
  ·have hp:p∈es:=by simp only at uA;rw[uA];simp
   rcases List.mem_append.1 hd with hd|hd
   ·exact(MU d hd p (by simp[hp])).1
   ·exact o3 d hd p hp
theorem JG (g:aH)(m:Int):(aV g m).1.id=g.id:=by
 unfold aV;split
 ·split<;>rfl
 ·split
  ·rfl
  ·split<;>rfl
theorem Ry (g:aH)(m t s:Int):(c8 g m t s).1.id=g.id:=by
 rcases pa g m t s with e|⟨j,e, -, -, -, -, -, -,eq⟩
 ·rw[e]
 ·rw[eq]
end Go.Proofs.YtlhohdjniaebbaaGreat.T
namespace Go.Proofs.YtlhohdjniaebbaaGreat.T
open Go Go.RowKit
set_option maxRecDepth 100000
set_option maxHeartbeats 4000000
variable {E:List PanicEntry→World→Prop}
def pd (r:cH)(n:Nat):Prop:=r.gs.length≤n∧r.aN.length≤n
theorem uY (r:cH)(h:pd r 4294967296):TC Tw.prog E 90 [.a ((aX r).map .r)] 0 [] (gB (ef r)) []:=by
 obtain⟨Vs,hl⟩:=h;have hlen:r.aN.length≤maxLen:=by simp only[maxLen];omega
 refine tE Tryz.f90 Tryz.ntmps90 (by rw[Tryz.results90]) ?_
 (refine TW.go ?_;simp;repeat' first|intro hc|refine aa.mk ?_|refine aI ?_|refine af ?_ ?_)
 refine tL (fun k=>⟨[(1,.s (.ptr 0 0)),(3,gI .i64 (k:Nat))],[(0,.box ((aX r).map .r))],1⟩) (fun k=>k≤r.aN.length∧∀i,i<k→fY r i=true) (fun k=>r.aN.length-k) 0 ⟨by omega,fun i hi=>by omega⟩ (kO [0] []) fun k hk=>?_
 obtain⟨hk,hf⟩:=hk;by_cases aj:k<r.aN.length
 ·have he:r.aN[k]?=some r.aN[k]:=List.getElem?_eq_getElem aj
  have hq:ef r=false∨fY r k=true:=by
   cases h:fY r k
   ·exact .inl (by simp[ef,bH aj h])
   ·exact .inr rfl
  rcases k with _|k
  ·have aY:fY r 0=(aP r.aN[0].1 r.aN[0].2&&bX r.gs r.aN[0].2):=by simp[fY,aj]
   (refine TW.go ?_;simp[aj,he,aX,gE];repeat' first|intro hc|refine aa.mk ?_|refine aI ?_|refine af ?_ ?_|(refine cP ?_;(first|refine⟨_,dv _ _,?_⟩|refine⟨_,nX _ _,?_⟩);simp[aj,he,aX,gE]))
   all_goals first
    |(refine⟨1,⟨by omega,fun i hi=>?_⟩,by omega,Wk.own [0] [] (by simp) (by simp) (by simp[aX]) (by simp) (by simp)⟩
      obtain rfl:i=0:=by omega
      simp_all)
    |(refine bo.nil (r:=gB (ef r)) ?_ rfl
      rcases hq with hq|hq
      ·simp[hq]
      ·exfalso
       first|(simp_all;done)|(simp_all;omega))
  ·have dg:r.aN[k]?=some r.aN[k]:=List.getElem?_eq_getElem (by omega)
   have hw:=dX (k:=k) (by omega)
   have aG:=wrap_add (k:=k+1) aj hlen;simp only[Int.natCast_add,Int.natCast_one]at aG;have dH:(0:Int)<(k:Int)+1:=by omega
   have aA:(k:Int)+1<(r.aN.length:Int):=by omega
   have aY:fY r (k+1)=(aP r.aN[k+1].1 r.aN[k+1].2&&bX r.gs r.aN[k+1].2&&decide (r.aN[k].2<r.aN[k+1].2)):=by simp[fY,he,dg]
   (refine TW.go ?_;simp[aj,he,dg,hw,aG,dH,aA,aX,gE];repeat' first|intro hc|refine aa.mk ?_|refine aI ?_|refine af ?_ ?_|(refine cP ?_;(first|refine⟨_,dv _ _,?_⟩|refine⟨_,nX _ _,?_⟩);simp[aj,he,dg,hw,aG,dH,aA,aX,gE]))
   all_goals first
    |(refine⟨k+1+1,⟨by omega,fun i hi=>?_⟩,by omega,Wk.own [0] [] (by simp) (by simp) (by simp[aX]) (by simp) (by simp)⟩
      by_cases e:i=k+1
      ·subst e;simp_all
      ·exact hf i (by omega))
    |(refine bo.nil (r:=gB (ef r)) ?_ rfl
      rcases hq with hq|hq
      ·simp[hq]
      ·exfalso
       first|(simp_all;done)|(simp_all;omega))
 ·obtain rfl:k=r.aN.length:=by omega
  have cS:bR r.aN.length (fY r)=true:=bw hf
  (refine TW.go ?_;simp[aX];repeat' first|intro hc|refine aa.mk ?_|refine aI ?_|refine af ?_ ?_|(refine cP ?_;(first|refine⟨_,nz _,?_⟩|refine⟨_,lZ _,?_⟩);simp[aX]))
  all_goals
   refine bo.nil (r:=gB (ef r)) ?_ rfl;simp_all[ef]
end Go.Proofs.YtlhohdjniaebbaaGreat.T
namespace Go.Proofs.YtlhohdjniaebbaaGreat.T
open Go Go.RowKit
set_option maxRecDepth 100000
set_option maxHeartbeats 4000000
variable {E:List PanicEntry→World→Prop}
abbrev gP (p:eI):GV:= .a ((bP p).map .r)
abbrev YD (w:az):Prop:=ep 4294900000 w
theorem YD.sys {w:az}(h:YD w):ju w.ai 4294967296:=⟨by have:=h.g5;omega,fun g hg=>by have:=(h.jH g hg).1;exact⟨by omega,by omega⟩⟩
end Go.Proofs.YtlhohdjniaebbaaGreat.T
namespace Go.Proofs.YtlhohdjniaebbaaGreat.T
open Go Go.RowKit
set_option maxRecDepth 100000
set_option maxHeartbeats 4000000
variable {E:List PanicEntry→World→Prop}
end Go.Proofs.YtlhohdjniaebbaaGreat.T
namespace Go.Proofs.YtlhohdjniaebbaaGreat.T
open Go Go.RowKit
set_option maxRecDepth 100000
set_option maxHeartbeats 4000000
variable {E:List PanicEntry→World→Prop}
end Go.Proofs.YtlhohdjniaebbaaGreat.T
namespace Go.Proofs.YtlhohdjniaebbaaGreat.T
open Go Go.RowKit
set_option maxRecDepth 100000
set_option maxHeartbeats 4000000
variable {E:List PanicEntry→World→Prop}
structure acX (bs:List Int):Prop where
 byte:∀b∈bs,0≤b∧b≤255
 len:bs.length≤2000
end Go.Proofs.YtlhohdjniaebbaaGreat.T
namespace Go.Proofs.YtlhohdjniaebbaaGreat.T
open Go Go.RowKit
set_option maxRecDepth 100000
set_option maxHeartbeats 4000000
variable {E:List PanicEntry→World→Prop}
end Go.Proofs.YtlhohdjniaebbaaGreat.T
namespace Go.Proofs.YtlhohdjniaebbaaGreat.T
open Go Go.RowKit
set_option maxRecDepth 100000
set_option maxHeartbeats 4000000
variable {E:List PanicEntry→World→Prop}
def mx (n:Nat):Int:=if(n:Int)<1 then 1 else n
end Go.Proofs.YtlhohdjniaebbaaGreat.T
namespace Go.Proofs.YtlhohdjniaebbaaGreat.T
open Go Go.RowKit
set_option maxRecDepth 100000
set_option maxHeartbeats 4000000
variable {E:List PanicEntry→World→Prop}
end Go.Proofs.YtlhohdjniaebbaaGreat.T
namespace Go.Proofs.YtlhohdjniaebbaaGreat.T
open Go Go.RowKit
set_option maxRecDepth 100000
set_option maxHeartbeats 4000000
variable {E:List PanicEntry→World→Prop}
end Go.Proofs.YtlhohdjniaebbaaGreat.T
namespace Go.Proofs.YtlhohdjniaebbaaGreat.T
open Go Go.RowKit
set_option maxRecDepth 100000
set_option maxHeartbeats 4000000
variable {E:List PanicEntry→World→Prop}
end Go.Proofs.YtlhohdjniaebbaaGreat.T
namespace Go.Proofs.YtlhohdjniaebbaaGreat.T
open Go Go.RowKit
set_option maxRecDepth 100000
set_option maxHeartbeats 4000000
variable {E:List PanicEntry→World→Prop}
end Go.Proofs.YtlhohdjniaebbaaGreat.T
namespace Go.Proofs.YtlhohdjniaebbaaGreat.T
open Go Go.RowKit
set_option maxRecDepth 100000
set_option maxHeartbeats 4000000
variable {E:List PanicEntry→World→Prop}
theorem jA {xs:List Int}(h:cf xs=true):xs≠[]∧xs.length≤5∧dN xs:=by
 simp only[cf,Bool.and_eq_true,decide_eq_true_eq,bR,List.all_eq_true,List.mem_range,pw,cd,Bool.or_eq_true]at h;obtain⟨h1,h2⟩:=h;have hr:∀i,i<xs.length→0≤xs.getD i 0∧xs.getD i 0<5:=fun i hi=>by have:=(h1 i hi).1;omega
 have hi:∀i,i<xs.length→(i:Int)≤xs.getD i 0:=by
  intro i;induction i with
  |zero=>intro hi;exact(hr 0 hi).1
  |succ i ih=>
   intro hi;have a:=ih (by omega)
   have b:=(h1 (i+1) hi).2;simp only[Nat.add_sub_cancel]at b;omega
 refine⟨List.length_pos_iff.1 h2,?_,fun g hg=>?_⟩
 ·have a:=hi (xs.length-1) (by omega)
  have b:=(hr (xs.length-1) (by omega)).2
  omega
 ·obtain⟨i,dQ,rfl⟩:=List.getElem_of_mem hg
  have:=hr i dQ
  rwa[List.getD_eq_getElem?_getD,List.getElem?_eq_getElem dQ]at this
theorem mf {gs:List aH}(h:cY gs=true):gs.length=5:=by
 simp only[cY,Bool.and_eq_true,decide_eq_true_eq]at h;exact h.1.1
end Go.Proofs.YtlhohdjniaebbaaGreat.T
namespace Go.Proofs.YtlhohdjniaebbaaGreat
open Go Go.RowKit
def aat (id clock:Int)(e:aK):Bool:=br e.m&&(aP e.t e.g&&(decide (e.t≤clock)&&(e.f||decide (e.g=id))))
def dF (a b:aK):Bool:=aS a.t a.g b.t b.g
def JH (id clock:Int):Option aK→List aK→Bool
 |_,[]=>true
 |p,e::es=>aat id clock e&&((match p with|none=>true|some q=>dF q e)&&JH id clock (some e) es)
def jK (id clock:Int)(es:List aK):Bool:=JH id clock none es
theorem we {w w':World}{g:Nat}{t:TypeId}{cs:Array Value}(h:ak w g t cs)(hb:Below w.heap.size w w'):ak w' g t cs:=h.below hb h.lt
end Go.Proofs.YtlhohdjniaebbaaGreat
namespace Go.Proofs.YtlhohdjniaebbaaGreat
open Go Go.RowKit
end Go.Proofs.YtlhohdjniaebbaaGreat
