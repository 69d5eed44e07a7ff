/-
What is proved: the checks of a group as propositions; a proposal and a final stamp keep a group valid. Plain lists. No condition but those that the theorems state. what the reference's functions of rounds do to trees. No condition but the lengths and ranges that each states. what the reference's events that send do to trees. No condition but the lengths and ranges that each states. what the reference's events do to trees. No condition but the lengths and ranges that each states.
-/
import Derived.Test.YtjklkppncmhehaaGreatRx38
import Derived.Test.YtjklkppncmhehaaGreatRx37
set_option linter.unusedVariables false
set_option linter.unusedSimpArgs false
namespace Go.Proofs.YtjklkppncmhehaaGreat.T
open Go Go.RowKit
structure EOk (id clock:Int) (e:an):Prop where
 ms:bm e.m=true
 st:aS e.t e.g=true
 ck:e.t≤clock
 ow:e.f=true∨e.g=id
structure MH (id clock:Int) (es:List an):Prop where
 ord:es.Pairwise (fun a b=>aV a b=true)
 yo:es.Pairwise (fun a b=>a.m≠b.m)
 JP:∀e∈es,EOk id clock e
theorem Qt {id clock:Int}{es:List an}:gC id clock es=true↔MH id clock es:=by
 constructor
 ·intro h
  obtain⟨p,q⟩:=rA h;obtain⟨a,d⟩:=tZ.1 h;rw[oG]at d;refine⟨p,List.pairwise_iff_getElem.2 fun i j hi hj lp=>d j i _ _ lp (List.getElem?_eq_getElem hj) (List.getElem?_eq_getElem hi),fun e he=>?_⟩
  obtain⟨q1,q2,q3⟩:=q e he;refine⟨?_,q2,q1,q3⟩;obtain⟨i,hi,rfl⟩:=List.getElem_of_mem he;rw[jX,b_]at a;have:=a i hi
  rw[oB,List.getElem?_eq_getElem hi]at this;simp only[Bool.and_eq_true]at this;exact this.1.1.1.1
 ·rintro⟨p,d,e⟩
  refine tZ.2 ⟨?_,?_⟩
  ·rw[jX,b_]
   intro i hi;obtain⟨e1,e2,e3,e4⟩:=e _ (List.getElem_mem hi);rw[oB,List.getElem?_eq_getElem hi];simp only[Bool.and_eq_true,Bool.or_eq_true,decide_eq_true_eq];refine⟨⟨⟨⟨e1,e2⟩,e3⟩,e4⟩,?_⟩;rcases i with _|i
   ·exact .inl rfl
   ·right
    rw[Nat.add_sub_cancel,List.getElem?_eq_getElem (show i<es.length by omega)]
    exact List.pairwise_iff_getElem.1 p i (i+1) (by omega) hi (by omega)
  ·rw[oG]
   intro i j a b BO ha hb;obtain⟨hi,rfl⟩:=List.getElem?_eq_some_iff.1 ha;obtain⟨hj,rfl⟩:=List.getElem?_eq_some_iff.1 hb;exact List.pairwise_iff_getElem.1 d j i hj hi BO
structure Tl (g:aq):Prop where
 id:bF g.id=true
 ck:0≤g.clock∧g.clock≤999
 pl:MH g.id g.clock g.ao
 dl:MH g.id g.clock g.done
 df:∀e∈g.done,e.f=true
 dp:∀e∈g.done,∀p∈g.ao,p.m≠e.m
 hd:∀p l,g.ao=p::l→p.f=false∧∀d∈g.done,aV d p=true
theorem Tm {g:aq}:cm g.done.length (jc g)=true↔∀e∈g.done,e.f=true∧∀p∈g.ao,p.m≠e.m:=by
 rw[b_];constructor
 ·intro h e he
  obtain⟨i,hi,rfl⟩:=List.getElem_of_mem he;have:=h i hi
  rw[jc,List.getElem?_eq_getElem hi]at this;simp only[Bool.and_eq_true,decide_eq_true_eq]at this;exact⟨this.1,(nc _ _).1 this.2⟩
 ·intro h i hi
  have:=h _ (List.getElem_mem hi)
  rw[jc,List.getElem?_eq_getElem hi];simp only[Bool.and_eq_true,decide_eq_true_eq];exact⟨this.1,(nc _ _).2 this.2⟩
theorem JQ {g:aq}(h:g.done.Pairwise (fun a b=>aV a b=true)):jL g=true↔∀p l,g.ao=p::l→p.f=false∧∀d∈g.done,aV d p=true:=by
 unfold jL;rcases hp:g.ao with _|⟨p,l⟩
 ·simp
 ·simp only[Bool.and_eq_true,Bool.not_eq_true',List.cons.injEq,and_imp]
  constructor
  ·rintro⟨h1,h2⟩ _ _ rfl rfl
   refine⟨h1,fun d hd=>?_⟩
   cases hl:g.done.getLast? with
   |none=>rw[List.getLast?_eq_none_iff]at hl;rw[hl]at hd;cases hd
   |some x=>
    rw[hl]at h2;obtain⟨ys,e⟩:=List.getLast?_eq_some_iff.1 hl;rw[e]at h hd;rcases List.mem_append.1 hd with hd|hd
    ·exact rX ((List.pairwise_append.1 h).2.2 d hd x (by simp)) h2
    ·obtain rfl:=List.mem_singleton.1 hd
     exact h2
  ·intro k
   obtain⟨k1,k2⟩:=k p l rfl rfl;refine⟨k1,?_⟩;split
   ·rename_i x hl
    obtain⟨ys,e⟩:=List.getLast?_eq_some_iff.1 hl;exact k2 x (by rw[e];simp)
   ·rfl
theorem jh {g:aq}:aT g=true↔Tl g:=by
 unfold aT;simp only[Bool.and_eq_true,decide_eq_true_eq,Qt,Tm];constructor
 ·rintro⟨⟨⟨⟨⟨a,b⟩,c⟩,d⟩,e⟩,f⟩
  exact⟨a,b,c,d,fun x hx=>(e x hx).1,fun x hx=>(e x hx).2,(JQ d.ord).1 f⟩
 ·rintro⟨a,b,c,d,e,f,k⟩
  exact⟨⟨⟨⟨⟨a,b⟩,c⟩,d⟩,fun x hx=>⟨e x hx,f x hx⟩⟩,(JQ d.ord).2 k⟩
theorem MH.mono {id c c':Int}{es:List an}(h:MH id c es)(hc:c≤c'):MH id c' es:=⟨h.ord,h.yo,fun e he=>by have:=h.JP e he;exact⟨this.ms,this.st,by have:=this.ck;omega,this.ow⟩⟩
theorem Tl.less {g:aq}(h:Tl g){d p:an}(hd:d∈g.done)(hp:p∈g.ao):aV d p=true:=by
 rcases hq:g.ao with _|⟨x,l⟩
 ·rw[hq]at hp;cases hp
 ·have h1:=(h.hd x l hq).2 d hd
  rw[hq]at hp;rcases List.mem_cons.1 hp with rfl|hp
  ·exact h1
  ·have:=h.pl.ord
   rw[hq]at this;exact rX h1 ((List.pairwise_cons.1 this).1 p hp)
theorem AF {es:List an}{m:Int}(h:es.find? (fun e=>decide (e.m=m))=none):∀e∈es,e.m≠m:=fun e he=>by
 simpa using List.find?_eq_none.1 h e he
theorem nM {g:aq}{m:Int}(h:aT g=true)(hm:bm m=true):aT (au g m).1=true:=by
 unfold au;split
 ·split<;>exact h
 ·rename_i hp
  split
  ·exact h
  ·rename_i hd
   split
   ·exact h
   ·rename_i hc
    have hp:=AF hp;have hd:=AF hd;have k:=jh.1 h;have hid:=k.id;have Yc:=k.ck;refine jh.2 ⟨k.id,⟨by simp only;omega,by simp only;omega⟩,⟨?_,?_,?_⟩,k.dl.mono (by simp only;omega),k.df,fun e he p Tn=>?_,fun p l e=>?_⟩
    ·refine List.pairwise_append.2 ⟨k.pl.ord,List.pairwise_singleton ..,fun a ha b hb=>?_⟩
     obtain rfl:=List.mem_singleton.1 hb
     have:=(k.pl.JP a ha).ck
     simp only[aV,aK,decide_eq_true_eq];omega
    ·refine List.pairwise_append.2 ⟨k.pl.yo,List.pairwise_singleton ..,fun a ha b hb=>?_⟩
     obtain rfl:=List.mem_singleton.1 hb
     exact hp a ha
    ·intro e he
     rcases List.mem_append.1 he with he|he
     ·have:=k.pl.JP e he
      exact⟨this.ms,this.st,by have:=this.ck;simp only;omega,this.ow⟩
     ·obtain rfl:=List.mem_singleton.1 he
      refine⟨hm,?_,by simp only;omega,.inr rfl⟩
      simp only[aS,Bool.and_eq_true,decide_eq_true_eq];exact⟨by omega,hid⟩
    ·rcases List.mem_append.1 Tn with Tn|Tn
     ·exact k.dp e he p Tn
     ·obtain rfl:=List.mem_singleton.1 Tn
      exact fun e'=>hd e he e'.symm
    ·simp only at e
     rcases hq:g.ao with _|⟨x,q⟩
     ·rw[hq]at e
      cases e;refine⟨rfl,fun d qG=>?_⟩
      have:=(k.dl.JP d qG).ck
      simp only[aV,aK,decide_eq_true_eq];omega
     ·rw[hq]at e
      cases e;exact k.hd _ _ hq
theorem wM:∀(es d:List an) (told:List Int),∃pre,es=pre++(dF es d told).1∧(dF es d told).2.1=d++pre∧(dF es d told).2.2=told++pre.map an.m∧(∀e∈pre,e.f=true)∧∀p l,(dF es d told).1=p::l→p.f=false
 |[],d,told=>⟨[],rfl,by simp[dF],by simp[dF],fun e h=>(by cases h),fun p l h=>(by cases h)⟩
 |e::es,d,told=>by
  unfold dF;split
  ·rename_i hf
   obtain⟨pre,h1,h2,h3,h4,h5⟩:=wM es (d++[e]) (told++[e.m]);refine⟨e::pre,by rw[List.cons_append,←h1],by rw[h2];simp,by rw[h3];simp,fun x hx=>?_,h5⟩
   rcases List.mem_cons.1 hx with rfl|hx
   ·exact hf
   ·exact h4 x hx
  ·rename_i hf
   refine⟨[],rfl,by simp,by simp,fun e h=>(by cases h),fun p l h=>?_⟩
   cases h;simpa using hf
theorem AG (es:List an)(m t s:Int):(ep es m t s).Perm (⟨m,t,s,true⟩::es):=by
 unfold ep;rw[List.append_assoc,List.singleton_append];refine List.perm_middle.trans ?_;rw[List.take_append_drop]
theorem pU (g:aq)(m t s:Int):aO g m t s=(g,[],false)∨∃(j:Nat) (e:an),g.ao[j]?=some e∧e.m=m∧e.f=false∧g.ao.find? (fun e=>decide (e.m=m))=some e∧aK t s e.t e.g=false∧je (g.ao.eraseIdx j) (dW (g.ao.eraseIdx j) t s) t s=false∧
  aO g m t s=(⟨g.id,if g.clock<t then t else g.clock,(dF (ep (g.ao.eraseIdx j) m t s) g.done []).1,(dF (ep (g.ao.eraseIdx j) m t s) g.done []).2.1⟩,(dF (ep (g.ao.eraseIdx j) m t s) g.done []).2.2,true):=by
 rcases dU g.ao m with⟨hp, -⟩|⟨j,e,hp,he,EY,n_⟩
 ·left
  unfold aO;split
  ·rw[if_pos (.inl (by omega))]
  ·rfl
 ·have Fq:(cO g.ao m).toNat=j:=by omega
  unfold aO;rw[Fq,he];simp only
  by_cases hc:cO g.ao m<0∨e.f=true∨aK t s e.t e.g=true
  ·rw[if_pos hc];exact .inl rfl
  ·rw[if_neg hc]
   cases hs:je (g.ao.eraseIdx j) (dW (g.ao.eraseIdx j) t s) t s
   ·rw[if_neg (by simp)]
    exact .inr ⟨j,e,he,n_,by cases h:e.f<;>simp_all,EY,by cases h:aK t s e.t e.g<;>simp_all,hs,rfl⟩
   ·rw[if_pos rfl];exact .inl rfl
theorem wN {g:aq}{m t s:Int}(h:aT g=true)(hm:bm m=true)(bk:aS t s=true):aT (aO g m t s).1=true:=by
 rcases pU g m t s with e|⟨j,e,he,n_,VH, -,hl,hs,eq⟩
 ·rw[e];exact h
 ·rw[eq]
  have k:=jh.1 h;generalize hr:g.ao.eraseIdx j=rest at*;have JR:rest.Sublist g.ao:=by rw[←hr];exact List.eraseIdx_sublist ..
  have zG:=k.pl.ord.sublist JR;have hn:∀x∈rest,¬(x.t=t∧x.g=s):=fun x hx fp=>by
   have:=(wL t s zG).2 ⟨x,hx,fp⟩
   rw[hs]at this;cases this
  have fY:e∈g.ao:=List.mem_of_getElem? he
  have bY:∀x∈rest,x.m≠m:=fun x hx=>by
   rw[←hr]at hx;obtain⟨i,lp,hi⟩:=AE.1 hx;obtain⟨E1,rfl⟩:=List.getElem?_eq_some_iff.1 hi;obtain⟨My,rfl⟩:=List.getElem?_eq_some_iff.1 he;have hd:=List.pairwise_iff_getElem.1 k.pl.yo;rcases Nat.lt_or_gt_of_ne lp with ai|ai
   ·exact fun e'=>hd i j E1 My ai (e'.trans n_.symm)
   ·exact fun e'=>hd j i My E1 ai (n_.trans e'.symm)
  have wG:=AG rest m t s;have Yc:=k.ck;have aaj:=bk;simp only[aS,Bool.and_eq_true,decide_eq_true_eq]at aaj;generalize hc:(if g.clock<t then t else g.clock)=yl
  have lT:g.clock≤yl∧t≤yl∧yl≤999:=by rw[←hc];split<;>omega
  have hP:MH g.id yl (ep rest m t s):=by
   refine⟨wK m t s zG hn,?_,fun x hx=>?_⟩
   ·refine(wG.pairwise_iff (fun h=>Ne.symm h)).2 (List.pairwise_cons.2 ⟨fun x hx=>Ne.symm (bY x hx),k.pl.yo.sublist JR⟩)
   ·rcases List.mem_cons.1 (wG.mem_iff.1 hx)with rfl|hx
    ·exact⟨hm,bk,lT.2.1,.inl rfl⟩
    ·have:=k.pl.JP x (JR.subset hx)
     exact⟨this.ms,this.st,by have:=this.ck;omega,this.ow⟩
  have Fh:∀d∈g.done,∀x∈ep rest m t s,aV d x=true∧x.m≠d.m:=fun d hd x hx=>by
   rcases List.mem_cons.1 (wG.mem_iff.1 hx)with rfl|hx
   ·refine⟨?_,?_⟩
    ·have:=k.less hd fY
     simp only[aV,aK,decide_eq_true_eq,decide_eq_false_iff_not]at*;omega
    ·have:=k.dp d hd e fY
     rwa[n_]at this
   ·exact⟨k.less hd (JR.subset hx),k.dp d hd x (JR.subset hx)⟩
  obtain⟨pre,p1,p2, -,p4,p5⟩:=wM (ep rest m t s) g.done [];generalize dF (ep rest m t s) g.done []=R at*;obtain⟨es,dn,td⟩:=R;simp only at p1 p2 p5⊢
  rw[p1]at hP Fh;subst p2;have hD:=k.dl.mono lT.1;obtain⟨o1,o2,o3⟩:=List.pairwise_append.1 hP.ord;obtain⟨d1,d2,d3⟩:=List.pairwise_append.1 hP.yo;refine jh.2 ⟨k.id,⟨by simp only;omega,lT.2.2⟩,⟨o2,d2,fun x hx=>hP.JP x (by simp[hx])⟩,⟨?_,?_,fun x hx=>?_⟩,fun x hx=>?_,fun x hx p hp=>?_,fun p l nX=>⟨p5 p l nX,fun d hd=>?_⟩⟩
  ·exact List.pairwise_append.2 ⟨hD.ord,o1,fun a ha b hb=>(Fh a ha b (by simp[hb])).1⟩
  ·exact List.pairwise_append.2 ⟨hD.yo,d1,fun a ha b hb=>Ne.symm (Fh a ha b (by simp[hb])).2⟩
  ·rcases List.mem_append.1 hx with hx|hx
   ·exact hD.JP x hx
   ·exact hP.JP x (by simp[hx])
  ·rcases List.mem_append.1 hx with hx|hx
   ·exact k.df x hx
   ·exact p4 x hx
  ·rcases List.mem_append.1 hx with hx|hx
   ·exact(Fh x hx p (by simp[hp])).2
   ·exact Ne.symm (d3 x hx p hp)
  ·have hp:p∈es:=by simp only at nX;rw[nX];simp
   rcases List.mem_append.1 hd with hd|hd
   ·exact(Fh d hd p (by simp[hp])).1
   ·exact o3 d hd p hp
end Go.Proofs.YtjklkppncmhehaaGreat.T
namespace Go.Proofs.YtjklkppncmhehaaGreat.T
open Go Go.RowKit
set_option maxRecDepth 100000
set_option maxHeartbeats 4000000
variable {E:List PanicEntry→World→Prop}
abbrev V' (xs:List (Int×Int)):aj:= .rows 28 2 (xs.map jV)
def t_ (r:gO)(n:Nat):Prop:=r.gs.length≤n∧r.bG.length≤n
abbrev To (r:gO) (p d:Nat):GV:= .a [.r (rI r.m),.own p,.own d]
abbrev Tp (r:gO):List (Nat×aj):=[(0,jf r.gs),(1,V' r.bG)]
theorem AH (r:gO)(h:t_ r 4294967296):TC Tw.prog E 200 [.a ((bj r).map .r)] 0 [] (To r 0 1) (Tp r):=by
 obtain⟨hp,hd⟩:=h;refine tE Tryz.f200 Tryz.ntmps200 (by rw[Tryz.results200]) ?_
 (refine TW.go ?_;simp[bj,maxLen];repeat' first|intro hc|refine U.mk ?_|refine aI ?_|refine aa ?_ ?_)
 exact oW [3,5] []
theorem nO (r:gO)(h:t_ r 4294967296):TC Tw.prog E 130 [.a ((bj r).map .r)] 0 [] (gB (rm r)) []:=by
 obtain⟨VI,hl⟩:=h;have hlen:r.bG.length≤maxLen:=by simp only[maxLen];omega
 refine tE Tryz.f130 Tryz.ntmps130 (by rw[Tryz.results130]) ?_
 (refine TW.go ?_;simp;repeat' first|intro hc|refine U.mk ?_|refine aI ?_|refine aa ?_ ?_)
 refine tL (fun k=>⟨[(1,.s (.ptr 0 0)),(3,gI .i64 (k:Nat))],[(0,.box ((bj r).map .r))],1⟩) (fun k=>k≤r.bG.length∧∀i,i<k→vr r i=true) (fun k=>r.bG.length-k) 0 ⟨by omega,fun i hi=>by omega⟩ (kO [0] []) fun k hk=>?_
 obtain⟨hk,hf⟩:=hk;by_cases ai:k<r.bG.length
 ·have he:r.bG[k]?=some r.bG[k]:=List.getElem?_eq_getElem ai
  have hq:rm r=false∨vr r k=true:=by
   cases h:vr r k
   ·exact .inl (by simp[rm,cB ai h])
   ·exact .inr rfl
  rcases k with _|k
  ·have cE:vr r 0=(aS r.bG[0].1 r.bG[0].2&&gf r.gs r.bG[0].2):=by simp[vr,ai]
   (refine TW.go ?_;simp[ai,he,bj,jV];repeat' first|intro hc|refine U.mk ?_|refine aI ?_|refine aa ?_ ?_|(refine cP ?_;(first|refine⟨_,gN _ _,?_⟩|refine⟨_,mV _ _,?_⟩);simp[ai,he,bj,jV]))
   all_goals first
    |(refine⟨1,⟨by omega,fun i hi=>?_⟩,by omega,Wk.own [0] [] (by simp) (by simp) (by simp[bj]) (by simp) (by simp)⟩
      obtain rfl:i=0:=by omega
      simp_all)
    |(refine aE.nil (r:=gB (rm r)) ?_ rfl
      rcases hq with hq|hq
      ·simp[hq]
      ·exfalso
       first|(simp_all;done)|(simp_all;omega))
  ·have dc:r.bG[k]?=some r.bG[k]:=List.getElem?_eq_getElem (by omega)
   have hw:=ku (k:=k) (by omega)
   have aD:=wrap_add (k:=k+1) ai hlen;simp only[Int.natCast_add,Int.natCast_one]at aD;have cX:(0:Int)<(k:Int)+1:=by omega
   have ar:(k:Int)+1<(r.bG.length:Int):=by omega
   have cE:vr r (k+1)=(aS r.bG[k+1].1 r.bG[k+1].2&&gf r.gs r.bG[k+1].2&&decide (r.bG[k].2<r.bG[k+1].2)):=by simp[vr,he,dc]
   (refine TW.go ?_;simp[ai,he,dc,hw,aD,cX,ar,bj,jV];repeat' first|intro hc|refine U.mk ?_|refine aI ?_|refine aa ?_ ?_|(refine cP ?_;(first|refine⟨_,gN _ _,?_⟩|refine⟨_,mV _ _,?_⟩);simp[ai,he,dc,hw,aD,cX,ar,bj,jV]))
   all_goals first
    |(refine⟨k+1+1,⟨by omega,fun i hi=>?_⟩,by omega,Wk.own [0] [] (by simp) (by simp) (by simp[bj]) (by simp) (by simp)⟩
      by_cases e:i=k+1
      ·subst e;simp_all
      ·exact hf i (by omega))
    |(refine aE.nil (r:=gB (rm r)) ?_ rfl
      rcases hq with hq|hq
      ·simp[hq]
      ·exfalso
       first|(simp_all;done)|(simp_all;omega))
 ·obtain rfl:k=r.bG.length:=by omega
  have dO:cm r.bG.length (vr r)=true:=bT hf
  (refine TW.go ?_;simp[bj];repeat' first|intro hc|refine U.mk ?_|refine aI ?_|refine aa ?_ ?_|(refine cP ?_;(first|refine⟨_,iN _,?_⟩|refine⟨_,jb _,?_⟩);simp[bj]))
  all_goals
   refine aE.nil (r:=gB (rm r)) ?_ rfl;simp_all[rm]
theorem Tq {bG:List (Int×Int)}{g:Int}{k:Nat}{x:Int×Int}(hk:∀i,i<k→∀x,bG[i]?=some x→x.2<g)(he:bG[k]?=some x)(h:¬x.2<g):s8 bG g=k:=by
 unfold s8;induction bG generalizing k with
 |nil=>simp at he
 |cons y bG ih=>
  cases k with
  |zero=>
   cases he;rw[List.takeWhile_cons];simp[h]
  |succ k=>
   have h0:=hk 0 (by omega) y rfl
   rw[List.takeWhile_cons,if_pos (by simpa using h0),List.length_cons,ih (k:=k) (fun i hi y hy=>hk (i+1) (by omega) y (by simpa using hy)) (by simpa using he)]
theorem Qu {bG:List (Int×Int)}{g:Int}(hk:∀i,i<bG.length→∀x,bG[i]?=some x→x.2<g):s8 bG g=bG.length:=by
 have h:bG.takeWhile (fun s=>decide (s.2<g))=bG:=by
  induction bG with
  |nil=>rfl
  |cons x es ih=>
   rw[List.takeWhile_cons,if_pos (by simpa using hk 0 (by simp) x rfl),ih fun i hi y hy=>hk (i+1) (by simp;omega) y (by simpa using hy)]
 unfold s8;rw[h]
theorem CW (r:gO)(t s:Int)(h:t_ r 4294967290):TC Tw.prog E 210 [.a ((bj r).map .r),ma (t,s)] 0 [] (.p [To (oE r t s).1 0 1,gB (oE r t s).2]) (Tp (oE r t s).1):=by
 obtain⟨VI,hl⟩:=h;have hle:t_ r 4294967296:=⟨by omega,by omega⟩
 have hlen:r.bG.length≤maxLen:=by simp only[maxLen];omega
 refine tE Tryz.f210 Tryz.ntmps210 (by rw[Tryz.results210]) ?_
 (refine TW.go ?_;simp[bj];repeat' first|intro hc|refine U.mk ?_|refine aI ?_|refine aa ?_ ?_|(refine cF [] 2 ?_;refine⟨_,_,AH _ hle,?_⟩;simp[bj]))
 refine tL (fun(k:Nat)=>⟨[(2,.s (.ptr 0 0)),(3,.s (.ptr 1 0)),(4,.s (.ptr 2 0)),(6,.s (.ptr 3 0)),(7,gI .i64 (k:Nat))],
  [(0,.box ((bj r).map .r)),(1,.box [.r (rI t),.r (rI s)]),(2,.box [.r (rI 0),.r .nil,.r .nil]),(3,.box [.r (rI r.m),.own 4,.own 5]),(4,jf r.gs),(5,V' r.bG)],6⟩) (fun k=>k≤r.bG.length∧∀i,i<k→∀x,r.bG[i]?=some x→x.2<s) (fun k=>r.bG.length-k) 0 ⟨by omega,fun i hi=>by omega⟩
  (Wk.own [0,1,2,5,3,4] [] (by simp) (by simp) (by simp[bj]) (by simp) (by simp)) fun k hk=>?_
 obtain⟨hk,l_⟩:=hk;have iI:(∃x,r.bG[k]?=some x∧x.2<s)∨(∃x,r.bG[k]?=some x∧¬x.2<s∧s8 r.bG s=k)∨(k=r.bG.length∧s8 r.bG s=k):=by
  rcases hx:r.bG[k]? with _|x
  ·have vo:k=r.bG.length:=by have:=List.getElem?_eq_none_iff.1 hx;omega
   refine .inr (.inr ⟨vo,?_⟩);subst vo;exact Qu l_
  ·by_cases jW:x.2<s
   ·exact .inl ⟨x,rfl,jW⟩
   ·exact .inr (.inl ⟨x,rfl,jW,Tq l_ hx jW⟩)
 rcases iI with⟨x,hx,jW⟩|iI
 ·have ai:k<r.bG.length:=(List.getElem?_eq_some_iff.1 hx).1
  have ar:(k:Int)<(r.bG.length:Int):=by omega
  have aD:=wrap_add ai hlen;(refine TW.go ?_;simp[ar,hx,jW,bj,jV,aD];repeat' first|intro hc|refine U.mk ?_|refine aI ?_|refine aa ?_ ?_)
  refine⟨k+1,⟨by omega,fun i hi y hy=>?_⟩,by omega,Wk.own [0,1,2,3,4,5] [] (by simp) (by simp) (by simp[bj]) (by simp) (by simp)⟩
  by_cases e:i=k
  ·subst e;rw[hx]at hy;cases hy;exact jW
  ·exact l_ i (by omega) y hy
 ·have qk:s8 r.bG s=k:=by
   rcases iI with⟨_,_,_,h⟩|⟨_,h⟩<;>exact h
  have sR:oE r t s=if gf r.gs s=false∨AA r.bG k s=true then(r,false)else(⟨r.m,r.gs,r.bG.take k++[(t,s)]++r.bG.drop k⟩,true):=by
   rw[oE,qk]
  cases hh:gf r.gs s
  ·rw[if_pos (.inl hh)]at sR
   rw[sR];rcases iI with⟨x,hx,jW,_⟩|⟨vo,_⟩
   ·have ai:k<r.bG.length:=(List.getElem?_eq_some_iff.1 hx).1
    have ar:(k:Int)<(r.bG.length:Int):=by omega
    (refine TW.go ?_;simp[ar,hx,jW,hh,bj,jV];repeat' first|intro hc|refine U.mk ?_|refine aI ?_|refine aa ?_ ?_|(refine cP ?_;refine⟨_,mV _ _,?_⟩;simp[ar,hx,jW,hh,bj,jV]))
    exact oW [4,5] []
   ·subst vo
    (refine TW.go ?_;simp[hh,bj,jV];repeat' first|intro hc|refine U.mk ?_|refine aI ?_|refine aa ?_ ?_|(refine cP ?_;refine⟨_,mV _ _,?_⟩;simp[hh,bj,jV]))
    exact oW [4,5] []
  ·rcases iI with⟨x,hx,jW,_⟩|⟨vo,_⟩
   ·have ai:k<r.bG.length:=(List.getElem?_eq_some_iff.1 hx).1
    have ar:(k:Int)<(r.bG.length:Int):=by omega
    by_cases fp:x.2=s
    ·rw[if_pos (.inr (by simp[AA,hx,fp]))]at sR
     rw[sR];(refine TW.go ?_;simp[ar,hx,jW,fp,hh,bj,jV];repeat' first|intro hc|refine U.mk ?_|refine aI ?_|refine aa ?_ ?_|(refine cP ?_;refine⟨_,mV _ _,?_⟩;simp[ar,hx,jW,fp,hh,bj,jV]))
     exact oW [4,5] []
    ·rw[if_neg (by simp[AA,hx,fp,hh])]at sR
     rw[sR];(refine TW.go ?_;simp[ar,hx,jW,fp,hh,bj,jV,maxLen];repeat' first|intro hc|refine U.mk ?_|refine aI ?_|refine aa ?_ ?_|(refine cP ?_;refine⟨_,mV _ _,?_⟩;simp[ar,hx,jW,fp,hh,bj,jV,maxLen]))
     refine aE.own [4,10] [] (by simp;rfl) (by simp[jV]) (by simp) (by simp) (by simp[jV]) (by simp)
   ·subst vo
    rw[if_neg (by simp[AA,hh])]at sR
    rw[sR];(refine TW.go ?_;simp[hh,bj,jV,maxLen];repeat' first|intro hc|refine U.mk ?_|refine aI ?_|refine aa ?_ ?_|(refine cP ?_;refine⟨_,mV _ _,?_⟩;simp[hh,bj,jV,maxLen]))
    refine aE.own [4,10] [] (by simp;rfl) (by simp[jV]) (by simp) (by simp) (by simp[jV]) (by simp)
theorem xP (r:gO)(h:r.gs≠[]):TC Tw.prog E 211 [.a ((bj r).map .r)] 0 [] (.p [ma (lF r).1,gB (lF r).2]) []:=by
 have fD:0<r.gs.length:=List.length_pos_iff.2 h
 refine tE Tryz.f211 Tryz.ntmps211 (by rw[Tryz.results211]) ?_
 by_cases hl:r.bG.length<r.gs.length
 ·have aY:(r.bG.length:Int)<(r.gs.length:Int):=by omega
  rw[show lF r=((0,0),false) by rw[lF,if_pos hl]]
  (refine TW.go ?_;simp[bj,hl,aY];repeat' first|intro hc|refine U.mk ?_|refine aI ?_|refine aa ?_ ?_)
  refine aE.nil (r:= .p [ma (0,0),gB false]) ?_ rfl;simp
 ·have aY:¬(r.bG.length:Int)<(r.gs.length:Int):=by omega
  rw[show lF r=(rp r.bG,true) by rw[lF,if_neg hl]]
  rcases hx:r.bG with _|⟨x,xs⟩
  ·rw[hx]at hl;exact absurd fD hl
  ·have aY:¬(xs.length:Int)+1<(r.gs.length:Int):=by rw[hx]at hl;simp at hl;omega
   (refine TW.go ?_;simp[bj,hx,aY];repeat' first|intro hc|refine U.mk ?_|refine aI ?_|refine aa ?_ ?_|(refine cP ?_;refine⟨_,JE x xs,?_⟩;simp[bj,hx,aY]))
   refine aE.nil (r:= .p [ma (rp (x::xs)),gB true]) ?_ rfl;simp[rp]
theorem yp (m:Int)(gs:List Int)(hm:bm m=true)(hs:fy gs=true)(hl:gs.length≤4294967296):TC Tw.prog E 175 [gI .i64 m,gR (bg gs)] 0 [] (.p [To ⟨m,gs,[]⟩ 0 1,gB true]) (Tp ⟨m,gs,[]⟩):=by
 refine tE Tryz.f175 Tryz.ntmps175 (by rw[Tryz.results175]) ?_
 (refine TW.go ?_;simp[hm,hs,maxLen];repeat' first|intro hc|refine U.mk ?_|refine aI ?_|refine aa ?_ ?_|(refine cP ?_;(first|refine⟨_,iN _,?_⟩|refine⟨_,jb _,?_⟩);simp[hm,hs,maxLen]))
 exact oW [2,3] []
end Go.Proofs.YtjklkppncmhehaaGreat.T
namespace Go.Proofs.YtjklkppncmhehaaGreat.T
open Go Go.RowKit
set_option maxRecDepth 100000
set_option maxHeartbeats 4000000
variable {E:List PanicEntry→World→Prop}
abbrev Ts (xs:List (List Int)):aj:= .rows 24 1 (xs.map fun s=>[bg s])
abbrev Tu (rs:List gO):aj:= .rows 43 3 (rs.map bj)
abbrev Tv (bs:List Bool):aj:= .rows 4 1 (bs.map fun b=>[rB b])
abbrev Wa (ps:List lP):aj:= .rows 117 5 (ps.map dE)
abbrev wO:GV:= .a [.own 0,.own 1,.own 2,.own 3,.own 4]
abbrev wS (w:aL):List (Nat×aj):=[(0,Ts w.aP),(1,kA w.aU),(2,Tu w.rounds),(3,Tv w.bP),(4,Wa w.cb)]
abbrev gP (p:lP):GV:= .a ((dE p).map .r)
abbrev oH (w:aL):Prop:=dy 4294900000 w
theorem oH.sys {w:aL}(h:oH w):cz w.aU 4294967296:=⟨by have:=h.g5;omega,fun g hg=>by have:=(h.yk g hg).1;exact⟨by omega,by omega⟩⟩
theorem fT (w:aL)(h:oH w):TC Tw.prog E 173 [gW w] 0 [] wO (wS w):=by
 have Tx:=h.Qm;have Qp:=h.rl;have iI:=h.sl;have yg:=h.nl;have hlen:w.aP.length≤maxLen:=by simp only[maxLen];omega
 refine tE Tryz.f173 Tryz.ntmps173 (by rw[Tryz.results173]) ?_
 (refine TW.go ?_;simp[wT,maxLen];repeat' first|intro hc|refine U.mk ?_|refine aI ?_|refine aa ?_ ?_|(refine cF [] 1 ?_;refine⟨_,_,fO w.aU h.sys,?_⟩;simp[wT,maxLen]))
 refine tL (fun(k:Nat)=>⟨[(1,.s (.ptr 0 0)),(2,.s (.ptr 2 0)),(3,.s (.ptr 1 0)),(4,gI .i64 (k:Nat))],[(0,.box ((wT w).map .r)),(1,.box [.own 3,.own 4,.own 5,.own 6,.own 7]),(2,.box [.r .nil,.r .nil,.r .nil,.r .nil,.r .nil]),
   (3,Ts (w.aP.take k)),(4,kA w.aU),(5,Tu (w.rounds.take k)),(6,Tv w.bP),(7,Wa w.cb)],8⟩) (fun k=>k≤w.aP.length) (fun k=>w.aP.length-k) 0 (by omega)
  (Wk.own [0,9,1,2,3,4,6,8] [] (by simp) (by simp) (by simp[wT]) (by simp) (by simp)) fun k hk=>?_
 by_cases ai:k<w.aP.length
 ·have he:w.aP[k]?=some w.aP[k]:=List.getElem?_eq_getElem ai
  have Wb:k<w.rounds.length:=by omega
  have wP:w.rounds[k]?=some w.rounds[k]:=List.getElem?_eq_getElem Wb
  have eT:=h.set _ (List.getElem_mem ai);have zG:=h.MD _ (List.getElem_mem Wb);have ar:(k:Int)<(w.aP.length:Int):=by omega
  have aD:=wrap_add ai hlen;have Mn:k≤12:=by omega
  generalize w.aP[k]=S at he eT;generalize w.rounds[k]=r at wP zG;obtain⟨-,hS5, -⟩:=eT;have hr:t_ r 4294967296:=⟨by have:=zG.2.1;omega,by have:=zG.2.2;omega⟩
  have Kh:(List.take k (w.aP.map fun s=>[bg s])).length≤12:=by simp;omega
  have htr:(List.take k (w.rounds.map bj)).length≤12:=by simp;omega
  (refine TW.go ?_;simp[ar,he,wP,wT,bj,aD,maxLen];repeat' first|intro hc|refine U.mk ?_|refine aI ?_|refine aa ?_ ?_|(refine cF [] 2 ?_;refine⟨_,_,AH r hr,?_⟩;simp[ar,he,wP,wT,bj,aD,maxLen]))
  exact⟨k+1,by omega,by omega,Wk.own [0,1,2,11,4,15,6,7] [] (by simp) (by simp) (by simp[wT,jK he,jK wP,bj]) (by simp) (by simp)⟩
 ·obtain rfl:k=w.aP.length:=by omega
  (refine TW.go ?_;simp[wT];repeat' first|intro hc|refine U.mk ?_|refine aI ?_|refine aa ?_ ?_)
  refine aE.own [3,4,5,6,7] [] (by simp;rfl) (by simp[←Qp]) (by simp) (by simp) (by simp[←Qp]) (by simp)
theorem pV (w:aL)(p:lP)(h:w.cb.length≤16):TC Tw.prog E 201 [gW w,gP p] 0 [] (gW (fQ w p)) []:=by
 refine tE Tryz.f201 Tryz.ntmps201 (by rw[Tryz.results201]) ?_
 by_cases hl:w.cb.length<16
 ·have aY:(w.cb.length:Int)<16:=by omega
  rw[fQ,if_pos hl];(refine TW.go ?_;simp[wT,dE,aY,maxLen];repeat' first|intro hc|refine U.mk ?_|refine aI ?_|refine aa ?_ ?_)
  refine aE.own [] [6] (by simp;rfl) (by simp[wT,dE]) (by simp) (by simp) (by simp[wT,dE]) (by simp)
 ·have aY:¬(w.cb.length:Int)<16:=by omega
  rw[fQ,if_neg hl];(refine TW.go ?_;simp[wT,dE,aY];repeat' first|intro hc|refine U.mk ?_|refine aI ?_|refine aa ?_ ?_)
  refine aE.own [] [] (by simp;rfl) (by simp[wT]) (by simp) (by simp) (by simp[wT]) (by simp)
theorem ua (f:Int→lP):∀(gs:List Int) (w:aL),w.cb.length≤16→(gs.foldl (fun w g=>fQ w (f g)) w).cb.length≤16
 |[],w,h=>h
 |g::gs,w,h=>ua f gs _ (by show(fQ w (f g)).cb.length≤16;unfold fQ;split;(simp;omega);exact h)
theorem CX (w:aL)(m:Int)(gs:List Int)(h:w.cb.length≤16):TC Tw.prog E 176 [gW w,gI .i64 m,gR (bg gs)] 0 [] (gW (k_ w m gs)) []:=by
 refine tE Tryz.f176 Tryz.ntmps176 (by rw[Tryz.results176]) ?_
 refine TW.len 2 rfl fun hlen=>?_;simp only[List.length_map]at hlen;(refine TW.go ?_;simp;repeat' first|intro hc|refine U.mk ?_|refine aI ?_|refine aa ?_ ?_)
 refine tL (fun(k:Nat)=>⟨[(1,gI .i64 m),(2,gR (bg gs)),(3,.s (.ptr 0 0)),(6,.s (.ptr 1 0)),(7,gI .i64 (k:Nat))],[(0,.box ((wT (k_ w m (gs.take k))).map .r)),(1,.box [.r .nil,.r .nil,.r .nil,.r .nil,.r .nil])],2⟩) (fun k=>k≤gs.length) (fun k=>gs.length-k) 0 (by omega)
  (Wk.own [0,1] [] (by simp) (by simp) (by simp[wT,k_]) (by simp) (by simp)) fun k hk=>?_
 by_cases ai:k<gs.length
 ·have he:gs[k]?=some gs[k]:=List.getElem?_eq_getElem ai
  have ar:(k:Int)<(gs.length:Int):=by omega
  have aD:=wrap_add ai hlen;generalize gs[k]=x at he;have fl:k_ w m (gs.take (k+1))=fQ (k_ w m (gs.take k)) ⟨1,m,x,0,0⟩:=dY _ _ he
  have hn:(k_ w m (gs.take k)).cb.length≤16:=ua (fun g=>⟨1,m,g,0,0⟩) _ _ h
  generalize k_ w m (gs.take k)=v at*;(refine TW.go ?_;simp[ar,he,wT,aD];repeat' first|intro hc|refine U.mk ?_|refine aI ?_|refine aa ?_ ?_|(refine cP ?_;refine⟨_,pV v ⟨1,m,x,0,0⟩ hn,?_⟩;simp[ar,he,wT,aD]))
  exact⟨k+1,by omega,by omega,Wk.own [0,1] [] (by simp) (by simp) (by simp[fl,wT]) (by simp) (by simp)⟩
 ·obtain rfl:k=gs.length:=by omega
  rw[List.take_length];(refine TW.go ?_;simp[wT];repeat' first|intro hc|refine U.mk ?_|refine aI ?_|refine aa ?_ ?_)
  refine aE.own [] [] (by simp;rfl) (by simp[wT]) (by simp) (by simp) (by simp[wT]) (by simp)
theorem AI {n:Nat}(w:aL)(m:Int)(h:dy n w)(h0:0≤m)(h1:m<w.aP.length):TC Tw.prog E 203 [gW w,gI .i64 m] 0 [] (gW (rr w m)) []:=by
 have abe:=h.Qm;have Qp:=h.rl;have hm:m.toNat<w.rounds.length:=by omega
 have wQ:m.toNat<w.aP.length:=by omega
 have wP:w.rounds[m.toNat]?=some (cW w m):=by rw[cW,List.getD_eq_getElem?_getD,List.getElem?_eq_getElem hm];rfl
 have dr:w.aP[m.toNat]?=some (setAt w m):=by rw[setAt,List.getD_eq_getElem?_getD,List.getElem?_eq_getElem wQ];rfl
 obtain⟨-,hS5, -⟩:=rW h h0 h1;have zG:=mh h h0 h1;have hlen:(setAt w m).length≤maxLen:=by simp only[maxLen];omega
 rw[rr];generalize cW w m=r at*;refine tE Tryz.f203 Tryz.ntmps203 (by rw[Tryz.results203]) ?_
 cases hb:(lF r).2
 ·rw[if_neg (by simp)]
  (refine TW.go ?_;simp[h0,wP,wT,bj,hb];repeat' first|intro hc|refine U.mk ?_|refine aI ?_|refine aa ?_ ?_|(refine cP ?_;refine⟨_,xP r zG.1,?_⟩;simp[h0,wP,wT,bj,hb]))
  refine tL (fun(_:Unit)=>⟨[(1,gI .i64 m),(2,.s (.ptr 0 0)),(4,.s (.ptr 1 0)),(6,gB false),(7,gI .i64 0)],[(0,.box ((wT w).map .r)),(1,.box [.r .nil,.r .nil,.r .nil,.r .nil,.r .nil])],2⟩) (fun _=>True) (fun _=>0) () trivial
   (Wk.own [0,1] [] (by simp) (by simp) (by simp[wT]) (by simp) (by simp)) fun _ _=>?_
  (refine TW.go ?_;simp[h0,dr,wT];repeat' first|intro hc|refine U.mk ?_|refine aI ?_|refine aa ?_ ?_)
  all_goals refine aE.own [] [] (by simp;rfl) (by simp[wT]) (by simp) (by simp) (by simp[wT]) (by simp)
 ·rw[if_pos rfl]
  generalize hs:(lF r).1=s;(refine TW.go ?_;simp[h0,wP,wT,bj,hb,hs];repeat' first|intro hc|refine U.mk ?_|refine aI ?_|refine aa ?_ ?_|(refine cP ?_;refine⟨_,xP r zG.1,?_⟩;simp[h0,wP,wT,bj,hb,hs]))
  generalize hS:setAt w m=S at*;refine tL (fun(k:Nat)=>⟨[(1,gI .i64 m),(2,.s (.ptr 0 0)),(4,.s (.ptr 1 0)),(5,.s (.ptr 2 0)),(6,gB true),(7,gI .i64 (k:Nat))],[(0,.box ((wT (rq w m s (S.take k))).map .r)),(1,.box [.r .nil,.r .nil,.r .nil,.r .nil,.r .nil]),(2,.box [.r (rI s.1),.r (rI s.2)])],3⟩) (fun k=>k≤S.length) (fun k=>S.length-k) 0 (by omega)
   (Wk.own [0,1,2] [] (by simp) (by simp) (by simp[wT,rq]) (by simp) (by simp)) fun k hk=>?_
  have Kh:(rq w m s (S.take k)).aP=w.aP:=nL (fun g=>⟨3,m,g,s.1,s.2⟩) _ _
  by_cases ai:k<S.length
  ·have he:S[k]?=some S[k]:=List.getElem?_eq_getElem ai
   have ar:(k:Int)<(S.length:Int):=by omega
   have aD:=wrap_add ai hlen;generalize S[k]=x at he;have fl:rq w m s (S.take (k+1))=fQ (rq w m s (S.take k)) ⟨3,m,x,s.1,s.2⟩:=dY _ _ he
   have hn:(rq w m s (S.take k)).cb.length≤16:=ua (fun g=>⟨3,m,g,s.1,s.2⟩) _ _ h.nl
   generalize rq w m s (S.take k)=v at*;rw[←Kh]at dr;(refine TW.go ?_;simp[ar,h0,dr,he,wT,aD];repeat' first|intro hc|refine U.mk ?_|refine aI ?_|refine aa ?_ ?_|(refine cP ?_;refine⟨_,pV v ⟨3,m,x,s.1,s.2⟩ hn,?_⟩;simp[ar,h0,dr,he,wT,aD]))
   exact⟨k+1,by omega,by omega,Wk.own [0,1,2] [] (by simp) (by simp) (by simp[fl,wT]) (by simp) (by simp)⟩
  ·obtain rfl:k=S.length:=by omega
   rw[List.take_length]at*;rw[←Kh]at dr;(refine TW.go ?_;simp[h0,dr,wT];repeat' first|intro hc|refine U.mk ?_|refine aI ?_|refine aa ?_ ?_)
   refine aE.own [] [] (by simp;rfl) (by simp[wT]) (by simp) (by simp) (by simp[wT]) (by simp)
theorem MJ (n:Int)(h0:0≤n)(h1:n≤31):TC Tw.prog E 174 [gI .i64 n] 0 [] (gR (bg (ky n))) []:=by
 refine tE Tryz.f174 Tryz.ntmps174 (by rw[Tryz.results174]) ?_
 (refine TW.go ?_;simp;repeat' first|intro hc|refine U.mk ?_|refine aI ?_|refine aa ?_ ?_)
 refine tL (fun(p:Nat×Int×List Int)=>⟨[(0,gI .i64 p.2.1),(3,.s (.own 0)),(4,gI .i64 (p.1:Nat))],[(0,jf p.2.2)],1⟩) (fun p=>p.1≤5∧p.2.2.length≤p.1∧0≤p.2.1∧p.2.1≤31∧p.2.2++pR p.2.1 (5-p.1) (p.1:Nat)=ky n) (fun p=>5-p.1) (0,n,[]) ⟨by simp,by simp,h0,h1,rfl⟩
  (kO [0] []) fun p hp=>?_
 obtain⟨k,n',out⟩:=p;obtain⟨hk,hl,q0,q1,hq⟩:=hp;simp only at hk hl q0 q1 hq⊢
 by_cases ai:k<5
 ·have ar:(k:Int)<5:=by omega
  have aD:IntKind.i64.wrap ((k:Int)+1)=(k:Int)+1:=aG (by omega) (by omega)
  have ht:n'.tdiv 2=n' / 2:=Int.tdiv_eq_ediv_of_nonneg q0
  have dm:IntKind.i64.wrap (n'.tdiv 2)=n'.tdiv 2:=aG (by rw[ht];omega) (by rw[ht];omega)
  rw[show 5-k=(5-(k+1))+1 by omega,pR]at hq
  by_cases hb:n'.tmod 2=1
  ·rw[if_pos hb]at hq
   (refine TW.go ?_;simp[ar,aD,dm,hb,maxLen];repeat' first|intro hc|refine U.mk ?_|refine aI ?_|refine aa ?_ ?_)
   exact⟨(k+1,n'.tdiv 2,out++[(k:Int)]),⟨by simp only;omega,by simp;omega,by simp only[ht];omega,by simp only[ht];omega,by simpa using hq⟩,by simp only;omega,kO [2] []⟩
  ·rw[if_neg hb]at hq
   (refine TW.go ?_;simp[ar,aD,dm,hb,maxLen];repeat' first|intro hc|refine U.mk ?_|refine aI ?_|refine aa ?_ ?_)
   exact⟨(k+1,n'.tdiv 2,out),⟨by simp only;omega,by simp only;omega,by simp only[ht];omega,by simp only[ht];omega,by simpa using hq⟩,by simp only;omega,kO [0] []⟩
 ·obtain rfl:k=5:=by omega
  simp only[Nat.sub_self,pR,List.append_nil]at hq;subst hq;(refine TW.go ?_;simp;repeat' first|intro hc|refine U.mk ?_|refine aI ?_|refine aa ?_ ?_)
  exact oW [] [0]
end Go.Proofs.YtjklkppncmhehaaGreat.T
namespace Go.Proofs.YtjklkppncmhehaaGreat.T
open Go Go.RowKit
set_option maxRecDepth 100000
set_option maxHeartbeats 4000000
variable {E:List PanicEntry→World→Prop}
theorem oH.Wc {w:aL}(h:oH w){m:Int}(h0:0≤m)(h1:m<w.aP.length):t_ (cW w m) 4294967290:=by
 have:=mh h h0 h1
 exact⟨by have:=this.2.1;omega,by have:=this.2.2;omega⟩
theorem CY {w:aL}(h:oH w){m:Int}(h0:0≤m)(h1:m<w.aP.length):w.rounds[m.toNat]?=some (cW w m):=by
 have:=h.rl
 rw[cW,List.getD_eq_getElem?_getD,List.getElem?_eq_getElem (by omega)]
 rfl
theorem Qv {w:aL}{m:Int}(h0:0≤m)(h1:m<w.aP.length):w.aP[m.toNat]?=some (setAt w m):=by
 rw[setAt,List.getD_eq_getElem?_getD,List.getElem?_eq_getElem (by omega)]
 rfl
theorem AJ {w:aL}(h:oH w){m:Int}(h0:0≤m)(h1:m<w.aP.length):w.bP[m.toNat]?=some (rV w m):=by
 have:=h.sl
 rw[rV,List.getD_eq_getElem?_getD,List.getElem?_eq_getElem (by omega)]
 rfl
theorem sw (r:gO)(h:t_ r 4294967296):TC Tw.prog E 204 [.a ((bj r).map .r)] 0 [] (gR (bg (ik r))) []:=by
 obtain⟨VI,hl⟩:=h;have hlen:r.bG.length≤maxLen:=by simp only[maxLen];omega
 have Yd:r.gs.length≤maxLen:=by simp only[maxLen];omega
 refine tE Tryz.f204 Tryz.ntmps204 (by rw[Tryz.results204]) ?_
 cases hv:rm r
 ·rw[show ik r=[] by rw[ik,hv];rfl]
  (refine TW.go ?_;simp[bj,hv];repeat' first|intro hc|refine U.mk ?_|refine aI ?_|refine aa ?_ ?_|(refine cP ?_;refine⟨_,nO r ⟨VI,hl⟩,?_⟩;simp[bj,hv]))
  exact oW [] [1]
 ·rw[show ik r=r.gs.filter fun g=> !rn r g by rw[ik,hv];rfl]
  (refine TW.go ?_;simp[bj,hv];repeat' first|intro hc|refine U.mk ?_|refine aI ?_|refine aa ?_ ?_|(refine cP ?_;refine⟨_,nO r ⟨VI,hl⟩,?_⟩;simp[bj,hv]))
  refine tL (fun(k:Nat)=>⟨[(1,.s (.ptr 0 0)),(3,.s (.own 1)),(4,gI .i64 (k:Nat))],[(0,.box ((bj r).map .r)),(1,jf ((r.gs.take k).filter fun g=> !rn r g))],2⟩) (fun k=>k≤r.gs.length) (fun k=>r.gs.length-k) 0 (by omega)
   (Wk.own [0,1] [] (by simp) (by simp) (by simp[bj]) (by simp) (by simp)) fun k hk=>?_
  by_cases ai:k<r.gs.length
  ·have he:r.gs[k]?=some r.gs[k]:=List.getElem?_eq_getElem ai
   have ar:(k:Int)<(r.gs.length:Int):=by omega
   have aD:=wrap_add ai Yd;generalize r.gs[k]=x at he;have hfl:((r.gs.take k).filter fun g=> !rn r g).length≤4294967296:=Nat.le_trans (List.length_filter_le _ _) (by simp;omega)
   have fl:(r.gs.take (k+1)).filter (fun g=> !rn r g)=(r.gs.take k).filter (fun g=> !rn r g)++if rn r x=true then[]else[x]:=by
    rw[List.take_add_one,he,List.filter_append]
    cases h:rn r x<;>simp[h]
   generalize(r.gs.take k).filter (fun g=> !rn r g)=out at*
   (refine TW.go ?_;simp[ar,bj];repeat' first|intro hc|refine U.mk ?_|refine aI ?_|refine aa ?_ ?_)
   refine tL (fun(j:Nat)=>⟨[(1,.s (.ptr 0 0)),(3,.s (.own 1)),(4,gI .i64 (k:Nat)),(5,gB ((r.bG.take j).any fun s=>decide (s.2=x))),(6,gI .i64 (j:Nat))],[(0,.box ((bj r).map .r)),(1,jf out)],2⟩) (fun j=>j≤r.bG.length) (fun j=>r.bG.length-j) 0 (by omega)
    (Wk.own [0,1] [] (by simp) (by simp) (by simp[bj]) (by simp) (by simp)) fun j hj=>?_
   by_cases Wd:j<r.bG.length
   ·have VJ:r.bG[j]?=some r.bG[j]:=List.getElem?_eq_getElem Wd
    have We:(j:Int)<(r.bG.length:Int):=by omega
    have sv:=wrap_add Wd hlen;generalize r.bG[j]=y at VJ;have hsj:((r.bG.take (j+1)).any fun s=>decide (s.2=x))=((r.bG.take j).any (fun s=>decide (s.2=x))||decide (y.2=x)):=by
     rw[List.take_add_one,VJ,List.any_append];simp
    generalize(r.bG.take j).any (fun s=>decide (s.2=x))=f at*
    cases f
    ·(refine TW.go ?_;simp[We,ar,he,VJ,sv,bj,jV];repeat' first|intro hc|refine U.mk ?_|refine aI ?_|refine aa ?_ ?_)
     exact⟨j+1,by omega,by omega,Wk.own [0,1] [] (by simp) (by simp[hsj]) (by simp[bj]) (by simp) (by simp)⟩
    ·(refine TW.go ?_;simp[We,ar,he,VJ,sv,bj,jV];repeat' first|intro hc|refine U.mk ?_|refine aI ?_|refine aa ?_ ?_)
     exact⟨j+1,by omega,by omega,Wk.own [0,1] [] (by simp) (by simp[hsj]) (by simp[bj]) (by simp) (by simp)⟩
   ·obtain rfl:j=r.bG.length:=by omega
    rw[List.take_length,show(r.bG.any fun s=>decide (s.2=x))=rn r x from rfl]
    cases ha:rn r x
    ·rw[ha]at fl
     (refine TW.go ?_;simp[ar,he,aD,bj,maxLen];repeat' first|intro hc|refine U.mk ?_|refine aI ?_|refine aa ?_ ?_)
     exact⟨k+1,by omega,by omega,Wk.own [0,3] [] (by simp) (by simp) (by simp[bj,fl]) (by simp) (by simp)⟩
    ·rw[ha]at fl
     (refine TW.go ?_;simp[ar,he,aD,bj,maxLen];repeat' first|intro hc|refine U.mk ?_|refine aI ?_|refine aa ?_ ?_)
     exact⟨k+1,by omega,by omega,Wk.own [0,1] [] (by simp) (by simp) (by simp[bj,fl]) (by simp) (by simp)⟩
  ·obtain rfl:k=r.gs.length:=by omega
   rw[List.take_length];(refine TW.go ?_;simp[bj];repeat' first|intro hc|refine U.mk ?_|refine aI ?_|refine aa ?_ ?_)
   exact oW [] [1]
theorem AK (w:aL)(n:Int)(h:oH w):TC Tw.prog E 149 [gW w,gI .i64 n] 0 [] (gW (m_ w n)) []:=by
 have Tx:=h.Qm;have Qp:=h.rl;have iI:=h.sl;have yg:=h.nl;refine tE Tryz.f149 Tryz.ntmps149 (by rw[Tryz.results149]) ?_
 by_cases hn:1≤n∧n≤31
 ·by_cases hl:w.aP.length<12
  ·have aY:¬12≤(w.aP.length:Int):=by omega
   obtain⟨b1,b2⟩:=JK hn.1 hn.2;have wQ:bm (w.aP.length:Int)=true:=by simp[bm];omega
   have hB:=MJ (E:=E) n (by omega) hn.2
   have hA:=CX (E:=E) ⟨w.aP++[ky n],w.aU,w.rounds++[⟨w.aP.length,ky n,[]⟩],w.bP++[false],w.cb⟩ w.aP.length (ky n) yg;rw[m_,if_pos ⟨hn.1,hn.2,hl⟩];generalize ky n=S at*;generalize k_ ⟨w.aP++[S],w.aU,w.rounds++[⟨w.aP.length,S,[]⟩],w.bP++[false],w.cb⟩ w.aP.length S=v at*;simp[gW,wT,MA,MB,Te,bj]at hA;have hR:=yp (E:=E) (w.aP.length:Int) S wQ b1 (by have:=b2.2.1;omega)
   (refine TW.go ?_;simp[wT,hn,aY,wQ,maxLen];repeat' first|intro hc|refine U.mk ?_|refine aI ?_|refine aa ?_ ?_|(refine cP ?_;(first|refine⟨_,dT _ _ _,?_⟩|refine⟨_,hB,?_⟩);simp[wT,hn,aY,wQ,maxLen])|(refine cF [] 5 ?_;refine⟨_,_,fT w h,?_⟩;simp[wT,hn,aY,wQ,maxLen])|(refine cF [] 2 ?_;refine⟨_,_,hR,?_⟩;simp[wT,hn,aY,wQ,maxLen])|(refine cF [11,3,13,15,6] 0 ?_;refine⟨_,_,hA,?_⟩;simp[wT,hn,aY,wQ,maxLen]))
   refine aE.own [] [] (by simp;rfl) (by simp[wT]) (by simp) (by simp) (by simp[wT]) (by simp)
  ·have aY:12≤(w.aP.length:Int):=by omega
   rw[m_,if_neg (by omega)]
   (refine TW.go ?_;simp[wT,hn,aY];repeat' first|intro hc|refine U.mk ?_|refine aI ?_|refine aa ?_ ?_|(refine cP ?_;refine⟨_,dT _ _ _,?_⟩;simp[wT,hn,aY]))
   refine aE.own [] [] (by simp;rfl) (by simp[wT]) (by simp) (by simp) (by simp[wT]) (by simp)
 ·rw[m_,if_neg (by omega)]
  (refine TW.go ?_;simp[wT,hn];repeat' first|intro hc|refine U.mk ?_|refine aI ?_|refine aa ?_ ?_|(refine cP ?_;refine⟨_,dT _ _ _,?_⟩;simp[wT,hn]))
  refine aE.own [] [] (by simp;rfl) (by simp[wT]) (by simp) (by simp) (by simp[wT]) (by simp)
end Go.Proofs.YtjklkppncmhehaaGreat.T
