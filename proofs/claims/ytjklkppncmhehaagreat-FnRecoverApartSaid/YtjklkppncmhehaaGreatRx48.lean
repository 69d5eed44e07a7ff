/-
What is proved: what the program's and the reference's RecoverAll do to trees: the same. Conditions: the lengths that each states. what a recovery that succeeds says of the stamps of all messages, as plain lists. No condition but those that the theorems state. what the laws' comparisons, the program's traces, the draw of a recovery and the reference's recovery do to trees. Conditions: those that each states. the law FnRecoverAll over trees: it answers true, or escapes. No condition but that the code is bytes. how a code that a law takes reads: a slice of bytes. No program's text is walked. a law whose lone run over the second program answers true over trees, or escapes, does so for every code that came in ('law_of_tree'). Conditions: those that the theorem states.
-/
import Derived.Test.YtjklkppncmhehaaGreatRx46
import Derived.Test.YtjklkppncmhehaaGreatRx47
import Derived.Test.YtjklkppncmhehaaGreatRows
import Derived.Test.YtjklkppncmhehaaGreatRx34
import Derived.WalkKit
import Derived.ProofKit
import Derived.OpenShut
import Derived.ChangeOld
import Derived.Lib.SmallJoins
import Derived.Test.YtjklkppncmhehaaGreatRx26
import Derived.Test.YtjklkppncmhehaaGreatRx40
set_option linter.unusedVariables false
set_option linter.unusedSimpArgs false
namespace Go.Proofs.YtjklkppncmhehaaGreat.T
open Go Go.RowKit
set_option maxRecDepth 100000
set_option maxHeartbeats 4000000
variable {E:List PanicEntry→World→Prop}
theorem B6 (gs:List aq)(h:cz gs 4294967296):TC Tw.prog E 66 [gR (bO gs)] 0 [] (.s (.own 0)) [(0,kA gs)]:=by
 obtain⟨hl,hg⟩:=h;refine tE Tryz.f66 Tryz.ntmps66 (by rw[Tryz.results66]) ?_
 have hlen:gs.length≤maxLen:=by simp only[maxLen];omega
 (refine TW.go ?_;simp;repeat' first|intro hc|refine U.mk ?_|refine aI ?_|refine aa ?_ ?_)
 refine tL (fun k=>⟨[(3,.s (.own 0)),(7,gR (bO gs)),(8,gI .i64 gs.length),(9,gI .i64 (k:Nat))],[(0,kA (gs.take k))],1⟩) (fun k=>k≤gs.length) (fun k=>gs.length-k) 0 (by omega) (kO [0] []) fun k hk=>?_
 by_cases ai:k<gs.length
 ·have he:gs[k]?=some gs[k]:=List.getElem?_eq_getElem ai
  have E7:=hg gs[k] (List.getElem_mem ai);(refine TW.go ?_;simp[ai,he,af,wrap_add ai hlen,maxLen];repeat' first|intro hc|refine U.mk ?_|refine aI ?_|refine aa ?_ ?_|(refine cF [] 2 ?_;refine⟨_,_,pT _ E7,?_⟩;simp[ai,he,af,wrap_add ai hlen,maxLen]))
  refine⟨k+1,by omega,by omega,Wk.own [5] [] (by simp) (by simp) (by simp[jK he,af]) (by simp) (by simp)⟩
 ·obtain rfl:k=gs.length:=by omega
  (refine TW.go ?_;simp;repeat' first|intro hc|refine U.mk ?_|refine aI ?_|refine aa ?_ ?_)
  exact oW [0] []
theorem TT {gs:List aq}{n:Nat}(h:cz gs n)(hv:∀g∈gs,aT g=true):∀g∈gs,fg g (n+n):=fun g hg=>by
 obtain⟨a,b⟩:=h.2 g hg;exact⟨by omega,(rY (hv g hg)).2.1.1⟩
theorem c7 (gs:List aq)(set:List Int)(m:Int)(h:cz gs 4000):
  (im gs set m=false∧TC Tw.prog cf 23 [gR (bO gs),gR (bg set),gI .i64 m] 0 [] (.p [.s (.r .nil),gB false]) [])∨
  (im gs set m=true∧TC Tw.prog cf 23 [gR (bO gs),gR (bg set),gI .i64 m] 0 [] (.p [gR (bO (bb gs set m).1),gB (bb gs set m).2]) []):=by
 have hR:=AU gs set m ⟨by have:=h.1;omega,fun g hg=>by have:=h.2 g hg;exact⟨by have:=this.1;omega,by have:=this.2;omega⟩⟩
 cases cl:im gs set m
 ·refine .inl ⟨rfl,?_⟩
  rw[cl]at hR;refine tE Tryz.f23 Tryz.ntmps23 (by rw[Tryz.results23]) ?_
  (refine TW.go ?_;simp;repeat' first|intro hc|refine U.mk ?_|refine aI ?_|refine aa ?_ ?_|(refine cP ?_;refine⟨_,hR,?_⟩;simp))
  exact oW [] []
 ·refine .inr ⟨rfl,?_⟩
  rw[cl]at hR;have h0:=cl;simp only[im,Bool.and_eq_true]at h0;obtain⟨⟨h1,h2⟩,hm⟩:=h0;obtain⟨hn,iI,hr⟩:=iS h2;have h5:=c_ h1;have hv:=vD h1;have hg:=TT h hv;have cX:0<set.length:=List.length_pos_iff.2 hn
  have hlen:set.length≤maxLen:=by simp only[maxLen];omega
  have wJ:cz gs 4294967296:=⟨by omega,fun g h=>by have:=(hg g h).1;exact⟨by omega,by omega⟩⟩
  have QH:=B6 (E:=cf) gs wJ;have hD:bb gs set m=if(dK gs set m).2=true then((dK gs set m).1,true)else(gs,false):=by rw[bb,if_pos cl]
  refine tE Tryz.f23 Tryz.ntmps23 (by rw[Tryz.results23]) ?_
  (refine TW.go ?_;simp;repeat' first|intro hc|refine U.mk ?_|refine aI ?_|refine aa ?_ ?_|(refine cP ?_;refine⟨_,hR,?_⟩;simp)|(refine cF [] 1 ?_;refine⟨_,_,QH,?_⟩;simp))
  refine tL (fun(k:Nat)=>⟨[(0,gR (bO gs)),(1,gR (bg set)),(2,gI .i64 m),(8,.s (.own 0)),(24,gR (bg set)),(25,gI .i64 set.length),(26,gI .i64 (k:Nat))],[(0,kA (aF gs m (set.take k)))],1⟩) (fun k=>k≤set.length) (fun k=>set.length-k) 0 (by omega) (Wk.own [0] [] (by simp) (by simp) (by simp[aF]) (by simp) (by simp)) fun k hk=>?_
  by_cases ai:k<set.length
  ·have he:set[k]?=some set[k]:=List.getElem?_eq_getElem ai
   obtain⟨g0,g1⟩:=hr _ (List.getElem_mem ai);generalize hx:set[k]=x at he g0 g1;have ar:(k:Int)<(set.length:Int):=by omega
   have aD:=wrap_add ai hlen;obtain⟨n5,nN⟩:=kz (n:=9000) m (set.take k) gs 8000 (hr.take k) h5 hg (by simp;omega)
   have nv:=nP hm (set:=set.take k) (hr.take k) h5 hv;have fl:aF gs m (set.take (k+1))=(aF gs m (set.take k)).set x.toNat (au (aB (aF gs m (set.take k)) x.toNat) m).1:=dY _ _ he
   have ym:x.toNat<(aF gs m (set.take k)).length:=by omega
   have hG:=dt ym;have hN:=nN _ (List.mem_of_getElem? hG);have hV:=nv _ (List.mem_of_getElem? hG);have hle:eE (aB (aF gs m (set.take k)) x.toNat) 4294967280:=by have:=hN.1;exact⟨by omega,by omega⟩
   have hx5:x<5:=g1
   generalize aF gs m (set.take k)=gk at*;generalize VG:aB gk x.toNat=G at*;have hP:=yn (E:=cf) G m hle hV hm;(refine TW.go ?_;simp[ar,he,g0,hG,af,aD,maxLen];repeat' first|intro hc|refine U.mk ?_|refine aI ?_|refine aa ?_ ?_|(refine cF [] 2 ?_;refine⟨_,_,hP,?_⟩;simp[ar,he,g0,hG,af,aD,maxLen]))
   exact⟨k+1,by omega,by omega,Wk.own [0] [] (by simp) (by simp) (by simp[fl,af]) (by simp) (by simp)⟩
  ·obtain rfl:k=set.length:=by omega
   obtain⟨n5,nN⟩:=kz (n:=9000) m set gs 8000 hr h5 hg (by omega)
   have nv:=nP hm (set:=set) hr h5 hv;have hA:dK gs set m=if(aJ (aF gs m set) set m).2=true then(bD (aF gs m set) m (aJ (aF gs m set) set m).1 set,c9 (bD (aF gs m set) m (aJ (aF gs m set) set m).1 set) m set)
    else(aF gs m set,false):=rfl
   simp only[List.take_length];generalize aF gs m set=g1 at*;have hL:∀{G:List aq},G.length=5→(∀g∈G,fg g 9000)→cz G 4294967290:=fun h5 hN=>⟨by omega,fun g hg=>by have:=(hN g hg).1;exact⟨by omega,by omega⟩⟩
   have hF:=B4 g1 set m (hL n5 nN) n5 hn iI hr;rw[QG nv n5 hr]at hF
   cases bk:(aJ g1 set m).2
   ·rw[bk]at hF
    rw[show bb gs set m=(gs,false) by rw[hD,hA,bk];rfl]
    (refine TW.go ?_;simp;repeat' first|intro hc|refine U.mk ?_|refine aI ?_|refine aa ?_ ?_|(refine cK [0] ?_;refine⟨_,hF,?_⟩;simp)|(refine cF [] 1 ?_;refine⟨_,_,QH,?_⟩;simp))
    exact oW [] [2]
   ·have vF:=vE nv n5 hr hn bk
    rw[bk]at hF;rw[if_pos bk]at hA;generalize(aJ g1 set m).1=s at*;(refine TW.go ?_;simp;repeat' first|intro hc|refine U.mk ?_|refine aI ?_|refine aa ?_ ?_|(refine cK [0] ?_;refine⟨_,hF,?_⟩;simp)|(refine cF [] 1 ?_;refine⟨_,_,QH,?_⟩;simp))
    refine tL (fun(k:Nat)=>⟨[(0,gR (bO gs)),(1,gR (bg set)),(2,gI .i64 m),(8,.s (.own 0)),(11,.s (.ptr 1 0)),(55,gR (bg set)),(56,gI .i64 set.length),(57,gI .i64 (k:Nat))],[(0,kA (bD g1 m s (set.take k))),(1,.box [.r (rI s.1),.r (rI s.2)])],2⟩) (fun k=>k≤set.length) (fun k=>set.length-k) 0 (by omega) (Wk.own [0,1] [] (by simp) (by simp) (by simp[bD]) (by simp) (by simp)) fun k hk=>?_
    by_cases ai:k<set.length
    ·have he:set[k]?=some set[k]:=List.getElem?_eq_getElem ai
     obtain⟨g0,Bn⟩:=hr _ (List.getElem_mem ai);generalize hx:set[k]=x at he g0 Bn;have ar:(k:Int)<(set.length:Int):=by omega
     have aD:=wrap_add ai hlen;obtain⟨f5,fN⟩:=mi (n:=9000) m s (set.take k) g1 (hr.take k) n5 nN;have fv:=p9 hm vF (set:=set.take k) (hr.take k) n5 nv;have fl:bD g1 m s (set.take (k+1))=(bD g1 m s (set.take k)).set x.toNat (aO (aB (bD g1 m s (set.take k)) x.toNat) m s.1 s.2).1:=dY _ _ he
     have ym:x.toNat<(bD g1 m s (set.take k)).length:=by omega
     have hG:=dt ym;have hN:=fN _ (List.mem_of_getElem? hG);have hV:=fv _ (List.mem_of_getElem? hG);have hle:=hN.mono (n':=4294967280) (by omega)
     generalize bD g1 m s (set.take k)=gk at*;generalize VG:aB gk x.toNat=G at*;rcases B5 (E:=cf) G m s.1 s.2 hle hV hm vF with⟨e,hP⟩|⟨e,hP⟩
     ·rw[e]at fl
      (refine TW.go ?_;simp[ar,he,g0,hG,af,aD,maxLen];repeat' first|intro hc|refine U.mk ?_|refine aI ?_|refine aa ?_ ?_|(refine cF [] 2 ?_;refine⟨_,_,hP,?_⟩;simp[ar,he,g0,hG,af,aD,maxLen]))
      all_goals exact⟨k+1,by omega,by omega,Wk.own [0,1] [] (by simp) (by simp) (by simp[fl,af]) (by simp) (by simp)⟩
     ·(refine TW.go ?_;simp[ar,he,g0,hG,af,aD,maxLen];repeat' first|intro hc|refine U.mk ?_|refine aI ?_|refine aa ?_ ?_|(refine cF [] 3 ?_;refine⟨_,_,hP,?_⟩;simp[ar,he,g0,hG,af,aD,maxLen]))
      all_goals exact⟨k+1,by omega,by omega,Wk.own [0,1] [] (by simp) (by simp) (by simp[fl,af]) (by simp) (by simp)⟩
    ·obtain rfl:k=set.length:=by omega
     simp only[List.take_length];obtain⟨f5,fN⟩:=mi (n:=9000) m s set g1 hr n5 nN;have fv:=p9 hm vF (set:=set) hr n5 nv;generalize bD g1 m s set=g2 at*;have hE:=pX g2 set m (hL f5 fN) f5 hn iI hr;have vA:(gr g2 m set).length=set.length:=by simp
     have dQ:∀(k:Nat) g,set[k]?=some g→(gr g2 m set)[k]?=some (gp (aB g2 g.toNat) m):=fun k g hg=>by simp[List.getElem?_map,hg]
     generalize gr g2 m set=A at*;refine TW.weaken ⟨[(0,gR (bO gs)),(1,gR (bg set)),(2,gI .i64 m),(8,gR (bO g2)),(56,gI .i64 set.length),(57,gI .i64 set.length)],[],0⟩ (kO [] [0]) ?_;(refine TW.go ?_;simp[vA];repeat' first|intro hc|refine U.mk ?_|refine aI ?_|refine aa ?_ ?_|(refine cF [] 1 ?_;refine⟨_,_,hE,?_⟩;simp[vA]))
     refine tL (fun(k:Nat)=>⟨[(0,gR (bO gs)),(8,gR (bO g2)),(79,gR (.sl 5 A)),(80,gI .i64 set.length),(81,gI .i64 (k:Nat))],[],0⟩) (fun k=>k≤set.length∧c9 g2 m (set.take k)=true) (fun k=>set.length-k) 0 ⟨by omega,by simp[c9]⟩ (kO [] [0]) fun k hk=>?_
     obtain⟨hk,jN⟩:=hk;by_cases ai:k<set.length
     ·have he:set[k]?=some set[k]:=List.getElem?_eq_getElem ai
      obtain⟨g0,Bn⟩:=hr _ (List.getElem_mem ai);generalize hx:set[k]=x at he g0 Bn;have AY:=dQ k _ he;have ar:(k:Int)<(set.length:Int):=by omega
      have aD:=wrap_add ai hlen;have fl:=tb (gs:=g2) (m:=m) he;rw[jN,Bool.true_and]at fl;have hV:=fv _ (List.mem_of_getElem? (dt (gs:=g2) (i:=x.toNat) (by omega)))
      generalize aB g2 x.toNat=G at*;have NM:(di G m&&(bo G m).f)=false→c9 g2 m set=false:=fun h=>by rw[h]at fl;exact rz fl
      simp only[gp,pS,db,hV,if_true,Bool.true_and]at AY
      cases hb:di G m
      ·rw[hb,Bool.false_and]at NM
       rw[show bb gs set m=(gs,false) by rw[hD,hA,NM rfl];rfl]
       rw[hb]at AY;(refine TW.go ?_;simp[ar,AY,aD];repeat' first|intro hc|refine U.mk ?_|refine aI ?_|refine aa ?_ ?_|(refine cF [] 1 ?_;refine⟨_,_,QH,?_⟩;simp[ar,AY,aD]))
       exact oW [] [1]
      ·rw[hb,Bool.true_and]at NM fl
       rw[hb]at AY
       cases hf:(bo G m).f
       ·rw[show bb gs set m=(gs,false) by rw[hD,hA,NM hf];rfl]
        rw[hf]at AY;(refine TW.go ?_;simp[ar,AY,aD];repeat' first|intro hc|refine U.mk ?_|refine aI ?_|refine aa ?_ ?_|(refine cF [] 1 ?_;refine⟨_,_,QH,?_⟩;simp[ar,AY,aD]))
        exact oW [] [1]
       ·rw[hf]at AY fl
        (refine TW.go ?_;simp[ar,AY,aD];repeat' first|intro hc|refine U.mk ?_|refine aI ?_|refine aa ?_ ?_|(refine cF [] 1 ?_;refine⟨_,_,QH,?_⟩;simp[ar,AY,aD]))
        exact⟨k+1,⟨by omega,fl⟩,by omega,kS⟩
     ·obtain rfl:k=set.length:=by omega
      rw[List.take_length]at jN;rw[show bb gs set m=(g2,true) by rw[hD,hA,jN];rfl]
      (refine TW.go ?_;simp;repeat' first|intro hc|refine U.mk ?_|refine aI ?_|refine aa ?_ ?_)
      refine aE.nil (r:= .p [gR (bO g2),gB true]) ?_ rfl;simp
end Go.Proofs.YtjklkppncmhehaaGreat.T
namespace Go.Proofs.YtjklkppncmhehaaGreat.T
open Go Go.RowKit
theorem rE (g:aq)(m:Int):bC g m=(g.ao++g.done).find? (fun e=>decide (e.m=m)):=by
 unfold bC;rw[List.find?_append]
 cases g.ao.find? (fun e=>decide (e.m=m))<;>rfl
theorem Tl.yo {g:aq}(k:Tl g):(g.ao++g.done).Pairwise (fun a b=>a.m≠b.m):=List.pairwise_append.2 ⟨k.pl.yo,k.dl.yo,fun a ha b hb=>k.dp b hb a ha⟩
theorem wY {m:Int}{e:an}:∀{L:List an},L.Pairwise (fun a b=>a.m≠b.m)→(L.find? (fun e=>decide (e.m=m))=some e↔e∈L∧e.m=m)
 |[],_=>by simp
 |x::L,h=>by
  rw[List.pairwise_cons]at h;by_cases hx:x.m=m
  ·rw[List.find?_cons_of_pos (by simpa using hx)]
   constructor
   ·intro e1;cases e1;exact⟨by simp,hx⟩
   ·rintro⟨h1,h2⟩
    rcases List.mem_cons.1 h1 with rfl|h1
    ·rfl
    ·exact absurd (hx.trans h2.symm) (h.1 e h1)
  ·rw[List.find?_cons_of_neg (by simpa using hx),wY h.2]
   constructor
   ·rintro⟨h1,h2⟩;exact⟨by simp[h1],h2⟩
   ·rintro⟨h1,h2⟩
    rcases List.mem_cons.1 h1 with rfl|h1
    ·exact absurd h2 hx
    ·exact⟨h1,h2⟩
theorem uh {L K:List an}(h:L.Pairwise (fun a b=>a.m≠b.m))(p:L.Perm K)(m:Int):L.find? (fun e=>decide (e.m=m))=K.find? (fun e=>decide (e.m=m)):=by
 have h':K.Pairwise (fun a b=>a.m≠b.m):=(p.pairwise_iff (fun h=>Ne.symm h)).1 h
 apply Option.ext
 intro e;rw[wY h,wY h',p.mem_iff]
theorem C4 {g:aq}{m:Int}:di g m=false↔g.ao.find? (fun e=>decide (e.m=m))=none∧g.done.find? (fun e=>decide (e.m=m))=none:=by
 unfold di bC
 cases g.ao.find? (fun e=>decide (e.m=m))<;>simp
theorem p_ {g:aq}{m:Int}(h:di g m=true):(au g m).1=g:=by
 unfold au;split
 ·split<;>rfl
 ·rename_i h1
  split
  ·rfl
  ·rename_i h2
   rw[C4.2 ⟨h1,h2⟩]at h;cases h
theorem C5 {g:aq}{m:Int}(h:di g m=false):(au g m).1=g∨(au g m).1=⟨g.id,g.clock+1,g.ao++[⟨m,g.clock+1,g.id,false⟩],g.done⟩∧bC (au g m).1 m=some ⟨m,g.clock+1,g.id,false⟩:=by
 obtain⟨h1,h2⟩:=C4.1 h;unfold au;rw[h1,h2];simp only
 split
 ·exact .inl rfl
 ·refine .inr ⟨rfl,?_⟩
  unfold bC;simp only[List.find?_append,h1,Option.none_or];simp
theorem xS {g:aq}{m:Int}(h:di (au g m).1 m=true)(hf:(bo (au g m).1 m).f=true):(au g m).1=g∧di g m=true:=by
 cases hs:di g m
 ·rcases C5 hs with e|⟨-,e⟩
  ·rw[e,hs]at h;cases h
  ·rw[bo,e]at hf;cases hf
 ·exact⟨p_ hs,rfl⟩
theorem xU {g:aq}{m k:Int}(h:k≠m):bC (au g m).1 k=bC g k∧(au g m).1.done=g.done:=by
 cases hs:di g m
 ·rcases C5 hs with e|⟨e, -⟩
  ·rw[e];exact⟨rfl,rfl⟩
  ·rw[e]
   refine⟨?_,rfl⟩;unfold bC;simp only[List.find?_append];have:¬m=k:=fun e=>h e.symm
   simp[this]
 ·rw[p_ hs];exact⟨rfl,rfl⟩
theorem AZ {g:aq}{m t s:Int}(h:aT g=true):(aO g m t s)=(g,[],false)∨∃(e:an) (rest pre:List an),e.m=m∧e.f=false∧bC g m=some e∧(g.ao++g.done).Perm (e::rest)∧
  ((aO g m t s).1.ao++(aO g m t s).1.done).Perm (⟨m,t,s,true⟩::rest)∧(aO g m t s).1.done=g.done++pre∧(aO g m t s).2.1=pre.map an.m∧(aO g m t s).2.2=true:=by
 rcases pU g m t s with e|⟨j,e,he,n_,VH,EY,hl,hs,eq⟩
 ·exact .inl e
 ·right
  obtain⟨pre,p1,p2,p3, -, -⟩:=wM (ep (g.ao.eraseIdx j) m t s) g.done [];have hj:j<g.ao.length:=(List.getElem?_eq_some_iff.1 he).1
  refine⟨e,g.ao.eraseIdx j++g.done,pre,n_,VH,by rw[bC,EY],?_,?_,by rw[eq];exact p2,by rw[eq];simpa using p3,by rw[eq]⟩
  ·rw[←List.cons_append]
   refine List.Perm.append_right _ ?_;have h1:g.ao=g.ao.take j++e::g.ao.drop (j+1):=by
    obtain⟨_,rfl⟩:=List.getElem?_eq_some_iff.1 he;rw[←List.drop_eq_getElem_cons hj,List.take_append_drop]
   rw[List.eraseIdx_eq_take_drop_succ];conv=>lhs;rw[h1]
   exact List.perm_middle
  ·rw[eq]
   simp only[p2];have hp:=AG (g.ao.eraseIdx j) m t s;rw[p1]at hp;rw[←List.cons_append];refine List.Perm.trans ?_ (List.Perm.append_right g.done hp);generalize(dF (ep (g.ao.eraseIdx j) m t s) g.done []).1=A;rw[←List.append_assoc];refine List.perm_append_comm.trans ?_;rw[←List.append_assoc]
theorem J' {g:aq}{m:Int}(h:(bo g m).f=true)(hs:di g m=true)(t s:Int):aO g m t s=(g,[],false):=by
 rcases pU g m t s with e|⟨j,e, -, -,VH,EY, -⟩
 ·exact e
 ·rw[bo,bC,EY]at h
  simp only[Option.getD_some]at h;rw[VH]at h;cases h
theorem vG {g:aq}{m k t s:Int}(h:aT g=true)(hk:k≠m)(hm:bm m=true)(hs:aS t s=true):bC (aO g m t s).1 k=bC g k∧∃pre,(aO g m t s).1.done=g.done++pre:=by
 have h':=wN (t:=t) (s:=s) h hm hs;rcases AZ (m:=m) (t:=t) (s:=s) h with e|⟨e,rest,pre,n_, -, -,p1,p2,p3, -⟩
 ·rw[e];exact⟨rfl,[],by simp⟩
 ·refine⟨?_,pre,p3⟩
  rw[rE,rE,uh (jh.1 h').yo p2,uh (jh.1 h).yo p1,List.find?_cons_of_neg (by simpa using fun e=>hk e.symm),List.find?_cons_of_neg (by simp[n_];exact fun e=>hk e.symm)]
theorem FF {g:aq}{m t s:Int}(h:aT g=true)(hm:bm m=true)(hs:aS t s=true):aO g m t s=(g,[],false)∨bC (aO g m t s).1 m=some ⟨m,t,s,true⟩:=by
 have h':=wN (t:=t) (s:=s) h hm hs;rcases AZ (m:=m) (t:=t) (s:=s) h with e|⟨e,rest,pre,n_, -, -,p1,p2,p3, -⟩
 ·exact .inl e
 ·right
  rw[rE,uh (jh.1 h').yo p2,List.find?_cons_of_pos (by simp)]
structure Rec (gs:List aq) (set:List Int) (m:Int) (s:Int×Int) (out:List aq):Prop where
 len:out.length=5
 ok:∀i:Nat,i<5→aT (aB out i)=true
 off:∀i:Nat,i<5→(i:Int)∉set→aB out i=aB gs i
 on:∀i:Nat,i<5→(i:Int)∈set→aB out i=(aO (au (aB gs i) m).1 m s.1 s.2).1
 st:∀g∈set,di (aB out g.toNat) m=true∧(bo (aB out g.toNat) m).f=true∧((bo (aB out g.toNat) m).t,(bo (aB out g.toNat) m).g)=s
 bK:∀g∈set,di (aB gs g.toNat) m=true→aK s.1 s.2 (bo (aB gs g.toNat) m).t (bo (aB gs g.toNat) m).g=false∧((bo (aB gs g.toNat) m).f=true→((bo (aB gs g.toNat) m).t,(bo (aB gs g.toNat) m).g)=s)
 other:∀i:Nat,i<5→∀k,k≠m→bC (aB out i) k=bC (aB gs i) k
 pre:∀i:Nat,i<5→∃p,(aB out i).done=(aB gs i).done++p
theorem TU {gs:List aq}{set:List Int}{m:Int}(h:im gs set m=true)(ha:(dK gs set m).2=true):∃s,aS s.1 s.2=true∧Rec gs set m s (dK gs set m).1:=by
 have h0:=h;simp only[im,Bool.and_eq_true]at h0;obtain⟨⟨h1,h2⟩,hm⟩:=h0;obtain⟨bY,hl5,hr⟩:=iS h2;have Ka:=wX h2;have h5:=c_ h1;have hv:=vD h1;obtain⟨p5,pA⟩:=vC m hr Ka h5;have pv:=nP hm hr h5 hv;have bk:(aJ (aF gs m set) set m).2=true:=by
  cases hx:(aJ (aF gs m set) set m).2
  ·unfold dK at ha;rw[hx]at ha;cases ha
  ·rfl
 have vF:=vE pv p5 hr bY bk;have hA:dK gs set m=(bD (aF gs m set) m (aJ (aF gs m set) set m).1 set,c9 (bD (aF gs m set) m (aJ (aF gs m set) set m).1 set) m set):=by
  unfold dK;rw[if_pos bk]
 rw[hA]at ha⊢;have Ya:aJ (aF gs m set) set m=((aJ (aF gs m set) set m).1,true):=by rw[←bk]
 generalize(aJ (aF gs m set) set m).1=s at*;obtain⟨f5,fA⟩:=yG m s hr Ka p5;have fv:=p9 hm vF hr p5 pv;have TX:∀i:Nat,i<5→aT (aB gs i)=true:=fun i hi=>pZ h1 hi
 have on:∀i:Nat,i<5→(i:Int)∈set→aB (bD (aF gs m set) m s set) i=(aO (au (aB gs i) m).1 m s.1 s.2).1:=fun i hi fY=>by rw[fA i hi,if_pos fY,pA i hi,if_pos fY]
 have off:∀i:Nat,i<5→(i:Int)∉set→aB (bD (aF gs m set) m s set) i=aB gs i:=fun i hi fY=>by rw[fA i hi,if_neg fY,pA i hi,if_neg fY]
 have pAt:∀g∈set,aB (aF gs m set) g.toNat=(au (aB gs g.toNat) m).1:=fun g hg=>by
  have:=hr g hg
  rw[pA g.toNat (by omega),if_pos (by rw[show((g.toNat:Nat):Int)=g by omega];exact hg)]
 have oAt:∀g∈set,aB (bD (aF gs m set) m s set) g.toNat=(aO (au (aB gs g.toNat) m).1 m s.1 s.2).1:=fun g hg=>by
  have:=hr g hg
  exact on g.toNat (by omega) (by rw[show((g.toNat:Nat):Int)=g by omega];exact hg)
 have bK:∀g∈set,di (aB gs g.toNat) m=true→aK s.1 s.2 (bo (aB gs g.toNat) m).t (bo (aB gs g.toNat) m).g=false∧((bo (aB gs g.toNat) m).f=true→((bo (aB gs g.toNat) m).t,(bo (aB gs g.toNat) m).g)=s):=by
  intro g hg hk;have C6:=Ya;unfold aJ at C6;split at C6
  ·rename_i s' he
   cases C6;obtain⟨a,TY,a1,a2,a3⟩:=uf he;rw[pAt a TY]at a1 a2 a3;obtain⟨e1,e2⟩:=xS a1 a2;rw[e1]at a1 a2 a3;have hp:=QF h1 hm (i:=a.toNat) (k:=g.toNat) (by have:=hr a TY;omega) (by have:=hr g hg;omega)
   simp only[lE,a1,a2,hk]at hp
   cases hf:(bo (aB gs g.toNat) m).f
   ·simp[hf]at hp
    refine⟨?_,fun h=>by cases h⟩
    rw[a3];exact hp
   ·simp[hf]at hp
    refine⟨?_,fun _=>?_⟩
    ·rw[a3];simp only;rw[hp.1,hp.2];exact mf _ _
    ·rw[a3,hp.1,hp.2]
  ·rename_i l he
   split at C6
   ·cases C6
   ·rename_i hlen
    cases C6;obtain⟨-,k2,k3,k4⟩:=ug he;have hG:=p_ hk;have:=k2 g hg
    rw[pAt g hg,hG]at this;obtain⟨e1,e2⟩:=this hk;refine⟨?_,fun h=>by rw[e1]at h;cases h⟩
    rcases l with _|⟨x,xs⟩
    ·cases e2
    ·obtain⟨m1,m2,m3⟩:=J9 x xs
     rcases List.mem_cons.1 e2 with h|h
     ·subst h;exact m1
     ·exact m2 _ h
 refine⟨s,vF,f5,fun i hi=>fv _ (iQ (by omega)),off,on,fun g hg=>?_,bK,fun i hi k hk=>?_,fun i hi=>?_⟩
 ·have jN:di (aB (bD (aF gs m set) m s set) g.toNat) m=true∧(bo (aB (bD (aF gs m set) m s set) g.toNat) m).f=true:=by
   have:=List.all_eq_true.1 ha g hg
   simpa using this
  refine⟨jN.1,jN.2,?_⟩;have tO:=hr g hg;have hP:=nM (TX g.toNat (by omega)) hm
  rw[oAt g hg]at jN⊢;rcases FF hP hm vF with e|e
  ·rw[e]at jN⊢
   simp only at jN⊢
   obtain⟨e1,e2⟩:=xS jN.1 jN.2;rw[e1]at jN⊢;exact(bK g hg e2).2 jN.2
  ·rw[bo,e];rfl
 ·by_cases fY:(i:Int)∈set
  ·rw[on i hi fY,(vG (nM (TX i hi) hm) hk hm vF).1,(xU hk).1]
  ·rw[off i hi fY]
 ·by_cases fY:(i:Int)∈set
  ·rw[on i hi fY]
   obtain⟨p,hp⟩:=(vG (k:=m+1) (nM (TX i hi) hm) (by omega) hm vF).2
   exact⟨p,by rw[hp,(xU (k:=m+1) (by omega)).2]⟩
  ·rw[off i hi fY];exact⟨[],by simp⟩
theorem MU {gs:List aq}{set:List Int}{m:Int}(bY:set≠[])(hr:cu set)(Ka:set.Pairwise (·<·))(h5:gs.length=5)(h:∀g∈set,di (aB gs g.toNat) m=true∧(bo (aB gs g.toNat) m).f=true):dK gs set m=(gs,true):=by
 obtain⟨p5,pA⟩:=vC m hr Ka h5;have tA:∀i:Nat,(i:Int)∈set→di (aB gs i) m=true∧(bo (aB gs i) m).f=true:=fun i hi=>by simpa using h _ hi
 have hP:aF gs m set=gs:=AV p5 h5 fun i hi=>by
  rw[pA i hi];split
  ·rename_i hm;exact p_ (tA i hm).1
  ·rfl
 have hS:(aJ gs set m).2=true:=by
  rcases set with _|⟨x,set⟩
  ·exact absurd rfl bY
  ·obtain⟨a,b⟩:=h x (List.mem_cons_self ..)
   unfold aJ;rw[ff,a,b];rfl
 have hA:dK gs set m=(bD gs m (aJ gs set m).1 set,c9 (bD gs m (aJ gs set m).1 set) m set):=by
  unfold dK;rw[hP,if_pos hS]
 rw[hA];generalize(aJ gs set m).1=s;obtain⟨f5,fA⟩:=yG m s hr Ka h5;have hF:bD gs m s set=gs:=AV f5 h5 fun i hi=>by
  rw[fA i hi];split
  ·rename_i hm;rw[J' (tA i hm).2 (tA i hm).1]
  ·rfl
 rw[hF];refine Prod.ext rfl ?_;show c9 gs m set=true
 exact List.all_eq_true.2 fun g hg=>by simpa using h g hg
end Go.Proofs.YtjklkppncmhehaaGreat.T
namespace Go.Proofs.YtjklkppncmhehaaGreat.T
open Go Go.RowKit
set_option maxRecDepth 100000
set_option maxHeartbeats 4000000
variable {E:List PanicEntry→World→Prop}
theorem C7 (xs:List Int)(n:Int):TC Tw.prog E 27 [gR (bg xs),gI .i64 n] 0 [] (gB (gf xs n)) []:=by
 refine tE Tryz.f27 Tryz.ntmps27 (by rw[Tryz.results27]) ?_
 refine TW.len 0 rfl fun hlen=>?_;simp only[List.length_map]at hlen;(refine TW.go ?_;simp;repeat' first|intro hc|refine U.mk ?_|refine aI ?_|refine aa ?_ ?_)
 refine tL (fun k=>⟨[(0,gR (bg xs)),(1,gI .i64 n),(5,gI .i64 (k:Nat))],[],0⟩) (fun k=>k≤xs.length∧∀(i:Nat) (x:Int),i<k→xs[i]?=some x→x≠n) (fun k=>xs.length-k) 0 ⟨by omega,fun i x hi=>by omega⟩ (kS) fun k hk=>?_
 obtain⟨hk,hf⟩:=hk;by_cases ai:k<xs.length
 ·have he:xs[k]?=some xs[k]:=List.getElem?_eq_getElem ai
  (refine TW.go ?_;simp[ai,he,wrap_add ai hlen];repeat' first|intro hc|refine U.mk ?_|refine aI ?_|refine aa ?_ ?_)
  ·refine aE.nil (r:=gB (gf xs n)) ?_ rfl
   simp[gf];exact hc▸List.getElem_mem ai
  ·refine⟨k+1,⟨by omega,fun i y hi hy=>?_⟩,by omega,kS⟩
   by_cases e:i=k
   ·subst e;rw[he]at hy;cases hy;exact hc
   ·exact hf i y (by omega) hy
 ·obtain rfl:k=xs.length:=by omega
  (refine TW.go ?_;simp;repeat' first|intro hc|refine U.mk ?_|refine aI ?_|refine aa ?_ ?_)
  refine aE.nil (r:=gB (gf xs n)) ?_ rfl;simp[gf];intro x hx e;obtain⟨i,hi,rfl⟩:=List.getElem_of_mem hx;exact hf i _ hi (List.getElem?_eq_getElem hi) e
theorem Kb (es:List Int):TC Tw.prog E 76 [gR (bg es),gR (bg es)] 0 [] (gB true) []:=by
 refine tE Tryz.f76 Tryz.ntmps76 (by rw[Tryz.results76]) ?_
 refine TW.len 0 rfl fun hlen=>?_;simp only[List.length_map]at hlen;(refine TW.go ?_;simp;repeat' first|intro hc|refine U.mk ?_|refine aI ?_|refine aa ?_ ?_)
 refine tL (fun k=>⟨[(0,gR (bg es)),(1,gR (bg es)),(5,gI .i64 (k:Nat))],[],0⟩) (fun k=>k≤es.length) (fun k=>es.length-k) 0 (by omega) (kS) fun k hk=>?_
 by_cases ai:k<es.length
 ·have he:es[k]?=some es[k]:=List.getElem?_eq_getElem ai
  have ar:(k:Int)<(es.length:Int):=by omega
  have aD:=wrap_add ai hlen;generalize es[k]=e at he;(refine TW.go ?_;simp[ar,he,aD];repeat' first|intro hc|refine U.mk ?_|refine aI ?_|refine aa ?_ ?_)
  exact⟨k+1,by omega,by omega,kS⟩
 ·obtain rfl:k=es.length:=by omega
  (refine TW.go ?_;simp;repeat' first|intro hc|refine U.mk ?_|refine aI ?_|refine aa ?_ ?_)
  exact oW [] []
theorem xV (a b:List Int)(hb:b.take a.length=a):TC Tw.prog E 29 [gR (bg a),gR (bg b)] 0 [] (gB true) []:=by
 have hS:TC Tw.prog E 76 [gR (bg a),.s (.r (.sl 1 (List.take a.length (List.map (fun n=>[rI n]) b))))] 0 [] (gB true) []:=by
  rw[←List.map_take,hb];exact Kb a
 have hle:a.length≤b.length:=by have:=congrArg List.length hb;simp at this;omega
 have Wl:(a.length:Int)≤(b.length:Int):=by omega
 refine tE Tryz.f29 Tryz.ntmps29 (by rw[Tryz.results29]) ?_
 (refine TW.go ?_;simp[hle,Wl];repeat' first|intro hc|refine U.mk ?_|refine aI ?_|refine aa ?_ ?_|(refine cP ?_;refine⟨_,hS,?_⟩;simp[hle,Wl]))
 exact oW [] []
theorem A0 (es:List an):TC Tw.prog E 75 [gR (cd es),gR (cd es)] 0 [] (gB true) []:=by
 refine tE Tryz.f75 Tryz.ntmps75 (by rw[Tryz.results75]) ?_
 refine TW.len 0 rfl fun hlen=>?_;simp only[List.length_map]at hlen;(refine TW.go ?_;simp;repeat' first|intro hc|refine U.mk ?_|refine aI ?_|refine aa ?_ ?_)
 refine tL (fun k=>⟨[(0,gR (cd es)),(1,gR (cd es)),(5,gI .i64 (k:Nat))],[],0⟩) (fun k=>k≤es.length) (fun k=>es.length-k) 0 (by omega) (kS) fun k hk=>?_
 by_cases ai:k<es.length
 ·have he:es[k]?=some es[k]:=List.getElem?_eq_getElem ai
  have ar:(k:Int)<(es.length:Int):=by omega
  have aD:=wrap_add ai hlen;generalize es[k]=e at he;(refine TW.go ?_;simp[ar,he,aD,ak,fM];repeat' first|intro hc|refine U.mk ?_|refine aI ?_|refine aa ?_ ?_)
  exact⟨k+1,by omega,by omega,kS⟩
 ·obtain rfl:k=es.length:=by omega
  (refine TW.go ?_;simp;repeat' first|intro hc|refine U.mk ?_|refine aI ?_|refine aa ?_ ?_)
  exact oW [] []
theorem vH (g:aq):TC Tw.prog E 28 [.a ((af g).map .r),.a ((af g).map .r)] 0 [] (gB true) []:=by
 refine tE Tryz.f28 Tryz.ntmps28 (by rw[Tryz.results28]) ?_
 (refine TW.go ?_;simp[af];repeat' first|intro hc|refine U.mk ?_|refine aI ?_|refine aa ?_ ?_|(refine cP ?_;refine⟨_,A0 _,?_⟩;simp[af]))
 exact oW [] []
theorem bS (es:List aq):TC Tw.prog E 25 [gR (bO es),gR (bO es)] 0 [] (gB true) []:=by
 refine tE Tryz.f25 Tryz.ntmps25 (by rw[Tryz.results25]) ?_
 refine TW.len 0 rfl fun hlen=>?_;simp only[List.length_map]at hlen;(refine TW.go ?_;simp;repeat' first|intro hc|refine U.mk ?_|refine aI ?_|refine aa ?_ ?_)
 refine tL (fun k=>⟨[(0,gR (bO es)),(1,gR (bO es)),(5,gI .i64 (k:Nat))],[],0⟩) (fun k=>k≤es.length) (fun k=>es.length-k) 0 (by omega) (kS) fun k hk=>?_
 by_cases ai:k<es.length
 ·have he:es[k]?=some es[k]:=List.getElem?_eq_getElem ai
  have ar:(k:Int)<(es.length:Int):=by omega
  have aD:=wrap_add ai hlen;generalize es[k]=e at he;(refine TW.go ?_;simp[ar,he,aD,af];repeat' first|intro hc|refine U.mk ?_|refine aI ?_|refine aa ?_ ?_|(refine cP ?_;refine⟨_,vH e,?_⟩;simp[ar,he,aD,af]))
  exact⟨k+1,by omega,by omega,kS⟩
 ·obtain rfl:k=es.length:=by omega
  (refine TW.go ?_;simp;repeat' first|intro hc|refine U.mk ?_|refine aI ?_|refine aa ?_ ?_)
  exact oW [] []
theorem dZ:TC Tw.prog E 25 [.s (.r .nil),.s (.r (.sl 4 []))] 0 [] (gB true) []:=by
 refine tE Tryz.f25 Tryz.ntmps25 (by rw[Tryz.results25]) ?_
 (refine TW.go ?_;simp;repeat' first|intro hc|refine U.mk ?_|refine aI ?_|refine aa ?_ ?_)
 refine tL (fun(_:Unit)=>⟨[(0,.s (.r .nil)),(1,.s (.r (.sl 4 []))),(5,gI .i64 0)],[],0⟩) (fun _=>True) (fun _=>0) () trivial (kS) fun _ _=>?_;(refine TW.go ?_;simp;repeat' first|intro hc|refine U.mk ?_|refine aI ?_|refine aa ?_ ?_)
 exact oW [] []
theorem tk (g:aq)(h:eE g 4294967280)(hv:aT g=true):TC Tw.prog E 30 [.a ((af g).map .r)] 0 [] (.s (.own 0)) [(0,jf (g.done.map an.m))]:=by
 have hV:=iR (E:=E) g ⟨by have:=h.1;omega,by have:=h.2;omega⟩
 rw[nd,hv]at hV;have hlen:g.done.length≤maxLen:=by have:=h.2;simp only[maxLen];omega
 obtain⟨-,Yw⟩:=h;refine tE Tryz.f30 Tryz.ntmps30 (by rw[Tryz.results30]) ?_
 (refine TW.go ?_;simp[af];repeat' first|intro hc|refine U.mk ?_|refine aI ?_|refine aa ?_ ?_|(refine cP ?_;refine⟨_,hV,?_⟩;simp[af]))
 refine tL (fun(k:Nat)=>⟨[(3,.s (.own 0)),(11,gR (cd g.done)),(12,gI .i64 g.done.length),(13,gI .i64 (k:Nat))],[(0,jf ((g.done.take k).map an.m))],1⟩) (fun k=>k≤g.done.length) (fun k=>g.done.length-k) 0 (by omega) (kO [1] []) fun k hk=>?_
 by_cases ai:k<g.done.length
 ·have he:g.done[k]?=some g.done[k]:=List.getElem?_eq_getElem ai
  have ar:(k:Int)<(g.done.length:Int):=by omega
  have aD:=wrap_add ai hlen;have htk:g.done.take (k+1)=g.done.take k++[g.done[k]]:=by rw[List.take_add_one,he];rfl
  generalize g.done[k]=e at*;(refine TW.go ?_;simp[ar,he,aD,ak,maxLen];repeat' first|intro hc|refine U.mk ?_|refine aI ?_|refine aa ?_ ?_)
  exact⟨k+1,by omega,by omega,Wk.own [3] [] (by simp) (by simp) (by simp[htk]) (by simp) (by simp)⟩
 ·obtain rfl:k=g.done.length:=by omega
  rw[List.take_length];(refine TW.go ?_;simp;repeat' first|intro hc|refine U.mk ?_|refine aI ?_|refine aa ?_ ?_)
  exact oW [0] []
theorem oP (bs:List Int)(hb:∀b∈bs,0≤b∧b≤255):∃(gs:List aq) (set:List Int) (m:Int),cz gs 400∧∀E,TC Tw.prog E 22 [gR (eL bs)] 0 [] (.p [gR (bO gs),gR (bg set),gI .i64 m]) []:=by
 have hD:=fun E=>sz (E:=E) bs ⟨fun b h=>hb b (List.mem_of_mem_take h),by simp;omega⟩
 obtain⟨hL, -, -, -⟩:=xQ (pk (bs.take 2000)) 0;refine⟨(fi (pk (bs.take 2000)) 0).1,(C0 (pk (bs.take 2000))).1,(C0 (pk (bs.take 2000))).2,hL,fun E=>?_⟩
 have hD:=hD E;generalize(fi (pk (bs.take 2000)) 0).1=gs at*;generalize C0 (pk (bs.take 2000))=sm at*;obtain⟨set,m⟩:=sm;simp only at hD
 refine tE Tryz.f22 Tryz.ntmps22 (by rw[Tryz.results22]) ?_
 (refine TW.go ?_;simp;repeat' first|intro hc|refine U.mk ?_|refine aI ?_|refine aa ?_ ?_|(refine cP ?_;refine⟨_,hD,?_⟩;simp))
 exact oW [] []
theorem dL (gs:List aq)(set:List Int)(m:Int)(h:cz gs 4000):TC Tw.prog E 24 [gR (bO gs),gR (bg set),gI .i64 m] 0 [] (.p [gR (bO (bb gs set m).1),gB (bb gs set m).2]) []:=by
 have hL:cz gs 4294967296:=⟨by have:=h.1;omega,fun g hg=>by have:=h.2 g hg;exact⟨by have:=this.1;omega,by have:=this.2;omega⟩⟩
 have hS:=mX (E:=E) gs hL;have hV:=jb (E:=E) set;have hM:=iN (E:=E) m;refine tE Tryz.f24 Tryz.ntmps24 (by rw[Tryz.results24]) ?_
 unfold bb im
 cases a:du gs
 ·rw[a]at hS
  (refine TW.go ?_;simp;repeat' first|intro hc|refine U.mk ?_|refine aI ?_|refine aa ?_ ?_|(refine cP ?_;(first|refine⟨_,hS,?_⟩|refine⟨_,hV,?_⟩|refine⟨_,hM,?_⟩);simp))
  exact oW [] [0]
 ·rw[a]at hS
  cases b:fy set
  ·rw[b]at hV
   (refine TW.go ?_;simp;repeat' first|intro hc|refine U.mk ?_|refine aI ?_|refine aa ?_ ?_|(refine cP ?_;(first|refine⟨_,hS,?_⟩|refine⟨_,hV,?_⟩|refine⟨_,hM,?_⟩);simp))
   exact oW [] [0]
  ·rw[b]at hV
   obtain⟨b1,b2,b3⟩:=iS b;have hT:=CU (E:=E) gs set m (c_ a) (fun g hg=>(TT h (vD a) g hg).mono (by omega)) b3 b1 b2
   have hC:=fO (E:=E) gs hL
   cases c:bm m
   ·rw[c]at hM
    (refine TW.go ?_;simp;repeat' first|intro hc|refine U.mk ?_|refine aI ?_|refine aa ?_ ?_|(refine cP ?_;(first|refine⟨_,hS,?_⟩|refine⟨_,hV,?_⟩|refine⟨_,hM,?_⟩);simp))
    exact oW [] [0]
   ·rw[c]at hM
    cases d:(dK gs set m).2
    ·rw[d]at hT
     (refine TW.go ?_;simp;repeat' first|intro hc|refine U.mk ?_|refine aI ?_|refine aa ?_ ?_|(refine cP ?_;(first|refine⟨_,hS,?_⟩|refine⟨_,hV,?_⟩|refine⟨_,hM,?_⟩);simp)|(refine cF [] 1 ?_;refine⟨_,_,hT,?_⟩;simp)|(refine cF [] 1 ?_;refine⟨_,_,hC,?_⟩;simp))
     exact oW [] [1]
    ·rw[d]at hT
     (refine TW.go ?_;simp;repeat' first|intro hc|refine U.mk ?_|refine aI ?_|refine aa ?_ ?_|(refine cP ?_;(first|refine⟨_,hS,?_⟩|refine⟨_,hV,?_⟩|refine⟨_,hM,?_⟩);simp)|(refine cF [] 1 ?_;refine⟨_,_,hT,?_⟩;simp))
     exact oW [] [0]
theorem cz.mono {gs:List aq}{n n':Nat}(h:cz gs n)(hn:n≤n'):cz gs n':=⟨by have:=h.1;omega,fun g hg=>by have:=h.2 g hg;exact⟨by have:=this.1;omega,by have:=this.2;omega⟩⟩
theorem sd {gs:List aq}{set:List Int}{m:Int}(h:im gs set m=false):bb gs set m=([],false):=by rw[bb,if_neg (by simp[h])]
theorem lf {gs:List aq}{set:List Int}{m:Int}(h:im gs set m=true):du gs=true∧fy set=true∧bm m=true:=by
 simp only[im,Bool.and_eq_true]at h;exact⟨h.1.1,h.1.2,h.2⟩
theorem rF {gs:List aq}{set:List Int}{m:Int}(h:im gs set m=true)(hR:(bb gs set m).2=true):(dK gs set m).2=true∧(bb gs set m).1=(dK gs set m).1:=by
 rw[bb,if_pos h]at hR⊢;split at hR
 ·rename_i e;rw[if_pos e];exact⟨e,rfl⟩
 ·cases hR
theorem nf {gs:List aq}{set:List Int}{m:Int}{n:Nat}(hL:cz gs n)(h:im gs set m=true)(hR:(bb gs set m).2=true):∃s,aS s.1 s.2=true∧Rec gs set m s (bb gs set m).1∧cz (bb gs set m).1 (n+n+5):=by
 obtain⟨h1,h2,hm⟩:=lf h;obtain⟨e1,e2⟩:=rF h hR;obtain⟨s,hs,K⟩:=TU h e1;rw[e2];obtain⟨a,b,c⟩:=iS h2;obtain⟨o5,oN⟩:=NF m set gs ⟨a,b,c⟩ (c_ h1) (TT hL (vD h1));exact⟨s,hs,K,by omega,fun g hg=>by have:=(oN g hg).1;exact⟨by omega,by omega⟩⟩
theorem qa {gs:List aq}{i:Nat}(m:Int)(hL:cz gs 4000)(hi:i<gs.length)(hv:aT (aB gs i)=true):TC Tw.prog E 16 [.a ((af (aB gs i)).map .r),gI .i64 m] 0 [] (.p [lO (bo (aB gs i) m),gB (di (aB gs i) m)]) []:=by
 have hT:=od (E:=E) (aB gs i) m (by have:=hL.2 _ (iQ hi);exact⟨by have:=this.1;omega,by have:=this.2;omega⟩)
 simpa only[db,pS,hv,if_true,Bool.true_and]using hT
theorem rG {gs out:List aq}{set:List Int}{m:Int}{s:Int×Int}(K:Rec gs set m s out)(hL:cz out 4000)(hr:cu set){x:Int}(hx:x∈set):∃(G:aq) (mm:Int),out[x.toNat]?=some G∧G=aB out x.toNat∧TC Tw.prog E 16 [.a ((af G).map .r),gI .i64 m] 0 [] (.p [lO ⟨mm,s.1,s.2,true⟩,gB true]) []:=by
 obtain⟨x0,x1⟩:=hr x hx;have h5:=K.len;have hT:=qa (E:=E) m hL (i:=x.toNat) (by omega) (K.ok _ (by omega))
 obtain⟨k1,k2,k3⟩:=K.st x hx;have hG:=dt (gs:=out) (i:=x.toNat) (by omega)
 generalize aB out x.toNat=G at*;generalize bo G m=e at*;obtain⟨em,et,eg,ef⟩:=e;simp only at k2 k3
 subst k2;subst k3;rw[k1]at hT;exact⟨G,em,hG,rfl,hT⟩
end Go.Proofs.YtjklkppncmhehaaGreat.T
namespace Go.Proofs.YtjklkppncmhehaaGreat.T
open Go Go.RowKit
set_option maxRecDepth 100000
set_option maxHeartbeats 4000000
theorem wZ (bs:List Int)(hb:∀b∈bs,0≤b∧b≤255):TC Tw.prog cf 5 [gR (eL bs)] 0 [] (gB true) []:=by
 obtain⟨gs,set,m,hL,hD⟩:=oP bs hb;have hD:=hD cf;have oe:cz gs 4000:=hL.mono (by omega)
 have hS:=dL (E:=cf) gs set m oe;refine tE Tryz.f5 Tryz.ntmps5 (by rw[Tryz.results5]) ?_
 by_cases hl:1048576<bs.length
 ·have aY:(1048576:Int)<(bs.length:Int):=by omega
  (refine TW.go ?_;simp[aY];repeat' first|intro hc|refine U.mk ?_|refine aI ?_|refine aa ?_ ?_)
  exact oW [] []
 ·have aY:¬(1048576:Int)<(bs.length:Int):=by omega
  rcases c7 gs set m oe with⟨cl,hI⟩|⟨cl,hI⟩
  ·rw[sd cl]at hS
   (refine TW.go ?_;simp[aY];repeat' first|intro hc|refine U.mk ?_|refine aI ?_|refine aa ?_ ?_|(refine cP ?_;(first|refine⟨_,hD,?_⟩|refine⟨_,hI,?_⟩|refine⟨_,hS,?_⟩|refine⟨_,dZ,?_⟩);simp[aY]))
   exact oW [] []
  ·cases hR:(bb gs set m).2
   ·rw[hR]at hI hS
    generalize(bb gs set m).1=out at*;(refine TW.go ?_;simp[aY];repeat' first|intro hc|refine U.mk ?_|refine aI ?_|refine aa ?_ ?_|(refine cP ?_;(first|refine⟨_,hD,?_⟩|refine⟨_,hI,?_⟩|refine⟨_,hS,?_⟩|refine⟨_,bS _,?_⟩);simp[aY]))
    exact oW [] []
   ·obtain⟨s,eT,K,lJ⟩:=nf hL cl hR
    obtain⟨h1,h2,hm⟩:=lf cl;obtain⟨bY,iI,hr⟩:=iS h2;have h5:=c_ h1;have cX:0<set.length:=List.length_pos_iff.2 bY
    have hlen:set.length≤maxLen:=by simp only[maxLen];omega
    have o5:=K.len;have lJ:=lJ.mono (n':=4000) (by omega)
    rw[hR]at hI hS;generalize(bb gs set m).1=out at*;have Yh:set[0]?=some set[0]:=List.getElem?_eq_getElem cX
    obtain⟨x0,x1⟩:=hr _ (List.getElem_mem cX);obtain⟨G0,m0,Yi, -,hT0⟩:=rG (E:=cf) K lJ hr (List.getElem_mem cX);generalize hx:set[0]=x at Yh x0 x1 Yi;(refine TW.go ?_;simp[aY,Yh,x0,Yi,af,ak,fM];repeat' first|intro hc|refine U.mk ?_|refine aI ?_|refine aa ?_ ?_|(refine cP ?_;(first|refine⟨_,hD,?_⟩|refine⟨_,hI,?_⟩|refine⟨_,hS,?_⟩|refine⟨_,bS _,?_⟩|refine⟨_,hT0,?_⟩);simp[aY,Yh,x0,Yi,af,ak,fM]))
    refine tL (fun(k:Nat)=>⟨[(4,gR (bg set)),(5,gI .i64 m),(6,gR (bO out)),(10,.s (.ptr 0 0)),(12,gI .i64 (k:Nat))],[(0,.box [.r (rI m0),.r (rI s.1),.r (rI s.2),.r (rB true)])],1⟩) (fun k=>k≤set.length) (fun k=>set.length-k) 0 (by omega) (kO [0] []) fun k hk=>?_
    by_cases ai:k<set.length
    ·have he:set[k]?=some set[k]:=List.getElem?_eq_getElem ai
     obtain⟨y0,y1⟩:=hr _ (List.getElem_mem ai);obtain⟨G,mm,hG, -,hT⟩:=rG (E:=cf) K lJ hr (List.getElem_mem ai);generalize hx:set[k]=y at he y0 y1 hG;have ar:(k:Int)<(set.length:Int):=by omega
     have aD:=wrap_add ai hlen;(refine TW.go ?_;simp[ar,he,y0,hG,aD,af,ak,fM];repeat' first|intro hc|refine U.mk ?_|refine aI ?_|refine aa ?_ ?_|(refine cP ?_;refine⟨_,hT,?_⟩;simp[ar,he,y0,hG,aD,af,ak,fM]))
     exact⟨k+1,by omega,by omega,kO [0] []⟩
    ·obtain rfl:k=set.length:=by omega
     (refine TW.go ?_;simp;repeat' first|intro hc|refine U.mk ?_|refine aI ?_|refine aa ?_ ?_)
     exact oW [] []
end Go.Proofs.YtjklkppncmhehaaGreat.T
namespace Go.Proofs.YtjklkppncmhehaaGreat
open Go.ChangeShapes Go.WideShapes Go.ChangeAt Go.RowKit Go.Joins
theorem own:ownKnob Tryz.prog.godebug=none:=by kernel_rfl
theorem laidOut:laidOutB Tryz.prog=true:=by kernel_rfl
def FG (bs:List Int):List Value:=bs.map (Value.int .u8)
def Bytes (bs:List Int):Prop:=∀b∈bs,0≤b∧b≤255
theorem wf_u8 {n:Int}(h:(Lit.int .u8 n).wf=true):0≤n∧n≤255:=by
 have:=bounds_u8 h
 omega
set_option maxRecDepth 100000 in
theorem kC {H:Type}{enc:TypeId×Value→H}{W:World}{r:Reach}{b0:Nat}{v:Value}{d:DataW H}{p:List MemPlace}
  (hv:Value.okWide Tryz.prog W r b0 22 v) (h:DataW.Trod enc Tryz.prog W 0 (fun _=>true) true 22 v d p):
  ∃A n c bs,v= .slice A n c∧n≤c∧c≤maxLen∧Reads W W.heap.size 1 A n (FG bs)∧Bytes bs:=by
 obtain⟨A,n,c,rfl⟩:=okWide_slice Tryz.underlying22 hv;obtain⟨fuel,hf⟩:=h;rcases open_ints Tryz.underlying22 Tryz.underlying5 (by kernel_rfl) hf with⟨nT,_⟩|⟨a,l,c',zs,nT,_,hl,hm,hz,_,cv,hwf⟩
 ·simp[Value.cells]at nT
  obtain⟨rfl,rfl,rfl⟩:=nT;exact⟨none,0,0,[],rfl,Nat.le_refl _,Nat.zero_le _,Reads.none_,fun b hb=>by simp at hb⟩
 ·simp[Value.cells]at nT
  obtain⟨rfl,rfl,rfl⟩:=nT;have BN:zs.length=c:=by simpa using hz
  refine⟨some a,n,c,zs.take n,rfl,hl,hm,⟨?_,fun h0=>⟨a,rfl,?_,fun j u hu=>?_⟩⟩,fun b hb=>wf_u8 (hwf b (List.mem_of_mem_take hb))⟩
  ·simp[FG];omega
  ·have h1:=cv 0 (by omega)
   have:=World.block_lt_of_cell? W (a.add 0) h1
   rwa[kJ]at this
  ·unfold FG at hu
   rw[List.getElem?_map]at hu;have hj:j<n:=by
    have:=(List.getElem?_eq_some_iff.1 (show(zs.take n)[j]?=some ((zs.take n)[j]?.getD 0)from by
     cases hq:(zs.take n)[j]? with
     |none=>rw[hq]at hu;cases hu
     |some z=>rfl)).1
    rw[List.length_take]at this;omega
   rw[List.getElem?_take,if_pos hj]at hu;rw[cv j (by omega),List.getD_eq_getElem?_getD]
   cases hq:zs[j]? with
   |none=>rw[hq]at hu;cases hu
   |some z=>rw[hq]at hu;exact hu
end Go.Proofs.YtjklkppncmhehaaGreat
namespace Go.Proofs.YtjklkppncmhehaaGreat.T
open Go Go.RowKit
theorem ui {W v:World}{A:Option Addr}{n c:Nat}{bs:List Int}(hA:Sr.uR W A)(hn:n≤c)(hc:c≤maxLen)(hr:Reads W W.heap.size 1 A n (FG bs))(hv:∀q k z,W.cell? q=some (.int k z)→v.cell? q=some (.int k z))(hz:v.heap.size=W.heap.size):
  cH v (fun b=>b<v.heap.size) (.slice A n c) (eL bs):=by
 obtain⟨hl,hr⟩:=hr;have hl:bs.length=n:=by simpa[FG]using hl
 by_cases h0:n=0
 ·subst h0
  obtain rfl:bs=[]:=List.length_eq_zero_iff.1 hl
  exact .BJ hc
 ·obtain⟨ad,rfl,ai,cv⟩:=hr (by omega)
  have fW:=(hA ad rfl).1;obtain⟨b,o,sp⟩:=ad;simp only at fW
  subst fW;have tP:∀(i:Nat) (e:List RT),(bs.map fun b=>([.v (.int .u8 b)]:List RT))[i]?=some e→∃x,bs[i]?=some x∧e=[.v (.int .u8 x)]:=fun i e he=>by
   rw[List.getElem?_map,Option.map_eq_some_iff]at he;obtain⟨x,hx,rfl⟩:=he;exact⟨x,hx,rfl⟩
  have:=cH.sl (w:=v) (D:=fun b=>b<v.heap.size) (b:=b) (o:=o) (c:=c) (k:=1) (xs:=bs.map fun b=>[.v (.int .u8 b)]) (fun i _=> .int .u8 (bs.getD i 0)) (by simp;omega) hc (by rw[hz];exact ai) (fun i e he=>by obtain⟨x,_,rfl⟩:=tP i e he;rfl)
   (fun i e he j r hj=>by
    obtain⟨x,hx,rfl⟩:=tP i e he;rcases j with _|j
    ·have:=cv i (.int .u8 x) (by simp[FG,hx])
     rw[add_lit]at this;rw[List.getD_eq_getElem?_getD,hx,show o+(i*1+0)=o+i by omega]
     exact hv _ _ _ this
    ·simp at hj)
   (fun i e he j r hj=>by
    obtain⟨x,hx,rfl⟩:=tP i e he;rcases j with _|j
    ·cases hj
     rw[List.getD_eq_getElem?_getD,hx];exact .v rfl
    ·simp at hj)
  simpa[hl]using this
theorem jQ {f:FuncId}{W:World}{A:Option Addr}{n c:Nat}{bs:List Int}(hA:Sr.uR W A)(hn:n≤c)(hc:c≤maxLen)(hr:Reads W W.heap.size 1 A n (FG bs))(hT:TC Tw.prog cf f [gR (eL bs)] 0 [] (gB true) [])(v:World)(hv:∀q k z,W.cell? q=some (.int k z)→v.cell? q=some (.int k z))(hz:v.heap.size=W.heap.size):
  Calls Tw.prog f #[.slice A n c] v Sr.qU:=by
 refine(hT.2 v #[.slice A n c] (fun _=>none) (fun b=>b<v.heap.size) rfl (fun i g hg=>?_) (fun k h=>h) (fun b y h=>by cases h) (fun b y g h=>by cases h) (fun b y b' y' g h=>by cases h)).mono ?_
 ·rcases i with _|i
  ·cases hg
   exact .s (.r (ui hA hn hc hr hv hz))
  ·simp at hg
 ·rintro e w' (⟨ch,rfl,hE⟩|⟨x,ρ',D',rfl,hx,_⟩)
  ·exact .inr hE
  ·left
   rw[pq hx]
end Go.Proofs.YtjklkppncmhehaaGreat.T
