/-
What is proved: what the reference's final stamp of a group does to trees. No condition but the lengths and ranges that each states.
-/
import Derived.Test.YtjklkppncmhehaaGreatRx36
set_option linter.unusedVariables false
set_option linter.unusedSimpArgs false
namespace Go.Proofs.YtjklkppncmhehaaGreat.T
open Go Go.RowKit
set_option maxRecDepth 100000
set_option maxHeartbeats 4000000
variable {E:List PanicEntry→World→Prop}
abbrev jf (xs:List Int):aj:= .rows 3 1 (xs.map fun n=>[rI n])
theorem Tf {es:List an}{t s:Int}{k:Nat}{e:an}(hk:∀i,i<k→∀x,es[i]?=some x→aK x.t x.g t s=true)(he:es[k]?=some e)(h:aK e.t e.g t s=false):dW es t s=k:=by
 unfold dW;induction es generalizing k with
 |nil=>simp at he
 |cons x es ih=>
  cases k with
  |zero=>
   cases he;rw[List.takeWhile_cons];simp[h]
  |succ k=>
   have h0:=hk 0 (by omega) x rfl
   rw[List.takeWhile_cons,if_pos h0,List.length_cons,ih (k:=k) (fun i hi y hy=>hk (i+1) (by omega) y (by simpa using hy)) (by simpa using he)]
theorem Qo {es:List an}{t s:Int}(hk:∀i,i<es.length→∀x,es[i]?=some x→aK x.t x.g t s=true):dW es t s=es.length:=by
 have h:es.takeWhile (fun e=>aK e.t e.g t s)=es:=by
  induction es with
  |nil=>rfl
  |cons x es ih=>
   rw[List.takeWhile_cons,if_pos (hk 0 (by simp) x rfl),ih fun i hi y hy=>hk (i+1) (by simp;omega) y (by simpa using hy)]
 unfold dW;rw[h]
abbrev VF (r:aq×List Int×Bool):GV:= .p [xI r.1 0 1,.s (.own 2),gB r.2.2]
abbrev NG (r:aq×List Int×Bool):List (Nat×aj):=[(0,bW r.1.ao),(1,bW r.1.done),(2,jf r.2.1)]
theorem rv (g:aq)(m t s:Int)(h:fg g 4294967290):TC Tw.prog E 123 [.a ((af g).map .r),gI .i64 m,ma (t,s)] 0 [] (VF (aO g m t s)) (NG (aO g m t s)):=by
 obtain⟨Av,h0⟩:=h;have hle:eE g 4294967296:=⟨by omega,by omega⟩
 refine tE Tryz.f123 Tryz.ntmps123 (by rw[Tryz.results123]) ?_
 rcases dU g.ao m with⟨hp,bc⟩|⟨j,e,hp,he,bc,_⟩
 ·have hr:aO g m t s=(g,[],false):=by
   unfold aO;split
   ·rw[if_pos (.inl (by omega))]
   ·rfl
  rw[hr];(refine TW.go ?_;simp[af,ak,hp];repeat' first|intro hc|refine U.mk ?_|refine aI ?_|refine aa ?_ ?_|(refine cP ?_;(first|refine⟨_,cQ _ _,?_⟩|refine⟨_,dJ _ _ _ _,?_⟩);simp[af,ak,hp])|(refine cF [] 2 ?_;refine⟨_,_,dN _ hle,?_⟩;simp[af,ak,hp]))
  exact oW [3,4,6] []
 ·have hj:j<g.ao.length:=(List.getElem?_eq_some_iff.1 he).1
  have Fq:(cO g.ao m).toNat=j:=by omega
  have ir:¬((j:Int)<0):=by omega
  cases hf:e.f
  ·cases hl:aK t s e.t e.g
   ·have sv:IntKind.i64.wrap ((j:Int)+1)=(j:Int)+1:=aG (by omega) (by omega)
    generalize Fs:g.ao.take j++g.ao.drop (j+1)=rest;have Qp:rest.length≤4294967290:=by rw[←Fs];simp;omega
    have hlen:rest.length≤maxLen:=by simp only[maxLen];omega
    have xN:g.ao.eraseIdx j=rest:=by rw[List.eraseIdx_eq_take_drop_succ,Fs]
    have lQ:aO g m t s=if je rest (dW rest t s) t s=true then(g,[],false)else(⟨g.id,if g.clock<t then t else g.clock,(dF (ep rest m t s) g.done []).1,(dF (ep rest m t s) g.done []).2.1⟩,(dF (ep rest m t s) g.done []).2.2,true):=by
     unfold aO;rw[Fq,he];simp only
     rw[if_neg (by simp[hp,hf,hl]),xN]
    (refine TW.go ?_;simp[af,ak,hp,he,ir,hf,hl,sv,maxLen];repeat' first|intro hc|refine U.mk ?_|refine aI ?_|refine aa ?_ ?_|(refine cP ?_;(first|refine⟨_,cQ _ _,?_⟩|refine⟨_,dJ _ _ _ _,?_⟩);simp[af,ak,hp,he,ir,hf,hl,sv,maxLen])|(refine cF [] 2 ?_;refine⟨_,_,dN _ hle,?_⟩;simp[af,ak,hp,he,ir,hf,hl,sv,maxLen]))
    refine tL (fun(k:Nat)=>⟨[(1,gI .i64 m),(3,.s (.ptr 0 0)),(5,.s (.ptr 1 0)),(6,.s (.ptr 2 0)),(9,.s (.ptr 3 0)),(10,.s (.own 4)),(12,gR (cd rest)),(13,gI .i64 (k:Nat))],
     [(0,.box ((af g).map .r)),(1,.box [.r (rI t),.r (rI s)]),(2,.box [.r (rI 0),.r (rI 0),.r .nil,.r .nil]),(3,.box [.r (rI g.id),.r (rI g.clock),.own 5,.own 6]),(4,jf []),(5,bW g.ao),(6,bW g.done)],7⟩) (fun k=>k≤rest.length∧∀i,i<k→∀x,rest[i]?=some x→aK x.t x.g t s=true) (fun k=>rest.length-k) 0 ⟨by omega,fun i hi=>by omega⟩
     (Wk.own [0,1,2,5,6,3,4] [9] (by simp) (by simp[←Fs]) (by simp[af]) (by simp) (by simp)) fun k hk=>?_
    obtain⟨hk,l_⟩:=hk;have iI:(∃x,rest[k]?=some x∧aK x.t x.g t s=true)∨(∃x,rest[k]?=some x∧aK x.t x.g t s=false∧dW rest t s=k)∨(k=rest.length∧dW rest t s=k):=by
     rcases hx:rest[k]? with _|x
     ·have vo:k=rest.length:=by have:=List.getElem?_eq_none_iff.1 hx;omega
      refine .inr (.inr ⟨vo,?_⟩);subst vo;exact Qo l_
     ·cases jW:aK x.t x.g t s
      ·exact .inr (.inl ⟨x,rfl,jW,Tf l_ hx jW⟩)
      ·exact .inl ⟨x,rfl,jW⟩
    rcases iI with⟨x,hx,jW⟩|iI
    ·have ai:k<rest.length:=(List.getElem?_eq_some_iff.1 hx).1
     have ar:(k:Int)<(rest.length:Int):=by omega
     have aD:=wrap_add ai hlen;(refine TW.go ?_;simp[ar,hx,jW,ak,aD];repeat' first|intro hc|refine U.mk ?_|refine aI ?_|refine aa ?_ ?_|(refine cP ?_;refine⟨_,dJ _ _ _ _,?_⟩;simp[ar,hx,jW,ak,aD]))
     refine⟨k+1,⟨by omega,fun i hi y hy=>?_⟩,by omega,Wk.own [0,1,2,3,4,5,6] [] (by simp) (by simp) (by simp[af]) (by simp) (by simp)⟩
     by_cases e:i=k
     ·subst e;rw[hx]at hy;cases hy;exact jW
     ·exact l_ i (by omega) y hy
    ·have qk:dW rest t s=k:=by
      rcases iI with⟨_,_,_,h⟩|⟨_,h⟩<;>exact h
     rw[qk]at lQ;by_cases pa:je rest k t s=true
     ·rw[if_pos pa]at lQ
      rw[lQ];rcases iI with⟨x,hx,jW,_⟩|⟨vo,_⟩
      ·have ai:k<rest.length:=(List.getElem?_eq_some_iff.1 hx).1
       have ar:(k:Int)<(rest.length:Int):=by omega
       simp only[je,hx]at pa;(refine TW.go ?_;simp[ar,hx,jW,pa,af,ak];repeat' first|intro hc|refine U.mk ?_|refine aI ?_|refine aa ?_ ?_|(refine cP ?_;refine⟨_,dJ _ _ _ _,?_⟩;simp[ar,hx,jW,pa,af,ak]))
       exact oW [5,6,4] []
      ·subst vo
       simp[je]at pa
     ·rw[if_neg pa]at lQ
      rw[lQ];have JL:ep rest m t s=rest.take k++[⟨m,t,s,true⟩]++rest.drop k:=by rw[ep,qk]
      rcases iI with⟨x,hx,jW,_⟩|⟨vo,_⟩;have ai:k<rest.length:=(List.getElem?_eq_some_iff.1 hx).1
      have ar:(k:Int)<(rest.length:Int):=by omega
      have V8:(decide (x.t=t)&&decide (x.g=s))=false:=by simpa[je,hx]using pa
      focus (refine TW.go ?_;simp[ar,hx,jW,V8,af,ak,maxLen];repeat' first|intro hc|refine U.mk ?_|refine aI ?_|refine aa ?_ ?_|(refine cP ?_;refine⟨_,dJ _ _ _ _,?_⟩;simp[ar,hx,jW,V8,af,ak,maxLen]))
      rotate_left
      subst vo;focus (refine TW.go ?_;simp[af,ak,maxLen];repeat' first|intro hc|refine U.mk ?_|refine aI ?_|refine aa ?_ ?_|(refine cP ?_;refine⟨_,dJ _ _ _ _,?_⟩;simp[af,ak,maxLen]))
      all_goals
       generalize Th:(if g.clock<t then t else g.clock)=yl
       have X':(ep rest m t s).length+g.done.length≤4294967295:=by
        rw[JL,←Fs];simp
        omega
       refine tL (fun(p:List an×List an×List Int)=>⟨[(6,.s (.ptr 0 0)),(9,.s (.ptr 1 0)),(10,.s (.own 2))],[(0,.box [.r (rI 0),.r (rI 0),.r .nil,.r .nil]),(1,.box [.r (rI g.id),.r (rI yl),.r (cd p.1),.own 3]),(2,jf p.2.2),(3,bW p.2.1)],4⟩)
        (fun p=>p.1.length+p.2.1.length≤4294967295∧p.2.2.length+p.1.length≤4294967295∧dF p.1 p.2.1 p.2.2=dF (ep rest m t s) g.done []) (fun p=>p.1.length) (ep rest m t s,g.done,[]) ⟨X',by simp;omega,rfl⟩
        (Wk.own [2,3,4,6] [11] (by simp) (by simp) (by simp[JL,ak]) (by simp) (by simp)) fun p hp=>?_
       obtain⟨es,d,told⟩:=p;obtain⟨b1,b2,b3⟩:=hp;simp only at b1 b2 b3⊢
       rcases es with _|⟨x,es⟩
       ·have Ti:eE ⟨g.id,yl,[],d⟩ 4294967296:=⟨by simp,by simp at b1;simp only;omega⟩
        rw[←b3];simp only[dF];(refine TW.go ?_;simp[af,ak,maxLen];repeat' first|intro hc|refine U.mk ?_|refine aI ?_|refine aa ?_ ?_|(refine cF [3] 2 ?_;refine⟨_,_,dN ⟨g.id,yl,[],d⟩ Ti,?_⟩;simp[af,ak,maxLen]))
        exact oW [4,5,2] []
       ·simp only[List.length_cons]at b1 b2
        cases ry:x.f
        ·have Ti:eE ⟨g.id,yl,x::es,d⟩ 4294967296:=⟨by simp;omega,by simp only;omega⟩
         rw[←b3];simp only[dF,ry,Bool.false_eq_true,if_false];(refine TW.go ?_;simp[af,ak,ry,maxLen];repeat' first|intro hc|refine U.mk ?_|refine aI ?_|refine aa ?_ ?_|(refine cF [3] 2 ?_;refine⟨_,_,dN ⟨g.id,yl,x::es,d⟩ Ti,?_⟩;simp[af,ak,ry,maxLen]))
         refine aE.own [4,5,2] [] (by simp;rfl) (by simp[ak,ry]) (by simp) (by simp) (by simp[ak,ry]) (by simp)
        ·(refine TW.go ?_;simp[af,ak,ry,maxLen];repeat' first|intro hc|refine U.mk ?_|refine aI ?_|refine aa ?_ ?_)
         refine⟨(es,d++[x],told++[x.m]),⟨by simp;omega,by simp;omega,?_⟩,by simp,Wk.own [0,1,5,7] [] (by simp) (by simp) (by simp[ak,ry]) (by simp) (by simp)⟩
         rw[←b3,dF,if_pos ry]
   ·have hr:aO g m t s=(g,[],false):=by
     unfold aO;rw[Fq,he];simp only
     rw[if_pos (.inr (.inr hl))]
    rw[hr];(refine TW.go ?_;simp[af,ak,hp,he,ir,hf,hl];repeat' first|intro hc|refine U.mk ?_|refine aI ?_|refine aa ?_ ?_|(refine cP ?_;(first|refine⟨_,cQ _ _,?_⟩|refine⟨_,dJ _ _ _ _,?_⟩);simp[af,ak,hp,he,ir,hf,hl])|(refine cF [] 2 ?_;refine⟨_,_,dN _ hle,?_⟩;simp[af,ak,hp,he,ir,hf,hl]))
    exact oW [3,4,6] []
  ·have hr:aO g m t s=(g,[],false):=by
    unfold aO;rw[Fq,he];simp only
    rw[if_pos (.inr (.inl hf))]
   rw[hr];(refine TW.go ?_;simp[af,ak,hp,he,ir,hf];repeat' first|intro hc|refine U.mk ?_|refine aI ?_|refine aa ?_ ?_|(refine cP ?_;(first|refine⟨_,cQ _ _,?_⟩|refine⟨_,dJ _ _ _ _,?_⟩);simp[af,ak,hp,he,ir,hf])|(refine cF [] 2 ?_;refine⟨_,_,dN _ hle,?_⟩;simp[af,ak,hp,he,ir,hf]))
   exact oW [3,4,6] []
end Go.Proofs.YtjklkppncmhehaaGreat.T
