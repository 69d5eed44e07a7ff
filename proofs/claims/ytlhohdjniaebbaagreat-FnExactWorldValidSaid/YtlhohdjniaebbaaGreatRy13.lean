/-
What is proved: the starter's steps, as the system sees them and what rests on it. Conditions: as stated.
-/
import Derived.Test.YtlhohdjniaebbaaGreatRy12
import Derived.Test.YtlhohdjniaebbaaGreatRy06
import Derived.Test.YtlhohdjniaebbaaGreatRy08
set_option linter.unusedVariables false
set_option linter.unusedSimpArgs false
namespace Go.Proofs.YtlhohdjniaebbaaGreat.Sr
open Go Go.Conc Go.ConcN
section
variable {γ:Gh}{w w1:World}{t:Trace}{j k:Nat}{p:Ph}{fn:FuncId}{pos:String}{es:Array Event}
theorem vG (h:JJ γ w t j)(iB:bq w w1)(hs:w.heap.size≤w1.heap.size)(hh:∀b,b<w.heap.size→(∃k,γ.ow k b∨γ.ro k b)∨γ.sh b∨(∃p,γ.ph=some p∧b=p.A)→w1.heap[b]?=w.heap[b]?)(aR:∀e∈es,rj γ j w1.heap.size e):
  JJ γ w1 (t++MemOp.ofEvents 0 fn pos es) j∧∀k',k'≠0→RR k' γ w γ w1:=by
 refine⟨⟨h.tj.main h.ba hs aR,h.ba,h.j,fun i b x=>Nat.lt_of_lt_of_le (h.lN i b x) hs,fun i b x=>Nat.lt_of_lt_of_le (h.kv i b x) hs,fun b x=>Nat.lt_of_lt_of_le (h.cX b x) hs,h.none,h.out,fun p hp=>?_⟩,fun k' cQ=>?_⟩
 ·have x:=h.phase p hp
  obtain⟨l1,l2,l3⟩:=h.lt hp;obtain⟨cs,a1,a2,a3⟩:=x.arr;exact⟨x.j0,x.jn,x.n5,x.sh,Nat.lt_of_lt_of_le l2 hs,(hh _ l1 (.inr (.inl x.sh))).trans x.wg,x.reg,x.la,x.rel,cs,(hh _ l2 (.inr (.inr ⟨p,hp,rfl⟩))).trans a1,a2,a3⟩
 ·unfold RR
  rw[if_neg cQ];refine⟨hs,iB,.rfl,fun _=>⟨rfl,fun _=> .rfl,fun _=> .rfl,rfl,.rfl,.rfl,fun b hb=>hh b (hb.elim (h.lN _ _) (h.kv _ _)) (.inl ⟨k',hb⟩),fun a ha=>?_⟩⟩
  obtain⟨q,hq,_,hA,_⟩:=ha;exact cell_of (by rw[hA];exact hh _ (h.lt hq).2.1 (.inr (.inr ⟨q,hq,rfl⟩)))
theorem pX (h:JJ γ w t j)(aR:∀e∈es,rj γ j w.heap.size e):JJ γ w (t++MemOp.ofEvents 0 fn pos es) j∧∀k',k'≠0→RR k' γ w γ w:=
 vG h ⟨rfl,rfl,rfl⟩ (Nat.le_refl _) (fun _ _ _=>rfl) aR
theorem Y7 (h:JJ γ w t j)(hp:γ.ph=some p)(aW:γ.wm= .op)(he:γ.extra=0)(hn:j-p.j0<p.n)(iB:bq w w1)(hs:w1.heap.size=w.heap.size)(hh:∀b,b≠p.wg→w1.heap[b]?=w.heap[b]?)
  (hw:w1.heap[p.wg]?=some (cD p.eW (((γ.v p+1:Nat):Int)*bK) 0)) (aR:∀e∈es,rj γ j w.heap.size e):
  JJ {γ with extra:=1} w1 (t++MemOp.ofEvents 0 fn pos es) j∧∀k',k'≠0→RR k' γ w {γ with extra:=1} w1:=by
 have x:=h.phase p hp;obtain⟨l1,l2,l3⟩:=h.lt hp;obtain⟨cs,a1,a2,a3⟩:=x.arr;have ev:Gh.v {γ with extra:=1} p=γ.v p+1:=by unfold Gh.v;simp only[he]
 have tj:=h.tj.main (fn:=fn) (pos:=pos) h.ba (Nat.le_refl _) aR;refine⟨⟨hs▸⟨tj.ct,tj.low,tj.over,tj.rel,tj.norel,tj.old⟩,⟨h.ba.ow,h.ba.pT,h.ba.rK,h.ba.tP,h.ba.A⟩,h.j,hs▸h.lN,hs▸h.kv,hs▸h.cX,h.none,h.out,fun p' bk=>?_⟩,fun k' cQ=>?_⟩
 ·have e:γ.ph=some p':=bk
  rw[hp]at e;cases e;refine⟨x.j0,by show γ.j-p.j0+1≤p.n;rw[h.j];omega,x.n5,x.sh,hs▸l2,?_,fun e=>?_,fun i e=>?_,fun e=>?_,cs,(hh _ (Ne.symm l3)).trans a1,a2,a3⟩
  ·show w1.heap[p.wg]?=some (cD p.eW (a_ γ.wm (Gh.v {γ with extra:=1} p)) (yP γ.wm))
   rw[hw,ev,aW];rfl
  ·have e':γ.wm= .reg:=e
   rw[aW]at e';cases e'
  ·have e':γ.wm= .la i∨γ.wm= .lb i:=e
   rw[aW]at e';rcases e' with e'|e'<;>cases e'
  ·have e':γ.wm= .rel:=e
   rw[aW]at e';cases e'
 ·unfold RR
  rw[if_neg cQ];refine⟨Nat.le_of_eq hs.symm,iB,.rfl,fun _=>⟨rfl,fun _=> .rfl,fun _=> .rfl,rfl,.rfl,.rfl,fun b hb=>hh b ?_,fun a ha=>cell_of (hh _ ?_)⟩⟩
  ·rintro rfl
   exact hb.elim (fun y=>h.ba.rK _ _ y x.sh) (fun y=>h.ba.tP _ _ y x.sh)
  ·obtain⟨q,hq,_,hA,_⟩:=ha
   rw[hp]at hq;cases hq;rw[hA];exact Ne.symm l3
def Gh.spawn (γ:Gh)(p:Ph)(B:Nat):Gh:=
 {γ with extra:=0,j:=γ.j+1,st:=fun i=>if i=γ.j+1 then .busy else γ.st i,ro:=fun i b=>(i=γ.j+1∧b<B∧(∀k,¬γ.ow k b)∧¬γ.sh b∧b≠p.A)∨γ.ro i b}
theorem SK (h:JJ γ w t j)(hp:γ.ph=some p)(aW:γ.wm= .op)(he:γ.extra=1)(hd:Deaf t 0=0){x y:MemOp}(hx:x.g=0∧x.act= .go (j+1))(hy:y.g=j+1∧y.act= .start):
  JJ (γ.spawn p w.heap.size) w (t++ #[x,y]) (j+1)∧∀k',k'≠0→k'≤j→RR k' γ w (γ.spawn p w.heap.size) w:=by
 have x':=h.phase p hp;obtain⟨l1,l2,l3⟩:=h.lt hp;obtain⟨cs,a1,a2,a3⟩:=x'.arr;have ej:=h.j;have yQ:BA (γ.spawn p w.heap.size):=by
  refine⟨h.ba.ow,?_,h.ba.rK,?_,fun p' bk=>⟨fun i=>⟨((h.ba.A p' bk).1 i).1,?_⟩,(h.ba.A p' bk).2⟩⟩
  ·rintro i i' b h1 (⟨_,_,h2,_⟩|h2)
   ·exact h2 i h1
   ·exact h.ba.pT _ _ _ h1 h2
  ·rintro i b (⟨_,_,_,h2,_⟩|h2)
   ·exact h2
   ·exact h.ba.tP _ _ h2
  ·have e:γ.ph=some p':=bk
   rw[hp]at e;cases e;rintro(⟨_,_,_,_,h2⟩|h2)
   ·exact h2 rfl
   ·exact((h.ba.A p hp).1 i).2 h2
 have tj:TJ (γ.spawn p w.heap.size) w.heap.size t j:=by
  refine h.tj.same rfl (fun i i1 ij=>⟨fun l=> .rfl,fun l=>⟨?_,fun⟨b,hb,hr⟩=>⟨b,hb,.inr hr⟩⟩⟩) (fun i hi=>if_neg (by omega)) (fun p' bk=>⟨p',bk,rfl,rfl⟩) (fun p' bk=>⟨p',bk,rfl,rfl⟩)
  rintro⟨b,hb,⟨h2,_⟩|hr⟩
  ·omega
  ·exact⟨b,hb,hr⟩
 have ec:cnt (γ.spawn p w.heap.size).st p.j0 (γ.j-p.j0)=cnt γ.st p.j0 (γ.j-p.j0):=ov fun i i1 i2=>by
  have SL:=x'.j0;show(if i=γ.j+1 then jE.busy else γ.st i)= .off↔_
  rw[if_neg (by omega)]
 have ev:(γ.spawn p w.heap.size).v p=γ.v p:=by
  have SL:=x'.j0;unfold Gh.v;have e1:(γ.spawn p w.heap.size).j-p.j0=(γ.j-p.j0)+1:=by show γ.j+1-p.j0=_;omega
  rw[e1];simp only[cnt];rw[ec];have e2:(γ.spawn p w.heap.size).st (p.j0+(γ.j-p.j0)+1)= .busy:=if_pos (by omega)
  rw[e2,he];rfl
 refine⟨⟨tj.fork yQ hd hp (by have:=x'.j0;omega) (if_pos (by rw[ej])) hx hy,yQ,by show γ.j+1=_;rw[ej],h.lN,?_,h.cX,fun e=>?_,fun p' bk i hi=>?_,fun p' bk=>?_⟩,fun k' cQ Dj=>?_⟩
 ·rintro i b (⟨_,h2,_⟩|h2)
  ·exact h2
  ·exact h.kv _ _ h2
 ·have:γ.ph=none:=e
  rw[hp]at this;cases this
 ·have e:γ.ph=some p':=bk
  rw[hp]at e;cases e;have dQ:i≤p.j0∨γ.j+1<i:=hi
  have SL:=x'.j0;obtain⟨h1,h2⟩:=h.out p hp i (by omega)
  have cv:i≠γ.j+1:=by omega
  refine⟨(if_neg cv).trans h1,fun b=>⟨(h2 b).1,?_⟩⟩
  rintro(⟨h3,_⟩|h3)
  ·exact cv h3
  ·exact(h2 b).2 h3
 ·have e:γ.ph=some p':=bk
  rw[hp]at e;cases e;have SL:=x'.j0;have hjn:=x'.jn;refine⟨by show p.j0≤γ.j+1;omega,by show γ.j+1-p.j0+0≤p.n;omega,x'.n5,x'.sh,l2,by rw[ev];exact x'.wg,fun e=>?_,fun i e=>?_,fun e=>?_,cs,a1,a2,fun i i1 i2 i3 c hc=>?_⟩
  ·have e':γ.wm= .reg:=e
   rw[aW]at e';cases e'
  ·have e':γ.wm= .la i∨γ.wm= .lb i:=e
   rw[aW]at e';rcases e' with e'|e'<;>cases e'
  ·have e':γ.wm= .rel:=e
   rw[aW]at e';cases e'
  ·have Wf:(if i=γ.j+1 then jE.busy else γ.st i)≠.busy:=i3
   by_cases hi:i=γ.j+1
   ·rw[if_pos hi]at Wf;exact absurd rfl Wf
   ·rw[if_neg hi]at Wf
    have i2':i≤γ.j+1:=i2
    exact a3 i i1 (by omega) Wf c hc
 ·unfold RR
  rw[if_neg cQ];have cv:k'≠γ.j+1:=by omega
  have e1:(γ.spawn p w.heap.size).st k'=γ.st k':=if_neg cv
  refine⟨Nat.le_refl _,⟨rfl,rfl,rfl⟩,?_,fun _=>⟨e1,fun _=> .rfl,fun b=>⟨?_,.inr⟩,rfl,.rfl,.rfl,fun _ _=>rfl,fun _ _=>rfl⟩⟩
  ·unfold Gh.Gone
   rw[e1];exact .rfl
  ·rintro(⟨h2,_⟩|h2)
   ·exact absurd h2 cv
   ·exact h2
theorem Y8 (h:JJ γ w t j)(hp:γ.ph=some p)(aW:γ.wm= .op)(he:γ.extra=0)(hv:0<γ.v p)(iB:bq w w1)(hs:w1.heap.size=w.heap.size)(hh:∀b,b≠p.wg→w1.heap[b]?=w.heap[b]?)
  (hw:w1.heap[p.wg]?=some (cD p.eW ((γ.v p:Int)*bK+1) 0)) (aR:∀e∈es,rj γ j w.heap.size e):
  JJ (γ.eR γ.st .reg) w1 (t++MemOp.ofEvents 0 fn pos es) j∧∀k',k'≠0→RR k' γ w (γ.eR γ.st .reg) w1:=by
 have x:=h.phase p hp;refine⟨tS h hp hs hh ?_ (fun i hi=>rfl) ⟨hw,fun _=>⟨he,hv⟩,fun i e=>(by rcases e with e|e<;>cases e),nofun⟩ fun _=>id,pW hp x.sh h.ba hs iB hh (fun i hi=>rfl) (fun i hi _=>by rw[aW];simp) fun e=>absurd rfl e⟩
 exact((hs▸h.tj.main h.ba (Nat.le_refl _) aR:TJ γ w1.heap.size _ j)).eR fun _=>id
theorem Y9 (h:JJ γ w t j)(hp:γ.ph=some p)(aW:γ.wm= .rel)(iB:bq w w1)(hs:w1.heap.size=w.heap.size)(hh:∀b,b≠p.wg→w1.heap[b]?=w.heap[b]?)
  (hw:w1.heap[p.wg]?=some (cD p.eW 0 0)) (aR:∀e∈es,rj γ j w.heap.size e):
  γ.v p=0∧JJ (γ.eR γ.st .op) w1 (t++MemOp.ofEvents 0 fn pos es) j∧∀k',k'≠0→RR k' γ w (γ.eR γ.st .op) w1:=by
 have x:=h.phase p hp;have hv:=x.rel aW;have fM:(γ.eR γ.st .op).v p=0:=hv
 refine⟨hv,tS h hp hs hh ?_ (fun i hi=>rfl) ⟨?_,nofun,fun i e=>(by rcases e with e|e<;>cases e),nofun⟩ fun _=>id,pW hp x.sh h.ba hs iB hh (fun i hi=>rfl) (fun i hi _=>by rw[aW];simp) fun e=>absurd rfl e⟩
 ·exact((hs▸h.tj.main h.ba (Nat.le_refl _) aR:TJ γ w1.heap.size _ j)).eR fun _=>id
 ·rw[hw,fM]
  show some (cD p.eW 0 0)=some (cD p.eW (((0:Nat):Int)*bK) 0)
  rw[Int.natCast_zero,Int.zero_mul]
def Gh.idle (γ:Gh):Gh:={γ with ow:=fun _ _=>False,ro:=fun _ _=>False,ph:=none,st:=fun _=> .off,wm:= .op,extra:=0}
theorem SM (h:JJ γ w t j)(hp:γ.ph=some p)(hv:γ.v p=0)(k:Nat):γ.st k= .off:=by
 have x:=h.phase p hp;have SL:=x.j0;by_cases hk:k≤p.j0∨γ.j<k
 ·exact(h.out p hp k hk).1
 ·unfold Gh.v at hv
  exact Pz (j0:=p.j0) (m:=γ.j-p.j0) (by omega) k (by omega) (by omega)
theorem Wg (h:JJ γ w t j)(hp:γ.ph=some p)(aW:γ.wm= .op)(hv:γ.v p=0)(hd:Deaf t 0=0):
  JJ γ.idle w (t++MemOp.ofEvents 0 fn pos #[⟨.mark (.acquire ⟨p.wg,0,none⟩),false,true⟩]) j∧(∀k',k'≠0→RR k' γ w γ.idle w)∧
   ∃cs,w.heap[p.A]?=some (.cells cs p.eA)∧cs.size=5*p.n∧∀i c,i<j-p.j0→c<5→cs[5*i+c]?=some (p.mB i c):=by
 have x:=h.phase p hp;obtain⟨l1,l2,l3⟩:=h.lt hp;have off:=SM h hp hv;obtain⟨cs,a1,a2,a3⟩:=x.arr;have tj:=h.tj.join (fn:=fn) (pos:=pos) h.ba hp (fun k _ _ e=>by rw[off k]at e;cases e) hd l1 (fun _=> .off) .op
 refine⟨⟨⟨tj.ct,tj.low,tj.over,tj.rel,tj.norel,tj.old⟩,⟨fun _ _ _ e=>e.elim,fun _ _ _ e=>e.elim,fun _ _ e=>e.elim,fun _ _ e=>e.elim,nofun⟩,h.j,fun _ _ e=>e.elim,fun _ _ e=>e.elim,h.cX,fun _=>⟨fun _ _=>⟨id,id⟩,fun _=>rfl,rfl⟩,nofun,nofun⟩,fun k' cQ=>?_,cs,a1,a2,fun i c hi hc=>?_⟩
 ·unfold RR
  rw[if_neg cQ];have hg:γ.Gone k':=⟨off k',by rw[aW];nofun,by rw[aW];nofun⟩
  have bf:γ.idle.Gone k':=⟨rfl,nofun,nofun⟩
  exact⟨Nat.le_refl _,⟨rfl,rfl,rfl⟩,⟨fun _=>bf,fun _=>hg⟩,fun hn=>absurd hg hn⟩
 ·have ej:=h.j
  have:=a3 (p.j0+1+i) (by omega) (by omega) (by rw[off];nofun) c hc
  have e1:p.j0+1+i-p.j0-1=i:=by omega
  rwa[e1]at this
def Gh.begin (γ:Gh)(p:Ph):Gh:={γ with sh:=fun b=>γ.sh b∨b=p.wg,ph:=some p,extra:=0}
theorem Wh (h:JJ γ w t j)(hn:γ.ph=none)(hj:p.j0=j)(hw:p.wg=w.heap.size)(n5:p.n≤5)(hA:p.A<w.heap.size)(hAs:¬γ.sh p.A){cs:Array Value}(sI:w.heap[p.A]?=some (.cells cs p.eA))(jj:cs.size=5*p.n)
  (iB:bq w w1) (h1:w1.heap=w.heap.push (cD p.eW 0 0)):JJ (γ.begin p) w1 t j∧∀k',k'≠0→RR k' γ w (γ.begin p) w1:=by
 obtain⟨n1,n2,n3⟩:=h.none hn;have hs:w.heap.size≤w1.heap.size:=by rw[h1];simp
 have hh:∀b,b<w.heap.size→w1.heap[b]?=w.heap[b]?:=fun b hb=>by rw[h1,Array.getElem?_push,if_neg (by omega)]
 have tj:=h.tj.open (B':=w1.heap.size) hs hn n1 p hj (by omega) γ.st γ.wm
 refine⟨⟨⟨tj.ct,tj.low,tj.over,tj.rel,tj.norel,tj.old⟩,⟨h.ba.ow,h.ba.pT,fun i b e=>absurd e (n1 i b).1,fun i b e=>absurd e (n1 i b).2,fun p' bk=>?_⟩,h.j,fun i b e=>absurd e (n1 i b).1,fun i b e=>absurd e (n1 i b).2,fun b e=>?_,nofun,fun p' bk i _=>⟨n2 i,n1 i⟩,fun p' bk=>?_⟩,fun k' cQ=>?_⟩
 ·cases bk
  refine⟨fun i=>n1 i _,?_⟩
  rintro(e|e)
  ·exact hAs e
  ·omega
 ·rcases e with e|e
  ·exact Nat.lt_of_lt_of_le (h.cX b e) hs
  ·rw[e,hw,h1];simp
 ·cases bk
  have ev:(γ.begin p).v p=0:=by
   unfold Gh.v Gh.begin;simp only
   have e1:γ.j-p.j0=0:=by rw[h.j];omega
   rw[e1];rfl
  have ej:=h.j;refine⟨by show p.j0≤γ.j;omega,by show γ.j-p.j0+0≤p.n;omega,n5,.inr rfl,by omega,?_,fun e=>?_,fun i e=>?_,fun _=>ev,cs,(hh _ hA).trans sI,jj,fun i i1 i2 i3=>?_⟩
  ·rw[ev]
   show _=some (cD p.eW (a_ γ.wm 0) (yP γ.wm))
   rw[n3,h1,hw];show _=some (cD p.eW (((0:Nat):Int)*bK) 0)
   rw[Int.natCast_zero,Int.zero_mul];simp
  ·have e':γ.wm= .reg:=e
   rw[n3]at e';cases e'
  ·have e':γ.wm= .la i∨γ.wm= .lb i:=e
   rw[n3]at e';rcases e' with e'|e'<;>cases e'
  ·have i2':i≤γ.j:=i2
   omega
 ·unfold RR
  rw[if_neg cQ];have hg:γ.Gone k':=⟨n2 k',by rw[n3];nofun,by rw[n3];nofun⟩
  exact⟨hs,iB,.rfl,fun hn=>absurd hg hn⟩
end
end Go.Proofs.YtlhohdjniaebbaaGreat.Sr
namespace Go.Proofs.YtlhohdjniaebbaaGreat.Sr
open Go Go.Conc Go.ConcN
theorem ox {P:Program}:∀{n d:Nat} {g:Goroutine},quits P n d g=true→QuitsD P n d g
 |0,d,g,h=>by simpa[quits,QuitsD]using h
 |n+1,d,g,h=>by
  simp only[quits,Bool.or_eq_true]at h;rcases h with h|h
  ·left;simpa using h
  ·cases hq:bU P g with
   |none=>rw[hq]at h;cases h
   |some y=>
    obtain⟨g',es⟩:=y;rw[hq]at h;simp only[Bool.and_eq_true]at h;obtain⟨h1,h2⟩:=ee hq;exact .inr ⟨h1,g',es,fun e he=>Array.all_eq_true_iff_forall_mem.1 h.1 e he,fun w=>h2 false w,ox h.2⟩
section
variable {P:Program}{Γ:Type}{S:Sys P Γ}{k d:Nat}{γ:Γ}{w:World}{g:Goroutine}
theorem WP.mute:∀{n:Nat} {g:Goroutine} {γ:Γ} {w:World},mute P n g=true→(∀ah w',S.R k γ w ah w'→¬S.Gone ah k)→(∀ah w',S.R k γ w ah w'→WP S k d ah w' (aL P n g))→WP S k d γ w g
 |0,g,γ,w,_,_,h=>h γ w (S.refl _ _ _)
 |n+1,g,γ,w,hm,hg,h=>by
  obtain⟨g',hs,cC,FO,ha⟩:=sF hm;rw[ha]at h;refine .mk hs hg fun ah w' t j hR hJ hd kj=>⟨⟨g',w',#[],ah⟩,⟨cC false w',by rw[Dg,Array.append_empty];exact hJ,fun k' _=>S.refl _ _ _⟩,fun a b=>absurd a b,?_⟩
  exact WP.mute FO (fun a b x=>hg a b (S.trans hR x)) fun a b x=>h a b (S.trans hR x)
theorem MP.mute {Q:Γ→World→Trace→Nat→Outcome→World→Prop}:∀{n:Nat} {g:Goroutine} {γ:Γ} {w:World},mute P (n+1) g=true→(∀ah w',S.R 0 γ w ah w'→∃b,MP S Q b d ah w' (aL P (n+1) g))→MP S Q false d γ w g:=by
 intro n;induction n with
 |zero=>
  intro g γ w hm h;obtain⟨g',hs,cC,FO,ha⟩:=sF hm;rw[ha]at h;refine .go hs fun ah w' t j hR hJ hd=>?_;obtain⟨b,hb⟩:=h ah w' hR;exact⟨⟨g',w',#[],ah⟩,b,⟨cC true w',by rw[Dg,Array.append_empty];exact hJ,fun k' _=>S.refl _ _ _⟩,hb⟩
 |succ n ih=>
  intro g γ w hm h;obtain⟨g',hs,cC,FO,ha⟩:=sF hm;rw[ha]at h;exact .go hs fun ah w' t j hR hJ hd=>⟨⟨g',w',#[],ah⟩,false,⟨cC true w',by rw[Dg,Array.append_empty];exact hJ,fun k' _=>S.refl _ _ _⟩,ih FO fun a b x=>h a b (S.trans hR x)⟩
end
section
variable {P:Program}{k d:Nat}{γ:Gh}{w:World}{g:Goroutine}
theorem WP.said {g':Goroutine}{es:Array Event}(h:bU P g=some (g',es))(hg:∀ah w',RR k γ w ah w'→¬ah.Gone k)
  (hj:∀ah w' t j,RR k γ w ah w'→JJ ah w' t j→Deaf t k=d→k≤j→∃γ1,JJ γ1 w' (t++MemOp.ofEvents k g.frame.fn g.frame.place es) j∧(∀k',k'≠k→RR k' ah w' γ1 w')∧(γ1.wm= .rel→ah.wm= .rel)∧WP (sys P) k (deafBehind d es) γ1 w' g'):WP (sys P) k d γ w g:=by
 obtain⟨h1,h2⟩:=ee h;refine .mk h1 hg fun ah w' t j hR hJ hd kj=>?_;obtain⟨γ1,c1,c2,c3,c4⟩:=hj ah w' t j hR hJ hd kj;exact⟨⟨g',w',es,γ1⟩,⟨h2 false w',c1,c2⟩,fun a b=>absurd (fun e=>a (c3 e)) b,c4⟩
theorem WP.rk (hs:g.status= .running)(hg:∀ah w',RR k γ w ah w'→¬ah.Gone k)
  (hj:∀ah w' t j,RR k γ w ah w'→JJ ah w' t j→Deaf t k=d→k≤j→∃v sh y γ1,bn P v sh g=some y∧(∀a∈y.ls,w'.cell? a=some v∧w'.frozen? a=false)∧(∀r∈y.rs,w'.shape? r=sh)∧
   JJ γ1 (dC w' y.bb) (t++MemOp.ofEvents k g.frame.fn g.frame.place y.es) j∧(∀k',k'≠k→RR k' ah w' γ1 (dC w' y.bb))∧(ah.wm≠.rel→γ1.wm= .rel→mayWake P g=true∧y.x.status= .running)∧WP (sys P) k (deafBehind d y.es) γ1 (dC w' y.bb) y.x):WP (sys P) k d γ w g:=by
 refine .mk hs hg fun ah w' t j hR hJ hd kj=>?_;obtain⟨v,sh,y,γ1,c0,c1,c2,c3,c4,c5,c6⟩:=hj ah w' t j hR hJ hd kj;exact⟨⟨y.x,dC w' y.bb,y.es,γ1⟩,⟨(vS c0).2 false w' c1 c2,c3,c4⟩,fun a b=>c5 a (Classical.not_not.1 b),c6⟩
end
end Go.Proofs.YtlhohdjniaebbaaGreat.Sr
namespace Go.Proofs.YtlhohdjniaebbaaGreat.Sr
open Go Go.Conc Go.ConcN
section
variable {k:Nat}{γ ah:Gh}{w w':World}{p:Ph}
theorem jS (hk:1≤k)(h:RR k γ w ah w'):RW k γ w ah w':=by
 unfold RR at h;rwa[if_neg (by omega)]at h
structure Kp (k:Nat) (γ ah:Gh):Prop where
 st:ah.st k=γ.st k
 ph:ah.ph=γ.ph
 la:ah.wm= .la k↔γ.wm= .la k
 lb:ah.wm= .lb k↔γ.wm= .lb k
theorem jk (hk:1≤k)(h:RR k γ w ah w')(hg:¬γ.Gone k):Kp k γ ah:=
 let⟨a,_,_,b,c,d,_,_⟩:=(jS hk h).live hg;⟨a,b,c,d⟩
theorem nG (hk:1≤k)(hg:¬γ.Gone k):∀ah w',RR k γ w ah w'→¬ah.Gone k:=fun _ _ h x=>hg ((jS hk h).gone.2 x)
theorem nH {s:jE}(h:γ.st k=s)(hs:s≠.off):¬γ.Gone k:=fun x=>hs (h▸x.1)
theorem jl (h:γ.wm= .la k):¬γ.Gone k:=fun x=>x.2.1 h
theorem pY (h:γ.wm= .lb k):¬γ.Gone k:=fun x=>x.2.2 h
theorem iO {wg:Nat}{e:TypeId}{st sm:Int}(h:w.heap[wg]?=some (cD e st sm)):w.cell? ⟨wg,0,none⟩=some (.int .u64 st)∧w.frozen? ⟨wg,0,none⟩=false:=by
 unfold World.cell? World.frozen?;simp only[h,cD];exact⟨rfl,by simp⟩
theorem vH {wg:Nat}{e:TypeId}{st sm:Int}(h:w.heap[wg]?=some (cD e st sm)):w.cell? ⟨wg,1,none⟩=some (.int .u32 sm)∧w.frozen? ⟨wg,1,none⟩=false:=by
 unfold World.cell? World.frozen?;simp only[h,cD];exact⟨rfl,by simp⟩
theorem nI {wg:Nat}{e:TypeId}{st sm:Int}(h:w.heap[wg]?=some (cD e st sm)):w.shape? wg=some (e,2):=by
 unfold World.shape?;simp only[h,cD];rfl
theorem tT {wg:Nat}{e:TypeId}{st sm:Int}(h:w.heap[wg]?=some (cD e st sm))(s:Int):(w.setCell ⟨wg,0,none⟩ (.int .u64 s)).heap[wg]?=some (cD e s sm):=by
 unfold World.setCell;simp only[Array.getElem?_modify,if_true,h,Option.map_some,cD];rfl
theorem FV {wg:Nat}{e:TypeId}{st sm:Int}(h:w.heap[wg]?=some (cD e st sm))(s:Int):(w.setCell ⟨wg,1,none⟩ (.int .u32 s)).heap[wg]?=some (cD e st s):=by
 unfold World.setCell;simp only[Array.getElem?_modify,if_true,h,Option.map_some,cD];rfl
theorem jT {a:Addr}{x:Value}:∀b,b≠a.block→(w.setCell a x).heap[b]?=w.heap[b]?:=fun b hb=>by
 unfold World.setCell;simp only[Array.getElem?_modify];rw[if_neg (Ne.symm hb)]
theorem iC {wg o:Nat}{x:Value}:∀b,b≠wg→(w.setCell ⟨wg,o,none⟩ x).heap[b]?=w.heap[b]?:=fun b hb=>jT b hb
theorem b9 {a:Addr}{x:Value}:(w.setCell a x).heap.size=w.heap.size:=by
 unfold World.setCell;simp
theorem KO {γ:Gh}{d B:Nat}{es:Array Event}(h:∀e∈es,e.mute=true):xD γ d B es:=fun i e hi=>by
 have:=pV (h e (Array.mem_of_getElem? hi)) B
 exact⟨.inl this.1,this.2⟩
theorem Wi {γ:Gh}{B wg o:Nat}(hs:γ.sh wg)(hB:wg<B):xD γ 1 B #[bV ⟨wg,o,none⟩]:=fun i e hi=>by
 have KJ:i=0:=by have:=(Array.getElem?_eq_some_iff.1 hi).1;simp at this;omega
 subst KJ;simp at hi;subst hi
 exact⟨.inr ⟨⟨_,_,rfl,hs⟩,by simp[deafBehind]⟩,hB,nofun⟩
theorem Wj {γ:Gh}{B wg o:Nat}(hs:γ.sh wg)(hB:wg<B):xD γ 1 B #[dS ⟨wg,o,none⟩]:=fun i e hi=>by
 have KJ:i=0:=by have:=(Array.getElem?_eq_some_iff.1 hi).1;simp at this;omega
 subst KJ;simp at hi;subst hi
 exact⟨.inr ⟨⟨_,_,rfl,hs⟩,by simp[deafBehind]⟩,hB,nofun⟩
theorem Wl {γ:Gh}{B wg o:Nat}(hs:γ.sh wg)(hB:wg<B):xD γ 1 B #[bV ⟨wg,o,none⟩,dS ⟨wg,o,none⟩]:=fun i e hi=>by
 have aj:=(Array.getElem?_eq_some_iff.1 hi).1;simp at aj
 obtain rfl|rfl:i=0∨i=1:=by omega
 ·simp at hi;subst hi
  exact⟨.inr ⟨⟨_,_,rfl,hs⟩,by simp[deafBehind]⟩,hB,nofun⟩
 ·simp at hi;subst hi
  exact⟨.inr ⟨⟨_,_,rfl,hs⟩,by simp[deafBehind]⟩,hB,nofun⟩
theorem SN {γ:Gh}{B wg o:Nat}(hs:γ.sh wg)(hB:wg<B):xD γ 1 B #[dL .disable,bV ⟨wg,o,none⟩,dS ⟨wg,o,none⟩,dL .enable]:=fun i e hi=>by
 have aj:=(Array.getElem?_eq_some_iff.1 hi).1;simp at aj
 obtain rfl|rfl|rfl|rfl:i=0∨i=1∨i=2∨i=3:=by omega
 ·simp at hi;subst hi
  exact⟨.inl rfl,trivial,nofun⟩
 ·simp at hi;subst hi
  exact⟨.inr ⟨⟨_,_,rfl,hs⟩,by simp[deafBehind]⟩,hB,nofun⟩
 ·simp at hi;subst hi
  exact⟨.inr ⟨⟨_,_,rfl,hs⟩,by simp[deafBehind]⟩,hB,nofun⟩
 ·simp at hi;subst hi
  exact⟨.inl rfl,trivial,nofun⟩
theorem NU {a b:Addr}(h:a∈[b]):b=a:=(by simpa using h:a=b).symm
theorem NV {a b:Nat}(h:a∈[b,b]):b=a:=(by simpa using h:a=b).symm
theorem FW {a b:Addr}(h:a∈[b,b]):b=a:=(by simpa using h:a=b).symm
theorem PB {P:Program}{g7 g8 Y_ g9 Y' SO SP:Goroutine}(m7:mute P 103 g7=true)(a7:aL P 103 g7=g8)(v8:bn P (.int .u64 1) none g8=some ⟨Y_,#[bV ⟨p.wg,0,none⟩],[⟨p.wg,0,none⟩],[],none⟩)
  (m8:mute P 20 Y_=true) (a8:aL P 20 Y_=g9) (v9:bn P (.int .u64 1) none g9=some ⟨Y',#[dS ⟨p.wg,0,none⟩],[⟨p.wg,0,none⟩],[],some (⟨p.wg,0,none⟩,.int .u64 0)⟩)
  (m9:mute P 27 Y'=true) (a9:aL P 27 Y'=SO) (v10:bn P (.int .u32 0) none SO=some ⟨SP,#[dL .disable,bV ⟨p.wg,1,none⟩,dS ⟨p.wg,1,none⟩,dL .enable],[⟨p.wg,1,none⟩,⟨p.wg,1,none⟩],[],some (⟨p.wg,1,none⟩,.int .u32 1)⟩)
  (mw:mayWake P SO=true) (mr:SP.status= .running) (mq:quits P 30 1 SP=true) (hk:1≤k) (hl:γ.wm= .la k) (hp:γ.ph=some p):WP (sys P) k 1 γ w g7:=by
 have lv:∀{ah:Gh} {w':World},RR k γ w ah w'→ah.wm= .la k∧ah.ph=some p:=fun hR=>by
  have kp:=jk hk hR (jl hl);exact⟨kp.la.2 hl,kp.ph.trans hp⟩
 refine WP.mute (n:=103) m7 (nG hk (jl hl)) fun γ1 w1 h1=>?_;rw[a7];obtain⟨l1,p1⟩:=lv h1;refine .rk (vS v8).1 (nG hk (jl l1)) fun cZ w2 tr j h2 hJ hd kj=>?_;have SQ:=jk hk h2 (jl l1);have l2:=SQ.la.2 l1;have p2:=SQ.ph.trans p1;have x2:=hJ.phase p p2;have fu:w2.heap[p.wg]?=some (cD p.eW 1 0):=by have:=x2.wg;rw[l2]at this;exact this
 obtain⟨q1,q2⟩:=FU (fn:=g8.frame.fn) (pos:=g8.frame.place) (es:= #[bV ⟨p.wg,0,none⟩]) hJ hk kj (by rw[hd];exact Wi x2.sh (hJ.cX _ x2.sh))
 refine⟨_,_,_,cZ,v8,fun a ha=>(NU ha)▸iO fu,fun r hr=>(by cases hr),q1,q2,fun _ e=>(by rw[l2]at e;cases e),?_⟩
 refine WP.mute (n:=20) m8 (nG hk (jl l2)) fun lj w3 h3=>?_;rw[a8];have FX:=jk hk h3 (jl l2);have l3:=FX.la.2 l2;have p3:=FX.ph.trans p2;refine .rk (vS v9).1 (nG hk (jl l3)) fun ff w4 tr4 j4 h4 ll PC kj4=>?_;have kp4:=jk hk h4 (jl l3);have l4:=kp4.la.2 l3;have p4:=kp4.ph.trans p3;have x4:=ll.phase p p4;have nJ:w4.heap[p.wg]?=some (cD p.eW 1 0):=by have:=x4.wg;rw[l4]at this;exact this
 have aaV:Deaf tr4 k=1:=PC
 obtain⟨r1,r2⟩:=SJ (w1:=w4.setCell ⟨p.wg,0,none⟩ (.int .u64 0)) (fn:=g9.frame.fn) (pos:=g9.frame.place) (es:= #[dS ⟨p.wg,0,none⟩]) ll p4 l4 ⟨rfl,rfl,rfl⟩ b9 iC (tT nJ 0) (by rw[aaV];exact Wj x4.sh (ll.cX _ x4.sh))
 refine⟨_,_,_,_,v9,fun a ha=>(NU ha)▸iO nJ,fun r hr=>(by cases hr),r1,r2,fun _ e=>(by cases e),?_⟩
 have l5:(ff.eR ff.st (.lb k)).wm= .lb k:=rfl
 refine WP.mute (n:=27) m9 (nG hk (pY l5)) fun tU w6 h6=>?_;rw[a9];have SS:=jk hk h6 (pY l5);have l6:=SS.lb.2 l5;have p6:tU.ph=some p:=SS.ph.trans p4
 refine .rk (vS v10).1 (nG hk (pY l6)) fun AO w7 tr7 j7 h7 AP Wm kj7=>?_;have SU:=jk hk h7 (pY l6);have l7:=SU.lb.2 l6;have p7:=SU.ph.trans p6;have x7:=AP.phase p p7;have SV:w7.heap[p.wg]?=some (cD p.eW 0 0):=by have:=x7.wg;rw[l7]at this;exact this
 have aaW:Deaf tr7 k=1:=Wm
 obtain⟨s1,s2⟩:=We (w1:=w7.setCell ⟨p.wg,1,none⟩ (.int .u32 1)) (fn:=SO.frame.fn) (pos:=SO.frame.place) (es:= #[dL .disable,bV ⟨p.wg,1,none⟩,dS ⟨p.wg,1,none⟩,dL .enable]) AP p7 l7 ⟨rfl,rfl,rfl⟩ b9 iC (FV SV 1) (by rw[aaW];exact SN x7.sh (AP.cX _ x7.sh))
 refine⟨_,_,_,_,v10,fun a ha=>(FW ha)▸vH SV,fun r hr=>(by cases hr),s1,s2,fun _ _=>⟨mw,mr⟩,?_⟩
 obtain⟨_,_,_,c4⟩:=x7.la k (.inr l7);refine .quit 30 (ox mq) fun fw w8 h8=>?_;exact(jS hk h8).gone.1 ⟨c4,nofun,nofun⟩
theorem PD {P:Program}{g0 g1 g2 g3 g4 g5 g6:Goroutine}{g7:Int→Goroutine}{eW:TypeId}(m0:mute P 16 g0=true)(a0:aL P 16 g0=g1)(v1:bn P undef (some (eW,2)) g1=some ⟨g2,#[],[],[p.wg,p.wg],none⟩)
  (q2:bU P g2=some (g3,#[dL (.releaseMerge ⟨p.wg,0,none⟩)])) (m3:mute P 3 g3=true) (a3:aL P 3 g3=g4) (q4:bU P g4=some (g5,#[dL .disable])) (m5:mute P 34 g5=true) (a5:aL P 34 g5=g6)
  (v6:∀(v:Nat) (wm:WM),1≤v→v≤5→wm= .op∨wm= .reg→bn P (.int .u64 (a_ wm v)) none g6=some ⟨g7 (a_ wm v-bK),#[bV ⟨p.wg,0,none⟩,dS ⟨p.wg,0,none⟩],[⟨p.wg,0,none⟩,⟨p.wg,0,none⟩],[],some (⟨p.wg,0,none⟩,.int .u64 (a_ wm v-bK))⟩)
  (q7:∀(v:Nat) (wm:WM),1≤v→v≤5→wm= .op∨(wm= .reg∧v≠1)→quits P 110 1 (g7 (a_ wm v-bK))=true) (yR:∀(γ:Gh) (w:World),γ.wm= .la k→γ.ph=some p→WP (sys P) k 1 γ w (g7 (a_ .reg 1-bK)))
  (he:p.eW=eW) (hp:γ.ph=some p) (hk:p.j0<k) (hb:γ.st k= .busy) (hc:∀c,c<5→w.cell? ⟨p.A,5*(k-p.j0-1)+c,none⟩=some (p.mB (k-p.j0-1) c)):WP (sys P) k 0 γ w g0:=by
 have k1:1≤k:=by omega
 have lb:=nH hb (by decide:jE.busy≠.off)
 have slot:∀{γ ah:Gh} {w w':World},γ.ph=some p→RR k γ w ah w'→¬γ.Gone k→(∀c,c<5→w.cell? ⟨p.A,5*(k-p.j0-1)+c,none⟩=some (p.mB (k-p.j0-1) c))→∀c,c<5→w'.cell? ⟨p.A,5*(k-p.j0-1)+c,none⟩=some (p.mB (k-p.j0-1) c):=by
  intro γ ah w w' hp hR hg h c hc;obtain⟨_,_,_,_,_,_,_,h8⟩:=(jS k1 hR).live hg;rw[h8 _ ⟨p,hp,hk,rfl,by show _≤5*(k-p.j0-1)+c;omega,by show 5*(k-p.j0-1)+c<_;omega⟩]
  exact h c hc
 refine WP.mute (n:=16) m0 (nG k1 lb) fun γ1 w1 h1=>?_;rw[a0];have kp1:=jk k1 h1 lb;have b1:=kp1.st.trans hb;have p1:=kp1.ph.trans hp;have c1:=slot hp h1 lb hc;have Za:=nH b1 (by decide:jE.busy≠.off)
 refine .rk (vS v1).1 (nG k1 Za) fun cZ w2 t2 j2 h2 nj yS kj2=>?_;have SQ:=jk k1 h2 Za;have b2:=SQ.st.trans b1;have p2:=SQ.ph.trans p1;have c2:=slot p1 h2 Za c1;have Zb:=nH b2 (by decide:jE.busy≠.off)
 have x2:=nj.phase p p2;refine⟨_,_,_,cZ,v1,fun a ha=>(by cases ha),fun r hr=>?_,?_,fun k' _=>(sys P).refl k' cZ w2,fun e e'=>absurd e' e,?_⟩
 ·have:p.wg=r:=NV hr
  rw[←this,←he];exact nI x2.wg
 ·show JJ cZ w2 (t2++MemOp.ofEvents k g1.frame.fn g1.frame.place #[]) j2
  rw[Dg,Array.append_empty];exact nj
 refine .said q2 (nG k1 Zb) fun lj w3 t3 j3 h3 hJ3 hd3 kj3=>?_;have FX:=jk k1 h3 Zb;have b3:=FX.st.trans b2;have p3:=FX.ph.trans p2;have c3:=slot p2 h3 Zb c2;have aaX:Deaf t3 k=0:=hd3
 obtain⟨r1,r2⟩:=KN (fn:=g2.frame.fn) (pos:=g2.frame.place) hJ3 p3 hk kj3 b3 aaX c3;refine⟨_,r1,r2,fun e=>e,?_⟩
 have b4:({lj with st:=fun i=>if i=k then .said else lj.st i}:Gh).st k= .said:=if_pos rfl
 have lb4:=nH b4 (by decide:jE.said≠.off)
 refine WP.mute (n:=3) m3 (nG k1 lb4) fun vI w5 h5=>?_;rw[a3];have kp5:=jk k1 h5 lb4;have b5:=kp5.st.trans b4;have p5:vI.ph=some p:=kp5.ph.trans p3
 have lb5:=nH b5 (by decide:jE.said≠.off)
 refine .said q4 (nG k1 lb5) fun tU w6 t6 j6 h6 hJ6 hd6 kj6=>?_;have SS:=jk k1 h6 lb5;have b6:=SS.st.trans b5;have p6:=SS.ph.trans p5;have lb6:=nH b6 (by decide:jE.said≠.off)
 obtain⟨s1,s2⟩:=FU (fn:=g4.frame.fn) (pos:=g4.frame.place) (es:= #[dL .disable]) hJ6 k1 kj6 (KO fun e he=>by simp at he;subst he;rfl)
 refine⟨_,s1,s2,fun e=>e,?_⟩
 refine WP.mute (n:=34) m5 (nG k1 lb6) fun AO w7 h7=>?_;rw[a5];have SU:=jk k1 h7 lb6;have b7:=SU.st.trans b6;have p7:=SU.ph.trans p6;have lb7:=nH b7 (by decide:jE.said≠.off)
 refine .rk (vS (v6 1 .op (by omega) (by omega) (.inl rfl))).1 (nG k1 lb7) fun fw w8 t8 j8 h8 FY hd8 kj8=>?_
 have kp8:=jk k1 h8 lb7;have b8:=kp8.st.trans b7;have p8:=kp8.ph.trans p7;have x8:=FY.phase p p8;have dB:fw.st k≠.off:=by rw[b8];decide
 have hv:=(SI FY p8 hk kj8 dB .op).1;have aW:fw.wm= .op∨fw.wm= .reg:=by
  cases e:fw.wm with
  |op=>exact .inl rfl
  |reg=>exact .inr rfl
  |la i=>have:=(x8.la i (.inl e)).1;omega
  |lb i=>have:=(x8.la i (.inr e)).1;omega
  |rel=>have:=x8.rel e;omega
 have v5:fw.v p≤5:=by
  have h5:=xU (st:=fw.st) (j0:=p.j0) (m:=fw.j-p.j0);have h6:=x8.jn;have h7:=x8.n5;unfold Gh.v;omega
 have SW:yP fw.wm=0:=by rcases aW with e|e<;>rw[e]<;>rfl
 have Zc:=x8.wg;rw[SW]at Zc;have aaY:Deaf t8 k=1:=hd8
 obtain⟨_,_,u1,u2⟩:=Y6 (w1:=w8.setCell ⟨p.wg,0,none⟩ (.int .u64 (a_ fw.wm (fw.v p)-bK))) (fn:=g6.frame.fn) (pos:=g6.frame.place) (es:= #[bV ⟨p.wg,0,none⟩,dS ⟨p.wg,0,none⟩]) FY p8 hk kj8 b8 ⟨rfl,rfl,rfl⟩ b9 iC (tT Zc _) (by rw[aaY];exact Wl x8.sh (FY.cX _ x8.sh))
 refine⟨_,_,_,_,v6 _ _ (by omega) v5 aW,fun a ha=>(FW ha)▸iO Zc,fun r hr=>(by cases hr),u1,u2,fun _ e=>?_,?_⟩
 ·have e':(if fw.wm= .reg∧fw.v p=1 then WM.la k else fw.wm)= .rel:=e
  split at e'
  ·cases e'
  ·rcases aW with e2|e2<;>rw[e2]at e'<;>cases e'
 ·by_cases PE:fw.wm= .reg∧fw.v p=1
  ·have hla:=yR (fw.eR (lO fw k) (if fw.wm= .reg∧fw.v p=1 then WM.la k else fw.wm)) (w8.setCell ⟨p.wg,0,none⟩ (.int .u64 (a_ fw.wm (fw.v p)-bK))) (if_pos PE) p8
   have e9:a_ WM.reg 1-bK=a_ fw.wm (fw.v p)-bK:=by rw[PE.1,PE.2]
   rw[e9]at hla;exact hla
  ·have hq:=q7 (fw.v p) fw.wm (by omega) v5 (by
    rcases aW with e|e
    ·exact .inl e
    ·exact .inr ⟨e,fun h=>PE ⟨e,h⟩⟩)
   refine .quit 110 (ox hq) fun SX w9 h9=>?_;refine(jS k1 h9).gone.1 ⟨if_pos rfl,?_,?_⟩
   ·show(if fw.wm= .reg∧fw.v p=1 then WM.la k else fw.wm)≠_
    rw[if_neg PE];rcases aW with e|e<;>rw[e]<;>nofun
   ·show(if fw.wm= .reg∧fw.v p=1 then WM.la k else fw.wm)≠_
    rw[if_neg PE];rcases aW with e|e<;>rw[e]<;>nofun
end
end Go.Proofs.YtlhohdjniaebbaaGreat.Sr
namespace Go.Proofs.YtlhohdjniaebbaaGreat.Sr
open Go Go.Conc Go.ConcN
theorem FZ:a_ .op 1=4294967296:=by simp[a_,bK]
theorem BP:a_ .reg 1=4294967297:=by simp[a_,bK]
theorem BQ:a_ .op 1-bK=0:=by rw[FZ];simp[bK]
theorem yT:a_ .reg 1-bK=1:=by rw[BP];simp[bK]
theorem F2:a_ .op 2=8589934592:=by simp[a_,bK]
theorem BR:a_ .reg 2=8589934593:=by simp[a_,bK]
theorem BU:a_ .op 2-bK=4294967296:=by rw[F2];simp[bK]
theorem yU:a_ .reg 2-bK=4294967297:=by rw[BR];simp[bK]
theorem F3:a_ .op 3=12884901888:=by simp[a_,bK]
theorem BV:a_ .reg 3=12884901889:=by simp[a_,bK]
theorem BW:a_ .op 3-bK=8589934592:=by rw[F3];simp[bK]
theorem yV:a_ .reg 3-bK=8589934593:=by rw[BV];simp[bK]
theorem F4:a_ .op 4=17179869184:=by simp[a_,bK]
theorem BX:a_ .reg 4=17179869185:=by simp[a_,bK]
theorem BY:a_ .op 4-bK=12884901888:=by rw[F4];simp[bK]
theorem yW:a_ .reg 4-bK=12884901889:=by rw[BX];simp[bK]
theorem F5:a_ .op 5=21474836480:=by simp[a_,bK]
theorem BZ:a_ .reg 5=21474836481:=by simp[a_,bK]
theorem B0:a_ .op 5-bK=17179869184:=by rw[F5];simp[bK]
theorem yX:a_ .reg 5-bK=17179869185:=by rw[BZ];simp[bK]
section
variable {k:Nat}{γ:Gh}{w:World}{p:Ph}(t:Array Value)
theorem KP (v:Nat)(wm:WM)(h1:1≤v)(h2:v≤5)(h:wm= .op∨wm= .reg):
  bn Tryz.prog (.int .u64 (a_ wm v)) none (xB Tryz.prog p.wg t)=some ⟨lJ Tryz.prog p.wg t (a_ wm v-bK),#[bV ⟨p.wg,0,none⟩,dS ⟨p.wg,0,none⟩],[⟨p.wg,0,none⟩,⟨p.wg,0,none⟩],[],some (⟨p.wg,0,none⟩,.int .u64 (a_ wm v-bK))⟩:=by
 obtain rfl|rfl|rfl|rfl|rfl:v=1∨v=2∨v=3∨v=4∨v=5:=by omega
 ·rcases h with rfl|rfl
  ·rw[BQ,FZ];exact C4 p.wg t
  ·rw[yT,BP];exact C5 p.wg t
 ·rcases h with rfl|rfl
  ·rw[BU,F2];exact C6 p.wg t
  ·rw[yU,BR];exact C7 p.wg t
 ·rcases h with rfl|rfl
  ·rw[BW,F3];exact C8 p.wg t
  ·rw[yV,BV];exact C9 p.wg t
 ·rcases h with rfl|rfl
  ·rw[BY,F4];exact C_ p.wg t
  ·rw[yW,BX];exact C' p.wg t
 ·rcases h with rfl|rfl
  ·rw[B0,F5];exact Da p.wg t
  ·rw[yX,BZ];exact Db p.wg t
theorem F6 (v:Nat)(wm:WM)(h1:1≤v)(h2:v≤5)(h:wm= .op∨(wm= .reg∧v≠1)):quits Tryz.prog 110 1 (lJ Tryz.prog p.wg t (a_ wm v-bK))=true:=by
 obtain rfl|rfl|rfl|rfl|rfl:v=1∨v=2∨v=3∨v=4∨v=5:=by omega
 ·rcases h with rfl|⟨rfl,h⟩
  ·rw[BQ];exact yz p.wg t
  ·exact absurd rfl h
 ·rcases h with rfl|⟨rfl,h⟩
  ·rw[BU];exact yA p.wg t
  ·rw[yU];exact yB p.wg t
 ·rcases h with rfl|⟨rfl,h⟩
  ·rw[BW];exact yC p.wg t
  ·rw[yV];exact yD p.wg t
 ·rcases h with rfl|⟨rfl,h⟩
  ·rw[BY];exact yE p.wg t
  ·rw[yW];exact yF p.wg t
 ·rcases h with rfl|⟨rfl,h⟩
  ·rw[B0];exact yG p.wg t
  ·rw[yX];exact yH p.wg t
theorem KQ (he:p.eW=231)(hp:γ.ph=some p)(hk:p.j0<k)(hb:γ.st k= .busy)(hc:∀c,c<5→w.cell? ⟨p.A,5*(k-p.j0-1)+c,none⟩=some (p.mB (k-p.j0-1) c)):WP (sys Tryz.prog) k 0 γ w (V6 Tryz.prog p.wg t):=
 PD (OV p.wg t) rfl (O7 p.wg t) (Ss p.wg t) (OW p.wg t) rfl (Su p.wg t) (OX p.wg t) rfl (KP t) (F6 t)
  (fun γ w hl bk=>by
   rw[yT];exact PB (OY p.wg t) rfl (O_ p.wg t) (OZ p.wg t) rfl (KF p.wg t) (O0 p.wg t) rfl (Pa p.wg t) (FI p.wg t) rfl (FH p.wg t) (by omega) hl bk) he hp hk hb hc
end
end Go.Proofs.YtlhohdjniaebbaaGreat.Sr
