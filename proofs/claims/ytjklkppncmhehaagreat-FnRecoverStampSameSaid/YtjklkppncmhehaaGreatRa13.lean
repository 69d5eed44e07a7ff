/-
What is proved: the starter's steps, as the system sees them. Conditions: those that each theorem states. the ways of a worker over steps that the kernel has reckoned ('WP.mute', 'WP.said', 'WP.vis', 'WP.quits'). Conditions: those that each theorem states. a worker that has stored its answer makes its way ('done_way'). Conditions: those that the theorem states. a worker of ask that has stored its answer makes its way ('done_prog'). Conditions: those that the theorem states. the orders in which a region's operations are taken ('schedule_ord'). No condition.
-/
import Derived.Test.YtjklkppncmhehaaGreatRa12
import Derived.Test.YtjklkppncmhehaaGreatRa06
import Derived.Test.YtjklkppncmhehaaGreatRa08
import Derived.Test.YtjklkppncmhehaaGreatProg
import Derived.Orders
set_option linter.unusedVariables false
set_option linter.unusedSimpArgs false
namespace Go.Proofs.YtjklkppncmhehaaGreat.Sr
open Go Go.Conc Go.ConcN
section
variable {γ:Gh}{w w1:World}{t:Trace}{j k:Nat}{p:Ph}{fn:FuncId}{pos:String}{es:Array Event}
theorem vW (h:JJ γ w t j)(fg:br w w1)(hs:w.heap.size≤w1.heap.size)(hh:∀b,b<w.heap.size→(∃k,γ.ow k b∨γ.ro k b)∨γ.sh b∨(∃p,γ.ph=some p∧b=p.A)→w1.heap[b]?=w.heap[b]?)(cE:∀e∈es,tb γ j w1.heap.size e):
  JJ γ w1 (t++MemOp.ofEvents 0 fn pos es) j∧∀k',k'≠0→RR k' γ w γ w1:=by
 refine⟨⟨h.tj.main h.ba hs cE,h.ba,h.j,fun i b x=>Nat.lt_of_lt_of_le (h.kH i b x) hs,fun i b x=>Nat.lt_of_lt_of_le (h.jm i b x) hs,fun b x=>Nat.lt_of_lt_of_le (h.cT b x) hs,h.none,h.out,fun p hp=>?_⟩,fun k' cB=>?_⟩
 ·have x:=h.phase p hp
  obtain⟨l1,l2,l3⟩:=h.lt hp;obtain⟨cs,a1,a2,a3⟩:=x.arr;exact⟨x.j0,x.jn,x.n5,x.sh,Nat.lt_of_lt_of_le l2 hs,(hh _ l1 (.inr (.inl x.sh))).trans x.wg,x.bT,x.la,x.rel,cs,(hh _ l2 (.inr (.inr ⟨p,hp,rfl⟩))).trans a1,a2,a3⟩
 ·unfold RR
  rw[if_neg cB];refine⟨hs,fg,.rfl,fun _=>⟨rfl,fun _=> .rfl,fun _=> .rfl,rfl,.rfl,.rfl,fun b hb=>hh b (hb.elim (h.kH _ _) (h.jm _ _)) (.inl ⟨k',hb⟩),fun a ha=>?_⟩⟩
  obtain⟨q,hq,_,hA,_⟩:=ha;exact cell_of (by rw[hA];exact hh _ (h.lt hq).2.1 (.inr (.inr ⟨q,hq,rfl⟩)))
theorem rC (h:JJ γ w t j)(cE:∀e∈es,tb γ j w.heap.size e):JJ γ w (t++MemOp.ofEvents 0 fn pos es) j∧∀k',k'≠0→RR k' γ w γ w:=
 vW h ⟨rfl,rfl,rfl⟩ (Nat.le_refl _) (fun _ _ _=>rfl) cE
theorem Th (h:JJ γ w t j)(hp:γ.ph=some p)(aS:γ.wm= .op)(he:γ.extra=0)(hn:j-p.j0<p.n)(fg:br w w1)(hs:w1.heap.size=w.heap.size)(hh:∀b,b≠p.wg→w1.heap[b]?=w.heap[b]?)
  (hw:w1.heap[p.wg]?=some (cd p.eW (((γ.v p+1:Nat):Int)*bp) 0)) (cE:∀e∈es,tb γ j w.heap.size e):
  JJ {γ with extra:=1} w1 (t++MemOp.ofEvents 0 fn pos es) j∧∀k',k'≠0→RR k' γ w {γ with extra:=1} w1:=by
 have x:=h.phase p hp;obtain⟨l1,l2,l3⟩:=h.lt hp;obtain⟨cs,a1,a2,a3⟩:=x.arr;have ev:Gh.v {γ with extra:=1} p=γ.v p+1:=by unfold Gh.v;simp only[he]
 have tj:=h.tj.main (fn:=fn) (pos:=pos) h.ba (Nat.le_refl _) cE;refine⟨⟨hs▸⟨tj.ct,tj.low,tj.over,tj.rel,tj.norel,tj.old⟩,⟨h.ba.ow,h.ba.oo,h.ba.pT,h.ba.ry,h.ba.A⟩,h.j,hs▸h.kH,hs▸h.jm,hs▸h.cT,h.none,h.out,fun p' aV=>?_⟩,fun k' cB=>?_⟩
 ·have e:γ.ph=some p':=aV
  rw[hp]at e;cases e;refine⟨x.j0,by show γ.j-p.j0+1≤p.n;rw[h.j];omega,x.n5,x.sh,hs▸l2,?_,fun e=>?_,fun i e=>?_,fun e=>?_,cs,(hh _ (Ne.symm l3)).trans a1,a2,a3⟩
  ·show w1.heap[p.wg]?=some (cd p.eW (aP γ.wm (Gh.v {γ with extra:=1} p)) (vU γ.wm))
   rw[hw,ev,aS];rfl
  ·have e':γ.wm= .bT:=e
   rw[aS]at e';cases e'
  ·have e':γ.wm= .la i∨γ.wm= .lb i:=e
   rw[aS]at e';rcases e' with e'|e'<;>cases e'
  ·have e':γ.wm= .rel:=e
   rw[aS]at e';cases e'
 ·unfold RR
  rw[if_neg cB];refine⟨Nat.le_of_eq hs.symm,fg,.rfl,fun _=>⟨rfl,fun _=> .rfl,fun _=> .rfl,rfl,.rfl,.rfl,fun b hb=>hh b ?_,fun a ha=>cell_of (hh _ ?_)⟩⟩
  ·rintro rfl
   exact hb.elim (fun y=>h.ba.pT _ _ y x.sh) (fun y=>h.ba.ry _ _ y x.sh)
  ·obtain⟨q,hq,_,hA,_⟩:=ha
   rw[hp]at hq;cases hq;rw[hA];exact Ne.symm l3
def Gh.spawn (γ:Gh)(p:Ph)(B:Nat):Gh:=
 {γ with extra:=0,j:=γ.j+1,st:=fun i=>if i=γ.j+1 then .busy else γ.st i,ro:=fun i b=>(i=γ.j+1∧b<B∧(∀k,¬γ.ow k b)∧¬γ.sh b∧b≠p.A)∨γ.ro i b}
theorem NI (h:JJ γ w t j)(hp:γ.ph=some p)(aS:γ.wm= .op)(he:γ.extra=1)(hd:Deaf t 0=0){x y:MemOp}(hx:x.g=0∧x.act= .go (j+1))(hy:y.g=j+1∧y.act= .start):
  JJ (γ.spawn p w.heap.size) w (t++ #[x,y]) (j+1)∧∀k',k'≠0→k'≤j→RR k' γ w (γ.spawn p w.heap.size) w:=by
 have x':=h.phase p hp;obtain⟨l1,l2,l3⟩:=h.lt hp;obtain⟨cs,a1,a2,a3⟩:=x'.arr;have ej:=h.j;have vV:BA (γ.spawn p w.heap.size):=by
  refine⟨h.ba.ow,?_,h.ba.pT,?_,fun p' aV=>⟨fun i=>⟨((h.ba.A p' aV).1 i).1,?_⟩,(h.ba.A p' aV).2⟩⟩
  ·rintro i i' b U (⟨_,_,h2,_⟩|h2)
   ·exact h2 i U
   ·exact h.ba.oo _ _ _ U h2
  ·rintro i b (⟨_,_,_,h2,_⟩|h2)
   ·exact h2
   ·exact h.ba.ry _ _ h2
  ·have e:γ.ph=some p':=aV
   rw[hp]at e;cases e;rintro(⟨_,_,_,_,h2⟩|h2)
   ·exact h2 rfl
   ·exact((h.ba.A p hp).1 i).2 h2
 have tj:TJ (γ.spawn p w.heap.size) w.heap.size t j:=by
  refine h.tj.same rfl (fun i i1 ij=>⟨fun l=> .rfl,fun l=>⟨?_,fun⟨b,hb,hr⟩=>⟨b,hb,.inr hr⟩⟩⟩) (fun i hi=>if_neg (by omega)) (fun p' aV=>⟨p',aV,rfl,rfl⟩) (fun p' aV=>⟨p',aV,rfl,rfl⟩)
  rintro⟨b,hb,⟨h2,_⟩|hr⟩
  ·omega
  ·exact⟨b,hb,hr⟩
 have ec:cnt (γ.spawn p w.heap.size).st p.j0 (γ.j-p.j0)=cnt γ.st p.j0 (γ.j-p.j0):=mV fun i i1 i2=>by
  have NJ:=x'.j0;show(if i=γ.j+1 then iz.busy else γ.st i)= .off↔_
  rw[if_neg (by omega)]
 have ev:(γ.spawn p w.heap.size).v p=γ.v p:=by
  have NJ:=x'.j0;unfold Gh.v;have e1:(γ.spawn p w.heap.size).j-p.j0=(γ.j-p.j0)+1:=by show γ.j+1-p.j0=_;omega
  rw[e1];simp only[cnt];rw[ec];have e2:(γ.spawn p w.heap.size).st (p.j0+(γ.j-p.j0)+1)= .busy:=if_pos (by omega)
  rw[e2,he];rfl
 refine⟨⟨tj.fork vV hd hp (by have:=x'.j0;omega) (if_pos (by rw[ej])) hx hy,vV,by show γ.j+1=_;rw[ej],h.kH,?_,h.cT,fun e=>?_,fun p' aV i hi=>?_,fun p' aV=>?_⟩,fun k' cB Ak=>?_⟩
 ·rintro i b (⟨_,h2,_⟩|h2)
  ·exact h2
  ·exact h.jm _ _ h2
 ·have:γ.ph=none:=e
  rw[hp]at this;cases this
 ·have e:γ.ph=some p':=aV
  rw[hp]at e;cases e;have eE:i≤p.j0∨γ.j+1<i:=hi
  have NJ:=x'.j0;obtain⟨U,h2⟩:=h.out p hp i (by omega)
  have cG:i≠γ.j+1:=by omega
  refine⟨(if_neg cG).trans U,fun b=>⟨(h2 b).1,?_⟩⟩
  rintro(⟨h3,_⟩|h3)
  ·exact cG h3
  ·exact(h2 b).2 h3
 ·have e:γ.ph=some p':=aV
  rw[hp]at e;cases e;have NJ:=x'.j0;have yb:=x'.jn;refine⟨by show p.j0≤γ.j+1;omega,by show γ.j+1-p.j0+0≤p.n;omega,x'.n5,x'.sh,l2,by rw[ev];exact x'.wg,fun e=>?_,fun i e=>?_,fun e=>?_,cs,a1,a2,fun i i1 i2 i3 c hc=>?_⟩
  ·have e':γ.wm= .bT:=e
   rw[aS]at e';cases e'
  ·have e':γ.wm= .la i∨γ.wm= .lb i:=e
   rw[aS]at e';rcases e' with e'|e'<;>cases e'
  ·have e':γ.wm= .rel:=e
   rw[aS]at e';cases e'
  ·have QA:(if i=γ.j+1 then iz.busy else γ.st i)≠.busy:=i3
   by_cases hi:i=γ.j+1
   ·rw[if_pos hi]at QA;exact absurd rfl QA
   ·rw[if_neg hi]at QA
    have Yq:i≤γ.j+1:=i2
    exact a3 i i1 (by omega) QA c hc
 ·unfold RR
  rw[if_neg cB];have cG:k'≠γ.j+1:=by omega
  have e1:(γ.spawn p w.heap.size).st k'=γ.st k':=if_neg cG
  refine⟨Nat.le_refl _,⟨rfl,rfl,rfl⟩,?_,fun _=>⟨e1,fun _=> .rfl,fun b=>⟨?_,.inr⟩,rfl,.rfl,.rfl,fun _ _=>rfl,fun _ _=>rfl⟩⟩
  ·unfold Gh.cV
   rw[e1];exact .rfl
  ·rintro(⟨h2,_⟩|h2)
   ·exact absurd h2 cG
   ·exact h2
theorem Ti (h:JJ γ w t j)(hp:γ.ph=some p)(aS:γ.wm= .op)(he:γ.extra=0)(hv:0<γ.v p)(fg:br w w1)(hs:w1.heap.size=w.heap.size)(hh:∀b,b≠p.wg→w1.heap[b]?=w.heap[b]?)
  (hw:w1.heap[p.wg]?=some (cd p.eW ((γ.v p:Int)*bp+1) 0)) (cE:∀e∈es,tb γ j w.heap.size e):
  JJ (γ.dK γ.st .bT) w1 (t++MemOp.ofEvents 0 fn pos es) j∧∀k',k'≠0→RR k' γ w (γ.dK γ.st .bT) w1:=by
 have x:=h.phase p hp;refine⟨rA h hp hs hh ?_ (fun i hi=>rfl) ⟨hw,fun _=>⟨he,hv⟩,fun i e=>(by rcases e with e|e<;>cases e),nofun⟩ fun _=>id,ov hp x.sh h.ba hs fg hh (fun i hi=>rfl) (fun i hi _=>by rw[aS];simp) fun e=>absurd rfl e⟩
 exact((hs▸h.tj.main h.ba (Nat.le_refl _) cE:TJ γ w1.heap.size _ j)).dK fun _=>id
theorem Tj (h:JJ γ w t j)(hp:γ.ph=some p)(aS:γ.wm= .rel)(fg:br w w1)(hs:w1.heap.size=w.heap.size)(hh:∀b,b≠p.wg→w1.heap[b]?=w.heap[b]?)
  (hw:w1.heap[p.wg]?=some (cd p.eW 0 0)) (cE:∀e∈es,tb γ j w.heap.size e):
  γ.v p=0∧JJ (γ.dK γ.st .op) w1 (t++MemOp.ofEvents 0 fn pos es) j∧∀k',k'≠0→RR k' γ w (γ.dK γ.st .op) w1:=by
 have x:=h.phase p hp;have hv:=x.rel aS;have fp:(γ.dK γ.st .op).v p=0:=hv
 refine⟨hv,rA h hp hs hh ?_ (fun i hi=>rfl) ⟨?_,nofun,fun i e=>(by rcases e with e|e<;>cases e),nofun⟩ fun _=>id,ov hp x.sh h.ba hs fg hh (fun i hi=>rfl) (fun i hi _=>by rw[aS];simp) fun e=>absurd rfl e⟩
 ·exact((hs▸h.tj.main h.ba (Nat.le_refl _) cE:TJ γ w1.heap.size _ j)).dK fun _=>id
 ·rw[hw,fp]
  show some (cd p.eW 0 0)=some (cd p.eW (((0:Nat):Int)*bp) 0)
  rw[Int.natCast_zero,Int.zero_mul]
def Gh.idle (γ:Gh):Gh:={γ with ow:=fun _ _=>False,ro:=fun _ _=>False,ph:=none,st:=fun _=> .off,wm:= .op,extra:=0}
theorem NK (h:JJ γ w t j)(hp:γ.ph=some p)(hv:γ.v p=0)(k:Nat):γ.st k= .off:=by
 have x:=h.phase p hp;have NJ:=x.j0;by_cases hk:k≤p.j0∨γ.j<k
 ·exact(h.out p hp k hk).1
 ·unfold Gh.v at hv
  exact K1 (j0:=p.j0) (m:=γ.j-p.j0) (by omega) k (by omega) (by omega)
theorem QB (h:JJ γ w t j)(hp:γ.ph=some p)(aS:γ.wm= .op)(hv:γ.v p=0)(hd:Deaf t 0=0):
  JJ γ.idle w (t++MemOp.ofEvents 0 fn pos #[⟨.mark (.acquire ⟨p.wg,0,none⟩),false,true⟩]) j∧(∀k',k'≠0→RR k' γ w γ.idle w)∧
   ∃cs,w.heap[p.A]?=some (.cells cs p.eA)∧cs.size=5*p.n∧∀i c,i<j-p.j0→c<5→cs[5*i+c]?=some (p.lh i c):=by
 have x:=h.phase p hp;obtain⟨l1,l2,l3⟩:=h.lt hp;have off:=NK h hp hv;obtain⟨cs,a1,a2,a3⟩:=x.arr;have tj:=h.tj.join (fn:=fn) (pos:=pos) h.ba hp (fun k _ _ e=>by rw[off k]at e;cases e) hd l1 (fun _=> .off) .op
 refine⟨⟨⟨tj.ct,tj.low,tj.over,tj.rel,tj.norel,tj.old⟩,⟨fun _ _ _ e=>e.elim,fun _ _ _ e=>e.elim,fun _ _ e=>e.elim,fun _ _ e=>e.elim,nofun⟩,h.j,fun _ _ e=>e.elim,fun _ _ e=>e.elim,h.cT,fun _=>⟨fun _ _=>⟨id,id⟩,fun _=>rfl,rfl⟩,nofun,nofun⟩,fun k' cB=>?_,cs,a1,a2,fun i c hi hc=>?_⟩
 ·unfold RR
  rw[if_neg cB];have hg:γ.cV k':=⟨off k',by rw[aS];nofun,by rw[aS];nofun⟩
  have a_:γ.idle.cV k':=⟨rfl,nofun,nofun⟩
  exact⟨Nat.le_refl _,⟨rfl,rfl,rfl⟩,⟨fun _=>a_,fun _=>hg⟩,fun hn=>absurd hg hn⟩
 ·have ej:=h.j
  have:=a3 (p.j0+1+i) (by omega) (by omega) (by rw[off];nofun) c hc
  have e1:p.j0+1+i-p.j0-1=i:=by omega
  rwa[e1]at this
def Gh.begin (γ:Gh)(p:Ph):Gh:={γ with sh:=fun b=>γ.sh b∨b=p.wg,ph:=some p,extra:=0}
theorem QC (h:JJ γ w t j)(hn:γ.ph=none)(hj:p.j0=j)(hw:p.wg=w.heap.size)(n5:p.n≤5)(hA:p.A<w.heap.size)(Yr:¬γ.sh p.A){cs:Array Value}(lV:w.heap[p.A]?=some (.cells cs p.eA))(jG:cs.size=5*p.n)
  (fg:br w w1) (U:w1.heap=w.heap.push (cd p.eW 0 0)):JJ (γ.begin p) w1 t j∧∀k',k'≠0→RR k' γ w (γ.begin p) w1:=by
 obtain⟨n1,n2,n3⟩:=h.none hn;have hs:w.heap.size≤w1.heap.size:=by rw[U];simp
 have hh:∀b,b<w.heap.size→w1.heap[b]?=w.heap[b]?:=fun b hb=>by rw[U,Array.getElem?_push,if_neg (by omega)]
 have tj:=h.tj.open (B':=w1.heap.size) hs hn n1 p hj (by omega) γ.st γ.wm
 refine⟨⟨⟨tj.ct,tj.low,tj.over,tj.rel,tj.norel,tj.old⟩,⟨h.ba.ow,h.ba.oo,fun i b e=>absurd e (n1 i b).1,fun i b e=>absurd e (n1 i b).2,fun p' aV=>?_⟩,h.j,fun i b e=>absurd e (n1 i b).1,fun i b e=>absurd e (n1 i b).2,fun b e=>?_,nofun,fun p' aV i _=>⟨n2 i,n1 i⟩,fun p' aV=>?_⟩,fun k' cB=>?_⟩
 ·cases aV
  refine⟨fun i=>n1 i _,?_⟩
  rintro(e|e)
  ·exact Yr e
  ·omega
 ·rcases e with e|e
  ·exact Nat.lt_of_lt_of_le (h.cT b e) hs
  ·rw[e,hw,U];simp
 ·cases aV
  have ev:(γ.begin p).v p=0:=by
   unfold Gh.v Gh.begin;simp only
   have e1:γ.j-p.j0=0:=by rw[h.j];omega
   rw[e1];rfl
  have ej:=h.j;refine⟨by show p.j0≤γ.j;omega,by show γ.j-p.j0+0≤p.n;omega,n5,.inr rfl,by omega,?_,fun e=>?_,fun i e=>?_,fun _=>ev,cs,(hh _ hA).trans lV,jG,fun i i1 i2 i3=>?_⟩
  ·rw[ev]
   show _=some (cd p.eW (aP γ.wm 0) (vU γ.wm))
   rw[n3,U,hw];show _=some (cd p.eW (((0:Nat):Int)*bp) 0)
   rw[Int.natCast_zero,Int.zero_mul];simp
  ·have e':γ.wm= .bT:=e
   rw[n3]at e';cases e'
  ·have e':γ.wm= .la i∨γ.wm= .lb i:=e
   rw[n3]at e';rcases e' with e'|e'<;>cases e'
  ·have Yq:i≤γ.j:=i2
   omega
 ·unfold RR
  rw[if_neg cB];have hg:γ.cV k':=⟨n2 k',by rw[n3];nofun,by rw[n3];nofun⟩
  exact⟨hs,fg,.rfl,fun hn=>absurd hg hn⟩
end
end Go.Proofs.YtjklkppncmhehaaGreat.Sr
namespace Go.Proofs.YtjklkppncmhehaaGreat.Sr
open Go Go.Conc Go.ConcN
theorem mX {P:Program}:∀{n d:Nat} {g:Goroutine},fq P n d g=true→QuitsD P n d g
 |0,d,g,h=>by simpa[fq,QuitsD]using h
 |n+1,d,g,h=>by
  simp only[fq,Bool.or_eq_true]at h;rcases h with h|h
  ·left;simpa using h
  ·cases hq:bM P g with
   |none=>rw[hq]at h;cases h
   |some y=>
    obtain⟨g',es⟩:=y;rw[hq]at h;simp only[Bool.and_eq_true]at h;obtain⟨U,h2⟩:=dU hq;exact .inr ⟨U,g',es,fun e he=>Array.all_eq_true_iff_forall_mem.1 h.1 e he,fun w=>h2 false w,mX h.2⟩
section
variable {P:Program}{Γ:Type}{S:Sys P Γ}{k d:Nat}{γ:Γ}{w:World}{g:Goroutine}
theorem WP.mute:∀{n:Nat} {g:Goroutine} {γ:Γ} {w:World},mute P n g=true→(∀af w',S.R k γ w af w'→¬S.cV af k)→(∀af w',S.R k γ w af w'→WP S k d af w' (aE P n g))→WP S k d γ w g
 |0,g,γ,w,_,_,h=>h γ w (S.refl _ _ _)
 |n+1,g,γ,w,hm,hg,h=>by
  obtain⟨g',hs,bj,CP,ha⟩:=qC hm;rw[ha]at h;refine .mk hs hg fun af w' t j hR hJ hd kj=>⟨⟨g',w',#[],af⟩,⟨bj false w',by rw[Ai,Array.append_empty];exact hJ,fun k' _=>S.refl _ _ _⟩,fun a b=>absurd a b,?_⟩
  exact WP.mute CP (fun a b x=>hg a b (S.trans hR x)) fun a b x=>h a b (S.trans hR x)
theorem MP.mute {Q:Γ→World→Trace→Nat→Outcome→World→Prop}:∀{n:Nat} {g:Goroutine} {γ:Γ} {w:World},mute P (n+1) g=true→(∀af w',S.R 0 γ w af w'→∃b,MP S Q b d af w' (aE P (n+1) g))→MP S Q false d γ w g:=by
 intro n;induction n with
 |zero=>
  intro g γ w hm h;obtain⟨g',hs,bj,CP,ha⟩:=qC hm;rw[ha]at h;refine .go hs fun af w' t j hR hJ hd=>?_;obtain⟨b,hb⟩:=h af w' hR;exact⟨⟨g',w',#[],af⟩,b,⟨bj true w',by rw[Ai,Array.append_empty];exact hJ,fun k' _=>S.refl _ _ _⟩,hb⟩
 |succ n ih=>
  intro g γ w hm h;obtain⟨g',hs,bj,CP,ha⟩:=qC hm;rw[ha]at h;exact .go hs fun af w' t j hR hJ hd=>⟨⟨g',w',#[],af⟩,false,⟨bj true w',by rw[Ai,Array.append_empty];exact hJ,fun k' _=>S.refl _ _ _⟩,ih CP fun a b x=>h a b (S.trans hR x)⟩
end
section
variable {P:Program}{k d:Nat}{γ:Gh}{w:World}{g:Goroutine}
theorem WP.said {g':Goroutine}{es:Array Event}(h:bM P g=some (g',es))(hg:∀af w',RR k γ w af w'→¬af.cV k)
  (hj:∀af w' t j,RR k γ w af w'→JJ af w' t j→Deaf t k=d→k≤j→∃aQ,JJ aQ w' (t++MemOp.ofEvents k g.frame.fn g.frame.place es) j∧(∀k',k'≠k→RR k' af w' aQ w')∧(aQ.wm= .rel→af.wm= .rel)∧WP (sys P) k (deafBehind d es) aQ w' g'):WP (sys P) k d γ w g:=by
 obtain⟨U,h2⟩:=dU h;refine .mk U hg fun af w' t j hR hJ hd kj=>?_;obtain⟨aQ,c1,c2,c3,c4⟩:=hj af w' t j hR hJ hd kj;exact⟨⟨g',w',es,aQ⟩,⟨h2 false w',c1,c2⟩,fun a b=>absurd (fun e=>a (c3 e)) b,c4⟩
theorem WP.qE (hs:g.status= .running)(hg:∀af w',RR k γ w af w'→¬af.cV k)
  (hj:∀af w' t j,RR k γ w af w'→JJ af w' t j→Deaf t k=d→k≤j→∃v sh y aQ,aZ P v sh g=some y∧(∀a∈y.ls,w'.cell? a=some v∧w'.frozen? a=false)∧(∀r∈y.rs,w'.shape? r=sh)∧
   JJ aQ (jd w' y.sto) (t++MemOp.ofEvents k g.frame.fn g.frame.place y.es) j∧(∀k',k'≠k→RR k' af w' aQ (jd w' y.sto))∧(af.wm≠.rel→aQ.wm= .rel→mayWake P g=true∧y.x.status= .running)∧WP (sys P) k (deafBehind d y.es) aQ (jd w' y.sto) y.x):WP (sys P) k d γ w g:=by
 refine .mk hs hg fun af w' t j hR hJ hd kj=>?_;obtain⟨v,sh,y,aQ,c0,c1,c2,c3,c4,c5,c6⟩:=hj af w' t j hR hJ hd kj;exact⟨⟨y.x,jd w' y.sto,y.es,aQ⟩,⟨(vS c0).2 false w' c1 c2,c3,c4⟩,fun a b=>c5 a (Classical.not_not.1 b),c6⟩
end
end Go.Proofs.YtjklkppncmhehaaGreat.Sr
namespace Go.Proofs.YtjklkppncmhehaaGreat.Sr
open Go Go.Conc Go.ConcN
section
variable {k:Nat}{γ af:Gh}{w w':World}{p:Ph}
theorem iO (hk:1≤k)(h:RR k γ w af w'):RW k γ w af w':=by
 unfold RR at h;rwa[if_neg (by omega)]at h
structure Kp (k:Nat) (γ af:Gh):Prop where
 st:af.st k=γ.st k
 ph:af.ph=γ.ph
 la:af.wm= .la k↔γ.wm= .la k
 lb:af.wm= .lb k↔γ.wm= .lb k
theorem ie (hk:1≤k)(h:RR k γ w af w')(hg:¬γ.cV k):Kp k γ af:=
 let⟨a,_,_,b,c,d,_,_⟩:=(iO hk h).live hg;⟨a,b,c,d⟩
theorem mg (hk:1≤k)(hg:¬γ.cV k):∀af w',RR k γ w af w'→¬af.cV k:=fun _ _ h x=>hg ((iO hk h).gone.2 x)
theorem mh {s:iz}(h:γ.st k=s)(hs:s≠.off):¬γ.cV k:=fun x=>hs (h▸x.1)
theorem ig (h:γ.wm= .la k):¬γ.cV k:=fun x=>x.2.1 h
theorem ox (h:γ.wm= .lb k):¬γ.cV k:=fun x=>x.2.2 h
theorem gL {wg:Nat}{e:TypeId}{st sm:Int}(h:w.heap[wg]?=some (cd e st sm)):w.cell? ⟨wg,0,none⟩=some (.int .u64 st)∧w.frozen? ⟨wg,0,none⟩=false:=by
 unfold World.cell? World.frozen?;simp only[h,cd];exact⟨rfl,by simp⟩
theorem tc {wg:Nat}{e:TypeId}{st sm:Int}(h:w.heap[wg]?=some (cd e st sm)):w.cell? ⟨wg,1,none⟩=some (.int .u32 sm)∧w.frozen? ⟨wg,1,none⟩=false:=by
 unfold World.cell? World.frozen?;simp only[h,cd];exact⟨rfl,by simp⟩
theorem mi {wg:Nat}{e:TypeId}{st sm:Int}(h:w.heap[wg]?=some (cd e st sm)):w.shape? wg=some (e,2):=by
 unfold World.shape?;simp only[h,cd];rfl
theorem rD {wg:Nat}{e:TypeId}{st sm:Int}(h:w.heap[wg]?=some (cd e st sm))(s:Int):(w.setCell ⟨wg,0,none⟩ (.int .u64 s)).heap[wg]?=some (cd e s sm):=by
 unfold World.setCell;simp only[Array.getElem?_modify,if_true,h,Option.map_some,cd];rfl
theorem CU {wg:Nat}{e:TypeId}{st sm:Int}(h:w.heap[wg]?=some (cd e st sm))(s:Int):(w.setCell ⟨wg,1,none⟩ (.int .u32 s)).heap[wg]?=some (cd e st s):=by
 unfold World.setCell;simp only[Array.getElem?_modify,if_true,h,Option.map_some,cd];rfl
theorem G_ {a:Addr}{x:Value}:∀b,b≠a.block→(w.setCell a x).heap[b]?=w.heap[b]?:=fun b hb=>by
 unfold World.setCell;simp only[Array.getElem?_modify];rw[if_neg (Ne.symm hb)]
theorem gq {wg o:Nat}{x:Value}:∀b,b≠wg→(w.setCell ⟨wg,o,none⟩ x).heap[b]?=w.heap[b]?:=fun b hb=>G_ b hb
theorem cj {a:Addr}{x:Value}:(w.setCell a x).heap.size=w.heap.size:=by
 unfold World.setCell;simp
theorem G' {γ:Gh}{d B:Nat}{es:Array Event}(h:∀e∈es,e.mute=true):uI γ d B es:=fun i e hi=>by
 have:=ou (h e (Array.mem_of_getElem? hi)) B
 exact⟨.inl this.1,this.2⟩
theorem QD {γ:Gh}{B wg o:Nat}(hs:γ.sh wg)(hB:wg<B):uI γ 1 B #[bE ⟨wg,o,none⟩]:=fun i e hi=>by
 have G7:i=0:=by have:=(Array.getElem?_eq_some_iff.1 hi).1;simp at this;omega
 subst G7;simp at hi;subst hi
 exact⟨.inr ⟨⟨_,_,rfl,hs⟩,by simp[deafBehind]⟩,hB,nofun⟩
theorem QE {γ:Gh}{B wg o:Nat}(hs:γ.sh wg)(hB:wg<B):uI γ 1 B #[dr ⟨wg,o,none⟩]:=fun i e hi=>by
 have G7:i=0:=by have:=(Array.getElem?_eq_some_iff.1 hi).1;simp at this;omega
 subst G7;simp at hi;subst hi
 exact⟨.inr ⟨⟨_,_,rfl,hs⟩,by simp[deafBehind]⟩,hB,nofun⟩
theorem QF {γ:Gh}{B wg o:Nat}(hs:γ.sh wg)(hB:wg<B):uI γ 1 B #[bE ⟨wg,o,none⟩,dr ⟨wg,o,none⟩]:=fun i e hi=>by
 have aj:=(Array.getElem?_eq_some_iff.1 hi).1;simp at aj
 obtain rfl|rfl:i=0∨i=1:=by omega
 ·simp at hi;subst hi
  exact⟨.inr ⟨⟨_,_,rfl,hs⟩,by simp[deafBehind]⟩,hB,nofun⟩
 ·simp at hi;subst hi
  exact⟨.inr ⟨⟨_,_,rfl,hs⟩,by simp[deafBehind]⟩,hB,nofun⟩
theorem NL {γ:Gh}{B wg o:Nat}(hs:γ.sh wg)(hB:wg<B):uI γ 1 B #[dj .disable,bE ⟨wg,o,none⟩,dr ⟨wg,o,none⟩,dj .enable]:=fun i e hi=>by
 have aj:=(Array.getElem?_eq_some_iff.1 hi).1;simp at aj
 obtain rfl|rfl|rfl|rfl:i=0∨i=1∨i=2∨i=3:=by omega
 ·simp at hi;subst hi
  exact⟨.inl rfl,trivial,nofun⟩
 ·simp at hi;subst hi
  exact⟨.inr ⟨⟨_,_,rfl,hs⟩,by simp[deafBehind]⟩,hB,nofun⟩
 ·simp at hi;subst hi
  exact⟨.inr ⟨⟨_,_,rfl,hs⟩,by simp[deafBehind]⟩,hB,nofun⟩
 ·simp at hi;subst hi
  exact⟨.inl rfl,trivial,nofun⟩
theorem JB {a b:Addr}(h:a∈[b]):b=a:=(by simpa using h:a=b).symm
theorem JC {a b:Nat}(h:a∈[b,b]):b=a:=(by simpa using h:a=b).symm
theorem CV {a b:Addr}(h:a∈[b,b]):b=a:=(by simpa using h:a=b).symm
theorem K4 {P:Program}{g7 g8 Tk g9 Tl NM NN:Goroutine}(m7:mute P 103 g7=true)(a7:aE P 103 g7=g8)(v8:aZ P (.int .u64 1) none g8=some ⟨Tk,#[bE ⟨p.wg,0,none⟩],[⟨p.wg,0,none⟩],[],none⟩)
  (m8:mute P 20 Tk=true) (a8:aE P 20 Tk=g9) (v9:aZ P (.int .u64 1) none g9=some ⟨Tl,#[dr ⟨p.wg,0,none⟩],[⟨p.wg,0,none⟩],[],some (⟨p.wg,0,none⟩,.int .u64 0)⟩)
  (m9:mute P 27 Tl=true) (a9:aE P 27 Tl=NM) (v10:aZ P (.int .u32 0) none NM=some ⟨NN,#[dj .disable,bE ⟨p.wg,1,none⟩,dr ⟨p.wg,1,none⟩,dj .enable],[⟨p.wg,1,none⟩,⟨p.wg,1,none⟩],[],some (⟨p.wg,1,none⟩,.int .u32 1)⟩)
  (mw:mayWake P NM=true) (mr:NN.status= .running) (mq:fq P 30 1 NN=true) (hk:1≤k) (hl:γ.wm= .la k) (hp:γ.ph=some p):WP (sys P) k 1 γ w g7:=by
 have lv:∀{af:Gh} {w':World},RR k γ w af w'→af.wm= .la k∧af.ph=some p:=fun hR=>by
  have kp:=ie hk hR (ig hl);exact⟨kp.la.2 hl,kp.ph.trans hp⟩
 refine WP.mute (n:=103) m7 (mg hk (ig hl)) fun aQ w1 U=>?_;rw[a7];obtain⟨l1,p1⟩:=lv U;refine .qE (vS v8).1 (mg hk (ig l1)) fun cw w2 tr j h2 hJ hd kj=>?_;have NO:=ie hk h2 (ig l1);have l2:=NO.la.2 l1;have p2:=NO.ph.trans p1;have x2:=hJ.phase p p2;have rv:w2.heap[p.wg]?=some (cd p.eW 1 0):=by have:=x2.wg;rw[l2]at this;exact this
 obtain⟨q1,q2⟩:=CS (fn:=g8.frame.fn) (pos:=g8.frame.place) (es:= #[bE ⟨p.wg,0,none⟩]) hJ hk kj (by rw[hd];exact QD x2.sh (hJ.cT _ x2.sh))
 refine⟨_,_,_,cw,v8,fun a ha=>(JB ha)▸gL rv,fun r hr=>(by cases hr),q1,q2,fun _ e=>(by rw[l2]at e;cases e),?_⟩
 refine WP.mute (n:=20) m8 (mg hk (ig l2)) fun j_ w3 h3=>?_;rw[a8];have CW:=ie hk h3 (ig l2);have l3:=CW.la.2 l2;have p3:=CW.ph.trans p2;refine .qE (vS v9).1 (mg hk (ig l3)) fun dQ w4 Ys j4 h4 kg K5 kj4=>?_;have Vu:=ie hk h4 (ig l3);have l4:=Vu.la.2 l3;have p4:=Vu.ph.trans p3;have x4:=kg.phase p p4;have mj:w4.heap[p.wg]?=some (cd p.eW 1 0):=by have:=x4.wg;rw[l4]at this;exact this
 have Vv:Deaf Ys k=1:=K5
 obtain⟨r1,r2⟩:=NH (w1:=w4.setCell ⟨p.wg,0,none⟩ (.int .u64 0)) (fn:=g9.frame.fn) (pos:=g9.frame.place) (es:= #[dr ⟨p.wg,0,none⟩]) kg p4 l4 ⟨rfl,rfl,rfl⟩ cj gq (rD mj 0) (by rw[Vv];exact QE x4.sh (kg.cT _ x4.sh))
 refine⟨_,_,_,_,v9,fun a ha=>(JB ha)▸gL mj,fun r hr=>(by cases hr),r1,r2,fun _ e=>(by cases e),?_⟩
 have l5:(dQ.dK dQ.st (.lb k)).wm= .lb k:=rfl
 refine WP.mute (n:=27) m9 (mg hk (ox l5)) fun rE w6 h6=>?_;rw[a9];have NP:=ie hk h6 (ox l5);have l6:=NP.lb.2 l5;have p6:rE.ph=some p:=NP.ph.trans p4
 refine .qE (vS v10).1 (mg hk (ox l6)) fun yc w7 Yt j7 h7 yd QG kj7=>?_;have NQ:=ie hk h7 (ox l6);have l7:=NQ.lb.2 l6;have p7:=NQ.ph.trans p6;have x7:=yd.phase p p7;have NR:w7.heap[p.wg]?=some (cd p.eW 0 0):=by have:=x7.wg;rw[l7]at this;exact this
 have Vw:Deaf Yt k=1:=QG
 obtain⟨s1,s2⟩:=Qz (w1:=w7.setCell ⟨p.wg,1,none⟩ (.int .u32 1)) (fn:=NM.frame.fn) (pos:=NM.frame.place) (es:= #[dj .disable,bE ⟨p.wg,1,none⟩,dr ⟨p.wg,1,none⟩,dj .enable]) yd p7 l7 ⟨rfl,rfl,rfl⟩ cj gq (CU NR 1) (by rw[Vw];exact NL x7.sh (yd.cT _ x7.sh))
 refine⟨_,_,_,_,v10,fun a ha=>(CV ha)▸tc NR,fun r hr=>(by cases hr),s1,s2,fun _ _=>⟨mw,mr⟩,?_⟩
 obtain⟨_,_,_,c4⟩:=x7.la k (.inr l7);refine .quit 30 (mX mq) fun dV w8 h8=>?_;exact(iO hk h8).gone.1 ⟨c4,nofun,nofun⟩
theorem K6 {P:Program}{g0 g1 g2 g3 g4 g5 g6:Goroutine}{g7:Int→Goroutine}{eW:TypeId}(m0:mute P 16 g0=true)(a0:aE P 16 g0=g1)(v1:aZ P undef (some (eW,2)) g1=some ⟨g2,#[],[],[p.wg,p.wg],none⟩)
  (q2:bM P g2=some (g3,#[dj (.releaseMerge ⟨p.wg,0,none⟩)])) (m3:mute P 3 g3=true) (a3:aE P 3 g3=g4) (q4:bM P g4=some (g5,#[dj .disable])) (m5:mute P 34 g5=true) (a5:aE P 34 g5=g6)
  (v6:∀(v:Nat) (wm:WM),1≤v→v≤5→wm= .op∨wm= .bT→aZ P (.int .u64 (aP wm v)) none g6=some ⟨g7 (aP wm v-bp),#[bE ⟨p.wg,0,none⟩,dr ⟨p.wg,0,none⟩],[⟨p.wg,0,none⟩,⟨p.wg,0,none⟩],[],some (⟨p.wg,0,none⟩,.int .u64 (aP wm v-bp))⟩)
  (q7:∀(v:Nat) (wm:WM),1≤v→v≤5→wm= .op∨(wm= .bT∧v≠1)→fq P 110 1 (g7 (aP wm v-bp))=true) (vX:∀(γ:Gh) (w:World),γ.wm= .la k→γ.ph=some p→WP (sys P) k 1 γ w (g7 (aP .bT 1-bp)))
  (he:p.eW=eW) (hp:γ.ph=some p) (hk:p.j0<k) (hb:γ.st k= .busy) (hc:∀c,c<5→w.cell? ⟨p.A,5*(k-p.j0-1)+c,none⟩=some (p.lh (k-p.j0-1) c)):WP (sys P) k 0 γ w g0:=by
 have k1:1≤k:=by omega
 have lb:=mh hb (by decide:iz.busy≠.off)
 have slot:∀{γ af:Gh} {w w':World},γ.ph=some p→RR k γ w af w'→¬γ.cV k→(∀c,c<5→w.cell? ⟨p.A,5*(k-p.j0-1)+c,none⟩=some (p.lh (k-p.j0-1) c))→∀c,c<5→w'.cell? ⟨p.A,5*(k-p.j0-1)+c,none⟩=some (p.lh (k-p.j0-1) c):=by
  intro γ af w w' hp hR hg h c hc;obtain⟨_,_,_,_,_,_,_,h8⟩:=(iO k1 hR).live hg;rw[h8 _ ⟨p,hp,hk,rfl,by show _≤5*(k-p.j0-1)+c;omega,by show 5*(k-p.j0-1)+c<_;omega⟩]
  exact h c hc
 refine WP.mute (n:=16) m0 (mg k1 lb) fun aQ w1 U=>?_;rw[a0];have Vx:=ie k1 U lb;have b1:=Vx.st.trans hb;have p1:=Vx.ph.trans hp;have c1:=slot hp U lb hc;have Tm:=mh b1 (by decide:iz.busy≠.off)
 refine .qE (vS v1).1 (mg k1 Tm) fun cw w2 t2 j2 h2 lW vY Yu=>?_;have NO:=ie k1 h2 Tm;have b2:=NO.st.trans b1;have p2:=NO.ph.trans p1;have c2:=slot p1 h2 Tm c1;have Tn:=mh b2 (by decide:iz.busy≠.off)
 have x2:=lW.phase p p2;refine⟨_,_,_,cw,v1,fun a ha=>(by cases ha),fun r hr=>?_,?_,fun k' _=>(sys P).refl k' cw w2,fun e e'=>absurd e' e,?_⟩
 ·have:p.wg=r:=JC hr
  rw[←this,←he];exact mi x2.wg
 ·show JJ cw w2 (t2++MemOp.ofEvents k g1.frame.fn g1.frame.place #[]) j2
  rw[Ai,Array.append_empty];exact lW
 refine .said q2 (mg k1 Tn) fun j_ w3 t3 j3 h3 Yv Yw Yx=>?_;have CW:=ie k1 h3 Tn;have b3:=CW.st.trans b2;have p3:=CW.ph.trans p2;have c3:=slot p2 h3 Tn c2;have Vy:Deaf t3 k=0:=Yw
 obtain⟨r1,r2⟩:=G9 (fn:=g2.frame.fn) (pos:=g2.frame.place) Yv p3 hk Yx b3 Vy c3;refine⟨_,r1,r2,fun e=>e,?_⟩
 have b4:({j_ with st:=fun i=>if i=k then .said else j_.st i}:Gh).st k= .said:=if_pos rfl
 have Vz:=mh b4 (by decide:iz.said≠.off)
 refine WP.mute (n:=3) m3 (mg k1 Vz) fun td w5 h5=>?_;rw[a3];have VA:=ie k1 h5 Vz;have b5:=VA.st.trans b4;have p5:td.ph=some p:=VA.ph.trans p3
 have VB:=mh b5 (by decide:iz.said≠.off)
 refine .said q4 (mg k1 VB) fun rE w6 t6 j6 h6 Yy hd6 Yz=>?_;have NP:=ie k1 h6 VB;have b6:=NP.st.trans b5;have p6:=NP.ph.trans p5;have VC:=mh b6 (by decide:iz.said≠.off)
 obtain⟨s1,s2⟩:=CS (fn:=g4.frame.fn) (pos:=g4.frame.place) (es:= #[dj .disable]) Yy k1 Yz (G' fun e he=>by simp at he;subst he;rfl)
 refine⟨_,s1,s2,fun e=>e,?_⟩
 refine WP.mute (n:=34) m5 (mg k1 VC) fun yc w7 h7=>?_;rw[a5];have NQ:=ie k1 h7 VC;have b7:=NQ.st.trans b6;have p7:=NQ.ph.trans p6;have VD:=mh b7 (by decide:iz.said≠.off)
 refine .qE (vS (v6 1 .op (by omega) (by omega) (.inl rfl))).1 (mg k1 VD) fun dV w8 t8 j8 h8 CX VE VF=>?_
 have VG:=ie k1 h8 VD;have b8:=VG.st.trans b7;have p8:=VG.ph.trans p7;have x8:=CX.phase p p8;have pD:dV.st k≠.off:=by rw[b8];decide
 have hv:=(NG CX p8 hk VF pD .op).1;have aS:dV.wm= .op∨dV.wm= .bT:=by
  cases e:dV.wm with
  |op=>exact .inl rfl
  |bT=>exact .inr rfl
  |la i=>have:=(x8.la i (.inl e)).1;omega
  |lb i=>have:=(x8.la i (.inr e)).1;omega
  |rel=>have:=x8.rel e;omega
 have v5:dV.v p≤5:=by
  have h5:=uX (st:=dV.st) (j0:=p.j0) (m:=dV.j-p.j0);have h6:=x8.jn;have h7:=x8.n5;unfold Gh.v;omega
 have te:vU dV.wm=0:=by rcases aS with e|e<;>rw[e]<;>rfl
 have To:=x8.wg;rw[te]at To;have VH:Deaf t8 k=1:=VE
 obtain⟨_,_,u1,u2⟩:=Tf (w1:=w8.setCell ⟨p.wg,0,none⟩ (.int .u64 (aP dV.wm (dV.v p)-bp))) (fn:=g6.frame.fn) (pos:=g6.frame.place) (es:= #[bE ⟨p.wg,0,none⟩,dr ⟨p.wg,0,none⟩]) CX p8 hk VF b8 ⟨rfl,rfl,rfl⟩ cj gq (rD To _) (by rw[VH];exact QF x8.sh (CX.cT _ x8.sh))
 refine⟨_,_,_,_,v6 _ _ (by omega) v5 aS,fun a ha=>(CV ha)▸gL To,fun r hr=>(by cases hr),u1,u2,fun _ e=>?_,?_⟩
 ·have e':(if dV.wm= .bT∧dV.v p=1 then WM.la k else dV.wm)= .rel:=e
  split at e'
  ·cases e'
  ·rcases aS with e2|e2<;>rw[e2]at e'<;>cases e'
 ·by_cases K7:dV.wm= .bT∧dV.v p=1
  ·have VI:=vX (dV.dK (kI dV k) (if dV.wm= .bT∧dV.v p=1 then WM.la k else dV.wm)) (w8.setCell ⟨p.wg,0,none⟩ (.int .u64 (aP dV.wm (dV.v p)-bp))) (if_pos K7) p8
   have e9:aP WM.bT 1-bp=aP dV.wm (dV.v p)-bp:=by rw[K7.1,K7.2]
   rw[e9]at VI;exact VI
  ·have hq:=q7 (dV.v p) dV.wm (by omega) v5 (by
    rcases aS with e|e
    ·exact .inl e
    ·exact .inr ⟨e,fun h=>K7 ⟨e,h⟩⟩)
   refine .quit 110 (mX hq) fun NS w9 h9=>?_;refine(iO k1 h9).gone.1 ⟨if_pos rfl,?_,?_⟩
   ·show(if dV.wm= .bT∧dV.v p=1 then WM.la k else dV.wm)≠_
    rw[if_neg K7];rcases aS with e|e<;>rw[e]<;>nofun
   ·show(if dV.wm= .bT∧dV.v p=1 then WM.la k else dV.wm)≠_
    rw[if_neg K7];rcases aS with e|e<;>rw[e]<;>nofun
end
end Go.Proofs.YtjklkppncmhehaaGreat.Sr
namespace Go.Proofs.YtjklkppncmhehaaGreat.Sr
open Go Go.Conc Go.ConcN
theorem CY:aP .op 1=4294967296:=by simp[aP,bp]
theorem yV:aP .bT 1=4294967297:=by simp[aP,bp]
theorem yW:aP .op 1-bp=0:=by rw[CY];simp[bp]
theorem vZ:aP .bT 1-bp=1:=by rw[yV];simp[bp]
theorem CZ:aP .op 2=8589934592:=by simp[aP,bp]
theorem yX:aP .bT 2=8589934593:=by simp[aP,bp]
theorem yY:aP .op 2-bp=4294967296:=by rw[CZ];simp[bp]
theorem v_:aP .bT 2-bp=4294967297:=by rw[yX];simp[bp]
theorem C0:aP .op 3=12884901888:=by simp[aP,bp]
theorem yZ:aP .bT 3=12884901889:=by simp[aP,bp]
theorem y5:aP .op 3-bp=8589934592:=by rw[C0];simp[bp]
theorem we:aP .bT 3-bp=8589934593:=by rw[yZ];simp[bp]
theorem C1:aP .op 4=17179869184:=by simp[aP,bp]
theorem y8:aP .bT 4=17179869185:=by simp[aP,bp]
theorem y9:aP .op 4-bp=12884901888:=by rw[C1];simp[bp]
theorem wh:aP .bT 4-bp=12884901889:=by rw[y8];simp[bp]
theorem C2:aP .op 5=21474836480:=by simp[aP,bp]
theorem y_:aP .bT 5=21474836481:=by simp[aP,bp]
theorem za:aP .op 5-bp=17179869184:=by rw[C2];simp[bp]
theorem wi:aP .bT 5-bp=17179869185:=by rw[y_];simp[bp]
section
variable {k:Nat}{γ:Gh}{w:World}{p:Ph}(t:Array Value)
theorem Ha (v:Nat)(wm:WM)(U:1≤v)(h2:v≤5)(h:wm= .op∨wm= .bT):
  aZ Tryz.prog (.int .u64 (aP wm v)) none (uG Tryz.prog p.wg t)=some ⟨kE Tryz.prog p.wg t (aP wm v-bp),#[bE ⟨p.wg,0,none⟩,dr ⟨p.wg,0,none⟩],[⟨p.wg,0,none⟩,⟨p.wg,0,none⟩],[],some (⟨p.wg,0,none⟩,.int .u64 (aP wm v-bp))⟩:=by
 obtain rfl|rfl|rfl|rfl|rfl:v=1∨v=2∨v=3∨v=4∨v=5:=by omega
 ·rcases h with rfl|rfl
  ·rw[yW,CY];exact zW p.wg t
  ·rw[vZ,yV];exact zX p.wg t
 ·rcases h with rfl|rfl
  ·rw[yY,CZ];exact zY p.wg t
  ·rw[v_,yX];exact zZ p.wg t
 ·rcases h with rfl|rfl
  ·rw[y5,C0];exact z_ p.wg t
  ·rw[we,yZ];exact Aa p.wg t
 ·rcases h with rfl|rfl
  ·rw[y9,C1];exact Ab p.wg t
  ·rw[wh,y8];exact Ac p.wg t
 ·rcases h with rfl|rfl
  ·rw[za,C2];exact Ad p.wg t
  ·rw[wi,y_];exact Ae p.wg t
theorem C3 (v:Nat)(wm:WM)(U:1≤v)(h2:v≤5)(h:wm= .op∨(wm= .bT∧v≠1)):fq Tryz.prog 110 1 (kE Tryz.prog p.wg t (aP wm v-bp))=true:=by
 obtain rfl|rfl|rfl|rfl|rfl:v=1∨v=2∨v=3∨v=4∨v=5:=by omega
 ·rcases h with rfl|⟨rfl,h⟩
  ·rw[yW];exact vz p.wg t
  ·exact absurd rfl h
 ·rcases h with rfl|⟨rfl,h⟩
  ·rw[yY];exact vA p.wg t
  ·rw[v_];exact vB p.wg t
 ·rcases h with rfl|⟨rfl,h⟩
  ·rw[y5];exact vC p.wg t
  ·rw[we];exact vD p.wg t
 ·rcases h with rfl|⟨rfl,h⟩
  ·rw[y9];exact vE p.wg t
  ·rw[wh];exact vF p.wg t
 ·rcases h with rfl|⟨rfl,h⟩
  ·rw[za];exact vG p.wg t
  ·rw[wi];exact vH p.wg t
theorem Hd (he:p.eW=191)(hp:γ.ph=some p)(hk:p.j0<k)(hb:γ.st k= .busy)(hc:∀c,c<5→w.cell? ⟨p.A,5*(k-p.j0-1)+c,none⟩=some (p.lh (k-p.j0-1) c)):WP (sys Tryz.prog) k 0 γ w (Qo Tryz.prog p.wg t):=
 K6 (Ks p.wg t) rfl (Kz p.wg t) (Nk p.wg t) (Kt p.wg t) rfl (Nl p.wg t) (Ku p.wg t) rfl (Ha t) (C3 t)
  (fun γ w hl aV=>by
   rw[vZ];exact K4 (Kv p.wg t) rfl (KA p.wg t) (Kw p.wg t) rfl (G3 p.wg t) (Ky p.wg t) rfl (KB p.wg t) (CJ p.wg t) rfl (CI p.wg t) (by omega) hl aV) he hp hk hb hc
end
end Go.Proofs.YtjklkppncmhehaaGreat.Sr
namespace Go.Proofs.YtjklkppncmhehaaGreat.Sr
open Go
def tY (ops:Array Oper):Nat→Array Bool→List Nat→Prop
 |0,_,l=>l=[]
 |n+1,L,l=>(Region.ready .any ops L=[]∧l=[])∨∃i l',i∈Region.ready .any ops L∧l=i::l'∧tY ops n (L.setIfInBounds i true) l'
theorem rF (ops:Array Oper):∀(fuel t:Nat) (L:Array Bool),tY ops fuel L (Region.linearise.go .any ops fuel t L [])
 |0,t,L=>rfl
 |fuel+1,t,L=>by
  simp only[Region.linearise.go];have e:(List.range ops.size).filter (fun i=> !L.getD i true&&((ops[i]?).map (·.after.all fun e=> !Region.binds .any e||L.getD e.on false)).getD false)=Region.ready .any ops L:=rfl
  rw[e];split
  ·rename_i i hi
   rw[linearise_go_acc];exact .inr ⟨i,_,List.mem_of_getElem? hi,rfl,rF ops fuel _ _⟩
  ·rename_i hi
   refine .inl ⟨?_,rfl⟩
   cases hr:Region.ready .any ops L with
   |nil=>rfl
   |cons a l=>
    rw[hr]at hi;rw[List.getElem?_eq_none_iff]at hi;have:t %(a::l).length<(a::l).length:=Nat.mod_lt _ (by simp)
    omega
theorem pU (ops:Array Oper)(mixed:Bool)(hd:Region.departs ops=false)(t:Nat):tY ops ops.size (Array.replicate ops.size false) (Region.schedule mixed ops t):=by
 unfold Region.schedule;rw[hd];simp only[Bool.not_false,Bool.or_true,if_true];exact rF ops _ _ _
theorem oy {ops:Array Oper}{L:Array Bool}{i:Nat}(h:i∈Region.ready .any ops L):i<ops.size∧L.getD i true=false∧∃o,ops[i]?=some o∧∀e∈o.after,Region.binds .any e=true→L.getD e.on false=true:=by
 unfold Region.ready at h;rw[List.mem_filter,List.mem_range]at h;obtain⟨U,h2⟩:=h;simp only[Bool.and_eq_true,Bool.not_eq_true']at h2;obtain⟨h3,h4⟩:=h2;refine⟨U,h3,ops[i],Array.getElem?_eq_getElem U,fun e he hb=>?_⟩
 rw[Array.getElem?_eq_getElem U]at h4;simp only[Option.map_some,Option.getD_some]at h4;have:=Array.all_eq_true_iff_forall_mem.1 h4 e he
 simpa[hb]using this
end Go.Proofs.YtjklkppncmhehaaGreat.Sr
