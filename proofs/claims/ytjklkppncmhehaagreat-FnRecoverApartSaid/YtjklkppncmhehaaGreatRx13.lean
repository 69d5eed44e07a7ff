/-
What is proved: the starter's steps, as the system sees them. Conditions: those that each theorem states. the ways of a worker over steps that the kernel has reckoned ('WP.mute', 'WP.said', 'WP.vis', 'WP.quits'). Conditions: those that each theorem states. a worker that has stored its answer makes its way ('done_way'). Conditions: those that the theorem states. a worker of ask that has stored its answer makes its way ('done_prog'). Conditions: those that the theorem states.
-/
import Derived.Test.YtjklkppncmhehaaGreatRx12
import Derived.Test.YtjklkppncmhehaaGreatRx06
import Derived.Test.YtjklkppncmhehaaGreatRx08
set_option linter.unusedVariables false
set_option linter.unusedSimpArgs false
namespace Go.Proofs.YtjklkppncmhehaaGreat.Sr
open Go Go.Conc Go.ConcN
section
variable {γ:Gh}{w w1:World}{t:Trace}{j k:Nat}{p:Ph}{fn:FuncId}{pos:String}{es:Array Event}
theorem zo (h:JJ γ w t j)(eT:bM w w1)(hs:w.heap.size≤w1.heap.size)(hh:∀b,b<w.heap.size→(∃k,γ.ow k b∨γ.ro k b)∨γ.sh b∨(∃p,γ.ph=some p∧b=p.A)→w1.heap[b]?=w.heap[b]?)(dr:∀e∈es,v_ γ j w1.heap.size e):
  JJ γ w1 (t++MemOp.ofEvents 0 fn pos es) j∧∀k',k'≠0→RR k' γ w γ w1:=by
 refine⟨⟨h.tj.main h.ba hs dr,h.ba,h.j,fun i b x=>Nat.lt_of_lt_of_le (h.mG i b x) hs,fun i b x=>Nat.lt_of_lt_of_le (h.kV i b x) hs,fun b x=>Nat.lt_of_lt_of_le (h.dD b x) hs,h.none,h.out,fun p hp=>?_⟩,fun k' cc=>?_⟩
 ·have x:=h.phase p hp
  obtain⟨l1,l2,l3⟩:=h.lt hp;obtain⟨cs,a1,a2,a3⟩:=x.arr;exact⟨x.j0,x.jn,x.n5,x.sh,Nat.lt_of_lt_of_le l2 hs,(hh _ l1 (.inr (.inl x.sh))).trans x.wg,x.cp,x.la,x.rel,cs,(hh _ l2 (.inr (.inr ⟨p,hp,rfl⟩))).trans a1,a2,a3⟩
 ·unfold RR
  rw[if_neg cc];refine⟨hs,eT,.rfl,fun _=>⟨rfl,fun _=> .rfl,fun _=> .rfl,rfl,.rfl,.rfl,fun b hb=>hh b (hb.elim (h.mG _ _) (h.kV _ _)) (.inl ⟨k',hb⟩),fun a ha=>?_⟩⟩
  obtain⟨q,hq,_,hA,_⟩:=ha;exact cell_of (by rw[hA];exact hh _ (h.lt hq).2.1 (.inr (.inr ⟨q,hq,rfl⟩)))
theorem uC (h:JJ γ w t j)(dr:∀e∈es,v_ γ j w.heap.size e):JJ γ w (t++MemOp.ofEvents 0 fn pos es) j∧∀k',k'≠0→RR k' γ w γ w:=
 zo h ⟨rfl,rfl,rfl⟩ (Nat.le_refl _) (fun _ _ _=>rfl) dr
theorem WL (h:JJ γ w t j)(hp:γ.ph=some p)(aZ:γ.wm= .op)(he:γ.extra=0)(hn:j-p.j0<p.n)(eT:bM w w1)(hs:w1.heap.size=w.heap.size)(hh:∀b,b≠p.wg→w1.heap[b]?=w.heap[b]?)
  (hw:w1.heap[p.wg]?=some (cM p.eW (((γ.v p+1:Nat):Int)*bJ) 0)) (dr:∀e∈es,v_ γ j w.heap.size e):
  JJ {γ with extra:=1} w1 (t++MemOp.ofEvents 0 fn pos es) j∧∀k',k'≠0→RR k' γ w {γ with extra:=1} w1:=by
 have x:=h.phase p hp;obtain⟨l1,l2,l3⟩:=h.lt hp;obtain⟨cs,a1,a2,a3⟩:=x.arr;have ev:Gh.v {γ with extra:=1} p=γ.v p+1:=by unfold Gh.v;simp only[he]
 have tj:=h.tj.main (fn:=fn) (pos:=pos) h.ba (Nat.le_refl _) dr;refine⟨⟨hs▸⟨tj.ct,tj.low,tj.over,tj.rel,tj.norel,tj.old⟩,⟨h.ba.ow,h.ba.qH,h.ba.sJ,h.ba.uz,h.ba.A⟩,h.j,hs▸h.mG,hs▸h.kV,hs▸h.dD,h.none,h.out,fun p' bc=>?_⟩,fun k' cc=>?_⟩
 ·have e:γ.ph=some p':=bc
  rw[hp]at e;cases e;refine⟨x.j0,by show γ.j-p.j0+1≤p.n;rw[h.j];omega,x.n5,x.sh,hs▸l2,?_,fun e=>?_,fun i e=>?_,fun e=>?_,cs,(hh _ (Ne.symm l3)).trans a1,a2,a3⟩
  ·show w1.heap[p.wg]?=some (cM p.eW (aW γ.wm (Gh.v {γ with extra:=1} p)) (zn γ.wm))
   rw[hw,ev,aZ];rfl
  ·have e':γ.wm= .cp:=e
   rw[aZ]at e';cases e'
  ·have e':γ.wm= .la i∨γ.wm= .lb i:=e
   rw[aZ]at e';rcases e' with e'|e'<;>cases e'
  ·have e':γ.wm= .rel:=e
   rw[aZ]at e';cases e'
 ·unfold RR
  rw[if_neg cc];refine⟨Nat.le_of_eq hs.symm,eT,.rfl,fun _=>⟨rfl,fun _=> .rfl,fun _=> .rfl,rfl,.rfl,.rfl,fun b hb=>hh b ?_,fun a ha=>cell_of (hh _ ?_)⟩⟩
  ·rintro rfl
   exact hb.elim (fun y=>h.ba.sJ _ _ y x.sh) (fun y=>h.ba.uz _ _ y x.sh)
  ·obtain⟨q,hq,_,hA,_⟩:=ha
   rw[hp]at hq;cases hq;rw[hA];exact Ne.symm l3
def Gh.spawn (γ:Gh)(p:Ph)(B:Nat):Gh:=
 {γ with extra:=0,j:=γ.j+1,st:=fun i=>if i=γ.j+1 then .busy else γ.st i,ro:=fun i b=>(i=γ.j+1∧b<B∧(∀k,¬γ.ow k b)∧¬γ.sh b∧b≠p.A)∨γ.ro i b}
theorem Rm (h:JJ γ w t j)(hp:γ.ph=some p)(aZ:γ.wm= .op)(he:γ.extra=1)(hd:Deaf t 0=0){x y:MemOp}(hx:x.g=0∧x.act= .go (j+1))(hy:y.g=j+1∧y.act= .start):
  JJ (γ.spawn p w.heap.size) w (t++ #[x,y]) (j+1)∧∀k',k'≠0→k'≤j→RR k' γ w (γ.spawn p w.heap.size) w:=by
 have x':=h.phase p hp;obtain⟨l1,l2,l3⟩:=h.lt hp;obtain⟨cs,a1,a2,a3⟩:=x'.arr;have ej:=h.j;have jD:BA (γ.spawn p w.heap.size):=by
  refine⟨h.ba.ow,?_,h.ba.sJ,?_,fun p' bc=>⟨fun i=>⟨((h.ba.A p' bc).1 i).1,?_⟩,(h.ba.A p' bc).2⟩⟩
  ·rintro i i' b h1 (⟨_,_,h2,_⟩|h2)
   ·exact h2 i h1
   ·exact h.ba.qH _ _ _ h1 h2
  ·rintro i b (⟨_,_,_,h2,_⟩|h2)
   ·exact h2
   ·exact h.ba.uz _ _ h2
  ·have e:γ.ph=some p':=bc
   rw[hp]at e;cases e;rintro(⟨_,_,_,_,h2⟩|h2)
   ·exact h2 rfl
   ·exact((h.ba.A p hp).1 i).2 h2
 have tj:TJ (γ.spawn p w.heap.size) w.heap.size t j:=by
  refine h.tj.same rfl (fun i i1 ij=>⟨fun l=> .rfl,fun l=>⟨?_,fun⟨b,hb,hr⟩=>⟨b,hb,.inr hr⟩⟩⟩) (fun i hi=>if_neg (by omega)) (fun p' bc=>⟨p',bc,rfl,rfl⟩) (fun p' bc=>⟨p',bc,rfl,rfl⟩)
  rintro⟨b,hb,⟨h2,_⟩|hr⟩
  ·omega
  ·exact⟨b,hb,hr⟩
 have ec:cnt (γ.spawn p w.heap.size).st p.j0 (γ.j-p.j0)=cnt γ.st p.j0 (γ.j-p.j0):=o9 fun i i1 i2=>by
  have Rn:=x'.j0;show(if i=γ.j+1 then jS.busy else γ.st i)= .off↔_
  rw[if_neg (by omega)]
 have ev:(γ.spawn p w.heap.size).v p=γ.v p:=by
  have Rn:=x'.j0;unfold Gh.v;have e1:(γ.spawn p w.heap.size).j-p.j0=(γ.j-p.j0)+1:=by show γ.j+1-p.j0=_;omega
  rw[e1];simp only[cnt];rw[ec];have e2:(γ.spawn p w.heap.size).st (p.j0+(γ.j-p.j0)+1)= .busy:=if_pos (by omega)
  rw[e2,he];rfl
 refine⟨⟨tj.fork jD hd hp (by have:=x'.j0;omega) (if_pos (by rw[ej])) hx hy,jD,by show γ.j+1=_;rw[ej],h.mG,?_,h.dD,fun e=>?_,fun p' bc i hi=>?_,fun p' bc=>?_⟩,fun k' cc DH=>?_⟩
 ·rintro i b (⟨_,h2,_⟩|h2)
  ·exact h2
  ·exact h.kV _ _ h2
 ·have:γ.ph=none:=e
  rw[hp]at this;cases this
 ·have e:γ.ph=some p':=bc
  rw[hp]at e;cases e;have eN:i≤p.j0∨γ.j+1<i:=hi
  have Rn:=x'.j0;obtain⟨h1,h2⟩:=h.out p hp i (by omega)
  have bY:i≠γ.j+1:=by omega
  refine⟨(if_neg bY).trans h1,fun b=>⟨(h2 b).1,?_⟩⟩
  rintro(⟨h3,_⟩|h3)
  ·exact bY h3
  ·exact(h2 b).2 h3
 ·have e:γ.ph=some p':=bc
  rw[hp]at e;cases e;have Rn:=x'.j0;have ir:=x'.jn;refine⟨by show p.j0≤γ.j+1;omega,by show γ.j+1-p.j0+0≤p.n;omega,x'.n5,x'.sh,l2,by rw[ev];exact x'.wg,fun e=>?_,fun i e=>?_,fun e=>?_,cs,a1,a2,fun i i1 i2 i3 c hc=>?_⟩
  ·have e':γ.wm= .cp:=e
   rw[aZ]at e';cases e'
  ·have e':γ.wm= .la i∨γ.wm= .lb i:=e
   rw[aZ]at e';rcases e' with e'|e'<;>cases e'
  ·have e':γ.wm= .rel:=e
   rw[aZ]at e';cases e'
  ·have Us:(if i=γ.j+1 then jS.busy else γ.st i)≠.busy:=i3
   by_cases hi:i=γ.j+1
   ·rw[if_pos hi]at Us;exact absurd rfl Us
   ·rw[if_neg hi]at Us
    have i2':i≤γ.j+1:=i2
    exact a3 i i1 (by omega) Us c hc
 ·unfold RR
  rw[if_neg cc];have bY:k'≠γ.j+1:=by omega
  have e1:(γ.spawn p w.heap.size).st k'=γ.st k':=if_neg bY
  refine⟨Nat.le_refl _,⟨rfl,rfl,rfl⟩,?_,fun _=>⟨e1,fun _=> .rfl,fun b=>⟨?_,.inr⟩,rfl,.rfl,.rfl,fun _ _=>rfl,fun _ _=>rfl⟩⟩
  ·unfold Gh.dG
   rw[e1];exact .rfl
  ·rintro(⟨h2,_⟩|h2)
   ·exact absurd h2 bY
   ·exact h2
theorem WN (h:JJ γ w t j)(hp:γ.ph=some p)(aZ:γ.wm= .op)(he:γ.extra=0)(hv:0<γ.v p)(eT:bM w w1)(hs:w1.heap.size=w.heap.size)(hh:∀b,b≠p.wg→w1.heap[b]?=w.heap[b]?)
  (hw:w1.heap[p.wg]?=some (cM p.eW ((γ.v p:Int)*bJ+1) 0)) (dr:∀e∈es,v_ γ j w.heap.size e):
  JJ (γ.e_ γ.st .cp) w1 (t++MemOp.ofEvents 0 fn pos es) j∧∀k',k'≠0→RR k' γ w (γ.e_ γ.st .cp) w1:=by
 have x:=h.phase p hp;refine⟨uB h hp hs hh ?_ (fun i hi=>rfl) ⟨hw,fun _=>⟨he,hv⟩,fun i e=>(by rcases e with e|e<;>cases e),nofun⟩ fun _=>id,qL hp x.sh h.ba hs eT hh (fun i hi=>rfl) (fun i hi _=>by rw[aZ];simp) fun e=>absurd rfl e⟩
 exact((hs▸h.tj.main h.ba (Nat.le_refl _) dr:TJ γ w1.heap.size _ j)).e_ fun _=>id
theorem WO (h:JJ γ w t j)(hp:γ.ph=some p)(aZ:γ.wm= .rel)(eT:bM w w1)(hs:w1.heap.size=w.heap.size)(hh:∀b,b≠p.wg→w1.heap[b]?=w.heap[b]?)
  (hw:w1.heap[p.wg]?=some (cM p.eW 0 0)) (dr:∀e∈es,v_ γ j w.heap.size e):
  γ.v p=0∧JJ (γ.e_ γ.st .op) w1 (t++MemOp.ofEvents 0 fn pos es) j∧∀k',k'≠0→RR k' γ w (γ.e_ γ.st .op) w1:=by
 have x:=h.phase p hp;have hv:=x.rel aZ;have gZ:(γ.e_ γ.st .op).v p=0:=hv
 refine⟨hv,uB h hp hs hh ?_ (fun i hi=>rfl) ⟨?_,nofun,fun i e=>(by rcases e with e|e<;>cases e),nofun⟩ fun _=>id,qL hp x.sh h.ba hs eT hh (fun i hi=>rfl) (fun i hi _=>by rw[aZ];simp) fun e=>absurd rfl e⟩
 ·exact((hs▸h.tj.main h.ba (Nat.le_refl _) dr:TJ γ w1.heap.size _ j)).e_ fun _=>id
 ·rw[hw,gZ]
  show some (cM p.eW 0 0)=some (cM p.eW (((0:Nat):Int)*bJ) 0)
  rw[Int.natCast_zero,Int.zero_mul]
def Gh.idle (γ:Gh):Gh:={γ with ow:=fun _ _=>False,ro:=fun _ _=>False,ph:=none,st:=fun _=> .off,wm:= .op,extra:=0}
theorem Ro (h:JJ γ w t j)(hp:γ.ph=some p)(hv:γ.v p=0)(k:Nat):γ.st k= .off:=by
 have x:=h.phase p hp;have Rn:=x.j0;by_cases hk:k≤p.j0∨γ.j<k
 ·exact(h.out p hp k hk).1
 ·unfold Gh.v at hv
  exact OG (j0:=p.j0) (m:=γ.j-p.j0) (by omega) k (by omega) (by omega)
theorem Ut (h:JJ γ w t j)(hp:γ.ph=some p)(aZ:γ.wm= .op)(hv:γ.v p=0)(hd:Deaf t 0=0):
  JJ γ.idle w (t++MemOp.ofEvents 0 fn pos #[⟨.mark (.acquire ⟨p.wg,0,none⟩),false,true⟩]) j∧(∀k',k'≠0→RR k' γ w γ.idle w)∧
   ∃cs,w.heap[p.A]?=some (.cells cs p.eA)∧cs.size=5*p.n∧∀i c,i<j-p.j0→c<5→cs[5*i+c]?=some (p.ng i c):=by
 have x:=h.phase p hp;obtain⟨l1,l2,l3⟩:=h.lt hp;have off:=Ro h hp hv;obtain⟨cs,a1,a2,a3⟩:=x.arr;have tj:=h.tj.join (fn:=fn) (pos:=pos) h.ba hp (fun k _ _ e=>by rw[off k]at e;cases e) hd l1 (fun _=> .off) .op
 refine⟨⟨⟨tj.ct,tj.low,tj.over,tj.rel,tj.norel,tj.old⟩,⟨fun _ _ _ e=>e.elim,fun _ _ _ e=>e.elim,fun _ _ e=>e.elim,fun _ _ e=>e.elim,nofun⟩,h.j,fun _ _ e=>e.elim,fun _ _ e=>e.elim,h.dD,fun _=>⟨fun _ _=>⟨id,id⟩,fun _=>rfl,rfl⟩,nofun,nofun⟩,fun k' cc=>?_,cs,a1,a2,fun i c hi hc=>?_⟩
 ·unfold RR
  rw[if_neg cc];have hg:γ.dG k':=⟨off k',by rw[aZ];nofun,by rw[aZ];nofun⟩
  have bh:γ.idle.dG k':=⟨rfl,nofun,nofun⟩
  exact⟨Nat.le_refl _,⟨rfl,rfl,rfl⟩,⟨fun _=>bh,fun _=>hg⟩,fun hn=>absurd hg hn⟩
 ·have ej:=h.j
  have:=a3 (p.j0+1+i) (by omega) (by omega) (by rw[off];nofun) c hc
  have e1:p.j0+1+i-p.j0-1=i:=by omega
  rwa[e1]at this
def Gh.begin (γ:Gh)(p:Ph):Gh:={γ with sh:=fun b=>γ.sh b∨b=p.wg,ph:=some p,extra:=0}
theorem Uu (h:JJ γ w t j)(hn:γ.ph=none)(hj:p.j0=j)(hw:p.wg=w.heap.size)(n5:p.n≤5)(hA:p.A<w.heap.size)(hAs:¬γ.sh p.A){cs:Array Value}(nT:w.heap[p.A]?=some (.cells cs p.eA))(kU:cs.size=5*p.n)
  (eT:bM w w1) (h1:w1.heap=w.heap.push (cM p.eW 0 0)):JJ (γ.begin p) w1 t j∧∀k',k'≠0→RR k' γ w (γ.begin p) w1:=by
 obtain⟨n1,n2,n3⟩:=h.none hn;have hs:w.heap.size≤w1.heap.size:=by rw[h1];simp
 have hh:∀b,b<w.heap.size→w1.heap[b]?=w.heap[b]?:=fun b hb=>by rw[h1,Array.getElem?_push,if_neg (by omega)]
 have tj:=h.tj.open (B':=w1.heap.size) hs hn n1 p hj (by omega) γ.st γ.wm
 refine⟨⟨⟨tj.ct,tj.low,tj.over,tj.rel,tj.norel,tj.old⟩,⟨h.ba.ow,h.ba.qH,fun i b e=>absurd e (n1 i b).1,fun i b e=>absurd e (n1 i b).2,fun p' bc=>?_⟩,h.j,fun i b e=>absurd e (n1 i b).1,fun i b e=>absurd e (n1 i b).2,fun b e=>?_,nofun,fun p' bc i _=>⟨n2 i,n1 i⟩,fun p' bc=>?_⟩,fun k' cc=>?_⟩
 ·cases bc
  refine⟨fun i=>n1 i _,?_⟩
  rintro(e|e)
  ·exact hAs e
  ·omega
 ·rcases e with e|e
  ·exact Nat.lt_of_lt_of_le (h.dD b e) hs
  ·rw[e,hw,h1];simp
 ·cases bc
  have ev:(γ.begin p).v p=0:=by
   unfold Gh.v Gh.begin;simp only
   have e1:γ.j-p.j0=0:=by rw[h.j];omega
   rw[e1];rfl
  have ej:=h.j;refine⟨by show p.j0≤γ.j;omega,by show γ.j-p.j0+0≤p.n;omega,n5,.inr rfl,by omega,?_,fun e=>?_,fun i e=>?_,fun _=>ev,cs,(hh _ hA).trans nT,kU,fun i i1 i2 i3=>?_⟩
  ·rw[ev]
   show _=some (cM p.eW (aW γ.wm 0) (zn γ.wm))
   rw[n3,h1,hw];show _=some (cM p.eW (((0:Nat):Int)*bJ) 0)
   rw[Int.natCast_zero,Int.zero_mul];simp
  ·have e':γ.wm= .cp:=e
   rw[n3]at e';cases e'
  ·have e':γ.wm= .la i∨γ.wm= .lb i:=e
   rw[n3]at e';rcases e' with e'|e'<;>cases e'
  ·have i2':i≤γ.j:=i2
   omega
 ·unfold RR
  rw[if_neg cc];have hg:γ.dG k':=⟨n2 k',by rw[n3];nofun,by rw[n3];nofun⟩
  exact⟨hs,eT,.rfl,fun hn=>absurd hg hn⟩
end
end Go.Proofs.YtjklkppncmhehaaGreat.Sr
namespace Go.Proofs.YtjklkppncmhehaaGreat.Sr
open Go Go.Conc Go.ConcN
theorem o_ {P:Program}:∀{n d:Nat} {g:Goroutine},g_ P n d g=true→QuitsD P n d g
 |0,d,g,h=>by simpa[g_,QuitsD]using h
 |n+1,d,g,h=>by
  simp only[g_,Bool.or_eq_true]at h;rcases h with h|h
  ·left;simpa using h
  ·cases hq:bX P g with
   |none=>rw[hq]at h;cases h
   |some y=>
    obtain⟨g',es⟩:=y;rw[hq]at h;simp only[Bool.and_eq_true]at h;obtain⟨h1,h2⟩:=fF hq;exact .inr ⟨h1,g',es,fun e he=>Array.all_eq_true_iff_forall_mem.1 h.1 e he,fun w=>h2 false w,o_ h.2⟩
section
variable {P:Program}{Γ:Type}{S:Sys P Γ}{k d:Nat}{γ:Γ}{w:World}{g:Goroutine}
theorem WP.mute:∀{n:Nat} {g:Goroutine} {γ:Γ} {w:World},mute P n g=true→(∀ah w',S.R k γ w ah w'→¬S.dG ah k)→(∀ah w',S.R k γ w ah w'→WP S k d ah w' (aN P n g))→WP S k d γ w g
 |0,g,γ,w,_,_,h=>h γ w (S.refl _ _ _)
 |n+1,g,γ,w,hm,hg,h=>by
  obtain⟨g',hs,bk,Gd,ha⟩:=tz hm;rw[ha]at h;refine .mk hs hg fun ah w' t j hR hJ hd kj=>⟨⟨g',w',#[],ah⟩,⟨bk false w',by rw[DE,Array.append_empty];exact hJ,fun k' _=>S.refl _ _ _⟩,fun a b=>absurd a b,?_⟩
  exact WP.mute Gd (fun a b x=>hg a b (S.trans hR x)) fun a b x=>h a b (S.trans hR x)
theorem MP.mute {Q:Γ→World→Trace→Nat→Outcome→World→Prop}:∀{n:Nat} {g:Goroutine} {γ:Γ} {w:World},mute P (n+1) g=true→(∀ah w',S.R 0 γ w ah w'→∃b,MP S Q b d ah w' (aN P (n+1) g))→MP S Q false d γ w g:=by
 intro n;induction n with
 |zero=>
  intro g γ w hm h;obtain⟨g',hs,bk,Gd,ha⟩:=tz hm;rw[ha]at h;refine .go hs fun ah w' t j hR hJ hd=>?_;obtain⟨b,hb⟩:=h ah w' hR;exact⟨⟨g',w',#[],ah⟩,b,⟨bk true w',by rw[DE,Array.append_empty];exact hJ,fun k' _=>S.refl _ _ _⟩,hb⟩
 |succ n ih=>
  intro g γ w hm h;obtain⟨g',hs,bk,Gd,ha⟩:=tz hm;rw[ha]at h;exact .go hs fun ah w' t j hR hJ hd=>⟨⟨g',w',#[],ah⟩,false,⟨bk true w',by rw[DE,Array.append_empty];exact hJ,fun k' _=>S.refl _ _ _⟩,ih Gd fun a b x=>h a b (S.trans hR x)⟩
end
section
variable {P:Program}{k d:Nat}{γ:Gh}{w:World}{g:Goroutine}
theorem WP.said {g':Goroutine}{es:Array Event}(h:bX P g=some (g',es))(hg:∀ah w',RR k γ w ah w'→¬ah.dG k)
  (hj:∀ah w' t j,RR k γ w ah w'→JJ ah w' t j→Deaf t k=d→k≤j→∃aX,JJ aX w' (t++MemOp.ofEvents k g.frame.fn g.frame.place es) j∧(∀k',k'≠k→RR k' ah w' aX w')∧(aX.wm= .rel→ah.wm= .rel)∧WP (sys P) k (deafBehind d es) aX w' g'):WP (sys P) k d γ w g:=by
 obtain⟨h1,h2⟩:=fF h;refine .mk h1 hg fun ah w' t j hR hJ hd kj=>?_;obtain⟨aX,c1,c2,c3,c4⟩:=hj ah w' t j hR hJ hd kj;exact⟨⟨g',w',es,aX⟩,⟨h2 false w',c1,c2⟩,fun a b=>absurd (fun e=>a (c3 e)) b,c4⟩
theorem WP.tC (hs:g.status= .running)(hg:∀ah w',RR k γ w ah w'→¬ah.dG k)
  (hj:∀ah w' t j,RR k γ w ah w'→JJ ah w' t j→Deaf t k=d→k≤j→∃v sh y aX,bn P v sh g=some y∧(∀a∈y.ls,w'.cell? a=some v∧w'.frozen? a=false)∧(∀r∈y.rs,w'.shape? r=sh)∧
   JJ aX (kG w' y.sto) (t++MemOp.ofEvents k g.frame.fn g.frame.place y.es) j∧(∀k',k'≠k→RR k' ah w' aX (kG w' y.sto))∧(ah.wm≠.rel→aX.wm= .rel→mayWake P g=true∧y.x.status= .running)∧WP (sys P) k (deafBehind d y.es) aX (kG w' y.sto) y.x):WP (sys P) k d γ w g:=by
 refine .mk hs hg fun ah w' t j hR hJ hd kj=>?_;obtain⟨v,sh,y,aX,c0,c1,c2,c3,c4,c5,c6⟩:=hj ah w' t j hR hJ hd kj;exact⟨⟨y.x,kG w' y.sto,y.es,aX⟩,⟨(vS c0).2 false w' c1 c2,c3,c4⟩,fun a b=>c5 a (Classical.not_not.1 b),c6⟩
end
end Go.Proofs.YtjklkppncmhehaaGreat.Sr
namespace Go.Proofs.YtjklkppncmhehaaGreat.Sr
open Go Go.Conc Go.ConcN
section
variable {k:Nat}{γ ah:Gh}{w w':World}{p:Ph}
theorem kh (hk:1≤k)(h:RR k γ w ah w'):RW k γ w ah w':=by
 unfold RR at h;rwa[if_neg (by omega)]at h
structure Kp (k:Nat) (γ ah:Gh):Prop where
 st:ah.st k=γ.st k
 ph:ah.ph=γ.ph
 la:ah.wm= .la k↔γ.wm= .la k
 lb:ah.wm= .lb k↔γ.wm= .lb k
theorem jE (hk:1≤k)(h:RR k γ w ah w')(hg:¬γ.dG k):Kp k γ ah:=
 let⟨a,_,_,b,c,d,_,_⟩:=(kh hk h).live hg;⟨a,b,c,d⟩
theorem oi (hk:1≤k)(hg:¬γ.dG k):∀ah w',RR k γ w ah w'→¬ah.dG k:=fun _ _ h x=>hg ((kh hk h).gone.2 x)
theorem oj {s:jS}(h:γ.st k=s)(hs:s≠.off):¬γ.dG k:=fun x=>hs (h▸x.1)
theorem jF (h:γ.wm= .la k):¬γ.dG k:=fun x=>x.2.1 h
theorem qM (h:γ.wm= .lb k):¬γ.dG k:=fun x=>x.2.2 h
theorem jl {wg:Nat}{e:TypeId}{st sm:Int}(h:w.heap[wg]?=some (cM e st sm)):w.cell? ⟨wg,0,none⟩=some (.int .u64 st)∧w.frozen? ⟨wg,0,none⟩=false:=by
 unfold World.cell? World.frozen?;simp only[h,cM];exact⟨rfl,by simp⟩
theorem wh {wg:Nat}{e:TypeId}{st sm:Int}(h:w.heap[wg]?=some (cM e st sm)):w.cell? ⟨wg,1,none⟩=some (.int .u32 sm)∧w.frozen? ⟨wg,1,none⟩=false:=by
 unfold World.cell? World.frozen?;simp only[h,cM];exact⟨rfl,by simp⟩
theorem om {wg:Nat}{e:TypeId}{st sm:Int}(h:w.heap[wg]?=some (cM e st sm)):w.shape? wg=some (e,2):=by
 unfold World.shape?;simp only[h,cM];rfl
theorem uD {wg:Nat}{e:TypeId}{st sm:Int}(h:w.heap[wg]?=some (cM e st sm))(s:Int):(w.setCell ⟨wg,0,none⟩ (.int .u64 s)).heap[wg]?=some (cM e s sm):=by
 unfold World.setCell;simp only[Array.getElem?_modify,if_true,h,Option.map_some,cM];rfl
theorem Gi {wg:Nat}{e:TypeId}{st sm:Int}(h:w.heap[wg]?=some (cM e st sm))(s:Int):(w.setCell ⟨wg,1,none⟩ (.int .u32 s)).heap[wg]?=some (cM e st s):=by
 unfold World.setCell;simp only[Array.getElem?_modify,if_true,h,Option.map_some,cM];rfl
theorem Kw {a:Addr}{x:Value}:∀b,b≠a.block→(w.setCell a x).heap[b]?=w.heap[b]?:=fun b hb=>by
 unfold World.setCell;simp only[Array.getElem?_modify];rw[if_neg (Ne.symm hb)]
theorem iY {wg o:Nat}{x:Value}:∀b,b≠wg→(w.setCell ⟨wg,o,none⟩ x).heap[b]?=w.heap[b]?:=fun b hb=>Kw b hb
theorem cS {a:Addr}{x:Value}:(w.setCell a x).heap.size=w.heap.size:=by
 unfold World.setCell;simp
theorem Ky {γ:Gh}{d B:Nat}{es:Array Event}(h:∀e∈es,e.mute=true):yb γ d B es:=fun i e hi=>by
 have:=qK (h e (Array.mem_of_getElem? hi)) B
 exact⟨.inl this.1,this.2⟩
theorem Uv {γ:Gh}{B wg o:Nat}(hs:γ.sh wg)(hB:wg<B):yb γ 1 B #[bR ⟨wg,o,none⟩]:=fun i e hi=>by
 have DG:i=0:=by have:=(Array.getElem?_eq_some_iff.1 hi).1;simp at this;omega
 subst DG;simp at hi;subst hi
 exact⟨.inr ⟨⟨_,_,rfl,hs⟩,by simp[deafBehind]⟩,hB,nofun⟩
theorem Uw {γ:Gh}{B wg o:Nat}(hs:γ.sh wg)(hB:wg<B):yb γ 1 B #[ew ⟨wg,o,none⟩]:=fun i e hi=>by
 have DG:i=0:=by have:=(Array.getElem?_eq_some_iff.1 hi).1;simp at this;omega
 subst DG;simp at hi;subst hi
 exact⟨.inr ⟨⟨_,_,rfl,hs⟩,by simp[deafBehind]⟩,hB,nofun⟩
theorem Ux {γ:Gh}{B wg o:Nat}(hs:γ.sh wg)(hB:wg<B):yb γ 1 B #[bR ⟨wg,o,none⟩,ew ⟨wg,o,none⟩]:=fun i e hi=>by
 have ai:=(Array.getElem?_eq_some_iff.1 hi).1;simp at ai
 obtain rfl|rfl:i=0∨i=1:=by omega
 ·simp at hi;subst hi
  exact⟨.inr ⟨⟨_,_,rfl,hs⟩,by simp[deafBehind]⟩,hB,nofun⟩
 ·simp at hi;subst hi
  exact⟨.inr ⟨⟨_,_,rfl,hs⟩,by simp[deafBehind]⟩,hB,nofun⟩
theorem Rp {γ:Gh}{B wg o:Nat}(hs:γ.sh wg)(hB:wg<B):yb γ 1 B #[dX .disable,bR ⟨wg,o,none⟩,ew ⟨wg,o,none⟩,dX .enable]:=fun i e hi=>by
 have ai:=(Array.getElem?_eq_some_iff.1 hi).1;simp at ai
 obtain rfl|rfl|rfl|rfl:i=0∨i=1∨i=2∨i=3:=by omega
 ·simp at hi;subst hi
  exact⟨.inl rfl,trivial,nofun⟩
 ·simp at hi;subst hi
  exact⟨.inr ⟨⟨_,_,rfl,hs⟩,by simp[deafBehind]⟩,hB,nofun⟩
 ·simp at hi;subst hi
  exact⟨.inr ⟨⟨_,_,rfl,hs⟩,by simp[deafBehind]⟩,hB,nofun⟩
 ·simp at hi;subst hi
  exact⟨.inl rfl,trivial,nofun⟩
theorem M_ {a b:Addr}(h:a∈[b]):b=a:=(by simpa using h:a=b).symm
theorem Na {a b:Nat}(h:a∈[b,b]):b=a:=(by simpa using h:a=b).symm
theorem Gj {a b:Addr}(h:a∈[b,b]):b=a:=(by simpa using h:a=b).symm
theorem OI {P:Program}{g7 g8 WQ g9 WS Rq Rr:Goroutine}(m7:mute P 103 g7=true)(a7:aN P 103 g7=g8)(v8:bn P (.int .u64 1) none g8=some ⟨WQ,#[bR ⟨p.wg,0,none⟩],[⟨p.wg,0,none⟩],[],none⟩)
  (m8:mute P 20 WQ=true) (a8:aN P 20 WQ=g9) (v9:bn P (.int .u64 1) none g9=some ⟨WS,#[ew ⟨p.wg,0,none⟩],[⟨p.wg,0,none⟩],[],some (⟨p.wg,0,none⟩,.int .u64 0)⟩)
  (m9:mute P 27 WS=true) (a9:aN P 27 WS=Rq) (v10:bn P (.int .u32 0) none Rq=some ⟨Rr,#[dX .disable,bR ⟨p.wg,1,none⟩,ew ⟨p.wg,1,none⟩,dX .enable],[⟨p.wg,1,none⟩,⟨p.wg,1,none⟩],[],some (⟨p.wg,1,none⟩,.int .u32 1)⟩)
  (mw:mayWake P Rq=true) (mr:Rr.status= .running) (mq:g_ P 30 1 Rr=true) (hk:1≤k) (hl:γ.wm= .la k) (hp:γ.ph=some p):WP (sys P) k 1 γ w g7:=by
 have lv:∀{ah:Gh} {w':World},RR k γ w ah w'→ah.wm= .la k∧ah.ph=some p:=fun hR=>by
  have kp:=jE hk hR (jF hl);exact⟨kp.la.2 hl,kp.ph.trans hp⟩
 refine WP.mute (n:=103) m7 (oi hk (jF hl)) fun aX w1 h1=>?_;rw[a7];obtain⟨l1,p1⟩:=lv h1;refine .tC (vS v8).1 (oi hk (jF l1)) fun dg w2 tr j h2 hJ hd kj=>?_;have Rs:=jE hk h2 (jF l1);have l2:=Rs.la.2 l1;have p2:=Rs.ph.trans p1;have x2:=hJ.phase p p2;have dm:w2.heap[p.wg]?=some (cM p.eW 1 0):=by have:=x2.wg;rw[l2]at this;exact this
 obtain⟨q1,q2⟩:=Gg (fn:=g8.frame.fn) (pos:=g8.frame.place) (es:= #[bR ⟨p.wg,0,none⟩]) hJ hk kj (by rw[hd];exact Uv x2.sh (hJ.dD _ x2.sh))
 refine⟨_,_,_,dg,v8,fun a ha=>(M_ ha)▸jl dm,fun r hr=>(by cases hr),q1,q2,fun _ e=>(by rw[l2]at e;cases e),?_⟩
 refine WP.mute (n:=20) m8 (oi hk (jF l2)) fun lX w3 h3=>?_;rw[a8];have Gk:=jE hk h3 (jF l2);have l3:=Gk.la.2 l2;have p3:=Gk.ph.trans p2;refine .tC (vS v9).1 (oi hk (jF l3)) fun fu w4 tr4 j4 h4 lY OJ kj4=>?_;have YJ:=jE hk h4 (jF l3);have l4:=YJ.la.2 l3;have p4:=YJ.ph.trans p3;have x4:=lY.phase p p4;have oo:w4.heap[p.wg]?=some (cM p.eW 1 0):=by have:=x4.wg;rw[l4]at this;exact this
 have YK:Deaf tr4 k=1:=OJ
 obtain⟨r1,r2⟩:=Rl (w1:=w4.setCell ⟨p.wg,0,none⟩ (.int .u64 0)) (fn:=g9.frame.fn) (pos:=g9.frame.place) (es:= #[ew ⟨p.wg,0,none⟩]) lY p4 l4 ⟨rfl,rfl,rfl⟩ cS iY (uD oo 0) (by rw[YK];exact Uw x4.sh (lY.dD _ x4.sh))
 refine⟨_,_,_,_,v9,fun a ha=>(M_ ha)▸jl oo,fun r hr=>(by cases hr),r1,r2,fun _ e=>(by cases e),?_⟩
 have l5:(fu.e_ fu.st (.lb k)).wm= .lb k:=rfl
 refine WP.mute (n:=27) m9 (oi hk (qM l5)) fun uE w6 h6=>?_;rw[a9];have Rt:=jE hk h6 (qM l5);have l6:=Rt.lb.2 l5;have p6:uE.ph=some p:=Rt.ph.trans p4
 refine .tC (vS v10).1 (oi hk (qM l6)) fun Bj w7 tr7 j7 h7 Bm Uy kj7=>?_;have Ru:=jE hk h7 (qM l6);have l7:=Ru.lb.2 l6;have p7:=Ru.ph.trans p6;have x7:=Bm.phase p p7;have Rv:w7.heap[p.wg]?=some (cM p.eW 0 0):=by have:=x7.wg;rw[l7]at this;exact this
 have YL:Deaf tr7 k=1:=Uy
 obtain⟨s1,s2⟩:=Ur (w1:=w7.setCell ⟨p.wg,1,none⟩ (.int .u32 1)) (fn:=Rq.frame.fn) (pos:=Rq.frame.place) (es:= #[dX .disable,bR ⟨p.wg,1,none⟩,ew ⟨p.wg,1,none⟩,dX .enable]) Bm p7 l7 ⟨rfl,rfl,rfl⟩ cS iY (Gi Rv 1) (by rw[YL];exact Rp x7.sh (Bm.dD _ x7.sh))
 refine⟨_,_,_,_,v10,fun a ha=>(Gj ha)▸wh Rv,fun r hr=>(by cases hr),s1,s2,fun _ _=>⟨mw,mr⟩,?_⟩
 obtain⟨_,_,_,c4⟩:=x7.la k (.inr l7);refine .quit 30 (o_ mq) fun fH w8 h8=>?_;exact(kh hk h8).gone.1 ⟨c4,nofun,nofun⟩
theorem OK {P:Program}{g0 g1 g2 g3 g4 g5 g6:Goroutine}{g7:Int→Goroutine}{eW:TypeId}(m0:mute P 16 g0=true)(a0:aN P 16 g0=g1)(v1:bn P undef (some (eW,2)) g1=some ⟨g2,#[],[],[p.wg,p.wg],none⟩)
  (q2:bX P g2=some (g3,#[dX (.releaseMerge ⟨p.wg,0,none⟩)])) (m3:mute P 3 g3=true) (a3:aN P 3 g3=g4) (q4:bX P g4=some (g5,#[dX .disable])) (m5:mute P 34 g5=true) (a5:aN P 34 g5=g6)
  (v6:∀(v:Nat) (wm:WM),1≤v→v≤5→wm= .op∨wm= .cp→bn P (.int .u64 (aW wm v)) none g6=some ⟨g7 (aW wm v-bJ),#[bR ⟨p.wg,0,none⟩,ew ⟨p.wg,0,none⟩],[⟨p.wg,0,none⟩,⟨p.wg,0,none⟩],[],some (⟨p.wg,0,none⟩,.int .u64 (aW wm v-bJ))⟩)
  (q7:∀(v:Nat) (wm:WM),1≤v→v≤5→wm= .op∨(wm= .cp∧v≠1)→g_ P 110 1 (g7 (aW wm v-bJ))=true) (ki:∀(γ:Gh) (w:World),γ.wm= .la k→γ.ph=some p→WP (sys P) k 1 γ w (g7 (aW .cp 1-bJ)))
  (he:p.eW=eW) (hp:γ.ph=some p) (hk:p.j0<k) (hb:γ.st k= .busy) (hc:∀c,c<5→w.cell? ⟨p.A,5*(k-p.j0-1)+c,none⟩=some (p.ng (k-p.j0-1) c)):WP (sys P) k 0 γ w g0:=by
 have k1:1≤k:=by omega
 have lb:=oj hb (by decide:jS.busy≠.off)
 have slot:∀{γ ah:Gh} {w w':World},γ.ph=some p→RR k γ w ah w'→¬γ.dG k→(∀c,c<5→w.cell? ⟨p.A,5*(k-p.j0-1)+c,none⟩=some (p.ng (k-p.j0-1) c))→∀c,c<5→w'.cell? ⟨p.A,5*(k-p.j0-1)+c,none⟩=some (p.ng (k-p.j0-1) c):=by
  intro γ ah w w' hp hR hg h c hc;obtain⟨_,_,_,_,_,_,_,h8⟩:=(kh k1 hR).live hg;rw[h8 _ ⟨p,hp,hk,rfl,by show _≤5*(k-p.j0-1)+c;omega,by show 5*(k-p.j0-1)+c<_;omega⟩]
  exact h c hc
 refine WP.mute (n:=16) m0 (oi k1 lb) fun aX w1 h1=>?_;rw[a0];have YM:=jE k1 h1 lb;have b1:=YM.st.trans hb;have p1:=YM.ph.trans hp;have c1:=slot hp h1 lb hc;have WT:=oj b1 (by decide:jS.busy≠.off)
 refine .tC (vS v1).1 (oi k1 WT) fun dg w2 t2 j2 h2 nU wi kj2=>?_;have Rs:=jE k1 h2 WT;have b2:=Rs.st.trans b1;have p2:=Rs.ph.trans p1;have c2:=slot p1 h2 WT c1;have WU:=oj b2 (by decide:jS.busy≠.off)
 have x2:=nU.phase p p2;refine⟨_,_,_,dg,v1,fun a ha=>(by cases ha),fun r hr=>?_,?_,fun k' _=>(sys P).refl k' dg w2,fun e e'=>absurd e' e,?_⟩
 ·have:p.wg=r:=Na hr
  rw[←this,←he];exact om x2.wg
 ·show JJ dg w2 (t2++MemOp.ofEvents k g1.frame.fn g1.frame.place #[]) j2
  rw[DE,Array.append_empty];exact nU
 refine .said q2 (oi k1 WU) fun lX w3 t3 j3 h3 hJ3 hd3 kj3=>?_;have Gk:=jE k1 h3 WU;have b3:=Gk.st.trans b2;have p3:=Gk.ph.trans p2;have c3:=slot p2 h3 WU c2;have YN:Deaf t3 k=0:=hd3
 obtain⟨r1,r2⟩:=Ku (fn:=g2.frame.fn) (pos:=g2.frame.place) hJ3 p3 hk kj3 b3 YN c3;refine⟨_,r1,r2,fun e=>e,?_⟩
 have b4:({lX with st:=fun i=>if i=k then .said else lX.st i}:Gh).st k= .said:=if_pos rfl
 have YO:=oj b4 (by decide:jS.said≠.off)
 refine WP.mute (n:=3) m3 (oi k1 YO) fun wj w5 h5=>?_;rw[a3];have YP:=jE k1 h5 YO;have b5:=YP.st.trans b4;have p5:wj.ph=some p:=YP.ph.trans p3
 have YQ:=oj b5 (by decide:jS.said≠.off)
 refine .said q4 (oi k1 YQ) fun uE w6 t6 j6 h6 hJ6 hd6 kj6=>?_;have Rt:=jE k1 h6 YQ;have b6:=Rt.st.trans b5;have p6:=Rt.ph.trans p5;have YR:=oj b6 (by decide:jS.said≠.off)
 obtain⟨s1,s2⟩:=Gg (fn:=g4.frame.fn) (pos:=g4.frame.place) (es:= #[dX .disable]) hJ6 k1 kj6 (Ky fun e he=>by simp at he;subst he;rfl)
 refine⟨_,s1,s2,fun e=>e,?_⟩
 refine WP.mute (n:=34) m5 (oi k1 YR) fun Bj w7 h7=>?_;rw[a5];have Ru:=jE k1 h7 YR;have b7:=Ru.st.trans b6;have p7:=Ru.ph.trans p6;have YS:=oj b7 (by decide:jS.said≠.off)
 refine .tC (vS (v6 1 .op (by omega) (by omega) (.inl rfl))).1 (oi k1 YS) fun fH w8 t8 j8 h8 Gl YT YU=>?_
 have YV:=jE k1 h8 YS;have b8:=YV.st.trans b7;have p8:=YV.ph.trans p7;have x8:=Gl.phase p p8;have oU:fH.st k≠.off:=by rw[b8];decide
 have hv:=(Rk Gl p8 hk YU oU .op).1;have aZ:fH.wm= .op∨fH.wm= .cp:=by
  cases e:fH.wm with
  |op=>exact .inl rfl
  |cp=>exact .inr rfl
  |la i=>have:=(x8.la i (.inl e)).1;omega
  |lb i=>have:=(x8.la i (.inr e)).1;omega
  |rel=>have:=x8.rel e;omega
 have v5:fH.v p≤5:=by
  have h5:=yw (st:=fH.st) (j0:=p.j0) (m:=fH.j-p.j0);have h6:=x8.jn;have h7:=x8.n5;unfold Gh.v;omega
 have pa:zn fH.wm=0:=by rcases aZ with e|e<;>rw[e]<;>rfl
 have WW:=x8.wg;rw[pa]at WW;have YW:Deaf t8 k=1:=YT
 obtain⟨_,_,u1,u2⟩:=WK (w1:=w8.setCell ⟨p.wg,0,none⟩ (.int .u64 (aW fH.wm (fH.v p)-bJ))) (fn:=g6.frame.fn) (pos:=g6.frame.place) (es:= #[bR ⟨p.wg,0,none⟩,ew ⟨p.wg,0,none⟩]) Gl p8 hk YU b8 ⟨rfl,rfl,rfl⟩ cS iY (uD WW _) (by rw[YW];exact Ux x8.sh (Gl.dD _ x8.sh))
 refine⟨_,_,_,_,v6 _ _ (by omega) v5 aZ,fun a ha=>(Gj ha)▸jl WW,fun r hr=>(by cases hr),u1,u2,fun _ e=>?_,?_⟩
 ·have e':(if fH.wm= .cp∧fH.v p=1 then WM.la k else fH.wm)= .rel:=e
  split at e'
  ·cases e'
  ·rcases aZ with e2|e2<;>rw[e2]at e'<;>cases e'
 ·by_cases OL:fH.wm= .cp∧fH.v p=1
  ·have YX:=ki (fH.e_ (mH fH k) (if fH.wm= .cp∧fH.v p=1 then WM.la k else fH.wm)) (w8.setCell ⟨p.wg,0,none⟩ (.int .u64 (aW fH.wm (fH.v p)-bJ))) (if_pos OL) p8
   have e9:aW WM.cp 1-bJ=aW fH.wm (fH.v p)-bJ:=by rw[OL.1,OL.2]
   rw[e9]at YX;exact YX
  ·have hq:=q7 (fH.v p) fH.wm (by omega) v5 (by
    rcases aZ with e|e
    ·exact .inl e
    ·exact .inr ⟨e,fun h=>OL ⟨e,h⟩⟩)
   refine .quit 110 (o_ hq) fun Rw w9 h9=>?_;refine(kh k1 h9).gone.1 ⟨if_pos rfl,?_,?_⟩
   ·show(if fH.wm= .cp∧fH.v p=1 then WM.la k else fH.wm)≠_
    rw[if_neg OL];rcases aZ with e|e<;>rw[e]<;>nofun
   ·show(if fH.wm= .cp∧fH.v p=1 then WM.la k else fH.wm)≠_
    rw[if_neg OL];rcases aZ with e|e<;>rw[e]<;>nofun
end
end Go.Proofs.YtjklkppncmhehaaGreat.Sr
namespace Go.Proofs.YtjklkppncmhehaaGreat.Sr
open Go Go.Conc Go.ConcN
theorem Gm:aW .op 1=4294967296:=by simp[aW,bJ]
theorem Cf:aW .cp 1=4294967297:=by simp[aW,bJ]
theorem Cg:aW .op 1-bJ=0:=by rw[Gm];simp[bJ]
theorem zp:aW .cp 1-bJ=1:=by rw[Cf];simp[bJ]
theorem Gn:aW .op 2=8589934592:=by simp[aW,bJ]
theorem Ch:aW .cp 2=8589934593:=by simp[aW,bJ]
theorem Ci:aW .op 2-bJ=4294967296:=by rw[Gn];simp[bJ]
theorem zq:aW .cp 2-bJ=4294967297:=by rw[Ch];simp[bJ]
theorem Gp:aW .op 3=12884901888:=by simp[aW,bJ]
theorem Cj:aW .cp 3=12884901889:=by simp[aW,bJ]
theorem Ck:aW .op 3-bJ=8589934592:=by rw[Gp];simp[bJ]
theorem zr:aW .cp 3-bJ=8589934593:=by rw[Cj];simp[bJ]
theorem Gq:aW .op 4=17179869184:=by simp[aW,bJ]
theorem Cl:aW .cp 4=17179869185:=by simp[aW,bJ]
theorem Cm:aW .op 4-bJ=12884901888:=by rw[Gq];simp[bJ]
theorem zt:aW .cp 4-bJ=12884901889:=by rw[Cl];simp[bJ]
theorem Gr:aW .op 5=21474836480:=by simp[aW,bJ]
theorem Cn:aW .cp 5=21474836481:=by simp[aW,bJ]
theorem Co:aW .op 5-bJ=17179869184:=by rw[Gr];simp[bJ]
theorem zu:aW .cp 5-bJ=17179869185:=by rw[Cn];simp[bJ]
section
variable {k:Nat}{γ:Gh}{w:World}{p:Ph}(t:Array Value)
theorem Kz (v:Nat)(wm:WM)(h1:1≤v)(h2:v≤5)(h:wm= .op∨wm= .cp):
  bn Tryz.prog (.int .u64 (aW wm v)) none (xZ Tryz.prog p.wg t)=some ⟨mD Tryz.prog p.wg t (aW wm v-bJ),#[bR ⟨p.wg,0,none⟩,ew ⟨p.wg,0,none⟩],[⟨p.wg,0,none⟩,⟨p.wg,0,none⟩],[],some (⟨p.wg,0,none⟩,.int .u64 (aW wm v-bJ))⟩:=by
 obtain rfl|rfl|rfl|rfl|rfl:v=1∨v=2∨v=3∨v=4∨v=5:=by omega
 ·rcases h with rfl|rfl
  ·rw[Cg,Gm];exact Dp p.wg t
  ·rw[zp,Cf];exact Dq p.wg t
 ·rcases h with rfl|rfl
  ·rw[Ci,Gn];exact Dr p.wg t
  ·rw[zq,Ch];exact Ds p.wg t
 ·rcases h with rfl|rfl
  ·rw[Ck,Gp];exact Dt p.wg t
  ·rw[zr,Cj];exact Du p.wg t
 ·rcases h with rfl|rfl
  ·rw[Cm,Gq];exact Dv p.wg t
  ·rw[zt,Cl];exact Dw p.wg t
 ·rcases h with rfl|rfl
  ·rw[Co,Gr];exact Dx p.wg t
  ·rw[zu,Cn];exact Dy p.wg t
theorem Gs (v:Nat)(wm:WM)(h1:1≤v)(h2:v≤5)(h:wm= .op∨(wm= .cp∧v≠1)):g_ Tryz.prog 110 1 (mD Tryz.prog p.wg t (aW wm v-bJ))=true:=by
 obtain rfl|rfl|rfl|rfl|rfl:v=1∨v=2∨v=3∨v=4∨v=5:=by omega
 ·rcases h with rfl|⟨rfl,h⟩
  ·rw[Cg];exact y8 p.wg t
  ·exact absurd rfl h
 ·rcases h with rfl|⟨rfl,h⟩
  ·rw[Ci];exact y9 p.wg t
  ·rw[zq];exact y_ p.wg t
 ·rcases h with rfl|⟨rfl,h⟩
  ·rw[Ck];exact za p.wg t
  ·rw[zr];exact zb p.wg t
 ·rcases h with rfl|⟨rfl,h⟩
  ·rw[Cm];exact zc p.wg t
  ·rw[zt];exact zd p.wg t
 ·rcases h with rfl|⟨rfl,h⟩
  ·rw[Co];exact ze p.wg t
  ·rw[zu];exact zf p.wg t
theorem KA (he:p.eW=191)(hp:γ.ph=some p)(hk:p.j0<k)(hb:γ.st k= .busy)(hc:∀c,c<5→w.cell? ⟨p.A,5*(k-p.j0-1)+c,none⟩=some (p.ng (k-p.j0-1) c)):WP (sys Tryz.prog) k 0 γ w (Uj Tryz.prog p.wg t):=
 OK (N8 p.wg t) rfl (Oe p.wg t) (Q3 p.wg t) (N9 p.wg t) rfl (Q4 p.wg t) (N_ p.wg t) rfl (Kz t) (Gs t)
  (fun γ w hl bc=>by
   rw[zp];exact OI (N' p.wg t) rfl (Of p.wg t) (Oc p.wg t) rfl (Kq p.wg t) (Od p.wg t) rfl (Og p.wg t) (F9 p.wg t) rfl (F8 p.wg t) (by omega) hl bc) he hp hk hb hc
end
end Go.Proofs.YtjklkppncmhehaaGreat.Sr
