/-
What is proved: the starter's steps, as the system sees them and what rests on it. Conditions: as stated.
-/
import Derived.Test.YtabjbdnokpjipaaGreatRw12
import Derived.Test.YtabjbdnokpjipaaGreatRw06
import Derived.Test.YtabjbdnokpjipaaGreatRw08
set_option linter.unusedVariables false
set_option linter.unusedSimpArgs false
namespace Go.Proofs.YtabjbdnokpjipaaGreat.Sr
open Go Go.Conc Go.ConcN
section
variable {γ:Gh}{w w1:World}{t:Trace}{j k:Nat}{p:Ph}{fn:FuncId}{pos:String}{es:Array Event}
theorem ze (h:JJ γ w t j)(iy:bG w w1)(hs:w.heap.size≤w1.heap.size)(hh:∀b,b<w.heap.size→(∃k,γ.ow k b∨γ.ro k b)∨γ.sh b∨(∃p,γ.ph=some p∧b=p.A)→w1.heap[b]?=w.heap[b]?)(bh:∀e∈es,vk γ j w1.heap.size e):
  JJ γ w1 (t++MemOp.ofEvents 0 fn pos es) j∧∀k',k'≠0→RR k' γ w γ w1:=by
 refine⟨⟨h.tj.main h.ba hs bh,h.ba,h.j,fun i b x=>Nat.lt_of_lt_of_le (h.ox i b x) hs,fun i b x=>Nat.lt_of_lt_of_le (h.mO i b x) hs,fun b x=>Nat.lt_of_lt_of_le (h.dL b x) hs,h.none,h.out,fun p hp=>?_⟩,fun k' cM=>?_⟩
 ·have x:=h.phase p hp
  obtain⟨l1,l2,l3⟩:=h.lt hp;obtain⟨cs,a1,a2,a3⟩:=x.arr;exact⟨x.j0,x.jn,x.n5,x.sh,Nat.lt_of_lt_of_le l2 hs,(hh _ l1 (.inr (.inl x.sh))).trans x.wg,x.reg,x.la,x.rel,cs,(hh _ l2 (.inr (.inr ⟨p,hp,rfl⟩))).trans a1,a2,a3⟩
 ·unfold RR
  rw[if_neg cM];refine⟨hs,iy,.rfl,fun _=>⟨rfl,fun _=> .rfl,fun _=> .rfl,rfl,.rfl,.rfl,fun b hb=>hh b (hb.elim (h.ox _ _) (h.mO _ _)) (.inl ⟨k',hb⟩),fun a ha=>?_⟩⟩
  obtain⟨q,hq,_,hA,_⟩:=ha;exact cell_of (by rw[hA];exact hh _ (h.lt hq).2.1 (.inr (.inr ⟨q,hq,rfl⟩)))
theorem tN (h:JJ γ w t j)(bh:∀e∈es,vk γ j w.heap.size e):JJ γ w (t++MemOp.ofEvents 0 fn pos es) j∧∀k',k'≠0→RR k' γ w γ w:=
 ze h ⟨rfl,rfl,rfl⟩ (Nat.le_refl _) (fun _ _ _=>rfl) bh
theorem abZ (h:JJ γ w t j)(hp:γ.ph=some p)(bf:γ.wm= .op)(he:γ.extra=0)(hn:j-p.j0<p.n)(iy:bG w w1)(hs:w1.heap.size=w.heap.size)(hh:∀b,b≠p.wg→w1.heap[b]?=w.heap[b]?)
  (hw:w1.heap[p.wg]?=some (di p.eW (((γ.v p+1:Nat):Int)*bW) 0)) (bh:∀e∈es,vk γ j w.heap.size e):
  JJ {γ with extra:=1} w1 (t++MemOp.ofEvents 0 fn pos es) j∧∀k',k'≠0→RR k' γ w {γ with extra:=1} w1:=by
 have x:=h.phase p hp;obtain⟨l1,l2,l3⟩:=h.lt hp;obtain⟨cs,a1,a2,a3⟩:=x.arr;have ev:Gh.v {γ with extra:=1} p=γ.v p+1:=by unfold Gh.v;simp only[he]
 have tj:=h.tj.main (fn:=fn) (pos:=pos) h.ba (Nat.le_refl _) bh;refine⟨⟨hs▸⟨tj.ct,tj.low,tj.over,tj.rel,tj.norel,tj.old⟩,⟨h.ba.ow,h.ba.tI,h.ba.vF,h.ba.xC,h.ba.A⟩,h.j,hs▸h.ox,hs▸h.mO,hs▸h.dL,h.none,h.out,fun p' bw=>?_⟩,fun k' cM=>?_⟩
 ·have e:γ.ph=some p':=bw
  rw[hp]at e;cases e;refine⟨x.j0,by show γ.j-p.j0+1≤p.n;rw[h.j];omega,x.n5,x.sh,hs▸l2,?_,fun e=>?_,fun i e=>?_,fun e=>?_,cs,(hh _ (Ne.symm l3)).trans a1,a2,a3⟩
  ·show w1.heap[p.wg]?=some (di p.eW (bo γ.wm (Gh.v {γ with extra:=1} p)) (Cs γ.wm))
   rw[hw,ev,bf];rfl
  ·have e':γ.wm= .reg:=e
   rw[bf]at e';cases e'
  ·have e':γ.wm= .la i∨γ.wm= .lb i:=e
   rw[bf]at e';rcases e' with e'|e'<;>cases e'
  ·have e':γ.wm= .rel:=e
   rw[bf]at e';cases e'
 ·unfold RR
  rw[if_neg cM];refine⟨Nat.le_of_eq hs.symm,iy,.rfl,fun _=>⟨rfl,fun _=> .rfl,fun _=> .rfl,rfl,.rfl,.rfl,fun b hb=>hh b ?_,fun a ha=>cell_of (hh _ ?_)⟩⟩
  ·rintro rfl
   exact hb.elim (fun y=>h.ba.vF _ _ y x.sh) (fun y=>h.ba.xC _ _ y x.sh)
  ·obtain⟨q,hq,_,hA,_⟩:=ha
   rw[hp]at hq;cases hq;rw[hA];exact Ne.symm l3
def Gh.spawn (γ:Gh)(p:Ph)(B:Nat):Gh:=
 {γ with extra:=0,j:=γ.j+1,st:=fun i=>if i=γ.j+1 then .busy else γ.st i,ro:=fun i b=>(i=γ.j+1∧b<B∧(∀k,¬γ.ow k b)∧¬γ.sh b∧b≠p.A)∨γ.ro i b}
theorem WI (h:JJ γ w t j)(hp:γ.ph=some p)(bf:γ.wm= .op)(he:γ.extra=1)(hd:Deaf t 0=0){x y:MemOp}(hx:x.g=0∧x.act= .go (j+1))(hy:y.g=j+1∧y.act= .start):
  JJ (γ.spawn p w.heap.size) w (t++ #[x,y]) (j+1)∧∀k',k'≠0→k'≤j→RR k' γ w (γ.spawn p w.heap.size) w:=by
 have x':=h.phase p hp;obtain⟨l1,l2,l3⟩:=h.lt hp;obtain⟨cs,a1,a2,a3⟩:=x'.arr;have ej:=h.j;have kZ:BA (γ.spawn p w.heap.size):=by
  refine⟨h.ba.ow,?_,h.ba.vF,?_,fun p' bw=>⟨fun i=>⟨((h.ba.A p' bw).1 i).1,?_⟩,(h.ba.A p' bw).2⟩⟩
  ·rintro i i' b h1 (⟨_,_,h2,_⟩|h2)
   ·exact h2 i h1
   ·exact h.ba.tI _ _ _ h1 h2
  ·rintro i b (⟨_,_,_,h2,_⟩|h2)
   ·exact h2
   ·exact h.ba.xC _ _ h2
  ·have e:γ.ph=some p':=bw
   rw[hp]at e;cases e;rintro(⟨_,_,_,_,h2⟩|h2)
   ·exact h2 rfl
   ·exact((h.ba.A p hp).1 i).2 h2
 have tj:TJ (γ.spawn p w.heap.size) w.heap.size t j:=by
  refine h.tj.same rfl (fun i i1 ij=>⟨fun l=> .rfl,fun l=>⟨?_,fun⟨b,hb,hr⟩=>⟨b,hb,.inr hr⟩⟩⟩) (fun i hi=>if_neg (by omega)) (fun p' bw=>⟨p',bw,rfl,rfl⟩) (fun p' bw=>⟨p',bw,rfl,rfl⟩)
  rintro⟨b,hb,⟨h2,_⟩|hr⟩
  ·omega
  ·exact⟨b,hb,hr⟩
 have ec:cnt (γ.spawn p w.heap.size).st p.j0 (γ.j-p.j0)=cnt γ.st p.j0 (γ.j-p.j0):=qY fun i i1 i2=>by
  have WJ:=x'.j0;show(if i=γ.j+1 then lE.busy else γ.st i)= .off↔_
  rw[if_neg (by omega)]
 have ev:(γ.spawn p w.heap.size).v p=γ.v p:=by
  have WJ:=x'.j0;unfold Gh.v;have e1:(γ.spawn p w.heap.size).j-p.j0=(γ.j-p.j0)+1:=by show γ.j+1-p.j0=_;omega
  rw[e1];simp only[cnt];rw[ec];have e2:(γ.spawn p w.heap.size).st (p.j0+(γ.j-p.j0)+1)= .busy:=if_pos (by omega)
  rw[e2,he];rfl
 refine⟨⟨tj.fork kZ hd hp (by have:=x'.j0;omega) (if_pos (by rw[ej])) hx hy,kZ,by show γ.j+1=_;rw[ej],h.ox,?_,h.dL,fun e=>?_,fun p' bw i hi=>?_,fun p' bw=>?_⟩,fun k' cM Ha=>?_⟩
 ·rintro i b (⟨_,h2,_⟩|h2)
  ·exact h2
  ·exact h.mO _ _ h2
 ·have:γ.ph=none:=e
  rw[hp]at this;cases this
 ·have e:γ.ph=some p':=bw
  rw[hp]at e;cases e;have fB:i≤p.j0∨γ.j+1<i:=hi
  have WJ:=x'.j0;obtain⟨h1,h2⟩:=h.out p hp i (by omega)
  have cf:i≠γ.j+1:=by omega
  refine⟨(if_neg cf).trans h1,fun b=>⟨(h2 b).1,?_⟩⟩
  rintro(⟨h3,_⟩|h3)
  ·exact cf h3
  ·exact(h2 b).2 h3
 ·have e:γ.ph=some p':=bw
  rw[hp]at e;cases e;have WJ:=x'.j0;have jC:=x'.jn;refine⟨by show p.j0≤γ.j+1;omega,by show γ.j+1-p.j0+0≤p.n;omega,x'.n5,x'.sh,l2,by rw[ev];exact x'.wg,fun e=>?_,fun i e=>?_,fun e=>?_,cs,a1,a2,fun i i1 i2 i3 c hc=>?_⟩
  ·have e':γ.wm= .reg:=e
   rw[bf]at e';cases e'
  ·have e':γ.wm= .la i∨γ.wm= .lb i:=e
   rw[bf]at e';rcases e' with e'|e'<;>cases e'
  ·have e':γ.wm= .rel:=e
   rw[bf]at e';cases e'
  ·have Z_:(if i=γ.j+1 then lE.busy else γ.st i)≠.busy:=i3
   by_cases hi:i=γ.j+1
   ·rw[if_pos hi]at Z_;exact absurd rfl Z_
   ·rw[if_neg hi]at Z_
    have i2':i≤γ.j+1:=i2
    exact a3 i i1 (by omega) Z_ c hc
 ·unfold RR
  rw[if_neg cM];have cf:k'≠γ.j+1:=by omega
  have e1:(γ.spawn p w.heap.size).st k'=γ.st k':=if_neg cf
  refine⟨Nat.le_refl _,⟨rfl,rfl,rfl⟩,?_,fun _=>⟨e1,fun _=> .rfl,fun b=>⟨?_,.inr⟩,rfl,.rfl,.rfl,fun _ _=>rfl,fun _ _=>rfl⟩⟩
  ·unfold Gh.Gone
   rw[e1];exact .rfl
  ·rintro(⟨h2,_⟩|h2)
   ·exact absurd h2 cf
   ·exact h2
theorem ab0 (h:JJ γ w t j)(hp:γ.ph=some p)(bf:γ.wm= .op)(he:γ.extra=0)(hv:0<γ.v p)(iy:bG w w1)(hs:w1.heap.size=w.heap.size)(hh:∀b,b≠p.wg→w1.heap[b]?=w.heap[b]?)
  (hw:w1.heap[p.wg]?=some (di p.eW ((γ.v p:Int)*bW+1) 0)) (bh:∀e∈es,vk γ j w.heap.size e):
  JJ (γ.gC γ.st .reg) w1 (t++MemOp.ofEvents 0 fn pos es) j∧∀k',k'≠0→RR k' γ w (γ.gC γ.st .reg) w1:=by
 have x:=h.phase p hp;refine⟨xE h hp hs hh ?_ (fun i hi=>rfl) ⟨hw,fun _=>⟨he,hv⟩,fun i e=>(by rcases e with e|e<;>cases e),nofun⟩ fun _=>id,tM hp x.sh h.ba hs iy hh (fun i hi=>rfl) (fun i hi _=>by rw[bf];simp) fun e=>absurd rfl e⟩
 exact((hs▸h.tj.main h.ba (Nat.le_refl _) bh:TJ γ w1.heap.size _ j)).gC fun _=>id
theorem ab1 (h:JJ γ w t j)(hp:γ.ph=some p)(bf:γ.wm= .rel)(iy:bG w w1)(hs:w1.heap.size=w.heap.size)(hh:∀b,b≠p.wg→w1.heap[b]?=w.heap[b]?)
  (hw:w1.heap[p.wg]?=some (di p.eW 0 0)) (bh:∀e∈es,vk γ j w.heap.size e):
  γ.v p=0∧JJ (γ.gC γ.st .op) w1 (t++MemOp.ofEvents 0 fn pos es) j∧∀k',k'≠0→RR k' γ w (γ.gC γ.st .op) w1:=by
 have x:=h.phase p hp;have hv:=x.rel bf;have g_:(γ.gC γ.st .op).v p=0:=hv
 refine⟨hv,xE h hp hs hh ?_ (fun i hi=>rfl) ⟨?_,nofun,fun i e=>(by rcases e with e|e<;>cases e),nofun⟩ fun _=>id,tM hp x.sh h.ba hs iy hh (fun i hi=>rfl) (fun i hi _=>by rw[bf];simp) fun e=>absurd rfl e⟩
 ·exact((hs▸h.tj.main h.ba (Nat.le_refl _) bh:TJ γ w1.heap.size _ j)).gC fun _=>id
 ·rw[hw,g_]
  show some (di p.eW 0 0)=some (di p.eW (((0:Nat):Int)*bW) 0)
  rw[Int.natCast_zero,Int.zero_mul]
def Gh.idle (γ:Gh):Gh:={γ with ow:=fun _ _=>False,ro:=fun _ _=>False,ph:=none,st:=fun _=> .off,wm:= .op,extra:=0}
theorem WK (h:JJ γ w t j)(hp:γ.ph=some p)(hv:γ.v p=0)(k:Nat):γ.st k= .off:=by
 have x:=h.phase p hp;have WJ:=x.j0;by_cases hk:k≤p.j0∨γ.j<k
 ·exact(h.out p hp k hk).1
 ·unfold Gh.v at hv
  exact Tl (j0:=p.j0) (m:=γ.j-p.j0) (by omega) k (by omega) (by omega)
theorem Z' (h:JJ γ w t j)(hp:γ.ph=some p)(bf:γ.wm= .op)(hv:γ.v p=0)(hd:Deaf t 0=0):
  JJ γ.idle w (t++MemOp.ofEvents 0 fn pos #[⟨.mark (.acquire ⟨p.wg,0,none⟩),false,true⟩]) j∧(∀k',k'≠0→RR k' γ w γ.idle w)∧
   ∃cs,w.heap[p.A]?=some (.cells cs p.eA)∧cs.size=5*p.n∧∀i c,i<j-p.j0→c<5→cs[5*i+c]?=some (p.o8 i c):=by
 have x:=h.phase p hp;obtain⟨l1,l2,l3⟩:=h.lt hp;have off:=WK h hp hv;obtain⟨cs,a1,a2,a3⟩:=x.arr;have tj:=h.tj.join (fn:=fn) (pos:=pos) h.ba hp (fun k _ _ e=>by rw[off k]at e;cases e) hd l1 (fun _=> .off) .op
 refine⟨⟨⟨tj.ct,tj.low,tj.over,tj.rel,tj.norel,tj.old⟩,⟨fun _ _ _ e=>e.elim,fun _ _ _ e=>e.elim,fun _ _ e=>e.elim,fun _ _ e=>e.elim,nofun⟩,h.j,fun _ _ e=>e.elim,fun _ _ e=>e.elim,h.dL,fun _=>⟨fun _ _=>⟨id,id⟩,fun _=>rfl,rfl⟩,nofun,nofun⟩,fun k' cM=>?_,cs,a1,a2,fun i c hi hc=>?_⟩
 ·unfold RR
  rw[if_neg cM];have hg:γ.Gone k':=⟨off k',by rw[bf];nofun,by rw[bf];nofun⟩
  have bu:γ.idle.Gone k':=⟨rfl,nofun,nofun⟩
  exact⟨Nat.le_refl _,⟨rfl,rfl,rfl⟩,⟨fun _=>bu,fun _=>hg⟩,fun hn=>absurd hg hn⟩
 ·have ej:=h.j
  have:=a3 (p.j0+1+i) (by omega) (by omega) (by rw[off];nofun) c hc
  have e1:p.j0+1+i-p.j0-1=i:=by omega
  rwa[e1]at this
def Gh.begin (γ:Gh)(p:Ph):Gh:={γ with sh:=fun b=>γ.sh b∨b=p.wg,ph:=some p,extra:=0}
theorem aaa (h:JJ γ w t j)(hn:γ.ph=none)(hj:p.j0=j)(hw:p.wg=w.heap.size)(n5:p.n≤5)(hA:p.A<w.heap.size)(hAs:¬γ.sh p.A){cs:Array Value}(lF:w.heap[p.A]?=some (.cells cs p.eA))(kq:cs.size=5*p.n)
  (iy:bG w w1) (h1:w1.heap=w.heap.push (di p.eW 0 0)):JJ (γ.begin p) w1 t j∧∀k',k'≠0→RR k' γ w (γ.begin p) w1:=by
 obtain⟨n1,n2,n3⟩:=h.none hn;have hs:w.heap.size≤w1.heap.size:=by rw[h1];simp
 have hh:∀b,b<w.heap.size→w1.heap[b]?=w.heap[b]?:=fun b hb=>by rw[h1,Array.getElem?_push,if_neg (by omega)]
 have tj:=h.tj.open (B':=w1.heap.size) hs hn n1 p hj (by omega) γ.st γ.wm
 refine⟨⟨⟨tj.ct,tj.low,tj.over,tj.rel,tj.norel,tj.old⟩,⟨h.ba.ow,h.ba.tI,fun i b e=>absurd e (n1 i b).1,fun i b e=>absurd e (n1 i b).2,fun p' bw=>?_⟩,h.j,fun i b e=>absurd e (n1 i b).1,fun i b e=>absurd e (n1 i b).2,fun b e=>?_,nofun,fun p' bw i _=>⟨n2 i,n1 i⟩,fun p' bw=>?_⟩,fun k' cM=>?_⟩
 ·cases bw
  refine⟨fun i=>n1 i _,?_⟩
  rintro(e|e)
  ·exact hAs e
  ·omega
 ·rcases e with e|e
  ·exact Nat.lt_of_lt_of_le (h.dL b e) hs
  ·rw[e,hw,h1];simp
 ·cases bw
  have ev:(γ.begin p).v p=0:=by
   unfold Gh.v Gh.begin;simp only
   have e1:γ.j-p.j0=0:=by rw[h.j];omega
   rw[e1];rfl
  have ej:=h.j;refine⟨by show p.j0≤γ.j;omega,by show γ.j-p.j0+0≤p.n;omega,n5,.inr rfl,by omega,?_,fun e=>?_,fun i e=>?_,fun _=>ev,cs,(hh _ hA).trans lF,kq,fun i i1 i2 i3=>?_⟩
  ·rw[ev]
   show _=some (di p.eW (bo γ.wm 0) (Cs γ.wm))
   rw[n3,h1,hw];show _=some (di p.eW (((0:Nat):Int)*bW) 0)
   rw[Int.natCast_zero,Int.zero_mul];simp
  ·have e':γ.wm= .reg:=e
   rw[n3]at e';cases e'
  ·have e':γ.wm= .la i∨γ.wm= .lb i:=e
   rw[n3]at e';rcases e' with e'|e'<;>cases e'
  ·have i2':i≤γ.j:=i2
   omega
 ·unfold RR
  rw[if_neg cM];have hg:γ.Gone k':=⟨n2 k',by rw[n3];nofun,by rw[n3];nofun⟩
  exact⟨hs,iy,.rfl,fun hn=>absurd hg hn⟩
end
end Go.Proofs.YtabjbdnokpjipaaGreat.Sr
namespace Go.Proofs.YtabjbdnokpjipaaGreat.Sr
open Go Go.Conc Go.ConcN
theorem qZ {P:Program}:∀{n d:Nat} {g:Goroutine},quits P n d g=true→QuitsD P n d g
 |0,d,g,h=>by simpa[quits,QuitsD]using h
 |n+1,d,g,h=>by
  simp only[quits,Bool.or_eq_true]at h;rcases h with h|h
  ·left;simpa using h
  ·cases hq:cn P g with
   |none=>rw[hq]at h;cases h
   |some y=>
    obtain⟨g',es⟩:=y;rw[hq]at h;simp only[Bool.and_eq_true]at h;obtain⟨h1,h2⟩:=fJ hq;exact .inr ⟨h1,g',es,fun e he=>Array.all_eq_true_iff_forall_mem.1 h.1 e he,fun w=>h2 false w,qZ h.2⟩
section
variable {P:Program}{Γ:Type}{S:Sys P Γ}{k d:Nat}{γ:Γ}{w:World}{g:Goroutine}
theorem WP.mute:∀{n:Nat} {g:Goroutine} {γ:Γ} {w:World},mute P n g=true→(∀ai w',S.R k γ w ai w'→¬S.Gone ai k)→(∀ai w',S.R k γ w ai w'→WP S k d ai w' (aR P n g))→WP S k d γ w g
 |0,g,γ,w,_,_,h=>h γ w (S.refl _ _ _)
 |n+1,g,γ,w,hm,hg,h=>by
  obtain⟨g',hs,aZ,JK,ha⟩:=wD hm;rw[ha]at h;refine .mk hs hg fun ai w' t j hR hJ hd kj=>⟨⟨g',w',#[],ai⟩,⟨aZ false w',by rw[G_,Array.append_empty];exact hJ,fun k' _=>S.refl _ _ _⟩,fun a b=>absurd a b,?_⟩
  exact WP.mute JK (fun a b x=>hg a b (S.trans hR x)) fun a b x=>h a b (S.trans hR x)
theorem MP.mute {Q:Γ→World→Trace→Nat→Outcome→World→Prop}:∀{n:Nat} {g:Goroutine} {γ:Γ} {w:World},mute P (n+1) g=true→(∀ai w',S.R 0 γ w ai w'→∃b,MP S Q b d ai w' (aR P (n+1) g))→MP S Q false d γ w g:=by
 intro n;induction n with
 |zero=>
  intro g γ w hm h;obtain⟨g',hs,aZ,JK,ha⟩:=wD hm;rw[ha]at h;refine .go hs fun ai w' t j hR hJ hd=>?_;obtain⟨b,hb⟩:=h ai w' hR;exact⟨⟨g',w',#[],ai⟩,b,⟨aZ true w',by rw[G_,Array.append_empty];exact hJ,fun k' _=>S.refl _ _ _⟩,hb⟩
 |succ n ih=>
  intro g γ w hm h;obtain⟨g',hs,aZ,JK,ha⟩:=wD hm;rw[ha]at h;exact .go hs fun ai w' t j hR hJ hd=>⟨⟨g',w',#[],ai⟩,false,⟨aZ true w',by rw[G_,Array.append_empty];exact hJ,fun k' _=>S.refl _ _ _⟩,ih JK fun a b x=>h a b (S.trans hR x)⟩
end
section
variable {P:Program}{k d:Nat}{γ:Gh}{w:World}{g:Goroutine}
theorem WP.said {g':Goroutine}{es:Array Event}(h:cn P g=some (g',es))(hg:∀ai w',RR k γ w ai w'→¬ai.Gone k)
  (hj:∀ai w' t j,RR k γ w ai w'→JJ ai w' t j→Deaf t k=d→k≤j→∃γ1,JJ γ1 w' (t++MemOp.ofEvents k g.frame.fn g.frame.place es) j∧(∀k',k'≠k→RR k' ai w' γ1 w')∧(γ1.wm= .rel→ai.wm= .rel)∧WP (sys P) k (deafBehind d es) γ1 w' g'):WP (sys P) k d γ w g:=by
 obtain⟨h1,h2⟩:=fJ h;refine .mk h1 hg fun ai w' t j hR hJ hd kj=>?_;obtain⟨γ1,c1,c2,c3,c4⟩:=hj ai w' t j hR hJ hd kj;exact⟨⟨g',w',es,γ1⟩,⟨h2 false w',c1,c2⟩,fun a b=>absurd (fun e=>a (c3 e)) b,c4⟩
theorem WP.vm (hs:g.status= .running)(hg:∀ai w',RR k γ w ai w'→¬ai.Gone k)
  (hj:∀ai w' t j,RR k γ w ai w'→JJ ai w' t j→Deaf t k=d→k≤j→∃v sh y γ1,bF P v sh g=some y∧(∀a∈y.ls,w'.cell? a=some v∧w'.frozen? a=false)∧(∀r∈y.rs,w'.shape? r=sh)∧
   JJ γ1 (e_ w' y.bp) (t++MemOp.ofEvents k g.frame.fn g.frame.place y.es) j∧(∀k',k'≠k→RR k' ai w' γ1 (e_ w' y.bp))∧(ai.wm≠.rel→γ1.wm= .rel→mayWake P g=true∧y.x.status= .running)∧WP (sys P) k (deafBehind d y.es) γ1 (e_ w' y.bp) y.x):WP (sys P) k d γ w g:=by
 refine .mk hs hg fun ai w' t j hR hJ hd kj=>?_;obtain⟨v,sh,y,γ1,c0,c1,c2,c3,c4,c5,c6⟩:=hj ai w' t j hR hJ hd kj;exact⟨⟨y.x,e_ w' y.bp,y.es,γ1⟩,⟨(vS c0).2 false w' c1 c2,c3,c4⟩,fun a b=>c5 a (Classical.not_not.1 b),c6⟩
end
end Go.Proofs.YtabjbdnokpjipaaGreat.Sr
namespace Go.Proofs.YtabjbdnokpjipaaGreat.Sr
open Go Go.Conc Go.ConcN
section
variable {k:Nat}{γ ai:Gh}{w w':World}{p:Ph}
theorem lS (hk:1≤k)(h:RR k γ w ai w'):RW k γ w ai w':=by
 unfold RR at h;rwa[if_neg (by omega)]at h
structure Kp (k:Nat) (γ ai:Gh):Prop where
 st:ai.st k=γ.st k
 ph:ai.ph=γ.ph
 la:ai.wm= .la k↔γ.wm= .la k
 lb:ai.wm= .lb k↔γ.wm= .lb k
theorem k9 (hk:1≤k)(h:RR k γ w ai w')(hg:¬γ.Gone k):Kp k γ ai:=
 let⟨a,_,_,b,c,d,_,_⟩:=(lS hk h).live hg;⟨a,b,c,d⟩
theorem qg (hk:1≤k)(hg:¬γ.Gone k):∀ai w',RR k γ w ai w'→¬ai.Gone k:=fun _ _ h x=>hg ((lS hk h).gone.2 x)
theorem qh {s:lE}(h:γ.st k=s)(hs:s≠.off):¬γ.Gone k:=fun x=>hs (h▸x.1)
theorem k_ (h:γ.wm= .la k):¬γ.Gone k:=fun x=>x.2.1 h
theorem tO (h:γ.wm= .lb k):¬γ.Gone k:=fun x=>x.2.2 h
theorem kF {wg:Nat}{e:TypeId}{st sm:Int}(h:w.heap[wg]?=some (di e st sm)):w.cell? ⟨wg,0,none⟩=some (.int .u64 st)∧w.frozen? ⟨wg,0,none⟩=false:=by
 unfold World.cell? World.frozen?;simp only[h,di];exact⟨rfl,by simp⟩
theorem zf {wg:Nat}{e:TypeId}{st sm:Int}(h:w.heap[wg]?=some (di e st sm)):w.cell? ⟨wg,1,none⟩=some (.int .u32 sm)∧w.frozen? ⟨wg,1,none⟩=false:=by
 unfold World.cell? World.frozen?;simp only[h,di];exact⟨rfl,by simp⟩
theorem qi {wg:Nat}{e:TypeId}{st sm:Int}(h:w.heap[wg]?=some (di e st sm)):w.shape? wg=some (e,2):=by
 unfold World.shape?;simp only[h,di];rfl
theorem xF {wg:Nat}{e:TypeId}{st sm:Int}(h:w.heap[wg]?=some (di e st sm))(s:Int):(w.setCell ⟨wg,0,none⟩ (.int .u64 s)).heap[wg]?=some (di e s sm):=by
 unfold World.setCell;simp only[Array.getElem?_modify,if_true,h,Option.map_some,di];rfl
theorem JP {wg:Nat}{e:TypeId}{st sm:Int}(h:w.heap[wg]?=some (di e st sm))(s:Int):(w.setCell ⟨wg,1,none⟩ (.int .u32 s)).heap[wg]?=some (di e st s):=by
 unfold World.setCell;simp only[Array.getElem?_modify,if_true,h,Option.map_some,di];rfl
theorem lT {a:Addr}{x:Value}:∀b,b≠a.block→(w.setCell a x).heap[b]?=w.heap[b]?:=fun b hb=>by
 unfold World.setCell;simp only[Array.getElem?_modify];rw[if_neg (Ne.symm hb)]
theorem kr {wg o:Nat}{x:Value}:∀b,b≠wg→(w.setCell ⟨wg,o,none⟩ x).heap[b]?=w.heap[b]?:=fun b hb=>lT b hb
theorem cA {a:Addr}{x:Value}:(w.setCell a x).heap.size=w.heap.size:=by
 unfold World.setCell;simp
theorem OH {γ:Gh}{d B:Nat}{es:Array Event}(h:∀e∈es,e.mute=true):Bb γ d B es:=fun i e hi=>by
 have:=tK (h e (Array.mem_of_getElem? hi)) B
 exact⟨.inl this.1,this.2⟩
theorem aab {γ:Gh}{B wg o:Nat}(hs:γ.sh wg)(hB:wg<B):Bb γ 1 B #[cp ⟨wg,o,none⟩]:=fun i e hi=>by
 have tH:i=0:=by have:=(Array.getElem?_eq_some_iff.1 hi).1;simp at this;omega
 subst tH;simp at hi;subst hi
 exact⟨.inr ⟨⟨_,_,rfl,hs⟩,by simp[deafBehind]⟩,hB,nofun⟩
theorem aac {γ:Gh}{B wg o:Nat}(hs:γ.sh wg)(hB:wg<B):Bb γ 1 B #[fu ⟨wg,o,none⟩]:=fun i e hi=>by
 have tH:i=0:=by have:=(Array.getElem?_eq_some_iff.1 hi).1;simp at this;omega
 subst tH;simp at hi;subst hi
 exact⟨.inr ⟨⟨_,_,rfl,hs⟩,by simp[deafBehind]⟩,hB,nofun⟩
theorem aad {γ:Gh}{B wg o:Nat}(hs:γ.sh wg)(hB:wg<B):Bb γ 1 B #[cp ⟨wg,o,none⟩,fu ⟨wg,o,none⟩]:=fun i e hi=>by
 have ak:=(Array.getElem?_eq_some_iff.1 hi).1;simp at ak
 obtain rfl|rfl:i=0∨i=1:=by omega
 ·simp at hi;subst hi
  exact⟨.inr ⟨⟨_,_,rfl,hs⟩,by simp[deafBehind]⟩,hB,nofun⟩
 ·simp at hi;subst hi
  exact⟨.inr ⟨⟨_,_,rfl,hs⟩,by simp[deafBehind]⟩,hB,nofun⟩
theorem WL {γ:Gh}{B wg o:Nat}(hs:γ.sh wg)(hB:wg<B):Bb γ 1 B #[ff .disable,cp ⟨wg,o,none⟩,fu ⟨wg,o,none⟩,ff .enable]:=fun i e hi=>by
 have ak:=(Array.getElem?_eq_some_iff.1 hi).1;simp at ak
 obtain rfl|rfl|rfl|rfl:i=0∨i=1∨i=2∨i=3:=by omega
 ·simp at hi;subst hi
  exact⟨.inl rfl,trivial,nofun⟩
 ·simp at hi;subst hi
  exact⟨.inr ⟨⟨_,_,rfl,hs⟩,by simp[deafBehind]⟩,hB,nofun⟩
 ·simp at hi;subst hi
  exact⟨.inr ⟨⟨_,_,rfl,hs⟩,by simp[deafBehind]⟩,hB,nofun⟩
 ·simp at hi;subst hi
  exact⟨.inl rfl,trivial,nofun⟩
theorem Rv {a b:Addr}(h:a∈[b]):b=a:=(by simpa using h:a=b).symm
theorem Rw {a b:Nat}(h:a∈[b,b]):b=a:=(by simpa using h:a=b).symm
theorem JQ {a b:Addr}(h:a∈[b,b]):b=a:=(by simpa using h:a=b).symm
theorem Tn {P:Program}{g7 g8 g8' g9 g9' WN WO:Goroutine}(m7:mute P 103 g7=true)(a7:aR P 103 g7=g8)(v8:bF P (.int .u64 1) none g8=some ⟨g8',#[cp ⟨p.wg,0,none⟩],[⟨p.wg,0,none⟩],[],none⟩)
  (m8:mute P 20 g8'=true) (a8:aR P 20 g8'=g9) (v9:bF P (.int .u64 1) none g9=some ⟨g9',#[fu ⟨p.wg,0,none⟩],[⟨p.wg,0,none⟩],[],some (⟨p.wg,0,none⟩,.int .u64 0)⟩)
  (m9:mute P 27 g9'=true) (a9:aR P 27 g9'=WN) (v10:bF P (.int .u32 0) none WN=some ⟨WO,#[ff .disable,cp ⟨p.wg,1,none⟩,fu ⟨p.wg,1,none⟩,ff .enable],[⟨p.wg,1,none⟩,⟨p.wg,1,none⟩],[],some (⟨p.wg,1,none⟩,.int .u32 1)⟩)
  (mw:mayWake P WN=true) (mr:WO.status= .running) (mq:quits P 30 1 WO=true) (hk:1≤k) (hl:γ.wm= .la k) (hp:γ.ph=some p):WP (sys P) k 1 γ w g7:=by
 have lv:∀{ai:Gh} {w':World},RR k γ w ai w'→ai.wm= .la k∧ai.ph=some p:=fun hR=>by
  have kp:=k9 hk hR (k_ hl);exact⟨kp.la.2 hl,kp.ph.trans hp⟩
 refine WP.mute (n:=103) m7 (qg hk (k_ hl)) fun γ1 w1 h1=>?_;rw[a7];obtain⟨l1,p1⟩:=lv h1;refine .vm (vS v8).1 (qg hk (k_ l1)) fun dM w2 tr j h2 hJ hd kj=>?_;have WQ:=k9 hk h2 (k_ l1);have l2:=WQ.la.2 l1;have p2:=WQ.ph.trans p1;have x2:=hJ.phase p p2;have cU:w2.heap[p.wg]?=some (di p.eW 1 0):=by have:=x2.wg;rw[l2]at this;exact this
 obtain⟨q1,q2⟩:=JO (fn:=g8.frame.fn) (pos:=g8.frame.place) (es:= #[cp ⟨p.wg,0,none⟩]) hJ hk kj (by rw[hd];exact aab x2.sh (hJ.dL _ x2.sh))
 refine⟨_,_,_,dM,v8,fun a ha=>(Rv ha)▸kF cU,fun r hr=>(by cases hr),q1,q2,fun _ e=>(by rw[l2]at e;cases e),?_⟩
 refine WP.mute (n:=20) m8 (qg hk (k_ l2)) fun nO w3 h3=>?_;rw[a8];have JR:=k9 hk h3 (k_ l2);have l3:=JR.la.2 l2;have p3:=JR.ph.trans p2;refine .vm (vS v9).1 (qg hk (k_ l3)) fun hY w4 tr4 j4 h4 nP To kj4=>?_;have kp4:=k9 hk h4 (k_ l3);have l4:=kp4.la.2 l3;have p4:=kp4.ph.trans p3;have x4:=nP.phase p p4;have fC:w4.heap[p.wg]?=some (di p.eW 1 0):=by have:=x4.wg;rw[l4]at this;exact this
 have acU:Deaf tr4 k=1:=To
 obtain⟨r1,r2⟩:=WH (w1:=w4.setCell ⟨p.wg,0,none⟩ (.int .u64 0)) (fn:=g9.frame.fn) (pos:=g9.frame.place) (es:= #[fu ⟨p.wg,0,none⟩]) nP p4 l4 ⟨rfl,rfl,rfl⟩ cA kr (xF fC 0) (by rw[acU];exact aac x4.sh (nP.dL _ x4.sh))
 refine⟨_,_,_,_,v9,fun a ha=>(Rv ha)▸kF fC,fun r hr=>(by cases hr),r1,r2,fun _ e=>(by cases e),?_⟩
 have l5:(hY.gC hY.st (.lb k)).wm= .lb k:=rfl
 refine WP.mute (n:=27) m9 (qg hk (tO l5)) fun xG w6 h6=>?_;rw[a9];have WS:=k9 hk h6 (tO l5);have l6:=WS.lb.2 l5;have p6:xG.ph=some p:=WS.ph.trans p4
 refine .vm (vS v10).1 (qg hk (tO l6)) fun Em w7 tr7 j7 h7 En hd7 kj7=>?_;have WT:=k9 hk h7 (tO l6);have l7:=WT.lb.2 l6;have p7:=WT.ph.trans p6;have x7:=En.phase p p7;have WU:w7.heap[p.wg]?=some (di p.eW 0 0):=by have:=x7.wg;rw[l7]at this;exact this
 have acV:Deaf tr7 k=1:=hd7
 obtain⟨s1,s2⟩:=Z9 (w1:=w7.setCell ⟨p.wg,1,none⟩ (.int .u32 1)) (fn:=WN.frame.fn) (pos:=WN.frame.place) (es:= #[ff .disable,cp ⟨p.wg,1,none⟩,fu ⟨p.wg,1,none⟩,ff .enable]) En p7 l7 ⟨rfl,rfl,rfl⟩ cA kr (JP WU 1) (by rw[acV];exact WL x7.sh (En.dL _ x7.sh))
 refine⟨_,_,_,_,v10,fun a ha=>(JQ ha)▸zf WU,fun r hr=>(by cases hr),s1,s2,fun _ _=>⟨mw,mr⟩,?_⟩
 obtain⟨_,_,_,c4⟩:=x7.la k (.inr l7);refine .quit 30 (qZ mq) fun iz w8 h8=>?_;exact(lS hk h8).gone.1 ⟨c4,nofun,nofun⟩
theorem Tp {P:Program}{g0 g1 g2 g3 g4 g5 g6:Goroutine}{g7:Int→Goroutine}{eW:TypeId}(m0:mute P 16 g0=true)(a0:aR P 16 g0=g1)(v1:bF P undef (some (eW,2)) g1=some ⟨g2,#[],[],[p.wg,p.wg],none⟩)
  (q2:cn P g2=some (g3,#[ff (.releaseMerge ⟨p.wg,0,none⟩)])) (m3:mute P 3 g3=true) (a3:aR P 3 g3=g4) (q4:cn P g4=some (g5,#[ff .disable])) (m5:mute P 34 g5=true) (a5:aR P 34 g5=g6)
  (v6:∀(v:Nat) (wm:WM),1≤v→v≤5→wm= .op∨wm= .reg→bF P (.int .u64 (bo wm v)) none g6=some ⟨g7 (bo wm v-bW),#[cp ⟨p.wg,0,none⟩,fu ⟨p.wg,0,none⟩],[⟨p.wg,0,none⟩,⟨p.wg,0,none⟩],[],some (⟨p.wg,0,none⟩,.int .u64 (bo wm v-bW))⟩)
  (q7:∀(v:Nat) (wm:WM),1≤v→v≤5→wm= .op∨(wm= .reg∧v≠1)→quits P 110 1 (g7 (bo wm v-bW))=true) (nh:∀(γ:Gh) (w:World),γ.wm= .la k→γ.ph=some p→WP (sys P) k 1 γ w (g7 (bo .reg 1-bW)))
  (he:p.eW=eW) (hp:γ.ph=some p) (hk:p.j0<k) (hb:γ.st k= .busy) (hc:∀c,c<5→w.cell? ⟨p.A,5*(k-p.j0-1)+c,none⟩=some (p.o8 (k-p.j0-1) c)):WP (sys P) k 0 γ w g0:=by
 have k1:1≤k:=by omega
 have lb:=qh hb (by decide:lE.busy≠.off)
 have slot:∀{γ ai:Gh} {w w':World},γ.ph=some p→RR k γ w ai w'→¬γ.Gone k→(∀c,c<5→w.cell? ⟨p.A,5*(k-p.j0-1)+c,none⟩=some (p.o8 (k-p.j0-1) c))→∀c,c<5→w'.cell? ⟨p.A,5*(k-p.j0-1)+c,none⟩=some (p.o8 (k-p.j0-1) c):=by
  intro γ ai w w' hp hR hg h c hc;obtain⟨_,_,_,_,_,_,_,h8⟩:=(lS k1 hR).live hg;rw[h8 _ ⟨p,hp,hk,rfl,by show _≤5*(k-p.j0-1)+c;omega,by show 5*(k-p.j0-1)+c<_;omega⟩]
  exact h c hc
 refine WP.mute (n:=16) m0 (qg k1 lb) fun γ1 w1 h1=>?_;rw[a0];have kp1:=k9 k1 h1 lb;have b1:=kp1.st.trans hb;have p1:=kp1.ph.trans hp;have c1:=slot hp h1 lb hc;have lb1:=qh b1 (by decide:lE.busy≠.off)
 refine .vm (vS v1).1 (qg k1 lb1) fun dM w2 t2 j2 h2 pS zg kj2=>?_;have WQ:=k9 k1 h2 lb1;have b2:=WQ.st.trans b1;have p2:=WQ.ph.trans p1;have c2:=slot p1 h2 lb1 c1;have lb2:=qh b2 (by decide:lE.busy≠.off)
 have x2:=pS.phase p p2;refine⟨_,_,_,dM,v1,fun a ha=>(by cases ha),fun r hr=>?_,?_,fun k' _=>(sys P).refl k' dM w2,fun e e'=>absurd e' e,?_⟩
 ·have:p.wg=r:=Rw hr
  rw[←this,←he];exact qi x2.wg
 ·show JJ dM w2 (t2++MemOp.ofEvents k g1.frame.fn g1.frame.place #[]) j2
  rw[G_,Array.append_empty];exact pS
 refine .said q2 (qg k1 lb2) fun nO w3 t3 j3 h3 hJ3 hd3 kj3=>?_;have JR:=k9 k1 h3 lb2;have b3:=JR.st.trans b2;have p3:=JR.ph.trans p2;have c3:=slot p2 h3 lb2 c2;have acW:Deaf t3 k=0:=hd3
 obtain⟨r1,r2⟩:=OG (fn:=g2.frame.fn) (pos:=g2.frame.place) hJ3 p3 hk kj3 b3 acW c3;refine⟨_,r1,r2,fun e=>e,?_⟩
 have b4:({nO with st:=fun i=>if i=k then .said else nO.st i}:Gh).st k= .said:=if_pos rfl
 have lb4:=qh b4 (by decide:lE.said≠.off)
 refine WP.mute (n:=3) m3 (qg k1 lb4) fun zh w5 h5=>?_;rw[a3];have kp5:=k9 k1 h5 lb4;have b5:=kp5.st.trans b4;have p5:zh.ph=some p:=kp5.ph.trans p3
 have lb5:=qh b5 (by decide:lE.said≠.off)
 refine .said q4 (qg k1 lb5) fun xG w6 t6 j6 h6 hJ6 hd6 kj6=>?_;have WS:=k9 k1 h6 lb5;have b6:=WS.st.trans b5;have p6:=WS.ph.trans p5;have lb6:=qh b6 (by decide:lE.said≠.off)
 obtain⟨s1,s2⟩:=JO (fn:=g4.frame.fn) (pos:=g4.frame.place) (es:= #[ff .disable]) hJ6 k1 kj6 (OH fun e he=>by simp at he;subst he;rfl)
 refine⟨_,s1,s2,fun e=>e,?_⟩
 refine WP.mute (n:=34) m5 (qg k1 lb6) fun Em w7 h7=>?_;rw[a5];have WT:=k9 k1 h7 lb6;have b7:=WT.st.trans b6;have p7:=WT.ph.trans p6;have lb7:=qh b7 (by decide:lE.said≠.off)
 refine .vm (vS (v6 1 .op (by omega) (by omega) (.inl rfl))).1 (qg k1 lb7) fun iz w8 t8 j8 h8 JS hd8 kj8=>?_
 have kp8:=k9 k1 h8 lb7;have b8:=kp8.st.trans b7;have p8:=kp8.ph.trans p7;have x8:=JS.phase p p8;have vi:iz.st k≠.off:=by rw[b8];decide
 have hv:=(WG JS p8 hk kj8 vi .op).1;have bf:iz.wm= .op∨iz.wm= .reg:=by
  cases e:iz.wm with
  |op=>exact .inl rfl
  |reg=>exact .inr rfl
  |la i=>have:=(x8.la i (.inl e)).1;omega
  |lb i=>have:=(x8.la i (.inr e)).1;omega
  |rel=>have:=x8.rel e;omega
 have v5:iz.v p≤5:=by
  have h5:=BG (st:=iz.st) (j0:=p.j0) (m:=iz.j-p.j0);have h6:=x8.jn;have h7:=x8.n5;unfold Gh.v;omega
 have q_:Cs iz.wm=0:=by rcases bf with e|e<;>rw[e]<;>rfl
 have hw8:=x8.wg;rw[q_]at hw8;have acX:Deaf t8 k=1:=hd8
 obtain⟨_,_,u1,u2⟩:=abY (w1:=w8.setCell ⟨p.wg,0,none⟩ (.int .u64 (bo iz.wm (iz.v p)-bW))) (fn:=g6.frame.fn) (pos:=g6.frame.place) (es:= #[cp ⟨p.wg,0,none⟩,fu ⟨p.wg,0,none⟩]) JS p8 hk kj8 b8 ⟨rfl,rfl,rfl⟩ cA kr (xF hw8 _) (by rw[acX];exact aad x8.sh (JS.dL _ x8.sh))
 refine⟨_,_,_,_,v6 _ _ (by omega) v5 bf,fun a ha=>(JQ ha)▸kF hw8,fun r hr=>(by cases hr),u1,u2,fun _ e=>?_,?_⟩
 ·have e':(if iz.wm= .reg∧iz.v p=1 then WM.la k else iz.wm)= .rel:=e
  split at e'
  ·cases e'
  ·rcases bf with e2|e2<;>rw[e2]at e'<;>cases e'
 ·by_cases Tq:iz.wm= .reg∧iz.v p=1
  ·have Hh:=nh (iz.gC (oy iz k) (if iz.wm= .reg∧iz.v p=1 then WM.la k else iz.wm)) (w8.setCell ⟨p.wg,0,none⟩ (.int .u64 (bo iz.wm (iz.v p)-bW))) (if_pos Tq) p8
   have e9:bo WM.reg 1-bW=bo iz.wm (iz.v p)-bW:=by rw[Tq.1,Tq.2]
   rw[e9]at Hh;exact Hh
  ·have hq:=q7 (iz.v p) iz.wm (by omega) v5 (by
    rcases bf with e|e
    ·exact .inl e
    ·exact .inr ⟨e,fun h=>Tq ⟨e,h⟩⟩)
   refine .quit 110 (qZ hq) fun WW w9 h9=>?_;refine(lS k1 h9).gone.1 ⟨if_pos rfl,?_,?_⟩
   ·show(if iz.wm= .reg∧iz.v p=1 then WM.la k else iz.wm)≠_
    rw[if_neg Tq];rcases bf with e|e<;>rw[e]<;>nofun
   ·show(if iz.wm= .reg∧iz.v p=1 then WM.la k else iz.wm)≠_
    rw[if_neg Tq];rcases bf with e|e<;>rw[e]<;>nofun
end
end Go.Proofs.YtabjbdnokpjipaaGreat.Sr
namespace Go.Proofs.YtabjbdnokpjipaaGreat.Sr
open Go Go.Conc Go.ConcN
theorem JU:bo .op 1=4294967296:=by simp[bo,bW]
theorem Fp:bo .reg 1=4294967297:=by simp[bo,bW]
theorem Fq:bo .op 1-bW=0:=by rw[JU];simp[bW]
theorem Ct:bo .reg 1-bW=1:=by rw[Fp];simp[bW]
theorem JV:bo .op 2=8589934592:=by simp[bo,bW]
theorem Fs:bo .reg 2=8589934593:=by simp[bo,bW]
theorem Ft:bo .op 2-bW=4294967296:=by rw[JV];simp[bW]
theorem Cu:bo .reg 2-bW=4294967297:=by rw[Fs];simp[bW]
theorem JW:bo .op 3=12884901888:=by simp[bo,bW]
theorem Fu:bo .reg 3=12884901889:=by simp[bo,bW]
theorem Fv:bo .op 3-bW=8589934592:=by rw[JW];simp[bW]
theorem Cv:bo .reg 3-bW=8589934593:=by rw[Fu];simp[bW]
theorem JX:bo .op 4=17179869184:=by simp[bo,bW]
theorem Fw:bo .reg 4=17179869185:=by simp[bo,bW]
theorem Fx:bo .op 4-bW=12884901888:=by rw[JX];simp[bW]
theorem Cw:bo .reg 4-bW=12884901889:=by rw[Fw];simp[bW]
theorem JY:bo .op 5=21474836480:=by simp[bo,bW]
theorem Fy:bo .reg 5=21474836481:=by simp[bo,bW]
theorem FA:bo .op 5-bW=17179869184:=by rw[JY];simp[bW]
theorem Cx:bo .reg 5-bW=17179869185:=by rw[Fy];simp[bW]
section
variable {k:Nat}{γ:Gh}{w:World}{p:Ph}(t:Array Value)
theorem OI (v:Nat)(wm:WM)(h1:1≤v)(h2:v≤5)(h:wm= .op∨wm= .reg):
  bF Tryz.prog (.int .u64 (bo wm v)) none (AZ Tryz.prog p.wg t)=some ⟨om Tryz.prog p.wg t (bo wm v-bW),#[cp ⟨p.wg,0,none⟩,fu ⟨p.wg,0,none⟩],[⟨p.wg,0,none⟩,⟨p.wg,0,none⟩],[],some (⟨p.wg,0,none⟩,.int .u64 (bo wm v-bW))⟩:=by
 obtain rfl|rfl|rfl|rfl|rfl:v=1∨v=2∨v=3∨v=4∨v=5:=by omega
 ·rcases h with rfl|rfl
  ·rw[Fq,JU];exact GX p.wg t
  ·rw[Ct,Fp];exact GY p.wg t
 ·rcases h with rfl|rfl
  ·rw[Ft,JV];exact GZ p.wg t
  ·rw[Cu,Fs];exact G0 p.wg t
 ·rcases h with rfl|rfl
  ·rw[Fv,JW];exact G1 p.wg t
  ·rw[Cv,Fu];exact G2 p.wg t
 ·rcases h with rfl|rfl
  ·rw[Fx,JX];exact G3 p.wg t
  ·rw[Cw,Fw];exact G4 p.wg t
 ·rcases h with rfl|rfl
  ·rw[FA,JY];exact G5 p.wg t
  ·rw[Cx,Fy];exact G6 p.wg t
theorem JZ (v:Nat)(wm:WM)(h1:1≤v)(h2:v≤5)(h:wm= .op∨(wm= .reg∧v≠1)):quits Tryz.prog 110 1 (om Tryz.prog p.wg t (bo wm v-bW))=true:=by
 obtain rfl|rfl|rfl|rfl|rfl:v=1∨v=2∨v=3∨v=4∨v=5:=by omega
 ·rcases h with rfl|⟨rfl,h⟩
  ·rw[Fq];exact Cd p.wg t
  ·exact absurd rfl h
 ·rcases h with rfl|⟨rfl,h⟩
  ·rw[Ft];exact Ce p.wg t
  ·rw[Cu];exact Cf p.wg t
 ·rcases h with rfl|⟨rfl,h⟩
  ·rw[Fv];exact Cg p.wg t
  ·rw[Cv];exact Ch p.wg t
 ·rcases h with rfl|⟨rfl,h⟩
  ·rw[Fx];exact Ci p.wg t
  ·rw[Cw];exact Cj p.wg t
 ·rcases h with rfl|⟨rfl,h⟩
  ·rw[FA];exact Ck p.wg t
  ·rw[Cx];exact Cl p.wg t
theorem OJ (he:p.eW=181)(hp:γ.ph=some p)(hk:p.j0<k)(hb:γ.st k= .busy)(hc:∀c,c<5→w.cell? ⟨p.A,5*(k-p.j0-1)+c,none⟩=some (p.o8 (k-p.j0-1) c)):WP (sys Tryz.prog) k 0 γ w (ZZ Tryz.prog p.wg t):=
 Tp (SN p.wg t) rfl (SV p.wg t) (Wr p.wg t) (SO p.wg t) rfl (Ws p.wg t) (SP p.wg t) rfl (OI t) (JZ t)
  (fun γ w hl bw=>by
   rw[Ct];exact Tn (SQ p.wg t) rfl (SW p.wg t) (SS p.wg t) rfl (OD p.wg t) (SU p.wg t) rfl (SX p.wg t) (JC p.wg t) rfl (JB p.wg t) (by omega) hl bw) he hp hk hb hc
end
end Go.Proofs.YtabjbdnokpjipaaGreat.Sr
