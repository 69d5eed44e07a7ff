/-
What is proved: a machine of many goroutines, each of which makes its way whatever and what rests on it. Conditions: as stated.
-/
import Derived.Test.YtlhohdjniaebbaaGreatProg
import Derived.Conc.Beside
import Derived.Conc.Crowd
import Derived.Conc.CrowdTrace
import Derived.Conc.CrowdBase
set_option linter.unusedVariables false
set_option linter.unusedSimpArgs false
namespace Go.Proofs.YtlhohdjniaebbaaGreat.Sr
open Go Go.Conc
inductive Tr:Type 1
 |mk (ι:Type) (f:ι→Tr)
inductive Tr.Lt:Tr→Tr→Prop
 |mk {ι:Type} (f:ι→Tr) (i:ι):Tr.Lt (f i) (.mk ι f)
theorem Tr.acc:∀t:Tr,Acc Tr.Lt t
 | .mk ι f=>⟨_,fun y h=>by cases h with|mk _ i=>exact Tr.acc (f i)⟩
def Tr.nat:Nat→Tr
 |0=> .mk Empty nofun
 |n+1=> .mk Unit fun _=>Tr.nat n
theorem Tr.V_ (n:Nat):Tr.Lt (Tr.nat n) (Tr.nat (n+1)):= .mk (fun _=>Tr.nat n) ()
def KI (j:Nat)(f g:Nat→Tr):Prop:=∃k,k<j∧Tr.Lt (f k) (g k)∧∀i,i≠k→f i=g i
theorem KI.acc:∀(j:Nat) (f:Nat→Tr),Acc (KI j) f
 |0,f=>⟨_,fun g ⟨k,hk,_⟩=>by omega⟩
 |j+1,f=>by
  have key:∀x:Tr,Acc Tr.Lt x→∀f:Nat→Tr,f j=x→Acc (KI (j+1)) f:=by
   intro x hx;induction hx with
   |intro x _ Dc=>
    intro f;induction KI.acc j f with
    |intro f _ ye=>
     intro e;refine⟨_,fun g ⟨k,hk,aj,hs⟩=>?_⟩
     by_cases V':k=j
     ·subst V'
      exact Dc (g k) (e▸aj) g rfl
     ·exact ye g ⟨k,by omega,aj,hs⟩ ((hs j (Ne.symm V')).trans e)
  exact key (f j) (Tr.acc _) f rfl
structure Sys (P:Program) (Γ:Type)where
 J:Γ→World→Trace→Nat→Prop
 R:Nat→Γ→World→Γ→World→Prop
 Bl:Γ→World→Prop
 Gone:Γ→Nat→Prop
 refl:∀k γ w,R k γ w γ w
 trans:∀{k a u b v c w},R k a u b v→R k b v c w→R k a u c w
 Sz:∀{γ w t j} (d:Nat),J γ w t j→J γ (w.at d) t j
 yI:∀(k γ w) (d:Nat),R k γ w γ (w.at d)
 NQ:∀(γ w) (d:Nat),Bl γ (w.at d)↔Bl γ w
 NR:∀{γ w t j},J γ w t j→∀(i:Nat) (op:MemOp),t[i]?=some op→op.g≤j
 mute:∀{γ w t j k} (fn:FuncId) (pos:String) (es:Array Event),J γ w t j→Gone γ k→1≤k→k≤j→(∀e∈es,e.mute=true)→J γ w (t++MemOp.ofEvents k fn pos es) j
structure Nx (Γ:Type)where
 g:Goroutine
 w:World
 es:Array Event
 γ:Γ
structure Ny (Γ:Type) extends Nx Γ where
 c:Goroutine
section
variable {P:Program}{Γ:Type}(S:Sys P Γ)
structure oq (k:Nat) (main:Bool) (γ:Γ) (w:World) (t:Trace) (j:Nat) (g:Goroutine) (x:Nx Γ):Prop where
 go:stepG P main g w= .go x.g x.w x.es
 inv:S.J x.γ x.w (t++MemOp.ofEvents k g.frame.fn g.frame.place x.es) j
 SA:∀k',k'≠k→S.R k' γ w x.γ x.w
structure FN (γ:Γ) (w:World) (t:Trace) (j:Nat) (g:Goroutine) (x:Ny Γ):Prop where
 go:stepG P true g w= .spawn x.g x.c x.w x.es
 inv:S.J x.γ x.w ((MemOp.ofEvents 0 g.frame.fn g.frame.place x.es).push {g:=0,fn:=g.frame.fn,pos:=g.frame.place,act:= .go (j+1)}|>.push {g:=j+1,fn:=x.c.frame.fn,pos:=g.frame.place,act:= .start} |>(t++·)) (j+1)
 SA:∀k',k'≠0→k'≤j→S.R k' γ w x.γ x.w
inductive WP (k:Nat):Nat→Γ→World→Goroutine→Prop
 |quit {d:Nat} {γ:Γ} {w:World} {g:Goroutine} (n:Nat) (h:QuitsD P n d g) (hg:∀ah w',S.R k γ w ah w'→S.Gone ah k):WP k d γ w g
 |step {d:Nat} {γ:Γ} {w:World} {g:Goroutine} (hs:g.status= .running) (hg:∀ah w',S.R k γ w ah w'→¬S.Gone ah k) (nx:Γ→World→Trace→Nat→Nx Γ)
   (h:∀ah w' t j,S.R k γ w ah w'→S.J ah w' t j→Deaf t k=d→k≤j→oq S k false ah w' t j g (nx ah w' t j)∧(S.Bl ah w'→¬S.Bl (nx ah w' t j).γ (nx ah w' t j).w→mayWake P g=true∧(nx ah w' t j).g.status= .running))
   (ih:∀ah w' t j,S.R k γ w ah w'→S.J ah w' t j→Deaf t k=d→k≤j→WP k (deafBehind d (nx ah w' t j).es) (nx ah w' t j).γ (nx ah w' t j).w (nx ah w' t j).g):WP k d γ w g
inductive xC (k:Nat):Tr→Nat→Γ→World→Goroutine→Prop
 |quit {d:Nat} {γ:Γ} {w:World} {g:Goroutine} (n:Nat) (h:QuitsD P n d g) (hg:∀ah w',S.R k γ w ah w'→S.Gone ah k):xC k (Tr.nat n) d γ w g
 |step {ρ:Tr} {d:Nat} {γ:Γ} {w:World} {g:Goroutine} (hs:g.status= .running) (hg:∀ah w',S.R k γ w ah w'→¬S.Gone ah k) (nx:Γ→World→Trace→Nat→Nx Γ) (eL:Γ→World→Trace→Nat→Tr)
   (h:∀ah w' t j,S.R k γ w ah w'→S.J ah w' t j→Deaf t k=d→k≤j→oq S k false ah w' t j g (nx ah w' t j)∧(S.Bl ah w'→¬S.Bl (nx ah w' t j).γ (nx ah w' t j).w→mayWake P g=true∧(nx ah w' t j).g.status= .running))
   (hr:∀ah w' t j,S.R k γ w ah w'→S.J ah w' t j→Deaf t k=d→k≤j→Tr.Lt (eL ah w' t j) ρ)
   (ih:∀ah w' t j,S.R k γ w ah w'→S.J ah w' t j→Deaf t k=d→k≤j→xC k (eL ah w' t j) (deafBehind d (nx ah w' t j).es) (nx ah w' t j).γ (nx ah w' t j).w (nx ah w' t j).g):xC k ρ d γ w g
variable {S}
theorem WP.Dd {k d:Nat}{γ:Γ}{w:World}{g:Goroutine}(h:WP S k d γ w g):∃ρ,xC S k ρ d γ w g:=by
 induction h with
 |quit n h hg=>exact⟨_,.quit n h hg⟩
 | @step d γ w g hs hg nx h _ ih=>
   let eL:Γ→World→Trace→Nat→Tr:=fun ah w' t j=>
    open Classical in if x:S.R k γ w ah w'∧S.J ah w' t j∧Deaf t k=d∧k≤j then(ih ah w' t j x.1 x.2.1 x.2.2.1 x.2.2.2).choose else Tr.nat 0
   refine⟨.mk (Γ×World×Trace×Nat) fun i=>eL i.1 i.2.1 i.2.2.1 i.2.2.2,.step hs hg nx eL h (fun ah w' t j h1 h2 h3 h4=> .mk (fun i:Γ×World×Trace×Nat=>eL i.1 i.2.1 i.2.2.1 i.2.2.2) (ah,w',t,j)) fun ah w' t j h1 h2 h3 h4=>?_⟩
   have x:S.R k γ w ah w'∧S.J ah w' t j∧Deaf t k=d∧k≤j:=⟨h1,h2,h3,h4⟩
   have e:eL ah w' t j=(ih ah w' t j h1 h2 h3 h4).choose:=dif_pos x
   rw[e];exact(ih ah w' t j h1 h2 h3 h4).choose_spec
theorem xC.rely {k d:Nat}{ρ:Tr}{γ ah:Γ}{w w':World}{g:Goroutine}(h:xC S k ρ d γ w g)(r:S.R k γ w ah w'):xC S k ρ d ah w' g:=by
 cases h with
 |quit n h hg=>exact .quit n h fun a b x=>hg a b (S.trans r x)
 |step hs hg nx eL h hr ih=>exact .step hs (fun a b x=>hg a b (S.trans r x)) nx eL (fun a b t j x=>h a b t j (S.trans r x)) (fun a b t j x=>hr a b t j (S.trans r x)) (fun a b t j x=>ih a b t j (S.trans r x))
theorem WP.rely {k d:Nat}{γ ah:Γ}{w w':World}{g:Goroutine}(h:WP S k d γ w g)(r:S.R k γ w ah w'):WP S k d ah w' g:=by
 cases h with
 |quit n h hg=>exact .quit n h fun a b x=>hg a b (S.trans r x)
 |step hs hg nx h ih=>exact .step hs (fun a b x=>hg a b (S.trans r x)) nx (fun a b t j x=>h a b t j (S.trans r x)) (fun a b t j x=>ih a b t j (S.trans r x))
theorem WP.mk {k d:Nat}{γ:Γ}{w:World}{g:Goroutine}(hs:g.status= .running)(hg:∀ah w',S.R k γ w ah w'→¬S.Gone ah k)
  (h:∀ah w' t j,S.R k γ w ah w'→S.J ah w' t j→Deaf t k=d→k≤j→∃x:Nx Γ,oq S k false ah w' t j g x∧(S.Bl ah w'→¬S.Bl x.γ x.w→mayWake P g=true∧x.g.status= .running)∧WP S k (deafBehind d x.es) x.γ x.w x.g):WP S k d γ w g:=by
 let nx:Γ→World→Trace→Nat→Nx Γ:=fun ah w' t j=>
  open Classical in if x:S.R k γ w ah w'∧S.J ah w' t j∧Deaf t k=d∧k≤j then(h ah w' t j x.1 x.2.1 x.2.2.1 x.2.2.2).choose else⟨g,w,#[],γ⟩
 have key:∀ah w' t j,S.R k γ w ah w'→S.J ah w' t j→Deaf t k=d→k≤j→oq S k false ah w' t j g (nx ah w' t j)∧(S.Bl ah w'→¬S.Bl (nx ah w' t j).γ (nx ah w' t j).w→mayWake P g=true∧(nx ah w' t j).g.status= .running)∧
   WP S k (deafBehind d (nx ah w' t j).es) (nx ah w' t j).γ (nx ah w' t j).w (nx ah w' t j).g:=by
  intro ah w' t j h1 h2 h3 h4;have x:S.R k γ w ah w'∧S.J ah w' t j∧Deaf t k=d∧k≤j:=⟨h1,h2,h3,h4⟩
  have e:nx ah w' t j=(h ah w' t j h1 h2 h3 h4).choose:=dif_pos x
  rw[e];exact(h ah w' t j h1 h2 h3 h4).choose_spec
 exact .step hs hg nx (fun ah w' t j h1 h2 h3 h4=>⟨(key ah w' t j h1 h2 h3 h4).1,(key ah w' t j h1 h2 h3 h4).2.1⟩) fun ah w' t j h1 h2 h3 h4=>(key ah w' t j h1 h2 h3 h4).2.2
end
end Go.Proofs.YtlhohdjniaebbaaGreat.Sr
namespace Go.Proofs.YtlhohdjniaebbaaGreat.Sr
open Go Go.Conc
inductive Nz (Γ:Type)
 |go (x:Nx Γ) (b:Bool)
 |spawn (x:Ny Γ) (b:Bool)
 |fin (o:Outcome) (w:World) (es:Array Event)
section
variable {P:Program}{Γ:Type}(S:Sys P Γ)(Q:Γ→World→Trace→Nat→Outcome→World→Prop)
def Wa (γ:Γ)(w:World)(t:Trace)(j:Nat)(g:Goroutine):Nz Γ→Prop
 | .go x _=>oq S 0 true γ w t j g x
 | .spawn x _=>FN S γ w t j g x∧WP S (j+1) 0 x.γ x.w x.c
 | .fin o w1 es=>stepG P true g w= .ended o w1 es∧Q γ w (t++MemOp.ofEvents 0 g.frame.fn g.frame.place es) j o w1
def Df (γ:Γ)(w:World)(j:Nat)(g:Goroutine):Prop:=stepG P true g w= .go {g with status:= .blocked} w #[]∧∃k,1≤k∧k≤j∧¬S.Gone γ k
inductive MP:Bool→Nat→Γ→World→Goroutine→Prop
 |step {d:Nat} {γ:Γ} {w:World} {g:Goroutine} (b:Bool) (hs:g.status= .running) (ho:b=true→g.offers=none) (nx:Γ→World→Trace→Nat→Nz Γ)
   (h:∀ah w' t j,S.R 0 γ w ah w'→S.J ah w' t j→Deaf t 0=d→(b=true→¬S.Bl ah w')→Wa S Q ah w' t j g (nx ah w' t j))
   (hw:b=true→∀ah w' t j,S.R 0 γ w ah w'→S.J ah w' t j→Deaf t 0=d→S.Bl ah w'→Df S ah w' j g)
   (i1:∀ah w' t j,S.R 0 γ w ah w'→S.J ah w' t j→Deaf t 0=d→(b=true→¬S.Bl ah w')→∀x b',nx ah w' t j= .go x b'→MP b' (deafBehind d x.es) x.γ x.w x.g)
   (i2:∀ah w' t j,S.R 0 γ w ah w'→S.J ah w' t j→Deaf t 0=d→(b=true→¬S.Bl ah w')→∀x b',nx ah w' t j= .spawn x b'→MP b' (deafBehind d x.es) x.γ x.w x.g):MP b d γ w g
inductive tO:Tr→Bool→Nat→Γ→World→Goroutine→Prop
 |step {ρ:Tr} {d:Nat} {γ:Γ} {w:World} {g:Goroutine} (b:Bool) (hs:g.status= .running) (ho:b=true→g.offers=none) (nx:Γ→World→Trace→Nat→Nz Γ) (eL:Γ→World→Trace→Nat→Tr)
   (h:∀ah w' t j,S.R 0 γ w ah w'→S.J ah w' t j→Deaf t 0=d→(b=true→¬S.Bl ah w')→Wa S Q ah w' t j g (nx ah w' t j))
   (hw:b=true→∀ah w' t j,S.R 0 γ w ah w'→S.J ah w' t j→Deaf t 0=d→S.Bl ah w'→Df S ah w' j g)
   (hr:∀ah w' t j,Tr.Lt (eL ah w' t j) ρ)
   (i1:∀ah w' t j,S.R 0 γ w ah w'→S.J ah w' t j→Deaf t 0=d→(b=true→¬S.Bl ah w')→∀x b',nx ah w' t j= .go x b'→tO (eL ah w' t j) b' (deafBehind d x.es) x.γ x.w x.g)
   (i2:∀ah w' t j,S.R 0 γ w ah w'→S.J ah w' t j→Deaf t 0=d→(b=true→¬S.Bl ah w')→∀x b',nx ah w' t j= .spawn x b'→tO (eL ah w' t j) b' (deafBehind d x.es) x.γ x.w x.g):tO ρ b d γ w g
variable {S Q}
theorem MP.Dd {b:Bool}{d:Nat}{γ:Γ}{w:World}{g:Goroutine}(h:MP S Q b d γ w g):∃ρ,tO S Q ρ b d γ w g:=by
 induction h with
 | @step d γ w g b hs ho nx h hw _ _ Dc ye=>
   have key:∀i:Γ×World×Trace×Nat,∃ρ,(S.R 0 γ w i.1 i.2.1→S.J i.1 i.2.1 i.2.2.1 i.2.2.2→Deaf i.2.2.1 0=d→(b=true→¬S.Bl i.1 i.2.1)→
     (∀x b',nx i.1 i.2.1 i.2.2.1 i.2.2.2= .go x b'→tO S Q ρ b' (deafBehind d x.es) x.γ x.w x.g)∧∀x b',nx i.1 i.2.1 i.2.2.1 i.2.2.2= .spawn x b'→tO S Q ρ b' (deafBehind d x.es) x.γ x.w x.g):=by
    rintro⟨ah,w',t,j⟩;by_cases hh:S.R 0 γ w ah w'∧S.J ah w' t j∧Deaf t 0=d∧(b=true→¬S.Bl ah w')
    ·cases hn:nx ah w' t j with
     |go x b'=>
      obtain⟨ρ,dk⟩:=Dc ah w' t j hh.1 hh.2.1 hh.2.2.1 hh.2.2.2 x b' hn;exact⟨ρ,fun _ _ _ _=>⟨fun y c e=>(by cases e;exact dk),fun y c e=>(by cases e)⟩⟩
     |spawn x b'=>
      obtain⟨ρ,dk⟩:=ye ah w' t j hh.1 hh.2.1 hh.2.2.1 hh.2.2.2 x b' hn;exact⟨ρ,fun _ _ _ _=>⟨fun y c e=>(by cases e),fun y c e=>(by cases e;exact dk)⟩⟩
     |fin o w1 es=>exact⟨Tr.nat 0,fun _ _ _ _=>⟨fun y c e=>(by cases e),fun y c e=>(by cases e)⟩⟩
    ·exact⟨Tr.nat 0,fun a b c d=>absurd ⟨a,b,c,d⟩ hh⟩
   refine⟨.mk (Γ×World×Trace×Nat) fun i=>(key i).choose,.step b hs ho nx (fun ah w' t j=>(key (ah,w',t,j)).choose) h hw (fun ah w' t j=> .mk (fun i=>(key i).choose) (ah,w',t,j)) (fun ah w' t j a1 a2 a3 a4=>((key (ah,w',t,j)).choose_spec a1 a2 a3 a4).1) fun ah w' t j a1 a2 a3 a4=>((key (ah,w',t,j)).choose_spec a1 a2 a3 a4).2⟩
theorem tO.rely {ρ:Tr}{b:Bool}{d:Nat}{γ ah:Γ}{w w':World}{g:Goroutine}(h:tO S Q ρ b d γ w g)(r:S.R 0 γ w ah w'):tO S Q ρ b d ah w' g:=by
 cases h with
 |step b hs ho nx eL h hw hr i1 i2=>
  exact .step b hs ho nx eL (fun a c t j x=>h a c t j (S.trans r x)) (fun e a c t j x=>hw e a c t j (S.trans r x)) hr (fun a c t j x=>i1 a c t j (S.trans r x)) (fun a c t j x=>i2 a c t j (S.trans r x))
theorem MP.rely {b:Bool}{d:Nat}{γ ah:Γ}{w w':World}{g:Goroutine}(h:MP S Q b d γ w g)(r:S.R 0 γ w ah w'):MP S Q b d ah w' g:=by
 cases h with
 |step b hs ho nx h hw i1 i2=>
  exact .step b hs ho nx (fun a c t j x=>h a c t j (S.trans r x)) (fun e a c t j x=>hw e a c t j (S.trans r x)) (fun a c t j x=>i1 a c t j (S.trans r x)) (fun a c t j x=>i2 a c t j (S.trans r x))
theorem MP.mk {b:Bool}{d:Nat}{γ:Γ}{w:World}{g:Goroutine}(hs:g.status= .running)(ho:b=true→g.offers=none)
  (hw:b=true→∀ah w' t j,S.R 0 γ w ah w'→S.J ah w' t j→Deaf t 0=d→S.Bl ah w'→Df S ah w' j g)
  (h:∀ah w' t j,S.R 0 γ w ah w'→S.J ah w' t j→Deaf t 0=d→(b=true→¬S.Bl ah w')→∃z:Nz Γ,Wa S Q ah w' t j g z∧(∀x b',z= .go x b'→MP S Q b' (deafBehind d x.es) x.γ x.w x.g)∧∀x b',z= .spawn x b'→MP S Q b' (deafBehind d x.es) x.γ x.w x.g):MP S Q b d γ w g:=by
 have key:∀i:Γ×World×Trace×Nat,∃z:Nz Γ,S.R 0 γ w i.1 i.2.1→S.J i.1 i.2.1 i.2.2.1 i.2.2.2→Deaf i.2.2.1 0=d→(b=true→¬S.Bl i.1 i.2.1)→
   (Wa S Q i.1 i.2.1 i.2.2.1 i.2.2.2 g z∧(∀x b',z= .go x b'→MP S Q b' (deafBehind d x.es) x.γ x.w x.g)∧∀x b',z= .spawn x b'→MP S Q b' (deafBehind d x.es) x.γ x.w x.g):=by
  rintro⟨ah,w',t,j⟩;by_cases hh:S.R 0 γ w ah w'∧S.J ah w' t j∧Deaf t 0=d∧(b=true→¬S.Bl ah w')
  ·obtain⟨z,hz⟩:=h ah w' t j hh.1 hh.2.1 hh.2.2.1 hh.2.2.2
   exact⟨z,fun _ _ _ _=>hz⟩
  ·exact⟨.fin (.exit 0) w #[],fun a1 a2 a3 a4=>absurd ⟨a1,a2,a3,a4⟩ hh⟩
 exact .step b hs ho (fun ah w' t j=>(key (ah,w',t,j)).choose) (fun ah w' t j a1 a2 a3 a4=>((key (ah,w',t,j)).choose_spec a1 a2 a3 a4).1) hw
  (fun ah w' t j a1 a2 a3 a4=>((key (ah,w',t,j)).choose_spec a1 a2 a3 a4).2.1) (fun ah w' t j a1 a2 a3 a4=>((key (ah,w',t,j)).choose_spec a1 a2 a3 a4).2.2)
theorem MP.go {d:Nat}{γ:Γ}{w:World}{g:Goroutine}(hs:g.status= .running)
  (h:∀ah w' t j,S.R 0 γ w ah w'→S.J ah w' t j→Deaf t 0=d→∃(x:Nx Γ) (b':Bool),oq S 0 true ah w' t j g x∧MP S Q b' (deafBehind d x.es) x.γ x.w x.g):MP S Q false d γ w g:=
 .mk hs nofun nofun fun ah w' t j a1 a2 a3 _=>by
  obtain⟨x,b',h1,h2⟩:=h ah w' t j a1 a2 a3;exact⟨.go x b',h1,fun y c e=>(by cases e;exact h2),fun y c e=>(by cases e)⟩
def yJ (S:Sys P Γ)(Q:Γ→World→Trace→Nat→Outcome→World→Prop)(m:Machine)(t:Trace):Prop:=
 ∃M bM w' AK t' ah w2 j' o w1 ops,runNT P M m t=(.next (crowd bM w' AK),t')∧stepT P (crowd bM w' AK)=(.ended o w1,ops)∧Q ah w2 (t'++ops) j' o w1∧S.J ah w2 t' j'∧bM.size=j'+1∧
  ∀k,1≤k→k≤j'→∃x,bM[k]?=some x∧(S.Gone ah k→∃n,QuitsD P n (Deaf (t'++ops) k) x)
theorem yJ.next {m m':Machine}{t:Trace}{ops:Array MemOp}(h:stepT P m=(.next m',ops))(r:yJ S Q m' (t++ops)):yJ S Q m t:=by
 obtain⟨M,bM,w',AK,t',ah,w2,j',o,w1,tJ,h1,h2⟩:=r;refine⟨M+1,bM,w',AK,t',ah,w2,j',o,w1,tJ,?_,h2⟩;simp only[runNT,h];exact h1
end
end Go.Proofs.YtlhohdjniaebbaaGreat.Sr
namespace Go.Proofs.YtlhohdjniaebbaaGreat.Sr
open Go Go.Conc
section
variable {P:Program}{Γ:Type}(S:Sys P Γ)(Q:Γ→World→Trace→Nat→Outcome→World→Prop)
def ot (g:Goroutine):Bool→Goroutine
 |true=>g
 |false=>{g with status:= .blocked}
structure St (gs:Array Goroutine) (w:World) (t:Trace) (γ:Γ) (j:Nat) (lK:Tr) (eL:Nat→Tr) (b run:Bool) (g:Goroutine):Prop where
 size:gs.size=j+1
 inv:S.J γ w t j
 main:tO S Q lK b (Deaf t 0) γ w g
 Pw:gs[0]?=some (ot g run)
 blk:run=false→b=true∧S.Bl γ w
 wk:∀k,1≤k→k≤j→∃x,gs[k]?=some x∧xC S k (eL k) (Deaf t k) γ w x
variable {S Q}
theorem tO.run {ρ:Tr}{b:Bool}{d:Nat}{γ:Γ}{w:World}{g:Goroutine}(h:tO S Q ρ b d γ w g):g.status= .running∧(b=true→g.offers=none):=by
 cases h with
 |step _ hs ho=>exact⟨hs,ho⟩
theorem xC.status {k d:Nat}{ρ:Tr}{γ:Γ}{w:World}{g:Goroutine}(h:xC S k ρ d γ w g):g.status= .running∨g.status= .finished:=by
 cases h with
 |quit n h _=>exact h.status
 |step hs=>exact .inl hs
theorem mI {P:Program}{g g':Goroutine}{w':World}{o:Goroutine}(h:o.status= .running∨o.status= .finished):woken P g g' w' o=o:=by
 unfold woken;split
 ·exact again_running _ h
 ·rfl
variable {gs:Array Goroutine}{w:World}{t:Trace}{γ:Γ}{j:Nat}{lK:Tr}{eL:Nat→Tr}{b run:Bool}{g:Goroutine}
theorem St.draw (h:St S Q gs w t γ j lK eL b run g)(d:Nat):St S Q gs (w.at d) t γ j lK eL b run g:=
 ⟨h.size,S.Sz d h.inv,h.main.rely (S.yI _ _ _ d),h.Pw,fun e=>⟨(h.blk e).1,(S.NQ _ _ d).2 (h.blk e).2⟩,fun k k1 kj=>let⟨x,h1,h2⟩:=h.wk k k1 kj;⟨x,h1,h2.rely (S.yI _ _ _ d)⟩⟩
theorem dW {i:Nat}{fn:FuncId}{pos:String}{es:Array Event}:∀op∈MemOp.ofEvents i fn pos es,op.g=i:=by
 intro op aW;rw[ofEvents_eq]at aW;obtain⟨e,_,rfl⟩:=Array.mem_map.1 aW;rfl
theorem St.worker (h:St S Q gs w t γ j lK eL b run g){i:Nat}{x:Goroutine}(i1:1≤i)(hi:gs[i]?=some x)(hx:x.status= .running):
  ∃x' w' es ah rH run',stepG P false x w= .go x' w' es∧KI (j+1) rH eL∧St S Q ((gs.map (woken P x x' w')).setIfInBounds i x') w' (t++MemOp.ofEvents i x.frame.fn x.frame.place es) ah j lK rH b run' g:=by
 have pR:i≤j:=by have:=(Array.getElem?_eq_some_iff.1 hi).1;rw[h.size]at this;omega
 obtain⟨x2,Px,hw⟩:=h.wk i i1 pR;rw[hi]at Px;obtain rfl:=Option.some.inj Px
 obtain⟨SB,aaU⟩:=h.main.run;have fin:∀(x':Goroutine) (w':World) (es:Array Event) (ah:Γ) (ρ':Tr),stepG P false x w= .go x' w' es→Tr.Lt ρ' (eL i)→S.J ah w' (t++MemOp.ofEvents i x.frame.fn x.frame.place es) j→(∀k,k≠i→S.R k γ w ah w')→
   (S.Bl γ w→¬S.Bl ah w'→mayWake P x=true∧x'.status= .running)→xC S i ρ' (deafBehind (Deaf t i) es) ah w' x'→
   ∃x' w' es ah rH run',stepG P false x w= .go x' w' es∧KI (j+1) rH eL∧St S Q ((gs.map (woken P x x' w')).setIfInBounds i x') w' (t++MemOp.ofEvents i x.frame.fn x.frame.place es) ah j lK rH b run' g:=by
  intro x' w' es ah ρ' hgo aj hJ hR YX hW;let rH:Nat→Tr:=fun k=>if k=i then ρ' else eL k
  have e0:rH i=ρ':=if_pos rfl
  have e1:∀k,k≠i→rH k=eL k:=fun k hk=>if_neg hk
  have YY:∃run',woken P x x' w' (ot g run)=ot g run'∧(run'=false→run=false∧¬(mayWake P x=true∧x'.status= .running)):=by
   cases run with
   |true=>exact⟨true,mI (.inl SB),nofun⟩
   |false=>
    have hb:=(h.blk rfl).1;unfold woken;split
    ·refine⟨true,?_,nofun⟩
     have ho:=aaU hb;obtain⟨f,c,s,dd,o⟩:=g;dsimp only at SB ho
     subst SB ho;rfl
    ·rename_i hc
     refine⟨false,rfl,fun _=>⟨rfl,fun⟨c1,c2⟩=>hc ?_⟩⟩
     rw[c1,c2];rfl
  obtain⟨run',aG,fu⟩:=YY;refine⟨x',w',es,ah,rH,run',hgo,⟨i,by omega,by rw[e0];exact aj,e1⟩,by simp[h.size],hJ,?_,?_,fun e=>?_,fun k k1 kj=>?_⟩
  ·rw[Deaf_other t (by omega) _ dW]
   exact h.main.rely (hR 0 (by omega))
  ·rw[Array.getElem?_setIfInBounds_ne (by omega),Array.getElem?_map,h.Pw,Option.map_some,aG]
  ·obtain⟨r1,r2⟩:=fu e
   obtain⟨hb,AL⟩:=h.blk r1;exact⟨hb,Classical.byContradiction fun hn=>r2 (YX AL hn)⟩
  ·by_cases hk:k=i
   ·subst hk
    refine⟨x',by rw[Array.getElem?_setIfInBounds_self_of_lt (by simp[h.size];omega)],?_⟩
    rw[e0,Deaf_own];exact hW
   ·obtain⟨y,hy,pC⟩:=h.wk k k1 kj
    refine⟨y,by rw[Array.getElem?_setIfInBounds_ne (Ne.symm hk),Array.getElem?_map,hy,Option.map_some,mI pC.status],?_⟩
    rw[e1 k hk,Deaf_other t (Ne.symm hk) _ dW];exact pC.rely (hR k hk)
 generalize dk:eL i=ρ at hw fin
 cases hw with
 |quit n hq hg=>
  cases n with
  |zero=>rw[hq.1]at hx;cases hx
  |succ n=>
   rcases hq with⟨hf,_⟩|⟨_,x',es,hm,cC,V5⟩
   ·rw[hf]at hx;cases hx
   exact fin x' w es γ _ (cC w) (Tr.V_ n) (S.mute _ _ _ h.inv (hg _ _ (S.refl _ _ _)) i1 pR hm) (fun k _=>S.refl _ _ _) (fun a c=>absurd a c) (.quit n V5 hg)
 |step hs hg nx ρn gp hr ih=>
  obtain⟨⟨a1,a2,a3⟩,a4⟩:=gp γ w t j (S.refl _ _ _) h.inv rfl pR;exact fin _ _ _ _ _ a1 (hr γ w t j (S.refl _ _ _) h.inv rfl pR) a2 a3 a4 (ih γ w t j (S.refl _ _ _) h.inv rfl pR)
theorem Dg (i:Nat)(fn:FuncId)(pos:String):MemOp.ofEvents i fn pos #[]= #[]:=by rw[ofEvents_eq];simp
theorem St.sleep (h:St S Q gs w t γ j lK eL b true g)(hb:b=true)(AL:S.Bl γ w):St S Q ((gs.map (woken P g {g with status:= .blocked} w)).setIfInBounds 0 {g with status:= .blocked}) w (t++MemOp.ofEvents 0 g.frame.fn g.frame.place #[]) γ j lK eL b false g:=by
 rw[Dg,Array.append_empty];refine⟨by simp[h.size],h.inv,h.main,by simp[h.size,ot],fun _=>⟨hb,AL⟩,fun k k1 kj=>?_⟩
 obtain⟨y,hy,pC⟩:=h.wk k k1 kj;exact⟨y,by rw[Array.getElem?_setIfInBounds_ne (by omega),Array.getElem?_map,hy,Option.map_some,mI pC.status],pC⟩
theorem St.go (h:St S Q gs w t γ j lK eL b true g){x:Nx Γ}(gp:oq S 0 true γ w t j g x){SC:Tr}{b':Bool}(hm:tO S Q SC b' (deafBehind (Deaf t 0) x.es) x.γ x.w x.g):
  St S Q ((gs.map (woken P g x.g x.w)).setIfInBounds 0 x.g) x.w (t++MemOp.ofEvents 0 g.frame.fn g.frame.place x.es) x.γ j SC eL b' true x.g:=by
 refine⟨by simp[h.size],gp.inv,by rw[Deaf_own];exact hm,by simp[h.size,ot],nofun,fun k k1 kj=>?_⟩
 obtain⟨y,hy,pC⟩:=h.wk k k1 kj;refine⟨y,by rw[Array.getElem?_setIfInBounds_ne (by omega),Array.getElem?_map,hy,Option.map_some,mI pC.status],?_⟩
 rw[Deaf_other t (by omega) _ dW]
 exact pC.rely (gp.SA k (by omega))
theorem St.spawn (h:St S Q gs w t γ j lK eL b true g){x:Ny Γ}(gp:FN S γ w t j g x){SC YZ:Tr}{b':Bool}(hm:tO S Q SC b' (deafBehind (Deaf t 0) x.es) x.γ x.w x.g)(hc:xC S (j+1) YZ 0 x.γ x.w x.c):
  St S Q ((gs.setIfInBounds 0 x.g).push x.c) x.w (t++((MemOp.ofEvents 0 g.frame.fn g.frame.place x.es).push {g:=0,fn:=g.frame.fn,pos:=g.frame.place,act:= .go (j+1)}|>.push {g:=j+1,fn:=x.c.frame.fn,pos:=g.frame.place,act:= .start})) x.γ (j+1) SC (fun k=>if k=j+1 then YZ else eL k) b' true x.g:=by
 have e2:(t++((MemOp.ofEvents 0 g.frame.fn g.frame.place x.es).push {g:=0,fn:=g.frame.fn,pos:=g.frame.place,act:= .go (j+1)}|>.push {g:=j+1,fn:=x.c.frame.fn,pos:=g.frame.place,act:= .start}))=
   ((t++MemOp.ofEvents 0 g.frame.fn g.frame.place x.es)++ #[{g:=0,fn:=g.frame.fn,pos:=g.frame.place,act:= .go (j+1)}])++ #[{g:=j+1,fn:=x.c.frame.fn,pos:=g.frame.place,act:= .start}]:=by
  apply Array.ext';simp
 have d1:∀k,k≠0→Deaf ((t++MemOp.ofEvents 0 g.frame.fn g.frame.place x.es)++ #[{g:=0,fn:=g.frame.fn,pos:=g.frame.place,act:= .go (j+1)}]) k=Deaf t k:=by
  intro k hk;rw[Deaf_other _ (g':=0) (by omega) _ (by simp),Deaf_other t (by omega) _ dW]
 have s0:∀(u:Trace) (k:Nat) (y:MemOp),y.act= .start∨(∃q,y.act= .go q)→Deaf (u++ #[y]) k=Deaf u k:=by
  intro u k y hy;have:=Deaf_append u k [y]
  simp only[List.foldl_cons,List.foldl_nil]at this;rw[show u++ #[y]=u++[y].toArray from rfl,this]
  unfold deafStep;rcases hy with hy|⟨q,hy⟩<;>rw[hy]
 rw[e2];refine⟨by simp[h.size],by have:=gp.inv;simp only at this;rwa[e2]at this,?_,by rw[Array.getElem?_push,if_neg (by simp[h.size]),Array.getElem?_setIfInBounds_self_of_lt (by simp[h.size])];rfl,nofun,fun k k1 kj=>?_⟩
 ·rw[s0 _ _ _ (.inl rfl),s0 _ _ _ (.inr ⟨_,rfl⟩),Deaf_own]
  exact hm
 ·have cv:0≠k:=by omega
  by_cases hk:k=j+1
  ·subst hk
   refine⟨x.c,by rw[Array.getElem?_push,if_pos (by simp[h.size])],?_⟩
   rw[s0 _ _ _ (.inl rfl),d1 _ (by omega),Go.ConcN.Deaf_absent fun i op hi e=>by have:=S.NR h.inv i op hi;omega]
   simp only[if_true];exact hc
  ·obtain⟨y,hy,pC⟩:=h.wk k k1 (by omega)
   refine⟨y,?_,?_⟩
   ·rw[Array.getElem?_push,if_neg (by simp[h.size];omega),Array.getElem?_setIfInBounds_ne cv,hy]
   ·rw[s0 _ _ _ (.inl rfl),d1 _ (by omega)]
    simp only[if_neg hk];exact pC.rely (gp.SA k (by omega) (by omega))
theorem St.runs (a0:Acc Tr.Lt lK):∀(j:Nat) (eL:Nat→Tr) (run:Bool) (gs:Array Goroutine) (w:World) (sl:Option (Nat×Nat)) (t:Trace) (γ:Γ) (b:Bool) (g:Goroutine),St S Q gs w t γ j lK eL b run g→yJ S Q (crowd gs w sl) t:=by
 induction a0 with
 |intro lK _ ih0=>
  intro j eL;induction KI.acc (j+1) eL with
  |intro eL _ Dc=>
   have core:∀run:Bool,(run=true→∀gs w sl t γ b g,St S Q gs w t γ j lK eL b false g→yJ S Q (crowd gs w sl) t)→∀gs w sl t γ b g,St S Q gs w t γ j lK eL b run g→yJ S Q (crowd gs w sl) t:=by
    intro run Sc gs w sl t γ b g h;have haw:∀x∈gs,awake x:=by
     intro x hx;obtain⟨i,hi,rfl⟩:=Array.mem_iff_getElem.1 hx;rcases Nat.eq_zero_or_pos i with rfl|dH
     ·have:gs[0]=ot g run:=by simpa[Array.getElem?_eq_getElem hi]using h.Pw
      rw[this]
      cases run with
      |true=>exact awake_of (.inl h.main.run.1)
      |false=>exact awake_of (.inr (.inl rfl))
     ·have pR:i≤j:=by rw[h.size]at hi;omega
      obtain⟨y,hy,pC⟩:=h.wk i dH pR;rw[Array.getElem?_eq_getElem hi]at hy;rw[Option.some.inj hy];exact awake_of (pC.status.elim .inl fun x=> .inr (.inr x))
    have yK:∃(i:Nat) (x:Goroutine),gs[i]?=some x∧x.status= .running:=by
     cases run with
     |true=>exact⟨0,g,h.Pw,h.main.run.1⟩
     |false=>
      obtain⟨hb,AL⟩:=h.blk rfl;have hm:=h.main
      cases hm with
      |step _ _ _ _ _ _ hw _ _ _=>
       obtain⟨_,k,k1,kj,hg⟩:=hw hb γ w t j (S.refl _ _ _) h.inv rfl AL;obtain⟨y,hy,pC⟩:=h.wk k k1 kj;generalize eL k=ρk at pC
       cases pC with
       |quit n hq bf=>exact absurd (bf _ _ (S.refl _ _ _)) hg
       |step hs=>exact⟨k,y,hy,hs⟩
    obtain⟨i,x,d,AK,hi,hx,cC⟩:=crowd_pick (P:=P) (w:=w) (sl:=sl) haw yK;have h':=h.draw d;rcases Nat.eq_zero_or_pos i with rfl|dH
    ·rw[h.Pw]at hi
     obtain rfl:=Option.some.inj hi
     cases run with
     |false=>cases hx
     |true=>
      have sG:=h'.Pw;simp only[ot]at sG cC;have hm:=h'.main;by_cases Dh:b=true∧S.Bl γ (w.at d)
      ·obtain⟨hb,AL⟩:=Dh
       cases hm with
       |step _ _ _ _ _ _ hw _ _ _=>
        obtain⟨hgo,_⟩:=hw hb γ _ t j (S.refl _ _ _) h'.inv rfl AL;exact yJ.next (cC.trans (runT_crowd_go (i:=0) sG (show stepG P (0==0) g (w.at d)=_ from hgo))) (Sc rfl _ _ _ _ _ _ _ (h'.sleep hb AL))
      ·have sH:b=true→¬S.Bl γ (w.at d):=fun e AL=>Dh ⟨e,AL⟩
       cases hm with
       |step _ hs ho nx ρn gp hw hr i1 i2=>
        have rJ:=gp γ _ t j (S.refl _ _ _) h'.inv rfl sH;have aj:=hr γ (w.at d) t j
        cases hn:nx γ (w.at d) t j with
        |go y b'=>
         rw[hn]at rJ;have FO:=i1 γ _ t j (S.refl _ _ _) h'.inv rfl sH y b' hn;exact yJ.next (cC.trans (runT_crowd_go (i:=0) sG (show stepG P (0==0) g (w.at d)=_ from rJ.go))) (ih0 _ aj _ _ _ _ _ _ _ _ _ _ (h'.go rJ FO))
        |spawn y b'=>
         rw[hn]at rJ;obtain⟨rJ,hc⟩:=rJ;obtain⟨YZ,hc⟩:=hc.Dd;have FO:=i2 γ _ t j (S.refl _ _ _) h'.inv rfl sH y b' hn;have dA:=runT_crowd_spawn (sl:=AK) (i:=0) sG (show stepG P (0==0) g (w.at d)=_ from rJ.go)
         rw[h'.size]at dA;exact yJ.next (cC.trans dA) (ih0 _ aj _ _ _ _ _ _ _ _ _ _ (h'.spawn rJ FO hc))
        |fin o w1 es=>
         rw[hn]at rJ;obtain⟨yL,hq⟩:=rJ;refine⟨0,gs,w,sl,t,γ,w.at d,j,o,w1,_,rfl,cC.trans (runT_many_ended (i:=0) sG (show stepG P (0==0) g (w.at d)=_ from yL)),hq,h'.inv,h.size,fun k k1 kj=>?_⟩
         obtain⟨y,hy,pC⟩:=h'.wk k k1 kj;refine⟨y,hy,fun hg=>?_⟩
         rw[Deaf_other t (by omega) _ dW]
         generalize eL k=ρk at pC
         cases pC with
         |quit n hq bf=>exact⟨n,hq⟩
         |step _ bf=>exact absurd hg (bf _ _ (S.refl _ _ _))
    ·obtain⟨x',w',es,ah,rH,run',hgo,aj,hS⟩:=h'.worker dH hi hx
     have KJ:(i==0)=false:=by simp;omega
     exact yJ.next (cC.trans (runT_crowd_go (i:=i) hi (by rw[KJ];exact hgo))) (Dc _ aj _ _ _ _ _ _ _ _ hS)
   intro run
   cases run with
   |false=>exact core false nofun
   |true=>exact core true fun _=>core false nofun
end
end Go.Proofs.YtlhohdjniaebbaaGreat.Sr
namespace Go.Proofs.YtlhohdjniaebbaaGreat.Sr
open Go Go.Conc Go.ConcN
inductive jE|busy|said|off
 deriving DecidableEq
inductive WM|op|reg|la (k:Nat)|lb (k:Nat)|rel
 deriving DecidableEq
structure Ph where
 wg:Nat
 A:Nat
 n:Nat
 j0:Nat
 mB:Nat→Nat→Value
 eW:TypeId
 eA:TypeId
structure Gh where
 ow:Nat→Nat→Prop
 ro:Nat→Nat→Prop
 sh:Nat→Prop
 st:Nat→jE
 wm:WM
 ph:Option Ph
 extra:Nat
 j:Nat
def bI:Loc→Option Nat
 | .cell a=>some a.block
 | .obj r=>some r
 |_=>none
def Gh.Slot (γ:Gh)(k:Nat)(a:Addr):Prop:=∃p,γ.ph=some p∧p.j0<k∧a.block=p.A∧5*(k-p.j0-1)≤a.off∧a.off<5*(k-p.j0-1)+5
def Gh.Sh (γ:Gh):Loc→Prop:=fun l=>∃a,l= .cell a∧γ.sh a.block
def Gh.Own (γ:Gh):Nat→Loc→Prop:=fun k l=>(∃b,bI l=some b∧γ.ow k b)∨∃a,l= .cell a∧γ.Slot k a
def Gh.Rd (γ:Gh):Nat→Loc→Prop:=fun k l=>∃b,bI l=some b∧γ.ro k b
structure BA (γ:Gh):Prop where
 ow:∀k k' b,γ.ow k b→γ.ow k' b→k=k'
 pT:∀k k' b,γ.ow k b→¬γ.ro k' b
 rK:∀k b,γ.ow k b→¬γ.sh b
 tP:∀k b,γ.ro k b→¬γ.sh b
 A:∀p,γ.ph=some p→(∀k,¬γ.ow k p.A∧¬γ.ro k p.A)∧¬γ.sh p.A
theorem BA.apart {γ:Gh}(h:BA γ):Apart γ.Sh γ.Own γ.Rd:=by
 refine⟨?_,?_,?_,?_⟩
 ·rintro k k' l (⟨b,hb,ho⟩|⟨a,rfl,p,hp,hk,hA,h1,h2⟩) (⟨b',cB,pB⟩|⟨a',e,p',bk,cQ,Di,ji,lL⟩)
  ·rw[hb]at cB;cases cB;exact h.ow _ _ _ ho pB
  ·subst e;cases hb;rw[Di]at ho;exact absurd ho ((h.A p' bk).1 k).1
  ·cases cB;rw[hA]at pB;exact absurd pB ((h.A p hp).1 k').1
  ·cases e;rw[hp]at bk;cases bk;omega
 ·rintro k k' l (⟨b,hb,ho⟩|⟨a,rfl,p,hp,hk,hA,h1,h2⟩) ⟨b',cB,hr⟩
  ·rw[hb]at cB;cases cB;exact h.pT _ _ _ ho hr
  ·cases cB;rw[hA]at hr;exact((h.A p hp).1 k').2 hr
 ·rintro k l (⟨b,hb,ho⟩|⟨a,rfl,p,hp,hk,hA,h1,h2⟩) ⟨a',e,hs⟩
  ·subst e;cases hb;exact h.rK _ _ ho hs
  ·cases e;rw[hA]at hs;exact(h.A p hp).2 hs
 ·rintro k l ⟨b,hb,hr⟩ ⟨a',rfl,hs⟩
  cases hb;exact h.tP _ _ hr hs
structure TJ (γ:Gh) (B:Nat) (t:Trace) (j:Nat):Prop where
 ct:CT γ.Sh γ.Own γ.Rd t j
 low:∀op∈t,op.act.low B
 over:∀i g,t.g? i=some g→g≠0→t.counts i→(∃q,t.g? q=some 0∧HappensBefore t i q)∨∃p,γ.ph=some p∧p.j0<g
 rel:∀p,γ.ph=some p→∀k,p.j0<k→k≤j→γ.st k≠.busy→∃r,RelBy ⟨p.wg,0,none⟩ t k r∧∀i x,r<i→t.g? i=some k→touchAt t i=some x→γ.Sh x.loc
 norel:∀p,γ.ph=some p→NoRelease ⟨p.wg,0,none⟩ t
 old:∀i x g,touchAt t i=some x→¬γ.Sh x.loc→t.g? i=some g→Knows t 0 i∨∃p,γ.ph=some p∧p.j0<g
section
variable {γ ah:Gh}{B B':Nat}{t u:Trace}{j k:Nat}{fn:FuncId}{pos:String}{es:Array Event}
def jR (t:Trace)(l:Loc):Prop:=∀i x,touchAt t i=some x→x.loc≠l
theorem jR.perm {l:Loc}(h:jR t l)(g:Nat):Perm t g l:=fun i x hx e=>absurd e (h i x hx)
theorem mJ {l:Loc}{b:Nat}(h:∀op∈t,op.act.low B)(hb:bI l=some b)(hB:B≤b):jR t l:=by
 intro i x hx e;obtain⟨op,ho,lh⟩:=touch_of hx;have hl:=h op (Array.mem_of_getElem? ho);revert lh hl
 cases op.act with
 |access ev=>
  intro lh hl;simp only[MemAct.touch?,Option.some.injEq]at lh;subst lh;dsimp only at e
  simp only[MemAct.low,e]at hl
  cases l<;>simp_all[bI,Loc.low]<;>omega
 |mark m=>
  intro lh hl
  cases m<;>simp[MemAct.touch?]at lh<;>subst lh<;>dsimp only at e<;>subst e<;>simp_all[bI,MemAct.low]<;>omega
 |_=>intro lh;simp[MemAct.touch?]at lh
theorem ou {Sh Wb:Loc→Prop}{Own NS Rd Y0:Nat→Loc→Prop}(h:CT Sh Own Rd t j)(h1:∀l,Wb l→Sh l∨jR t l)
  (h2:∀k,1≤k→k≤j→∀l,NS k l→Own k l∨jR t l) (h3:∀k,1≤k→k≤j→∀l,Y0 k l→Rd k l∨jR t l)
  (h4:∀l,¬Wb l→(∀k,1≤k→k≤j→¬NS k l∧¬Y0 k l)→(¬Sh l∧∀k,1≤k→k≤j→¬Own k l∧¬Rd k l)∨Perm t 0 l)
  (h5:∀l,¬Wb l→(∀k,1≤k→k≤j→¬NS k l)→(¬Sh l∧∀k,1≤k→k≤j→¬Own k l)∨PermW t 0 l):CT Wb NS Y0 t j:=by
 refine⟨fun i op x hi hx hs=>?_,fun k k1 kj l hl=>?_,fun k k1 kj l hl=>?_,fun l hs hl=>?_,fun l hs hl=>?_,h.nr,h.gs⟩
 ·rcases h1 _ hs with h'|h'
  ·exact h.quiet i op x hi hx h'
  ·exact absurd rfl (h' i x (by rw[touchAt_of hi];exact hx))
 ·exact(h2 k k1 kj l hl).elim (h.own k k1 kj l) (·.perm k)
 ·exact(h3 k k1 kj l hl).elim (h.rd k k1 kj l) (fun x=> .of (x.perm k))
 ·exact(h4 l hs hl).elim (fun x=>h.free l x.1 x.2) id
 ·exact(h5 l hs hl).elim (fun x=>h.mine l x.1 x.2) id
theorem fh {op:MemOp}{i:Nat}(h:op∈MemOp.ofEvents i fn pos es):∃e∈es,op.g=i∧op.act= .ofEvent e:=by
 rw[ofEvents_eq]at h;obtain⟨e,he,rfl⟩:=Array.mem_map.1 h;exact⟨e,he,rfl,rfl⟩
theorem vE (h:∀i g,t.g? i=some g→g≠0→t.counts i→(∃q,t.g? q=some 0∧HappensBefore t i q)∨∃p,γ.ph=some p∧p.j0<g)
  (hu:∀op∈u,op.g=0∨op.act.touch?=none∨∃p,γ.ph=some p∧p.j0<op.g):∀i g,(t++u).g? i=some g→g≠0→(t++u).counts i→(∃q,(t++u).g? q=some 0∧HappensBefore (t++u) i q)∨∃p,γ.ph=some p∧p.j0<g:=by
 intro i g hg cv hc;obtain⟨x,hx,_⟩:=hc;obtain⟨op,aW,lh⟩:=touch_of hx;have hgo:op.g=g:=by simpa[Trace.g?,aW]using hg
 rcases getElem?_append_cases aW with⟨hi,NT⟩|⟨_,SD⟩
 ·rcases h i g (by simp[Trace.g?,NT,hgo]) cv ((counts_old hi).1 ⟨x,hx,‹_›⟩)with⟨q,hq,hb⟩|h'
  ·have Y1:q<t.size:=by
    unfold Trace.g? at hq;obtain⟨z,hz,_⟩:=Option.map_eq_some_iff.1 hq;exact lt_size_of_getElem? hz
   exact .inl ⟨q,by simpa[Trace.g?,getElem?_append_old Y1]using hq,hb_app u hb⟩
  ·exact .inr h'
 ·rcases hu op SD with h0|h0|h0
  ·exact absurd (hgo.symm.trans h0) cv
  ·rw[h0]at lh;cases lh
  ·exact .inr (hgo▸h0)
theorem pj {i:Nat}{x:Touch}(h:touchAt (t++u) i=some x):touchAt t i=some x∧i<t.size∨∃op∈u,op.act.touch?=some x∧(t++u).g? i=some op.g:=by
 obtain⟨op,ho,lh⟩:=touch_of h;rcases getElem?_append_cases ho with⟨hi,pB⟩|⟨_,hou⟩
 ·exact .inl ⟨by rw[touchAt_of pB];exact lh,hi⟩
 ·exact .inr ⟨op,hou,lh,by simp[Trace.g?,ho]⟩
theorem tR (h:∀i x g,touchAt t i=some x→¬γ.Sh x.loc→t.g? i=some g→Knows t 0 i∨∃p,γ.ph=some p∧p.j0<g)
  (hu:∀op∈u,op.g=0∨(∀x,op.act.touch?=some x→γ.Sh x.loc)∨∃p,γ.ph=some p∧p.j0<op.g):∀i x g,touchAt (t++u) i=some x→¬γ.Sh x.loc→(t++u).g? i=some g→Knows (t++u) 0 i∨∃p,γ.ph=some p∧p.j0<g:=by
 intro i x g hx hs hg;obtain⟨op,aW,lh⟩:=touch_of hx;have hgo:op.g=g:=by simpa[Trace.g?,aW]using hg
 rcases getElem?_append_cases aW with⟨hi,NT⟩|⟨_,SD⟩
 ·exact(h i x g (by rw[touchAt_of NT];exact lh) hs (by simp[Trace.g?,NT,hgo])).imp (·.app u) id
 ·rcases hu op SD with h0|h0|h0
  ·have:=knows_own aW
   rw[h0]at this;exact .inl this
  ·exact absurd (h0 x lh) hs
  ·exact .inr (hgo▸h0)
theorem lM {a:Addr}{r g:Nat}{Sh:Loc→Prop}(h:RelBy a t k r∧∀i x,r<i→t.g? i=some k→touchAt t i=some x→Sh x.loc)(hu:∀op∈u,op.g=g)(hg:g≠k):
  RelBy a (t++u) k r∧∀i x,r<i→(t++u).g? i=some k→touchAt (t++u) i=some x→Sh x.loc:=by
 refine⟨h.1.appOther hu hg,fun i x hi pD hx=>?_⟩
 rcases pj hx with⟨h1,aj⟩|⟨op,aW,_,h2⟩
 ·exact h.2 i x hi (by rwa[g?_old aj]at pD) h1
 ·rw[h2,Option.some.injEq]at pD
  exact absurd ((hu op aW).symm.trans pD) hg
def Py (γ:Gh)(k B:Nat)(e:Event):Prop:=(∀x,(MemAct.ofEvent e).touch?=some x→γ.Own k x.loc∨(γ.Rd k x.loc∧x.write=false))∧(MemAct.ofEvent e).low B∧∀a,MemAct.ofEvent e≠.mark (.release a)
theorem TJ.worker (A:BA γ)(h:TJ γ B t j)(hB:B≤B'){p:Ph}(hp:γ.ph=some p)(hk:p.j0<k)(kj:k≤j)(hb:γ.st k= .busy)(aR:∀e∈es,Py γ k B' e):TJ γ B' (t++MemOp.ofEvents k fn pos es) j:=by
 refine⟨h.ct.appW A.apart (by omega) kj fun op aW=>?_,fun op aW=>?_,vE h.over fun op aW=>?_,fun p' bk k' cQ Dj hs=>?_,fun p' bk=>(h.norel p' bk).app fun op aW=>?_,tR h.old fun op aW=> .inr (.inr ⟨p,hp,(dW op aW).symm▸hk⟩)⟩
 ·obtain⟨e,he,h1,h2⟩:=fh aW
  exact⟨h1,fun x hx=> .inr ((aR e he).1 x (h2▸hx))⟩
 ·rcases Array.mem_append.1 aW with h1|h1
  ·exact MemAct.low_mono hB (h.low op h1)
  ·obtain⟨e,he,_,h2⟩:=fh h1
   rw[h2];exact(aR e he).2.1
 ·obtain⟨e,he,h1,h2⟩:=fh aW
  exact .inr (.inr ⟨p,hp,h1▸hk⟩)
 ·obtain⟨r,hr⟩:=h.rel p' bk k' cQ Dj hs
  exact⟨r,lM hr dW fun e=>hs (e▸hb)⟩
 ·obtain⟨e,he,_,h2⟩:=fh aW
  rw[h2];exact(aR e he).2.2 _
end
end Go.Proofs.YtlhohdjniaebbaaGreat.Sr
