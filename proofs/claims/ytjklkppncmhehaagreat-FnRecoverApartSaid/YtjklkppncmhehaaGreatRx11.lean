/-
What is proved: a machine of many goroutines, each of which makes its way whatever the others do within their bounds, comes to its end ('Sys.runs'). Conditions: those that the theorem states. a machine of many goroutines, each of which makes its way whatever the others do within their bounds, comes to its end ('Sys.runs'). Conditions: those that the theorem states. a machine of many goroutines, each of which makes its way whatever the others do within their bounds, comes to its end ('St.runs'). Conditions: those that the theorem states. what holds of the trace of a machine whose goroutines each have blocks of their own, and how it is kept ('TJ'). Conditions: those that each theorem states.
-/
import Derived.Test.YtjklkppncmhehaaGreatProg
import Derived.Conc.Beside
import Derived.Conc.Crowd
import Derived.Conc.CrowdTrace
import Derived.Conc.CrowdBase
set_option linter.unusedVariables false
set_option linter.unusedSimpArgs false
namespace Go.Proofs.YtjklkppncmhehaaGreat.Sr
open Go Go.Conc
inductive Tr:Type 1
 |mk (ι:Type) (f:ι→Tr)
inductive Tr.Lt:Tr→Tr→Prop
 |mk {ι:Type} (f:ι→Tr) (i:ι):Tr.Lt (f i) (.mk ι f)
theorem Tr.acc:∀t:Tr,Acc Tr.Lt t
 | .mk ι f=>⟨_,fun y h=>by cases h with|mk _ i=>exact Tr.acc (f i)⟩
def Tr.nat:Nat→Tr
 |0=> .mk Empty nofun
 |n+1=> .mk Unit fun _=>Tr.nat n
theorem Tr.Un (n:Nat):Tr.Lt (Tr.nat n) (Tr.nat (n+1)):= .mk (fun _=>Tr.nat n) ()
def Ks (j:Nat)(f g:Nat→Tr):Prop:=∃k,k<j∧Tr.Lt (f k) (g k)∧∀i,i≠k→f i=g i
theorem Ks.acc:∀(j:Nat) (f:Nat→Tr),Acc (Ks j) f
 |0,f=>⟨_,fun g ⟨k,hk,_⟩=>by omega⟩
 |j+1,f=>by
  have key:∀x:Tr,Acc Tr.Lt x→∀f:Nat→Tr,f j=x→Acc (Ks (j+1)) f:=by
   intro x hx;induction hx with
   |intro x _ Dz=>
    intro f;induction Ks.acc j f with
    |intro f _ yJ=>
     intro e;refine⟨_,fun g ⟨k,hk,ai,hs⟩=>?_⟩
     by_cases x_:k=j
     ·subst x_
      exact Dz (g k) (e▸ai) g rfl
     ·exact yJ g ⟨k,by omega,ai,hs⟩ ((hs j (Ne.symm x_)).trans e)
  exact key (f j) (Tr.acc _) f rfl
structure Sys (P:Program) (Γ:Type)where
 J:Γ→World→Trace→Nat→Prop
 R:Nat→Γ→World→Γ→World→Prop
 Bl:Γ→World→Prop
 dG:Γ→Nat→Prop
 refl:∀k γ w,R k γ w γ w
 trans:∀{k a u b v c w},R k a u b v→R k b v c w→R k a u c w
 Q9:∀{γ w t j} (d:Nat),J γ w t j→J γ (w.at d) t j
 zg:∀(k γ w) (d:Nat),R k γ w γ (w.at d)
 M0:∀(γ w) (d:Nat),Bl γ (w.at d)↔Bl γ w
 M7:∀{γ w t j},J γ w t j→∀(i:Nat) (op:MemOp),t[i]?=some op→op.g≤j
 mute:∀{γ w t j k} (fn:FuncId) (pos:String) (es:Array Event),J γ w t j→dG γ k→1≤k→k≤j→(∀e∈es,e.mute=true)→J γ w (t++MemOp.ofEvents k fn pos es) j
structure Nx (Γ:Type)where
 g:Goroutine
 w:World
 es:Array Event
 γ:Γ
structure Ny (Γ:Type) extends Nx Γ where
 c:Goroutine
section
variable {P:Program}{Γ:Type}(S:Sys P Γ)
structure oY (k:Nat) (main:Bool) (γ:Γ) (w:World) (t:Trace) (j:Nat) (g:Goroutine) (x:Nx Γ):Prop where
 go:stepG P main g w= .go x.g x.w x.es
 inv:S.J x.γ x.w (t++MemOp.ofEvents k g.frame.fn g.frame.place x.es) j
 Q_:∀k',k'≠k→S.R k' γ w x.γ x.w
structure Gc (γ:Γ) (w:World) (t:Trace) (j:Nat) (g:Goroutine) (x:Ny Γ):Prop where
 go:stepG P true g w= .spawn x.g x.c x.w x.es
 inv:S.J x.γ x.w ((MemOp.ofEvents 0 g.frame.fn g.frame.place x.es).push {g:=0,fn:=g.frame.fn,pos:=g.frame.place,act:= .go (j+1)}|>.push {g:=j+1,fn:=x.c.frame.fn,pos:=g.frame.place,act:= .start} |>(t++·)) (j+1)
 Q_:∀k',k'≠0→k'≤j→S.R k' γ w x.γ x.w
inductive WP (k:Nat):Nat→Γ→World→Goroutine→Prop
 |quit {d:Nat} {γ:Γ} {w:World} {g:Goroutine} (n:Nat) (h:QuitsD P n d g) (hg:∀ah w',S.R k γ w ah w'→S.dG ah k):WP k d γ w g
 |step {d:Nat} {γ:Γ} {w:World} {g:Goroutine} (hs:g.status= .running) (hg:∀ah w',S.R k γ w ah w'→¬S.dG ah k) (nx:Γ→World→Trace→Nat→Nx Γ)
   (h:∀ah w' t j,S.R k γ w ah w'→S.J ah w' t j→Deaf t k=d→k≤j→oY S k false ah w' t j g (nx ah w' t j)∧(S.Bl ah w'→¬S.Bl (nx ah w' t j).γ (nx ah w' t j).w→mayWake P g=true∧(nx ah w' t j).g.status= .running))
   (ih:∀ah w' t j,S.R k γ w ah w'→S.J ah w' t j→Deaf t k=d→k≤j→WP k (deafBehind d (nx ah w' t j).es) (nx ah w' t j).γ (nx ah w' t j).w (nx ah w' t j).g):WP k d γ w g
inductive ya (k:Nat):Tr→Nat→Γ→World→Goroutine→Prop
 |quit {d:Nat} {γ:Γ} {w:World} {g:Goroutine} (n:Nat) (h:QuitsD P n d g) (hg:∀ah w',S.R k γ w ah w'→S.dG ah k):ya k (Tr.nat n) d γ w g
 |step {ρ:Tr} {d:Nat} {γ:Γ} {w:World} {g:Goroutine} (hs:g.status= .running) (hg:∀ah w',S.R k γ w ah w'→¬S.dG ah k) (nx:Γ→World→Trace→Nat→Nx Γ) (eR:Γ→World→Trace→Nat→Tr)
   (h:∀ah w' t j,S.R k γ w ah w'→S.J ah w' t j→Deaf t k=d→k≤j→oY S k false ah w' t j g (nx ah w' t j)∧(S.Bl ah w'→¬S.Bl (nx ah w' t j).γ (nx ah w' t j).w→mayWake P g=true∧(nx ah w' t j).g.status= .running))
   (hr:∀ah w' t j,S.R k γ w ah w'→S.J ah w' t j→Deaf t k=d→k≤j→Tr.Lt (eR ah w' t j) ρ)
   (ih:∀ah w' t j,S.R k γ w ah w'→S.J ah w' t j→Deaf t k=d→k≤j→ya k (eR ah w' t j) (deafBehind d (nx ah w' t j).es) (nx ah w' t j).γ (nx ah w' t j).w (nx ah w' t j).g):ya k ρ d γ w g
variable {S}
theorem WP.DC {k d:Nat}{γ:Γ}{w:World}{g:Goroutine}(h:WP S k d γ w g):∃ρ,ya S k ρ d γ w g:=by
 induction h with
 |quit n h hg=>exact⟨_,.quit n h hg⟩
 | @step d γ w g hs hg nx h _ ih=>
   let eR:Γ→World→Trace→Nat→Tr:=fun ah w' t j=>
    open Classical in if x:S.R k γ w ah w'∧S.J ah w' t j∧Deaf t k=d∧k≤j then(ih ah w' t j x.1 x.2.1 x.2.2.1 x.2.2.2).choose else Tr.nat 0
   refine⟨.mk (Γ×World×Trace×Nat) fun i=>eR i.1 i.2.1 i.2.2.1 i.2.2.2,.step hs hg nx eR h (fun ah w' t j h1 h2 h3 h4=> .mk (fun i:Γ×World×Trace×Nat=>eR i.1 i.2.1 i.2.2.1 i.2.2.2) (ah,w',t,j)) fun ah w' t j h1 h2 h3 h4=>?_⟩
   have x:S.R k γ w ah w'∧S.J ah w' t j∧Deaf t k=d∧k≤j:=⟨h1,h2,h3,h4⟩
   have e:eR ah w' t j=(ih ah w' t j h1 h2 h3 h4).choose:=dif_pos x
   rw[e];exact(ih ah w' t j h1 h2 h3 h4).choose_spec
theorem ya.rely {k d:Nat}{ρ:Tr}{γ ah:Γ}{w w':World}{g:Goroutine}(h:ya S k ρ d γ w g)(r:S.R k γ w ah w'):ya S k ρ d ah w' g:=by
 cases h with
 |quit n h hg=>exact .quit n h fun a b x=>hg a b (S.trans r x)
 |step hs hg nx eR h hr ih=>exact .step hs (fun a b x=>hg a b (S.trans r x)) nx eR (fun a b t j x=>h a b t j (S.trans r x)) (fun a b t j x=>hr a b t j (S.trans r x)) (fun a b t j x=>ih a b t j (S.trans r x))
theorem WP.rely {k d:Nat}{γ ah:Γ}{w w':World}{g:Goroutine}(h:WP S k d γ w g)(r:S.R k γ w ah w'):WP S k d ah w' g:=by
 cases h with
 |quit n h hg=>exact .quit n h fun a b x=>hg a b (S.trans r x)
 |step hs hg nx h ih=>exact .step hs (fun a b x=>hg a b (S.trans r x)) nx (fun a b t j x=>h a b t j (S.trans r x)) (fun a b t j x=>ih a b t j (S.trans r x))
theorem WP.mk {k d:Nat}{γ:Γ}{w:World}{g:Goroutine}(hs:g.status= .running)(hg:∀ah w',S.R k γ w ah w'→¬S.dG ah k)
  (h:∀ah w' t j,S.R k γ w ah w'→S.J ah w' t j→Deaf t k=d→k≤j→∃x:Nx Γ,oY S k false ah w' t j g x∧(S.Bl ah w'→¬S.Bl x.γ x.w→mayWake P g=true∧x.g.status= .running)∧WP S k (deafBehind d x.es) x.γ x.w x.g):WP S k d γ w g:=by
 let nx:Γ→World→Trace→Nat→Nx Γ:=fun ah w' t j=>
  open Classical in if x:S.R k γ w ah w'∧S.J ah w' t j∧Deaf t k=d∧k≤j then(h ah w' t j x.1 x.2.1 x.2.2.1 x.2.2.2).choose else⟨g,w,#[],γ⟩
 have key:∀ah w' t j,S.R k γ w ah w'→S.J ah w' t j→Deaf t k=d→k≤j→oY S k false ah w' t j g (nx ah w' t j)∧(S.Bl ah w'→¬S.Bl (nx ah w' t j).γ (nx ah w' t j).w→mayWake P g=true∧(nx ah w' t j).g.status= .running)∧
   WP S k (deafBehind d (nx ah w' t j).es) (nx ah w' t j).γ (nx ah w' t j).w (nx ah w' t j).g:=by
  intro ah w' t j h1 h2 h3 h4;have x:S.R k γ w ah w'∧S.J ah w' t j∧Deaf t k=d∧k≤j:=⟨h1,h2,h3,h4⟩
  have e:nx ah w' t j=(h ah w' t j h1 h2 h3 h4).choose:=dif_pos x
  rw[e];exact(h ah w' t j h1 h2 h3 h4).choose_spec
 exact .step hs hg nx (fun ah w' t j h1 h2 h3 h4=>⟨(key ah w' t j h1 h2 h3 h4).1,(key ah w' t j h1 h2 h3 h4).2.1⟩) fun ah w' t j h1 h2 h3 h4=>(key ah w' t j h1 h2 h3 h4).2.2
end
end Go.Proofs.YtjklkppncmhehaaGreat.Sr
namespace Go.Proofs.YtjklkppncmhehaaGreat.Sr
open Go Go.Conc
inductive Nz (Γ:Type)
 |go (x:Nx Γ) (b:Bool)
 |spawn (x:Ny Γ) (b:Bool)
 |fin (o:Outcome) (w:World) (es:Array Event)
section
variable {P:Program}{Γ:Type}(S:Sys P Γ)(Q:Γ→World→Trace→Nat→Outcome→World→Prop)
def Uo (γ:Γ)(w:World)(t:Trace)(j:Nat)(g:Goroutine):Nz Γ→Prop
 | .go x _=>oY S 0 true γ w t j g x
 | .spawn x _=>Gc S γ w t j g x∧WP S (j+1) 0 x.γ x.w x.c
 | .fin o w1 es=>stepG P true g w= .ended o w1 es∧Q γ w (t++MemOp.ofEvents 0 g.frame.fn g.frame.place es) j o w1
def DD (γ:Γ)(w:World)(j:Nat)(g:Goroutine):Prop:=stepG P true g w= .go {g with status:= .blocked} w #[]∧∃k,1≤k∧k≤j∧¬S.dG γ k
inductive MP:Bool→Nat→Γ→World→Goroutine→Prop
 |step {d:Nat} {γ:Γ} {w:World} {g:Goroutine} (b:Bool) (hs:g.status= .running) (ho:b=true→g.offers=none) (nx:Γ→World→Trace→Nat→Nz Γ)
   (h:∀ah w' t j,S.R 0 γ w ah w'→S.J ah w' t j→Deaf t 0=d→(b=true→¬S.Bl ah w')→Uo S Q ah w' t j g (nx ah w' t j))
   (hw:b=true→∀ah w' t j,S.R 0 γ w ah w'→S.J ah w' t j→Deaf t 0=d→S.Bl ah w'→DD S ah w' j g)
   (i1:∀ah w' t j,S.R 0 γ w ah w'→S.J ah w' t j→Deaf t 0=d→(b=true→¬S.Bl ah w')→∀x b',nx ah w' t j= .go x b'→MP b' (deafBehind d x.es) x.γ x.w x.g)
   (i2:∀ah w' t j,S.R 0 γ w ah w'→S.J ah w' t j→Deaf t 0=d→(b=true→¬S.Bl ah w')→∀x b',nx ah w' t j= .spawn x b'→MP b' (deafBehind d x.es) x.γ x.w x.g):MP b d γ w g
inductive uy:Tr→Bool→Nat→Γ→World→Goroutine→Prop
 |step {ρ:Tr} {d:Nat} {γ:Γ} {w:World} {g:Goroutine} (b:Bool) (hs:g.status= .running) (ho:b=true→g.offers=none) (nx:Γ→World→Trace→Nat→Nz Γ) (eR:Γ→World→Trace→Nat→Tr)
   (h:∀ah w' t j,S.R 0 γ w ah w'→S.J ah w' t j→Deaf t 0=d→(b=true→¬S.Bl ah w')→Uo S Q ah w' t j g (nx ah w' t j))
   (hw:b=true→∀ah w' t j,S.R 0 γ w ah w'→S.J ah w' t j→Deaf t 0=d→S.Bl ah w'→DD S ah w' j g)
   (hr:∀ah w' t j,Tr.Lt (eR ah w' t j) ρ)
   (i1:∀ah w' t j,S.R 0 γ w ah w'→S.J ah w' t j→Deaf t 0=d→(b=true→¬S.Bl ah w')→∀x b',nx ah w' t j= .go x b'→uy (eR ah w' t j) b' (deafBehind d x.es) x.γ x.w x.g)
   (i2:∀ah w' t j,S.R 0 γ w ah w'→S.J ah w' t j→Deaf t 0=d→(b=true→¬S.Bl ah w')→∀x b',nx ah w' t j= .spawn x b'→uy (eR ah w' t j) b' (deafBehind d x.es) x.γ x.w x.g):uy ρ b d γ w g
variable {S Q}
theorem MP.DC {b:Bool}{d:Nat}{γ:Γ}{w:World}{g:Goroutine}(h:MP S Q b d γ w g):∃ρ,uy S Q ρ b d γ w g:=by
 induction h with
 | @step d γ w g b hs ho nx h hw _ _ Dz yJ=>
   have key:∀i:Γ×World×Trace×Nat,∃ρ,(S.R 0 γ w i.1 i.2.1→S.J i.1 i.2.1 i.2.2.1 i.2.2.2→Deaf i.2.2.1 0=d→(b=true→¬S.Bl i.1 i.2.1)→
     (∀x b',nx i.1 i.2.1 i.2.2.1 i.2.2.2= .go x b'→uy S Q ρ b' (deafBehind d x.es) x.γ x.w x.g)∧∀x b',nx i.1 i.2.1 i.2.2.1 i.2.2.2= .spawn x b'→uy S Q ρ b' (deafBehind d x.es) x.γ x.w x.g):=by
    rintro⟨ah,w',t,j⟩;by_cases hh:S.R 0 γ w ah w'∧S.J ah w' t j∧Deaf t 0=d∧(b=true→¬S.Bl ah w')
    ·cases hn:nx ah w' t j with
     |go x b'=>
      obtain⟨ρ,fq⟩:=Dz ah w' t j hh.1 hh.2.1 hh.2.2.1 hh.2.2.2 x b' hn;exact⟨ρ,fun _ _ _ _=>⟨fun y c e=>(by cases e;exact fq),fun y c e=>(by cases e)⟩⟩
     |spawn x b'=>
      obtain⟨ρ,fq⟩:=yJ ah w' t j hh.1 hh.2.1 hh.2.2.1 hh.2.2.2 x b' hn;exact⟨ρ,fun _ _ _ _=>⟨fun y c e=>(by cases e),fun y c e=>(by cases e;exact fq)⟩⟩
     |fin o w1 es=>exact⟨Tr.nat 0,fun _ _ _ _=>⟨fun y c e=>(by cases e),fun y c e=>(by cases e)⟩⟩
    ·exact⟨Tr.nat 0,fun a b c d=>absurd ⟨a,b,c,d⟩ hh⟩
   refine⟨.mk (Γ×World×Trace×Nat) fun i=>(key i).choose,.step b hs ho nx (fun ah w' t j=>(key (ah,w',t,j)).choose) h hw (fun ah w' t j=> .mk (fun i=>(key i).choose) (ah,w',t,j)) (fun ah w' t j a1 a2 a3 a4=>((key (ah,w',t,j)).choose_spec a1 a2 a3 a4).1) fun ah w' t j a1 a2 a3 a4=>((key (ah,w',t,j)).choose_spec a1 a2 a3 a4).2⟩
theorem uy.rely {ρ:Tr}{b:Bool}{d:Nat}{γ ah:Γ}{w w':World}{g:Goroutine}(h:uy S Q ρ b d γ w g)(r:S.R 0 γ w ah w'):uy S Q ρ b d ah w' g:=by
 cases h with
 |step b hs ho nx eR h hw hr i1 i2=>
  exact .step b hs ho nx eR (fun a c t j x=>h a c t j (S.trans r x)) (fun e a c t j x=>hw e a c t j (S.trans r x)) hr (fun a c t j x=>i1 a c t j (S.trans r x)) (fun a c t j x=>i2 a c t j (S.trans r x))
theorem MP.rely {b:Bool}{d:Nat}{γ ah:Γ}{w w':World}{g:Goroutine}(h:MP S Q b d γ w g)(r:S.R 0 γ w ah w'):MP S Q b d ah w' g:=by
 cases h with
 |step b hs ho nx h hw i1 i2=>
  exact .step b hs ho nx (fun a c t j x=>h a c t j (S.trans r x)) (fun e a c t j x=>hw e a c t j (S.trans r x)) (fun a c t j x=>i1 a c t j (S.trans r x)) (fun a c t j x=>i2 a c t j (S.trans r x))
theorem MP.mk {b:Bool}{d:Nat}{γ:Γ}{w:World}{g:Goroutine}(hs:g.status= .running)(ho:b=true→g.offers=none)
  (hw:b=true→∀ah w' t j,S.R 0 γ w ah w'→S.J ah w' t j→Deaf t 0=d→S.Bl ah w'→DD S ah w' j g)
  (h:∀ah w' t j,S.R 0 γ w ah w'→S.J ah w' t j→Deaf t 0=d→(b=true→¬S.Bl ah w')→∃z:Nz Γ,Uo S Q ah w' t j g z∧(∀x b',z= .go x b'→MP S Q b' (deafBehind d x.es) x.γ x.w x.g)∧∀x b',z= .spawn x b'→MP S Q b' (deafBehind d x.es) x.γ x.w x.g):MP S Q b d γ w g:=by
 have key:∀i:Γ×World×Trace×Nat,∃z:Nz Γ,S.R 0 γ w i.1 i.2.1→S.J i.1 i.2.1 i.2.2.1 i.2.2.2→Deaf i.2.2.1 0=d→(b=true→¬S.Bl i.1 i.2.1)→
   (Uo S Q i.1 i.2.1 i.2.2.1 i.2.2.2 g z∧(∀x b',z= .go x b'→MP S Q b' (deafBehind d x.es) x.γ x.w x.g)∧∀x b',z= .spawn x b'→MP S Q b' (deafBehind d x.es) x.γ x.w x.g):=by
  rintro⟨ah,w',t,j⟩;by_cases hh:S.R 0 γ w ah w'∧S.J ah w' t j∧Deaf t 0=d∧(b=true→¬S.Bl ah w')
  ·obtain⟨z,hz⟩:=h ah w' t j hh.1 hh.2.1 hh.2.2.1 hh.2.2.2
   exact⟨z,fun _ _ _ _=>hz⟩
  ·exact⟨.fin (.exit 0) w #[],fun a1 a2 a3 a4=>absurd ⟨a1,a2,a3,a4⟩ hh⟩
 exact .step b hs ho (fun ah w' t j=>(key (ah,w',t,j)).choose) (fun ah w' t j a1 a2 a3 a4=>((key (ah,w',t,j)).choose_spec a1 a2 a3 a4).1) hw
  (fun ah w' t j a1 a2 a3 a4=>((key (ah,w',t,j)).choose_spec a1 a2 a3 a4).2.1) (fun ah w' t j a1 a2 a3 a4=>((key (ah,w',t,j)).choose_spec a1 a2 a3 a4).2.2)
theorem MP.go {d:Nat}{γ:Γ}{w:World}{g:Goroutine}(hs:g.status= .running)
  (h:∀ah w' t j,S.R 0 γ w ah w'→S.J ah w' t j→Deaf t 0=d→∃(x:Nx Γ) (b':Bool),oY S 0 true ah w' t j g x∧MP S Q b' (deafBehind d x.es) x.γ x.w x.g):MP S Q false d γ w g:=
 .mk hs nofun nofun fun ah w' t j a1 a2 a3 _=>by
  obtain⟨x,b',h1,h2⟩:=h ah w' t j a1 a2 a3;exact⟨.go x b',h1,fun y c e=>(by cases e;exact h2),fun y c e=>(by cases e)⟩
def zh (S:Sys P Γ)(Q:Γ→World→Trace→Nat→Outcome→World→Prop)(m:Machine)(t:Trace):Prop:=
 ∃M eJ w' Bh t' ah w2 j' o w1 ops,runNT P M m t=(.next (crowd eJ w' Bh),t')∧stepT P (crowd eJ w' Bh)=(.ended o w1,ops)∧Q ah w2 (t'++ops) j' o w1∧S.J ah w2 t' j'∧eJ.size=j'+1∧
  ∀k,1≤k→k≤j'→∃x,eJ[k]?=some x∧(S.dG ah k→∃n,QuitsD P n (Deaf (t'++ops) k) x)
theorem zh.next {m m':Machine}{t:Trace}{ops:Array MemOp}(h:stepT P m=(.next m',ops))(r:zh S Q m' (t++ops)):zh S Q m t:=by
 obtain⟨M,eJ,w',Bh,t',ah,w2,j',o,w1,ur,h1,h2⟩:=r;refine⟨M+1,eJ,w',Bh,t',ah,w2,j',o,w1,ur,?_,h2⟩;simp only[runNT,h];exact h1
end
end Go.Proofs.YtjklkppncmhehaaGreat.Sr
namespace Go.Proofs.YtjklkppncmhehaaGreat.Sr
open Go Go.Conc
section
variable {P:Program}{Γ:Type}(S:Sys P Γ)(Q:Γ→World→Trace→Nat→Outcome→World→Prop)
def oZ (g:Goroutine):Bool→Goroutine
 |true=>g
 |false=>{g with status:= .blocked}
structure St (gs:Array Goroutine) (w:World) (t:Trace) (γ:Γ) (j:Nat) (mE:Tr) (eR:Nat→Tr) (b run:Bool) (g:Goroutine):Prop where
 size:gs.size=j+1
 inv:S.J γ w t j
 main:uy S Q mE b (Deaf t 0) γ w g
 OD:gs[0]?=some (oZ g run)
 blk:run=false→b=true∧S.Bl γ w
 wk:∀k,1≤k→k≤j→∃x,gs[k]?=some x∧ya S k (eR k) (Deaf t k) γ w x
variable {S Q}
theorem uy.run {ρ:Tr}{b:Bool}{d:Nat}{γ:Γ}{w:World}{g:Goroutine}(h:uy S Q ρ b d γ w g):g.status= .running∧(b=true→g.offers=none):=by
 cases h with
 |step _ hs ho=>exact⟨hs,ho⟩
theorem ya.status {k d:Nat}{ρ:Tr}{γ:Γ}{w:World}{g:Goroutine}(h:ya S k ρ d γ w g):g.status= .running∨g.status= .finished:=by
 cases h with
 |quit n h _=>exact h.status
 |step hs=>exact .inl hs
theorem nq {P:Program}{g g':Goroutine}{w':World}{o:Goroutine}(h:o.status= .running∨o.status= .finished):woken P g g' w' o=o:=by
 unfold woken;split
 ·exact again_running _ h
 ·rfl
variable {gs:Array Goroutine}{w:World}{t:Trace}{γ:Γ}{j:Nat}{mE:Tr}{eR:Nat→Tr}{b run:Bool}{g:Goroutine}
theorem St.draw (h:St S Q gs w t γ j mE eR b run g)(d:Nat):St S Q gs (w.at d) t γ j mE eR b run g:=
 ⟨h.size,S.Q9 d h.inv,h.main.rely (S.zg _ _ _ d),h.OD,fun e=>⟨(h.blk e).1,(S.M0 _ _ d).2 (h.blk e).2⟩,fun k k1 kj=>let⟨x,h1,h2⟩:=h.wk k k1 kj;⟨x,h1,h2.rely (S.zg _ _ _ d)⟩⟩
theorem eG {i:Nat}{fn:FuncId}{pos:String}{es:Array Event}:∀op∈MemOp.ofEvents i fn pos es,op.g=i:=by
 intro op aZ;rw[ofEvents_eq]at aZ;obtain⟨e,_,rfl⟩:=Array.mem_map.1 aZ;rfl
theorem St.worker (h:St S Q gs w t γ j mE eR b run g){i:Nat}{x:Goroutine}(i1:1≤i)(hi:gs[i]?=some x)(hx:x.status= .running):
  ∃x' w' es ah sH run',stepG P false x w= .go x' w' es∧Ks (j+1) sH eR∧St S Q ((gs.map (woken P x x' w')).setIfInBounds i x') w' (t++MemOp.ofEvents i x.frame.fn x.frame.place es) ah j mE sH b run' g:=by
 have lp:i≤j:=by have:=(Array.getElem?_eq_some_iff.1 hi).1;rw[h.size]at this;omega
 obtain⟨x2,OE,hw⟩:=h.wk i i1 lp;rw[hi]at OE;obtain rfl:=Option.some.inj OE
 obtain⟨Ra,YF⟩:=h.main.run;have fin:∀(x':Goroutine) (w':World) (es:Array Event) (ah:Γ) (ρ':Tr),stepG P false x w= .go x' w' es→Tr.Lt ρ' (eR i)→S.J ah w' (t++MemOp.ofEvents i x.frame.fn x.frame.place es) j→(∀k,k≠i→S.R k γ w ah w')→
   (S.Bl γ w→¬S.Bl ah w'→mayWake P x=true∧x'.status= .running)→ya S i ρ' (deafBehind (Deaf t i) es) ah w' x'→
   ∃x' w' es ah sH run',stepG P false x w= .go x' w' es∧Ks (j+1) sH eR∧St S Q ((gs.map (woken P x x' w')).setIfInBounds i x') w' (t++MemOp.ofEvents i x.frame.fn x.frame.place es) ah j mE sH b run' g:=by
  intro x' w' es ah ρ' hgo ai hJ hR WA hW;let sH:Nat→Tr:=fun k=>if k=i then ρ' else eR k
  have e0:sH i=ρ':=if_pos rfl
  have e1:∀k,k≠i→sH k=eR k:=fun k hk=>if_neg hk
  have WB:∃run',woken P x x' w' (oZ g run)=oZ g run'∧(run'=false→run=false∧¬(mayWake P x=true∧x'.status= .running)):=by
   cases run with
   |true=>exact⟨true,nq (.inl Ra),nofun⟩
   |false=>
    have hb:=(h.blk rfl).1;unfold woken;split
    ·refine⟨true,?_,nofun⟩
     have ho:=YF hb;obtain⟨f,c,s,dd,o⟩:=g;dsimp only at Ra ho
     subst Ra ho;rfl
    ·rename_i hc
     refine⟨false,rfl,fun _=>⟨rfl,fun⟨c1,c2⟩=>hc ?_⟩⟩
     rw[c1,c2];rfl
  obtain⟨run',aD,dm⟩:=WB;refine⟨x',w',es,ah,sH,run',hgo,⟨i,by omega,by rw[e0];exact ai,e1⟩,by simp[h.size],hJ,?_,?_,fun e=>?_,fun k k1 kj=>?_⟩
  ·rw[Deaf_other t (by omega) _ eG]
   exact h.main.rely (hR 0 (by omega))
  ·rw[Array.getElem?_setIfInBounds_ne (by omega),Array.getElem?_map,h.OD,Option.map_some,aD]
  ·obtain⟨r1,r2⟩:=dm e
   obtain⟨hb,Bi⟩:=h.blk r1;exact⟨hb,Classical.byContradiction fun hn=>r2 (WA Bi hn)⟩
  ·by_cases hk:k=i
   ·subst hk
    refine⟨x',by rw[Array.getElem?_setIfInBounds_self_of_lt (by simp[h.size];omega)],?_⟩
    rw[e0,Deaf_own];exact hW
   ·obtain⟨y,hy,qn⟩:=h.wk k k1 kj
    refine⟨y,by rw[Array.getElem?_setIfInBounds_ne (Ne.symm hk),Array.getElem?_map,hy,Option.map_some,nq qn.status],?_⟩
    rw[e1 k hk,Deaf_other t (Ne.symm hk) _ eG];exact qn.rely (hR k hk)
 generalize fq:eR i=ρ at hw fin
 cases hw with
 |quit n hq hg=>
  cases n with
  |zero=>rw[hq.1]at hx;cases hx
  |succ n=>
   rcases hq with⟨hf,_⟩|⟨_,x',es,hm,bk,Uh⟩
   ·rw[hf]at hx;cases hx
   exact fin x' w es γ _ (bk w) (Tr.Un n) (S.mute _ _ _ h.inv (hg _ _ (S.refl _ _ _)) i1 lp hm) (fun k _=>S.refl _ _ _) (fun a c=>absurd a c) (.quit n Uh hg)
 |step hs hg nx ρn cl hr ih=>
  obtain⟨⟨a1,a2,a3⟩,a4⟩:=cl γ w t j (S.refl _ _ _) h.inv rfl lp;exact fin _ _ _ _ _ a1 (hr γ w t j (S.refl _ _ _) h.inv rfl lp) a2 a3 a4 (ih γ w t j (S.refl _ _ _) h.inv rfl lp)
theorem DE (i:Nat)(fn:FuncId)(pos:String):MemOp.ofEvents i fn pos #[]= #[]:=by rw[ofEvents_eq];simp
theorem St.sleep (h:St S Q gs w t γ j mE eR b true g)(hb:b=true)(Bi:S.Bl γ w):St S Q ((gs.map (woken P g {g with status:= .blocked} w)).setIfInBounds 0 {g with status:= .blocked}) w (t++MemOp.ofEvents 0 g.frame.fn g.frame.place #[]) γ j mE eR b false g:=by
 rw[DE,Array.append_empty];refine⟨by simp[h.size],h.inv,h.main,by simp[h.size,oZ],fun _=>⟨hb,Bi⟩,fun k k1 kj=>?_⟩
 obtain⟨y,hy,qn⟩:=h.wk k k1 kj;exact⟨y,by rw[Array.getElem?_setIfInBounds_ne (by omega),Array.getElem?_map,hy,Option.map_some,nq qn.status],qn⟩
theorem St.go (h:St S Q gs w t γ j mE eR b true g){x:Nx Γ}(cl:oY S 0 true γ w t j g x){Rb:Tr}{b':Bool}(hm:uy S Q Rb b' (deafBehind (Deaf t 0) x.es) x.γ x.w x.g):
  St S Q ((gs.map (woken P g x.g x.w)).setIfInBounds 0 x.g) x.w (t++MemOp.ofEvents 0 g.frame.fn g.frame.place x.es) x.γ j Rb eR b' true x.g:=by
 refine⟨by simp[h.size],cl.inv,by rw[Deaf_own];exact hm,by simp[h.size,oZ],nofun,fun k k1 kj=>?_⟩
 obtain⟨y,hy,qn⟩:=h.wk k k1 kj;refine⟨y,by rw[Array.getElem?_setIfInBounds_ne (by omega),Array.getElem?_map,hy,Option.map_some,nq qn.status],?_⟩
 rw[Deaf_other t (by omega) _ eG]
 exact qn.rely (cl.Q_ k (by omega))
theorem St.spawn (h:St S Q gs w t γ j mE eR b true g){x:Ny Γ}(cl:Gc S γ w t j g x){Rb WC:Tr}{b':Bool}(hm:uy S Q Rb b' (deafBehind (Deaf t 0) x.es) x.γ x.w x.g)(hc:ya S (j+1) WC 0 x.γ x.w x.c):
  St S Q ((gs.setIfInBounds 0 x.g).push x.c) x.w (t++((MemOp.ofEvents 0 g.frame.fn g.frame.place x.es).push {g:=0,fn:=g.frame.fn,pos:=g.frame.place,act:= .go (j+1)}|>.push {g:=j+1,fn:=x.c.frame.fn,pos:=g.frame.place,act:= .start})) x.γ (j+1) Rb (fun k=>if k=j+1 then WC else eR k) b' true x.g:=by
 have e2:(t++((MemOp.ofEvents 0 g.frame.fn g.frame.place x.es).push {g:=0,fn:=g.frame.fn,pos:=g.frame.place,act:= .go (j+1)}|>.push {g:=j+1,fn:=x.c.frame.fn,pos:=g.frame.place,act:= .start}))=
   ((t++MemOp.ofEvents 0 g.frame.fn g.frame.place x.es)++ #[{g:=0,fn:=g.frame.fn,pos:=g.frame.place,act:= .go (j+1)}])++ #[{g:=j+1,fn:=x.c.frame.fn,pos:=g.frame.place,act:= .start}]:=by
  apply Array.ext';simp
 have d1:∀k,k≠0→Deaf ((t++MemOp.ofEvents 0 g.frame.fn g.frame.place x.es)++ #[{g:=0,fn:=g.frame.fn,pos:=g.frame.place,act:= .go (j+1)}]) k=Deaf t k:=by
  intro k hk;rw[Deaf_other _ (g':=0) (by omega) _ (by simp),Deaf_other t (by omega) _ eG]
 have s0:∀(u:Trace) (k:Nat) (y:MemOp),y.act= .start∨(∃q,y.act= .go q)→Deaf (u++ #[y]) k=Deaf u k:=by
  intro u k y hy;have:=Deaf_append u k [y]
  simp only[List.foldl_cons,List.foldl_nil]at this;rw[show u++ #[y]=u++[y].toArray from rfl,this]
  unfold deafStep;rcases hy with hy|⟨q,hy⟩<;>rw[hy]
 rw[e2];refine⟨by simp[h.size],by have:=cl.inv;simp only at this;rwa[e2]at this,?_,by rw[Array.getElem?_push,if_neg (by simp[h.size]),Array.getElem?_setIfInBounds_self_of_lt (by simp[h.size])];rfl,nofun,fun k k1 kj=>?_⟩
 ·rw[s0 _ _ _ (.inl rfl),s0 _ _ _ (.inr ⟨_,rfl⟩),Deaf_own]
  exact hm
 ·have bY:0≠k:=by omega
  by_cases hk:k=j+1
  ·subst hk
   refine⟨x.c,by rw[Array.getElem?_push,if_pos (by simp[h.size])],?_⟩
   rw[s0 _ _ _ (.inl rfl),d1 _ (by omega),Go.ConcN.Deaf_absent fun i op hi e=>by have:=S.M7 h.inv i op hi;omega]
   simp only[if_true];exact hc
  ·obtain⟨y,hy,qn⟩:=h.wk k k1 (by omega)
   refine⟨y,?_,?_⟩
   ·rw[Array.getElem?_push,if_neg (by simp[h.size];omega),Array.getElem?_setIfInBounds_ne bY,hy]
   ·rw[s0 _ _ _ (.inl rfl),d1 _ (by omega)]
    simp only[if_neg hk];exact qn.rely (cl.Q_ k (by omega) (by omega))
theorem St.runs (a0:Acc Tr.Lt mE):∀(j:Nat) (eR:Nat→Tr) (run:Bool) (gs:Array Goroutine) (w:World) (sl:Option (Nat×Nat)) (t:Trace) (γ:Γ) (b:Bool) (g:Goroutine),St S Q gs w t γ j mE eR b run g→zh S Q (crowd gs w sl) t:=by
 induction a0 with
 |intro mE _ YG=>
  intro j eR;induction Ks.acc (j+1) eR with
  |intro eR _ Dz=>
   have core:∀run:Bool,(run=true→∀gs w sl t γ b g,St S Q gs w t γ j mE eR b false g→zh S Q (crowd gs w sl) t)→∀gs w sl t γ b g,St S Q gs w t γ j mE eR b run g→zh S Q (crowd gs w sl) t:=by
    intro run iI gs w sl t γ b g h;have haw:∀x∈gs,awake x:=by
     intro x hx;obtain⟨i,hi,rfl⟩:=Array.mem_iff_getElem.1 hx;rcases Nat.eq_zero_or_pos i with rfl|cX
     ·have:gs[0]=oZ g run:=by simpa[Array.getElem?_eq_getElem hi]using h.OD
      rw[this]
      cases run with
      |true=>exact awake_of (.inl h.main.run.1)
      |false=>exact awake_of (.inr (.inl rfl))
     ·have lp:i≤j:=by rw[h.size]at hi;omega
      obtain⟨y,hy,qn⟩:=h.wk i cX lp;rw[Array.getElem?_eq_getElem hi]at hy;rw[Option.some.inj hy];exact awake_of (qn.status.elim .inl fun x=> .inr (.inr x))
    have zi:∃(i:Nat) (x:Goroutine),gs[i]?=some x∧x.status= .running:=by
     cases run with
     |true=>exact⟨0,g,h.OD,h.main.run.1⟩
     |false=>
      obtain⟨hb,Bi⟩:=h.blk rfl;have hm:=h.main
      cases hm with
      |step _ _ _ _ _ _ hw _ _ _=>
       obtain⟨_,k,k1,kj,hg⟩:=hw hb γ w t j (S.refl _ _ _) h.inv rfl Bi;obtain⟨y,hy,qn⟩:=h.wk k k1 kj;generalize eR k=ρk at qn
       cases qn with
       |quit n hq bh=>exact absurd (bh _ _ (S.refl _ _ _)) hg
       |step hs=>exact⟨k,y,hy,hs⟩
    obtain⟨i,x,d,Bh,hi,hx,bk⟩:=crowd_pick (P:=P) (w:=w) (sl:=sl) haw zi;have h':=h.draw d;rcases Nat.eq_zero_or_pos i with rfl|cX
    ·rw[h.OD]at hi
     obtain rfl:=Option.some.inj hi
     cases run with
     |false=>cases hx
     |true=>
      have tA:=h'.OD;simp only[oZ]at tA bk;have hm:=h'.main;by_cases DF:b=true∧S.Bl γ (w.at d)
      ·obtain⟨hb,Bi⟩:=DF
       cases hm with
       |step _ _ _ _ _ _ hw _ _ _=>
        obtain⟨hgo,_⟩:=hw hb γ _ t j (S.refl _ _ _) h'.inv rfl Bi;exact zh.next (bk.trans (runT_crowd_go (i:=0) tA (show stepG P (0==0) g (w.at d)=_ from hgo))) (iI rfl _ _ _ _ _ _ _ (h'.sleep hb Bi))
      ·have tB:b=true→¬S.Bl γ (w.at d):=fun e Bi=>DF ⟨e,Bi⟩
       cases hm with
       |step _ hs ho nx ρn cl hw hr i1 i2=>
        have sI:=cl γ _ t j (S.refl _ _ _) h'.inv rfl tB;have ai:=hr γ (w.at d) t j
        cases hn:nx γ (w.at d) t j with
        |go y b'=>
         rw[hn]at sI;have Gd:=i1 γ _ t j (S.refl _ _ _) h'.inv rfl tB y b' hn;exact zh.next (bk.trans (runT_crowd_go (i:=0) tA (show stepG P (0==0) g (w.at d)=_ from sI.go))) (YG _ ai _ _ _ _ _ _ _ _ _ _ (h'.go sI Gd))
        |spawn y b'=>
         rw[hn]at sI;obtain⟨sI,hc⟩:=sI;obtain⟨WC,hc⟩:=hc.DC;have Gd:=i2 γ _ t j (S.refl _ _ _) h'.inv rfl tB y b' hn;have iD:=runT_crowd_spawn (sl:=Bh) (i:=0) tA (show stepG P (0==0) g (w.at d)=_ from sI.go)
         rw[h'.size]at iD;exact zh.next (bk.trans iD) (YG _ ai _ _ _ _ _ _ _ _ _ _ (h'.spawn sI Gd hc))
        |fin o w1 es=>
         rw[hn]at sI;obtain⟨zj,hq⟩:=sI;refine⟨0,gs,w,sl,t,γ,w.at d,j,o,w1,_,rfl,bk.trans (runT_many_ended (i:=0) tA (show stepG P (0==0) g (w.at d)=_ from zj)),hq,h'.inv,h.size,fun k k1 kj=>?_⟩
         obtain⟨y,hy,qn⟩:=h'.wk k k1 kj;refine⟨y,hy,fun hg=>?_⟩
         rw[Deaf_other t (by omega) _ eG]
         generalize eR k=ρk at qn
         cases qn with
         |quit n hq bh=>exact⟨n,hq⟩
         |step _ bh=>exact absurd hg (bh _ _ (S.refl _ _ _))
    ·obtain⟨x',w',es,ah,sH,run',hgo,ai,hS⟩:=h'.worker cX hi hx
     have DG:(i==0)=false:=by simp;omega
     exact zh.next (bk.trans (runT_crowd_go (i:=i) hi (by rw[DG];exact hgo))) (Dz _ ai _ _ _ _ _ _ _ _ hS)
   intro run
   cases run with
   |false=>exact core false nofun
   |true=>exact core true fun _=>core false nofun
end
end Go.Proofs.YtjklkppncmhehaaGreat.Sr
namespace Go.Proofs.YtjklkppncmhehaaGreat.Sr
open Go Go.Conc Go.ConcN
inductive jS|busy|said|off
 deriving DecidableEq
inductive WM|op|cp|la (k:Nat)|lb (k:Nat)|rel
 deriving DecidableEq
structure Ph where
 wg:Nat
 A:Nat
 n:Nat
 j0:Nat
 ng:Nat→Nat→Value
 eW:TypeId
 eA:TypeId
structure Gh where
 ow:Nat→Nat→Prop
 ro:Nat→Nat→Prop
 sh:Nat→Prop
 st:Nat→jS
 wm:WM
 ph:Option Ph
 extra:Nat
 j:Nat
def bI:Loc→Option Nat
 | .cell a=>some a.block
 | .obj r=>some r
 |_=>none
def Gh.Slot (γ:Gh)(k:Nat)(a:Addr):Prop:=∃p,γ.ph=some p∧p.j0<k∧a.block=p.A∧5*(k-p.j0-1)≤a.off∧a.off<5*(k-p.j0-1)+5
def Gh.Sh (γ:Gh):Loc→Prop:=fun l=>∃a,l= .cell a∧γ.sh a.block
def Gh.Own (γ:Gh):Nat→Loc→Prop:=fun k l=>(∃b,bI l=some b∧γ.ow k b)∨∃a,l= .cell a∧γ.Slot k a
def Gh.Rd (γ:Gh):Nat→Loc→Prop:=fun k l=>∃b,bI l=some b∧γ.ro k b
structure BA (γ:Gh):Prop where
 ow:∀k k' b,γ.ow k b→γ.ow k' b→k=k'
 qH:∀k k' b,γ.ow k b→¬γ.ro k' b
 sJ:∀k b,γ.ow k b→¬γ.sh b
 uz:∀k b,γ.ro k b→¬γ.sh b
 A:∀p,γ.ph=some p→(∀k,¬γ.ow k p.A∧¬γ.ro k p.A)∧¬γ.sh p.A
theorem BA.apart {γ:Gh}(h:BA γ):Apart γ.Sh γ.Own γ.Rd:=by
 refine⟨?_,?_,?_,?_⟩
 ·rintro k k' l (⟨b,hb,ho⟩|⟨a,rfl,p,hp,hk,hA,h1,h2⟩) (⟨b',cD,qm⟩|⟨a',e,p',bc,cc,vY,js,nS⟩)
  ·rw[hb]at cD;cases cD;exact h.ow _ _ _ ho qm
  ·subst e;cases hb;rw[vY]at ho;exact absurd ho ((h.A p' bc).1 k).1
  ·cases cD;rw[hA]at qm;exact absurd qm ((h.A p hp).1 k').1
  ·cases e;rw[hp]at bc;cases bc;omega
 ·rintro k k' l (⟨b,hb,ho⟩|⟨a,rfl,p,hp,hk,hA,h1,h2⟩) ⟨b',cD,hr⟩
  ·rw[hb]at cD;cases cD;exact h.qH _ _ _ ho hr
  ·cases cD;rw[hA]at hr;exact((h.A p hp).1 k').2 hr
 ·rintro k l (⟨b,hb,ho⟩|⟨a,rfl,p,hp,hk,hA,h1,h2⟩) ⟨a',e,hs⟩
  ·subst e;cases hb;exact h.sJ _ _ ho hs
  ·cases e;rw[hA]at hs;exact(h.A p hp).2 hs
 ·rintro k l ⟨b,hb,hr⟩ ⟨a',rfl,hs⟩
  cases hb;exact h.uz _ _ hr hs
structure TJ (γ:Gh) (B:Nat) (t:Trace) (j:Nat):Prop where
 ct:CT γ.Sh γ.Own γ.Rd t j
 low:∀op∈t,op.act.low B
 over:∀i g,t.g? i=some g→g≠0→t.counts i→(∃q,t.g? q=some 0∧HappensBefore t i q)∨∃p,γ.ph=some p∧p.j0<g
 rel:∀p,γ.ph=some p→∀k,p.j0<k→k≤j→γ.st k≠.busy→∃r,RelBy ⟨p.wg,0,none⟩ t k r∧∀i x,r<i→t.g? i=some k→touchAt t i=some x→γ.Sh x.loc
 norel:∀p,γ.ph=some p→NoRelease ⟨p.wg,0,none⟩ t
 old:∀i x g,touchAt t i=some x→¬γ.Sh x.loc→t.g? i=some g→Knows t 0 i∨∃p,γ.ph=some p∧p.j0<g
section
variable {γ ah:Gh}{B B':Nat}{t u:Trace}{j k:Nat}{fn:FuncId}{pos:String}{es:Array Event}
def kg (t:Trace)(l:Loc):Prop:=∀i x,touchAt t i=some x→x.loc≠l
theorem kg.perm {l:Loc}(h:kg t l)(g:Nat):Perm t g l:=fun i x hx e=>absurd e (h i x hx)
theorem nu {l:Loc}{b:Nat}(h:∀op∈t,op.act.low B)(hb:bI l=some b)(hB:B≤b):kg t l:=by
 intro i x hx e;obtain⟨op,ho,lW⟩:=touch_of hx;have hl:=h op (Array.mem_of_getElem? ho);revert lW hl
 cases op.act with
 |access ev=>
  intro lW hl;simp only[MemAct.touch?,Option.some.injEq]at lW;subst lW;dsimp only at e
  simp only[MemAct.low,e]at hl
  cases l<;>simp_all[bI,Loc.low]<;>omega
 |mark m=>
  intro lW hl
  cases m<;>simp[MemAct.touch?]at lW<;>subst lW<;>dsimp only at e<;>subst e<;>simp_all[bI,MemAct.low]<;>omega
 |_=>intro lW;simp[MemAct.touch?]at lW
theorem o8 {Sh Up:Loc→Prop}{Own M8 Rd WD:Nat→Loc→Prop}(h:CT Sh Own Rd t j)(h1:∀l,Up l→Sh l∨kg t l)
  (h2:∀k,1≤k→k≤j→∀l,M8 k l→Own k l∨kg t l) (h3:∀k,1≤k→k≤j→∀l,WD k l→Rd k l∨kg t l)
  (h4:∀l,¬Up l→(∀k,1≤k→k≤j→¬M8 k l∧¬WD k l)→(¬Sh l∧∀k,1≤k→k≤j→¬Own k l∧¬Rd k l)∨Perm t 0 l)
  (h5:∀l,¬Up l→(∀k,1≤k→k≤j→¬M8 k l)→(¬Sh l∧∀k,1≤k→k≤j→¬Own k l)∨PermW t 0 l):CT Up M8 WD t j:=by
 refine⟨fun i op x hi hx hs=>?_,fun k k1 kj l hl=>?_,fun k k1 kj l hl=>?_,fun l hs hl=>?_,fun l hs hl=>?_,h.nr,h.gs⟩
 ·rcases h1 _ hs with h'|h'
  ·exact h.quiet i op x hi hx h'
  ·exact absurd rfl (h' i x (by rw[touchAt_of hi];exact hx))
 ·exact(h2 k k1 kj l hl).elim (h.own k k1 kj l) (·.perm k)
 ·exact(h3 k k1 kj l hl).elim (h.rd k k1 kj l) (fun x=> .of (x.perm k))
 ·exact(h4 l hs hl).elim (fun x=>h.free l x.1 x.2) id
 ·exact(h5 l hs hl).elim (fun x=>h.mine l x.1 x.2) id
theorem fw {op:MemOp}{i:Nat}(h:op∈MemOp.ofEvents i fn pos es):∃e∈es,op.g=i∧op.act= .ofEvent e:=by
 rw[ofEvents_eq]at h;obtain⟨e,he,rfl⟩:=Array.mem_map.1 h;exact⟨e,he,rfl,rfl⟩
theorem vZ (h:∀i g,t.g? i=some g→g≠0→t.counts i→(∃q,t.g? q=some 0∧HappensBefore t i q)∨∃p,γ.ph=some p∧p.j0<g)
  (hu:∀op∈u,op.g=0∨op.act.touch?=none∨∃p,γ.ph=some p∧p.j0<op.g):∀i g,(t++u).g? i=some g→g≠0→(t++u).counts i→(∃q,(t++u).g? q=some 0∧HappensBefore (t++u) i q)∨∃p,γ.ph=some p∧p.j0<g:=by
 intro i g hg bY hc;obtain⟨x,hx,_⟩:=hc;obtain⟨op,aZ,lW⟩:=touch_of hx;have hgo:op.g=g:=by simpa[Trace.g?,aZ]using hg
 rcases getElem?_append_cases aZ with⟨hi,M9⟩|⟨_,Rc⟩
 ·rcases h i g (by simp[Trace.g?,M9,hgo]) bY ((counts_old hi).1 ⟨x,hx,‹_›⟩)with⟨q,hq,hb⟩|h'
  ·have WE:q<t.size:=by
    unfold Trace.g? at hq;obtain⟨z,hz,_⟩:=Option.map_eq_some_iff.1 hq;exact lt_size_of_getElem? hz
   exact .inl ⟨q,by simpa[Trace.g?,getElem?_append_old WE]using hq,hb_app u hb⟩
  ·exact .inr h'
 ·rcases hu op Rc with h0|h0|h0
  ·exact absurd (hgo.symm.trans h0) bY
  ·rw[h0]at lW;cases lW
  ·exact .inr (hgo▸h0)
theorem qe {i:Nat}{x:Touch}(h:touchAt (t++u) i=some x):touchAt t i=some x∧i<t.size∨∃op∈u,op.act.touch?=some x∧(t++u).g? i=some op.g:=by
 obtain⟨op,ho,lW⟩:=touch_of h;rcases getElem?_append_cases ho with⟨hi,qm⟩|⟨_,hou⟩
 ·exact .inl ⟨by rw[touchAt_of qm];exact lW,hi⟩
 ·exact .inr ⟨op,hou,lW,by simp[Trace.g?,ho]⟩
theorem uA (h:∀i x g,touchAt t i=some x→¬γ.Sh x.loc→t.g? i=some g→Knows t 0 i∨∃p,γ.ph=some p∧p.j0<g)
  (hu:∀op∈u,op.g=0∨(∀x,op.act.touch?=some x→γ.Sh x.loc)∨∃p,γ.ph=some p∧p.j0<op.g):∀i x g,touchAt (t++u) i=some x→¬γ.Sh x.loc→(t++u).g? i=some g→Knows (t++u) 0 i∨∃p,γ.ph=some p∧p.j0<g:=by
 intro i x g hx hs hg;obtain⟨op,aZ,lW⟩:=touch_of hx;have hgo:op.g=g:=by simpa[Trace.g?,aZ]using hg
 rcases getElem?_append_cases aZ with⟨hi,M9⟩|⟨_,Rc⟩
 ·exact(h i x g (by rw[touchAt_of M9];exact lW) hs (by simp[Trace.g?,M9,hgo])).imp (·.app u) id
 ·rcases hu op Rc with h0|h0|h0
  ·have:=knows_own aZ
   rw[h0]at this;exact .inl this
  ·exact absurd (h0 x lW) hs
  ·exact .inr (hgo▸h0)
theorem mF {a:Addr}{r g:Nat}{Sh:Loc→Prop}(h:RelBy a t k r∧∀i x,r<i→t.g? i=some k→touchAt t i=some x→Sh x.loc)(hu:∀op∈u,op.g=g)(hg:g≠k):
  RelBy a (t++u) k r∧∀i x,r<i→(t++u).g? i=some k→touchAt (t++u) i=some x→Sh x.loc:=by
 refine⟨h.1.appOther hu hg,fun i x hi qp hx=>?_⟩
 rcases qe hx with⟨h1,ai⟩|⟨op,aZ,_,h2⟩
 ·exact h.2 i x hi (by rwa[g?_old ai]at qp) h1
 ·rw[h2,Option.some.injEq]at qp
  exact absurd ((hu op aZ).symm.trans qp) hg
def OF (γ:Gh)(k B:Nat)(e:Event):Prop:=(∀x,(MemAct.ofEvent e).touch?=some x→γ.Own k x.loc∨(γ.Rd k x.loc∧x.write=false))∧(MemAct.ofEvent e).low B∧∀a,MemAct.ofEvent e≠.mark (.release a)
theorem TJ.worker (A:BA γ)(h:TJ γ B t j)(hB:B≤B'){p:Ph}(hp:γ.ph=some p)(hk:p.j0<k)(kj:k≤j)(hb:γ.st k= .busy)(dr:∀e∈es,OF γ k B' e):TJ γ B' (t++MemOp.ofEvents k fn pos es) j:=by
 refine⟨h.ct.appW A.apart (by omega) kj fun op aZ=>?_,fun op aZ=>?_,vZ h.over fun op aZ=>?_,fun p' bc k' cc DH hs=>?_,fun p' bc=>(h.norel p' bc).app fun op aZ=>?_,uA h.old fun op aZ=> .inr (.inr ⟨p,hp,(eG op aZ).symm▸hk⟩)⟩
 ·obtain⟨e,he,h1,h2⟩:=fw aZ
  exact⟨h1,fun x hx=> .inr ((dr e he).1 x (h2▸hx))⟩
 ·rcases Array.mem_append.1 aZ with h1|h1
  ·exact MemAct.low_mono hB (h.low op h1)
  ·obtain⟨e,he,_,h2⟩:=fw h1
   rw[h2];exact(dr e he).2.1
 ·obtain⟨e,he,h1,h2⟩:=fw aZ
  exact .inr (.inr ⟨p,hp,h1▸hk⟩)
 ·obtain⟨r,hr⟩:=h.rel p' bc k' cc DH hs
  exact⟨r,mF hr eG fun e=>hs (e▸hb)⟩
 ·obtain⟨e,he,_,h2⟩:=fw aZ
  rw[h2];exact(dr e he).2.2 _
end
end Go.Proofs.YtjklkppncmhehaaGreat.Sr
