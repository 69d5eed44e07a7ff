/-
What is proved: a machine of many goroutines, each of which makes its way whatever the others do within their bounds, comes to its end ('Sys.runs'). Conditions: those that the theorem states. a machine of many goroutines, each of which makes its way whatever the others do within their bounds, comes to its end ('Sys.runs'). Conditions: those that the theorem states. a machine of many goroutines, each of which makes its way whatever the others do within their bounds, comes to its end ('St.runs'). Conditions: those that the theorem states. what holds of the trace of a machine whose goroutines each have blocks of their own, and how it is kept ('TJ'). Conditions: those that each theorem states.
-/
import Derived.Test.YtjklkppncmhehaaGreatProg
import Derived.Conc.Beside
import Derived.Conc.Crowd
import Derived.Conc.CrowdTrace
import Derived.Conc.CrowdBase
set_option linter.unusedVariables false
set_option linter.unusedSimpArgs false
namespace Go.Proofs.YtjklkppncmhehaaGreat.Sr
open Go Go.Conc
inductive Tr:Type 1
 |mk (ι:Type) (f:ι→Tr)
inductive Tr.Lt:Tr→Tr→Prop
 |mk {ι:Type} (f:ι→Tr) (i:ι):Tr.Lt (f i) (.mk ι f)
theorem Tr.acc:∀t:Tr,Acc Tr.Lt t
 | .mk ι f=>⟨_,fun y h=>by cases h with|mk _ i=>exact Tr.acc (f i)⟩
def Tr.nat:Nat→Tr
 |0=> .mk Empty nofun
 |n+1=> .mk Unit fun _=>Tr.nat n
theorem Tr.Qs (n:Nat):Tr.Lt (Tr.nat n) (Tr.nat (n+1)):= .mk (fun _=>Tr.nat n) ()
def G5 (j:Nat)(f g:Nat→Tr):Prop:=∃k,k<j∧Tr.Lt (f k) (g k)∧∀i,i≠k→f i=g i
theorem G5.acc:∀(j:Nat) (f:Nat→Tr),Acc (G5 j) f
 |0,f=>⟨_,fun g ⟨k,hk,_⟩=>by omega⟩
 |j+1,f=>by
  have key:∀x:Tr,Acc Tr.Lt x→∀f:Nat→Tr,f j=x→Acc (G5 (j+1)) f:=by
   intro x hx;induction hx with
   |intro x _ Af=>
    intro f;induction G5.acc j f with
    |intro f _ ve=>
     intro e;refine⟨_,fun g ⟨k,hk,aj,hs⟩=>?_⟩
     by_cases Qt:k=j
     ·subst Qt
      exact Af (g k) (e▸aj) g rfl
     ·exact ve g ⟨k,by omega,aj,hs⟩ ((hs j (Ne.symm Qt)).trans e)
  exact key (f j) (Tr.acc _) f rfl
structure Sys (P:Program) (Γ:Type)where
 J:Γ→World→Trace→Nat→Prop
 R:Nat→Γ→World→Γ→World→Prop
 Bl:Γ→World→Prop
 cV:Γ→Nat→Prop
 refl:∀k γ w,R k γ w γ w
 trans:∀{k a u b v c w},R k a u b v→R k b v c w→R k a u c w
 Ns:∀{γ w t j} (d:Nat),J γ w t j→J γ (w.at d) t j
 vI:∀(k γ w) (d:Nat),R k γ w γ (w.at d)
 Jx:∀(γ w) (d:Nat),Bl γ (w.at d)↔Bl γ w
 Jy:∀{γ w t j},J γ w t j→∀(i:Nat) (op:MemOp),t[i]?=some op→op.g≤j
 mute:∀{γ w t j k} (fn:FuncId) (pos:String) (es:Array Event),J γ w t j→cV γ k→1≤k→k≤j→(∀e∈es,e.mute=true)→J γ w (t++MemOp.ofEvents k fn pos es) j
structure Nx (Γ:Type)where
 g:Goroutine
 w:World
 es:Array Event
 γ:Γ
structure Ny (Γ:Type) extends Nx Γ where
 c:Goroutine
section
variable {P:Program}{Γ:Type}(S:Sys P Γ)
structure mR (k:Nat) (main:Bool) (γ:Γ) (w:World) (t:Trace) (j:Nat) (g:Goroutine) (x:Nx Γ):Prop where
 go:stepG P main g w= .go x.g x.w x.es
 inv:S.J x.γ x.w (t++MemOp.ofEvents k g.frame.fn g.frame.place x.es) j
 Nt:∀k',k'≠k→S.R k' γ w x.γ x.w
structure CO (γ:Γ) (w:World) (t:Trace) (j:Nat) (g:Goroutine) (x:Ny Γ):Prop where
 go:stepG P true g w= .spawn x.g x.c x.w x.es
 inv:S.J x.γ x.w ((MemOp.ofEvents 0 g.frame.fn g.frame.place x.es).push {g:=0,fn:=g.frame.fn,pos:=g.frame.place,act:= .go (j+1)}|>.push {g:=j+1,fn:=x.c.frame.fn,pos:=g.frame.place,act:= .start} |>(t++·)) (j+1)
 Nt:∀k',k'≠0→k'≤j→S.R k' γ w x.γ x.w
inductive WP (k:Nat):Nat→Γ→World→Goroutine→Prop
 |quit {d:Nat} {γ:Γ} {w:World} {g:Goroutine} (n:Nat) (h:QuitsD P n d g) (hg:∀af w',S.R k γ w af w'→S.cV af k):WP k d γ w g
 |step {d:Nat} {γ:Γ} {w:World} {g:Goroutine} (hs:g.status= .running) (hg:∀af w',S.R k γ w af w'→¬S.cV af k) (nx:Γ→World→Trace→Nat→Nx Γ)
   (h:∀af w' t j,S.R k γ w af w'→S.J af w' t j→Deaf t k=d→k≤j→mR S k false af w' t j g (nx af w' t j)∧(S.Bl af w'→¬S.Bl (nx af w' t j).γ (nx af w' t j).w→mayWake P g=true∧(nx af w' t j).g.status= .running))
   (ih:∀af w' t j,S.R k γ w af w'→S.J af w' t j→Deaf t k=d→k≤j→WP k (deafBehind d (nx af w' t j).es) (nx af w' t j).γ (nx af w' t j).w (nx af w' t j).g):WP k d γ w g
inductive uH (k:Nat):Tr→Nat→Γ→World→Goroutine→Prop
 |quit {d:Nat} {γ:Γ} {w:World} {g:Goroutine} (n:Nat) (h:QuitsD P n d g) (hg:∀af w',S.R k γ w af w'→S.cV af k):uH k (Tr.nat n) d γ w g
 |step {ρ:Tr} {d:Nat} {γ:Γ} {w:World} {g:Goroutine} (hs:g.status= .running) (hg:∀af w',S.R k γ w af w'→¬S.cV af k) (nx:Γ→World→Trace→Nat→Nx Γ) (dG:Γ→World→Trace→Nat→Tr)
   (h:∀af w' t j,S.R k γ w af w'→S.J af w' t j→Deaf t k=d→k≤j→mR S k false af w' t j g (nx af w' t j)∧(S.Bl af w'→¬S.Bl (nx af w' t j).γ (nx af w' t j).w→mayWake P g=true∧(nx af w' t j).g.status= .running))
   (hr:∀af w' t j,S.R k γ w af w'→S.J af w' t j→Deaf t k=d→k≤j→Tr.Lt (dG af w' t j) ρ)
   (ih:∀af w' t j,S.R k γ w af w'→S.J af w' t j→Deaf t k=d→k≤j→uH k (dG af w' t j) (deafBehind d (nx af w' t j).es) (nx af w' t j).γ (nx af w' t j).w (nx af w' t j).g):uH k ρ d γ w g
variable {S}
theorem WP.uW {k d:Nat}{γ:Γ}{w:World}{g:Goroutine}(h:WP S k d γ w g):∃ρ,uH S k ρ d γ w g:=by
 induction h with
 |quit n h hg=>exact⟨_,.quit n h hg⟩
 | @step d γ w g hs hg nx h _ ih=>
   let dG:Γ→World→Trace→Nat→Tr:=fun af w' t j=>
    open Classical in if x:S.R k γ w af w'∧S.J af w' t j∧Deaf t k=d∧k≤j then(ih af w' t j x.1 x.2.1 x.2.2.1 x.2.2.2).choose else Tr.nat 0
   refine⟨.mk (Γ×World×Trace×Nat) fun i=>dG i.1 i.2.1 i.2.2.1 i.2.2.2,.step hs hg nx dG h (fun af w' t j U h2 h3 h4=> .mk (fun i:Γ×World×Trace×Nat=>dG i.1 i.2.1 i.2.2.1 i.2.2.2) (af,w',t,j)) fun af w' t j U h2 h3 h4=>?_⟩
   have x:S.R k γ w af w'∧S.J af w' t j∧Deaf t k=d∧k≤j:=⟨U,h2,h3,h4⟩
   have e:dG af w' t j=(ih af w' t j U h2 h3 h4).choose:=dif_pos x
   rw[e];exact(ih af w' t j U h2 h3 h4).choose_spec
theorem uH.rely {k d:Nat}{ρ:Tr}{γ af:Γ}{w w':World}{g:Goroutine}(h:uH S k ρ d γ w g)(r:S.R k γ w af w'):uH S k ρ d af w' g:=by
 cases h with
 |quit n h hg=>exact .quit n h fun a b x=>hg a b (S.trans r x)
 |step hs hg nx dG h hr ih=>exact .step hs (fun a b x=>hg a b (S.trans r x)) nx dG (fun a b t j x=>h a b t j (S.trans r x)) (fun a b t j x=>hr a b t j (S.trans r x)) (fun a b t j x=>ih a b t j (S.trans r x))
theorem WP.rely {k d:Nat}{γ af:Γ}{w w':World}{g:Goroutine}(h:WP S k d γ w g)(r:S.R k γ w af w'):WP S k d af w' g:=by
 cases h with
 |quit n h hg=>exact .quit n h fun a b x=>hg a b (S.trans r x)
 |step hs hg nx h ih=>exact .step hs (fun a b x=>hg a b (S.trans r x)) nx (fun a b t j x=>h a b t j (S.trans r x)) (fun a b t j x=>ih a b t j (S.trans r x))
theorem WP.mk {k d:Nat}{γ:Γ}{w:World}{g:Goroutine}(hs:g.status= .running)(hg:∀af w',S.R k γ w af w'→¬S.cV af k)
  (h:∀af w' t j,S.R k γ w af w'→S.J af w' t j→Deaf t k=d→k≤j→∃x:Nx Γ,mR S k false af w' t j g x∧(S.Bl af w'→¬S.Bl x.γ x.w→mayWake P g=true∧x.g.status= .running)∧WP S k (deafBehind d x.es) x.γ x.w x.g):WP S k d γ w g:=by
 let nx:Γ→World→Trace→Nat→Nx Γ:=fun af w' t j=>
  open Classical in if x:S.R k γ w af w'∧S.J af w' t j∧Deaf t k=d∧k≤j then(h af w' t j x.1 x.2.1 x.2.2.1 x.2.2.2).choose else⟨g,w,#[],γ⟩
 have key:∀af w' t j,S.R k γ w af w'→S.J af w' t j→Deaf t k=d→k≤j→mR S k false af w' t j g (nx af w' t j)∧(S.Bl af w'→¬S.Bl (nx af w' t j).γ (nx af w' t j).w→mayWake P g=true∧(nx af w' t j).g.status= .running)∧
   WP S k (deafBehind d (nx af w' t j).es) (nx af w' t j).γ (nx af w' t j).w (nx af w' t j).g:=by
  intro af w' t j U h2 h3 h4;have x:S.R k γ w af w'∧S.J af w' t j∧Deaf t k=d∧k≤j:=⟨U,h2,h3,h4⟩
  have e:nx af w' t j=(h af w' t j U h2 h3 h4).choose:=dif_pos x
  rw[e];exact(h af w' t j U h2 h3 h4).choose_spec
 exact .step hs hg nx (fun af w' t j U h2 h3 h4=>⟨(key af w' t j U h2 h3 h4).1,(key af w' t j U h2 h3 h4).2.1⟩) fun af w' t j U h2 h3 h4=>(key af w' t j U h2 h3 h4).2.2
end
end Go.Proofs.YtjklkppncmhehaaGreat.Sr
namespace Go.Proofs.YtjklkppncmhehaaGreat.Sr
open Go Go.Conc
inductive Nz (Γ:Type)
 |go (x:Nx Γ) (b:Bool)
 |spawn (x:Ny Γ) (b:Bool)
 |fin (o:Outcome) (w:World) (es:Array Event)
section
variable {P:Program}{Γ:Type}(S:Sys P Γ)(Q:Γ→World→Trace→Nat→Outcome→World→Prop)
def Qv (γ:Γ)(w:World)(t:Trace)(j:Nat)(g:Goroutine):Nz Γ→Prop
 | .go x _=>mR S 0 true γ w t j g x
 | .spawn x _=>CO S γ w t j g x∧WP S (j+1) 0 x.γ x.w x.c
 | .fin o w1 es=>stepG P true g w= .ended o w1 es∧Q γ w (t++MemOp.ofEvents 0 g.frame.fn g.frame.place es) j o w1
def Ah (γ:Γ)(w:World)(j:Nat)(g:Goroutine):Prop:=stepG P true g w= .go {g with status:= .blocked} w #[]∧∃k,1≤k∧k≤j∧¬S.cV γ k
inductive MP:Bool→Nat→Γ→World→Goroutine→Prop
 |step {d:Nat} {γ:Γ} {w:World} {g:Goroutine} (b:Bool) (hs:g.status= .running) (ho:b=true→g.offers=none) (nx:Γ→World→Trace→Nat→Nz Γ)
   (h:∀af w' t j,S.R 0 γ w af w'→S.J af w' t j→Deaf t 0=d→(b=true→¬S.Bl af w')→Qv S Q af w' t j g (nx af w' t j))
   (hw:b=true→∀af w' t j,S.R 0 γ w af w'→S.J af w' t j→Deaf t 0=d→S.Bl af w'→Ah S af w' j g)
   (i1:∀af w' t j,S.R 0 γ w af w'→S.J af w' t j→Deaf t 0=d→(b=true→¬S.Bl af w')→∀x b',nx af w' t j= .go x b'→MP b' (deafBehind d x.es) x.γ x.w x.g)
   (i2:∀af w' t j,S.R 0 γ w af w'→S.J af w' t j→Deaf t 0=d→(b=true→¬S.Bl af w')→∀x b',nx af w' t j= .spawn x b'→MP b' (deafBehind d x.es) x.γ x.w x.g):MP b d γ w g
inductive ru:Tr→Bool→Nat→Γ→World→Goroutine→Prop
 |step {ρ:Tr} {d:Nat} {γ:Γ} {w:World} {g:Goroutine} (b:Bool) (hs:g.status= .running) (ho:b=true→g.offers=none) (nx:Γ→World→Trace→Nat→Nz Γ) (dG:Γ→World→Trace→Nat→Tr)
   (h:∀af w' t j,S.R 0 γ w af w'→S.J af w' t j→Deaf t 0=d→(b=true→¬S.Bl af w')→Qv S Q af w' t j g (nx af w' t j))
   (hw:b=true→∀af w' t j,S.R 0 γ w af w'→S.J af w' t j→Deaf t 0=d→S.Bl af w'→Ah S af w' j g)
   (hr:∀af w' t j,Tr.Lt (dG af w' t j) ρ)
   (i1:∀af w' t j,S.R 0 γ w af w'→S.J af w' t j→Deaf t 0=d→(b=true→¬S.Bl af w')→∀x b',nx af w' t j= .go x b'→ru (dG af w' t j) b' (deafBehind d x.es) x.γ x.w x.g)
   (i2:∀af w' t j,S.R 0 γ w af w'→S.J af w' t j→Deaf t 0=d→(b=true→¬S.Bl af w')→∀x b',nx af w' t j= .spawn x b'→ru (dG af w' t j) b' (deafBehind d x.es) x.γ x.w x.g):ru ρ b d γ w g
variable {S Q}
theorem MP.uW {b:Bool}{d:Nat}{γ:Γ}{w:World}{g:Goroutine}(h:MP S Q b d γ w g):∃ρ,ru S Q ρ b d γ w g:=by
 induction h with
 | @step d γ w g b hs ho nx h hw _ _ Af ve=>
   have key:∀i:Γ×World×Trace×Nat,∃ρ,(S.R 0 γ w i.1 i.2.1→S.J i.1 i.2.1 i.2.2.1 i.2.2.2→Deaf i.2.2.1 0=d→(b=true→¬S.Bl i.1 i.2.1)→
     (∀x b',nx i.1 i.2.1 i.2.2.1 i.2.2.2= .go x b'→ru S Q ρ b' (deafBehind d x.es) x.γ x.w x.g)∧∀x b',nx i.1 i.2.1 i.2.2.1 i.2.2.2= .spawn x b'→ru S Q ρ b' (deafBehind d x.es) x.γ x.w x.g):=by
    rintro⟨af,w',t,j⟩;by_cases hh:S.R 0 γ w af w'∧S.J af w' t j∧Deaf t 0=d∧(b=true→¬S.Bl af w')
    ·cases hn:nx af w' t j with
     |go x b'=>
      obtain⟨ρ,ff⟩:=Af af w' t j hh.1 hh.2.1 hh.2.2.1 hh.2.2.2 x b' hn;exact⟨ρ,fun _ _ _ _=>⟨fun y c e=>(by cases e;exact ff),fun y c e=>(by cases e)⟩⟩
     |spawn x b'=>
      obtain⟨ρ,ff⟩:=ve af w' t j hh.1 hh.2.1 hh.2.2.1 hh.2.2.2 x b' hn;exact⟨ρ,fun _ _ _ _=>⟨fun y c e=>(by cases e),fun y c e=>(by cases e;exact ff)⟩⟩
     |fin o w1 es=>exact⟨Tr.nat 0,fun _ _ _ _=>⟨fun y c e=>(by cases e),fun y c e=>(by cases e)⟩⟩
    ·exact⟨Tr.nat 0,fun a b c d=>absurd ⟨a,b,c,d⟩ hh⟩
   refine⟨.mk (Γ×World×Trace×Nat) fun i=>(key i).choose,.step b hs ho nx (fun af w' t j=>(key (af,w',t,j)).choose) h hw (fun af w' t j=> .mk (fun i=>(key i).choose) (af,w',t,j)) (fun af w' t j a1 a2 a3 a4=>((key (af,w',t,j)).choose_spec a1 a2 a3 a4).1) fun af w' t j a1 a2 a3 a4=>((key (af,w',t,j)).choose_spec a1 a2 a3 a4).2⟩
theorem ru.rely {ρ:Tr}{b:Bool}{d:Nat}{γ af:Γ}{w w':World}{g:Goroutine}(h:ru S Q ρ b d γ w g)(r:S.R 0 γ w af w'):ru S Q ρ b d af w' g:=by
 cases h with
 |step b hs ho nx dG h hw hr i1 i2=>
  exact .step b hs ho nx dG (fun a c t j x=>h a c t j (S.trans r x)) (fun e a c t j x=>hw e a c t j (S.trans r x)) hr (fun a c t j x=>i1 a c t j (S.trans r x)) (fun a c t j x=>i2 a c t j (S.trans r x))
theorem MP.rely {b:Bool}{d:Nat}{γ af:Γ}{w w':World}{g:Goroutine}(h:MP S Q b d γ w g)(r:S.R 0 γ w af w'):MP S Q b d af w' g:=by
 cases h with
 |step b hs ho nx h hw i1 i2=>
  exact .step b hs ho nx (fun a c t j x=>h a c t j (S.trans r x)) (fun e a c t j x=>hw e a c t j (S.trans r x)) (fun a c t j x=>i1 a c t j (S.trans r x)) (fun a c t j x=>i2 a c t j (S.trans r x))
theorem MP.mk {b:Bool}{d:Nat}{γ:Γ}{w:World}{g:Goroutine}(hs:g.status= .running)(ho:b=true→g.offers=none)
  (hw:b=true→∀af w' t j,S.R 0 γ w af w'→S.J af w' t j→Deaf t 0=d→S.Bl af w'→Ah S af w' j g)
  (h:∀af w' t j,S.R 0 γ w af w'→S.J af w' t j→Deaf t 0=d→(b=true→¬S.Bl af w')→∃z:Nz Γ,Qv S Q af w' t j g z∧(∀x b',z= .go x b'→MP S Q b' (deafBehind d x.es) x.γ x.w x.g)∧∀x b',z= .spawn x b'→MP S Q b' (deafBehind d x.es) x.γ x.w x.g):MP S Q b d γ w g:=by
 have key:∀i:Γ×World×Trace×Nat,∃z:Nz Γ,S.R 0 γ w i.1 i.2.1→S.J i.1 i.2.1 i.2.2.1 i.2.2.2→Deaf i.2.2.1 0=d→(b=true→¬S.Bl i.1 i.2.1)→
   (Qv S Q i.1 i.2.1 i.2.2.1 i.2.2.2 g z∧(∀x b',z= .go x b'→MP S Q b' (deafBehind d x.es) x.γ x.w x.g)∧∀x b',z= .spawn x b'→MP S Q b' (deafBehind d x.es) x.γ x.w x.g):=by
  rintro⟨af,w',t,j⟩;by_cases hh:S.R 0 γ w af w'∧S.J af w' t j∧Deaf t 0=d∧(b=true→¬S.Bl af w')
  ·obtain⟨z,hz⟩:=h af w' t j hh.1 hh.2.1 hh.2.2.1 hh.2.2.2
   exact⟨z,fun _ _ _ _=>hz⟩
  ·exact⟨.fin (.exit 0) w #[],fun a1 a2 a3 a4=>absurd ⟨a1,a2,a3,a4⟩ hh⟩
 exact .step b hs ho (fun af w' t j=>(key (af,w',t,j)).choose) (fun af w' t j a1 a2 a3 a4=>((key (af,w',t,j)).choose_spec a1 a2 a3 a4).1) hw
  (fun af w' t j a1 a2 a3 a4=>((key (af,w',t,j)).choose_spec a1 a2 a3 a4).2.1) (fun af w' t j a1 a2 a3 a4=>((key (af,w',t,j)).choose_spec a1 a2 a3 a4).2.2)
theorem MP.go {d:Nat}{γ:Γ}{w:World}{g:Goroutine}(hs:g.status= .running)
  (h:∀af w' t j,S.R 0 γ w af w'→S.J af w' t j→Deaf t 0=d→∃(x:Nx Γ) (b':Bool),mR S 0 true af w' t j g x∧MP S Q b' (deafBehind d x.es) x.γ x.w x.g):MP S Q false d γ w g:=
 .mk hs nofun nofun fun af w' t j a1 a2 a3 _=>by
  obtain⟨x,b',U,h2⟩:=h af w' t j a1 a2 a3;exact⟨.go x b',U,fun y c e=>(by cases e;exact h2),fun y c e=>(by cases e)⟩
def vJ (S:Sys P Γ)(Q:Γ→World→Trace→Nat→Outcome→World→Prop)(m:Machine)(t:Trace):Prop:=
 ∃M dP w' x_ t' af w2 j' o w1 ops,runNT P M m t=(.next (crowd dP w' x_),t')∧stepT P (crowd dP w' x_)=(.ended o w1,ops)∧Q af w2 (t'++ops) j' o w1∧S.J af w2 t' j'∧dP.size=j'+1∧
  ∀k,1≤k→k≤j'→∃x,dP[k]?=some x∧(S.cV af k→∃n,QuitsD P n (Deaf (t'++ops) k) x)
theorem vJ.next {m m':Machine}{t:Trace}{ops:Array MemOp}(h:stepT P m=(.next m',ops))(r:vJ S Q m' (t++ops)):vJ S Q m t:=by
 obtain⟨M,dP,w',x_,t',af,w2,j',o,w1,rn,U,h2⟩:=r;refine⟨M+1,dP,w',x_,t',af,w2,j',o,w1,rn,?_,h2⟩;simp only[runNT,h];exact U
end
end Go.Proofs.YtjklkppncmhehaaGreat.Sr
namespace Go.Proofs.YtjklkppncmhehaaGreat.Sr
open Go Go.Conc
section
variable {P:Program}{Γ:Type}(S:Sys P Γ)(Q:Γ→World→Trace→Nat→Outcome→World→Prop)
def mT (g:Goroutine):Bool→Goroutine
 |true=>g
 |false=>{g with status:= .blocked}
structure St (gs:Array Goroutine) (w:World) (t:Trace) (γ:Γ) (j:Nat) (kF:Tr) (dG:Nat→Tr) (b run:Bool) (g:Goroutine):Prop where
 size:gs.size=j+1
 inv:S.J γ w t j
 main:ru S Q kF b (Deaf t 0) γ w g
 KY:gs[0]?=some (mT g run)
 blk:run=false→b=true∧S.Bl γ w
 wk:∀k,1≤k→k≤j→∃x,gs[k]?=some x∧uH S k (dG k) (Deaf t k) γ w x
variable {S Q}
theorem ru.run {ρ:Tr}{b:Bool}{d:Nat}{γ:Γ}{w:World}{g:Goroutine}(h:ru S Q ρ b d γ w g):g.status= .running∧(b=true→g.offers=none):=by
 cases h with
 |step _ hs ho=>exact⟨hs,ho⟩
theorem uH.status {k d:Nat}{ρ:Tr}{γ:Γ}{w:World}{g:Goroutine}(h:uH S k ρ d γ w g):g.status= .running∨g.status= .finished:=by
 cases h with
 |quit n h _=>exact h.status
 |step hs=>exact .inl hs
theorem ly {P:Program}{g g':Goroutine}{w':World}{o:Goroutine}(h:o.status= .running∨o.status= .finished):woken P g g' w' o=o:=by
 unfold woken;split
 ·exact again_running _ h
 ·rfl
variable {gs:Array Goroutine}{w:World}{t:Trace}{γ:Γ}{j:Nat}{kF:Tr}{dG:Nat→Tr}{b run:Bool}{g:Goroutine}
theorem St.draw (h:St S Q gs w t γ j kF dG b run g)(d:Nat):St S Q gs (w.at d) t γ j kF dG b run g:=
 ⟨h.size,S.Ns d h.inv,h.main.rely (S.vI _ _ _ d),h.KY,fun e=>⟨(h.blk e).1,(S.Jx _ _ d).2 (h.blk e).2⟩,fun k k1 kj=>let⟨x,U,h2⟩:=h.wk k k1 kj;⟨x,U,h2.rely (S.vI _ _ _ d)⟩⟩
theorem dz {i:Nat}{fn:FuncId}{pos:String}{es:Array Event}:∀op∈MemOp.ofEvents i fn pos es,op.g=i:=by
 intro op aS;rw[ofEvents_eq]at aS;obtain⟨e,_,rfl⟩:=Array.mem_map.1 aS;rfl
theorem St.worker (h:St S Q gs w t γ j kF dG b run g){i:Nat}{x:Goroutine}(i1:1≤i)(hi:gs[i]?=some x)(hx:x.status= .running):
  ∃x' w' es af pS run',stepG P false x w= .go x' w' es∧G5 (j+1) pS dG∧St S Q ((gs.map (woken P x x' w')).setIfInBounds i x') w' (t++MemOp.ofEvents i x.frame.fn x.frame.place es) af j kF pS b run' g:=by
 have vr:i≤j:=by have:=(Array.getElem?_eq_some_iff.1 hi).1;rw[h.size]at this;omega
 obtain⟨x2,KZ,hw⟩:=h.wk i i1 vr;rw[hi]at KZ;obtain rfl:=Option.some.inj KZ
 obtain⟨Nu,Vo⟩:=h.main.run;have fin:∀(x':Goroutine) (w':World) (es:Array Event) (af:Γ) (ρ':Tr),stepG P false x w= .go x' w' es→Tr.Lt ρ' (dG i)→S.J af w' (t++MemOp.ofEvents i x.frame.fn x.frame.place es) j→(∀k,k≠i→S.R k γ w af w')→
   (S.Bl γ w→¬S.Bl af w'→mayWake P x=true∧x'.status= .running)→uH S i ρ' (deafBehind (Deaf t i) es) af w' x'→
   ∃x' w' es af pS run',stepG P false x w= .go x' w' es∧G5 (j+1) pS dG∧St S Q ((gs.map (woken P x x' w')).setIfInBounds i x') w' (t++MemOp.ofEvents i x.frame.fn x.frame.place es) af j kF pS b run' g:=by
  intro x' w' es af ρ' hgo aj hJ hR S4 hW;let pS:Nat→Tr:=fun k=>if k=i then ρ' else dG k
  have e0:pS i=ρ':=if_pos rfl
  have e1:∀k,k≠i→pS k=dG k:=fun k hk=>if_neg hk
  have S5:∃run',woken P x x' w' (mT g run)=mT g run'∧(run'=false→run=false∧¬(mayWake P x=true∧x'.status= .running)):=by
   cases run with
   |true=>exact⟨true,ly (.inl Nu),nofun⟩
   |false=>
    have hb:=(h.blk rfl).1;unfold woken;split
    ·refine⟨true,?_,nofun⟩
     have ho:=Vo hb;obtain⟨f,c,s,dd,o⟩:=g;dsimp only at Nu ho
     subst Nu ho;rfl
    ·rename_i hc
     refine⟨false,rfl,fun _=>⟨rfl,fun⟨c1,c2⟩=>hc ?_⟩⟩
     rw[c1,c2];rfl
  obtain⟨run',aF,rv⟩:=S5;refine⟨x',w',es,af,pS,run',hgo,⟨i,by omega,by rw[e0];exact aj,e1⟩,by simp[h.size],hJ,?_,?_,fun e=>?_,fun k k1 kj=>?_⟩
  ·rw[Deaf_other t (by omega) _ dz]
   exact h.main.rely (hR 0 (by omega))
  ·rw[Array.getElem?_setIfInBounds_ne (by omega),Array.getElem?_map,h.KY,Option.map_some,aF]
  ·obtain⟨r1,r2⟩:=rv e
   obtain⟨hb,ya⟩:=h.blk r1;exact⟨hb,Classical.byContradiction fun hn=>r2 (S4 ya hn)⟩
  ·by_cases hk:k=i
   ·subst hk
    refine⟨x',by rw[Array.getElem?_setIfInBounds_self_of_lt (by simp[h.size];omega)],?_⟩
    rw[e0,Deaf_own];exact hW
   ·obtain⟨y,hy,nV⟩:=h.wk k k1 kj
    refine⟨y,by rw[Array.getElem?_setIfInBounds_ne (Ne.symm hk),Array.getElem?_map,hy,Option.map_some,ly nV.status],?_⟩
    rw[e1 k hk,Deaf_other t (Ne.symm hk) _ dz];exact nV.rely (hR k hk)
 generalize ff:dG i=ρ at hw fin
 cases hw with
 |quit n hq hg=>
  cases n with
  |zero=>rw[hq.1]at hx;cases hx
  |succ n=>
   rcases hq with⟨hf,_⟩|⟨_,x',es,hm,bj,Qm⟩
   ·rw[hf]at hx;cases hx
   exact fin x' w es γ _ (bj w) (Tr.Qs n) (S.mute _ _ _ h.inv (hg _ _ (S.refl _ _ _)) i1 vr hm) (fun k _=>S.refl _ _ _) (fun a c=>absurd a c) (.quit n Qm hg)
 |step hs hg nx Yk fL hr ih=>
  obtain⟨⟨a1,a2,a3⟩,a4⟩:=fL γ w t j (S.refl _ _ _) h.inv rfl vr;exact fin _ _ _ _ _ a1 (hr γ w t j (S.refl _ _ _) h.inv rfl vr) a2 a3 a4 (ih γ w t j (S.refl _ _ _) h.inv rfl vr)
theorem Ai (i:Nat)(fn:FuncId)(pos:String):MemOp.ofEvents i fn pos #[]= #[]:=by rw[ofEvents_eq];simp
theorem St.sleep (h:St S Q gs w t γ j kF dG b true g)(hb:b=true)(ya:S.Bl γ w):St S Q ((gs.map (woken P g {g with status:= .blocked} w)).setIfInBounds 0 {g with status:= .blocked}) w (t++MemOp.ofEvents 0 g.frame.fn g.frame.place #[]) γ j kF dG b false g:=by
 rw[Ai,Array.append_empty];refine⟨by simp[h.size],h.inv,h.main,by simp[h.size,mT],fun _=>⟨hb,ya⟩,fun k k1 kj=>?_⟩
 obtain⟨y,hy,nV⟩:=h.wk k k1 kj;exact⟨y,by rw[Array.getElem?_setIfInBounds_ne (by omega),Array.getElem?_map,hy,Option.map_some,ly nV.status],nV⟩
theorem St.go (h:St S Q gs w t γ j kF dG b true g){x:Nx Γ}(fL:mR S 0 true γ w t j g x){Nv:Tr}{b':Bool}(hm:ru S Q Nv b' (deafBehind (Deaf t 0) x.es) x.γ x.w x.g):
  St S Q ((gs.map (woken P g x.g x.w)).setIfInBounds 0 x.g) x.w (t++MemOp.ofEvents 0 g.frame.fn g.frame.place x.es) x.γ j Nv dG b' true x.g:=by
 refine⟨by simp[h.size],fL.inv,by rw[Deaf_own];exact hm,by simp[h.size,mT],nofun,fun k k1 kj=>?_⟩
 obtain⟨y,hy,nV⟩:=h.wk k k1 kj;refine⟨y,by rw[Array.getElem?_setIfInBounds_ne (by omega),Array.getElem?_map,hy,Option.map_some,ly nV.status],?_⟩
 rw[Deaf_other t (by omega) _ dz]
 exact nV.rely (fL.Nt k (by omega))
theorem St.spawn (h:St S Q gs w t γ j kF dG b true g){x:Ny Γ}(fL:CO S γ w t j g x){Nv S7:Tr}{b':Bool}(hm:ru S Q Nv b' (deafBehind (Deaf t 0) x.es) x.γ x.w x.g)(hc:uH S (j+1) S7 0 x.γ x.w x.c):
  St S Q ((gs.setIfInBounds 0 x.g).push x.c) x.w (t++((MemOp.ofEvents 0 g.frame.fn g.frame.place x.es).push {g:=0,fn:=g.frame.fn,pos:=g.frame.place,act:= .go (j+1)}|>.push {g:=j+1,fn:=x.c.frame.fn,pos:=g.frame.place,act:= .start})) x.γ (j+1) Nv (fun k=>if k=j+1 then S7 else dG k) b' true x.g:=by
 have e2:(t++((MemOp.ofEvents 0 g.frame.fn g.frame.place x.es).push {g:=0,fn:=g.frame.fn,pos:=g.frame.place,act:= .go (j+1)}|>.push {g:=j+1,fn:=x.c.frame.fn,pos:=g.frame.place,act:= .start}))=
   ((t++MemOp.ofEvents 0 g.frame.fn g.frame.place x.es)++ #[{g:=0,fn:=g.frame.fn,pos:=g.frame.place,act:= .go (j+1)}])++ #[{g:=j+1,fn:=x.c.frame.fn,pos:=g.frame.place,act:= .start}]:=by
  apply Array.ext';simp
 have d1:∀k,k≠0→Deaf ((t++MemOp.ofEvents 0 g.frame.fn g.frame.place x.es)++ #[{g:=0,fn:=g.frame.fn,pos:=g.frame.place,act:= .go (j+1)}]) k=Deaf t k:=by
  intro k hk;rw[Deaf_other _ (g':=0) (by omega) _ (by simp),Deaf_other t (by omega) _ dz]
 have s0:∀(u:Trace) (k:Nat) (y:MemOp),y.act= .start∨(∃q,y.act= .go q)→Deaf (u++ #[y]) k=Deaf u k:=by
  intro u k y hy;have:=Deaf_append u k [y]
  simp only[List.foldl_cons,List.foldl_nil]at this;rw[show u++ #[y]=u++[y].toArray from rfl,this]
  unfold deafStep;rcases hy with hy|⟨q,hy⟩<;>rw[hy]
 rw[e2];refine⟨by simp[h.size],by have:=fL.inv;simp only at this;rwa[e2]at this,?_,by rw[Array.getElem?_push,if_neg (by simp[h.size]),Array.getElem?_setIfInBounds_self_of_lt (by simp[h.size])];rfl,nofun,fun k k1 kj=>?_⟩
 ·rw[s0 _ _ _ (.inl rfl),s0 _ _ _ (.inr ⟨_,rfl⟩),Deaf_own]
  exact hm
 ·have cG:0≠k:=by omega
  by_cases hk:k=j+1
  ·subst hk
   refine⟨x.c,by rw[Array.getElem?_push,if_pos (by simp[h.size])],?_⟩
   rw[s0 _ _ _ (.inl rfl),d1 _ (by omega),Go.ConcN.Deaf_absent fun i op hi e=>by have:=S.Jy h.inv i op hi;omega]
   simp only[if_true];exact hc
  ·obtain⟨y,hy,nV⟩:=h.wk k k1 (by omega)
   refine⟨y,?_,?_⟩
   ·rw[Array.getElem?_push,if_neg (by simp[h.size];omega),Array.getElem?_setIfInBounds_ne cG,hy]
   ·rw[s0 _ _ _ (.inl rfl),d1 _ (by omega)]
    simp only[if_neg hk];exact nV.rely (fL.Nt k (by omega) (by omega))
theorem St.runs (a0:Acc Tr.Lt kF):∀(j:Nat) (dG:Nat→Tr) (run:Bool) (gs:Array Goroutine) (w:World) (sl:Option (Nat×Nat)) (t:Trace) (γ:Γ) (b:Bool) (g:Goroutine),St S Q gs w t γ j kF dG b run g→vJ S Q (crowd gs w sl) t:=by
 induction a0 with
 |intro kF _ Vp=>
  intro j dG;induction G5.acc (j+1) dG with
  |intro dG _ Af=>
   have core:∀run:Bool,(run=true→∀gs w sl t γ b g,St S Q gs w t γ j kF dG b false g→vJ S Q (crowd gs w sl) t)→∀gs w sl t γ b g,St S Q gs w t γ j kF dG b run g→vJ S Q (crowd gs w sl) t:=by
    intro run kC gs w sl t γ b g h;have Yl:∀x∈gs,awake x:=by
     intro x hx;obtain⟨i,hi,rfl⟩:=Array.mem_iff_getElem.1 hx;rcases Nat.eq_zero_or_pos i with rfl|dp
     ·have:gs[0]=mT g run:=by simpa[Array.getElem?_eq_getElem hi]using h.KY
      rw[this]
      cases run with
      |true=>exact awake_of (.inl h.main.run.1)
      |false=>exact awake_of (.inr (.inl rfl))
     ·have vr:i≤j:=by rw[h.size]at hi;omega
      obtain⟨y,hy,nV⟩:=h.wk i dp vr;rw[Array.getElem?_eq_getElem hi]at hy;rw[Option.some.inj hy];exact awake_of (nV.status.elim .inl fun x=> .inr (.inr x))
    have vK:∃(i:Nat) (x:Goroutine),gs[i]?=some x∧x.status= .running:=by
     cases run with
     |true=>exact⟨0,g,h.KY,h.main.run.1⟩
     |false=>
      obtain⟨hb,ya⟩:=h.blk rfl;have hm:=h.main
      cases hm with
      |step _ _ _ _ _ _ hw _ _ _=>
       obtain⟨_,k,k1,kj,hg⟩:=hw hb γ w t j (S.refl _ _ _) h.inv rfl ya;obtain⟨y,hy,nV⟩:=h.wk k k1 kj;generalize dG k=Ym at nV
       cases nV with
       |quit n hq a_=>exact absurd (a_ _ _ (S.refl _ _ _)) hg
       |step hs=>exact⟨k,y,hy,hs⟩
    obtain⟨i,x,d,x_,hi,hx,bj⟩:=crowd_pick (P:=P) (w:=w) (sl:=sl) Yl vK;have h':=h.draw d;rcases Nat.eq_zero_or_pos i with rfl|dp
    ·rw[h.KY]at hi
     obtain rfl:=Option.some.inj hi
     cases run with
     |false=>cases hx
     |true=>
      have vL:=h'.KY;simp only[mT]at vL bj;have hm:=h'.main;by_cases Aj:b=true∧S.Bl γ (w.at d)
      ·obtain⟨hb,ya⟩:=Aj
       cases hm with
       |step _ _ _ _ _ _ hw _ _ _=>
        obtain⟨hgo,_⟩:=hw hb γ _ t j (S.refl _ _ _) h'.inv rfl ya;exact vJ.next (bj.trans (runT_crowd_go (i:=0) vL (show stepG P (0==0) g (w.at d)=_ from hgo))) (kC rfl _ _ _ _ _ _ _ (h'.sleep hb ya))
      ·have qD:b=true→¬S.Bl γ (w.at d):=fun e ya=>Aj ⟨e,ya⟩
       cases hm with
       |step _ hs ho nx Yk fL hw hr i1 i2=>
        have mf:=fL γ _ t j (S.refl _ _ _) h'.inv rfl qD;have aj:=hr γ (w.at d) t j
        cases hn:nx γ (w.at d) t j with
        |go y b'=>
         rw[hn]at mf;have CP:=i1 γ _ t j (S.refl _ _ _) h'.inv rfl qD y b' hn;exact vJ.next (bj.trans (runT_crowd_go (i:=0) vL (show stepG P (0==0) g (w.at d)=_ from mf.go))) (Vp _ aj _ _ _ _ _ _ _ _ _ _ (h'.go mf CP))
        |spawn y b'=>
         rw[hn]at mf;obtain⟨mf,hc⟩:=mf;obtain⟨S7,hc⟩:=hc.uW;have CP:=i2 γ _ t j (S.refl _ _ _) h'.inv rfl qD y b' hn;have iE:=runT_crowd_spawn (sl:=x_) (i:=0) vL (show stepG P (0==0) g (w.at d)=_ from mf.go)
         rw[h'.size]at iE;exact vJ.next (bj.trans iE) (Vp _ aj _ _ _ _ _ _ _ _ _ _ (h'.spawn mf CP hc))
        |fin o w1 es=>
         rw[hn]at mf;obtain⟨vM,hq⟩:=mf;refine⟨0,gs,w,sl,t,γ,w.at d,j,o,w1,_,rfl,bj.trans (runT_many_ended (i:=0) vL (show stepG P (0==0) g (w.at d)=_ from vM)),hq,h'.inv,h.size,fun k k1 kj=>?_⟩
         obtain⟨y,hy,nV⟩:=h'.wk k k1 kj;refine⟨y,hy,fun hg=>?_⟩
         rw[Deaf_other t (by omega) _ dz]
         generalize dG k=Ym at nV
         cases nV with
         |quit n hq a_=>exact⟨n,hq⟩
         |step _ a_=>exact absurd hg (a_ _ _ (S.refl _ _ _))
    ·obtain⟨x',w',es,af,pS,run',hgo,aj,hS⟩:=h'.worker dp hi hx
     have G7:(i==0)=false:=by simp;omega
     exact vJ.next (bj.trans (runT_crowd_go (i:=i) hi (by rw[G7];exact hgo))) (Af _ aj _ _ _ _ _ _ _ _ hS)
   intro run
   cases run with
   |false=>exact core false nofun
   |true=>exact core true fun _=>core false nofun
end
end Go.Proofs.YtjklkppncmhehaaGreat.Sr
namespace Go.Proofs.YtjklkppncmhehaaGreat.Sr
open Go Go.Conc Go.ConcN
inductive iz|busy|said|off
 deriving DecidableEq
inductive WM|op|bT|la (k:Nat)|lb (k:Nat)|rel
 deriving DecidableEq
structure Ph where
 wg:Nat
 A:Nat
 n:Nat
 j0:Nat
 lh:Nat→Nat→Value
 eW:TypeId
 eA:TypeId
structure Gh where
 ow:Nat→Nat→Prop
 ro:Nat→Nat→Prop
 sh:Nat→Prop
 st:Nat→iz
 wm:WM
 ph:Option Ph
 extra:Nat
 j:Nat
def bo:Loc→Option Nat
 | .cell a=>some a.block
 | .obj r=>some r
 |_=>none
def Gh.Slot (γ:Gh)(k:Nat)(a:Addr):Prop:=∃p,γ.ph=some p∧p.j0<k∧a.block=p.A∧5*(k-p.j0-1)≤a.off∧a.off<5*(k-p.j0-1)+5
def Gh.Sh (γ:Gh):Loc→Prop:=fun l=>∃a,l= .cell a∧γ.sh a.block
def Gh.Own (γ:Gh):Nat→Loc→Prop:=fun k l=>(∃b,bo l=some b∧γ.ow k b)∨∃a,l= .cell a∧γ.Slot k a
def Gh.Rd (γ:Gh):Nat→Loc→Prop:=fun k l=>∃b,bo l=some b∧γ.ro k b
structure BA (γ:Gh):Prop where
 ow:∀k k' b,γ.ow k b→γ.ow k' b→k=k'
 oo:∀k k' b,γ.ow k b→¬γ.ro k' b
 pT:∀k b,γ.ow k b→¬γ.sh b
 ry:∀k b,γ.ro k b→¬γ.sh b
 A:∀p,γ.ph=some p→(∀k,¬γ.ow k p.A∧¬γ.ro k p.A)∧¬γ.sh p.A
theorem BA.apart {γ:Gh}(h:BA γ):Apart γ.Sh γ.Own γ.Rd:=by
 refine⟨?_,?_,?_,?_⟩
 ·rintro k k' l (⟨b,hb,ho⟩|⟨a,rfl,p,hp,hk,hA,U,h2⟩) (⟨b',cv,nU⟩|⟨a',e,p',aV,cB,s8,iM,lU⟩)
  ·rw[hb]at cv;cases cv;exact h.ow _ _ _ ho nU
  ·subst e;cases hb;rw[s8]at ho;exact absurd ho ((h.A p' aV).1 k).1
  ·cases cv;rw[hA]at nU;exact absurd nU ((h.A p hp).1 k').1
  ·cases e;rw[hp]at aV;cases aV;omega
 ·rintro k k' l (⟨b,hb,ho⟩|⟨a,rfl,p,hp,hk,hA,U,h2⟩) ⟨b',cv,hr⟩
  ·rw[hb]at cv;cases cv;exact h.oo _ _ _ ho hr
  ·cases cv;rw[hA]at hr;exact((h.A p hp).1 k').2 hr
 ·rintro k l (⟨b,hb,ho⟩|⟨a,rfl,p,hp,hk,hA,U,h2⟩) ⟨a',e,hs⟩
  ·subst e;cases hb;exact h.pT _ _ ho hs
  ·cases e;rw[hA]at hs;exact(h.A p hp).2 hs
 ·rintro k l ⟨b,hb,hr⟩ ⟨a',rfl,hs⟩
  cases hb;exact h.ry _ _ hr hs
structure TJ (γ:Gh) (B:Nat) (t:Trace) (j:Nat):Prop where
 ct:CT γ.Sh γ.Own γ.Rd t j
 low:∀op∈t,op.act.low B
 over:∀i g,t.g? i=some g→g≠0→t.counts i→(∃q,t.g? q=some 0∧HappensBefore t i q)∨∃p,γ.ph=some p∧p.j0<g
 rel:∀p,γ.ph=some p→∀k,p.j0<k→k≤j→γ.st k≠.busy→∃r,RelBy ⟨p.wg,0,none⟩ t k r∧∀i x,r<i→t.g? i=some k→touchAt t i=some x→γ.Sh x.loc
 norel:∀p,γ.ph=some p→NoRelease ⟨p.wg,0,none⟩ t
 old:∀i x g,touchAt t i=some x→¬γ.Sh x.loc→t.g? i=some g→Knows t 0 i∨∃p,γ.ph=some p∧p.j0<g
section
variable {γ af:Gh}{B B':Nat}{t u:Trace}{j k:Nat}{fn:FuncId}{pos:String}{es:Array Event}
def iN (t:Trace)(l:Loc):Prop:=∀i x,touchAt t i=some x→x.loc≠l
theorem iN.perm {l:Loc}(h:iN t l)(g:Nat):Perm t g l:=fun i x hx e=>absurd e (h i x hx)
theorem lz {l:Loc}{b:Nat}(h:∀op∈t,op.act.low B)(hb:bo l=some b)(hB:B≤b):iN t l:=by
 intro i x hx e;obtain⟨op,ho,j5⟩:=touch_of hx;have hl:=h op (Array.mem_of_getElem? ho);revert j5 hl
 cases op.act with
 |access ev=>
  intro j5 hl;simp only[MemAct.touch?,Option.some.injEq]at j5;subst j5;dsimp only at e
  simp only[MemAct.low,e]at hl
  cases l<;>simp_all[bo,Loc.low]<;>omega
 |mark m=>
  intro j5 hl
  cases m<;>simp[MemAct.touch?]at j5<;>subst j5<;>dsimp only at e<;>subst e<;>simp_all[bo,MemAct.low]<;>omega
 |_=>intro j5;simp[MemAct.touch?]at j5
theorem mU {Sh Qx:Loc→Prop}{Own Jz Rd S_:Nat→Loc→Prop}(h:CT Sh Own Rd t j)(U:∀l,Qx l→Sh l∨iN t l)
  (h2:∀k,1≤k→k≤j→∀l,Jz k l→Own k l∨iN t l) (h3:∀k,1≤k→k≤j→∀l,S_ k l→Rd k l∨iN t l)
  (h4:∀l,¬Qx l→(∀k,1≤k→k≤j→¬Jz k l∧¬S_ k l)→(¬Sh l∧∀k,1≤k→k≤j→¬Own k l∧¬Rd k l)∨Perm t 0 l)
  (h5:∀l,¬Qx l→(∀k,1≤k→k≤j→¬Jz k l)→(¬Sh l∧∀k,1≤k→k≤j→¬Own k l)∨PermW t 0 l):CT Qx Jz S_ t j:=by
 refine⟨fun i op x hi hx hs=>?_,fun k k1 kj l hl=>?_,fun k k1 kj l hl=>?_,fun l hs hl=>?_,fun l hs hl=>?_,h.nr,h.gs⟩
 ·rcases U _ hs with h'|h'
  ·exact h.quiet i op x hi hx h'
  ·exact absurd rfl (h' i x (by rw[touchAt_of hi];exact hx))
 ·exact(h2 k k1 kj l hl).elim (h.own k k1 kj l) (·.perm k)
 ·exact(h3 k k1 kj l hl).elim (h.rd k k1 kj l) (fun x=> .of (x.perm k))
 ·exact(h4 l hs hl).elim (fun x=>h.free l x.1 x.2) id
 ·exact(h5 l hs hl).elim (fun x=>h.mine l x.1 x.2) id
theorem dS {op:MemOp}{i:Nat}(h:op∈MemOp.ofEvents i fn pos es):∃e∈es,op.g=i∧op.act= .ofEvent e:=by
 rw[ofEvents_eq]at h;obtain⟨e,he,rfl⟩:=Array.mem_map.1 h;exact⟨e,he,rfl,rfl⟩
theorem s_ (h:∀i g,t.g? i=some g→g≠0→t.counts i→(∃q,t.g? q=some 0∧HappensBefore t i q)∨∃p,γ.ph=some p∧p.j0<g)
  (hu:∀op∈u,op.g=0∨op.act.touch?=none∨∃p,γ.ph=some p∧p.j0<op.g):∀i g,(t++u).g? i=some g→g≠0→(t++u).counts i→(∃q,(t++u).g? q=some 0∧HappensBefore (t++u) i q)∨∃p,γ.ph=some p∧p.j0<g:=by
 intro i g hg cG hc;obtain⟨x,hx,_⟩:=hc;obtain⟨op,aS,j5⟩:=touch_of hx;have hgo:op.g=g:=by simpa[Trace.g?,aS]using hg
 rcases getElem?_append_cases aS with⟨hi,JA⟩|⟨_,NA⟩
 ·rcases h i g (by simp[Trace.g?,JA,hgo]) cG ((counts_old hi).1 ⟨x,hx,‹_›⟩)with⟨q,hq,hb⟩|h'
  ·have S':q<t.size:=by
    unfold Trace.g? at hq;obtain⟨z,hz,_⟩:=Option.map_eq_some_iff.1 hq;exact lt_size_of_getElem? hz
   exact .inl ⟨q,by simpa[Trace.g?,getElem?_append_old S']using hq,hb_app u hb⟩
  ·exact .inr h'
 ·rcases hu op NA with h0|h0|h0
  ·exact absurd (hgo.symm.trans h0) cG
  ·rw[h0]at j5;cases j5
  ·exact .inr (hgo▸h0)
theorem nJ {i:Nat}{x:Touch}(h:touchAt (t++u) i=some x):touchAt t i=some x∧i<t.size∨∃op∈u,op.act.touch?=some x∧(t++u).g? i=some op.g:=by
 obtain⟨op,ho,j5⟩:=touch_of h;rcases getElem?_append_cases ho with⟨hi,nU⟩|⟨_,Yn⟩
 ·exact .inl ⟨by rw[touchAt_of nU];exact j5,hi⟩
 ·exact .inr ⟨op,Yn,j5,by simp[Trace.g?,ho]⟩
theorem rz (h:∀i x g,touchAt t i=some x→¬γ.Sh x.loc→t.g? i=some g→Knows t 0 i∨∃p,γ.ph=some p∧p.j0<g)
  (hu:∀op∈u,op.g=0∨(∀x,op.act.touch?=some x→γ.Sh x.loc)∨∃p,γ.ph=some p∧p.j0<op.g):∀i x g,touchAt (t++u) i=some x→¬γ.Sh x.loc→(t++u).g? i=some g→Knows (t++u) 0 i∨∃p,γ.ph=some p∧p.j0<g:=by
 intro i x g hx hs hg;obtain⟨op,aS,j5⟩:=touch_of hx;have hgo:op.g=g:=by simpa[Trace.g?,aS]using hg
 rcases getElem?_append_cases aS with⟨hi,JA⟩|⟨_,NA⟩
 ·exact(h i x g (by rw[touchAt_of JA];exact j5) hs (by simp[Trace.g?,JA,hgo])).imp (·.app u) id
 ·rcases hu op NA with h0|h0|h0
  ·have:=knows_own aS
   rw[h0]at this;exact .inl this
  ·exact absurd (h0 x j5) hs
  ·exact .inr (hgo▸h0)
theorem kG {a:Addr}{r g:Nat}{Sh:Loc→Prop}(h:RelBy a t k r∧∀i x,r<i→t.g? i=some k→touchAt t i=some x→Sh x.loc)(hu:∀op∈u,op.g=g)(hg:g≠k):
  RelBy a (t++u) k r∧∀i x,r<i→(t++u).g? i=some k→touchAt (t++u) i=some x→Sh x.loc:=by
 refine⟨h.1.appOther hu hg,fun i x hi nW hx=>?_⟩
 rcases nJ hx with⟨U,aj⟩|⟨op,aS,_,h2⟩
 ·exact h.2 i x hi (by rwa[g?_old aj]at nW) U
 ·rw[h2,Option.some.injEq]at nW
  exact absurd ((hu op aS).symm.trans nW) hg
def K0 (γ:Gh)(k B:Nat)(e:Event):Prop:=(∀x,(MemAct.ofEvent e).touch?=some x→γ.Own k x.loc∨(γ.Rd k x.loc∧x.write=false))∧(MemAct.ofEvent e).low B∧∀a,MemAct.ofEvent e≠.mark (.release a)
theorem TJ.worker (A:BA γ)(h:TJ γ B t j)(hB:B≤B'){p:Ph}(hp:γ.ph=some p)(hk:p.j0<k)(kj:k≤j)(hb:γ.st k= .busy)(cE:∀e∈es,K0 γ k B' e):TJ γ B' (t++MemOp.ofEvents k fn pos es) j:=by
 refine⟨h.ct.appW A.apart (by omega) kj fun op aS=>?_,fun op aS=>?_,s_ h.over fun op aS=>?_,fun p' aV k' cB Ak hs=>?_,fun p' aV=>(h.norel p' aV).app fun op aS=>?_,rz h.old fun op aS=> .inr (.inr ⟨p,hp,(dz op aS).symm▸hk⟩)⟩
 ·obtain⟨e,he,U,h2⟩:=dS aS
  exact⟨U,fun x hx=> .inr ((cE e he).1 x (h2▸hx))⟩
 ·rcases Array.mem_append.1 aS with U|U
  ·exact MemAct.low_mono hB (h.low op U)
  ·obtain⟨e,he,_,h2⟩:=dS U
   rw[h2];exact(cE e he).2.1
 ·obtain⟨e,he,U,h2⟩:=dS aS
  exact .inr (.inr ⟨p,hp,U▸hk⟩)
 ·obtain⟨r,hr⟩:=h.rel p' aV k' cB Ak hs
  exact⟨r,kG hr dz fun e=>hs (e▸hb)⟩
 ·obtain⟨e,he,_,h2⟩:=dS aS
  rw[h2];exact(cE e he).2.2 _
end
end Go.Proofs.YtjklkppncmhehaaGreat.Sr
