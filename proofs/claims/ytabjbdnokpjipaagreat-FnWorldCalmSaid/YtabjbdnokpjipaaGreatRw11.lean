/-
What is proved: a machine of many goroutines, each of which makes its way whatever and what rests on it. Conditions: as stated.
-/
import Derived.Test.YtabjbdnokpjipaaGreatProg
import Derived.Conc.Beside
import Derived.Conc.Crowd
import Derived.Conc.CrowdTrace
import Derived.Conc.CrowdBase
set_option linter.unusedVariables false
set_option linter.unusedSimpArgs false
namespace Go.Proofs.YtabjbdnokpjipaaGreat.Sr
open Go Go.Conc
inductive Tr:Type 1
 |mk (ι:Type) (f:ι→Tr)
inductive Tr.Lt:Tr→Tr→Prop
 |mk {ι:Type} (f:ι→Tr) (i:ι):Tr.Lt (f i) (.mk ι f)
theorem Tr.acc:∀t:Tr,Acc Tr.Lt t
 | .mk ι f=>⟨_,fun y h=>by cases h with|mk _ i=>exact Tr.acc (f i)⟩
def Tr.nat:Nat→Tr
 |0=> .mk Empty nofun
 |n+1=> .mk Unit fun _=>Tr.nat n
theorem Tr.Z3 (n:Nat):Tr.Lt (Tr.nat n) (Tr.nat (n+1)):= .mk (fun _=>Tr.nat n) ()
def OF (j:Nat)(f g:Nat→Tr):Prop:=∃k,k<j∧Tr.Lt (f k) (g k)∧∀i,i≠k→f i=g i
theorem OF.acc:∀(j:Nat) (f:Nat→Tr),Acc (OF j) f
 |0,f=>⟨_,fun g ⟨k,hk,_⟩=>by omega⟩
 |j+1,f=>by
  have key:∀x:Tr,Acc Tr.Lt x→∀f:Nat→Tr,f j=x→Acc (OF (j+1)) f:=by
   intro x hx;induction hx with
   |intro x _ G7=>
    intro f;induction OF.acc j f with
    |intro f _ BU=>
     intro e;refine⟨_,fun g ⟨k,hk,ak,hs⟩=>?_⟩
     by_cases A0:k=j
     ·subst A0
      exact G7 (g k) (e▸ak) g rfl
     ·exact BU g ⟨k,by omega,ak,hs⟩ ((hs j (Ne.symm A0)).trans e)
  exact key (f j) (Tr.acc _) f rfl
structure Sys (P:Program) (Γ:Type)where
 J:Γ→World→Trace→Nat→Prop
 R:Nat→Γ→World→Γ→World→Prop
 Bl:Γ→World→Prop
 Gone:Γ→Nat→Prop
 refl:∀k γ w,R k γ w γ w
 trans:∀{k a u b v c w},R k a u b v→R k b v c w→R k a u c w
 Wx:∀{γ w t j} (d:Nat),J γ w t j→J γ (w.at d) t j
 Cm:∀(k γ w) (d:Nat),R k γ w γ (w.at d)
 Rr:∀(γ w) (d:Nat),Bl γ (w.at d)↔Bl γ w
 Rs:∀{γ w t j},J γ w t j→∀(i:Nat) (op:MemOp),t[i]?=some op→op.g≤j
 mute:∀{γ w t j k} (fn:FuncId) (pos:String) (es:Array Event),J γ w t j→Gone γ k→1≤k→k≤j→(∀e∈es,e.mute=true)→J γ w (t++MemOp.ofEvents k fn pos es) j
structure Nx (Γ:Type)where
 g:Goroutine
 w:World
 es:Array Event
 γ:Γ
structure Ny (Γ:Type) extends Nx Γ where
 c:Goroutine
section
variable {P:Program}{Γ:Type}(S:Sys P Γ)
structure qV (k:Nat) (main:Bool) (γ:Γ) (w:World) (t:Trace) (j:Nat) (g:Goroutine) (x:Nx Γ):Prop where
 go:stepG P main g w= .go x.g x.w x.es
 inv:S.J x.γ x.w (t++MemOp.ofEvents k g.frame.fn g.frame.place x.es) j
 Wy:∀k',k'≠k→S.R k' γ w x.γ x.w
structure JH (γ:Γ) (w:World) (t:Trace) (j:Nat) (g:Goroutine) (x:Ny Γ):Prop where
 go:stepG P true g w= .spawn x.g x.c x.w x.es
 inv:S.J x.γ x.w ((MemOp.ofEvents 0 g.frame.fn g.frame.place x.es).push {g:=0,fn:=g.frame.fn,pos:=g.frame.place,act:= .go (j+1)}|>.push {g:=j+1,fn:=x.c.frame.fn,pos:=g.frame.place,act:= .start} |>(t++·)) (j+1)
 Wy:∀k',k'≠0→k'≤j→S.R k' γ w x.γ x.w
inductive WP (k:Nat):Nat→Γ→World→Goroutine→Prop
 |quit {d:Nat} {γ:Γ} {w:World} {g:Goroutine} (n:Nat) (h:QuitsD P n d g) (hg:∀ai w',S.R k γ w ai w'→S.Gone ai k):WP k d γ w g
 |step {d:Nat} {γ:Γ} {w:World} {g:Goroutine} (hs:g.status= .running) (hg:∀ai w',S.R k γ w ai w'→¬S.Gone ai k) (nx:Γ→World→Trace→Nat→Nx Γ)
   (h:∀ai w' t j,S.R k γ w ai w'→S.J ai w' t j→Deaf t k=d→k≤j→qV S k false ai w' t j g (nx ai w' t j)∧(S.Bl ai w'→¬S.Bl (nx ai w' t j).γ (nx ai w' t j).w→mayWake P g=true∧(nx ai w' t j).g.status= .running))
   (ih:∀ai w' t j,S.R k γ w ai w'→S.J ai w' t j→Deaf t k=d→k≤j→WP k (deafBehind d (nx ai w' t j).es) (nx ai w' t j).γ (nx ai w' t j).w (nx ai w' t j).g):WP k d γ w g
inductive A_ (k:Nat):Tr→Nat→Γ→World→Goroutine→Prop
 |quit {d:Nat} {γ:Γ} {w:World} {g:Goroutine} (n:Nat) (h:QuitsD P n d g) (hg:∀ai w',S.R k γ w ai w'→S.Gone ai k):A_ k (Tr.nat n) d γ w g
 |step {ρ:Tr} {d:Nat} {γ:Γ} {w:World} {g:Goroutine} (hs:g.status= .running) (hg:∀ai w',S.R k γ w ai w'→¬S.Gone ai k) (nx:Γ→World→Trace→Nat→Nx Γ) (gf:Γ→World→Trace→Nat→Tr)
   (h:∀ai w' t j,S.R k γ w ai w'→S.J ai w' t j→Deaf t k=d→k≤j→qV S k false ai w' t j g (nx ai w' t j)∧(S.Bl ai w'→¬S.Bl (nx ai w' t j).γ (nx ai w' t j).w→mayWake P g=true∧(nx ai w' t j).g.status= .running))
   (hr:∀ai w' t j,S.R k γ w ai w'→S.J ai w' t j→Deaf t k=d→k≤j→Tr.Lt (gf ai w' t j) ρ)
   (ih:∀ai w' t j,S.R k γ w ai w'→S.J ai w' t j→Deaf t k=d→k≤j→A_ k (gf ai w' t j) (deafBehind d (nx ai w' t j).es) (nx ai w' t j).γ (nx ai w' t j).w (nx ai w' t j).g):A_ k ρ d γ w g
variable {S}
theorem WP.G8 {k d:Nat}{γ:Γ}{w:World}{g:Goroutine}(h:WP S k d γ w g):∃ρ,A_ S k ρ d γ w g:=by
 induction h with
 |quit n h hg=>exact⟨_,.quit n h hg⟩
 | @step d γ w g hs hg nx h _ ih=>
   let gf:Γ→World→Trace→Nat→Tr:=fun ai w' t j=>
    open Classical in if x:S.R k γ w ai w'∧S.J ai w' t j∧Deaf t k=d∧k≤j then(ih ai w' t j x.1 x.2.1 x.2.2.1 x.2.2.2).choose else Tr.nat 0
   refine⟨.mk (Γ×World×Trace×Nat) fun i=>gf i.1 i.2.1 i.2.2.1 i.2.2.2,.step hs hg nx gf h (fun ai w' t j h1 h2 h3 h4=> .mk (fun i:Γ×World×Trace×Nat=>gf i.1 i.2.1 i.2.2.1 i.2.2.2) (ai,w',t,j)) fun ai w' t j h1 h2 h3 h4=>?_⟩
   have x:S.R k γ w ai w'∧S.J ai w' t j∧Deaf t k=d∧k≤j:=⟨h1,h2,h3,h4⟩
   have e:gf ai w' t j=(ih ai w' t j h1 h2 h3 h4).choose:=dif_pos x
   rw[e];exact(ih ai w' t j h1 h2 h3 h4).choose_spec
theorem A_.rely {k d:Nat}{ρ:Tr}{γ ai:Γ}{w w':World}{g:Goroutine}(h:A_ S k ρ d γ w g)(r:S.R k γ w ai w'):A_ S k ρ d ai w' g:=by
 cases h with
 |quit n h hg=>exact .quit n h fun a b x=>hg a b (S.trans r x)
 |step hs hg nx gf h hr ih=>exact .step hs (fun a b x=>hg a b (S.trans r x)) nx gf (fun a b t j x=>h a b t j (S.trans r x)) (fun a b t j x=>hr a b t j (S.trans r x)) (fun a b t j x=>ih a b t j (S.trans r x))
theorem WP.rely {k d:Nat}{γ ai:Γ}{w w':World}{g:Goroutine}(h:WP S k d γ w g)(r:S.R k γ w ai w'):WP S k d ai w' g:=by
 cases h with
 |quit n h hg=>exact .quit n h fun a b x=>hg a b (S.trans r x)
 |step hs hg nx h ih=>exact .step hs (fun a b x=>hg a b (S.trans r x)) nx (fun a b t j x=>h a b t j (S.trans r x)) (fun a b t j x=>ih a b t j (S.trans r x))
theorem WP.mk {k d:Nat}{γ:Γ}{w:World}{g:Goroutine}(hs:g.status= .running)(hg:∀ai w',S.R k γ w ai w'→¬S.Gone ai k)
  (h:∀ai w' t j,S.R k γ w ai w'→S.J ai w' t j→Deaf t k=d→k≤j→∃x:Nx Γ,qV S k false ai w' t j g x∧(S.Bl ai w'→¬S.Bl x.γ x.w→mayWake P g=true∧x.g.status= .running)∧WP S k (deafBehind d x.es) x.γ x.w x.g):WP S k d γ w g:=by
 let nx:Γ→World→Trace→Nat→Nx Γ:=fun ai w' t j=>
  open Classical in if x:S.R k γ w ai w'∧S.J ai w' t j∧Deaf t k=d∧k≤j then(h ai w' t j x.1 x.2.1 x.2.2.1 x.2.2.2).choose else⟨g,w,#[],γ⟩
 have key:∀ai w' t j,S.R k γ w ai w'→S.J ai w' t j→Deaf t k=d→k≤j→qV S k false ai w' t j g (nx ai w' t j)∧(S.Bl ai w'→¬S.Bl (nx ai w' t j).γ (nx ai w' t j).w→mayWake P g=true∧(nx ai w' t j).g.status= .running)∧
   WP S k (deafBehind d (nx ai w' t j).es) (nx ai w' t j).γ (nx ai w' t j).w (nx ai w' t j).g:=by
  intro ai w' t j h1 h2 h3 h4;have x:S.R k γ w ai w'∧S.J ai w' t j∧Deaf t k=d∧k≤j:=⟨h1,h2,h3,h4⟩
  have e:nx ai w' t j=(h ai w' t j h1 h2 h3 h4).choose:=dif_pos x
  rw[e];exact(h ai w' t j h1 h2 h3 h4).choose_spec
 exact .step hs hg nx (fun ai w' t j h1 h2 h3 h4=>⟨(key ai w' t j h1 h2 h3 h4).1,(key ai w' t j h1 h2 h3 h4).2.1⟩) fun ai w' t j h1 h2 h3 h4=>(key ai w' t j h1 h2 h3 h4).2.2
end
end Go.Proofs.YtabjbdnokpjipaaGreat.Sr
namespace Go.Proofs.YtabjbdnokpjipaaGreat.Sr
open Go Go.Conc
inductive Nz (Γ:Type)
 |go (x:Nx Γ) (b:Bool)
 |spawn (x:Ny Γ) (b:Bool)
 |fin (o:Outcome) (w:World) (es:Array Event)
section
variable {P:Program}{Γ:Type}(S:Sys P Γ)(Q:Γ→World→Trace→Nat→Outcome→World→Prop)
def Z4 (γ:Γ)(w:World)(t:Trace)(j:Nat)(g:Goroutine):Nz Γ→Prop
 | .go x _=>qV S 0 true γ w t j g x
 | .spawn x _=>JH S γ w t j g x∧WP S (j+1) 0 x.γ x.w x.c
 | .fin o w1 es=>stepG P true g w= .ended o w1 es∧Q γ w (t++MemOp.ofEvents 0 g.frame.fn g.frame.place es) j o w1
def G9 (γ:Γ)(w:World)(j:Nat)(g:Goroutine):Prop:=stepG P true g w= .go {g with status:= .blocked} w #[]∧∃k,1≤k∧k≤j∧¬S.Gone γ k
inductive MP:Bool→Nat→Γ→World→Goroutine→Prop
 |step {d:Nat} {γ:Γ} {w:World} {g:Goroutine} (b:Bool) (hs:g.status= .running) (ho:b=true→g.offers=none) (nx:Γ→World→Trace→Nat→Nz Γ)
   (h:∀ai w' t j,S.R 0 γ w ai w'→S.J ai w' t j→Deaf t 0=d→(b=true→¬S.Bl ai w')→Z4 S Q ai w' t j g (nx ai w' t j))
   (hw:b=true→∀ai w' t j,S.R 0 γ w ai w'→S.J ai w' t j→Deaf t 0=d→S.Bl ai w'→G9 S ai w' j g)
   (i1:∀ai w' t j,S.R 0 γ w ai w'→S.J ai w' t j→Deaf t 0=d→(b=true→¬S.Bl ai w')→∀x b',nx ai w' t j= .go x b'→MP b' (deafBehind d x.es) x.γ x.w x.g)
   (i2:∀ai w' t j,S.R 0 γ w ai w'→S.J ai w' t j→Deaf t 0=d→(b=true→¬S.Bl ai w')→∀x b',nx ai w' t j= .spawn x b'→MP b' (deafBehind d x.es) x.γ x.w x.g):MP b d γ w g
inductive xB:Tr→Bool→Nat→Γ→World→Goroutine→Prop
 |step {ρ:Tr} {d:Nat} {γ:Γ} {w:World} {g:Goroutine} (b:Bool) (hs:g.status= .running) (ho:b=true→g.offers=none) (nx:Γ→World→Trace→Nat→Nz Γ) (gf:Γ→World→Trace→Nat→Tr)
   (h:∀ai w' t j,S.R 0 γ w ai w'→S.J ai w' t j→Deaf t 0=d→(b=true→¬S.Bl ai w')→Z4 S Q ai w' t j g (nx ai w' t j))
   (hw:b=true→∀ai w' t j,S.R 0 γ w ai w'→S.J ai w' t j→Deaf t 0=d→S.Bl ai w'→G9 S ai w' j g)
   (hr:∀ai w' t j,Tr.Lt (gf ai w' t j) ρ)
   (i1:∀ai w' t j,S.R 0 γ w ai w'→S.J ai w' t j→Deaf t 0=d→(b=true→¬S.Bl ai w')→∀x b',nx ai w' t j= .go x b'→xB (gf ai w' t j) b' (deafBehind d x.es) x.γ x.w x.g)
   (i2:∀ai w' t j,S.R 0 γ w ai w'→S.J ai w' t j→Deaf t 0=d→(b=true→¬S.Bl ai w')→∀x b',nx ai w' t j= .spawn x b'→xB (gf ai w' t j) b' (deafBehind d x.es) x.γ x.w x.g):xB ρ b d γ w g
variable {S Q}
theorem MP.G8 {b:Bool}{d:Nat}{γ:Γ}{w:World}{g:Goroutine}(h:MP S Q b d γ w g):∃ρ,xB S Q ρ b d γ w g:=by
 induction h with
 | @step d γ w g b hs ho nx h hw _ _ G7 BU=>
   have key:∀i:Γ×World×Trace×Nat,∃ρ,(S.R 0 γ w i.1 i.2.1→S.J i.1 i.2.1 i.2.2.1 i.2.2.2→Deaf i.2.2.1 0=d→(b=true→¬S.Bl i.1 i.2.1)→
     (∀x b',nx i.1 i.2.1 i.2.2.1 i.2.2.2= .go x b'→xB S Q ρ b' (deafBehind d x.es) x.γ x.w x.g)∧∀x b',nx i.1 i.2.1 i.2.2.1 i.2.2.2= .spawn x b'→xB S Q ρ b' (deafBehind d x.es) x.γ x.w x.g):=by
    rintro⟨ai,w',t,j⟩;by_cases hh:S.R 0 γ w ai w'∧S.J ai w' t j∧Deaf t 0=d∧(b=true→¬S.Bl ai w')
    ·cases hn:nx ai w' t j with
     |go x b'=>
      obtain⟨ρ,eK⟩:=G7 ai w' t j hh.1 hh.2.1 hh.2.2.1 hh.2.2.2 x b' hn;exact⟨ρ,fun _ _ _ _=>⟨fun y c e=>(by cases e;exact eK),fun y c e=>(by cases e)⟩⟩
     |spawn x b'=>
      obtain⟨ρ,eK⟩:=BU ai w' t j hh.1 hh.2.1 hh.2.2.1 hh.2.2.2 x b' hn;exact⟨ρ,fun _ _ _ _=>⟨fun y c e=>(by cases e),fun y c e=>(by cases e;exact eK)⟩⟩
     |fin o w1 es=>exact⟨Tr.nat 0,fun _ _ _ _=>⟨fun y c e=>(by cases e),fun y c e=>(by cases e)⟩⟩
    ·exact⟨Tr.nat 0,fun a b c d=>absurd ⟨a,b,c,d⟩ hh⟩
   refine⟨.mk (Γ×World×Trace×Nat) fun i=>(key i).choose,.step b hs ho nx (fun ai w' t j=>(key (ai,w',t,j)).choose) h hw (fun ai w' t j=> .mk (fun i=>(key i).choose) (ai,w',t,j)) (fun ai w' t j a1 a2 a3 a4=>((key (ai,w',t,j)).choose_spec a1 a2 a3 a4).1) fun ai w' t j a1 a2 a3 a4=>((key (ai,w',t,j)).choose_spec a1 a2 a3 a4).2⟩
theorem xB.rely {ρ:Tr}{b:Bool}{d:Nat}{γ ai:Γ}{w w':World}{g:Goroutine}(h:xB S Q ρ b d γ w g)(r:S.R 0 γ w ai w'):xB S Q ρ b d ai w' g:=by
 cases h with
 |step b hs ho nx gf h hw hr i1 i2=>
  exact .step b hs ho nx gf (fun a c t j x=>h a c t j (S.trans r x)) (fun e a c t j x=>hw e a c t j (S.trans r x)) hr (fun a c t j x=>i1 a c t j (S.trans r x)) (fun a c t j x=>i2 a c t j (S.trans r x))
theorem MP.rely {b:Bool}{d:Nat}{γ ai:Γ}{w w':World}{g:Goroutine}(h:MP S Q b d γ w g)(r:S.R 0 γ w ai w'):MP S Q b d ai w' g:=by
 cases h with
 |step b hs ho nx h hw i1 i2=>
  exact .step b hs ho nx (fun a c t j x=>h a c t j (S.trans r x)) (fun e a c t j x=>hw e a c t j (S.trans r x)) (fun a c t j x=>i1 a c t j (S.trans r x)) (fun a c t j x=>i2 a c t j (S.trans r x))
theorem MP.mk {b:Bool}{d:Nat}{γ:Γ}{w:World}{g:Goroutine}(hs:g.status= .running)(ho:b=true→g.offers=none)
  (hw:b=true→∀ai w' t j,S.R 0 γ w ai w'→S.J ai w' t j→Deaf t 0=d→S.Bl ai w'→G9 S ai w' j g)
  (h:∀ai w' t j,S.R 0 γ w ai w'→S.J ai w' t j→Deaf t 0=d→(b=true→¬S.Bl ai w')→∃z:Nz Γ,Z4 S Q ai w' t j g z∧(∀x b',z= .go x b'→MP S Q b' (deafBehind d x.es) x.γ x.w x.g)∧∀x b',z= .spawn x b'→MP S Q b' (deafBehind d x.es) x.γ x.w x.g):MP S Q b d γ w g:=by
 have key:∀i:Γ×World×Trace×Nat,∃z:Nz Γ,S.R 0 γ w i.1 i.2.1→S.J i.1 i.2.1 i.2.2.1 i.2.2.2→Deaf i.2.2.1 0=d→(b=true→¬S.Bl i.1 i.2.1)→
   (Z4 S Q i.1 i.2.1 i.2.2.1 i.2.2.2 g z∧(∀x b',z= .go x b'→MP S Q b' (deafBehind d x.es) x.γ x.w x.g)∧∀x b',z= .spawn x b'→MP S Q b' (deafBehind d x.es) x.γ x.w x.g):=by
  rintro⟨ai,w',t,j⟩;by_cases hh:S.R 0 γ w ai w'∧S.J ai w' t j∧Deaf t 0=d∧(b=true→¬S.Bl ai w')
  ·obtain⟨z,hz⟩:=h ai w' t j hh.1 hh.2.1 hh.2.2.1 hh.2.2.2
   exact⟨z,fun _ _ _ _=>hz⟩
  ·exact⟨.fin (.exit 0) w #[],fun a1 a2 a3 a4=>absurd ⟨a1,a2,a3,a4⟩ hh⟩
 exact .step b hs ho (fun ai w' t j=>(key (ai,w',t,j)).choose) (fun ai w' t j a1 a2 a3 a4=>((key (ai,w',t,j)).choose_spec a1 a2 a3 a4).1) hw
  (fun ai w' t j a1 a2 a3 a4=>((key (ai,w',t,j)).choose_spec a1 a2 a3 a4).2.1) (fun ai w' t j a1 a2 a3 a4=>((key (ai,w',t,j)).choose_spec a1 a2 a3 a4).2.2)
theorem MP.go {d:Nat}{γ:Γ}{w:World}{g:Goroutine}(hs:g.status= .running)
  (h:∀ai w' t j,S.R 0 γ w ai w'→S.J ai w' t j→Deaf t 0=d→∃(x:Nx Γ) (b':Bool),qV S 0 true ai w' t j g x∧MP S Q b' (deafBehind d x.es) x.γ x.w x.g):MP S Q false d γ w g:=
 .mk hs nofun nofun fun ai w' t j a1 a2 a3 _=>by
  obtain⟨x,b',h1,h2⟩:=h ai w' t j a1 a2 a3;exact⟨.go x b',h1,fun y c e=>(by cases e;exact h2),fun y c e=>(by cases e)⟩
def Cn (S:Sys P Γ)(Q:Γ→World→Trace→Nat→Outcome→World→Prop)(m:Machine)(t:Trace):Prop:=
 ∃M bX w' El t' ai w2 j' o w1 ops,runNT P M m t=(.next (crowd bX w' El),t')∧stepT P (crowd bX w' El)=(.ended o w1,ops)∧Q ai w2 (t'++ops) j' o w1∧S.J ai w2 t' j'∧bX.size=j'+1∧
  ∀k,1≤k→k≤j'→∃x,bX[k]?=some x∧(S.Gone ai k→∃n,QuitsD P n (Deaf (t'++ops) k) x)
theorem Cn.next {m m':Machine}{t:Trace}{ops:Array MemOp}(h:stepT P m=(.next m',ops))(r:Cn S Q m' (t++ops)):Cn S Q m t:=by
 obtain⟨M,bX,w',El,t',ai,w2,j',o,w1,xy,h1,h2⟩:=r;refine⟨M+1,bX,w',El,t',ai,w2,j',o,w1,xy,?_,h2⟩;simp only[runNT,h];exact h1
end
end Go.Proofs.YtabjbdnokpjipaaGreat.Sr
namespace Go.Proofs.YtabjbdnokpjipaaGreat.Sr
open Go Go.Conc
section
variable {P:Program}{Γ:Type}(S:Sys P Γ)(Q:Γ→World→Trace→Nat→Outcome→World→Prop)
def qW (g:Goroutine):Bool→Goroutine
 |true=>g
 |false=>{g with status:= .blocked}
structure St (gs:Array Goroutine) (w:World) (t:Trace) (γ:Γ) (j:Nat) (oo:Tr) (gf:Nat→Tr) (b run:Bool) (g:Goroutine):Prop where
 size:gs.size=j+1
 inv:S.J γ w t j
 main:xB S Q oo b (Deaf t 0) γ w g
 Tj:gs[0]?=some (qW g run)
 blk:run=false→b=true∧S.Bl γ w
 wk:∀k,1≤k→k≤j→∃x,gs[k]?=some x∧A_ S k (gf k) (Deaf t k) γ w x
variable {S Q}
theorem xB.run {ρ:Tr}{b:Bool}{d:Nat}{γ:Γ}{w:World}{g:Goroutine}(h:xB S Q ρ b d γ w g):g.status= .running∧(b=true→g.offers=none):=by
 cases h with
 |step _ hs ho=>exact⟨hs,ho⟩
theorem A_.status {k d:Nat}{ρ:Tr}{γ:Γ}{w:World}{g:Goroutine}(h:A_ S k ρ d γ w g):g.status= .running∨g.status= .finished:=by
 cases h with
 |quit n h _=>exact h.status
 |step hs=>exact .inl hs
theorem pg {P:Program}{g g':Goroutine}{w':World}{o:Goroutine}(h:o.status= .running∨o.status= .finished):woken P g g' w' o=o:=by
 unfold woken;split
 ·exact again_running _ h
 ·rfl
variable {gs:Array Goroutine}{w:World}{t:Trace}{γ:Γ}{j:Nat}{oo:Tr}{gf:Nat→Tr}{b run:Bool}{g:Goroutine}
theorem St.draw (h:St S Q gs w t γ j oo gf b run g)(d:Nat):St S Q gs (w.at d) t γ j oo gf b run g:=
 ⟨h.size,S.Wx d h.inv,h.main.rely (S.Cm _ _ _ d),h.Tj,fun e=>⟨(h.blk e).1,(S.Rr _ _ d).2 (h.blk e).2⟩,fun k k1 kj=>let⟨x,h1,h2⟩:=h.wk k k1 kj;⟨x,h1,h2.rely (S.Cm _ _ _ d)⟩⟩
theorem fH {i:Nat}{fn:FuncId}{pos:String}{es:Array Event}:∀op∈MemOp.ofEvents i fn pos es,op.g=i:=by
 intro op bf;rw[ofEvents_eq]at bf;obtain⟨e,_,rfl⟩:=Array.mem_map.1 bf;rfl
theorem St.worker (h:St S Q gs w t γ j oo gf b run g){i:Nat}{x:Goroutine}(i1:1≤i)(hi:gs[i]?=some x)(hx:x.status= .running):
  ∃x' w' es ai vC run',stepG P false x w= .go x' w' es∧OF (j+1) vC gf∧St S Q ((gs.map (woken P x x' w')).setIfInBounds i x') w' (t++MemOp.ofEvents i x.frame.fn x.frame.place es) ai j oo vC b run' g:=by
 have jf:i≤j:=by have:=(Array.getElem?_eq_some_iff.1 hi).1;rw[h.size]at this;omega
 obtain⟨x2,JI,hw⟩:=h.wk i i1 jf;rw[hi]at JI;obtain rfl:=Option.some.inj JI
 obtain⟨Wz,acT⟩:=h.main.run;have fin:∀(x':Goroutine) (w':World) (es:Array Event) (ai:Γ) (ρ':Tr),stepG P false x w= .go x' w' es→Tr.Lt ρ' (gf i)→S.J ai w' (t++MemOp.ofEvents i x.frame.fn x.frame.place es) j→(∀k,k≠i→S.R k γ w ai w')→
   (S.Bl γ w→¬S.Bl ai w'→mayWake P x=true∧x'.status= .running)→A_ S i ρ' (deafBehind (Deaf t i) es) ai w' x'→
   ∃x' w' es ai vC run',stepG P false x w= .go x' w' es∧OF (j+1) vC gf∧St S Q ((gs.map (woken P x x' w')).setIfInBounds i x') w' (t++MemOp.ofEvents i x.frame.fn x.frame.place es) ai j oo vC b run' g:=by
  intro x' w' es ai ρ' hgo ak hJ hR hBl hW;let vC:Nat→Tr:=fun k=>if k=i then ρ' else gf k
  have e0:vC i=ρ':=if_pos rfl
  have e1:∀k,k≠i→vC k=gf k:=fun k hk=>if_neg hk
  have abX:∃run',woken P x x' w' (qW g run)=qW g run'∧(run'=false→run=false∧¬(mayWake P x=true∧x'.status= .running)):=by
   cases run with
   |true=>exact⟨true,pg (.inl Wz),nofun⟩
   |false=>
    have hb:=(h.blk rfl).1;unfold woken;split
    ·refine⟨true,?_,nofun⟩
     have ho:=acT hb;obtain⟨f,c,s,dd,o⟩:=g;dsimp only at Wz ho
     subst Wz ho;rfl
    ·rename_i hc
     refine⟨false,rfl,fun _=>⟨rfl,fun⟨c1,c2⟩=>hc ?_⟩⟩
     rw[c1,c2];rfl
  obtain⟨run',aE,cU⟩:=abX;refine⟨x',w',es,ai,vC,run',hgo,⟨i,by omega,by rw[e0];exact ak,e1⟩,by simp[h.size],hJ,?_,?_,fun e=>?_,fun k k1 kj=>?_⟩
  ·rw[Deaf_other t (by omega) _ fH]
   exact h.main.rely (hR 0 (by omega))
  ·rw[Array.getElem?_setIfInBounds_ne (by omega),Array.getElem?_map,h.Tj,Option.map_some,aE]
  ·obtain⟨r1,r2⟩:=cU e
   obtain⟨hb,Ba⟩:=h.blk r1;exact⟨hb,Classical.byContradiction fun hn=>r2 (hBl Ba hn)⟩
  ·by_cases hk:k=i
   ·subst hk
    refine⟨x',by rw[Array.getElem?_setIfInBounds_self_of_lt (by simp[h.size];omega)],?_⟩
    rw[e0,Deaf_own];exact hW
   ·obtain⟨y,hy,ti⟩:=h.wk k k1 kj
    refine⟨y,by rw[Array.getElem?_setIfInBounds_ne (Ne.symm hk),Array.getElem?_map,hy,Option.map_some,pg ti.status],?_⟩
    rw[e1 k hk,Deaf_other t (Ne.symm hk) _ fH];exact ti.rely (hR k hk)
 generalize eK:gf i=ρ at hw fin
 cases hw with
 |quit n hq hg=>
  cases n with
  |zero=>rw[hq.1]at hx;cases hx
  |succ n=>
   rcases hq with⟨hf,_⟩|⟨_,x',es,hm,aZ,ZY⟩
   ·rw[hf]at hx;cases hx
   exact fin x' w es γ _ (aZ w) (Tr.Z3 n) (S.mute _ _ _ h.inv (hg _ _ (S.refl _ _ _)) i1 jf hm) (fun k _=>S.refl _ _ _) (fun a c=>absurd a c) (.quit n ZY hg)
 |step hs hg nx ρn dP hr ih=>
  obtain⟨⟨a1,a2,a3⟩,a4⟩:=dP γ w t j (S.refl _ _ _) h.inv rfl jf;exact fin _ _ _ _ _ a1 (hr γ w t j (S.refl _ _ _) h.inv rfl jf) a2 a3 a4 (ih γ w t j (S.refl _ _ _) h.inv rfl jf)
theorem G_ (i:Nat)(fn:FuncId)(pos:String):MemOp.ofEvents i fn pos #[]= #[]:=by rw[ofEvents_eq];simp
theorem St.sleep (h:St S Q gs w t γ j oo gf b true g)(hb:b=true)(Ba:S.Bl γ w):St S Q ((gs.map (woken P g {g with status:= .blocked} w)).setIfInBounds 0 {g with status:= .blocked}) w (t++MemOp.ofEvents 0 g.frame.fn g.frame.place #[]) γ j oo gf b false g:=by
 rw[G_,Array.append_empty];refine⟨by simp[h.size],h.inv,h.main,by simp[h.size,qW],fun _=>⟨hb,Ba⟩,fun k k1 kj=>?_⟩
 obtain⟨y,hy,ti⟩:=h.wk k k1 kj;exact⟨y,by rw[Array.getElem?_setIfInBounds_ne (by omega),Array.getElem?_map,hy,Option.map_some,pg ti.status],ti⟩
theorem St.go (h:St S Q gs w t γ j oo gf b true g){x:Nx Γ}(dP:qV S 0 true γ w t j g x){WA:Tr}{b':Bool}(hm:xB S Q WA b' (deafBehind (Deaf t 0) x.es) x.γ x.w x.g):
  St S Q ((gs.map (woken P g x.g x.w)).setIfInBounds 0 x.g) x.w (t++MemOp.ofEvents 0 g.frame.fn g.frame.place x.es) x.γ j WA gf b' true x.g:=by
 refine⟨by simp[h.size],dP.inv,by rw[Deaf_own];exact hm,by simp[h.size,qW],nofun,fun k k1 kj=>?_⟩
 obtain⟨y,hy,ti⟩:=h.wk k k1 kj;refine⟨y,by rw[Array.getElem?_setIfInBounds_ne (by omega),Array.getElem?_map,hy,Option.map_some,pg ti.status],?_⟩
 rw[Deaf_other t (by omega) _ fH]
 exact ti.rely (dP.Wy k (by omega))
theorem St.spawn (h:St S Q gs w t γ j oo gf b true g){x:Ny Γ}(dP:JH S γ w t j g x){WA ρc:Tr}{b':Bool}(hm:xB S Q WA b' (deafBehind (Deaf t 0) x.es) x.γ x.w x.g)(hc:A_ S (j+1) ρc 0 x.γ x.w x.c):
  St S Q ((gs.setIfInBounds 0 x.g).push x.c) x.w (t++((MemOp.ofEvents 0 g.frame.fn g.frame.place x.es).push {g:=0,fn:=g.frame.fn,pos:=g.frame.place,act:= .go (j+1)}|>.push {g:=j+1,fn:=x.c.frame.fn,pos:=g.frame.place,act:= .start})) x.γ (j+1) WA (fun k=>if k=j+1 then ρc else gf k) b' true x.g:=by
 have e2:(t++((MemOp.ofEvents 0 g.frame.fn g.frame.place x.es).push {g:=0,fn:=g.frame.fn,pos:=g.frame.place,act:= .go (j+1)}|>.push {g:=j+1,fn:=x.c.frame.fn,pos:=g.frame.place,act:= .start}))=
   ((t++MemOp.ofEvents 0 g.frame.fn g.frame.place x.es)++ #[{g:=0,fn:=g.frame.fn,pos:=g.frame.place,act:= .go (j+1)}])++ #[{g:=j+1,fn:=x.c.frame.fn,pos:=g.frame.place,act:= .start}]:=by
  apply Array.ext';simp
 have d1:∀k,k≠0→Deaf ((t++MemOp.ofEvents 0 g.frame.fn g.frame.place x.es)++ #[{g:=0,fn:=g.frame.fn,pos:=g.frame.place,act:= .go (j+1)}]) k=Deaf t k:=by
  intro k hk;rw[Deaf_other _ (g':=0) (by omega) _ (by simp),Deaf_other t (by omega) _ fH]
 have s0:∀(u:Trace) (k:Nat) (y:MemOp),y.act= .start∨(∃q,y.act= .go q)→Deaf (u++ #[y]) k=Deaf u k:=by
  intro u k y hy;have:=Deaf_append u k [y]
  simp only[List.foldl_cons,List.foldl_nil]at this;rw[show u++ #[y]=u++[y].toArray from rfl,this]
  unfold deafStep;rcases hy with hy|⟨q,hy⟩<;>rw[hy]
 rw[e2];refine⟨by simp[h.size],by have:=dP.inv;simp only at this;rwa[e2]at this,?_,by rw[Array.getElem?_push,if_neg (by simp[h.size]),Array.getElem?_setIfInBounds_self_of_lt (by simp[h.size])];rfl,nofun,fun k k1 kj=>?_⟩
 ·rw[s0 _ _ _ (.inl rfl),s0 _ _ _ (.inr ⟨_,rfl⟩),Deaf_own]
  exact hm
 ·have cf:0≠k:=by omega
  by_cases hk:k=j+1
  ·subst hk
   refine⟨x.c,by rw[Array.getElem?_push,if_pos (by simp[h.size])],?_⟩
   rw[s0 _ _ _ (.inl rfl),d1 _ (by omega),Go.ConcN.Deaf_absent fun i op hi e=>by have:=S.Rs h.inv i op hi;omega]
   simp only[if_true];exact hc
  ·obtain⟨y,hy,ti⟩:=h.wk k k1 (by omega)
   refine⟨y,?_,?_⟩
   ·rw[Array.getElem?_push,if_neg (by simp[h.size];omega),Array.getElem?_setIfInBounds_ne cf,hy]
   ·rw[s0 _ _ _ (.inl rfl),d1 _ (by omega)]
    simp only[if_neg hk];exact ti.rely (dP.Wy k (by omega) (by omega))
theorem St.runs (a0:Acc Tr.Lt oo):∀(j:Nat) (gf:Nat→Tr) (run:Bool) (gs:Array Goroutine) (w:World) (sl:Option (Nat×Nat)) (t:Trace) (γ:Γ) (b:Bool) (g:Goroutine),St S Q gs w t γ j oo gf b run g→Cn S Q (crowd gs w sl) t:=by
 induction a0 with
 |intro oo _ ih0=>
  intro j gf;induction OF.acc (j+1) gf with
  |intro gf _ G7=>
   have core:∀run:Bool,(run=true→∀gs w sl t γ b g,St S Q gs w t γ j oo gf b false g→Cn S Q (crowd gs w sl) t)→∀gs w sl t γ b g,St S Q gs w t γ j oo gf b run g→Cn S Q (crowd gs w sl) t:=by
    intro run kl gs w sl t γ b g h;have haw:∀x∈gs,awake x:=by
     intro x hx;obtain⟨i,hi,rfl⟩:=Array.mem_iff_getElem.1 hx;rcases Nat.eq_zero_or_pos i with rfl|dK
     ·have:gs[0]=qW g run:=by simpa[Array.getElem?_eq_getElem hi]using h.Tj
      rw[this]
      cases run with
      |true=>exact awake_of (.inl h.main.run.1)
      |false=>exact awake_of (.inr (.inl rfl))
     ·have jf:i≤j:=by rw[h.size]at hi;omega
      obtain⟨y,hy,ti⟩:=h.wk i dK jf;rw[Array.getElem?_eq_getElem hi]at hy;rw[Option.some.inj hy];exact awake_of (ti.status.elim .inl fun x=> .inr (.inr x))
    have Co:∃(i:Nat) (x:Goroutine),gs[i]?=some x∧x.status= .running:=by
     cases run with
     |true=>exact⟨0,g,h.Tj,h.main.run.1⟩
     |false=>
      obtain⟨hb,Ba⟩:=h.blk rfl;have hm:=h.main
      cases hm with
      |step _ _ _ _ _ _ hw _ _ _=>
       obtain⟨_,k,k1,kj,hg⟩:=hw hb γ w t j (S.refl _ _ _) h.inv rfl Ba;obtain⟨y,hy,ti⟩:=h.wk k k1 kj;generalize gf k=ρk at ti
       cases ti with
       |quit n hq bu=>exact absurd (bu _ _ (S.refl _ _ _)) hg
       |step hs=>exact⟨k,y,hy,hs⟩
    obtain⟨i,x,d,El,hi,hx,aZ⟩:=crowd_pick (P:=P) (w:=w) (sl:=sl) haw Co;have h':=h.draw d;rcases Nat.eq_zero_or_pos i with rfl|dK
    ·rw[h.Tj]at hi
     obtain rfl:=Option.some.inj hi
     cases run with
     |false=>cases hx
     |true=>
      have oq:=h'.Tj;simp only[qW]at oq aZ;have hm:=h'.main;by_cases G':b=true∧S.Bl γ (w.at d)
      ·obtain⟨hb,Ba⟩:=G'
       cases hm with
       |step _ _ _ _ _ _ hw _ _ _=>
        obtain⟨hgo,_⟩:=hw hb γ _ t j (S.refl _ _ _) h'.inv rfl Ba;exact Cn.next (aZ.trans (runT_crowd_go (i:=0) oq (show stepG P (0==0) g (w.at d)=_ from hgo))) (kl rfl _ _ _ _ _ _ _ (h'.sleep hb Ba))
      ·have wE:b=true→¬S.Bl γ (w.at d):=fun e Ba=>G' ⟨e,Ba⟩
       cases hm with
       |step _ hs ho nx ρn dP hw hr i1 i2=>
        have vD:=dP γ _ t j (S.refl _ _ _) h'.inv rfl wE;have ak:=hr γ (w.at d) t j
        cases hn:nx γ (w.at d) t j with
        |go y b'=>
         rw[hn]at vD;have JK:=i1 γ _ t j (S.refl _ _ _) h'.inv rfl wE y b' hn;exact Cn.next (aZ.trans (runT_crowd_go (i:=0) oq (show stepG P (0==0) g (w.at d)=_ from vD.go))) (ih0 _ ak _ _ _ _ _ _ _ _ _ _ (h'.go vD JK))
        |spawn y b'=>
         rw[hn]at vD;obtain⟨vD,hc⟩:=vD;obtain⟨ρc,hc⟩:=hc.G8;have JK:=i2 γ _ t j (S.refl _ _ _) h'.inv rfl wE y b' hn;have eV:=runT_crowd_spawn (sl:=El) (i:=0) oq (show stepG P (0==0) g (w.at d)=_ from vD.go)
         rw[h'.size]at eV;exact Cn.next (aZ.trans eV) (ih0 _ ak _ _ _ _ _ _ _ _ _ _ (h'.spawn vD JK hc))
        |fin o w1 es=>
         rw[hn]at vD;obtain⟨vE,hq⟩:=vD;refine⟨0,gs,w,sl,t,γ,w.at d,j,o,w1,_,rfl,aZ.trans (runT_many_ended (i:=0) oq (show stepG P (0==0) g (w.at d)=_ from vE)),hq,h'.inv,h.size,fun k k1 kj=>?_⟩
         obtain⟨y,hy,ti⟩:=h'.wk k k1 kj;refine⟨y,hy,fun hg=>?_⟩
         rw[Deaf_other t (by omega) _ fH]
         generalize gf k=ρk at ti
         cases ti with
         |quit n hq bu=>exact⟨n,hq⟩
         |step _ bu=>exact absurd hg (bu _ _ (S.refl _ _ _))
    ·obtain⟨x',w',es,ai,vC,run',hgo,ak,hS⟩:=h'.worker dK hi hx
     have tH:(i==0)=false:=by simp;omega
     exact Cn.next (aZ.trans (runT_crowd_go (i:=i) hi (by rw[tH];exact hgo))) (G7 _ ak _ _ _ _ _ _ _ _ hS)
   intro run
   cases run with
   |false=>exact core false nofun
   |true=>exact core true fun _=>core false nofun
end
end Go.Proofs.YtabjbdnokpjipaaGreat.Sr
namespace Go.Proofs.YtabjbdnokpjipaaGreat.Sr
open Go Go.Conc Go.ConcN
inductive lE|busy|said|off
 deriving DecidableEq
inductive WM|op|reg|la (k:Nat)|lb (k:Nat)|rel
 deriving DecidableEq
structure Ph where
 wg:Nat
 A:Nat
 n:Nat
 j0:Nat
 o8:Nat→Nat→Value
 eW:TypeId
 eA:TypeId
structure Gh where
 ow:Nat→Nat→Prop
 ro:Nat→Nat→Prop
 sh:Nat→Prop
 st:Nat→lE
 wm:WM
 ph:Option Ph
 extra:Nat
 j:Nat
def bS:Loc→Option Nat
 | .cell a=>some a.block
 | .obj r=>some r
 |_=>none
def Gh.Slot (γ:Gh)(k:Nat)(a:Addr):Prop:=∃p,γ.ph=some p∧p.j0<k∧a.block=p.A∧5*(k-p.j0-1)≤a.off∧a.off<5*(k-p.j0-1)+5
def Gh.Sh (γ:Gh):Loc→Prop:=fun l=>∃a,l= .cell a∧γ.sh a.block
def Gh.Own (γ:Gh):Nat→Loc→Prop:=fun k l=>(∃b,bS l=some b∧γ.ow k b)∨∃a,l= .cell a∧γ.Slot k a
def Gh.Rd (γ:Gh):Nat→Loc→Prop:=fun k l=>∃b,bS l=some b∧γ.ro k b
structure BA (γ:Gh):Prop where
 ow:∀k k' b,γ.ow k b→γ.ow k' b→k=k'
 tI:∀k k' b,γ.ow k b→¬γ.ro k' b
 vF:∀k b,γ.ow k b→¬γ.sh b
 xC:∀k b,γ.ro k b→¬γ.sh b
 A:∀p,γ.ph=some p→(∀k,¬γ.ow k p.A∧¬γ.ro k p.A)∧¬γ.sh p.A
theorem BA.apart {γ:Gh}(h:BA γ):Apart γ.Sh γ.Own γ.Rd:=by
 refine⟨?_,?_,?_,?_⟩
 ·rintro k k' l (⟨b,hb,ho⟩|⟨a,rfl,p,hp,hk,hA,h1,h2⟩) (⟨b',cT,tf⟩|⟨a',e,p',bw,cM,zb,jg,ot⟩)
  ·rw[hb]at cT;cases cT;exact h.ow _ _ _ ho tf
  ·subst e;cases hb;rw[zb]at ho;exact absurd ho ((h.A p' bw).1 k).1
  ·cases cT;rw[hA]at tf;exact absurd tf ((h.A p hp).1 k').1
  ·cases e;rw[hp]at bw;cases bw;omega
 ·rintro k k' l (⟨b,hb,ho⟩|⟨a,rfl,p,hp,hk,hA,h1,h2⟩) ⟨b',cT,hr⟩
  ·rw[hb]at cT;cases cT;exact h.tI _ _ _ ho hr
  ·cases cT;rw[hA]at hr;exact((h.A p hp).1 k').2 hr
 ·rintro k l (⟨b,hb,ho⟩|⟨a,rfl,p,hp,hk,hA,h1,h2⟩) ⟨a',e,hs⟩
  ·subst e;cases hb;exact h.vF _ _ ho hs
  ·cases e;rw[hA]at hs;exact(h.A p hp).2 hs
 ·rintro k l ⟨b,hb,hr⟩ ⟨a',rfl,hs⟩
  cases hb;exact h.xC _ _ hr hs
structure TJ (γ:Gh) (B:Nat) (t:Trace) (j:Nat):Prop where
 ct:CT γ.Sh γ.Own γ.Rd t j
 low:∀op∈t,op.act.low B
 over:∀i g,t.g? i=some g→g≠0→t.counts i→(∃q,t.g? q=some 0∧HappensBefore t i q)∨∃p,γ.ph=some p∧p.j0<g
 rel:∀p,γ.ph=some p→∀k,p.j0<k→k≤j→γ.st k≠.busy→∃r,RelBy ⟨p.wg,0,none⟩ t k r∧∀i x,r<i→t.g? i=some k→touchAt t i=some x→γ.Sh x.loc
 norel:∀p,γ.ph=some p→NoRelease ⟨p.wg,0,none⟩ t
 old:∀i x g,touchAt t i=some x→¬γ.Sh x.loc→t.g? i=some g→Knows t 0 i∨∃p,γ.ph=some p∧p.j0<g
section
variable {γ ai:Gh}{B B':Nat}{t u:Trace}{j k:Nat}{fn:FuncId}{pos:String}{es:Array Event}
def lR (t:Trace)(l:Loc):Prop:=∀i x,touchAt t i=some x→x.loc≠l
theorem lR.perm {l:Loc}(h:lR t l)(g:Nat):Perm t g l:=fun i x hx e=>absurd e (h i x hx)
theorem pj {l:Loc}{b:Nat}(h:∀op∈t,op.act.low B)(hb:bS l=some b)(hB:B≤b):lR t l:=by
 intro i x hx e;obtain⟨op,ho,nL⟩:=touch_of hx;have hl:=h op (Array.mem_of_getElem? ho);revert nL hl
 cases op.act with
 |access ev=>
  intro nL hl;simp only[MemAct.touch?,Option.some.injEq]at nL;subst nL;dsimp only at e
  simp only[MemAct.low,e]at hl
  cases l<;>simp_all[bS,Loc.low]<;>omega
 |mark m=>
  intro nL hl
  cases m<;>simp[MemAct.touch?]at nL<;>subst nL<;>dsimp only at e<;>subst e<;>simp_all[bS,MemAct.low]<;>omega
 |_=>intro nL;simp[MemAct.touch?]at nL
theorem qX {Sh Z5:Loc→Prop}{Own Rt Rd Rd':Nat→Loc→Prop}(h:CT Sh Own Rd t j)(h1:∀l,Z5 l→Sh l∨lR t l)
  (h2:∀k,1≤k→k≤j→∀l,Rt k l→Own k l∨lR t l) (h3:∀k,1≤k→k≤j→∀l,Rd' k l→Rd k l∨lR t l)
  (h4:∀l,¬Z5 l→(∀k,1≤k→k≤j→¬Rt k l∧¬Rd' k l)→(¬Sh l∧∀k,1≤k→k≤j→¬Own k l∧¬Rd k l)∨Perm t 0 l)
  (h5:∀l,¬Z5 l→(∀k,1≤k→k≤j→¬Rt k l)→(¬Sh l∧∀k,1≤k→k≤j→¬Own k l)∨PermW t 0 l):CT Z5 Rt Rd' t j:=by
 refine⟨fun i op x hi hx hs=>?_,fun k k1 kj l hl=>?_,fun k k1 kj l hl=>?_,fun l hs hl=>?_,fun l hs hl=>?_,h.nr,h.gs⟩
 ·rcases h1 _ hs with h'|h'
  ·exact h.quiet i op x hi hx h'
  ·exact absurd rfl (h' i x (by rw[touchAt_of hi];exact hx))
 ·exact(h2 k k1 kj l hl).elim (h.own k k1 kj l) (·.perm k)
 ·exact(h3 k k1 kj l hl).elim (h.rd k k1 kj l) (fun x=> .of (x.perm k))
 ·exact(h4 l hs hl).elim (fun x=>h.free l x.1 x.2) id
 ·exact(h5 l hs hl).elim (fun x=>h.mine l x.1 x.2) id
theorem ie {op:MemOp}{i:Nat}(h:op∈MemOp.ofEvents i fn pos es):∃e∈es,op.g=i∧op.act= .ofEvent e:=by
 rw[ofEvents_eq]at h;obtain⟨e,he,rfl⟩:=Array.mem_map.1 h;exact⟨e,he,rfl,rfl⟩
theorem zc (h:∀i g,t.g? i=some g→g≠0→t.counts i→(∃q,t.g? q=some 0∧HappensBefore t i q)∨∃p,γ.ph=some p∧p.j0<g)
  (hu:∀op∈u,op.g=0∨op.act.touch?=none∨∃p,γ.ph=some p∧p.j0<op.g):∀i g,(t++u).g? i=some g→g≠0→(t++u).counts i→(∃q,(t++u).g? q=some 0∧HappensBefore (t++u) i q)∨∃p,γ.ph=some p∧p.j0<g:=by
 intro i g hg cf hc;obtain⟨x,hx,_⟩:=hc;obtain⟨op,bf,nL⟩:=touch_of hx;have hgo:op.g=g:=by simpa[Trace.g?,bf]using hg
 rcases getElem?_append_cases bf with⟨hi,Ru⟩|⟨_,WB⟩
 ·rcases h i g (by simp[Trace.g?,Ru,hgo]) cf ((counts_old hi).1 ⟨x,hx,‹_›⟩)with⟨q,hq,hb⟩|h'
  ·have hql:q<t.size:=by
    unfold Trace.g? at hq;obtain⟨z,hz,_⟩:=Option.map_eq_some_iff.1 hq;exact lt_size_of_getElem? hz
   exact .inl ⟨q,by simpa[Trace.g?,getElem?_append_old hql]using hq,hb_app u hb⟩
  ·exact .inr h'
 ·rcases hu op WB with h0|h0|h0
  ·exact absurd (hgo.symm.trans h0) cf
  ·rw[h0]at nL;cases nL
  ·exact .inr (hgo▸h0)
theorem sM {i:Nat}{x:Touch}(h:touchAt (t++u) i=some x):touchAt t i=some x∧i<t.size∨∃op∈u,op.act.touch?=some x∧(t++u).g? i=some op.g:=by
 obtain⟨op,ho,nL⟩:=touch_of h;rcases getElem?_append_cases ho with⟨hi,tf⟩|⟨_,hou⟩
 ·exact .inl ⟨by rw[touchAt_of tf];exact nL,hi⟩
 ·exact .inr ⟨op,hou,nL,by simp[Trace.g?,ho]⟩
theorem xD (h:∀i x g,touchAt t i=some x→¬γ.Sh x.loc→t.g? i=some g→Knows t 0 i∨∃p,γ.ph=some p∧p.j0<g)
  (hu:∀op∈u,op.g=0∨(∀x,op.act.touch?=some x→γ.Sh x.loc)∨∃p,γ.ph=some p∧p.j0<op.g):∀i x g,touchAt (t++u) i=some x→¬γ.Sh x.loc→(t++u).g? i=some g→Knows (t++u) 0 i∨∃p,γ.ph=some p∧p.j0<g:=by
 intro i x g hx hs hg;obtain⟨op,bf,nL⟩:=touch_of hx;have hgo:op.g=g:=by simpa[Trace.g?,bf]using hg
 rcases getElem?_append_cases bf with⟨hi,Ru⟩|⟨_,WB⟩
 ·exact(h i x g (by rw[touchAt_of Ru];exact nL) hs (by simp[Trace.g?,Ru,hgo])).imp (·.app u) id
 ·rcases hu op WB with h0|h0|h0
  ·have:=knows_own bf
   rw[h0]at this;exact .inl this
  ·exact absurd (h0 x nL) hs
  ·exact .inr (hgo▸h0)
theorem ou {a:Addr}{r g:Nat}{Sh:Loc→Prop}(h:RelBy a t k r∧∀i x,r<i→t.g? i=some k→touchAt t i=some x→Sh x.loc)(hu:∀op∈u,op.g=g)(hg:g≠k):
  RelBy a (t++u) k r∧∀i x,r<i→(t++u).g? i=some k→touchAt (t++u) i=some x→Sh x.loc:=by
 refine⟨h.1.appOther hu hg,fun i x hi zd hx=>?_⟩
 rcases sM hx with⟨h1,ak⟩|⟨op,bf,_,h2⟩
 ·exact h.2 i x hi (by rwa[g?_old ak]at zd) h1
 ·rw[h2,Option.some.injEq]at zd
  exact absurd ((hu op bf).symm.trans zd) hg
def Tk (γ:Gh)(k B:Nat)(e:Event):Prop:=(∀x,(MemAct.ofEvent e).touch?=some x→γ.Own k x.loc∨(γ.Rd k x.loc∧x.write=false))∧(MemAct.ofEvent e).low B∧∀a,MemAct.ofEvent e≠.mark (.release a)
theorem TJ.worker (A:BA γ)(h:TJ γ B t j)(hB:B≤B'){p:Ph}(hp:γ.ph=some p)(hk:p.j0<k)(kj:k≤j)(hb:γ.st k= .busy)(bh:∀e∈es,Tk γ k B' e):TJ γ B' (t++MemOp.ofEvents k fn pos es) j:=by
 refine⟨h.ct.appW A.apart (by omega) kj fun op bf=>?_,fun op bf=>?_,zc h.over fun op bf=>?_,fun p' bw k' cM Ha hs=>?_,fun p' bw=>(h.norel p' bw).app fun op bf=>?_,xD h.old fun op bf=> .inr (.inr ⟨p,hp,(fH op bf).symm▸hk⟩)⟩
 ·obtain⟨e,he,h1,h2⟩:=ie bf
  exact⟨h1,fun x hx=> .inr ((bh e he).1 x (h2▸hx))⟩
 ·rcases Array.mem_append.1 bf with h1|h1
  ·exact MemAct.low_mono hB (h.low op h1)
  ·obtain⟨e,he,_,h2⟩:=ie h1
   rw[h2];exact(bh e he).2.1
 ·obtain⟨e,he,h1,h2⟩:=ie bf
  exact .inr (.inr ⟨p,hp,h1▸hk⟩)
 ·obtain⟨r,hr⟩:=h.rel p' bw k' cM Ha hs
  exact⟨r,ou hr fH fun e=>hs (e▸hb)⟩
 ·obtain⟨e,he,_,h2⟩:=ie bf
  rw[h2];exact(bh e he).2.2 _
end
end Go.Proofs.YtabjbdnokpjipaaGreat.Sr
