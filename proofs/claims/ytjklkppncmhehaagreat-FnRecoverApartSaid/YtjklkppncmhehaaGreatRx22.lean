/-
What is proved: a reckoner of steps that allot one block ('nstep') and of go statements ('pstep'), and that they tell the truth. No condition.
-/
import Derived.Test.YtjklkppncmhehaaGreatRx09
set_option linter.unusedVariables false
set_option linter.unusedSimpArgs false
namespace Go.Proofs.YtjklkppncmhehaaGreat.Sr
open Go Go.Conc
def HX (P:Program)(r:Nat){α:Type}:Sem α→Array Event→Option (α×Array Event×Obj)
 | .program k,es=>HX P r (k P) es
 | .mark m k,es=>HX P r k (es.push ⟨.mark m,false,true⟩)
 | .new o k,es=>match oh P (k r) es with
   |some (a,aQ)=>some (a,aQ,o)
   |none=>none
 |_,_=>none
theorem HY {P:Program}{r:Nat}{α:Type}{s:Sem α}:∀{es aQ:Array Event} {a:α} {o:Obj},HX P r s es=some (a,aQ,o)→∀w:World,w.heap.size=r→s.runT P w es=(.ok a {w with heap:=w.heap.push o},aQ):=by
 induction s with
 |program k ih=>intro es aQ a o h w hr;exact ih P h w hr
 |mark m k ih=>intro es aQ a o h w hr;exact ih h w hr
 |new o' k ih=>
  intro es aQ a o h w hr;simp only[HX]at h
  cases hy:oh P (k r) es with
  |none=>rw[hy]at h;cases h
  |some y=>
   obtain⟨b,QZ⟩:=y;rw[hy]at h;simp only[Option.some.injEq,Prod.mk.injEq]at h;obtain⟨rfl,rfl,rfl⟩:=h;simp only[Sem.runT,hr];exact ux hy _
 |_=>intro es aQ a o h;cases h
def dh (P:Program)(r:Nat)(g:Goroutine):Option (Goroutine×Array Event×Obj):=
 match gu P g with
 |none=>none
 |some s=>match HX P r s #[]with
  |some (.value x,es,o)=>some (bu g x,seen P g.frame.fn es,o)
  |_=>none
theorem iu {P:Program}{r:Nat}{g g':Goroutine}{es:Array Event}{o:Obj}(h:dh P r g=some (g',es,o)):
  g.status= .running∧∀(b:Bool) (w:World),w.heap.size=r→stepG P b g w= .go g' {w with heap:=w.heap.push o} es:=by
 unfold dh at h
 cases ho:gu P g with
 |none=>rw[ho]at h;cases h
 |some s=>
  rw[ho]at h;dsimp only at h
  split at h
  ·rename_i x Dm o0 hs
   cases h;exact⟨(yZ ho true default).1,fun b w hr=>oV ho b (HY hs w hr)⟩
  ·cases h
def DZ (P:Program)(g:Goroutine):Option (Goroutine×Goroutine):=
 match gu P g with
 |none=>none
 |some s=>match oh P s #[]with
  |some (.spawn {target:= .fn f cap,args},es)=>if es.isEmpty&&(seen P g.frame.fn #[]).isEmpty then some (bu g undef,{frame:={(default:Frame)with fn:=P.funcs.size,defers:=[{target:= .fn f cap,args}],mode:= .panicking [goexitEntry]},callers:=[],status:= .running,dying:=none})else none
  |_=>none
theorem D4 {P:Program}{g g' c:Goroutine}(h:DZ P g=some (g',c)):g.status= .running∧∀(b:Bool) (w:World),stepG P b g w= .spawn g' c w #[]:=by
 unfold DZ at h
 cases ho:gu P g with
 |none=>rw[ho]at h;cases h
 |some s=>
  rw[ho]at h;dsimp only at h
  split at h
  ·rename_i f cap args es hs
   split at h
   ·rename_i hc
    cases h;simp only[Bool.and_eq_true,Array.isEmpty_iff]at hc;obtain⟨rfl,fj⟩:=hc;refine⟨(yZ ho true default).1,fun b w=>?_⟩
    obtain⟨_,_,hk,e⟩:=yZ ho b w;have yY:(g.frame.kind==CallKind.early)=false:=by simpa using hk
    rw[e];simp only[stepG.apply,ux hs w,yY,if_true,Bool.false_eq_true,if_false,GStep.after,Array.append_empty,bu,fj,Bool.and_false,Bool.false_and]
   ·cases h
  ·cases h
def xq (P:Program)(v:Value){α:Type}:Sem α→Array Event→Option (α×Array Event×List Addr)
 | .pure a,es=>some (a,es,[])
 | .program k,es=>xq P v (k P) es
 | .mark m k,es=>xq P v k (es.push ⟨.mark m,false,true⟩)
 | .load md a k,es=>match xq P v (k v) (es.push ⟨.cell a,false,md== .atomic⟩)with
   |some (b,aQ,l)=>some (b,aQ,a::l)
   |none=>none
 |_,_=>none
theorem H0 {P:Program}{v:Value}{α:Type}{s:Sem α}:∀{es aQ:Array Event} {a:α} {l:List Addr},xq P v s es=some (a,aQ,l)→∀w:World,(∀q∈l,w.cell? q=some v)→s.runT P w es=(.ok a w,aQ):=by
 induction s with
 |pure a=>intro es aQ b l h w _;simp only[xq,Option.some.injEq,Prod.mk.injEq]at h;obtain⟨rfl,rfl,rfl⟩:=h;rfl
 |program k ih=>intro es aQ b l h w;exact ih P h w
 |mark m k ih=>intro es aQ b l h w;exact ih h w
 |load md a k ih=>
  intro es aQ b l h w hl;simp only[xq]at h
  cases hy:xq P v (k v) (es.push ⟨.cell a,false,md== .atomic⟩)with
  |none=>rw[hy]at h;cases h
  |some y=>
   obtain⟨b',QZ,l'⟩:=y;rw[hy]at h;simp only[Option.some.injEq,Prod.mk.injEq]at h;obtain⟨rfl,rfl,rfl⟩:=h;simp only[Sem.runT,hl a (List.mem_cons_self ..)];exact ih v hy w fun q hq=>hl q (List.mem_cons_of_mem _ hq)
 |_=>intro es aQ b l h;cases h
def fJ (P:Program)(v:Value)(g:Goroutine):Option (Goroutine×Array Event×List Addr):=
 match gu P g with
 |none=>none
 |some s=>match xq P v s #[]with
  |some (.value x,es,l)=>some (bu g x,seen P g.frame.fn es,l)
  |_=>none
theorem D5 {P:Program}{v:Value}{g g':Goroutine}{es:Array Event}{l:List Addr}(h:fJ P v g=some (g',es,l)):
  g.status= .running∧∀(b:Bool) (w:World),(∀q∈l,w.cell? q=some v)→stepG P b g w= .go g' w es:=by
 unfold fJ at h
 cases ho:gu P g with
 |none=>rw[ho]at h;cases h
 |some s=>
  rw[ho]at h;dsimp only at h
  split at h
  ·rename_i x Dm l0 hs
   cases h;exact⟨(yZ ho true default).1,fun b w hl=>oV ho b (H0 hs w hl)⟩
  ·cases h
end Go.Proofs.YtjklkppncmhehaaGreat.Sr
