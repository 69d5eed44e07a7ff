/-
What is proved: a reckoner of steps that allot one block. Conditions: as stated.
-/
import Derived.Test.YtlhohdjniaebbaaGreatRy09
set_option linter.unusedVariables false
set_option linter.unusedSimpArgs false
namespace Go.Proofs.YtlhohdjniaebbaaGreat.Sr
open Go Go.Conc
def ug (P:Program)(r:Nat){α:Type}:Sem α→Array Event→Option (α×Array Event×Obj)
 | .program k,es=>ug P r (k P) es
 | .mark m k,es=>ug P r k (es.push ⟨.mark m,false,true⟩)
 | .new o k,es=>match kU P (k r) es with
   |some (a,aQ)=>some (a,aQ,o)
   |none=>none
 |_,_=>none
theorem wL {P:Program}{r:Nat}{α:Type}{s:Sem α}:∀{es aQ:Array Event} {a:α} {o:Obj},ug P r s es=some (a,aQ,o)→∀w:World,w.heap.size=r→s.runT P w es=(.ok a {w with heap:=w.heap.push o},aQ):=by
 induction s with
 |program k ih=>intro es aQ a o h w hr;exact ih P h w hr
 |mark m k ih=>intro es aQ a o h w hr;exact ih h w hr
 |new o' k ih=>
  intro es aQ a o h w hr;simp only[ug]at h
  cases hy:kU P (k r) es with
  |none=>rw[hy]at h;cases h
  |some y=>
   obtain⟨b,So⟩:=y;rw[hy]at h;simp only[Option.some.injEq,Prod.mk.injEq]at h;obtain⟨rfl,rfl,rfl⟩:=h;simp only[Sem.runT,hr];exact tN hy _
 |_=>intro es aQ a o h;cases h
def cT (P:Program)(r:Nat)(g:Goroutine):Option (Goroutine×Array Event×Obj):=
 match cm P g with
 |none=>none
 |some s=>match ug P r s #[]with
  |some (.value x,es,o)=>some (aZ g x,seen P g.frame.fn es,o)
  |_=>none
theorem gM {P:Program}{r:Nat}{g g':Goroutine}{es:Array Event}{o:Obj}(h:cT P r g=some (g',es,o)):
  g.status= .running∧∀(b:Bool) (w:World),w.heap.size=r→stepG P b g w= .go g' {w with heap:=w.heap.push o} es:=by
 unfold cT at h
 cases ho:cm P g with
 |none=>rw[ho]at h;cases h
 |some s=>
  rw[ho]at h;dsimp only at h
  split at h
  ·rename_i x C3 o0 hs
   cases h;exact⟨(ri ho true default).1,fun b w hr=>gL ho b (wL hs w hr)⟩
  ·cases h
def DF (P:Program)(g:Goroutine):Option (Goroutine×Goroutine):=
 match cm P g with
 |none=>none
 |some s=>match kU P s #[]with
  |some (.spawn {target:= .fn f cap,args},es)=>if es.isEmpty&&(seen P g.frame.fn #[]).isEmpty then some (aZ g undef,{frame:={(default:Frame)with fn:=P.funcs.size,defers:=[{target:= .fn f cap,args}],mode:= .panicking [goexitEntry]},callers:=[],status:= .running,dying:=none})else none
  |_=>none
theorem DG {P:Program}{g g' c:Goroutine}(h:DF P g=some (g',c)):g.status= .running∧∀(b:Bool) (w:World),stepG P b g w= .spawn g' c w #[]:=by
 unfold DF at h
 cases ho:cm P g with
 |none=>rw[ho]at h;cases h
 |some s=>
  rw[ho]at h;dsimp only at h
  split at h
  ·rename_i f cap args es hs
   split at h
   ·rename_i hc
    cases h;simp only[Bool.and_eq_true,Array.isEmpty_iff]at hc;obtain⟨rfl,eJ⟩:=hc;refine⟨(ri ho true default).1,fun b w=>?_⟩
    obtain⟨_,_,hk,e⟩:=ri ho b w;have vC:(g.frame.kind==CallKind.early)=false:=by simpa using hk
    rw[e];simp only[stepG.apply,tN hs w,vC,if_true,Bool.false_eq_true,if_false,GStep.after,Array.append_empty,aZ,eJ,Bool.and_false,Bool.false_and]
   ·cases h
  ·cases h
def wM (P:Program)(v:Value){α:Type}:Sem α→Array Event→Option (α×Array Event×List Addr)
 | .pure a,es=>some (a,es,[])
 | .program k,es=>wM P v (k P) es
 | .mark m k,es=>wM P v k (es.push ⟨.mark m,false,true⟩)
 | .load md a k,es=>match wM P v (k v) (es.push ⟨.cell a,false,md== .atomic⟩)with
   |some (b,aQ,l)=>some (b,aQ,a::l)
   |none=>none
 |_,_=>none
theorem Hw {P:Program}{v:Value}{α:Type}{s:Sem α}:∀{es aQ:Array Event} {a:α} {l:List Addr},wM P v s es=some (a,aQ,l)→∀w:World,(∀q∈l,w.cell? q=some v)→s.runT P w es=(.ok a w,aQ):=by
 induction s with
 |pure a=>intro es aQ b l h w _;simp only[wM,Option.some.injEq,Prod.mk.injEq]at h;obtain⟨rfl,rfl,rfl⟩:=h;rfl
 |program k ih=>intro es aQ b l h w;exact ih P h w
 |mark m k ih=>intro es aQ b l h w;exact ih h w
 |load md a k ih=>
  intro es aQ b l h w hl;simp only[wM]at h
  cases hy:wM P v (k v) (es.push ⟨.cell a,false,md== .atomic⟩)with
  |none=>rw[hy]at h;cases h
  |some y=>
   obtain⟨b',So,l'⟩:=y;rw[hy]at h;simp only[Option.some.injEq,Prod.mk.injEq]at h;obtain⟨rfl,rfl,rfl⟩:=h;simp only[Sem.runT,hl a (List.mem_cons_self ..)];exact ih v hy w fun q hq=>hl q (List.mem_cons_of_mem _ hq)
 |_=>intro es aQ b l h;cases h
def fB (P:Program)(v:Value)(g:Goroutine):Option (Goroutine×Array Event×List Addr):=
 match cm P g with
 |none=>none
 |some s=>match wM P v s #[]with
  |some (.value x,es,l)=>some (aZ g x,seen P g.frame.fn es,l)
  |_=>none
theorem DH {P:Program}{v:Value}{g g':Goroutine}{es:Array Event}{l:List Addr}(h:fB P v g=some (g',es,l)):
  g.status= .running∧∀(b:Bool) (w:World),(∀q∈l,w.cell? q=some v)→stepG P b g w= .go g' w es:=by
 unfold fB at h
 cases ho:cm P g with
 |none=>rw[ho]at h;cases h
 |some s=>
  rw[ho]at h;dsimp only at h
  split at h
  ·rename_i x C3 l0 hs
   cases h;exact⟨(ri ho true default).1,fun b w hl=>gL ho b (Hw hs w hl)⟩
  ·cases h
end Go.Proofs.YtlhohdjniaebbaaGreat.Sr
