/-
What is proved: a reckoner of steps that allot one block ('nstep') and of go statements ('pstep'), and that they tell the truth. No condition.
-/
import Derived.Test.YtjklkppncmhehaaGreatRa09
set_option linter.unusedVariables false
set_option linter.unusedSimpArgs false
namespace Go.Proofs.YtjklkppncmhehaaGreat.Sr
open Go Go.Conc
def Eu (P:Program)(r:Nat){α:Type}:Sem α→Array Event→Option (α×Array Event×Obj)
 | .program k,es=>Eu P r (k P) es
 | .mark m k,es=>Eu P r k (es.push ⟨.mark m,false,true⟩)
 | .new o k,es=>match me P (k r) es with
   |some (a,aJ)=>some (a,aJ,o)
   |none=>none
 |_,_=>none
theorem Ev {P:Program}{r:Nat}{α:Type}{s:Sem α}:∀{es aJ:Array Event} {a:α} {o:Obj},Eu P r s es=some (a,aJ,o)→∀w:World,w.heap.size=r→s.runT P w es=(.ok a {w with heap:=w.heap.push o},aJ):=by
 induction s with
 |program k ih=>intro es aJ a o h w hr;exact ih P h w hr
 |mark m k ih=>intro es aJ a o h w hr;exact ih h w hr
 |new o' k ih=>
  intro es aJ a o h w hr;simp only[Eu]at h
  cases hy:me P (k r) es with
  |none=>rw[hy]at h;cases h
  |some y=>
   obtain⟨b,Ng⟩:=y;rw[hy]at h;simp only[Option.some.injEq,Prod.mk.injEq]at h;obtain⟨rfl,rfl,rfl⟩:=h;simp only[Sem.runT,hr];exact rr hy _
 |_=>intro es aJ a o h;cases h
def cz (P:Program)(r:Nat)(g:Goroutine):Option (Goroutine×Array Event×Obj):=
 match eQ P g with
 |none=>none
 |some s=>match Eu P r s #[]with
  |some (.value x,es,o)=>some (bf g x,seen P g.frame.fn es,o)
  |_=>none
theorem fM {P:Program}{r:Nat}{g g':Goroutine}{es:Array Event}{o:Obj}(h:cz P r g=some (g',es,o)):
  g.status= .running∧∀(b:Bool) (w:World),w.heap.size=r→stepG P b g w= .go g' {w with heap:=w.heap.push o} es:=by
 unfold cz at h
 cases ho:eQ P g with
 |none=>rw[ho]at h;cases h
 |some s=>
  rw[ho]at h;dsimp only at h
  split at h
  ·rename_i x zU o0 hs
   cases h;exact⟨(vw ho true default).1,fun b w hr=>mP ho b (Ev hs w hr)⟩
  ·cases h
def AE (P:Program)(g:Goroutine):Option (Goroutine×Goroutine):=
 match eQ P g with
 |none=>none
 |some s=>match me P s #[]with
  |some (.spawn {target:= .fn f cap,args},es)=>if es.isEmpty&&(seen P g.frame.fn #[]).isEmpty then some (bf g undef,{frame:={(default:Frame)with fn:=P.funcs.size,defers:=[{target:= .fn f cap,args}],mode:= .panicking [goexitEntry]},callers:=[],status:= .running,dying:=none})else none
  |_=>none
theorem AF {P:Program}{g g' c:Goroutine}(h:AE P g=some (g',c)):g.status= .running∧∀(b:Bool) (w:World),stepG P b g w= .spawn g' c w #[]:=by
 unfold AE at h
 cases ho:eQ P g with
 |none=>rw[ho]at h;cases h
 |some s=>
  rw[ho]at h;dsimp only at h
  split at h
  ·rename_i f cap args es hs
   split at h
   ·rename_i hc
    cases h;simp only[Bool.and_eq_true,Array.isEmpty_iff]at hc;obtain⟨rfl,eC⟩:=hc;refine⟨(vw ho true default).1,fun b w=>?_⟩
    obtain⟨_,_,hk,e⟩:=vw ho b w;have vv:(g.frame.kind==CallKind.early)=false:=by simpa using hk
    rw[e];simp only[stepG.apply,rr hs w,vv,if_true,Bool.false_eq_true,if_false,GStep.after,Array.append_empty,bf,eC,Bool.and_false,Bool.false_and]
   ·cases h
  ·cases h
def ua (P:Program)(v:Value){α:Type}:Sem α→Array Event→Option (α×Array Event×List Addr)
 | .pure a,es=>some (a,es,[])
 | .program k,es=>ua P v (k P) es
 | .mark m k,es=>ua P v k (es.push ⟨.mark m,false,true⟩)
 | .load md a k,es=>match ua P v (k v) (es.push ⟨.cell a,false,md== .atomic⟩)with
   |some (b,aJ,l)=>some (b,aJ,a::l)
   |none=>none
 |_,_=>none
theorem Ew {P:Program}{v:Value}{α:Type}{s:Sem α}:∀{es aJ:Array Event} {a:α} {l:List Addr},ua P v s es=some (a,aJ,l)→∀w:World,(∀q∈l,w.cell? q=some v)→s.runT P w es=(.ok a w,aJ):=by
 induction s with
 |pure a=>intro es aJ b l h w _;simp only[ua,Option.some.injEq,Prod.mk.injEq]at h;obtain⟨rfl,rfl,rfl⟩:=h;rfl
 |program k ih=>intro es aJ b l h w;exact ih P h w
 |mark m k ih=>intro es aJ b l h w;exact ih h w
 |load md a k ih=>
  intro es aJ b l h w hl;simp only[ua]at h
  cases hy:ua P v (k v) (es.push ⟨.cell a,false,md== .atomic⟩)with
  |none=>rw[hy]at h;cases h
  |some y=>
   obtain⟨b',Ng,l'⟩:=y;rw[hy]at h;simp only[Option.some.injEq,Prod.mk.injEq]at h;obtain⟨rfl,rfl,rfl⟩:=h;simp only[Sem.runT,hl a (List.mem_cons_self ..)];exact ih v hy w fun q hq=>hl q (List.mem_cons_of_mem _ hq)
 |_=>intro es aJ b l h;cases h
def dW (P:Program)(v:Value)(g:Goroutine):Option (Goroutine×Array Event×List Addr):=
 match eQ P g with
 |none=>none
 |some s=>match ua P v s #[]with
  |some (.value x,es,l)=>some (bf g x,seen P g.frame.fn es,l)
  |_=>none
theorem AG {P:Program}{v:Value}{g g':Goroutine}{es:Array Event}{l:List Addr}(h:dW P v g=some (g',es,l)):
  g.status= .running∧∀(b:Bool) (w:World),(∀q∈l,w.cell? q=some v)→stepG P b g w= .go g' w es:=by
 unfold dW at h
 cases ho:eQ P g with
 |none=>rw[ho]at h;cases h
 |some s=>
  rw[ho]at h;dsimp only at h
  split at h
  ·rename_i x zU l0 hs
   cases h;exact⟨(vw ho true default).1,fun b w hl=>mP ho b (Ew hs w hl)⟩
  ·cases h
end Go.Proofs.YtjklkppncmhehaaGreat.Sr
