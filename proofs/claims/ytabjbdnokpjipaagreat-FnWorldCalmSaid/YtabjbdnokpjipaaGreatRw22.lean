/-
What is proved: a reckoner of steps that allot one block. Conditions: as stated.
-/
import Derived.Test.YtabjbdnokpjipaaGreatRw09
set_option linter.unusedVariables false
set_option linter.unusedSimpArgs false
namespace Go.Proofs.YtabjbdnokpjipaaGreat.Sr
open Go Go.Conc
def xQ (P:Program)(r:Nat){α:Type}:Sem α→Array Event→Option (α×Array Event×Obj)
 | .program k,es=>xQ P r (k P) es
 | .mark m k,es=>xQ P r k (es.push ⟨.mark m,false,true⟩)
 | .new o k,es=>match lK P (k r) es with
   |some (a,bd)=>some (a,bd,o)
   |none=>none
 |_,_=>none
theorem Ah {P:Program}{r:Nat}{α:Type}{s:Sem α}:∀{es bd:Array Event} {a:α} {o:Obj},xQ P r s es=some (a,bd,o)→∀w:World,w.heap.size=r→s.runT P w es=(.ok a {w with heap:=w.heap.push o},bd):=by
 induction s with
 |program k ih=>intro es bd a o h w hr;exact ih P h w hr
 |mark m k ih=>intro es bd a o h w hr;exact ih h w hr
 |new o' k ih=>
  intro es bd a o h w hr;simp only[xQ]at h
  cases hy:lK P (k r) es with
  |none=>rw[hy]at h;cases h
  |some y=>
   obtain⟨b,Wo⟩:=y;rw[hy]at h;simp only[Option.some.injEq,Prod.mk.injEq]at h;obtain⟨rfl,rfl,rfl⟩:=h;simp only[Sem.runT,hr];exact wz hy _
 |_=>intro es bd a o h;cases h
def dB (P:Program)(r:Nat)(g:Goroutine):Option (Goroutine×Array Event×Obj):=
 match cN P g with
 |none=>none
 |some s=>match xQ P r s #[]with
  |some (.value x,es,o)=>some (bm g x,seen P g.frame.fn es,o)
  |_=>none
theorem jD {P:Program}{r:Nat}{g g':Goroutine}{es:Array Event}{o:Obj}(h:dB P r g=some (g',es,o)):
  g.status= .running∧∀(b:Bool) (w:World),w.heap.size=r→stepG P b g w= .go g' {w with heap:=w.heap.push o} es:=by
 unfold dB at h
 cases ho:cN P g with
 |none=>rw[ho]at h;cases h
 |some s=>
  rw[ho]at h;dsimp only at h
  split at h
  ·rename_i x GW o0 hs
   cases h;exact⟨(vj ho true default).1,fun b w hr=>jB ho b (Ah hs w hr)⟩
  ·cases h
def Hv (P:Program)(g:Goroutine):Option (Goroutine×Goroutine):=
 match cN P g with
 |none=>none
 |some s=>match lK P s #[]with
  |some (.spawn {target:= .fn f cap,args},es)=>if es.isEmpty&&(seen P g.frame.fn #[]).isEmpty then some (bm g undef,{frame:={(default:Frame)with fn:=P.funcs.size,defers:=[{target:= .fn f cap,args}],mode:= .panicking [goexitEntry]},callers:=[],status:= .running,dying:=none})else none
  |_=>none
theorem Hw {P:Program}{g g' c:Goroutine}(h:Hv P g=some (g',c)):g.status= .running∧∀(b:Bool) (w:World),stepG P b g w= .spawn g' c w #[]:=by
 unfold Hv at h
 cases ho:cN P g with
 |none=>rw[ho]at h;cases h
 |some s=>
  rw[ho]at h;dsimp only at h
  split at h
  ·rename_i f cap args es hs
   split at h
   ·rename_i hc
    cases h;simp only[Bool.and_eq_true,Array.isEmpty_iff]at hc;obtain⟨rfl,n_⟩:=hc;refine⟨(vj ho true default).1,fun b w=>?_⟩
    obtain⟨_,_,hk,e⟩:=vj ho b w;have y_:(g.frame.kind==CallKind.early)=false:=by simpa using hk
    rw[e];simp only[stepG.apply,wz hs w,y_,if_true,Bool.false_eq_true,if_false,GStep.after,Array.append_empty,bm,n_,Bool.and_false,Bool.false_and]
   ·cases h
  ·cases h
def Ai (P:Program)(v:Value){α:Type}:Sem α→Array Event→Option (α×Array Event×List Addr)
 | .pure a,es=>some (a,es,[])
 | .program k,es=>Ai P v (k P) es
 | .mark m k,es=>Ai P v k (es.push ⟨.mark m,false,true⟩)
 | .load md a k,es=>match Ai P v (k v) (es.push ⟨.cell a,false,md== .atomic⟩)with
   |some (b,bd,l)=>some (b,bd,a::l)
   |none=>none
 |_,_=>none
theorem Ls {P:Program}{v:Value}{α:Type}{s:Sem α}:∀{es bd:Array Event} {a:α} {l:List Addr},Ai P v s es=some (a,bd,l)→∀w:World,(∀q∈l,w.cell? q=some v)→s.runT P w es=(.ok a w,bd):=by
 induction s with
 |pure a=>intro es bd b l h w _;simp only[Ai,Option.some.injEq,Prod.mk.injEq]at h;obtain⟨rfl,rfl,rfl⟩:=h;rfl
 |program k ih=>intro es bd b l h w;exact ih P h w
 |mark m k ih=>intro es bd b l h w;exact ih h w
 |load md a k ih=>
  intro es bd b l h w hl;simp only[Ai]at h
  cases hy:Ai P v (k v) (es.push ⟨.cell a,false,md== .atomic⟩)with
  |none=>rw[hy]at h;cases h
  |some y=>
   obtain⟨b',Wo,l'⟩:=y;rw[hy]at h;simp only[Option.some.injEq,Prod.mk.injEq]at h;obtain⟨rfl,rfl,rfl⟩:=h;simp only[Sem.runT,hl a (List.mem_cons_self ..)];exact ih v hy w fun q hq=>hl q (List.mem_cons_of_mem _ hq)
 |_=>intro es bd b l h;cases h
def iB (P:Program)(v:Value)(g:Goroutine):Option (Goroutine×Array Event×List Addr):=
 match cN P g with
 |none=>none
 |some s=>match Ai P v s #[]with
  |some (.value x,es,l)=>some (bm g x,seen P g.frame.fn es,l)
  |_=>none
theorem Hx {P:Program}{v:Value}{g g':Goroutine}{es:Array Event}{l:List Addr}(h:iB P v g=some (g',es,l)):
  g.status= .running∧∀(b:Bool) (w:World),(∀q∈l,w.cell? q=some v)→stepG P b g w= .go g' w es:=by
 unfold iB at h
 cases ho:cN P g with
 |none=>rw[ho]at h;cases h
 |some s=>
  rw[ho]at h;dsimp only at h
  split at h
  ·rename_i x GW l0 hs
   cases h;exact⟨(vj ho true default).1,fun b w hl=>jB ho b (Ls hs w hl)⟩
  ·cases h
end Go.Proofs.YtabjbdnokpjipaaGreat.Sr
