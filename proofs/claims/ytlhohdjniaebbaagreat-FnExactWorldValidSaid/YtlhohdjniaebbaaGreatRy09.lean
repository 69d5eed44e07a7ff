/-
What is proved: a reckoner of steps that store plain values. Conditions: as stated.
-/
import Derived.Test.YtlhohdjniaebbaaGreatRy06
import Derived.Test.YtlhohdjniaebbaaGreatRy02
set_option linter.unusedVariables false
set_option linter.unusedSimpArgs false
namespace Go.Proofs.YtlhohdjniaebbaaGreat.Sr
open Go Go.Conc
def kV (P:Program){α:Type}:Sem α→Array Event→Option (α×Array Event×List (Addr×Value))
 | .pure a,es=>some (a,es,[])
 | .program k,es=>kV P (k P) es
 | .mark m k,es=>kV P k (es.push ⟨.mark m,false,true⟩)
 | .store md a x k,es=>match x with
   | .int i n=>match kV P k (es.push ⟨.cell a,true,md== .atomic⟩)with
     |some (b,aQ,l)=>some (b,aQ,(a,.int i n)::l)
     |none=>none
   | .bool c=>match kV P k (es.push ⟨.cell a,true,md== .atomic⟩)with
     |some (b,aQ,l)=>some (b,aQ,(a,.bool c)::l)
     |none=>none
   | .slice s l c=>match kV P k (es.push ⟨.cell a,true,md== .atomic⟩)with
     |some (b,aQ,q)=>some (b,aQ,(a,.slice s l c)::q)
     |none=>none
   |_=>none
 |_,_=>none
def lg (w:World):List (Addr×Value)→World
 |[]=>w
 |(a,x)::l=>lg (w.setCell a x) l
theorem vD {w:World}{a b:Addr}{x:Value}(h:(w.cell? b).isSome=true):((w.setCell a x).cell? b).isSome=true:=by
 unfold World.cell? at h⊢;rw[AG]
 cases hb:w.heap[b.block]? with
 |none=>rw[hb]at h;cases h
 |some o=>
  rw[hb]at h
  cases o with
  |cells c e f=>
   simp only[Option.map_some]at h⊢;by_cases hs:b.spot.isSome=true
   ·rw[if_pos hs]at h;cases h
   ·rw[if_neg hs]at h
    by_cases he:b.block=a.block
    ·simp only[if_pos he,if_neg hs]
     by_cases ha:a.spot.isSome=true
     ·simp only[if_pos ha];exact h
     ·simp only[if_neg ha]
      simpa using h
    ·simp only[if_neg he,if_neg hs];exact h
  |_=>cases h
theorem FJ {w:World}{a b:Addr}{x:Value}:(w.setCell a x).frozen? b=w.frozen? b:=by
 unfold World.frozen?;rw[AG]
 cases w.heap[b.block]? with
 |none=>rfl
 |some o=>
  by_cases he:b.block=a.block
  ·cases o<;>simp[he]
  ·simp[he]
theorem FK {P:Program}{α:Type}{s:Sem α}:∀{es:Array Event} {a:α} {aQ:Array Event} {l:List (Addr×Value)},kV P s es=some (a,aQ,l)→∀w:World,(∀q∈l,(w.cell? q.1).isSome=true∧w.frozen? q.1=false)→s.runT P w es=(.ok a (lg w l),aQ):=by
 induction s with
 |pure a=>intro es b aQ l h w _;simp only[kV,Option.some.injEq,Prod.mk.injEq]at h;obtain⟨rfl,rfl,rfl⟩:=h;rfl
 |program k ih=>intro es b aQ l h w;exact ih P h w
 |mark m k ih=>intro es b aQ l h w;exact ih h w
 |store md a x k ih=>
  intro es b aQ l h w hl;have key:∀(x:Value) {b:α} {aQ:Array Event} {l':List (Addr×Value)},(∀cs,x≠.agg cs)→(∀cs,x≠.tuple cs)→kV P k (es.push ⟨.cell a,true,md== .atomic⟩)=some (b,aQ,l')→(∀q∈(a,x)::l',(w.cell? q.1).isSome=true∧w.frozen? q.1=false)→
    (Sem.store md a x k).runT P w es=(.ok b (lg w ((a,x)::l')),aQ):=by
   intro x b aQ l' h1 h2 hy hl;have e1:∀(q:World) (gs:Array Event),Sem.runT P (.store md a x k) q gs=match q.cell? a with
     |some _=>if q.frozen? a then(.halt (.unsupported (.unsafePointer "a write to bytes that a string shares")) q,gs)else k.runT P (q.setCell a x) (gs.push ⟨.cell a,true,md== .atomic⟩)
     |none=>match q.farStore P a x (md== .atomic)with
      | .ok (q,gg)=>k.runT P q (gs++gg.toArray.map (⟨.cell ·,true,md== .atomic⟩))
      | .error h=>(.halt h q,gs):=by
    intro q gs
    cases x<;>first|rfl|exact absurd rfl (h1 _)|exact absurd rfl (h2 _)
   obtain⟨c1,c2⟩:=hl _ (List.mem_cons_self ..);obtain⟨u,hu⟩:=Option.isSome_iff_exists.1 c1;rw[e1,hu];dsimp only
   rw[if_neg (by rw[c2];simp)]
   exact ih hy _ fun q hq=>⟨vD (hl q (List.mem_cons_of_mem _ hq)).1,by rw[FJ];exact(hl q (List.mem_cons_of_mem _ hq)).2⟩
  cases x with
  |int i n=>
   simp only[kV]at h
   cases hy:kV P k (es.push ⟨.cell a,true,md== .atomic⟩)with
   |none=>rw[hy]at h;cases h
   |some y=>
    obtain⟨b',Yb,l'⟩:=y;rw[hy]at h;simp only[Option.some.injEq,Prod.mk.injEq]at h;obtain⟨rfl,rfl,rfl⟩:=h;exact key _ nofun nofun hy hl
  |bool c=>
   simp only[kV]at h
   cases hy:kV P k (es.push ⟨.cell a,true,md== .atomic⟩)with
   |none=>rw[hy]at h;cases h
   |some y=>
    obtain⟨b',Yb,l'⟩:=y;rw[hy]at h;simp only[Option.some.injEq,Prod.mk.injEq]at h;obtain⟨rfl,rfl,rfl⟩:=h;exact key _ nofun nofun hy hl
  |slice s0 l0 c0=>
   simp only[kV]at h
   cases hy:kV P k (es.push ⟨.cell a,true,md== .atomic⟩)with
   |none=>rw[hy]at h;cases h
   |some y=>
    obtain⟨b',Yb,l'⟩:=y;rw[hy]at h;simp only[Option.some.injEq,Prod.mk.injEq]at h;obtain⟨rfl,rfl,rfl⟩:=h;exact key _ nofun nofun hy hl
  |_=>simp[kV]at h
 |_=>intro es b aQ l h;cases h
def jQ (P:Program)(g:Goroutine):Option (Goroutine×Array Event×List (Addr×Value)):=
 match cm P g with
 |none=>none
 |some s=>match kV P s #[]with
  |some (.skip,es,l)=>some (aZ g undef,seen P g.frame.fn es,l)
  |_=>none
theorem oo {P:Program}{g g':Goroutine}{es:Array Event}{l:List (Addr×Value)}(h:jQ P g=some (g',es,l)):
  g.status= .running∧∀(b:Bool) (w:World),(∀q∈l,(w.cell? q.1).isSome=true∧w.frozen? q.1=false)→stepG P b g w= .go g' (lg w l) es:=by
 unfold jQ at h
 cases ho:cm P g with
 |none=>rw[ho]at h;cases h
 |some s=>
  rw[ho]at h;dsimp only at h
  split at h
  ·rename_i C3 l0 hs
   cases h;refine⟨(ri ho true default).1,fun b w h1=>?_⟩
   obtain⟨_,_,hk,e⟩:=ri ho b w;have vC:(g.frame.kind==CallKind.early)=false:=by simpa using hk
   rw[e];simp only[stepG.apply,FK hs w h1,vC,if_true,Bool.false_eq_true,if_false,GStep.after,Array.append_empty,aZ]
  ·cases h
end Go.Proofs.YtlhohdjniaebbaaGreat.Sr
