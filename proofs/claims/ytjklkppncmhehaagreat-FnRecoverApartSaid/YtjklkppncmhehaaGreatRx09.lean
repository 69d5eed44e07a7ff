/-
What is proved: a reckoner of steps that store plain values ('sstep'), and that it tells the truth ('sstep_sound'). No condition.
-/
import Derived.Test.YtjklkppncmhehaaGreatRx06
import Derived.Test.YtjklkppncmhehaaGreatRx02
set_option linter.unusedVariables false
set_option linter.unusedSimpArgs false
namespace Go.Proofs.YtjklkppncmhehaaGreat.Sr
open Go Go.Conc
def lM (P:Program){α:Type}:Sem α→Array Event→Option (α×Array Event×List (Addr×Value))
 | .pure a,es=>some (a,es,[])
 | .program k,es=>lM P (k P) es
 | .mark m k,es=>lM P k (es.push ⟨.mark m,false,true⟩)
 | .store md a x k,es=>match x with
   | .int i n=>match lM P k (es.push ⟨.cell a,true,md== .atomic⟩)with
     |some (b,aQ,l)=>some (b,aQ,(a,.int i n)::l)
     |none=>none
   | .bool c=>match lM P k (es.push ⟨.cell a,true,md== .atomic⟩)with
     |some (b,aQ,l)=>some (b,aQ,(a,.bool c)::l)
     |none=>none
   | .slice s l c=>match lM P k (es.push ⟨.cell a,true,md== .atomic⟩)with
     |some (b,aQ,q)=>some (b,aQ,(a,.slice s l c)::q)
     |none=>none
   |_=>none
 |_,_=>none
def lV (w:World):List (Addr×Value)→World
 |[]=>w
 |(a,x)::l=>lV (w.setCell a x) l
theorem vX {w:World}{a b:Addr}{x:Value}(h:(w.cell? b).isSome=true):((w.setCell a x).cell? b).isSome=true:=by
 unfold World.cell? at h⊢;rw[Bd]
 cases hb:w.heap[b.block]? with
 |none=>rw[hb]at h;cases h
 |some o=>
  rw[hb]at h
  cases o with
  |cells c e f=>
   simp only[Option.map_some]at h⊢;by_cases hs:b.spot.isSome=true
   ·rw[if_pos hs]at h;cases h
   ·rw[if_neg hs]at h
    by_cases he:b.block=a.block
    ·simp only[if_pos he,if_neg hs]
     by_cases ha:a.spot.isSome=true
     ·simp only[if_pos ha];exact h
     ·simp only[if_neg ha]
      simpa using h
    ·simp only[if_neg he,if_neg hs];exact h
  |_=>cases h
theorem F_ {w:World}{a b:Addr}{x:Value}:(w.setCell a x).frozen? b=w.frozen? b:=by
 unfold World.frozen?;rw[Bd]
 cases w.heap[b.block]? with
 |none=>rfl
 |some o=>
  by_cases he:b.block=a.block
  ·cases o<;>simp[he]
  ·simp[he]
theorem F' {P:Program}{α:Type}{s:Sem α}:∀{es:Array Event} {a:α} {aQ:Array Event} {l:List (Addr×Value)},lM P s es=some (a,aQ,l)→∀w:World,(∀q∈l,(w.cell? q.1).isSome=true∧w.frozen? q.1=false)→s.runT P w es=(.ok a (lV w l),aQ):=by
 induction s with
 |pure a=>intro es b aQ l h w _;simp only[lM,Option.some.injEq,Prod.mk.injEq]at h;obtain⟨rfl,rfl,rfl⟩:=h;rfl
 |program k ih=>intro es b aQ l h w;exact ih P h w
 |mark m k ih=>intro es b aQ l h w;exact ih h w
 |store md a x k ih=>
  intro es b aQ l h w hl;have key:∀(x:Value) {b:α} {aQ:Array Event} {l':List (Addr×Value)},(∀cs,x≠.agg cs)→(∀cs,x≠.tuple cs)→lM P k (es.push ⟨.cell a,true,md== .atomic⟩)=some (b,aQ,l')→(∀q∈(a,x)::l',(w.cell? q.1).isSome=true∧w.frozen? q.1=false)→
    (Sem.store md a x k).runT P w es=(.ok b (lV w ((a,x)::l')),aQ):=by
   intro x b aQ l' h1 h2 hy hl;have e1:∀(q:World) (gs:Array Event),Sem.runT P (.store md a x k) q gs=match q.cell? a with
     |some _=>if q.frozen? a then(.halt (.unsupported (.unsafePointer "a write to bytes that a string shares")) q,gs)else k.runT P (q.setCell a x) (gs.push ⟨.cell a,true,md== .atomic⟩)
     |none=>match q.farStore P a x (md== .atomic)with
      | .ok (q,gV)=>k.runT P q (gs++gV.toArray.map (⟨.cell ·,true,md== .atomic⟩))
      | .error h=>(.halt h q,gs):=by
    intro q gs
    cases x<;>first|rfl|exact absurd rfl (h1 _)|exact absurd rfl (h2 _)
   obtain⟨c1,c2⟩:=hl _ (List.mem_cons_self ..);obtain⟨u,hu⟩:=Option.isSome_iff_exists.1 c1;rw[e1,hu];dsimp only
   rw[if_neg (by rw[c2];simp)]
   exact ih hy _ fun q hq=>⟨vX (hl q (List.mem_cons_of_mem _ hq)).1,by rw[F_];exact(hl q (List.mem_cons_of_mem _ hq)).2⟩
  cases x with
  |int i n=>
   simp only[lM]at h
   cases hy:lM P k (es.push ⟨.cell a,true,md== .atomic⟩)with
   |none=>rw[hy]at h;cases h
   |some y=>
    obtain⟨b',VO,l'⟩:=y;rw[hy]at h;simp only[Option.some.injEq,Prod.mk.injEq]at h;obtain⟨rfl,rfl,rfl⟩:=h;exact key _ nofun nofun hy hl
  |bool c=>
   simp only[lM]at h
   cases hy:lM P k (es.push ⟨.cell a,true,md== .atomic⟩)with
   |none=>rw[hy]at h;cases h
   |some y=>
    obtain⟨b',VO,l'⟩:=y;rw[hy]at h;simp only[Option.some.injEq,Prod.mk.injEq]at h;obtain⟨rfl,rfl,rfl⟩:=h;exact key _ nofun nofun hy hl
  |slice s0 l0 c0=>
   simp only[lM]at h
   cases hy:lM P k (es.push ⟨.cell a,true,md== .atomic⟩)with
   |none=>rw[hy]at h;cases h
   |some y=>
    obtain⟨b',VO,l'⟩:=y;rw[hy]at h;simp only[Option.some.injEq,Prod.mk.injEq]at h;obtain⟨rfl,rfl,rfl⟩:=h;exact key _ nofun nofun hy hl
  |_=>simp[lM]at h
 |_=>intro es b aQ l h;cases h
def j_ (P:Program)(g:Goroutine):Option (Goroutine×Array Event×List (Addr×Value)):=
 match gu P g with
 |none=>none
 |some s=>match lM P s #[]with
  |some (.skip,es,l)=>some (bu g undef,seen P g.frame.fn es,l)
  |_=>none
theorem oX {P:Program}{g g':Goroutine}{es:Array Event}{l:List (Addr×Value)}(h:j_ P g=some (g',es,l)):
  g.status= .running∧∀(b:Bool) (w:World),(∀q∈l,(w.cell? q.1).isSome=true∧w.frozen? q.1=false)→stepG P b g w= .go g' (lV w l) es:=by
 unfold j_ at h
 cases ho:gu P g with
 |none=>rw[ho]at h;cases h
 |some s=>
  rw[ho]at h;dsimp only at h
  split at h
  ·rename_i Dm l0 hs
   cases h;refine⟨(yZ ho true default).1,fun b w h1=>?_⟩
   obtain⟨_,_,hk,e⟩:=yZ ho b w;have yY:(g.frame.kind==CallKind.early)=false:=by simpa using hk
   rw[e];simp only[stepG.apply,F' hs w h1,yY,if_true,Bool.false_eq_true,if_false,GStep.after,Array.append_empty,bu]
  ·cases h
end Go.Proofs.YtjklkppncmhehaaGreat.Sr
