/-
What is proved: recoveries at groups apart do not touch one another, as plain lists. No condition but those that the theorems state.
-/
import Derived.Test.YtjklkppncmhehaaGreatRx48
set_option linter.unusedVariables false
set_option linter.unusedSimpArgs false
namespace Go.Proofs.YtjklkppncmhehaaGreat.T
open Go Go.RowKit
theorem vK {a b:List aq}{m:Int}:∀{set:List Int} {acc:List (Int×Int)},(∀g∈set,aB a g.toNat=aB b g.toNat)→ff a m set acc=ff b m set acc
 |[],_,_=>rfl
 |g::set,acc,h=>by
  rw[ff,ff,h g (List.mem_cons_self ..),vK fun x hx=>h x (List.mem_cons_of_mem _ hx)]
theorem yv {a b:List aq}{m:Int}{set:List Int}(h:∀g∈set,aB a g.toNat=aB b g.toNat):aJ a set m=aJ b set m:=by
 unfold aJ;rw[vK h]
theorem qc {a b:List aq}{m:Int}{set:List Int}(hr:cu set)(hp:set.Pairwise (·<·))(ha:a.length=5)(hb:b.length=5)(h:∀i:Nat,i<5→(i:Int)∈set→aB a i=aB b i):
  (dK a set m).1.length=5∧(∀i:Nat,i<5→(i:Int)∈set→aB (dK a set m).1 i=aB (dK b set m).1 i)∧(∀i:Nat,i<5→(i:Int)∉set→aB (dK a set m).1 i=aB a i):=by
 obtain⟨a5,aA⟩:=vC m hr hp ha;obtain⟨b5,bA⟩:=vC m hr hp hb;have hP:∀i:Nat,i<5→(i:Int)∈set→aB (aF a m set) i=aB (aF b m set) i:=fun i hi hm=>by rw[aA i hi,bA i hi,if_pos hm,if_pos hm,h i hi hm]
 have hS:aJ (aF a m set) set m=aJ (aF b m set) set m:=yv fun g hg=>by
  have:=hr g hg
  exact hP g.toNat (by omega) (by rwa[show((g.toNat:Nat):Int)=g by omega])
 unfold dK;rw[hS];split
 ·generalize(aJ (aF b m set) set m).1=s
  obtain⟨fa5,faA⟩:=yG m s hr hp a5;obtain⟨fb5,fbA⟩:=yG m s hr hp b5;refine⟨fa5,fun i hi hm=>?_,fun i hi hm=>?_⟩
  ·simp only;rw[faA i hi,fbA i hi,if_pos hm,if_pos hm,hP i hi hm]
  ·simp only;rw[faA i hi,if_neg hm,aA i hi,if_neg hm]
 ·refine⟨a5,hP,fun i hi hm=>?_⟩
  simp only;rw[aA i hi,if_neg hm]
theorem C8 {xs:List Int}{n:Int}:gf xs n=true↔n∈xs:=by simp[gf]
def iF (set:List Int):Nat→List Int
 |0=>[]
 |n+1=>if gf set n=true then iF set n else iF set n++[(n:Int)]
theorem C9 (set:List Int):∀n,(iF set n).length≤n
 |0=>Nat.le_refl 0
 |n+1=>by
  have:=C9 set n
  unfold iF;split
  ·omega
  ·simp;omega
theorem oQ {set:List Int}:∀{n:Nat} {x:Int},x∈iF set n↔0≤x∧x<n∧x∉set
 |0,x=>by simp[iF];intros;omega
 |n+1,x=>by
  unfold iF;split
  ·rename_i h
   rw[C8]at h;rw[oQ (n:=n)];constructor
   ·rintro⟨a,b,c⟩;exact⟨a,by omega,c⟩
   ·rintro⟨a,b,c⟩
    refine⟨a,?_,c⟩;by_cases e:x=n
    ·subst e;exact absurd h c
    ·omega
  ·rename_i h
   rw[C8]at h;rw[List.mem_append,oQ (n:=n),List.mem_singleton];constructor
   ·rintro(⟨a,b,c⟩|rfl)
    ·exact⟨a,by omega,c⟩
    ·exact⟨by omega,by omega,h⟩
   ·rintro⟨a,b,c⟩
    by_cases e:x=n
    ·exact .inr e
    ·exact .inl ⟨a,by omega,c⟩
theorem w_ (set:List Int):∀n,(iF set n).Pairwise (·<·)
 |0=> .nil
 |n+1=>by
  unfold iF;split
  ·exact w_ set n
  ·refine List.pairwise_append.2 ⟨w_ set n,List.pairwise_singleton ..,fun a ha b hb=>?_⟩
   obtain rfl:=List.mem_singleton.1 hb
   exact(oQ.1 ha).2.1
theorem MV {gs:List aq}{set:List Int}{m k:Int}(hr:cu set)(hp:set.Pairwise (·<·))(h5:gs.length=5):(dK (dK gs (iF set 5) k).1 set m).1=(dK (dK gs set m).1 (iF set 5) k).1:=by
 have si:cu (iF set 5):=fun g hg=>by have:=oQ.1 hg;exact⟨this.1,by omega⟩
 have hp2:=w_ set 5;have BY:∀i:Nat,i<5→((i:Int)∈iF set 5↔(i:Int)∉set):=fun i hi=>by
  rw[oQ];exact⟨fun h=>h.2.2,fun h=>⟨by omega,by omega,h⟩⟩
 obtain⟨x5, -,aar⟩:=qc (m:=m) hr hp h5 h5 (fun _ _ _=>rfl)
 obtain⟨y5, -,aas⟩:=qc (m:=k) si hp2 h5 h5 (fun _ _ _=>rfl)
 obtain⟨c5,con,aat⟩:=qc (m:=m) hr hp y5 h5 fun i hi hm=>aas i hi fun h=>(BY i hi).1 h hm
 obtain⟨a5,aon,aau⟩:=qc (m:=k) si hp2 x5 h5 fun i hi hm=>aar i hi ((BY i hi).1 hm)
 refine AV c5 a5 fun i hi=>?_;by_cases hm:(i:Int)∈set
 ·rw[con i hi hm,aau i hi fun h=>(BY i hi).1 h hm]
 ·rw[aat i hi hm,aon i hi ((BY i hi).2 hm)]
end Go.Proofs.YtjklkppncmhehaaGreat.T
