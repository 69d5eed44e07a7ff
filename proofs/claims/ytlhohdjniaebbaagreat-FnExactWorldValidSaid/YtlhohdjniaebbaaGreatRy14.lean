/-
What is proved: the orders in which a region's operations are taken ('schedule_ord'). No condition.
-/
import Derived.Test.YtlhohdjniaebbaaGreatProg
import Derived.Orders
set_option linter.unusedVariables false
set_option linter.unusedSimpArgs false
namespace Go.Proofs.YtlhohdjniaebbaaGreat.Sr
open Go
def wI (ops:Array Oper):Nat→Array Bool→List Nat→Prop
 |0,_,l=>l=[]
 |n+1,L,l=>(Region.ready .any ops L=[]∧l=[])∨∃i l',i∈Region.ready .any ops L∧l=i::l'∧wI ops n (L.setIfInBounds i true) l'
theorem tV (ops:Array Oper):∀(fuel t:Nat) (L:Array Bool),wI ops fuel L (Region.linearise.go .any ops fuel t L [])
 |0,t,L=>rfl
 |fuel+1,t,L=>by
  simp only[Region.linearise.go];have e:(List.range ops.size).filter (fun i=> !L.getD i true&&((ops[i]?).map (·.after.all fun e=> !Region.binds .any e||L.getD e.on false)).getD false)=Region.ready .any ops L:=rfl
  rw[e];split
  ·rename_i i hi
   rw[linearise_go_acc];exact .inr ⟨i,_,List.mem_of_getElem? hi,rfl,tV ops fuel _ _⟩
  ·rename_i hi
   refine .inl ⟨?_,rfl⟩
   cases hr:Region.ready .any ops L with
   |nil=>rfl
   |cons a l=>
    rw[hr]at hi;rw[List.getElem?_eq_none_iff]at hi;have:t %(a::l).length<(a::l).length:=Nat.mod_lt _ (by simp)
    omega
theorem rL (ops:Array Oper)(mixed:Bool)(hd:Region.departs ops=false)(t:Nat):wI ops ops.size (Array.replicate ops.size false) (Region.schedule mixed ops t):=by
 unfold Region.schedule;rw[hd];simp only[Bool.not_false,Bool.or_true,if_true];exact tV ops _ _ _
theorem pZ {ops:Array Oper}{L:Array Bool}{i:Nat}(h:i∈Region.ready .any ops L):i<ops.size∧L.getD i true=false∧∃o,ops[i]?=some o∧∀e∈o.after,Region.binds .any e=true→L.getD e.on false=true:=by
 unfold Region.ready at h;rw[List.mem_filter,List.mem_range]at h;obtain⟨h1,h2⟩:=h;simp only[Bool.and_eq_true,Bool.not_eq_true']at h2;obtain⟨h3,h4⟩:=h2;refine⟨h1,h3,ops[i],Array.getElem?_eq_getElem h1,fun e he hb=>?_⟩
 rw[Array.getElem?_eq_getElem h1]at h4;simp only[Option.map_some,Option.getD_some]at h4;have:=Array.all_eq_true_iff_forall_mem.1 h4 e he
 simpa[hb]using this
end Go.Proofs.YtlhohdjniaebbaaGreat.Sr
