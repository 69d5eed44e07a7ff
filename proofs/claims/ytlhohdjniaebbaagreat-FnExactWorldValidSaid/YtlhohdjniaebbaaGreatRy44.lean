/-
What is proved: what the reference's WorldValid reckons ('svB') is what the program's reckons ('sv_eq'). Plain lists. No condition.
-/
import Derived.Test.YtlhohdjniaebbaaGreatRy43
set_option linter.unusedVariables false
set_option linter.unusedSimpArgs false
namespace Go.Proofs.YtlhohdjniaebbaaGreat.T
open Go Go.RowKit
set_option maxRecDepth 100000
set_option maxHeartbeats 1000000
def nD (w:az)(m t s:Int):Bool:=(setAt w m).all (kD w m t s)&&bX (setAt w m) s
def my (w:az)(k g:Nat):Bool:= !cl (aB w.ai g) (k:Nat)||(bX (setAt w (k:Nat)) (g:Nat)&&(!(aU (aB w.ai g) (k:Nat)).f||nD w (k:Nat) (aU (aB w.ai g) (k:Nat)).t (aU (aB w.ai g) (k:Nat)).g))
def iM (w:az)(k:Nat):Bool:=ef (bT w (k:Nat))&&decide ((bT w (k:Nat)).m=(k:Nat))&&decide ((bT w (k:Nat)).gs=setAt w (k:Nat))&&(bT w (k:Nat)).aN.all (fun s=>e_ w (k:Nat) s.1 s.2)&&bR 5 (my w k)
def ve (w:az)(m g:Nat):Bool:= !cl (aB w.ai g) (m:Nat)
def xp (w:az)(m:Nat):Bool:=bR 5 (ve w m)
def J5 (w:az):Bool:=bR 12 (fun m=>decide (m<w.an.length)||xp w m)
def VI (w:az):Bool:=w.an.all cf&&decide (w.an.length≤12)&&cY w.ai&&decide (w.rounds.length=w.an.length)&&decide (w.bh.length=w.an.length)&&decide (w.bC.length≤16)&&J5 w&&bR w.an.length (iM w)&&w.bC.all (od w)
theorem Az {w:az}{m t s:Int}:qE w m t s=(aP t s&&nD w m t s):=by
 rw[qE,nD,Bool.and_assoc,Bool.and_comm (bX _ _)]
theorem J6 {g:aH}{m:Int}(h:cl g m=true):bj g m=some (aU g m):=by
 obtain⟨e,he⟩:=Option.isSome_iff_exists.1 h;rw[aU,he];rfl
theorem X4 {w:az}:VI w=true↔c_ w:=by
 simp only[VI,Bool.and_eq_true,decide_eq_true_eq,List.all_eq_true];rw[show(bR w.an.length (iM w)=true)=(∀k,k<w.an.length→iM w k=true)from propext bd]
 constructor
 ·rintro⟨⟨⟨⟨⟨⟨⟨⟨cO,xP⟩,hs⟩,hr⟩,cC⟩,hn⟩,dB⟩,hm⟩,hp⟩
  have h5:=mf hs;have jH:∀i:Nat,i<5→bm (aB w.ai i)=true∧(aB w.ai i).id=i:=fun i hi=>by
   refine⟨tp hs hi,?_⟩;simp only[cY,Bool.and_eq_true,bd,oY,decide_eq_true_eq]at hs;exact(hs.1.2 i (by omega)).2
  refine⟨xP,cO,⟨h5,jH,fun i m e hi he=>?_⟩,hr,cC,hn,fun k hk=>?_,fun p h=>vd.1 (hp p h)⟩
  ·obtain⟨g1,g2⟩:=jH i hi
   obtain⟨lW,iB, -⟩:=qY g1 he;have hsB:cl (aB w.ai i) m=true:=by rw[cl,he];rfl
   have hsD:aU (aB w.ai i) m=e:=by rw[aU,he];rfl
   have dg:=he;rw[gG]at dg;have gr:=List.mem_of_find?_eq_some dg;have K:=dy.1 g1;have M_:br e.m=true:=by
    rcases List.mem_append.1 gr with h|h
    ·exact(K.pl.kC e h).ms
    ·exact(K.dl.kC e h).ms
   rw[lW]at M_;simp only[br,decide_eq_true_eq]at M_;obtain⟨k,rfl⟩:∃k:Nat,m=(k:Int):=⟨m.toNat,by omega⟩
   have lt:k<w.an.length:=by
    simp only[J5,xp,ve,bd,Bool.or_eq_true,decide_eq_true_eq,Bool.not_eq_true']at dB;rcases dB k (by omega)with h|h
    ·exact h
    ·have:=h i hi;rw[hsB]at this;cases this
   have hk:=hm k lt;simp only[iM,Bool.and_eq_true,bd]at hk;have hE:=hk.2 i hi;simp only[my,hsB,hsD,Bool.not_true,Bool.false_or,Bool.and_eq_true,Bool.or_eq_true,Bool.not_eq_true']at hE;refine⟨by omega,by omega,cI.1 hE.1,fun hf=>oe.1 ?_⟩
   rcases hE.2 with h|h
   ·rw[hf]at h;cases h
   ·rw[Az,iB,h];rfl
  ·have cQ:=hm k hk
   simp only[iM,Bool.and_eq_true,decide_eq_true_eq,List.all_eq_true]at cQ;obtain⟨⟨⟨⟨a,b⟩,c⟩,d⟩, -⟩:=cQ;rw[←pf,←tz];exact⟨a,b,c,fun s hs=>qZ.1 (d s hs)⟩
 ·intro h
  refine⟨⟨⟨⟨⟨⟨⟨⟨h.set,h.MV⟩,JV h⟩,h.rl⟩,h.sl⟩,h.nl⟩,?_⟩,fun k hk=>?_⟩,fun p hp=>vd.2 (h.bC p hp)⟩
  ·simp only[J5,xp,ve,bd,Bool.or_eq_true,decide_eq_true_eq,Bool.not_eq_true']
   intro m _;by_cases aj:m<w.an.length
   ·exact .inl aj
   ·refine .inr fun i hi=>?_
    cases hb:cl (aB w.ai i) (m:Nat)
    ·rfl
    ·have:=(h.gs.kC i m _ hi (J6 hb)).2.1
     omega
  ·obtain⟨a,b,c,d⟩:=h.o_ k hk
   rw[←pf,←tz]at*;simp only[iM,Bool.and_eq_true,decide_eq_true_eq,List.all_eq_true,bd];refine⟨⟨⟨⟨a,b⟩,c⟩,fun s hs=>qZ.2 (d s hs)⟩,fun i hi=>?_⟩
   cases hb:cl (aB w.ai i) (k:Nat)
   ·rw[my,hb];rfl
   ·obtain⟨-, -,e1,e2⟩:=h.gs.kC i k _ hi (J6 hb)
    rw[my,hb,show bX (setAt w (k:Nat)) (i:Nat)=true from cI.2 e1]
    cases hf:(aU (aB w.ai i) (k:Nat)).f
    ·rfl
    ·have:=oe.2 (e2 hf)
     rw[Az,Bool.and_eq_true]at this;rw[show nD w (k:Nat) (aU (aB w.ai i) (k:Nat)).t (aU (aB w.ai i) (k:Nat)).g=true from this.2];rfl
theorem aay (w:az):VI w=Ni w:=by rw[Bool.eq_iff_iff,X4,X3]
end Go.Proofs.YtlhohdjniaebbaaGreat.T
