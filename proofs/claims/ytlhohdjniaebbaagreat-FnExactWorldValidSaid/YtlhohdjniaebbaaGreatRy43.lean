/-
What is proved: a run is valid, as the program reckons it, just when it is valid as a proposition ('wv_iff'). Plain lists. No condition but those that the theorems state.
-/
import Derived.Test.YtlhohdjniaebbaaGreatRy42
set_option linter.unusedVariables false
set_option linter.unusedSimpArgs false
namespace Go.Proofs.YtlhohdjniaebbaaGreat.T
open Go Go.RowKit
set_option maxRecDepth 100000
set_option maxHeartbeats 1000000
theorem Aw (t s:Int):aS t s t s=false:=by simp[aS]
theorem qZ {w:az}{m t s:Int}:e_ w m t s=true↔u_ w.ai (setAt w m) m t s:=by
 simp only[e_,Bool.and_eq_true,cI,E8];constructor
 ·rintro⟨⟨⟨a,b⟩,c⟩,d⟩
  refine⟨a,b,c,fun hf=>?_,fun hf=>?_⟩
  ·rw[if_pos (.inl hf)]at d;simpa[At]using d
  ·by_cases hg:(aU (aB w.ai s.toNat) m).g=s
   ·rw[if_pos (.inr hg)]at d
    simp only[At,Bool.and_eq_true,decide_eq_true_eq]at d;exact⟨by rw[d.1,d.2];exact Aw _ _,fun _=>d.1⟩
   ·rw[if_neg (fun h=>h.elim (fun h=>by rw[hf]at h;cases h) hg)]at d
    exact⟨by simpa using d,fun h=>absurd h hg⟩
 ·intro h
  refine⟨⟨⟨h.ok,h.mem⟩,h.kn⟩,?_⟩;split
  ·rename_i hc
   simp only[At,Bool.and_eq_true,decide_eq_true_eq]
   cases hf:(aU (aB w.ai s.toNat) m).f
   ·exact h.op hf
   ·rcases hc with hc|hc
    ·rw[hf]at hc;cases hc
    ·exact⟨(h.fi hf).2 hc,hc⟩
  ·rename_i hc
   cases hf:(aU (aB w.ai s.toNat) m).f
   ·exact absurd (.inl hf) hc
   ·rw[(h.fi hf).1];rfl
theorem oe {w:az}{m t s:Int}:qE w m t s=true↔ig w.ai (setAt w m) m t s:=by
 simp only[qE,Bool.and_eq_true,cI,List.all_eq_true,kD,CL,Bool.not_eq_true'];constructor
 ·rintro⟨⟨a,b⟩,c⟩
  have eq:∀g∈setAt w m,(aU (aB w.ai g.toNat) m).f=true∨g=s→(aU (aB w.ai g.toNat) m).t=t∧(aU (aB w.ai g.toNat) m).g=s:=fun g hg hc=>by
   have:=(c g hg).2.2
   rw[if_pos hc]at this;simpa[At]using this
  exact⟨a,b,fun g hg=>(c g hg).1,fun g hg hf=>eq g hg (.inl hf),fun g hg=>(c g hg).2.1,eq s b (.inr rfl)⟩
 ·intro h
  refine⟨⟨h.ok,h.mem⟩,fun g hg=>⟨h.kn g hg,h.le g hg,?_⟩⟩
  split
  ·rename_i hc
   simp only[At,Bool.and_eq_true,decide_eq_true_eq];rcases hc with hc|hc
   ·exact h.fi g hg hc
   ·rw[hc];exact h.own
  ·rfl
theorem vd {w:az}{p:eI}:od w p=true↔va w.an w.ai p:=by
 obtain⟨k,m,g,t,s⟩:=p;simp only[od,Bool.and_eq_true,cI,decide_eq_true_eq];constructor
 ·rintro⟨⟨⟨a,b⟩,c⟩,d⟩
  refine⟨a,b,c,?_⟩;simp only
  by_cases h1:k=1
  ·rw[if_pos h1]at d;simp only[Bool.and_eq_true,decide_eq_true_eq]at d;exact .inl ⟨h1,d⟩
  ·rw[if_neg h1]at d
   by_cases h2:k=2
   ·rw[if_pos h2]at d;simp only[Bool.and_eq_true,decide_eq_true_eq,qZ]at d;exact .inr (.inl ⟨h2,d⟩)
   ·rw[if_neg h2]at d
    by_cases h3:k=3
    ·rw[if_pos h3]at d;exact .inr (.inr ⟨h3,oe.1 d⟩)
    ·rw[if_neg h3]at d;cases d
 ·intro h
  obtain⟨a,b,c,d⟩:=h;refine⟨⟨⟨a,b⟩,c⟩,?_⟩;rcases d with⟨e,d⟩|⟨e,d⟩|⟨e,d⟩
  ·rw[if_pos e];simpa using d
  ·simp only at e
   rw[if_neg (by omega),if_pos e];simp only[Bool.and_eq_true,decide_eq_true_eq,qZ];exact d
  ·simp only at e
   rw[if_neg (by omega),if_neg (by omega),if_pos e];exact oe.2 d
theorem RQ {S G:List Int}(hS:cf S=true)(hG:cf G=true)(h1:G.length=S.length)(h2:(fj S G 5).length=S.length):G=S:=by
 have e1:=nb (mh hS) (jA hS).2.2;have e2:=nb (mh hG) (jA hG).2.2;have c1:fj S G 5=S.filter (bX G):=by
  conv=>rhs;rw[e1]
  rw[List.filter_filter,fj];exact List.filter_congr fun x _=>Bool.and_comm _ _
 have c2:fj S G 5=G.filter (bX S):=by
  conv=>rhs;rw[e2]
  rw[List.filter_filter,fj]
 have a1:=List.length_filter_eq_length_iff.1 (by rw[←c1];exact h2)
 have a2:=List.length_filter_eq_length_iff.1 (by rw[←c2,h2,h1])
 rw[e1,e2];refine List.filter_congr fun x _=>?_;rw[Bool.eq_iff_iff];constructor
 ·intro h;exact a2 x (cI.1 h)
 ·intro h;exact a1 x (cI.1 h)
theorem pf (w:az)(k:Nat):setAt w (k:Nat)=w.an.getD k []:=by rw[setAt,Int.toNat_natCast]
theorem tz (w:az)(k:Nat):bT w (k:Nat)=w.rounds.getD k ⟨0,[],[]⟩:=by rw[bT,Int.toNat_natCast]
theorem Ax {w:az}{k:Nat}(h:k<w.an.length):setAt w (k:Nat)∈w.an:=by
 rw[pf,List.getD_eq_getElem?_getD,List.getElem?_eq_getElem h];exact List.getElem_mem h
theorem J1 {w:az}{k:Nat}(hS:cf (setAt w (k:Nat))=true):mj w k=true↔qD w.ai (w.an.getD k []) k (w.rounds.getD k ⟨0,[],[]⟩):=by
 have e:=pf w k;have e':=tz w k;rw[←e,←e'];simp only[mj,Bool.and_eq_true,decide_eq_true_eq,List.all_eq_true];constructor
 ·rintro⟨⟨⟨⟨⟨-,b⟩,c⟩,d⟩,f⟩,g⟩
  exact⟨b,c,RQ hS (u9 b).1 d f,fun s hs=>qZ.1 (g s hs)⟩
 ·rintro⟨b,c,d,f⟩
  refine⟨⟨⟨⟨⟨hS,b⟩,c⟩,by rw[d]⟩,?_⟩,fun s hs=>qZ.2 (f s hs)⟩
  rw[d,RL hS]
theorem X3 {w:az}:Ni w=true↔c_ w:=by
 simp only[Ni,Bool.and_eq_true,decide_eq_true_eq,List.all_eq_true];constructor
 ·rintro⟨⟨⟨⟨hs,hm⟩,hg⟩,hn⟩,hp⟩
  have cO:=J0 hm;have h5:=mf hs;simp only[qF,Bool.and_eq_true,decide_eq_true_eq,bd]at hm;obtain⟨⟨⟨m1,m2⟩,m3⟩,m4⟩:=hm;have jH:∀i:Nat,i<5→bm (aB w.ai i)=true∧(aB w.ai i).id=i:=fun i hi=>by
   refine⟨tp hs hi,?_⟩;simp only[cY,Bool.and_eq_true,bd,oY,decide_eq_true_eq]at hs;exact(hs.1.2 i (by omega)).2
  refine⟨m1,cO,⟨h5,jH,fun i m e hi he=>?_⟩,m2,m3,hn,fun k hk=>(J1 (cO _ (Ax hk))).1 (m4 k hk),fun p h=>vd.1 (hp p h)⟩
  obtain⟨g1,g2⟩:=jH i hi;obtain⟨rfl, -, -⟩:=qY g1 he;rw[gG]at he;have gr:=List.mem_of_find?_eq_some he;have K:=dy.1 g1;have e0:0≤e.m:=by
   have:br e.m=true:=by
    rcases List.mem_append.1 gr with h|h
    ·exact(K.pl.kC e h).ms
    ·exact(K.dl.kC e h).ms
   simp only[br,decide_eq_true_eq]at this;exact this.1
  simp only[wo,bd,mo,List.all_eq_true]at hg;have hE:=hg i (by omega) e gr
  rw[g2]at hE;simp only[nC,Bool.and_eq_true,decide_eq_true_eq,cI,Bool.or_eq_true,Bool.not_eq_true']at hE;refine⟨e0,hE.1.1,hE.1.2,fun hf=>oe.1 ?_⟩
  rcases hE.2 with h|h
  ·rw[hf]at h;cases h
  ·exact h
 ·intro h
  have h5:=h.gs.g5;refine⟨⟨⟨⟨JV h,?_⟩,?_⟩,h.nl⟩,fun p hp=>vd.2 (h.bC p hp)⟩
  ·simp only[qF,Bool.and_eq_true,decide_eq_true_eq,bd]
   exact⟨⟨⟨h.MV,h.rl⟩,h.sl⟩,fun k hk=>(J1 (h.set _ (Ax hk))).2 (h.o_ k hk)⟩
  ·simp only[wo,bd,mo,List.all_eq_true]
   intro i hi e he;obtain⟨g1,g2⟩:=h.gs.jH i (by omega)
   have cC:bj (aB w.ai i) e.m=some e:=by rw[gG,n_ (dy.1 g1).uX];exact⟨he,rfl⟩
   obtain⟨a,b,c,d⟩:=h.gs.kC i e.m e (by omega) cC
   simp only[nC,Bool.and_eq_true,decide_eq_true_eq,cI,Bool.or_eq_true,Bool.not_eq_true'];refine⟨⟨b,by rw[g2];exact c⟩,?_⟩
   cases hf:e.f
   ·exact .inl rfl
   ·exact .inr (oe.2 (d hf))
end Go.Proofs.YtlhohdjniaebbaaGreat.T
