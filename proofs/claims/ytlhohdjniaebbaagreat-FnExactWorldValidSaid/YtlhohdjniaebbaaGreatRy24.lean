/-
What is proved: the starter's steps at memory of its own and what rests on it. Conditions: as stated.
-/
import Derived.Test.YtlhohdjniaebbaaGreatRy21
import Derived.Test.YtlhohdjniaebbaaGreatRy23
import Derived.Test.YtlhohdjniaebbaaGreatRy15
import Derived.Test.YtlhohdjniaebbaaGreatRy16
set_option linter.unusedVariables false
set_option linter.unusedSimpArgs false
namespace Go.Proofs.YtlhohdjniaebbaaGreat.Sr
open Go Go.Conc Go.ConcN
section
variable {P:Program}{Q:Gh→World→Trace→Nat→Outcome→World→Prop}{d:Nat}{γ ah:Gh}{w w':World}{g g':Goroutine}{b o:Nat}{x v:Value}
def pn (γ:Gh)(b:Nat):Prop:=¬γ.sh b∧(∀k,¬γ.ow k b)∧∀p,γ.ph=some p→b≠p.A
theorem pn.rely (h:pn γ b)(hb:b<w.heap.size)(r:RM γ w ah w'):pn ah b∧w'.heap[b]?=w.heap[b]?:=by
 obtain⟨h1,h2,h3⟩:=h;obtain⟨g1,g2,_⟩:=r.gh;exact⟨⟨by rw[g1];exact h1,fun k hk=>h2 k ((r.ow k b hb).1 hk),fun p hp=>h3 p (g2▸hp)⟩,r.heap b hb h2 h1 h3⟩
theorem oA (h:∀k,¬γ.ro k b)(r:RM γ w ah w'):∀k,¬ah.ro k b:=by
 obtain⟨_,_,g3,_⟩:=r.gh;rw[g3];exact h
theorem Ek {j B:Nat}{wr:Bool}(h:pn γ b)(hr:wr=true→∀k,¬γ.ro k b)(hB:b<B):rj γ j B (db ⟨b,o,none⟩ wr):=by
 refine⟨fun z hz=> .inr ?_,hB,nofun⟩
 have:z=⟨.cell ⟨b,o,none⟩,wr,.plain⟩:=(Option.some.inj hz).symm
 subst this;refine⟨fun⟨a,ha,hs⟩=>?_,fun k _ _ hk=>?_,fun hw k _ _ ⟨b',cB,hk⟩=>?_⟩
 ·cases ha;exact h.1 hs
 ·rcases hk with⟨b',cB,hk⟩|⟨a,ha,p,hp,_,hA,_⟩
  ·cases cB;exact h.2.1 k hk
  ·cases ha;exact h.2.2 p hp hA
 ·cases cB;exact hr hw k hk
theorem MP.alloc (hs:g.status= .running)(h:∀ah w' t j,RM γ w ah w'→JJ ah w' t j→∃g' ob,cT P w'.heap.size g=some (g',#[],ob)∧MP (sys P) Q false d ah {w' with heap:=w'.heap.push ob} g'):MP (sys P) Q false d γ w g:=by
 refine .go hs fun γ1 w1 t j hR hJ hd=>?_;obtain⟨g',ob,hq,hm⟩:=h γ1 w1 t j (ia hR) hJ;obtain⟨a1,a2⟩:=vG (w1:={w1 with heap:=w1.heap.push ob}) (fn:=g.frame.fn) (pos:=g.frame.place) (es:= #[]) hJ ⟨rfl,rfl,rfl⟩ (by simp) (fun b hb _=>by
  show(w1.heap.push ob)[b]?=_
  rw[Array.getElem?_push,if_neg (by omega)]) fun e he=>by simp at he
 exact⟨⟨g',_,#[],γ1⟩,false,⟨(gM hq).2 true w1 rfl,a1,a2⟩,hm⟩
theorem MP.put (hq:jQ P g=some (g',#[db ⟨b,o,none⟩ true],[(⟨b,o,none⟩,x)]))(hb:b<w.heap.size)(hm:pn γ b)(hr:∀k,¬γ.ro k b)(hc:(w.cell? ⟨b,o,none⟩).isSome=true∧w.frozen? ⟨b,o,none⟩=false)
  (K:∀ah w',RM γ w ah w'→MP (sys P) Q false d ah (w'.setCell ⟨b,o,none⟩ x) g'):MP (sys P) Q false d γ w g:=by
 obtain⟨s1,s2⟩:=oo hq;refine .go s1 fun γ1 w1 t j hR hJ hd=>?_;have r:=ia hR;obtain⟨m1,e1⟩:=hm.rely hb r;have r1:=oA hr r;have Y3:b<w1.heap.size:=Nat.lt_of_lt_of_le hb r.size
 have mA:(w1.cell? ⟨b,o,none⟩).isSome=true∧w1.frozen? ⟨b,o,none⟩=false:=by
  have c1:w1.cell? ⟨b,o,none⟩=w.cell? ⟨b,o,none⟩:=cell_of e1
  have c2:w1.frozen? ⟨b,o,none⟩=w.frozen? ⟨b,o,none⟩:=by unfold World.frozen?;rw[show w1.heap[(⟨b,o,none⟩:Addr).block]?=w.heap[(⟨b,o,none⟩:Addr).block]? from e1]
  rw[c1,c2];exact hc
 obtain⟨a1,a2⟩:=vG (w1:=w1.setCell ⟨b,o,none⟩ x) (fn:=g.frame.fn) (pos:=g.frame.place) (es:= #[db ⟨b,o,none⟩ true]) hJ ⟨rfl,rfl,rfl⟩ (Nat.le_of_eq b9.symm) (fun b' _ cB=>iC b' fun e=>by
  subst e;rcases cB with⟨k,hk⟩|hk|⟨p,hp,hk⟩
  ·exact hk.elim (m1.2.1 k) (r1 k)
  ·exact m1.1 hk
  ·exact m1.2.2 p hp hk) fun e he=>by
   simp at he;subst he
   exact Ek m1 (fun _=>r1) (by rw[b9];exact Y3)
 exact⟨⟨g',_,_,γ1⟩,false,⟨s2 true w1 fun q hq=>by
  have:q=(⟨b,o,none⟩,x):=by simpa using hq
  subst this;exact mA,a1,a2⟩,K γ1 w1 r⟩
theorem TP {t:Trace}{j:Nat}{fn:FuncId}{pos:String}(hJ:JJ γ w t j)(hm:pn γ b)(hb:b<w.heap.size):JJ γ w (t++MemOp.ofEvents 0 fn pos #[db ⟨b,o,none⟩ false]) j∧∀k',k'≠0→RR k' γ w γ w:=
 mM hJ (Ek hm nofun hb)
theorem MP.get (hq:bn P v none g=some ⟨g',#[db ⟨b,o,none⟩ false],[⟨b,o,none⟩],[],none⟩)(hb:b<w.heap.size)(hm:pn γ b)(hc:w.cell? ⟨b,o,none⟩=some v∧w.frozen? ⟨b,o,none⟩=false)
  (K:∀ah w',RM γ w ah w'→MP (sys P) Q false d ah w' g'):MP (sys P) Q false d γ w g:=by
 refine .rk (vS hq).1 fun γ1 w1 t j r hJ hd=>?_;obtain⟨m1,e1⟩:=hm.rely hb r;obtain⟨a1,a2⟩:=TP (o:=o) (fn:=g.frame.fn) (pos:=g.frame.place) hJ m1 (Nat.lt_of_lt_of_le hb r.size);refine⟨_,_,_,γ1,false,hq,fun a ha=>?_,fun q hq=>(by cases hq),a1,a2,K γ1 w1 r⟩
 have:a=⟨b,o,none⟩:=by simpa using ha
 subst this;have c1:w1.cell? ⟨b,o,none⟩=w.cell? ⟨b,o,none⟩:=cell_of e1
 have c2:w1.frozen? ⟨b,o,none⟩=w.frozen? ⟨b,o,none⟩:=by unfold World.frozen?;rw[show w1.heap[(⟨b,o,none⟩:Addr).block]?=w.heap[(⟨b,o,none⟩:Addr).block]? from e1]
 rw[c1,c2];exact hc
theorem MP.look (hq:fB P v g=some (g',#[db ⟨b,o,none⟩ false],[⟨b,o,none⟩]))(hb:b<w.heap.size)(hm:pn γ b)(hc:w.cell? ⟨b,o,none⟩=some v)
  (K:∀ah w',RM γ w ah w'→MP (sys P) Q false d ah w' g'):MP (sys P) Q false d γ w g:=by
 obtain⟨s1,s2⟩:=DH hq;refine .go s1 fun γ1 w1 t j hR hJ hd=>?_;have r:=ia hR;obtain⟨m1,e1⟩:=hm.rely hb r;obtain⟨a1,a2⟩:=TP (o:=o) (fn:=g.frame.fn) (pos:=g.frame.place) hJ m1 (Nat.lt_of_lt_of_le hb r.size);refine⟨⟨g',w1,_,γ1⟩,false,⟨s2 true w1 fun a ha=>?_,a1,a2⟩,K γ1 w1 r⟩
 have:a=⟨b,o,none⟩:=by simpa using ha
 subst this;have c1:w1.cell? ⟨b,o,none⟩=w.cell? ⟨b,o,none⟩:=cell_of e1
 rw[c1];exact hc
theorem gq (hn:γ.ph=none)(r:RM γ w ah w'):ah=γ∧w'.heap=w.heap∧bq w w':=⟨(r.none hn).1,(r.none hn).2,r.same⟩
theorem bq.trans {a b c:World}(h:bq a b)(g:bq b c):bq a c:=⟨g.1.trans h.1,g.2.1.trans h.2.1,g.2.2.trans h.2.2⟩
theorem bN {n:Nat}(hm:mute P (n+1) g=true)(hn:γ.ph=none)(h:∀w',w'.heap=w.heap→bq w w'→MP (sys P) Q false d γ w' (aL P (n+1) g)):MP (sys P) Q false d γ w g:=
 mS hm fun γ1 w1 r=>by
  obtain⟨rfl,e,s⟩:=gq hn r;exact h w1 e s
theorem MP.uh {r:Nat}{ob:Obj}(hq:cT P r g=some (g',#[],ob))(hn:γ.ph=none)(hr:w.heap.size=r)(h:∀w',w'.heap=w.heap.push ob→bq w w'→MP (sys P) Q false d γ w' g'):MP (sys P) Q false d γ w g:=
 .alloc (gM hq).1 fun γ1 w1 t j r1 hJ=>by
  obtain⟨rfl,e,s⟩:=gq hn r1;refine⟨g',ob,by rw[e,hr];exact hq,h _ (by show w1.heap.push ob=_;rw[e]) s⟩
end
end Go.Proofs.YtlhohdjniaebbaaGreat.Sr
namespace Go.Proofs.YtlhohdjniaebbaaGreat.Sr
open Go Go.Conc Go.ConcN
section
variable {Q:Gh→World→Trace→Nat→Outcome→World→Prop}
structure fT (ga:Addr) (gl gc:Nat) (ms:Int) (N n:Nat) (p:Ph) (fZ:Gh) (w0:World) (γ:Gh) (w:World):Prop where
 same:bq w0 w
 size:N+6≤w.heap.size
 sh:∀b,γ.sh b↔fZ.sh b∨b=N+5
 ph:γ.ph=some p
 ow:∀k b,b<N+6→¬γ.ow k b
 old:∀b,b<N→¬fZ.sh b→w.heap[b]?=w0.heap[b]?
 b0:w.heap[N]?=some (.cells #[.slice (some ga) gl gc] 31)
 b1:w.heap[N+1]?=some (.cells #[.int .i64 ms] 3)
 b2:w.heap[N+2]?=some (.cells #[Hx N] 203)
 b4:w.heap[N+4]?=some (.cells #[.slice (some ⟨N+3,0,none⟩) n n] 166)
variable {ga:Addr}{gl gc sb so sc:Nat}{ms:Int}{N n:Nat}{c:Frame}{cs:List Frame}{p:Ph}{fZ γ ah:Gh}{w0 w w':World}
theorem fT.mv (h:fT ga gl gc ms N n p fZ w0 γ w)(hA:p.A=N+3)(h0:∀b,fZ.sh b→b<N)(r:Mv γ w ah w'):fT ga gl gc ms N n p fZ w0 ah w':=by
 obtain⟨r1,r2,r3,r4⟩:=r.gh;have hs:=h.size;have key:∀b,b<N+5→¬fZ.sh b→b≠N+3→w'.heap[b]?=w.heap[b]?:=fun b hb hn cv=>
  r.heap b (by omega) (fun k=>h.ow k b (by omega)) (fun e=>((h.sh b).1 e).elim hn fun e=>by omega) fun q hq=>by
   rw[h.ph]at hq;cases hq;rw[hA];exact cv
 have n0:∀b,N≤b→¬fZ.sh b:=fun b hb e=>by have:=h0 b e;omega
 exact⟨h.same.trans r.same,Nat.le_trans hs r.size,by rw[r1];exact h.sh,r2.trans h.ph,fun k b hb e=>h.ow k b hb ((r.ow k b (by omega)).1 e),fun b hb hn=>(key b (by omega) hn (by omega)).trans (h.old b hb hn),
  (key N (by omega) (n0 _ (by omega)) (by omega)).trans h.b0,(key (N+1) (by omega) (n0 _ (by omega)) (by omega)).trans h.b1,(key (N+2) (by omega) (n0 _ (by omega)) (by omega)).trans h.b2,(key (N+4) (by omega) (n0 _ (by omega)) (by omega)).trans h.b4⟩
theorem fT.own (h:fT ga gl gc ms N n p fZ w0 γ w)(hs:w.heap.size≤w'.heap.size)(hh:∀b,b<N+6→w'.heap[b]?=w.heap[b]?)(ho:bq w w'):fT ga gl gc ms N n p fZ w0 γ w':=
 ⟨h.same.trans ho,Nat.le_trans h.size hs,h.sh,h.ph,h.ow,fun b hb hn=>(hh b (by omega)).trans (h.old b hb hn),(hh _ (by omega)).trans h.b0,(hh _ (by omega)).trans h.b1,(hh _ (by omega)).trans h.b2,(hh _ (by omega)).trans h.b4⟩
theorem gN {w:World}{b:Nat}{v:Value}{t:TypeId}(h:w.heap[b]?=some (.cells #[v] t)):w.cell? ⟨b,0,none⟩=some v∧w.frozen? ⟨b,0,none⟩=false:=by
 unfold World.cell? World.frozen?;simp[h]
theorem Me {i g:Nat}{gi:Int}{x:Nat→Value}(hA:p.A=N+3)(hW:p.wg=N+5)(F7:p.eW=231)(hn:p.n=n)(h0:∀b,fZ.sh b→b<N)(h5:n≤5)(hi:i<n)
  (hM:fT ga gl gc ms N n p fZ w0 γ w) (hO:gZ γ p 0 (p.j0+i)) (CR:sb<N) (ni:¬fZ.sh sb) (aY:w0.cell? ⟨sb,so+i,none⟩=some (.int .i64 gi))
  (xF:∀γ w gb ib,pk (p.j0+i+1) p (N+2) gb (N+4) ib (Hx N) (.int .i64 gi) (.slice (some ⟨N+3,0,none⟩) n n) (.int .i64 i) γ w→bq w0 w→(∀b,b<N→¬fZ.sh b→γ.ro (p.j0+i+1) b∧w.heap[b]?=w0.heap[b]?)→
   γ.ro (p.j0+i+1) N∧γ.ro (p.j0+i+1) (N+1)∧w.heap[N]?=some (.cells #[.slice (some ga) gl gc] 31)∧w.heap[N+1]?=some (.cells #[.int .i64 ms] 3)→WP (sys Tryz.prog) (p.j0+i+1) 0 γ w (KH Tryz.prog (N+5) (N+2) gb (N+4) ib))
  (K:∀ah w' x',fT ga gl gc ms N n p fZ w0 ah w'→gZ ah p 0 (p.j0+(i+1))→MP (sys Tryz.prog) Q false 0 ah w' (cJ Tryz.prog ga gl gc sb so sc ms N n c cs ((i+1:Nat):Int) x' (cN Tryz.prog))):
  MP (sys Tryz.prog) Q false 0 γ w (cJ Tryz.prog ga gl gc sb so sc ms N n c cs (i:Nat) x (cN Tryz.prog)):=by
 refine mS (n:=12) (TN ga gl gc sb so sc ms N n c cs x i hi h5) fun γ1 w1 r1=>?_;have M1:=hM.mv hA h0 (Mv.of r1);have O1:=hO.rely r1;have s1:=M1.size;have mine:∀{γ w} (h:fT ga gl gc ms N n p fZ w0 γ w) b,b<N+5→b≠N+3→¬fZ.sh b→pn γ b:=fun h b hb cv Fs=>⟨fun e=>((h.sh b).1 e).elim Fs fun e=>by omega,fun k=>h.ow k b (by omega),fun q hq=>by rw[h.ph]at hq;cases hq;rw[hA];exact cv⟩
 refine MP.look (TO ga gl gc sb so sc ms N n c cs x i hi h5 gi) (by omega) (mine M1 sb (by omega) (by omega) ni) ?_ fun cZ w2 r2=>?_
 ·have:w1.cell? ⟨sb,so+i,none⟩=w0.cell? ⟨sb,so+i,none⟩:=cell_of (M1.old sb CR ni)
  rw[this];exact aY
 have M2:=M1.mv hA h0 (Mv.of r2);have O2:=O1.rely r2;refine MP.alloc (gM (H2 ga gl gc sb so sc ms N n c cs (i:Nat) _ 0)).1 fun lj w3 t3 j3 r3 J3=>?_;have M3:=M2.mv hA h0 (Mv.of r3);have O3:=O2.rely r3;refine⟨_,_,H2 ga gl gc sb so sc ms N n c cs (i:Nat) _ w3.heap.size,?_⟩;have sz3:=M3.size;generalize pU:w3.heap.size=eX;have M3':fT ga gl gc ms N n p fZ w0 lj {w3 with heap:=w3.heap.push (.cells #[.int .i64 0] 3)}:=M3.own (by simp) (fun b hb=>by
  show(w3.heap.push _)[b]?=_
  rw[Array.getElem?_push,if_neg (by omega)]) ⟨rfl,rfl,rfl⟩
 have m3:pn lj eX:=⟨fun e=>by have:=J3.cX _ e;omega,fun k e=>by have:=J3.lN _ _ e;omega,fun q hq=>by rw[M3.ph]at hq;cases hq;rw[hA];omega⟩
 have n3:∀k,¬lj.ro k eX:=fun k e=>by have:=J3.kv _ _ e;omega
 have c3:({w3 with heap:=w3.heap.push (.cells #[.int .i64 0] 3)}:World).heap[eX]?=some (.cells #[.int .i64 0] 3):=by
  show(w3.heap.push _)[eX]?=_
  rw[←pU];simp
 have z3:eX<({w3 with heap:=w3.heap.push (.cells #[.int .i64 0] 3)}:World).heap.size:=by
  show eX<(w3.heap.push _).size
  simp;omega
 generalize({w3 with heap:=w3.heap.push (.cells #[.int .i64 0] 3)}:World)=w3' at M3' c3 z3
 refine MP.alloc (gM (H3 ga gl gc sb so sc ms N n c cs (i:Nat) _ eX 0)).1 fun ff w4 t4 j4 r4 J4=>?_;have M4:=M3'.mv hA h0 (Mv.of r4);have O4:=O3.rely (w:=w3') r4;refine⟨_,_,H3 ga gl gc sb so sc ms N n c cs (i:Nat) _ eX w4.heap.size,?_⟩;obtain⟨m4,e4⟩:=m3.rely z3 r4;have n4:=oA n3 r4;have sz4:=M4.size;have z4:eX<w4.heap.size:=Nat.lt_of_lt_of_le z3 r4.size
 have gr1:N+6≤eX:=by omega
 generalize yM:w4.heap.size=f_;have pu:∀b,b<f_→(w4.heap.push (.cells #[.int .i64 0] 3))[b]?=w4.heap[b]?:=fun b hb=>by rw[Array.getElem?_push,if_neg (by omega)]
 have M4':fT ga gl gc ms N n p fZ w0 ff {w4 with heap:=w4.heap.push (.cells #[.int .i64 0] 3)}:=M4.own (by simp) (fun b hb=>pu b (by omega)) ⟨rfl,rfl,rfl⟩
 have m4':pn ff f_:=⟨fun e=>by have:=J4.cX _ e;omega,fun k e=>by have:=J4.lN _ _ e;omega,fun q hq=>by rw[M4.ph]at hq;cases hq;rw[hA];omega⟩
 have n4':∀k,¬ff.ro k f_:=fun k e=>by have:=J4.kv _ _ e;omega
 have c4:({w4 with heap:=w4.heap.push (.cells #[.int .i64 0] 3)}:World).heap[eX]?=some (.cells #[.int .i64 0] 3):=(pu eX (by omega)).trans (e4.trans c3)
 have TQ:({w4 with heap:=w4.heap.push (.cells #[.int .i64 0] 3)}:World).heap[f_]?=some (.cells #[.int .i64 0] 3):=by
  show(w4.heap.push _)[f_]?=_
  rw[←yM];simp
 have Zx:f_<({w4 with heap:=w4.heap.push (.cells #[.int .i64 0] 3)}:World).heap.size:=by
  show f_<(w4.heap.push _).size
  simp;omega
 generalize({w4 with heap:=w4.heap.push (.cells #[.int .i64 0] 3)}:World)=Zy at M4' c4 TQ Zx
 have o1:=gN c4;refine MP.put (TA ga gl gc sb so sc ms N n c cs (i:Nat) eX f_ x ⟨sb,so+i,none⟩ gi) (by omega) m4 n4 ⟨by rw[o1.1];rfl,o1.2⟩ fun vI w5 r5=>?_
 obtain⟨m5,e5⟩:=m4.rely (show eX<Zy.heap.size by omega) r5
 obtain⟨m5',e5'⟩:=m4'.rely Zx r5;have n5:=oA n4 r5;have n5':=oA n4' r5;have M5:=(M4'.mv hA h0 (Mv.of r5)).own (w':=w5.setCell ⟨eX,0,none⟩ (.int .i64 i)) (Nat.le_of_eq b9.symm) (fun b hb=>iC b (by omega)) ⟨rfl,rfl,rfl⟩
 have O5:=O4.rely (w:=Zy) r5;have WW:f_<(w5.setCell ⟨eX,0,none⟩ (.int .i64 i)).heap.size:=by rw[b9];exact Nat.lt_of_lt_of_le Zx r5.size
 have Zz:(w5.setCell ⟨eX,0,none⟩ (.int .i64 i)).heap[f_]?=some (.cells #[.int .i64 0] 3):=(iC f_ (by omega)).trans (e5'.trans TQ)
 have c5:(w5.setCell ⟨eX,0,none⟩ (.int .i64 i)).heap[eX]?=some (.cells #[.int .i64 i] 3):=by
  rw[AG,e5,c4];simp
 generalize w5.setCell ⟨eX,0,none⟩ (.int .i64 i)=w5' at M5 c5 Zz WW;have o2:=gN Zz;refine MP.put (TB ga gl gc sb so sc ms N n c cs (i:Nat) eX f_ x ⟨sb,so+i,none⟩ gi) WW m5' n5' ⟨by rw[o2.1];rfl,o2.2⟩ fun tU w6 r6=>?_
 obtain⟨m6,e6⟩:=m5.rely (show eX<w5'.heap.size by omega) r6
 obtain⟨WX,e6'⟩:=m5'.rely WW r6;have M6:=(M5.mv hA h0 (Mv.of r6)).own (w':=w6.setCell ⟨f_,0,none⟩ (.int .i64 gi)) (Nat.le_of_eq b9.symm) (fun b hb=>iC b (by omega)) ⟨rfl,rfl,rfl⟩
 have O6:=O5.rely (w:=w5') r6;have ZA:f_<(w6.setCell ⟨f_,0,none⟩ (.int .i64 gi)).heap.size:=by rw[b9];exact Nat.lt_of_lt_of_le WW r6.size
 have c6:(w6.setCell ⟨f_,0,none⟩ (.int .i64 gi)).heap[eX]?=some (.cells #[.int .i64 i] 3):=(iC eX (by omega)).trans (e6.trans c5)
 have c6':(w6.setCell ⟨f_,0,none⟩ (.int .i64 gi)).heap[f_]?=some (.cells #[.int .i64 gi] 3):=by
  rw[AG,e6',Zz];simp
 generalize w6.setCell ⟨f_,0,none⟩ (.int .i64 gi)=TR at M6 c6 c6' ZA;refine mS (n:=3) (Qn ga gl gc sb so sc ms N n c cs (i:Nat) eX f_ x ⟨sb,so+i,none⟩ gi) fun AO w7 r7=>?_;rw[TE,←hW];refine Qg _ _ F7 (O6.rely (w:=TR) r7) (by omega) fun fw w8 v8 O8=>?_
 rw[show iY (Zw Tryz.prog ga gl gc sb so sc ms N n c cs (i:Nat) (xl x (i:Nat) ⟨sb,so+i,none⟩ gi) eX f_) (xE Tryz.prog ga gl gc sb so sc ms N n c cs)=WS Tryz.prog ga gl gc sb so sc ms N n c cs (i:Nat) (xl x (i:Nat) ⟨sb,so+i,none⟩ gi) eX f_ from rfl]
 have mv:Mv tU TR fw w8:=(Mv.of r7).trans v8
 refine mS (n:=2) (Qo ga gl gc sb so sc ms N n c cs (i:Nat) eX f_ x ⟨sb,so+i,none⟩ gi) fun SX w9 r9=>?_;rw[show aL Tryz.prog (2+1) (WS Tryz.prog ga gl gc sb so sc ms N n c cs (i:Nat) (xl x (i:Nat) ⟨sb,so+i,none⟩ gi) eX f_)=WT Tryz.prog ga gl gc sb so sc ms N n c cs (i:Nat) (xl x (i:Nat) ⟨sb,so+i,none⟩ gi) eX f_ from rfl]
 have mv9:=mv.trans (Mv.of r9);have O9:=O8.rely r9;obtain⟨p1,p2⟩:=DG (WU ga gl gc sb so sc ms N n c cs (i:Nat) eX f_ x ⟨sb,so+i,none⟩ gi);have l2:=Qw ga gl gc sb so sc ms N n c cs eX f_ i (by omega) x ⟨sb,so+i,none⟩ gi
 obtain⟨x',hx⟩:=Qx ga gl gc sb so sc ms N n c cs eX f_ i (by omega) x ⟨sb,so+i,none⟩ gi
 generalize hgW:KH Tryz.prog (N+5) (N+2) f_ (N+4) eX=gW at p2;generalize oz Tryz.prog ga gl gc sb so sc ms N n c cs (i:Nat) (xl x (i:Nat) ⟨sb,so+i,none⟩ gi) eX f_=gQ at p2 l2 hx;generalize WT Tryz.prog ga gl gc sb so sc ms N n c cs (i:Nat) (xl x (i:Nat) ⟨sb,so+i,none⟩ gi) eX f_=gP at p1 p2⊢;refine .mk p1 nofun nofun fun ui wa ta ja ra Ja da _=>?_;have TS:=mv9.trans (Mv.of (ia ra));have Oa:=O9.rely (ia ra);have Ma:=M6.mv hA h0 TS;have sa:=Ma.size;have ej:=Ja.j;have ejj:=Oa.j;have hja:ja=p.j0+i:=by omega
 obtain⟨q1,q2⟩:=SK (x:={g:=0,fn:=gP.frame.fn,pos:=gP.frame.place,act:= .go (ja+1)})
  (y:={g:=ja+1,fn:=gW.frame.fn,pos:=gP.frame.place,act:= .start})
  Ja Oa.ph Oa.wm Oa.extra da ⟨rfl,rfl⟩ ⟨rfl,rfl⟩
 have mm:∀b,b<TR.heap.size→(∀k,¬tU.ow k b)→¬tU.sh b→b≠p.A→wa.heap[b]?=TR.heap[b]?:=fun b hb h1 h2 h3=>TS.heap b hb h1 h2 fun q hq=>by
  rw[M6.ph]at hq;cases hq;exact h3
 have ca:wa.heap[eX]?=some (.cells #[.int .i64 i] 3):=(mm eX (by omega) m6.2.1 m6.1 (by rw[hA];omega)).trans c6
 have ca':wa.heap[f_]?=some (.cells #[.int .i64 gi] 3):=(mm f_ ZA WX.2.1 WX.1 (by rw[hA];omega)).trans c6'
 have ZB:=TS.size;have ZC:∀b,b<wa.heap.size→(∀k,¬ui.ow k b)→¬ui.sh b→b≠p.A→(ui.spawn p wa.heap.size).ro (p.j0+i+1) b:=fun b h1 h2 h3 h4=> .inl ⟨by omega,h1,h2,h3,h4⟩
 have owa:∀b,b<TR.heap.size→(∀k,¬tU.ow k b)→∀k,¬ui.ow k b:=fun b hb h k e=>h k ((TS.ow k b hb).1 e)
 have sha:∀b,¬tU.sh b→¬ui.sh b:=fun b h e=>h (TS.gh.1▸e)
 have TT:∀b,b<N+5→b≠N+3→¬fZ.sh b→(ui.spawn p wa.heap.size).ro (p.j0+i+1) b:=fun b h1 h2 h3=>
  ZC b (by omega) (fun k=>Ma.ow k b (by omega)) (fun e=>((Ma.sh b).1 e).elim h3 fun e=>by omega) (by rw[hA];exact h2)
 have n0:∀b,N≤b→¬fZ.sh b:=fun b hb e=>by have:=h0 b e;omega
 have stk:(ui.spawn p wa.heap.size).st (p.j0+i+1)= .busy:=if_pos (by omega)
 refine⟨.spawn ⟨⟨gQ,wa,#[],ui.spawn p wa.heap.size⟩,gW⟩ false,⟨⟨p2 true wa,?_,fun k' h1 h2=>q2 k' h1 h2⟩,?_⟩,fun y b' e=>(by cases e),fun y b' e=>?_⟩
 ·rw[Dg]
  exact q1
 ·show WP (sys Tryz.prog) (ja+1) 0 (ui.spawn p wa.heap.size) wa gW
  rw[hja,←hgW];refine xF _ _ _ _ ⟨Ma.ph,stk,⟨TT _ (by omega) (by omega) (n0 _ (by omega)),ZC f_ (by omega) (owa f_ ZA WX.2.1) (sha f_ WX.1) (by rw[hA];omega),TT _ (by omega) (by omega) (n0 _ (by omega)),ZC eX (by omega) (owa eX (by omega) m6.2.1) (sha eX m6.1) (by rw[hA];omega)⟩,
   gN Ma.b2,gN ca',gN Ma.b4,gN ca⟩ Ma.same (fun b hb Fs=>⟨TT b (by omega) (by omega) Fs,Ma.old b hb Fs⟩) ⟨TT _ (by omega) (by omega) (n0 _ (by omega)),TT _ (by omega) (by omega) (n0 _ (by omega)),Ma.b0,Ma.b1⟩
 ·injection e with e1 e2
  subst e1 e2;show MP (sys Tryz.prog) Q false 0 (ui.spawn p wa.heap.size) wa gQ
  have Mb:fT ga gl gc ms N n p fZ w0 (ui.spawn p wa.heap.size) wa:=⟨Ma.same,Ma.size,Ma.sh,Ma.ph,Ma.ow,Ma.old,Ma.b0,Ma.b1,Ma.b2,Ma.b4⟩
  have Ob:gZ (ui.spawn p wa.heap.size) p 0 (p.j0+(i+1)):=⟨Oa.ph,Oa.wm,rfl,by show ui.j+1=_;omega⟩
  refine mS (n:=6) l2 fun γc wc rc=>?_;rw[hx];exact K γc wc x' (Mb.mv hA h0 (Mv.of rc)) (Ob.rely rc)
def El (ga:Addr)(gl gc:Nat)(ms:Int)(N n:Nat)(p:Ph)(gs:Nat→Int)(fZ:Gh)(w0:World):Prop:=∀i,i<n→∀γ w gb ib,pk (p.j0+i+1) p (N+2) gb (N+4) ib (Hx N) (.int .i64 (gs i)) (.slice (some ⟨N+3,0,none⟩) n n) (.int .i64 i) γ w→bq w0 w→
 (∀b,b<N→¬fZ.sh b→γ.ro (p.j0+i+1) b∧w.heap[b]?=w0.heap[b]?)→γ.ro (p.j0+i+1) N∧γ.ro (p.j0+i+1) (N+1)∧w.heap[N]?=some (.cells #[.slice (some ga) gl gc] 31)∧w.heap[N+1]?=some (.cells #[.int .i64 ms] 3)→
 WP (sys Tryz.prog) (p.j0+i+1) 0 γ w (KH Tryz.prog (N+5) (N+2) gb (N+4) ib)
structure NW (N n:Nat) (a:Nat→eH) (fZ:Gh) (w0:World) (γ:Gh) (w:World):Prop where
 ph:γ.ph=none
 same:bq w0 w
 size:N+6≤w.heap.size
 old:∀b,b<N→¬fZ.sh b→w.heap[b]?=w0.heap[b]?
 sh:∀b,γ.sh b↔fZ.sh b∨b=N+5
 mB:∃cs,w.heap[N+3]?=some (.cells cs 170)∧cs.size=5*n∧∀i c,i<n→c<5→cs[5*i+c]?=some ((a i).cell c)
theorem Qy {a:Nat→eH}{gs:Nat→Int}(hA:p.A=N+3)(hW:p.wg=N+5)(F7:p.eW=231)(heA:p.eA=170)(hn:p.n=n)(nL:∀i c,p.mB i c=(a i).cell c)(h0:∀b,fZ.sh b→b<N)(h1:1≤n)(h5:n≤5)
  (CR:sb<N) (ni:¬fZ.sh sb) (aY:∀i,i<n→w0.cell? ⟨sb,so+i,none⟩=some (.int .i64 (gs i))) (xF:El ga gl gc ms N n p gs fZ w0)
  (K:∀ah w',NW N n a fZ w0 ah w'→MP (sys Tryz.prog) Q false 0 ah w' {frame:=c.finish (.slice (some ⟨N+3,0,none⟩) n n),callers:=cs,status:= .running,dying:=none}):
  ∀(m i:Nat) (x:Nat→Value) (γ:Gh) (w:World),i+m=n→fT ga gl gc ms N n p fZ w0 γ w→gZ γ p 0 (p.j0+i)→MP (sys Tryz.prog) Q false 0 γ w (cJ Tryz.prog ga gl gc sb so sc ms N n c cs (i:Nat) x (cN Tryz.prog)):=by
 intro m;induction m with
 |zero=>
  intro i x γ w him hM hO;obtain rfl:i=n:=by omega
  refine mS (n:=9) (TL ga gl gc sb so sc ms N i c cs x h1 h5) fun γ1 w1 r1=>?_;rw[Qs ga gl gc sb so sc ms N i c cs x h1 h5,←hW];have M1:=hM.mv hA h0 (Mv.of r1);refine LH _ _ F7 (hO.rely r1) fun cZ w2 lj w3 v2 qc r3=>?_;rw[show iY (Hy Tryz.prog ga gl gc sb so sc ms N i c cs x) (xE Tryz.prog ga gl gc sb so sc ms N i c cs)=DK Tryz.prog ga gl gc sb so sc ms N i c cs x from rfl]
  have M2:=M1.mv hA h0 v2;have s2:=M2.size;obtain⟨rfl,e3,s3⟩:=gq (γ:=cZ.idle) rfl r3;refine bN (n:=2) (Qt ga gl gc sb so sc ms N i c cs x h1 h5) rfl fun w4 e4 s4=>?_;have Sb:w4.heap[N+4]?=some (.cells #[.slice (some ⟨N+3,0,none⟩) i i] 166):=by rw[e4,e3];exact M2.b4
  have n4:¬cZ.idle.sh (N+4):=fun e=>by
   have e':cZ.sh (N+4):=e
   rcases(M2.sh _).1 e' with e'|e'
   ·have:=h0 _ e';omega
   ·omega
  rw[show aL Tryz.prog (2+1) (DK Tryz.prog ga gl gc sb so sc ms N i c cs x)=kP Tryz.prog ga gl gc sb so sc ms N i c cs x from rfl]
  refine MP.get (Qu ga gl gc sb so sc ms N i c cs x h1 h5 (.slice (some ⟨N+3,0,none⟩) i i)) (by rw[e4,e3];omega) ⟨n4,fun _ e=>e,nofun⟩ (gN Sb) fun vI w5 r5=>?_
  obtain⟨rfl,e5,s5⟩:=gq (γ:=cZ.idle) rfl r5;refine bN (n:=7) (Qv ga gl gc sb so sc ms N i c cs x h1 h5 (N+3) i i) rfl fun w6 e6 s6=>?_;rw[TM ga gl gc sb so sc ms N i c cs x h1 h5 (N+3) i i];have eh:w6.heap=w2.heap:=by rw[e6,e5,e4,e3]
  obtain⟨cells,c1,c2,c3⟩:=qc;refine K _ _ ⟨rfl,(((M2.same.trans s3).trans s4).trans s5).trans s6,by rw[eh];exact s2,fun b hb sH=>by rw[eh];exact M2.old b hb sH,M2.sh,cells,by rw[eh,←hA,←heA];exact c1,by rw[c2,hn],fun i' c' dQ cb=>?_⟩
  rw[c3 i' c' (by omega) cb,nL]
 |succ m ih=>
  intro i x γ w him hM hO;have hi:i<n:=by omega
  exact Me (g:=0) hA hW F7 hn h0 h5 hi hM hO CR ni (aY i hi) (xF i hi) fun ah w' x' M' O'=>ih (i+1) x' ah w' (by omega) M' O'
theorem TU {a:Nat→eH}{gs:Nat→Int}(iD:γ.ph=none)(hN:w.heap.size=N)(h1:1≤n)(h5:n≤5)(CR:sb<N)(ni:¬γ.sh sb)(aY:∀i,i<n→w.cell? ⟨sb,so+i,none⟩=some (.int .i64 (gs i)))
  (xF:El ga gl gc ms N n {wg:=N+5,A:=N+3,n,j0:=γ.j,mB:=fun i c=>(a i).cell c,eW:=231,eA:=170} gs γ w)
  (K:∀ah w',NW N n a γ w ah w'→MP (sys Tryz.prog) Q false 0 ah w' {frame:=c.finish (.slice (some ⟨N+3,0,none⟩) n n),callers:=cs,status:= .running,dying:=none}):
  MP (sys Tryz.prog) Q false 0 γ w (WO Tryz.prog ga gl gc sb so sc ms N n c cs):=by
 refine bN (n:=1) (Qk ga gl gc sb so sc ms N n c cs) iD fun w1 e1 s1=>?_;rw[show aL Tryz.prog (1+1) (WO Tryz.prog ga gl gc sb so sc ms N n c cs)=Ts Tryz.prog ga gl gc sb so sc ms N n c cs from rfl]
 refine MP.alloc (gM (Hz ga gl gc sb so sc ms N n c cs)).1 fun cZ w2 t2 j2 r2 J2=>?_;obtain⟨rfl,e2,s2⟩:=gq iD r2;have hN2:w2.heap.size=N:=by rw[e2,e1,hN]
 have h0:∀b,cZ.sh b→b<N:=fun b hb=>by have:=J2.cX b hb;omega
 have hj:=J2.j;refine⟨_,_,by rw[hN2];exact Hz ga gl gc sb so sc ms N n c cs,?_⟩
 generalize fu:({w2 with heap:=w2.heap.push (.cells #[.slice (some ga) gl gc] 31)}:World)=Qe
 have E2:Qe.heap=w.heap.push (.cells #[.slice (some ga) gl gc] 31):=by rw[←fu];show w2.heap.push _=_;rw[e2,e1]
 have S2:bq w Qe:=by rw[←fu];exact(s1.trans s2)
 clear fu J2;refine MP.uh (Ty ga gl gc sb so sc ms N n c cs) iD (by rw[E2];simp[hN]) fun w3 E3 s3=>?_
 have S3:=S2.trans s3;refine bN (n:=8) (Ql ga gl gc sb so sc ms N n c cs) iD fun w3' e3 s3'=>?_;rw[show aL Tryz.prog (8+1) (nx Tryz.prog (N+1) (Qi Tryz.prog ga gl gc sb so sc ms N n c cs))=Qj Tryz.prog ga gl gc sb so sc ms N n c cs from rfl]
 rw[E3,E2]at e3;refine MP.uh (Tz ga gl gc sb so sc ms N n c cs) iD (by rw[e3];simp[hN]) fun w4 E4 s4=>?_
 refine bN (n:=5) (Qm ga gl gc sb so sc ms N n c cs) iD fun Zy e4 s4'=>?_;rw[show aL Tryz.prog (5+1) (nx Tryz.prog (N+2) (Qj Tryz.prog ga gl gc sb so sc ms N n c cs))=DI Tryz.prog ga gl gc sb so sc ms N n c cs from rfl]
 rw[E4,e3]at e4;obtain⟨z,hz,q4⟩:=TF ga gl gc sb so sc ms N n c cs h1 h5;refine MP.uh q4 iD (by rw[e4];simp[hN]) fun w5 E5 s5=>?_
 rw[e4]at E5;refine MP.uh (TG ga gl gc sb so sc ms N n c cs h1 h5) iD (by rw[E5];simp[hN]) fun w6 E6 s6=>?_
 rw[E5]at E6;have S6:bq w w6:=(((((S3.trans s3').trans s4).trans s4').trans s5).trans s6)
 have ZB:w6.heap.size=N+5:=by rw[E6];simp[hN]
 have ZD:w6.heap[N+4]?=some (.cells #[.slice none 0 0] 166):=by rw[E6];(simp only[Array.getElem?_push,Array.size_push,hN];repeat (first|rw[if_pos trivial]|rw[if_pos (by omega)]|rw[if_neg (by omega)]))
 have o6:=gN ZD;have n6:∀b,N≤b→¬cZ.sh b:=fun b hb e=>by have:=h0 b e;omega
 have q6:=TH ga gl gc sb so sc ms N n c cs h1 h5;have u6:=Qp ga gl gc sb so sc ms N n c cs h1 h5;have a6:aL Tryz.prog (2+1) (sx Tryz.prog (jG Tryz.prog ga gl gc sb so sc ms N n c cs))=lR Tryz.prog ga gl gc sb so sc ms N n c cs:=rfl
 generalize sx Tryz.prog (jG Tryz.prog ga gl gc sb so sc ms N n c cs)=gX at q6 u6 a6;generalize jG Tryz.prog ga gl gc sb so sc ms N n c cs=gY at q6⊢;obtain⟨v6,y6⟩:=oo q6;refine .go v6 fun AO w7 t7 j7 r7 J7 Wm=>?_;obtain⟨eg7,e7,s7⟩:=gq iD (ia r7);obtain rfl:=eg7.symm
 obtain⟨x1,x2,x3⟩:=J7.none iD;have o7:(w7.cell? ⟨N+4,0,none⟩).isSome=true∧w7.frozen? ⟨N+4,0,none⟩=false:=by
  have:=gN (show w7.heap[N+4]?=_ by rw[e7];exact ZD)
  exact⟨by rw[this.1];rfl,this.2⟩
 have m7:pn cZ (N+4):=⟨n6 _ (by omega),fun k=>(x1 k _).1,fun q hq=>by rw[iD]at hq;cases hq⟩
 obtain⟨a1,a2⟩:=vG (w1:=w7.setCell ⟨N+4,0,none⟩ (.slice (some ⟨N+3,0,none⟩) n n)) (fn:=gY.frame.fn) (pos:=gY.frame.place) (es:= #[db ⟨N+4,0,none⟩ true]) J7 ⟨rfl,rfl,rfl⟩ (Nat.le_of_eq b9.symm) (fun b' _ cB=>iC b' fun e=>by
  subst e;rcases cB with⟨k,hk⟩|hk|⟨p,hp,hk⟩
  ·exact hk.elim (x1 k _).1 (x1 k _).2
  ·exact m7.1 hk
  ·rw[iD]at hp;cases hp) fun e he=>by
   simp at he;subst he
   exact Ek m7 (fun _ k=>(x1 k _).2) (by rw[b9,e7,ZB];omega)
 refine⟨⟨gX,_,_,cZ⟩,false,⟨y6 true w7 fun q hq=>by
  have:q=(⟨N+4,0,none⟩,.slice (some ⟨N+3,0,none⟩) n n):=by simpa using hq
  subst this;exact o7,a1,a2⟩,?_⟩
 show MP (sys Tryz.prog) Q false 0 cZ (w7.setCell ⟨N+4,0,none⟩ (.slice (some ⟨N+3,0,none⟩) n n)) gX
 have H8:∀b,b≠N+4→(w7.setCell ⟨N+4,0,none⟩ (.slice (some ⟨N+3,0,none⟩) n n)).heap[b]?=w6.heap[b]?:=fun b hb=>by rw[iC b hb,e7]
 have B8:(w7.setCell ⟨N+4,0,none⟩ (.slice (some ⟨N+3,0,none⟩) n n)).heap[N+4]?=some (.cells #[.slice (some ⟨N+3,0,none⟩) n n] 166):=by rw[AG,e7,ZD];simp
 have S8:bq w (w7.setCell ⟨N+4,0,none⟩ (.slice (some ⟨N+3,0,none⟩) n n)):=S6.trans s7
 have sz8:(w7.setCell ⟨N+4,0,none⟩ (.slice (some ⟨N+3,0,none⟩) n n)).heap.size=N+5:=by rw[b9,e7,ZB]
 generalize w7.setCell ⟨N+4,0,none⟩ (.slice (some ⟨N+3,0,none⟩) n n)=w8 at H8 B8 S8 sz8⊢;clear a1 a2;refine bN (n:=2) u6 iD fun w9 e9 s9=>?_;rw[a6];have q7:=TI ga gl gc sb so sc ms N n c cs h1 h5;have u7:=Qq ga gl gc sb so sc ms N n c cs h1 h5;have a7:aL Tryz.prog (9+1) (nx Tryz.prog (N+5) (lR Tryz.prog ga gl gc sb so sc ms N n c cs))=DJ Tryz.prog ga gl gc sb so sc ms N n c cs:=rfl
 rw[Qr ga gl gc sb so sc ms N n c cs h1 h5]at a7;generalize nx Tryz.prog (N+5) (lR Tryz.prog ga gl gc sb so sc ms N n c cs)=gX at q7 u7 a7;generalize lR Tryz.prog ga gl gc sb so sc ms N n c cs=gY at q7⊢;obtain⟨v7,y7⟩:=gM q7;refine .go v7 fun ui wa ta ja ra Ja hda=>?_;obtain⟨ega,ea,sa⟩:=gq iD (ia ra);obtain rfl:=ega.symm
 have ZE:wa.heap=w8.heap:=ea.trans e9
 have WY:wa.heap.size=N+5:=by rw[ZE,sz8]
 obtain⟨b1,b2⟩:=Wh (w1:={wa with heap:=wa.heap.push (.cells #[.int .u64 0,.int .u32 0] 231)}) (p:={wg:=N+5,A:=N+3,n,j0:=cZ.j,mB:=fun i c=>(a i).cell c,eW:=231,eA:=170}) (cs:=z)
  Ja iD Ja.j WY.symm h5 (by show N+3<wa.heap.size;rw[WY];omega) (n6 (N+3) (by omega)) (by
   show wa.heap[N+3]?=_
   rw[ZE,H8 _ (by omega),E6]
   (simp only[Array.getElem?_push,Array.size_push,hN];repeat (first|rw[if_pos trivial]|rw[if_pos (by omega)]|rw[if_neg (by omega)]))) hz ⟨rfl,rfl,rfl⟩ rfl
 refine⟨⟨gX,_,#[],cZ.begin _⟩,false,⟨y7 true wa WY,b1.nil,b2⟩,?_⟩;show MP (sys Tryz.prog) Q false 0 (cZ.begin {wg:=N+5,A:=N+3,n,j0:=cZ.j,mB:=fun i c=>(a i).cell c,eW:=231,eA:=170}) {wa with heap:=wa.heap.push (.cells #[.int .u64 0,.int .u32 0] 231)} gX
 have Hb:∀b,b<N+5→(wa.heap.push (.cells #[.int .u64 0,.int .u32 0] 231))[b]?=w8.heap[b]?:=fun b hb=>by rw[Array.getElem?_push,if_neg (by omega),ZE]
 have Hc:∀b,b<N+4→(wa.heap.push (.cells #[.int .u64 0,.int .u32 0] 231))[b]?=w6.heap[b]?:=fun b hb=>(Hb b (by omega)).trans (H8 b (by omega))
 have AM:fT ga gl gc ms N n {wg:=N+5,A:=N+3,n,j0:=cZ.j,mB:=fun i c=>(a i).cell c,eW:=231,eA:=170} cZ w (cZ.begin {wg:=N+5,A:=N+3,n,j0:=cZ.j,mB:=fun i c=>(a i).cell c,eW:=231,eA:=170})
   {wa with heap:=wa.heap.push (.cells #[.int .u64 0,.int .u32 0] 231)}:=by
  refine⟨S8.trans (s9.trans sa),by simp[WY],fun b=> .rfl,rfl,fun k b _=>(x1 k b).1,fun b hb _=>?_,?_,?_,?_,?_⟩
  ·show(wa.heap.push _)[b]?=_
   rw[Hc b (by omega),E6]
   simp only[Array.getElem?_push,Array.size_push,hN];repeat (first|rw[if_pos trivial]|rw[if_pos (by omega)]|rw[if_neg (by omega)])
  ·show(wa.heap.push _)[N]?=_
   rw[Hc N (by omega),E6]
   (simp only[Array.getElem?_push,Array.size_push,hN];repeat (first|rw[if_pos trivial]|rw[if_pos (by omega)]|rw[if_neg (by omega)]))
  ·show(wa.heap.push _)[N+1]?=_
   rw[Hc (N+1) (by omega),E6]
   (simp only[Array.getElem?_push,Array.size_push,hN];repeat (first|rw[if_pos trivial]|rw[if_pos (by omega)]|rw[if_neg (by omega)]))
  ·show(wa.heap.push _)[N+2]?=_
   rw[Hc (N+2) (by omega),E6]
   (simp only[Array.getElem?_push,Array.size_push,hN];repeat (first|rw[if_pos trivial]|rw[if_pos (by omega)]|rw[if_neg (by omega)]))
  ·show(wa.heap.push _)[N+4]?=_
   rw[Hb (N+4) (by omega)]
   exact B8
 have OB:gZ (cZ.begin {wg:=N+5,A:=N+3,n,j0:=cZ.j,mB:=fun i c=>(a i).cell c,eW:=231,eA:=170}) {wg:=N+5,A:=N+3,n,j0:=cZ.j,mB:=fun i c=>(a i).cell c,eW:=231,eA:=170} 0 (cZ.j+0):=⟨rfl,x3,rfl,rfl⟩
 refine mS (n:=9) u7 fun γb wb rb=>?_;rw[a7];exact Qy rfl rfl rfl rfl rfl (fun _ _=>rfl) h0 h1 h5 CR ni aY xF K n 0 x0 γb wb (Nat.zero_add n) (AM.mv rfl h0 (Mv.of rb)) (OB.rely rb)
end
end Go.Proofs.YtlhohdjniaebbaaGreat.Sr
namespace Go.Proofs.YtlhohdjniaebbaaGreat.Sr
open Go Go.Conc Go.ConcN
def fP:Obj→Obj
 | .cells us e fz=> .cells us e (0,max us.size fz.2)
 |o=>o
def jm (v:World)(b1 b2:Obj):World:={v with heap:=((v.heap.map fP).push (fP b1)).push (fP b2)}
section
variable {v w:World}{b1 b2:Obj}{m:aD}
theorem Em {r:Nat}(h:r<v.heap.size):(jm v b1 b2).heap[r]?=(v.heap[r]?).map fP:=by
 show(((v.heap.map fP).push (fP b1)).push (fP b2))[r]?=_
 rw[Array.getElem?_push,if_neg (by simp;omega),Array.getElem?_push,if_neg (by simp;omega),Array.getElem?_map]
theorem Mg:(jm v b1 b2).heap[v.heap.size]?=some (fP b1):=by
 show(((v.heap.map fP).push (fP b1)).push (fP b2))[v.heap.size]?=_
 rw[Array.getElem?_push,if_neg (by simp),Array.getElem?_push,if_pos (by simp)]
theorem Mh:(jm v b1 b2).heap[v.heap.size+1]?=some (fP b2):=by
 show(((v.heap.map fP).push (fP b1)).push (fP b2))[v.heap.size+1]?=_
 rw[Array.getElem?_push,if_pos (by simp)]
theorem TX {p:Addr}(h:p.block<v.heap.size):(jm v b1 b2).cell? p=v.cell? p:=by
 unfold World.cell?;rw[Em h]
 cases v.heap[p.block]? with
 |none=>rfl
 |some o=>cases o<;>rfl
theorem wN {w:World}{b:Nat}{cs:Array Value}{e:TypeId}{f:Nat×Nat}(h:w.heap[b]?=some (.cells cs e f)):w.cell? ⟨b,0,none⟩=cs[0]?:=by
 unfold World.cell?;simp[h]
theorem zb {w:World}{r:Nat}{o:Obj}(h:w.heap[r]?=some (fP o))(hb:CQ o):dG w r:=by
 rcases hb with⟨us,e,fz,rfl⟩|⟨a,l,rfl⟩
 ·exact .inl ⟨us,e,_,h,Nat.le_max_left ..⟩
 ·exact .inr ⟨a,l,h⟩
theorem ko.ZF {o p:Obj}(h:ko m o p):CQ o:=by
 rcases h with⟨us,vs,e,fz,gz,rfl,rfl,_,_⟩|⟨a,b,l,rfl,rfl,_⟩
 ·exact .inl ⟨us,e,fz,rfl⟩
 ·exact .inr ⟨a,l,rfl⟩
theorem ko.fz {o p:Obj}(h:ko m o p):ko m (fP o) p:=by
 rcases h with⟨us,vs,e,fz,gz,rfl,rfl,hf,ha⟩|⟨a,b,l,rfl,rfl,ha⟩
 ·refine .inl ⟨us,vs,e,_,gz,rfl,rfl,fun o h1 h2=>⟨Nat.zero_le _,?_⟩,ha⟩
  have:=(hf o h1 h2).2
  show o<max us.size fz.2
  omega
 ·exact .inr ⟨a,b,l,rfl,rfl,ha⟩
theorem En {m:aD}{r t:Nat}(h:m r=none):aD.le m (m.put r t):=by
 refine⟨fun q u hq=>?_,rfl⟩
 show(if q=r then some t else m q)=some u
 by_cases e:q=r
 ·subst e;rw[h]at hq;cases hq
 ·rw[if_neg e];exact hq
theorem xV {m:aD}{r t:Nat}:(m.put r t) r=some t:=by
 show(if r=r then some t else m r)=some t
 simp
theorem jo {m:aD}{r t q u:Nat}(h:(m.put r t) q=some u):(q=r∧u=t)∨m q=some u:=by
 have h':(if q=r then some t else m q)=some u:=h
 by_cases e:q=r
 ·rw[if_pos e]at h';exact .inl ⟨e,(Option.some.inj h').symm⟩
 ·rw[if_neg e]at h';exact .inr h'
theorem WR.TY (h:WR m v w){r:Nat}(hr:v.heap.size≤r):m r=none:=by
 cases e:m r with
 |none=>rfl
 |some t=>exact absurd (h.lt e).1 (by omega)
end
section
variable {P:Program}{F:Array Func}{spec:FuncId→Bool}{m:aD}{τ:TypeId}
theorem FR.enter (B:fg τ P F spec m.good){f:FuncId}{us vs:Array Value}(hg:m.good f=true)(hs:spec f=false)(h:AR m us vs):
  FR P spec m (Frame.enter (Program.mk (Program.toTables P) F) f us .normal) (Frame.enter P f vs .normal):=by
 obtain⟨fr,e1,e2,e3⟩:=B.same f hg hs;have en:∀(Q:Program) (xs:Array Value),Q.funcs[f]?=some fr→Frame.enter Q f xs .normal=aM f (xs++Array.replicate (fr.ntmps-xs.size) undef) [.code (fr.body.getD (.refuse "unsupported: a function without a Go body is entered"))] .run:=by
  intro Q xs hq;simp[Frame.enter,hq,aM]
 rw[en _ us e1,en _ vs e2,h.1];refine .mk f [.code (fr.body.getD (.refuse "unsupported: a function without a Go body is entered"))] .run (.no hs hg) (tl:=[]) (ds:=[]) ?_ (fun x hx=>?_) (.inl rfl)
 ·refine⟨by simp[h.1],fun i h1 h2=>?_⟩
  by_cases hi:i<us.size
  ·rw[Array.getElem_append_left hi,Array.getElem_append_left (by rw[←h.1];exact hi)]
   exact h.2 i hi _
  ·rw[Array.getElem_append_right (by omega),Array.getElem_append_right (by rw[←h.1];omega)]
   simp only[Array.getElem_replicate];exact BM (m:=m) undef rfl
 ·simp only[List.mem_singleton]at hx
  subst hx;show fp P m.good true _=true
  unfold mH at e3
  cases hb:fr.body with
  |none=>rw[hb]at e3;cases e3
  |some c=>rw[hb]at e3;exact e3
end
theorem Eo {us:Array Value}(h:us.size=3):∃a b x,us= #[a,b,x]:=by
 obtain⟨l⟩:=us;match l,h with
 |[a,b,x],_=>exact⟨a,b,x,rfl⟩
theorem WZ {spec:FuncId→Bool}{m:aD}(B:fg nO Tryz.prog Tw.prog.funcs spec m.good)(Bg:mL spec){A:Value}{f' f:Frame}{fs' fs:List Frame}{v:World}(he:kg Tryz.prog Tw.prog.funcs spec m f' f)(pA:h_ Tryz.prog spec m fs' fs)(cv:fs'≠[]):
  ¬Ends (Program.mk (Program.toTables Tryz.prog) Tw.prog.funcs) (aO (Program.mk (Program.toTables Tryz.prog) Tw.prog.funcs) fun e _=>e= .returned A) f' (fs'++[bz]) v:=by
 intro hE;obtain⟨g,us,vs,e1,h1,h2,_,h3⟩:=oy he;subst h1;rcases Bg g e1 with this|⟨hA,this⟩
 ·subst this
  obtain⟨a,b,x,rfl⟩:=Eo (h3 3 rfl);obtain⟨v',_,hR⟩:=p_ (R:=fun e _=>e= .returned A) (fun _ h=>(by cases h)) (gs:=fs') rfl (lI B pA) hE
  cases hR
 ·subst this
  obtain⟨v',_,hR⟩:=sN hA (R:=fun e _=>e= .returned A) (fun _ h=>(by cases h)) h3 (gs:=fs') rfl (lI B pA) hE
  cases hR
section
variable {w0 w:World}{fZ γ:Gh}{m:aD}{v:World}{ga TZ:Addr}{gl gc:Nat}{ms:Int}{N n:Nat}{p:Ph}{gs:Nat→Int}{a:Nat→eH}
theorem NX {m:aD}{r t:Nat}(h:m r=some t):VR m (ptr r) (ptr t):= .ptr ⟨h,rfl,rfl,rfl⟩
theorem pk.grow {k:Nat}{qb gb ab ib:Nat}{fv gv av iv:Value}{w1:World}{x y:Nat}(h:pk k p qb gb ab ib fv gv av iv γ w)(hh:∀b,γ.ro k b→w1.heap[b]?=w.heap[b]?):pk k p qb gb ab ib fv gv av iv (γ.grow k x y) w1:=by
 obtain⟨o1,o2,o3,o4⟩:=h.ro;have key:∀{b:Nat} {v:Value},γ.ro k b→w.cell? ⟨b,0,none⟩=some v∧w.frozen? ⟨b,0,none⟩=false→w1.cell? ⟨b,0,none⟩=some v∧w1.frozen? ⟨b,0,none⟩=false:=by
  intro b v hb hc;have e:=hh b hb;rw[cell_of e,yZ e];exact hc
 exact⟨h.ph,h.st,h.ro,key o1 h.cq,key o2 h.cg,key o3 h.ca,key o4 h.ci⟩
set_option maxRecDepth 100000 in
theorem T0 {good spec:FuncId→Bool}(B:fg nO Tryz.prog Tw.prog.funcs spec good)(Bg:mL spec)(T3:spec 187=false)(Iv:good 187=true)(T4:m.good=good)(hw:WR m (v.on w0.tape w0.drawn) w0)(hN:w0.heap.size=N)(Bh:bA m ga TZ)(ni:∀r t,m r=some t→¬fZ.sh t)
  (hA:p.A=N+3) (Y4:p.wg=N+5) (hn:p.n=n) (h5:n≤5) (F7:p.eW=231) (nL:∀i c,p.mB i c=(a i).cell c)
  (ask:∀i,i<n→∀(u:World) (gb mb:Nat),(∀q:Addr,q.block<v.heap.size→u.cell? q=v.cell? q)→u.cell? ⟨gb,0,none⟩=some (.slice (some ga) gl gc)→u.cell? ⟨mb,0,none⟩=some (.int .i64 ms)→
   Calls Tw.prog 187 #[.int .i64 (gs i),ptr gb,ptr mb] u fun e _=>e= .returned (a i).val):El TZ gl gc ms N n p gs fZ w0:=by
 subst T4;intro i hi γ w gb ib abb iB hold W0;obtain⟨pU,yM,mA,eJ⟩:=W0;have ek:p.j0+i+1-p.j0-1=i:=by omega
 let B1:Obj:= .cells #[.slice (some ga) gl gc] 31
 let B2:Obj:= .cells #[.int .i64 ms] 3
 let mW:aD:=(m.put v.heap.size N).put (v.heap.size+1) (N+1)
 have xG:∀r t,m r=some t→r<v.heap.size∧t<N:=fun r t h=>by
  have:=hw.lt h
  rw[hN]at this;exact this
 have n1:m v.heap.size=none:=by
  cases e:m v.heap.size with
  |none=>rfl
  |some t=>exact absurd (xG _ _ e).1 (by omega)
 have n2:(m.put v.heap.size N) (v.heap.size+1)=none:=by
  cases e:(m.put v.heap.size N) (v.heap.size+1)with
  |none=>rfl
  |some t=>
   rcases jo e with⟨h1,_⟩|h1
   ·omega
   ·exact absurd (xG _ _ h1).1 (by omega)
 have Qz:aD.le m (m.put v.heap.size N):=En n1
 have le2:aD.le (m.put v.heap.size N) mW:=En n2
 have le:aD.le m mW:=⟨fun r t h=>le2.sub r t (Qz.sub r t h),rfl⟩
 have mN:mW v.heap.size=some N:=le2.sub _ _ xV
 have mN1:mW (v.heap.size+1)=some (N+1):=xV
 have split:∀{r t:Nat},mW r=some t→m r=some t∨(r=v.heap.size∧t=N)∨(r=v.heap.size+1∧t=N+1):=fun h=>by
  rcases jo h with h|h
  ·exact .inr (.inr h)
  ·rcases jo h with h|h
   ·exact .inr (.inl h)
   ·exact .inl h
 let F:Gh→World→Prop:=fun γ w=>pk (p.j0+i+1) p (N+2) gb (N+4) ib (Hx N) (.int .i64 (gs i)) (.slice (some ⟨N+3,0,none⟩) n n) (.int .i64 i) γ w∧bq w0 w∧(∀b,b<N→¬fZ.sh b→γ.ro (p.j0+i+1) b∧w.heap[b]?=w0.heap[b]?)∧
  γ.ro (p.j0+i+1) N∧γ.ro (p.j0+i+1) (N+1)∧w.heap[N]?=some (.cells #[.slice (some TZ) gl gc] 31)∧w.heap[N+1]?=some (.cells #[.int .i64 ms] 3)
 have f0:F γ w:=⟨abb,iB,hold,pU,yM,mA,eJ⟩
 have fR:∀γ w ah w',F γ w→RR (p.j0+i+1) γ w ah w'→F ah w':=by
  rintro γ w ah w' ⟨b1,b2,b3,b4,b5,b6,b7⟩ r;have T5:=b1.rely (by omega) r
  obtain⟨_,_,r3,_,_,_,r7,_⟩:=(jS (by omega) r).live (nH b1.st (by decide))
  exact⟨T5,b2.trans (jS (by omega) r).same,fun b hb hn=>⟨(r3 _).2 (b3 b hb hn).1,(r7 b (.inr (b3 b hb hn).1)).trans (b3 b hb hn).2⟩,(r3 _).2 b4,(r3 _).2 b5,(r7 _ (.inr b4)).trans b6,(r7 _ (.inr b5)).trans b7⟩
 have fG:∀γ w w1,F γ w→(∀b,γ.ro (p.j0+i+1) b→w1.heap[b]?=w.heap[b]?)→bq w w1→F (γ.grow (p.j0+i+1) w.heap.size w1.heap.size) w1:=by
  rintro γ w w1 ⟨b1,b2,b3,b4,b5,b6,b7⟩ hh hs;exact⟨b1.grow hh,b2.trans hs,fun b hb hn=>⟨(b3 b hb hn).1,(hh b (b3 b hb hn).1).trans (b3 b hb hn).2⟩,b4,b5,(hh _ b4).trans b6,(hh _ b5).trans b7⟩
 have hE:Ends Tw.prog (aO Tw.prog fun e _=>e= .returned (a i).val) (Frame.enter Tw.prog 187 #[.int .i64 (gs i),ptr v.heap.size,ptr (v.heap.size+1)] .normal) [bz] (jm v B1 B2):=by
  refine ends_of_calls (fun _ h=>(by cases h)) fun T=>ask i hi ((jm v B1 B2).on T 0) v.heap.size (v.heap.size+1) (fun q hq=>TX hq) ?_ ?_
  ·exact wN (Mg (b1:=B1) (b2:=B2))
  ·exact wN (Mh (b1:=B1) (b2:=B2))
 rw[←Y4];refine F9 F (fv:=Hx N) (gi:=gs i) (a:=a i) rfl F7 hn h5 (by omega) (by omega) (fun c _=>by rw[ek];exact nL i c) (fun γ w h=>by rw[ek,hA];exact h.1) fR (fun x5 x6 l γ1 w1 h1 K=>?_) f0
 obtain⟨b1,b2,b3,b4,b5,b6,b7⟩:=h1;have hWR:WR mW ((jm v B1 B2).on w1.tape w1.drawn) w1:=by
  refine⟨fun r s t hr hs=>?_,fun r t hr=>?_,b2.2.1.trans hw.os,rfl,rfl⟩
  ·rcases split hr with h1|⟨h1,h2⟩|⟨h1,h2⟩<;>rcases split hs with h3|⟨h3,h4⟩|⟨h3,h4⟩
   ·exact hw.inj r s t h1 h3
   ·exact absurd (xG _ _ h1).2 (by omega)
   ·exact absurd (xG _ _ h1).2 (by omega)
   ·exact absurd (xG _ _ h3).2 (by omega)
   ·omega
   ·omega
   ·exact absurd (xG _ _ h3).2 (by omega)
   ·omega
   ·omega
  ·rcases split hr with h1|⟨h1,h2⟩|⟨h1,h2⟩
   ·obtain⟨o,q,d1,d2,d3⟩:=hw.iX r t h1
    refine⟨fP o,q,?_,((b3 t (xG _ _ h1).2 (ni _ _ h1)).2).trans d2,d3.fz.mono le⟩;show(jm v B1 B2).heap[r]?=_
    rw[Em (xG _ _ h1).1];have ZG:v.heap[r]?=some o:=d1
    rw[ZG];rfl
   ·subst h1 h2
    refine⟨_,_,Mg,b6,ko.fz (o:=B1) (.cells (Fz.refl _) ⟨rfl,fun i h1 h2=>?_⟩)⟩
    obtain rfl:i=0:=by simp at h1;exact h1
    exact .slice gl gc ⟨le.sub _ _ Bh.1,Bh.2.1,Bh.2.2.1,Bh.2.2.2⟩
   ·subst h1 h2
    refine⟨_,_,Mh,b7,ko.fz (o:=B2) (.cells (Fz.refl _) ⟨rfl,fun i h1 h2=>?_⟩)⟩
    obtain rfl:i=0:=by simp at h1;exact h1
    exact .int _ _
 have hI:nM (p.j0+i+1) mW (jm v B1 B2) γ1:=by
  intro r t hr;left
  rcases split hr with h1|⟨h1,h2⟩|⟨h1,h2⟩
  ·obtain⟨o,q,d1,d2,d3⟩:=hw.iX r t h1
   have ZG:v.heap[r]?=some o:=d1
   exact⟨zb (o:=o) (by rw[Em (xG _ _ h1).1,ZG];rfl) d3.ZF,(b3 t (xG _ _ h1).2 (ni _ _ h1)).1⟩
  ·subst h1 h2
   exact⟨zb (o:=B1) Mg (.inl ⟨_,_,_,rfl⟩),b4⟩
  ·subst h1 h2
   exact⟨zb (o:=B2) Mh (.inl ⟨_,_,_,rfl⟩),b5⟩
 have fO:FR Tryz.prog spec mW (Frame.enter Tw.prog 187 #[.int .i64 (gs i),ptr v.heap.size,ptr (v.heap.size+1)] .normal) (Frame.enter Tryz.prog 187 #[.int .i64 (gs i),ptr N,ptr (N+1)] .normal):=by
  refine FR.enter (m:=mW) (F:=Tw.prog.funcs) (P:=Tryz.prog) B Iv T3 ⟨rfl,fun j h1 h2=>?_⟩
  obtain rfl|rfl|rfl:j=0∨j=1∨j=2:=by simp at h1;omega
  ·exact .int _ _
  ·exact NX mN
  ·exact NX mN1
 exact PF (P:=Tryz.prog) (F0:=Tw.prog.funcs) (spec:=spec) (good:=m.good) (R:=fun e _=>e= .returned (a i).val) (p:=p) B (fun _ h=>(by cases h)) (fun x w _ h=>(by cases h)) (a:=a i) (fun x w h=>by injection h) F (by omega)
  (fun {n f' f fs' fs v} QA he pA cv=>WZ (QA▸B) Bg he pA cv) (fun γ w h=>⟨h.1.ph,h.1.st⟩) fR fG
  (c:=Sv Tryz.prog p.wg (N+2) gb (N+4) ib x5 x6 (Hx N) (.int .i64 (gs i)) undef undef (4::l)) (e0:=[wH Tryz.prog]) (fun γ w h=>K γ w h) hE (fs':=[]) (fs:=[]) (m:=mW) rfl rfl fO .nil ⟨rfl,nofun⟩ hWR hI ⟨b1,b2,b3,b4,b5,b6,b7⟩
end
end Go.Proofs.YtlhohdjniaebbaaGreat.Sr
