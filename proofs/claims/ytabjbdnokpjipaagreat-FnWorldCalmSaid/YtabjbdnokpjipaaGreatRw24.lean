/-
What is proved: the starter's steps at memory of its own and what rests on it. Conditions: as stated.
-/
import Derived.Test.YtabjbdnokpjipaaGreatRw21
import Derived.Test.YtabjbdnokpjipaaGreatRw23
import Derived.Test.YtabjbdnokpjipaaGreatRw15
import Derived.Test.YtabjbdnokpjipaaGreatRw16
set_option linter.unusedVariables false
set_option linter.unusedSimpArgs false
namespace Go.Proofs.YtabjbdnokpjipaaGreat.Sr
open Go Go.Conc Go.ConcN
section
variable {P:Program}{Q:Gh→World→Trace→Nat→Outcome→World→Prop}{d:Nat}{γ ai:Gh}{w w':World}{g g':Goroutine}{b o:Nat}{x v:Value}
def sO (γ:Gh)(b:Nat):Prop:=¬γ.sh b∧(∀k,¬γ.ow k b)∧∀p,γ.ph=some p→b≠p.A
theorem sO.rely (h:sO γ b)(hb:b<w.heap.size)(r:RM γ w ai w'):sO ai b∧w'.heap[b]?=w.heap[b]?:=by
 obtain⟨h1,h2,h3⟩:=h;obtain⟨g1,g2,_⟩:=r.gh;exact⟨⟨by rw[g1];exact h1,fun k hk=>h2 k ((r.ow k b hb).1 hk),fun p hp=>h3 p (g2▸hp)⟩,r.heap b hb h2 h1 h3⟩
theorem rh (h:∀k,¬γ.ro k b)(r:RM γ w ai w'):∀k,¬ai.ro k b:=by
 obtain⟨_,_,g3,_⟩:=r.gh;rw[g3];exact h
theorem Ic {j B:Nat}{wr:Bool}(h:sO γ b)(hr:wr=true→∀k,¬γ.ro k b)(hB:b<B):vk γ j B (dT ⟨b,o,none⟩ wr):=by
 refine⟨fun z hz=> .inr ?_,hB,nofun⟩
 have:z=⟨.cell ⟨b,o,none⟩,wr,.plain⟩:=(Option.some.inj hz).symm
 subst this;refine⟨fun⟨a,ha,hs⟩=>?_,fun k _ _ hk=>?_,fun hw k _ _ ⟨b',cT,hk⟩=>?_⟩
 ·cases ha;exact h.1 hs
 ·rcases hk with⟨b',cT,hk⟩|⟨a,ha,p,hp,_,hA,_⟩
  ·cases cT;exact h.2.1 k hk
  ·cases ha;exact h.2.2 p hp hA
 ·cases cT;exact hr hw k hk
theorem MP.alloc (hs:g.status= .running)(h:∀ai w' t j,RM γ w ai w'→JJ ai w' t j→∃g' ob,dB P w'.heap.size g=some (g',#[],ob)∧MP (sys P) Q false d ai {w' with heap:=w'.heap.push ob} g'):MP (sys P) Q false d γ w g:=by
 refine .go hs fun γ1 w1 t j hR hJ hd=>?_;obtain⟨g',ob,hq,hm⟩:=h γ1 w1 t j (jP hR) hJ;obtain⟨a1,a2⟩:=ze (w1:={w1 with heap:=w1.heap.push ob}) (fn:=g.frame.fn) (pos:=g.frame.place) (es:= #[]) hJ ⟨rfl,rfl,rfl⟩ (by simp) (fun b hb _=>by
  show(w1.heap.push ob)[b]?=_
  rw[Array.getElem?_push,if_neg (by omega)]) fun e he=>by simp at he
 exact⟨⟨g',_,#[],γ1⟩,false,⟨(jD hq).2 true w1 rfl,a1,a2⟩,hm⟩
theorem MP.put (hq:lQ P g=some (g',#[dT ⟨b,o,none⟩ true],[(⟨b,o,none⟩,x)]))(hb:b<w.heap.size)(hm:sO γ b)(hr:∀k,¬γ.ro k b)(hc:(w.cell? ⟨b,o,none⟩).isSome=true∧w.frozen? ⟨b,o,none⟩=false)
  (K:∀ai w',RM γ w ai w'→MP (sys P) Q false d ai (w'.setCell ⟨b,o,none⟩ x) g'):MP (sys P) Q false d γ w g:=by
 obtain⟨s1,s2⟩:=qU hq;refine .go s1 fun γ1 w1 t j hR hJ hd=>?_;have r:=jP hR;obtain⟨m1,e1⟩:=hm.rely hb r;have r1:=rh hr r;have hb1:b<w1.heap.size:=Nat.lt_of_lt_of_le hb r.size
 have nG:(w1.cell? ⟨b,o,none⟩).isSome=true∧w1.frozen? ⟨b,o,none⟩=false:=by
  have c1:w1.cell? ⟨b,o,none⟩=w.cell? ⟨b,o,none⟩:=cell_of e1
  have c2:w1.frozen? ⟨b,o,none⟩=w.frozen? ⟨b,o,none⟩:=by unfold World.frozen?;rw[show w1.heap[(⟨b,o,none⟩:Addr).block]?=w.heap[(⟨b,o,none⟩:Addr).block]? from e1]
  rw[c1,c2];exact hc
 obtain⟨a1,a2⟩:=ze (w1:=w1.setCell ⟨b,o,none⟩ x) (fn:=g.frame.fn) (pos:=g.frame.place) (es:= #[dT ⟨b,o,none⟩ true]) hJ ⟨rfl,rfl,rfl⟩ (Nat.le_of_eq cA.symm) (fun b' _ cT=>kr b' fun e=>by
  subst e;rcases cT with⟨k,hk⟩|hk|⟨p,hp,hk⟩
  ·exact hk.elim (m1.2.1 k) (r1 k)
  ·exact m1.1 hk
  ·exact m1.2.2 p hp hk) fun e he=>by
   simp at he;subst he
   exact Ic m1 (fun _=>r1) (by rw[cA];exact hb1)
 exact⟨⟨g',_,_,γ1⟩,false,⟨s2 true w1 fun q hq=>by
  have:q=(⟨b,o,none⟩,x):=by simpa using hq
  subst this;exact nG,a1,a2⟩,K γ1 w1 r⟩
theorem Xz {t:Trace}{j:Nat}{fn:FuncId}{pos:String}(hJ:JJ γ w t j)(hm:sO γ b)(hb:b<w.heap.size):JJ γ w (t++MemOp.ofEvents 0 fn pos #[dT ⟨b,o,none⟩ false]) j∧∀k',k'≠0→RR k' γ w γ w:=
 pq hJ (Ic hm nofun hb)
theorem MP.get (hq:bF P v none g=some ⟨g',#[dT ⟨b,o,none⟩ false],[⟨b,o,none⟩],[],none⟩)(hb:b<w.heap.size)(hm:sO γ b)(hc:w.cell? ⟨b,o,none⟩=some v∧w.frozen? ⟨b,o,none⟩=false)
  (K:∀ai w',RM γ w ai w'→MP (sys P) Q false d ai w' g'):MP (sys P) Q false d γ w g:=by
 refine .vm (vS hq).1 fun γ1 w1 t j r hJ hd=>?_;obtain⟨m1,e1⟩:=hm.rely hb r;obtain⟨a1,a2⟩:=Xz (o:=o) (fn:=g.frame.fn) (pos:=g.frame.place) hJ m1 (Nat.lt_of_lt_of_le hb r.size);refine⟨_,_,_,γ1,false,hq,fun a ha=>?_,fun q hq=>(by cases hq),a1,a2,K γ1 w1 r⟩
 have:a=⟨b,o,none⟩:=by simpa using ha
 subst this;have c1:w1.cell? ⟨b,o,none⟩=w.cell? ⟨b,o,none⟩:=cell_of e1
 have c2:w1.frozen? ⟨b,o,none⟩=w.frozen? ⟨b,o,none⟩:=by unfold World.frozen?;rw[show w1.heap[(⟨b,o,none⟩:Addr).block]?=w.heap[(⟨b,o,none⟩:Addr).block]? from e1]
 rw[c1,c2];exact hc
theorem MP.look (hq:iB P v g=some (g',#[dT ⟨b,o,none⟩ false],[⟨b,o,none⟩]))(hb:b<w.heap.size)(hm:sO γ b)(hc:w.cell? ⟨b,o,none⟩=some v)
  (K:∀ai w',RM γ w ai w'→MP (sys P) Q false d ai w' g'):MP (sys P) Q false d γ w g:=by
 obtain⟨s1,s2⟩:=Hx hq;refine .go s1 fun γ1 w1 t j hR hJ hd=>?_;have r:=jP hR;obtain⟨m1,e1⟩:=hm.rely hb r;obtain⟨a1,a2⟩:=Xz (o:=o) (fn:=g.frame.fn) (pos:=g.frame.place) hJ m1 (Nat.lt_of_lt_of_le hb r.size);refine⟨⟨g',w1,_,γ1⟩,false,⟨s2 true w1 fun a ha=>?_,a1,a2⟩,K γ1 w1 r⟩
 have:a=⟨b,o,none⟩:=by simpa using ha
 subst this;have c1:w1.cell? ⟨b,o,none⟩=w.cell? ⟨b,o,none⟩:=cell_of e1
 rw[c1];exact hc
theorem jo (hn:γ.ph=none)(r:RM γ w ai w'):ai=γ∧w'.heap=w.heap∧bG w w':=⟨(r.none hn).1,(r.none hn).2,r.same⟩
theorem bG.trans {a b c:World}(h:bG a b)(g:bG b c):bG a c:=⟨g.1.trans h.1,g.2.1.trans h.2.1,g.2.2.trans h.2.2⟩
theorem bY {n:Nat}(hm:mute P (n+1) g=true)(hn:γ.ph=none)(h:∀w',w'.heap=w.heap→bG w w'→MP (sys P) Q false d γ w' (aR P (n+1) g)):MP (sys P) Q false d γ w g:=
 mS hm fun γ1 w1 r=>by
  obtain⟨rfl,e,s⟩:=jo hn r;exact h w1 e s
theorem MP.xR {r:Nat}{ob:Obj}(hq:dB P r g=some (g',#[],ob))(hn:γ.ph=none)(hr:w.heap.size=r)(h:∀w',w'.heap=w.heap.push ob→bG w w'→MP (sys P) Q false d γ w' g'):MP (sys P) Q false d γ w g:=
 .alloc (jD hq).1 fun γ1 w1 t j r1 hJ=>by
  obtain⟨rfl,e,s⟩:=jo hn r1;refine⟨g',ob,by rw[e,hr];exact hq,h _ (by show w1.heap.push ob=_;rw[e]) s⟩
end
end Go.Proofs.YtabjbdnokpjipaaGreat.Sr
namespace Go.Proofs.YtabjbdnokpjipaaGreat.Sr
open Go Go.Conc Go.ConcN
section
variable {Q:Gh→World→Trace→Nat→Outcome→World→Prop}
structure iZ (ga:Addr) (gl gc:Nat) (ms:Int) (N n:Nat) (p:Ph) (jh:Gh) (w0:World) (γ:Gh) (w:World):Prop where
 same:bG w0 w
 size:N+6≤w.heap.size
 sh:∀b,γ.sh b↔jh.sh b∨b=N+5
 ph:γ.ph=some p
 ow:∀k b,b<N+6→¬γ.ow k b
 old:∀b,b<N→¬jh.sh b→w.heap[b]?=w0.heap[b]?
 b0:w.heap[N]?=some (.cells #[.slice (some ga) gl gc] 26)
 b1:w.heap[N+1]?=some (.cells #[.int .i64 ms] 3)
 b2:w.heap[N+2]?=some (.cells #[Lv N] 168)
 b4:w.heap[N+4]?=some (.cells #[.slice (some ⟨N+3,0,none⟩) n n] 142)
variable {ga:Addr}{gl gc sb so sc:Nat}{ms:Int}{N n:Nat}{c:Frame}{cs:List Frame}{p:Ph}{jh γ ai:Gh}{w0 w w':World}
theorem iZ.mv (h:iZ ga gl gc ms N n p jh w0 γ w)(hA:p.A=N+3)(h0:∀b,jh.sh b→b<N)(r:Mv γ w ai w'):iZ ga gl gc ms N n p jh w0 ai w':=by
 obtain⟨r1,r2,r3,r4⟩:=r.gh;have hs:=h.size;have key:∀b,b<N+5→¬jh.sh b→b≠N+3→w'.heap[b]?=w.heap[b]?:=fun b hb hn cf=>
  r.heap b (by omega) (fun k=>h.ow k b (by omega)) (fun e=>((h.sh b).1 e).elim hn fun e=>by omega) fun q hq=>by
   rw[h.ph]at hq;cases hq;rw[hA];exact cf
 have n0:∀b,N≤b→¬jh.sh b:=fun b hb e=>by have:=h0 b e;omega
 exact⟨h.same.trans r.same,Nat.le_trans hs r.size,by rw[r1];exact h.sh,r2.trans h.ph,fun k b hb e=>h.ow k b hb ((r.ow k b (by omega)).1 e),fun b hb hn=>(key b (by omega) hn (by omega)).trans (h.old b hb hn),
  (key N (by omega) (n0 _ (by omega)) (by omega)).trans h.b0,(key (N+1) (by omega) (n0 _ (by omega)) (by omega)).trans h.b1,(key (N+2) (by omega) (n0 _ (by omega)) (by omega)).trans h.b2,(key (N+4) (by omega) (n0 _ (by omega)) (by omega)).trans h.b4⟩
theorem iZ.own (h:iZ ga gl gc ms N n p jh w0 γ w)(hs:w.heap.size≤w'.heap.size)(hh:∀b,b<N+6→w'.heap[b]?=w.heap[b]?)(ho:bG w w'):iZ ga gl gc ms N n p jh w0 γ w':=
 ⟨h.same.trans ho,Nat.le_trans h.size hs,h.sh,h.ph,h.ow,fun b hb hn=>(hh b (by omega)).trans (h.old b hb hn),(hh _ (by omega)).trans h.b0,(hh _ (by omega)).trans h.b1,(hh _ (by omega)).trans h.b2,(hh _ (by omega)).trans h.b4⟩
theorem jE {w:World}{b:Nat}{v:Value}{t:TypeId}(h:w.heap[b]?=some (.cells #[v] t)):w.cell? ⟨b,0,none⟩=some v∧w.frozen? ⟨b,0,none⟩=false:=by
 unfold World.cell? World.frozen?;simp[h]
theorem Qd {i g:Nat}{gi:Int}{x:Nat→Value}(hA:p.A=N+3)(hW:p.wg=N+5)(J0:p.eW=181)(hn:p.n=n)(h0:∀b,jh.sh b→b<N)(h5:n≤5)(hi:i<n)
  (hM:iZ ga gl gc ms N n p jh w0 γ w) (hO:jK γ p 0 (p.j0+i)) (GH:sb<N) (nM:¬jh.sh sb) (bT:w0.cell? ⟨sb,so+i,none⟩=some (.int .i64 gi))
  (Be:∀γ w gb ib,sN (p.j0+i+1) p (N+2) gb (N+4) ib (Lv N) (.int .i64 gi) (.slice (some ⟨N+3,0,none⟩) n n) (.int .i64 i) γ w→bG w0 w→(∀b,b<N→¬jh.sh b→γ.ro (p.j0+i+1) b∧w.heap[b]?=w0.heap[b]?)→
   γ.ro (p.j0+i+1) N∧γ.ro (p.j0+i+1) (N+1)∧w.heap[N]?=some (.cells #[.slice (some ga) gl gc] 26)∧w.heap[N+1]?=some (.cells #[.int .i64 ms] 3)→WP (sys Tryz.prog) (p.j0+i+1) 0 γ w (OE Tryz.prog (N+5) (N+2) gb (N+4) ib))
  (K:∀ai w' x',iZ ga gl gc ms N n p jh w0 ai w'→jK ai p 0 (p.j0+(i+1))→MP (sys Tryz.prog) Q false 0 ai w' (dv Tryz.prog ga gl gc sb so sc ms N n c cs ((i+1:Nat):Int) x' (dz Tryz.prog))):
  MP (sys Tryz.prog) Q false 0 γ w (dv Tryz.prog ga gl gc sb so sc ms N n c cs (i:Nat) x (dz Tryz.prog)):=by
 refine mS (n:=12) (Xx ga gl gc sb so sc ms N n c cs x i hi h5) fun γ1 w1 r1=>?_;have M1:=hM.mv hA h0 (Mv.of r1);have O1:=hO.rely r1;have s1:=M1.size;have mine:∀{γ w} (h:iZ ga gl gc ms N n p jh w0 γ w) b,b<N+5→b≠N+3→¬jh.sh b→sO γ b:=fun h b hb cf Jn=>⟨fun e=>((h.sh b).1 e).elim Jn fun e=>by omega,fun k=>h.ow k b (by omega),fun q hq=>by rw[h.ph]at hq;cases hq;rw[hA];exact cf⟩
 refine MP.look (Xy ga gl gc sb so sc ms N n c cs x i hi h5 gi) (by omega) (mine M1 sb (by omega) (by omega) nM) ?_ fun dM w2 r2=>?_
 ·have:w1.cell? ⟨sb,so+i,none⟩=w0.cell? ⟨sb,so+i,none⟩:=cell_of (M1.old sb GH nM)
  rw[this];exact bT
 have M2:=M1.mv hA h0 (Mv.of r2);have O2:=O1.rely r2;refine MP.alloc (jD (LV ga gl gc sb so sc ms N n c cs (i:Nat) _ 0)).1 fun nO w3 t3 j3 r3 J3=>?_;have M3:=M2.mv hA h0 (Mv.of r3);have O3:=O2.rely r3;refine⟨_,_,LV ga gl gc sb so sc ms N n c cs (i:Nat) _ w3.heap.size,?_⟩;have sz3:=M3.size;generalize tJ:w3.heap.size=gJ;have M3':iZ ga gl gc ms N n p jh w0 nO {w3 with heap:=w3.heap.push (.cells #[.int .i64 0] 3)}:=M3.own (by simp) (fun b hb=>by
  show(w3.heap.push _)[b]?=_
  rw[Array.getElem?_push,if_neg (by omega)]) ⟨rfl,rfl,rfl⟩
 have m3:sO nO gJ:=⟨fun e=>by have:=J3.dL _ e;omega,fun k e=>by have:=J3.ox _ _ e;omega,fun q hq=>by rw[M3.ph]at hq;cases hq;rw[hA];omega⟩
 have n3:∀k,¬nO.ro k gJ:=fun k e=>by have:=J3.mO _ _ e;omega
 have c3:({w3 with heap:=w3.heap.push (.cells #[.int .i64 0] 3)}:World).heap[gJ]?=some (.cells #[.int .i64 0] 3):=by
  show(w3.heap.push _)[gJ]?=_
  rw[←tJ];simp
 have z3:gJ<({w3 with heap:=w3.heap.push (.cells #[.int .i64 0] 3)}:World).heap.size:=by
  show gJ<(w3.heap.push _).size
  simp;omega
 generalize({w3 with heap:=w3.heap.push (.cells #[.int .i64 0] 3)}:World)=w3' at M3' c3 z3
 refine MP.alloc (jD (LW ga gl gc sb so sc ms N n c cs (i:Nat) _ gJ 0)).1 fun hY w4 t4 j4 r4 J4=>?_;have M4:=M3'.mv hA h0 (Mv.of r4);have O4:=O3.rely (w:=w3') r4;refine⟨_,_,LW ga gl gc sb so sc ms N n c cs (i:Nat) _ gJ w4.heap.size,?_⟩;obtain⟨m4,e4⟩:=m3.rely z3 r4;have n4:=rh n3 r4;have sz4:=M4.size;have z4:gJ<w4.heap.size:=Nat.lt_of_lt_of_le z3 r4.size
 have gr1:N+6≤gJ:=by omega
 generalize Cp:w4.heap.size=ji;have pu:∀b,b<ji→(w4.heap.push (.cells #[.int .i64 0] 3))[b]?=w4.heap[b]?:=fun b hb=>by rw[Array.getElem?_push,if_neg (by omega)]
 have M4':iZ ga gl gc ms N n p jh w0 hY {w4 with heap:=w4.heap.push (.cells #[.int .i64 0] 3)}:=M4.own (by simp) (fun b hb=>pu b (by omega)) ⟨rfl,rfl,rfl⟩
 have m4':sO hY ji:=⟨fun e=>by have:=J4.dL _ e;omega,fun k e=>by have:=J4.ox _ _ e;omega,fun q hq=>by rw[M4.ph]at hq;cases hq;rw[hA];omega⟩
 have n4':∀k,¬hY.ro k ji:=fun k e=>by have:=J4.mO _ _ e;omega
 have c4:({w4 with heap:=w4.heap.push (.cells #[.int .i64 0] 3)}:World).heap[gJ]?=some (.cells #[.int .i64 0] 3):=(pu gJ (by omega)).trans (e4.trans c3)
 have c4':({w4 with heap:=w4.heap.push (.cells #[.int .i64 0] 3)}:World).heap[ji]?=some (.cells #[.int .i64 0] 3):=by
  show(w4.heap.push _)[ji]?=_
  rw[←Cp];simp
 have z4':ji<({w4 with heap:=w4.heap.push (.cells #[.int .i64 0] 3)}:World).heap.size:=by
  show ji<(w4.heap.push _).size
  simp;omega
 generalize({w4 with heap:=w4.heap.push (.cells #[.int .i64 0] 3)}:World)=w4' at M4' c4 c4' z4'
 have o1:=jE c4;refine MP.put (Xo ga gl gc sb so sc ms N n c cs (i:Nat) gJ ji x ⟨sb,so+i,none⟩ gi) (by omega) m4 n4 ⟨by rw[o1.1];rfl,o1.2⟩ fun zh w5 r5=>?_
 obtain⟨m5,e5⟩:=m4.rely (show gJ<w4'.heap.size by omega) r5
 obtain⟨m5',e5'⟩:=m4'.rely z4' r5;have n5:=rh n4 r5;have n5':=rh n4' r5;have M5:=(M4'.mv hA h0 (Mv.of r5)).own (w':=w5.setCell ⟨gJ,0,none⟩ (.int .i64 i)) (Nat.le_of_eq cA.symm) (fun b hb=>kr b (by omega)) ⟨rfl,rfl,rfl⟩
 have O5:=O4.rely (w:=w4') r5;have z5':ji<(w5.setCell ⟨gJ,0,none⟩ (.int .i64 i)).heap.size:=by rw[cA];exact Nat.lt_of_lt_of_le z4' r5.size
 have c5':(w5.setCell ⟨gJ,0,none⟩ (.int .i64 i)).heap[ji]?=some (.cells #[.int .i64 0] 3):=(kr ji (by omega)).trans (e5'.trans c4')
 have c5:(w5.setCell ⟨gJ,0,none⟩ (.int .i64 i)).heap[gJ]?=some (.cells #[.int .i64 i] 3):=by
  rw[Eg,e5,c4];simp
 generalize w5.setCell ⟨gJ,0,none⟩ (.int .i64 i)=w5' at M5 c5 c5' z5';have o2:=jE c5';refine MP.put (Xp ga gl gc sb so sc ms N n c cs (i:Nat) gJ ji x ⟨sb,so+i,none⟩ gi) z5' m5' n5' ⟨by rw[o2.1];rfl,o2.2⟩ fun xG w6 r6=>?_
 obtain⟨m6,e6⟩:=m5.rely (show gJ<w5'.heap.size by omega) r6
 obtain⟨m6',e6'⟩:=m5'.rely z5' r6;have M6:=(M5.mv hA h0 (Mv.of r6)).own (w':=w6.setCell ⟨ji,0,none⟩ (.int .i64 gi)) (Nat.le_of_eq cA.symm) (fun b hb=>kr b (by omega)) ⟨rfl,rfl,rfl⟩
 have O6:=O5.rely (w:=w5') r6;have z6':ji<(w6.setCell ⟨ji,0,none⟩ (.int .i64 gi)).heap.size:=by rw[cA];exact Nat.lt_of_lt_of_le z5' r6.size
 have c6:(w6.setCell ⟨ji,0,none⟩ (.int .i64 gi)).heap[gJ]?=some (.cells #[.int .i64 i] 3):=(kr gJ (by omega)).trans (e6.trans c5)
 have c6':(w6.setCell ⟨ji,0,none⟩ (.int .i64 gi)).heap[ji]?=some (.cells #[.int .i64 gi] 3):=by
  rw[Eg,e6',c5'];simp
 generalize w6.setCell ⟨ji,0,none⟩ (.int .i64 gi)=XA at M6 c6 c6' z6';refine mS (n:=3) (Ui ga gl gc sb so sc ms N n c cs (i:Nat) gJ ji x ⟨sb,so+i,none⟩ gi) fun Em w7 r7=>?_;rw[Xq,←hW];refine Uc _ _ J0 (O6.rely (w:=XA) r7) (by omega) fun iz w8 v8 O8=>?_
 rw[show kM (laF Tryz.prog ga gl gc sb so sc ms N n c cs (i:Nat) (xl x (i:Nat) ⟨sb,so+i,none⟩ gi) gJ ji) (Bd Tryz.prog ga gl gc sb so sc ms N n c cs)=lr0 Tryz.prog ga gl gc sb so sc ms N n c cs (i:Nat) (xl x (i:Nat) ⟨sb,so+i,none⟩ gi) gJ ji from rfl]
 have mv:Mv xG XA iz w8:=(Mv.of r7).trans v8
 refine mS (n:=2) (Uj ga gl gc sb so sc ms N n c cs (i:Nat) gJ ji x ⟨sb,so+i,none⟩ gi) fun WW w9 r9=>?_;rw[show aR Tryz.prog (2+1) (lr0 Tryz.prog ga gl gc sb so sc ms N n c cs (i:Nat) (xl x (i:Nat) ⟨sb,so+i,none⟩ gi) gJ ji)=lr1 Tryz.prog ga gl gc sb so sc ms N n c cs (i:Nat) (xl x (i:Nat) ⟨sb,so+i,none⟩ gi) gJ ji from rfl]
 have mv9:=mv.trans (Mv.of r9);have O9:=O8.rely r9;obtain⟨p1,p2⟩:=Hw (aat ga gl gc sb so sc ms N n c cs (i:Nat) gJ ji x ⟨sb,so+i,none⟩ gi);have l2:=Ur ga gl gc sb so sc ms N n c cs gJ ji i (by omega) x ⟨sb,so+i,none⟩ gi
 obtain⟨x',hx⟩:=Us ga gl gc sb so sc ms N n c cs gJ ji i (by omega) x ⟨sb,so+i,none⟩ gi
 generalize hgW:OE Tryz.prog (N+5) (N+2) ji (N+4) gJ=gW at p2;generalize rf Tryz.prog ga gl gc sb so sc ms N n c cs (i:Nat) (xl x (i:Nat) ⟨sb,so+i,none⟩ gi) gJ ji=gQ at p2 l2 hx;generalize lr1 Tryz.prog ga gl gc sb so sc ms N n c cs (i:Nat) (xl x (i:Nat) ⟨sb,so+i,none⟩ gi) gJ ji=gP at p1 p2⊢;refine .mk p1 nofun nofun fun xS wa ta ja ra Ja da _=>?_;have XB:=mv9.trans (Mv.of (jP ra));have Oa:=O9.rely (jP ra);have Ma:=M6.mv hA h0 XB;have sa:=Ma.size;have ej:=Ja.j;have ejj:=Oa.j;have hja:ja=p.j0+i:=by omega
 obtain⟨q1,q2⟩:=WI (x:={g:=0,fn:=gP.frame.fn,pos:=gP.frame.place,act:= .go (ja+1)})
  (y:={g:=ja+1,fn:=gW.frame.fn,pos:=gP.frame.place,act:= .start})
  Ja Oa.ph Oa.wm Oa.extra da ⟨rfl,rfl⟩ ⟨rfl,rfl⟩
 have mm:∀b,b<XA.heap.size→(∀k,¬xG.ow k b)→¬xG.sh b→b≠p.A→wa.heap[b]?=XA.heap[b]?:=fun b hb h1 h2 h3=>XB.heap b hb h1 h2 fun q hq=>by
  rw[M6.ph]at hq;cases hq;exact h3
 have ca:wa.heap[gJ]?=some (.cells #[.int .i64 i] 3):=(mm gJ (by omega) m6.2.1 m6.1 (by rw[hA];omega)).trans c6
 have ca':wa.heap[ji]?=some (.cells #[.int .i64 gi] 3):=(mm ji z6' m6'.2.1 m6'.1 (by rw[hA];omega)).trans c6'
 have sz6:=XB.size;have roS:∀b,b<wa.heap.size→(∀k,¬xS.ow k b)→¬xS.sh b→b≠p.A→(xS.spawn p wa.heap.size).ro (p.j0+i+1) b:=fun b h1 h2 h3 h4=> .inl ⟨by omega,h1,h2,h3,h4⟩
 have owa:∀b,b<XA.heap.size→(∀k,¬xG.ow k b)→∀k,¬xS.ow k b:=fun b hb h k e=>h k ((XB.ow k b hb).1 e)
 have sha:∀b,¬xG.sh b→¬xS.sh b:=fun b h e=>h (XB.gh.1▸e)
 have XC:∀b,b<N+5→b≠N+3→¬jh.sh b→(xS.spawn p wa.heap.size).ro (p.j0+i+1) b:=fun b h1 h2 h3=>
  roS b (by omega) (fun k=>Ma.ow k b (by omega)) (fun e=>((Ma.sh b).1 e).elim h3 fun e=>by omega) (by rw[hA];exact h2)
 have n0:∀b,N≤b→¬jh.sh b:=fun b hb e=>by have:=h0 b e;omega
 have stk:(xS.spawn p wa.heap.size).st (p.j0+i+1)= .busy:=if_pos (by omega)
 refine⟨.spawn ⟨⟨gQ,wa,#[],xS.spawn p wa.heap.size⟩,gW⟩ false,⟨⟨p2 true wa,?_,fun k' h1 h2=>q2 k' h1 h2⟩,?_⟩,fun y b' e=>(by cases e),fun y b' e=>?_⟩
 ·rw[G_]
  exact q1
 ·show WP (sys Tryz.prog) (ja+1) 0 (xS.spawn p wa.heap.size) wa gW
  rw[hja,←hgW];refine Be _ _ _ _ ⟨Ma.ph,stk,⟨XC _ (by omega) (by omega) (n0 _ (by omega)),roS ji (by omega) (owa ji z6' m6'.2.1) (sha ji m6'.1) (by rw[hA];omega),XC _ (by omega) (by omega) (n0 _ (by omega)),roS gJ (by omega) (owa gJ (by omega) m6.2.1) (sha gJ m6.1) (by rw[hA];omega)⟩,
   jE Ma.b2,jE ca',jE Ma.b4,jE ca⟩ Ma.same (fun b hb Jn=>⟨XC b (by omega) (by omega) Jn,Ma.old b hb Jn⟩) ⟨XC _ (by omega) (by omega) (n0 _ (by omega)),XC _ (by omega) (by omega) (n0 _ (by omega)),Ma.b0,Ma.b1⟩
 ·injection e with e1 e2
  subst e1 e2;show MP (sys Tryz.prog) Q false 0 (xS.spawn p wa.heap.size) wa gQ
  have Mb:iZ ga gl gc ms N n p jh w0 (xS.spawn p wa.heap.size) wa:=⟨Ma.same,Ma.size,Ma.sh,Ma.ph,Ma.ow,Ma.old,Ma.b0,Ma.b1,Ma.b2,Ma.b4⟩
  have Ob:jK (xS.spawn p wa.heap.size) p 0 (p.j0+(i+1)):=⟨Oa.ph,Oa.wm,rfl,by show xS.j+1=_;omega⟩
  refine mS (n:=6) l2 fun γc wc rc=>?_;rw[hx];exact K γc wc x' (Mb.mv hA h0 (Mv.of rc)) (Ob.rely rc)
def Ie (ga:Addr)(gl gc:Nat)(ms:Int)(N n:Nat)(p:Ph)(gs:Nat→Int)(jh:Gh)(w0:World):Prop:=∀i,i<n→∀γ w gb ib,sN (p.j0+i+1) p (N+2) gb (N+4) ib (Lv N) (.int .i64 (gs i)) (.slice (some ⟨N+3,0,none⟩) n n) (.int .i64 i) γ w→bG w0 w→
 (∀b,b<N→¬jh.sh b→γ.ro (p.j0+i+1) b∧w.heap[b]?=w0.heap[b]?)→γ.ro (p.j0+i+1) N∧γ.ro (p.j0+i+1) (N+1)∧w.heap[N]?=some (.cells #[.slice (some ga) gl gc] 26)∧w.heap[N+1]?=some (.cells #[.int .i64 ms] 3)→
 WP (sys Tryz.prog) (p.j0+i+1) 0 γ w (OE Tryz.prog (N+5) (N+2) gb (N+4) ib)
structure Rx (N n:Nat) (a:Nat→fZ) (jh:Gh) (w0:World) (γ:Gh) (w:World):Prop where
 ph:γ.ph=none
 same:bG w0 w
 size:N+6≤w.heap.size
 old:∀b,b<N→¬jh.sh b→w.heap[b]?=w0.heap[b]?
 sh:∀b,γ.sh b↔jh.sh b∨b=N+5
 o8:∃cs,w.heap[N+3]?=some (.cells cs 146)∧cs.size=5*n∧∀i c,i<n→c<5→cs[5*i+c]?=some ((a i).cell c)
theorem Ut {a:Nat→fZ}{gs:Nat→Int}(hA:p.A=N+3)(hW:p.wg=N+5)(J0:p.eW=181)(heA:p.eA=146)(hn:p.n=n)(qk:∀i c,p.o8 i c=(a i).cell c)(h0:∀b,jh.sh b→b<N)(h1:1≤n)(h5:n≤5)
  (GH:sb<N) (nM:¬jh.sh sb) (bT:∀i,i<n→w0.cell? ⟨sb,so+i,none⟩=some (.int .i64 (gs i))) (Be:Ie ga gl gc ms N n p gs jh w0)
  (K:∀ai w',Rx N n a jh w0 ai w'→MP (sys Tryz.prog) Q false 0 ai w' {frame:=c.finish (.slice (some ⟨N+3,0,none⟩) n n),callers:=cs,status:= .running,dying:=none}):
  ∀(m i:Nat) (x:Nat→Value) (γ:Gh) (w:World),i+m=n→iZ ga gl gc ms N n p jh w0 γ w→jK γ p 0 (p.j0+i)→MP (sys Tryz.prog) Q false 0 γ w (dv Tryz.prog ga gl gc sb so sc ms N n c cs (i:Nat) x (dz Tryz.prog)):=by
 intro m;induction m with
 |zero=>
  intro i x γ w him hM hO;obtain rfl:i=n:=by omega
  refine mS (n:=9) (Xv ga gl gc sb so sc ms N i c cs x h1 h5) fun γ1 w1 r1=>?_;rw[Un ga gl gc sb so sc ms N i c cs x h1 h5,←hW];have M1:=hM.mv hA h0 (Mv.of r1);refine PI _ _ J0 (hO.rely r1) fun dM w2 nO w3 v2 tU r3=>?_;rw[show kM (Lw Tryz.prog ga gl gc sb so sc ms N i c cs x) (Bd Tryz.prog ga gl gc sb so sc ms N i c cs)=HD Tryz.prog ga gl gc sb so sc ms N i c cs x from rfl]
  have M2:=M1.mv hA h0 v2;have s2:=M2.size;obtain⟨rfl,e3,s3⟩:=jo (γ:=dM.idle) rfl r3;refine bY (n:=2) (Uo ga gl gc sb so sc ms N i c cs x h1 h5) rfl fun w4 e4 s4=>?_;have Wd:w4.heap[N+4]?=some (.cells #[.slice (some ⟨N+3,0,none⟩) i i] 142):=by rw[e4,e3];exact M2.b4
  have n4:¬dM.idle.sh (N+4):=fun e=>by
   have e':dM.sh (N+4):=e
   rcases(M2.sh _).1 e' with e'|e'
   ·have:=h0 _ e';omega
   ·omega
  rw[show aR Tryz.prog (2+1) (HD Tryz.prog ga gl gc sb so sc ms N i c cs x)=nk Tryz.prog ga gl gc sb so sc ms N i c cs x from rfl]
  refine MP.get (Up ga gl gc sb so sc ms N i c cs x h1 h5 (.slice (some ⟨N+3,0,none⟩) i i)) (by rw[e4,e3];omega) ⟨n4,fun _ e=>e,nofun⟩ (jE Wd) fun zh w5 r5=>?_
  obtain⟨rfl,e5,s5⟩:=jo (γ:=dM.idle) rfl r5;refine bY (n:=7) (Uq ga gl gc sb so sc ms N i c cs x h1 h5 (N+3) i i) rfl fun w6 e6 s6=>?_;rw[Xw ga gl gc sb so sc ms N i c cs x h1 h5 (N+3) i i];have eh:w6.heap=w2.heap:=by rw[e6,e5,e4,e3]
  obtain⟨cells,c1,c2,c3⟩:=tU;refine K _ _ ⟨rfl,(((M2.same.trans s3).trans s4).trans s5).trans s6,by rw[eh];exact s2,fun b hb wE=>by rw[eh];exact M2.old b hb wE,M2.sh,cells,by rw[eh,←hA,←heA];exact c1,by rw[c2,hn],fun i' c' fB cI=>?_⟩
  rw[c3 i' c' (by omega) cI,qk]
 |succ m ih=>
  intro i x γ w him hM hO;have hi:i<n:=by omega
  exact Qd (g:=0) hA hW J0 hn h0 h5 hi hM hO GH nM (bT i hi) (Be i hi) fun ai w' x' M' O'=>ih (i+1) x' ai w' (by omega) M' O'
theorem XD {a:Nat→fZ}{gs:Nat→Int}(kt:γ.ph=none)(hN:w.heap.size=N)(h1:1≤n)(h5:n≤5)(GH:sb<N)(nM:¬γ.sh sb)(bT:∀i,i<n→w.cell? ⟨sb,so+i,none⟩=some (.int .i64 (gs i)))
  (Be:Ie ga gl gc ms N n {wg:=N+5,A:=N+3,n,j0:=γ.j,o8:=fun i c=>(a i).cell c,eW:=181,eA:=146} gs γ w)
  (K:∀ai w',Rx N n a γ w ai w'→MP (sys Tryz.prog) Q false 0 ai w' {frame:=c.finish (.slice (some ⟨N+3,0,none⟩) n n),callers:=cs,status:= .running,dying:=none}):
  MP (sys Tryz.prog) Q false 0 γ w (as0 Tryz.prog ga gl gc sb so sc ms N n c cs):=by
 refine bY (n:=1) (Uf ga gl gc sb so sc ms N n c cs) kt fun w1 e1 s1=>?_;rw[show aR Tryz.prog (1+1) (as0 Tryz.prog ga gl gc sb so sc ms N n c cs)=PA Tryz.prog ga gl gc sb so sc ms N n c cs from rfl]
 refine MP.alloc (jD (Lx ga gl gc sb so sc ms N n c cs)).1 fun dM w2 t2 j2 r2 J2=>?_;obtain⟨rfl,e2,s2⟩:=jo kt r2;have hN2:w2.heap.size=N:=by rw[e2,e1,hN]
 have h0:∀b,dM.sh b→b<N:=fun b hb=>by have:=J2.dL b hb;omega
 have hj:=J2.j;refine⟨_,_,by rw[hN2];exact Lx ga gl gc sb so sc ms N n c cs,?_⟩
 generalize cU:({w2 with heap:=w2.heap.push (.cells #[.slice (some ga) gl gc] 26)}:World)=Ua
 have E2:Ua.heap=w.heap.push (.cells #[.slice (some ga) gl gc] 26):=by rw[←cU];show w2.heap.push _=_;rw[e2,e1]
 have S2:bG w Ua:=by rw[←cU];exact(s1.trans s2)
 clear cU J2;refine MP.xR (Xm ga gl gc sb so sc ms N n c cs) kt (by rw[E2];simp[hN]) fun w3 E3 s3=>?_
 have S3:=S2.trans s3;refine bY (n:=8) (Ug ga gl gc sb so sc ms N n c cs) kt fun w3' e3 s3'=>?_;rw[show aR Tryz.prog (8+1) (nx Tryz.prog (N+1) (Lu Tryz.prog ga gl gc sb so sc ms N n c cs))=Ue Tryz.prog ga gl gc sb so sc ms N n c cs from rfl]
 rw[E3,E2]at e3;refine MP.xR (Xn ga gl gc sb so sc ms N n c cs) kt (by rw[e3];simp[hN]) fun w4 E4 s4=>?_
 refine bY (n:=5) (Uh ga gl gc sb so sc ms N n c cs) kt fun w4' e4 s4'=>?_;rw[show aR Tryz.prog (5+1) (nx Tryz.prog (N+2) (Ue Tryz.prog ga gl gc sb so sc ms N n c cs))=Hy Tryz.prog ga gl gc sb so sc ms N n c cs from rfl]
 rw[E4,e3]at e4;obtain⟨z,hz,q4⟩:=Xr ga gl gc sb so sc ms N n c cs h1 h5;refine MP.xR q4 kt (by rw[e4];simp[hN]) fun w5 E5 s5=>?_
 rw[e4]at E5;refine MP.xR (Xs ga gl gc sb so sc ms N n c cs h1 h5) kt (by rw[E5];simp[hN]) fun w6 E6 s6=>?_
 rw[E5]at E6;have S6:bG w w6:=(((((S3.trans s3').trans s4).trans s4').trans s5).trans s6)
 have sz6:w6.heap.size=N+5:=by rw[E6];simp[hN]
 have hb6:w6.heap[N+4]?=some (.cells #[.slice none 0 0] 142):=by rw[E6];(simp only[Array.getElem?_push,Array.size_push,hN];repeat (first|rw[if_pos trivial]|rw[if_pos (by omega)]|rw[if_neg (by omega)]))
 have o6:=jE hb6;have n6:∀b,N≤b→¬dM.sh b:=fun b hb e=>by have:=h0 b e;omega
 have q6:=Xt ga gl gc sb so sc ms N n c cs h1 h5;have u6:=Uk ga gl gc sb so sc ms N n c cs h1 h5;have a6:aR Tryz.prog (2+1) (sx Tryz.prog (lH Tryz.prog ga gl gc sb so sc ms N n c cs))=oB Tryz.prog ga gl gc sb so sc ms N n c cs:=rfl
 generalize sx Tryz.prog (lH Tryz.prog ga gl gc sb so sc ms N n c cs)=gX at q6 u6 a6;generalize lH Tryz.prog ga gl gc sb so sc ms N n c cs=gY at q6⊢;obtain⟨v6,y6⟩:=qU q6;refine .go v6 fun Em w7 t7 j7 r7 J7 hd7=>?_;obtain⟨eg7,e7,s7⟩:=jo kt (jP r7);obtain rfl:=eg7.symm
 obtain⟨x1,x2,x3⟩:=J7.none kt;have o7:(w7.cell? ⟨N+4,0,none⟩).isSome=true∧w7.frozen? ⟨N+4,0,none⟩=false:=by
  have:=jE (show w7.heap[N+4]?=_ by rw[e7];exact hb6)
  exact⟨by rw[this.1];rfl,this.2⟩
 have m7:sO dM (N+4):=⟨n6 _ (by omega),fun k=>(x1 k _).1,fun q hq=>by rw[kt]at hq;cases hq⟩
 obtain⟨a1,a2⟩:=ze (w1:=w7.setCell ⟨N+4,0,none⟩ (.slice (some ⟨N+3,0,none⟩) n n)) (fn:=gY.frame.fn) (pos:=gY.frame.place) (es:= #[dT ⟨N+4,0,none⟩ true]) J7 ⟨rfl,rfl,rfl⟩ (Nat.le_of_eq cA.symm) (fun b' _ cT=>kr b' fun e=>by
  subst e;rcases cT with⟨k,hk⟩|hk|⟨p,hp,hk⟩
  ·exact hk.elim (x1 k _).1 (x1 k _).2
  ·exact m7.1 hk
  ·rw[kt]at hp;cases hp) fun e he=>by
   simp at he;subst he
   exact Ic m7 (fun _ k=>(x1 k _).2) (by rw[cA,e7,sz6];omega)
 refine⟨⟨gX,_,_,dM⟩,false,⟨y6 true w7 fun q hq=>by
  have:q=(⟨N+4,0,none⟩,.slice (some ⟨N+3,0,none⟩) n n):=by simpa using hq
  subst this;exact o7,a1,a2⟩,?_⟩
 show MP (sys Tryz.prog) Q false 0 dM (w7.setCell ⟨N+4,0,none⟩ (.slice (some ⟨N+3,0,none⟩) n n)) gX
 have H8:∀b,b≠N+4→(w7.setCell ⟨N+4,0,none⟩ (.slice (some ⟨N+3,0,none⟩) n n)).heap[b]?=w6.heap[b]?:=fun b hb=>by rw[kr b hb,e7]
 have B8:(w7.setCell ⟨N+4,0,none⟩ (.slice (some ⟨N+3,0,none⟩) n n)).heap[N+4]?=some (.cells #[.slice (some ⟨N+3,0,none⟩) n n] 142):=by rw[Eg,e7,hb6];simp
 have S8:bG w (w7.setCell ⟨N+4,0,none⟩ (.slice (some ⟨N+3,0,none⟩) n n)):=S6.trans s7
 have sz8:(w7.setCell ⟨N+4,0,none⟩ (.slice (some ⟨N+3,0,none⟩) n n)).heap.size=N+5:=by rw[cA,e7,sz6]
 generalize w7.setCell ⟨N+4,0,none⟩ (.slice (some ⟨N+3,0,none⟩) n n)=w8 at H8 B8 S8 sz8⊢;clear a1 a2;refine bY (n:=2) u6 kt fun w9 e9 s9=>?_;rw[a6];have q7:=Xu ga gl gc sb so sc ms N n c cs h1 h5;have u7:=Ul ga gl gc sb so sc ms N n c cs h1 h5;have a7:aR Tryz.prog (9+1) (nx Tryz.prog (N+5) (oB Tryz.prog ga gl gc sb so sc ms N n c cs))=Hz Tryz.prog ga gl gc sb so sc ms N n c cs:=rfl
 rw[Um ga gl gc sb so sc ms N n c cs h1 h5]at a7;generalize nx Tryz.prog (N+5) (oB Tryz.prog ga gl gc sb so sc ms N n c cs)=gX at q7 u7 a7;generalize oB Tryz.prog ga gl gc sb so sc ms N n c cs=gY at q7⊢;obtain⟨v7,y7⟩:=jD q7;refine .go v7 fun xS wa ta ja ra Ja hda=>?_;obtain⟨ega,ea,sa⟩:=jo kt (jP ra);obtain rfl:=ega.symm
 have eha:wa.heap=w8.heap:=ea.trans e9
 have sza:wa.heap.size=N+5:=by rw[eha,sz8]
 obtain⟨b1,b2⟩:=aaa (w1:={wa with heap:=wa.heap.push (.cells #[.int .u64 0,.int .u32 0] 181)}) (p:={wg:=N+5,A:=N+3,n,j0:=dM.j,o8:=fun i c=>(a i).cell c,eW:=181,eA:=146}) (cs:=z)
  Ja kt Ja.j sza.symm h5 (by show N+3<wa.heap.size;rw[sza];omega) (n6 (N+3) (by omega)) (by
   show wa.heap[N+3]?=_
   rw[eha,H8 _ (by omega),E6]
   (simp only[Array.getElem?_push,Array.size_push,hN];repeat (first|rw[if_pos trivial]|rw[if_pos (by omega)]|rw[if_neg (by omega)]))) hz ⟨rfl,rfl,rfl⟩ rfl
 refine⟨⟨gX,_,#[],dM.begin _⟩,false,⟨y7 true wa sza,b1.nil,b2⟩,?_⟩;show MP (sys Tryz.prog) Q false 0 (dM.begin {wg:=N+5,A:=N+3,n,j0:=dM.j,o8:=fun i c=>(a i).cell c,eW:=181,eA:=146}) {wa with heap:=wa.heap.push (.cells #[.int .u64 0,.int .u32 0] 181)} gX
 have Hb:∀b,b<N+5→(wa.heap.push (.cells #[.int .u64 0,.int .u32 0] 181))[b]?=w8.heap[b]?:=fun b hb=>by rw[Array.getElem?_push,if_neg (by omega),eha]
 have Hc:∀b,b<N+4→(wa.heap.push (.cells #[.int .u64 0,.int .u32 0] 181))[b]?=w6.heap[b]?:=fun b hb=>(Hb b (by omega)).trans (H8 b (by omega))
 have AM:iZ ga gl gc ms N n {wg:=N+5,A:=N+3,n,j0:=dM.j,o8:=fun i c=>(a i).cell c,eW:=181,eA:=146} dM w (dM.begin {wg:=N+5,A:=N+3,n,j0:=dM.j,o8:=fun i c=>(a i).cell c,eW:=181,eA:=146})
   {wa with heap:=wa.heap.push (.cells #[.int .u64 0,.int .u32 0] 181)}:=by
  refine⟨S8.trans (s9.trans sa),by simp[sza],fun b=> .rfl,rfl,fun k b _=>(x1 k b).1,fun b hb _=>?_,?_,?_,?_,?_⟩
  ·show(wa.heap.push _)[b]?=_
   rw[Hc b (by omega),E6]
   simp only[Array.getElem?_push,Array.size_push,hN];repeat (first|rw[if_pos trivial]|rw[if_pos (by omega)]|rw[if_neg (by omega)])
  ·show(wa.heap.push _)[N]?=_
   rw[Hc N (by omega),E6]
   (simp only[Array.getElem?_push,Array.size_push,hN];repeat (first|rw[if_pos trivial]|rw[if_pos (by omega)]|rw[if_neg (by omega)]))
  ·show(wa.heap.push _)[N+1]?=_
   rw[Hc (N+1) (by omega),E6]
   (simp only[Array.getElem?_push,Array.size_push,hN];repeat (first|rw[if_pos trivial]|rw[if_pos (by omega)]|rw[if_neg (by omega)]))
  ·show(wa.heap.push _)[N+2]?=_
   rw[Hc (N+2) (by omega),E6]
   (simp only[Array.getElem?_push,Array.size_push,hN];repeat (first|rw[if_pos trivial]|rw[if_pos (by omega)]|rw[if_neg (by omega)]))
  ·show(wa.heap.push _)[N+4]?=_
   rw[Hb (N+4) (by omega)]
   exact B8
 have OB:jK (dM.begin {wg:=N+5,A:=N+3,n,j0:=dM.j,o8:=fun i c=>(a i).cell c,eW:=181,eA:=146}) {wg:=N+5,A:=N+3,n,j0:=dM.j,o8:=fun i c=>(a i).cell c,eW:=181,eA:=146} 0 (dM.j+0):=⟨rfl,x3,rfl,rfl⟩
 refine mS (n:=9) u7 fun γb wb rb=>?_;rw[a7];exact Ut rfl rfl rfl rfl rfl (fun _ _=>rfl) h0 h1 h5 GH nM bT Be K n 0 x0 γb wb (Nat.zero_add n) (AM.mv rfl h0 (Mv.of rb)) (OB.rely rb)
end
end Go.Proofs.YtabjbdnokpjipaaGreat.Sr
namespace Go.Proofs.YtabjbdnokpjipaaGreat.Sr
open Go Go.Conc Go.ConcN
def iW:Obj→Obj
 | .cells us e fz=> .cells us e (0,max us.size fz.2)
 |o=>o
def aeO (v:World)(b1 b2:Obj):World:={v with heap:=((v.heap.map iW).push (iW b1)).push (iW b2)}
section
variable {v w:World}{b1 b2:Obj}{m:aJ}
theorem Ig {r:Nat}(h:r<v.heap.size):(aeO v b1 b2).heap[r]?=(v.heap[r]?).map iW:=by
 show(((v.heap.map iW).push (iW b1)).push (iW b2))[r]?=_
 rw[Array.getElem?_push,if_neg (by simp;omega),Array.getElem?_push,if_neg (by simp;omega),Array.getElem?_map]
theorem Qe:(aeO v b1 b2).heap[v.heap.size]?=some (iW b1):=by
 show(((v.heap.map iW).push (iW b1)).push (iW b2))[v.heap.size]?=_
 rw[Array.getElem?_push,if_neg (by simp),Array.getElem?_push,if_pos (by simp)]
theorem Qf:(aeO v b1 b2).heap[v.heap.size+1]?=some (iW b2):=by
 show(((v.heap.map iW).push (iW b1)).push (iW b2))[v.heap.size+1]?=_
 rw[Array.getElem?_push,if_pos (by simp)]
theorem XE {p:Addr}(h:p.block<v.heap.size):(aeO v b1 b2).cell? p=v.cell? p:=by
 unfold World.cell?;rw[Ig h]
 cases v.heap[p.block]? with
 |none=>rfl
 |some o=>cases o<;>rfl
theorem Aj {w:World}{b:Nat}{cs:Array Value}{e:TypeId}{f:Nat×Nat}(h:w.heap[b]?=some (.cells cs e f)):w.cell? ⟨b,0,none⟩=cs[0]?:=by
 unfold World.cell?;simp[h]
theorem CG {w:World}{r:Nat}{o:Obj}(h:w.heap[r]?=some (iW o))(hb:GG o):fc w r:=by
 rcases hb with⟨us,e,fz,rfl⟩|⟨a,l,rfl⟩
 ·exact .inl ⟨us,e,_,h,Nat.le_max_left ..⟩
 ·exact .inr ⟨a,l,h⟩
theorem mH.ab7 {o p:Obj}(h:mH m o p):GG o:=by
 rcases h with⟨us,vs,e,fz,gz,rfl,rfl,_,_⟩|⟨a,b,l,rfl,rfl,_⟩
 ·exact .inl ⟨us,e,fz,rfl⟩
 ·exact .inr ⟨a,l,rfl⟩
theorem mH.fz {o p:Obj}(h:mH m o p):mH m (iW o) p:=by
 rcases h with⟨us,vs,e,fz,gz,rfl,rfl,hf,ha⟩|⟨a,b,l,rfl,rfl,ha⟩
 ·refine .inl ⟨us,vs,e,_,gz,rfl,rfl,fun o h1 h2=>⟨Nat.zero_le _,?_⟩,ha⟩
  have:=(hf o h1 h2).2
  show o<max us.size fz.2
  omega
 ·exact .inr ⟨a,b,l,rfl,rfl,ha⟩
theorem Ih {m:aJ}{r t:Nat}(h:m r=none):aJ.le m (m.put r t):=by
 refine⟨fun q u hq=>?_,rfl⟩
 show(if q=r then some t else m q)=some u
 by_cases e:q=r
 ·subst e;rw[h]at hq;cases hq
 ·rw[if_neg e];exact hq
theorem BH {m:aJ}{r t:Nat}:(m.put r t) r=some t:=by
 show(if r=r then some t else m r)=some t
 simp
theorem lf {m:aJ}{r t q u:Nat}(h:(m.put r t) q=some u):(q=r∧u=t)∨m q=some u:=by
 have h':(if q=r then some t else m q)=some u:=h
 by_cases e:q=r
 ·rw[if_pos e]at h';exact .inl ⟨e,(Option.some.inj h').symm⟩
 ·rw[if_neg e]at h';exact .inr h'
theorem WR.XF (h:WR m v w){r:Nat}(hr:v.heap.size≤r):m r=none:=by
 cases e:m r with
 |none=>rfl
 |some t=>exact absurd (h.lt e).1 (by omega)
end
section
variable {P:Program}{F:Array Func}{spec:FuncId→Bool}{m:aJ}{τ:TypeId}
theorem FR.enter (B:ia τ P F spec m.good){f:FuncId}{us vs:Array Value}(hg:m.good f=true)(hs:spec f=false)(h:AR m us vs):
  FR P spec m (Frame.enter (Program.mk (Program.toTables P) F) f us .normal) (Frame.enter P f vs .normal):=by
 obtain⟨fr,e1,e2,e3⟩:=B.same f hg hs;have en:∀(Q:Program) (xs:Array Value),Q.funcs[f]?=some fr→Frame.enter Q f xs .normal=aW f (xs++Array.replicate (fr.ntmps-xs.size) undef) [.code (fr.body.getD (.refuse "unsupported: a function without a Go body is entered"))] .run:=by
  intro Q xs hq;simp[Frame.enter,hq,aW]
 rw[en _ us e1,en _ vs e2,h.1];refine .mk f [.code (fr.body.getD (.refuse "unsupported: a function without a Go body is entered"))] .run (.no hs hg) (tl:=[]) (ds:=[]) ?_ (fun x hx=>?_) (.inl rfl)
 ·refine⟨by simp[h.1],fun i h1 h2=>?_⟩
  by_cases hi:i<us.size
  ·rw[Array.getElem_append_left hi,Array.getElem_append_left (by rw[←h.1];exact hi)]
   exact h.2 i hi _
  ·rw[Array.getElem_append_right (by omega),Array.getElem_append_right (by rw[←h.1];omega)]
   simp only[Array.getElem_replicate];exact Fj (m:=m) undef rfl
 ·simp only[List.mem_singleton]at hx
  subst hx;show iu P m.good true _=true
  unfold pf at e3
  cases hb:fr.body with
  |none=>rw[hb]at e3;cases e3
  |some c=>rw[hb]at e3;exact e3
end
theorem Ii {us:Array Value}(h:us.size=3):∃a b x,us= #[a,b,x]:=by
 obtain⟨l⟩:=us;match l,h with
 |[a,b,x],_=>exact⟨a,b,x,rfl⟩
theorem aau {spec:FuncId→Bool}{m:aJ}(B:ia nQ Tryz.prog Tw.prog.funcs spec m.good)(EH:po spec){A:Value}{f' f:Frame}{fs' fs:List Frame}{v:World}(he:mA Tryz.prog Tw.prog.funcs spec m f' f)(te:jO Tryz.prog spec m fs' fs)(cf:fs'≠[]):
  ¬Ends (Program.mk (Program.toTables Tryz.prog) Tw.prog.funcs) (a_ (Program.mk (Program.toTables Tryz.prog) Tw.prog.funcs) fun e _=>e= .returned A) f' (fs'++[bH]) v:=by
 intro hE;obtain⟨g,us,vs,e1,h1,h2,_,h3⟩:=re he;subst h1;rcases EH g e1 with this|⟨hA,this⟩
 ·subst this
  obtain⟨a,b,x,rfl⟩:=Ii (h3 3 rfl);obtain⟨v',_,hR⟩:=tS (R:=fun e _=>e= .returned A) (fun _ h=>(by cases h)) (gs:=fs') rfl (oj B te) hE
  cases hR
 ·subst this
  obtain⟨v',_,hR⟩:=wK hA (R:=fun e _=>e= .returned A) (fun _ h=>(by cases h)) h3 (gs:=fs') rfl (oj B te) hE
  cases hR
section
variable {w0 w:World}{jh γ:Gh}{m:aJ}{v:World}{ga XG:Addr}{gl gc:Nat}{ms:Int}{N n:Nat}{p:Ph}{gs:Nat→Int}{a:Nat→fZ}
theorem Ry {m:aJ}{r t:Nat}(h:m r=some t):VR m (ptr r) (ptr t):= .ptr ⟨h,rfl,rfl,rfl⟩
theorem sN.grow {k:Nat}{qb gb ab ib:Nat}{fv gv av iv:Value}{w1:World}{x y:Nat}(h:sN k p qb gb ab ib fv gv av iv γ w)(hh:∀b,γ.ro k b→w1.heap[b]?=w.heap[b]?):sN k p qb gb ab ib fv gv av iv (γ.grow k x y) w1:=by
 obtain⟨o1,o2,o3,o4⟩:=h.ro;have key:∀{b:Nat} {v:Value},γ.ro k b→w.cell? ⟨b,0,none⟩=some v∧w.frozen? ⟨b,0,none⟩=false→w1.cell? ⟨b,0,none⟩=some v∧w1.frozen? ⟨b,0,none⟩=false:=by
  intro b v hb hc;have e:=hh b hb;rw[cell_of e,Cz e];exact hc
 exact⟨h.ph,h.st,h.ro,key o1 h.cq,key o2 h.cg,key o3 h.ca,key o4 h.ci⟩
set_option maxRecDepth 100000 in
theorem XH {good spec:FuncId→Bool}(B:ia nQ Tryz.prog Tw.prog.funcs spec good)(EH:po spec)(XI:spec 139=false)(Mn:good 139=true)(XJ:m.good=good)(hw:WR m (v.on w0.tape w0.drawn) w0)(hN:w0.heap.size=N)(EI:bJ m ga XG)(nM:∀r t,m r=some t→¬jh.sh t)
  (hA:p.A=N+3) (hwg:p.wg=N+5) (hn:p.n=n) (h5:n≤5) (J0:p.eW=181) (qk:∀i c,p.o8 i c=(a i).cell c)
  (ask:∀i,i<n→∀(u:World) (gb mb:Nat),(∀q:Addr,q.block<v.heap.size→u.cell? q=v.cell? q)→u.cell? ⟨gb,0,none⟩=some (.slice (some ga) gl gc)→u.cell? ⟨mb,0,none⟩=some (.int .i64 ms)→
   Calls Tw.prog 139 #[.int .i64 (gs i),ptr gb,ptr mb] u fun e _=>e= .returned (a i).val):Ie XG gl gc ms N n p gs jh w0:=by
 subst XJ;intro i hi γ w gb ib ada iy hold tX;obtain⟨tJ,Cp,nG,n_⟩:=tX;have ek:p.j0+i+1-p.j0-1=i:=by omega
 let B1:Obj:= .cells #[.slice (some ga) gl gc] 26
 let B2:Obj:= .cells #[.int .i64 ms] 3
 let mW:aJ:=(m.put v.heap.size N).put (v.heap.size+1) (N+1)
 have Bf:∀r t,m r=some t→r<v.heap.size∧t<N:=fun r t h=>by
  have:=hw.lt h
  rw[hN]at this;exact this
 have n1:m v.heap.size=none:=by
  cases e:m v.heap.size with
  |none=>rfl
  |some t=>exact absurd (Bf _ _ e).1 (by omega)
 have n2:(m.put v.heap.size N) (v.heap.size+1)=none:=by
  cases e:(m.put v.heap.size N) (v.heap.size+1)with
  |none=>rfl
  |some t=>
   rcases lf e with⟨h1,_⟩|h1
   ·omega
   ·exact absurd (Bf _ _ h1).1 (by omega)
 have Mo:aJ.le m (m.put v.heap.size N):=Ih n1
 have le2:aJ.le (m.put v.heap.size N) mW:=Ih n2
 have le:aJ.le m mW:=⟨fun r t h=>le2.sub r t (Mo.sub r t h),rfl⟩
 have mN:mW v.heap.size=some N:=le2.sub _ _ BH
 have mN1:mW (v.heap.size+1)=some (N+1):=BH
 have split:∀{r t:Nat},mW r=some t→m r=some t∨(r=v.heap.size∧t=N)∨(r=v.heap.size+1∧t=N+1):=fun h=>by
  rcases lf h with h|h
  ·exact .inr (.inr h)
  ·rcases lf h with h|h
   ·exact .inr (.inl h)
   ·exact .inl h
 let F:Gh→World→Prop:=fun γ w=>sN (p.j0+i+1) p (N+2) gb (N+4) ib (Lv N) (.int .i64 (gs i)) (.slice (some ⟨N+3,0,none⟩) n n) (.int .i64 i) γ w∧bG w0 w∧(∀b,b<N→¬jh.sh b→γ.ro (p.j0+i+1) b∧w.heap[b]?=w0.heap[b]?)∧
  γ.ro (p.j0+i+1) N∧γ.ro (p.j0+i+1) (N+1)∧w.heap[N]?=some (.cells #[.slice (some XG) gl gc] 26)∧w.heap[N+1]?=some (.cells #[.int .i64 ms] 3)
 have f0:F γ w:=⟨ada,iy,hold,tJ,Cp,nG,n_⟩
 have fR:∀γ w ai w',F γ w→RR (p.j0+i+1) γ w ai w'→F ai w':=by
  rintro γ w ai w' ⟨b1,b2,b3,b4,b5,b6,b7⟩ r;have XK:=b1.rely (by omega) r
  obtain⟨_,_,r3,_,_,_,r7,_⟩:=(lS (by omega) r).live (qh b1.st (by decide))
  exact⟨XK,b2.trans (lS (by omega) r).same,fun b hb hn=>⟨(r3 _).2 (b3 b hb hn).1,(r7 b (.inr (b3 b hb hn).1)).trans (b3 b hb hn).2⟩,(r3 _).2 b4,(r3 _).2 b5,(r7 _ (.inr b4)).trans b6,(r7 _ (.inr b5)).trans b7⟩
 have fG:∀γ w w1,F γ w→(∀b,γ.ro (p.j0+i+1) b→w1.heap[b]?=w.heap[b]?)→bG w w1→F (γ.grow (p.j0+i+1) w.heap.size w1.heap.size) w1:=by
  rintro γ w w1 ⟨b1,b2,b3,b4,b5,b6,b7⟩ hh hs;exact⟨b1.grow hh,b2.trans hs,fun b hb hn=>⟨(b3 b hb hn).1,(hh b (b3 b hb hn).1).trans (b3 b hb hn).2⟩,b4,b5,(hh _ b4).trans b6,(hh _ b5).trans b7⟩
 have hE:Ends Tw.prog (a_ Tw.prog fun e _=>e= .returned (a i).val) (Frame.enter Tw.prog 139 #[.int .i64 (gs i),ptr v.heap.size,ptr (v.heap.size+1)] .normal) [bH] (aeO v B1 B2):=by
  refine ends_of_calls (fun _ h=>(by cases h)) fun T=>ask i hi ((aeO v B1 B2).on T 0) v.heap.size (v.heap.size+1) (fun q hq=>XE hq) ?_ ?_
  ·exact Aj (Qe (b1:=B1) (b2:=B2))
  ·exact Aj (Qf (b1:=B1) (b2:=B2))
 rw[←hwg];refine J5 F (fv:=Lv N) (gi:=gs i) (a:=a i) rfl J0 hn h5 (by omega) (by omega) (fun c _=>by rw[ek];exact qk i c) (fun γ w h=>by rw[ek,hA];exact h.1) fR (fun x5 x6 l γ1 w1 h1 K=>?_) f0
 obtain⟨b1,b2,b3,b4,b5,b6,b7⟩:=h1;have hWR:WR mW ((aeO v B1 B2).on w1.tape w1.drawn) w1:=by
  refine⟨fun r s t hr hs=>?_,fun r t hr=>?_,b2.2.1.trans hw.os,rfl,rfl⟩
  ·rcases split hr with h1|⟨h1,h2⟩|⟨h1,h2⟩<;>rcases split hs with h3|⟨h3,h4⟩|⟨h3,h4⟩
   ·exact hw.inj r s t h1 h3
   ·exact absurd (Bf _ _ h1).2 (by omega)
   ·exact absurd (Bf _ _ h1).2 (by omega)
   ·exact absurd (Bf _ _ h3).2 (by omega)
   ·omega
   ·omega
   ·exact absurd (Bf _ _ h3).2 (by omega)
   ·omega
   ·omega
  ·rcases split hr with h1|⟨h1,h2⟩|⟨h1,h2⟩
   ·obtain⟨o,q,d1,d2,d3⟩:=hw.kL r t h1
    refine⟨iW o,q,?_,((b3 t (Bf _ _ h1).2 (nM _ _ h1)).2).trans d2,d3.fz.mono le⟩;show(aeO v B1 B2).heap[r]?=_
    rw[Ig (Bf _ _ h1).1];have d1':v.heap[r]?=some o:=d1
    rw[d1'];rfl
   ·subst h1 h2
    refine⟨_,_,Qe,b6,mH.fz (o:=B1) (.cells (Fz.refl _) ⟨rfl,fun i h1 h2=>?_⟩)⟩
    obtain rfl:i=0:=by simp at h1;exact h1
    exact .slice gl gc ⟨le.sub _ _ EI.1,EI.2.1,EI.2.2.1,EI.2.2.2⟩
   ·subst h1 h2
    refine⟨_,_,Qf,b7,mH.fz (o:=B2) (.cells (Fz.refl _) ⟨rfl,fun i h1 h2=>?_⟩)⟩
    obtain rfl:i=0:=by simp at h1;exact h1
    exact .int _ _
 have hI:ql (p.j0+i+1) mW (aeO v B1 B2) γ1:=by
  intro r t hr;left
  rcases split hr with h1|⟨h1,h2⟩|⟨h1,h2⟩
  ·obtain⟨o,q,d1,d2,d3⟩:=hw.kL r t h1
   have d1':v.heap[r]?=some o:=d1
   exact⟨CG (o:=o) (by rw[Ig (Bf _ _ h1).1,d1'];rfl) d3.ab7,(b3 t (Bf _ _ h1).2 (nM _ _ h1)).1⟩
  ·subst h1 h2
   exact⟨CG (o:=B1) Qe (.inl ⟨_,_,_,rfl⟩),b4⟩
  ·subst h1 h2
   exact⟨CG (o:=B2) Qf (.inl ⟨_,_,_,rfl⟩),b5⟩
 have fO:FR Tryz.prog spec mW (Frame.enter Tw.prog 139 #[.int .i64 (gs i),ptr v.heap.size,ptr (v.heap.size+1)] .normal) (Frame.enter Tryz.prog 139 #[.int .i64 (gs i),ptr N,ptr (N+1)] .normal):=by
  refine FR.enter (m:=mW) (F:=Tw.prog.funcs) (P:=Tryz.prog) B Mn XI ⟨rfl,fun j h1 h2=>?_⟩
  obtain rfl|rfl|rfl:j=0∨j=1∨j=2:=by simp at h1;omega
  ·exact .int _ _
  ·exact Ry mN
  ·exact Ry mN1
 exact Ts (P:=Tryz.prog) (F0:=Tw.prog.funcs) (spec:=spec) (good:=m.good) (R:=fun e _=>e= .returned (a i).val) (p:=p) B (fun _ h=>(by cases h)) (fun x w _ h=>(by cases h)) (a:=a i) (fun x w h=>by injection h) F (by omega)
  (fun {n f' f fs' fs v} Uu he te cf=>aau (Uu▸B) EH he te cf) (fun γ w h=>⟨h.1.ph,h.1.st⟩) fR fG
  (c:=Wt Tryz.prog p.wg (N+2) gb (N+4) ib x5 x6 (Lv N) (.int .i64 (gs i)) undef undef (4::l)) (e0:=[Ac Tryz.prog]) (fun γ w h=>K γ w h) hE (fs':=[]) (fs:=[]) (m:=mW) rfl rfl fO .nil ⟨rfl,nofun⟩ hWR hI ⟨b1,b2,b3,b4,b5,b6,b7⟩
end
end Go.Proofs.YtabjbdnokpjipaaGreat.Sr
