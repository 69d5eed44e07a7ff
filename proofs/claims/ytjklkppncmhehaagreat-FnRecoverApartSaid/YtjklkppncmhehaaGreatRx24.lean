/-
What is proved: the starter's steps at memory of its own ('MP.alloc', 'MP.put', 'MP.get', 'MP.look'). Conditions: those that each theorem states. the starter's way through impl.entriesOf ('ask_way'). Conditions: those that the theorem states. what a worker of impl.ask has to be shown to do follows from the contract of its question at a lone run ('work_ok'). Conditions: those that the theorem states.
-/
import Derived.Test.YtjklkppncmhehaaGreatRx21
import Derived.Test.YtjklkppncmhehaaGreatRx23
import Derived.Test.YtjklkppncmhehaaGreatRx15
import Derived.Test.YtjklkppncmhehaaGreatRx16
set_option linter.unusedVariables false
set_option linter.unusedSimpArgs false
namespace Go.Proofs.YtjklkppncmhehaaGreat.Sr
open Go Go.Conc Go.ConcN
section
variable {P:Program}{Q:Gh→World→Trace→Nat→Outcome→World→Prop}{d:Nat}{γ ah:Gh}{w w':World}{g g':Goroutine}{b o:Nat}{x v:Value}
def qg (γ:Gh)(b:Nat):Prop:=¬γ.sh b∧(∀k,¬γ.ow k b)∧∀p,γ.ph=some p→b≠p.A
theorem qg.rely (h:qg γ b)(hb:b<w.heap.size)(r:RM γ w ah w'):qg ah b∧w'.heap[b]?=w.heap[b]?:=by
 obtain⟨h1,h2,h3⟩:=h;obtain⟨g1,g2,_⟩:=r.gh;exact⟨⟨by rw[g1];exact h1,fun k hk=>h2 k ((r.ow k b hb).1 hk),fun p hp=>h3 p (g2▸hp)⟩,r.heap b hb h2 h1 h3⟩
theorem pg (h:∀k,¬γ.ro k b)(r:RM γ w ah w'):∀k,¬ah.ro k b:=by
 obtain⟨_,_,g3,_⟩:=r.gh;rw[g3];exact h
theorem ED {j B:Nat}{wr:Bool}(h:qg γ b)(hr:wr=true→∀k,¬γ.ro k b)(hB:b<B):v_ γ j B (dq ⟨b,o,none⟩ wr):=by
 refine⟨fun z hz=> .inr ?_,hB,nofun⟩
 have:z=⟨.cell ⟨b,o,none⟩,wr,.plain⟩:=(Option.some.inj hz).symm
 subst this;refine⟨fun⟨a,ha,hs⟩=>?_,fun k _ _ hk=>?_,fun hw k _ _ ⟨b',cD,hk⟩=>?_⟩
 ·cases ha;exact h.1 hs
 ·rcases hk with⟨b',cD,hk⟩|⟨a,ha,p,hp,_,hA,_⟩
  ·cases cD;exact h.2.1 k hk
  ·cases ha;exact h.2.2 p hp hA
 ·cases cD;exact hr hw k hk
theorem MP.alloc (hs:g.status= .running)(h:∀ah w' t j,RM γ w ah w'→JJ ah w' t j→∃g' ob,dh P w'.heap.size g=some (g',#[],ob)∧MP (sys P) Q false d ah {w' with heap:=w'.heap.push ob} g'):MP (sys P) Q false d γ w g:=by
 refine .go hs fun aX w1 t j hR hJ hd=>?_;obtain⟨g',ob,hq,hm⟩:=h aX w1 t j (iG hR) hJ;obtain⟨a1,a2⟩:=zo (w1:={w1 with heap:=w1.heap.push ob}) (fn:=g.frame.fn) (pos:=g.frame.place) (es:= #[]) hJ ⟨rfl,rfl,rfl⟩ (by simp) (fun b hb _=>by
  show(w1.heap.push ob)[b]?=_
  rw[Array.getElem?_push,if_neg (by omega)]) fun e he=>by simp at he
 exact⟨⟨g',_,#[],aX⟩,false,⟨(iu hq).2 true w1 rfl,a1,a2⟩,hm⟩
theorem MP.put (hq:j_ P g=some (g',#[dq ⟨b,o,none⟩ true],[(⟨b,o,none⟩,x)]))(hb:b<w.heap.size)(hm:qg γ b)(hr:∀k,¬γ.ro k b)(hc:(w.cell? ⟨b,o,none⟩).isSome=true∧w.frozen? ⟨b,o,none⟩=false)
  (K:∀ah w',RM γ w ah w'→MP (sys P) Q false d ah (w'.setCell ⟨b,o,none⟩ x) g'):MP (sys P) Q false d γ w g:=by
 obtain⟨s1,s2⟩:=oX hq;refine .go s1 fun aX w1 t j hR hJ hd=>?_;have r:=iG hR;obtain⟨m1,e1⟩:=hm.rely hb r;have r1:=pg hr r;have WH:b<w1.heap.size:=Nat.lt_of_lt_of_le hb r.size
 have lT:(w1.cell? ⟨b,o,none⟩).isSome=true∧w1.frozen? ⟨b,o,none⟩=false:=by
  have c1:w1.cell? ⟨b,o,none⟩=w.cell? ⟨b,o,none⟩:=cell_of e1
  have c2:w1.frozen? ⟨b,o,none⟩=w.frozen? ⟨b,o,none⟩:=by unfold World.frozen?;rw[show w1.heap[(⟨b,o,none⟩:Addr).block]?=w.heap[(⟨b,o,none⟩:Addr).block]? from e1]
  rw[c1,c2];exact hc
 obtain⟨a1,a2⟩:=zo (w1:=w1.setCell ⟨b,o,none⟩ x) (fn:=g.frame.fn) (pos:=g.frame.place) (es:= #[dq ⟨b,o,none⟩ true]) hJ ⟨rfl,rfl,rfl⟩ (Nat.le_of_eq cS.symm) (fun b' _ cD=>iY b' fun e=>by
  subst e;rcases cD with⟨k,hk⟩|hk|⟨p,hp,hk⟩
  ·exact hk.elim (m1.2.1 k) (r1 k)
  ·exact m1.1 hk
  ·exact m1.2.2 p hp hk) fun e he=>by
   simp at he;subst he
   exact ED m1 (fun _=>r1) (by rw[cS];exact WH)
 exact⟨⟨g',_,_,aX⟩,false,⟨s2 true w1 fun q hq=>by
  have:q=(⟨b,o,none⟩,x):=by simpa using hq
  subst this;exact lT,a1,a2⟩,K aX w1 r⟩
theorem Sd {t:Trace}{j:Nat}{fn:FuncId}{pos:String}(hJ:JJ γ w t j)(hm:qg γ b)(hb:b<w.heap.size):JJ γ w (t++MemOp.ofEvents 0 fn pos #[dq ⟨b,o,none⟩ false]) j∧∀k',k'≠0→RR k' γ w γ w:=
 nA hJ (ED hm nofun hb)
theorem MP.get (hq:bn P v none g=some ⟨g',#[dq ⟨b,o,none⟩ false],[⟨b,o,none⟩],[],none⟩)(hb:b<w.heap.size)(hm:qg γ b)(hc:w.cell? ⟨b,o,none⟩=some v∧w.frozen? ⟨b,o,none⟩=false)
  (K:∀ah w',RM γ w ah w'→MP (sys P) Q false d ah w' g'):MP (sys P) Q false d γ w g:=by
 refine .tC (vS hq).1 fun aX w1 t j r hJ hd=>?_;obtain⟨m1,e1⟩:=hm.rely hb r;obtain⟨a1,a2⟩:=Sd (o:=o) (fn:=g.frame.fn) (pos:=g.frame.place) hJ m1 (Nat.lt_of_lt_of_le hb r.size);refine⟨_,_,_,aX,false,hq,fun a ha=>?_,fun q hq=>(by cases hq),a1,a2,K aX w1 r⟩
 have:a=⟨b,o,none⟩:=by simpa using ha
 subst this;have c1:w1.cell? ⟨b,o,none⟩=w.cell? ⟨b,o,none⟩:=cell_of e1
 have c2:w1.frozen? ⟨b,o,none⟩=w.frozen? ⟨b,o,none⟩:=by unfold World.frozen?;rw[show w1.heap[(⟨b,o,none⟩:Addr).block]?=w.heap[(⟨b,o,none⟩:Addr).block]? from e1]
 rw[c1,c2];exact hc
theorem MP.look (hq:fJ P v g=some (g',#[dq ⟨b,o,none⟩ false],[⟨b,o,none⟩]))(hb:b<w.heap.size)(hm:qg γ b)(hc:w.cell? ⟨b,o,none⟩=some v)
  (K:∀ah w',RM γ w ah w'→MP (sys P) Q false d ah w' g'):MP (sys P) Q false d γ w g:=by
 obtain⟨s1,s2⟩:=D5 hq;refine .go s1 fun aX w1 t j hR hJ hd=>?_;have r:=iG hR;obtain⟨m1,e1⟩:=hm.rely hb r;obtain⟨a1,a2⟩:=Sd (o:=o) (fn:=g.frame.fn) (pos:=g.frame.place) hJ m1 (Nat.lt_of_lt_of_le hb r.size);refine⟨⟨g',w1,_,aX⟩,false,⟨s2 true w1 fun a ha=>?_,a1,a2⟩,K aX w1 r⟩
 have:a=⟨b,o,none⟩:=by simpa using ha
 subst this;have c1:w1.cell? ⟨b,o,none⟩=w.cell? ⟨b,o,none⟩:=cell_of e1
 rw[c1];exact hc
theorem jG (hn:γ.ph=none)(r:RM γ w ah w'):ah=γ∧w'.heap=w.heap∧bM w w':=⟨(r.none hn).1,(r.none hn).2,r.same⟩
theorem bM.trans {a b c:World}(h:bM a b)(g:bM b c):bM a c:=⟨g.1.trans h.1,g.2.1.trans h.2.1,g.2.2.trans h.2.2⟩
theorem km {n:Nat}(hm:mute P (n+1) g=true)(hn:γ.ph=none)(h:∀w',w'.heap=w.heap→bM w w'→MP (sys P) Q false d γ w' (aN P (n+1) g)):MP (sys P) Q false d γ w g:=
 mS hm fun aX w1 r=>by
  obtain⟨rfl,e,s⟩:=jG hn r;exact h w1 e s
theorem MP.yy {r:Nat}{ob:Obj}(hq:dh P r g=some (g',#[],ob))(hn:γ.ph=none)(hr:w.heap.size=r)(h:∀w',w'.heap=w.heap.push ob→bM w w'→MP (sys P) Q false d γ w' g'):MP (sys P) Q false d γ w g:=
 .alloc (iu hq).1 fun aX w1 t j r1 hJ=>by
  obtain⟨rfl,e,s⟩:=jG hn r1;refine⟨g',ob,by rw[e,hr];exact hq,h _ (by show w1.heap.push ob=_;rw[e]) s⟩
end
end Go.Proofs.YtjklkppncmhehaaGreat.Sr
namespace Go.Proofs.YtjklkppncmhehaaGreat.Sr
open Go Go.Conc Go.ConcN
section
variable {Q:Gh→World→Trace→Nat→Outcome→World→Prop}
structure gJ (ga:Addr) (gl gc:Nat) (ms:Int) (N n:Nat) (p:Ph) (gT:Gh) (w0:World) (γ:Gh) (w:World):Prop where
 same:bM w0 w
 size:N+6≤w.heap.size
 sh:∀b,γ.sh b↔gT.sh b∨b=N+5
 ph:γ.ph=some p
 ow:∀k b,b<N+6→¬γ.ow k b
 old:∀b,b<N→¬gT.sh b→w.heap[b]?=w0.heap[b]?
 b0:w.heap[N]?=some (.cells #[.slice (some ga) gl gc] 23)
 b1:w.heap[N+1]?=some (.cells #[.int .i64 ms] 3)
 b2:w.heap[N+2]?=some (.cells #[H3 N] 145)
 b4:w.heap[N+4]?=some (.cells #[.slice (some ⟨N+3,0,none⟩) n n] 104)
variable {ga:Addr}{gl gc sb so sc:Nat}{ms:Int}{N n:Nat}{c:Frame}{cs:List Frame}{p:Ph}{gT γ ah:Gh}{w0 w w':World}
theorem gJ.mv (h:gJ ga gl gc ms N n p gT w0 γ w)(hA:p.A=N+3)(h0:∀b,gT.sh b→b<N)(r:Mv γ w ah w'):gJ ga gl gc ms N n p gT w0 ah w':=by
 obtain⟨r1,r2,r3,r4⟩:=r.gh;have hs:=h.size;have key:∀b,b<N+5→¬gT.sh b→b≠N+3→w'.heap[b]?=w.heap[b]?:=fun b hb hn bY=>
  r.heap b (by omega) (fun k=>h.ow k b (by omega)) (fun e=>((h.sh b).1 e).elim hn fun e=>by omega) fun q hq=>by
   rw[h.ph]at hq;cases hq;rw[hA];exact bY
 have n0:∀b,N≤b→¬gT.sh b:=fun b hb e=>by have:=h0 b e;omega
 exact⟨h.same.trans r.same,Nat.le_trans hs r.size,by rw[r1];exact h.sh,r2.trans h.ph,fun k b hb e=>h.ow k b hb ((r.ow k b (by omega)).1 e),fun b hb hn=>(key b (by omega) hn (by omega)).trans (h.old b hb hn),
  (key N (by omega) (n0 _ (by omega)) (by omega)).trans h.b0,(key (N+1) (by omega) (n0 _ (by omega)) (by omega)).trans h.b1,(key (N+2) (by omega) (n0 _ (by omega)) (by omega)).trans h.b2,(key (N+4) (by omega) (n0 _ (by omega)) (by omega)).trans h.b4⟩
theorem gJ.own (h:gJ ga gl gc ms N n p gT w0 γ w)(hs:w.heap.size≤w'.heap.size)(hh:∀b,b<N+6→w'.heap[b]?=w.heap[b]?)(ho:bM w w'):gJ ga gl gc ms N n p gT w0 γ w':=
 ⟨h.same.trans ho,Nat.le_trans h.size hs,h.sh,h.ph,h.ow,fun b hb hn=>(hh b (by omega)).trans (h.old b hb hn),(hh _ (by omega)).trans h.b0,(hh _ (by omega)).trans h.b1,(hh _ (by omega)).trans h.b2,(hh _ (by omega)).trans h.b4⟩
theorem iw {w:World}{b:Nat}{v:Value}{t:TypeId}(h:w.heap[b]?=some (.cells #[v] t)):w.cell? ⟨b,0,none⟩=some v∧w.frozen? ⟨b,0,none⟩=false:=by
 unfold World.cell? World.frozen?;simp[h]
theorem L0 {i g:Nat}{gi:Int}{x:Nat→Value}(hA:p.A=N+3)(hW:p.wg=N+5)(Gt:p.eW=191)(hn:p.n=n)(h0:∀b,gT.sh b→b<N)(h5:n≤5)(hi:i<n)
  (hM:gJ ga gl gc ms N n p gT w0 γ w) (hO:iE γ p 0 (p.j0+i)) (Db:sb<N) (qJ:¬gT.sh sb) (cE:w0.cell? ⟨sb,so+i,none⟩=some (.int .i64 gi))
  (IV:∀γ w gb ib,qf (p.j0+i+1) p (N+2) gb (N+4) ib (H3 N) (.int .i64 gi) (.slice (some ⟨N+3,0,none⟩) n n) (.int .i64 i) γ w→bM w0 w→(∀b,b<N→¬gT.sh b→γ.ro (p.j0+i+1) b∧w.heap[b]?=w0.heap[b]?)→
   γ.ro (p.j0+i+1) N∧γ.ro (p.j0+i+1) (N+1)∧w.heap[N]?=some (.cells #[.slice (some ga) gl gc] 23)∧w.heap[N+1]?=some (.cells #[.int .i64 ms] 3)→WP (sys Tryz.prog) (p.j0+i+1) 0 γ w (Kr Tryz.prog (N+5) (N+2) gb (N+4) ib))
  (K:∀ah w' x',gJ ga gl gc ms N n p gT w0 ah w'→iE ah p 0 (p.j0+(i+1))→MP (sys Tryz.prog) Q false 0 ah w' (cV Tryz.prog ga gl gc sb so sc ms N n c cs ((i+1:Nat):Int) x' (cZ Tryz.prog))):
  MP (sys Tryz.prog) Q false 0 γ w (cV Tryz.prog ga gl gc sb so sc ms N n c cs (i:Nat) x (cZ Tryz.prog)):=by
 refine mS (n:=12) (Sb ga gl gc sb so sc ms N n c cs x i hi h5) fun aX w1 r1=>?_;have M1:=hM.mv hA h0 (Mv.of r1);have O1:=hO.rely r1;have s1:=M1.size;have mine:∀{γ w} (h:gJ ga gl gc ms N n p gT w0 γ w) b,b<N+5→b≠N+3→¬gT.sh b→qg γ b:=fun h b hb bY FT=>⟨fun e=>((h.sh b).1 e).elim FT fun e=>by omega,fun k=>h.ow k b (by omega),fun q hq=>by rw[h.ph]at hq;cases hq;rw[hA];exact bY⟩
 refine MP.look (Sc ga gl gc sb so sc ms N n c cs x i hi h5 gi) (by omega) (mine M1 sb (by omega) (by omega) qJ) ?_ fun dg w2 r2=>?_
 ·have:w1.cell? ⟨sb,so+i,none⟩=w0.cell? ⟨sb,so+i,none⟩:=cell_of (M1.old sb Db qJ)
  rw[this];exact cE
 have M2:=M1.mv hA h0 (Mv.of r2);have O2:=O1.rely r2;refine MP.alloc (iu (Is ga gl gc sb so sc ms N n c cs (i:Nat) _ 0)).1 fun lX w3 t3 j3 r3 J3=>?_;have M3:=M2.mv hA h0 (Mv.of r3);have O3:=O2.rely r3;refine⟨_,_,Is ga gl gc sb so sc ms N n c cs (i:Nat) _ w3.heap.size,?_⟩;have sz3:=M3.size;generalize qI:w3.heap.size=fa;have Zr:gJ ga gl gc ms N n p gT w0 lX {w3 with heap:=w3.heap.push (.cells #[.int .i64 0] 3)}:=M3.own (by simp) (fun b hb=>by
  show(w3.heap.push _)[b]?=_
  rw[Array.getElem?_push,if_neg (by omega)]) ⟨rfl,rfl,rfl⟩
 have m3:qg lX fa:=⟨fun e=>by have:=J3.dD _ e;omega,fun k e=>by have:=J3.mG _ _ e;omega,fun q hq=>by rw[M3.ph]at hq;cases hq;rw[hA];omega⟩
 have n3:∀k,¬lX.ro k fa:=fun k e=>by have:=J3.kV _ _ e;omega
 have c3:({w3 with heap:=w3.heap.push (.cells #[.int .i64 0] 3)}:World).heap[fa]?=some (.cells #[.int .i64 0] 3):=by
  show(w3.heap.push _)[fa]?=_
  rw[←qI];simp
 have z3:fa<({w3 with heap:=w3.heap.push (.cells #[.int .i64 0] 3)}:World).heap.size:=by
  show fa<(w3.heap.push _).size
  simp;omega
 generalize({w3 with heap:=w3.heap.push (.cells #[.int .i64 0] 3)}:World)=Zs at Zr c3 z3
 refine MP.alloc (iu (It ga gl gc sb so sc ms N n c cs (i:Nat) _ fa 0)).1 fun fu w4 t4 j4 r4 J4=>?_;have M4:=Zr.mv hA h0 (Mv.of r4);have O4:=O3.rely (w:=Zs) r4;refine⟨_,_,It ga gl gc sb so sc ms N n c cs (i:Nat) _ fa w4.heap.size,?_⟩;obtain⟨m4,e4⟩:=m3.rely z3 r4;have n4:=pg n3 r4;have sz4:=M4.size;have z4:fa<w4.heap.size:=Nat.lt_of_lt_of_le z3 r4.size
 have gr1:N+6≤fa:=by omega
 generalize si:w4.heap.size=gU;have pu:∀b,b<gU→(w4.heap.push (.cells #[.int .i64 0] 3))[b]?=w4.heap[b]?:=fun b hb=>by rw[Array.getElem?_push,if_neg (by omega)]
 have Zt:gJ ga gl gc ms N n p gT w0 fu {w4 with heap:=w4.heap.push (.cells #[.int .i64 0] 3)}:=M4.own (by simp) (fun b hb=>pu b (by omega)) ⟨rfl,rfl,rfl⟩
 have m4':qg fu gU:=⟨fun e=>by have:=J4.dD _ e;omega,fun k e=>by have:=J4.mG _ _ e;omega,fun q hq=>by rw[M4.ph]at hq;cases hq;rw[hA];omega⟩
 have n4':∀k,¬fu.ro k gU:=fun k e=>by have:=J4.kV _ _ e;omega
 have c4:({w4 with heap:=w4.heap.push (.cells #[.int .i64 0] 3)}:World).heap[fa]?=some (.cells #[.int .i64 0] 3):=(pu fa (by omega)).trans (e4.trans c3)
 have Zu:({w4 with heap:=w4.heap.push (.cells #[.int .i64 0] 3)}:World).heap[gU]?=some (.cells #[.int .i64 0] 3):=by
  show(w4.heap.push _)[gU]?=_
  rw[←si];simp
 have Xf:gU<({w4 with heap:=w4.heap.push (.cells #[.int .i64 0] 3)}:World).heap.size:=by
  show gU<(w4.heap.push _).size
  simp;omega
 generalize({w4 with heap:=w4.heap.push (.cells #[.int .i64 0] 3)}:World)=Xg at Zt c4 Zu Xf
 have o1:=iw c4;refine MP.put (R4 ga gl gc sb so sc ms N n c cs (i:Nat) fa gU x ⟨sb,so+i,none⟩ gi) (by omega) m4 n4 ⟨by rw[o1.1];rfl,o1.2⟩ fun wj w5 r5=>?_
 obtain⟨m5,e5⟩:=m4.rely (show fa<Xg.heap.size by omega) r5
 obtain⟨Zv,e5'⟩:=m4'.rely Xf r5;have n5:=pg n4 r5;have n5':=pg n4' r5;have M5:=(Zt.mv hA h0 (Mv.of r5)).own (w':=w5.setCell ⟨fa,0,none⟩ (.int .i64 i)) (Nat.le_of_eq cS.symm) (fun b hb=>iY b (by omega)) ⟨rfl,rfl,rfl⟩
 have O5:=O4.rely (w:=Xg) r5;have U3:gU<(w5.setCell ⟨fa,0,none⟩ (.int .i64 i)).heap.size:=by rw[cS];exact Nat.lt_of_lt_of_le Xf r5.size
 have Xh:(w5.setCell ⟨fa,0,none⟩ (.int .i64 i)).heap[gU]?=some (.cells #[.int .i64 0] 3):=(iY gU (by omega)).trans (e5'.trans Zu)
 have c5:(w5.setCell ⟨fa,0,none⟩ (.int .i64 i)).heap[fa]?=some (.cells #[.int .i64 i] 3):=by
  rw[Bd,e5,c4];simp
 generalize w5.setCell ⟨fa,0,none⟩ (.int .i64 i)=Zw at M5 c5 Xh U3;have o2:=iw Xh;refine MP.put (R5 ga gl gc sb so sc ms N n c cs (i:Nat) fa gU x ⟨sb,so+i,none⟩ gi) U3 Zv n5' ⟨by rw[o2.1];rfl,o2.2⟩ fun uE w6 r6=>?_
 obtain⟨m6,e6⟩:=m5.rely (show fa<Zw.heap.size by omega) r6
 obtain⟨U4,e6'⟩:=Zv.rely U3 r6;have M6:=(M5.mv hA h0 (Mv.of r6)).own (w':=w6.setCell ⟨gU,0,none⟩ (.int .i64 gi)) (Nat.le_of_eq cS.symm) (fun b hb=>iY b (by omega)) ⟨rfl,rfl,rfl⟩
 have O6:=O5.rely (w:=Zw) r6;have Xi:gU<(w6.setCell ⟨gU,0,none⟩ (.int .i64 gi)).heap.size:=by rw[cS];exact Nat.lt_of_lt_of_le U3 r6.size
 have c6:(w6.setCell ⟨gU,0,none⟩ (.int .i64 gi)).heap[fa]?=some (.cells #[.int .i64 i] 3):=(iY fa (by omega)).trans (e6.trans c5)
 have Zx:(w6.setCell ⟨gU,0,none⟩ (.int .i64 gi)).heap[gU]?=some (.cells #[.int .i64 gi] 3):=by
  rw[Bd,e6',Xh];simp
 generalize w6.setCell ⟨gU,0,none⟩ (.int .i64 gi)=Se at M6 c6 Zx Xi;refine mS (n:=3) (PB ga gl gc sb so sc ms N n c cs (i:Nat) fa gU x ⟨sb,so+i,none⟩ gi) fun Bj w7 r7=>?_;rw[R6,←hW];refine Pv _ _ Gt (O6.rely (w:=Se) r7) (by omega) fun fH w8 v8 O8=>?_
 rw[show lZ (Xe Tryz.prog ga gl gc sb so sc ms N n c cs (i:Nat) (xl x (i:Nat) ⟨sb,so+i,none⟩ gi) fa gU) (yd Tryz.prog ga gl gc sb so sc ms N n c cs)=U0 Tryz.prog ga gl gc sb so sc ms N n c cs (i:Nat) (xl x (i:Nat) ⟨sb,so+i,none⟩ gi) fa gU from rfl]
 have mv:Mv uE Se fH w8:=(Mv.of r7).trans v8
 refine mS (n:=2) (PC ga gl gc sb so sc ms N n c cs (i:Nat) fa gU x ⟨sb,so+i,none⟩ gi) fun Rw w9 r9=>?_;rw[show aN Tryz.prog (2+1) (U0 Tryz.prog ga gl gc sb so sc ms N n c cs (i:Nat) (xl x (i:Nat) ⟨sb,so+i,none⟩ gi) fa gU)=U1 Tryz.prog ga gl gc sb so sc ms N n c cs (i:Nat) (xl x (i:Nat) ⟨sb,so+i,none⟩ gi) fa gU from rfl]
 have mv9:=mv.trans (Mv.of r9);have O9:=O8.rely r9;obtain⟨p1,p2⟩:=D4 (U2 ga gl gc sb so sc ms N n c cs (i:Nat) fa gU x ⟨sb,so+i,none⟩ gi);have l2:=PK ga gl gc sb so sc ms N n c cs fa gU i (by omega) x ⟨sb,so+i,none⟩ gi
 obtain⟨x',hx⟩:=PL ga gl gc sb so sc ms N n c cs fa gU i (by omega) x ⟨sb,so+i,none⟩ gi
 generalize hgW:Kr Tryz.prog (N+5) (N+2) gU (N+4) fa=gW at p2;generalize pf Tryz.prog ga gl gc sb so sc ms N n c cs (i:Nat) (xl x (i:Nat) ⟨sb,so+i,none⟩ gi) fa gU=gQ at p2 l2 hx;generalize U1 Tryz.prog ga gl gc sb so sc ms N n c cs (i:Nat) (xl x (i:Nat) ⟨sb,so+i,none⟩ gi) fa gU=gP at p1 p2⊢;refine .mk p1 nofun nofun fun uP wa ta ja ra Ja da _=>?_;have Sf:=mv9.trans (Mv.of (iG ra));have Oa:=O9.rely (iG ra);have Ma:=M6.mv hA h0 Sf;have sa:=Ma.size;have ej:=Ja.j;have ejj:=Oa.j;have hja:ja=p.j0+i:=by omega
 obtain⟨q1,q2⟩:=Rm (x:={g:=0,fn:=gP.frame.fn,pos:=gP.frame.place,act:= .go (ja+1)})
  (y:={g:=ja+1,fn:=gW.frame.fn,pos:=gP.frame.place,act:= .start})
  Ja Oa.ph Oa.wm Oa.extra da ⟨rfl,rfl⟩ ⟨rfl,rfl⟩
 have mm:∀b,b<Se.heap.size→(∀k,¬uE.ow k b)→¬uE.sh b→b≠p.A→wa.heap[b]?=Se.heap[b]?:=fun b hb h1 h2 h3=>Sf.heap b hb h1 h2 fun q hq=>by
  rw[M6.ph]at hq;cases hq;exact h3
 have ca:wa.heap[fa]?=some (.cells #[.int .i64 i] 3):=(mm fa (by omega) m6.2.1 m6.1 (by rw[hA];omega)).trans c6
 have ca':wa.heap[gU]?=some (.cells #[.int .i64 gi] 3):=(mm gU Xi U4.2.1 U4.1 (by rw[hA];omega)).trans Zx
 have Xj:=Sf.size;have Xk:∀b,b<wa.heap.size→(∀k,¬uP.ow k b)→¬uP.sh b→b≠p.A→(uP.spawn p wa.heap.size).ro (p.j0+i+1) b:=fun b h1 h2 h3 h4=> .inl ⟨by omega,h1,h2,h3,h4⟩
 have Zy:∀b,b<Se.heap.size→(∀k,¬uE.ow k b)→∀k,¬uP.ow k b:=fun b hb h k e=>h k ((Sf.ow k b hb).1 e)
 have Zz:∀b,¬uE.sh b→¬uP.sh b:=fun b h e=>h (Sf.gh.1▸e)
 have Si:∀b,b<N+5→b≠N+3→¬gT.sh b→(uP.spawn p wa.heap.size).ro (p.j0+i+1) b:=fun b h1 h2 h3=>
  Xk b (by omega) (fun k=>Ma.ow k b (by omega)) (fun e=>((Ma.sh b).1 e).elim h3 fun e=>by omega) (by rw[hA];exact h2)
 have n0:∀b,N≤b→¬gT.sh b:=fun b hb e=>by have:=h0 b e;omega
 have stk:(uP.spawn p wa.heap.size).st (p.j0+i+1)= .busy:=if_pos (by omega)
 refine⟨.spawn ⟨⟨gQ,wa,#[],uP.spawn p wa.heap.size⟩,gW⟩ false,⟨⟨p2 true wa,?_,fun k' h1 h2=>q2 k' h1 h2⟩,?_⟩,fun y b' e=>(by cases e),fun y b' e=>?_⟩
 ·rw[DE]
  exact q1
 ·show WP (sys Tryz.prog) (ja+1) 0 (uP.spawn p wa.heap.size) wa gW
  rw[hja,←hgW];refine IV _ _ _ _ ⟨Ma.ph,stk,⟨Si _ (by omega) (by omega) (n0 _ (by omega)),Xk gU (by omega) (Zy gU Xi U4.2.1) (Zz gU U4.1) (by rw[hA];omega),Si _ (by omega) (by omega) (n0 _ (by omega)),Xk fa (by omega) (Zy fa (by omega) m6.2.1) (Zz fa m6.1) (by rw[hA];omega)⟩,
   iw Ma.b2,iw ca',iw Ma.b4,iw ca⟩ Ma.same (fun b hb FT=>⟨Si b (by omega) (by omega) FT,Ma.old b hb FT⟩) ⟨Si _ (by omega) (by omega) (n0 _ (by omega)),Si _ (by omega) (by omega) (n0 _ (by omega)),Ma.b0,Ma.b1⟩
 ·injection e with e1 e2
  subst e1 e2;show MP (sys Tryz.prog) Q false 0 (uP.spawn p wa.heap.size) wa gQ
  have Mb:gJ ga gl gc ms N n p gT w0 (uP.spawn p wa.heap.size) wa:=⟨Ma.same,Ma.size,Ma.sh,Ma.ph,Ma.ow,Ma.old,Ma.b0,Ma.b1,Ma.b2,Ma.b4⟩
  have Ob:iE (uP.spawn p wa.heap.size) p 0 (p.j0+(i+1)):=⟨Oa.ph,Oa.wm,rfl,by show uP.j+1=_;omega⟩
  refine mS (n:=6) l2 fun γc wc rc=>?_;rw[hx];exact K γc wc x' (Mb.mv hA h0 (Mv.of rc)) (Ob.rely rc)
def EE (ga:Addr)(gl gc:Nat)(ms:Int)(N n:Nat)(p:Ph)(gs:Nat→Int)(gT:Gh)(w0:World):Prop:=∀i,i<n→∀γ w gb ib,qf (p.j0+i+1) p (N+2) gb (N+4) ib (H3 N) (.int .i64 (gs i)) (.slice (some ⟨N+3,0,none⟩) n n) (.int .i64 i) γ w→bM w0 w→
 (∀b,b<N→¬gT.sh b→γ.ro (p.j0+i+1) b∧w.heap[b]?=w0.heap[b]?)→γ.ro (p.j0+i+1) N∧γ.ro (p.j0+i+1) (N+1)∧w.heap[N]?=some (.cells #[.slice (some ga) gl gc] 23)∧w.heap[N+1]?=some (.cells #[.int .i64 ms] 3)→
 WP (sys Tryz.prog) (p.j0+i+1) 0 γ w (Kr Tryz.prog (N+5) (N+2) gb (N+4) ib)
structure Nc (N n:Nat) (a:Nat→eQ) (gT:Gh) (w0:World) (γ:Gh) (w:World):Prop where
 ph:γ.ph=none
 same:bM w0 w
 size:N+6≤w.heap.size
 old:∀b,b<N→¬gT.sh b→w.heap[b]?=w0.heap[b]?
 sh:∀b,γ.sh b↔gT.sh b∨b=N+5
 ng:∃cs,w.heap[N+3]?=some (.cells cs 107)∧cs.size=5*n∧∀i c,i<n→c<5→cs[5*i+c]?=some ((a i).cell c)
theorem PM {a:Nat→eQ}{gs:Nat→Int}(hA:p.A=N+3)(hW:p.wg=N+5)(Gt:p.eW=191)(heA:p.eA=107)(hn:p.n=n)(uG:∀i c,p.ng i c=(a i).cell c)(h0:∀b,gT.sh b→b<N)(h1:1≤n)(h5:n≤5)
  (Db:sb<N) (qJ:¬gT.sh sb) (cE:∀i,i<n→w0.cell? ⟨sb,so+i,none⟩=some (.int .i64 (gs i))) (IV:EE ga gl gc ms N n p gs gT w0)
  (K:∀ah w',Nc N n a gT w0 ah w'→MP (sys Tryz.prog) Q false 0 ah w' {frame:=c.finish (.slice (some ⟨N+3,0,none⟩) n n),callers:=cs,status:= .running,dying:=none}):
  ∀(m i:Nat) (x:Nat→Value) (γ:Gh) (w:World),i+m=n→gJ ga gl gc ms N n p gT w0 γ w→iE γ p 0 (p.j0+i)→MP (sys Tryz.prog) Q false 0 γ w (cV Tryz.prog ga gl gc sb so sc ms N n c cs (i:Nat) x (cZ Tryz.prog)):=by
 intro m;induction m with
 |zero=>
  intro i x γ w him hM hO;obtain rfl:i=n:=by omega
  refine mS (n:=9) (R' ga gl gc sb so sc ms N i c cs x h1 h5) fun aX w1 r1=>?_;rw[PG ga gl gc sb so sc ms N i c cs x h1 h5,←hW];have M1:=hM.mv hA h0 (Mv.of r1);refine Lr _ _ Gt (hO.rely r1) fun dg w2 lX w3 v2 qR r3=>?_;rw[show lZ (H4 Tryz.prog ga gl gc sb so sc ms N i c cs x) (yd Tryz.prog ga gl gc sb so sc ms N i c cs)=D8 Tryz.prog ga gl gc sb so sc ms N i c cs x from rfl]
  have M2:=M1.mv hA h0 v2;have s2:=M2.size;obtain⟨rfl,e3,s3⟩:=jG (γ:=dg.idle) rfl r3;refine km (n:=2) (PH ga gl gc sb so sc ms N i c cs x h1 h5) rfl fun w4 e4 s4=>?_;have QO:w4.heap[N+4]?=some (.cells #[.slice (some ⟨N+3,0,none⟩) i i] 104):=by rw[e4,e3];exact M2.b4
  have n4:¬dg.idle.sh (N+4):=fun e=>by
   have e':dg.sh (N+4):=e
   rcases(M2.sh _).1 e' with e'|e'
   ·have:=h0 _ e';omega
   ·omega
  rw[show aN Tryz.prog (2+1) (D8 Tryz.prog ga gl gc sb so sc ms N i c cs x)=lu Tryz.prog ga gl gc sb so sc ms N i c cs x from rfl]
  refine MP.get (PI ga gl gc sb so sc ms N i c cs x h1 h5 (.slice (some ⟨N+3,0,none⟩) i i)) (by rw[e4,e3];omega) ⟨n4,fun _ e=>e,nofun⟩ (iw QO) fun wj w5 r5=>?_
  obtain⟨rfl,e5,s5⟩:=jG (γ:=dg.idle) rfl r5;refine km (n:=7) (PJ ga gl gc sb so sc ms N i c cs x h1 h5 (N+3) i i) rfl fun w6 e6 s6=>?_;rw[Sa ga gl gc sb so sc ms N i c cs x h1 h5 (N+3) i i];have eh:w6.heap=w2.heap:=by rw[e6,e5,e4,e3]
  obtain⟨cells,c1,c2,c3⟩:=qR;refine K _ _ ⟨rfl,(((M2.same.trans s3).trans s4).trans s5).trans s6,by rw[eh];exact s2,fun b hb tB=>by rw[eh];exact M2.old b hb tB,M2.sh,cells,by rw[eh,←hA,←heA];exact c1,by rw[c2,hn],fun i' c' eN cY=>?_⟩
  rw[c3 i' c' (by omega) cY,uG]
 |succ m ih=>
  intro i x γ w him hM hO;have hi:i<n:=by omega
  exact L0 (g:=0) hA hW Gt hn h0 h5 hi hM hO Db qJ (cE i hi) (IV i hi) fun ah w' x' M' O'=>ih (i+1) x' ah w' (by omega) M' O'
theorem Sj {a:Nat→eQ}{gs:Nat→Int}(iZ:γ.ph=none)(hN:w.heap.size=N)(h1:1≤n)(h5:n≤5)(Db:sb<N)(qJ:¬γ.sh sb)(cE:∀i,i<n→w.cell? ⟨sb,so+i,none⟩=some (.int .i64 (gs i)))
  (IV:EE ga gl gc ms N n {wg:=N+5,A:=N+3,n,j0:=γ.j,ng:=fun i c=>(a i).cell c,eW:=191,eA:=107} gs γ w)
  (K:∀ah w',Nc N n a γ w ah w'→MP (sys Tryz.prog) Q false 0 ah w' {frame:=c.finish (.slice (some ⟨N+3,0,none⟩) n n),callers:=cs,status:= .running,dying:=none}):
  MP (sys Tryz.prog) Q false 0 γ w (UY Tryz.prog ga gl gc sb so sc ms N n c cs):=by
 refine km (n:=1) (Py ga gl gc sb so sc ms N n c cs) iZ fun w1 e1 s1=>?_;rw[show aN Tryz.prog (1+1) (UY Tryz.prog ga gl gc sb so sc ms N n c cs)=Lj Tryz.prog ga gl gc sb so sc ms N n c cs from rfl]
 refine MP.alloc (iu (H5 ga gl gc sb so sc ms N n c cs)).1 fun dg w2 t2 j2 r2 J2=>?_;obtain⟨rfl,e2,s2⟩:=jG iZ r2;have hN2:w2.heap.size=N:=by rw[e2,e1,hN]
 have h0:∀b,dg.sh b→b<N:=fun b hb=>by have:=J2.dD b hb;omega
 have hj:=J2.j;refine⟨_,_,by rw[hN2];exact H5 ga gl gc sb so sc ms N n c cs,?_⟩
 generalize dm:({w2 with heap:=w2.heap.push (.cells #[.slice (some ga) gl gc] 23)}:World)=Pt
 have E2:Pt.heap=w.heap.push (.cells #[.slice (some ga) gl gc] 23):=by rw[←dm];show w2.heap.push _=_;rw[e2,e1]
 have S2:bM w Pt:=by rw[←dm];exact(s1.trans s2)
 clear dm J2;refine MP.yy (R2 ga gl gc sb so sc ms N n c cs) iZ (by rw[E2];simp[hN]) fun w3 E3 s3=>?_
 have S3:=S2.trans s3;refine km (n:=8) (Pz ga gl gc sb so sc ms N n c cs) iZ fun Zs e3 s3'=>?_;rw[show aN Tryz.prog (8+1) (nx Tryz.prog (N+1) (H2 Tryz.prog ga gl gc sb so sc ms N n c cs))=Px Tryz.prog ga gl gc sb so sc ms N n c cs from rfl]
 rw[E3,E2]at e3;refine MP.yy (R3 ga gl gc sb so sc ms N n c cs) iZ (by rw[e3];simp[hN]) fun w4 E4 s4=>?_
 refine km (n:=5) (PA ga gl gc sb so sc ms N n c cs) iZ fun Xg e4 s4'=>?_;rw[show aN Tryz.prog (5+1) (nx Tryz.prog (N+2) (Px Tryz.prog ga gl gc sb so sc ms N n c cs))=D6 Tryz.prog ga gl gc sb so sc ms N n c cs from rfl]
 rw[E4,e3]at e4;obtain⟨z,hz,q4⟩:=R7 ga gl gc sb so sc ms N n c cs h1 h5;refine MP.yy q4 iZ (by rw[e4];simp[hN]) fun w5 E5 s5=>?_
 rw[e4]at E5;refine MP.yy (R8 ga gl gc sb so sc ms N n c cs h1 h5) iZ (by rw[E5];simp[hN]) fun w6 E6 s6=>?_
 rw[E5]at E6;have S6:bM w w6:=(((((S3.trans s3').trans s4).trans s4').trans s5).trans s6)
 have Xj:w6.heap.size=N+5:=by rw[E6];simp[hN]
 have Xl:w6.heap[N+4]?=some (.cells #[.slice none 0 0] 104):=by rw[E6];(simp only[Array.getElem?_push,Array.size_push,hN];repeat (first|rw[if_pos trivial]|rw[if_pos (by omega)]|rw[if_neg (by omega)]))
 have o6:=iw Xl;have n6:∀b,N≤b→¬dg.sh b:=fun b hb e=>by have:=h0 b e;omega
 have q6:=R9 ga gl gc sb so sc ms N n c cs h1 h5;have u6:=PD ga gl gc sb so sc ms N n c cs h1 h5;have a6:aN Tryz.prog (2+1) (sx Tryz.prog (jU Tryz.prog ga gl gc sb so sc ms N n c cs))=mK Tryz.prog ga gl gc sb so sc ms N n c cs:=rfl
 generalize sx Tryz.prog (jU Tryz.prog ga gl gc sb so sc ms N n c cs)=gX at q6 u6 a6;generalize jU Tryz.prog ga gl gc sb so sc ms N n c cs=gY at q6⊢;obtain⟨v6,y6⟩:=oX q6;refine .go v6 fun Bj w7 t7 j7 r7 J7 Uy=>?_;obtain⟨eg7,e7,s7⟩:=jG iZ (iG r7);obtain rfl:=eg7.symm
 obtain⟨x1,x2,x3⟩:=J7.none iZ;have o7:(w7.cell? ⟨N+4,0,none⟩).isSome=true∧w7.frozen? ⟨N+4,0,none⟩=false:=by
  have:=iw (show w7.heap[N+4]?=_ by rw[e7];exact Xl)
  exact⟨by rw[this.1];rfl,this.2⟩
 have m7:qg dg (N+4):=⟨n6 _ (by omega),fun k=>(x1 k _).1,fun q hq=>by rw[iZ]at hq;cases hq⟩
 obtain⟨a1,a2⟩:=zo (w1:=w7.setCell ⟨N+4,0,none⟩ (.slice (some ⟨N+3,0,none⟩) n n)) (fn:=gY.frame.fn) (pos:=gY.frame.place) (es:= #[dq ⟨N+4,0,none⟩ true]) J7 ⟨rfl,rfl,rfl⟩ (Nat.le_of_eq cS.symm) (fun b' _ cD=>iY b' fun e=>by
  subst e;rcases cD with⟨k,hk⟩|hk|⟨p,hp,hk⟩
  ·exact hk.elim (x1 k _).1 (x1 k _).2
  ·exact m7.1 hk
  ·rw[iZ]at hp;cases hp) fun e he=>by
   simp at he;subst he
   exact ED m7 (fun _ k=>(x1 k _).2) (by rw[cS,e7,Xj];omega)
 refine⟨⟨gX,_,_,dg⟩,false,⟨y6 true w7 fun q hq=>by
  have:q=(⟨N+4,0,none⟩,.slice (some ⟨N+3,0,none⟩) n n):=by simpa using hq
  subst this;exact o7,a1,a2⟩,?_⟩
 show MP (sys Tryz.prog) Q false 0 dg (w7.setCell ⟨N+4,0,none⟩ (.slice (some ⟨N+3,0,none⟩) n n)) gX
 have H8:∀b,b≠N+4→(w7.setCell ⟨N+4,0,none⟩ (.slice (some ⟨N+3,0,none⟩) n n)).heap[b]?=w6.heap[b]?:=fun b hb=>by rw[iY b hb,e7]
 have B8:(w7.setCell ⟨N+4,0,none⟩ (.slice (some ⟨N+3,0,none⟩) n n)).heap[N+4]?=some (.cells #[.slice (some ⟨N+3,0,none⟩) n n] 104):=by rw[Bd,e7,Xl];simp
 have S8:bM w (w7.setCell ⟨N+4,0,none⟩ (.slice (some ⟨N+3,0,none⟩) n n)):=S6.trans s7
 have ZA:(w7.setCell ⟨N+4,0,none⟩ (.slice (some ⟨N+3,0,none⟩) n n)).heap.size=N+5:=by rw[cS,e7,Xj]
 generalize w7.setCell ⟨N+4,0,none⟩ (.slice (some ⟨N+3,0,none⟩) n n)=w8 at H8 B8 S8 ZA⊢;clear a1 a2;refine km (n:=2) u6 iZ fun w9 e9 s9=>?_;rw[a6];have q7:=R_ ga gl gc sb so sc ms N n c cs h1 h5;have u7:=PE ga gl gc sb so sc ms N n c cs h1 h5;have a7:aN Tryz.prog (9+1) (nx Tryz.prog (N+5) (mK Tryz.prog ga gl gc sb so sc ms N n c cs))=D7 Tryz.prog ga gl gc sb so sc ms N n c cs:=rfl
 rw[PF ga gl gc sb so sc ms N n c cs h1 h5]at a7;generalize nx Tryz.prog (N+5) (mK Tryz.prog ga gl gc sb so sc ms N n c cs)=gX at q7 u7 a7;generalize mK Tryz.prog ga gl gc sb so sc ms N n c cs=gY at q7⊢;obtain⟨v7,y7⟩:=iu q7;refine .go v7 fun uP wa ta ja ra Ja hda=>?_;obtain⟨ega,ea,sa⟩:=jG iZ (iG ra);obtain rfl:=ega.symm
 have Xm:wa.heap=w8.heap:=ea.trans e9
 have U5:wa.heap.size=N+5:=by rw[Xm,ZA]
 obtain⟨b1,b2⟩:=Uu (w1:={wa with heap:=wa.heap.push (.cells #[.int .u64 0,.int .u32 0] 191)}) (p:={wg:=N+5,A:=N+3,n,j0:=dg.j,ng:=fun i c=>(a i).cell c,eW:=191,eA:=107}) (cs:=z)
  Ja iZ Ja.j U5.symm h5 (by show N+3<wa.heap.size;rw[U5];omega) (n6 (N+3) (by omega)) (by
   show wa.heap[N+3]?=_
   rw[Xm,H8 _ (by omega),E6]
   (simp only[Array.getElem?_push,Array.size_push,hN];repeat (first|rw[if_pos trivial]|rw[if_pos (by omega)]|rw[if_neg (by omega)]))) hz ⟨rfl,rfl,rfl⟩ rfl
 refine⟨⟨gX,_,#[],dg.begin _⟩,false,⟨y7 true wa U5,b1.nil,b2⟩,?_⟩;show MP (sys Tryz.prog) Q false 0 (dg.begin {wg:=N+5,A:=N+3,n,j0:=dg.j,ng:=fun i c=>(a i).cell c,eW:=191,eA:=107}) {wa with heap:=wa.heap.push (.cells #[.int .u64 0,.int .u32 0] 191)} gX
 have Hb:∀b,b<N+5→(wa.heap.push (.cells #[.int .u64 0,.int .u32 0] 191))[b]?=w8.heap[b]?:=fun b hb=>by rw[Array.getElem?_push,if_neg (by omega),Xm]
 have Hc:∀b,b<N+4→(wa.heap.push (.cells #[.int .u64 0,.int .u32 0] 191))[b]?=w6.heap[b]?:=fun b hb=>(Hb b (by omega)).trans (H8 b (by omega))
 have AM:gJ ga gl gc ms N n {wg:=N+5,A:=N+3,n,j0:=dg.j,ng:=fun i c=>(a i).cell c,eW:=191,eA:=107} dg w (dg.begin {wg:=N+5,A:=N+3,n,j0:=dg.j,ng:=fun i c=>(a i).cell c,eW:=191,eA:=107})
   {wa with heap:=wa.heap.push (.cells #[.int .u64 0,.int .u32 0] 191)}:=by
  refine⟨S8.trans (s9.trans sa),by simp[U5],fun b=> .rfl,rfl,fun k b _=>(x1 k b).1,fun b hb _=>?_,?_,?_,?_,?_⟩
  ·show(wa.heap.push _)[b]?=_
   rw[Hc b (by omega),E6]
   simp only[Array.getElem?_push,Array.size_push,hN];repeat (first|rw[if_pos trivial]|rw[if_pos (by omega)]|rw[if_neg (by omega)])
  ·show(wa.heap.push _)[N]?=_
   rw[Hc N (by omega),E6]
   (simp only[Array.getElem?_push,Array.size_push,hN];repeat (first|rw[if_pos trivial]|rw[if_pos (by omega)]|rw[if_neg (by omega)]))
  ·show(wa.heap.push _)[N+1]?=_
   rw[Hc (N+1) (by omega),E6]
   (simp only[Array.getElem?_push,Array.size_push,hN];repeat (first|rw[if_pos trivial]|rw[if_pos (by omega)]|rw[if_neg (by omega)]))
  ·show(wa.heap.push _)[N+2]?=_
   rw[Hc (N+2) (by omega),E6]
   (simp only[Array.getElem?_push,Array.size_push,hN];repeat (first|rw[if_pos trivial]|rw[if_pos (by omega)]|rw[if_neg (by omega)]))
  ·show(wa.heap.push _)[N+4]?=_
   rw[Hb (N+4) (by omega)]
   exact B8
 have OB:iE (dg.begin {wg:=N+5,A:=N+3,n,j0:=dg.j,ng:=fun i c=>(a i).cell c,eW:=191,eA:=107}) {wg:=N+5,A:=N+3,n,j0:=dg.j,ng:=fun i c=>(a i).cell c,eW:=191,eA:=107} 0 (dg.j+0):=⟨rfl,x3,rfl,rfl⟩
 refine mS (n:=9) u7 fun γb wb rb=>?_;rw[a7];exact PM rfl rfl rfl rfl rfl (fun _ _=>rfl) h0 h1 h5 Db qJ cE IV K n 0 x0 γb wb (Nat.zero_add n) (AM.mv rfl h0 (Mv.of rb)) (OB.rely rb)
end
end Go.Proofs.YtjklkppncmhehaaGreat.Sr
namespace Go.Proofs.YtjklkppncmhehaaGreat.Sr
open Go Go.Conc Go.ConcN
def gw:Obj→Obj
 | .cells us e fz=> .cells us e (0,max us.size fz.2)
 |o=>o
def jH (v:World)(b1 b2:Obj):World:={v with heap:=((v.heap.map gw).push (gw b1)).push (gw b2)}
section
variable {v w:World}{b1 b2:Obj}{m:az}
theorem EF {r:Nat}(h:r<v.heap.size):(jH v b1 b2).heap[r]?=(v.heap[r]?).map gw:=by
 show(((v.heap.map gw).push (gw b1)).push (gw b2))[r]?=_
 rw[Array.getElem?_push,if_neg (by simp;omega),Array.getElem?_push,if_neg (by simp;omega),Array.getElem?_map]
theorem L1:(jH v b1 b2).heap[v.heap.size]?=some (gw b1):=by
 show(((v.heap.map gw).push (gw b1)).push (gw b2))[v.heap.size]?=_
 rw[Array.getElem?_push,if_neg (by simp),Array.getElem?_push,if_pos (by simp)]
theorem L2:(jH v b1 b2).heap[v.heap.size+1]?=some (gw b2):=by
 show(((v.heap.map gw).push (gw b1)).push (gw b2))[v.heap.size+1]?=_
 rw[Array.getElem?_push,if_pos (by simp)]
theorem Sk {p:Addr}(h:p.block<v.heap.size):(jH v b1 b2).cell? p=v.cell? p:=by
 unfold World.cell?;rw[EF h]
 cases v.heap[p.block]? with
 |none=>rfl
 |some o=>cases o<;>rfl
theorem xr {w:World}{b:Nat}{cs:Array Value}{e:TypeId}{f:Nat×Nat}(h:w.heap[b]?=some (.cells cs e f)):w.cell? ⟨b,0,none⟩=cs[0]?:=by
 unfold World.cell?;simp[h]
theorem zE {w:World}{r:Nat}{o:Obj}(h:w.heap[r]?=some (gw o))(hb:Da o):dV w r:=by
 rcases hb with⟨us,e,fz,rfl⟩|⟨a,l,rfl⟩
 ·exact .inl ⟨us,e,_,h,Nat.le_max_left ..⟩
 ·exact .inr ⟨a,l,h⟩
theorem lK.Xn {o p:Obj}(h:lK m o p):Da o:=by
 rcases h with⟨us,vs,e,fz,gz,rfl,rfl,_,_⟩|⟨a,b,l,rfl,rfl,_⟩
 ·exact .inl ⟨us,e,fz,rfl⟩
 ·exact .inr ⟨a,l,rfl⟩
theorem lK.fz {o p:Obj}(h:lK m o p):lK m (gw o) p:=by
 rcases h with⟨us,vs,e,fz,gz,rfl,rfl,hf,ha⟩|⟨a,b,l,rfl,rfl,ha⟩
 ·refine .inl ⟨us,vs,e,_,gz,rfl,rfl,fun o h1 h2=>⟨Nat.zero_le _,?_⟩,ha⟩
  have:=(hf o h1 h2).2
  show o<max us.size fz.2
  omega
 ·exact .inr ⟨a,b,l,rfl,rfl,ha⟩
theorem EG {m:az}{r t:Nat}(h:m r=none):az.le m (m.put r t):=by
 refine⟨fun q u hq=>?_,rfl⟩
 show(if q=r then some t else m q)=some u
 by_cases e:q=r
 ·subst e;rw[h]at hq;cases hq
 ·rw[if_neg e];exact hq
theorem EH {m:az}{r t:Nat}:(m.put r t) r=some t:=by
 show(if r=r then some t else m r)=some t
 simp
theorem l8 {m:az}{r t q u:Nat}(h:(m.put r t) q=some u):(q=r∧u=t)∨m q=some u:=by
 have h':(if q=r then some t else m q)=some u:=h
 by_cases e:q=r
 ·rw[if_pos e]at h';exact .inl ⟨e,(Option.some.inj h').symm⟩
 ·rw[if_neg e]at h';exact .inr h'
theorem WR.Sl (h:WR m v w){r:Nat}(hr:v.heap.size≤r):m r=none:=by
 cases e:m r with
 |none=>rfl
 |some t=>exact absurd (h.lt e).1 (by omega)
end
section
variable {P:Program}{F:Array Func}{spec:FuncId→Bool}{m:az}{τ:TypeId}
theorem FR.enter (B:iC τ P F spec m.good){f:FuncId}{us vs:Array Value}(hg:m.good f=true)(hs:spec f=false)(h:AR m us vs):
  FR P spec m (Frame.enter (Program.mk (Program.toTables P) F) f us .normal) (Frame.enter P f vs .normal):=by
 obtain⟨fr,e1,e2,e3⟩:=B.same f hg hs;have en:∀(Q:Program) (xs:Array Value),Q.funcs[f]?=some fr→Frame.enter Q f xs .normal=aH f (xs++Array.replicate (fr.ntmps-xs.size) undef) [.code (fr.body.getD (.refuse "unsupported: a function without a Go body is entered"))] .run:=by
  intro Q xs hq;simp[Frame.enter,hq,aH]
 rw[en _ us e1,en _ vs e2,h.1];refine .mk f _ .run hs hg ?_ (fun x hx=>?_) (.inl rfl)
 ·refine⟨by simp[h.1],fun i h1 h2=>?_⟩
  by_cases hi:i<us.size
  ·rw[Array.getElem_append_left hi,Array.getElem_append_left (by rw[←h.1];exact hi)]
   exact h.2 i hi _
  ·rw[Array.getElem_append_right (by omega),Array.getElem_append_right (by rw[←h.1];omega)]
   simp only[Array.getElem_replicate];exact Cc (m:=m) undef rfl
 ·simp only[List.mem_singleton]at hx
  subst hx;show gG P m.good _=true
  unfold nn at e3
  cases hb:fr.body with
  |none=>rw[hb]at e3;cases e3
  |some c=>rw[hb]at e3;exact e3
end
theorem EI {us:Array Value}(h:us.size=3):∃a b x,us= #[a,b,x]:=by
 obtain⟨l⟩:=us;match l,h with
 |[a,b,x],_=>exact⟨a,b,x,rfl⟩
theorem U6 {spec:FuncId→Bool}{m:az}(B:iC tF Tryz.prog Tw.prog.funcs spec m.good)(zF:∀f,spec f=true→f=cU){A:Value}{f' f:Frame}{fs' fs:List Frame}{v:World}(he:kE Tryz.prog Tw.prog.funcs spec m f' f)(sg:lj Tryz.prog spec m fs' fs)(bY:fs'≠[]):
  ¬Ends (Program.mk (Program.toTables Tryz.prog) Tw.prog.funcs) (bE (Program.mk (Program.toTables Tryz.prog) Tw.prog.funcs) fun e _=>e= .returned A) f' (fs'++[cJ]) v:=by
 intro hE;obtain⟨g,us,vs,e1,h1,h2,_,h3⟩:=pd he;have:=zF g e1
 subst this;subst h1;obtain⟨a,b,x,rfl⟩:=EI (h3 3 rfl);obtain⟨v',_,hR⟩:=qP (R:=fun e _=>e= .returned A) (fun _ h=>(by cases h)) (gs:=fs') rfl (uw B sg) hE
 cases hR
section
variable {w0 w:World}{gT γ:Gh}{m:az}{v:World}{ga Sm:Addr}{gl gc:Nat}{ms:Int}{N n:Nat}{p:Ph}{gs:Nat→Int}{a:Nat→eQ}
theorem Nd {m:az}{r t:Nat}(h:m r=some t):VR m (ptr r) (ptr t):= .ptr ⟨h,rfl,rfl,rfl⟩
theorem qf.grow {k:Nat}{qb gb ab ib:Nat}{fv gv av iv:Value}{w1:World}{x y:Nat}(h:qf k p qb gb ab ib fv gv av iv γ w)(hh:∀b,γ.ro k b→w1.heap[b]?=w.heap[b]?):qf k p qb gb ab ib fv gv av iv (γ.grow k x y) w1:=by
 obtain⟨o1,o2,o3,o4⟩:=h.ro;have key:∀{b:Nat} {v:Value},γ.ro k b→w.cell? ⟨b,0,none⟩=some v∧w.frozen? ⟨b,0,none⟩=false→w1.cell? ⟨b,0,none⟩=some v∧w1.frozen? ⟨b,0,none⟩=false:=by
  intro b v hb hc;have e:=hh b hb;rw[cell_of e,zw e];exact hc
 exact⟨h.ph,h.st,h.ro,key o1 h.cq,key o2 h.cg,key o3 h.ca,key o4 h.ci⟩
set_option maxRecDepth 100000 in
theorem Sn {good spec:FuncId→Bool}(B:iC tF Tryz.prog Tw.prog.funcs spec good)(zF:∀f,spec f=true→f=cU)(So:spec 121=false)(IW:good 121=true)(Sp:m.good=good)(hw:WR m (v.on w0.tape w0.drawn) w0)(hN:w0.heap.size=N)(IX:bp m ga Sm)(qJ:∀r t,m r=some t→¬gT.sh t)
  (hA:p.A=N+3) (WI:p.wg=N+5) (hn:p.n=n) (h5:n≤5) (Gt:p.eW=191) (uG:∀i c,p.ng i c=(a i).cell c)
  (ask:∀i,i<n→∀(u:World) (gb mb:Nat),(∀q:Addr,q.block<v.heap.size→u.cell? q=v.cell? q)→u.cell? ⟨gb,0,none⟩=some (.slice (some ga) gl gc)→u.cell? ⟨mb,0,none⟩=some (.int .i64 ms)→
   Calls Tw.prog 121 #[.int .i64 (gs i),ptr gb,ptr mb] u fun e _=>e= .returned (a i).val):EE Sm gl gc ms N n p gs gT w0:=by
 subst Sp;intro i hi γ w gb ib ZB eT hold zG;obtain⟨qI,si,lT,fj⟩:=zG;have ek:p.j0+i+1-p.j0-1=i:=by omega
 let B1:Obj:= .cells #[.slice (some ga) gl gc] 23
 let B2:Obj:= .cells #[.int .i64 ms] 3
 let mW:az:=(m.put v.heap.size N).put (v.heap.size+1) (N+1)
 have ye:∀r t,m r=some t→r<v.heap.size∧t<N:=fun r t h=>by
  have:=hw.lt h
  rw[hN]at this;exact this
 have n1:m v.heap.size=none:=by
  cases e:m v.heap.size with
  |none=>rfl
  |some t=>exact absurd (ye _ _ e).1 (by omega)
 have n2:(m.put v.heap.size N) (v.heap.size+1)=none:=by
  cases e:(m.put v.heap.size N) (v.heap.size+1)with
  |none=>rfl
  |some t=>
   rcases l8 e with⟨h1,_⟩|h1
   ·omega
   ·exact absurd (ye _ _ h1).1 (by omega)
 have Sq:az.le m (m.put v.heap.size N):=EG n1
 have ZC:az.le (m.put v.heap.size N) mW:=EG n2
 have le:az.le m mW:=⟨fun r t h=>ZC.sub r t (Sq.sub r t h),rfl⟩
 have mN:mW v.heap.size=some N:=ZC.sub _ _ EH
 have mN1:mW (v.heap.size+1)=some (N+1):=EH
 have split:∀{r t:Nat},mW r=some t→m r=some t∨(r=v.heap.size∧t=N)∨(r=v.heap.size+1∧t=N+1):=fun h=>by
  rcases l8 h with h|h
  ·exact .inr (.inr h)
  ·rcases l8 h with h|h
   ·exact .inr (.inl h)
   ·exact .inl h
 let F:Gh→World→Prop:=fun γ w=>qf (p.j0+i+1) p (N+2) gb (N+4) ib (H3 N) (.int .i64 (gs i)) (.slice (some ⟨N+3,0,none⟩) n n) (.int .i64 i) γ w∧bM w0 w∧(∀b,b<N→¬gT.sh b→γ.ro (p.j0+i+1) b∧w.heap[b]?=w0.heap[b]?)∧
  γ.ro (p.j0+i+1) N∧γ.ro (p.j0+i+1) (N+1)∧w.heap[N]?=some (.cells #[.slice (some Sm) gl gc] 23)∧w.heap[N+1]?=some (.cells #[.int .i64 ms] 3)
 have f0:F γ w:=⟨ZB,eT,hold,qI,si,lT,fj⟩
 have fR:∀γ w ah w',F γ w→RR (p.j0+i+1) γ w ah w'→F ah w':=by
  rintro γ w ah w' ⟨b1,b2,b3,b4,b5,b6,b7⟩ r;have Ss:=b1.rely (by omega) r
  obtain⟨_,_,r3,_,_,_,r7,_⟩:=(kh (by omega) r).live (oj b1.st (by decide))
  exact⟨Ss,b2.trans (kh (by omega) r).same,fun b hb hn=>⟨(r3 _).2 (b3 b hb hn).1,(r7 b (.inr (b3 b hb hn).1)).trans (b3 b hb hn).2⟩,(r3 _).2 b4,(r3 _).2 b5,(r7 _ (.inr b4)).trans b6,(r7 _ (.inr b5)).trans b7⟩
 have fG:∀γ w w1,F γ w→(∀b,γ.ro (p.j0+i+1) b→w1.heap[b]?=w.heap[b]?)→bM w w1→F (γ.grow (p.j0+i+1) w.heap.size w1.heap.size) w1:=by
  rintro γ w w1 ⟨b1,b2,b3,b4,b5,b6,b7⟩ hh hs;exact⟨b1.grow hh,b2.trans hs,fun b hb hn=>⟨(b3 b hb hn).1,(hh b (b3 b hb hn).1).trans (b3 b hb hn).2⟩,b4,b5,(hh _ b4).trans b6,(hh _ b5).trans b7⟩
 have hE:Ends Tw.prog (bE Tw.prog fun e _=>e= .returned (a i).val) (Frame.enter Tw.prog 121 #[.int .i64 (gs i),ptr v.heap.size,ptr (v.heap.size+1)] .normal) [cJ] (jH v B1 B2):=by
  refine ends_of_calls (fun _ h=>(by cases h)) fun T=>ask i hi ((jH v B1 B2).on T 0) v.heap.size (v.heap.size+1) (fun q hq=>Sk hq) ?_ ?_
  ·exact xr (L1 (b1:=B1) (b2:=B2))
  ·exact xr (L2 (b1:=B1) (b2:=B2))
 rw[←WI];refine Gv F (fv:=H3 N) (gi:=gs i) (a:=a i) rfl Gt hn h5 (by omega) (by omega) (fun c _=>by rw[ek];exact uG i c) (fun γ w h=>by rw[ek,hA];exact h.1) fR (fun x5 x6 l aX w1 h1 K=>?_) f0
 obtain⟨b1,b2,b3,b4,b5,b6,b7⟩:=h1;have hWR:WR mW ((jH v B1 B2).on w1.tape w1.drawn) w1:=by
  refine⟨fun r s t hr hs=>?_,fun r t hr=>?_,b2.2.1.trans hw.os,rfl,rfl⟩
  ·rcases split hr with h1|⟨h1,h2⟩|⟨h1,h2⟩<;>rcases split hs with h3|⟨h3,h4⟩|⟨h3,h4⟩
   ·exact hw.inj r s t h1 h3
   ·exact absurd (ye _ _ h1).2 (by omega)
   ·exact absurd (ye _ _ h1).2 (by omega)
   ·exact absurd (ye _ _ h3).2 (by omega)
   ·omega
   ·omega
   ·exact absurd (ye _ _ h3).2 (by omega)
   ·omega
   ·omega
  ·rcases split hr with h1|⟨h1,h2⟩|⟨h1,h2⟩
   ·obtain⟨o,q,d1,d2,d3⟩:=hw.kM r t h1
    refine⟨gw o,q,?_,((b3 t (ye _ _ h1).2 (qJ _ _ h1)).2).trans d2,d3.fz.mono le⟩;show(jH v B1 B2).heap[r]?=_
    rw[EF (ye _ _ h1).1];have Xo:v.heap[r]?=some o:=d1
    rw[Xo];rfl
   ·subst h1 h2
    refine⟨_,_,L1,b6,lK.fz (o:=B1) (.cells (Fz.refl _) ⟨rfl,fun i h1 h2=>?_⟩)⟩
    obtain rfl:i=0:=by simp at h1;exact h1
    exact .slice gl gc ⟨le.sub _ _ IX.1,IX.2.1,IX.2.2.1,IX.2.2.2⟩
   ·subst h1 h2
    refine⟨_,_,L2,b7,lK.fz (o:=B2) (.cells (Fz.refl _) ⟨rfl,fun i h1 h2=>?_⟩)⟩
    obtain rfl:i=0:=by simp at h1;exact h1
    exact .int _ _
 have hI:ot (p.j0+i+1) mW (jH v B1 B2) aX:=by
  intro r t hr;left
  rcases split hr with h1|⟨h1,h2⟩|⟨h1,h2⟩
  ·obtain⟨o,q,d1,d2,d3⟩:=hw.kM r t h1
   have Xo:v.heap[r]?=some o:=d1
   exact⟨zE (o:=o) (by rw[EF (ye _ _ h1).1,Xo];rfl) d3.Xn,(b3 t (ye _ _ h1).2 (qJ _ _ h1)).1⟩
  ·subst h1 h2
   exact⟨zE (o:=B1) L1 (.inl ⟨_,_,_,rfl⟩),b4⟩
  ·subst h1 h2
   exact⟨zE (o:=B2) L2 (.inl ⟨_,_,_,rfl⟩),b5⟩
 have fI:FR Tryz.prog spec mW (Frame.enter Tw.prog 121 #[.int .i64 (gs i),ptr v.heap.size,ptr (v.heap.size+1)] .normal) (Frame.enter Tryz.prog 121 #[.int .i64 (gs i),ptr N,ptr (N+1)] .normal):=by
  refine FR.enter (m:=mW) (F:=Tw.prog.funcs) (P:=Tryz.prog) B IW So ⟨rfl,fun j h1 h2=>?_⟩
  obtain rfl|rfl|rfl:j=0∨j=1∨j=2:=by simp at h1;omega
  ·exact .int _ _
  ·exact Nd mN
  ·exact Nd mN1
 exact OM (P:=Tryz.prog) (F0:=Tw.prog.funcs) (spec:=spec) (good:=m.good) (R:=fun e _=>e= .returned (a i).val) (p:=p) B (fun _ h=>(by cases h)) (fun x w _ h=>(by cases h)) (a:=a i) (fun x w h=>by injection h) F (by omega)
  (fun {n f' f fs' fs v} uQ he sg bY=>U6 (uQ▸B) zF he sg bY) (fun γ w h=>⟨h.1.ph,h.1.st⟩) fR fG
  (c:=Q5 Tryz.prog p.wg (N+2) gb (N+4) ib x5 x6 (H3 N) (.int .i64 (gs i)) undef undef (4::l)) (e0:=[xk Tryz.prog]) (fun γ w h=>K γ w h) hE (fs':=[]) (fs:=[]) (m:=mW) rfl rfl fI .nil hWR hI ⟨b1,b2,b3,b4,b5,b6,b7⟩
end
end Go.Proofs.YtjklkppncmhehaaGreat.Sr
