/-
What is proved: the starter's steps at memory of its own ('MP.alloc', 'MP.put', 'MP.get', 'MP.look'). Conditions: those that each theorem states. the starter's way through impl.entriesOf ('ask_way'). Conditions: those that the theorem states. what a worker of impl.ask has to be shown to do follows from the contract of its question at a lone run ('work_ok'). Conditions: those that the theorem states.
-/
import Derived.Test.YtjklkppncmhehaaGreatRa20
import Derived.Test.YtjklkppncmhehaaGreatRa22
import Derived.Test.YtjklkppncmhehaaGreatRa14
import Derived.Test.YtjklkppncmhehaaGreatRa15
set_option linter.unusedVariables false
set_option linter.unusedSimpArgs false
namespace Go.Proofs.YtjklkppncmhehaaGreat.Sr
open Go Go.Conc Go.ConcN
section
variable {P:Program}{Q:Gh→World→Trace→Nat→Outcome→World→Prop}{d:Nat}{γ af:Gh}{w w':World}{g g':Goroutine}{b o:Nat}{x v:Value}
def nL (γ:Gh)(b:Nat):Prop:=¬γ.sh b∧(∀k,¬γ.ow k b)∧∀p,γ.ph=some p→b≠p.A
theorem nL.rely (h:nL γ b)(hb:b<w.heap.size)(r:RM γ w af w'):nL af b∧w'.heap[b]?=w.heap[b]?:=by
 obtain⟨U,h2,h3⟩:=h;obtain⟨g1,g2,_⟩:=r.gh;exact⟨⟨by rw[g1];exact U,fun k hk=>h2 k ((r.ow k b hb).1 hk),fun p hp=>h3 p (g2▸hp)⟩,r.heap b hb h2 U h3⟩
theorem nb (h:∀k,¬γ.ro k b)(r:RM γ w af w'):∀k,¬af.ro k b:=by
 obtain⟨_,_,g3,_⟩:=r.gh;rw[g3];exact h
theorem Bs {j B:Nat}{wr:Bool}(h:nL γ b)(hr:wr=true→∀k,¬γ.ro k b)(hB:b<B):tb γ j B (cD ⟨b,o,none⟩ wr):=by
 refine⟨fun z hz=> .inr ?_,hB,nofun⟩
 have:z=⟨.cell ⟨b,o,none⟩,wr,.plain⟩:=(Option.some.inj hz).symm
 subst this;refine⟨fun⟨a,ha,hs⟩=>?_,fun k _ _ hk=>?_,fun hw k _ _ ⟨b',cv,hk⟩=>?_⟩
 ·cases ha;exact h.1 hs
 ·rcases hk with⟨b',cv,hk⟩|⟨a,ha,p,hp,_,hA,_⟩
  ·cases cv;exact h.2.1 k hk
  ·cases ha;exact h.2.2 p hp hA
 ·cases cv;exact hr hw k hk
theorem MP.alloc (hs:g.status= .running)(h:∀af w' t j,RM γ w af w'→JJ af w' t j→∃g' ob,cz P w'.heap.size g=some (g',#[],ob)∧MP (sys P) Q false d af {w' with heap:=w'.heap.push ob} g'):MP (sys P) Q false d γ w g:=by
 refine .go hs fun aQ w1 t j hR hJ hd=>?_;obtain⟨g',ob,hq,hm⟩:=h aQ w1 t j (fX hR) hJ;obtain⟨a1,a2⟩:=vW (w1:={w1 with heap:=w1.heap.push ob}) (fn:=g.frame.fn) (pos:=g.frame.place) (es:= #[]) hJ ⟨rfl,rfl,rfl⟩ (by simp) (fun b hb _=>by
  show(w1.heap.push ob)[b]?=_
  rw[Array.getElem?_push,if_neg (by omega)]) fun e he=>by simp at he
 exact⟨⟨g',_,#[],aQ⟩,false,⟨(fM hq).2 true w1 rfl,a1,a2⟩,hm⟩
theorem MP.put (hq:iL P g=some (g',#[cD ⟨b,o,none⟩ true],[(⟨b,o,none⟩,x)]))(hb:b<w.heap.size)(hm:nL γ b)(hr:∀k,¬γ.ro k b)(hc:(w.cell? ⟨b,o,none⟩).isSome=true∧w.frozen? ⟨b,o,none⟩=false)
  (K:∀af w',RM γ w af w'→MP (sys P) Q false d af (w'.setCell ⟨b,o,none⟩ x) g'):MP (sys P) Q false d γ w g:=by
 obtain⟨s1,s2⟩:=mQ hq;refine .go s1 fun aQ w1 t j hR hJ hd=>?_;have r:=fX hR;obtain⟨m1,e1⟩:=hm.rely hb r;have r1:=nb hr r;have Tb:b<w1.heap.size:=Nat.lt_of_lt_of_le hb r.size
 have nT:(w1.cell? ⟨b,o,none⟩).isSome=true∧w1.frozen? ⟨b,o,none⟩=false:=by
  have c1:w1.cell? ⟨b,o,none⟩=w.cell? ⟨b,o,none⟩:=cell_of e1
  have c2:w1.frozen? ⟨b,o,none⟩=w.frozen? ⟨b,o,none⟩:=by unfold World.frozen?;rw[show w1.heap[(⟨b,o,none⟩:Addr).block]?=w.heap[(⟨b,o,none⟩:Addr).block]? from e1]
  rw[c1,c2];exact hc
 obtain⟨a1,a2⟩:=vW (w1:=w1.setCell ⟨b,o,none⟩ x) (fn:=g.frame.fn) (pos:=g.frame.place) (es:= #[cD ⟨b,o,none⟩ true]) hJ ⟨rfl,rfl,rfl⟩ (Nat.le_of_eq cj.symm) (fun b' _ cv=>gq b' fun e=>by
  subst e;rcases cv with⟨k,hk⟩|hk|⟨p,hp,hk⟩
  ·exact hk.elim (m1.2.1 k) (r1 k)
  ·exact m1.1 hk
  ·exact m1.2.2 p hp hk) fun e he=>by
   simp at he;subst he
   exact Bs m1 (fun _=>r1) (by rw[cj];exact Tb)
 exact⟨⟨g',_,_,aQ⟩,false,⟨s2 true w1 fun q hq=>by
  have:q=(⟨b,o,none⟩,x):=by simpa using hq
  subst this;exact nT,a1,a2⟩,K aQ w1 r⟩
theorem OC {t:Trace}{j:Nat}{fn:FuncId}{pos:String}(hJ:JJ γ w t j)(hm:nL γ b)(hb:b<w.heap.size):JJ γ w (t++MemOp.ofEvents 0 fn pos #[cD ⟨b,o,none⟩ false]) j∧∀k',k'≠0→RR k' γ w γ w:=
 lD hJ (Bs hm nofun hb)
theorem MP.get (hq:aZ P v none g=some ⟨g',#[cD ⟨b,o,none⟩ false],[⟨b,o,none⟩],[],none⟩)(hb:b<w.heap.size)(hm:nL γ b)(hc:w.cell? ⟨b,o,none⟩=some v∧w.frozen? ⟨b,o,none⟩=false)
  (K:∀af w',RM γ w af w'→MP (sys P) Q false d af w' g'):MP (sys P) Q false d γ w g:=by
 refine .qE (vS hq).1 fun aQ w1 t j r hJ hd=>?_;obtain⟨m1,e1⟩:=hm.rely hb r;obtain⟨a1,a2⟩:=OC (o:=o) (fn:=g.frame.fn) (pos:=g.frame.place) hJ m1 (Nat.lt_of_lt_of_le hb r.size);refine⟨_,_,_,aQ,false,hq,fun a ha=>?_,fun q hq=>(by cases hq),a1,a2,K aQ w1 r⟩
 have:a=⟨b,o,none⟩:=by simpa using ha
 subst this;have c1:w1.cell? ⟨b,o,none⟩=w.cell? ⟨b,o,none⟩:=cell_of e1
 have c2:w1.frozen? ⟨b,o,none⟩=w.frozen? ⟨b,o,none⟩:=by unfold World.frozen?;rw[show w1.heap[(⟨b,o,none⟩:Addr).block]?=w.heap[(⟨b,o,none⟩:Addr).block]? from e1]
 rw[c1,c2];exact hc
theorem MP.look (hq:dW P v g=some (g',#[cD ⟨b,o,none⟩ false],[⟨b,o,none⟩]))(hb:b<w.heap.size)(hm:nL γ b)(hc:w.cell? ⟨b,o,none⟩=some v)
  (K:∀af w',RM γ w af w'→MP (sys P) Q false d af w' g'):MP (sys P) Q false d γ w g:=by
 obtain⟨s1,s2⟩:=AG hq;refine .go s1 fun aQ w1 t j hR hJ hd=>?_;have r:=fX hR;obtain⟨m1,e1⟩:=hm.rely hb r;obtain⟨a1,a2⟩:=OC (o:=o) (fn:=g.frame.fn) (pos:=g.frame.place) hJ m1 (Nat.lt_of_lt_of_le hb r.size);refine⟨⟨g',w1,_,aQ⟩,false,⟨s2 true w1 fun a ha=>?_,a1,a2⟩,K aQ w1 r⟩
 have:a=⟨b,o,none⟩:=by simpa using ha
 subst this;have c1:w1.cell? ⟨b,o,none⟩=w.cell? ⟨b,o,none⟩:=cell_of e1
 rw[c1];exact hc
theorem ik (hn:γ.ph=none)(r:RM γ w af w'):af=γ∧w'.heap=w.heap∧br w w':=⟨(r.none hn).1,(r.none hn).2,r.same⟩
theorem br.trans {a b c:World}(h:br a b)(g:br b c):br a c:=⟨g.1.trans h.1,g.2.1.trans h.2.1,g.2.2.trans h.2.2⟩
theorem iQ {n:Nat}(hm:mute P (n+1) g=true)(hn:γ.ph=none)(h:∀w',w'.heap=w.heap→br w w'→MP (sys P) Q false d γ w' (aE P (n+1) g)):MP (sys P) Q false d γ w g:=
 mS hm fun aQ w1 r=>by
  obtain⟨rfl,e,s⟩:=ik hn r;exact h w1 e s
theorem MP.uY {r:Nat}{ob:Obj}(hq:cz P r g=some (g',#[],ob))(hn:γ.ph=none)(hr:w.heap.size=r)(h:∀w',w'.heap=w.heap.push ob→br w w'→MP (sys P) Q false d γ w' g'):MP (sys P) Q false d γ w g:=
 .alloc (fM hq).1 fun aQ w1 t j r1 hJ=>by
  obtain⟨rfl,e,s⟩:=ik hn r1;refine⟨g',ob,by rw[e,hr];exact hq,h _ (by show w1.heap.push ob=_;rw[e]) s⟩
end
end Go.Proofs.YtjklkppncmhehaaGreat.Sr
namespace Go.Proofs.YtjklkppncmhehaaGreat.Sr
open Go Go.Conc Go.ConcN
section
variable {Q:Gh→World→Trace→Nat→Outcome→World→Prop}
structure eX (ga:Addr) (gl gc:Nat) (ms:Int) (N n:Nat) (p:Ph) (fh:Gh) (w0:World) (γ:Gh) (w:World):Prop where
 same:br w0 w
 size:N+6≤w.heap.size
 sh:∀b,γ.sh b↔fh.sh b∨b=N+5
 ph:γ.ph=some p
 ow:∀k b,b<N+6→¬γ.ow k b
 old:∀b,b<N→¬fh.sh b→w.heap[b]?=w0.heap[b]?
 b0:w.heap[N]?=some (.cells #[.slice (some ga) gl gc] 23)
 b1:w.heap[N+1]?=some (.cells #[.int .i64 ms] 3)
 b2:w.heap[N+2]?=some (.cells #[Ey N] 145)
 b4:w.heap[N+4]?=some (.cells #[.slice (some ⟨N+3,0,none⟩) n n] 104)
variable {ga:Addr}{gl gc sb so sc:Nat}{ms:Int}{N n:Nat}{c:Frame}{cs:List Frame}{p:Ph}{fh γ af:Gh}{w0 w w':World}
theorem eX.mv (h:eX ga gl gc ms N n p fh w0 γ w)(hA:p.A=N+3)(h0:∀b,fh.sh b→b<N)(r:Mv γ w af w'):eX ga gl gc ms N n p fh w0 af w':=by
 obtain⟨r1,r2,r3,r4⟩:=r.gh;have hs:=h.size;have key:∀b,b<N+5→¬fh.sh b→b≠N+3→w'.heap[b]?=w.heap[b]?:=fun b hb hn cG=>
  r.heap b (by omega) (fun k=>h.ow k b (by omega)) (fun e=>((h.sh b).1 e).elim hn fun e=>by omega) fun q hq=>by
   rw[h.ph]at hq;cases hq;rw[hA];exact cG
 have n0:∀b,N≤b→¬fh.sh b:=fun b hb e=>by have:=h0 b e;omega
 exact⟨h.same.trans r.same,Nat.le_trans hs r.size,by rw[r1];exact h.sh,r2.trans h.ph,fun k b hb e=>h.ow k b hb ((r.ow k b (by omega)).1 e),fun b hb hn=>(key b (by omega) hn (by omega)).trans (h.old b hb hn),
  (key N (by omega) (n0 _ (by omega)) (by omega)).trans h.b0,(key (N+1) (by omega) (n0 _ (by omega)) (by omega)).trans h.b1,(key (N+2) (by omega) (n0 _ (by omega)) (by omega)).trans h.b2,(key (N+4) (by omega) (n0 _ (by omega)) (by omega)).trans h.b4⟩
theorem eX.own (h:eX ga gl gc ms N n p fh w0 γ w)(hs:w.heap.size≤w'.heap.size)(hh:∀b,b<N+6→w'.heap[b]?=w.heap[b]?)(ho:br w w'):eX ga gl gc ms N n p fh w0 γ w':=
 ⟨h.same.trans ho,Nat.le_trans h.size hs,h.sh,h.ph,h.ow,fun b hb hn=>(hh b (by omega)).trans (h.old b hb hn),(hh _ (by omega)).trans h.b0,(hh _ (by omega)).trans h.b1,(hh _ (by omega)).trans h.b2,(hh _ (by omega)).trans h.b4⟩
theorem fO {w:World}{b:Nat}{v:Value}{t:TypeId}(h:w.heap[b]?=some (.cells #[v] t)):w.cell? ⟨b,0,none⟩=some v∧w.frozen? ⟨b,0,none⟩=false:=by
 unfold World.cell? World.frozen?;simp[h]
theorem IE {i g:Nat}{gi:Int}{x:Nat→Value}(hA:p.A=N+3)(hW:p.wg=N+5)(C4:p.eW=191)(hn:p.n=n)(h0:∀b,fh.sh b→b<N)(h5:n≤5)(hi:i<n)
  (hM:eX ga gl gc ms N n p fh w0 γ w) (hO:fW γ p 0 (p.j0+i)) (zL:sb<N) (ot:¬fh.sh sb) (b_:w0.cell? ⟨sb,so+i,none⟩=some (.int .i64 gi))
  (Fv:∀γ w gb ib,nK (p.j0+i+1) p (N+2) gb (N+4) ib (Ey N) (.int .i64 gi) (.slice (some ⟨N+3,0,none⟩) n n) (.int .i64 i) γ w→br w0 w→(∀b,b<N→¬fh.sh b→γ.ro (p.j0+i+1) b∧w.heap[b]?=w0.heap[b]?)→
   γ.ro (p.j0+i+1) N∧γ.ro (p.j0+i+1) (N+1)∧w.heap[N]?=some (.cells #[.slice (some ga) gl gc] 23)∧w.heap[N+1]?=some (.cells #[.int .i64 ms] 3)→WP (sys Tryz.prog) (p.j0+i+1) 0 γ w (G4 Tryz.prog (N+5) (N+2) gb (N+4) ib))
  (K:∀af w' x',eX ga gl gc ms N n p fh w0 af w'→fW af p 0 (p.j0+(i+1))→MP (sys Tryz.prog) Q false 0 af w' (cm Tryz.prog ga gl gc sb so sc ms N n c cs ((i+1:Nat):Int) x' (cp Tryz.prog))):
  MP (sys Tryz.prog) Q false 0 γ w (cm Tryz.prog ga gl gc sb so sc ms N n c cs (i:Nat) x (cp Tryz.prog)):=by
 refine mS (n:=12) (Oz ga gl gc sb so sc ms N n c cs x i hi h5) fun aQ w1 r1=>?_;have M1:=hM.mv hA h0 (Mv.of r1);have O1:=hO.rely r1;have s1:=M1.size;have mine:∀{γ w} (h:eX ga gl gc ms N n p fh w0 γ w) b,b<N+5→b≠N+3→¬fh.sh b→nL γ b:=fun h b hb cG Cu=>⟨fun e=>((h.sh b).1 e).elim Cu fun e=>by omega,fun k=>h.ow k b (by omega),fun q hq=>by rw[h.ph]at hq;cases hq;rw[hA];exact cG⟩
 refine MP.look (OA ga gl gc sb so sc ms N n c cs x i hi h5 gi) (by omega) (mine M1 sb (by omega) (by omega) ot) ?_ fun cw w2 r2=>?_
 ·have:w1.cell? ⟨sb,so+i,none⟩=w0.cell? ⟨sb,so+i,none⟩:=cell_of (M1.old sb zL ot)
  rw[this];exact b_
 have M2:=M1.mv hA h0 (Mv.of r2);have O2:=O1.rely r2;refine MP.alloc (fM (EW ga gl gc sb so sc ms N n c cs (i:Nat) _ 0)).1 fun j_ w3 t3 j3 r3 J3=>?_;have M3:=M2.mv hA h0 (Mv.of r3);have O3:=O2.rely r3;refine⟨_,_,EW ga gl gc sb so sc ms N n c cs (i:Nat) _ w3.heap.size,?_⟩;have sz3:=M3.size;generalize oq:w3.heap.size=dL;have Wf:eX ga gl gc ms N n p fh w0 j_ {w3 with heap:=w3.heap.push (.cells #[.int .i64 0] 3)}:=M3.own (by simp) (fun b hb=>by
  show(w3.heap.push _)[b]?=_
  rw[Array.getElem?_push,if_neg (by omega)]) ⟨rfl,rfl,rfl⟩
 have m3:nL j_ dL:=⟨fun e=>by have:=J3.cT _ e;omega,fun k e=>by have:=J3.kH _ _ e;omega,fun q hq=>by rw[M3.ph]at hq;cases hq;rw[hA];omega⟩
 have n3:∀k,¬j_.ro k dL:=fun k e=>by have:=J3.jm _ _ e;omega
 have c3:({w3 with heap:=w3.heap.push (.cells #[.int .i64 0] 3)}:World).heap[dL]?=some (.cells #[.int .i64 0] 3):=by
  show(w3.heap.push _)[dL]?=_
  rw[←oq];simp
 have z3:dL<({w3 with heap:=w3.heap.push (.cells #[.int .i64 0] 3)}:World).heap.size:=by
  show dL<(w3.heap.push _).size
  simp;omega
 generalize({w3 with heap:=w3.heap.push (.cells #[.int .i64 0] 3)}:World)=Wg at Wf c3 z3
 refine MP.alloc (fM (EX ga gl gc sb so sc ms N n c cs (i:Nat) _ dL 0)).1 fun dQ w4 t4 j4 r4 J4=>?_;have M4:=Wf.mv hA h0 (Mv.of r4);have O4:=O3.rely (w:=Wg) r4;refine⟨_,_,EX ga gl gc sb so sc ms N n c cs (i:Nat) _ dL w4.heap.size,?_⟩;obtain⟨m4,e4⟩:=m3.rely z3 r4;have n4:=nb n3 r4;have sz4:=M4.size;have z4:dL<w4.heap.size:=Nat.lt_of_lt_of_le z3 r4.size
 have gr1:N+6≤dL:=by omega
 generalize vO:w4.heap.size=fi;have pu:∀b,b<fi→(w4.heap.push (.cells #[.int .i64 0] 3))[b]?=w4.heap[b]?:=fun b hb=>by rw[Array.getElem?_push,if_neg (by omega)]
 have Wh:eX ga gl gc ms N n p fh w0 dQ {w4 with heap:=w4.heap.push (.cells #[.int .i64 0] 3)}:=M4.own (by simp) (fun b hb=>pu b (by omega)) ⟨rfl,rfl,rfl⟩
 have YW:nL dQ fi:=⟨fun e=>by have:=J4.cT _ e;omega,fun k e=>by have:=J4.kH _ _ e;omega,fun q hq=>by rw[M4.ph]at hq;cases hq;rw[hA];omega⟩
 have YX:∀k,¬dQ.ro k fi:=fun k e=>by have:=J4.jm _ _ e;omega
 have c4:({w4 with heap:=w4.heap.push (.cells #[.int .i64 0] 3)}:World).heap[dL]?=some (.cells #[.int .i64 0] 3):=(pu dL (by omega)).trans (e4.trans c3)
 have Wi:({w4 with heap:=w4.heap.push (.cells #[.int .i64 0] 3)}:World).heap[fi]?=some (.cells #[.int .i64 0] 3):=by
  show(w4.heap.push _)[fi]?=_
  rw[←vO];simp
 have TQ:fi<({w4 with heap:=w4.heap.push (.cells #[.int .i64 0] 3)}:World).heap.size:=by
  show fi<(w4.heap.push _).size
  simp;omega
 generalize({w4 with heap:=w4.heap.push (.cells #[.int .i64 0] 3)}:World)=TR at Wh c4 Wi TQ
 have o1:=fO c4;refine MP.put (On ga gl gc sb so sc ms N n c cs (i:Nat) dL fi x ⟨sb,so+i,none⟩ gi) (by omega) m4 n4 ⟨by rw[o1.1];rfl,o1.2⟩ fun td w5 r5=>?_
 obtain⟨m5,e5⟩:=m4.rely (show dL<TR.heap.size by omega) r5
 obtain⟨Wj,YY⟩:=YW.rely TQ r5;have n5:=nb n4 r5;have YZ:=nb YX r5;have M5:=(Wh.mv hA h0 (Mv.of r5)).own (w':=w5.setCell ⟨dL,0,none⟩ (.int .i64 i)) (Nat.le_of_eq cj.symm) (fun b hb=>gq b (by omega)) ⟨rfl,rfl,rfl⟩
 have O5:=O4.rely (w:=TR) r5;have Q_:fi<(w5.setCell ⟨dL,0,none⟩ (.int .i64 i)).heap.size:=by rw[cj];exact Nat.lt_of_lt_of_le TQ r5.size
 have TS:(w5.setCell ⟨dL,0,none⟩ (.int .i64 i)).heap[fi]?=some (.cells #[.int .i64 0] 3):=(gq fi (by omega)).trans (YY.trans Wi)
 have c5:(w5.setCell ⟨dL,0,none⟩ (.int .i64 i)).heap[dL]?=some (.cells #[.int .i64 i] 3):=by
  rw[xW,e5,c4];simp
 generalize w5.setCell ⟨dL,0,none⟩ (.int .i64 i)=Wl at M5 c5 TS Q_;have o2:=fO TS;refine MP.put (Oo ga gl gc sb so sc ms N n c cs (i:Nat) dL fi x ⟨sb,so+i,none⟩ gi) Q_ Wj YZ ⟨by rw[o2.1];rfl,o2.2⟩ fun rE w6 r6=>?_
 obtain⟨m6,e6⟩:=m5.rely (show dL<Wl.heap.size by omega) r6
 obtain⟨Ra,Y0⟩:=Wj.rely Q_ r6;have M6:=(M5.mv hA h0 (Mv.of r6)).own (w':=w6.setCell ⟨fi,0,none⟩ (.int .i64 gi)) (Nat.le_of_eq cj.symm) (fun b hb=>gq b (by omega)) ⟨rfl,rfl,rfl⟩
 have O6:=O5.rely (w:=Wl) r6;have TT:fi<(w6.setCell ⟨fi,0,none⟩ (.int .i64 gi)).heap.size:=by rw[cj];exact Nat.lt_of_lt_of_le Q_ r6.size
 have c6:(w6.setCell ⟨fi,0,none⟩ (.int .i64 gi)).heap[dL]?=some (.cells #[.int .i64 i] 3):=(gq dL (by omega)).trans (e6.trans c5)
 have Wm:(w6.setCell ⟨fi,0,none⟩ (.int .i64 gi)).heap[fi]?=some (.cells #[.int .i64 gi] 3):=by
  rw[xW,Y0,TS];simp
 generalize w6.setCell ⟨fi,0,none⟩ (.int .i64 gi)=OD at M6 c6 Wm TT;refine mS (n:=3) (LP ga gl gc sb so sc ms N n c cs (i:Nat) dL fi x ⟨sb,so+i,none⟩ gi) fun yc w7 r7=>?_;rw[Oq,←hW];refine LJ _ _ C4 (O6.rely (w:=OD) r7) (by omega) fun dV w8 v8 O8=>?_
 rw[show kh (TP Tryz.prog ga gl gc sb so sc ms N n c cs (i:Nat) (xl x (i:Nat) ⟨sb,so+i,none⟩ gi) dL fi) (uK Tryz.prog ga gl gc sb so sc ms N n c cs)=Q7 Tryz.prog ga gl gc sb so sc ms N n c cs (i:Nat) (xl x (i:Nat) ⟨sb,so+i,none⟩ gi) dL fi from rfl]
 have mv:Mv rE OD dV w8:=(Mv.of r7).trans v8
 refine mS (n:=2) (LQ ga gl gc sb so sc ms N n c cs (i:Nat) dL fi x ⟨sb,so+i,none⟩ gi) fun NS w9 r9=>?_;rw[show aE Tryz.prog (2+1) (Q7 Tryz.prog ga gl gc sb so sc ms N n c cs (i:Nat) (xl x (i:Nat) ⟨sb,so+i,none⟩ gi) dL fi)=Q8 Tryz.prog ga gl gc sb so sc ms N n c cs (i:Nat) (xl x (i:Nat) ⟨sb,so+i,none⟩ gi) dL fi from rfl]
 have Y1:=mv.trans (Mv.of r9);have O9:=O8.rely r9;obtain⟨p1,p2⟩:=AF (Q9 ga gl gc sb so sc ms N n c cs (i:Nat) dL fi x ⟨sb,so+i,none⟩ gi);have l2:=L0 ga gl gc sb so sc ms N n c cs dL fi i (by omega) x ⟨sb,so+i,none⟩ gi
 obtain⟨x',hx⟩:=L1 ga gl gc sb so sc ms N n c cs dL fi i (by omega) x ⟨sb,so+i,none⟩ gi
 generalize Y2:G4 Tryz.prog (N+5) (N+2) fi (N+4) dL=gW at p2;generalize na Tryz.prog ga gl gc sb so sc ms N n c cs (i:Nat) (xl x (i:Nat) ⟨sb,so+i,none⟩ gi) dL fi=gQ at p2 l2 hx;generalize Q8 Tryz.prog ga gl gc sb so sc ms N n c cs (i:Nat) (xl x (i:Nat) ⟨sb,so+i,none⟩ gi) dL fi=gP at p1 p2⊢;refine .mk p1 nofun nofun fun rQ wa ta ja ra Ja da _=>?_;have OE:=Y1.trans (Mv.of (fX ra));have Oa:=O9.rely (fX ra);have Ma:=M6.mv hA h0 OE;have sa:=Ma.size;have ej:=Ja.j;have ejj:=Oa.j;have Y3:ja=p.j0+i:=by omega
 obtain⟨q1,q2⟩:=NI (x:={g:=0,fn:=gP.frame.fn,pos:=gP.frame.place,act:= .go (ja+1)})
  (y:={g:=ja+1,fn:=gW.frame.fn,pos:=gP.frame.place,act:= .start})
  Ja Oa.ph Oa.wm Oa.extra da ⟨rfl,rfl⟩ ⟨rfl,rfl⟩
 have mm:∀b,b<OD.heap.size→(∀k,¬rE.ow k b)→¬rE.sh b→b≠p.A→wa.heap[b]?=OD.heap[b]?:=fun b hb U h2 h3=>OE.heap b hb U h2 fun q hq=>by
  rw[M6.ph]at hq;cases hq;exact h3
 have ca:wa.heap[dL]?=some (.cells #[.int .i64 i] 3):=(mm dL (by omega) m6.2.1 m6.1 (by rw[hA];omega)).trans c6
 have Y4:wa.heap[fi]?=some (.cells #[.int .i64 gi] 3):=(mm fi TT Ra.2.1 Ra.1 (by rw[hA];omega)).trans Wm
 have TU:=OE.size;have TX:∀b,b<wa.heap.size→(∀k,¬rQ.ow k b)→¬rQ.sh b→b≠p.A→(rQ.spawn p wa.heap.size).ro (p.j0+i+1) b:=fun b U h2 h3 h4=> .inl ⟨by omega,U,h2,h3,h4⟩
 have Wn:∀b,b<OD.heap.size→(∀k,¬rE.ow k b)→∀k,¬rQ.ow k b:=fun b hb h k e=>h k ((OE.ow k b hb).1 e)
 have Wo:∀b,¬rE.sh b→¬rQ.sh b:=fun b h e=>h (OE.gh.1▸e)
 have OF:∀b,b<N+5→b≠N+3→¬fh.sh b→(rQ.spawn p wa.heap.size).ro (p.j0+i+1) b:=fun b U h2 h3=>
  TX b (by omega) (fun k=>Ma.ow k b (by omega)) (fun e=>((Ma.sh b).1 e).elim h3 fun e=>by omega) (by rw[hA];exact h2)
 have n0:∀b,N≤b→¬fh.sh b:=fun b hb e=>by have:=h0 b e;omega
 have Y5:(rQ.spawn p wa.heap.size).st (p.j0+i+1)= .busy:=if_pos (by omega)
 refine⟨.spawn ⟨⟨gQ,wa,#[],rQ.spawn p wa.heap.size⟩,gW⟩ false,⟨⟨p2 true wa,?_,fun k' U h2=>q2 k' U h2⟩,?_⟩,fun y b' e=>(by cases e),fun y b' e=>?_⟩
 ·rw[Ai]
  exact q1
 ·show WP (sys Tryz.prog) (ja+1) 0 (rQ.spawn p wa.heap.size) wa gW
  rw[Y3,←Y2];refine Fv _ _ _ _ ⟨Ma.ph,Y5,⟨OF _ (by omega) (by omega) (n0 _ (by omega)),TX fi (by omega) (Wn fi TT Ra.2.1) (Wo fi Ra.1) (by rw[hA];omega),OF _ (by omega) (by omega) (n0 _ (by omega)),TX dL (by omega) (Wn dL (by omega) m6.2.1) (Wo dL m6.1) (by rw[hA];omega)⟩,
   fO Ma.b2,fO Y4,fO Ma.b4,fO ca⟩ Ma.same (fun b hb Cu=>⟨OF b (by omega) (by omega) Cu,Ma.old b hb Cu⟩) ⟨OF _ (by omega) (by omega) (n0 _ (by omega)),OF _ (by omega) (by omega) (n0 _ (by omega)),Ma.b0,Ma.b1⟩
 ·injection e with e1 e2
  subst e1 e2;show MP (sys Tryz.prog) Q false 0 (rQ.spawn p wa.heap.size) wa gQ
  have Mb:eX ga gl gc ms N n p fh w0 (rQ.spawn p wa.heap.size) wa:=⟨Ma.same,Ma.size,Ma.sh,Ma.ph,Ma.ow,Ma.old,Ma.b0,Ma.b1,Ma.b2,Ma.b4⟩
  have Ob:fW (rQ.spawn p wa.heap.size) p 0 (p.j0+(i+1)):=⟨Oa.ph,Oa.wm,rfl,by show rQ.j+1=_;omega⟩
  refine mS (n:=6) l2 fun Y6 wc rc=>?_;rw[hx];exact K Y6 wc x' (Mb.mv hA h0 (Mv.of rc)) (Ob.rely rc)
def Bt (ga:Addr)(gl gc:Nat)(ms:Int)(N n:Nat)(p:Ph)(gs:Nat→Int)(fh:Gh)(w0:World):Prop:=∀i,i<n→∀γ w gb ib,nK (p.j0+i+1) p (N+2) gb (N+4) ib (Ey N) (.int .i64 (gs i)) (.slice (some ⟨N+3,0,none⟩) n n) (.int .i64 i) γ w→br w0 w→
 (∀b,b<N→¬fh.sh b→γ.ro (p.j0+i+1) b∧w.heap[b]?=w0.heap[b]?)→γ.ro (p.j0+i+1) N∧γ.ro (p.j0+i+1) (N+1)∧w.heap[N]?=some (.cells #[.slice (some ga) gl gc] 23)∧w.heap[N+1]?=some (.cells #[.int .i64 ms] 3)→
 WP (sys Tryz.prog) (p.j0+i+1) 0 γ w (G4 Tryz.prog (N+5) (N+2) gb (N+4) ib)
structure JE (N n:Nat) (a:Nat→dB) (fh:Gh) (w0:World) (γ:Gh) (w:World):Prop where
 ph:γ.ph=none
 same:br w0 w
 size:N+6≤w.heap.size
 old:∀b,b<N→¬fh.sh b→w.heap[b]?=w0.heap[b]?
 sh:∀b,γ.sh b↔fh.sh b∨b=N+5
 lh:∃cs,w.heap[N+3]?=some (.cells cs 107)∧cs.size=5*n∧∀i c,i<n→c<5→cs[5*i+c]?=some ((a i).cell c)
theorem L2 {a:Nat→dB}{gs:Nat→Int}(hA:p.A=N+3)(hW:p.wg=N+5)(C4:p.eW=191)(Y7:p.eA=107)(hn:p.n=n)(rG:∀i c,p.lh i c=(a i).cell c)(h0:∀b,fh.sh b→b<N)(U:1≤n)(h5:n≤5)
  (zL:sb<N) (ot:¬fh.sh sb) (b_:∀i,i<n→w0.cell? ⟨sb,so+i,none⟩=some (.int .i64 (gs i))) (Fv:Bt ga gl gc ms N n p gs fh w0)
  (K:∀af w',JE N n a fh w0 af w'→MP (sys Tryz.prog) Q false 0 af w' {frame:=c.finish (.slice (some ⟨N+3,0,none⟩) n n),callers:=cs,status:= .running,dying:=none}):
  ∀(m i:Nat) (x:Nat→Value) (γ:Gh) (w:World),i+m=n→eX ga gl gc ms N n p fh w0 γ w→fW γ p 0 (p.j0+i)→MP (sys Tryz.prog) Q false 0 γ w (cm Tryz.prog ga gl gc sb so sc ms N n c cs (i:Nat) x (cp Tryz.prog)):=by
 intro m;induction m with
 |zero=>
  intro i x γ w Y8 hM hO;obtain rfl:i=n:=by omega
  refine mS (n:=9) (Ox ga gl gc sb so sc ms N i c cs x U h5) fun aQ w1 r1=>?_;rw[LW ga gl gc sb so sc ms N i c cs x U h5,←hW];have M1:=hM.mv hA h0 (Mv.of r1);refine H7 _ _ C4 (hO.rely r1) fun cw w2 j_ w3 v2 oC r3=>?_;rw[show kh (Ez Tryz.prog ga gl gc sb so sc ms N i c cs x) (uK Tryz.prog ga gl gc sb so sc ms N i c cs)=AJ Tryz.prog ga gl gc sb so sc ms N i c cs x from rfl]
  have M2:=M1.mv hA h0 v2;have s2:=M2.size;obtain⟨rfl,e3,s3⟩:=ik (γ:=cw.idle) rfl r3;refine iQ (n:=2) (LX ga gl gc sb so sc ms N i c cs x U h5) rfl fun w4 e4 s4=>?_;have M7:w4.heap[N+4]?=some (.cells #[.slice (some ⟨N+3,0,none⟩) i i] 104):=by rw[e4,e3];exact M2.b4
  have n4:¬cw.idle.sh (N+4):=fun e=>by
   have e':cw.sh (N+4):=e
   rcases(M2.sh _).1 e' with e'|e'
   ·have:=h0 _ e';omega
   ·omega
  rw[show aE Tryz.prog (2+1) (AJ Tryz.prog ga gl gc sb so sc ms N i c cs x)=jI Tryz.prog ga gl gc sb so sc ms N i c cs x from rfl]
  refine MP.get (LY ga gl gc sb so sc ms N i c cs x U h5 (.slice (some ⟨N+3,0,none⟩) i i)) (by rw[e4,e3];omega) ⟨n4,fun _ e=>e,nofun⟩ (fO M7) fun td w5 r5=>?_
  obtain⟨rfl,e5,s5⟩:=ik (γ:=cw.idle) rfl r5;refine iQ (n:=7) (LZ ga gl gc sb so sc ms N i c cs x U h5 (N+3) i i) rfl fun w6 e6 s6=>?_;rw[Oy ga gl gc sb so sc ms N i c cs x U h5 (N+3) i i];have eh:w6.heap=w2.heap:=by rw[e6,e5,e4,e3]
  obtain⟨cells,c1,c2,c3⟩:=oC;refine K _ _ ⟨rfl,(((M2.same.trans s3).trans s4).trans s5).trans s6,by rw[eh];exact s2,fun b hb qD=>by rw[eh];exact M2.old b hb qD,M2.sh,cells,by rw[eh,←hA,←Y7];exact c1,by rw[c2,hn],fun i' c' eE eR=>?_⟩
  rw[c3 i' c' (by omega) eR,rG]
 |succ m ih=>
  intro i x γ w Y8 hM hO;have hi:i<n:=by omega
  exact IE (g:=0) hA hW C4 hn h0 h5 hi hM hO zL ot (b_ i hi) (Fv i hi) fun af w' x' M' O'=>ih (i+1) x' af w' (by omega) M' O'
theorem OG {a:Nat→dB}{gs:Nat→Int}(gr:γ.ph=none)(hN:w.heap.size=N)(U:1≤n)(h5:n≤5)(zL:sb<N)(ot:¬γ.sh sb)(b_:∀i,i<n→w.cell? ⟨sb,so+i,none⟩=some (.int .i64 (gs i)))
  (Fv:Bt ga gl gc ms N n {wg:=N+5,A:=N+3,n,j0:=γ.j,lh:=fun i c=>(a i).cell c,eW:=191,eA:=107} gs γ w)
  (K:∀af w',JE N n a γ w af w'→MP (sys Tryz.prog) Q false 0 af w' {frame:=c.finish (.slice (some ⟨N+3,0,none⟩) n n),callers:=cs,status:= .running,dying:=none}):
  MP (sys Tryz.prog) Q false 0 γ w (Q5 Tryz.prog ga gl gc sb so sc ms N n c cs):=by
 refine iQ (n:=1) (LM ga gl gc sb so sc ms N n c cs) gr fun w1 e1 s1=>?_;rw[show aE Tryz.prog (1+1) (Q5 Tryz.prog ga gl gc sb so sc ms N n c cs)=HX Tryz.prog ga gl gc sb so sc ms N n c cs from rfl]
 refine MP.alloc (fM (EA ga gl gc sb so sc ms N n c cs)).1 fun cw w2 t2 j2 r2 J2=>?_;obtain⟨rfl,e2,s2⟩:=ik gr r2;have Y9:w2.heap.size=N:=by rw[e2,e1,hN]
 have h0:∀b,cw.sh b→b<N:=fun b hb=>by have:=J2.cT b hb;omega
 have hj:=J2.j;refine⟨_,_,by rw[Y9];exact EA ga gl gc sb so sc ms N n c cs,?_⟩
 generalize rv:({w2 with heap:=w2.heap.push (.cells #[.slice (some ga) gl gc] 23)}:World)=LH
 have E2:LH.heap=w.heap.push (.cells #[.slice (some ga) gl gc] 23):=by rw[←rv];show w2.heap.push _=_;rw[e2,e1]
 have S2:br w LH:=by rw[←rv];exact(s1.trans s2)
 clear rv J2;refine MP.uY (Ol ga gl gc sb so sc ms N n c cs) gr (by rw[E2];simp[hN]) fun w3 E3 s3=>?_
 have S3:=S2.trans s3;refine iQ (n:=8) (LN ga gl gc sb so sc ms N n c cs) gr fun Wg e3 Y_=>?_;rw[show aE Tryz.prog (8+1) (nx Tryz.prog (N+1) (Ex Tryz.prog ga gl gc sb so sc ms N n c cs))=LL Tryz.prog ga gl gc sb so sc ms N n c cs from rfl]
 rw[E3,E2]at e3;refine MP.uY (Om ga gl gc sb so sc ms N n c cs) gr (by rw[e3];simp[hN]) fun w4 E4 s4=>?_
 refine iQ (n:=5) (LO ga gl gc sb so sc ms N n c cs) gr fun TR e4 Y'=>?_;rw[show aE Tryz.prog (5+1) (nx Tryz.prog (N+2) (LL Tryz.prog ga gl gc sb so sc ms N n c cs))=AH Tryz.prog ga gl gc sb so sc ms N n c cs from rfl]
 rw[E4,e3]at e4;obtain⟨z,hz,q4⟩:=Ot ga gl gc sb so sc ms N n c cs U h5;refine MP.uY q4 gr (by rw[e4];simp[hN]) fun w5 E5 s5=>?_
 rw[e4]at E5;refine MP.uY (Ou ga gl gc sb so sc ms N n c cs U h5) gr (by rw[E5];simp[hN]) fun w6 E6 s6=>?_
 rw[E5]at E6;have S6:br w w6:=(((((S3.trans Y_).trans s4).trans Y').trans s5).trans s6)
 have TU:w6.heap.size=N+5:=by rw[E6];simp[hN]
 have TY:w6.heap[N+4]?=some (.cells #[.slice none 0 0] 104):=by rw[E6];(simp only[Array.getElem?_push,Array.size_push,hN];repeat (first|rw[if_pos trivial]|rw[if_pos (by omega)]|rw[if_neg (by omega)]))
 have o6:=fO TY;have n6:∀b,N≤b→¬cw.sh b:=fun b hb e=>by have:=h0 b e;omega
 have q6:=Ov ga gl gc sb so sc ms N n c cs U h5;have u6:=LS ga gl gc sb so sc ms N n c cs U h5;have a6:aE Tryz.prog (2+1) (sx Tryz.prog (iB Tryz.prog ga gl gc sb so sc ms N n c cs))=kL Tryz.prog ga gl gc sb so sc ms N n c cs:=rfl
 generalize sx Tryz.prog (iB Tryz.prog ga gl gc sb so sc ms N n c cs)=gX at q6 u6 a6;generalize iB Tryz.prog ga gl gc sb so sc ms N n c cs=gY at q6⊢;obtain⟨v6,y6⟩:=mQ q6;refine .go v6 fun yc w7 t7 j7 r7 J7 QG=>?_;obtain⟨Za,e7,s7⟩:=ik gr (fX r7);obtain rfl:=Za.symm
 obtain⟨x1,x2,x3⟩:=J7.none gr;have o7:(w7.cell? ⟨N+4,0,none⟩).isSome=true∧w7.frozen? ⟨N+4,0,none⟩=false:=by
  have:=fO (show w7.heap[N+4]?=_ by rw[e7];exact TY)
  exact⟨by rw[this.1];rfl,this.2⟩
 have m7:nL cw (N+4):=⟨n6 _ (by omega),fun k=>(x1 k _).1,fun q hq=>by rw[gr]at hq;cases hq⟩
 obtain⟨a1,a2⟩:=vW (w1:=w7.setCell ⟨N+4,0,none⟩ (.slice (some ⟨N+3,0,none⟩) n n)) (fn:=gY.frame.fn) (pos:=gY.frame.place) (es:= #[cD ⟨N+4,0,none⟩ true]) J7 ⟨rfl,rfl,rfl⟩ (Nat.le_of_eq cj.symm) (fun b' _ cv=>gq b' fun e=>by
  subst e;rcases cv with⟨k,hk⟩|hk|⟨p,hp,hk⟩
  ·exact hk.elim (x1 k _).1 (x1 k _).2
  ·exact m7.1 hk
  ·rw[gr]at hp;cases hp) fun e he=>by
   simp at he;subst he
   exact Bs m7 (fun _ k=>(x1 k _).2) (by rw[cj,e7,TU];omega)
 refine⟨⟨gX,_,_,cw⟩,false,⟨y6 true w7 fun q hq=>by
  have:q=(⟨N+4,0,none⟩,.slice (some ⟨N+3,0,none⟩) n n):=by simpa using hq
  subst this;exact o7,a1,a2⟩,?_⟩
 show MP (sys Tryz.prog) Q false 0 cw (w7.setCell ⟨N+4,0,none⟩ (.slice (some ⟨N+3,0,none⟩) n n)) gX
 have H8:∀b,b≠N+4→(w7.setCell ⟨N+4,0,none⟩ (.slice (some ⟨N+3,0,none⟩) n n)).heap[b]?=w6.heap[b]?:=fun b hb=>by rw[gq b hb,e7]
 have B8:(w7.setCell ⟨N+4,0,none⟩ (.slice (some ⟨N+3,0,none⟩) n n)).heap[N+4]?=some (.cells #[.slice (some ⟨N+3,0,none⟩) n n] 104):=by rw[xW,e7,TY];simp
 have S8:br w (w7.setCell ⟨N+4,0,none⟩ (.slice (some ⟨N+3,0,none⟩) n n)):=S6.trans s7
 have Wp:(w7.setCell ⟨N+4,0,none⟩ (.slice (some ⟨N+3,0,none⟩) n n)).heap.size=N+5:=by rw[cj,e7,TU]
 generalize w7.setCell ⟨N+4,0,none⟩ (.slice (some ⟨N+3,0,none⟩) n n)=w8 at H8 B8 S8 Wp⊢;clear a1 a2;refine iQ (n:=2) u6 gr fun w9 e9 s9=>?_;rw[a6];have q7:=Ow ga gl gc sb so sc ms N n c cs U h5;have u7:=LU ga gl gc sb so sc ms N n c cs U h5;have a7:aE Tryz.prog (9+1) (nx Tryz.prog (N+5) (kL Tryz.prog ga gl gc sb so sc ms N n c cs))=AI Tryz.prog ga gl gc sb so sc ms N n c cs:=rfl
 rw[LV ga gl gc sb so sc ms N n c cs U h5]at a7;generalize nx Tryz.prog (N+5) (kL Tryz.prog ga gl gc sb so sc ms N n c cs)=gX at q7 u7 a7;generalize kL Tryz.prog ga gl gc sb so sc ms N n c cs=gY at q7⊢;obtain⟨v7,y7⟩:=fM q7;refine .go v7 fun rQ wa ta ja ra Ja hda=>?_;obtain⟨Zb,ea,sa⟩:=ik gr (fX ra);obtain rfl:=Zb.symm
 have TZ:wa.heap=w8.heap:=ea.trans e9
 have Rb:wa.heap.size=N+5:=by rw[TZ,Wp]
 obtain⟨b1,b2⟩:=QC (w1:={wa with heap:=wa.heap.push (.cells #[.int .u64 0,.int .u32 0] 191)}) (p:={wg:=N+5,A:=N+3,n,j0:=cw.j,lh:=fun i c=>(a i).cell c,eW:=191,eA:=107}) (cs:=z)
  Ja gr Ja.j Rb.symm h5 (by show N+3<wa.heap.size;rw[Rb];omega) (n6 (N+3) (by omega)) (by
   show wa.heap[N+3]?=_
   rw[TZ,H8 _ (by omega),E6]
   (simp only[Array.getElem?_push,Array.size_push,hN];repeat (first|rw[if_pos trivial]|rw[if_pos (by omega)]|rw[if_neg (by omega)]))) hz ⟨rfl,rfl,rfl⟩ rfl
 refine⟨⟨gX,_,#[],cw.begin _⟩,false,⟨y7 true wa Rb,b1.nil,b2⟩,?_⟩;show MP (sys Tryz.prog) Q false 0 (cw.begin {wg:=N+5,A:=N+3,n,j0:=cw.j,lh:=fun i c=>(a i).cell c,eW:=191,eA:=107}) {wa with heap:=wa.heap.push (.cells #[.int .u64 0,.int .u32 0] 191)} gX
 have Hb:∀b,b<N+5→(wa.heap.push (.cells #[.int .u64 0,.int .u32 0] 191))[b]?=w8.heap[b]?:=fun b hb=>by rw[Array.getElem?_push,if_neg (by omega),TZ]
 have Hc:∀b,b<N+4→(wa.heap.push (.cells #[.int .u64 0,.int .u32 0] 191))[b]?=w6.heap[b]?:=fun b hb=>(Hb b (by omega)).trans (H8 b (by omega))
 have AM:eX ga gl gc ms N n {wg:=N+5,A:=N+3,n,j0:=cw.j,lh:=fun i c=>(a i).cell c,eW:=191,eA:=107} cw w (cw.begin {wg:=N+5,A:=N+3,n,j0:=cw.j,lh:=fun i c=>(a i).cell c,eW:=191,eA:=107})
   {wa with heap:=wa.heap.push (.cells #[.int .u64 0,.int .u32 0] 191)}:=by
  refine⟨S8.trans (s9.trans sa),by simp[Rb],fun b=> .rfl,rfl,fun k b _=>(x1 k b).1,fun b hb _=>?_,?_,?_,?_,?_⟩
  ·show(wa.heap.push _)[b]?=_
   rw[Hc b (by omega),E6]
   simp only[Array.getElem?_push,Array.size_push,hN];repeat (first|rw[if_pos trivial]|rw[if_pos (by omega)]|rw[if_neg (by omega)])
  ·show(wa.heap.push _)[N]?=_
   rw[Hc N (by omega),E6]
   (simp only[Array.getElem?_push,Array.size_push,hN];repeat (first|rw[if_pos trivial]|rw[if_pos (by omega)]|rw[if_neg (by omega)]))
  ·show(wa.heap.push _)[N+1]?=_
   rw[Hc (N+1) (by omega),E6]
   (simp only[Array.getElem?_push,Array.size_push,hN];repeat (first|rw[if_pos trivial]|rw[if_pos (by omega)]|rw[if_neg (by omega)]))
  ·show(wa.heap.push _)[N+2]?=_
   rw[Hc (N+2) (by omega),E6]
   (simp only[Array.getElem?_push,Array.size_push,hN];repeat (first|rw[if_pos trivial]|rw[if_pos (by omega)]|rw[if_neg (by omega)]))
  ·show(wa.heap.push _)[N+4]?=_
   rw[Hb (N+4) (by omega)]
   exact B8
 have OB:fW (cw.begin {wg:=N+5,A:=N+3,n,j0:=cw.j,lh:=fun i c=>(a i).cell c,eW:=191,eA:=107}) {wg:=N+5,A:=N+3,n,j0:=cw.j,lh:=fun i c=>(a i).cell c,eW:=191,eA:=107} 0 (cw.j+0):=⟨rfl,x3,rfl,rfl⟩
 refine mS (n:=9) u7 fun Zc wb rb=>?_;rw[a7];exact L2 rfl rfl rfl rfl rfl (fun _ _=>rfl) h0 U h5 zL ot b_ Fv K n 0 x0 Zc wb (Nat.zero_add n) (AM.mv rfl h0 (Mv.of rb)) (OB.rely rb)
end
end Go.Proofs.YtjklkppncmhehaaGreat.Sr
namespace Go.Proofs.YtjklkppncmhehaaGreat.Sr
open Go Go.Conc Go.ConcN
def eT:Obj→Obj
 | .cells us e fz=> .cells us e (0,max us.size fz.2)
 |o=>o
def il (v:World)(b1 b2:Obj):World:={v with heap:=((v.heap.map eT).push (eT b1)).push (eT b2)}
section
variable {v w:World}{b1 b2:Obj}{m:ao}
theorem Bu {r:Nat}(h:r<v.heap.size):(il v b1 b2).heap[r]?=(v.heap[r]?).map eT:=by
 show(((v.heap.map eT).push (eT b1)).push (eT b2))[r]?=_
 rw[Array.getElem?_push,if_neg (by simp;omega),Array.getElem?_push,if_neg (by simp;omega),Array.getElem?_map]
theorem IF:(il v b1 b2).heap[v.heap.size]?=some (eT b1):=by
 show(((v.heap.map eT).push (eT b1)).push (eT b2))[v.heap.size]?=_
 rw[Array.getElem?_push,if_neg (by simp),Array.getElem?_push,if_pos (by simp)]
theorem IG:(il v b1 b2).heap[v.heap.size+1]?=some (eT b2):=by
 show(((v.heap.map eT).push (eT b1)).push (eT b2))[v.heap.size+1]?=_
 rw[Array.getElem?_push,if_pos (by simp)]
theorem OI {p:Addr}(h:p.block<v.heap.size):(il v b1 b2).cell? p=v.cell? p:=by
 unfold World.cell?;rw[Bu h]
 cases v.heap[p.block]? with
 |none=>rfl
 |some o=>cases o<;>rfl
theorem ub {w:World}{b:Nat}{cs:Array Value}{e:TypeId}{f:Nat×Nat}(h:w.heap[b]?=some (.cells cs e f)):w.cell? ⟨b,0,none⟩=cs[0]?:=by
 unfold World.cell?;simp[h]
theorem wC {w:World}{r:Nat}{o:Obj}(h:w.heap[r]?=some (eT o))(hb:zK o):di w r:=by
 rcases hb with⟨us,e,fz,rfl⟩|⟨a,l,rfl⟩
 ·exact .inl ⟨us,e,_,h,Nat.le_max_left ..⟩
 ·exact .inr ⟨a,l,h⟩
theorem jQ.M9 {o p:Obj}(h:jQ m o p):zK o:=by
 rcases h with⟨us,vs,e,fz,gz,rfl,rfl,_,_⟩|⟨a,b,l,rfl,rfl,_⟩
 ·exact .inl ⟨us,e,fz,rfl⟩
 ·exact .inr ⟨a,l,rfl⟩
theorem jQ.fz {o p:Obj}(h:jQ m o p):jQ m (eT o) p:=by
 rcases h with⟨us,vs,e,fz,gz,rfl,rfl,hf,ha⟩|⟨a,b,l,rfl,rfl,ha⟩
 ·refine .inl ⟨us,vs,e,_,gz,rfl,rfl,fun o U h2=>⟨Nat.zero_le _,?_⟩,ha⟩
  have:=(hf o U h2).2
  show o<max us.size fz.2
  omega
 ·exact .inr ⟨a,b,l,rfl,rfl,ha⟩
theorem Bv {m:ao}{r t:Nat}(h:m r=none):ao.le m (m.put r t):=by
 refine⟨fun q u hq=>?_,rfl⟩
 show(if q=r then some t else m q)=some u
 by_cases e:q=r
 ·subst e;rw[h]at hq;cases hq
 ·rw[if_neg e];exact hq
theorem Bw {m:ao}{r t:Nat}:(m.put r t) r=some t:=by
 show(if r=r then some t else m r)=some t
 simp
theorem ki {m:ao}{r t q u:Nat}(h:(m.put r t) q=some u):(q=r∧u=t)∨m q=some u:=by
 have h':(if q=r then some t else m q)=some u:=h
 by_cases e:q=r
 ·rw[if_pos e]at h';exact .inl ⟨e,(Option.some.inj h').symm⟩
 ·rw[if_neg e]at h';exact .inr h'
theorem WR.OJ (h:WR m v w){r:Nat}(hr:v.heap.size≤r):m r=none:=by
 cases e:m r with
 |none=>rfl
 |some t=>exact absurd (h.lt e).1 (by omega)
end
section
variable {P:Program}{F:Array Func}{spec:FuncId→Bool}{m:ao}{τ:TypeId}
theorem FR.enter (B:fV τ P F spec m.good){f:FuncId}{us vs:Array Value}(hg:m.good f=true)(hs:spec f=false)(h:AR m us vs):
  FR P spec m (Frame.enter (Program.mk (Program.toTables P) F) f us .normal) (Frame.enter P f vs .normal):=by
 obtain⟨fr,e1,e2,e3⟩:=B.same f hg hs;have en:∀(Q:Program) (xs:Array Value),Q.funcs[f]?=some fr→Frame.enter Q f xs .normal=aA f (xs++Array.replicate (fr.ntmps-xs.size) undef) [.code (fr.body.getD (.refuse "unsupported: a function without a Go body is entered"))] .run:=by
  intro Q xs hq;simp[Frame.enter,hq,aA]
 rw[en _ us e1,en _ vs e2,h.1];refine .mk f _ .run hs hg ?_ (fun x hx=>?_) (.inl rfl)
 ·refine⟨by simp[h.1],fun i U h2=>?_⟩
  by_cases hi:i<us.size
  ·rw[Array.getElem_append_left hi,Array.getElem_append_left (by rw[←h.1];exact hi)]
   exact h.2 i hi _
  ·rw[Array.getElem_append_right (by omega),Array.getElem_append_right (by rw[←h.1];omega)]
   simp only[Array.getElem_replicate];exact yS (m:=m) undef rfl
 ·simp only[List.mem_singleton]at hx
  subst hx;show eV P m.good _=true
  unfold lr at e3
  cases hb:fr.body with
  |none=>rw[hb]at e3;cases e3
  |some c=>rw[hb]at e3;exact e3
end
theorem Bx {us:Array Value}(h:us.size=3):∃a b x,us= #[a,b,x]:=by
 obtain⟨l⟩:=us;match l,h with
 |[a,b,x],_=>exact⟨a,b,x,rfl⟩
theorem Rc {spec:FuncId→Bool}{m:ao}(B:fV qH Tryz.prog Tw.prog.funcs spec m.good)(wD:∀f,spec f=true→f=cl){A:Value}{f' f:Frame}{fs' fs:List Frame}{v:World}(he:jb Tryz.prog Tw.prog.funcs spec m f' f)(pC:jC Tryz.prog spec m fs' fs)(cG:fs'≠[]):
  ¬Ends (Program.mk (Program.toTables Tryz.prog) Tw.prog.funcs) (bk (Program.mk (Program.toTables Tryz.prog) Tw.prog.funcs) fun e _=>e= .returned A) f' (fs'++[cc]) v:=by
 intro hE;obtain⟨g,us,vs,e1,U,h2,_,h3⟩:=mZ he;have:=wD g e1
 subst this;subst U;obtain⟨a,b,x,rfl⟩:=Bx (h3 3 rfl);obtain⟨v',_,hR⟩:=oA (R:=fun e _=>e= .returned A) (fun _ h=>(by cases h)) (gs:=fs') rfl (rq B pC) hE
 cases hR
section
variable {w0 w:World}{fh γ:Gh}{m:ao}{v:World}{ga OK:Addr}{gl gc:Nat}{ms:Int}{N n:Nat}{p:Ph}{gs:Nat→Int}{a:Nat→dB}
theorem JF {m:ao}{r t:Nat}(h:m r=some t):VR m (ptr r) (ptr t):= .ptr ⟨h,rfl,rfl,rfl⟩
theorem nK.grow {k:Nat}{qb gb ab ib:Nat}{fv gv av iv:Value}{w1:World}{x y:Nat}(h:nK k p qb gb ab ib fv gv av iv γ w)(hh:∀b,γ.ro k b→w1.heap[b]?=w.heap[b]?):nK k p qb gb ab ib fv gv av iv (γ.grow k x y) w1:=by
 obtain⟨o1,o2,o3,o4⟩:=h.ro;have key:∀{b:Nat} {v:Value},γ.ro k b→w.cell? ⟨b,0,none⟩=some v∧w.frozen? ⟨b,0,none⟩=false→w1.cell? ⟨b,0,none⟩=some v∧w1.frozen? ⟨b,0,none⟩=false:=by
  intro b v hb hc;have e:=hh b hb;rw[cell_of e,wo e];exact hc
 exact⟨h.ph,h.st,h.ro,key o1 h.cq,key o2 h.cg,key o3 h.ca,key o4 h.ci⟩
set_option maxRecDepth 100000 in
theorem OL {good spec:FuncId→Bool}(B:fV qH Tryz.prog Tw.prog.funcs spec good)(wD:∀f,spec f=true→f=cl)(OM:spec 121=false)(Fw:good 121=true)(ON:m.good=good)(hw:WR m (v.on w0.tape w0.drawn) w0)(hN:w0.heap.size=N)(Fx:bc m ga OK)(ot:∀r t,m r=some t→¬fh.sh t)
  (hA:p.A=N+3) (Tc:p.wg=N+5) (hn:p.n=n) (h5:n≤5) (C4:p.eW=191) (rG:∀i c,p.lh i c=(a i).cell c)
  (ask:∀i,i<n→∀(u:World) (gb mb:Nat),(∀q:Addr,q.block<v.heap.size→u.cell? q=v.cell? q)→u.cell? ⟨gb,0,none⟩=some (.slice (some ga) gl gc)→u.cell? ⟨mb,0,none⟩=some (.int .i64 ms)→
   Calls Tw.prog 121 #[.int .i64 (gs i),ptr gb,ptr mb] u fun e _=>e= .returned (a i).val):Bt OK gl gc ms N n p gs fh w0:=by
 subst ON;intro i hi γ w gb ib Wq fg hold Fy;obtain⟨oq,vO,nT,eC⟩:=Fy;have ek:p.j0+i+1-p.j0-1=i:=by omega
 let B1:Obj:= .cells #[.slice (some ga) gl gc] 23
 let B2:Obj:= .cells #[.int .i64 ms] 3
 let mW:ao:=(m.put v.heap.size N).put (v.heap.size+1) (N+1)
 have uL:∀r t,m r=some t→r<v.heap.size∧t<N:=fun r t h=>by
  have:=hw.lt h
  rw[hN]at this;exact this
 have n1:m v.heap.size=none:=by
  cases e:m v.heap.size with
  |none=>rfl
  |some t=>exact absurd (uL _ _ e).1 (by omega)
 have n2:(m.put v.heap.size N) (v.heap.size+1)=none:=by
  cases e:(m.put v.heap.size N) (v.heap.size+1)with
  |none=>rfl
  |some t=>
   rcases ki e with⟨U,_⟩|U
   ·omega
   ·exact absurd (uL _ _ U).1 (by omega)
 have OO:ao.le m (m.put v.heap.size N):=Bv n1
 have Wr:ao.le (m.put v.heap.size N) mW:=Bv n2
 have le:ao.le m mW:=⟨fun r t h=>Wr.sub r t (OO.sub r t h),rfl⟩
 have mN:mW v.heap.size=some N:=Wr.sub _ _ Bw
 have Ze:mW (v.heap.size+1)=some (N+1):=Bw
 have split:∀{r t:Nat},mW r=some t→m r=some t∨(r=v.heap.size∧t=N)∨(r=v.heap.size+1∧t=N+1):=fun h=>by
  rcases ki h with h|h
  ·exact .inr (.inr h)
  ·rcases ki h with h|h
   ·exact .inr (.inl h)
   ·exact .inl h
 let F:Gh→World→Prop:=fun γ w=>nK (p.j0+i+1) p (N+2) gb (N+4) ib (Ey N) (.int .i64 (gs i)) (.slice (some ⟨N+3,0,none⟩) n n) (.int .i64 i) γ w∧br w0 w∧(∀b,b<N→¬fh.sh b→γ.ro (p.j0+i+1) b∧w.heap[b]?=w0.heap[b]?)∧
  γ.ro (p.j0+i+1) N∧γ.ro (p.j0+i+1) (N+1)∧w.heap[N]?=some (.cells #[.slice (some OK) gl gc] 23)∧w.heap[N+1]?=some (.cells #[.int .i64 ms] 3)
 have f0:F γ w:=⟨Wq,fg,hold,oq,vO,nT,eC⟩
 have fR:∀γ w af w',F γ w→RR (p.j0+i+1) γ w af w'→F af w':=by
  rintro γ w af w' ⟨b1,b2,b3,b4,b5,b6,b7⟩ r;have OP:=b1.rely (by omega) r
  obtain⟨_,_,r3,_,_,_,r7,_⟩:=(iO (by omega) r).live (mh b1.st (by decide))
  exact⟨OP,b2.trans (iO (by omega) r).same,fun b hb hn=>⟨(r3 _).2 (b3 b hb hn).1,(r7 b (.inr (b3 b hb hn).1)).trans (b3 b hb hn).2⟩,(r3 _).2 b4,(r3 _).2 b5,(r7 _ (.inr b4)).trans b6,(r7 _ (.inr b5)).trans b7⟩
 have fG:∀γ w w1,F γ w→(∀b,γ.ro (p.j0+i+1) b→w1.heap[b]?=w.heap[b]?)→br w w1→F (γ.grow (p.j0+i+1) w.heap.size w1.heap.size) w1:=by
  rintro γ w w1 ⟨b1,b2,b3,b4,b5,b6,b7⟩ hh hs;exact⟨b1.grow hh,b2.trans hs,fun b hb hn=>⟨(b3 b hb hn).1,(hh b (b3 b hb hn).1).trans (b3 b hb hn).2⟩,b4,b5,(hh _ b4).trans b6,(hh _ b5).trans b7⟩
 have hE:Ends Tw.prog (bk Tw.prog fun e _=>e= .returned (a i).val) (Frame.enter Tw.prog 121 #[.int .i64 (gs i),ptr v.heap.size,ptr (v.heap.size+1)] .normal) [cc] (il v B1 B2):=by
  refine ends_of_calls (fun _ h=>(by cases h)) fun T=>ask i hi ((il v B1 B2).on T 0) v.heap.size (v.heap.size+1) (fun q hq=>OI hq) ?_ ?_
  ·exact ub (IF (b1:=B1) (b2:=B2))
  ·exact ub (IG (b1:=B1) (b2:=B2))
 rw[←Tc];refine C6 F (fv:=Ey N) (gi:=gs i) (a:=a i) rfl C4 hn h5 (by omega) (by omega) (fun c _=>by rw[ek];exact rG i c) (fun γ w h=>by rw[ek,hA];exact h.1) fR (fun x5 x6 l aQ w1 U K=>?_) f0
 obtain⟨b1,b2,b3,b4,b5,b6,b7⟩:=U;have Zf:WR mW ((il v B1 B2).on w1.tape w1.drawn) w1:=by
  refine⟨fun r s t hr hs=>?_,fun r t hr=>?_,b2.2.1.trans hw.os,rfl,rfl⟩
  ·rcases split hr with U|⟨U,h2⟩|⟨U,h2⟩<;>rcases split hs with h3|⟨h3,h4⟩|⟨h3,h4⟩
   ·exact hw.inj r s t U h3
   ·exact absurd (uL _ _ U).2 (by omega)
   ·exact absurd (uL _ _ U).2 (by omega)
   ·exact absurd (uL _ _ h3).2 (by omega)
   ·omega
   ·omega
   ·exact absurd (uL _ _ h3).2 (by omega)
   ·omega
   ·omega
  ·rcases split hr with U|⟨U,h2⟩|⟨U,h2⟩
   ·obtain⟨o,q,d1,d2,d3⟩:=hw.jj r t U
    refine⟨eT o,q,?_,((b3 t (uL _ _ U).2 (ot _ _ U)).2).trans d2,d3.fz.mono le⟩;show(il v B1 B2).heap[r]?=_
    rw[Bu (uL _ _ U).1];have T0:v.heap[r]?=some o:=d1
    rw[T0];rfl
   ·subst U h2
    refine⟨_,_,IF,b6,jQ.fz (o:=B1) (.cells (Fz.refl _) ⟨rfl,fun i U h2=>?_⟩)⟩
    obtain rfl:i=0:=by simp at U;exact U
    exact .slice gl gc ⟨le.sub _ _ Fx.1,Fx.2.1,Fx.2.2.1,Fx.2.2.2⟩
   ·subst U h2
    refine⟨_,_,IG,b7,jQ.fz (o:=B2) (.cells (Fz.refl _) ⟨rfl,fun i U h2=>?_⟩)⟩
    obtain rfl:i=0:=by simp at U;exact U
    exact .int _ _
 have hI:mu (p.j0+i+1) mW (il v B1 B2) aQ:=by
  intro r t hr;left
  rcases split hr with U|⟨U,h2⟩|⟨U,h2⟩
  ·obtain⟨o,q,d1,d2,d3⟩:=hw.jj r t U
   have T0:v.heap[r]?=some o:=d1
   exact⟨wC (o:=o) (by rw[Bu (uL _ _ U).1,T0];rfl) d3.M9,(b3 t (uL _ _ U).2 (ot _ _ U)).1⟩
  ·subst U h2
   exact⟨wC (o:=B1) IF (.inl ⟨_,_,_,rfl⟩),b4⟩
  ·subst U h2
   exact⟨wC (o:=B2) IG (.inl ⟨_,_,_,rfl⟩),b5⟩
 have qG:FR Tryz.prog spec mW (Frame.enter Tw.prog 121 #[.int .i64 (gs i),ptr v.heap.size,ptr (v.heap.size+1)] .normal) (Frame.enter Tryz.prog 121 #[.int .i64 (gs i),ptr N,ptr (N+1)] .normal):=by
  refine FR.enter (m:=mW) (F:=Tw.prog.funcs) (P:=Tryz.prog) B Fw OM ⟨rfl,fun j U h2=>?_⟩
  obtain rfl|rfl|rfl:j=0∨j=1∨j=2:=by simp at U;omega
  ·exact .int _ _
  ·exact JF mN
  ·exact JF Ze
 exact K8 (P:=Tryz.prog) (F0:=Tw.prog.funcs) (spec:=spec) (good:=m.good) (R:=fun e _=>e= .returned (a i).val) (p:=p) B (fun _ h=>(by cases h)) (fun x w _ h=>(by cases h)) (a:=a i) (fun x w h=>by injection h) F (by omega)
  (fun {n f' f fs' fs v} rR he pC cG=>Rc (rR▸B) wD he pC cG) (fun γ w h=>⟨h.1.ph,h.1.st⟩) fR fG
  (c:=Nm Tryz.prog p.wg (N+2) gb (N+4) ib x5 x6 (Ey N) (.int .i64 (gs i)) undef undef (4::l)) (e0:=[tX Tryz.prog]) (fun γ w h=>K γ w h) hE (fs':=[]) (fs:=[]) (m:=mW) rfl rfl qG .nil Zf hI ⟨b1,b2,b3,b4,b5,b6,b7⟩
end
end Go.Proofs.YtjklkppncmhehaaGreat.Sr
