/-
What is proved: a worker makes its way through its region and what rests on it. Conditions: as stated.
-/
import Derived.Test.YtlhohdjniaebbaaGreatRy10
import Derived.Test.YtlhohdjniaebbaaGreatRy13
import Derived.Test.YtlhohdjniaebbaaGreatRy14
import Derived.Test.YtlhohdjniaebbaaGreatRy06
set_option linter.unusedVariables false
set_option linter.unusedSimpArgs false
namespace Go.Proofs.YtlhohdjniaebbaaGreat.Sr
open Go Go.Conc Go.ConcN
section
variable {P:Program}{k d:Nat}{γ:Gh}{w:World}{t:Trace}{j:Nat}{p:Ph}{g:Goroutine}{fn:FuncId}{pos:String}{es:Array Event}
theorem JJ.Yd (hJ:JJ γ w t j):JJ γ w (t++MemOp.ofEvents k fn pos #[]) j:=by
 rw[Dg,Array.append_empty];exact hJ
theorem yY (γ:Gh)(k a:Nat):γ.grow k a a=γ:=by
 unfold Gh.grow;have:(fun i x=>γ.ow i x∨(i=k∧a≤x∧x<a))=γ.ow:=by
  funext i x
  apply propext
  constructor
  ·rintro(h|⟨_,h1,h2⟩)
   ·exact h
   ·omega
  ·exact .inl
 rw[this]
theorem aaZ (h:JJ γ w t j)(hp:γ.ph=some p)(hk:p.j0<k)(kj:k≤j)(hb:γ.st k= .busy)(aR:∀e∈es,Py γ k w.heap.size e):JJ γ w (t++MemOp.ofEvents k fn pos es) j∧∀k',k'≠k→RR k' γ w γ w:=by
 have:=SG (w1:=w) (fn:=fn) (pos:=pos) (es:=es) h hp hk kj hb ⟨rfl,rfl,rfl⟩ (Nat.le_refl _) (fun _ _ _=>rfl) (by rw[yY];exact aR)
 rwa[yY]at this
theorem Wn {b o B:Nat}(h:γ.ro k b)(hB:b<B):Py γ k B (db ⟨b,o,none⟩ false):=
 ⟨fun x hx=> .inr (by have:x=⟨.cell ⟨b,o,none⟩,false,.plain⟩:=(Option.some.inj hx).symm;subst this;exact⟨⟨b,rfl,h⟩,rfl⟩),hB,nofun⟩
theorem nK {b o B:Nat}(h:γ.Slot k ⟨b,o,none⟩)(hB:b<B):Py γ k B (db ⟨b,o,none⟩ true):=
 ⟨fun x hx=> .inl (by have:x=⟨.cell ⟨b,o,none⟩,true,.plain⟩:=(Option.some.inj hx).symm;subst this;exact .inr ⟨_,rfl,h⟩),hB,nofun⟩
structure pk (k:Nat) (p:Ph) (qb gb ab ib:Nat) (fv gv av iv:Value) (γ:Gh) (w:World):Prop where
 ph:γ.ph=some p
 st:γ.st k= .busy
 ro:γ.ro k qb∧γ.ro k gb∧γ.ro k ab∧γ.ro k ib
 cq:w.cell? ⟨qb,0,none⟩=some fv∧w.frozen? ⟨qb,0,none⟩=false
 cg:w.cell? ⟨gb,0,none⟩=some gv∧w.frozen? ⟨gb,0,none⟩=false
 ca:w.cell? ⟨ab,0,none⟩=some av∧w.frozen? ⟨ab,0,none⟩=false
 ci:w.cell? ⟨ib,0,none⟩=some iv∧w.frozen? ⟨ib,0,none⟩=false
theorem yZ {w w':World}{a:Addr}(h:w'.heap[a.block]?=w.heap[a.block]?):w'.frozen? a=w.frozen? a:=by
 unfold World.frozen?;rw[h]
theorem pk.rely {qb gb ab ib:Nat}{fv gv av iv:Value}{ah:Gh}{w':World}(hk:1≤k)(h:pk k p qb gb ab ib fv gv av iv γ w)(r:RR k γ w ah w'):pk k p qb gb ab ib fv gv av iv ah w':=by
 obtain⟨r1,r2,r3,r4,r5,r6,r7,r8⟩:=(jS hk r).live (nH h.st (by decide))
 obtain⟨o1,o2,o3,o4⟩:=h.ro;have key:∀{b:Nat} {v:Value},γ.ro k b→w.cell? ⟨b,0,none⟩=some v∧w.frozen? ⟨b,0,none⟩=false→w'.cell? ⟨b,0,none⟩=some v∧w'.frozen? ⟨b,0,none⟩=false:=by
  intro b v hb hc;have e:=r7 b (.inr hb);rw[cell_of e,yZ e];exact hc
 exact⟨r4.trans h.ph,r1.trans h.st,⟨(r3 _).2 o1,(r3 _).2 o2,(r3 _).2 o3,(r3 _).2 o4⟩,key o1 h.cq,key o2 h.cg,key o3 h.ca,key o4 h.ci⟩
theorem WP.box {v:Value}{b:Nat}{g':Goroutine}(hv:bn P v none g=some ⟨g',#[db ⟨b,0,none⟩ false],[⟨b,0,none⟩],[],none⟩)(hk:1≤k)
  (hF:∀ah w',RR k γ w ah w'→ah.ph=some p∧ah.st k= .busy∧ah.ro k b∧w'.cell? ⟨b,0,none⟩=some v∧w'.frozen? ⟨b,0,none⟩=false) (hj:p.j0<k)
  (K:∀ah w',RR k γ w ah w'→WP (sys P) k d ah w' g'):WP (sys P) k d γ w g:=by
 obtain⟨_,SY,_⟩:=hF γ w ((sys P).refl k γ w);refine .rk (vS hv).1 (nG hk (nH SY (by decide))) fun γ1 w1 t1 j1 h1 jF sJ KR=>?_
 obtain⟨f1,f2,f3,f4,f5⟩:=hF γ1 w1 h1;obtain⟨r1,r2⟩:=aaZ (fn:=g.frame.fn) (pos:=g.frame.place) (es:= #[db ⟨b,0,none⟩ false]) jF f1 hj KR f2 fun e he=>by simp at he;subst he;exact Wn f3 (jF.kv _ _ f3)
 exact⟨v,none,_,γ1,hv,fun a ha=>(by have:a=⟨b,0,none⟩:=by simpa using ha
                                    subst this;exact⟨f4,f5⟩),fun r hr=>(by cases hr),r1,r2,fun e e'=>absurd e' e,K γ1 w1 h1⟩
theorem WP.one {g':Goroutine}(hq:bU P g=some (g',#[]))(hg:∀ah w',RR k γ w ah w'→¬ah.Gone k)(K:∀ah w',RR k γ w ah w'→WP (sys P) k d ah w' g'):WP (sys P) k d γ w g:=by
 obtain⟨h1,h2⟩:=ee hq;exact .mk h1 hg fun ah w' t j hR hJ hd kj=>⟨⟨g',w',#[],ah⟩,⟨h2 false w',hJ.Yd,fun k' _=>(sys P).refl _ _ _⟩,fun a b=>absurd a b,K ah w' hR⟩
theorem rM {A:Nat}{e:TypeId}{f:Nat×Nat}:∀(l:List (Nat×Value)) {w:World} {cs:Array Value},w.heap[A]?=some (.cells cs e f)→
  (lg w (l.map fun q=>(⟨A,q.1,none⟩,q.2))).heap[A]?=some (.cells (l.foldl (fun c q=>c.setIfInBounds q.1 q.2) cs) e f)∧(∀b,b≠A→(lg w (l.map fun q=>(⟨A,q.1,none⟩,q.2))).heap[b]?=w.heap[b]?)∧
   (lg w (l.map fun q=>(⟨A,q.1,none⟩,q.2))).heap.size=w.heap.size∧bq w (lg w (l.map fun q=>(⟨A,q.1,none⟩,q.2)))
 |[],w,cs,h=>⟨h,fun _ _=>rfl,rfl,rfl,rfl,rfl⟩
 |q::l,w,cs,h=>by
  have h1:(w.setCell ⟨A,q.1,none⟩ q.2).heap[A]?=some (.cells (cs.setIfInBounds q.1 q.2) e f):=by
   rw[AG,h];simp
  obtain⟨a1,a2,a3,a4⟩:=rM l h1;refine⟨a1,fun b hb=>(a2 b hb).trans (iC b hb),a3.trans b9,a4⟩
theorem KS {qb gb ab ib:Nat}{fv gv av iv x5 x6 x7 x8:Value}{a:eH}{eW:TypeId}(F7:eW=231)(he:p.eW=eW)(hj:p.j0<k)(hn:k-p.j0-1<p.n)(nL:∀c,c<5→p.mB (k-p.j0-1) c=a.cell c)
  (hF:pk k p qb gb ab ib fv gv av iv γ w):WP (sys Tryz.prog) k 0 γ w (dh Tryz.prog p.wg qb gb ab ib x5 x6 x7 x8 a.val (.pointer (some ⟨p.A,5*(k-p.j0-1),none⟩)) [6]):=by
 have hk:1≤k:=by omega
 obtain⟨s1,s2⟩:=oo (aaT p.wg qb gb ab ib x5 x6 x7 x8 [] p.A (5*(k-p.j0-1)) a);refine .mk s1 (nG hk (nH hF.st (by decide))) fun γ1 w1 t1 j1 h1 jF sJ KR=>?_
 have F1:=hF.rely hk h1;have x1:=jF.phase p F1.ph;obtain⟨cs,a1,a2,a3⟩:=x1.arr;have hb:5*(k-p.j0-1)+4<cs.size:=by omega
 have eT:∀c,c<5→(w1.cell? ⟨p.A,5*(k-p.j0-1)+c,none⟩).isSome=true∧w1.frozen? ⟨p.A,5*(k-p.j0-1)+c,none⟩=false:=by
  intro c hc;unfold World.cell? World.frozen?;simp only[a1];refine⟨?_,by simp⟩
  simp
  omega
 have go:=s2 false w1 fun q hq=>by
  simp only[List.mem_cons,List.mem_nil_iff,or_false]at hq;rcases hq with rfl|rfl|rfl|rfl|rfl
  ·exact eT 0 (by omega)
  ·exact eT 1 (by omega)
  ·exact eT 2 (by omega)
  ·exact eT 3 (by omega)
  ·exact eT 4 (by omega)
 obtain⟨b1,b2,b3,b4⟩:=rM [(5*(k-p.j0-1),a.cell 0),(5*(k-p.j0-1)+1,a.cell 1),(5*(k-p.j0-1)+2,a.cell 2),(5*(k-p.j0-1)+3,a.cell 3),(5*(k-p.j0-1)+4,a.cell 4)] a1;simp only[List.map_cons,List.map_nil]at b1 b2 b3 b4;generalize fu:lg w1 [(⟨p.A,5*(k-p.j0-1),none⟩,a.cell 0),(⟨p.A,5*(k-p.j0-1)+1,none⟩,a.cell 1),(⟨p.A,5*(k-p.j0-1)+2,none⟩,a.cell 2),(⟨p.A,5*(k-p.j0-1)+3,none⟩,a.cell 3),(⟨p.A,5*(k-p.j0-1)+4,none⟩,a.cell 4)]=w2 at go b1 b2 b3 b4;simp only[List.foldl_cons,List.foldl_nil]at b1;have hB:=(jF.lt F1.ph).2.1;have sl:∀c,c<5→γ1.Slot k ⟨p.A,5*(k-p.j0-1)+c,none⟩:=fun c hc=>⟨p,F1.ph,hj,rfl,by show _≤5*(k-p.j0-1)+c;omega,by show 5*(k-p.j0-1)+c<_;omega⟩
 obtain⟨r1,r2⟩:=SH (w1:=w2) (fn:=(dh Tryz.prog p.wg qb gb ab ib x5 x6 x7 x8 a.val (.pointer (some ⟨p.A,5*(k-p.j0-1),none⟩)) [6]).frame.fn) (pos:=(dh Tryz.prog p.wg qb gb ab ib x5 x6 x7 x8 a.val (.pointer (some ⟨p.A,5*(k-p.j0-1),none⟩)) [6]).frame.place)
  (es:= #[db ⟨p.A,5*(k-p.j0-1),none⟩ true,db ⟨p.A,5*(k-p.j0-1)+1,none⟩ true,db ⟨p.A,5*(k-p.j0-1)+2,none⟩ true,db ⟨p.A,5*(k-p.j0-1)+3,none⟩ true,db ⟨p.A,5*(k-p.j0-1)+4,none⟩ true])
  jF F1.ph hj KR F1.st b4 b3 b2 (fun Zd h0=>by
   rw[a1]at h0
   cases h0;refine⟨_,b1,by simp,fun o ho=>?_⟩
   simp only[Array.getElem?_setIfInBounds];repeat rw[if_neg (by omega)]) fun e he=>by
   simp only[List.mem_toArray,List.mem_cons,List.mem_nil_iff,or_false]at he;rcases he with rfl|rfl|rfl|rfl|rfl
   ·exact nK (sl 0 (by omega)) hB
   ·exact nK (sl 1 (by omega)) hB
   ·exact nK (sl 2 (by omega)) hB
   ·exact nK (sl 3 (by omega)) hB
   ·exact nK (sl 4 (by omega)) hB
 have Wo:=F1.st;refine⟨⟨_,w2,_,γ1⟩,⟨go,r1,r2⟩,fun x y=>absurd x y,?_⟩
 show WP (sys Tryz.prog) k 0 γ1 w2 (dh Tryz.prog p.wg qb gb ab ib x5 x6 x7 x8 a.val (.pointer (some ⟨p.A,5*(k-p.j0-1),none⟩)) [])
 have eJ:∀c,c<5→w2.cell? ⟨p.A,5*(k-p.j0-1)+c,none⟩=some (p.mB (k-p.j0-1) c):=by
  intro c hc;rw[nL c hc];unfold World.cell?;simp only[b1,Option.isSome_none,Bool.false_eq_true,if_false];obtain rfl|rfl|rfl|rfl|rfl:c=0∨c=1∨c=2∨c=3∨c=4:=by omega
  all_goals
   simp only[Array.getElem?_setIfInBounds,Array.size_setIfInBounds];simp
   omega
 refine WP.mute (n:=1) (V9 p.wg qb gb ab ib x5 x6 x7 x8 a.val (.pointer (some ⟨p.A,5*(k-p.j0-1),none⟩))) (nG hk (nH Wo (by decide))) fun lj w3 h3=>?_
 rw[Sy p.wg qb gb ab ib x5 x6 x7 x8 a.val (.pointer (some ⟨p.A,5*(k-p.j0-1),none⟩))];have FX:=jk hk h3 (nH Wo (by decide))
 refine KQ _ (he.trans F7) (FX.ph.trans F1.ph) hj (FX.st.trans Wo) fun c hc=>?_;obtain⟨_,_,_,_,_,_,_,r8⟩:=(jS hk h3).live (nH Wo (by decide))
 rw[r8 _ (sl c hc)];exact eJ c hc
def uv (b:Bool)(v:Value):Value:=if b then v else undef
theorem aa0 (wg qb gb ab ib A n i:Nat)(x7 x8 x9 dD:Value)(l:List Nat)(hn:n≤5)(hi:i<n):
  bU Tryz.prog (dh Tryz.prog wg qb gb ab ib (.slice (some ⟨A,0,none⟩) n n) (.int .i64 i) x7 x8 x9 dD (5::l))=some (dh Tryz.prog wg qb gb ab ib (.slice (some ⟨A,0,none⟩) n n) (.int .i64 i) x7 x8 x9 (.pointer (some ⟨A,5*i,none⟩)) l,#[]):=by
 obtain rfl|rfl|rfl|rfl|rfl:n=1∨n=2∨n=3∨n=4∨n=5:=by omega
 ·obtain rfl:i=0:=by omega
  exact Pe wg qb gb ab ib x7 x8 x9 dD l A
 ·obtain rfl|rfl:i=0∨i=1:=by omega
  ·exact Pf wg qb gb ab ib x7 x8 x9 dD l A
  ·exact Pg wg qb gb ab ib x7 x8 x9 dD l A
 ·obtain rfl|rfl|rfl:i=0∨i=1∨i=2:=by omega
  ·exact Pj wg qb gb ab ib x7 x8 x9 dD l A
  ·exact Pk wg qb gb ab ib x7 x8 x9 dD l A
  ·exact Pm wg qb gb ab ib x7 x8 x9 dD l A
 ·obtain rfl|rfl|rfl|rfl:i=0∨i=1∨i=2∨i=3:=by omega
  ·exact Pn wg qb gb ab ib x7 x8 x9 dD l A
  ·exact Po wg qb gb ab ib x7 x8 x9 dD l A
  ·exact Pp wg qb gb ab ib x7 x8 x9 dD l A
  ·exact Pq wg qb gb ab ib x7 x8 x9 dD l A
 ·obtain rfl|rfl|rfl|rfl|rfl:i=0∨i=1∨i=2∨i=3∨i=4:=by omega
  ·exact Pr wg qb gb ab ib x7 x8 x9 dD l A
  ·exact Ps wg qb gb ab ib x7 x8 x9 dD l A
  ·exact Pt wg qb gb ab ib x7 x8 x9 dD l A
  ·exact Pu wg qb gb ab ib x7 x8 x9 dD l A
  ·exact Pv wg qb gb ab ib x7 x8 x9 dD l A
theorem Dn {ops:Array Oper}{i:Nat}{ds:List Nat}{L:Array Bool}{o:Oper}(hd:ops[i]?.map (·.after.toList.map (·.on))=some ds)(hb:ops.all (·.after.all (Region.binds .any ·))=true)(ho:ops[i]?=some o)
  (h:∀e∈o.after,Region.binds .any e=true→L.getD e.on false=true):∀x∈ds,L.getD x false=true:=by
 intro x hx;rw[ho]at hd;simp only[Option.map_some,Option.some.injEq]at hd;subst hd;obtain⟨e,he,rfl⟩:=List.mem_map.1 hx;have dg:e∈o.after:=by simpa using he
 have h1:=Array.all_eq_true_iff_forall_mem.1 hb o (Array.mem_of_getElem? ho);exact h e dg (Array.all_eq_true_iff_forall_mem.1 h1 e dg)
theorem F8 (F:Gh→World→Prop){qb gb ab ib gs ms n:Nat}{gi:Int}{a:eH}{fv:Value}(Ze:fv= .func (.func 187) #[] #[ptr gs,ptr ms])(he:p.eW=231)(hpn:p.n=n)(ng:n≤5)(hj:p.j0<k)(hi:k-p.j0-1<n)
  (nL:∀c,c<5→p.mB (k-p.j0-1) c=a.cell c) (hF:∀γ w,F γ w→pk k p qb gb ab ib fv (.int .i64 gi) (.slice (some ⟨p.A,0,none⟩) n n) (.int .i64 ((k-p.j0-1:Nat):Int)) γ w) (hR:∀γ w ah w',F γ w→RR k γ w ah w'→F ah w')
  (KU:∀x5 x6 l γ w,F γ w→(∀ah w',F ah w'→WP (sys Tryz.prog) k 0 ah w' (dh Tryz.prog p.wg qb gb ab ib x5 x6 fv (.int .i64 gi) a.val undef l))→
   WP (sys Tryz.prog) k 0 γ w {frame:=Frame.enter Tryz.prog 187 #[.int .i64 gi,ptr gs,ptr ms] .normal,callers:=[Sv Tryz.prog p.wg qb gb ab ib x5 x6 fv (.int .i64 gi) undef undef (4::l),wH Tryz.prog],status:= .running,dying:=none}):
  ∀(m:Nat) (b0 b1 b2 b3 b4 b5:Bool) (l:List Nat) (γ:Gh) (w:World),m=(!b0).toNat+(!b1).toNat+(!b2).toNat+(!b3).toNat+(!b4).toNat+(!b5).toNat+1→wI (kL Tryz.prog) m #[b0,b1,b2,b3,b4,b5,false] l→
   (b4=true→b2=true∧b3=true)→(b5=true→b0=true∧b1=true∧b2=true∧b3=true∧b4=true)→F γ w→
   WP (sys Tryz.prog) k 0 γ w (dh Tryz.prog p.wg qb gb ab ib (uv b0 (.slice (some ⟨p.A,0,none⟩) n n)) (uv b1 (.int .i64 ((k-p.j0-1:Nat):Int))) (uv b2 fv) (uv b3 (.int .i64 gi)) (uv b4 a.val) (uv b5 (.pointer (some ⟨p.A,5*(k-p.j0-1),none⟩))) l):=by
 have hk:1≤k:=by omega
 intro m;induction m with
 |zero=>intro b0 b1 b2 b3 b4 b5 l γ w hm;omega
 |succ m ih=>
  intro b0 b1 b2 b3 b4 b5 l γ w hm mK h4 h5 hf;have box:=hF γ w hf;have live:∀ah w',RR k γ w ah w'→¬ah.Gone k:=nG hk (nH box.st (by decide))
  rcases mK with⟨h1,_⟩|⟨i,l',aa1,rfl,mK⟩
  ·have:=Pd b0 b1 b2 b3 b4 b5 false
   rw[h1]at this;simp at this
  ·obtain⟨i1,i2,o,ho,SZ⟩:=pZ aa1
   rw[FM]at i1;obtain⟨d4,d5,d6,S0⟩:=Sx;obtain rfl|rfl|rfl|rfl|rfl|rfl|rfl:i=0∨i=1∨i=2∨i=3∨i=4∨i=5∨i=6:=by omega
   ·obtain rfl:b0=false:=by simpa using i2
    refine WP.box (aaO p.wg qb gb ab ib _ _ _ _ _ _ (.slice (some ⟨p.A,0,none⟩) n n) l') hk (fun γ1 w1 h1=>?_) hj fun γ1 w1 h1=>?_
    ·have b:=hF γ1 w1 (hR _ _ _ _ hf h1)
     exact⟨b.ph,b.st,b.ro.2.2.1,b.ca⟩
    ·exact ih true b1 b2 b3 b4 b5 l' γ1 w1 (by simp at hm⊢;omega) mK h4 (fun e=>⟨rfl,(h5 e).2⟩) (hR _ _ _ _ hf h1)
   ·obtain rfl:b1=false:=by simpa using i2
    refine WP.box (aaP p.wg qb gb ab ib _ _ _ _ _ _ (.int .i64 ((k-p.j0-1:Nat):Int)) l') hk (fun γ1 w1 h1=>?_) hj fun γ1 w1 h1=>?_
    ·have b:=hF γ1 w1 (hR _ _ _ _ hf h1)
     exact⟨b.ph,b.st,b.ro.2.2.2,b.ci⟩
    ·exact ih b0 true b2 b3 b4 b5 l' γ1 w1 (by simp at hm⊢;omega) mK h4 (fun e=>⟨(h5 e).1,rfl,(h5 e).2.2⟩) (hR _ _ _ _ hf h1)
   ·obtain rfl:b2=false:=by simpa using i2
    refine WP.box (aaQ p.wg qb gb ab ib _ _ _ _ _ _ fv l') hk (fun γ1 w1 h1=>?_) hj fun γ1 w1 h1=>?_
    ·have b:=hF γ1 w1 (hR _ _ _ _ hf h1)
     exact⟨b.ph,b.st,b.ro.1,b.cq⟩
    ·exact ih b0 b1 true b3 b4 b5 l' γ1 w1 (by simp at hm⊢;omega) mK (fun e=>⟨rfl,(h4 e).2⟩) (fun e=>⟨(h5 e).1,(h5 e).2.1,rfl,(h5 e).2.2.2⟩) (hR _ _ _ _ hf h1)
   ·obtain rfl:b3=false:=by simpa using i2
    refine WP.box (aaR p.wg qb gb ab ib _ _ _ _ _ _ (.int .i64 gi) l') hk (fun γ1 w1 h1=>?_) hj fun γ1 w1 h1=>?_
    ·have b:=hF γ1 w1 (hR _ _ _ _ hf h1)
     exact⟨b.ph,b.st,b.ro.2.1,b.cg⟩
    ·exact ih b0 b1 b2 true b4 b5 l' γ1 w1 (by simp at hm⊢;omega) mK (fun e=>⟨(h4 e).1,rfl⟩) (fun e=>⟨(h5 e).1,(h5 e).2.1,(h5 e).2.2.1,rfl,(h5 e).2.2.2.2⟩) (hR _ _ _ _ hf h1)
   ·obtain rfl:b4=false:=by simpa using i2
    have dd:=Dn d4 S0 ho SZ;obtain rfl:b2=true:=by simpa using dd 2 (by simp)
    obtain rfl:b3=true:=by simpa using dd 3 (by simp)
    obtain rfl:b5=false:=by
     cases b5 with
     |false=>rfl
     |true=>exact absurd (h5 rfl).2.2.2.2 (by simp)
    show WP (sys Tryz.prog) k 0 γ w (dh Tryz.prog p.wg qb gb ab ib (uv b0 (.slice (some ⟨p.A,0,none⟩) n n)) (uv b1 (.int .i64 ((k-p.j0-1:Nat):Int))) fv (.int .i64 gi) undef undef (4::l'))
    have e4:=aaS p.wg qb gb ab ib (uv b0 (.slice (some ⟨p.A,0,none⟩) n n)) (uv b1 (.int .i64 ((k-p.j0-1:Nat):Int))) (.int .i64 gi) undef undef l' gs ms;rw[←Ze]at e4;refine WP.one e4 live fun γ1 w1 h1=>?_;refine KU _ _ l' γ1 w1 (hR _ _ _ _ hf h1) fun cZ w2 f2=>?_;exact ih b0 b1 true true true false l' cZ w2 (by simp at hm⊢;omega) mK (fun _=>⟨rfl,rfl⟩) (fun e=>(by cases e)) f2
   ·obtain rfl:b5=false:=by simpa using i2
    have dd:=Dn d5 S0 ho SZ;obtain rfl:b0=true:=by simpa using dd 0 (by simp)
    obtain rfl:b1=true:=by simpa using dd 1 (by simp)
    obtain rfl:b2=true:=by simpa using dd 2 (by simp)
    obtain rfl:b3=true:=by simpa using dd 3 (by simp)
    obtain rfl:b4=true:=by simpa using dd 4 (by simp)
    refine WP.one (aa0 p.wg qb gb ab ib p.A n (k-p.j0-1) _ _ _ _ l' ng hi) live fun γ1 w1 h1=>?_;exact ih true true true true true true l' γ1 w1 (by simp at hm⊢;omega) mK (fun _=>⟨rfl,rfl⟩) (fun _=>⟨rfl,rfl,rfl,rfl,rfl⟩) (hR _ _ _ _ hf h1)
   ·have dd:=Dn d6 S0 ho SZ
    obtain rfl:b0=true:=by simpa using dd 0 (by simp)
    obtain rfl:b1=true:=by simpa using dd 1 (by simp)
    obtain rfl:b2=true:=by simpa using dd 2 (by simp)
    obtain rfl:b3=true:=by simpa using dd 3 (by simp)
    obtain rfl:b4=true:=by simpa using dd 4 (by simp)
    obtain rfl:b5=true:=by simpa using dd 5 (by simp)
    obtain rfl:m=0:=by simp at hm;omega
    obtain rfl:l'=[]:=mK
    exact KS rfl he hj (by omega) nL box
end
end Go.Proofs.YtlhohdjniaebbaaGreat.Sr
namespace Go.Proofs.YtlhohdjniaebbaaGreat.Sr
open Go Go.Conc Go.ConcN
theorem Dp {P:Program}{b:Bool}{fr:Frame}{cs:List Frame}{w:World}{id:Nat}{ops:Array Oper}{k:List Item}(hm:fr.mode= .run)(ht:fr.todo= .code (.region id ops true)::k):
  stepG P b {frame:=fr,callers:=cs,status:= .running,dying:=none} w= .go {frame:={fr with todo:= .inRegion ops (Region.schedule (P.follows .mixedOrders) ops (w.tape w.drawn (.order fr.fn id)))::k},callers:=cs,status:= .running,dying:=none} (w.at (w.drawn+1)) #[]:=by
 simp[stepG,stepG.exec,hm,ht,choose,Sem.run,Question.forced,Question.cut,World.at]
section
variable {k:Nat}{γ:Gh}{w:World}{p:Ph}
set_option maxRecDepth 100000 in
theorem F9 (F:Gh→World→Prop){qb gb ab ib gs ms n:Nat}{gi:Int}{a:eH}{fv:Value}(Ze:fv= .func (.func 187) #[] #[ptr gs,ptr ms])(he:p.eW=231)(hpn:p.n=n)(ng:n≤5)(hj:p.j0<k)(hi:k-p.j0-1<n)
  (nL:∀c,c<5→p.mB (k-p.j0-1) c=a.cell c) (hF:∀γ w,F γ w→pk k p qb gb ab ib fv (.int .i64 gi) (.slice (some ⟨p.A,0,none⟩) n n) (.int .i64 ((k-p.j0-1:Nat):Int)) γ w) (hR:∀γ w ah w',F γ w→RR k γ w ah w'→F ah w')
  (KU:∀x5 x6 l γ w,F γ w→(∀ah w',F ah w'→WP (sys Tryz.prog) k 0 ah w' (dh Tryz.prog p.wg qb gb ab ib x5 x6 fv (.int .i64 gi) a.val undef l))→
   WP (sys Tryz.prog) k 0 γ w {frame:=Frame.enter Tryz.prog 187 #[.int .i64 gi,ptr gs,ptr ms] .normal,callers:=[Sv Tryz.prog p.wg qb gb ab ib x5 x6 fv (.int .i64 gi) undef undef (4::l),wH Tryz.prog],status:= .running,dying:=none})
  (hf:F γ w):WP (sys Tryz.prog) k 0 γ w (KH Tryz.prog p.wg qb gb ab ib):=by
 have hk:1≤k:=by omega
 have live:∀γ w,F γ w→∀ah w',RR k γ w ah w'→¬ah.Gone k:=fun γ w h=>nG hk (nH (hF γ w h).st (by decide))
 refine WP.mute (n:=5) (Pb p.wg qb gb ab ib) (live γ w hf) fun γ1 w1 h1=>?_;rw[Sw];have f1:=hR _ _ _ _ hf h1;refine .mk rfl (live γ1 w1 f1) fun cZ w2 t2 j2 h2 nj yS kj2=>?_;have f2:=hR _ _ _ _ f1 h2;have hs:=Dp (P:=Tryz.prog) (b:=false) (fr:=(YW Tryz.prog p.wg qb gb ab ib).frame) (cs:=[wH Tryz.prog]) (w:=w2) (id:=1) (ops:=kL Tryz.prog) (k:=[]) rfl rfl;refine⟨⟨_,_,_,cZ⟩,⟨hs,(nj.draw _).Yd,fun k' _=>(sys Tryz.prog).yI k' cZ w2 _⟩,fun x y=>absurd x y,?_⟩
 have f3:=hR _ _ _ _ f2 ((sys Tryz.prog).yI k cZ w2 (w2.drawn+1));have mK:=rL (kL Tryz.prog) (Tables.follows Tryz.prog.toTables .mixedOrders) FL (w2.tape w2.drawn (.order (YW Tryz.prog p.wg qb gb ab ib).frame.fn 1));rw[FM]at mK;have key:=F8 F Ze he hpn ng hj hi nL hF hR KU 7 false false false false false false _ cZ (w2.at (w2.drawn+1)) rfl mK (fun e=>(by cases e)) (fun e=>(by cases e)) f3
 exact key
end
end Go.Proofs.YtlhohdjniaebbaaGreat.Sr
namespace Go.Proofs.YtlhohdjniaebbaaGreat.Sr
open Go Go.Conc Go.ConcN
section
variable {m n:aD}{v w v1 w1:World}{es:Array Event}{B:Nat}
theorem AF.facts {e' e:Event}(h:AF m e' e):(∀x,(MemAct.ofEvent e).touch?=some x→∃r t,m r=some t∧bI x.loc=some t∧(x.write=true→e'.write=true∧∃a,e'.loc= .cell a∧a.block=r))∧
  ((∀r t,m r=some t→t<B)→(MemAct.ofEvent e).low B)∧(∀a,MemAct.ofEvent e≠.mark (.release a))∧e.loc≠.mark .disable∧e.loc≠.mark .enable:=by
 rcases h with⟨a,b,ha,h1,h2,h3,h4⟩|⟨rfl,h1⟩|⟨r,t,hr,rfl,rfl⟩
 ·obtain⟨loc,wr,sy⟩:=e
  obtain⟨ab_,wr',sy'⟩:=e';dsimp only at h1 h2 h3 h4
  subst h1 h2 h3 h4;refine⟨fun x hx=>?_,fun hB=>hB _ _ ha.1,nofun,nofun,nofun⟩
  have:x=⟨.cell b,wr,if sy then .atomic else .plain⟩:=(Option.some.inj hx).symm
  subst this;exact⟨a.block,b.block,ha.1,rfl,fun hw=>⟨hw,a,rfl,rfl⟩⟩
 ·obtain⟨loc,wr,sy⟩:=e'
  dsimp only at h1
  subst h1;exact⟨nofun,fun _=>trivial,nofun,nofun,nofun⟩
 ·refine⟨fun x hx=>?_,fun hB=>?_,nofun,nofun,nofun⟩
  ·have:x=⟨.obj t,false,.plain⟩:=(Option.some.inj hx).symm
   subst this;exact⟨r,t,hr,rfl,nofun⟩
  ·exact hB r t hr
theorem om.hears (h:om n v es)(d:Nat):deafBehind d es=d:=deafBehind_still (fun e he=>by
 obtain⟨e',h1,_⟩:=h e he;exact(AF.facts (B:=0) h1).2.2.2) d
theorem WR.lt (h:WR m v w){r t:Nat}(hr:m r=some t):r<v.heap.size∧t<w.heap.size:=by
 obtain⟨o,p,h1,h2,_⟩:=h.iX r t hr;exact⟨(Array.getElem?_eq_some_iff.1 h1).1,(Array.getElem?_eq_some_iff.1 h2).1⟩
theorem WR.stay {w':World}(h:WR m v w)(hh:∀r t,m r=some t→w'.heap[t]?=w.heap[t]?)(hs:bq w w'):WR m (v.on w'.tape w'.drawn) w':=by
 refine⟨h.inj,fun r t hr=>?_,hs.2.1.trans h.os,rfl,rfl⟩
 obtain⟨o,p,h1,h2,h3⟩:=h.iX r t hr;exact⟨o,p,h1,(hh r t hr).trans h2,h3⟩
theorem dG.on {r:Nat}{T:Nat→Question→Nat}{d:Nat}:dG (v.on T d) r↔dG v r:= .rfl
end
section
variable {k:Nat}{γ ah:Gh}{v w v1 w1 w':World}{t:Trace}{j:Nat}{p:Ph}{fn:FuncId}{pos:String}{es:Array Event}{m n:aD}
def nM (k:Nat)(m:aD)(v:World)(γ:Gh):Prop:=∀r t,m r=some t→(dG v r∧γ.ro k t)∨γ.ow k t
theorem nM.rely (hk:1≤k)(h:nM k m v γ)(hb:γ.st k= .busy)(r:RR k γ w ah w'):nM k m v ah:=fun a b fL=>by
 obtain⟨_,r2,r3,_⟩:=(jS hk r).live (nH hb (by decide))
 exact(h a b fL).imp (fun x=>⟨x.1,(r3 _).2 x.2⟩) (r2 _).2
theorem nM.heap (hk:1≤k)(h:nM k m v γ)(hb:γ.st k= .busy)(r:RR k γ w ah w'):∀a b,m a=some b→w'.heap[b]?=w.heap[b]?:=fun a b fL=>by
 obtain⟨_,_,_,_,_,_,r7,_⟩:=(jS hk r).live (nH hb (by decide))
 exact r7 b ((h a b fL).elim (fun x=> .inr x.2) .inl)
theorem B3 (hJ:JJ γ w t j)(hp:γ.ph=some p)(hk:p.j0<k)(kj:k≤j)(hb:γ.st k= .busy)(hI:nM k m v γ)(hw:WR m v w)(hK:Kept m n v w v1 w1)(aG:WR n v1 w1)(he:om n v es):
  JJ (γ.grow k w.heap.size w1.heap.size) w1 (t++MemOp.ofEvents k fn pos es) j∧(∀k',k'≠k→RR k' γ w (γ.grow k w.heap.size w1.heap.size) w1)∧nM k n v1 (γ.grow k w.heap.size w1.heap.size)∧
   bq w w1∧w.heap.size≤w1.heap.size∧∀b,b<w.heap.size→¬γ.ow k b→w1.heap[b]?=w.heap[b]?:=by
 have iB:bq w w1:=⟨hK.tape,hK.os,hK.output⟩
 have hh:∀b,b<w.heap.size→¬γ.ow k b→w1.heap[b]?=w.heap[b]?:=fun b hb hn=>hK.old b hb fun r hr=>(hI r b hr).elim (fun x=>x.1) fun x=>absurd x hn
 have hI':nM k n v1 (γ.grow k w.heap.size w1.heap.size):=by
  intro r b hr;rcases hK.fresh r b hr with h1|⟨h1,h2⟩
  ·rcases hI r b h1 with⟨h3,h4⟩|h3
   ·exact .inl ⟨h3.same (hK.jb r h3),h4⟩
   ·exact .inr (.inl h3)
  ·exact .inr (.inr ⟨rfl,h2,(aG.lt hr).2⟩)
 obtain⟨a1,a2⟩:=SG (w1:=w1) (fn:=fn) (pos:=pos) (es:=es) hJ hp hk kj hb iB hK.jL hh fun e KV=>by
  obtain⟨e',h1,h2⟩:=he e KV;obtain⟨f1,f2,f3,_⟩:=AF.facts (B:=w1.heap.size) h1;refine⟨fun x hx=>?_,f2 fun r b hr=>(aG.lt hr).2,f3⟩
  obtain⟨r,b,g1,g2,g3⟩:=f1 x hx;rcases hK.fresh r b g1 with h3|⟨h3,h4⟩
  ·rcases hI r b h3 with⟨h5,h6⟩|h5
   ·refine .inr ⟨⟨b,g2,h6⟩,?_⟩
    cases gJ:x.write with
    |false=>rfl
    |true=>
     obtain⟨c1,a,c2,c3⟩:=g3 gJ;exact absurd (c3▸h5) (h2 c1 a c2)
   ·exact .inl (.inl ⟨b,g2,.inl h5⟩)
  ·exact .inl (.inl ⟨b,g2,.inr ⟨rfl,h4,(aG.lt g1).2⟩⟩)
 exact⟨a1,a2,hI',iB,hK.jL,hh⟩
theorem S1 {a:eH}{y:Value}(h:VR m a.val y):y=a.val:=by
 have hi:∀{i:IntKind} {z:Int} {y:Value},VR m (.int i z) y→y= .int i z:=fun h=>by cases h;rfl
 have hb:∀{z:Bool} {y:Value},VR m (.bool z) y→y= .bool z:=fun h=>by cases h;rfl
 cases h with
 | @agg _ vs hs hh=>
   have vF:vs.size=5:=by rw[←hs];rfl
   have e0:=hi (hh 0 (by show 0<5;omega) (by omega))
   have e1:=hi (hh 1 (by show 1<5;omega) (by omega))
   have e2:=hi (hh 2 (by show 2<5;omega) (by omega))
   have e3:=hb (hh 3 (by show 3<5;omega) (by omega))
   have e4:=hb (hh 4 (by show 4<5;omega) (by omega))
   show Value.agg vs= .agg #[.int .i64 a.m,.int .i64 a.t,.int .i64 a.g,.bool a.f,.bool a.k]
   congr 1
   apply Array.ext
   ·simpa using vF
   ·intro i h1 h2
    obtain rfl|rfl|rfl|rfl|rfl:i=0∨i=1∨i=2∨i=3∨i=4:=by omega
    ·exact e0
    ·exact e1
    ·exact e2
    ·exact e3
    ·exact e4
end
theorem p9 {Q:Program}{fn:Func}{tm:Array Value}{v:World}{T:Nat→Question→Nat}{d:Nat}{x:Value}(hs:SF Q (results fn tm) (v.on T d))(h:(results fn tm).run Q (v.on T d)= .ok x (v.on T d))(T':Nat→Question→Nat)(d':Nat):
  ∃es,(results fn tm).runT Q (v.on T' d') #[]=(.ok x (v.on T' d'),es):=by
 cases hr:(results fn tm).runT Q (v.on T d) #[]with
 |mk r es=>
  have e1:r= .ok x (v.on T d):=by rw[←h,←Sem.runT_fst];exact(congrArg Prod.fst hr).symm
  subst e1;obtain⟨k,_,h2,h3⟩:=hs.on hr;have hk:k=0:=by
   have:(v.on T d).drawn=(v.on T d).drawn+k:=h2
   omega
  subst hk;have:=(h3 T' d' fun i hi=>by omega).1
  exact⟨es,this⟩
section
variable {τ:TypeId}{P:Program}{F0:Array Func}{spec good:FuncId→Bool}{R:Ending→World→Prop}{k:Nat}{p:Ph}
theorem PF (B:fg τ P F0 spec good)(hO:∀w,¬R .outgrown w)(hP:∀x w,Plain τ (.panic x)→¬R (.panicked [{v:=x,recovered:=false}]) w){a:eH}(hR:∀x w,R (.returned x) w→x=a.val)
  (F:Gh→World→Prop) (hj:p.j0<k) (Zf:∀{n:aD} {f' f:Frame} {fs' fs:List Frame} {v:World},n.good=good→kg P F0 spec n f' f→h_ P spec n fs' fs→fs'≠[]→¬Ends (Program.mk (Program.toTables P) F0) (aO (Program.mk (Program.toTables P) F0) R) f' (fs'++[bz]) v) (KW:∀γ w,F γ w→γ.ph=some p∧γ.st k= .busy) (KX:∀γ w ah w',F γ w→RR k γ w ah w'→F ah w')
  (S4:∀γ w w1,F γ w→(∀b,γ.ro k b→w1.heap[b]?=w.heap[b]?)→bq w w1→F (γ.grow k w.heap.size w1.heap.size) w1) {c:Frame} {e0:List Frame} (K:∀γ w,F γ w→WP (sys P) k 0 γ w (G (c.finish a.val) e0)):
  ∀{f':Frame} {bZ:List Frame} {v:World},Ends (Program.mk (Program.toTables P) F0) (aO (Program.mk (Program.toTables P) F0) R) f' bZ v→∀{fs' fs:List Frame} {m:aD} {f:Frame} {γ:Gh} {w:World},bZ=fs'++[bz]→m.good=good→
   FR P spec m f' f→h_ P spec m fs' fs→KA f fs→WR m (v.on w.tape w.drawn) w→nM k m v γ→F γ w→WP (sys P) k 0 γ w (G f (fs++c::e0)):=by
 have hk:1≤k:=by omega
 have fin:∀{f':Frame} {v:World},Ends (Program.mk (Program.toTables P) F0) (aO (Program.mk (Program.toTables P) F0) R) f' [bz] v→∀{m:aD} {f:Frame} {γ:Gh} {w:World},m.good=good→
   FR P spec m f' f→WR m (v.on w.tape w.drawn) w→nM k m v γ→F γ w→f'.mode= .returning→WP (sys P) k 0 γ w (G f (c::e0)):=by
  intro f' v hE m f γ w hg h hw hI hf hl;subst hg;obtain⟨hp,hb⟩:=KW γ w hf;refine .mk rfl (nG hk (nH hb (by decide))) fun γ1 w1 t1 j1 h1 jF sJ KR=>?_
  have f1:=KX _ _ _ _ hf h1;obtain⟨p1,b1⟩:=KW γ1 w1 f1;have Zg:nM k m v γ1:=hI.rely hk hb h1
  have aG:WR m (v.on w1.tape w1.drawn) w1:=hw.stay (hI.heap hk hb h1) (jS hk h1).same
  obtain⟨x,T',d',r1,r2⟩:=vB B hO hE h aG hl;have hx:=hR _ _ r1;subst hx;obtain @⟨fn,tm',tm,todo,mode,tl,ds,dR,ha,ok,hm,rfl,rfl⟩:=h
  ·obtain rfl:mode= .returning:=hl
   obtain⟨rfl,rfl,fc,bf⟩:=dR.back;rw[List.append_nil]at*;obtain⟨fr,e1,e2,e3⟩:=B.same fn bf fc;have jD:=iN (F:=F0) (m:=m) B.rt fr ha;obtain⟨_,_,_,cM,q1,q2⟩:=r2;have y5:F0[fn]?=some cM:=q1
   rw[e1]at y5;obtain rfl:=Option.some.inj y5
   have S5:WR m (v.on T' d') (w1.on T' d'):=⟨aG.inj,aG.iX,aG.os,rfl,rfl⟩
   obtain⟨C3,hr⟩:=p9 (jD.sf S5) q2 w1.tape w1.drawn;obtain⟨n,y,w2,us,jC,g1,g2,g3,g4,g5,g6⟩:=jD.run (fs:= #[]) aG hr;obtain⟨KB,u1,u2,u3⟩:=jD.writes aG hr;have sw:us=KB:=by
    have:=g2.symm.trans u1
    simpa using this
   subst sw;have FA:om n (v.on w1.tape w1.drawn) (seen P fn (#[]++jC.toArray)):=om.of g3 u2
   obtain⟨s1,s2,s3,s4,s5,s6⟩:=B3 (v:=v.on w1.tape w1.drawn) (fn:=fn) (pos:=(aM fn tm todo .returning).place) jF p1 hj KR b1 Zg aG g6 g5 FA;obtain rfl:=S1 g4
   refine⟨⟨G (c.finish a.val) e0,w2,seen P fn (#[]++jC.toArray),γ1.grow k w1.heap.size w2.heap.size⟩,⟨k_ e2 g1,s1,s2⟩,fun z1 z2=>absurd z1 z2,?_⟩
   show WP (sys P) k (deafBehind 0 (seen P fn (#[]++jC.toArray))) (γ1.grow k w1.heap.size w2.heap.size) w2 (G (c.finish a.val) e0)
   rw[FA.hears];refine K _ _ (S4 γ1 w1 w2 f1 (fun b hb=>s6 b (jF.kv _ _ hb) fun ho=>jF.ba.pT _ _ _ ho hb) s4)
 intro f' bZ v hE;induction hE with
 | @stop f' bZ v hS=>
   intro fs' fs m f γ w sI hg h hs S7 hw hI hf;subst sI;subst hg;by_cases hl:f'.mode= .returning∧fs'=[]
   ·obtain⟨hl,rfl⟩:=hl
    cases hs with
    |nil=>exact fin (.stop hS) rfl h hw hI hf hl
   ·exact absurd hS (nF B hO h fun e=>e.elim hl fun e=>e.2 S7.1)
 | @step f' bZ v k1 k2 ih=>
   intro fs' fs m f γ w sI hg h hs S7 hw hI hf;subst sI;subst hg;by_cases F_:f'.mode= .returning∧fs'=[]
   ·obtain⟨hl,rfl⟩:=F_
    cases hs with
    |nil=>exact fin (.step k1 k2) rfl h hw hI hf hl
   ·have hl:¬Edge f' f fs':=fun e=>e.elim F_ fun e=>e.2 S7.1
    obtain⟨hp,hb⟩:=KW γ w hf;refine .mk rfl (nG hk (nH hb (by decide))) fun γ1 w1 t1 j1 h1 jF sJ KR=>?_
    have f1:=KX _ _ _ _ hf h1;obtain⟨p1,b1⟩:=KW γ1 w1 f1;have Zg:nM k m v γ1:=hI.rely hk hb h1
    have aG:WR m (v.on w1.tape w1.drawn) w1:=hw.stay (hI.heap hk hb h1) (jS hk h1).same
    obtain⟨n,g1',g1,aa2,S9,v2,w2,es,aQ,q1,q2,q3,q4,q5,q6,q7,q8,q9⟩:=sE B hO hP (e:=c::e0) (.step k1 k2) h hs w1.tape w1.drawn aG hl false;have fO:FR P spec n g1' g1:=by
     rcases q4 with q4|q4
     ·exact q4
     ·exact absurd (k2 w1.tape w1.drawn _ _ _ _ q1 q2) (Zf q7.le.good.symm q4.1 q5 q4.2)
    obtain⟨s1,s2,s3,s4,s5,s6⟩:=B3 (v:=v.on w1.tape w1.drawn) (fn:=(G f (fs++c::e0)).frame.fn) (pos:=(G f (fs++c::e0)).frame.place) jF p1 hj KR b1 Zg aG q7 q6 q8;refine⟨⟨G g1 (S9++c::e0),w2,es,γ1.grow k w1.heap.size w2.heap.size⟩,⟨q3,s1,s2⟩,fun z1 z2=>absurd z1 z2,?_⟩
    show WP (sys P) k (deafBehind 0 es) (γ1.grow k w1.heap.size w2.heap.size) w2 (G g1 (S9++c::e0))
    rw[q8.hears];refine ih w1.tape w1.drawn _ _ _ _ q1 q2 rfl q7.le.good.symm fO q5 (q9 S7) ?_ s3 (S4 γ1 w1 w2 f1 (fun b hb=>s6 b (jF.kv _ _ hb) fun ho=>jF.ba.pT _ _ _ ho hb) s4)
    have e1:w2.tape=v2.tape:=q6.tape
    have e2:w2.drawn=v2.drawn:=q6.drawn
    rw[e1,e2];exact q6
end
end Go.Proofs.YtlhohdjniaebbaaGreat.Sr
namespace Go.Proofs.YtlhohdjniaebbaaGreat.Sr
open Go Go.Conc
section
variable {Q:Program}{Stop:Frame→List Frame→World→Prop}
def Kid (Q:Program)(Stop:Frame→List Frame→World→Prop)(x y:Frame×List Frame×World):Prop:=
 ¬Stop x.1 x.2.1 x.2.2∧∃T d es,eP Q x.1 x.2.1 (x.2.2.on T d)∧stepG Q true (G x.1 x.2.1) (x.2.2.on T d)= .go (G y.1 y.2.1) y.2.2 es
inductive jJ (Q:Program) (Stop:Frame→List Frame→World→Prop):Frame×List Frame×World→Frame×List Frame×World→Prop
 |one {x y:Frame×List Frame×World} (h:Kid Q Stop x y):jJ Q Stop x y
 |more {x y z:Frame×List Frame×World} (h:Kid Q Stop x y) (k:jJ Q Stop y z):jJ Q Stop x z
theorem jJ.trans {x y z:Frame×List Frame×World}(h:jJ Q Stop x y)(k:jJ Q Stop y z):jJ Q Stop x z:=by
 induction h with
 |one h=>exact .more h k
 |more h _ ih=>exact .more h (ih k)
def kM (Q:Program)(Stop:Frame→List Frame→World→Prop)(x y:Frame×List Frame×World):Prop:=Ends Q Stop y.1 y.2.1 y.2.2∧(y=x∨jJ Q Stop x y)
theorem kM.refl {x:Frame×List Frame×World}(h:Ends Q Stop x.1 x.2.1 x.2.2):kM Q Stop x x:=⟨h,.inl rfl⟩
theorem kM.trans {x y z:Frame×List Frame×World}(h:kM Q Stop x y)(k:kM Q Stop y z):kM Q Stop x z:=by
 refine⟨k.1,?_⟩;rcases h.2 with rfl|h2
 ·exact k.2
 ·rcases k.2 with rfl|k2
  ·exact .inr h2
  ·exact .inr (h2.trans k2)
theorem Ends.go {fr fe:Frame}{cs bZ:List Frame}{v v':World}(h:Ends Q Stop fr cs v)(hn:¬Stop fr cs v){T:Nat→Question→Nat}{d:Nat}(ht:eP Q fr cs (v.on T d)){es:Array Event}
  (hs:stepG Q true (G fr cs) (v.on T d)= .go (G fe bZ) v' es):Ends Q Stop fe bZ v'∧jJ Q Stop (fr,cs,v) (fe,bZ,v'):=by
 cases h with
 |stop h=>exact absurd h hn
 |step k1 k2=>exact⟨k2 T d _ _ _ _ ht hs,.one ⟨hn,T,d,es,ht,hs⟩⟩
theorem Ends.bD {fr fe:Frame}{cs bZ:List Frame}{v:World}(h:Ends Q Stop fr cs v)(hn:¬Stop fr cs v)(hs:∀w,stepG Q true (G fr cs) w= .go (G fe bZ) w #[]):kM Q Stop (fr,cs,v) (fe,bZ,v):=by
 obtain⟨h1,h2⟩:=h.go hn (T:=v.tape) (d:=v.drawn) (.bD hs) (hs _);exact⟨h1,.inr h2⟩
theorem Ends.ind {C:Frame→List Frame→World→Prop}(hC:∀fr cs v,Ends Q Stop fr cs v→(∀fe bZ v',jJ Q Stop (fr,cs,v) (fe,bZ,v')→Ends Q Stop fe bZ v'→C fe bZ v')→C fr cs v):
  ∀{fr:Frame} {cs:List Frame} {v:World},Ends Q Stop fr cs v→C fr cs v:=by
 have key:∀{fr:Frame} {cs:List Frame} {v:World},Ends Q Stop fr cs v→∀y:Frame×List Frame×World,(y=(fr,cs,v)∨jJ Q Stop (fr,cs,v) y)→Ends Q Stop y.1 y.2.1 y.2.2→C y.1 y.2.1 y.2.2:=by
  intro fr cs v h;induction h with
  | @stop fr cs v hs=>
    intro y hy hE;have none:∀z,¬jJ Q Stop (fr,cs,v) z:=by
     intro z hz
     cases hz with
     |one h=>exact h.1 hs
     |more h _=>exact h.1 hs
    rcases hy with rfl|hy
    ·exact hC _ _ _ hE fun fe bZ v' hd _=>absurd hd (none _)
    ·exact absurd hy (none _)
  | @step fr cs v k1 k2 ih=>
    have down:∀z:Frame×List Frame×World,jJ Q Stop (fr,cs,v) z→Ends Q Stop z.1 z.2.1 z.2.2→C z.1 z.2.1 z.2.2:=by
     intro z hz hE
     cases hz with
     |one h=>
      obtain⟨h1,T,d,es,h2,h3⟩:=h;exact ih T d _ _ _ _ h2 h3 _ (.inl rfl) hE
     |more h k=>
      obtain⟨h1,T,d,es,h2,h3⟩:=h;exact ih T d _ _ _ _ h2 h3 _ (.inr k) hE
    intro y hy hE;rcases hy with rfl|hy
    ·exact hC _ _ _ hE fun fe bZ v' hd Wp=>down (fe,bZ,v') hd Wp
    ·exact down y hy hE
 intro fr cs v h;exact key h (fr,cs,v) (.inl rfl) h
end
section
variable {τ:TypeId}{P:Program}{F:Array Func}{spec:FuncId→Bool}{m:aD}
theorem oy {f' f:Frame}(h:kg P F spec m f' f):∃(g:FuncId) (us vs:Array Value),spec g=true∧f'=Frame.enter (Program.mk (Program.toTables P) F) g us .normal∧f=Frame.enter P g vs .normal∧AR m us vs∧∀n,cA g=some n→us.size=n:=by
 induction h with
 |mk f hs ha hn=>exact⟨f,_,_,hs,rfl,rfl,ha,hn⟩
theorem Wq {g g':Goroutine}{w w':World}{es aQ:Array Event}(h:GStep.go g w es= .go g' w' aQ):g=g'∧w=w':=by
 injection h with h1 h2 _
 exact⟨h1,h2⟩
theorem S_ {f f':Frame}{cs bZ:List Frame}(h:G f cs=G f' bZ):f=f'∧cs=bZ:=by
 unfold G at h;injection h with h1 h2
 exact⟨h1,h2⟩
theorem KY (B:fg τ P F spec m.good){f' f:Frame}{fs' fs e1:List Frame}{v w:World}(h:FR P spec m f' f)(hs:h_ P spec m fs' fs)(hw:WR m v w)(hl:¬Edge f' f fs'){g1:Goroutine}{v1:World}{es:Array Event}
  (cC:stepG (Program.mk (Program.toTables P) F) true (G f' (fs'++e1)) v= .go g1 v1 es):
  ∃f1 fs1,g1=G f1 (fs1++e1)∧∀e2,stepG (Program.mk (Program.toTables P) F) true (G f' (fs'++e2)) v= .go (G f1 (fs1++e2)) v1 es:=by
 have fin:∀{f1:Frame} {fs1:List Frame} {v2:World} {es2:Array Event},(∀e,stepG (Program.mk (Program.toTables P) F) true (G f' (fs'++e)) v= .go (G f1 (fs1++e)) v2 es2)→
   ∃f1 fs1,g1=G f1 (fs1++e1)∧∀e2,stepG (Program.mk (Program.toTables P) F) true (G f' (fs'++e2)) v= .go (G f1 (fs1++e2)) v1 es:=by
  intro f1 fs1 v2 es2 hh;rw[hh e1]at cC;injection cC with h1 h2 h3
  subst h1 h2 h3;exact⟨f1,fs1,rfl,hh⟩
 have dead:∀{A:Prop},(∃o w' aQ,stepG (Program.mk (Program.toTables P) F) true (G f' (fs'++e1)) v= .ended o w' aQ)→A:=by
  intro A ⟨o,w',aQ,hh⟩;rw[hh]at cC
  cases cC
 obtain @⟨fn,tm',tm,todo,mode,tl,ds,dR,ha,ok,hm,rfl,rfl⟩:=h
 ·rcases hm with rfl|rfl
  ·cases todo with
   |nil=>
    cases dR with
    |ap=>exact absurd (.inr ⟨rfl,by simp[fb]⟩) hl
    |no fc hg=>exact fin (f1:=aM fn tm' [] .returning) (fs1:=fs') fun e=>stepG_end (b:=aM fn #[] [] .run) (a:=⟨tm',[]⟩)
   |cons i k=>
    have jP:=ok i (by simp)
    cases i with
    |code c=>
     cases c with
     |skip=>exact fin (f1:=aM fn tm' (k++tl) .run) (fs1:=fs') fun e=>stepG_skip (b:=aM fn #[] [] .run) (a:=⟨tm',[]⟩)
     |label l=>exact fin (f1:=aM fn tm' (k++tl) .run) (fs1:=fs') fun e=>stepG_label (b:=aM fn #[] [] .run) (a:=⟨tm',[]⟩)
     |ret=>exact fin (f1:=aM fn tm' ((.code .ret::k)++tl) .returning) (fs1:=fs') (v2:=v) (es2:= #[]) fun e=>by simp[G,aM,stepG,stepG.exec]
     |exit id=>
      cases hx:exitTo id k with
      |none=>exact dead ⟨_,_,_,by simp only[G,aM,List.cons_append,stepG,stepG.exec,jh dR.yr hx,Option.elim_none];rfl⟩
      |some k'=>exact fin (f1:=aM fn tm' (k'++tl) .run) (fs1:=fs') fun e=>stepG_exit (b:=aM fn #[] [] .run) (a:=⟨tm',[]⟩) (ku hx)
     |seq x y=>exact fin (f1:=aM fn tm' ((.code x:: .code y::k)++tl) .run) (fs1:=fs') fun e=>stepG_seq (b:=aM fn #[] [] .run) (a:=⟨tm',[]⟩)
     |block id x=>exact fin (f1:=aM fn tm' ((.code x:: .inBlock id::k)++tl) .run) (fs1:=fs') fun e=>stepG_block (b:=aM fn #[] [] .run) (a:=⟨tm',[]⟩)
     |loop x=>exact fin (f1:=aM fn tm' ((.code x:: .inLoop x::k)++tl) .run) (fs1:=fs') fun e=>stepG_loop (b:=aM fn #[] [] .run) (a:=⟨tm',[]⟩)
     |cond c x y=>
      cases h1:Act.eval ⟨tm',[]⟩ c with
      |bool b=>exact fin (f1:=aM fn tm' ((.code (if b then x else y)::k)++tl) .run) (fs1:=fs') fun e=>stepG_cond (b:=aM fn #[] [] .run) (a:=⟨tm',[]⟩) h1
      |_=>exact dead (yy (fun b hb=>by rw[h1]at hb;cases hb) v)
     |region id ops draw=>
      cases draw with
      |false=>exact fin (f1:=aM fn tm' ((.inRegion ops (List.range ops.size)::k)++tl) .run) (fs1:=fs') fun e=>stepG_region (b:=aM fn #[] [] .run) (a:=⟨tm',[]⟩)
      |true=>exact fin fun e=>lf ..
     |_=>simp[cw,fp]at jP
    |inBlock id=>exact fin (f1:=aM fn tm' (k++tl) .run) (fs1:=fs') fun e=>stepG_inBlock (b:=aM fn #[] [] .run) (a:=⟨tm',[]⟩)
    |inLoop x=>exact fin (f1:=aM fn tm' ((.code x:: .inLoop x::k)++tl) .run) (fs1:=fs') fun e=>stepG_inLoop (b:=aM fn #[] [] .run) (a:=⟨tm',[]⟩)
    |inRegion ops l=>
     cases l with
     |nil=>exact fin (f1:=aM fn tm' (k++tl) .run) (fs1:=fs') fun e=>stepG_region_end (b:=aM fn #[] [] .run) (a:=⟨tm',[]⟩)
     |cons j rest=>
      have skip:((ops[j]?).map (Region.wanted · (yielded ops tm'))).getD false=false→∃f1 fs1,g1=G f1 (fs1++e1)∧∀e2,stepG (Program.mk (Program.toTables P) F) true (G (aM fn tm' ((.inRegion ops (j::rest)::k)++tl) .run) (fs'++e2)) v= .go (G f1 (fs1++e2)) v1 es:=by
       intro hn;refine fin (f1:=(aM fn tm' ((.inRegion ops (j::rest)::k)++tl) .run).finish undef) (fs1:=fs') (v2:=v) (es2:= #[]) fun e=>?_;simp only[G,aM,List.cons_append,stepG,stepG.exec];exact if_neg (by rw[hn];simp)
      cases ho:ops[j]? with
      |none=>exact skip (by rw[ho];rfl)
      |some o=>
       cases nf:Region.wanted o (yielded ops tm')with
       |false=>exact skip (by rw[ho];exact nf)
       |true=>
        have Sj:gk P m.good o.op=true:=by
         simp only[cw]at jP;have:=Array.all_eq_true_iff_forall_mem.1 jP o (Array.mem_of_getElem? ho)
         rw[Bool.and_eq_true]at this;exact this.1
        have jD:=oj (F:=F) B.rt B.globals B.fns (ha.oper B.bJ (ds:=ds)) o Sj fun f=>⟨rfl,rfl⟩
        have hr:=vA jD hw;have aW:∀e,stepG (Program.mk (Program.toTables P) F) true (G (aM fn tm' ((.inRegion ops (j::rest)::k)++tl) .run) (fs'++e)) v=stepG.apply (Program.mk (Program.toTables P) F) true (aM fn tm' ((.inRegion ops (j::rest)::k)++tl) .run) (fs'++e) none (execOp (Act.eval ⟨tm',[]⟩) o) v:=
         fun e=>stepG_oper (b:=aM fn #[] [] .run) (a:=⟨tm',[]⟩) ho nf
        have ht:∃tJ l k',(aM fn tm' ((.inRegion ops (j::rest)::k)++tl) .run).todo= .inRegion tJ l::k':=⟨_,_,_,rfl⟩
        generalize hq:(execOp (Act.eval ⟨tm',[]⟩) o).runT (Program.mk (Program.toTables P) F) v #[]=q at hr;obtain⟨r,es2⟩:=q
        cases r with
        |ok a v2=>
         cases a with
         |value x=>exact fin fun e=>(aW e).trans (jf rfl hq)
         |skip=>exact fin fun e=>(aW e).trans (kt rfl hq)
         |enter f args=>exact fin (fs1:=aM fn tm' ((.inRegion ops (j::rest)::k)++tl) .run::fs') fun e=>(aW e).trans (jg rfl ht hq)
         |_=>exact hr.elim
        |halt h0 v2=>
         cases h0 with
         |panic x=>exact fin fun e=>(aW e).trans (gK rfl hq)
         |stuck z=>exact dead (by rw[aW];exact fq hq (.inl ⟨z,rfl⟩))
         |unsupported u=>exact dead (by rw[aW];exact fq hq (.inr ⟨u,rfl,hr⟩))
         |_=>exact hr.elim
    |_=>simp[cw]at jP
  ·cases hs with
   |nil=>exact absurd (.inl ⟨rfl,rfl⟩) hl
   | @cons c' c bM gs hc yw bW=>
     obtain⟨rfl,rfl,fc,hg⟩:=dR.back;obtain⟨fr,q1,q2,q3⟩:=B.same fn hg fc;generalize hq:(results fr tm').runT (Program.mk (Program.toTables P) F) v #[]=q;obtain⟨r,es2⟩:=q
     cases r with
     |ok a v2=>exact fin (fs1:=bM) fun e=>k_ q1 hq
     |halt h0 v2=>exact absurd cC (vz q1 hq _ _ _)
end
section
variable {τ:TypeId}{Q:Program}{spec good:FuncId→Bool}{R Rf:Ending→World→Prop}
theorem KZ (B:fg τ Q Q.funcs spec good)(Zf:∀{n:aD} {f' f:Frame} {fs' fs:List Frame} {v:World},n.good=good→kg Q Q.funcs spec n f' f→h_ Q spec n fs' fs→fs'≠[]→¬Ends Q (aO Q Rf) f' (fs'++[bz]) v)(hO:∀w,¬Rf .outgrown w)(hP:∀c w,¬Rf (.panicked c) w){c:Frame}{cs:List Frame}(sI:cs≠[]):
  ∀{f':Frame} {bZ:List Frame} {v:World},Ends Q (aO Q Rf) f' bZ v→∀{fs':List Frame} {m:aD},bZ=fs'++[bz]→m.good=good→FR Q spec m f' f'→h_ Q spec m fs' fs'→WR m v v→Ends Q (aO Q R) f' (fs'++c::cs) v→
   ∃x v1 T d,Rf (.returned x) (v1.on T d)∧kM Q (aO Q R) (f',fs'++c::cs,v) (c.finish x,cs,v1):=by
 have nos:∀(f:Frame) (fs:List Frame) (v:World),¬aO Q R f (fs++c::cs) v:=by
  rintro f fs v ⟨h,_⟩;have:=congrArg List.length h
  have hp:0<cs.length:=List.length_pos_iff.2 sI
  simp at this
  omega
 have same:(Program.mk (Program.toTables Q) Q.funcs)=Q:=rfl
 intro f' bZ v hI;refine Ends.ind (Q:=Q) (Stop:=aO Q Rf) (C:=fun f' bZ v=>∀{fs':List Frame} {m:aD},bZ=fs'++[bz]→m.good=good→FR Q spec m f' f'→h_ Q spec m fs' fs'→WR m v v→Ends Q (aO Q R) f' (fs'++c::cs) v→
   ∃x v1 T d,Rf (.returned x) (v1.on T d)∧kM Q (aO Q R) (f',fs'++c::cs,v) (c.finish x,cs,v1)) ?_ hI
 intro f' bZ v hI ih fs' m aa3 hg hf pA hw hE;subst aa3 hg;by_cases F_:f'.mode= .returning∧fs'=[]
 ·obtain⟨hl,rfl⟩:=F_
  obtain⟨x,T,d,r1,r2⟩:=vB B hO hI hf (show WR m (v.on v.tape v.drawn) v from hw) hl
  obtain @⟨fn,tm',tm,todo,mode,tl,ds,dR,ha,ok,hm,rfl,e2f⟩:=hf
  ·obtain rfl:mode= .returning:=hl
   obtain⟨rfl,rfl,vF,bf⟩:=dR.back;rw[List.append_nil]at*;obtain⟨fr,e1,e2,e3⟩:=B.same fn bf vF;have jD:=iN (F:=Q.funcs) (m:=m) B.rt fr ha;obtain⟨_,_,_,cM,q1,q2⟩:=r2;have y5:Q.funcs[fn]?=some cM:=q1
   rw[e1]at y5;obtain rfl:=Option.some.inj y5
   have S5:WR m (v.on T d) (v.on T d):=⟨hw.inj,hw.iX,hw.os,rfl,rfl⟩
   obtain⟨C3,hr⟩:=p9 (jD.sf S5) q2 v.tape v.drawn;have cC:stepG Q true (G (aM fn tm' todo .returning) (c::cs)) (v.on v.tape v.drawn)= .go (G (c.finish x) cs) v (seen Q fn C3):=k_ e1 hr
   obtain⟨g1,g2⟩:=hE.go (nos _ [] _) (.ret e1 (jD.sf (show WR m (v.on v.tape v.drawn) (v.on v.tape v.drawn)from hw))) cC
   exact⟨x,v,T,d,r1,g1,.inr g2⟩
 ·have hl:¬Edge f' f' fs':=by
   rintro(h|⟨-,h⟩)
   ·exact F_ h
   ·exact h (xS B hf).1
  obtain⟨n,f1',f1,fs1',fs1,v1,w1,es,aQ,t1,s1,s2,s3,s4,s5,s6,s7, -⟩:=sE (e:=c::cs) B hO (fun x w _=>hP _ w) hI hf pA v.tape v.drawn (show WR m (v.on v.tape v.drawn) v from hw) hl true
  obtain⟨f2,fs2,g1,g2⟩:=KY (e1:=[bz]) B hf pA (show WR m (v.on v.tape v.drawn) (v.on v.tape v.drawn)from hw) hl s1
  obtain⟨a1,a2⟩:=S_ g1;have a3:=List.append_cancel_right a2;subst a1 a3;have g3:=g2 (c::cs);have s2':stepG Q true (G f' (fs'++c::cs)) (v.on v.tape v.drawn)= .go (G f1 (fs1++c::cs)) w1 es:=s2
  have g3':stepG Q true (G f' (fs'++c::cs)) (v.on v.tape v.drawn)= .go (G f1' (fs1'++c::cs)) v1 aQ:=g3
  rw[g3']at s2';obtain⟨b1,b2⟩:=Wq s2';obtain⟨b3,b4⟩:=S_ b1;have b5:=List.append_cancel_right b4;subst b2 b3 b5;have fO:FR Q spec n f1' f1':=by
   rcases s3 with s3|s3
   ·exact s3
   ·exact absurd (hI.go (nF B hO hf hl) t1 s1).1 (Zf s6.le.good.symm s3.1 s4 s3.2)
  have ht:eP Q f' (fs'++c::cs) (v.on v.tape v.drawn):=FE B hf pA (show WR m (v.on v.tape v.drawn) v from hw) hl
  obtain⟨k1,k2⟩:=hE.go (nos _ _ _) ht g3';have cv:¬aO Q Rf f' (fs'++[bz]) v:=nF B hO hf hl
  obtain⟨i1,i2⟩:=hI.go cv t1 s1;obtain⟨x,v2,T,d,r1,r2⟩:=ih _ _ _ i2 i1 rfl s6.le.good.symm fO s4 s5 k1;exact⟨x,v2,T,d,r1,kM.trans ⟨k1,.inr k2⟩ r2⟩
end
end Go.Proofs.YtlhohdjniaebbaaGreat.Sr
