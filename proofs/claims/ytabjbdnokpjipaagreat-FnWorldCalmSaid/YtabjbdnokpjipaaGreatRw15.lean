/-
What is proved: a worker makes its way through its region and what rests on it. Conditions: as stated.
-/
import Derived.Test.YtabjbdnokpjipaaGreatRw10
import Derived.Test.YtabjbdnokpjipaaGreatRw13
import Derived.Test.YtabjbdnokpjipaaGreatRw14
import Derived.Test.YtabjbdnokpjipaaGreatRw06
set_option linter.unusedVariables false
set_option linter.unusedSimpArgs false
namespace Go.Proofs.YtabjbdnokpjipaaGreat.Sr
open Go Go.Conc Go.ConcN
section
variable {P:Program}{k d:Nat}{γ:Gh}{w:World}{t:Trace}{j:Nat}{p:Ph}{g:Goroutine}{fn:FuncId}{pos:String}{es:Array Event}
theorem JJ.abe (hJ:JJ γ w t j):JJ γ w (t++MemOp.ofEvents k fn pos #[]) j:=by
 rw[G_,Array.append_empty];exact hJ
theorem Cy (γ:Gh)(k a:Nat):γ.grow k a a=γ:=by
 unfold Gh.grow;have:(fun i x=>γ.ow i x∨(i=k∧a≤x∧x<a))=γ.ow:=by
  funext i x
  apply propext
  constructor
  ·rintro(h|⟨_,h1,h2⟩)
   ·exact h
   ·omega
  ·exact .inl
 rw[this]
theorem acY (h:JJ γ w t j)(hp:γ.ph=some p)(hk:p.j0<k)(kj:k≤j)(hb:γ.st k= .busy)(bh:∀e∈es,Tk γ k w.heap.size e):JJ γ w (t++MemOp.ofEvents k fn pos es) j∧∀k',k'≠k→RR k' γ w γ w:=by
 have:=ae3 (w1:=w) (fn:=fn) (pos:=pos) (es:=es) h hp hk kj hb ⟨rfl,rfl,rfl⟩ (Nat.le_refl _) (fun _ _ _=>rfl) (by rw[Cy];exact bh)
 rwa[Cy]at this
theorem aae {b o B:Nat}(h:γ.ro k b)(hB:b<B):Tk γ k B (dT ⟨b,o,none⟩ false):=
 ⟨fun x hx=> .inr (by have:x=⟨.cell ⟨b,o,none⟩,false,.plain⟩:=(Option.some.inj hx).symm;subst this;exact⟨⟨b,rfl,h⟩,rfl⟩),hB,nofun⟩
theorem qj {b o B:Nat}(h:γ.Slot k ⟨b,o,none⟩)(hB:b<B):Tk γ k B (dT ⟨b,o,none⟩ true):=
 ⟨fun x hx=> .inl (by have:x=⟨.cell ⟨b,o,none⟩,true,.plain⟩:=(Option.some.inj hx).symm;subst this;exact .inr ⟨_,rfl,h⟩),hB,nofun⟩
structure sN (k:Nat) (p:Ph) (qb gb ab ib:Nat) (fv gv av iv:Value) (γ:Gh) (w:World):Prop where
 ph:γ.ph=some p
 st:γ.st k= .busy
 ro:γ.ro k qb∧γ.ro k gb∧γ.ro k ab∧γ.ro k ib
 cq:w.cell? ⟨qb,0,none⟩=some fv∧w.frozen? ⟨qb,0,none⟩=false
 cg:w.cell? ⟨gb,0,none⟩=some gv∧w.frozen? ⟨gb,0,none⟩=false
 ca:w.cell? ⟨ab,0,none⟩=some av∧w.frozen? ⟨ab,0,none⟩=false
 ci:w.cell? ⟨ib,0,none⟩=some iv∧w.frozen? ⟨ib,0,none⟩=false
theorem Cz {w w':World}{a:Addr}(h:w'.heap[a.block]?=w.heap[a.block]?):w'.frozen? a=w.frozen? a:=by
 unfold World.frozen?;rw[h]
theorem sN.rely {qb gb ab ib:Nat}{fv gv av iv:Value}{ai:Gh}{w':World}(hk:1≤k)(h:sN k p qb gb ab ib fv gv av iv γ w)(r:RR k γ w ai w'):sN k p qb gb ab ib fv gv av iv ai w':=by
 obtain⟨r1,r2,r3,r4,r5,r6,r7,r8⟩:=(lS hk r).live (qh h.st (by decide))
 obtain⟨o1,o2,o3,o4⟩:=h.ro;have key:∀{b:Nat} {v:Value},γ.ro k b→w.cell? ⟨b,0,none⟩=some v∧w.frozen? ⟨b,0,none⟩=false→w'.cell? ⟨b,0,none⟩=some v∧w'.frozen? ⟨b,0,none⟩=false:=by
  intro b v hb hc;have e:=r7 b (.inr hb);rw[cell_of e,Cz e];exact hc
 exact⟨r4.trans h.ph,r1.trans h.st,⟨(r3 _).2 o1,(r3 _).2 o2,(r3 _).2 o3,(r3 _).2 o4⟩,key o1 h.cq,key o2 h.cg,key o3 h.ca,key o4 h.ci⟩
theorem WP.box {v:Value}{b:Nat}{g':Goroutine}(hv:bF P v none g=some ⟨g',#[dT ⟨b,0,none⟩ false],[⟨b,0,none⟩],[],none⟩)(hk:1≤k)
  (hF:∀ai w',RR k γ w ai w'→ai.ph=some p∧ai.st k= .busy∧ai.ro k b∧w'.cell? ⟨b,0,none⟩=some v∧w'.frozen? ⟨b,0,none⟩=false) (hj:p.j0<k)
  (K:∀ai w',RR k γ w ai w'→WP (sys P) k d ai w' g'):WP (sys P) k d γ w g:=by
 obtain⟨_,WX,_⟩:=hF γ w ((sys P).refl k γ w);refine .vm (vS hv).1 (qg hk (qh WX (by decide))) fun γ1 w1 t1 j1 h1 lG wG OK=>?_
 obtain⟨f1,f2,f3,f4,f5⟩:=hF γ1 w1 h1;obtain⟨r1,r2⟩:=acY (fn:=g.frame.fn) (pos:=g.frame.place) (es:= #[dT ⟨b,0,none⟩ false]) lG f1 hj OK f2 fun e he=>by simp at he;subst he;exact aae f3 (lG.mO _ _ f3)
 exact⟨v,none,_,γ1,hv,fun a ha=>(by have:a=⟨b,0,none⟩:=by simpa using ha
                                    subst this;exact⟨f4,f5⟩),fun r hr=>(by cases hr),r1,r2,fun e e'=>absurd e' e,K γ1 w1 h1⟩
theorem WP.one {g':Goroutine}(hq:cn P g=some (g',#[]))(hg:∀ai w',RR k γ w ai w'→¬ai.Gone k)(K:∀ai w',RR k γ w ai w'→WP (sys P) k d ai w' g'):WP (sys P) k d γ w g:=by
 obtain⟨h1,h2⟩:=fJ hq;exact .mk h1 hg fun ai w' t j hR hJ hd kj=>⟨⟨g',w',#[],ai⟩,⟨h2 false w',hJ.abe,fun k' _=>(sys P).refl _ _ _⟩,fun a b=>absurd a b,K ai w' hR⟩
theorem vH {A:Nat}{e:TypeId}{f:Nat×Nat}:∀(l:List (Nat×Value)) {w:World} {cs:Array Value},w.heap[A]?=some (.cells cs e f)→
  (nK w (l.map fun q=>(⟨A,q.1,none⟩,q.2))).heap[A]?=some (.cells (l.foldl (fun c q=>c.setIfInBounds q.1 q.2) cs) e f)∧(∀b,b≠A→(nK w (l.map fun q=>(⟨A,q.1,none⟩,q.2))).heap[b]?=w.heap[b]?)∧
   (nK w (l.map fun q=>(⟨A,q.1,none⟩,q.2))).heap.size=w.heap.size∧bG w (nK w (l.map fun q=>(⟨A,q.1,none⟩,q.2)))
 |[],w,cs,h=>⟨h,fun _ _=>rfl,rfl,rfl,rfl,rfl⟩
 |q::l,w,cs,h=>by
  have h1:(w.setCell ⟨A,q.1,none⟩ q.2).heap[A]?=some (.cells (cs.setIfInBounds q.1 q.2) e f):=by
   rw[Eg,h];simp
  obtain⟨a1,a2,a3,a4⟩:=vH l h1;refine⟨a1,fun b hb=>(a2 b hb).trans (kr b hb),a3.trans cA,a4⟩
theorem OL {qb gb ab ib:Nat}{fv gv av iv x5 x6 x7 x8:Value}{a:fZ}{eW:TypeId}(J0:eW=181)(he:p.eW=eW)(hj:p.j0<k)(hn:k-p.j0-1<p.n)(qk:∀c,c<5→p.o8 (k-p.j0-1) c=a.cell c)
  (hF:sN k p qb gb ab ib fv gv av iv γ w):WP (sys Tryz.prog) k 0 γ w (ef Tryz.prog p.wg qb gb ab ib x5 x6 x7 x8 a.val (.pointer (some ⟨p.A,5*(k-p.j0-1),none⟩)) [6]):=by
 have hk:1≤k:=by omega
 obtain⟨s1,s2⟩:=qU (acS p.wg qb gb ab ib x5 x6 x7 x8 [] p.A (5*(k-p.j0-1)) a);refine .mk s1 (qg hk (qh hF.st (by decide))) fun γ1 w1 t1 j1 h1 lG wG OK=>?_
 have F1:=hF.rely hk h1;have x1:=lG.phase p F1.ph;obtain⟨cs,a1,a2,a3⟩:=x1.arr;have hb:5*(k-p.j0-1)+4<cs.size:=by omega
 have cO:∀c,c<5→(w1.cell? ⟨p.A,5*(k-p.j0-1)+c,none⟩).isSome=true∧w1.frozen? ⟨p.A,5*(k-p.j0-1)+c,none⟩=false:=by
  intro c hc;unfold World.cell? World.frozen?;simp only[a1];refine⟨?_,by simp⟩
  simp
  omega
 have go:=s2 false w1 fun q hq=>by
  simp only[List.mem_cons,List.mem_nil_iff,or_false]at hq;rcases hq with rfl|rfl|rfl|rfl|rfl
  ·exact cO 0 (by omega)
  ·exact cO 1 (by omega)
  ·exact cO 2 (by omega)
  ·exact cO 3 (by omega)
  ·exact cO 4 (by omega)
 obtain⟨b1,b2,b3,b4⟩:=vH [(5*(k-p.j0-1),a.cell 0),(5*(k-p.j0-1)+1,a.cell 1),(5*(k-p.j0-1)+2,a.cell 2),(5*(k-p.j0-1)+3,a.cell 3),(5*(k-p.j0-1)+4,a.cell 4)] a1;simp only[List.map_cons,List.map_nil]at b1 b2 b3 b4;generalize cU:nK w1 [(⟨p.A,5*(k-p.j0-1),none⟩,a.cell 0),(⟨p.A,5*(k-p.j0-1)+1,none⟩,a.cell 1),(⟨p.A,5*(k-p.j0-1)+2,none⟩,a.cell 2),(⟨p.A,5*(k-p.j0-1)+3,none⟩,a.cell 3),(⟨p.A,5*(k-p.j0-1)+4,none⟩,a.cell 4)]=w2 at go b1 b2 b3 b4;simp only[List.foldl_cons,List.foldl_nil]at b1;have hB:=(lG.lt F1.ph).2.1;have sl:∀c,c<5→γ1.Slot k ⟨p.A,5*(k-p.j0-1)+c,none⟩:=fun c hc=>⟨p,F1.ph,hj,rfl,by show _≤5*(k-p.j0-1)+c;omega,by show 5*(k-p.j0-1)+c<_;omega⟩
 obtain⟨r1,r2⟩:=WE (w1:=w2) (fn:=(ef Tryz.prog p.wg qb gb ab ib x5 x6 x7 x8 a.val (.pointer (some ⟨p.A,5*(k-p.j0-1),none⟩)) [6]).frame.fn) (pos:=(ef Tryz.prog p.wg qb gb ab ib x5 x6 x7 x8 a.val (.pointer (some ⟨p.A,5*(k-p.j0-1),none⟩)) [6]).frame.place)
  (es:= #[dT ⟨p.A,5*(k-p.j0-1),none⟩ true,dT ⟨p.A,5*(k-p.j0-1)+1,none⟩ true,dT ⟨p.A,5*(k-p.j0-1)+2,none⟩ true,dT ⟨p.A,5*(k-p.j0-1)+3,none⟩ true,dT ⟨p.A,5*(k-p.j0-1)+4,none⟩ true])
  lG F1.ph hj OK F1.st b4 b3 b2 (fun cs0 h0=>by
   rw[a1]at h0
   cases h0;refine⟨_,b1,by simp,fun o ho=>?_⟩
   simp only[Array.getElem?_setIfInBounds];repeat rw[if_neg (by omega)]) fun e he=>by
   simp only[List.mem_toArray,List.mem_cons,List.mem_nil_iff,or_false]at he;rcases he with rfl|rfl|rfl|rfl|rfl
   ·exact qj (sl 0 (by omega)) hB
   ·exact qj (sl 1 (by omega)) hB
   ·exact qj (sl 2 (by omega)) hB
   ·exact qj (sl 3 (by omega)) hB
   ·exact qj (sl 4 (by omega)) hB
 have st1:=F1.st;refine⟨⟨_,w2,_,γ1⟩,⟨go,r1,r2⟩,fun x y=>absurd x y,?_⟩
 show WP (sys Tryz.prog) k 0 γ1 w2 (ef Tryz.prog p.wg qb gb ab ib x5 x6 x7 x8 a.val (.pointer (some ⟨p.A,5*(k-p.j0-1),none⟩)) [])
 have n_:∀c,c<5→w2.cell? ⟨p.A,5*(k-p.j0-1)+c,none⟩=some (p.o8 (k-p.j0-1) c):=by
  intro c hc;rw[qk c hc];unfold World.cell?;simp only[b1,Option.isSome_none,Bool.false_eq_true,if_false];obtain rfl|rfl|rfl|rfl|rfl:c=0∨c=1∨c=2∨c=3∨c=4:=by omega
  all_goals
   simp only[Array.getElem?_setIfInBounds,Array.size_setIfInBounds];simp
   omega
 refine WP.mute (n:=1) (Z2 p.wg qb gb ab ib x5 x6 x7 x8 a.val (.pointer (some ⟨p.A,5*(k-p.j0-1),none⟩))) (qg hk (qh st1 (by decide))) fun nO w3 h3=>?_
 rw[Ww p.wg qb gb ab ib x5 x6 x7 x8 a.val (.pointer (some ⟨p.A,5*(k-p.j0-1),none⟩))];have JR:=k9 hk h3 (qh st1 (by decide))
 refine OJ _ (he.trans J0) (JR.ph.trans F1.ph) hj (JR.st.trans st1) fun c hc=>?_;obtain⟨_,_,_,_,_,_,_,r8⟩:=(lS hk h3).live (qh st1 (by decide))
 rw[r8 _ (sl c hc)];exact n_ c hc
def uv (b:Bool)(v:Value):Value:=if b then v else undef
theorem acZ (wg qb gb ab ib A n i:Nat)(x7 x8 x9 fa:Value)(l:List Nat)(hn:n≤5)(hi:i<n):
  cn Tryz.prog (ef Tryz.prog wg qb gb ab ib (.slice (some ⟨A,0,none⟩) n n) (.int .i64 i) x7 x8 x9 fa (5::l))=some (ef Tryz.prog wg qb gb ab ib (.slice (some ⟨A,0,none⟩) n n) (.int .i64 i) x7 x8 x9 (.pointer (some ⟨A,5*i,none⟩)) l,#[]):=by
 obtain rfl|rfl|rfl|rfl|rfl:n=1∨n=2∨n=3∨n=4∨n=5:=by omega
 ·obtain rfl:i=0:=by omega
  exact S0 wg qb gb ab ib x7 x8 x9 fa l A
 ·obtain rfl|rfl:i=0∨i=1:=by omega
  ·exact S1 wg qb gb ab ib x7 x8 x9 fa l A
  ·exact S4 wg qb gb ab ib x7 x8 x9 fa l A
 ·obtain rfl|rfl|rfl:i=0∨i=1∨i=2:=by omega
  ·exact S5 wg qb gb ab ib x7 x8 x9 fa l A
  ·exact S7 wg qb gb ab ib x7 x8 x9 fa l A
  ·exact S9 wg qb gb ab ib x7 x8 x9 fa l A
 ·obtain rfl|rfl|rfl|rfl:i=0∨i=1∨i=2∨i=3:=by omega
  ·exact S_ wg qb gb ab ib x7 x8 x9 fa l A
  ·exact S' wg qb gb ab ib x7 x8 x9 fa l A
  ·exact Ta wg qb gb ab ib x7 x8 x9 fa l A
  ·exact Tb wg qb gb ab ib x7 x8 x9 fa l A
 ·obtain rfl|rfl|rfl|rfl|rfl:i=0∨i=1∨i=2∨i=3∨i=4:=by omega
  ·exact Tc wg qb gb ab ib x7 x8 x9 fa l A
  ·exact Te wg qb gb ab ib x7 x8 x9 fa l A
  ·exact Tf wg qb gb ab ib x7 x8 x9 fa l A
  ·exact ae1 wg qb gb ab ib x7 x8 x9 fa l A
  ·exact Ti wg qb gb ab ib x7 x8 x9 fa l A
theorem Hi {ops:Array Oper}{i:Nat}{ds:List Nat}{L:Array Bool}{o:Oper}(hd:ops[i]?.map (·.after.toList.map (·.on))=some ds)(hb:ops.all (·.after.all (Region.binds .any ·))=true)(ho:ops[i]?=some o)
  (h:∀e∈o.after,Region.binds .any e=true→L.getD e.on false=true):∀x∈ds,L.getD x false=true:=by
 intro x hx;rw[ho]at hd;simp only[Option.map_some,Option.some.injEq]at hd;subst hd;obtain⟨e,he,rfl⟩:=List.mem_map.1 hx;have du:e∈o.after:=by simpa using he
 have h1:=Array.all_eq_true_iff_forall_mem.1 hb o (Array.mem_of_getElem? ho);exact h e du (Array.all_eq_true_iff_forall_mem.1 h1 e du)
theorem J1 (F:Gh→World→Prop){qb gb ab ib gs ms n:Nat}{gi:Int}{a:fZ}{fv:Value}(hfv:fv= .func (.func 139) #[] #[ptr gs,ptr ms])(he:p.eW=181)(hpn:p.n=n)(pQ:n≤5)(hj:p.j0<k)(hi:k-p.j0-1<n)
  (qk:∀c,c<5→p.o8 (k-p.j0-1) c=a.cell c) (hF:∀γ w,F γ w→sN k p qb gb ab ib fv (.int .i64 gi) (.slice (some ⟨p.A,0,none⟩) n n) (.int .i64 ((k-p.j0-1:Nat):Int)) γ w) (hR:∀γ w ai w',F γ w→RR k γ w ai w'→F ai w')
  (OM:∀x5 x6 l γ w,F γ w→(∀ai w',F ai w'→WP (sys Tryz.prog) k 0 ai w' (ef Tryz.prog p.wg qb gb ab ib x5 x6 fv (.int .i64 gi) a.val undef l))→
   WP (sys Tryz.prog) k 0 γ w {frame:=Frame.enter Tryz.prog 139 #[.int .i64 gi,ptr gs,ptr ms] .normal,callers:=[Wt Tryz.prog p.wg qb gb ab ib x5 x6 fv (.int .i64 gi) undef undef (4::l),Ac Tryz.prog],status:= .running,dying:=none}):
  ∀(m:Nat) (b0 b1 b2 b3 b4 b5:Bool) (l:List Nat) (γ:Gh) (w:World),m=(!b0).toNat+(!b1).toNat+(!b2).toNat+(!b3).toNat+(!b4).toNat+(!b5).toNat+1→Ad (ng Tryz.prog) m #[b0,b1,b2,b3,b4,b5,false] l→
   (b4=true→b2=true∧b3=true)→(b5=true→b0=true∧b1=true∧b2=true∧b3=true∧b4=true)→F γ w→
   WP (sys Tryz.prog) k 0 γ w (ef Tryz.prog p.wg qb gb ab ib (uv b0 (.slice (some ⟨p.A,0,none⟩) n n)) (uv b1 (.int .i64 ((k-p.j0-1:Nat):Int))) (uv b2 fv) (uv b3 (.int .i64 gi)) (uv b4 a.val) (uv b5 (.pointer (some ⟨p.A,5*(k-p.j0-1),none⟩))) l):=by
 have hk:1≤k:=by omega
 intro m;induction m with
 |zero=>intro b0 b1 b2 b3 b4 b5 l γ w hm;omega
 |succ m ih=>
  intro b0 b1 b2 b3 b4 b5 l γ w hm pn h4 h5 hf;have box:=hF γ w hf;have live:∀ai w',RR k γ w ai w'→¬ai.Gone k:=qg hk (qh box.st (by decide))
  rcases pn with⟨h1,_⟩|⟨i,l',ac0,rfl,pn⟩
  ·have:=SZ b0 b1 b2 b3 b4 b5 false
   rw[h1]at this;simp at this
  ·obtain⟨i1,i2,o,ho,WY⟩:=tP ac0
   rw[JG]at i1;obtain⟨d4,d5,d6,WZ⟩:=Wv;obtain rfl|rfl|rfl|rfl|rfl|rfl|rfl:i=0∨i=1∨i=2∨i=3∨i=4∨i=5∨i=6:=by omega
   ·obtain rfl:b0=false:=by simpa using i2
    refine WP.box (acN p.wg qb gb ab ib _ _ _ _ _ _ (.slice (some ⟨p.A,0,none⟩) n n) l') hk (fun γ1 w1 h1=>?_) hj fun γ1 w1 h1=>?_
    ·have b:=hF γ1 w1 (hR _ _ _ _ hf h1)
     exact⟨b.ph,b.st,b.ro.2.2.1,b.ca⟩
    ·exact ih true b1 b2 b3 b4 b5 l' γ1 w1 (by simp at hm⊢;omega) pn h4 (fun e=>⟨rfl,(h5 e).2⟩) (hR _ _ _ _ hf h1)
   ·obtain rfl:b1=false:=by simpa using i2
    refine WP.box (acO p.wg qb gb ab ib _ _ _ _ _ _ (.int .i64 ((k-p.j0-1:Nat):Int)) l') hk (fun γ1 w1 h1=>?_) hj fun γ1 w1 h1=>?_
    ·have b:=hF γ1 w1 (hR _ _ _ _ hf h1)
     exact⟨b.ph,b.st,b.ro.2.2.2,b.ci⟩
    ·exact ih b0 true b2 b3 b4 b5 l' γ1 w1 (by simp at hm⊢;omega) pn h4 (fun e=>⟨(h5 e).1,rfl,(h5 e).2.2⟩) (hR _ _ _ _ hf h1)
   ·obtain rfl:b2=false:=by simpa using i2
    refine WP.box (acP p.wg qb gb ab ib _ _ _ _ _ _ fv l') hk (fun γ1 w1 h1=>?_) hj fun γ1 w1 h1=>?_
    ·have b:=hF γ1 w1 (hR _ _ _ _ hf h1)
     exact⟨b.ph,b.st,b.ro.1,b.cq⟩
    ·exact ih b0 b1 true b3 b4 b5 l' γ1 w1 (by simp at hm⊢;omega) pn (fun e=>⟨rfl,(h4 e).2⟩) (fun e=>⟨(h5 e).1,(h5 e).2.1,rfl,(h5 e).2.2.2⟩) (hR _ _ _ _ hf h1)
   ·obtain rfl:b3=false:=by simpa using i2
    refine WP.box (acQ p.wg qb gb ab ib _ _ _ _ _ _ (.int .i64 gi) l') hk (fun γ1 w1 h1=>?_) hj fun γ1 w1 h1=>?_
    ·have b:=hF γ1 w1 (hR _ _ _ _ hf h1)
     exact⟨b.ph,b.st,b.ro.2.1,b.cg⟩
    ·exact ih b0 b1 b2 true b4 b5 l' γ1 w1 (by simp at hm⊢;omega) pn (fun e=>⟨(h4 e).1,rfl⟩) (fun e=>⟨(h5 e).1,(h5 e).2.1,(h5 e).2.2.1,rfl,(h5 e).2.2.2.2⟩) (hR _ _ _ _ hf h1)
   ·obtain rfl:b4=false:=by simpa using i2
    have dd:=Hi d4 WZ ho WY;obtain rfl:b2=true:=by simpa using dd 2 (by simp)
    obtain rfl:b3=true:=by simpa using dd 3 (by simp)
    obtain rfl:b5=false:=by
     cases b5 with
     |false=>rfl
     |true=>exact absurd (h5 rfl).2.2.2.2 (by simp)
    show WP (sys Tryz.prog) k 0 γ w (ef Tryz.prog p.wg qb gb ab ib (uv b0 (.slice (some ⟨p.A,0,none⟩) n n)) (uv b1 (.int .i64 ((k-p.j0-1:Nat):Int))) fv (.int .i64 gi) undef undef (4::l'))
    have e4:=acR p.wg qb gb ab ib (uv b0 (.slice (some ⟨p.A,0,none⟩) n n)) (uv b1 (.int .i64 ((k-p.j0-1:Nat):Int))) (.int .i64 gi) undef undef l' gs ms;rw[←hfv]at e4;refine WP.one e4 live fun γ1 w1 h1=>?_;refine OM _ _ l' γ1 w1 (hR _ _ _ _ hf h1) fun dM w2 f2=>?_;exact ih b0 b1 true true true false l' dM w2 (by simp at hm⊢;omega) pn (fun _=>⟨rfl,rfl⟩) (fun e=>(by cases e)) f2
   ·obtain rfl:b5=false:=by simpa using i2
    have dd:=Hi d5 WZ ho WY;obtain rfl:b0=true:=by simpa using dd 0 (by simp)
    obtain rfl:b1=true:=by simpa using dd 1 (by simp)
    obtain rfl:b2=true:=by simpa using dd 2 (by simp)
    obtain rfl:b3=true:=by simpa using dd 3 (by simp)
    obtain rfl:b4=true:=by simpa using dd 4 (by simp)
    refine WP.one (acZ p.wg qb gb ab ib p.A n (k-p.j0-1) _ _ _ _ l' pQ hi) live fun γ1 w1 h1=>?_;exact ih true true true true true true l' γ1 w1 (by simp at hm⊢;omega) pn (fun _=>⟨rfl,rfl⟩) (fun _=>⟨rfl,rfl,rfl,rfl,rfl⟩) (hR _ _ _ _ hf h1)
   ·have dd:=Hi d6 WZ ho WY
    obtain rfl:b0=true:=by simpa using dd 0 (by simp)
    obtain rfl:b1=true:=by simpa using dd 1 (by simp)
    obtain rfl:b2=true:=by simpa using dd 2 (by simp)
    obtain rfl:b3=true:=by simpa using dd 3 (by simp)
    obtain rfl:b4=true:=by simpa using dd 4 (by simp)
    obtain rfl:b5=true:=by simpa using dd 5 (by simp)
    obtain rfl:m=0:=by simp at hm;omega
    obtain rfl:l'=[]:=pn
    exact OL rfl he hj (by omega) qk box
end
end Go.Proofs.YtabjbdnokpjipaaGreat.Sr
namespace Go.Proofs.YtabjbdnokpjipaaGreat.Sr
open Go Go.Conc Go.ConcN
theorem Hj {P:Program}{b:Bool}{fr:Frame}{cs:List Frame}{w:World}{id:Nat}{ops:Array Oper}{k:List Item}(hm:fr.mode= .run)(ht:fr.todo= .code (.region id ops true)::k):
  stepG P b {frame:=fr,callers:=cs,status:= .running,dying:=none} w= .go {frame:={fr with todo:= .inRegion ops (Region.schedule (P.follows .mixedOrders) ops (w.tape w.drawn (.order fr.fn id)))::k},callers:=cs,status:= .running,dying:=none} (w.at (w.drawn+1)) #[]:=by
 simp[stepG,stepG.exec,hm,ht,choose,Sem.run,Question.forced,Question.cut,World.at]
section
variable {k:Nat}{γ:Gh}{w:World}{p:Ph}
set_option maxRecDepth 100000 in
theorem J5 (F:Gh→World→Prop){qb gb ab ib gs ms n:Nat}{gi:Int}{a:fZ}{fv:Value}(hfv:fv= .func (.func 139) #[] #[ptr gs,ptr ms])(he:p.eW=181)(hpn:p.n=n)(pQ:n≤5)(hj:p.j0<k)(hi:k-p.j0-1<n)
  (qk:∀c,c<5→p.o8 (k-p.j0-1) c=a.cell c) (hF:∀γ w,F γ w→sN k p qb gb ab ib fv (.int .i64 gi) (.slice (some ⟨p.A,0,none⟩) n n) (.int .i64 ((k-p.j0-1:Nat):Int)) γ w) (hR:∀γ w ai w',F γ w→RR k γ w ai w'→F ai w')
  (OM:∀x5 x6 l γ w,F γ w→(∀ai w',F ai w'→WP (sys Tryz.prog) k 0 ai w' (ef Tryz.prog p.wg qb gb ab ib x5 x6 fv (.int .i64 gi) a.val undef l))→
   WP (sys Tryz.prog) k 0 γ w {frame:=Frame.enter Tryz.prog 139 #[.int .i64 gi,ptr gs,ptr ms] .normal,callers:=[Wt Tryz.prog p.wg qb gb ab ib x5 x6 fv (.int .i64 gi) undef undef (4::l),Ac Tryz.prog],status:= .running,dying:=none})
  (hf:F γ w):WP (sys Tryz.prog) k 0 γ w (OE Tryz.prog p.wg qb gb ab ib):=by
 have hk:1≤k:=by omega
 have live:∀γ w,F γ w→∀ai w',RR k γ w ai w'→¬ai.Gone k:=fun γ w h=>qg hk (qh (hF γ w h).st (by decide))
 refine WP.mute (n:=5) (SY p.wg qb gb ab ib) (live γ w hf) fun γ1 w1 h1=>?_;rw[Wu];have f1:=hR _ _ _ _ hf h1;refine .mk rfl (live γ1 w1 f1) fun dM w2 t2 j2 h2 pS zg kj2=>?_;have f2:=hR _ _ _ _ f1 h2;have hs:=Hj (P:=Tryz.prog) (b:=false) (fr:=(wdG Tryz.prog p.wg qb gb ab ib).frame) (cs:=[Ac Tryz.prog]) (w:=w2) (id:=1) (ops:=ng Tryz.prog) (k:=[]) rfl rfl;refine⟨⟨_,_,_,dM⟩,⟨hs,(pS.draw _).abe,fun k' _=>(sys Tryz.prog).Cm k' dM w2 _⟩,fun x y=>absurd x y,?_⟩
 have f3:=hR _ _ _ _ f2 ((sys Tryz.prog).Cm k dM w2 (w2.drawn+1));have pn:=vG (ng Tryz.prog) (Tables.follows Tryz.prog.toTables .mixedOrders) JF (w2.tape w2.drawn (.order (wdG Tryz.prog p.wg qb gb ab ib).frame.fn 1));rw[JG]at pn;have key:=J1 F hfv he hpn pQ hj hi qk hF hR OM 7 false false false false false false _ dM (w2.at (w2.drawn+1)) rfl pn (fun e=>(by cases e)) (fun e=>(by cases e)) f3
 exact key
end
end Go.Proofs.YtabjbdnokpjipaaGreat.Sr
namespace Go.Proofs.YtabjbdnokpjipaaGreat.Sr
open Go Go.Conc Go.ConcN
section
variable {m n:aJ}{v w v1 w1:World}{es:Array Event}{B:Nat}
theorem Ef.facts {e' e:Event}(h:Ef m e' e):(∀x,(MemAct.ofEvent e).touch?=some x→∃r t,m r=some t∧bS x.loc=some t∧(x.write=true→e'.write=true∧∃a,e'.loc= .cell a∧a.block=r))∧
  ((∀r t,m r=some t→t<B)→(MemAct.ofEvent e).low B)∧(∀a,MemAct.ofEvent e≠.mark (.release a))∧e.loc≠.mark .disable∧e.loc≠.mark .enable:=by
 rcases h with⟨a,b,ha,h1,h2,h3,h4⟩|⟨rfl,h1⟩|⟨r,t,hr,rfl,rfl⟩
 ·obtain⟨loc,wr,sy⟩:=e
  obtain⟨ael,wr',sy'⟩:=e';dsimp only at h1 h2 h3 h4
  subst h1 h2 h3 h4;refine⟨fun x hx=>?_,fun hB=>hB _ _ ha.1,nofun,nofun,nofun⟩
  have:x=⟨.cell b,wr,if sy then .atomic else .plain⟩:=(Option.some.inj hx).symm
  subst this;exact⟨a.block,b.block,ha.1,rfl,fun hw=>⟨hw,a,rfl,rfl⟩⟩
 ·obtain⟨loc,wr,sy⟩:=e'
  dsimp only at h1
  subst h1;exact⟨nofun,fun _=>trivial,nofun,nofun,nofun⟩
 ·refine⟨fun x hx=>?_,fun hB=>?_,nofun,nofun,nofun⟩
  ·have:x=⟨.obj t,false,.plain⟩:=(Option.some.inj hx).symm
   subst this;exact⟨r,t,hr,rfl,nofun⟩
  ·exact hB r t hr
theorem qT.hears (h:qT n v es)(d:Nat):deafBehind d es=d:=deafBehind_still (fun e he=>by
 obtain⟨e',h1,_⟩:=h e he;exact(Ef.facts (B:=0) h1).2.2.2) d
theorem WR.lt (h:WR m v w){r t:Nat}(hr:m r=some t):r<v.heap.size∧t<w.heap.size:=by
 obtain⟨o,p,h1,h2,_⟩:=h.kL r t hr;exact⟨(Array.getElem?_eq_some_iff.1 h1).1,(Array.getElem?_eq_some_iff.1 h2).1⟩
theorem WR.stay {w':World}(h:WR m v w)(hh:∀r t,m r=some t→w'.heap[t]?=w.heap[t]?)(hs:bG w w'):WR m (v.on w'.tape w'.drawn) w':=by
 refine⟨h.inj,fun r t hr=>?_,hs.2.1.trans h.os,rfl,rfl⟩
 obtain⟨o,p,h1,h2,h3⟩:=h.kL r t hr;exact⟨o,p,h1,(hh r t hr).trans h2,h3⟩
theorem fc.on {r:Nat}{T:Nat→Question→Nat}{d:Nat}:fc (v.on T d) r↔fc v r:= .rfl
end
section
variable {k:Nat}{γ ai:Gh}{v w v1 w1 w':World}{t:Trace}{j:Nat}{p:Ph}{fn:FuncId}{pos:String}{es:Array Event}{m n:aJ}
def ql (k:Nat)(m:aJ)(v:World)(γ:Gh):Prop:=∀r t,m r=some t→(fc v r∧γ.ro k t)∨γ.ow k t
theorem ql.rely (hk:1≤k)(h:ql k m v γ)(hb:γ.st k= .busy)(r:RR k γ w ai w'):ql k m v ai:=fun a b eT=>by
 obtain⟨_,r2,r3,_⟩:=(lS hk r).live (qh hb (by decide))
 exact(h a b eT).imp (fun x=>⟨x.1,(r3 _).2 x.2⟩) (r2 _).2
theorem ql.heap (hk:1≤k)(h:ql k m v γ)(hb:γ.st k= .busy)(r:RR k γ w ai w'):∀a b,m a=some b→w'.heap[b]?=w.heap[b]?:=fun a b eT=>by
 obtain⟨_,_,_,_,_,_,r7,_⟩:=(lS hk r).live (qh hb (by decide))
 exact r7 b ((h a b eT).elim (fun x=> .inr x.2) .inl)
theorem FB (hJ:JJ γ w t j)(hp:γ.ph=some p)(hk:p.j0<k)(kj:k≤j)(hb:γ.st k= .busy)(hI:ql k m v γ)(hw:WR m v w)(hK:Kept m n v w v1 w1)(aE:WR n v1 w1)(he:qT n v es):
  JJ (γ.grow k w.heap.size w1.heap.size) w1 (t++MemOp.ofEvents k fn pos es) j∧(∀k',k'≠k→RR k' γ w (γ.grow k w.heap.size w1.heap.size) w1)∧ql k n v1 (γ.grow k w.heap.size w1.heap.size)∧
   bG w w1∧w.heap.size≤w1.heap.size∧∀b,b<w.heap.size→¬γ.ow k b→w1.heap[b]?=w.heap[b]?:=by
 have iy:bG w w1:=⟨hK.tape,hK.os,hK.output⟩
 have hh:∀b,b<w.heap.size→¬γ.ow k b→w1.heap[b]?=w.heap[b]?:=fun b hb hn=>hK.old b hb fun r hr=>(hI r b hr).elim (fun x=>x.1) fun x=>absurd x hn
 have hI':ql k n v1 (γ.grow k w.heap.size w1.heap.size):=by
  intro r b hr;rcases hK.fresh r b hr with h1|⟨h1,h2⟩
  ·rcases hI r b h1 with⟨h3,h4⟩|h3
   ·exact .inl ⟨h3.same (hK.kR r h3),h4⟩
   ·exact .inr (.inl h3)
  ·exact .inr (.inr ⟨rfl,h2,(aE.lt hr).2⟩)
 obtain⟨a1,a2⟩:=ae3 (w1:=w1) (fn:=fn) (pos:=pos) (es:=es) hJ hp hk kj hb iy hK.lN hh fun e ON=>by
  obtain⟨e',h1,h2⟩:=he e ON;obtain⟨f1,f2,f3,_⟩:=Ef.facts (B:=w1.heap.size) h1;refine⟨fun x hx=>?_,f2 fun r b hr=>(aE.lt hr).2,f3⟩
  obtain⟨r,b,g1,g2,g3⟩:=f1 x hx;rcases hK.fresh r b g1 with h3|⟨h3,h4⟩
  ·rcases hI r b h3 with⟨h5,h6⟩|h5
   ·refine .inr ⟨⟨b,g2,h6⟩,?_⟩
    cases tD:x.write with
    |false=>rfl
    |true=>
     obtain⟨c1,a,c2,c3⟩:=g3 tD;exact absurd (c3▸h5) (h2 c1 a c2)
   ·exact .inl (.inl ⟨b,g2,.inl h5⟩)
  ·exact .inl (.inl ⟨b,g2,.inr ⟨rfl,h4,(aE.lt g1).2⟩⟩)
 exact⟨a1,a2,hI',iy,hK.lN,hh⟩
theorem W0 {a:fZ}{y:Value}(h:VR m a.val y):y=a.val:=by
 have hi:∀{i:IntKind} {z:Int} {y:Value},VR m (.int i z) y→y= .int i z:=fun h=>by cases h;rfl
 have hb:∀{z:Bool} {y:Value},VR m (.bool z) y→y= .bool z:=fun h=>by cases h;rfl
 cases h with
 | @agg _ vs hs hh=>
   have wF:vs.size=5:=by rw[←hs];rfl
   have e0:=hi (hh 0 (by show 0<5;omega) (by omega))
   have e1:=hi (hh 1 (by show 1<5;omega) (by omega))
   have e2:=hi (hh 2 (by show 2<5;omega) (by omega))
   have e3:=hb (hh 3 (by show 3<5;omega) (by omega))
   have e4:=hb (hh 4 (by show 4<5;omega) (by omega))
   show Value.agg vs= .agg #[.int .i64 a.m,.int .i64 a.t,.int .i64 a.g,.bool a.f,.bool a.k]
   congr 1
   apply Array.ext
   ·simpa using wF
   ·intro i h1 h2
    obtain rfl|rfl|rfl|rfl|rfl:i=0∨i=1∨i=2∨i=3∨i=4:=by omega
    ·exact e0
    ·exact e1
    ·exact e2
    ·exact e3
    ·exact e4
end
theorem tR {Q:Program}{fn:Func}{tm:Array Value}{v:World}{T:Nat→Question→Nat}{d:Nat}{x:Value}(hs:SF Q (results fn tm) (v.on T d))(h:(results fn tm).run Q (v.on T d)= .ok x (v.on T d))(T':Nat→Question→Nat)(d':Nat):
  ∃es,(results fn tm).runT Q (v.on T' d') #[]=(.ok x (v.on T' d'),es):=by
 cases hr:(results fn tm).runT Q (v.on T d) #[]with
 |mk r es=>
  have e1:r= .ok x (v.on T d):=by rw[←h,←Sem.runT_fst];exact(congrArg Prod.fst hr).symm
  subst e1;obtain⟨k,_,h2,h3⟩:=hs.on hr;have hk:k=0:=by
   have:(v.on T d).drawn=(v.on T d).drawn+k:=h2
   omega
  subst hk;have:=(h3 T' d' fun i hi=>by omega).1
  exact⟨es,this⟩
section
variable {τ:TypeId}{P:Program}{F0:Array Func}{spec good:FuncId→Bool}{R:Ending→World→Prop}{k:Nat}{p:Ph}
theorem Ts (B:ia τ P F0 spec good)(hO:∀w,¬R .outgrown w)(hP:∀x w,Plain τ (.panic x)→¬R (.panicked [{v:=x,recovered:=false}]) w){a:fZ}(hR:∀x w,R (.returned x) w→x=a.val)
  (F:Gh→World→Prop) (hj:p.j0<k) (hNo:∀{n:aJ} {f' f:Frame} {fs' fs:List Frame} {v:World},n.good=good→mA P F0 spec n f' f→jO P spec n fs' fs→fs'≠[]→¬Ends (Program.mk (Program.toTables P) F0) (a_ (Program.mk (Program.toTables P) F0) R) f' (fs'++[bH]) v) (OO:∀γ w,F γ w→γ.ph=some p∧γ.st k= .busy) (OP:∀γ w ai w',F γ w→RR k γ w ai w'→F ai w')
  (W1:∀γ w w1,F γ w→(∀b,γ.ro k b→w1.heap[b]?=w.heap[b]?)→bG w w1→F (γ.grow k w.heap.size w1.heap.size) w1) {c:Frame} {e0:List Frame} (K:∀γ w,F γ w→WP (sys P) k 0 γ w (G (c.finish a.val) e0)):
  ∀{f':Frame} {cz:List Frame} {v:World},Ends (Program.mk (Program.toTables P) F0) (a_ (Program.mk (Program.toTables P) F0) R) f' cz v→∀{fs' fs:List Frame} {m:aJ} {f:Frame} {γ:Gh} {w:World},cz=fs'++[bH]→m.good=good→
   FR P spec m f' f→jO P spec m fs' fs→Oy f fs→WR m (v.on w.tape w.drawn) w→ql k m v γ→F γ w→WP (sys P) k 0 γ w (G f (fs++c::e0)):=by
 have hk:1≤k:=by omega
 have fin:∀{f':Frame} {v:World},Ends (Program.mk (Program.toTables P) F0) (a_ (Program.mk (Program.toTables P) F0) R) f' [bH] v→∀{m:aJ} {f:Frame} {γ:Gh} {w:World},m.good=good→
   FR P spec m f' f→WR m (v.on w.tape w.drawn) w→ql k m v γ→F γ w→f'.mode= .returning→WP (sys P) k 0 γ w (G f (c::e0)):=by
  intro f' v hE m f γ w hg h hw hI hf hl;subst hg;obtain⟨hp,hb⟩:=OO γ w hf;refine .mk rfl (qg hk (qh hb (by decide))) fun γ1 w1 t1 j1 h1 lG wG OK=>?_
  have f1:=OP _ _ _ _ hf h1;obtain⟨p1,b1⟩:=OO γ1 w1 f1;have hI1:ql k m v γ1:=hI.rely hk hb h1
  have aE:WR m (v.on w1.tape w1.drawn) w1:=hw.stay (hI.heap hk hb h1) (lS hk h1).same
  obtain⟨x,T',d',r1,r2⟩:=y9 B hO hE h aE hl;have hx:=hR _ _ r1;subst hx;obtain @⟨fn,tm',tm,todo,mode,tl,ds,eU,ha,ok,hm,rfl,rfl⟩:=h
  ·obtain rfl:mode= .returning:=hl
   obtain⟨rfl,rfl,ko,bu⟩:=eU.back;rw[List.append_nil]at*;obtain⟨fr,e1,e2,e3⟩:=B.same fn bu ko;have lD:=kE (F:=F0) (m:=m) B.rt fr ha;obtain⟨_,_,_,cW,q1,q2⟩:=r2;have zi:F0[fn]?=some cW:=q1
   rw[e1]at zi;obtain rfl:=Option.some.inj zi
   have W2:WR m (v.on T' d') (w1.on T' d'):=⟨aE.inj,aE.kL,aE.os,rfl,rfl⟩
   obtain⟨GW,hr⟩:=tR (lD.sf W2) q2 w1.tape w1.drawn;obtain⟨n,y,w2,us,lC,g1,g2,g3,g4,g5,g6⟩:=lD.run (fs:= #[]) aE hr;obtain⟨Oz,u1,u2,u3⟩:=lD.writes aE hr;have wx:us=Oz:=by
    have:=g2.symm.trans u1
    simpa using this
   subst wx;have B9:qT n (v.on w1.tape w1.drawn) (seen P fn (#[]++lC.toArray)):=qT.of g3 u2
   obtain⟨s1,s2,s3,s4,s5,s6⟩:=FB (v:=v.on w1.tape w1.drawn) (fn:=fn) (pos:=(aW fn tm todo .returning).place) lG p1 hj OK b1 hI1 aE g6 g5 B9;obtain rfl:=W0 g4
   refine⟨⟨G (c.finish a.val) e0,w2,seen P fn (#[]++lC.toArray),γ1.grow k w1.heap.size w2.heap.size⟩,⟨nI e2 g1,s1,s2⟩,fun z1 z2=>absurd z1 z2,?_⟩
   show WP (sys P) k (deafBehind 0 (seen P fn (#[]++lC.toArray))) (γ1.grow k w1.heap.size w2.heap.size) w2 (G (c.finish a.val) e0)
   rw[B9.hears];refine K _ _ (W1 γ1 w1 w2 f1 (fun b hb=>s6 b (lG.mO _ _ hb) fun ho=>lG.ba.tI _ _ _ ho hb) s4)
 intro f' cz v hE;induction hE with
 | @stop f' cz v hS=>
   intro fs' fs m f γ w lF hg h hs CA hw hI hf;subst lF;subst hg;by_cases hl:f'.mode= .returning∧fs'=[]
   ·obtain⟨hl,rfl⟩:=hl
    cases hs with
    |nil=>exact fin (.stop hS) rfl h hw hI hf hl
   ·exact absurd hS (qf B hO h fun e=>e.elim hl fun e=>e.2 CA.1)
 | @step f' cz v k1 k2 ih=>
   intro fs' fs m f γ w lF hg h hs CA hw hI hf;subst lF;subst hg;by_cases Bc:f'.mode= .returning∧fs'=[]
   ·obtain⟨hl,rfl⟩:=Bc
    cases hs with
    |nil=>exact fin (.step k1 k2) rfl h hw hI hf hl
   ·have hl:¬Edge f' f fs':=fun e=>e.elim Bc fun e=>e.2 CA.1
    obtain⟨hp,hb⟩:=OO γ w hf;refine .mk rfl (qg hk (qh hb (by decide))) fun γ1 w1 t1 j1 h1 lG wG OK=>?_
    have f1:=OP _ _ _ _ hf h1;obtain⟨p1,b1⟩:=OO γ1 w1 f1;have hI1:ql k m v γ1:=hI.rely hk hb h1
    have aE:WR m (v.on w1.tape w1.drawn) w1:=hw.stay (hI.heap hk hb h1) (lS hk h1).same
    obtain⟨n,Eo,g1,ac1,W3,v2,w2,es,bd,q1,q2,q3,q4,q5,q6,q7,q8,q9⟩:=wy B hO hP (e:=c::e0) (.step k1 k2) h hs w1.tape w1.drawn aE hl false;have fO:FR P spec n Eo g1:=by
     rcases q4 with q4|q4
     ·exact q4
     ·exact absurd (k2 w1.tape w1.drawn _ _ _ _ q1 q2) (hNo q7.le.good.symm q4.1 q5 q4.2)
    obtain⟨s1,s2,s3,s4,s5,s6⟩:=FB (v:=v.on w1.tape w1.drawn) (fn:=(G f (fs++c::e0)).frame.fn) (pos:=(G f (fs++c::e0)).frame.place) lG p1 hj OK b1 hI1 aE q7 q6 q8;refine⟨⟨G g1 (W3++c::e0),w2,es,γ1.grow k w1.heap.size w2.heap.size⟩,⟨q3,s1,s2⟩,fun z1 z2=>absurd z1 z2,?_⟩
    show WP (sys P) k (deafBehind 0 es) (γ1.grow k w1.heap.size w2.heap.size) w2 (G g1 (W3++c::e0))
    rw[q8.hears];refine ih w1.tape w1.drawn _ _ _ _ q1 q2 rfl q7.le.good.symm fO q5 (q9 CA) ?_ s3 (W1 γ1 w1 w2 f1 (fun b hb=>s6 b (lG.mO _ _ hb) fun ho=>lG.ba.tI _ _ _ ho hb) s4)
    have e1:w2.tape=v2.tape:=q6.tape
    have e2:w2.drawn=v2.drawn:=q6.drawn
    rw[e1,e2];exact q6
end
end Go.Proofs.YtabjbdnokpjipaaGreat.Sr
namespace Go.Proofs.YtabjbdnokpjipaaGreat.Sr
open Go Go.Conc
section
variable {Q:Program}{Stop:Frame→List Frame→World→Prop}
def Kid (Q:Program)(Stop:Frame→List Frame→World→Prop)(x y:Frame×List Frame×World):Prop:=
 ¬Stop x.1 x.2.1 x.2.2∧∃T d es,gA Q x.1 x.2.1 (x.2.2.on T d)∧stepG Q true (G x.1 x.2.1) (x.2.2.on T d)= .go (G y.1 y.2.1) y.2.2 es
inductive lL (Q:Program) (Stop:Frame→List Frame→World→Prop):Frame×List Frame×World→Frame×List Frame×World→Prop
 |one {x y:Frame×List Frame×World} (h:Kid Q Stop x y):lL Q Stop x y
 |more {x y z:Frame×List Frame×World} (h:Kid Q Stop x y) (k:lL Q Stop y z):lL Q Stop x z
theorem lL.trans {x y z:Frame×List Frame×World}(h:lL Q Stop x y)(k:lL Q Stop y z):lL Q Stop x z:=by
 induction h with
 |one h=>exact .more h k
 |more h _ ih=>exact .more h (ih k)
def ni (Q:Program)(Stop:Frame→List Frame→World→Prop)(x y:Frame×List Frame×World):Prop:=Ends Q Stop y.1 y.2.1 y.2.2∧(y=x∨lL Q Stop x y)
theorem ni.refl {x:Frame×List Frame×World}(h:Ends Q Stop x.1 x.2.1 x.2.2):ni Q Stop x x:=⟨h,.inl rfl⟩
theorem ni.trans {x y z:Frame×List Frame×World}(h:ni Q Stop x y)(k:ni Q Stop y z):ni Q Stop x z:=by
 refine⟨k.1,?_⟩;rcases h.2 with rfl|h2
 ·exact k.2
 ·rcases k.2 with rfl|k2
  ·exact .inr h2
  ·exact .inr (h2.trans k2)
theorem Ends.go {fr hU:Frame}{cs cz:List Frame}{v v':World}(h:Ends Q Stop fr cs v)(hn:¬Stop fr cs v){T:Nat→Question→Nat}{d:Nat}(ht:gA Q fr cs (v.on T d)){es:Array Event}
  (hs:stepG Q true (G fr cs) (v.on T d)= .go (G hU cz) v' es):Ends Q Stop hU cz v'∧lL Q Stop (fr,cs,v) (hU,cz,v'):=by
 cases h with
 |stop h=>exact absurd h hn
 |step k1 k2=>exact⟨k2 T d _ _ _ _ ht hs,.one ⟨hn,T,d,es,ht,hs⟩⟩
theorem Ends.bL {fr hU:Frame}{cs cz:List Frame}{v:World}(h:Ends Q Stop fr cs v)(hn:¬Stop fr cs v)(hs:∀w,stepG Q true (G fr cs) w= .go (G hU cz) w #[]):ni Q Stop (fr,cs,v) (hU,cz,v):=by
 obtain⟨h1,h2⟩:=h.go hn (T:=v.tape) (d:=v.drawn) (.bL hs) (hs _);exact⟨h1,.inr h2⟩
theorem Ends.ind {C:Frame→List Frame→World→Prop}(hC:∀fr cs v,Ends Q Stop fr cs v→(∀hU cz v',lL Q Stop (fr,cs,v) (hU,cz,v')→Ends Q Stop hU cz v'→C hU cz v')→C fr cs v):
  ∀{fr:Frame} {cs:List Frame} {v:World},Ends Q Stop fr cs v→C fr cs v:=by
 have key:∀{fr:Frame} {cs:List Frame} {v:World},Ends Q Stop fr cs v→∀y:Frame×List Frame×World,(y=(fr,cs,v)∨lL Q Stop (fr,cs,v) y)→Ends Q Stop y.1 y.2.1 y.2.2→C y.1 y.2.1 y.2.2:=by
  intro fr cs v h;induction h with
  | @stop fr cs v hs=>
    intro y hy hE;have none:∀z,¬lL Q Stop (fr,cs,v) z:=by
     intro z hz
     cases hz with
     |one h=>exact h.1 hs
     |more h _=>exact h.1 hs
    rcases hy with rfl|hy
    ·exact hC _ _ _ hE fun hU cz v' hd _=>absurd hd (none _)
    ·exact absurd hy (none _)
  | @step fr cs v k1 k2 ih=>
    have down:∀z:Frame×List Frame×World,lL Q Stop (fr,cs,v) z→Ends Q Stop z.1 z.2.1 z.2.2→C z.1 z.2.1 z.2.2:=by
     intro z hz hE
     cases hz with
     |one h=>
      obtain⟨h1,T,d,es,h2,h3⟩:=h;exact ih T d _ _ _ _ h2 h3 _ (.inl rfl) hE
     |more h k=>
      obtain⟨h1,T,d,es,h2,h3⟩:=h;exact ih T d _ _ _ _ h2 h3 _ (.inr k) hE
    intro y hy hE;rcases hy with rfl|hy
    ·exact hC _ _ _ hE fun hU cz v' hd hE'=>down (hU,cz,v') hd hE'
    ·exact down y hy hE
 intro fr cs v h;exact key h (fr,cs,v) (.inl rfl) h
end
section
variable {τ:TypeId}{P:Program}{F:Array Func}{spec:FuncId→Bool}{m:aJ}
theorem re {f' f:Frame}(h:mA P F spec m f' f):∃(g:FuncId) (us vs:Array Value),spec g=true∧f'=Frame.enter (Program.mk (Program.toTables P) F) g us .normal∧f=Frame.enter P g vs .normal∧AR m us vs∧∀n,c_ g=some n→us.size=n:=by
 induction h with
 |mk f hs ha hn=>exact⟨f,_,_,hs,rfl,rfl,ha,hn⟩
theorem aaf {g g':Goroutine}{w w':World}{es bd:Array Event}(h:GStep.go g w es= .go g' w' bd):g=g'∧w=w':=by
 injection h with h1 h2 _
 exact⟨h1,h2⟩
theorem W4 {f f':Frame}{cs cz:List Frame}(h:G f cs=G f' cz):f=f'∧cs=cz:=by
 unfold G at h;injection h with h1 h2
 exact⟨h1,h2⟩
theorem OQ (B:ia τ P F spec m.good){f' f:Frame}{fs' fs e1:List Frame}{v w:World}(h:FR P spec m f' f)(hs:jO P spec m fs' fs)(hw:WR m v w)(hl:¬Edge f' f fs'){g1:Goroutine}{v1:World}{es:Array Event}
  (aZ:stepG (Program.mk (Program.toTables P) F) true (G f' (fs'++e1)) v= .go g1 v1 es):
  ∃f1 fs1,g1=G f1 (fs1++e1)∧∀e2,stepG (Program.mk (Program.toTables P) F) true (G f' (fs'++e2)) v= .go (G f1 (fs1++e2)) v1 es:=by
 have fin:∀{f1:Frame} {fs1:List Frame} {v2:World} {es2:Array Event},(∀e,stepG (Program.mk (Program.toTables P) F) true (G f' (fs'++e)) v= .go (G f1 (fs1++e)) v2 es2)→
   ∃f1 fs1,g1=G f1 (fs1++e1)∧∀e2,stepG (Program.mk (Program.toTables P) F) true (G f' (fs'++e2)) v= .go (G f1 (fs1++e2)) v1 es:=by
  intro f1 fs1 v2 es2 hh;rw[hh e1]at aZ;injection aZ with h1 h2 h3
  subst h1 h2 h3;exact⟨f1,fs1,rfl,hh⟩
 have dead:∀{A:Prop},(∃o w' bd,stepG (Program.mk (Program.toTables P) F) true (G f' (fs'++e1)) v= .ended o w' bd)→A:=by
  intro A ⟨o,w',bd,hh⟩;rw[hh]at aZ
  cases aZ
 obtain @⟨fn,tm',tm,todo,mode,tl,ds,eU,ha,ok,hm,rfl,rfl⟩:=h
 ·rcases hm with rfl|rfl
  ·cases todo with
   |nil=>
    cases eU with
    |ap=>exact absurd (.inr ⟨rfl,by simp[gZ]⟩) hl
    |no ko hg=>exact fin (f1:=aW fn tm' [] .returning) (fs1:=fs') fun e=>stepG_end (b:=aW fn #[] [] .run) (a:=⟨tm',[]⟩)
   |cons i k=>
    have lP:=ok i (by simp)
    cases i with
    |code c=>
     cases c with
     |skip=>exact fin (f1:=aW fn tm' (k++tl) .run) (fs1:=fs') fun e=>stepG_skip (b:=aW fn #[] [] .run) (a:=⟨tm',[]⟩)
     |label l=>exact fin (f1:=aW fn tm' (k++tl) .run) (fs1:=fs') fun e=>stepG_label (b:=aW fn #[] [] .run) (a:=⟨tm',[]⟩)
     |ret=>exact fin (f1:=aW fn tm' ((.code .ret::k)++tl) .returning) (fs1:=fs') (v2:=v) (es2:= #[]) fun e=>by simp[G,aW,stepG,stepG.exec]
     |exit id=>
      cases hx:exitTo id k with
      |none=>exact dead ⟨_,_,_,by simp only[G,aW,List.cons_append,stepG,stepG.exec,kY eU.B_ hx,Option.elim_none];rfl⟩
      |some k'=>exact fin (f1:=aW fn tm' (k'++tl) .run) (fs1:=fs') fun e=>stepG_exit (b:=aW fn #[] [] .run) (a:=⟨tm',[]⟩) (mM hx)
     |seq x y=>exact fin (f1:=aW fn tm' ((.code x:: .code y::k)++tl) .run) (fs1:=fs') fun e=>stepG_seq (b:=aW fn #[] [] .run) (a:=⟨tm',[]⟩)
     |block id x=>exact fin (f1:=aW fn tm' ((.code x:: .inBlock id::k)++tl) .run) (fs1:=fs') fun e=>stepG_block (b:=aW fn #[] [] .run) (a:=⟨tm',[]⟩)
     |loop x=>exact fin (f1:=aW fn tm' ((.code x:: .inLoop x::k)++tl) .run) (fs1:=fs') fun e=>stepG_loop (b:=aW fn #[] [] .run) (a:=⟨tm',[]⟩)
     |cond c x y=>
      cases h1:Act.eval ⟨tm',[]⟩ c with
      |bool b=>exact fin (f1:=aW fn tm' ((.code (if b then x else y)::k)++tl) .run) (fs1:=fs') fun e=>stepG_cond (b:=aW fn #[] [] .run) (a:=⟨tm',[]⟩) h1
      |_=>exact dead (Cc (fun b hb=>by rw[h1]at hb;cases hb) v)
     |region id ops draw=>
      cases draw with
      |false=>exact fin (f1:=aW fn tm' ((.inRegion ops (List.range ops.size)::k)++tl) .run) (fs1:=fs') fun e=>stepG_region (b:=aW fn #[] [] .run) (a:=⟨tm',[]⟩)
      |true=>exact fin fun e=>nJ ..
     |_=>simp[cZ,iu]at lP
    |inBlock id=>exact fin (f1:=aW fn tm' (k++tl) .run) (fs1:=fs') fun e=>stepG_inBlock (b:=aW fn #[] [] .run) (a:=⟨tm',[]⟩)
    |inLoop x=>exact fin (f1:=aW fn tm' ((.code x:: .inLoop x::k)++tl) .run) (fs1:=fs') fun e=>stepG_inLoop (b:=aW fn #[] [] .run) (a:=⟨tm',[]⟩)
    |inRegion ops l=>
     cases l with
     |nil=>exact fin (f1:=aW fn tm' (k++tl) .run) (fs1:=fs') fun e=>stepG_region_end (b:=aW fn #[] [] .run) (a:=⟨tm',[]⟩)
     |cons j rest=>
      have skip:((ops[j]?).map (Region.wanted · (yielded ops tm'))).getD false=false→∃f1 fs1,g1=G f1 (fs1++e1)∧∀e2,stepG (Program.mk (Program.toTables P) F) true (G (aW fn tm' ((.inRegion ops (j::rest)::k)++tl) .run) (fs'++e2)) v= .go (G f1 (fs1++e2)) v1 es:=by
       intro hn;refine fin (f1:=(aW fn tm' ((.inRegion ops (j::rest)::k)++tl) .run).finish undef) (fs1:=fs') (v2:=v) (es2:= #[]) fun e=>?_;simp only[G,aW,List.cons_append,stepG,stepG.exec];exact if_neg (by rw[hn];simp)
      cases ho:ops[j]? with
      |none=>exact skip (by rw[ho];rfl)
      |some o=>
       cases oa:Region.wanted o (yielded ops tm')with
       |false=>exact skip (by rw[ho];exact oa)
       |true=>
        have Wi:jl P m.good o.op=true:=by
         simp only[cZ]at lP;have:=Array.all_eq_true_iff_forall_mem.1 lP o (Array.mem_of_getElem? ho)
         rw[Bool.and_eq_true]at this;exact this.1
        have lD:=qR (F:=F) B.rt B.globals B.fns (ha.oper B.bR (ds:=ds)) o Wi fun f=>⟨rfl,rfl⟩
        have hr:=y8 lD hw;have bf:∀e,stepG (Program.mk (Program.toTables P) F) true (G (aW fn tm' ((.inRegion ops (j::rest)::k)++tl) .run) (fs'++e)) v=stepG.apply (Program.mk (Program.toTables P) F) true (aW fn tm' ((.inRegion ops (j::rest)::k)++tl) .run) (fs'++e) none (execOp (Act.eval ⟨tm',[]⟩) o) v:=
         fun e=>stepG_oper (b:=aW fn #[] [] .run) (a:=⟨tm',[]⟩) ho oa
        have ht:∃xy l k',(aW fn tm' ((.inRegion ops (j::rest)::k)++tl) .run).todo= .inRegion xy l::k':=⟨_,_,_,rfl⟩
        generalize hq:(execOp (Act.eval ⟨tm',[]⟩) o).runT (Program.mk (Program.toTables P) F) v #[]=q at hr;obtain⟨r,es2⟩:=q
        cases r with
        |ok a v2=>
         cases a with
         |value x=>exact fin fun e=>(bf e).trans (kW rfl hq)
         |skip=>exact fin fun e=>(bf e).trans (mL rfl hq)
         |enter f args=>exact fin (fs1:=aW fn tm' ((.inRegion ops (j::rest)::k)++tl) .run::fs') fun e=>(bf e).trans (kX rfl ht hq)
         |_=>exact hr.elim
        |halt h0 v2=>
         cases h0 with
         |panic x=>exact fin fun e=>(bf e).trans (jA rfl hq)
         |stuck z=>exact dead (by rw[bf];exact iw hq (.inl ⟨z,rfl⟩))
         |unsupported u=>exact dead (by rw[bf];exact iw hq (.inr ⟨u,rfl,hr⟩))
         |_=>exact hr.elim
    |_=>simp[cZ]at lP
  ·cases hs with
   |nil=>exact absurd (.inl ⟨rfl,rfl⟩) hl
   | @cons c' c bX gs hc Ek dQ=>
     obtain⟨rfl,rfl,ko,hg⟩:=eU.back;obtain⟨fr,q1,q2,q3⟩:=B.same fn hg ko;generalize hq:(results fr tm').runT (Program.mk (Program.toTables P) F) v #[]=q;obtain⟨r,es2⟩:=q
     cases r with
     |ok a v2=>exact fin (fs1:=bX) fun e=>nI q1 hq
     |halt h0 v2=>exact absurd aZ (y5 q1 hq _ _ _)
end
section
variable {τ:TypeId}{Q:Program}{spec good:FuncId→Bool}{R Rf:Ending→World→Prop}
theorem OR (B:ia τ Q Q.funcs spec good)(hNo:∀{n:aJ} {f' f:Frame} {fs' fs:List Frame} {v:World},n.good=good→mA Q Q.funcs spec n f' f→jO Q spec n fs' fs→fs'≠[]→¬Ends Q (a_ Q Rf) f' (fs'++[bH]) v)(hO:∀w,¬Rf .outgrown w)(hP:∀c w,¬Rf (.panicked c) w){c:Frame}{cs:List Frame}(lF:cs≠[]):
  ∀{f':Frame} {cz:List Frame} {v:World},Ends Q (a_ Q Rf) f' cz v→∀{fs':List Frame} {m:aJ},cz=fs'++[bH]→m.good=good→FR Q spec m f' f'→jO Q spec m fs' fs'→WR m v v→Ends Q (a_ Q R) f' (fs'++c::cs) v→
   ∃x v1 T d,Rf (.returned x) (v1.on T d)∧ni Q (a_ Q R) (f',fs'++c::cs,v) (c.finish x,cs,v1):=by
 have nos:∀(f:Frame) (fs:List Frame) (v:World),¬a_ Q R f (fs++c::cs) v:=by
  rintro f fs v ⟨h,_⟩;have:=congrArg List.length h
  have hp:0<cs.length:=List.length_pos_iff.2 lF
  simp at this
  omega
 have same:(Program.mk (Program.toTables Q) Q.funcs)=Q:=rfl
 intro f' cz v hI;refine Ends.ind (Q:=Q) (Stop:=a_ Q Rf) (C:=fun f' cz v=>∀{fs':List Frame} {m:aJ},cz=fs'++[bH]→m.good=good→FR Q spec m f' f'→jO Q spec m fs' fs'→WR m v v→Ends Q (a_ Q R) f' (fs'++c::cs) v→
   ∃x v1 T d,Rf (.returned x) (v1.on T d)∧ni Q (a_ Q R) (f',fs'++c::cs,v) (c.finish x,cs,v1)) ?_ hI
 intro f' cz v hI ih fs' m ac2 hg hf te hw hE;subst ac2 hg;by_cases Bc:f'.mode= .returning∧fs'=[]
 ·obtain⟨hl,rfl⟩:=Bc
  obtain⟨x,T,d,r1,r2⟩:=y9 B hO hI hf (show WR m (v.on v.tape v.drawn) v from hw) hl
  obtain @⟨fn,tm',tm,todo,mode,tl,ds,eU,ha,ok,hm,rfl,e2f⟩:=hf
  ·obtain rfl:mode= .returning:=hl
   obtain⟨rfl,rfl,wF,bu⟩:=eU.back;rw[List.append_nil]at*;obtain⟨fr,e1,e2,e3⟩:=B.same fn bu wF;have lD:=kE (F:=Q.funcs) (m:=m) B.rt fr ha;obtain⟨_,_,_,cW,q1,q2⟩:=r2;have zi:Q.funcs[fn]?=some cW:=q1
   rw[e1]at zi;obtain rfl:=Option.some.inj zi
   have W2:WR m (v.on T d) (v.on T d):=⟨hw.inj,hw.kL,hw.os,rfl,rfl⟩
   obtain⟨GW,hr⟩:=tR (lD.sf W2) q2 v.tape v.drawn;have aZ:stepG Q true (G (aW fn tm' todo .returning) (c::cs)) (v.on v.tape v.drawn)= .go (G (c.finish x) cs) v (seen Q fn GW):=nI e1 hr
   obtain⟨g1,g2⟩:=hE.go (nos _ [] _) (.ret e1 (lD.sf (show WR m (v.on v.tape v.drawn) (v.on v.tape v.drawn)from hw))) aZ
   exact⟨x,v,T,d,r1,g1,.inr g2⟩
 ·have hl:¬Edge f' f' fs':=by
   rintro(h|⟨-,h⟩)
   ·exact Bc h
   ·exact h (BF B hf).1
  obtain⟨n,f1',f1,fs1',fs1,v1,w1,es,bd,t1,s1,s2,s3,s4,s5,s6,s7, -⟩:=wy (e:=c::cs) B hO (fun x w _=>hP _ w) hI hf te v.tape v.drawn (show WR m (v.on v.tape v.drawn) v from hw) hl true
  obtain⟨f2,fs2,g1,g2⟩:=OQ (e1:=[bH]) B hf te (show WR m (v.on v.tape v.drawn) (v.on v.tape v.drawn)from hw) hl s1
  obtain⟨a1,a2⟩:=W4 g1;have a3:=List.append_cancel_right a2;subst a1 a3;have g3:=g2 (c::cs);have s2':stepG Q true (G f' (fs'++c::cs)) (v.on v.tape v.drawn)= .go (G f1 (fs1++c::cs)) w1 es:=s2
  have g3':stepG Q true (G f' (fs'++c::cs)) (v.on v.tape v.drawn)= .go (G f1' (fs1'++c::cs)) v1 bd:=g3
  rw[g3']at s2';obtain⟨b1,b2⟩:=aaf s2';obtain⟨b3,b4⟩:=W4 b1;have b5:=List.append_cancel_right b4;subst b2 b3 b5;have fO:FR Q spec n f1' f1':=by
   rcases s3 with s3|s3
   ·exact s3
   ·exact absurd (hI.go (qf B hO hf hl) t1 s1).1 (hNo s6.le.good.symm s3.1 s4 s3.2)
  have ht:gA Q f' (fs'++c::cs) (v.on v.tape v.drawn):=Jy B hf te (show WR m (v.on v.tape v.drawn) v from hw) hl
  obtain⟨k1,k2⟩:=hE.go (nos _ _ _) ht g3';have cf:¬a_ Q Rf f' (fs'++[bH]) v:=qf B hO hf hl
  obtain⟨i1,i2⟩:=hI.go cf t1 s1;obtain⟨x,v2,T,d,r1,r2⟩:=ih _ _ _ i2 i1 rfl s6.le.good.symm fO s4 s5 k1;exact⟨x,v2,T,d,r1,ni.trans ⟨k1,.inr k2⟩ r2⟩
end
end Go.Proofs.YtabjbdnokpjipaaGreat.Sr
