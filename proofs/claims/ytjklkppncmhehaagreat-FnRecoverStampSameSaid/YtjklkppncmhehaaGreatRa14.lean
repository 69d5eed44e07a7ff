/-
What is proved: a worker makes its way through its region ('region_way') and from its start ('worker_way'). Conditions: those that each theorem states. a worker makes its way from its start ('worker_way'). Conditions: those that the theorem states. a worker's call makes its way as the lone call does ('call_way'). Conditions: those that the theorem states. induction over the tree ('Ends.ind'), a step in it ('Ends.go'), a call in it that is known by its contract ('ends_call'). Conditions: those that each theorem states.
-/
import Derived.Test.YtjklkppncmhehaaGreatRa10
import Derived.Test.YtjklkppncmhehaaGreatRa13
import Derived.Test.YtjklkppncmhehaaGreatRa06
set_option linter.unusedVariables false
set_option linter.unusedSimpArgs false
namespace Go.Proofs.YtjklkppncmhehaaGreat.Sr
open Go Go.Conc Go.ConcN
section
variable {P:Program}{k d:Nat}{γ:Gh}{w:World}{t:Trace}{j:Nat}{p:Ph}{g:Goroutine}{fn:FuncId}{pos:String}{es:Array Event}
theorem JJ.R7 (hJ:JJ γ w t j):JJ γ w (t++MemOp.ofEvents k fn pos #[]) j:=by
 rw[Ai,Array.append_empty];exact hJ
theorem wj (γ:Gh)(k a:Nat):γ.grow k a a=γ:=by
 unfold Gh.grow;have:(fun i x=>γ.ow i x∨(i=k∧a≤x∧x<a))=γ.ow:=by
  funext i x
  apply propext
  constructor
  ·rintro(h|⟨_,U,h2⟩)
   ·exact h
   ·omega
  ·exact .inl
 rw[this]
theorem VJ (h:JJ γ w t j)(hp:γ.ph=some p)(hk:p.j0<k)(kj:k≤j)(hb:γ.st k= .busy)(cE:∀e∈es,K0 γ k w.heap.size e):JJ γ w (t++MemOp.ofEvents k fn pos es) j∧∀k',k'≠k→RR k' γ w γ w:=by
 have:=ND (w1:=w) (fn:=fn) (pos:=pos) (es:=es) h hp hk kj hb ⟨rfl,rfl,rfl⟩ (Nat.le_refl _) (fun _ _ _=>rfl) (by rw[wj];exact cE)
 rwa[wj]at this
theorem QH {b o B:Nat}(h:γ.ro k b)(hB:b<B):K0 γ k B (cD ⟨b,o,none⟩ false):=
 ⟨fun x hx=> .inr (by have:x=⟨.cell ⟨b,o,none⟩,false,.plain⟩:=(Option.some.inj hx).symm;subst this;exact⟨⟨b,rfl,h⟩,rfl⟩),hB,nofun⟩
theorem mo {b o B:Nat}(h:γ.Slot k ⟨b,o,none⟩)(hB:b<B):K0 γ k B (cD ⟨b,o,none⟩ true):=
 ⟨fun x hx=> .inl (by have:x=⟨.cell ⟨b,o,none⟩,true,.plain⟩:=(Option.some.inj hx).symm;subst this;exact .inr ⟨_,rfl,h⟩),hB,nofun⟩
structure nK (k:Nat) (p:Ph) (qb gb ab ib:Nat) (fv gv av iv:Value) (γ:Gh) (w:World):Prop where
 ph:γ.ph=some p
 st:γ.st k= .busy
 ro:γ.ro k qb∧γ.ro k gb∧γ.ro k ab∧γ.ro k ib
 cq:w.cell? ⟨qb,0,none⟩=some fv∧w.frozen? ⟨qb,0,none⟩=false
 cg:w.cell? ⟨gb,0,none⟩=some gv∧w.frozen? ⟨gb,0,none⟩=false
 ca:w.cell? ⟨ab,0,none⟩=some av∧w.frozen? ⟨ab,0,none⟩=false
 ci:w.cell? ⟨ib,0,none⟩=some iv∧w.frozen? ⟨ib,0,none⟩=false
theorem wo {w w':World}{a:Addr}(h:w'.heap[a.block]?=w.heap[a.block]?):w'.frozen? a=w.frozen? a:=by
 unfold World.frozen?;rw[h]
theorem nK.rely {qb gb ab ib:Nat}{fv gv av iv:Value}{af:Gh}{w':World}(hk:1≤k)(h:nK k p qb gb ab ib fv gv av iv γ w)(r:RR k γ w af w'):nK k p qb gb ab ib fv gv av iv af w':=by
 obtain⟨r1,r2,r3,r4,r5,r6,r7,r8⟩:=(iO hk r).live (mh h.st (by decide))
 obtain⟨o1,o2,o3,o4⟩:=h.ro;have key:∀{b:Nat} {v:Value},γ.ro k b→w.cell? ⟨b,0,none⟩=some v∧w.frozen? ⟨b,0,none⟩=false→w'.cell? ⟨b,0,none⟩=some v∧w'.frozen? ⟨b,0,none⟩=false:=by
  intro b v hb hc;have e:=r7 b (.inr hb);rw[cell_of e,wo e];exact hc
 exact⟨r4.trans h.ph,r1.trans h.st,⟨(r3 _).2 o1,(r3 _).2 o2,(r3 _).2 o3,(r3 _).2 o4⟩,key o1 h.cq,key o2 h.cg,key o3 h.ca,key o4 h.ci⟩
theorem WP.box {v:Value}{b:Nat}{g':Goroutine}(hv:aZ P v none g=some ⟨g',#[cD ⟨b,0,none⟩ false],[⟨b,0,none⟩],[],none⟩)(hk:1≤k)
  (hF:∀af w',RR k γ w af w'→af.ph=some p∧af.st k= .busy∧af.ro k b∧w'.cell? ⟨b,0,none⟩=some v∧w'.frozen? ⟨b,0,none⟩=false) (hj:p.j0<k)
  (K:∀af w',RR k γ w af w'→WP (sys P) k d af w' g'):WP (sys P) k d γ w g:=by
 obtain⟨_,NT,_⟩:=hF γ w ((sys P).refl k γ w);refine .qE (vS hv).1 (mg hk (mh NT (by decide))) fun aQ w1 t1 j1 U iA qF He=>?_
 obtain⟨f1,f2,f3,f4,f5⟩:=hF aQ w1 U;obtain⟨r1,r2⟩:=VJ (fn:=g.frame.fn) (pos:=g.frame.place) (es:= #[cD ⟨b,0,none⟩ false]) iA f1 hj He f2 fun e he=>by simp at he;subst he;exact QH f3 (iA.jm _ _ f3)
 exact⟨v,none,_,aQ,hv,fun a ha=>(by have:a=⟨b,0,none⟩:=by simpa using ha
                                    subst this;exact⟨f4,f5⟩),fun r hr=>(by cases hr),r1,r2,fun e e'=>absurd e' e,K aQ w1 U⟩
theorem WP.one {g':Goroutine}(hq:bM P g=some (g',#[]))(hg:∀af w',RR k γ w af w'→¬af.cV k)(K:∀af w',RR k γ w af w'→WP (sys P) k d af w' g'):WP (sys P) k d γ w g:=by
 obtain⟨U,h2⟩:=dU hq;exact .mk U hg fun af w' t j hR hJ hd kj=>⟨⟨g',w',#[],af⟩,⟨h2 false w',hJ.R7,fun k' _=>(sys P).refl _ _ _⟩,fun a b=>absurd a b,K af w' hR⟩
theorem pV {A:Nat}{e:TypeId}{f:Nat×Nat}:∀(l:List (Nat×Value)) {w:World} {cs:Array Value},w.heap[A]?=some (.cells cs e f)→
  (jZ w (l.map fun q=>(⟨A,q.1,none⟩,q.2))).heap[A]?=some (.cells (l.foldl (fun c q=>c.setIfInBounds q.1 q.2) cs) e f)∧(∀b,b≠A→(jZ w (l.map fun q=>(⟨A,q.1,none⟩,q.2))).heap[b]?=w.heap[b]?)∧
   (jZ w (l.map fun q=>(⟨A,q.1,none⟩,q.2))).heap.size=w.heap.size∧br w (jZ w (l.map fun q=>(⟨A,q.1,none⟩,q.2)))
 |[],w,cs,h=>⟨h,fun _ _=>rfl,rfl,rfl,rfl,rfl⟩
 |q::l,w,cs,h=>by
  have U:(w.setCell ⟨A,q.1,none⟩ q.2).heap[A]?=some (.cells (cs.setIfInBounds q.1 q.2) e f):=by
   rw[xW,h];simp
  obtain⟨a1,a2,a3,a4⟩:=pV l U;refine⟨a1,fun b hb=>(a2 b hb).trans (gq b hb),a3.trans cj,a4⟩
theorem Hf {qb gb ab ib:Nat}{fv gv av iv x5 x6 x7 x8:Value}{a:dB}{eW:TypeId}(C4:eW=191)(he:p.eW=eW)(hj:p.j0<k)(hn:k-p.j0-1<p.n)(rG:∀c,c<5→p.lh (k-p.j0-1) c=a.cell c)
  (hF:nK k p qb gb ab ib fv gv av iv γ w):WP (sys Tryz.prog) k 0 γ w (cS Tryz.prog p.wg qb gb ab ib x5 x6 x7 x8 a.val (.pointer (some ⟨p.A,5*(k-p.j0-1),none⟩)) [6]):=by
 have hk:1≤k:=by omega
 obtain⟨s1,s2⟩:=mQ (Vm p.wg qb gb ab ib x5 x6 x7 x8 [] p.A (5*(k-p.j0-1)) a);refine .mk s1 (mg hk (mh hF.st (by decide))) fun aQ w1 t1 j1 U iA qF He=>?_
 have F1:=hF.rely hk U;have x1:=iA.phase p F1.ph;obtain⟨cs,a1,a2,a3⟩:=x1.arr;have hb:5*(k-p.j0-1)+4<cs.size:=by omega
 have dq:∀c,c<5→(w1.cell? ⟨p.A,5*(k-p.j0-1)+c,none⟩).isSome=true∧w1.frozen? ⟨p.A,5*(k-p.j0-1)+c,none⟩=false:=by
  intro c hc;unfold World.cell? World.frozen?;simp only[a1];refine⟨?_,by simp⟩
  simp
  omega
 have go:=s2 false w1 fun q hq=>by
  simp only[List.mem_cons,List.mem_nil_iff,or_false]at hq;rcases hq with rfl|rfl|rfl|rfl|rfl
  ·exact dq 0 (by omega)
  ·exact dq 1 (by omega)
  ·exact dq 2 (by omega)
  ·exact dq 3 (by omega)
  ·exact dq 4 (by omega)
 obtain⟨b1,b2,b3,b4⟩:=pV [(5*(k-p.j0-1),a.cell 0),(5*(k-p.j0-1)+1,a.cell 1),(5*(k-p.j0-1)+2,a.cell 2),(5*(k-p.j0-1)+3,a.cell 3),(5*(k-p.j0-1)+4,a.cell 4)] a1;simp only[List.map_cons,List.map_nil]at b1 b2 b3 b4;generalize rv:jZ w1 [(⟨p.A,5*(k-p.j0-1),none⟩,a.cell 0),(⟨p.A,5*(k-p.j0-1)+1,none⟩,a.cell 1),(⟨p.A,5*(k-p.j0-1)+2,none⟩,a.cell 2),(⟨p.A,5*(k-p.j0-1)+3,none⟩,a.cell 3),(⟨p.A,5*(k-p.j0-1)+4,none⟩,a.cell 4)]=w2 at go b1 b2 b3 b4;simp only[List.foldl_cons,List.foldl_nil]at b1;have hB:=(iA.lt F1.ph).2.1;have sl:∀c,c<5→aQ.Slot k ⟨p.A,5*(k-p.j0-1)+c,none⟩:=fun c hc=>⟨p,F1.ph,hj,rfl,by show _≤5*(k-p.j0-1)+c;omega,by show 5*(k-p.j0-1)+c<_;omega⟩
 obtain⟨r1,r2⟩:=NF (w1:=w2) (fn:=(cS Tryz.prog p.wg qb gb ab ib x5 x6 x7 x8 a.val (.pointer (some ⟨p.A,5*(k-p.j0-1),none⟩)) [6]).frame.fn) (pos:=(cS Tryz.prog p.wg qb gb ab ib x5 x6 x7 x8 a.val (.pointer (some ⟨p.A,5*(k-p.j0-1),none⟩)) [6]).frame.place)
  (es:= #[cD ⟨p.A,5*(k-p.j0-1),none⟩ true,cD ⟨p.A,5*(k-p.j0-1)+1,none⟩ true,cD ⟨p.A,5*(k-p.j0-1)+2,none⟩ true,cD ⟨p.A,5*(k-p.j0-1)+3,none⟩ true,cD ⟨p.A,5*(k-p.j0-1)+4,none⟩ true])
  iA F1.ph hj He F1.st b4 b3 b2 (fun Tp h0=>by
   rw[a1]at h0
   cases h0;refine⟨_,b1,by simp,fun o ho=>?_⟩
   simp only[Array.getElem?_setIfInBounds];repeat rw[if_neg (by omega)]) fun e he=>by
   simp only[List.mem_toArray,List.mem_cons,List.mem_nil_iff,or_false]at he;rcases he with rfl|rfl|rfl|rfl|rfl
   ·exact mo (sl 0 (by omega)) hB
   ·exact mo (sl 1 (by omega)) hB
   ·exact mo (sl 2 (by omega)) hB
   ·exact mo (sl 3 (by omega)) hB
   ·exact mo (sl 4 (by omega)) hB
 have QI:=F1.st;refine⟨⟨_,w2,_,aQ⟩,⟨go,r1,r2⟩,fun x y=>absurd x y,?_⟩
 show WP (sys Tryz.prog) k 0 aQ w2 (cS Tryz.prog p.wg qb gb ab ib x5 x6 x7 x8 a.val (.pointer (some ⟨p.A,5*(k-p.j0-1),none⟩)) [])
 have eC:∀c,c<5→w2.cell? ⟨p.A,5*(k-p.j0-1)+c,none⟩=some (p.lh (k-p.j0-1) c):=by
  intro c hc;rw[rG c hc];unfold World.cell?;simp only[b1,Option.isSome_none,Bool.false_eq_true,if_false];obtain rfl|rfl|rfl|rfl|rfl:c=0∨c=1∨c=2∨c=3∨c=4:=by omega
  all_goals
   simp only[Array.getElem?_setIfInBounds,Array.size_setIfInBounds];simp
   omega
 refine WP.mute (n:=1) (Qr p.wg qb gb ab ib x5 x6 x7 x8 a.val (.pointer (some ⟨p.A,5*(k-p.j0-1),none⟩))) (mg hk (mh QI (by decide))) fun j_ w3 h3=>?_
 rw[Nr p.wg qb gb ab ib x5 x6 x7 x8 a.val (.pointer (some ⟨p.A,5*(k-p.j0-1),none⟩))];have CW:=ie hk h3 (mh QI (by decide))
 refine Hd _ (he.trans C4) (CW.ph.trans F1.ph) hj (CW.st.trans QI) fun c hc=>?_;obtain⟨_,_,_,_,_,_,_,r8⟩:=(iO hk h3).live (mh QI (by decide))
 rw[r8 _ (sl c hc)];exact eC c hc
def uv (b:Bool)(v:Value):Value:=if b then v else undef
theorem VK (wg qb gb ab ib A n i:Nat)(x7 x8 x9 df:Value)(l:List Nat)(hn:n≤5)(hi:i<n):
  bM Tryz.prog (cS Tryz.prog wg qb gb ab ib (.slice (some ⟨A,0,none⟩) n n) (.int .i64 i) x7 x8 x9 df (5::l))=some (cS Tryz.prog wg qb gb ab ib (.slice (some ⟨A,0,none⟩) n n) (.int .i64 i) x7 x8 x9 (.pointer (some ⟨A,5*i,none⟩)) l,#[]):=by
 obtain rfl|rfl|rfl|rfl|rfl:n=1∨n=2∨n=3∨n=4∨n=5:=by omega
 ·obtain rfl:i=0:=by omega
  exact KF wg qb gb ab ib x7 x8 x9 df l A
 ·obtain rfl|rfl:i=0∨i=1:=by omega
  ·exact KH wg qb gb ab ib x7 x8 x9 df l A
  ·exact KI wg qb gb ab ib x7 x8 x9 df l A
 ·obtain rfl|rfl|rfl:i=0∨i=1∨i=2:=by omega
  ·exact KJ wg qb gb ab ib x7 x8 x9 df l A
  ·exact KL wg qb gb ab ib x7 x8 x9 df l A
  ·exact KN wg qb gb ab ib x7 x8 x9 df l A
 ·obtain rfl|rfl|rfl|rfl:i=0∨i=1∨i=2∨i=3:=by omega
  ·exact KO wg qb gb ab ib x7 x8 x9 df l A
  ·exact KP wg qb gb ab ib x7 x8 x9 df l A
  ·exact KQ wg qb gb ab ib x7 x8 x9 df l A
  ·exact KR wg qb gb ab ib x7 x8 x9 df l A
 ·obtain rfl|rfl|rfl|rfl|rfl:i=0∨i=1∨i=2∨i=3∨i=4:=by omega
  ·exact KS wg qb gb ab ib x7 x8 x9 df l A
  ·exact KU wg qb gb ab ib x7 x8 x9 df l A
  ·exact KV wg qb gb ab ib x7 x8 x9 df l A
  ·exact KW wg qb gb ab ib x7 x8 x9 df l A
  ·exact KX wg qb gb ab ib x7 x8 x9 df l A
theorem Ap {ops:Array Oper}{i:Nat}{ds:List Nat}{L:Array Bool}{o:Oper}(hd:ops[i]?.map (·.after.toList.map (·.on))=some ds)(hb:ops.all (·.after.all (Region.binds .any ·))=true)(ho:ops[i]?=some o)
  (h:∀e∈o.after,Region.binds .any e=true→L.getD e.on false=true):∀x∈ds,L.getD x false=true:=by
 intro x hx;rw[ho]at hd;simp only[Option.map_some,Option.some.injEq]at hd;subst hd;obtain⟨e,he,rfl⟩:=List.mem_map.1 hx;have dF:e∈o.after:=by simpa using he
 have U:=Array.all_eq_true_iff_forall_mem.1 hb o (Array.mem_of_getElem? ho);exact h e dF (Array.all_eq_true_iff_forall_mem.1 U e dF)
theorem C5 (F:Gh→World→Prop){qb gb ab ib gs ms n:Nat}{gi:Int}{a:dB}{fv:Value}(Tq:fv= .func (.func 121) #[] #[ptr gs,ptr ms])(he:p.eW=191)(QJ:p.n=n)(lS:n≤5)(hj:p.j0<k)(hi:k-p.j0-1<n)
  (rG:∀c,c<5→p.lh (k-p.j0-1) c=a.cell c) (hF:∀γ w,F γ w→nK k p qb gb ab ib fv (.int .i64 gi) (.slice (some ⟨p.A,0,none⟩) n n) (.int .i64 ((k-p.j0-1:Nat):Int)) γ w) (hR:∀γ w af w',F γ w→RR k γ w af w'→F af w')
  (Hg:∀x5 x6 l γ w,F γ w→(∀af w',F af w'→WP (sys Tryz.prog) k 0 af w' (cS Tryz.prog p.wg qb gb ab ib x5 x6 fv (.int .i64 gi) a.val undef l))→
   WP (sys Tryz.prog) k 0 γ w {frame:=Frame.enter Tryz.prog 121 #[.int .i64 gi,ptr gs,ptr ms] .normal,callers:=[Nm Tryz.prog p.wg qb gb ab ib x5 x6 fv (.int .i64 gi) undef undef (4::l),tX Tryz.prog],status:= .running,dying:=none}):
  ∀(m:Nat) (b0 b1 b2 b3 b4 b5:Bool) (l:List Nat) (γ:Gh) (w:World),m=(!b0).toNat+(!b1).toNat+(!b2).toNat+(!b3).toNat+(!b4).toNat+(!b5).toNat+1→tY (jF Tryz.prog) m #[b0,b1,b2,b3,b4,b5,false] l→
   (b4=true→b2=true∧b3=true)→(b5=true→b0=true∧b1=true∧b2=true∧b3=true∧b4=true)→F γ w→
   WP (sys Tryz.prog) k 0 γ w (cS Tryz.prog p.wg qb gb ab ib (uv b0 (.slice (some ⟨p.A,0,none⟩) n n)) (uv b1 (.int .i64 ((k-p.j0-1:Nat):Int))) (uv b2 fv) (uv b3 (.int .i64 gi)) (uv b4 a.val) (uv b5 (.pointer (some ⟨p.A,5*(k-p.j0-1),none⟩))) l):=by
 have hk:1≤k:=by omega
 intro m;induction m with
 |zero=>intro b0 b1 b2 b3 b4 b5 l γ w hm;omega
 |succ m ih=>
  intro b0 b1 b2 b3 b4 b5 l γ w hm lA h4 h5 hf;have box:=hF γ w hf;have live:∀af w',RR k γ w af w'→¬af.cV k:=mg hk (mh box.st (by decide))
  rcases lA with⟨U,_⟩|⟨i,l',VL,rfl,lA⟩
  ·have:=KE b0 b1 b2 b3 b4 b5 false
   rw[U]at this;simp at this
  ·obtain⟨i1,i2,o,ho,NU⟩:=oy VL
   rw[CN]at i1;obtain⟨d4,d5,d6,NV⟩:=Nq;obtain rfl|rfl|rfl|rfl|rfl|rfl|rfl:i=0∨i=1∨i=2∨i=3∨i=4∨i=5∨i=6:=by omega
   ·obtain rfl:b0=false:=by simpa using i2
    refine WP.box (Vh p.wg qb gb ab ib _ _ _ _ _ _ (.slice (some ⟨p.A,0,none⟩) n n) l') hk (fun aQ w1 U=>?_) hj fun aQ w1 U=>?_
    ·have b:=hF aQ w1 (hR _ _ _ _ hf U)
     exact⟨b.ph,b.st,b.ro.2.2.1,b.ca⟩
    ·exact ih true b1 b2 b3 b4 b5 l' aQ w1 (by simp at hm⊢;omega) lA h4 (fun e=>⟨rfl,(h5 e).2⟩) (hR _ _ _ _ hf U)
   ·obtain rfl:b1=false:=by simpa using i2
    refine WP.box (Vi p.wg qb gb ab ib _ _ _ _ _ _ (.int .i64 ((k-p.j0-1:Nat):Int)) l') hk (fun aQ w1 U=>?_) hj fun aQ w1 U=>?_
    ·have b:=hF aQ w1 (hR _ _ _ _ hf U)
     exact⟨b.ph,b.st,b.ro.2.2.2,b.ci⟩
    ·exact ih b0 true b2 b3 b4 b5 l' aQ w1 (by simp at hm⊢;omega) lA h4 (fun e=>⟨(h5 e).1,rfl,(h5 e).2.2⟩) (hR _ _ _ _ hf U)
   ·obtain rfl:b2=false:=by simpa using i2
    refine WP.box (Vj p.wg qb gb ab ib _ _ _ _ _ _ fv l') hk (fun aQ w1 U=>?_) hj fun aQ w1 U=>?_
    ·have b:=hF aQ w1 (hR _ _ _ _ hf U)
     exact⟨b.ph,b.st,b.ro.1,b.cq⟩
    ·exact ih b0 b1 true b3 b4 b5 l' aQ w1 (by simp at hm⊢;omega) lA (fun e=>⟨rfl,(h4 e).2⟩) (fun e=>⟨(h5 e).1,(h5 e).2.1,rfl,(h5 e).2.2.2⟩) (hR _ _ _ _ hf U)
   ·obtain rfl:b3=false:=by simpa using i2
    refine WP.box (Vk p.wg qb gb ab ib _ _ _ _ _ _ (.int .i64 gi) l') hk (fun aQ w1 U=>?_) hj fun aQ w1 U=>?_
    ·have b:=hF aQ w1 (hR _ _ _ _ hf U)
     exact⟨b.ph,b.st,b.ro.2.1,b.cg⟩
    ·exact ih b0 b1 b2 true b4 b5 l' aQ w1 (by simp at hm⊢;omega) lA (fun e=>⟨(h4 e).1,rfl⟩) (fun e=>⟨(h5 e).1,(h5 e).2.1,(h5 e).2.2.1,rfl,(h5 e).2.2.2.2⟩) (hR _ _ _ _ hf U)
   ·obtain rfl:b4=false:=by simpa using i2
    have dd:=Ap d4 NV ho NU;obtain rfl:b2=true:=by simpa using dd 2 (by simp)
    obtain rfl:b3=true:=by simpa using dd 3 (by simp)
    obtain rfl:b5=false:=by
     cases b5 with
     |false=>rfl
     |true=>exact absurd (h5 rfl).2.2.2.2 (by simp)
    show WP (sys Tryz.prog) k 0 γ w (cS Tryz.prog p.wg qb gb ab ib (uv b0 (.slice (some ⟨p.A,0,none⟩) n n)) (uv b1 (.int .i64 ((k-p.j0-1:Nat):Int))) fv (.int .i64 gi) undef undef (4::l'))
    have e4:=Vl p.wg qb gb ab ib (uv b0 (.slice (some ⟨p.A,0,none⟩) n n)) (uv b1 (.int .i64 ((k-p.j0-1:Nat):Int))) (.int .i64 gi) undef undef l' gs ms;rw[←Tq]at e4;refine WP.one e4 live fun aQ w1 U=>?_;refine Hg _ _ l' aQ w1 (hR _ _ _ _ hf U) fun cw w2 f2=>?_;exact ih b0 b1 true true true false l' cw w2 (by simp at hm⊢;omega) lA (fun _=>⟨rfl,rfl⟩) (fun e=>(by cases e)) f2
   ·obtain rfl:b5=false:=by simpa using i2
    have dd:=Ap d5 NV ho NU;obtain rfl:b0=true:=by simpa using dd 0 (by simp)
    obtain rfl:b1=true:=by simpa using dd 1 (by simp)
    obtain rfl:b2=true:=by simpa using dd 2 (by simp)
    obtain rfl:b3=true:=by simpa using dd 3 (by simp)
    obtain rfl:b4=true:=by simpa using dd 4 (by simp)
    refine WP.one (VK p.wg qb gb ab ib p.A n (k-p.j0-1) _ _ _ _ l' lS hi) live fun aQ w1 U=>?_;exact ih true true true true true true l' aQ w1 (by simp at hm⊢;omega) lA (fun _=>⟨rfl,rfl⟩) (fun _=>⟨rfl,rfl,rfl,rfl,rfl⟩) (hR _ _ _ _ hf U)
   ·have dd:=Ap d6 NV ho NU
    obtain rfl:b0=true:=by simpa using dd 0 (by simp)
    obtain rfl:b1=true:=by simpa using dd 1 (by simp)
    obtain rfl:b2=true:=by simpa using dd 2 (by simp)
    obtain rfl:b3=true:=by simpa using dd 3 (by simp)
    obtain rfl:b4=true:=by simpa using dd 4 (by simp)
    obtain rfl:b5=true:=by simpa using dd 5 (by simp)
    obtain rfl:m=0:=by simp at hm;omega
    obtain rfl:l'=[]:=lA
    exact Hf rfl he hj (by omega) rG box
end
end Go.Proofs.YtjklkppncmhehaaGreat.Sr
namespace Go.Proofs.YtjklkppncmhehaaGreat.Sr
open Go Go.Conc Go.ConcN
theorem Aq {P:Program}{b:Bool}{fr:Frame}{cs:List Frame}{w:World}{id:Nat}{ops:Array Oper}{k:List Item}(hm:fr.mode= .run)(ht:fr.todo= .code (.region id ops true)::k):
  stepG P b {frame:=fr,callers:=cs,status:= .running,dying:=none} w= .go {frame:={fr with todo:= .inRegion ops (Region.schedule (P.follows .mixedOrders) ops (w.tape w.drawn (.order fr.fn id)))::k},callers:=cs,status:= .running,dying:=none} (w.at (w.drawn+1)) #[]:=by
 simp[stepG,stepG.exec,hm,ht,choose,Sem.run,Question.forced,Question.cut,World.at]
section
variable {k:Nat}{γ:Gh}{w:World}{p:Ph}
set_option maxRecDepth 100000 in
theorem C6 (F:Gh→World→Prop){qb gb ab ib gs ms n:Nat}{gi:Int}{a:dB}{fv:Value}(Tq:fv= .func (.func 121) #[] #[ptr gs,ptr ms])(he:p.eW=191)(QJ:p.n=n)(lS:n≤5)(hj:p.j0<k)(hi:k-p.j0-1<n)
  (rG:∀c,c<5→p.lh (k-p.j0-1) c=a.cell c) (hF:∀γ w,F γ w→nK k p qb gb ab ib fv (.int .i64 gi) (.slice (some ⟨p.A,0,none⟩) n n) (.int .i64 ((k-p.j0-1:Nat):Int)) γ w) (hR:∀γ w af w',F γ w→RR k γ w af w'→F af w')
  (Hg:∀x5 x6 l γ w,F γ w→(∀af w',F af w'→WP (sys Tryz.prog) k 0 af w' (cS Tryz.prog p.wg qb gb ab ib x5 x6 fv (.int .i64 gi) a.val undef l))→
   WP (sys Tryz.prog) k 0 γ w {frame:=Frame.enter Tryz.prog 121 #[.int .i64 gi,ptr gs,ptr ms] .normal,callers:=[Nm Tryz.prog p.wg qb gb ab ib x5 x6 fv (.int .i64 gi) undef undef (4::l),tX Tryz.prog],status:= .running,dying:=none})
  (hf:F γ w):WP (sys Tryz.prog) k 0 γ w (G4 Tryz.prog p.wg qb gb ab ib):=by
 have hk:1≤k:=by omega
 have live:∀γ w,F γ w→∀af w',RR k γ w af w'→¬af.cV k:=fun γ w h=>mg hk (mh (hF γ w h).st (by decide))
 refine WP.mute (n:=5) (KD p.wg qb gb ab ib) (live γ w hf) fun aQ w1 U=>?_;rw[Np];have f1:=hR _ _ _ _ hf U;refine .mk rfl (live aQ w1 f1) fun cw w2 t2 j2 h2 lW vY Yu=>?_;have f2:=hR _ _ _ _ f1 h2;have hs:=Aq (P:=Tryz.prog) (b:=false) (fr:=(SZ Tryz.prog p.wg qb gb ab ib).frame) (cs:=[tX Tryz.prog]) (w:=w2) (id:=1) (ops:=jF Tryz.prog) (k:=[]) rfl rfl;refine⟨⟨_,_,_,cw⟩,⟨hs,(lW.draw _).R7,fun k' _=>(sys Tryz.prog).vI k' cw w2 _⟩,fun x y=>absurd x y,?_⟩
 have f3:=hR _ _ _ _ f2 ((sys Tryz.prog).vI k cw w2 (w2.drawn+1));have lA:=pU (jF Tryz.prog) (Tables.follows Tryz.prog.toTables .mixedOrders) CM (w2.tape w2.drawn (.order (SZ Tryz.prog p.wg qb gb ab ib).frame.fn 1));rw[CN]at lA;have key:=C5 F Tq he QJ lS hj hi rG hF hR Hg 7 false false false false false false _ cw (w2.at (w2.drawn+1)) rfl lA (fun e=>(by cases e)) (fun e=>(by cases e)) f3
 exact key
end
end Go.Proofs.YtjklkppncmhehaaGreat.Sr
namespace Go.Proofs.YtjklkppncmhehaaGreat.Sr
open Go Go.Conc Go.ConcN
section
variable {m n:ao}{v w v1 w1:World}{es:Array Event}{B:Nat}
theorem xV.facts {e' e:Event}(h:xV m e' e):(∀x,(MemAct.ofEvent e).touch?=some x→∃r t,m r=some t∧bo x.loc=some t∧(x.write=true→e'.write=true∧∃a,e'.loc= .cell a∧a.block=r))∧
  ((∀r t,m r=some t→t<B)→(MemAct.ofEvent e).low B)∧(∀a,MemAct.ofEvent e≠.mark (.release a))∧e.loc≠.mark .disable∧e.loc≠.mark .enable:=by
 rcases h with⟨a,b,ha,U,h2,h3,h4⟩|⟨rfl,U⟩|⟨r,t,hr,rfl,rfl⟩
 ·obtain⟨loc,wr,sy⟩:=e
  obtain⟨aah,wr',sy'⟩:=e';dsimp only at U h2 h3 h4
  subst U h2 h3 h4;refine⟨fun x hx=>?_,fun hB=>hB _ _ ha.1,nofun,nofun,nofun⟩
  have:x=⟨.cell b,wr,if sy then .atomic else .plain⟩:=(Option.some.inj hx).symm
  subst this;exact⟨a.block,b.block,ha.1,rfl,fun hw=>⟨hw,a,rfl,rfl⟩⟩
 ·obtain⟨loc,wr,sy⟩:=e'
  dsimp only at U
  subst U;exact⟨nofun,fun _=>trivial,nofun,nofun,nofun⟩
 ·refine⟨fun x hx=>?_,fun hB=>?_,nofun,nofun,nofun⟩
  ·have:x=⟨.obj t,false,.plain⟩:=(Option.some.inj hx).symm
   subst this;exact⟨r,t,hr,rfl,nofun⟩
  ·exact hB r t hr
theorem mO.hears (h:mO n v es)(d:Nat):deafBehind d es=d:=deafBehind_still (fun e he=>by
 obtain⟨e',U,_⟩:=h e he;exact(xV.facts (B:=0) U).2.2.2) d
theorem WR.lt (h:WR m v w){r t:Nat}(hr:m r=some t):r<v.heap.size∧t<w.heap.size:=by
 obtain⟨o,p,U,h2,_⟩:=h.jj r t hr;exact⟨(Array.getElem?_eq_some_iff.1 U).1,(Array.getElem?_eq_some_iff.1 h2).1⟩
theorem WR.stay {w':World}(h:WR m v w)(hh:∀r t,m r=some t→w'.heap[t]?=w.heap[t]?)(hs:br w w'):WR m (v.on w'.tape w'.drawn) w':=by
 refine⟨h.inj,fun r t hr=>?_,hs.2.1.trans h.os,rfl,rfl⟩
 obtain⟨o,p,U,h2,h3⟩:=h.jj r t hr;exact⟨o,p,U,(hh r t hr).trans h2,h3⟩
theorem di.on {r:Nat}{T:Nat→Question→Nat}{d:Nat}:di (v.on T d) r↔di v r:= .rfl
end
section
variable {k:Nat}{γ af:Gh}{v w v1 w1 w':World}{t:Trace}{j:Nat}{p:Ph}{fn:FuncId}{pos:String}{es:Array Event}{m n:ao}
def mu (k:Nat)(m:ao)(v:World)(γ:Gh):Prop:=∀r t,m r=some t→(di v r∧γ.ro k t)∨γ.ow k t
theorem mu.rely (hk:1≤k)(h:mu k m v γ)(hb:γ.st k= .busy)(r:RR k γ w af w'):mu k m v af:=fun a b lR=>by
 obtain⟨_,r2,r3,_⟩:=(iO hk r).live (mh hb (by decide))
 exact(h a b lR).imp (fun x=>⟨x.1,(r3 _).2 x.2⟩) (r2 _).2
theorem mu.heap (hk:1≤k)(h:mu k m v γ)(hb:γ.st k= .busy)(r:RR k γ w af w'):∀a b,m a=some b→w'.heap[b]?=w.heap[b]?:=fun a b lR=>by
 obtain⟨_,_,_,_,_,_,r7,_⟩:=(iO hk r).live (mh hb (by decide))
 exact r7 b ((h a b lR).elim (fun x=> .inr x.2) .inl)
theorem zb (hJ:JJ γ w t j)(hp:γ.ph=some p)(hk:p.j0<k)(kj:k≤j)(hb:γ.st k= .busy)(hI:mu k m v γ)(hw:WR m v w)(hK:Kept m n v w v1 w1)(aF:WR n v1 w1)(he:mO n v es):
  JJ (γ.grow k w.heap.size w1.heap.size) w1 (t++MemOp.ofEvents k fn pos es) j∧(∀k',k'≠k→RR k' γ w (γ.grow k w.heap.size w1.heap.size) w1)∧mu k n v1 (γ.grow k w.heap.size w1.heap.size)∧
   br w w1∧w.heap.size≤w1.heap.size∧∀b,b<w.heap.size→¬γ.ow k b→w1.heap[b]?=w.heap[b]?:=by
 have fg:br w w1:=⟨hK.tape,hK.os,hK.output⟩
 have hh:∀b,b<w.heap.size→¬γ.ow k b→w1.heap[b]?=w.heap[b]?:=fun b hb hn=>hK.old b hb fun r hr=>(hI r b hr).elim (fun x=>x.1) fun x=>absurd x hn
 have YA:mu k n v1 (γ.grow k w.heap.size w1.heap.size):=by
  intro r b hr;rcases hK.fresh r b hr with U|⟨U,h2⟩
  ·rcases hI r b U with⟨h3,h4⟩|h3
   ·exact .inl ⟨h3.same (hK.ku r h3),h4⟩
   ·exact .inr (.inl h3)
  ·exact .inr (.inr ⟨rfl,h2,(aF.lt hr).2⟩)
 obtain⟨a1,a2⟩:=ND (w1:=w1) (fn:=fn) (pos:=pos) (es:=es) hJ hp hk kj hb fg hK.iF hh fun e Hh=>by
  obtain⟨e',U,h2⟩:=he e Hh;obtain⟨f1,f2,f3,_⟩:=xV.facts (B:=w1.heap.size) U;refine⟨fun x hx=>?_,f2 fun r b hr=>(aF.lt hr).2,f3⟩
  obtain⟨r,b,g1,g2,g3⟩:=f1 x hx;rcases hK.fresh r b g1 with h3|⟨h3,h4⟩
  ·rcases hI r b h3 with⟨h5,h6⟩|h5
   ·refine .inr ⟨⟨b,g2,h6⟩,?_⟩
    cases oj:x.write with
    |false=>rfl
    |true=>
     obtain⟨c1,a,c2,c3⟩:=g3 oj;exact absurd (c3▸h5) (h2 c1 a c2)
   ·exact .inl (.inl ⟨b,g2,.inl h5⟩)
  ·exact .inl (.inl ⟨b,g2,.inr ⟨rfl,h4,(aF.lt g1).2⟩⟩)
 exact⟨a1,a2,YA,fg,hK.iF,hh⟩
theorem NW {a:dB}{y:Value}(h:VR m a.val y):y=a.val:=by
 have hi:∀{i:IntKind} {z:Int} {y:Value},VR m (.int i z) y→y= .int i z:=fun h=>by cases h;rfl
 have hb:∀{z:Bool} {y:Value},VR m (.bool z) y→y= .bool z:=fun h=>by cases h;rfl
 cases h with
 | @agg _ vs hs hh=>
   have vP:vs.size=5:=by rw[←hs];rfl
   have e0:=hi (hh 0 (by show 0<5;omega) (by omega))
   have e1:=hi (hh 1 (by show 1<5;omega) (by omega))
   have e2:=hi (hh 2 (by show 2<5;omega) (by omega))
   have e3:=hb (hh 3 (by show 3<5;omega) (by omega))
   have e4:=hb (hh 4 (by show 4<5;omega) (by omega))
   show Value.agg vs= .agg #[.int .i64 a.m,.int .i64 a.t,.int .i64 a.g,.bool a.f,.bool a.k]
   congr 1
   apply Array.ext
   ·simpa using vP
   ·intro i U h2
    obtain rfl|rfl|rfl|rfl|rfl:i=0∨i=1∨i=2∨i=3∨i=4:=by omega
    ·exact e0
    ·exact e1
    ·exact e2
    ·exact e3
    ·exact e4
end
theorem oz {Q:Program}{fn:Func}{tm:Array Value}{v:World}{T:Nat→Question→Nat}{d:Nat}{x:Value}(hs:SF Q (results fn tm) (v.on T d))(h:(results fn tm).run Q (v.on T d)= .ok x (v.on T d))(T':Nat→Question→Nat)(d':Nat):
  ∃es,(results fn tm).runT Q (v.on T' d') #[]=(.ok x (v.on T' d'),es):=by
 cases hr:(results fn tm).runT Q (v.on T d) #[]with
 |mk r es=>
  have e1:r= .ok x (v.on T d):=by rw[←h,←Sem.runT_fst];exact(congrArg Prod.fst hr).symm
  subst e1;obtain⟨k,_,h2,h3⟩:=hs.on hr;have hk:k=0:=by
   have:(v.on T d).drawn=(v.on T d).drawn+k:=h2
   omega
  subst hk;have:=(h3 T' d' fun i hi=>by omega).1
  exact⟨es,this⟩
section
variable {τ:TypeId}{P:Program}{F0:Array Func}{spec good:FuncId→Bool}{R:Ending→World→Prop}{k:Nat}{p:Ph}
theorem K8 (B:fV τ P F0 spec good)(hO:∀w,¬R .outgrown w)(hP:∀x w,Plain τ (.panic x)→¬R (.panicked [{v:=x,recovered:=false}]) w){a:dB}(hR:∀x w,R (.returned x) w→x=a.val)
  (F:Gh→World→Prop) (hj:p.j0<k) (Ts:∀{n:ao} {f' f:Frame} {fs' fs:List Frame} {v:World},n.good=good→jb P F0 spec n f' f→jC P spec n fs' fs→fs'≠[]→¬Ends (Program.mk (Program.toTables P) F0) (bk (Program.mk (Program.toTables P) F0) R) f' (fs'++[cc]) v) (Hi:∀γ w,F γ w→γ.ph=some p∧γ.st k= .busy) (QK:∀γ w af w',F γ w→RR k γ w af w'→F af w')
  (NX:∀γ w w1,F γ w→(∀b,γ.ro k b→w1.heap[b]?=w.heap[b]?)→br w w1→F (γ.grow k w.heap.size w1.heap.size) w1) {c:Frame} {e0:List Frame} (K:∀γ w,F γ w→WP (sys P) k 0 γ w (G (c.finish a.val) e0)):
  ∀{f':Frame} {bK:List Frame} {v:World},Ends (Program.mk (Program.toTables P) F0) (bk (Program.mk (Program.toTables P) F0) R) f' bK v→∀{fs' fs:List Frame} {m:ao} {f:Frame} {γ:Gh} {w:World},bK=fs'++[cc]→m.good=good→
   FR P spec m f' f→jC P spec m fs' fs→WR m (v.on w.tape w.drawn) w→mu k m v γ→F γ w→WP (sys P) k 0 γ w (G f (fs++c::e0)):=by
 have hk:1≤k:=by omega
 have fin:∀{f':Frame} {v:World},Ends (Program.mk (Program.toTables P) F0) (bk (Program.mk (Program.toTables P) F0) R) f' [cc] v→∀{m:ao} {f:Frame} {γ:Gh} {w:World},m.good=good→
   FR P spec m f' f→WR m (v.on w.tape w.drawn) w→mu k m v γ→F γ w→f'.mode= .returning→WP (sys P) k 0 γ w (G f (c::e0)):=by
  intro f' v hE m f γ w hg h hw hI hf hl;subst hg;obtain⟨hp,hb⟩:=Hi γ w hf;refine .mk rfl (mg hk (mh hb (by decide))) fun aQ w1 t1 j1 U iA qF He=>?_
  have f1:=QK _ _ _ _ hf U;obtain⟨p1,b1⟩:=Hi aQ w1 f1;have Tu:mu k m v aQ:=hI.rely hk hb U
  have aF:WR m (v.on w1.tape w1.drawn) w1:=hw.stay (hI.heap hk hb U) (iO hk U).same
  obtain⟨x,T',d',r1,r2⟩:=sY B hO hE h aF hl;have hx:=hR _ _ r1;subst hx
  cases h with
  | @mk fn aT tm todo mode eF a_ ha ok hm=>
    obtain rfl:mode= .returning:=hl
    obtain⟨fr,e1,e2,e3⟩:=B.same fn a_ eF;have jD:=gJ (F:=F0) (m:=m) B.rt fr ha;obtain⟨_,_,_,NY,q1,q2⟩:=r2;have uJ:F0[fn]?=some NY:=q1
    rw[e1]at uJ;obtain rfl:=Option.some.inj uJ
    have NZ:WR m (v.on T' d') (w1.on T' d'):=⟨aF.inj,aF.jj,aF.os,rfl,rfl⟩
    obtain⟨zU,hr⟩:=oz (jD.sf NZ) q2 w1.tape w1.drawn;obtain⟨n,y,w2,us,iw,g1,g2,g3,g4,g5,g6⟩:=jD.run (fs:= #[]) aF hr;obtain⟨G2,u1,u2,u3⟩:=jD.writes aF hr;have sW:us=G2:=by
     have:=g2.symm.trans u1
     simpa using this
    subst sW;have CB:mO n (v.on w1.tape w1.drawn) (seen P fn (#[]++iw.toArray)):=mO.of g3 u2
    obtain⟨s1,s2,s3,s4,s5,s6⟩:=zb (v:=v.on w1.tape w1.drawn) (fn:=fn) (pos:=(aA fn tm todo .returning).place) iA p1 hj He b1 Tu aF g6 g5 CB;obtain rfl:=NW g4
    refine⟨⟨G (c.finish a.val) e0,w2,seen P fn (#[]++iw.toArray),aQ.grow k w1.heap.size w2.heap.size⟩,⟨lu e2 g1,s1,s2⟩,fun z1 z2=>absurd z1 z2,?_⟩
    show WP (sys P) k (deafBehind 0 (seen P fn (#[]++iw.toArray))) (aQ.grow k w1.heap.size w2.heap.size) w2 (G (c.finish a.val) e0)
    rw[CB.hears];refine K _ _ (NX aQ w1 w2 f1 (fun b hb=>s6 b (iA.jm _ _ hb) fun ho=>iA.ba.oo _ _ _ ho hb) s4)
 intro f' bK v hE;induction hE with
 | @stop f' bK v hS=>
   intro fs' fs m f γ w lV hg h hs hw hI hf;subst lV;subst hg;by_cases hl:f'.mode= .returning∧fs'=[]
   ·obtain⟨hl,rfl⟩:=hl
    cases hs with
    |nil=>exact fin (.stop hS) rfl h hw hI hf hl
   ·exact absurd hS (ma B hO h hl)
 | @step f' bK v k1 k2 ih=>
   intro fs' fs m f γ w lV hg h hs hw hI hf;subst lV;subst hg;by_cases hl:f'.mode= .returning∧fs'=[]
   ·obtain⟨hl,rfl⟩:=hl
    cases hs with
    |nil=>exact fin (.step k1 k2) rfl h hw hI hf hl
   ·obtain⟨hp,hb⟩:=Hi γ w hf
    refine .mk rfl (mg hk (mh hb (by decide))) fun aQ w1 t1 j1 U iA qF He=>?_
    have f1:=QK _ _ _ _ hf U;obtain⟨p1,b1⟩:=Hi aQ w1 f1;have Tu:mu k m v aQ:=hI.rely hk hb U
    have aF:WR m (v.on w1.tape w1.drawn) w1:=hw.stay (hI.heap hk hb U) (iO hk U).same
    obtain⟨n,K9,g1,VM,N1,v2,w2,es,aJ,q1,q2,q3,q4,q5,q6,q7,q8⟩:=qA B hO hP (e:=c::e0) (.step k1 k2) h hs w1.tape w1.drawn aF hl false;have qG:FR P spec n K9 g1:=by
     rcases q4 with q4|q4
     ·exact q4
     ·exact absurd (k2 w1.tape w1.drawn _ _ _ _ q1 q2) (Ts q7.le.good.symm q4.1 q5 q4.2)
    obtain⟨s1,s2,s3,s4,s5,s6⟩:=zb (v:=v.on w1.tape w1.drawn) (fn:=(G f (fs++c::e0)).frame.fn) (pos:=(G f (fs++c::e0)).frame.place) iA p1 hj He b1 Tu aF q7 q6 q8;refine⟨⟨G g1 (N1++c::e0),w2,es,aQ.grow k w1.heap.size w2.heap.size⟩,⟨q3,s1,s2⟩,fun z1 z2=>absurd z1 z2,?_⟩
    show WP (sys P) k (deafBehind 0 es) (aQ.grow k w1.heap.size w2.heap.size) w2 (G g1 (N1++c::e0))
    rw[q8.hears];refine ih w1.tape w1.drawn _ _ _ _ q1 q2 rfl q7.le.good.symm qG q5 ?_ s3 (NX aQ w1 w2 f1 (fun b hb=>s6 b (iA.jm _ _ hb) fun ho=>iA.ba.oo _ _ _ ho hb) s4)
    have e1:w2.tape=v2.tape:=q6.tape
    have e2:w2.drawn=v2.drawn:=q6.drawn
    rw[e1,e2];exact q6
end
end Go.Proofs.YtjklkppncmhehaaGreat.Sr
namespace Go.Proofs.YtjklkppncmhehaaGreat.Sr
open Go Go.Conc
section
variable {Q:Program}{Stop:Frame→List Frame→World→Prop}
def VN (Q:Program)(Stop:Frame→List Frame→World→Prop)(x y:Frame×List Frame×World):Prop:=
 ¬Stop x.1 x.2.1 x.2.2∧∃T d es,gK Q x.1 x.2.1 (x.2.2.on T d)∧stepG Q true (G x.1 x.2.1) (x.2.2.on T d)= .go (G y.1 y.2.1) y.2.2 es
inductive lB (Q:Program) (Stop:Frame→List Frame→World→Prop):Frame×List Frame×World→Frame×List Frame×World→Prop
 |one {x y:Frame×List Frame×World} (h:VN Q Stop x y):lB Q Stop x y
 |more {x y z:Frame×List Frame×World} (h:VN Q Stop x y) (k:lB Q Stop y z):lB Q Stop x z
theorem lB.trans {x y z:Frame×List Frame×World}(h:lB Q Stop x y)(k:lB Q Stop y z):lB Q Stop x z:=by
 induction h with
 |one h=>exact .more h k
 |more h _ ih=>exact .more h (ih k)
def mY (Q:Program)(Stop:Frame→List Frame→World→Prop)(x y:Frame×List Frame×World):Prop:=Ends Q Stop y.1 y.2.1 y.2.2∧(y=x∨lB Q Stop x y)
theorem mY.refl {x:Frame×List Frame×World}(h:Ends Q Stop x.1 x.2.1 x.2.2):mY Q Stop x x:=⟨h,.inl rfl⟩
theorem mY.trans {x y z:Frame×List Frame×World}(h:mY Q Stop x y)(k:mY Q Stop y z):mY Q Stop x z:=by
 refine⟨k.1,?_⟩;rcases h.2 with rfl|h2
 ·exact k.2
 ·rcases k.2 with rfl|k2
  ·exact .inr h2
  ·exact .inr (h2.trans k2)
theorem Ends.go {fr eG:Frame}{cs bK:List Frame}{v v':World}(h:Ends Q Stop fr cs v)(hn:¬Stop fr cs v){T:Nat→Question→Nat}{d:Nat}(ht:gK Q fr cs (v.on T d)){es:Array Event}
  (hs:stepG Q true (G fr cs) (v.on T d)= .go (G eG bK) v' es):Ends Q Stop eG bK v'∧lB Q Stop (fr,cs,v) (eG,bK,v'):=by
 cases h with
 |stop h=>exact absurd h hn
 |step k1 k2=>exact⟨k2 T d _ _ _ _ ht hs,.one ⟨hn,T,d,es,ht,hs⟩⟩
theorem Ends.bq {fr eG:Frame}{cs bK:List Frame}{v:World}(h:Ends Q Stop fr cs v)(hn:¬Stop fr cs v)(hs:∀w,stepG Q true (G fr cs) w= .go (G eG bK) w #[]):mY Q Stop (fr,cs,v) (eG,bK,v):=by
 obtain⟨U,h2⟩:=h.go hn (T:=v.tape) (d:=v.drawn) (.bq hs) (hs _);exact⟨U,.inr h2⟩
theorem Ends.ind {C:Frame→List Frame→World→Prop}(hC:∀fr cs v,Ends Q Stop fr cs v→(∀eG bK v',lB Q Stop (fr,cs,v) (eG,bK,v')→Ends Q Stop eG bK v'→C eG bK v')→C fr cs v):
  ∀{fr:Frame} {cs:List Frame} {v:World},Ends Q Stop fr cs v→C fr cs v:=by
 have key:∀{fr:Frame} {cs:List Frame} {v:World},Ends Q Stop fr cs v→∀y:Frame×List Frame×World,(y=(fr,cs,v)∨lB Q Stop (fr,cs,v) y)→Ends Q Stop y.1 y.2.1 y.2.2→C y.1 y.2.1 y.2.2:=by
  intro fr cs v h;induction h with
  | @stop fr cs v hs=>
    intro y hy hE;have none:∀z,¬lB Q Stop (fr,cs,v) z:=by
     intro z hz
     cases hz with
     |one h=>exact h.1 hs
     |more h _=>exact h.1 hs
    rcases hy with rfl|hy
    ·exact hC _ _ _ hE fun eG bK v' hd _=>absurd hd (none _)
    ·exact absurd hy (none _)
  | @step fr cs v k1 k2 ih=>
    have down:∀z:Frame×List Frame×World,lB Q Stop (fr,cs,v) z→Ends Q Stop z.1 z.2.1 z.2.2→C z.1 z.2.1 z.2.2:=by
     intro z hz hE
     cases hz with
     |one h=>
      obtain⟨U,T,d,es,h2,h3⟩:=h;exact ih T d _ _ _ _ h2 h3 _ (.inl rfl) hE
     |more h k=>
      obtain⟨U,T,d,es,h2,h3⟩:=h;exact ih T d _ _ _ _ h2 h3 _ (.inr k) hE
    intro y hy hE;rcases hy with rfl|hy
    ·exact hC _ _ _ hE fun eG bK v' hd QL=>down (eG,bK,v') hd QL
    ·exact down y hy hE
 intro fr cs v h;exact key h (fr,cs,v) (.inl rfl) h
end
section
variable {τ:TypeId}{P:Program}{F:Array Func}{spec:FuncId→Bool}{m:ao}
theorem mZ {f' f:Frame}(h:jb P F spec m f' f):∃(g:FuncId) (us vs:Array Value),spec g=true∧f'=Frame.enter (Program.mk (Program.toTables P) F) g us .normal∧f=Frame.enter P g vs .normal∧AR m us vs∧∀n,dk g=some n→us.size=n:=by
 induction h with
 |mk f hs ha hn=>exact⟨f,_,_,hs,rfl,rfl,ha,hn⟩
theorem QM {g g':Goroutine}{w w':World}{es aJ:Array Event}(h:GStep.go g w es= .go g' w' aJ):g=g'∧w=w':=by
 injection h with U h2 _
 exact⟨U,h2⟩
theorem N2 {f f':Frame}{cs bK:List Frame}(h:G f cs=G f' bK):f=f'∧cs=bK:=by
 unfold G at h;injection h with U h2
 exact⟨U,h2⟩
theorem Hj (B:fV τ P F spec m.good){f' f:Frame}{fs' fs e1:List Frame}{v w:World}(h:FR P spec m f' f)(hs:jC P spec m fs' fs)(hw:WR m v w)(hl:¬(f'.mode= .returning∧fs'=[])){g1:Goroutine}{v1:World}{es:Array Event}
  (bj:stepG (Program.mk (Program.toTables P) F) true (G f' (fs'++e1)) v= .go g1 v1 es):
  ∃f1 fs1,g1=G f1 (fs1++e1)∧∀e2,stepG (Program.mk (Program.toTables P) F) true (G f' (fs'++e2)) v= .go (G f1 (fs1++e2)) v1 es:=by
 have fin:∀{f1:Frame} {fs1:List Frame} {v2:World} {es2:Array Event},(∀e,stepG (Program.mk (Program.toTables P) F) true (G f' (fs'++e)) v= .go (G f1 (fs1++e)) v2 es2)→
   ∃f1 fs1,g1=G f1 (fs1++e1)∧∀e2,stepG (Program.mk (Program.toTables P) F) true (G f' (fs'++e2)) v= .go (G f1 (fs1++e2)) v1 es:=by
  intro f1 fs1 v2 es2 hh;rw[hh e1]at bj;injection bj with U h2 h3
  subst U h2 h3;exact⟨f1,fs1,rfl,hh⟩
 have dead:∀{A:Prop},(∃o w' aJ,stepG (Program.mk (Program.toTables P) F) true (G f' (fs'++e1)) v= .ended o w' aJ)→A:=by
  intro A ⟨o,w',aJ,hh⟩;rw[hh]at bj
  cases bj
 cases h with
 | @mk fn aT tm todo mode eF hg ha ok hm=>
   rcases hm with rfl|rfl
   ·cases todo with
    |nil=>exact fin (f1:=aA fn aT [] .returning) (fs1:=fs') fun e=>stepG_end (b:=aA fn #[] [] .run) (a:=⟨aT,[]⟩)
    |cons i k=>
     have jl:=ok i (by simp)
     cases i with
     |code c=>
      cases c with
      |skip=>exact fin (f1:=aA fn aT k .run) (fs1:=fs') fun e=>stepG_skip (b:=aA fn #[] [] .run) (a:=⟨aT,[]⟩)
      |label l=>exact fin (f1:=aA fn aT k .run) (fs1:=fs') fun e=>stepG_label (b:=aA fn #[] [] .run) (a:=⟨aT,[]⟩)
      |ret=>exact fin (f1:=aA fn aT (.code .ret::k) .returning) (fs1:=fs') (v2:=v) (es2:= #[]) fun e=>by simp[G,aA,stepG,stepG.exec]
      |exit id=>
       cases hx:exitTo id k with
       |none=>exact dead ⟨_,_,_,by simp only[G,aA,stepG,stepG.exec,hx,Option.elim_none];rfl⟩
       |some k'=>exact fin (f1:=aA fn aT k' .run) (fs1:=fs') fun e=>stepG_exit (b:=aA fn #[] [] .run) (a:=⟨aT,[]⟩) hx
      |seq x y=>exact fin (f1:=aA fn aT (.code x:: .code y::k) .run) (fs1:=fs') fun e=>stepG_seq (b:=aA fn #[] [] .run) (a:=⟨aT,[]⟩)
      |block id x=>exact fin (f1:=aA fn aT (.code x:: .inBlock id::k) .run) (fs1:=fs') fun e=>stepG_block (b:=aA fn #[] [] .run) (a:=⟨aT,[]⟩)
      |loop x=>exact fin (f1:=aA fn aT (.code x:: .inLoop x::k) .run) (fs1:=fs') fun e=>stepG_loop (b:=aA fn #[] [] .run) (a:=⟨aT,[]⟩)
      |cond c x y=>
       cases U:Act.eval ⟨aT,[]⟩ c with
       |bool b=>exact fin (f1:=aA fn aT (.code (if b then x else y)::k) .run) (fs1:=fs') fun e=>stepG_cond (b:=aA fn #[] [] .run) (a:=⟨aT,[]⟩) U
       |_=>exact dead (vt (fun b hb=>by rw[U]at hb;cases hb) v)
      |region id ops draw=>
       cases draw with
       |false=>exact fin (f1:=aA fn aT (.inRegion ops (List.range ops.size)::k) .run) (fs1:=fs') fun e=>stepG_region (b:=aA fn #[] [] .run) (a:=⟨aT,[]⟩)
       |true=>exact fin fun e=>jY ..
      |_=>simp[cH,eV]at jl
     |inBlock id=>exact fin (f1:=aA fn aT k .run) (fs1:=fs') fun e=>stepG_inBlock (b:=aA fn #[] [] .run) (a:=⟨aT,[]⟩)
     |inLoop x=>exact fin (f1:=aA fn aT (.code x:: .inLoop x::k) .run) (fs1:=fs') fun e=>stepG_inLoop (b:=aA fn #[] [] .run) (a:=⟨aT,[]⟩)
     |inRegion ops l=>
      cases l with
      |nil=>exact fin (f1:=aA fn aT k .run) (fs1:=fs') fun e=>stepG_region_end (b:=aA fn #[] [] .run) (a:=⟨aT,[]⟩)
      |cons j rest=>
       have skip:((ops[j]?).map (Region.wanted · (yielded ops aT))).getD false=false→∃f1 fs1,g1=G f1 (fs1++e1)∧∀e2,stepG (Program.mk (Program.toTables P) F) true (G (aA fn aT (.inRegion ops (j::rest)::k) .run) (fs'++e2)) v= .go (G f1 (fs1++e2)) v1 es:=by
        intro hn;refine fin (f1:=(aA fn aT (.inRegion ops (j::rest)::k) .run).finish undef) (fs1:=fs') (v2:=v) (es2:= #[]) fun e=>?_;simp only[G,aA,stepG,stepG.exec];exact if_neg (by rw[hn];simp)
       cases ho:ops[j]? with
       |none=>exact skip (by rw[ho];rfl)
       |some o=>
        cases oc:Region.wanted o (yielded ops aT)with
        |false=>exact skip (by rw[ho];exact oc)
        |true=>
         have M_:gG P m.good o.op=true:=by
          simp only[cH]at jl;exact Array.all_eq_true_iff_forall_mem.1 jl o (Array.mem_of_getElem? ho)
         have jD:=qy (F:=F) B.rt B.globals B.fns (ha.oper B.bS) o M_ fun f=>⟨rfl,rfl⟩
         have hr:=yU jD hw;have aS:∀e,stepG (Program.mk (Program.toTables P) F) true (G (aA fn aT (.inRegion ops (j::rest)::k) .run) (fs'++e)) v=stepG.apply (Program.mk (Program.toTables P) F) true (aA fn aT (.inRegion ops (j::rest)::k) .run) (fs'++e) none (execOp (Act.eval ⟨aT,[]⟩) o) v:=
          fun e=>stepG_oper (b:=aA fn #[] [] .run) (a:=⟨aT,[]⟩) ho oc
         have ht:∃rn l k',(aA fn aT (.inRegion ops (j::rest)::k) .run).todo= .inRegion rn l::k':=⟨_,_,_,rfl⟩
         generalize hq:(execOp (Act.eval ⟨aT,[]⟩) o).runT (Program.mk (Program.toTables P) F) v #[]=q at hr;obtain⟨r,es2⟩:=q
         cases r with
         |ok a v2=>
          cases a with
          |value x=>exact fin fun e=>(aS e).trans (hY rfl hq)
          |skip=>exact fin fun e=>(aS e).trans (jk rfl hq)
          |enter f args=>exact fin (fs1:=aA fn aT (.inRegion ops (j::rest)::k) .run::fs') fun e=>(aS e).trans (h_ rfl ht hq)
          |_=>exact hr.elim
         |halt h0 v2=>
          cases h0 with
          |panic x=>exact fin fun e=>(aS e).trans (ia rfl hq)
          |stuck z=>exact dead (by rw[aS];exact iK hq (.inl ⟨z,rfl⟩))
          |unsupported u=>exact dead (by rw[aS];exact iK hq (.inr ⟨u,rfl,hr⟩))
          |_=>exact hr.elim
     |_=>simp[cH]at jl
   ·cases hs with
    |nil=>exact absurd ⟨rfl,rfl⟩ hl
    | @cons c' c dP gs hc Nb dJ=>
      obtain⟨fr,q1,q2,q3⟩:=B.same fn hg eF;generalize hq:(results fr aT).runT (Program.mk (Program.toTables P) F) v #[]=q;obtain⟨r,es2⟩:=q
      cases r with
      |ok a v2=>exact fin (fs1:=dP) fun e=>lu q1 hq
      |halt h0 v2=>exact absurd bj (sX q1 hq _ _ _)
end
section
variable {τ:TypeId}{Q:Program}{spec good:FuncId→Bool}{R Rf:Ending→World→Prop}
theorem Hk (B:fV τ Q Q.funcs spec good)(Ts:∀{n:ao} {f' f:Frame} {fs' fs:List Frame} {v:World},n.good=good→jb Q Q.funcs spec n f' f→jC Q spec n fs' fs→fs'≠[]→¬Ends Q (bk Q Rf) f' (fs'++[cc]) v)(hO:∀w,¬Rf .outgrown w)(hP:∀c w,¬Rf (.panicked c) w){c:Frame}{cs:List Frame}(lV:cs≠[]):
  ∀{f':Frame} {bK:List Frame} {v:World},Ends Q (bk Q Rf) f' bK v→∀{fs':List Frame} {m:ao},bK=fs'++[cc]→m.good=good→FR Q spec m f' f'→jC Q spec m fs' fs'→WR m v v→Ends Q (bk Q R) f' (fs'++c::cs) v→
   ∃x v1 T d,Rf (.returned x) (v1.on T d)∧mY Q (bk Q R) (f',fs'++c::cs,v) (c.finish x,cs,v1):=by
 have VO:∀(f:Frame) (fs:List Frame) (v:World),¬bk Q R f (fs++c::cs) v:=by
  rintro f fs v ⟨h,_⟩;have:=congrArg List.length h
  have hp:0<cs.length:=List.length_pos_iff.2 lV
  simp at this
  omega
 have same:(Program.mk (Program.toTables Q) Q.funcs)=Q:=rfl
 intro f' bK v hI;refine Ends.ind (Q:=Q) (Stop:=bk Q Rf) (C:=fun f' bK v=>∀{fs':List Frame} {m:ao},bK=fs'++[cc]→m.good=good→FR Q spec m f' f'→jC Q spec m fs' fs'→WR m v v→Ends Q (bk Q R) f' (fs'++c::cs) v→
   ∃x v1 T d,Rf (.returned x) (v1.on T d)∧mY Q (bk Q R) (f',fs'++c::cs,v) (c.finish x,cs,v1)) ?_ hI
 intro f' bK v hI ih fs' m VP hg hf pC hw hE;subst VP hg;by_cases hl:f'.mode= .returning∧fs'=[]
 ·obtain⟨hl,rfl⟩:=hl
  obtain⟨x,T,d,r1,r2⟩:=sY B hO hI hf (show WR m (v.on v.tape v.drawn) v from hw) hl
  cases hf with
  | @mk fn aT tm todo mode vP a_ ha ok hm=>
    obtain rfl:mode= .returning:=hl
    obtain⟨fr,e1,e2,e3⟩:=B.same fn a_ vP;have jD:=gJ (F:=Q.funcs) (m:=m) B.rt fr ha;obtain⟨_,_,_,NY,q1,q2⟩:=r2;have uJ:Q.funcs[fn]?=some NY:=q1
    rw[e1]at uJ;obtain rfl:=Option.some.inj uJ
    have NZ:WR m (v.on T d) (v.on T d):=⟨hw.inj,hw.jj,hw.os,rfl,rfl⟩
    obtain⟨zU,hr⟩:=oz (jD.sf NZ) q2 v.tape v.drawn;have bj:stepG Q true (G (aA fn aT todo .returning) (c::cs)) (v.on v.tape v.drawn)= .go (G (c.finish x) cs) v (seen Q fn zU):=lu e1 hr
    obtain⟨g1,g2⟩:=hE.go (VO _ [] _) (.ret e1 (jD.sf (show WR m (v.on v.tape v.drawn) (v.on v.tape v.drawn)from hw))) bj
    exact⟨x,v,T,d,r1,g1,.inr g2⟩
 ·obtain⟨n,f1',f1,fs1',fs1,v1,w1,es,aJ,t1,s1,s2,s3,s4,s5,s6,s7⟩:=qA (e:=c::cs) B hO (fun x w _=>hP _ w) hI hf pC v.tape v.drawn (show WR m (v.on v.tape v.drawn) v from hw) hl true
  obtain⟨f2,fs2,g1,g2⟩:=Hj (e1:=[cc]) B hf pC (show WR m (v.on v.tape v.drawn) (v.on v.tape v.drawn)from hw) hl s1
  obtain⟨a1,a2⟩:=N2 g1;have a3:=List.append_cancel_right a2;subst a1 a3;have g3:=g2 (c::cs);have VQ:stepG Q true (G f' (fs'++c::cs)) (v.on v.tape v.drawn)= .go (G f1 (fs1++c::cs)) w1 es:=s2
  have VS:stepG Q true (G f' (fs'++c::cs)) (v.on v.tape v.drawn)= .go (G f1' (fs1'++c::cs)) v1 aJ:=g3
  rw[VS]at VQ;obtain⟨b1,b2⟩:=QM VQ;obtain⟨b3,b4⟩:=N2 b1;have b5:=List.append_cancel_right b4;subst b2 b3 b5;have qG:FR Q spec n f1' f1':=by
   rcases s3 with s3|s3
   ·exact s3
   ·exact absurd (hI.go (ma B hO hf hl) t1 s1).1 (Ts s6.le.good.symm s3.1 s4 s3.2)
  have ht:gK Q f' (fs'++c::cs) (v.on v.tape v.drawn):=CF B hf pC (show WR m (v.on v.tape v.drawn) v from hw) hl
  obtain⟨k1,k2⟩:=hE.go (VO _ _ _) ht VS;have cG:¬bk Q Rf f' (fs'++[cc]) v:=ma B hO hf hl
  obtain⟨i1,i2⟩:=hI.go cG t1 s1;obtain⟨x,v2,T,d,r1,r2⟩:=ih _ _ _ i2 i1 rfl s6.le.good.symm qG s4 s5 k1;exact⟨x,v2,T,d,r1,mY.trans ⟨k1,.inr k2⟩ r2⟩
end
end Go.Proofs.YtjklkppncmhehaaGreat.Sr
