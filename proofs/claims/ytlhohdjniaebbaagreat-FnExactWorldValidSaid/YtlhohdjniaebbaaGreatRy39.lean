/-
What is proved: the contracts of the question, of asking one group after the other, and of whatever asks, at groups without entries, over the second program. Conditions: those that each theorem states.
-/
import Derived.Test.YtlhohdjniaebbaaGreatRy38
import Derived.Test.YtlhohdjniaebbaaGreatRy25
set_option linter.unusedVariables false
set_option linter.unusedSimpArgs false
namespace Go.Proofs.YtlhohdjniaebbaaGreat
open Go Go.RowKit
def EX (w:World)(a:Addr)(i:Nat):Prop:=w.cell? a=some (.int .i64 (i:Int))∧w.cell? {block:=a.block,off:=a.off+1}=some (.int .i64 0)∧
 (∃A,w.cell? {block:=a.block,off:=a.off+2}=some (.slice A 0 0))∧∃A,w.cell? {block:=a.block,off:=a.off+3}=some (.slice A 0 0)
def CD (w:World)(ga:Addr):Prop:=∀i,i<5→EX w (ga.add (i*4)) i
theorem EX.keep {w w':World}{a:Addr}{i:Nat}(h:EX w a i)(hk:∀q:Addr,q.block=a.block→w'.cell? q=w.cell? q):EX w' a i:=by
 obtain⟨h0,h1,⟨A,h2⟩,A',h3⟩:=h;exact⟨(hk a rfl).trans h0,(hk {block:=a.block,off:=a.off+1} rfl).trans h1,⟨A,(hk {block:=a.block,off:=a.off+2} rfl).trans h2⟩,A',(hk {block:=a.block,off:=a.off+3} rfl).trans h3⟩
theorem CD.keep {w w':World}{ga:Addr}(h:CD w ga)(hk:∀q:Addr,q.block=ga.block→w'.cell? q=w.cell? q):CD w' ga:=
 fun i hi=>(h i hi).keep fun q hq=>hk q (hq.trans (nv _ _))
theorem CD.below {w w':World}{ga:Addr}{B:Nat}(h:CD w ga)(hb:Below B w w')(hg:ga.block<B):CD w' ga:=h.keep fun q hq=>hb.cell (by rw[hq];exact hg)
theorem Rz:(Tw.prog.info? 170).map (fun i=>(i.zero,i.size,i.bytes))=some (some (.agg #[.int .i64 0,.int .i64 0,.int .i64 0,.bool false,.bool false]),5,40):=by kernel_rfl
theorem abG (a:Nat→Sr.eH){cs:Array Value}{n k:Nat}(hz:cs.size=5*n)(hk:k<n)(h:∀i c,i<k→c<5→cs[5*i+c]?=some ((a i).cell c)):
  (((((cs.setIfInBounds (k*5) (.int .i64 (a k).m)).setIfInBounds (k*5+1) (.int .i64 (a k).t)).setIfInBounds (k*5+2) (.int .i64 (a k).g)).setIfInBounds (k*5+3) (.bool (a k).f)).setIfInBounds (k*5+4) (.bool (a k).k)).size=5*n∧
  ∀i c,i<k+1→c<5→(((((cs.setIfInBounds (k*5) (.int .i64 (a k).m)).setIfInBounds (k*5+1) (.int .i64 (a k).t)).setIfInBounds (k*5+2) (.int .i64 (a k).g)).setIfInBounds (k*5+3) (.bool (a k).f)).setIfInBounds (k*5+4) (.bool (a k).k))[5*i+c]?=some ((a i).cell c):=by
 refine⟨by simp[hz],fun i c hi hc=>?_⟩
 simp only[Array.getElem?_setIfInBounds,Array.size_setIfInBounds,hz];by_cases e:i=k
 ·subst e
  match c,hc with
  |0,_=>simp[show i*5=5*i by omega,show 5*i<5*n by omega,Sr.eH.cell]
  |1,_=>simp[show i*5=5*i by omega,show 5*i+1<5*n by omega,Sr.eH.cell]
  |2,_=>simp[show i*5=5*i by omega,show 5*i+2<5*n by omega,Sr.eH.cell]
  |3,_=>simp[show i*5=5*i by omega,show 5*i+3<5*n by omega,Sr.eH.cell]
  |4,_=>simp[show i*5=5*i by omega,show 5*i+4<5*n by omega,Sr.eH.cell]
 ·rw[if_neg (by omega),if_neg (by omega),if_neg (by omega),if_neg (by omega),if_neg (by omega)]
  exact h i c (by omega) hc
theorem xN (z:Array Value)(n:Nat):(madeCells z n).size=n:=by
 simp[madeCells]
set_option maxRecDepth 100000 in
set_option maxHeartbeats 2000000 in
theorem JI (ga:Addr)(gl gc sb so n sc:Nat)(ms:Int)(gs:Nat→Int)(a:Nat→Sr.eH)(v:World)(dz:1≤n)(ng:n≤5)(hs:∀i,i<n→v.cell? ⟨sb,so+i,none⟩=some (.int .i64 (gs i)))
  (hq:∀i,i<n→∀(u:World) (gb mb:Nat),(∀q:Addr,q.block<v.heap.size→u.cell? q=v.cell? q)→u.cell? ⟨gb,0,none⟩=some (.slice (some ga) gl gc)→u.cell? ⟨mb,0,none⟩=some (.int .i64 ms)→
   Calls Tw.prog 187 #[.int .i64 (gs i),.pointer (some ⟨gb,0,none⟩),.pointer (some ⟨mb,0,none⟩)] u fun e w'=>e= .returned (a i).val∧Below u.heap.size u w'):
  Calls Tw.prog Tw.iy #[.slice (some ga) gl gc,.slice (some ⟨sb,so,none⟩) n sc,.int .i64 ms] v fun e w'=>Sr.B9 n a v e w'∧Below v.heap.size v w':=by
 obtain⟨i0,KJ,Ev,hz1,hz2⟩:=info_parts Rz;have HS:=Lib.hid hs;have HQ:=Lib.hid hq;clear hs hq;have EE:∃cs:Array Value,cs.size=5*n∧∀w:World,(Instr.makeSlice 166 (.int .i64 (n:Int)) (.int .i64 (n:Int))).run Tw.prog w= .ok (.slice (some ⟨w.heap.size,0,none⟩) n n) (w.alloc (.cells cs 170)):=by
  refine⟨madeCells (Value.agg #[.int .i64 0,.int .i64 0,.int .i64 0,.bool false,.bool false]).cells (n*5),?_,fun w=>?_⟩
  ·rw[xN];omega
  ·have:=run_make (P:=Tw.prog) (w:=w) 166 170 i0 _ Tw.underlying166 KJ Ev .i64 .i64 (n:Int) (n:Int) (by omega) (by omega) (by rw[hz2];omega) (by omega)
   rw[this,hz1];rfl
 obtain⟨Zd,YE,EE⟩:=EE;have HC:=Lib.hid YE;clear YE;go_enter Tw.R7,Tw.OE
 go_wp2_with (fail)
 go_loopw [8] (fun i wr=>∃k:Nat,k≤n∧i= .int .i64 k∧Below v.heap.size v wr∧ak wr v.heap.size 31 #[.slice (some ga) gl gc]∧ak wr (v.heap.size+1) 3 #[.int .i64 ms]∧
  ∃cs:Array Value,ak wr (v.heap.size+1+1) 170 cs∧cs.size=5*n∧∀i c,i<k→c<5→cs[5*i+c]?=some ((a i).cell c)) (fun i _=>n-(intOf i).toNat)
 case atStart=>
  exact⟨0,by omega,rfl,(((Below.refl _ _).alloc (Nat.le_refl _) _).alloc (by simp) _).alloc (by simp;omega) _,((ak.new _ _ _).alloc _).alloc _,(ak.YA _ _ _ (by simp)).alloc _,Zd,ak.YA _ _ _ (by simp),HC.out,fun i c hi _=>absurd hi (by omega)⟩
 case round=>
  obtain⟨k,hk,rfl,hb,hkg,hkm,cs,hkc,jj,sI⟩:=hrel;have HB:=Lib.hid hb;have KG:=Lib.hid hkg;have KM:=Lib.hid hkm;have KC:=Lib.hid hkc;have HZ:=Lib.hid jj;have HCS:=Lib.hid sI;have hsv:=hb.size;clear hb hkg hkm hkc jj sI;by_cases aj:k<n
  ·have hk0:(0:Int)≤(k:Int):=by omega
   have JK:(k:Int)<(n:Int):=by omega
   have s0:=HS.out k aj;have CR:sb<v.heap.size:=World.block_lt_of_cell? v _ s0
   have s1:wr.cell? {block:=sb,off:=so+k}=some (.int .i64 (gs k)):=(HB.out.cell CR).trans s0
   clear s0;go_wp2_with (fail)
   refine(HQ.out k aj wr v.heap.size (v.heap.size+1) (fun q hq=>HB.out.cell hq) (KG.out.cell 0) (KM.out.cell 0)).mono ?_
   rintro e w2 ⟨he,Vt⟩;rw[show(a k).val=Value.agg #[.int .i64 (a k).m,.int .i64 (a k).t,.int .i64 (a k).g,.bool (a k).f,.bool (a k).k]from rfl]at he
   subst he;have K2:=Lib.hid (we KC.out Vt);have KG2:=Lib.hid (we KG.out Vt);have KM2:=Lib.hid (we KM.out Vt);have HB2:=Lib.hid (HB.out.trans (Vt.mono hsv));clear Vt;have hz:=HZ.out;obtain⟨y0,x0⟩:∃y,w2.cell? {block:=v.heap.size+1+1,off:=k*5}=some y:=⟨_,(K2.out.cell _).trans (Array.getElem?_eq_getElem (by omega))⟩
   obtain⟨y1,x1⟩:∃y,w2.cell? {block:=v.heap.size+1+1,off:=k*5+1}=some y:=⟨_,(K2.out.cell _).trans (Array.getElem?_eq_getElem (by omega))⟩
   obtain⟨y2,x2⟩:∃y,w2.cell? {block:=v.heap.size+1+1,off:=k*5+2}=some y:=⟨_,(K2.out.cell _).trans (Array.getElem?_eq_getElem (by omega))⟩
   obtain⟨y3,x3⟩:∃y,w2.cell? {block:=v.heap.size+1+1,off:=k*5+3}=some y:=⟨_,(K2.out.cell _).trans (Array.getElem?_eq_getElem (by omega))⟩
   obtain⟨y4,x4⟩:∃y,w2.cell? {block:=v.heap.size+1+1,off:=k*5+4}=some y:=⟨_,(K2.out.cell _).trans (Array.getElem?_eq_getElem (by omega))⟩
   clear hz;have f2:=K2.out.frozen;go_wp2_with (fail)
   refine⟨⟨k+1,by omega,by go_num,?_,?_,?_,_,(((((K2.out.Jr _ _).Jr _ _).Jr _ _).Jr _ _).Jr _ _),abG a HZ.out aj HCS.out⟩,by simp[intOf];omega⟩
   ·exact(((((HB2.out.setCell (by simp;omega) _).setCell (by simp;omega) _).setCell (by simp;omega) _).setCell (by simp;omega) _).setCell (by simp;omega) _)
   ·exact(((((KG2.out.Bw (by simp;omega) _).Bw (by simp;omega) _).Bw (by simp;omega) _).Bw (by simp;omega) _).Bw (by simp;omega) _)
   ·exact(((((KM2.out.Bw (by simp) _).Bw (by simp) _).Bw (by simp) _).Bw (by simp) _).Bw (by simp) _)
  ·obtain rfl:k=n:=by omega
   go_wp2_with (fail)
   go_ret
   exact⟨⟨v.heap.size+1+1,rfl,by omega,⟨cs,KC.out,HZ.out,HCS.out⟩,HB.out.block,HB.out.os⟩,HB.out⟩
structure Aj (ga:Addr) (gl gc sb so n:Nat) (ms:Int) (gs:Nat→Int) (a:Nat→Sr.eH) (v:World):Prop where
 n1:1≤n
 n5:n≤5
 gl1:0<gl
 set:∀i,i<n→v.cell? ⟨sb,so+i,none⟩=some (.int .i64 (gs i))
 ask:∀i,i<n→∀(u:World) (gb mb:Nat),(∀q:Addr,q.block<v.heap.size→u.cell? q=v.cell? q)→u.cell? ⟨gb,0,none⟩=some (.slice (some ga) gl gc)→u.cell? ⟨mb,0,none⟩=some (.int .i64 ms)→
    Calls Tw.prog 187 #[.int .i64 (gs i),.pointer (some ⟨gb,0,none⟩),.pointer (some ⟨mb,0,none⟩)] u fun e w'=>e= .returned (a i).val∧Below u.heap.size u w'
theorem cell_of_heap {v w:World}(h:v.heap=w.heap)(q:Addr):v.cell? q=w.cell? q:=World.cell?_of_block (by rw[h])
theorem Aj.heap {ga:Addr}{gl gc sb so n:Nat}{ms:Int}{gs:Nat→Int}{a:Nat→Sr.eH}{v w:World}(h:Aj ga gl gc sb so n ms gs a v)(he:w.heap=v.heap):Aj ga gl gc sb so n ms gs a w:=
 ⟨h.n1,h.n5,h.gl1,fun i hi=>(cell_of_heap he _).trans (h.set i hi),fun i hi u gb mb hu h1 h2=>h.ask i hi u gb mb (fun q hq=>(hu q (by rw[he];exact hq)).trans (cell_of_heap he q)) h1 h2⟩
theorem Aj.ok {ga:Addr}{gl gc sb so n:Nat}{sc:Nat}{ms:Int}{gs:Nat→Int}{a:Nat→Sr.eH}{v:World}(h:Aj ga gl gc sb so n ms gs a v):
  Sr.zc #[.slice (some ga) gl gc,.slice (some ⟨sb,so,none⟩) n sc,.int .i64 ms] v.heap:=
 ⟨ga,gl,gc,sb,so,sc,n,ms,gs,a,rfl,h.n1,h.n5,h.gl1,fun w hw=>⟨(h.heap hw).set,fun i hi u gb mb hu h1 h2=>((h.heap hw).ask i hi u gb mb hu h1 h2).mono fun e w' q=>q.1,
  (JI ga gl gc sb so n sc ms gs a w h.n1 h.n5 (h.heap hw).set (h.heap hw).ask).mono fun e w' q=>q.1⟩⟩
set_option maxRecDepth 100000 in
set_option maxHeartbeats 2000000 in
theorem Vu (ga:Addr)(gl gc sb so n sc:Nat)(ms:Int)(gs:Nat→Int)(a:Nat→Sr.eH)(v:World)(h:Aj ga gl gc sb so n ms gs a v):
  Calls Tw.prog 147 #[.slice (some ga) gl gc,.slice (some ⟨sb,so,none⟩) n sc,.int .i64 ms] v fun e w'=>(Sr.B9 n a v e w'∧Below v.heap.size v w')∨Sr.ZM e w':=by
 have HA:=Lib.hid h;clear h;go_enter Tw.yc,Tw.OD
 go_wp2_with (fail)
 go_region
 ·go_wp2_with (fail)
  refine(JI ga gl gc sb so n sc ms gs a v.drew HA.out.n1 HA.out.n5 (HA.out.heap (w:=v.drew) rfl).set (HA.out.heap (w:=v.drew) rfl).ask).mono ?_;rintro e w' ⟨⟨B,rfl,h1,h2,h3,h4⟩,hb⟩;have HE:Hid (Sr.B9 n a v (.returned (.slice (some ⟨B,0,none⟩) n n)) w'∧Below v.heap.size v w'):=Lib.hid ⟨⟨B,rfl,h1,h2,h3,h4⟩,(Below.refl _ _).drew.trans hb⟩
  clear h1 h2 h3 h4 hb;go_wp2
  go_ret
  exact .inl HE.out
 ·have hp:∀(t:TypeId) (x:Value) (w:World),(Instr.panic (.iface t x)).run Tw.prog w= .halt (.panic (.iface t x)) w:=by
   intros
   simp[Instr.panic,go_sem]
  go_wp2_with (fail)
  exact⟨rfl,Or.inr (Or.inl ⟨_,rfl,(HA.out.heap (w:=v.drew) rfl).ok⟩)⟩
end Go.Proofs.YtlhohdjniaebbaaGreat
