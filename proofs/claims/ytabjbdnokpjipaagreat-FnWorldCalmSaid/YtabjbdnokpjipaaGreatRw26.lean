/-
What is proved: the end of the function that locks in the second program, reckoned by and what rests on it. Conditions: as stated.
-/
import Derived.Test.YtabjbdnokpjipaaGreatRw25
import Derived.Test.YtabjbdnokpjipaaGreatRw02
set_option linter.unusedVariables false
set_option linter.unusedSimpArgs false
namespace Go.Proofs.YtabjbdnokpjipaaGreat.Sr
open Go Go.Conc
def qp (a b c d e f:Value)(r:Nat)(ts:List Value):Array Value:=⟨a::b::c::d::e::f:: .pointer (some ⟨r,0,none⟩)::ts⟩
theorem aaA {tm:Array Value}{r:Nat}(h:tm.getD GU undef= .pointer (some ⟨r,0,none⟩)):∃a b c d e f ts,tm=qp a b c d e f r ts:=by
 obtain⟨l⟩:=tm;match l,h with
 |a::b::c::d::e::f::g::ts,h=>
  have h':g= .pointer (some ⟨r,0,none⟩):=h
  exact⟨a,b,c,d,e,f,ts,by rw[h'];rfl⟩
noncomputable def Ya (tm:Array Value) (cs:List Frame):Goroutine:=G (aW bE tm [.code B7] .run) cs
noncomputable def Il (a b c d e f:Value) (r:Nat) (ts:List Value) (cs:List Frame):Goroutine:=aR Tw.prog 2 (Ya (qp a b c d e f r ts) cs)
noncomputable def rj (a b c d e f:Value) (r:Nat) (ts:List Value) (cs:List Frame) (v:Value):Goroutine:=bm (Il a b c d e f r ts cs) v
noncomputable def CJ (a b c d e f:Value) (r:Nat) (ts:List Value) (cs:List Frame):Goroutine:=aR Tw.prog 4 (rj a b c d e f r ts cs (.int .i32 1))
noncomputable def Mu (a b c d e f:Value) (r:Nat) (ts:List Value) (cs:List Frame):Goroutine:=bm (CJ a b c d e f r ts cs) undef
noncomputable def RD (a b c d e f:Value) (r:Nat) (ts:List Value) (cs:List Frame):Sem Next:=(cN Tw.prog (Il a b c d e f r ts cs)).getD (.pure .skip)
noncomputable def abq (a b c d e f:Value) (r:Nat) (ts:List Value) (cs:List Frame) (v:Value):Sem Next:=(cN Tw.prog (rj a b c d e f r ts cs v)).getD (.pure .skip)
noncomputable def Mw (a b c d e f:Value) (r:Nat) (ts:List Value) (cs:List Frame):Sem Next:=(cN Tw.prog (CJ a b c d e f r ts cs)).getD (.pure .skip)
def pt:Array Oper:=match B7 with
 | .seq (.region _ ops _) _=>ops
 |_=> #[]
def FK:Code:=match B7 with
 | .seq _ c=>c
 |_=> .skip
def Yb (v:Value):Bool:=match v with
 | .int .i32 _=>true
 |_=>false
section
variable(a b c d e f:Value)(r:Nat)(ts:List Value)(cs ds:List Frame)(c1 c2:Frame)(n:Int)
set_option maxRecDepth 100000
theorem Qq:iA Tw.prog 2 (Ya (qp a b c d e f r ts) cs)=true:=by kernel_rfl
theorem RE:Il a b c d e f r ts cs=G (aW bE (qp a b c d e f r ts) [.inRegion pt [0,1],.code FK] .run) cs:=by kernel_rfl
theorem aaB:∃o,pt[0]?=some o∧Region.wanted o (yielded pt (qp a b c d e f r ts))=true∧∀good,jl Tryz.prog good o.op=true:=⟨_,rfl,by kernel_rfl,by intros;kernel_rfl⟩
theorem Mx:cN Tw.prog (Il a b c d e f r ts cs)=some (RD a b c d e f r ts cs):=by kernel_rfl
theorem My (w:World):(RD a b c d e f r ts cs).runT Tw.prog w #[]=(Sem.load .plain ⟨r,0,none⟩ fun x=> .pure (Next.value x)).runT Tw.prog w #[]:=by kernel_rfl
theorem Mz (v:Value):xV (rj a b c d e f r ts cs v)=true:=by kernel_rfl
theorem Yc (v:Value):cN Tw.prog (rj a b c d e f r ts cs v)=some (abq a b c d e f r ts cs v):=by kernel_rfl
theorem Yd {v:Value}(h:Yb v=false):Rz Tw.prog (abq a b c d e f r ts cs v)=true:=by
 cases v with
 |int k n=>
  cases k with
  |i32=>cases h
  |_=>kernel_rfl
 |pointer p=>cases p<;>kernel_rfl
 |_=>kernel_rfl
theorem Ye:cn Tw.prog (rj a b c d e f r ts cs (.int .i32 n))=some (bm (rj a b c d e f r ts cs (.int .i32 n)) (.bool (n==1)),#[]):=by kernel_rfl
theorem aaC:iA Tw.prog 3 (bm (rj a b c d e f r ts cs (.int .i32 n)) (.bool false))=true:=by kernel_rfl
theorem MA:aR Tw.prog 3 (bm (rj a b c d e f r ts cs (.int .i32 n)) (.bool false))=G (aW bE (qp a b c d (.int .i32 n) (.bool false) r ts) [.code .skip,.inLoop .skip] .run) cs:=by kernel_rfl
theorem MB:xV (CJ a b c d e f r ts cs)=true:=by kernel_rfl
theorem CK:cN Tw.prog (CJ a b c d e f r ts cs)=some (Mw a b c d e f r ts cs):=by kernel_rfl
theorem Yf:fY Tw.prog (.int .i32 1) none (Mw a b c d e f r ts cs) #[]=some ⟨.skip,#[⟨.cell ⟨r,0,none⟩,true,false⟩],[⟨r,0,none⟩],[],some (⟨r,0,none⟩,.int .i32 0)⟩:=by kernel_rfl
theorem Yg (w:World):(Mw a b c d e f r ts cs).runT Tw.prog w #[]=(Sem.store .plain ⟨r,0,none⟩ (.int .i32 0) (.pure Next.skip)).runT Tw.prog w #[]:=by kernel_rfl
theorem aaD (w:World):SF Tw.prog (Mw a b c d e f r ts cs) w=SF Tw.prog (Sem.store .plain ⟨r,0,none⟩ (.int .i32 0) (.pure Next.skip)) w:=by kernel_rfl
theorem Yh:iA Tw.prog 2 (Mu a b c d e f r ts cs)=true:=by kernel_rfl
theorem Yi:aR Tw.prog 2 (Mu a b c d e f r ts cs)=G (aW bE (qp a b c d (.int .i32 1) (.bool true) r ts) [] .returning) cs:=by kernel_rfl
theorem Ak (tm:Array Value)(w:World)(es:Array Event):(results Tw.GD tm).runT Tw.prog w es=(.ok (.tuple #[]) w,es):=by kernel_rfl
theorem Qr:iA Tw.prog 4 (rj a b c d e f r ts cs (.int .i32 1))=true:=by kernel_rfl
theorem Qs:iA Tw.prog 3 (Mu a b c d e f r ts (c1::c2::ds))=true:=by kernel_rfl
theorem Yj:aR Tw.prog 3 (Mu a b c d e f r ts (c1::c2::ds))=G (c1.finish (.tuple #[])) (c2::ds):=by kernel_rfl
end
end Go.Proofs.YtabjbdnokpjipaaGreat.Sr
namespace Go.Proofs.YtabjbdnokpjipaaGreat.Sr
open Go Go.Conc Go.ConcN
section
variable {P:Program}{Q:Gh→World→Trace→Nat→Outcome→World→Prop}{d:Nat}{γ:Gh}{w:World}{g g':Goroutine}{es:Array Event}{r:Nat}
theorem MC {j B o:Nat}{wr sy:Bool}(hn:γ.ph=none)(h0:∀k b,¬γ.ow k b∧¬γ.ro k b)(hs:¬γ.sh r)(hB:r<B):vk γ j B ⟨.cell ⟨r,o,none⟩,wr,sy⟩:=by
 refine⟨fun x hx=> .inr ?_,hB,nofun⟩
 have e:=(Option.some.inj hx).symm;have el:x.loc= .cell ⟨r,o,none⟩:=by rw[e]
 refine⟨?_,fun k _ _ hk=>?_,fun _ k _ _ hk=>?_⟩
 ·rintro⟨a,ha,h1⟩
  rw[ha]at el;injection el with el
  rw[el]at h1;exact hs h1
 ·rcases hk with⟨b',_,hk⟩|⟨a,_,p,hp,_⟩
  ·exact(h0 k b').1 hk
  ·rw[hn]at hp;cases hp
 ·obtain⟨b',_,hk⟩:=hk
  exact(h0 k b').2 hk
theorem zk (h:cn P g=some (g',es))(hn:γ.ph=none)(bh:∀j,∀e∈es,vk γ j w.heap.size e)(K:∀w',w'.heap=w.heap→bG w w'→MP (sys P) Q false (deafBehind d es) γ w' g'):MP (sys P) Q false d γ w g:=
 .said h fun γ1 w1 t j hr hJ hd=>by
  obtain⟨e0,e,s⟩:=jo hn hr;subst e0;obtain⟨a1,a2⟩:=tN (fn:=g.frame.fn) (pos:=g.frame.place) (es:=es) hJ (by rw[e];exact bh j)
  exact⟨_,false,a1,a2,K w1 e s⟩
theorem qq {w w1:World}(h:w1.heap=w.heap)(o:Option (Addr×Value)):(e_ w1 o).heap=(e_ w o).heap:=by
 cases o with
 |none=>exact h
 |some p=>unfold e_ World.setCell;simp only[h]
theorem RF (w:World)(o:Option (Addr×Value)):bG w (e_ w o):=by
 cases o with
 |none=>exact⟨rfl,rfl,rfl⟩
 |some p=>exact⟨rfl,rfl,rfl⟩
theorem MD (w:World)(o:Option (Addr×Value)):(e_ w o).heap.size=w.heap.size:=by
 cases o with
 |none=>rfl
 |some p=>exact cA
theorem ME {v:Value}{sh:Option (TypeId×Nat)}{y:OC Goroutine}(h:bF P v sh g=some y)(hn:γ.ph=none)(hs:¬γ.sh r)(aZ:∀a x,y.bp=some (a,x)→a.block=r)(hl:∀a∈y.ls,w.cell? a=some v∧w.frozen? a=false)(hq:∀b∈y.rs,w.shape? b=sh)
  (bh:∀j,(∀k b,¬γ.ow k b∧¬γ.ro k b)→∀e∈y.es,vk γ j w.heap.size e) (K:∀w',w'.heap=(e_ w y.bp).heap→bG w w'→MP (sys P) Q false (deafBehind d y.es) γ w' y.x):MP (sys P) Q false d γ w g:=
 .vm (vS h).1 fun γ1 w1 t j hr hJ hd=>by
  obtain⟨e0,e,s⟩:=jo hn hr;subst e0;obtain⟨x1,x2,x3⟩:=hJ.none hn;have hz:=MD w1 y.bp;obtain⟨a1,a2⟩:=ze (w1:=e_ w1 y.bp) (fn:=g.frame.fn) (pos:=g.frame.place) (es:=y.es) hJ (RF _ _) (Nat.le_of_eq hz.symm) (fun b _ hh=>by
    have hb:b≠r:=by
     rintro rfl;rcases hh with⟨k,hk⟩|hk|⟨p,hp,_⟩
     ·exact hk.elim (x1 k b).1 (x1 k b).2
     ·exact hs hk
     ·rw[hn]at hp;cases hp
    cases ho:y.bp with
    |none=>rfl
    |some p=>
     obtain⟨⟨ab,ao,aq⟩,x⟩:=p;have:=aZ _ _ ho
     show(w1.setCell _ x).heap[b]?=_
     exact lT b (by rw[show ab=r from this];exact hb)) (by rw[hz,e];exact bh j x1)
  refine⟨v,sh,y,_,false,h,fun a ha=>?_,fun b hb=>?_,a1,a2,K _ (qq e _) (s.trans (RF _ _))⟩
  ·have:=hl a ha
   unfold World.cell? World.frozen? at this⊢;rw[e];exact this
  ·have:=hq b hb
   unfold World.shape? at this⊢;rw[e];exact this
theorem Qt {w:World}{a:Addr}{x:Value}{b:Nat}{s:TypeId×Nat}(h:w.shape? b=some s):(w.setCell a x).shape? b=some s:=by
 unfold World.shape? World.setCell at*;simp only[Array.getElem?_modify];by_cases hc:a.block=b
 ·rw[if_pos hc]
  cases ho:w.heap[b]? with
  |none=>rw[ho]at h;cases h
  |some o=>
   rw[ho]at h
   cases o with
   |cells c el fz=>
    rw[←h];show some (el,(if a.spot.isSome then c else c.setIfInBounds a.off x).size)=some (el,c.size)
    split
    ·rfl
    ·rw[Array.size_setIfInBounds]
   |_=>cases h
 ·rw[if_neg hc];exact h
theorem kG {w w1:World}(h:w1.heap=w.heap)(b:Nat):w1.shape? b=w.shape? b:=by
 unfold World.shape?;rw[h]
theorem fP {w w1:World}(h:w1.heap=w.heap)(a:Addr):w1.cell? a=w.cell? a∧w1.frozen? a=w.frozen? a:=by
 unfold World.cell? World.frozen?;rw[h];exact⟨rfl,rfl⟩
end
section
variable {Q:Gh→World→Trace→Nat→Outcome→World→Prop}{γ:Gh}{w:World}{r:Nat}{c:Frame}{cs:List Frame}
theorem UX {e:TypeId}{n:Nat}(hn:γ.ph=none)(hs:¬γ.sh r)(hB:r<w.heap.size)(hc:w.cell? ⟨r,0,none⟩=some (.int .i32 0)∧w.frozen? ⟨r,0,none⟩=false)(hq:w.shape? r=some (e,n+1))
  (K:∀w',w'.heap=(w.setCell ⟨r,0,none⟩ (.int .i32 1)).heap→bG w w'→MP (sys Tryz.prog) Q false 0 γ w' (kM c cs)):MP (sys Tryz.prog) Q false 0 γ w (lk0 Tryz.prog r c cs):=by
 refine bY (n:=6) (UE r c cs) hn fun w1 e1 s1=>?_;refine zk (XU r c cs) hn (fun j e he=>by simp at he;subst he;exact gG rfl) fun w2 e2 s2=>?_
 refine bY (n:=6) (UF r c cs) hn fun w3 e3 s3=>?_;have h3:w3.heap=w.heap:=e3.trans (e2.trans e1)
 have h3z:r<w3.heap.size:=by rw[h3];exact hB
 refine ME (r:=r) (XV r c cs e (n+1)) hn hs (fun a x h=>by cases h;rfl) (fun a ha=>?_) (fun b hb=>?_) (fun j h0 e he=>?_) fun w4 e4 s4=>?_
 ·have:a=⟨r,0,none⟩:=by simpa using ha
  subst this;rw[(fP h3 _).1,(fP h3 _).2];exact hc
 ·have:b=r:=by simpa using hb
  subst this;rw[kG h3];exact hq
 ·simp at he
  rcases he with rfl|rfl<;>exact MC hn h0 hs h3z
 have h4:w4.heap=(w.setCell ⟨r,0,none⟩ (.int .i32 1)).heap:=e4.trans (qq h3 (some (⟨r,0,none⟩,.int .i32 1)))
 have h4z:w4.heap.size=w.heap.size:=by rw[h4];exact cA
 refine bY (n:=5) (UG r c cs) hn fun w5 e5 s5=>?_;refine zk (aaw r c cs) hn (fun j e he=>by simp at he;subst he;exact gG rfl) fun w6 e6 s6=>?_
 refine bY (n:=2) (UH r c cs) hn fun w7 e7 s7=>?_;have h7:w7.heap=w4.heap:=e7.trans (e6.trans e5)
 refine ME (r:=r) (UI r c cs e n) hn hs (fun a x h=>by cases h) (fun a ha=>by cases ha) (fun b hb=>?_) (fun j h0 e he=>by simp at he) fun w8 e8 s8=>?_
 ·have:b=r:=by simpa using hb
  subst this;rw[kG h7,kG h4];exact Qt hq
 obtain⟨es,h9,rfl⟩:=XW r c cs;have h8:w8.heap=w4.heap:=e8.trans h7
 refine zk h9 hn (fun j e he=>?_) fun w9 e9 s9=>?_
 ·simp at he
  subst he;refine⟨fun x hx=>(by cases hx),?_,nofun⟩
  show r<_
  rw[h8,h4z];exact hB
 refine bY (n:=5) (UJ r c cs) hn fun wA eA sA=>?_;rw[XX];exact K wA (eA.trans (e9.trans (h8.trans h4))) (((((((((s1.trans s2).trans s3).trans s4).trans s5).trans s6).trans s7).trans s8).trans s9).trans sA)
theorem MF {e:TypeId}{n:Nat}(hn:γ.ph=none)(hs:¬γ.sh r)(hB:r<w.heap.size)(hc:w.cell? ⟨r,0,none⟩=some (.int .i32 1)∧w.frozen? ⟨r,0,none⟩=false)(hq:w.shape? r=some (e,n+1))(hm:c.mode= .returning)
  (K:∀w',w'.heap=(w.setCell ⟨r,0,none⟩ (.int .i32 0)).heap→bG w w'→MP (sys Tryz.prog) Q false 0 γ w' (ukR c cs)):MP (sys Tryz.prog) Q false 0 γ w (uk0 Tryz.prog r .deferred c cs):=by
 obtain⟨c',rfl⟩:∃c':Frame,c={c' with mode:= .returning}:=⟨c,by rw[←hm]⟩
 refine bY (n:=11) (UK r _ cs) hn fun w1 e1 s1=>?_;refine ME (r:=r) (aax r _ cs) hn hs (fun a x h=>by cases h) (fun a ha=>?_) (fun b hb=>by cases hb) (fun j h0 e he=>by simp at he) fun w2 e2 s2=>?_
 ·have:a=⟨r,0,none⟩:=by simpa using ha
  subst this;rw[(fP e1 _).1,(fP e1 _).2];exact hc
 refine bY (n:=3) (UL r _ cs) hn fun w3 e3 s3=>?_;have h3:w3.heap=w.heap:=e3.trans (e2.trans e1)
 refine ME (r:=r) (UM r _ cs e n) hn hs (fun a x h=>by cases h) (fun a ha=>by cases ha) (fun b hb=>?_) (fun j h0 e he=>by simp at he) fun w4 e4 s4=>?_
 ·have:b=r:=by simpa using hb
  subst this;rw[kG h3];exact hq
 have h4:w4.heap=w.heap:=e4.trans h3
 refine zk (XY r _ cs) hn (fun j e he=>?_) fun w5 e5 s5=>?_
 ·simp at he
  subst he;refine⟨fun x hx=>(by cases hx),?_,nofun⟩
  show r<_
  rw[h4];exact hB
 refine bY (n:=1) (UN r _ cs) hn fun w6 e6 s6=>?_;refine zk (XZ r _ cs) hn (fun j e he=>by simp at he;subst he;exact gG rfl) fun w7 e7 s7=>?_
 refine bY (n:=5) (UO r _ cs) hn fun w8 e8 s8=>?_;have h8:w8.heap=w.heap:=e8.trans (e7.trans (e6.trans (e5.trans h4)))
 have h8z:r<w8.heap.size:=by rw[h8];exact hB
 refine ME (r:=r) (X0 r _ cs) hn hs (fun a x h=>by cases h;rfl) (fun a ha=>?_) (fun b hb=>by cases hb) (fun j h0 e he=>?_) fun w9 e9 s9=>?_
 ·have:a=⟨r,0,none⟩:=by simpa using ha
  subst this;rw[(fP h8 _).1,(fP h8 _).2];exact hc
 ·simp at he
  rcases he with rfl|rfl<;>exact MC hn h0 hs h8z
 have h9:w9.heap=(w.setCell ⟨r,0,none⟩ (.int .i32 0)).heap:=e9.trans (qq h8 (some (⟨r,0,none⟩,.int .i32 0)))
 refine bY (n:=10) (UP r _ cs) hn fun wA eA sA=>?_;refine zk (X1 r _ cs) hn (fun j e he=>by simp at he;subst he;exact gG rfl) fun wB eB sB=>?_
 refine bY (n:=5) (Qm r c' cs) hn fun wC eC sC=>?_;rw[UQ];exact K wC (eC.trans (eB.trans (eA.trans h9))) (((((((((((s1.trans s2).trans s3).trans s4).trans s5).trans s6).trans s7).trans s8).trans s9).trans sA).trans sB).trans sC)
set_option maxRecDepth 100000
theorem EK (tm:Array Value)(c:Frame)(cs:List Frame):mute Tryz.prog 1 (ukR {fn:=bE,tmps:=tm,todo:=[],defers:=[],mode:= .returning,kind:= .normal} (c::cs))=true:=by kernel_rfl
theorem Yk (tm:Array Value)(c:Frame)(cs:List Frame):aR Tryz.prog 1 (ukR {fn:=bE,tmps:=tm,todo:=[],defers:=[],mode:= .returning,kind:= .normal} (c::cs))=kM c cs:=by kernel_rfl
theorem Yl {e:TypeId}{n:Nat}{tm:Array Value}(hn:γ.ph=none)(hs:¬γ.sh r)(hB:r<w.heap.size)(hc:w.cell? ⟨r,0,none⟩=some (.int .i32 1)∧w.frozen? ⟨r,0,none⟩=false)(hq:w.shape? r=some (e,n+1))
  (K:∀w',w'.heap=(w.setCell ⟨r,0,none⟩ (.int .i32 0)).heap→bG w w'→MP (sys Tryz.prog) Q false 0 γ w' (kM c cs)):MP (sys Tryz.prog) Q false 0 γ w {frame:={fn:=bE,tmps:=tm,todo:=[],defers:=[xx r],mode:= .run,kind:= .normal},callers:=c::cs,status:= .running,dying:=none}:=by
 refine bY (n:=1) (UR r (c::cs) tm) hn fun w1 e1 s1=>?_;rw[Ms];refine MF hn hs (by rw[e1];exact hB) (by rw[(fP e1 _).1,(fP e1 _).2];exact hc) (by rw[kG e1];exact hq) rfl fun w2 e2 s2=>?_
 refine bY (n:=0) (EK tm c cs) hn fun w3 e3 s3=>?_;rw[Yk];exact K w3 (e3.trans (e2.trans (qq e1 (some (⟨r,0,none⟩,.int .i32 0))))) ((s1.trans s2).trans s3)
theorem Qu {e:TypeId}{n:Nat}{b x:Value}(hn:γ.ph=none)(hs:¬γ.sh r)(hB:r<w.heap.size)(hc:w.cell? ⟨r,0,none⟩=some (.int .i32 0)∧w.frozen? ⟨r,0,none⟩=false)(hq:w.shape? r=some (e,n+1))
  (K:∀w',w'.heap=(w.setCell ⟨r,0,none⟩ (.int .i32 1)).heap→bG w w'→MP (sys Tryz.prog) Q false 0 γ w' {frame:={fn:=bE,tmps:=qn r b x,todo:=[.code Tw.Ee],defers:=[xx r],mode:= .run,kind:= .normal},callers:=cs,status:= .running,dying:=none}):MP (sys Tryz.prog) Q false 0 γ w (aq2 r b x cs):=by
 refine bY (n:=6) (UT r b x cs) hn fun w1 e1 s1=>?_;rw[UU];refine UX hn hs (by rw[e1];exact hB) (by rw[(fP e1 _).1,(fP e1 _).2];exact hc) (by rw[kG e1];exact hq) fun w2 e2 s2=>?_
 refine bY (n:=7) (UW r b x cs) hn fun w3 e3 s3=>?_;have h4:=aay r b x cs;unfold aq4 at h4;rw[h4];exact K w3 (e3.trans (e2.trans (qq e1 (some (⟨r,0,none⟩,.int .i32 1))))) ((s1.trans s2).trans s3)
end
end Go.Proofs.YtabjbdnokpjipaaGreat.Sr
namespace Go.Proofs.YtabjbdnokpjipaaGreat.Sr
open Go Go.Conc Go.ConcN
noncomputable def Qv (good:FuncId→Bool):Bool:=cZ Tryz.prog good false (.code Tw.Ee)
section
variable {spec good:FuncId→Bool}{N0:Nat}{w0:World}{Q:Gh→World→Trace→Nat→Outcome→World→Prop}
set_option maxRecDepth 100000
theorem Ym (a b:Value)(cs:List Frame):xV (X2 a b cs)=true:=by kernel_rfl
theorem Yn (r:Nat)(b x:Value)(cs:List Frame):xV (X3 r b x cs)=true:=by kernel_rfl
theorem CL {w:World}{a:Addr}{o:Obj}(h:a.block<w.heap.size){w1:World}(e:w1.heap=w.heap.push o):w1.cell? a=w.cell? a∧w1.frozen? a=w.frozen? a∧w1.shape? a.block=w.shape? a.block:=by
 have hh:w1.heap[a.block]?=w.heap[a.block]?:=by rw[e,Array.getElem?_push,if_neg (by omega)]
 unfold World.cell? World.frozen? World.shape?;rw[hh];exact⟨rfl,rfl,rfl⟩
theorem FL {w:World}{r:Nat}{x:Value}{us:Array Value}{e:TypeId}{fz:Nat×Nat}(h:w.heap[r]?=some (.cells us e fz))(hc:w.cell? ⟨r,0,none⟩=some x):∃n,w.shape? r=some (e,n+1):=by
 have h0:us[0]?=some x:=by
  unfold World.cell? at hc;simpa[h]using hc
 have ak:=(Array.getElem?_eq_some_iff.1 h0).1;refine⟨us.size-1,?_⟩;unfold World.shape?;simp only[h];rw[show us.size-1+1=us.size from by omega]
theorem AR.aaE {m:aJ}(n:Nat):AR m (Array.replicate n undef) (Array.replicate n undef):=⟨rfl,fun i h1 h2=>by rw[Array.getElem_replicate];exact .undef⟩
theorem Yo (r:Nat)(b x:Value):(qn r b x).getD GU undef= .pointer (some ⟨r,0,none⟩):=by kernel_rfl
theorem Yp {m:aJ}{r t:Nat}{b b' x x':Value}(h:m r=some t)(hb:VR m b b')(hx:VR m x x'):AR m (qn r b x) (qn t b' x'):=by
 have hp:VR m (.pointer (some ⟨r,0,none⟩)) (.pointer (some ⟨t,0,none⟩)):= .ptr ⟨h,rfl,rfl,rfl⟩
 unfold qn;refine AR.append ?_ (AR.aaE _);exact((((((((((AR.nil.push hp).push hb).push .undef).push hx).push hp).push hp).push hp).push .undef).push hp).push hp).push hp
theorem aaF (B:ia nQ Tryz.prog Tw.prog.funcs spec good)(hk:Qv good=true){us vs:Array Value}{fs' fs:List Frame}{m:aJ}{γ:Gh}{w v:World}(ko:spec bE=true)(hg:m.good=good)(vh:AR m us vs)(kq:∀n,c_ bE=some n→us.size=n)(hs:jO Tryz.prog spec m fs' fs)(cf:fs'≠[])(hw:WR m (v.on w.tape w.drawn) w)(hM:MI N0 m v w0 γ w)(hE:Ends Tw.prog (a_ Tw.prog ig) (Frame.enter Tw.prog bE us .normal) (fs'++[bH]) v)
  (K:∀{n:aJ} {f1' f1:Frame} {v1 w1:World} {γ1:Gh},lL Tw.prog (a_ Tw.prog ig) (Frame.enter Tw.prog bE us .normal,fs'++[bH],v) (f1',fs'++[bH],v1)→Ends Tw.prog (a_ Tw.prog ig) f1' (fs'++[bH]) v1→n.good=good→FR Tryz.prog spec n f1' f1→jO Tryz.prog spec n fs' fs→WR n (v1.on w1.tape w1.drawn) w1→MI N0 n v1 w0 γ1 w1→MP (sys Tryz.prog) Q false 0 γ1 w1 (G f1 fs)):
  MP (sys Tryz.prog) Q false 0 γ w (G (Frame.enter Tryz.prog bE vs .normal) fs):=by
 subst hg;obtain⟨r,b,rfl,Yq⟩:XQ us v.heap:=by
  obtain⟨v',e1,h1⟩:=wK rfl cj kq rfl (oj B hs) hE;have:=Qg _ _ h1
  rwa[e1]at this
 obtain⟨hc,kh⟩:=Yq v rfl;obtain⟨z0,z1,rfl⟩:∃z0 z1,vs= #[z0,z1]:=by
  have h2:vs.size=2:=vh.1.symm
  obtain⟨l⟩:=vs;rcases l with _|⟨z0,_|⟨z1,_|⟨z2,l⟩⟩⟩<;>simp at h2
  exact⟨z0,z1,rfl⟩
 have jq:VR m (.pointer (some ⟨r,0,none⟩)) z0:=vh.2 0 (by simp) (by simp)
 have nH:VR m b z1:=vh.2 1 (by simp) (by simp)
 cases jq with
 | @ptr _ q hq=>
 obtain⟨t,qo,qs⟩:=q;obtain⟨wM,JL,_,XP⟩:=hq;dsimp only at wM JL XP
 subst JL XP;obtain⟨abr,Yr⟩:r<v.heap.size∧t<w.heap.size:=hw.lt wM;obtain⟨T,d,f1⟩:=J_ cj hE 0;have f2:=Ends.run cj (g:=OU (.pointer (some ⟨r,0,none⟩)) b (fs'++[bH]) 0) (Qn ..) f1.1;have f3:=Ends.news cj (g:=X2 (.pointer (some ⟨r,0,none⟩)) b (fs'++[bH])) (u:=v.on T d) (Ym ..) (X4 ..) (X5 ..) f2.1 w.tape w.drawn;have f4:=Ends.run cj (g:=al2 r b (.pointer (some ⟨v.heap.size,0,none⟩)) (fs'++[bH])) (Qo ..) f3.1;have f5:=Ends.abp cj (g:=X3 r b (.pointer (some ⟨v.heap.size,0,none⟩)) (fs'++[bH])) (Yn ..) (X7 ..) (X8 ..) (.inr ⟨rfl,rfl⟩) f4.1 w.tape w.drawn (fun a ha=>by
  have:a=⟨r,0,none⟩:=by simpa using ha
  subst this;obtain⟨c1,c2,_⟩:=CL (w:=v) (a:=⟨r,0,none⟩) (o:= .cells b.cells 57) abr (w1:={(v.on T d).on w.tape w.drawn with heap:=(v.on T d).heap.push (.cells b.cells 57)}) rfl
  exact⟨c1.trans hc,c2.trans kh⟩) (fun b hb=>by cases hb)
 have f6:=Ends.run cj (g:=al4 r b (.pointer (some ⟨v.heap.size,0,none⟩)) (fs'++[bH])) (Qp ..) f5.1;rw[X9]at f6;have hF:=f1.trans (f2.trans (f3.trans (f4.trans (f5.trans f6))));have hD:=hF.2.resolve_left fun e=>by
  have h1:=congrArg (fun z:Frame×List Frame×World=>z.2.2.heap.size) e
  have h3:(v.heap.push (.cells b.cells 57)).size=v.heap.size:=(MD _ _).symm.trans h1
  simp at h3
 obtain⟨o,p,ho,hp,bf⟩:=hw.kL r t wM;have jq:v.heap[r]?=some o:=ho
 obtain⟨us,xs,el,fz,gz,rfl,rfl, -, -⟩:∃us vs e fz gz,o= .cells us e fz∧p= .cells vs e gz∧True∧True:=by
  rcases bf with⟨us,vs,e,fz,gz,h1,h2,_⟩|⟨x,y,l,h1,h2,_⟩
  ·exact⟨us,vs,e,fz,gz,h1,h2,trivial,trivial⟩
  ·subst h1
   unfold World.cell? at hc;simp[jq]at hc
 obtain⟨qt,_,EL⟩:=hw.cell (a:=⟨r,0,none⟩) (b:=⟨t,0,none⟩) ⟨wM,rfl,rfl,rfl⟩;obtain⟨y,hy,hyr⟩:=qt _ hc
 cases hyr;have hyf:=EL kh;obtain⟨sn,nM⟩:=FL hp hy;obtain⟨hle,oa⟩:=hw.new (mH.cells (e:=57) (Fz.refl (0,0)) nH.cells);refine bY (n:=1) (US ..) hM.ph fun w1 e1 s1=>?_;refine MP.xR (r:=w.heap.size) (X6 ..) hM.ph (by rw[e1]) fun w2 e2 s2=>?_
 have e2':w2.heap=w.heap.push (.cells z1.cells 57):=by rw[e2,e1]
 obtain⟨c1,c2,c3⟩:=CL (w:=w) (a:=⟨t,0,none⟩) Yr e2';refine Qu (r:=t) (b:=z1) (x:= .pointer (some ⟨w.heap.size,0,none⟩)) (e:=el) (n:=sn) hM.ph (hM.sh _ _ wM) (by rw[e2',Array.size_push];omega) ⟨c1.trans hy,c2.trans hyf⟩ (c3.trans nM) fun w3 e3 s3=>?_
 have bT:=oa.set (a:=⟨r,0,none⟩) (b:=⟨t,0,none⟩) ⟨hle.sub _ _ wM,rfl,rfl,rfl⟩ (.int .i32 1);have hS:bG w w3:=s1.trans (s2.trans s3)
 have h3:w3.heap=(World.setCell {w with heap:=w.heap.push (.cells z1.cells 57)} ⟨t,0,none⟩ (.int .i32 1)).heap:=by
  rw[e3];unfold World.setCell;simp only[e2']
 have ht0:N0≤t:=by
  refine Nat.le_of_not_lt fun h=>?_;have:=nU (a:=⟨r,0,none⟩) (hM.kR r t wM h) hc
  rw[kh]at this;cases this
 have hx:VR (m.put v.heap.size w.heap.size) (.pointer (some ⟨v.heap.size,0,none⟩)) (.pointer (some ⟨w.heap.size,0,none⟩)):= .ptr ⟨BH,rfl,rfl,rfl⟩
 have hAR:AR (m.put v.heap.size w.heap.size) (qn r b (.pointer (some ⟨v.heap.size,0,none⟩))) (qn t z1 (.pointer (some ⟨w.heap.size,0,none⟩))):=Yp (hle.sub _ _ wM) (nH.mono hle) hx
 have dP:∀x∈[Item.code Tw.Ee],cZ Tryz.prog (m.put v.heap.size w.heap.size).good false x=true:=fun x hx=>by
  obtain rfl:=List.mem_singleton.1 hx
  exact hk
 have hT:oi spec (m.put v.heap.size w.heap.size) bE .run (qn r b (.pointer (some ⟨v.heap.size,0,none⟩))) [.code B7] [xx t]:= .ap rfl (hle.sub _ _ wM) rfl ko (Yo ..)
 have hFR:FR Tryz.prog spec (m.put v.heap.size w.heap.size) (aW bE (qn r b (.pointer (some ⟨v.heap.size,0,none⟩))) [.code Tw.Ee,.code B7] .run) (gZ bE (qn t z1 (.pointer (some ⟨w.heap.size,0,none⟩))) [.code Tw.Ee] .run [xx t]):=
  FR.mk bE [.code Tw.Ee] .run hT hAR dP (.inl rfl) rfl rfl
 show MP (sys Tryz.prog) Q false 0 γ w3 (G (gZ bE (qn t z1 (.pointer (some ⟨w.heap.size,0,none⟩))) [.code Tw.Ee] .run [xx t]) fs)
 refine K (n:=m.put v.heap.size w.heap.size) (γ1:=γ) hD hF.1 rfl hFR (hs.mono hle) ?_ ?_
 ·refine⟨bT.inj,fun r' t' h=>?_,hS.2.1.trans hw.os,rfl,rfl⟩
  obtain⟨o,p,g1,g2,g3⟩:=bT.kL r' t' h;exact⟨o,p,g1,by rw[h3];exact g2,g3⟩
 ·have UY:∀{i:Nat},i<w.heap.size→i≠t→w3.heap[i]?=w.heap[i]?:=fun {i} hi cf=>by
   rw[h3,lT i cf];show(w.heap.push _)[i]?=_
   rw[Array.getElem?_push,if_neg (by omega)]
  have hz:w3.heap.size=w.heap.size+1:=by
   rw[h3,cA];show(w.heap.push _).size=_
   rw[Array.size_push]
  refine⟨hM.ph,fun r' t' h abt=>?_,hM.Uv,fun t' h=>?_,fun r' t' h ak=>?_,hM.same.trans hS,by rw[hz];have:=hM.size;omega,fun b hb=>by rw[hz];have:=hM.dL b hb;omega⟩
  ·rcases lf h with⟨_,h2⟩|h2
   ·have:=hM.dL _ abt;omega
   ·exact hM.sh _ _ h2 abt
  ·rw[UY (by have:=hM.size;omega) (by omega)]
   exact hM.old t' h
  ·rcases lf h with⟨_,h2⟩|h2
   ·have:=hM.size;omega
   ·have hf:=hM.kR r' t' h2 ak
    have Ys:r'≠r:=by
     rintro rfl;have:=nU (a:=⟨r',0,none⟩) hf hc
     rw[kh]at this;cases this
    refine hf.same ?_;refine(lT (w:={(v.on T d).on w.tape w.drawn with heap:=v.heap.push (.cells b.cells 57)}) (a:=⟨r,0,none⟩) (x:= .int .i32 1) r' Ys).trans ?_
    show(v.heap.push _)[r']?=_
    rw[Array.getElem?_push,if_neg (by have:=hf.lt;omega)]
theorem Qw (B:ia nQ Tryz.prog Tw.prog.funcs spec good){a b c d e f:Value}{r t:Nat}{ts:List Value}{tm:Array Value}{cs:List Frame}{m:aJ}{v w:World}(hg:m.good=good)(ha:AR m (qp a b c d e f r ts) tm)(hr:m r=some t)(hw:WR m (v.on w.tape w.drawn) w)
  (hE:Ends Tw.prog (a_ Tw.prog ig) (Ya (qp a b c d e f r ts) cs).frame cs v):v.cell? ⟨r,0,none⟩=some (.int .i32 1)∧v.frozen? ⟨r,0,none⟩=false∧ni Tw.prog (a_ Tw.prog ig) ((Ya (qp a b c d e f r ts) cs).frame,cs,v) ((Mu a b c d e f r ts cs).frame,cs,World.setCell (v.on w.tape w.drawn) ⟨r,0,none⟩ (.int .i32 0)):=by
 subst hg;have f1:=Ends.run cj (g:=Ya (qp a b c d e f r ts) cs) (Qq ..) hE;have f1':Ends Tw.prog (a_ Tw.prog ig) (aW bE (qp a b c d e f r ts) [.inRegion pt [0,1],.code FK] .run) cs v:=by
  have h1:Ends Tw.prog (a_ Tw.prog ig) (Il a b c d e f r ts cs).frame (Il a b c d e f r ts cs).callers v:=f1.1
  rw[RE]at h1;exact h1
 obtain⟨o,ho,oa,ok⟩:=aaB a b c d e f r ts;have lD:=qR (F:=Tw.prog.funcs) B.rt B.globals B.fns (ha.oper B.bR (ds:=[])) o (ok _) fun f=>⟨rfl,rfl⟩
 have ht:gA Tw.prog (aW bE (qp a b c d e f r ts) [.inRegion pt [0,1],.code FK] .run) cs (v.on w.tape w.drawn):= .op ho oa (lD.sf hw) (y8 lD hw)
 have hEq:Il a b c d e f r ts cs=G (aW bE (qp a b c d e f r ts) [.inRegion pt [0,1],.code FK] .run) cs:=RE ..
 obtain⟨_,hbo,_⟩:=hw.cell (a:=⟨r,0,none⟩) (b:=⟨t,0,none⟩) ⟨hr,rfl,rfl,rfl⟩;obtain⟨_,_,_,aZ⟩:=vj (Mx a b c d e f r ts cs) true (v.on w.tape w.drawn);rw[hEq]at aZ;have hx:∃x,v.cell? ⟨r,0,none⟩=some x:=by
  cases hv:v.cell? ⟨r,0,none⟩with
  |some x=>exact⟨x,rfl⟩
  |none=>
   exfalso
   have g_:(v.on w.tape w.drawn).cell? ⟨r,0,none⟩=none:=hv
   have hz:∃z,(RD a b c d e f r ts cs).runT Tw.prog (v.on w.tape w.drawn) #[]=(.halt (.stuck z) (v.on w.tape w.drawn),#[]):=by
    rw[My];obtain⟨o,hb,⟨us,e,fz,rfl⟩|⟨z,l,rfl⟩⟩:=hbo<;>
    simp[-Sem.runT_eq,Sem.runT,g_,World.farLoad,hb,World.noCell]
   obtain⟨z,hz⟩:=hz;obtain⟨o',w',bd,hh⟩:=iw (fr:=aW bE (qp a b c d e f r ts) [.inRegion pt [0,1],.code FK] .run) (cs:=cs) hz (.inl ⟨z,rfl⟩)
   cases f1' with
   |stop h=>exact gF cj rfl h
   |step k1 k2=>
    obtain⟨_,_,_,_,hgo⟩:=k1 _ _ ht;have:=aZ.symm.trans hgo
    have h5:=hh.symm.trans this
    cases h5
 obtain⟨x,hx⟩:=hx;have jN:(v.on w.tape w.drawn).cell? ⟨r,0,none⟩=some x:=hx
 have eV:(RD a b c d e f r ts cs).runT Tw.prog (v.on w.tape w.drawn) #[]=(.ok (.value x) (v.on w.tape w.drawn),#[⟨.cell ⟨r,0,none⟩,false,false⟩]):=by
  rw[My];simp[-Sem.runT_eq,Sem.runT,jN]
 have hgo:stepG Tw.prog true (G (aW bE (qp a b c d e f r ts) [.inRegion pt [0,1],.code FK] .run) cs) (v.on w.tape w.drawn)= .go (G (rj a b c d e f r ts cs x).frame (rj a b c d e f r ts cs x).callers) (v.on w.tape w.drawn) (seen Tw.prog (Il a b c d e f r ts cs).frame.fn #[⟨.cell ⟨r,0,none⟩,false,false⟩]):=by
  rw[←hEq];exact jB (Mx a b c d e f r ts cs) true eV
 obtain⟨k1,k2⟩:=f1'.go (gF cj rfl) ht hgo;have f2:ni Tw.prog (a_ Tw.prog ig) ((Il a b c d e f r ts cs).frame,cs,v) ((rj a b c d e f r ts cs x).frame,(rj a b c d e f r ts cs x).callers,v.on w.tape w.drawn):=by
  rw[hEq];exact⟨k1,.inr k2⟩
 obtain⟨n,rfl⟩:∃n,x= .int .i32 n:=by
  cases hb:Yb x with
  |false=>exact absurd k1 (Ends.bad cj (Mz ..) (Yc ..) (Yd a b c d e f r ts cs hb))
  |true=>
   cases x with
   |int k n=>cases k<;>first|exact⟨n,rfl⟩|cases hb
   |_=>cases hb
 obtain rfl:n=1:=by
  refine Classical.byContradiction fun hn=>?_;have hq:=Ye a b c d e f r ts cs n;rw[show(n==1)=false from by simpa using hn]at hq
  have hs:∀w,stepG Tw.prog true (G (rj a b c d e f r ts cs (.int .i32 n)).frame (rj a b c d e f r ts cs (.int .i32 n)).callers) w= .go (G (bm (rj a b c d e f r ts cs (.int .i32 n)) (.bool false)).frame (bm (rj a b c d e f r ts cs (.int .i32 n)) (.bool false)).callers) w #[]:=fun w=>(fJ hq).2 true w
  have g1:=k1.bL (gF cj (tZ (Mz a b c d e f r ts cs (.int .i32 n))).2.1) hs;have g2:=Ends.run cj (g:=bm (rj a b c d e f r ts cs (.int .i32 n)) (.bool false)) (aaC ..) g1.1;rw[MA]at g2;exact(aaz cj g2.1).2 rfl
 have f3:=Ends.run cj (g:=rj a b c d e f r ts cs (.int .i32 1)) (Qr ..) k1;have f3':Ends Tw.prog (a_ Tw.prog ig) (CJ a b c d e f r ts cs).frame (CJ a b c d e f r ts cs).callers (v.on w.tape w.drawn):=f3.1
 have Oj:v.frozen? ⟨r,0,none⟩=false:=by
  cases hf:v.frozen? ⟨r,0,none⟩with
  |false=>rfl
  |true=>
   exfalso
   have rk:(v.on w.tape w.drawn).frozen? ⟨r,0,none⟩=true:=hf
   have hz:∃u,(∀g,u≠.initOrder g)∧(Mw a b c d e f r ts cs).runT Tw.prog (v.on w.tape w.drawn) #[]=(.halt (.unsupported u) (v.on w.tape w.drawn),#[]):=by
    rw[Yg];simp only[Sem.runT,jN,rk,if_true];exact⟨.unsafePointer _,fun g h=>(by cases h),rfl⟩
   obtain⟨u,hu,hz⟩:=hz;obtain⟨m1,m2,m3,m4⟩:=tZ (MB a b c d e f r ts cs);have ht3:gA Tw.prog (CJ a b c d e f r ts cs).frame (CJ a b c d e f r ts cs).callers (v.on w.tape w.drawn):=xU (CK ..) m4 m3 (by
    rw[aaD];simp only[SF,jN,rk];exact .inr (.inl trivial)) (by rw[hz];exact hu) _
   cases f3' with
   |stop h=>exact gF cj m2 h
   |step k1 k2=>
    obtain⟨_,_,_,_,hgo⟩:=k1 _ _ ht3;obtain⟨_,_,_,UZ⟩:=vj (CK a b c d e f r ts cs) true ((v.on w.tape w.drawn).on w.tape w.drawn);rw[←qm m1,UZ]at hgo;obtain⟨o',w',bd,hh⟩:=iw (fr:=(CJ a b c d e f r ts cs).frame) (cs:=(CJ a b c d e f r ts cs).callers) hz (.inr ⟨u,rfl,hu⟩);have h5:=hh.symm.trans hgo
    cases h5
 have f4:=Ends.abp cj (g:=CJ a b c d e f r ts cs) (MB ..) (CK ..) (Yf ..) (.inr ⟨rfl,rfl⟩) f3' w.tape w.drawn (fun q hq=>by
  have:q=⟨r,0,none⟩:=by simpa using hq
  subst this;exact⟨hx,Oj⟩) (fun b hb=>by cases hb)
 exact⟨hx,Oj,f1.trans (f2.trans (f3.trans f4))⟩
theorem aaG (B:ia nQ Tryz.prog Tw.prog.funcs spec good){f' f:Frame}{fs' fs:List Frame}{m:aJ}{γ:Gh}{w v:World}(hg:m.good=good)(hf:FR Tryz.prog spec m f' f)(h0:f.todo=[])(hd:f.defers≠[])(hs:jO Tryz.prog spec m fs' fs)(hw:WR m (v.on w.tape w.drawn) w)(hM:MI N0 m v w0 γ w)(hE:Ends Tw.prog (a_ Tw.prog ig) f' (fs'++[bH]) v)
  (K:∀{n:aJ} {f1' f1:Frame} {bX gs:List Frame} {v1 w1:World} {γ1:Gh},lL Tw.prog (a_ Tw.prog ig) (f',fs'++[bH],v) (f1',bX++[bH],v1)→Ends Tw.prog (a_ Tw.prog ig) f1' (bX++[bH]) v1→n.good=good→FR Tryz.prog spec n f1' f1→jO Tryz.prog spec n bX gs→WR n (v1.on w1.tape w1.drawn) w1→MI N0 n v1 w0 γ1 w1→MP (sys Tryz.prog) Q false 0 γ1 w1 (G f1 gs)):
  MP (sys Tryz.prog) Q false 0 γ w (G f fs):=by
 obtain @⟨fn,tm',tm,todo,mode,tl,ds,eU,ha,ok,hm,rfl,rfl⟩:=hf
 obtain rfl:todo=[]:=h0
 cases eU with
 |no=>exact absurd rfl hd
 | @ap r t ZW CM ab9 ko ht=>
 subst ZW ab9;obtain⟨x0,x1,x2,x3,x4,x5,ts,rfl⟩:=aaA ht;obtain⟨hc,kh,hF⟩:=Qw B hg ha CM hw (cs:=fs'++[bH]) hE
 cases hs with
 |nil=>
  exfalso
  have f2:=Ends.run cj (g:=Mu x0 x1 x2 x3 x4 x5 r ts [bH]) (Yh ..) hF.1;rw[Yi]at f2;have h1:Ends Tw.prog (a_ Tw.prog ig) (aW bE (qp x0 x1 x2 x3 (.int .i32 1) (.bool true) r ts) [] .returning) [bH] (World.setCell (v.on w.tape w.drawn) ⟨r,0,none⟩ (.int .i32 0)):=f2.1
  cases h1 with
  |stop h=>
   obtain⟨_,e,T',d',h1,h2⟩:=h
   cases e with
   |returned x=>
    obtain⟨_,_,_,cW,q1,q2⟩:=h2;have zi:Tw.prog.funcs[bE]?=some cW:=q1
    rw[Tw.uL]at zi;obtain rfl:=Option.some.inj zi
    have q3:=Ak (qp x0 x1 x2 x3 (.int .i32 1) (.bool true) r ts) ((World.setCell (v.on w.tape w.drawn) ⟨r,0,none⟩ (.int .i32 0)).on T' d') #[];have q4:=Sem.runT_fst Tw.prog (results Tw.GD (qp x0 x1 x2 x3 (.int .i32 1) (.bool true) r ts)) ((World.setCell (v.on w.tape w.drawn) ⟨r,0,none⟩ (.int .i32 0)).on T' d') #[];rw[q3]at q4;have q5:=q4.trans q2;injection q5 with q5
    subst q5;rcases h1 with h|⟨_,h,_⟩|⟨_,h,_⟩<;>cases h
   |panicked c=>have:=h2.1;cases this
   |outgrown=>exact cj _ h1
  |step k1 k2=>
   have ht:gA Tw.prog (aW bE (qp x0 x1 x2 x3 (.int .i32 1) (.bool true) r ts) [] .returning) [bH] ((World.setCell (v.on w.tape w.drawn) ⟨r,0,none⟩ (.int .i32 0)).on w.tape w.drawn):= .ret Tw.uL (CI (es:= #[]) (y:=(.tuple #[],#[])) (by kernel_rfl) _)
   have hc:=k2 _ _ _ _ _ _ ht (nI Tw.uL (Ak _ _ _));rw[Jz]at hc;exact Fo _ hc
 | @cons c' c bX gs hcc Ek dQ=>
 obtain⟨dd,ds,hds⟩:∃d ds,bX++[bH]=d::ds:=by cases bX with
  |nil=>exact⟨_,_,rfl⟩
  |cons d ds=>exact⟨_,_,rfl⟩
 have f2:ni Tw.prog (a_ Tw.prog ig) ((Mu x0 x1 x2 x3 x4 x5 r ts (c'::bX++[bH])).frame,c'::bX++[bH],World.setCell (v.on w.tape w.drawn) ⟨r,0,none⟩ (.int .i32 0)) (c'.finish (.tuple #[]),bX++[bH],World.setCell (v.on w.tape w.drawn) ⟨r,0,none⟩ (.int .i32 0)):=by
  have h1:=hF.1;rw[List.cons_append,hds]at h1⊢;have h2:=Ends.run cj (g:=Mu x0 x1 x2 x3 x4 x5 r ts (c'::dd::ds)) (Qs ..) h1;rw[Yj]at h2;exact h2
 have OP:=hF.trans f2;have hD:=OP.2.resolve_left fun e=>by
  have h2:=congrArg (fun z:Frame×List Frame×World=>z.2.1.length) e
  simp at h2
 obtain⟨abr,Yr⟩:r<v.heap.size∧t<w.heap.size:=hw.lt CM;obtain⟨o,p,ho,hp,bf⟩:=hw.kL r t CM;have jq:v.heap[r]?=some o:=ho
 obtain⟨us,xs,el,fz,gz,rfl,rfl, -, -⟩:∃us vs e fz gz,o= .cells us e fz∧p= .cells vs e gz∧True∧True:=by
  rcases bf with⟨us,vs,e,fz,gz,h1,h2,_⟩|⟨x,y,l,h1,h2,_⟩
  ·exact⟨us,vs,e,fz,gz,h1,h2,trivial,trivial⟩
  ·subst h1
   unfold World.cell? at hc;simp[jq]at hc
 obtain⟨qt,_,EL⟩:=hw.cell (a:=⟨r,0,none⟩) (b:=⟨t,0,none⟩) ⟨CM,rfl,rfl,rfl⟩;obtain⟨y,hy,hyr⟩:=qt _ hc
 cases hyr;have hyf:=EL kh;obtain⟨sn,nM⟩:=FL hp hy;refine Yl (r:=t) (e:=el) (n:=sn) hM.ph (hM.sh _ _ CM) Yr ⟨hy,hyf⟩ nM fun w3 e3 s3=>?_;have bT:=hw.set (a:=⟨r,0,none⟩) (b:=⟨t,0,none⟩) ⟨CM,rfl,rfl,rfl⟩ (.int .i32 0);have ht0:N0≤t:=by
  refine Nat.le_of_not_lt fun h=>?_;have:=nU (a:=⟨r,0,none⟩) (hM.kR r t CM h) hc
  rw[kh]at this;cases this
 refine K (n:=m) (f1:=c.finish (.tuple #[])) (gs:=gs) (γ1:=γ) hD OP.1 hg (hcc.finish Ek (aJ.le_refl m) (.tuple rfl fun i h1 _=>by simp at h1)) dQ ?_ ?_
 ·refine⟨bT.inj,fun r' t' h=>?_,s3.2.1.trans hw.os,rfl,rfl⟩
  obtain⟨o,p,g1,g2,g3⟩:=bT.kL r' t' h;exact⟨o,p,g1,by rw[e3];exact g2,g3⟩
 ·have hz:w3.heap.size=w.heap.size:=by rw[e3,cA]
  refine⟨hM.ph,hM.sh,hM.Uv,fun t' h=>?_,fun r' t' h ak=>?_,hM.same.trans s3,by rw[hz];exact hM.size,fun b hb=>by rw[hz];exact hM.dL b hb⟩
  ·rw[e3,lT t' (by show t'≠t;omega)]
   exact hM.old t' h
  ·have hf:=hM.kR r' t' h ak
   have Ys:r'≠r:=by
    rintro rfl;have:=nU (a:=⟨r',0,none⟩) hf hc
    rw[kh]at this;cases this
   exact hf.same (lT (w:=v.on w.tape w.drawn) (a:=⟨r,0,none⟩) (x:= .int .i32 0) r' Ys)
theorem ab_ (B:ia nQ Tryz.prog Tw.prog.funcs spec good)(hk:Qv good=true)(_:aeZ=false→spec bE=false)(N0:Nat)(w0:World):XM spec good ig N0 w0 (FJ w0):=⟨aaF B hk,aaG B⟩
end
end Go.Proofs.YtabjbdnokpjipaaGreat.Sr
namespace Go.Proofs.YtabjbdnokpjipaaGreat.Sr
open Go Go.Conc
def lg (f:FuncId):Bool:=Tw.wj.contains f
def rn (f:FuncId):Bool:=Tw.wj.contains f||f==Tw.kg
def wN (f:FuncId):Bool:=f==ep||(aeZ&&f==bE)
theorem wP {f:FuncId}(h:lg f=true):f∈Tw.wj:=by simpa[lg]using h
def MG (P:Program)(good:FuncId→Bool)(f:FuncId):Bool:=match P.funcs[f]? with
 |some fn=>pf P good fn&&fn.name != "runtime.NumGoroutine"
 |none=>false
set_option maxRecDepth 100000
theorem aaH:(Tw.wj.filter fun f=>f !=ep&&f !=bE).all (MG Tryz.prog lg)=true:=by kernel_rfl
theorem Yt:(Tw.wj.filter fun f=>f !=ep&&f !=bE).all (MG Tw.prog rn)=true:=by kernel_rfl
theorem aaI:MG Tw.prog rn Tw.kg=true:=by kernel_rfl
theorem Yu:(Tryz.prog.funcs[ep]?).any (fun fn=>fn.body.isSome&&fn.name != "runtime.NumGoroutine")=true:=by kernel_rfl
theorem MH:(Tw.prog.funcs[ep]?).any (fun fn=>fn.body.isSome&&fn.name != "runtime.NumGoroutine")=true:=by kernel_rfl
theorem Yv:Tw.wj.all (fun f=>(Tryz.prog.inits.idxOf? f).isNone)=true:=by kernel_rfl
theorem aaJ:(Tryz.prog.funcs[bE]?).any (fun fn=>fn.body.isSome&&fn.name != "runtime.NumGoroutine")=true:=by kernel_rfl
theorem aaK:(Tw.prog.funcs[bE]?).any (fun fn=>fn.body.isSome&&fn.name != "runtime.NumGoroutine")=true:=by kernel_rfl
theorem MJ {f:FuncId}(h:f≠ep)(h2:f≠bE){fn:Func}(hf:Tryz.prog.funcs[f]?=some fn):Tw.prog.funcs[f]?=some fn:=by
 have ak:f<Tryz.funcs.size:=(Array.getElem?_eq_some_iff.1 hf).1
 show(((Tryz.funcs.setIfInBounds ep Tw.Je).setIfInBounds bE Tw.GD).push Tw.Rm)[f]?=some fn
 rw[Array.getElem?_push,if_neg (by rw[Array.size_setIfInBounds,Array.size_setIfInBounds];exact Nat.ne_of_lt ak),Array.getElem?_setIfInBounds,if_neg (fun e=>h2 e.symm),Array.getElem?_setIfInBounds,if_neg (fun e=>h e.symm)]
 exact hf
theorem wQ {P:Program}{good:FuncId→Bool}{f:FuncId}(h:MG P good f=true):∃fn,P.funcs[f]?=some fn∧pf P good fn=true∧fn.body.isSome=true∧fn.name≠ "runtime.NumGoroutine":=by
 unfold MG at h
 cases hf:P.funcs[f]? with
 |none=>rw[hf]at h;cases h
 |some fn=>
  rw[hf]at h;simp only[Bool.and_eq_true,bne_iff_ne,ne_eq]at h;refine⟨fn,rfl,h.1,?_,h.2⟩;have:=h.1
  unfold pf at this
  cases hb:fn.body with
  |none=>rw[hb]at this;cases this
  |some c=>rfl
theorem qu {P:Program}{f:FuncId}(h:(P.funcs[f]?).any (fun fn=>fn.body.isSome&&fn.name != "runtime.NumGoroutine")=true):∃fn,P.funcs[f]?=some fn∧fn.body.isSome=true∧fn.name≠ "runtime.NumGoroutine":=by
 cases hf:P.funcs[f]? with
 |none=>rw[hf]at h;cases h
 |some fn=>
  rw[hf]at h;simp only[Option.any_some,Bool.and_eq_true,bne_iff_ne,ne_eq]at h;exact⟨fn,rfl,h.1,h.2⟩
theorem ab':gu nQ Tryz.prog:=⟨by decide+kernel,by decide+kernel,by decide+kernel,by decide+kernel⟩
theorem RG (h:lg bE=true):(∃fn,Tw.prog.funcs[bE]?=some fn∧fn.body.isSome=true∧fn.name≠ "runtime.NumGoroutine")∧∃fn,Tryz.prog.funcs[bE]?=some fn∧fn.body.isSome=true∧fn.name≠ "runtime.NumGoroutine":=by
 exact⟨qu aaK,qu aaJ⟩
theorem MK (h:lg bE=true):wN bE=true:=by
 exact of_decide_eq_true (by decide+kernel)
theorem ML:wN bE=true→∃fr,Tw.prog.funcs[bE]?=some fr:=by
 exact fun _=>⟨_,Tw.uL⟩
theorem CN:ia nQ Tryz.prog Tw.prog.funcs wN lg:=by
 have ok:∀f,lg f=true→f≠ep→f≠bE→∃fn,Tryz.prog.funcs[f]?=some fn∧pf Tryz.prog lg fn=true∧fn.body.isSome=true∧fn.name≠ "runtime.NumGoroutine":=fun f hf hn hp=>
  wQ (List.all_eq_true.1 aaH f (List.mem_filter.2 ⟨wP hf,by simpa using⟨hn,hp⟩⟩))
 refine⟨ab',Tryz.globals_size,fun f hf=>?_,⟨fun f hf=>?_⟩,ML,fun f hf hs=>?_⟩
 ·have:f=50:=by simpa[BR]using hf
  subst this;exact⟨by decide+kernel,by decide+kernel⟩
 ·by_cases hn:f=ep
  ·subst hn
   obtain⟨a,a1,a2,a3⟩:=qu MH;obtain⟨b,b1,b2,b3⟩:=qu Yu;exact⟨a,b,a1,b1,a2,b2,a3,b3⟩
  ·by_cases hp:f=bE
   ·subst hp
    obtain⟨⟨a,a1,a2,a3⟩,b,b1,b2,b3⟩:=RG hf;exact⟨a,b,a1,b1,a2,b2,a3,b3⟩
   ·obtain⟨fn,h1,_,h2,h3⟩:=ok f hf hn hp
    exact⟨fn,fn,MJ hn hp h1,h1,h2,h2,h3,h3⟩
 ·have h1:f≠ep:=fun e=>by subst e;revert hs;decide+kernel
  have h2:f≠bE:=fun e=>by subst e;rw[MK hf]at hs;cases hs
  obtain⟨fn,k1,k2,_⟩:=ok f hf h1 h2;exact⟨fn,MJ h1 h2 k1,k1,k2⟩
theorem aaL:gu nQ Tw.prog:=⟨by decide+kernel,by decide+kernel,by decide+kernel,by decide+kernel⟩
theorem MM:po wN:=fun f h=>by
 rcases(Bool.or_eq_true _ _).mp h with h|h
 ·exact .inl (eq_of_beq h)
 ·obtain⟨h1,h2⟩:=(Bool.and_eq_true _ _).mp h
  exact .inr ⟨h1,eq_of_beq h2⟩
theorem FM (h:rn bE=true):lg bE=true:=by
 simp only[rn,Bool.or_eq_true,beq_iff_eq]at h;rcases h with h|h
 ·exact h
 ·exact absurd h (by decide)
theorem Qx:ia nQ Tw.prog Tw.prog.funcs wN rn:=by
 have ok:∀f,rn f=true→f≠ep→f≠bE→∃fn,Tw.prog.funcs[f]?=some fn∧pf Tw.prog rn fn=true∧fn.body.isSome=true∧fn.name≠ "runtime.NumGoroutine":=fun f hf hn hp=>by
  by_cases hs:f=Tw.kg
  ·subst hs;exact wQ aaI
  ·have h:f∈Tw.wj:=by
    simp only[rn,Bool.or_eq_true,List.contains_eq_mem,decide_eq_true_eq,beq_iff_eq]at hf;exact hf.resolve_right hs
   exact wQ (List.all_eq_true.1 Yt f (List.mem_filter.2 ⟨h,by simpa using⟨hn,hp⟩⟩))
 refine⟨aaL,Tryz.globals_size,fun f hf=>?_,⟨fun f hf=>?_⟩,ML,fun f hf hs=>?_⟩
 ·have:f=50:=by simpa[BR]using hf
  subst this;exact⟨by decide+kernel,by decide+kernel⟩
 ·by_cases hn:f=ep
  ·subst hn
   obtain⟨a,a1,a2,a3⟩:=qu MH;exact⟨a,a,a1,a1,a2,a2,a3,a3⟩
  ·by_cases hp:f=bE
   ·subst hp
    obtain⟨⟨a,a1,a2,a3⟩, -⟩:=RG (FM hf);exact⟨a,a,a1,a1,a2,a2,a3,a3⟩
   ·obtain⟨fn,h1,_,h2,h3⟩:=ok f hf hn hp
    exact⟨fn,fn,h1,h1,h2,h2,h3,h3⟩
 ·have h1:f≠ep:=fun e=>by subst e;revert hs;decide+kernel
  have h2:f≠bE:=fun e=>by subst e;rw[MK (FM hf)]at hs;cases hs
  obtain⟨fn,k1,k2,_⟩:=ok f hf h1 h2;exact⟨fn,k1,k1,k2⟩
theorem aaM:Qv lg=true:=by kernel_rfl
theorem U0 {f:FuncId}{us vs:Array Value}{m:aJ}{v W:World}(XR:lg f=true)(XS:wN f=false)(XJ:m.good=lg)(vh:AR m us vs)(hw:WR m (v.on W.tape W.drawn) W)(kh:∀r t,m r=some t→fc v r)
  (Mq:∀T,Calls Tw.prog f us (v.on T 0) ig):
  ∃M last o w' t',runNT Tryz.prog (M+1) (solo (G (Frame.enter Tryz.prog f vs .normal) []) W) #[]=(.ended o w',t')∧runN Tryz.prog M (solo (G (Frame.enter Tryz.prog f vs .normal) []) W)= .next last∧step Tryz.prog last= .ended o w'∧
   Go.Conc.Good Tryz.prog (fun x W'=>x= .bool true∧Go.RowKit.Below W.heap.size W W') last o w' t':=
 UC CN MM MM (ab_ CN aaM (by decide+kernel)) (by decide+kernel) (by decide+kernel) Qx (by decide+kernel) (fun f h hs=>by
  simp only[rn,Bool.or_eq_true,List.contains_eq_mem,decide_eq_true_eq];exact .inl (wP h)) (by decide+kernel) (fun f h=>by
  have:=List.all_eq_true.1 Yv f (wP h)
  simpa using this) XR XS XJ vh hw kh Mq
end Go.Proofs.YtabjbdnokpjipaaGreat.Sr
