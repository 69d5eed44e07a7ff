/-
What is proved: the end of the function that locks in the second program, reckoned by and what rests on it. Conditions: as stated.
-/
import Derived.Test.YtlhohdjniaebbaaGreatRy25
import Derived.Test.YtlhohdjniaebbaaGreatRy02
set_option linter.unusedVariables false
set_option linter.unusedSimpArgs false
namespace Go.Proofs.YtlhohdjniaebbaaGreat.Sr
open Go Go.Conc
def nQ (a b c d e f:Value)(r:Nat)(ts:List Value):Array Value:=⟨a::b::c::d::e::f:: .pointer (some ⟨r,0,none⟩)::ts⟩
theorem Xe {tm:Array Value}{r:Nat}(h:tm.getD C2 undef= .pointer (some ⟨r,0,none⟩)):∃a b c d e f ts,tm=nQ a b c d e f r ts:=by
 obtain⟨l⟩:=tm;match l,h with
 |a::b::c::d::e::f::g::ts,h=>
  have h':g= .pointer (some ⟨r,0,none⟩):=h
  exact⟨a,b,c,d,e,f,ts,by rw[h'];rfl⟩
noncomputable def Uv (tm:Array Value) (cs:List Frame):Goroutine:=G (aM bp tm [.code yq] .run) cs
noncomputable def Es (a b c d e f:Value) (r:Nat) (ts:List Value) (cs:List Frame):Goroutine:=aL Tw.prog 2 (Uv (nQ a b c d e f r ts) cs)
noncomputable def oC (a b c d e f:Value) (r:Nat) (ts:List Value) (cs:List Frame) (v:Value):Goroutine:=aZ (Es a b c d e f r ts cs) v
noncomputable def ze (a b c d e f:Value) (r:Nat) (ts:List Value) (cs:List Frame):Goroutine:=aL Tw.prog 4 (oC a b c d e f r ts cs (.int .i32 1))
noncomputable def IB (a b c d e f:Value) (r:Nat) (ts:List Value) (cs:List Frame):Goroutine:=aZ (ze a b c d e f r ts cs) undef
noncomputable def NZ (a b c d e f:Value) (r:Nat) (ts:List Value) (cs:List Frame):Sem Next:=(cm Tw.prog (Es a b c d e f r ts cs)).getD (.pure .skip)
noncomputable def Yp (a b c d e f:Value) (r:Nat) (ts:List Value) (cs:List Frame) (v:Value):Sem Next:=(cm Tw.prog (oC a b c d e f r ts cs v)).getD (.pure .skip)
noncomputable def IC (a b c d e f:Value) (r:Nat) (ts:List Value) (cs:List Frame):Sem Next:=(cm Tw.prog (ze a b c d e f r ts cs)).getD (.pure .skip)
def mO:Array Oper:=match yq with
 | .seq (.region _ ops _) _=>ops
 |_=> #[]
def Cc:Code:=match yq with
 | .seq _ c=>c
 |_=> .skip
def Uw (v:Value):Bool:=match v with
 | .int .i32 _=>true
 |_=>false
section
variable(a b c d e f:Value)(r:Nat)(ts:List Value)(cs ds:List Frame)(c1 c2:Frame)(n:Int)
set_option maxRecDepth 100000
theorem Mq:fy Tw.prog 2 (Uv (nQ a b c d e f r ts) cs)=true:=by kernel_rfl
theorem N1:Es a b c d e f r ts cs=G (aM bp (nQ a b c d e f r ts) [.inRegion mO [0,1],.code Cc] .run) cs:=by kernel_rfl
theorem Xf:∃o,mO[0]?=some o∧Region.wanted o (yielded mO (nQ a b c d e f r ts))=true∧∀good,gk Tryz.prog good o.op=true:=⟨_,rfl,by kernel_rfl,by intros;kernel_rfl⟩
theorem ID:cm Tw.prog (Es a b c d e f r ts cs)=some (NZ a b c d e f r ts cs):=by kernel_rfl
theorem IE (w:World):(NZ a b c d e f r ts cs).runT Tw.prog w #[]=(Sem.load .plain ⟨r,0,none⟩ fun x=> .pure (Next.value x)).runT Tw.prog w #[]:=by kernel_rfl
theorem IF (v:Value):uo (oC a b c d e f r ts cs v)=true:=by kernel_rfl
theorem Ux (v:Value):cm Tw.prog (oC a b c d e f r ts cs v)=some (Yp a b c d e f r ts cs v):=by kernel_rfl
theorem Uy {v:Value}(h:Uw v=false):NY Tw.prog (Yp a b c d e f r ts cs v)=true:=by
 cases v with
 |int k n=>
  cases k with
  |i32=>cases h
  |_=>kernel_rfl
 |pointer p=>cases p<;>kernel_rfl
 |_=>kernel_rfl
theorem Uz:bU Tw.prog (oC a b c d e f r ts cs (.int .i32 n))=some (aZ (oC a b c d e f r ts cs (.int .i32 n)) (.bool (n==1)),#[]):=by kernel_rfl
theorem Xg:fy Tw.prog 3 (aZ (oC a b c d e f r ts cs (.int .i32 n)) (.bool false))=true:=by kernel_rfl
theorem IG:aL Tw.prog 3 (aZ (oC a b c d e f r ts cs (.int .i32 n)) (.bool false))=G (aM bp (nQ a b c d (.int .i32 n) (.bool false) r ts) [.code .skip,.inLoop .skip] .run) cs:=by kernel_rfl
theorem IH:uo (ze a b c d e f r ts cs)=true:=by kernel_rfl
theorem zf:cm Tw.prog (ze a b c d e f r ts cs)=some (IC a b c d e f r ts cs):=by kernel_rfl
theorem UA:eG Tw.prog (.int .i32 1) none (IC a b c d e f r ts cs) #[]=some ⟨.skip,#[⟨.cell ⟨r,0,none⟩,true,false⟩],[⟨r,0,none⟩],[],some (⟨r,0,none⟩,.int .i32 0)⟩:=by kernel_rfl
theorem UB (w:World):(IC a b c d e f r ts cs).runT Tw.prog w #[]=(Sem.store .plain ⟨r,0,none⟩ (.int .i32 0) (.pure Next.skip)).runT Tw.prog w #[]:=by kernel_rfl
theorem Xh (w:World):SF Tw.prog (IC a b c d e f r ts cs) w=SF Tw.prog (Sem.store .plain ⟨r,0,none⟩ (.int .i32 0) (.pure Next.skip)) w:=by kernel_rfl
theorem UC:fy Tw.prog 2 (IB a b c d e f r ts cs)=true:=by kernel_rfl
theorem UD:aL Tw.prog 2 (IB a b c d e f r ts cs)=G (aM bp (nQ a b c d (.int .i32 1) (.bool true) r ts) [] .returning) cs:=by kernel_rfl
theorem wO (tm:Array Value)(w:World)(es:Array Event):(results Tw.OC tm).runT Tw.prog w es=(.ok (.tuple #[]) w,es):=by kernel_rfl
theorem Mr:fy Tw.prog 4 (oC a b c d e f r ts cs (.int .i32 1))=true:=by kernel_rfl
theorem Ms:fy Tw.prog 3 (IB a b c d e f r ts (c1::c2::ds))=true:=by kernel_rfl
theorem UE:aL Tw.prog 3 (IB a b c d e f r ts (c1::c2::ds))=G (c1.finish (.tuple #[])) (c2::ds):=by kernel_rfl
end
end Go.Proofs.YtlhohdjniaebbaaGreat.Sr
namespace Go.Proofs.YtlhohdjniaebbaaGreat.Sr
open Go Go.Conc Go.ConcN
section
variable {P:Program}{Q:Gh→World→Trace→Nat→Outcome→World→Prop}{d:Nat}{γ:Gh}{w:World}{g g':Goroutine}{es:Array Event}{r:Nat}
theorem II {j B o:Nat}{wr sy:Bool}(hn:γ.ph=none)(h0:∀k b,¬γ.ow k b∧¬γ.ro k b)(hs:¬γ.sh r)(hB:r<B):rj γ j B ⟨.cell ⟨r,o,none⟩,wr,sy⟩:=by
 refine⟨fun x hx=> .inr ?_,hB,nofun⟩
 have e:=(Option.some.inj hx).symm;have el:x.loc= .cell ⟨r,o,none⟩:=by rw[e]
 refine⟨?_,fun k _ _ hk=>?_,fun _ k _ _ hk=>?_⟩
 ·rintro⟨a,ha,h1⟩
  rw[ha]at el;injection el with el
  rw[el]at h1;exact hs h1
 ·rcases hk with⟨b',_,hk⟩|⟨a,_,p,hp,_⟩
  ·exact(h0 k b').1 hk
  ·rw[hn]at hp;cases hp
 ·obtain⟨b',_,hk⟩:=hk
  exact(h0 k b').2 hk
theorem vL (h:bU P g=some (g',es))(hn:γ.ph=none)(aR:∀j,∀e∈es,rj γ j w.heap.size e)(K:∀w',w'.heap=w.heap→bq w w'→MP (sys P) Q false (deafBehind d es) γ w' g'):MP (sys P) Q false d γ w g:=
 .said h fun γ1 w1 t j hr hJ hd=>by
  obtain⟨e0,e,s⟩:=gq hn hr;subst e0;obtain⟨a1,a2⟩:=pX (fn:=g.frame.fn) (pos:=g.frame.place) (es:=es) hJ (by rw[e];exact aR j)
  exact⟨_,false,a1,a2,K w1 e s⟩
theorem nR {w w1:World}(h:w1.heap=w.heap)(o:Option (Addr×Value)):(dC w1 o).heap=(dC w o).heap:=by
 cases o with
 |none=>exact h
 |some p=>unfold dC World.setCell;simp only[h]
theorem N2 (w:World)(o:Option (Addr×Value)):bq w (dC w o):=by
 cases o with
 |none=>exact⟨rfl,rfl,rfl⟩
 |some p=>exact⟨rfl,rfl,rfl⟩
theorem IJ (w:World)(o:Option (Addr×Value)):(dC w o).heap.size=w.heap.size:=by
 cases o with
 |none=>rfl
 |some p=>exact b9
theorem IK {v:Value}{sh:Option (TypeId×Nat)}{y:KE Goroutine}(h:bn P v sh g=some y)(hn:γ.ph=none)(hs:¬γ.sh r)(cC:∀a x,y.bb=some (a,x)→a.block=r)(hl:∀a∈y.ls,w.cell? a=some v∧w.frozen? a=false)(hq:∀b∈y.rs,w.shape? b=sh)
  (aR:∀j,(∀k b,¬γ.ow k b∧¬γ.ro k b)→∀e∈y.es,rj γ j w.heap.size e) (K:∀w',w'.heap=(dC w y.bb).heap→bq w w'→MP (sys P) Q false (deafBehind d y.es) γ w' y.x):MP (sys P) Q false d γ w g:=
 .rk (vS h).1 fun γ1 w1 t j hr hJ hd=>by
  obtain⟨e0,e,s⟩:=gq hn hr;subst e0;obtain⟨x1,x2,x3⟩:=hJ.none hn;have hz:=IJ w1 y.bb;obtain⟨a1,a2⟩:=vG (w1:=dC w1 y.bb) (fn:=g.frame.fn) (pos:=g.frame.place) (es:=y.es) hJ (N2 _ _) (Nat.le_of_eq hz.symm) (fun b _ hh=>by
    have hb:b≠r:=by
     rintro rfl;rcases hh with⟨k,hk⟩|hk|⟨p,hp,_⟩
     ·exact hk.elim (x1 k b).1 (x1 k b).2
     ·exact hs hk
     ·rw[hn]at hp;cases hp
    cases ho:y.bb with
    |none=>rfl
    |some p=>
     obtain⟨⟨ab,ao,aq⟩,x⟩:=p;have:=cC _ _ ho
     show(w1.setCell _ x).heap[b]?=_
     exact jT b (by rw[show ab=r from this];exact hb)) (by rw[hz,e];exact aR j x1)
  refine⟨v,sh,y,_,false,h,fun a ha=>?_,fun b hb=>?_,a1,a2,K _ (nR e _) (s.trans (N2 _ _))⟩
  ·have:=hl a ha
   unfold World.cell? World.frozen? at this⊢;rw[e];exact this
  ·have:=hq b hb
   unfold World.shape? at this⊢;rw[e];exact this
theorem Mt {w:World}{a:Addr}{x:Value}{b:Nat}{s:TypeId×Nat}(h:w.shape? b=some s):(w.setCell a x).shape? b=some s:=by
 unfold World.shape? World.setCell at*;simp only[Array.getElem?_modify];by_cases hc:a.block=b
 ·rw[if_pos hc]
  cases ho:w.heap[b]? with
  |none=>rw[ho]at h;cases h
  |some o=>
   rw[ho]at h
   cases o with
   |cells c el fz=>
    rw[←h];show some (el,(if a.spot.isSome then c else c.setIfInBounds a.off x).size)=some (el,c.size)
    split
    ·rfl
    ·rw[Array.size_setIfInBounds]
   |_=>cases h
 ·rw[if_neg hc];exact h
theorem iP {w w1:World}(h:w1.heap=w.heap)(b:Nat):w1.shape? b=w.shape? b:=by
 unfold World.shape?;rw[h]
theorem eE {w w1:World}(h:w1.heap=w.heap)(a:Addr):w1.cell? a=w.cell? a∧w1.frozen? a=w.frozen? a:=by
 unfold World.cell? World.frozen?;rw[h];exact⟨rfl,rfl⟩
end
section
variable {Q:Gh→World→Trace→Nat→Outcome→World→Prop}{γ:Gh}{w:World}{r:Nat}{c:Frame}{cs:List Frame}
theorem Q1 {e:TypeId}{n:Nat}(hn:γ.ph=none)(hs:¬γ.sh r)(hB:r<w.heap.size)(hc:w.cell? ⟨r,0,none⟩=some (.int .i32 0)∧w.frozen? ⟨r,0,none⟩=false)(hq:w.shape? r=some (e,n+1))
  (K:∀w',w'.heap=(w.setCell ⟨r,0,none⟩ (.int .i32 1)).heap→bq w w'→MP (sys Tryz.prog) Q false 0 γ w' (iY c cs)):MP (sys Tryz.prog) Q false 0 γ w (W7 Tryz.prog r c cs):=by
 refine bN (n:=6) (QJ r c cs) hn fun w1 e1 s1=>?_;refine vL (Ud r c cs) hn (fun j e he=>by simp at he;subst he;exact eV rfl) fun w2 e2 s2=>?_
 refine bN (n:=6) (QK r c cs) hn fun w3 e3 s3=>?_;have h3:w3.heap=w.heap:=e3.trans (e2.trans e1)
 have h3z:r<w3.heap.size:=by rw[h3];exact hB
 refine IK (r:=r) (Ue r c cs e (n+1)) hn hs (fun a x h=>by cases h;rfl) (fun a ha=>?_) (fun b hb=>?_) (fun j h0 e he=>?_) fun w4 e4 s4=>?_
 ·have:a=⟨r,0,none⟩:=by simpa using ha
  subst this;rw[(eE h3 _).1,(eE h3 _).2];exact hc
 ·have:b=r:=by simpa using hb
  subst this;rw[iP h3];exact hq
 ·simp at he
  rcases he with rfl|rfl<;>exact II hn h0 hs h3z
 have h4:w4.heap=(w.setCell ⟨r,0,none⟩ (.int .i32 1)).heap:=e4.trans (nR h3 (some (⟨r,0,none⟩,.int .i32 1)))
 have h4z:w4.heap.size=w.heap.size:=by rw[h4];exact b9
 refine bN (n:=5) (QL r c cs) hn fun w5 e5 s5=>?_;refine vL (W9 r c cs) hn (fun j e he=>by simp at he;subst he;exact eV rfl) fun w6 e6 s6=>?_
 refine bN (n:=2) (QM r c cs) hn fun w7 e7 s7=>?_;have h7:w7.heap=w4.heap:=e7.trans (e6.trans e5)
 refine IK (r:=r) (QN r c cs e n) hn hs (fun a x h=>by cases h) (fun a ha=>by cases ha) (fun b hb=>?_) (fun j h0 e he=>by simp at he) fun w8 e8 s8=>?_
 ·have:b=r:=by simpa using hb
  subst this;rw[iP h7,iP h4];exact Mt hq
 obtain⟨es,h9,rfl⟩:=Uf r c cs;have h8:w8.heap=w4.heap:=e8.trans h7
 refine vL h9 hn (fun j e he=>?_) fun w9 e9 s9=>?_
 ·simp at he
  subst he;refine⟨fun x hx=>(by cases hx),?_,nofun⟩
  show r<_
  rw[h8,h4z];exact hB
 refine bN (n:=5) (QO r c cs) hn fun wA eA sA=>?_;rw[Ug];exact K wA (eA.trans (e9.trans (h8.trans h4))) (((((((((s1.trans s2).trans s3).trans s4).trans s5).trans s6).trans s7).trans s8).trans s9).trans sA)
theorem IL {e:TypeId}{n:Nat}(hn:γ.ph=none)(hs:¬γ.sh r)(hB:r<w.heap.size)(hc:w.cell? ⟨r,0,none⟩=some (.int .i32 1)∧w.frozen? ⟨r,0,none⟩=false)(hq:w.shape? r=some (e,n+1))(hm:c.mode= .returning)
  (K:∀w',w'.heap=(w.setCell ⟨r,0,none⟩ (.int .i32 0)).heap→bq w w'→MP (sys Tryz.prog) Q false 0 γ w' (Xa c cs)):MP (sys Tryz.prog) Q false 0 γ w (W8 Tryz.prog r .deferred c cs):=by
 obtain⟨c',rfl⟩:∃c':Frame,c={c' with mode:= .returning}:=⟨c,by rw[←hm]⟩
 refine bN (n:=11) (QP r _ cs) hn fun w1 e1 s1=>?_;refine IK (r:=r) (W_ r _ cs) hn hs (fun a x h=>by cases h) (fun a ha=>?_) (fun b hb=>by cases hb) (fun j h0 e he=>by simp at he) fun w2 e2 s2=>?_
 ·have:a=⟨r,0,none⟩:=by simpa using ha
  subst this;rw[(eE e1 _).1,(eE e1 _).2];exact hc
 refine bN (n:=3) (QQ r _ cs) hn fun w3 e3 s3=>?_;have h3:w3.heap=w.heap:=e3.trans (e2.trans e1)
 refine IK (r:=r) (QR r _ cs e n) hn hs (fun a x h=>by cases h) (fun a ha=>by cases ha) (fun b hb=>?_) (fun j h0 e he=>by simp at he) fun w4 e4 s4=>?_
 ·have:b=r:=by simpa using hb
  subst this;rw[iP h3];exact hq
 have h4:w4.heap=w.heap:=e4.trans h3
 refine vL (Uh r _ cs) hn (fun j e he=>?_) fun w5 e5 s5=>?_
 ·simp at he
  subst he;refine⟨fun x hx=>(by cases hx),?_,nofun⟩
  show r<_
  rw[h4];exact hB
 refine bN (n:=1) (QS r _ cs) hn fun w6 e6 s6=>?_;refine vL (Ui r _ cs) hn (fun j e he=>by simp at he;subst he;exact eV rfl) fun w7 e7 s7=>?_
 refine bN (n:=5) (QT r _ cs) hn fun w8 e8 s8=>?_;have h8:w8.heap=w.heap:=e8.trans (e7.trans (e6.trans (e5.trans h4)))
 have h8z:r<w8.heap.size:=by rw[h8];exact hB
 refine IK (r:=r) (Uj r _ cs) hn hs (fun a x h=>by cases h;rfl) (fun a ha=>?_) (fun b hb=>by cases hb) (fun j h0 e he=>?_) fun w9 e9 s9=>?_
 ·have:a=⟨r,0,none⟩:=by simpa using ha
  subst this;rw[(eE h8 _).1,(eE h8 _).2];exact hc
 ·simp at he
  rcases he with rfl|rfl<;>exact II hn h0 hs h8z
 have h9:w9.heap=(w.setCell ⟨r,0,none⟩ (.int .i32 0)).heap:=e9.trans (nR h8 (some (⟨r,0,none⟩,.int .i32 0)))
 refine bN (n:=10) (QU r _ cs) hn fun wA eA sA=>?_;refine vL (Uk r _ cs) hn (fun j e he=>by simp at he;subst he;exact eV rfl) fun wB eB sB=>?_
 refine bN (n:=5) (Mm r c' cs) hn fun wC eC sC=>?_;rw[QV];exact K wC (eC.trans (eB.trans (eA.trans h9))) (((((((((((s1.trans s2).trans s3).trans s4).trans s5).trans s6).trans s7).trans s8).trans s9).trans sA).trans sB).trans sC)
set_option maxRecDepth 100000
theorem Bj (tm:Array Value)(c:Frame)(cs:List Frame):mute Tryz.prog 1 (Xa {fn:=bp,tmps:=tm,todo:=[],defers:=[],mode:= .returning,kind:= .normal} (c::cs))=true:=by kernel_rfl
theorem UF (tm:Array Value)(c:Frame)(cs:List Frame):aL Tryz.prog 1 (Xa {fn:=bp,tmps:=tm,todo:=[],defers:=[],mode:= .returning,kind:= .normal} (c::cs))=iY c cs:=by kernel_rfl
theorem UG {e:TypeId}{n:Nat}{tm:Array Value}(hn:γ.ph=none)(hs:¬γ.sh r)(hB:r<w.heap.size)(hc:w.cell? ⟨r,0,none⟩=some (.int .i32 1)∧w.frozen? ⟨r,0,none⟩=false)(hq:w.shape? r=some (e,n+1))
  (K:∀w',w'.heap=(w.setCell ⟨r,0,none⟩ (.int .i32 0)).heap→bq w w'→MP (sys Tryz.prog) Q false 0 γ w' (iY c cs)):MP (sys Tryz.prog) Q false 0 γ w {frame:={fn:=bp,tmps:=tm,todo:=[],defers:=[tI r],mode:= .run,kind:= .normal},callers:=c::cs,status:= .running,dying:=none}:=by
 refine bN (n:=1) (QW r (c::cs) tm) hn fun w1 e1 s1=>?_;rw[Iz];refine IL hn hs (by rw[e1];exact hB) (by rw[(eE e1 _).1,(eE e1 _).2];exact hc) (by rw[iP e1];exact hq) rfl fun w2 e2 s2=>?_
 refine bN (n:=0) (Bj tm c cs) hn fun w3 e3 s3=>?_;rw[UF];exact K w3 (e3.trans (e2.trans (nR e1 (some (⟨r,0,none⟩,.int .i32 0))))) ((s1.trans s2).trans s3)
theorem Mu {e:TypeId}{n:Nat}{b x:Value}(hn:γ.ph=none)(hs:¬γ.sh r)(hB:r<w.heap.size)(hc:w.cell? ⟨r,0,none⟩=some (.int .i32 0)∧w.frozen? ⟨r,0,none⟩=false)(hq:w.shape? r=some (e,n+1))
  (K:∀w',w'.heap=(w.setCell ⟨r,0,none⟩ (.int .i32 1)).heap→bq w w'→MP (sys Tryz.prog) Q false 0 γ w' {frame:={fn:=bp,tmps:=nP r b x,todo:=[.code Tw.AE],defers:=[tI r],mode:= .run,kind:= .normal},callers:=cs,status:= .running,dying:=none}):MP (sys Tryz.prog) Q false 0 γ w (Xb r b x cs):=by
 refine bN (n:=6) (QY r b x cs) hn fun w1 e1 s1=>?_;rw[QZ];refine Q1 hn hs (by rw[e1];exact hB) (by rw[(eE e1 _).1,(eE e1 _).2];exact hc) (by rw[iP e1];exact hq) fun w2 e2 s2=>?_
 refine bN (n:=7) (Q0 r b x cs) hn fun w3 e3 s3=>?_;have h4:=Xc r b x cs;unfold aq4 at h4;rw[h4];exact K w3 (e3.trans (e2.trans (nR e1 (some (⟨r,0,none⟩,.int .i32 1))))) ((s1.trans s2).trans s3)
end
end Go.Proofs.YtlhohdjniaebbaaGreat.Sr
namespace Go.Proofs.YtlhohdjniaebbaaGreat.Sr
open Go Go.Conc Go.ConcN
noncomputable def Mw (good:FuncId→Bool):Bool:=cw Tryz.prog good false (.code Tw.AE)
section
variable {spec good:FuncId→Bool}{N0:Nat}{w0:World}{Q:Gh→World→Trace→Nat→Outcome→World→Prop}
set_option maxRecDepth 100000
theorem UH (a b:Value)(cs:List Frame):uo (Ul a b cs)=true:=by kernel_rfl
theorem UI (r:Nat)(b x:Value)(cs:List Frame):uo (Um r b x cs)=true:=by kernel_rfl
theorem zg {w:World}{a:Addr}{o:Obj}(h:a.block<w.heap.size){w1:World}(e:w1.heap=w.heap.push o):w1.cell? a=w.cell? a∧w1.frozen? a=w.frozen? a∧w1.shape? a.block=w.shape? a.block:=by
 have hh:w1.heap[a.block]?=w.heap[a.block]?:=by rw[e,Array.getElem?_push,if_neg (by omega)]
 unfold World.cell? World.frozen? World.shape?;rw[hh];exact⟨rfl,rfl,rfl⟩
theorem Cd {w:World}{r:Nat}{x:Value}{us:Array Value}{e:TypeId}{fz:Nat×Nat}(h:w.heap[r]?=some (.cells us e fz))(hc:w.cell? ⟨r,0,none⟩=some x):∃n,w.shape? r=some (e,n+1):=by
 have h0:us[0]?=some x:=by
  unfold World.cell? at hc;simpa[h]using hc
 have aj:=(Array.getElem?_eq_some_iff.1 h0).1;refine⟨us.size-1,?_⟩;unfold World.shape?;simp only[h];rw[show us.size-1+1=us.size from by omega]
theorem AR.Xi {m:aD}(n:Nat):AR m (Array.replicate n undef) (Array.replicate n undef):=⟨rfl,fun i h1 h2=>by rw[Array.getElem_replicate];exact .undef⟩
theorem UJ (r:Nat)(b x:Value):(nP r b x).getD C2 undef= .pointer (some ⟨r,0,none⟩):=by kernel_rfl
theorem UK {m:aD}{r t:Nat}{b b' x x':Value}(h:m r=some t)(hb:VR m b b')(hx:VR m x x'):AR m (nP r b x) (nP t b' x'):=by
 have hp:VR m (.pointer (some ⟨r,0,none⟩)) (.pointer (some ⟨t,0,none⟩)):= .ptr ⟨h,rfl,rfl,rfl⟩
 unfold nP;refine AR.append ?_ (AR.Xi _);exact((((((((((AR.nil.push hp).push hb).push .undef).push hx).push hp).push hp).push hp).push .undef).push hp).push hp).push hp
theorem Xj (B:fg nO Tryz.prog Tw.prog.funcs spec good)(hk:Mw good=true){us vs:Array Value}{fs' fs:List Frame}{m:aD}{γ:Gh}{w v:World}(fc:spec bp=true)(hg:m.good=good)(rh:AR m us vs)(jj:∀n,cA bp=some n→us.size=n)(hs:h_ Tryz.prog spec m fs' fs)(cv:fs'≠[])(hw:WR m (v.on w.tape w.drawn) w)(hM:MI N0 m v w0 γ w)(hE:Ends Tw.prog (aO Tw.prog fF) (Frame.enter Tw.prog bp us .normal) (fs'++[bz]) v)
  (K:∀{n:aD} {f1' f1:Frame} {v1 w1:World} {γ1:Gh},jJ Tw.prog (aO Tw.prog fF) (Frame.enter Tw.prog bp us .normal,fs'++[bz],v) (f1',fs'++[bz],v1)→Ends Tw.prog (aO Tw.prog fF) f1' (fs'++[bz]) v1→n.good=good→FR Tryz.prog spec n f1' f1→h_ Tryz.prog spec n fs' fs→WR n (v1.on w1.tape w1.drawn) w1→MI N0 n v1 w0 γ1 w1→MP (sys Tryz.prog) Q false 0 γ1 w1 (G f1 fs)):
  MP (sys Tryz.prog) Q false 0 γ w (G (Frame.enter Tryz.prog bp vs .normal) fs):=by
 subst hg;obtain⟨r,b,rfl,Z2⟩:Ua us v.heap:=by
  obtain⟨v',e1,h1⟩:=sN rfl bS jj rfl (lI B hs) hE;have:=Mi _ _ h1
  rwa[e1]at this
 obtain⟨hc,kH⟩:=Z2 v rfl;obtain⟨z0,z1,rfl⟩:∃z0 z1,vs= #[z0,z1]:=by
  have h2:vs.size=2:=rh.1.symm
  obtain⟨l⟩:=vs;rcases l with _|⟨z0,_|⟨z1,_|⟨z2,l⟩⟩⟩<;>simp at h2
  exact⟨z0,z1,rfl⟩
 have Er:VR m (.pointer (some ⟨r,0,none⟩)) z0:=rh.2 0 (by simp) (by simp)
 have tG:VR m b z1:=rh.2 1 (by simp) (by simp)
 cases Er with
 | @ptr _ q hq=>
 obtain⟨t,qo,qs⟩:=q;obtain⟨uj,FP,_,T_⟩:=hq;dsimp only at uj FP T_
 subst FP T_;obtain⟨Yq,UL⟩:r<v.heap.size∧t<w.heap.size:=hw.lt uj;obtain⟨T,d,f1⟩:=Gc bS hE 0;have f2:=Ends.run bS (g:=K3 (.pointer (some ⟨r,0,none⟩)) b (fs'++[bz]) 0) (Mn ..) f1.1;have f3:=Ends.news bS (g:=Ul (.pointer (some ⟨r,0,none⟩)) b (fs'++[bz])) (u:=v.on T d) (UH ..) (Un ..) (Uo ..) f2.1 w.tape w.drawn;have f4:=Ends.run bS (g:=Z0 r b (.pointer (some ⟨v.heap.size,0,none⟩)) (fs'++[bz])) (Mo ..) f3.1;have f5:=Ends.Yo bS (g:=Um r b (.pointer (some ⟨v.heap.size,0,none⟩)) (fs'++[bz])) (UI ..) (Uq ..) (Ur ..) (.inr ⟨rfl,rfl⟩) f4.1 w.tape w.drawn (fun a ha=>by
  have:a=⟨r,0,none⟩:=by simpa using ha
  subst this;obtain⟨c1,c2,_⟩:=zg (w:=v) (a:=⟨r,0,none⟩) (o:= .cells b.cells 54) Yq (w1:={(v.on T d).on w.tape w.drawn with heap:=(v.on T d).heap.push (.cells b.cells 54)}) rfl
  exact⟨c1.trans hc,c2.trans kH⟩) (fun b hb=>by cases hb)
 have f6:=Ends.run bS (g:=Z1 r b (.pointer (some ⟨v.heap.size,0,none⟩)) (fs'++[bz])) (Mp ..) f5.1;rw[Us]at f6;have hF:=f1.trans (f2.trans (f3.trans (f4.trans (f5.trans f6))));have hD:=hF.2.resolve_left fun e=>by
  have h1:=congrArg (fun z:Frame×List Frame×World=>z.2.2.heap.size) e
  have h3:(v.heap.push (.cells b.cells 54)).size=v.heap.size:=(IJ _ _).symm.trans h1
  simp at h3
 obtain⟨o,p,ho,hp,aW⟩:=hw.iX r t uj;have Er:v.heap[r]?=some o:=ho
 obtain⟨us,xs,el,fz,gz,rfl,rfl, -, -⟩:∃us vs e fz gz,o= .cells us e fz∧p= .cells vs e gz∧True∧True:=by
  rcases aW with⟨us,vs,e,fz,gz,h1,h2,_⟩|⟨x,y,l,h1,h2,_⟩
  ·exact⟨us,vs,e,fz,gz,h1,h2,trivial,trivial⟩
  ·subst h1
   unfold World.cell? at hc;simp[Er]at hc
 obtain⟨Bm,_,Bn⟩:=hw.cell (a:=⟨r,0,none⟩) (b:=⟨t,0,none⟩) ⟨uj,rfl,rfl,rfl⟩;obtain⟨y,hy,Z3⟩:=Bm _ hc
 cases Z3;have Z4:=Bn kH;obtain⟨sn,ni⟩:=Cd hp hy;obtain⟨hle,nf⟩:=hw.new (ko.cells (e:=54) (Fz.refl (0,0)) tG.cells);refine bN (n:=1) (QX ..) hM.ph fun w1 e1 s1=>?_;refine MP.uh (r:=w.heap.size) (Up ..) hM.ph (by rw[e1]) fun w2 e2 s2=>?_
 have Z5:w2.heap=w.heap.push (.cells z1.cells 54):=by rw[e2,e1]
 obtain⟨c1,c2,c3⟩:=zg (w:=w) (a:=⟨t,0,none⟩) UL Z5;refine Mu (r:=t) (b:=z1) (x:= .pointer (some ⟨w.heap.size,0,none⟩)) (e:=el) (n:=sn) hM.ph (hM.sh _ _ uj) (by rw[Z5,Array.size_push];omega) ⟨c1.trans hy,c2.trans Z4⟩ (c3.trans ni) fun w3 e3 s3=>?_
 have aY:=nf.set (a:=⟨r,0,none⟩) (b:=⟨t,0,none⟩) ⟨hle.sub _ _ uj,rfl,rfl,rfl⟩ (.int .i32 1);have hS:bq w w3:=s1.trans (s2.trans s3)
 have h3:w3.heap=(World.setCell {w with heap:=w.heap.push (.cells z1.cells 54)} ⟨t,0,none⟩ (.int .i32 1)).heap:=by
  rw[e3];unfold World.setCell;simp only[Z5]
 have ht0:N0≤t:=by
  refine Nat.le_of_not_lt fun h=>?_;have:=lA (a:=⟨r,0,none⟩) (hM.jb r t uj h) hc
  rw[kH]at this;cases this
 have hx:VR (m.put v.heap.size w.heap.size) (.pointer (some ⟨v.heap.size,0,none⟩)) (.pointer (some ⟨w.heap.size,0,none⟩)):= .ptr ⟨xV,rfl,rfl,rfl⟩
 have hAR:AR (m.put v.heap.size w.heap.size) (nP r b (.pointer (some ⟨v.heap.size,0,none⟩))) (nP t z1 (.pointer (some ⟨w.heap.size,0,none⟩))):=UK (hle.sub _ _ uj) (tG.mono hle) hx
 have gp:∀x∈[Item.code Tw.AE],cw Tryz.prog (m.put v.heap.size w.heap.size).good false x=true:=fun x hx=>by
  obtain rfl:=List.mem_singleton.1 hx
  exact hk
 have hT:lH spec (m.put v.heap.size w.heap.size) bp .run (nP r b (.pointer (some ⟨v.heap.size,0,none⟩))) [.code yq] [tI t]:= .ap rfl (hle.sub _ _ uj) rfl fc (UJ ..)
 have hFR:FR Tryz.prog spec (m.put v.heap.size w.heap.size) (aM bp (nP r b (.pointer (some ⟨v.heap.size,0,none⟩))) [.code Tw.AE,.code yq] .run) (fb bp (nP t z1 (.pointer (some ⟨w.heap.size,0,none⟩))) [.code Tw.AE] .run [tI t]):=
  FR.mk bp [.code Tw.AE] .run hT hAR gp (.inl rfl) rfl rfl
 show MP (sys Tryz.prog) Q false 0 γ w3 (G (fb bp (nP t z1 (.pointer (some ⟨w.heap.size,0,none⟩))) [.code Tw.AE] .run [tI t]) fs)
 refine K (n:=m.put v.heap.size w.heap.size) (γ1:=γ) hD hF.1 rfl hFR (hs.mono hle) ?_ ?_
 ·refine⟨aY.inj,fun r' t' h=>?_,hS.2.1.trans hw.os,rfl,rfl⟩
  obtain⟨o,p,g1,g2,g3⟩:=aY.iX r' t' h;exact⟨o,p,g1,by rw[h3];exact g2,g3⟩
 ·have Q2:∀{i:Nat},i<w.heap.size→i≠t→w3.heap[i]?=w.heap[i]?:=fun {i} hi cv=>by
   rw[h3,jT i cv];show(w.heap.push _)[i]?=_
   rw[Array.getElem?_push,if_neg (by omega)]
  have hz:w3.heap.size=w.heap.size+1:=by
   rw[h3,b9];show(w.heap.push _).size=_
   rw[Array.size_push]
  refine⟨hM.ph,fun r' t' h Yr=>?_,hM.QB,fun t' h=>?_,fun r' t' h aj=>?_,hM.same.trans hS,by rw[hz];have:=hM.size;omega,fun b hb=>by rw[hz];have:=hM.cX b hb;omega⟩
  ·rcases jo h with⟨_,h2⟩|h2
   ·have:=hM.cX _ Yr;omega
   ·exact hM.sh _ _ h2 Yr
  ·rw[Q2 (by have:=hM.size;omega) (by omega)]
   exact hM.old t' h
  ·rcases jo h with⟨_,h2⟩|h2
   ·have:=hM.size;omega
   ·have hf:=hM.jb r' t' h2 aj
    have UM:r'≠r:=by
     rintro rfl;have:=lA (a:=⟨r',0,none⟩) hf hc
     rw[kH]at this;cases this
    refine hf.same ?_;refine(jT (w:={(v.on T d).on w.tape w.drawn with heap:=v.heap.push (.cells b.cells 54)}) (a:=⟨r,0,none⟩) (x:= .int .i32 1) r' UM).trans ?_
    show(v.heap.push _)[r']?=_
    rw[Array.getElem?_push,if_neg (by have:=hf.lt;omega)]
theorem Mx (B:fg nO Tryz.prog Tw.prog.funcs spec good){a b c d e f:Value}{r t:Nat}{ts:List Value}{tm:Array Value}{cs:List Frame}{m:aD}{v w:World}(hg:m.good=good)(ha:AR m (nQ a b c d e f r ts) tm)(hr:m r=some t)(hw:WR m (v.on w.tape w.drawn) w)
  (hE:Ends Tw.prog (aO Tw.prog fF) (Uv (nQ a b c d e f r ts) cs).frame cs v):v.cell? ⟨r,0,none⟩=some (.int .i32 1)∧v.frozen? ⟨r,0,none⟩=false∧kM Tw.prog (aO Tw.prog fF) ((Uv (nQ a b c d e f r ts) cs).frame,cs,v) ((IB a b c d e f r ts cs).frame,cs,World.setCell (v.on w.tape w.drawn) ⟨r,0,none⟩ (.int .i32 0)):=by
 subst hg;have f1:=Ends.run bS (g:=Uv (nQ a b c d e f r ts) cs) (Mq ..) hE;have f1':Ends Tw.prog (aO Tw.prog fF) (aM bp (nQ a b c d e f r ts) [.inRegion mO [0,1],.code Cc] .run) cs v:=by
  have h1:Ends Tw.prog (aO Tw.prog fF) (Es a b c d e f r ts cs).frame (Es a b c d e f r ts cs).callers v:=f1.1
  rw[N1]at h1;exact h1
 obtain⟨o,ho,nf,ok⟩:=Xf a b c d e f r ts;have jD:=oj (F:=Tw.prog.funcs) B.rt B.globals B.fns (ha.oper B.bJ (ds:=[])) o (ok _) fun f=>⟨rfl,rfl⟩
 have ht:eP Tw.prog (aM bp (nQ a b c d e f r ts) [.inRegion mO [0,1],.code Cc] .run) cs (v.on w.tape w.drawn):= .op ho nf (jD.sf hw) (vA jD hw)
 have Z6:Es a b c d e f r ts cs=G (aM bp (nQ a b c d e f r ts) [.inRegion mO [0,1],.code Cc] .run) cs:=N1 ..
 obtain⟨_,hbo,_⟩:=hw.cell (a:=⟨r,0,none⟩) (b:=⟨t,0,none⟩) ⟨hr,rfl,rfl,rfl⟩;obtain⟨_,_,_,cC⟩:=ri (ID a b c d e f r ts cs) true (v.on w.tape w.drawn);rw[Z6]at cC;have hx:∃x,v.cell? ⟨r,0,none⟩=some x:=by
  cases hv:v.cell? ⟨r,0,none⟩with
  |some x=>exact⟨x,rfl⟩
  |none=>
   exfalso
   have fM:(v.on w.tape w.drawn).cell? ⟨r,0,none⟩=none:=hv
   have hz:∃z,(NZ a b c d e f r ts cs).runT Tw.prog (v.on w.tape w.drawn) #[]=(.halt (.stuck z) (v.on w.tape w.drawn),#[]):=by
    rw[IE];obtain⟨o,hb,⟨us,e,fz,rfl⟩|⟨z,l,rfl⟩⟩:=hbo<;>
    simp[-Sem.runT_eq,Sem.runT,fM,World.farLoad,hb,World.noCell]
   obtain⟨z,hz⟩:=hz;obtain⟨o',w',aQ,hh⟩:=fq (fr:=aM bp (nQ a b c d e f r ts) [.inRegion mO [0,1],.code Cc] .run) (cs:=cs) hz (.inl ⟨z,rfl⟩)
   cases f1' with
   |stop h=>exact eU bS rfl h
   |step k1 k2=>
    obtain⟨_,_,_,_,hgo⟩:=k1 _ _ ht;have:=cC.symm.trans hgo
    have h5:=hh.symm.trans this
    cases h5
 obtain⟨x,hx⟩:=hx;have hY:(v.on w.tape w.drawn).cell? ⟨r,0,none⟩=some x:=hx
 have dA:(NZ a b c d e f r ts cs).runT Tw.prog (v.on w.tape w.drawn) #[]=(.ok (.value x) (v.on w.tape w.drawn),#[⟨.cell ⟨r,0,none⟩,false,false⟩]):=by
  rw[IE];simp[-Sem.runT_eq,Sem.runT,hY]
 have hgo:stepG Tw.prog true (G (aM bp (nQ a b c d e f r ts) [.inRegion mO [0,1],.code Cc] .run) cs) (v.on w.tape w.drawn)= .go (G (oC a b c d e f r ts cs x).frame (oC a b c d e f r ts cs x).callers) (v.on w.tape w.drawn) (seen Tw.prog (Es a b c d e f r ts cs).frame.fn #[⟨.cell ⟨r,0,none⟩,false,false⟩]):=by
  rw[←Z6];exact gL (ID a b c d e f r ts cs) true dA
 obtain⟨k1,k2⟩:=f1'.go (eU bS rfl) ht hgo;have f2:kM Tw.prog (aO Tw.prog fF) ((Es a b c d e f r ts cs).frame,cs,v) ((oC a b c d e f r ts cs x).frame,(oC a b c d e f r ts cs x).callers,v.on w.tape w.drawn):=by
  rw[Z6];exact⟨k1,.inr k2⟩
 obtain⟨n,rfl⟩:∃n,x= .int .i32 n:=by
  cases hb:Uw x with
  |false=>exact absurd k1 (Ends.bad bS (IF ..) (Ux ..) (Uy a b c d e f r ts cs hb))
  |true=>
   cases x with
   |int k n=>cases k<;>first|exact⟨n,rfl⟩|cases hb
   |_=>cases hb
 obtain rfl:n=1:=by
  refine Classical.byContradiction fun hn=>?_;have hq:=Uz a b c d e f r ts cs n;rw[show(n==1)=false from by simpa using hn]at hq
  have hs:∀w,stepG Tw.prog true (G (oC a b c d e f r ts cs (.int .i32 n)).frame (oC a b c d e f r ts cs (.int .i32 n)).callers) w= .go (G (aZ (oC a b c d e f r ts cs (.int .i32 n)) (.bool false)).frame (aZ (oC a b c d e f r ts cs (.int .i32 n)) (.bool false)).callers) w #[]:=fun w=>(ee hq).2 true w
  have g1:=k1.bD (eU bS (qe (IF a b c d e f r ts cs (.int .i32 n))).2.1) hs;have g2:=Ends.run bS (g:=aZ (oC a b c d e f r ts cs (.int .i32 n)) (.bool false)) (Xg ..) g1.1;rw[IG]at g2;exact(Xd bS g2.1).2 rfl
 have f3:=Ends.run bS (g:=oC a b c d e f r ts cs (.int .i32 1)) (Mr ..) k1;have f3':Ends Tw.prog (aO Tw.prog fF) (ze a b c d e f r ts cs).frame (ze a b c d e f r ts cs).callers (v.on w.tape w.drawn):=f3.1
 have Km:v.frozen? ⟨r,0,none⟩=false:=by
  cases hf:v.frozen? ⟨r,0,none⟩with
  |false=>rfl
  |true=>
   exfalso
   have vM:(v.on w.tape w.drawn).frozen? ⟨r,0,none⟩=true:=hf
   have hz:∃u,(∀g,u≠.initOrder g)∧(IC a b c d e f r ts cs).runT Tw.prog (v.on w.tape w.drawn) #[]=(.halt (.unsupported u) (v.on w.tape w.drawn),#[]):=by
    rw[UB];simp only[Sem.runT,hY,vM,if_true];exact⟨.unsafePointer _,fun g h=>(by cases h),rfl⟩
   obtain⟨u,hu,hz⟩:=hz;obtain⟨m1,m2,m3,m4⟩:=qe (IH a b c d e f r ts cs);have ht3:eP Tw.prog (ze a b c d e f r ts cs).frame (ze a b c d e f r ts cs).callers (v.on w.tape w.drawn):=um (zf ..) m4 m3 (by
    rw[Xh];simp only[SF,hY,vM];exact .inr (.inl trivial)) (by rw[hz];exact hu) _
   cases f3' with
   |stop h=>exact eU bS m2 h
   |step k1 k2=>
    obtain⟨_,_,_,_,hgo⟩:=k1 _ _ ht3;obtain⟨_,_,_,Q3⟩:=ri (zf a b c d e f r ts cs) true ((v.on w.tape w.drawn).on w.tape w.drawn);rw[←nN m1,Q3]at hgo;obtain⟨o',w',aQ,hh⟩:=fq (fr:=(ze a b c d e f r ts cs).frame) (cs:=(ze a b c d e f r ts cs).callers) hz (.inr ⟨u,rfl,hu⟩);have h5:=hh.symm.trans hgo
    cases h5
 have f4:=Ends.Yo bS (g:=ze a b c d e f r ts cs) (IH ..) (zf ..) (UA ..) (.inr ⟨rfl,rfl⟩) f3' w.tape w.drawn (fun q hq=>by
  have:q=⟨r,0,none⟩:=by simpa using hq
  subst this;exact⟨hx,Km⟩) (fun b hb=>by cases hb)
 exact⟨hx,Km,f1.trans (f2.trans (f3.trans f4))⟩
theorem Xk (B:fg nO Tryz.prog Tw.prog.funcs spec good){f' f:Frame}{fs' fs:List Frame}{m:aD}{γ:Gh}{w v:World}(hg:m.good=good)(hf:FR Tryz.prog spec m f' f)(h0:f.todo=[])(hd:f.defers≠[])(hs:h_ Tryz.prog spec m fs' fs)(hw:WR m (v.on w.tape w.drawn) w)(hM:MI N0 m v w0 γ w)(hE:Ends Tw.prog (aO Tw.prog fF) f' (fs'++[bz]) v)
  (K:∀{n:aD} {f1' f1:Frame} {bM gs:List Frame} {v1 w1:World} {γ1:Gh},jJ Tw.prog (aO Tw.prog fF) (f',fs'++[bz],v) (f1',bM++[bz],v1)→Ends Tw.prog (aO Tw.prog fF) f1' (bM++[bz]) v1→n.good=good→FR Tryz.prog spec n f1' f1→h_ Tryz.prog spec n bM gs→WR n (v1.on w1.tape w1.drawn) w1→MI N0 n v1 w0 γ1 w1→MP (sys Tryz.prog) Q false 0 γ1 w1 (G f1 gs)):
  MP (sys Tryz.prog) Q false 0 γ w (G f fs):=by
 obtain @⟨fn,tm',tm,todo,mode,tl,ds,dR,ha,ok,hm,rfl,rfl⟩:=hf
 obtain rfl:todo=[]:=h0
 cases dR with
 |no=>exact absurd rfl hd
 | @ap r t V3 zh Z7 fc ht=>
 subst V3 Z7;obtain⟨x0,x1,x2,x3,x4,x5,ts,rfl⟩:=Xe ht;obtain⟨hc,kH,hF⟩:=Mx B hg ha zh hw (cs:=fs'++[bz]) hE
 cases hs with
 |nil=>
  exfalso
  have f2:=Ends.run bS (g:=IB x0 x1 x2 x3 x4 x5 r ts [bz]) (UC ..) hF.1;rw[UD]at f2;have h1:Ends Tw.prog (aO Tw.prog fF) (aM bp (nQ x0 x1 x2 x3 (.int .i32 1) (.bool true) r ts) [] .returning) [bz] (World.setCell (v.on w.tape w.drawn) ⟨r,0,none⟩ (.int .i32 0)):=f2.1
  cases h1 with
  |stop h=>
   obtain⟨_,e,T',d',h1,h2⟩:=h
   cases e with
   |returned x=>
    obtain⟨_,_,_,cM,q1,q2⟩:=h2;have y5:Tw.prog.funcs[bp]?=some cM:=q1
    rw[Tw.tD]at y5;obtain rfl:=Option.some.inj y5
    have q3:=wO (nQ x0 x1 x2 x3 (.int .i32 1) (.bool true) r ts) ((World.setCell (v.on w.tape w.drawn) ⟨r,0,none⟩ (.int .i32 0)).on T' d') #[];have q4:=Sem.runT_fst Tw.prog (results Tw.OC (nQ x0 x1 x2 x3 (.int .i32 1) (.bool true) r ts)) ((World.setCell (v.on w.tape w.drawn) ⟨r,0,none⟩ (.int .i32 0)).on T' d') #[];rw[q3]at q4;have q5:=q4.trans q2;injection q5 with q5
    subst q5;rcases h1 with h|⟨_,h,_⟩|⟨_,h,_⟩<;>cases h
   |panicked c=>have:=h2.1;cases this
   |outgrown=>exact bS _ h1
  |step k1 k2=>
   have ht:eP Tw.prog (aM bp (nQ x0 x1 x2 x3 (.int .i32 1) (.bool true) r ts) [] .returning) [bz] ((World.setCell (v.on w.tape w.drawn) ⟨r,0,none⟩ (.int .i32 0)).on w.tape w.drawn):= .ret Tw.tD (zd (es:= #[]) (y:=(.tuple #[],#[])) (by kernel_rfl) _)
   have hc:=k2 _ _ _ _ _ _ ht (k_ Tw.tD (wO _ _ _));rw[FF]at hc;exact BO _ hc
 | @cons c' c bM gs Xl yw bW=>
 obtain⟨dd,ds,W4⟩:∃d ds,bM++[bz]=d::ds:=by cases bM with
  |nil=>exact⟨_,_,rfl⟩
  |cons d ds=>exact⟨_,_,rfl⟩
 have f2:kM Tw.prog (aO Tw.prog fF) ((IB x0 x1 x2 x3 x4 x5 r ts (c'::bM++[bz])).frame,c'::bM++[bz],World.setCell (v.on w.tape w.drawn) ⟨r,0,none⟩ (.int .i32 0)) (c'.finish (.tuple #[]),bM++[bz],World.setCell (v.on w.tape w.drawn) ⟨r,0,none⟩ (.int .i32 0)):=by
  have h1:=hF.1;rw[List.cons_append,W4]at h1⊢;have h2:=Ends.run bS (g:=IB x0 x1 x2 x3 x4 x5 r ts (c'::dd::ds)) (Ms ..) h1;rw[UE]at h2;exact h2
 have KX:=hF.trans f2;have hD:=KX.2.resolve_left fun e=>by
  have h2:=congrArg (fun z:Frame×List Frame×World=>z.2.1.length) e
  simp at h2
 obtain⟨Yq,UL⟩:r<v.heap.size∧t<w.heap.size:=hw.lt zh;obtain⟨o,p,ho,hp,aW⟩:=hw.iX r t zh;have Er:v.heap[r]?=some o:=ho
 obtain⟨us,xs,el,fz,gz,rfl,rfl, -, -⟩:∃us vs e fz gz,o= .cells us e fz∧p= .cells vs e gz∧True∧True:=by
  rcases aW with⟨us,vs,e,fz,gz,h1,h2,_⟩|⟨x,y,l,h1,h2,_⟩
  ·exact⟨us,vs,e,fz,gz,h1,h2,trivial,trivial⟩
  ·subst h1
   unfold World.cell? at hc;simp[Er]at hc
 obtain⟨Bm,_,Bn⟩:=hw.cell (a:=⟨r,0,none⟩) (b:=⟨t,0,none⟩) ⟨zh,rfl,rfl,rfl⟩;obtain⟨y,hy,Z3⟩:=Bm _ hc
 cases Z3;have Z4:=Bn kH;obtain⟨sn,ni⟩:=Cd hp hy;refine UG (r:=t) (e:=el) (n:=sn) hM.ph (hM.sh _ _ zh) UL ⟨hy,Z4⟩ ni fun w3 e3 s3=>?_;have aY:=hw.set (a:=⟨r,0,none⟩) (b:=⟨t,0,none⟩) ⟨zh,rfl,rfl,rfl⟩ (.int .i32 0);have ht0:N0≤t:=by
  refine Nat.le_of_not_lt fun h=>?_;have:=lA (a:=⟨r,0,none⟩) (hM.jb r t zh h) hc
  rw[kH]at this;cases this
 refine K (n:=m) (f1:=c.finish (.tuple #[])) (gs:=gs) (γ1:=γ) hD KX.1 hg (Xl.finish yw (aD.le_refl m) (.tuple rfl fun i h1 _=>by simp at h1)) bW ?_ ?_
 ·refine⟨aY.inj,fun r' t' h=>?_,s3.2.1.trans hw.os,rfl,rfl⟩
  obtain⟨o,p,g1,g2,g3⟩:=aY.iX r' t' h;exact⟨o,p,g1,by rw[e3];exact g2,g3⟩
 ·have hz:w3.heap.size=w.heap.size:=by rw[e3,b9]
  refine⟨hM.ph,hM.sh,hM.QB,fun t' h=>?_,fun r' t' h aj=>?_,hM.same.trans s3,by rw[hz];exact hM.size,fun b hb=>by rw[hz];exact hM.cX b hb⟩
  ·rw[e3,jT t' (by show t'≠t;omega)]
   exact hM.old t' h
  ·have hf:=hM.jb r' t' h aj
   have UM:r'≠r:=by
    rintro rfl;have:=lA (a:=⟨r',0,none⟩) hf hc
    rw[kH]at this;cases this
   exact hf.same (jT (w:=v.on w.tape w.drawn) (a:=⟨r,0,none⟩) (x:= .int .i32 0) r' UM)
theorem Z8 (B:fg nO Tryz.prog Tw.prog.funcs spec good)(hk:Mw good=true)(_:C1=false→spec bp=false)(N0:Nat)(w0:World):T7 spec good fF N0 w0 (Cb w0):=⟨Xj B hk,Xk B⟩
end
end Go.Proofs.YtlhohdjniaebbaaGreat.Sr
namespace Go.Proofs.YtlhohdjniaebbaaGreat.Sr
open Go Go.Conc
def acZ:FuncId:=9
def se:List FuncId:=Tw.se.filter fun f=>f !=acZ
def iE (f:FuncId):Bool:=se.contains f
def oD (f:FuncId):Bool:=se.contains f||f==Tw.iy
def qf (f:FuncId):Bool:=f==di||(C1&&f==bp)
theorem sQ {f:FuncId}(h:iE f=true):f∈se:=by simpa[iE]using h
def IM (P:Program)(good:FuncId→Bool)(f:FuncId):Bool:=match P.funcs[f]? with
 |some fn=>mH P good fn&&fn.name != "runtime.NumGoroutine"
 |none=>false
set_option maxRecDepth 100000
theorem Xm:(se.filter fun f=>f !=di&&f !=bp).all (IM Tryz.prog iE)=true:=by kernel_rfl
theorem UN:(se.filter fun f=>f !=di&&f !=bp).all (IM Tw.prog oD)=true:=by kernel_rfl
theorem Xn:IM Tw.prog oD Tw.iy=true:=by kernel_rfl
theorem UO:(Tryz.prog.funcs[di]?).any (fun fn=>fn.body.isSome&&fn.name != "runtime.NumGoroutine")=true:=by kernel_rfl
theorem IN:(Tw.prog.funcs[di]?).any (fun fn=>fn.body.isSome&&fn.name != "runtime.NumGoroutine")=true:=by kernel_rfl
theorem UP:se.all (fun f=>(Tryz.prog.inits.idxOf? f).isNone)=true:=by kernel_rfl
theorem Xo:(Tryz.prog.funcs[bp]?).any (fun fn=>fn.body.isSome&&fn.name != "runtime.NumGoroutine")=true:=by kernel_rfl
theorem Xp:(Tw.prog.funcs[bp]?).any (fun fn=>fn.body.isSome&&fn.name != "runtime.NumGoroutine")=true:=by kernel_rfl
theorem IP {f:FuncId}(h:f≠di)(h2:f≠bp){fn:Func}(hf:Tryz.prog.funcs[f]?=some fn):Tw.prog.funcs[f]?=some fn:=by
 have aj:f<Tryz.funcs.size:=(Array.getElem?_eq_some_iff.1 hf).1
 show(((Tryz.funcs.setIfInBounds di Tw.Fh).setIfInBounds bp Tw.OC).push Tw.NL)[f]?=some fn
 rw[Array.getElem?_push,if_neg (by rw[Array.size_setIfInBounds,Array.size_setIfInBounds];exact Nat.ne_of_lt aj),Array.getElem?_setIfInBounds,if_neg (fun e=>h2 e.symm),Array.getElem?_setIfInBounds,if_neg (fun e=>h e.symm)]
 exact hf
theorem sR {P:Program}{good:FuncId→Bool}{f:FuncId}(h:IM P good f=true):∃fn,P.funcs[f]?=some fn∧mH P good fn=true∧fn.body.isSome=true∧fn.name≠ "runtime.NumGoroutine":=by
 unfold IM at h
 cases hf:P.funcs[f]? with
 |none=>rw[hf]at h;cases h
 |some fn=>
  rw[hf]at h;simp only[Bool.and_eq_true,bne_iff_ne,ne_eq]at h;refine⟨fn,rfl,h.1,?_,h.2⟩;have:=h.1
  unfold mH at this
  cases hb:fn.body with
  |none=>rw[hb]at this;cases this
  |some c=>rfl
theorem nS {P:Program}{f:FuncId}(h:(P.funcs[f]?).any (fun fn=>fn.body.isSome&&fn.name != "runtime.NumGoroutine")=true):∃fn,P.funcs[f]?=some fn∧fn.body.isSome=true∧fn.name≠ "runtime.NumGoroutine":=by
 cases hf:P.funcs[f]? with
 |none=>rw[hf]at h;cases h
 |some fn=>
  rw[hf]at h;simp only[Option.any_some,Bool.and_eq_true,bne_iff_ne,ne_eq]at h;exact⟨fn,rfl,h.1,h.2⟩
theorem Z9:dZ nO Tryz.prog:=⟨by decide+kernel,by decide+kernel,by decide+kernel,by decide+kernel⟩
theorem N3 (h:iE bp=true):(∃fn,Tw.prog.funcs[bp]?=some fn∧fn.body.isSome=true∧fn.name≠ "runtime.NumGoroutine")∧∃fn,Tryz.prog.funcs[bp]?=some fn∧fn.body.isSome=true∧fn.name≠ "runtime.NumGoroutine":=by
 exact⟨nS Xp,nS Xo⟩
theorem IQ (h:iE bp=true):qf bp=true:=by
 exact of_decide_eq_true (by decide+kernel)
theorem IS:qf bp=true→∃fr,Tw.prog.funcs[bp]?=some fr:=by
 exact fun _=>⟨_,Tw.tD⟩
theorem zi:fg nO Tryz.prog Tw.prog.funcs qf iE:=by
 have ok:∀f,iE f=true→f≠di→f≠bp→∃fn,Tryz.prog.funcs[f]?=some fn∧mH Tryz.prog iE fn=true∧fn.body.isSome=true∧fn.name≠ "runtime.NumGoroutine":=fun f hf hn hp=>
  sR (List.all_eq_true.1 Xm f (List.mem_filter.2 ⟨sQ hf,by simpa using⟨hn,hp⟩⟩))
 refine⟨Z9,Tryz.globals_size,fun f hf=>?_,⟨fun f hf=>?_⟩,IS,fun f hf hs=>?_⟩
 ·have:f=120:=by simpa[yd]using hf
  subst this;exact⟨by decide+kernel,by decide+kernel⟩
 ·by_cases hn:f=di
  ·subst hn
   obtain⟨a,a1,a2,a3⟩:=nS IN;obtain⟨b,b1,b2,b3⟩:=nS UO;exact⟨a,b,a1,b1,a2,b2,a3,b3⟩
  ·by_cases hp:f=bp
   ·subst hp
    obtain⟨⟨a,a1,a2,a3⟩,b,b1,b2,b3⟩:=N3 hf;exact⟨a,b,a1,b1,a2,b2,a3,b3⟩
   ·obtain⟨fn,h1,_,h2,h3⟩:=ok f hf hn hp
    exact⟨fn,fn,IP hn hp h1,h1,h2,h2,h3,h3⟩
 ·have h1:f≠di:=fun e=>by subst e;revert hs;decide+kernel
  have h2:f≠bp:=fun e=>by subst e;rw[IQ hf]at hs;cases hs
  obtain⟨fn,k1,k2,_⟩:=ok f hf h1 h2;exact⟨fn,IP h1 h2 k1,k1,k2⟩
theorem Xq:dZ nO Tw.prog:=⟨by decide+kernel,by decide+kernel,by decide+kernel,by decide+kernel⟩
theorem IT:mL qf:=fun f h=>by
 rcases(Bool.or_eq_true _ _).mp h with h|h
 ·exact .inl (eq_of_beq h)
 ·obtain⟨h1,h2⟩:=(Bool.and_eq_true _ _).mp h
  exact .inr ⟨h1,eq_of_beq h2⟩
theorem Ce (h:oD bp=true):iE bp=true:=by
 simp only[oD,Bool.or_eq_true,beq_iff_eq]at h;rcases h with h|h
 ·exact h
 ·exact absurd h (by decide)
theorem My:fg nO Tw.prog Tw.prog.funcs qf oD:=by
 have ok:∀f,oD f=true→f≠di→f≠bp→∃fn,Tw.prog.funcs[f]?=some fn∧mH Tw.prog oD fn=true∧fn.body.isSome=true∧fn.name≠ "runtime.NumGoroutine":=fun f hf hn hp=>by
  by_cases hs:f=Tw.iy
  ·subst hs;exact sR Xn
  ·have h:f∈se:=by
    simp only[oD,Bool.or_eq_true,List.contains_eq_mem,decide_eq_true_eq,beq_iff_eq]at hf;exact hf.resolve_right hs
   exact sR (List.all_eq_true.1 UN f (List.mem_filter.2 ⟨h,by simpa using⟨hn,hp⟩⟩))
 refine⟨Xq,Tryz.globals_size,fun f hf=>?_,⟨fun f hf=>?_⟩,IS,fun f hf hs=>?_⟩
 ·have:f=120:=by simpa[yd]using hf
  subst this;exact⟨by decide+kernel,by decide+kernel⟩
 ·by_cases hn:f=di
  ·subst hn
   obtain⟨a,a1,a2,a3⟩:=nS IN;exact⟨a,a,a1,a1,a2,a2,a3,a3⟩
  ·by_cases hp:f=bp
   ·subst hp
    obtain⟨⟨a,a1,a2,a3⟩, -⟩:=N3 (Ce hf);exact⟨a,a,a1,a1,a2,a2,a3,a3⟩
   ·obtain⟨fn,h1,_,h2,h3⟩:=ok f hf hn hp
    exact⟨fn,fn,h1,h1,h2,h2,h3,h3⟩
 ·have h1:f≠di:=fun e=>by subst e;revert hs;decide+kernel
  have h2:f≠bp:=fun e=>by subst e;rw[IQ (Ce hf)]at hs;cases hs
  obtain⟨fn,k1,k2,_⟩:=ok f hf h1 h2;exact⟨fn,k1,k1,k2⟩
theorem Xr:Mw iE=true:=by kernel_rfl
theorem Q4 {f:FuncId}{us vs:Array Value}{m:aD}{v W:World}(Mj:iE f=true)(Mk:qf f=false)(T4:m.good=iE)(rh:AR m us vs)(hw:WR m (v.on W.tape W.drawn) W)(kH:∀r t,m r=some t→dG v r)
  (Ix:∀T,Calls Tw.prog f us (v.on T 0) fF):
  ∃M last o w' t',runNT Tryz.prog (M+1) (solo (G (Frame.enter Tryz.prog f vs .normal) []) W) #[]=(.ended o w',t')∧runN Tryz.prog M (solo (G (Frame.enter Tryz.prog f vs .normal) []) W)= .next last∧step Tryz.prog last= .ended o w'∧
   Go.Conc.Good Tryz.prog (fun x W'=>x= .bool true∧Go.RowKit.Below W.heap.size W W') last o w' t':=
 QH zi IT IT (Z8 zi Xr (by decide+kernel)) (by decide+kernel) (by decide+kernel) My (by decide+kernel) (fun f h hs=>by
  simp only[oD,Bool.or_eq_true,List.contains_eq_mem,decide_eq_true_eq];exact .inl (sQ h)) (by decide+kernel) (fun f h=>by
  have:=List.all_eq_true.1 UP f (sQ h)
  simpa using this) Mj Mk T4 rh hw kH Ix
end Go.Proofs.YtlhohdjniaebbaaGreat.Sr
