/-
What is proved: of each operation that changes memory, what it does to trees. No condition. of alloc, box, build, buildSlice, makeSlice, store, append, slice, max and min, what each does to trees. No condition. of store, buildSlice and makeSlice, what each does to trees. No condition.
-/
import Derived.Test.YtjklkppncmhehaaGreatRa26
import Derived.Laws.AppendOwnNone
set_option linter.unusedVariables false
set_option linter.unusedSimpArgs false
namespace Go.Proofs.YtjklkppncmhehaaGreat.T
open Go Go.RowKit
theorem kN (b:Nat)(x y:List (Nat×ak)):gt b (x++y)=match gt b x with|some z=>some z|none=>gt b y:=by
 induction x with
 |nil=>rfl
 |cons a x ih=>
  obtain⟨u,z⟩:=a;simp only[List.cons_append,gt];split
  ·rfl
  ·exact ih
theorem Pa (get:Nat→Option ak)(x y:List (Nat×ak)):upd (upd get y) x=upd get (x++y):=by
 funext b
 simp only[upd,kN]
 cases gt b x<;>rfl
theorem zi (get:Nat→Option ak)(b:Nat)(y:ak)(Δ:List (Nat×ak)):upd get ((b,y)::Δ)=upd (upd get Δ) [(b,y)]:=by rw[Pa];rfl
theorem ju (get:Nat→Option ak)(b:Nat)(y:ak)(c:Nat):upd get [(b,y)] c=if c=b then some y else get c:=by
 simp only[upd,gt];split<;>simp_all
section
variable {C:Ctx}{env:Nat→GV}{get:Nat→Option ak}{a:Act}{w w':World}{ρ:Nat→Option Value}{D:Nat→Prop}
theorem Rel.move (h:Rel C env get a w ρ D){b b':Nat}{y:ak}{x':Value}(cv:get b'=none)(hold:∃z,get b=some z∧z.live=true)(e1:w'.os=w.os)(e2:w'.tape=w.tape)(e3:w'.output=w.output)(e4:w.heap.size≤w'.heap.size)
  (hk:∀k,k<w.heap.size→bo (ρ b)≠some k→w'.heap[k]?=w.heap[k]?) (hx:∀g,bo (some x')=some g→bo (ρ b)=some g∨w.heap.size≤g) (hy:dt (fun c=>if c=b' then some x' else ρ c) w' D (some x') y):
  Rel C env (upd get [(b',y),(b,.dead)]) a w' (fun c=>if c=b' then some x' else ρ c) D:=by
 obtain⟨z,hz,wI⟩:=hold;have Aj:b≠b':=by rintro rfl;rw[cv]at hz;cases hz
 have ff:∀c x,ρ c=some x→(fun c=>if c=b' then some x' else ρ c) c=some x:=fun c x hc=>by
  have:c≠b':=by rintro rfl;rw[h.free _ cv]at hc;cases hc
  simp[this,hc]
 have IQ:∀g,bo (ρ b)=some g→¬D g∧(C.M g∨C.W.heap.size≤g):=fun g hg=>h.own b z g hz wI hg
 have hK:bV D w w':=fun k hd=>hk k (h.ro k hd).1 fun e=>(IQ k e).1 hd
 have jG:=h.size;refine⟨e1.trans h.os,e2.trans h.tape,e3.trans h.output,by omega,fun k aj hM=>?_,fun k hd=>⟨Nat.lt_of_lt_of_le (h.ro k hd).1 e4,(h.ro k hd).2⟩,fun c hc=>?_,fun c y' hc=>?_,fun c y' g hc hl hg=>?_,fun c y1 c' y2 g hc hl eR bz hg a_=>?_,fun t=>(h.env t).bB ff hK fun _ h=>h,h.defers,h.nt,fun b x hx=>ff b x (h.ext b x hx)⟩
 ·rw[hk k (by omega) (fun e=>?_)]
  ·exact h.old k aj hM
  ·rcases(IQ k e).2 with U|U
   ·exact hM U
   ·omega
 ·simp only[upd,gt]at hc
  split at hc
  ·cases hc
  ·rename_i hg
   have:c≠b':=by rintro rfl;simp at hg
   simp only[this,if_false];exact h.free c hc
 ·simp only[upd,gt]at hc
  by_cases e:c=b'
  ·subst e
   simp only[if_true,Option.some.injEq]at hc;subst hc;simp only[if_true];exact hy
  ·by_cases e':c=b
   ·simp only[e,e',Aj,if_false,if_true,Option.some.injEq]at hc
    subst hc;trivial
   ·simp only[e,e',if_false]at hc
    simp only[e,if_false];refine(h.blk c y' hc).bB ff hK (fun _ h=>h) ?_
    by_cases hl:y'.live=true
    ·right
     intro g hg;exact hk g (h.fu hc hl hg) fun e2=>e' (h.sep c y' b z g hc hl hz wI hg e2)
    ·left
     cases y'<;>simp[ak.live]at hl
     rfl
 ·simp only[upd,gt]at hc
  by_cases e:c=b'
  ·subst e
   simp only[if_true]at hg;rcases hx g hg with U|U
   ·exact IQ g U
   ·exact⟨fun hd=>by have:=(h.ro g hd).1;omega,.inr (by omega)⟩
  ·by_cases e':c=b
   ·simp only[e,e',Aj,if_false,if_true,Option.some.injEq]at hc
    subst hc;simp[ak.live]at hl
   ·simp only[e,e',if_false]at hc
    simp only[e,if_false]at hg;exact h.own c y' g hc hl hg
 ·simp only[upd,gt]at hc eR
  have key:∀c y1,c≠b'→(match(if c=b' then some y else if c=b then some ak.dead else none)with|some y=>some y|none=>get c)=some y1→y1.live=true→c≠b∧get c=some y1:=by
   intro c y1 e hc hl;by_cases e':c=b
   ·simp only[e,e',Aj,if_false,if_true,Option.some.injEq]at hc
    subst hc;simp[ak.live]at hl
   ·simp only[e,e',if_false]at hc
    exact⟨e',hc⟩
  by_cases e:c=b'<;>by_cases e':c'=b'
  ·rw[e,e']
  ·obtain⟨n1,n2⟩:=key c' y2 e' eR bz
   simp only[e',if_false]at a_;simp only[e,if_true]at hg;exfalso
   rcases hx g hg with U|U
   ·exact n1 (h.sep c' y2 b z g n2 bz hz wI a_ U)
   ·have:=h.fu n2 bz a_;omega
  ·obtain⟨n1,n2⟩:=key c y1 e hc hl
   simp only[e,if_false]at hg;simp only[e',if_true]at a_;exfalso
   rcases hx g a_ with U|U
   ·exact n1 (h.sep c y1 b z g n2 hl hz wI hg U)
   ·have:=h.fu n2 hl hg;omega
  ·obtain⟨_,n2⟩:=key c y1 e hc hl
   obtain⟨_,m2⟩:=key c' y2 e' eR bz;simp only[e,if_false]at hg;simp only[e',if_false]at a_;exact h.sep c y1 c' y2 g n2 hl m2 bz hg a_
theorem Rel.alloc (h:Rel C env get a w ρ D){b':Nat}{y:ak}{x':Value}(cv:get b'=none)(e1:w'.os=w.os)(e2:w'.tape=w.tape)(e3:w'.output=w.output)(e4:w.heap.size≤w'.heap.size)
  (hk:∀k,k<w.heap.size→w'.heap[k]?=w.heap[k]?) (hx:∀g,bo (some x')=some g→w.heap.size≤g) (hy:dt (fun c=>if c=b' then some x' else ρ c) w' D (some x') y):
  Rel C env (upd get [(b',y)]) a w' (fun c=>if c=b' then some x' else ρ c) D:=by
 have ff:∀c x,ρ c=some x→(fun c=>if c=b' then some x' else ρ c) c=some x:=fun c x hc=>by
  have:c≠b':=by rintro rfl;rw[h.free _ cv]at hc;cases hc
  simp[this,hc]
 have hK:bV D w w':=fun k hd=>hk k (h.ro k hd).1
 have jG:=h.size;refine⟨e1.trans h.os,e2.trans h.tape,e3.trans h.output,by omega,fun k aj hM=>(hk k (by omega)).trans (h.old k aj hM),fun k hd=>⟨Nat.lt_of_lt_of_le (h.ro k hd).1 e4,(h.ro k hd).2⟩,fun c hc=>?_,fun c y' hc=>?_,fun c y' g hc hl hg=>?_,fun c y1 c' y2 g hc hl eR bz hg a_=>?_,fun t=>(h.env t).bB ff hK fun _ h=>h,h.defers,h.nt,fun b x hx=>ff b x (h.ext b x hx)⟩
 ·rw[ju]at hc
  split at hc
  ·cases hc
  ·rename_i e
   simp only[e,if_false];exact h.free c hc
 ·rw[ju]at hc
  by_cases e:c=b'
  ·simp only[e,if_true,Option.some.injEq]at hc⊢
   subst hc;exact hy
  ·simp only[e,if_false]at hc⊢
   refine(h.blk c y' hc).bB ff hK (fun _ h=>h) ?_
   by_cases hl:y'.live=true
   ·exact .inr fun g hg=>hk g (h.fu hc hl hg)
   ·left
    cases y'<;>simp[ak.live]at hl
    rfl
 ·rw[ju]at hc
  by_cases e:c=b'
  ·simp only[e,if_true]at hg
   have U:=hx g hg;exact⟨fun hd=>by have:=(h.ro g hd).1;omega,.inr (by omega)⟩
  ·simp only[e,if_false]at hc hg
   exact h.own c y' g hc hl hg
 ·rw[ju]at hc eR
  by_cases e:c=b'<;>by_cases e':c'=b'
  ·rw[e,e']
  ·simp only[e',if_false]at a_ eR
   simp only[e,if_true]at hg;have U:=hx g hg;have:=h.fu eR bz a_;omega
  ·simp only[e,if_false]at hg hc
   simp only[e',if_true]at a_;have U:=hx g a_;have:=h.fu hc hl hg;omega
  ·simp only[e,if_false]at hg hc
   simp only[e',if_false]at a_ eR;exact h.sep c y1 c' y2 g hc hl eR bz hg a_
theorem Rel.change (h:Rel C env get a w ρ D){b:Nat}{y z:ak}(hz:get b=some z)(wI:z.live=true)(e1:w'.os=w.os)(e2:w'.tape=w.tape)(e3:w'.output=w.output)(e4:w.heap.size≤w'.heap.size)
  (hk:∀k,k<w.heap.size→bo (ρ b)≠some k→w'.heap[k]?=w.heap[k]?) (hy:dt ρ w' D (ρ b) y):Rel C env (upd get [(b,y)]) a w' ρ D:=by
 have IQ:∀g,bo (ρ b)=some g→¬D g∧(C.M g∨C.W.heap.size≤g):=fun g hg=>h.own b z g hz wI hg
 have hK:bV D w w':=fun k hd=>hk k (h.ro k hd).1 fun e=>(IQ k e).1 hd
 have jG:=h.size;refine⟨e1.trans h.os,e2.trans h.tape,e3.trans h.output,by omega,fun k aj hM=>?_,fun k hd=>⟨Nat.lt_of_lt_of_le (h.ro k hd).1 e4,(h.ro k hd).2⟩,fun c hc=>?_,fun c y' hc=>?_,fun c y' g hc hl hg=>?_,fun c y1 c' y2 g hc hl eR bz hg a_=>?_,fun t=>(h.env t).bB (fun _ _ h=>h) hK fun _ h=>h,h.defers,h.nt,h.ext⟩
 ·rw[hk k (by omega) (fun e=>?_)]
  ·exact h.old k aj hM
  ·rcases(IQ k e).2 with U|U
   ·exact hM U
   ·omega
 ·rw[ju]at hc
  split at hc
  ·cases hc
  ·exact h.free c hc
 ·rw[ju]at hc
  by_cases e:c=b
  ·simp only[e,if_true,Option.some.injEq]at hc
   subst hc;subst e;exact hy
  ·simp only[e,if_false]at hc
   refine(h.blk c y' hc).bB (fun _ _ h=>h) hK (fun _ h=>h) ?_
   by_cases hl:y'.live=true
   ·exact .inr fun g hg=>hk g (h.fu hc hl hg) fun e2=>e (h.sep c y' b z g hc hl hz wI hg e2)
   ·left
    cases y'<;>simp[ak.live]at hl
    rfl
 ·rw[ju]at hc
  by_cases e:c=b
  ·subst e;exact IQ g hg
  ·simp only[e,if_false]at hc
   exact h.own c y' g hc hl hg
 ·rw[ju]at hc eR
  by_cases e:c=b<;>by_cases e':c'=b
  ·rw[e,e']
  ·subst e
   simp only[e',if_false]at eR;exact h.sep c z c' y2 g hz wI eR bz hg a_
  ·subst e'
   simp only[e,if_false]at hc;exact h.sep c y1 c' z g hc hl hz wI hg a_
  ·simp only[e,if_false]at hc
   simp only[e',if_false]at eR;exact h.sep c y1 c' y2 g hc hl eR bz hg a_
theorem Rel.consume (h:Rel C env get a w ρ D)(bs:List Nat)(hb:∀b∈bs,∃z,get b=some z∧z.live=true):∃D':Nat→Prop,Rel C env (upd get (bs.map fun b=>(b,.dead))) a w ρ D'∧(∀k,D k→D' k)∧∀b∈bs,∀g,bo (ρ b)=some g→D' g:=by
 have Nh:∀c,gt c (bs.map fun b=>(b,ak.dead))=if c∈bs then some .dead else none:=by
  intro c;induction bs with
  |nil=>rfl
  |cons b bs ih=>
   simp only[List.map_cons,gt,List.mem_cons];rw[ih fun b cv=>hb b (List.mem_cons_of_mem _ cv)]
   by_cases e:c=b<;>simp[e]
 have FM:∀c,upd get (bs.map fun b=>(b,ak.dead)) c=if c∈bs then some .dead else get c:=by
  intro c;simp only[upd,Nh];split<;>simp_all
 have c7:∀k,D k→D k∨∃b∈bs,bo (ρ b)=some k:=fun k=> .inl
 refine⟨fun k=>D k∨∃b∈bs,bo (ρ b)=some k,⟨h.os,h.tape,h.output,h.size,h.old,fun k hk=>?_,fun c hc=>?_,fun c y hc=>?_,fun c y g hc hl hg=>?_,fun c y1 c' y2 g hc hl eR bz hg a_=>?_,fun t=>(h.env t).bB (fun _ _ h=>h) (bV.refl _ _) c7,h.defers,h.nt,h.ext⟩,c7,fun b cv g hg=> .inr ⟨b,cv,hg⟩⟩
 ·rcases hk with hk|⟨b,cv,hg⟩
  ·exact h.ro k hk
  ·obtain⟨z,hz,hl⟩:=hb b cv
   exact⟨h.fu hz hl hg,.inr (h.own b z k hz hl hg).2⟩
 ·rw[FM]at hc
  split at hc
  ·cases hc
  ·exact h.free c hc
 ·rw[FM]at hc
  split at hc
  ·cases hc;trivial
  ·exact(h.blk c y hc).bB (fun _ _ h=>h) (bV.refl _ _) c7 (.inr fun _ _=>rfl)
 ·rw[FM]at hc
  split at hc
  ·cases hc;simp[ak.live]at hl
  ·rename_i hn
   obtain⟨U,h2⟩:=h.own c y g hc hl hg;refine⟨?_,h2⟩;rintro(hd|⟨b,cv,a_⟩)
   ·exact U hd
   ·obtain⟨z,hz,wI⟩:=hb b cv
    have:=h.sep c y b z g hc hl hz wI hg a_
    subst this;exact hn cv
 ·rw[FM]at hc eR
  split at hc
  ·cases hc;simp[ak.live]at hl
  ·split at eR
   ·cases eR;simp[ak.live]at bz
   ·exact h.sep c y1 c' y2 g hc hl eR bz hg a_
end
def ae.ud (s:ae):TV→Option (RT×List Nat)
 | .r t=>some (t,[])
 | .own b=>match s.get b with
   |some (.rows _ k xs)=>some (.sl k xs,[b])
   |_=>none
 |_=>none
def ae.lZ (s:ae):List TV→Option (List RT×List Nat)
 |[]=>some ([],[])
 |t::ts=>match s.ud t with
  |some (r,bs)=>match s.lZ ts with
   |some (rs,cs)=>some (r::rs,bs++cs)
   |none=>none
  |none=>none
theorem IS {s:ae}{t:TV}{r:RT}{bs:List Nat}(h:s.ud t=some (r,bs)):∀b∈bs,∃e k xs,s.get b=some (.rows e k xs):=by
 unfold ae.ud at h;split at h
 ·cases h;intro b hb;cases hb
 ·split at h
  ·rename_i hg
   cases h;intro b hb;simp only[List.mem_cons,List.not_mem_nil,or_false]at hb;subst hb;exact⟨_,_,_,hg⟩
  ·cases h
 ·cases h
theorem lF {s:ae}:∀{ts:List TV} {r:List RT} {bs:List Nat},s.lZ ts=some (r,bs)→∀b∈bs,∃e k xs,s.get b=some (.rows e k xs)
 |[],_,_,h=>by cases h;intro b hb;cases hb
 |t::ts,r,bs,h=>by
  unfold ae.lZ at h;split at h
  ·rename_i U
   split at h
   ·rename_i h2
    cases h;intro b hb;rcases List.mem_append.1 hb with hb|hb
    ·exact IS U b hb
    ·exact lF h2 b hb
   ·cases h
  ·cases h
theorem zj {C:Ctx}{env:Nat→GV}{get:Nat→Option ak}{a:Act}{w:World}{ρ:Nat→Option Value}{D D':Nat→Prop}{s:ae}(hR:Rel C env get a w ρ D){t:TV}{r:RT}{bs:List Nat}(h:s.ud t=some (r,bs))
  (hg:∀b∈bs,get b=s.get b) (hD:∀k,D k→D' k) (hb:∀b∈bs,∀g,bo (ρ b)=some g→D' g) {v:Value} (hr:bW ρ w D v t):cb w D' v r:=by
 unfold ae.ud at h;split at h
 ·cases h
  cases hr with|r hr=>exact hr.bB (bV.refl _ _) hD
 ·rename_i b
  split at h
  ·rename_i e k xs rV
   cases h;have WL:get b=some (.rows e k xs):=(hg b (List.mem_cons_self ..)).trans rV
   obtain⟨A,c,e1,U,h2,h3,h4,h5⟩:=hR.blk b _ WL
   cases hr with|own hr=>
   rw[e1]at hr
   cases hr;rcases h5 with⟨rfl,rfl,rfl⟩|⟨g,arr,rfl,h6,h7,h8⟩
   ·exact .yA h2
   ·refine .JI U h2 (hb b (List.mem_cons_self ..) g (by rw[e1];rfl)) fun i y hy=>⟨h4 i y hy,g,0,rfl,fun j r hj=>⟨arr.getD (i*k+j) undef,?_,(h8 i y hy j r hj).bB (bV.refl _ _) hD⟩⟩
    have hi:i<xs.length:=(List.getElem?_eq_some_iff.1 hy).1
    have IP:j<y.length:=(List.getElem?_eq_some_iff.1 hj).1
    rw[h4 i y hy]at IP;have aj:i*k+j<arr.size:=by
     rw[h7]
     calc i*k+j<i*k+k:=by omega
      _=(i+1)*k:=by rw[Nat.add_mul,Nat.one_mul]
      _≤c*k:=Nat.mul_le_mul_right k (by omega)
    simp[World.cell?,h6,Array.getD_eq_getD_getElem?,Array.getElem?_eq_getElem aj]
  ·cases h
 ·cases h
theorem qO {C:Ctx}{env:Nat→GV}{get:Nat→Option ak}{a:Act}{w:World}{ρ:Nat→Option Value}{D D':Nat→Prop}{s:ae}(hR:Rel C env get a w ρ D)(hD:∀k,D k→D' k):∀{ts:List TV} {rs:List RT} {bs:List Nat},s.lZ ts=some (rs,bs)→
  (∀b∈bs,get b=s.get b)→(∀b∈bs,∀g,bo (ρ b)=some g→D' g)→rs.length=ts.length∧∀(i:Nat) (t:TV) (r:RT),ts[i]?=some t→rs[i]?=some r→∀v,bW ρ w D v t→cb w D' v r
 |[],_,_,h,_,_=>by cases h;exact⟨rfl,fun i t r ht=>by simp at ht⟩
 |t::ts,rs,bs,h,hg,hb=>by
  unfold ae.lZ at h;split at h
  ·rename_i r0 b0 U
   split at h
   ·rename_i ZB b1 h2
    cases h;obtain⟨Af,ve⟩:=qO hR hD h2 (fun b cv=>hg b (List.mem_append_right _ cv)) fun b cv=>hb b (List.mem_append_right _ cv)
    refine⟨by simp[Af],fun i t' r' ht hr v hv=>?_⟩
    cases i with
    |zero=>
     simp only[List.getElem?_cons_zero,Option.some.injEq]at ht hr;subst ht;subst hr;exact zj hR U (fun b cv=>hg b (List.mem_append_left _ cv)) hD (fun b cv=>hb b (List.mem_append_left _ cv)) hv
    |succ i=>
     simp only[List.getElem?_cons_succ]at ht hr;exact ve i t' r' ht hr v hv
   ·cases h
  ·cases h
end Go.Proofs.YtjklkppncmhehaaGreat.T
namespace Go.Proofs.YtjklkppncmhehaaGreat.T
open Go Go.RowKit
theorem dR.act {P:Program}{E:List PanicEntry→World→Prop}{nt:Nat}{o:Oper}{fr:List (Nat×Option ak)}{ins:List (Nat×GV)}{gv:GV}{Δ:List (Nat×ak)}(hd:bu o nt=true)
  (h:∀C env get a w ρ D,(∀x∈fr,get x.1=x.2)→(∀x∈ins,env x.1=x.2)→Rel C env get a w ρ D→∃v w' ρ' D',(execOp a.eval o).run P w= .ok (.value v) w'∧Rel C env (upd get Δ) a w' ρ' D'∧aY ρ' w' D' v gv):dR P E nt o fr ins gv Δ:=by
 intro C env get a w K Q hn hf hi hR hK hE;obtain⟨ρ,D,hR⟩:=hR;obtain⟨v,w',ρ',D',hv,nf,hg⟩:=h C env get a w ρ D hf hi hR;unfold Oper.wp;rw[hv,Oper.upon_value];refine hK _ _ ⟨ρ',D',nf.put (fun d e=>?_) hg⟩
 unfold bu at hd;rw[e]at hd;simpa[hn]using hd
theorem dR.skip {P:Program}{E:List PanicEntry→World→Prop}{nt:Nat}{o:Oper}{fr:List (Nat×Option ak)}{ins:List (Nat×GV)}{Δ:List (Nat×ak)}(hd:bu o nt=true)
  (h:∀C env get a w ρ D,(∀x∈fr,get x.1=x.2)→(∀x∈ins,env x.1=x.2)→Rel C env get a w ρ D→∃w' ρ' D',(execOp a.eval o).run P w= .ok .skip w'∧Rel C env (upd get Δ) a w' ρ' D'):dR P E nt o fr ins .u Δ:=by
 intro C env get a w K Q hn hf hi hR hK hE;obtain⟨ρ,D,hR⟩:=hR;obtain⟨w',ρ',D',hv,nf⟩:=h C env get a w ρ D hf hi hR;unfold Oper.wp;rw[hv,Oper.upon_skip];refine hK _ _ ⟨ρ',D',nf.put (fun d e=>?_) .u⟩
 unfold bu at hd;rw[e]at hd;simpa[hn]using hd
def cr {α:Type}(cs:List α)(off:Nat)(ys:List α):List α:=cs.take off++ys++cs.drop (off+ys.length)
theorem lG {α:Type}{cs ys:List α}{off:Nat}(h:off+ys.length≤cs.length)(i:Nat):(cr cs off ys)[i]?=if off≤i∧i<off+ys.length then ys[i-off]? else cs[i]?:=by
 unfold cr;rw[List.append_assoc,List.getElem?_append];simp only[List.length_take];rw[Nat.min_eq_left (by omega)]
 by_cases U:i<off
 ·rw[if_pos U,if_neg (by omega),List.getElem?_take,if_pos U]
 ·rw[if_neg U,List.getElem?_append]
  by_cases h2:i<off+ys.length
  ·rw[if_pos (by omega),if_pos ⟨by omega,h2⟩]
  ·rw[if_neg (by omega),if_neg (by omega),List.getElem?_drop]
   congr 1;omega
theorem im {α:Type}{cs ys:List α}{off:Nat}(h:off+ys.length≤cs.length):(cr cs off ys).length=cs.length:=by
 simp only[cr,List.length_append,List.length_take,List.length_drop];omega
theorem Pb (vs:Array Value)(off:Nat)(cells:Array Value):∀(n:Nat),n≤vs.size→∀l,l=(vs.zipIdx.toList.take n)→(l.foldl (fun cs (x:Value×Nat)=>cs.setIfInBounds (off+x.2) x.1) cells).size=cells.size∧
  ∀i,(l.foldl (fun cs (x:Value×Nat)=>cs.setIfInBounds (off+x.2) x.1) cells)[i]?=if off≤i∧i<off+n∧i<cells.size then vs[i-off]? else cells[i]?:=by
 intro n;induction n with
 |zero=>
  intro _ l hl;subst hl;refine⟨rfl,fun i=>?_⟩
  rw[if_neg (by omega)]
  rfl
 |succ n ih=>
  intro hn l hl;subst hl;have e:vs.zipIdx.toList.take (n+1)=vs.zipIdx.toList.take n++[(vs[n],n)]:=by
   rw[List.take_add_one];congr 1
   simp[Array.getElem?_zipIdx,show n<vs.size by omega]
  obtain⟨U,h2⟩:=ih (by omega) _ rfl
  rw[e,List.foldl_append];simp only[List.foldl_cons,List.foldl_nil];refine⟨by rw[Array.size_setIfInBounds,U],fun i=>?_⟩
  rw[Array.getElem?_setIfInBounds,h2,U];by_cases e2:off+n=i
  ·subst e2
   simp only[if_true];by_cases h3:off+n<cells.size
   ·rw[if_pos h3,if_pos ⟨by omega,by omega,h3⟩,Nat.add_sub_cancel_left]
    simp
   ·rw[if_neg h3,if_neg (by omega),Array.getElem?_eq_none (by omega)]
  ·rw[if_neg e2]
   by_cases h4:off≤i∧i<off+n∧i<cells.size
   ·rw[if_pos h4,if_pos (by omega)]
   ·rw[if_neg h4,if_neg (by omega)]
theorem rW (vs:Array Value)(off:Nat)(cells:Array Value):(vs.zipIdx.foldl (fun cs (x:Value×Nat)=>cs.setIfInBounds (off+x.2) x.1) cells).size=cells.size∧
  ∀i,(vs.zipIdx.foldl (fun cs (x:Value×Nat)=>cs.setIfInBounds (off+x.2) x.1) cells)[i]?=if off≤i∧i<off+vs.size∧i<cells.size then vs[i-off]? else cells[i]?:=by
 have:=Pb vs off cells vs.size (Nat.le_refl _) _ rfl
 rw[show vs.zipIdx.toList.take vs.size=vs.zipIdx.toList from List.take_of_length_le (by simp),Array.foldl_toList]at this
 exact this
def fw (ρ:Nat→Option Value)(w:World)(D:Nat→Prop)(arr:Array Value)(cs:List TV):Prop:=arr.size=cs.length∧∀(i:Nat) (t:TV),cs[i]?=some t→bW ρ w D (arr.getD i undef) t
theorem fw.cr {ρ:Nat→Option Value}{w:World}{D:Nat→Prop}{arr vs:Array Value}{cs ys:List TV}{off:Nat}(h:fw ρ w D arr cs)(hv:fw ρ w D vs ys)(hl:off+ys.length≤cs.length){arr':Array Value}(hs:arr'.size=arr.size)
  (hg:∀i,arr'[i]?=if off≤i∧i<off+vs.size∧i<arr.size then vs[i-off]? else arr[i]?):fw ρ w D arr' (cr cs off ys):=by
 refine⟨by rw[hs,h.1,im hl],fun i t ht=>?_⟩
 rw[lG hl]at ht;simp only[Array.getD_eq_getD_getElem?,hg];split at ht
 ·rename_i hc
  have:=hv.2 _ _ ht
  rw[if_pos ⟨hc.1,by rw[hv.1];exact hc.2,by rw[h.1];omega⟩]
  simpa[Array.getD_eq_getD_getElem?]using this
 ·rename_i hc
  have:=h.2 _ _ ht
  rw[if_neg (by rw[hv.1];omega)]
  simpa[Array.getD_eq_getD_getElem?]using this
def ng (place:Nat→Option (Nat×Nat)):List TV→List (Nat×GV)→Option (List TV)
 |cs,[]=>some cs
 |cs,(i,g)::rest=>match place i with
  |some (off,size)=>match g.cells? with
   |some ys=>if ys.length=size∧off+size≤cs.length then ng place (cr cs off ys) rest else none
   |none=>none
  |none=>none
theorem zk {ρ:Nat→Option Value}{w:World}{D:Nat→Prop}{place:Nat→Option (Nat×Nat)}:∀{parts:List (Nat×GV)} {vs:List (Nat×Value)} {arr:Array Value} {cs bK:List TV},fw ρ w D arr cs→ng place cs parts=some bK→
  vs.length=parts.length→(∀(i:Nat) (x:Nat×GV) (y:Nat×Value),parts[i]?=some x→vs[i]?=some y→x.1=y.1∧aY ρ w D y.2 x.2)→∃arr',Instr.fill place arr vs=some arr'∧fw ρ w D arr' bK
 |[],vs,arr,cs,bK,hc,h,hl,_=>by
  cases h;obtain rfl:vs=[]:=List.eq_nil_of_length_eq_zero hl
  exact⟨arr,rfl,hc⟩
 |(i,g)::rest,[],arr,cs,bK,hc,h,hl,hp=>by cases hl
 |(i,g)::rest,(j,v)::vs,arr,cs,bK,hc,h,hl,hp=>by
  unfold ng at h;obtain⟨e0,hg⟩:=hp 0 _ _ rfl rfl;simp only at e0
  subst e0;split at h
  ·rename_i off size tn
   split at h
   ·rename_i ys FN
    split at h
    ·rename_i Ua
     obtain⟨c1,c2⟩:=Ua;have hv:=js FN hg;obtain⟨f1,f2⟩:=rW v.cells off arr;have hs:=hc.cr (off:=off) (show fw ρ w D v.cells ys from hv) (by omega) f1 f2
     obtain⟨arr',r1,r2⟩:=zk (vs:=vs) hs h (by simpa using hl) fun k x y hx hy=>hp (k+1) x y (by simpa using hx) (by simpa using hy)
     refine⟨arr',?_,r2⟩;rw[Instr.fill,tn];simp only
     rw[if_neg (by have U:=hc.1;have h2:=hv.1;simp only[ne_eq,Bool.or_eq_true,decide_eq_true_eq,not_or,Decidable.not_not,gt_iff_lt,Nat.not_lt];exact⟨by rw[h2,c1],by rw[U,h2];omega⟩)]
     exact r1
    ·cases h
   ·cases h
  ·cases h
theorem fw.zero {ρ:Nat→Option Value}{w:World}{D:Nat→Prop}{z:List Value}(h:∀x∈z,x.oneCell'=true):fw ρ w D z.toArray (z.map fun x=> .r (jr x)):=by
 refine⟨by simp,fun i t ht=>?_⟩
 rw[List.getElem?_map,Option.map_eq_some_iff]at ht;obtain⟨x,hx,rfl⟩:=ht;simp only[Array.getD_eq_getD_getElem?,List.getElem?_toArray,hx,Option.getD_some];exact .r (pe (h x (List.mem_of_getElem? hx)))
theorem fw.bB {ρ ρ':Nat→Option Value}{w w':World}{D D':Nat→Prop}(ff:∀b x,ρ b=some x→ρ' b=some x)(hk:bV D w w')(hD:∀b,D b→D' b){arr:Array Value}{cs:List TV}(h:fw ρ w D arr cs):fw ρ' w' D' arr cs:=
 ⟨h.1,fun i t ht=>(h.2 i t ht).bB ff hk hD⟩
theorem zl {ρ:Nat→Option Value}{w:World}{D:Nat→Prop}{g:Nat}{arr:Array Value}{ty:TypeId}{cs:List TV}(hg:w.heap[g]?=some (.cells arr ty (0,0)))(h:fw ρ w D arr cs):dt ρ w D (some (.pointer (some ⟨g,0,none⟩))) (.box cs):=⟨g,arr,ty,rfl,hg,h.1,h.2⟩
theorem wJ (w:World)(o:Obj):(w.alloc o).heap[w.heap.size]?=some o:=heap_alloc_new w o
theorem alloc_old (w:World)(o:Obj){k:Nat}(h:k<w.heap.size):(w.alloc o).heap[k]?=w.heap[k]?:=Below.heap_alloc w o k h
theorem ue (w:World)(o:Obj):w.heap.size≤(w.alloc o).heap.size:=by simp
section
variable {P:Program}{E:List PanicEntry→World→Prop}{nt:Nat}{o:Oper}{s:ae}
theorem uf (w:World)(t:TypeId)(v:Value):(newVar t v).run P w= .ok ⟨w.heap.size,0,none⟩ (w.alloc (.cells v.cells t)):=by simp[newVar,newRow]
theorem nh {t:TypeId}{d:TD}(h:aq P t=some d)(w:World):∃z,(zeroValue t).run P w= .ok z w∧z.cells.toList=d.zero:=by
 obtain⟨i,u,z,U,_,h3,_,_,h6,_⟩:=dX h;exact⟨z,by simp[zeroValue,typeInfo,U,h3],h6⟩
theorem JM {C:Ctx}{env:Nat→GV}{get:Nat→Option ak}{a:Act}{w:World}{ρ:Nat→Option Value}{D:Nat→Prop}(hR:Rel C env get a w ρ D){b:Nat}(hb:get b=none){arr:Array Value}{cs:List TV}(t:TypeId)(hc:fw ρ w D arr cs):
  ∃ρ',Rel C env (upd get [(b,.box cs)]) a (w.alloc (.cells arr t)) ρ' D∧aY ρ' (w.alloc (.cells arr t)) D (.pointer (some ⟨w.heap.size,0,none⟩)) (.s (.ptr b 0)):=by
 have ff:∀c x,ρ c=some x→(fun c=>if c=b then some (Value.pointer (some ⟨w.heap.size,0,none⟩))else ρ c) c=some x:=fun c x hc=>by
  have:c≠b:=by rintro rfl;rw[hR.free _ hb]at hc;cases hc
  simp[this,hc]
 refine⟨_,hR.alloc (x':= .pointer (some ⟨w.heap.size,0,none⟩)) hb rfl rfl rfl (ue _ _) (fun k hk=>alloc_old _ _ hk) (fun g hg=>?_) (zl (wJ _ _) (hc.bB ff (fun k hd=>alloc_old _ _ (hR.ro k hd).1) fun _ h=>h)),?_⟩
 ·injection hg with hg
  simp at hg;omega
 ·exact .s (.ptr (by simp))
theorem Mg {t b:Nat}(ho:o.op= .alloc t)(hd:bu o nt=true){d:TD}(ht:aq P t=some d):dR P E nt o [(b,none)] [] (.s (.ptr b 0)) [(b,.box (d.zero.map fun x=> .r (jr x)))]:=by
 refine .act hd fun C env get a w ρ D hf hi hR=>?_;obtain⟨z,hz,FO⟩:=nh ht w;obtain⟨ρ',U,h2⟩:=JM hR (hf _ (List.mem_cons_self ..)) t (fw.zero (cW ht).2.2.1);rw[←FO,Array.toArray_toList]at U h2;rw[←FO];exact⟨_,_,ρ',D,by simp[execOp,ho,Instr.alloc,hz,uf],U,h2⟩
theorem Rs {t b:Nat}{x:Operand}(ho:o.op= .box t x)(hd:bu o nt=true){cs:List TV}(hc:(s.ev x).cells?=some cs):dR P E nt o [(b,none)] (bF s.env [x]) (.s (.ptr b 0)) [(b,.box cs)]:=by
 refine .act hd fun C env get a w ρ D hf hi hR=>?_;have hr:=aW hR hi (x:=x) (by simp)
 obtain⟨ρ',U,h2⟩:=JM hR (hf _ (List.mem_cons_self ..)) t (show fw ρ w D _ cs from js hc hr)
 exact⟨_,_,ρ',D,by simp[execOp,ho,Instr.box,uf],U,h2⟩
def placeOf (T:TypeId→Option TD):TK→Nat→Option (Nat×Nat)
 | .struct fs,i=>match fs[i]? with
   |some (o,t)=>(T t).map fun d=>(o,d.size)
   |none=>none
 | .array _ e,i=>(T e).map fun d=>(i*d.size,d.size)
 |_,_=>none
def TK.zm:TK→List TypeId
 | .struct fs=>fs.map (·.2)
 | .array _ e=>[e]
 |_=>[]
def kP (s:ae)(ps:List (Nat×Operand)):List (Nat×GV):=ps.map fun x=>(x.1,s.ev x.2)
theorem ug {p q:Nat→Option (Nat×Nat)}:∀(vs:List (Nat×Value)) (c:Array Value),(∀x∈vs,p x.1=q x.1)→Instr.fill p c vs=Instr.fill q c vs
 |[],c,_=>rfl
 |(i,v)::vs,c,h=>by
  have h0:p i=q i:=h (i,v) (List.mem_cons_self ..)
  have ih:∀c,Instr.fill p c vs=Instr.fill q c vs:=fun c=>ug vs c fun x hx=>h x (List.mem_cons_of_mem _ hx)
  simp only[Instr.fill,h0,ih]
theorem rX {p:Nat→Option (Nat×Nat)}:∀{ps:List (Nat×GV)} {c c':List TV},ng p c ps=some c'→∀x∈ps,∃y,p x.1=some y
 |[],_,_,_,x,hx=>by cases hx
 |(i,g)::ps,c,c',h,x,hx=>by
  unfold ng at h;split at h
  ·rename_i tn
   split at h
   ·split at h
    ·rcases List.mem_cons.1 hx with rfl|hx
     ·exact⟨_,tn⟩
     ·exact rX h x hx
    ·cases h
   ·cases h
  ·cases h
theorem zn {α β:Type}(f:α→Sem β)(g:α→β)(w:World):∀(l:List α),(∀x∈l,(f x).run P w= .ok (g x) w)→(l.mapM f).run P w= .ok (l.map g) w
 |[],_=>by simp
 |x::l,h=>by
  simp[List.mapM_cons,h x (List.mem_cons_self ..),zn f g w l fun y hy=>h y (List.mem_cons_of_mem _ hy)]
theorem Mh {t:Nat}{ps:Array (Nat×Operand)}(ho:o.op= .build t ps)(hd:bu o nt=true){d:TD}(ht:aq P t=some d)(db:d.k.zm.all (fun t=>(aq P t).isSome)=true)
  {cs:List TV} (hc:ng (placeOf (aq P) d.k) (d.zero.map fun x=> .r (jr x)) (kP s ps.toList)=some cs) (nd:d.k.agg=true):dR P E nt o [] (bF s.env (ps.toList.map (·.2))) (.a cs) []:=by
 refine .still hd fun C env get a w ρ D hf hi hR=>?_;obtain⟨z,hz,FO⟩:=nh ht w;have BD:fw ρ w D z.cells (d.zero.map fun x=> .r (jr x)):=by
  have:=fw.zero (ρ:=ρ) (w:=w) (D:=D) (cW ht).2.2.1
  rwa[←FO,Array.toArray_toList,FO]at this
 have wK:∀(i:Nat) (x:Nat×GV) (y:Nat×Value),(kP s ps.toList)[i]?=some x→(ps.toList.map fun x=>(x.1,a.eval x.2))[i]?=some y→x.1=y.1∧aY ρ w D y.2 x.2:=by
  intro i x y hx hy;simp only[kP,List.getElem?_map,Option.map_eq_some_iff]at hx hy;obtain⟨x',U,rfl⟩:=hx;obtain⟨y',h2,rfl⟩:=hy;rw[U]at h2;cases h2;exact⟨rfl,aW hR hi (List.mem_map.2 ⟨x',List.mem_of_getElem? U,rfl⟩)⟩
 obtain⟨arr',r1,r2⟩:=zk BD hc (by simp[kP]) wK
 refine⟨.agg arr',?_,.a r2.1 r2.2⟩;have hm:(ps.map fun x=>(x.1,a.eval x.2)).toList=ps.toList.map fun x=>(x.1,a.eval x.2):=by simp
 cases hk:d.k with
 |sc=>rw[hk]at nd;cases nd
 |slice e=>rw[hk]at nd;cases nd
 |array n e=>
  have hu:=tk ht hk;rw[hk]at r1 hc;obtain⟨de,FL⟩:∃de,aq P e=some de:=by
   rw[hk]at db;simp only[TK.zm,List.all_cons,List.all_nil,Bool.and_true]at db;exact Option.isSome_iff_exists.1 db
  have hp:(fun i=>some (i*de.size,de.size))=placeOf (aq P) (.array n e):=by funext i;simp[placeOf,FL]
  rw[←hp]at r1;simp[execOp,ho,Instr.build,hz,run_underlying hu,oF FL,r1]
 |struct fs=>
  obtain⟨gs,u1,u2⟩:=wF ht hk;rw[hk]at r1 hc;have jG:∀f∈gs.toList,∃d',aq P f.type=some d':=fun f hf=>by
   rw[hk]at db;simp only[TK.zm,List.all_eq_true,List.mem_map,forall_exists_index,and_imp]at db;exact Option.isSome_iff_exists.1 (db f.type (f.offset,f.type) (by rw[←u2];exact List.mem_map.2 ⟨f,hf,rfl⟩) rfl)
  have WN:(gs.mapM fun f=>Functor.map (Prod.mk f.offset) (sizeOf f.type)).run P w= .ok (gs.map fun f=>(f.offset,((aq P f.type).map TD.size).getD 0)) w:=by
   rw[Array.mapM_eq_mapM_toList];have:=zn (P:=P) (fun f:Field=>Functor.map (Prod.mk f.offset) (sizeOf f.type)) (fun f=>(f.offset,((aq P f.type).map TD.size).getD 0)) w gs.toList (fun f hf=>by
    obtain⟨d',qB⟩:=jG f hf;simp[oF qB,qB])
   rw[Sem.run_map,this,Result.andThen_ok];congr 1
   rw[←List.map_toArray]
  have hp:Instr.fill (fun i=>(gs[i]?).map fun f=>(f.offset,((aq P f.type).map TD.size).getD 0)) z.cells (ps.toList.map fun x=>(x.1,a.eval x.2))=some arr':=by
   rw[ug (q:=placeOf (aq P) (.struct fs)) _ _ (fun x hx=>?_)]
   ·exact r1
   ·obtain⟨y,hy,rfl⟩:=List.mem_map.1 hx
    obtain⟨y0,CQ⟩:=rX hc (y.1,s.ev y.2) (List.mem_map.2 ⟨y,hy,rfl⟩);simp only at CQ⊢
    rw[CQ];simp only[placeOf,←u2,List.getElem?_map]at CQ
    cases nW:gs[y.1]? with
    |none=>simp[nW]at CQ
    |some f=>
     simp only[Array.getElem?_toList,nW,Option.map_some]at CQ;obtain⟨d',qB,rfl⟩:=Option.map_eq_some_iff.1 CQ;simp[nW,qB]
  simp[execOp,ho,Instr.build,hz,run_underlying u1,WN];rw[hp];rfl
end
end Go.Proofs.YtjklkppncmhehaaGreat.T
namespace Go.Proofs.YtjklkppncmhehaaGreat.T
open Go Go.RowKit
theorem ni {i i' k j:Nat}(h:i'<i)(hj:j<k):i'*k+j<i*k:=by
 calc i'*k+j<i'*k+k:=by omega
  _=(i'+1)*k:=by rw[Nat.add_mul,Nat.one_mul]
  _≤i*k:=Nat.mul_le_mul_right k h
theorem rY {l:List Value}{i:Nat}:l.toArray[i]?=l[i]?:=by simp
section
variable {P:Program}{E:List PanicEntry→World→Prop}{nt:Nat}{o:Oper}{s:ae}
theorem my {t:TypeId}{d:TD}(ht:aq P t=some d){w:World}{g off:Nat}{arr:Array Value}{ty:TypeId}(hg:w.heap[g]?=some (.cells arr ty (0,0))){v:Value}(hv:v.cells.size=d.size)(hl:off+d.size≤arr.size)(U:∀x∈v.cells.toList,x.oneCell'=true):
  (storeVar t ⟨g,off,none⟩ v).run P w= .ok () (w.setRow g (cr arr.toList off v.cells.toList).toArray):=by
 have:=run_storeCells_at P g off ty v.cells.toList 0 arr w hg (by simp only[Array.length_toList];omega) U
 simp only[storeVar,Sem.run_bind,oF ht,Result.andThen_ok,hv,ne_eq,not_true,if_false];rw[this];simp[cr]
theorem tp {ρ:Nat→Option Value}{w:World}{D:Nat→Prop}{arr:Array Value}{cs:List TV}(h:fw ρ w D arr cs):∀x∈arr.toList,x.oneCell'=true:=by
 intro x hx;obtain⟨i,hi,rfl⟩:=List.getElem_of_mem hx;have eE:i<arr.size:=by simpa using hi
 have Rj:i<cs.length:=by have:=h.1;omega
 have:=h.2 i cs[i] (List.getElem?_eq_getElem Rj)
 simp only[Array.getD_eq_getD_getElem?,Array.getElem?_eq_getElem eE,Option.getD_some]at this;simpa using this.one
theorem pZ {w:World}{g:Nat}{cs:Array Value}{x:Option Value}(hx:bo x=some g):∀k,k<w.heap.size→bo x≠some k→(w.setRow g cs).heap[k]?=w.heap[k]?:=
 fun k _ hk=>setRow_other w g k cs fun e=>hk (by rw[e];exact hx)
theorem BF {t:TypeId}{ax vx:Operand}(ho:o.op= .store t ax vx)(hd:bu o nt=true){d:TD}(ht:aq P t=some d){b off:Nat}{cs:List TV}(ha:s.ev ax= .s (.ptr b off))(hb:s.get b=some (.box cs)){ys:List TV}(hy:(s.ev vx).cells?=some ys)
  (U:ys.length=d.size) (h2:off+ys.length≤cs.length):dR P E nt o [(b,some (.box cs))] (bF s.env [ax,vx]) .u [(b,.box (cr cs off ys))]:=by
 refine .skip hd fun C env get a w ρ D hf hi hR=>?_;have rV:=hf _ (List.mem_cons_self ..);obtain⟨g,arr,ty,e1,h3,h4,h5⟩:=hR.blk b _ rV;have hr:=aW hR hi (x:=ax) (by simp)
 have hv:fw ρ w D _ ys:=js hy (aW hR hi (x:=vx) (by simp))
 rw[ha]at hr;generalize Ub:a.eval ax=av at hr
 cases hr with|s hr=>cases hr with|ptr hr=>
 rw[e1]at hr
 cases hr;have bj:=my ht h3 (v:=a.eval vx) (off:=off) (by rw[hv.1,U]) (by omega) (tp hv)
 refine⟨w.setRow g (cr arr.toList off (a.eval vx).cells.toList).toArray,ρ,D,by simp[execOp,ho,Instr.storeAt,Ub,Instr.sureAddr,bj],hR.change rV rfl (setRow_os _ _ _) (setRow_tape _ _ _) (setRow_output _ _ _) (by rw[setRow_size];exact Nat.le_refl _) (pZ (by rw[e1];rfl)) ?_⟩
 rw[e1];refine zl (setRow_heap w g arr _ ty _ h3) ?_;have hK:bV D w (w.setRow g (cr arr.toList off (a.eval vx).cells.toList).toArray):=fun k nj=>setRow_other _ _ _ _ fun e=>(hR.own b _ g rV rfl (by rw[e1];rfl)).1 (e▸nj)
 have hc:fw ρ w D arr cs:=⟨h4,h5⟩
 refine(hc.cr hv h2 (arr':=(cr arr.toList off (a.eval vx).cells.toList).toArray) ?_ fun i=>?_).bB (fun _ _ h=>h) hK fun _ h=>h
 ·have:=hv.1
  rw[List.size_toArray,im (by simp only[Array.length_toList];omega)];simp
 ·have:=hv.1
  rw[rY,lG (by simp only[Array.length_toList];omega)]
  simp only[Array.length_toList,Array.getElem?_toList];by_cases hc:off≤i∧i<off+(a.eval vx).cells.size
  ·rw[if_pos hc,if_pos ⟨hc.1,hc.2,by omega⟩]
  ·rw[if_neg hc,if_neg fun h=>hc ⟨h.1,h.2.1⟩]
theorem BG {t:TypeId}{ax vx:Operand}(ho:o.op= .store t ax vx)(hd:bu o nt=true){d:TD}(ht:aq P t=some d){b k i off e:Nat}{xs:List (List RT)}(ha:s.ev ax= .s (.row b k i off))(hb:s.get b=some (.rows e k xs)){ys:List TV}(hy:(s.ev vx).cells?=some ys)
  {y:List RT} (Uc:xs[i]?=some y) (U:ys.length=d.size) (h2:off+ys.length≤y.length) {rs:List RT} {bs:List Nat} (Ud:s.lZ ys=some (rs,bs)) (qD:b∉bs):
  dR P E nt o ((b,some (.rows e k xs))::bs.map fun c=>(c,s.get c)) (bF s.env [ax,vx]) .u ((b,.rows e k (xs.set i (cr y off rs)))::bs.map fun c=>(c,.dead)):=by
 refine .skip hd fun C env get a w ρ D hf hi rZ=>?_;have WO:=hf _ (List.mem_cons_self ..);have dJ:∀c∈bs,get c=s.get c:=fun c hc=>hf (c,s.get c) (List.mem_cons_of_mem _ (List.mem_map.2 ⟨c,hc,rfl⟩))
 obtain⟨D',hR,FP,kM⟩:=rZ.consume bs fun c hc=>by
  obtain⟨e,k,xs,h⟩:=lF Ud c hc;exact⟨_,(dJ c hc).trans h,rfl⟩
 have rV:upd get (bs.map fun c=>(c,ak.dead)) b=some (.rows e k xs):=by
  have:gt b (bs.map fun c=>(c,ak.dead))=none:=by
   clear dJ Ud kM hR hf;induction bs with
   |nil=>rfl
   |cons c bs ih=>
    simp only[List.mem_cons,not_or]at qD;simp only[List.map_cons,gt,if_neg qD.1];exact ih qD.2
  simp only[upd,this];exact WO
 obtain⟨A,c,e1,q1,q2,q3,q4,q5⟩:=hR.blk b _ rV;have hr:=aW rZ hi (x:=ax) (by simp)
 have hv:fw ρ w D _ ys:=js hy (aW rZ hi (x:=vx) (by simp))
 obtain⟨t1,t2⟩:=qO rZ FP Ud dJ kM;rw[ha]at hr;generalize Ub:a.eval ax=av at hr
 cases hr with|s hr=>cases hr with| @row _ _ _ _ g n' c' hr=>
 have Ue:i<xs.length:=(List.getElem?_eq_some_iff.1 Uc).1
 rcases q5 with⟨_,rfl,_⟩|⟨g',arr,rfl,q6,q7,q8⟩
 ·simp at Ue
 rw[e1]at hr
 cases hr;have ZC:y.length=k:=q4 i y Uc
 have hfit:i*k+off+d.size≤arr.size:=by
  rw[q7]
  calc i*k+off+d.size≤i*k+k:=by omega
   _=(i+1)*k:=by rw[Nat.add_mul,Nat.one_mul]
   _≤c*k:=Nat.mul_le_mul_right k (by omega)
 have uL:=hv.1;have bj:=my ht q6 (v:=a.eval vx) (off:=i*k+off) (by rw[hv.1,U]) hfit (tp hv)
 refine⟨w.setRow g (cr arr.toList (i*k+off) (a.eval vx).cells.toList).toArray,ρ,D',by simp[execOp,ho,Instr.storeAt,Ub,Instr.sureAddr,bj],?_⟩
 rw[zi];refine hR.change rV rfl (setRow_os _ _ _) (setRow_tape _ _ _) (setRow_output _ _ _) (by rw[setRow_size];exact Nat.le_refl _) (pZ (by rw[e1];rfl)) ?_
 have hK:bV D' w (w.setRow g (cr arr.toList (i*k+off) (a.eval vx).cells.toList).toArray):=fun m nj=>setRow_other _ _ _ _ fun e'=>(hR.own b _ g rV rfl (by rw[e1];rfl)).1 (e'▸nj)
 rw[e1];refine⟨_,c,by rw[List.length_set],by rw[List.length_set];exact q1,q2,q3,fun i' y' dc=>?_,.inr ⟨g,_,rfl,setRow_heap w g arr _ e _ q6,?_,fun i' y' dc j r hj=>?_⟩⟩
 ·rw[List.getElem?_set,if_pos Ue]at dc
  split at dc
  ·cases dc
   rw[im (by omega)]
   exact ZC
  ·exact q4 i' y' dc
 ·rw[List.size_toArray,im (by simp only[Array.length_toList];omega)]
  simpa using q7
 ·simp only[Array.getD_eq_getD_getElem?,rY]
  rw[lG (by simp only[Array.length_toList];omega)]
  simp only[Array.length_toList,Array.getElem?_toList];rw[List.getElem?_set,if_pos Ue]at dc;split at dc
  ·rename_i ei
   subst ei
   cases dc;rw[lG (by omega)]at hj
   split at hj
   ·rename_i hc
    rw[if_pos (by omega)]
    have aj:j-off<ys.length:=by omega
    have:=t2 (j-off) ys[j-off] r (List.getElem?_eq_getElem aj) hj _ (hv.2 _ _ (List.getElem?_eq_getElem aj))
    rw[show i*k+j-(i*k+off)=j-off by omega]
    simpa[Array.getD_eq_getD_getElem?]using this.bB hK fun _ h=>h
   ·rename_i hc
    rw[if_neg (by omega)]
    have:=q8 i y Uc j r hj
    simpa[Array.getD_eq_getD_getElem?]using this.bB hK fun _ h=>h
  ·rename_i ei
   have wL:j<k:=by rw[←q4 i' y' dc];exact(List.getElem?_eq_some_iff.1 hj).1
   rw[if_neg (fun hc=>by
    rcases Nat.lt_or_ge i' i with aj|vR
    ·have:=ni aj wL;omega
    ·have:=ni (i:=i') (i':=i) (j:=off+ys.length-1) (k:=k) (by omega) (by omega);omega)]
   have:=q8 i' y' dc j r hj
   simpa[Array.getD_eq_getD_getElem?]using this.bB hK fun _ h=>h
def nk (s:ae)(k:Nat):Nat→List (Nat×Operand)→Option (List (List RT)×List Nat)
 |_,[]=>some ([],[])
 |i,(j,x)::ps=>if j=i then match(s.ev x).cells? with
  |some ts=>if ts.length=k then match s.lZ ts with
   |some (r,bs)=>match nk s k (i+1) ps with
    |some (rs,cs)=>some (r::rs,bs++cs)
    |none=>none
   |none=>none
   else none
  |none=>none
  else none
theorem lH {s:ae}{k:Nat}:∀{ps:List (Nat×Operand)} {i:Nat} {xs:List (List RT)} {bs:List Nat},nk s k i ps=some (xs,bs)→∀b∈bs,∃e k xs,s.get b=some (.rows e k xs)
 |[],_,_,_,h=>by cases h;intro b hb;cases hb
 |(j,x)::ps,i,xs,bs,h=>by
  unfold nk at h;split at h
  ·split at h
   ·split at h
    ·split at h
     ·rename_i U
      split at h
      ·rename_i h2
       cases h;intro b hb;rcases List.mem_append.1 hb with hb|hb
       ·exact lF U b hb
       ·exact lH h2 b hb
      ·cases h
     ·cases h
    ·cases h
   ·cases h
  ·cases h
theorem wM {C:Ctx}{env:Nat→GV}{get:Nat→Option ak}{a:Act}{w:World}{ρ:Nat→Option Value}{D D':Nat→Prop}(hR:Rel C env get a w ρ D)(hD:∀k,D k→D' k){all:List Operand}(hi:∀x∈bF s.env all,env x.1=x.2){k:Nat}:
  ∀{ps:List (Nat×Operand)} {i:Nat} {xs:List (List RT)} {bs:List Nat},nk s k i ps=some (xs,bs)→(∀x∈ps,x.2∈all)→(∀b∈bs,get b=s.get b)→(∀b∈bs,∀g,bo (ρ b)=some g→D' g)→
  xs.length=ps.length∧∀(p:Nat) (x:Nat×Operand),ps[p]?=some x→x.1=i+p∧(a.eval x.2).cells.size=k∧(∀v∈(a.eval x.2).cells.toList,v.oneCell'=true)∧∃y,xs[p]?=some y∧y.length=k∧∀(j:Nat) (r:RT),y[j]?=some r→cb w D' ((a.eval x.2).cells.getD j undef) r
 |[],_,_,_,h,_,_,_=>by cases h;exact⟨rfl,fun p x hx=>by simp at hx⟩
 |(j,x)::ps,i,xs,bs,h,db,hg,hb=>by
  unfold nk at h;split at h
  ·rename_i FQ
   split at h
   ·rename_i ts GY
    split at h
    ·rename_i hk
     split at h
     ·rename_i r b1 U
      split at h
      ·rename_i ZB b2 h2
       cases h;obtain⟨Af,ve⟩:=wM hR hD hi h2 (fun x hx=>db x (List.mem_cons_of_mem _ hx)) (fun b cv=>hg b (List.mem_append_right _ cv)) fun b cv=>hb b (List.mem_append_right _ cv)
       have hc:fw ρ w D _ ts:=js GY (aW hR hi (db (j,x) (List.mem_cons_self ..)))
       obtain⟨t1,t2⟩:=qO hR hD U (fun b cv=>hg b (List.mem_append_left _ cv)) fun b cv=>hb b (List.mem_append_left _ cv)
       refine⟨by simp[Af],fun p z hz=>?_⟩
       cases p with
       |zero=>
        simp only[List.getElem?_cons_zero,Option.some.injEq]at hz;subst hz;refine⟨FQ,by rw[hc.1,hk],tp hc,r,rfl,by rw[t1,hk],fun q r' hq=>?_⟩
        have aj:q<ts.length:=by rw[←t1];exact(List.getElem?_eq_some_iff.1 hq).1
        exact t2 q ts[q] r' (List.getElem?_eq_getElem aj) hq _ (hc.2 _ _ (List.getElem?_eq_getElem aj))
       |succ p=>
        obtain⟨a1,a2,a3,y,a4,a5⟩:=ve p z (by simpa using hz)
        exact⟨by omega,a2,a3,y,by simpa using a4,a5⟩
      ·cases h
     ·cases h
    ·cases h
   ·cases h
  ·cases h
theorem wN {k:Nat}:∀(vs:List (Nat×Value)) (i0:Nat) (cells:Array Value),(∀(p:Nat) (x:Nat×Value),vs[p]?=some x→x.1=i0+p∧x.2.cells.size=k)→(i0+vs.length)*k≤cells.size→
  ∃c',Instr.fill (fun i=>some (i*k,k)) cells vs=some c'∧c'.size=cells.size∧(∀t,t<i0*k→c'[t]?=cells[t]?)∧∀(p:Nat) (x:Nat×Value),vs[p]?=some x→∀j,j<k→c'[(i0+p)*k+j]?=x.2.cells[j]?
 |[],i0,cells,_,_=>⟨cells,rfl,rfl,fun _ _=>rfl,fun p x hx=>by simp at hx⟩
 |(i,v)::vs,i0,cells,h,hl=>by
  obtain⟨e0,hk⟩:=h 0 _ rfl;simp only[Nat.add_zero]at e0 hk;subst e0;have bz:(i+1+vs.length)*k≤cells.size:=by simp only[List.length_cons]at hl;rw[show i+1+vs.length=i+(vs.length+1) by omega];exact hl
  have U:(i+1)*k≤(i+1+vs.length)*k:=Nat.mul_le_mul_right k (by omega)
  have h2:(i+1)*k=i*k+k:=by rw[Nat.add_mul,Nat.one_mul]
  obtain⟨f1,f2⟩:=rW v.cells (i*k) cells;obtain⟨c',r1,r2,r3,r4⟩:=wN vs (i+1) _ (fun p x hx=>by
   obtain⟨a1,a2⟩:=h (p+1) x (by simpa using hx)
   exact⟨by omega,a2⟩) (by rw[f1];exact bz)
  refine⟨c',?_,by rw[r2,f1],fun t ht=>?_,fun p x hx j hj=>?_⟩
  ·rw[Instr.fill]
   simp only
   rw[if_neg (by simp only[ne_eq,Bool.or_eq_true,decide_eq_true_eq,not_or,Decidable.not_not,gt_iff_lt,Nat.not_lt];exact⟨hk,by omega⟩)]
   exact r1
  ·rw[r3 t (by omega),f2,if_neg (by omega)]
  ·cases p with
   |zero=>
    simp only[List.getElem?_cons_zero,Option.some.injEq]at hx;subst hx;rw[Nat.add_zero,r3 _ (by omega),f2,if_pos (by omega)]
    congr 1;omega
   |succ p=>
    have:=r4 p x (by simpa using hx) j hj
    rw[show i+(p+1)=i+1+p by omega]
    exact this
theorem FT {C:Ctx}{env:Nat→GV}{get:Nat→Option ak}{a:Act}{w:World}{ρ:Nat→Option Value}{D:Nat→Prop}(hR:Rel C env get a w ρ D){b:Nat}(hb:get b=none){arr:Array Value}{e k c:Nat}{xs:List (List RT)}(hk:0<k)(hc:xs.length≤c)(hm:c≤maxLen)(hs:arr.size=c*k)
  (hx:∀(i:Nat) (y:List RT),xs[i]?=some y→y.length=k∧∀(j:Nat) (r:RT),y[j]?=some r→cb w D (arr.getD (i*k+j) undef) r):
  ∃ρ',Rel C env (upd get [(b,.rows e k xs)]) a (w.alloc (.cells arr e)) ρ' D∧aY ρ' (w.alloc (.cells arr e)) D (.slice (some ⟨w.heap.size,0,none⟩) xs.length c) (.s (.own b)):=by
 refine⟨_,hR.alloc (x':= .slice (some ⟨w.heap.size,0,none⟩) xs.length c) hb rfl rfl rfl (ue _ _) (fun k hk=>alloc_old _ _ hk) (fun g hg=>?_) ?_,?_⟩
 ·injection hg with hg
  simp at hg;omega
 ·exact⟨_,c,rfl,hc,hm,hk,fun i y hy=>(hx i y hy).1,.inr ⟨_,arr,rfl,wJ _ _,hs,fun i y hy j r hj=>((hx i y hy).2 j r hj).bB (fun m hd=>alloc_old _ _ (hR.ro m hd).1) fun _ h=>h⟩⟩
 ·exact .s (.own (by simp))
theorem wP {t n b:Nat}{ps:Array (Nat×Operand)}(ho:o.op= .buildSlice t n ps)(hd:bu o nt=true){d de:TD}{e:TypeId}(ht:aq P t=some d)(hk:d.k= .slice e)(he:aq P e=some de)(h0:0<de.size)(hn:ps.toList.length=n)(te:n*de.size≤16777216)
  {xs:List (List RT)} {bs:List Nat} (hx:nk s de.size 0 ps.toList=some (xs,bs)):
  dR P E nt o ((b,none)::bs.map fun c=>(c,s.get c)) (bF s.env (ps.toList.map (·.2))) (.s (.own b)) ((b,.rows e de.size xs)::bs.map fun c=>(c,.dead)):=by
 refine .act hd fun C env get a w ρ D hf hi rZ=>?_;have NT:=hf _ (List.mem_cons_self ..);have dJ:∀c∈bs,get c=s.get c:=fun c hc=>hf (c,s.get c) (List.mem_cons_of_mem _ (List.mem_map.2 ⟨c,hc,rfl⟩))
 obtain⟨D',hR,FP,kM⟩:=rZ.consume bs fun c hc=>by
  obtain⟨e,k,xs,h⟩:=lH hx c hc;exact⟨_,(dJ c hc).trans h,rfl⟩
 have rV:upd get (bs.map fun c=>(c,ak.dead)) b=none:=by
  have qD:b∉bs:=fun Aj=>by
   obtain⟨e,k,xs,h⟩:=lH hx b Aj;rw[←dJ b Aj]at h;simp only at NT
   rw[NT]at h;cases h
  have:gt b (bs.map fun c=>(c,ak.dead))=none:=by
   clear dJ hx kM hR hf;induction bs with
   |nil=>rfl
   |cons c bs ih=>
    simp only[List.mem_cons,not_or]at qD;simp only[List.map_cons,gt,if_neg qD.1];exact ih qD.2
  simp only[upd,this];exact NT
 obtain⟨r1,r2⟩:=wM rZ FP hi hx (fun x hx=>List.mem_map.2 ⟨x,hx,rfl⟩) dJ kM
 obtain⟨z,hz,FO⟩:=nh he w;have hu:=kr ht hk;have Rt:z.cells.size=de.size:=by have:=(cW he).2.1;rw[←FO]at this;simpa using this
 have hlen:∀c0:Array Value,c0.size=n*de.size→∃c',Instr.fill (fun i=>some (i*de.size,de.size)) c0 (ps.toList.map fun x=>(x.1,a.eval x.2))=some c'∧c'.size=c0.size∧
   ∀(p:Nat) (x:Nat×Operand),ps.toList[p]?=some x→∀j,j<de.size→c'[p*de.size+j]?=(a.eval x.2).cells[j]?:=by
  intro c0 ZD;obtain⟨c',f1,f2,_,f4⟩:=wN (ps.toList.map fun x=>(x.1,a.eval x.2)) 0 c0 (fun p x hx=>by
   rw[List.getElem?_map,Option.map_eq_some_iff]at hx;obtain⟨x',iG,rfl⟩:=hx;obtain⟨a1,a2,_⟩:=r2 p x' iG;exact⟨a1,a2⟩) (by rw[ZD,Nat.zero_add,List.length_map,hn];exact Nat.le_refl _)
  refine⟨c',f1,f2,fun p x hx j hj=>?_⟩
  have:=f4 p (x.1,a.eval x.2) (by rw[List.getElem?_map,hx];rfl) j hj
  rwa[Nat.zero_add]at this
 obtain⟨c',f1,f2,f3⟩:=hlen ((Array.range (n*de.size)).map fun i=>(if n*de.size=0 then #[]else z.cells)[i %(if n*de.size=0 then #[]else z.cells).size]!) (by simp)
 have iE:(execOp a.eval o).run P w= .ok (.value (.slice (some ⟨w.heap.size,0,none⟩) n n)) (w.alloc (.cells c' e)):=by
  have hm:(ps.map fun x=>(x.1,a.eval x.2)).toList=ps.toList.map fun x=>(x.1,a.eval x.2):=by simp
  have a_:¬(2^24<n*de.size):=by omega
  by_cases BD:n*de.size=0
  ·simp only[BD,if_true]at f1
   simp[execOp,ho,Instr.buildSlice,run_underlying hu,oF he,BD,newRow];simp at f1
   rw[f1];simp
  ·simp only[BD,if_false]at f1
   simp[execOp,ho,Instr.buildSlice,run_underlying hu,oF he,BD,newRow,hz];rw[f1];simp
   exact te
 have SN:xs.length=n:=by rw[r1];exact hn
 obtain⟨ρ',g1,g2⟩:=FT hR rV (arr:=c') (e:=e) (k:=de.size) (c:=n) (xs:=xs) h0 (by omega) (by simp only[maxLen];have:=Nat.le_mul_of_pos_right n h0;omega) (by rw[f2];simp) (fun i y hy=>by
  have eE:i<ps.toList.length:=by rw[←r1];exact(List.getElem?_eq_some_iff.1 hy).1
  obtain⟨_,b2,_,y',b4,b5,b6⟩:=r2 i _ (List.getElem?_eq_getElem eE);rw[hy]at b4;cases b4;refine⟨b5,fun j r hj=>?_⟩
  have IP:j<de.size:=by rw[←b5];exact(List.getElem?_eq_some_iff.1 hj).1
  have:=b6 j r hj
  simp only[Array.getD_eq_getD_getElem?]at this⊢;rw[f3 i _ (List.getElem?_eq_getElem eE) j IP];exact this)
 rw[SN]at g2;rw[zi];exact⟨_,_,ρ',D',iE,g1,g2⟩
end
end Go.Proofs.YtjklkppncmhehaaGreat.T
