/-
What is proved: of each operation that changes memory, what it does to trees and what rests on it. Conditions: as stated.
-/
import Derived.Test.YtabjbdnokpjipaaGreatRw28
import Derived.Laws.AppendOwnNone
set_option linter.unusedVariables false
set_option linter.unusedSimpArgs false
namespace Go.Proofs.YtabjbdnokpjipaaGreat.T
open Go Go.RowKit
theorem oE (b:Nat)(x y:List (Nat×az)):gt b (x++y)=match gt b x with|some z=>some z|none=>gt b y:=by
 induction x with
 |nil=>rfl
 |cons a x ih=>
  obtain⟨u,z⟩:=a;simp only[List.cons_append,gt];split
  ·rfl
  ·exact ih
theorem Yz (get:Nat→Option az)(x y:List (Nat×az)):upd (upd get y) x=upd get (x++y):=by
 funext b
 simp only[upd,oE]
 cases gt b x<;>rfl
theorem FN (get:Nat→Option az)(b:Nat)(y:az)(Δ:List (Nat×az)):upd get ((b,y)::Δ)=upd (upd get Δ) [(b,y)]:=by rw[Yz];rfl
theorem mR (get:Nat→Option az)(b:Nat)(y:az)(c:Nat):upd get [(b,y)] c=if c=b then some y else get c:=by
 simp only[upd,gt];split<;>simp_all
section
variable {C:Ctx}{env:Nat→GV}{get:Nat→Option az}{a:Act}{w w':World}{ρ:Nat→Option Value}{D:Nat→Prop}
theorem Rel.move (h:Rel C env get a w ρ D){b b':Nat}{y:az}{x':Value}(cT:get b'=none)(hold:∃z,get b=some z∧z.live=true)(e1:w'.os=w.os)(e2:w'.tape=w.tape)(e3:w'.output=w.output)(e4:w.heap.size≤w'.heap.size)
  (hk:∀k,k<w.heap.size→bS (ρ b)≠some k→w'.heap[k]?=w.heap[k]?) (hx:∀g,bS (some x')=some g→bS (ρ b)=some g∨w.heap.size≤g) (hy:ew (fun c=>if c=b' then some x' else ρ c) w' D (some x') y):
  Rel C env (upd get [(b',y),(b,.dead)]) a w' (fun c=>if c=b' then some x' else ρ c) D:=by
 obtain⟨z,hz,CQ⟩:=hold;have G':b≠b':=by rintro rfl;rw[cT]at hz;cases hz
 have eK:∀c x,ρ c=some x→(fun c=>if c=b' then some x' else ρ c) c=some x:=fun c x hc=>by
  have:c≠b':=by rintro rfl;rw[h.free _ cT]at hc;cases hc
  simp[this,hc]
 have QA:∀g,bS (ρ b)=some g→¬D g∧(C.M g∨C.W.heap.size≤g):=fun g hg=>h.own b z g hz CQ hg
 have hK:cD D w w':=fun k hd=>hk k (h.ro k hd).1 fun e=>(QA k e).1 hd
 have kq:=h.size;refine⟨e1.trans h.os,e2.trans h.tape,e3.trans h.output,by omega,fun k ak hM=>?_,fun k hd=>⟨Nat.lt_of_lt_of_le (h.ro k hd).1 e4,(h.ro k hd).2⟩,fun c hc=>?_,fun c y' hc=>?_,fun c y' g hc hl hg=>?_,fun c y1 c' y2 g hc hl cI bz hg bu=>?_,fun t=>(h.env t).keep eK hK fun _ h=>h,h.defers,h.nt,fun b x hx=>eK b x (h.ext b x hx)⟩
 ·rw[hk k (by omega) (fun e=>?_)]
  ·exact h.old k ak hM
  ·rcases(QA k e).2 with h1|h1
   ·exact hM h1
   ·omega
 ·simp only[upd,gt]at hc
  split at hc
  ·cases hc
  ·rename_i hg
   have:c≠b':=by rintro rfl;simp at hg
   simp only[this,if_false];exact h.free c hc
 ·simp only[upd,gt]at hc
  by_cases e:c=b'
  ·subst e
   simp only[if_true,Option.some.injEq]at hc;subst hc;simp only[if_true];exact hy
  ·by_cases e':c=b
   ·simp only[e,e',G',if_false,if_true,Option.some.injEq]at hc
    subst hc;trivial
   ·simp only[e,e',if_false]at hc
    simp only[e,if_false];refine(h.blk c y' hc).keep eK hK (fun _ h=>h) ?_
    by_cases hl:y'.live=true
    ·right
     intro g hg;exact hk g (h.jr hc hl hg) fun e2=>e' (h.sep c y' b z g hc hl hz CQ hg e2)
    ·left
     cases y'<;>simp[az.live]at hl
     rfl
 ·simp only[upd,gt]at hc
  by_cases e:c=b'
  ·subst e
   simp only[if_true]at hg;rcases hx g hg with h1|h1
   ·exact QA g h1
   ·exact⟨fun hd=>by have:=(h.ro g hd).1;omega,.inr (by omega)⟩
  ·by_cases e':c=b
   ·simp only[e,e',G',if_false,if_true,Option.some.injEq]at hc
    subst hc;simp[az.live]at hl
   ·simp only[e,e',if_false]at hc
    simp only[e,if_false]at hg;exact h.own c y' g hc hl hg
 ·simp only[upd,gt]at hc cI
  have key:∀c y1,c≠b'→(match(if c=b' then some y else if c=b then some az.dead else none)with|some y=>some y|none=>get c)=some y1→y1.live=true→c≠b∧get c=some y1:=by
   intro c y1 e hc hl;by_cases e':c=b
   ·simp only[e,e',G',if_false,if_true,Option.some.injEq]at hc
    subst hc;simp[az.live]at hl
   ·simp only[e,e',if_false]at hc
    exact⟨e',hc⟩
  by_cases e:c=b'<;>by_cases e':c'=b'
  ·rw[e,e']
  ·obtain⟨n1,n2⟩:=key c' y2 e' cI bz
   simp only[e',if_false]at bu;simp only[e,if_true]at hg;exfalso
   rcases hx g hg with h1|h1
   ·exact n1 (h.sep c' y2 b z g n2 bz hz CQ bu h1)
   ·have:=h.jr n2 bz bu;omega
  ·obtain⟨n1,n2⟩:=key c y1 e hc hl
   simp only[e,if_false]at hg;simp only[e',if_true]at bu;exfalso
   rcases hx g bu with h1|h1
   ·exact n1 (h.sep c y1 b z g n2 hl hz CQ hg h1)
   ·have:=h.jr n2 hl hg;omega
  ·obtain⟨_,n2⟩:=key c y1 e hc hl
   obtain⟨_,m2⟩:=key c' y2 e' cI bz;simp only[e,if_false]at hg;simp only[e',if_false]at bu;exact h.sep c y1 c' y2 g n2 hl m2 bz hg bu
theorem Rel.alloc (h:Rel C env get a w ρ D){b':Nat}{y:az}{x':Value}(cT:get b'=none)(e1:w'.os=w.os)(e2:w'.tape=w.tape)(e3:w'.output=w.output)(e4:w.heap.size≤w'.heap.size)
  (hk:∀k,k<w.heap.size→w'.heap[k]?=w.heap[k]?) (hx:∀g,bS (some x')=some g→w.heap.size≤g) (hy:ew (fun c=>if c=b' then some x' else ρ c) w' D (some x') y):
  Rel C env (upd get [(b',y)]) a w' (fun c=>if c=b' then some x' else ρ c) D:=by
 have eK:∀c x,ρ c=some x→(fun c=>if c=b' then some x' else ρ c) c=some x:=fun c x hc=>by
  have:c≠b':=by rintro rfl;rw[h.free _ cT]at hc;cases hc
  simp[this,hc]
 have hK:cD D w w':=fun k hd=>hk k (h.ro k hd).1
 have kq:=h.size;refine⟨e1.trans h.os,e2.trans h.tape,e3.trans h.output,by omega,fun k ak hM=>(hk k (by omega)).trans (h.old k ak hM),fun k hd=>⟨Nat.lt_of_lt_of_le (h.ro k hd).1 e4,(h.ro k hd).2⟩,fun c hc=>?_,fun c y' hc=>?_,fun c y' g hc hl hg=>?_,fun c y1 c' y2 g hc hl cI bz hg bu=>?_,fun t=>(h.env t).keep eK hK fun _ h=>h,h.defers,h.nt,fun b x hx=>eK b x (h.ext b x hx)⟩
 ·rw[mR]at hc
  split at hc
  ·cases hc
  ·rename_i e
   simp only[e,if_false];exact h.free c hc
 ·rw[mR]at hc
  by_cases e:c=b'
  ·simp only[e,if_true,Option.some.injEq]at hc⊢
   subst hc;exact hy
  ·simp only[e,if_false]at hc⊢
   refine(h.blk c y' hc).keep eK hK (fun _ h=>h) ?_
   by_cases hl:y'.live=true
   ·exact .inr fun g hg=>hk g (h.jr hc hl hg)
   ·left
    cases y'<;>simp[az.live]at hl
    rfl
 ·rw[mR]at hc
  by_cases e:c=b'
  ·simp only[e,if_true]at hg
   have h1:=hx g hg;exact⟨fun hd=>by have:=(h.ro g hd).1;omega,.inr (by omega)⟩
  ·simp only[e,if_false]at hc hg
   exact h.own c y' g hc hl hg
 ·rw[mR]at hc cI
  by_cases e:c=b'<;>by_cases e':c'=b'
  ·rw[e,e']
  ·simp only[e',if_false]at bu cI
   simp only[e,if_true]at hg;have h1:=hx g hg;have:=h.jr cI bz bu;omega
  ·simp only[e,if_false]at hg hc
   simp only[e',if_true]at bu;have h1:=hx g bu;have:=h.jr hc hl hg;omega
  ·simp only[e,if_false]at hg hc
   simp only[e',if_false]at bu cI;exact h.sep c y1 c' y2 g hc hl cI bz hg bu
theorem Rel.change (h:Rel C env get a w ρ D){b:Nat}{y z:az}(hz:get b=some z)(CQ:z.live=true)(e1:w'.os=w.os)(e2:w'.tape=w.tape)(e3:w'.output=w.output)(e4:w.heap.size≤w'.heap.size)
  (hk:∀k,k<w.heap.size→bS (ρ b)≠some k→w'.heap[k]?=w.heap[k]?) (hy:ew ρ w' D (ρ b) y):Rel C env (upd get [(b,y)]) a w' ρ D:=by
 have QA:∀g,bS (ρ b)=some g→¬D g∧(C.M g∨C.W.heap.size≤g):=fun g hg=>h.own b z g hz CQ hg
 have hK:cD D w w':=fun k hd=>hk k (h.ro k hd).1 fun e=>(QA k e).1 hd
 have kq:=h.size;refine⟨e1.trans h.os,e2.trans h.tape,e3.trans h.output,by omega,fun k ak hM=>?_,fun k hd=>⟨Nat.lt_of_lt_of_le (h.ro k hd).1 e4,(h.ro k hd).2⟩,fun c hc=>?_,fun c y' hc=>?_,fun c y' g hc hl hg=>?_,fun c y1 c' y2 g hc hl cI bz hg bu=>?_,fun t=>(h.env t).keep (fun _ _ h=>h) hK fun _ h=>h,h.defers,h.nt,h.ext⟩
 ·rw[hk k (by omega) (fun e=>?_)]
  ·exact h.old k ak hM
  ·rcases(QA k e).2 with h1|h1
   ·exact hM h1
   ·omega
 ·rw[mR]at hc
  split at hc
  ·cases hc
  ·exact h.free c hc
 ·rw[mR]at hc
  by_cases e:c=b
  ·simp only[e,if_true,Option.some.injEq]at hc
   subst hc;subst e;exact hy
  ·simp only[e,if_false]at hc
   refine(h.blk c y' hc).keep (fun _ _ h=>h) hK (fun _ h=>h) ?_
   by_cases hl:y'.live=true
   ·exact .inr fun g hg=>hk g (h.jr hc hl hg) fun e2=>e (h.sep c y' b z g hc hl hz CQ hg e2)
   ·left
    cases y'<;>simp[az.live]at hl
    rfl
 ·rw[mR]at hc
  by_cases e:c=b
  ·subst e;exact QA g hg
  ·simp only[e,if_false]at hc
   exact h.own c y' g hc hl hg
 ·rw[mR]at hc cI
  by_cases e:c=b<;>by_cases e':c'=b
  ·rw[e,e']
  ·subst e
   simp only[e',if_false]at cI;exact h.sep c z c' y2 g hz CQ cI bz hg bu
  ·subst e'
   simp only[e,if_false]at hc;exact h.sep c y1 c' z g hc hl hz CQ hg bu
  ·simp only[e,if_false]at hc
   simp only[e',if_false]at cI;exact h.sep c y1 c' y2 g hc hl cI bz hg bu
theorem Rel.consume (h:Rel C env get a w ρ D)(bs:List Nat)(hb:∀b∈bs,∃z,get b=some z∧z.live=true):∃D':Nat→Prop,Rel C env (upd get (bs.map fun b=>(b,.dead))) a w ρ D'∧(∀k,D k→D' k)∧∀b∈bs,∀g,bS (ρ b)=some g→D' g:=by
 have Wp:∀c,gt c (bs.map fun b=>(b,az.dead))=if c∈bs then some .dead else none:=by
  intro c;induction bs with
  |nil=>rfl
  |cons b bs ih=>
   simp only[List.map_cons,gt,List.mem_cons];rw[ih fun b cT=>hb b (List.mem_cons_of_mem _ cT)]
   by_cases e:c=b<;>simp[e]
 have MS:∀c,upd get (bs.map fun b=>(b,az.dead)) c=if c∈bs then some .dead else get c:=by
  intro c;simp only[upd,Wp];split<;>simp_all
 have cJ:∀k,D k→D k∨∃b∈bs,bS (ρ b)=some k:=fun k=> .inl
 refine⟨fun k=>D k∨∃b∈bs,bS (ρ b)=some k,⟨h.os,h.tape,h.output,h.size,h.old,fun k hk=>?_,fun c hc=>?_,fun c y hc=>?_,fun c y g hc hl hg=>?_,fun c y1 c' y2 g hc hl cI bz hg bu=>?_,fun t=>(h.env t).keep (fun _ _ h=>h) (cD.refl _ _) cJ,h.defers,h.nt,h.ext⟩,cJ,fun b cT g hg=> .inr ⟨b,cT,hg⟩⟩
 ·rcases hk with hk|⟨b,cT,hg⟩
  ·exact h.ro k hk
  ·obtain⟨z,hz,hl⟩:=hb b cT
   exact⟨h.jr hz hl hg,.inr (h.own b z k hz hl hg).2⟩
 ·rw[MS]at hc
  split at hc
  ·cases hc
  ·exact h.free c hc
 ·rw[MS]at hc
  split at hc
  ·cases hc;trivial
  ·exact(h.blk c y hc).keep (fun _ _ h=>h) (cD.refl _ _) cJ (.inr fun _ _=>rfl)
 ·rw[MS]at hc
  split at hc
  ·cases hc;simp[az.live]at hl
  ·rename_i hn
   obtain⟨h1,h2⟩:=h.own c y g hc hl hg;refine⟨?_,h2⟩;rintro(hd|⟨b,cT,bu⟩)
   ·exact h1 hd
   ·obtain⟨z,hz,CQ⟩:=hb b cT
    have:=h.sep c y b z g hc hl hz CQ hg bu
    subst this;exact hn cT
 ·rw[MS]at hc cI
  split at hc
  ·cases hc;simp[az.live]at hl
  ·split at cI
   ·cases cI;simp[az.live]at bz
   ·exact h.sep c y1 c' y2 g hc hl cI bz hg bu
end
def ah.Am (s:ah):TV→Option (RT×List Nat)
 | .r t=>some (t,[])
 | .own b=>match s.get b with
   |some (.rows _ k xs)=>some (.sl k xs,[b])
   |_=>none
 |_=>none
def ah.pU (s:ah):List TV→Option (List RT×List Nat)
 |[]=>some ([],[])
 |t::ts=>match s.Am t with
  |some (r,bs)=>match s.pU ts with
   |some (rs,cs)=>some (r::rs,bs++cs)
   |none=>none
  |none=>none
theorem QB {s:ah}{t:TV}{r:RT}{bs:List Nat}(h:s.Am t=some (r,bs)):∀b∈bs,∃e k xs,s.get b=some (.rows e k xs):=by
 unfold ah.Am at h;split at h
 ·cases h;intro b hb;cases hb
 ·split at h
  ·rename_i hg
   cases h;intro b hb;simp only[List.mem_cons,List.not_mem_nil,or_false]at hb;subst hb;exact⟨_,_,_,hg⟩
  ·cases h
 ·cases h
theorem py {s:ah}:∀{ts:List TV} {r:List RT} {bs:List Nat},s.pU ts=some (r,bs)→∀b∈bs,∃e k xs,s.get b=some (.rows e k xs)
 |[],_,_,h=>by cases h;intro b hb;cases hb
 |t::ts,r,bs,h=>by
  unfold ah.pU at h;split at h
  ·rename_i h1
   split at h
   ·rename_i h2
    cases h;intro b hb;rcases List.mem_append.1 hb with hb|hb
    ·exact QB h1 b hb
    ·exact py h2 b hb
   ·cases h
  ·cases h
theorem FO {C:Ctx}{env:Nat→GV}{get:Nat→Option az}{a:Act}{w:World}{ρ:Nat→Option Value}{D D':Nat→Prop}{s:ah}(hR:Rel C env get a w ρ D){t:TV}{r:RT}{bs:List Nat}(h:s.Am t=some (r,bs))
  (hg:∀b∈bs,get b=s.get b) (hD:∀k,D k→D' k) (hb:∀b∈bs,∀g,bS (ρ b)=some g→D' g) {v:Value} (hr:cG ρ w D v t):dh w D' v r:=by
 unfold ah.Am at h;split at h
 ·cases h
  cases hr with|r hr=>exact hr.keep (cD.refl _ _) hD
 ·rename_i b
  split at h
  ·rename_i e k xs xZ
   cases h;have adm:get b=some (.rows e k xs):=(hg b (List.mem_cons_self ..)).trans xZ
   obtain⟨A,c,e1,h1,h2,h3,h4,h5⟩:=hR.blk b _ adm
   cases hr with|own hr=>
   rw[e1]at hr
   cases hr;rcases h5 with⟨rfl,rfl,rfl⟩|⟨g,arr,rfl,h6,h7,h8⟩
   ·exact .EM h2
   ·refine .RI h1 h2 (hb b (List.mem_cons_self ..) g (by rw[e1];rfl)) fun i y hy=>⟨h4 i y hy,g,0,rfl,fun j r hj=>⟨arr.getD (i*k+j) undef,?_,(h8 i y hy j r hj).keep (cD.refl _ _) hD⟩⟩
    have hi:i<xs.length:=(List.getElem?_eq_some_iff.1 hy).1
    have Qz:j<y.length:=(List.getElem?_eq_some_iff.1 hj).1
    rw[h4 i y hy]at Qz;have ak:i*k+j<arr.size:=by
     rw[h7]
     calc i*k+j<i*k+k:=by omega
      _=(i+1)*k:=by rw[Nat.add_mul,Nat.one_mul]
      _≤c*k:=Nat.mul_le_mul_right k (by omega)
    simp[World.cell?,h6,Array.getD_eq_getD_getElem?,Array.getElem?_eq_getElem ak]
  ·cases h
 ·cases h
theorem wU {C:Ctx}{env:Nat→GV}{get:Nat→Option az}{a:Act}{w:World}{ρ:Nat→Option Value}{D D':Nat→Prop}{s:ah}(hR:Rel C env get a w ρ D)(hD:∀k,D k→D' k):∀{ts:List TV} {rs:List RT} {bs:List Nat},s.pU ts=some (rs,bs)→
  (∀b∈bs,get b=s.get b)→(∀b∈bs,∀g,bS (ρ b)=some g→D' g)→rs.length=ts.length∧∀(i:Nat) (t:TV) (r:RT),ts[i]?=some t→rs[i]?=some r→∀v,cG ρ w D v t→dh w D' v r
 |[],_,_,h,_,_=>by cases h;exact⟨rfl,fun i t r ht=>by simp at ht⟩
 |t::ts,rs,bs,h,hg,hb=>by
  unfold ah.pU at h;split at h
  ·rename_i r0 b0 h1
   split at h
   ·rename_i rs' b1 h2
    cases h;obtain⟨G7,BU⟩:=wU hR hD h2 (fun b cT=>hg b (List.mem_append_right _ cT)) fun b cT=>hb b (List.mem_append_right _ cT)
    refine⟨by simp[G7],fun i t' r' ht hr v hv=>?_⟩
    cases i with
    |zero=>
     simp only[List.getElem?_cons_zero,Option.some.injEq]at ht hr;subst ht;subst hr;exact FO hR h1 (fun b cT=>hg b (List.mem_append_left _ cT)) hD (fun b cT=>hb b (List.mem_append_left _ cT)) hv
    |succ i=>
     simp only[List.getElem?_cons_succ]at ht hr;exact BU i t' r' ht hr v hv
   ·cases h
  ·cases h
end Go.Proofs.YtabjbdnokpjipaaGreat.T
namespace Go.Proofs.YtabjbdnokpjipaaGreat.T
open Go Go.RowKit
theorem fE.act {P:Program}{E:List PanicEntry→World→Prop}{nt:Nat}{o:Oper}{fr:List (Nat×Option az)}{ins:List (Nat×GV)}{gv:GV}{Δ:List (Nat×az)}(hd:bO o nt=true)
  (h:∀C env get a w ρ D,(∀x∈fr,get x.1=x.2)→(∀x∈ins,env x.1=x.2)→Rel C env get a w ρ D→∃v w' ρ' D',(execOp a.eval o).run P w= .ok (.value v) w'∧Rel C env (upd get Δ) a w' ρ' D'∧bA ρ' w' D' v gv):fE P E nt o fr ins gv Δ:=by
 intro C env get a w K Q hn hf hi hR hK hE;obtain⟨ρ,D,hR⟩:=hR;obtain⟨v,w',ρ',D',hv,ru,hg⟩:=h C env get a w ρ D hf hi hR;unfold Oper.wp;rw[hv,Oper.upon_value];refine hK _ _ ⟨ρ',D',ru.put (fun d e=>?_) hg⟩
 unfold bO at hd;rw[e]at hd;simpa[hn]using hd
theorem fE.skip {P:Program}{E:List PanicEntry→World→Prop}{nt:Nat}{o:Oper}{fr:List (Nat×Option az)}{ins:List (Nat×GV)}{Δ:List (Nat×az)}(hd:bO o nt=true)
  (h:∀C env get a w ρ D,(∀x∈fr,get x.1=x.2)→(∀x∈ins,env x.1=x.2)→Rel C env get a w ρ D→∃w' ρ' D',(execOp a.eval o).run P w= .ok .skip w'∧Rel C env (upd get Δ) a w' ρ' D'):fE P E nt o fr ins .u Δ:=by
 intro C env get a w K Q hn hf hi hR hK hE;obtain⟨ρ,D,hR⟩:=hR;obtain⟨w',ρ',D',hv,ru⟩:=h C env get a w ρ D hf hi hR;unfold Oper.wp;rw[hv,Oper.upon_skip];refine hK _ _ ⟨ρ',D',ru.put (fun d e=>?_) .u⟩
 unfold bO at hd;rw[e]at hd;simpa[hn]using hd
def dC {α:Type}(cs:List α)(off:Nat)(ys:List α):List α:=cs.take off++ys++cs.drop (off+ys.length)
theorem pz {α:Type}{cs ys:List α}{off:Nat}(h:off+ys.length≤cs.length)(i:Nat):(dC cs off ys)[i]?=if off≤i∧i<off+ys.length then ys[i-off]? else cs[i]?:=by
 unfold dC;rw[List.append_assoc,List.getElem?_append];simp only[List.length_take];rw[Nat.min_eq_left (by omega)]
 by_cases h1:i<off
 ·rw[if_pos h1,if_neg (by omega),List.getElem?_take,if_pos h1]
 ·rw[if_neg h1,List.getElem?_append]
  by_cases h2:i<off+ys.length
  ·rw[if_pos (by omega),if_pos ⟨by omega,h2⟩]
  ·rw[if_neg (by omega),if_neg (by omega),List.getElem?_drop]
   congr 1;omega
theorem lh {α:Type}{cs ys:List α}{off:Nat}(h:off+ys.length≤cs.length):(dC cs off ys).length=cs.length:=by
 simp only[dC,List.length_append,List.length_take,List.length_drop];omega
theorem YA (vs:Array Value)(off:Nat)(cells:Array Value):∀(n:Nat),n≤vs.size→∀l,l=(vs.zipIdx.toList.take n)→(l.foldl (fun cs (x:Value×Nat)=>cs.setIfInBounds (off+x.2) x.1) cells).size=cells.size∧
  ∀i,(l.foldl (fun cs (x:Value×Nat)=>cs.setIfInBounds (off+x.2) x.1) cells)[i]?=if off≤i∧i<off+n∧i<cells.size then vs[i-off]? else cells[i]?:=by
 intro n;induction n with
 |zero=>
  intro _ l hl;subst hl;refine⟨rfl,fun i=>?_⟩
  rw[if_neg (by omega)]
  rfl
 |succ n ih=>
  intro hn l hl;subst hl;have e:vs.zipIdx.toList.take (n+1)=vs.zipIdx.toList.take n++[(vs[n],n)]:=by
   rw[List.take_add_one];congr 1
   simp[Array.getElem?_zipIdx,show n<vs.size by omega]
  obtain⟨h1,h2⟩:=ih (by omega) _ rfl
  rw[e,List.foldl_append];simp only[List.foldl_cons,List.foldl_nil];refine⟨by rw[Array.size_setIfInBounds,h1],fun i=>?_⟩
  rw[Array.getElem?_setIfInBounds,h2,h1];by_cases e2:off+n=i
  ·subst e2
   simp only[if_true];by_cases h3:off+n<cells.size
   ·rw[if_pos h3,if_pos ⟨by omega,by omega,h3⟩,Nat.add_sub_cancel_left]
    simp
   ·rw[if_neg h3,if_neg (by omega),Array.getElem?_eq_none (by omega)]
  ·rw[if_neg e2]
   by_cases h4:off≤i∧i<off+n∧i<cells.size
   ·rw[if_pos h4,if_pos (by omega)]
   ·rw[if_neg h4,if_neg (by omega)]
theorem x_ (vs:Array Value)(off:Nat)(cells:Array Value):(vs.zipIdx.foldl (fun cs (x:Value×Nat)=>cs.setIfInBounds (off+x.2) x.1) cells).size=cells.size∧
  ∀i,(vs.zipIdx.foldl (fun cs (x:Value×Nat)=>cs.setIfInBounds (off+x.2) x.1) cells)[i]?=if off≤i∧i<off+vs.size∧i<cells.size then vs[i-off]? else cells[i]?:=by
 have:=YA vs off cells vs.size (Nat.le_refl _) _ rfl
 rw[show vs.zipIdx.toList.take vs.size=vs.zipIdx.toList from List.take_of_length_le (by simp),Array.foldl_toList]at this
 exact this
def jb (ρ:Nat→Option Value)(w:World)(D:Nat→Prop)(arr:Array Value)(cs:List TV):Prop:=arr.size=cs.length∧∀(i:Nat) (t:TV),cs[i]?=some t→cG ρ w D (arr.getD i undef) t
theorem jb.dC {ρ:Nat→Option Value}{w:World}{D:Nat→Prop}{arr vs:Array Value}{cs ys:List TV}{off:Nat}(h:jb ρ w D arr cs)(hv:jb ρ w D vs ys)(hl:off+ys.length≤cs.length){arr':Array Value}(hs:arr'.size=arr.size)
  (hg:∀i,arr'[i]?=if off≤i∧i<off+vs.size∧i<arr.size then vs[i-off]? else arr[i]?):jb ρ w D arr' (dC cs off ys):=by
 refine⟨by rw[hs,h.1,lh hl],fun i t ht=>?_⟩
 rw[pz hl]at ht;simp only[Array.getD_eq_getD_getElem?,hg];split at ht
 ·rename_i hc
  have:=hv.2 _ _ ht
  rw[if_pos ⟨hc.1,by rw[hv.1];exact hc.2,by rw[h.1];omega⟩]
  simpa[Array.getD_eq_getD_getElem?]using this
 ·rename_i hc
  have:=h.2 _ _ ht
  rw[if_neg (by rw[hv.1];omega)]
  simpa[Array.getD_eq_getD_getElem?]using this
def rv (place:Nat→Option (Nat×Nat)):List TV→List (Nat×GV)→Option (List TV)
 |cs,[]=>some cs
 |cs,(i,g)::rest=>match place i with
  |some (off,size)=>match g.cells? with
   |some ys=>if ys.length=size∧off+size≤cs.length then rv place (dC cs off ys) rest else none
   |none=>none
  |none=>none
theorem FP {ρ:Nat→Option Value}{w:World}{D:Nat→Prop}{place:Nat→Option (Nat×Nat)}:∀{parts:List (Nat×GV)} {vs:List (Nat×Value)} {arr:Array Value} {cs cz:List TV},jb ρ w D arr cs→rv place cs parts=some cz→
  vs.length=parts.length→(∀(i:Nat) (x:Nat×GV) (y:Nat×Value),parts[i]?=some x→vs[i]?=some y→x.1=y.1∧bA ρ w D y.2 x.2)→∃arr',Instr.fill place arr vs=some arr'∧jb ρ w D arr' cz
 |[],vs,arr,cs,cz,hc,h,hl,_=>by
  cases h;obtain rfl:vs=[]:=List.eq_nil_of_length_eq_zero hl
  exact⟨arr,rfl,hc⟩
 |(i,g)::rest,[],arr,cs,cz,hc,h,hl,hp=>by cases hl
 |(i,g)::rest,(j,v)::vs,arr,cs,cz,hc,h,hl,hp=>by
  unfold rv at h;obtain⟨e0,hg⟩:=hp 0 _ _ rfl rfl;simp only at e0
  subst e0;split at h
  ·rename_i off size qv
   split at h
   ·rename_i ys EP
    split at h
    ·rename_i acb
     obtain⟨c1,c2⟩:=acb;have hv:=mQ EP hg;obtain⟨f1,f2⟩:=x_ v.cells off arr;have hs:=hc.dC (off:=off) (show jb ρ w D v.cells ys from hv) (by omega) f1 f2
     obtain⟨arr',r1,r2⟩:=FP (vs:=vs) hs h (by simpa using hl) fun k x y hx hy=>hp (k+1) x y (by simpa using hx) (by simpa using hy)
     refine⟨arr',?_,r2⟩;rw[Instr.fill,qv];simp only
     rw[if_neg (by have h1:=hc.1;have h2:=hv.1;simp only[ne_eq,Bool.or_eq_true,decide_eq_true_eq,not_or,Decidable.not_not,gt_iff_lt,Nat.not_lt];exact⟨by rw[h2,c1],by rw[h1,h2];omega⟩)]
     exact r1
    ·cases h
   ·cases h
  ·cases h
theorem jb.zero {ρ:Nat→Option Value}{w:World}{D:Nat→Prop}{z:List Value}(h:∀x∈z,x.oneCell'=true):jb ρ w D z.toArray (z.map fun x=> .r (jY x)):=by
 refine⟨by simp,fun i t ht=>?_⟩
 rw[List.getElem?_map,Option.map_eq_some_iff]at ht;obtain⟨x,hx,rfl⟩:=ht;simp only[Array.getD_eq_getD_getElem?,List.getElem?_toArray,hx,Option.getD_some];exact .r (uO (h x (List.mem_of_getElem? hx)))
theorem jb.keep {ρ ρ':Nat→Option Value}{w w':World}{D D':Nat→Prop}(eK:∀b x,ρ b=some x→ρ' b=some x)(hk:cD D w w')(hD:∀b,D b→D' b){arr:Array Value}{cs:List TV}(h:jb ρ w D arr cs):jb ρ' w' D' arr cs:=
 ⟨h.1,fun i t ht=>(h.2 i t ht).keep eK hk hD⟩
theorem FQ {ρ:Nat→Option Value}{w:World}{D:Nat→Prop}{g:Nat}{arr:Array Value}{ty:TypeId}{cs:List TV}(hg:w.heap[g]?=some (.cells arr ty (0,0)))(h:jb ρ w D arr cs):ew ρ w D (some (.pointer (some ⟨g,0,none⟩))) (.box cs):=⟨g,arr,ty,rfl,hg,h.1,h.2⟩
theorem CR (w:World)(o:Obj):(w.alloc o).heap[w.heap.size]?=some o:=heap_alloc_new w o
theorem alloc_old (w:World)(o:Obj){k:Nat}(h:k<w.heap.size):(w.alloc o).heap[k]?=w.heap[k]?:=Below.heap_alloc w o k h
theorem An (w:World)(o:Obj):w.heap.size≤(w.alloc o).heap.size:=by simp
section
variable {P:Program}{E:List PanicEntry→World→Prop}{nt:Nat}{o:Oper}{s:ah}
theorem Ao (w:World)(t:TypeId)(v:Value):(newVar t v).run P w= .ok ⟨w.heap.size,0,none⟩ (w.alloc (.cells v.cells t)):=by simp[newVar,newRow]
theorem ry {t:TypeId}{d:TD}(h:aM P t=some d)(w:World):∃z,(zeroValue t).run P w= .ok z w∧z.cells.toList=d.zero:=by
 obtain⟨i,u,z,h1,_,h3,_,_,h6,_⟩:=fS h;exact⟨z,by simp[zeroValue,typeInfo,h1,h3],h6⟩
theorem RL {C:Ctx}{env:Nat→GV}{get:Nat→Option az}{a:Act}{w:World}{ρ:Nat→Option Value}{D:Nat→Prop}(hR:Rel C env get a w ρ D){b:Nat}(hb:get b=none){arr:Array Value}{cs:List TV}(t:TypeId)(hc:jb ρ w D arr cs):
  ∃ρ',Rel C env (upd get [(b,.box cs)]) a (w.alloc (.cells arr t)) ρ' D∧bA ρ' (w.alloc (.cells arr t)) D (.pointer (some ⟨w.heap.size,0,none⟩)) (.s (.ptr b 0)):=by
 have eK:∀c x,ρ c=some x→(fun c=>if c=b then some (Value.pointer (some ⟨w.heap.size,0,none⟩))else ρ c) c=some x:=fun c x hc=>by
  have:c≠b:=by rintro rfl;rw[hR.free _ hb]at hc;cases hc
  simp[this,hc]
 refine⟨_,hR.alloc (x':= .pointer (some ⟨w.heap.size,0,none⟩)) hb rfl rfl rfl (An _ _) (fun k hk=>alloc_old _ _ hk) (fun g hg=>?_) (FQ (CR _ _) (hc.keep eK (fun k hd=>alloc_old _ _ (hR.ro k hd).1) fun _ h=>h)),?_⟩
 ·injection hg with hg
  simp at hg;omega
 ·exact .s (.ptr (by simp))
theorem U6 {t b:Nat}(ho:o.op= .alloc t)(hd:bO o nt=true){d:TD}(ht:aM P t=some d):fE P E nt o [(b,none)] [] (.s (.ptr b 0)) [(b,.box (d.zero.map fun x=> .r (jY x)))]:=by
 refine .act hd fun C env get a w ρ D hf hi hR=>?_;obtain⟨z,hz,ER⟩:=ry ht w;obtain⟨ρ',h1,h2⟩:=RL hR (hf _ (List.mem_cons_self ..)) t (jb.zero (c9 ht).2.2.1);rw[←ER,Array.toArray_toList]at h1 h2;rw[←ER];exact⟨_,_,ρ',D,by simp[execOp,ho,Instr.alloc,hz,Ao],h1,h2⟩
theorem aaR {t b:Nat}{x:Operand}(ho:o.op= .box t x)(hd:bO o nt=true){cs:List TV}(hc:(s.ev x).cells?=some cs):fE P E nt o [(b,none)] (bN s.env [x]) (.s (.ptr b 0)) [(b,.box cs)]:=by
 refine .act hd fun C env get a w ρ D hf hi hR=>?_;have hr:=br hR hi (x:=x) (by simp)
 obtain⟨ρ',h1,h2⟩:=RL hR (hf _ (List.mem_cons_self ..)) t (show jb ρ w D _ cs from mQ hc hr)
 exact⟨_,_,ρ',D,by simp[execOp,ho,Instr.box,Ao],h1,h2⟩
def placeOf (T:TypeId→Option TD):TK→Nat→Option (Nat×Nat)
 | .struct fs,i=>match fs[i]? with
   |some (o,t)=>(T t).map fun d=>(o,d.size)
   |none=>none
 | .array _ e,i=>(T e).map fun d=>(i*d.size,d.size)
 |_,_=>none
def TK.FT:TK→List TypeId
 | .struct fs=>fs.map (·.2)
 | .array _ e=>[e]
 |_=>[]
def oF (s:ah)(ps:List (Nat×Operand)):List (Nat×GV):=ps.map fun x=>(x.1,s.ev x.2)
theorem Ap {p q:Nat→Option (Nat×Nat)}:∀(vs:List (Nat×Value)) (c:Array Value),(∀x∈vs,p x.1=q x.1)→Instr.fill p c vs=Instr.fill q c vs
 |[],c,_=>rfl
 |(i,v)::vs,c,h=>by
  have h0:p i=q i:=h (i,v) (List.mem_cons_self ..)
  have ih:∀c,Instr.fill p c vs=Instr.fill q c vs:=fun c=>Ap vs c fun x hx=>h x (List.mem_cons_of_mem _ hx)
  simp only[Instr.fill,h0,ih]
theorem ya {p:Nat→Option (Nat×Nat)}:∀{ps:List (Nat×GV)} {c c':List TV},rv p c ps=some c'→∀x∈ps,∃y,p x.1=some y
 |[],_,_,_,x,hx=>by cases hx
 |(i,g)::ps,c,c',h,x,hx=>by
  unfold rv at h;split at h
  ·rename_i qv
   split at h
   ·split at h
    ·rcases List.mem_cons.1 hx with rfl|hx
     ·exact⟨_,qv⟩
     ·exact ya h x hx
    ·cases h
   ·cases h
  ·cases h
theorem FU {α β:Type}(f:α→Sem β)(g:α→β)(w:World):∀(l:List α),(∀x∈l,(f x).run P w= .ok (g x) w)→(l.mapM f).run P w= .ok (l.map g) w
 |[],_=>by simp
 |x::l,h=>by
  simp[List.mapM_cons,h x (List.mem_cons_self ..),FU f g w l fun y hy=>h y (List.mem_cons_of_mem _ hy)]
theorem U7 {t:Nat}{ps:Array (Nat×Operand)}(ho:o.op= .build t ps)(hd:bO o nt=true){d:TD}(ht:aM P t=some d)(dW:d.k.FT.all (fun t=>(aM P t).isSome)=true)
  {cs:List TV} (hc:rv (placeOf (aM P) d.k) (d.zero.map fun x=> .r (jY x)) (oF s ps.toList)=some cs) (rr:d.k.agg=true):fE P E nt o [] (bN s.env (ps.toList.map (·.2))) (.a cs) []:=by
 refine .still hd fun C env get a w ρ D hf hi hR=>?_;obtain⟨z,hz,ER⟩:=ry ht w;have Io:jb ρ w D z.cells (d.zero.map fun x=> .r (jY x)):=by
  have:=jb.zero (ρ:=ρ) (w:=w) (D:=D) (c9 ht).2.2.1
  rwa[←ER,Array.toArray_toList,ER]at this
 have U8:∀(i:Nat) (x:Nat×GV) (y:Nat×Value),(oF s ps.toList)[i]?=some x→(ps.toList.map fun x=>(x.1,a.eval x.2))[i]?=some y→x.1=y.1∧bA ρ w D y.2 x.2:=by
  intro i x y hx hy;simp only[oF,List.getElem?_map,Option.map_eq_some_iff]at hx hy;obtain⟨x',h1,rfl⟩:=hx;obtain⟨y',h2,rfl⟩:=hy;rw[h1]at h2;cases h2;exact⟨rfl,br hR hi (List.mem_map.2 ⟨x',List.mem_of_getElem? h1,rfl⟩)⟩
 obtain⟨arr',r1,r2⟩:=FP Io hc (by simp[oF]) U8
 refine⟨.agg arr',?_,.a r2.1 r2.2⟩;have hm:(ps.map fun x=>(x.1,a.eval x.2)).toList=ps.toList.map fun x=>(x.1,a.eval x.2):=by simp
 cases hk:d.k with
 |sc=>rw[hk]at rr;cases rr
 |slice e=>rw[hk]at rr;cases rr
 |array n e=>
  have hu:=zl ht hk;rw[hk]at r1 hc;obtain⟨de,EO⟩:∃de,aM P e=some de:=by
   rw[hk]at dW;simp only[TK.FT,List.all_cons,List.all_nil,Bool.and_true]at dW;exact Option.isSome_iff_exists.1 dW
  have hp:(fun i=>some (i*de.size,de.size))=placeOf (aM P) (.array n e):=by funext i;simp[placeOf,EO]
  rw[←hp]at r1;simp[execOp,ho,Instr.build,hz,run_underlying hu,rp EO,r1]
 |struct fs=>
  obtain⟨gs,u1,u2⟩:=CO ht hk;rw[hk]at r1 hc;have kq:∀f∈gs.toList,∃d',aM P f.type=some d':=fun f hf=>by
   rw[hk]at dW;simp only[TK.FT,List.all_eq_true,List.mem_map,forall_exists_index,and_imp]at dW;exact Option.isSome_iff_exists.1 (dW f.type (f.offset,f.type) (by rw[←u2];exact List.mem_map.2 ⟨f,hf,rfl⟩) rfl)
  have hmm:(gs.mapM fun f=>Functor.map (Prod.mk f.offset) (sizeOf f.type)).run P w= .ok (gs.map fun f=>(f.offset,((aM P f.type).map TD.size).getD 0)) w:=by
   rw[Array.mapM_eq_mapM_toList];have:=FU (P:=P) (fun f:Field=>Functor.map (Prod.mk f.offset) (sizeOf f.type)) (fun f=>(f.offset,((aM P f.type).map TD.size).getD 0)) w gs.toList (fun f hf=>by
    obtain⟨d',tG⟩:=kq f hf;simp[rp tG,tG])
   rw[Sem.run_map,this,Result.andThen_ok];congr 1
   rw[←List.map_toArray]
  have hp:Instr.fill (fun i=>(gs[i]?).map fun f=>(f.offset,((aM P f.type).map TD.size).getD 0)) z.cells (ps.toList.map fun x=>(x.1,a.eval x.2))=some arr':=by
   rw[Ap (q:=placeOf (aM P) (.struct fs)) _ _ (fun x hx=>?_)]
   ·exact r1
   ·obtain⟨y,hy,rfl⟩:=List.mem_map.1 hx
    obtain⟨y0,JM⟩:=ya hc (y.1,s.ev y.2) (List.mem_map.2 ⟨y,hy,rfl⟩);simp only at JM⊢
    rw[JM];simp only[placeOf,←u2,List.getElem?_map]at JM
    cases zd:gs[y.1]? with
    |none=>simp[zd]at JM
    |some f=>
     simp only[Array.getElem?_toList,zd,Option.map_some]at JM;obtain⟨d',tG,rfl⟩:=Option.map_eq_some_iff.1 JM;simp[zd,tG]
  simp[execOp,ho,Instr.build,hz,run_underlying u1,hmm];rw[hp];rfl
end
end Go.Proofs.YtabjbdnokpjipaaGreat.T
namespace Go.Proofs.YtabjbdnokpjipaaGreat.T
open Go Go.RowKit
theorem rz {i i' k j:Nat}(h:i'<i)(hj:j<k):i'*k+j<i*k:=by
 calc i'*k+j<i'*k+k:=by omega
  _=(i'+1)*k:=by rw[Nat.add_mul,Nat.one_mul]
  _≤i*k:=Nat.mul_le_mul_right k h
theorem yb {l:List Value}{i:Nat}:l.toArray[i]?=l[i]?:=by simp
section
variable {P:Program}{E:List PanicEntry→World→Prop}{nt:Nat}{o:Oper}{s:ah}
theorem qw {t:TypeId}{d:TD}(ht:aM P t=some d){w:World}{g off:Nat}{arr:Array Value}{ty:TypeId}(hg:w.heap[g]?=some (.cells arr ty (0,0))){v:Value}(hv:v.cells.size=d.size)(hl:off+d.size≤arr.size)(h1:∀x∈v.cells.toList,x.oneCell'=true):
  (storeVar t ⟨g,off,none⟩ v).run P w= .ok () (w.setRow g (dC arr.toList off v.cells.toList).toArray):=by
 have:=run_storeCells_at P g off ty v.cells.toList 0 arr w hg (by simp only[Array.length_toList];omega) h1
 simp only[storeVar,Sem.run_bind,rp ht,Result.andThen_ok,hv,ne_eq,not_true,if_false];rw[this];simp[dC]
theorem zn {ρ:Nat→Option Value}{w:World}{D:Nat→Prop}{arr:Array Value}{cs:List TV}(h:jb ρ w D arr cs):∀x∈arr.toList,x.oneCell'=true:=by
 intro x hx;obtain⟨i,hi,rfl⟩:=List.getElem_of_mem hx;have fB:i<arr.size:=by simpa using hi
 have hi2:i<cs.length:=by have:=h.1;omega
 have:=h.2 i cs[i] (List.getElem?_eq_getElem hi2)
 simp only[Array.getD_eq_getD_getElem?,Array.getElem?_eq_getElem fB,Option.getD_some]at this;simpa using this.one
theorem vL {w:World}{g:Nat}{cs:Array Value}{x:Option Value}(hx:bS x=some g):∀k,k<w.heap.size→bS x≠some k→(w.setRow g cs).heap[k]?=w.heap[k]?:=
 fun k _ hk=>setRow_other w g k cs fun e=>hk (by rw[e];exact hx)
theorem Ip {t:TypeId}{ax vx:Operand}(ho:o.op= .store t ax vx)(hd:bO o nt=true){d:TD}(ht:aM P t=some d){b off:Nat}{cs:List TV}(ha:s.ev ax= .s (.ptr b off))(hb:s.get b=some (.box cs)){ys:List TV}(hy:(s.ev vx).cells?=some ys)
  (h1:ys.length=d.size) (h2:off+ys.length≤cs.length):fE P E nt o [(b,some (.box cs))] (bN s.env [ax,vx]) .u [(b,.box (dC cs off ys))]:=by
 refine .skip hd fun C env get a w ρ D hf hi hR=>?_;have xZ:=hf _ (List.mem_cons_self ..);obtain⟨g,arr,ty,e1,h3,h4,h5⟩:=hR.blk b _ xZ;have hr:=br hR hi (x:=ax) (by simp)
 have hv:jb ρ w D _ ys:=mQ hy (br hR hi (x:=vx) (by simp))
 rw[ha]at hr;generalize hav:a.eval ax=av at hr
 cases hr with|s hr=>cases hr with|ptr hr=>
 rw[e1]at hr
 cases hr;have aZ:=qw ht h3 (v:=a.eval vx) (off:=off) (by rw[hv.1,h1]) (by omega) (zn hv)
 refine⟨w.setRow g (dC arr.toList off (a.eval vx).cells.toList).toArray,ρ,D,by simp[execOp,ho,Instr.storeAt,hav,Instr.sureAddr,aZ],hR.change xZ rfl (setRow_os _ _ _) (setRow_tape _ _ _) (setRow_output _ _ _) (by rw[setRow_size];exact Nat.le_refl _) (vL (by rw[e1];rfl)) ?_⟩
 rw[e1];refine FQ (setRow_heap w g arr _ ty _ h3) ?_;have hK:cD D w (w.setRow g (dC arr.toList off (a.eval vx).cells.toList).toArray):=fun k rA=>setRow_other _ _ _ _ fun e=>(hR.own b _ g xZ rfl (by rw[e1];rfl)).1 (e▸rA)
 have hc:jb ρ w D arr cs:=⟨h4,h5⟩
 refine(hc.dC hv h2 (arr':=(dC arr.toList off (a.eval vx).cells.toList).toArray) ?_ fun i=>?_).keep (fun _ _ h=>h) hK fun _ h=>h
 ·have:=hv.1
  rw[List.size_toArray,lh (by simp only[Array.length_toList];omega)];simp
 ·have:=hv.1
  rw[yb,pz (by simp only[Array.length_toList];omega)]
  simp only[Array.length_toList,Array.getElem?_toList];by_cases hc:off≤i∧i<off+(a.eval vx).cells.size
  ·rw[if_pos hc,if_pos ⟨hc.1,hc.2,by omega⟩]
  ·rw[if_neg hc,if_neg fun h=>hc ⟨h.1,h.2.1⟩]
theorem Iq {t:TypeId}{ax vx:Operand}(ho:o.op= .store t ax vx)(hd:bO o nt=true){d:TD}(ht:aM P t=some d){b k i off e:Nat}{xs:List (List RT)}(ha:s.ev ax= .s (.row b k i off))(hb:s.get b=some (.rows e k xs)){ys:List TV}(hy:(s.ev vx).cells?=some ys)
  {y:List RT} (ES:xs[i]?=some y) (h1:ys.length=d.size) (h2:off+ys.length≤y.length) {rs:List RT} {bs:List Nat} (CM:s.pU ys=some (rs,bs)) (wE:b∉bs):
  fE P E nt o ((b,some (.rows e k xs))::bs.map fun c=>(c,s.get c)) (bN s.env [ax,vx]) .u ((b,.rows e k (xs.set i (dC y off rs)))::bs.map fun c=>(c,.dead)):=by
 refine .skip hd fun C env get a w ρ D hf hi yc=>?_;have adn:=hf _ (List.mem_cons_self ..);have dQ:∀c∈bs,get c=s.get c:=fun c hc=>hf (c,s.get c) (List.mem_cons_of_mem _ (List.mem_map.2 ⟨c,hc,rfl⟩))
 obtain⟨D',hR,MT,oD⟩:=yc.consume bs fun c hc=>by
  obtain⟨e,k,xs,h⟩:=py CM c hc;exact⟨_,(dQ c hc).trans h,rfl⟩
 have xZ:upd get (bs.map fun c=>(c,az.dead)) b=some (.rows e k xs):=by
  have:gt b (bs.map fun c=>(c,az.dead))=none:=by
   clear dQ CM oD hR hf;induction bs with
   |nil=>rfl
   |cons c bs ih=>
    simp only[List.mem_cons,not_or]at wE;simp only[List.map_cons,gt,if_neg wE.1];exact ih wE.2
  simp only[upd,this];exact adn
 obtain⟨A,c,e1,q1,q2,q3,q4,q5⟩:=hR.blk b _ xZ;have hr:=br yc hi (x:=ax) (by simp)
 have hv:jb ρ w D _ ys:=mQ hy (br yc hi (x:=vx) (by simp))
 obtain⟨t1,t2⟩:=wU yc MT CM dQ oD;rw[ha]at hr;generalize hav:a.eval ax=av at hr
 cases hr with|s hr=>cases hr with| @row _ _ _ _ g n' c' hr=>
 have hii:i<xs.length:=(List.getElem?_eq_some_iff.1 ES).1
 rcases q5 with⟨_,rfl,_⟩|⟨g',arr,rfl,q6,q7,q8⟩
 ·simp at hii
 rw[e1]at hr
 cases hr;have hyk:y.length=k:=q4 i y ES
 have hfit:i*k+off+d.size≤arr.size:=by
  rw[q7]
  calc i*k+off+d.size≤i*k+k:=by omega
   _=(i+1)*k:=by rw[Nat.add_mul,Nat.one_mul]
   _≤c*k:=Nat.mul_le_mul_right k (by omega)
 have Bf:=hv.1;have aZ:=qw ht q6 (v:=a.eval vx) (off:=i*k+off) (by rw[hv.1,h1]) hfit (zn hv)
 refine⟨w.setRow g (dC arr.toList (i*k+off) (a.eval vx).cells.toList).toArray,ρ,D',by simp[execOp,ho,Instr.storeAt,hav,Instr.sureAddr,aZ],?_⟩
 rw[FN];refine hR.change xZ rfl (setRow_os _ _ _) (setRow_tape _ _ _) (setRow_output _ _ _) (by rw[setRow_size];exact Nat.le_refl _) (vL (by rw[e1];rfl)) ?_
 have hK:cD D' w (w.setRow g (dC arr.toList (i*k+off) (a.eval vx).cells.toList).toArray):=fun m rA=>setRow_other _ _ _ _ fun e'=>(hR.own b _ g xZ rfl (by rw[e1];rfl)).1 (e'▸rA)
 rw[e1];refine⟨_,c,by rw[List.length_set],by rw[List.length_set];exact q1,q2,q3,fun i' y' eL=>?_,.inr ⟨g,_,rfl,setRow_heap w g arr _ e _ q6,?_,fun i' y' eL j r hj=>?_⟩⟩
 ·rw[List.getElem?_set,if_pos hii]at eL
  split at eL
  ·cases eL
   rw[lh (by omega)]
   exact hyk
  ·exact q4 i' y' eL
 ·rw[List.size_toArray,lh (by simp only[Array.length_toList];omega)]
  simpa using q7
 ·simp only[Array.getD_eq_getD_getElem?,yb]
  rw[pz (by simp only[Array.length_toList];omega)]
  simp only[Array.length_toList,Array.getElem?_toList];rw[List.getElem?_set,if_pos hii]at eL;split at eL
  ·rename_i ei
   subst ei
   cases eL;rw[pz (by omega)]at hj
   split at hj
   ·rename_i hc
    rw[if_pos (by omega)]
    have ak:j-off<ys.length:=by omega
    have:=t2 (j-off) ys[j-off] r (List.getElem?_eq_getElem ak) hj _ (hv.2 _ _ (List.getElem?_eq_getElem ak))
    rw[show i*k+j-(i*k+off)=j-off by omega]
    simpa[Array.getD_eq_getD_getElem?]using this.keep hK fun _ h=>h
   ·rename_i hc
    rw[if_neg (by omega)]
    have:=q8 i y ES j r hj
    simpa[Array.getD_eq_getD_getElem?]using this.keep hK fun _ h=>h
  ·rename_i ei
   have vr:j<k:=by rw[←q4 i' y' eL];exact(List.getElem?_eq_some_iff.1 hj).1
   rw[if_neg (fun hc=>by
    rcases Nat.lt_or_ge i' i with ak|ov
    ·have:=rz ak vr;omega
    ·have:=rz (i:=i') (i':=i) (j:=off+ys.length-1) (k:=k) (by omega) (by omega);omega)]
   have:=q8 i' y' eL j r hj
   simpa[Array.getD_eq_getD_getElem?]using this.keep hK fun _ h=>h
def rC (s:ah)(k:Nat):Nat→List (Nat×Operand)→Option (List (List RT)×List Nat)
 |_,[]=>some ([],[])
 |i,(j,x)::ps=>if j=i then match(s.ev x).cells? with
  |some ts=>if ts.length=k then match s.pU ts with
   |some (r,bs)=>match rC s k (i+1) ps with
    |some (rs,cs)=>some (r::rs,bs++cs)
    |none=>none
   |none=>none
   else none
  |none=>none
  else none
theorem pB {s:ah}{k:Nat}:∀{ps:List (Nat×Operand)} {i:Nat} {xs:List (List RT)} {bs:List Nat},rC s k i ps=some (xs,bs)→∀b∈bs,∃e k xs,s.get b=some (.rows e k xs)
 |[],_,_,_,h=>by cases h;intro b hb;cases hb
 |(j,x)::ps,i,xs,bs,h=>by
  unfold rC at h;split at h
  ·split at h
   ·split at h
    ·split at h
     ·rename_i h1
      split at h
      ·rename_i h2
       cases h;intro b hb;rcases List.mem_append.1 hb with hb|hb
       ·exact py h1 b hb
       ·exact pB h2 b hb
      ·cases h
     ·cases h
    ·cases h
   ·cases h
  ·cases h
theorem CS {C:Ctx}{env:Nat→GV}{get:Nat→Option az}{a:Act}{w:World}{ρ:Nat→Option Value}{D D':Nat→Prop}(hR:Rel C env get a w ρ D)(hD:∀k,D k→D' k){all:List Operand}(hi:∀x∈bN s.env all,env x.1=x.2){k:Nat}:
  ∀{ps:List (Nat×Operand)} {i:Nat} {xs:List (List RT)} {bs:List Nat},rC s k i ps=some (xs,bs)→(∀x∈ps,x.2∈all)→(∀b∈bs,get b=s.get b)→(∀b∈bs,∀g,bS (ρ b)=some g→D' g)→
  xs.length=ps.length∧∀(p:Nat) (x:Nat×Operand),ps[p]?=some x→x.1=i+p∧(a.eval x.2).cells.size=k∧(∀v∈(a.eval x.2).cells.toList,v.oneCell'=true)∧∃y,xs[p]?=some y∧y.length=k∧∀(j:Nat) (r:RT),y[j]?=some r→dh w D' ((a.eval x.2).cells.getD j undef) r
 |[],_,_,_,h,_,_,_=>by cases h;exact⟨rfl,fun p x hx=>by simp at hx⟩
 |(j,x)::ps,i,xs,bs,h,dW,hg,hb=>by
  unfold rC at h;split at h
  ·rename_i ET
   split at h
   ·rename_i ts Jo
    split at h
    ·rename_i hk
     split at h
     ·rename_i r b1 h1
      split at h
      ·rename_i rs' b2 h2
       cases h;obtain⟨G7,BU⟩:=CS hR hD hi h2 (fun x hx=>dW x (List.mem_cons_of_mem _ hx)) (fun b cT=>hg b (List.mem_append_right _ cT)) fun b cT=>hb b (List.mem_append_right _ cT)
       have hc:jb ρ w D _ ts:=mQ Jo (br hR hi (dW (j,x) (List.mem_cons_self ..)))
       obtain⟨t1,t2⟩:=wU hR hD h1 (fun b cT=>hg b (List.mem_append_left _ cT)) fun b cT=>hb b (List.mem_append_left _ cT)
       refine⟨by simp[G7],fun p z hz=>?_⟩
       cases p with
       |zero=>
        simp only[List.getElem?_cons_zero,Option.some.injEq]at hz;subst hz;refine⟨ET,by rw[hc.1,hk],zn hc,r,rfl,by rw[t1,hk],fun q r' hq=>?_⟩
        have ak:q<ts.length:=by rw[←t1];exact(List.getElem?_eq_some_iff.1 hq).1
        exact t2 q ts[q] r' (List.getElem?_eq_getElem ak) hq _ (hc.2 _ _ (List.getElem?_eq_getElem ak))
       |succ p=>
        obtain⟨a1,a2,a3,y,a4,a5⟩:=BU p z (by simpa using hz)
        exact⟨by omega,a2,a3,y,by simpa using a4,a5⟩
      ·cases h
     ·cases h
    ·cases h
   ·cases h
  ·cases h
theorem CU {k:Nat}:∀(vs:List (Nat×Value)) (i0:Nat) (cells:Array Value),(∀(p:Nat) (x:Nat×Value),vs[p]?=some x→x.1=i0+p∧x.2.cells.size=k)→(i0+vs.length)*k≤cells.size→
  ∃c',Instr.fill (fun i=>some (i*k,k)) cells vs=some c'∧c'.size=cells.size∧(∀t,t<i0*k→c'[t]?=cells[t]?)∧∀(p:Nat) (x:Nat×Value),vs[p]?=some x→∀j,j<k→c'[(i0+p)*k+j]?=x.2.cells[j]?
 |[],i0,cells,_,_=>⟨cells,rfl,rfl,fun _ _=>rfl,fun p x hx=>by simp at hx⟩
 |(i,v)::vs,i0,cells,h,hl=>by
  obtain⟨e0,hk⟩:=h 0 _ rfl;simp only[Nat.add_zero]at e0 hk;subst e0;have bz:(i+1+vs.length)*k≤cells.size:=by simp only[List.length_cons]at hl;rw[show i+1+vs.length=i+(vs.length+1) by omega];exact hl
  have h1:(i+1)*k≤(i+1+vs.length)*k:=Nat.mul_le_mul_right k (by omega)
  have h2:(i+1)*k=i*k+k:=by rw[Nat.add_mul,Nat.one_mul]
  obtain⟨f1,f2⟩:=x_ v.cells (i*k) cells;obtain⟨c',r1,r2,r3,r4⟩:=CU vs (i+1) _ (fun p x hx=>by
   obtain⟨a1,a2⟩:=h (p+1) x (by simpa using hx)
   exact⟨by omega,a2⟩) (by rw[f1];exact bz)
  refine⟨c',?_,by rw[r2,f1],fun t ht=>?_,fun p x hx j hj=>?_⟩
  ·rw[Instr.fill]
   simp only
   rw[if_neg (by simp only[ne_eq,Bool.or_eq_true,decide_eq_true_eq,not_or,Decidable.not_not,gt_iff_lt,Nat.not_lt];exact⟨hk,by omega⟩)]
   exact r1
  ·rw[r3 t (by omega),f2,if_neg (by omega)]
  ·cases p with
   |zero=>
    simp only[List.getElem?_cons_zero,Option.some.injEq]at hx;subst hx;rw[Nat.add_zero,r3 _ (by omega),f2,if_pos (by omega)]
    congr 1;omega
   |succ p=>
    have:=r4 p x (by simpa using hx) j hj
    rw[show i+(p+1)=i+1+p by omega]
    exact this
theorem MU {C:Ctx}{env:Nat→GV}{get:Nat→Option az}{a:Act}{w:World}{ρ:Nat→Option Value}{D:Nat→Prop}(hR:Rel C env get a w ρ D){b:Nat}(hb:get b=none){arr:Array Value}{e k c:Nat}{xs:List (List RT)}(hk:0<k)(hc:xs.length≤c)(hm:c≤maxLen)(hs:arr.size=c*k)
  (hx:∀(i:Nat) (y:List RT),xs[i]?=some y→y.length=k∧∀(j:Nat) (r:RT),y[j]?=some r→dh w D (arr.getD (i*k+j) undef) r):
  ∃ρ',Rel C env (upd get [(b,.rows e k xs)]) a (w.alloc (.cells arr e)) ρ' D∧bA ρ' (w.alloc (.cells arr e)) D (.slice (some ⟨w.heap.size,0,none⟩) xs.length c) (.s (.own b)):=by
 refine⟨_,hR.alloc (x':= .slice (some ⟨w.heap.size,0,none⟩) xs.length c) hb rfl rfl rfl (An _ _) (fun k hk=>alloc_old _ _ hk) (fun g hg=>?_) ?_,?_⟩
 ·injection hg with hg
  simp at hg;omega
 ·exact⟨_,c,rfl,hc,hm,hk,fun i y hy=>(hx i y hy).1,.inr ⟨_,arr,rfl,CR _ _,hs,fun i y hy j r hj=>((hx i y hy).2 j r hj).keep (fun m hd=>alloc_old _ _ (hR.ro m hd).1) fun _ h=>h⟩⟩
 ·exact .s (.own (by simp))
theorem CV {t n b:Nat}{ps:Array (Nat×Operand)}(ho:o.op= .buildSlice t n ps)(hd:bO o nt=true){d de:TD}{e:TypeId}(ht:aM P t=some d)(hk:d.k= .slice e)(he:aM P e=some de)(h0:0<de.size)(hn:ps.toList.length=n)(q_:n*de.size≤16777216)
  {xs:List (List RT)} {bs:List Nat} (hx:rC s de.size 0 ps.toList=some (xs,bs)):
  fE P E nt o ((b,none)::bs.map fun c=>(c,s.get c)) (bN s.env (ps.toList.map (·.2))) (.s (.own b)) ((b,.rows e de.size xs)::bs.map fun c=>(c,.dead)):=by
 refine .act hd fun C env get a w ρ D hf hi yc=>?_;have WX:=hf _ (List.mem_cons_self ..);have dQ:∀c∈bs,get c=s.get c:=fun c hc=>hf (c,s.get c) (List.mem_cons_of_mem _ (List.mem_map.2 ⟨c,hc,rfl⟩))
 obtain⟨D',hR,MT,oD⟩:=yc.consume bs fun c hc=>by
  obtain⟨e,k,xs,h⟩:=pB hx c hc;exact⟨_,(dQ c hc).trans h,rfl⟩
 have xZ:upd get (bs.map fun c=>(c,az.dead)) b=none:=by
  have wE:b∉bs:=fun G'=>by
   obtain⟨e,k,xs,h⟩:=pB hx b G';rw[←dQ b G']at h;simp only at WX
   rw[WX]at h;cases h
  have:gt b (bs.map fun c=>(c,az.dead))=none:=by
   clear dQ hx oD hR hf;induction bs with
   |nil=>rfl
   |cons c bs ih=>
    simp only[List.mem_cons,not_or]at wE;simp only[List.map_cons,gt,if_neg wE.1];exact ih wE.2
  simp only[upd,this];exact WX
 obtain⟨r1,r2⟩:=CS yc MT hi hx (fun x hx=>List.mem_map.2 ⟨x,hx,rfl⟩) dQ oD
 obtain⟨z,hz,ER⟩:=ry he w;have hu:=lW ht hk;have hzs:z.cells.size=de.size:=by have:=(c9 he).2.1;rw[←ER]at this;simpa using this
 have hlen:∀c0:Array Value,c0.size=n*de.size→∃c',Instr.fill (fun i=>some (i*de.size,de.size)) c0 (ps.toList.map fun x=>(x.1,a.eval x.2))=some c'∧c'.size=c0.size∧
   ∀(p:Nat) (x:Nat×Operand),ps.toList[p]?=some x→∀j,j<de.size→c'[p*de.size+j]?=(a.eval x.2).cells[j]?:=by
  intro c0 hc0;obtain⟨c',f1,f2,_,f4⟩:=CU (ps.toList.map fun x=>(x.1,a.eval x.2)) 0 c0 (fun p x hx=>by
   rw[List.getElem?_map,Option.map_eq_some_iff]at hx;obtain⟨x',jN,rfl⟩:=hx;obtain⟨a1,a2,_⟩:=r2 p x' jN;exact⟨a1,a2⟩) (by rw[hc0,Nat.zero_add,List.length_map,hn];exact Nat.le_refl _)
  refine⟨c',f1,f2,fun p x hx j hj=>?_⟩
  have:=f4 p (x.1,a.eval x.2) (by rw[List.getElem?_map,hx];rfl) j hj
  rwa[Nat.zero_add]at this
 obtain⟨c',f1,f2,f3⟩:=hlen ((Array.range (n*de.size)).map fun i=>(if n*de.size=0 then #[]else z.cells)[i %(if n*de.size=0 then #[]else z.cells).size]!) (by simp)
 have eV:(execOp a.eval o).run P w= .ok (.value (.slice (some ⟨w.heap.size,0,none⟩) n n)) (w.alloc (.cells c' e)):=by
  have hm:(ps.map fun x=>(x.1,a.eval x.2)).toList=ps.toList.map fun x=>(x.1,a.eval x.2):=by simp
  have bu:¬(2^24<n*de.size):=by omega
  by_cases Io:n*de.size=0
  ·simp only[Io,if_true]at f1
   simp[execOp,ho,Instr.buildSlice,run_underlying hu,rp he,Io,newRow];simp at f1
   rw[f1];simp
  ·simp only[Io,if_false]at f1
   simp[execOp,ho,Instr.buildSlice,run_underlying hu,rp he,Io,newRow,hz];rw[f1];simp
   exact q_
 have hxn:xs.length=n:=by rw[r1];exact hn
 obtain⟨ρ',g1,g2⟩:=MU hR xZ (arr:=c') (e:=e) (k:=de.size) (c:=n) (xs:=xs) h0 (by omega) (by simp only[maxLen];have:=Nat.le_mul_of_pos_right n h0;omega) (by rw[f2];simp) (fun i y hy=>by
  have fB:i<ps.toList.length:=by rw[←r1];exact(List.getElem?_eq_some_iff.1 hy).1
  obtain⟨_,b2,_,y',b4,b5,b6⟩:=r2 i _ (List.getElem?_eq_getElem fB);rw[hy]at b4;cases b4;refine⟨b5,fun j r hj=>?_⟩
  have Qz:j<de.size:=by rw[←b5];exact(List.getElem?_eq_some_iff.1 hj).1
  have:=b6 j r hj
  simp only[Array.getD_eq_getD_getElem?]at this⊢;rw[f3 i _ (List.getElem?_eq_getElem fB) j Qz];exact this)
 rw[hxn]at g2;rw[FN];exact⟨_,_,ρ',D',eV,g1,g2⟩
end
end Go.Proofs.YtabjbdnokpjipaaGreat.T
