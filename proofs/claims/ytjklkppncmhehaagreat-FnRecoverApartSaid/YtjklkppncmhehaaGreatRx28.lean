/-
What is proved: of each operation that changes memory, what it does to trees. No condition. of alloc, box, build, buildSlice, makeSlice, store, append, slice, max and min, what each does to trees. No condition. of store, buildSlice and makeSlice, what each does to trees. No condition.
-/
import Derived.Test.YtjklkppncmhehaaGreatRx27
import Derived.Laws.AppendOwnNone
set_option linter.unusedVariables false
set_option linter.unusedSimpArgs false
namespace Go.Proofs.YtjklkppncmhehaaGreat.T
open Go Go.RowKit
theorem mO (b:Nat)(x y:List (Nat×aj)):gt b (x++y)=match gt b x with|some z=>some z|none=>gt b y:=by
 induction x with
 |nil=>rfl
 |cons a x ih=>
  obtain⟨u,z⟩:=a;simp only[List.cons_append,gt];split
  ·rfl
  ·exact ih
theorem SE (get:Nat→Option aj)(x y:List (Nat×aj)):upd (upd get y) x=upd get (x++y):=by
 funext b
 simp only[upd,mO]
 cases gt b x<;>rfl
theorem Cx (get:Nat→Option aj)(b:Nat)(y:aj)(Δ:List (Nat×aj)):upd get ((b,y)::Δ)=upd (upd get Δ) [(b,y)]:=by rw[SE];rfl
theorem kY (get:Nat→Option aj)(b:Nat)(y:aj)(c:Nat):upd get [(b,y)] c=if c=b then some y else get c:=by
 simp only[upd,gt];split<;>simp_all
section
variable {C:Ctx}{env:Nat→GV}{get:Nat→Option aj}{a:Act}{w w':World}{ρ:Nat→Option Value}{D:Nat→Prop}
theorem Rel.move (h:Rel C env get a w ρ D){b b':Nat}{y:aj}{x':Value}(cD:get b'=none)(hold:∃z,get b=some z∧z.live=true)(e1:w'.os=w.os)(e2:w'.tape=w.tape)(e3:w'.output=w.output)(e4:w.heap.size≤w'.heap.size)
  (hk:∀k,k<w.heap.size→bI (ρ b)≠some k→w'.heap[k]?=w.heap[k]?) (hx:∀g,bI (some x')=some g→bI (ρ b)=some g∨w.heap.size≤g) (hy:eB (fun c=>if c=b' then some x' else ρ c) w' D (some x') y):
  Rel C env (upd get [(b',y),(b,.dead)]) a w' (fun c=>if c=b' then some x' else ρ c) D:=by
 obtain⟨z,hz,zM⟩:=hold;have DF:b≠b':=by rintro rfl;rw[cD]at hz;cases hz
 have fq:∀c x,ρ c=some x→(fun c=>if c=b' then some x' else ρ c) c=some x:=fun c x hc=>by
  have:c≠b':=by rintro rfl;rw[h.free _ cD]at hc;cases hc
  simp[this,hc]
 have L':∀g,bI (ρ b)=some g→¬D g∧(C.M g∨C.W.heap.size≤g):=fun g hg=>h.own b z g hz zM hg
 have hK:cw D w w':=fun k hd=>hk k (h.ro k hd).1 fun e=>(L' k e).1 hd
 have kU:=h.size;refine⟨e1.trans h.os,e2.trans h.tape,e3.trans h.output,by omega,fun k ai hM=>?_,fun k hd=>⟨Nat.lt_of_lt_of_le (h.ro k hd).1 e4,(h.ro k hd).2⟩,fun c hc=>?_,fun c y' hc=>?_,fun c y' g hc hl hg=>?_,fun c y1 c' y2 g hc hl cY aY hg bh=>?_,fun t=>(h.env t).bK fq hK fun _ h=>h,h.defers,h.nt,fun b x hx=>fq b x (h.ext b x hx)⟩
 ·rw[hk k (by omega) (fun e=>?_)]
  ·exact h.old k ai hM
  ·rcases(L' k e).2 with h1|h1
   ·exact hM h1
   ·omega
 ·simp only[upd,gt]at hc
  split at hc
  ·cases hc
  ·rename_i hg
   have:c≠b':=by rintro rfl;simp at hg
   simp only[this,if_false];exact h.free c hc
 ·simp only[upd,gt]at hc
  by_cases e:c=b'
  ·subst e
   simp only[if_true,Option.some.injEq]at hc;subst hc;simp only[if_true];exact hy
  ·by_cases e':c=b
   ·simp only[e,e',DF,if_false,if_true,Option.some.injEq]at hc
    subst hc;trivial
   ·simp only[e,e',if_false]at hc
    simp only[e,if_false];refine(h.blk c y' hc).bK fq hK (fun _ h=>h) ?_
    by_cases hl:y'.live=true
    ·right
     intro g hg;exact hk g (h.h_ hc hl hg) fun e2=>e' (h.sep c y' b z g hc hl hz zM hg e2)
    ·left
     cases y'<;>simp[aj.live]at hl
     rfl
 ·simp only[upd,gt]at hc
  by_cases e:c=b'
  ·subst e
   simp only[if_true]at hg;rcases hx g hg with h1|h1
   ·exact L' g h1
   ·exact⟨fun hd=>by have:=(h.ro g hd).1;omega,.inr (by omega)⟩
  ·by_cases e':c=b
   ·simp only[e,e',DF,if_false,if_true,Option.some.injEq]at hc
    subst hc;simp[aj.live]at hl
   ·simp only[e,e',if_false]at hc
    simp only[e,if_false]at hg;exact h.own c y' g hc hl hg
 ·simp only[upd,gt]at hc cY
  have key:∀c y1,c≠b'→(match(if c=b' then some y else if c=b then some aj.dead else none)with|some y=>some y|none=>get c)=some y1→y1.live=true→c≠b∧get c=some y1:=by
   intro c y1 e hc hl;by_cases e':c=b
   ·simp only[e,e',DF,if_false,if_true,Option.some.injEq]at hc
    subst hc;simp[aj.live]at hl
   ·simp only[e,e',if_false]at hc
    exact⟨e',hc⟩
  by_cases e:c=b'<;>by_cases e':c'=b'
  ·rw[e,e']
  ·obtain⟨n1,n2⟩:=key c' y2 e' cY aY
   simp only[e',if_false]at bh;simp only[e,if_true]at hg;exfalso
   rcases hx g hg with h1|h1
   ·exact n1 (h.sep c' y2 b z g n2 aY hz zM bh h1)
   ·have:=h.h_ n2 aY bh;omega
  ·obtain⟨n1,n2⟩:=key c y1 e hc hl
   simp only[e,if_false]at hg;simp only[e',if_true]at bh;exfalso
   rcases hx g bh with h1|h1
   ·exact n1 (h.sep c y1 b z g n2 hl hz zM hg h1)
   ·have:=h.h_ n2 hl hg;omega
  ·obtain⟨_,n2⟩:=key c y1 e hc hl
   obtain⟨_,m2⟩:=key c' y2 e' cY aY;simp only[e,if_false]at hg;simp only[e',if_false]at bh;exact h.sep c y1 c' y2 g n2 hl m2 aY hg bh
theorem Rel.alloc (h:Rel C env get a w ρ D){b':Nat}{y:aj}{x':Value}(cD:get b'=none)(e1:w'.os=w.os)(e2:w'.tape=w.tape)(e3:w'.output=w.output)(e4:w.heap.size≤w'.heap.size)
  (hk:∀k,k<w.heap.size→w'.heap[k]?=w.heap[k]?) (hx:∀g,bI (some x')=some g→w.heap.size≤g) (hy:eB (fun c=>if c=b' then some x' else ρ c) w' D (some x') y):
  Rel C env (upd get [(b',y)]) a w' (fun c=>if c=b' then some x' else ρ c) D:=by
 have fq:∀c x,ρ c=some x→(fun c=>if c=b' then some x' else ρ c) c=some x:=fun c x hc=>by
  have:c≠b':=by rintro rfl;rw[h.free _ cD]at hc;cases hc
  simp[this,hc]
 have hK:cw D w w':=fun k hd=>hk k (h.ro k hd).1
 have kU:=h.size;refine⟨e1.trans h.os,e2.trans h.tape,e3.trans h.output,by omega,fun k ai hM=>(hk k (by omega)).trans (h.old k ai hM),fun k hd=>⟨Nat.lt_of_lt_of_le (h.ro k hd).1 e4,(h.ro k hd).2⟩,fun c hc=>?_,fun c y' hc=>?_,fun c y' g hc hl hg=>?_,fun c y1 c' y2 g hc hl cY aY hg bh=>?_,fun t=>(h.env t).bK fq hK fun _ h=>h,h.defers,h.nt,fun b x hx=>fq b x (h.ext b x hx)⟩
 ·rw[kY]at hc
  split at hc
  ·cases hc
  ·rename_i e
   simp only[e,if_false];exact h.free c hc
 ·rw[kY]at hc
  by_cases e:c=b'
  ·simp only[e,if_true,Option.some.injEq]at hc⊢
   subst hc;exact hy
  ·simp only[e,if_false]at hc⊢
   refine(h.blk c y' hc).bK fq hK (fun _ h=>h) ?_
   by_cases hl:y'.live=true
   ·exact .inr fun g hg=>hk g (h.h_ hc hl hg)
   ·left
    cases y'<;>simp[aj.live]at hl
    rfl
 ·rw[kY]at hc
  by_cases e:c=b'
  ·simp only[e,if_true]at hg
   have h1:=hx g hg;exact⟨fun hd=>by have:=(h.ro g hd).1;omega,.inr (by omega)⟩
  ·simp only[e,if_false]at hc hg
   exact h.own c y' g hc hl hg
 ·rw[kY]at hc cY
  by_cases e:c=b'<;>by_cases e':c'=b'
  ·rw[e,e']
  ·simp only[e',if_false]at bh cY
   simp only[e,if_true]at hg;have h1:=hx g hg;have:=h.h_ cY aY bh;omega
  ·simp only[e,if_false]at hg hc
   simp only[e',if_true]at bh;have h1:=hx g bh;have:=h.h_ hc hl hg;omega
  ·simp only[e,if_false]at hg hc
   simp only[e',if_false]at bh cY;exact h.sep c y1 c' y2 g hc hl cY aY hg bh
theorem Rel.change (h:Rel C env get a w ρ D){b:Nat}{y z:aj}(hz:get b=some z)(zM:z.live=true)(e1:w'.os=w.os)(e2:w'.tape=w.tape)(e3:w'.output=w.output)(e4:w.heap.size≤w'.heap.size)
  (hk:∀k,k<w.heap.size→bI (ρ b)≠some k→w'.heap[k]?=w.heap[k]?) (hy:eB ρ w' D (ρ b) y):Rel C env (upd get [(b,y)]) a w' ρ D:=by
 have L':∀g,bI (ρ b)=some g→¬D g∧(C.M g∨C.W.heap.size≤g):=fun g hg=>h.own b z g hz zM hg
 have hK:cw D w w':=fun k hd=>hk k (h.ro k hd).1 fun e=>(L' k e).1 hd
 have kU:=h.size;refine⟨e1.trans h.os,e2.trans h.tape,e3.trans h.output,by omega,fun k ai hM=>?_,fun k hd=>⟨Nat.lt_of_lt_of_le (h.ro k hd).1 e4,(h.ro k hd).2⟩,fun c hc=>?_,fun c y' hc=>?_,fun c y' g hc hl hg=>?_,fun c y1 c' y2 g hc hl cY aY hg bh=>?_,fun t=>(h.env t).bK (fun _ _ h=>h) hK fun _ h=>h,h.defers,h.nt,h.ext⟩
 ·rw[hk k (by omega) (fun e=>?_)]
  ·exact h.old k ai hM
  ·rcases(L' k e).2 with h1|h1
   ·exact hM h1
   ·omega
 ·rw[kY]at hc
  split at hc
  ·cases hc
  ·exact h.free c hc
 ·rw[kY]at hc
  by_cases e:c=b
  ·simp only[e,if_true,Option.some.injEq]at hc
   subst hc;subst e;exact hy
  ·simp only[e,if_false]at hc
   refine(h.blk c y' hc).bK (fun _ _ h=>h) hK (fun _ h=>h) ?_
   by_cases hl:y'.live=true
   ·exact .inr fun g hg=>hk g (h.h_ hc hl hg) fun e2=>e (h.sep c y' b z g hc hl hz zM hg e2)
   ·left
    cases y'<;>simp[aj.live]at hl
    rfl
 ·rw[kY]at hc
  by_cases e:c=b
  ·subst e;exact L' g hg
  ·simp only[e,if_false]at hc
   exact h.own c y' g hc hl hg
 ·rw[kY]at hc cY
  by_cases e:c=b<;>by_cases e':c'=b
  ·rw[e,e']
  ·subst e
   simp only[e',if_false]at cY;exact h.sep c z c' y2 g hz zM cY aY hg bh
  ·subst e'
   simp only[e,if_false]at hc;exact h.sep c y1 c' z g hc hl hz zM hg bh
  ·simp only[e,if_false]at hc
   simp only[e',if_false]at cY;exact h.sep c y1 c' y2 g hc hl cY aY hg bh
theorem Rel.consume (h:Rel C env get a w ρ D)(bs:List Nat)(hb:∀b∈bs,∃z,get b=some z∧z.live=true):∃D':Nat→Prop,Rel C env (upd get (bs.map fun b=>(b,.dead))) a w ρ D'∧(∀k,D k→D' k)∧∀b∈bs,∀g,bI (ρ b)=some g→D' g:=by
 have Q0:∀c,gt c (bs.map fun b=>(b,aj.dead))=if c∈bs then some .dead else none:=by
  intro c;induction bs with
  |nil=>rfl
  |cons b bs ih=>
   simp only[List.map_cons,gt,List.mem_cons];rw[ih fun b cD=>hb b (List.mem_cons_of_mem _ cD)]
   by_cases e:c=b<;>simp[e]
 have I6:∀c,upd get (bs.map fun b=>(b,aj.dead)) c=if c∈bs then some .dead else get c:=by
  intro c;simp only[upd,Q0];split<;>simp_all
 have cG:∀k,D k→D k∨∃b∈bs,bI (ρ b)=some k:=fun k=> .inl
 refine⟨fun k=>D k∨∃b∈bs,bI (ρ b)=some k,⟨h.os,h.tape,h.output,h.size,h.old,fun k hk=>?_,fun c hc=>?_,fun c y hc=>?_,fun c y g hc hl hg=>?_,fun c y1 c' y2 g hc hl cY aY hg bh=>?_,fun t=>(h.env t).bK (fun _ _ h=>h) (cw.refl _ _) cG,h.defers,h.nt,h.ext⟩,cG,fun b cD g hg=> .inr ⟨b,cD,hg⟩⟩
 ·rcases hk with hk|⟨b,cD,hg⟩
  ·exact h.ro k hk
  ·obtain⟨z,hz,hl⟩:=hb b cD
   exact⟨h.h_ hz hl hg,.inr (h.own b z k hz hl hg).2⟩
 ·rw[I6]at hc
  split at hc
  ·cases hc
  ·exact h.free c hc
 ·rw[I6]at hc
  split at hc
  ·cases hc;trivial
  ·exact(h.blk c y hc).bK (fun _ _ h=>h) (cw.refl _ _) cG (.inr fun _ _=>rfl)
 ·rw[I6]at hc
  split at hc
  ·cases hc;simp[aj.live]at hl
  ·rename_i hn
   obtain⟨h1,h2⟩:=h.own c y g hc hl hg;refine⟨?_,h2⟩;rintro(hd|⟨b,cD,bh⟩)
   ·exact h1 hd
   ·obtain⟨z,hz,zM⟩:=hb b cD
    have:=h.sep c y b z g hc hl hz zM hg bh
    subst this;exact hn cD
 ·rw[I6]at hc cY
  split at hc
  ·cases hc;simp[aj.live]at hl
  ·split at cY
   ·cases cY;simp[aj.live]at aY
   ·exact h.sep c y1 c' y2 g hc hl cY aY hg bh
end
def ae.xv (s:ae):TV→Option (RT×List Nat)
 | .r t=>some (t,[])
 | .own b=>match s.get b with
   |some (.rows _ k xs)=>some (.sl k xs,[b])
   |_=>none
 |_=>none
def ae.nW (s:ae):List TV→Option (List RT×List Nat)
 |[]=>some ([],[])
 |t::ts=>match s.xv t with
  |some (r,bs)=>match s.nW ts with
   |some (rs,cs)=>some (r::rs,bs++cs)
   |none=>none
  |none=>none
theorem Mc {s:ae}{t:TV}{r:RT}{bs:List Nat}(h:s.xv t=some (r,bs)):∀b∈bs,∃e k xs,s.get b=some (.rows e k xs):=by
 unfold ae.xv at h;split at h
 ·cases h;intro b hb;cases hb
 ·split at h
  ·rename_i hg
   cases h;intro b hb;simp only[List.mem_cons,List.not_mem_nil,or_false]at hb;subst hb;exact⟨_,_,_,hg⟩
  ·cases h
 ·cases h
theorem nC {s:ae}:∀{ts:List TV} {r:List RT} {bs:List Nat},s.nW ts=some (r,bs)→∀b∈bs,∃e k xs,s.get b=some (.rows e k xs)
 |[],_,_,h=>by cases h;intro b hb;cases hb
 |t::ts,r,bs,h=>by
  unfold ae.nW at h;split at h
  ·rename_i h1
   split at h
   ·rename_i h2
    cases h;intro b hb;rcases List.mem_append.1 hb with hb|hb
    ·exact Mc h1 b hb
    ·exact nC h2 b hb
   ·cases h
  ·cases h
theorem Cy {C:Ctx}{env:Nat→GV}{get:Nat→Option aj}{a:Act}{w:World}{ρ:Nat→Option Value}{D D':Nat→Prop}{s:ae}(hR:Rel C env get a w ρ D){t:TV}{r:RT}{bs:List Nat}(h:s.xv t=some (r,bs))
  (hg:∀b∈bs,get b=s.get b) (hD:∀k,D k→D' k) (hb:∀b∈bs,∀g,bI (ρ b)=some g→D' g) {v:Value} (hr:cA ρ w D v t):cH w D' v r:=by
 unfold ae.xv at h;split at h
 ·cases h
  cases hr with|r hr=>exact hr.bK (cw.refl _ _) hD
 ·rename_i b
  split at h
  ·rename_i e k xs uV
   cases h;have ZS:get b=some (.rows e k xs):=(hg b (List.mem_cons_self ..)).trans uV
   obtain⟨A,c,e1,h1,h2,h3,h4,h5⟩:=hR.blk b _ ZS
   cases hr with|own hr=>
   rw[e1]at hr
   cases hr;rcases h5 with⟨rfl,rfl,rfl⟩|⟨g,arr,rfl,h6,h7,h8⟩
   ·exact .BJ h2
   ·refine .Ng h1 h2 (hb b (List.mem_cons_self ..) g (by rw[e1];rfl)) fun i y hy=>⟨h4 i y hy,g,0,rfl,fun j r hj=>⟨arr.getD (i*k+j) undef,?_,(h8 i y hy j r hj).bK (cw.refl _ _) hD⟩⟩
    have hi:i<xs.length:=(List.getElem?_eq_some_iff.1 hy).1
    have L_:j<y.length:=(List.getElem?_eq_some_iff.1 hj).1
    rw[h4 i y hy]at L_;have ai:i*k+j<arr.size:=by
     rw[h7]
     calc i*k+j<i*k+k:=by omega
      _=(i+1)*k:=by rw[Nat.add_mul,Nat.one_mul]
      _≤c*k:=Nat.mul_le_mul_right k (by omega)
    simp[World.cell?,h6,Array.getD_eq_getD_getElem?,Array.getElem?_eq_getElem ai]
  ·cases h
 ·cases h
theorem tN {C:Ctx}{env:Nat→GV}{get:Nat→Option aj}{a:Act}{w:World}{ρ:Nat→Option Value}{D D':Nat→Prop}{s:ae}(hR:Rel C env get a w ρ D)(hD:∀k,D k→D' k):∀{ts:List TV} {rs:List RT} {bs:List Nat},s.nW ts=some (rs,bs)→
  (∀b∈bs,get b=s.get b)→(∀b∈bs,∀g,bI (ρ b)=some g→D' g)→rs.length=ts.length∧∀(i:Nat) (t:TV) (r:RT),ts[i]?=some t→rs[i]?=some r→∀v,cA ρ w D v t→cH w D' v r
 |[],_,_,h,_,_=>by cases h;exact⟨rfl,fun i t r ht=>by simp at ht⟩
 |t::ts,rs,bs,h,hg,hb=>by
  unfold ae.nW at h;split at h
  ·rename_i r0 b0 h1
   split at h
   ·rename_i rs' b1 h2
    cases h;obtain⟨Dz,yJ⟩:=tN hR hD h2 (fun b cD=>hg b (List.mem_append_right _ cD)) fun b cD=>hb b (List.mem_append_right _ cD)
    refine⟨by simp[Dz],fun i t' r' ht hr v hv=>?_⟩
    cases i with
    |zero=>
     simp only[List.getElem?_cons_zero,Option.some.injEq]at ht hr;subst ht;subst hr;exact Cy hR h1 (fun b cD=>hg b (List.mem_append_left _ cD)) hD (fun b cD=>hb b (List.mem_append_left _ cD)) hv
    |succ i=>
     simp only[List.getElem?_cons_succ]at ht hr;exact yJ i t' r' ht hr v hv
   ·cases h
  ·cases h
end Go.Proofs.YtjklkppncmhehaaGreat.T
namespace Go.Proofs.YtjklkppncmhehaaGreat.T
open Go Go.RowKit
theorem eD.act {P:Program}{E:List PanicEntry→World→Prop}{nt:Nat}{o:Oper}{fr:List (Nat×Option aj)}{ins:List (Nat×GV)}{gv:GV}{Δ:List (Nat×aj)}(hd:bz o nt=true)
  (h:∀C env get a w ρ D,(∀x∈fr,get x.1=x.2)→(∀x∈ins,env x.1=x.2)→Rel C env get a w ρ D→∃v w' ρ' D',(execOp a.eval o).run P w= .ok (.value v) w'∧Rel C env (upd get Δ) a w' ρ' D'∧bf ρ' w' D' v gv):eD P E nt o fr ins gv Δ:=by
 intro C env get a w K Q hn hf hi hR hK hE;obtain⟨ρ,D,hR⟩:=hR;obtain⟨v,w',ρ',D',hv,pt,hg⟩:=h C env get a w ρ D hf hi hR;unfold Oper.wp;rw[hv,Oper.upon_value];refine hK _ _ ⟨ρ',D',pt.put (fun d e=>?_) hg⟩
 unfold bz at hd;rw[e]at hd;simpa[hn]using hd
theorem eD.skip {P:Program}{E:List PanicEntry→World→Prop}{nt:Nat}{o:Oper}{fr:List (Nat×Option aj)}{ins:List (Nat×GV)}{Δ:List (Nat×aj)}(hd:bz o nt=true)
  (h:∀C env get a w ρ D,(∀x∈fr,get x.1=x.2)→(∀x∈ins,env x.1=x.2)→Rel C env get a w ρ D→∃w' ρ' D',(execOp a.eval o).run P w= .ok .skip w'∧Rel C env (upd get Δ) a w' ρ' D'):eD P E nt o fr ins .u Δ:=by
 intro C env get a w K Q hn hf hi hR hK hE;obtain⟨ρ,D,hR⟩:=hR;obtain⟨w',ρ',D',hv,pt⟩:=h C env get a w ρ D hf hi hR;unfold Oper.wp;rw[hv,Oper.upon_skip];refine hK _ _ ⟨ρ',D',pt.put (fun d e=>?_) .u⟩
 unfold bz at hd;rw[e]at hd;simpa[hn]using hd
def c8 {α:Type}(cs:List α)(off:Nat)(ys:List α):List α:=cs.take off++ys++cs.drop (off+ys.length)
theorem nD {α:Type}{cs ys:List α}{off:Nat}(h:off+ys.length≤cs.length)(i:Nat):(c8 cs off ys)[i]?=if off≤i∧i<off+ys.length then ys[i-off]? else cs[i]?:=by
 unfold c8;rw[List.append_assoc,List.getElem?_append];simp only[List.length_take];rw[Nat.min_eq_left (by omega)]
 by_cases h1:i<off
 ·rw[if_pos h1,if_neg (by omega),List.getElem?_take,if_pos h1]
 ·rw[if_neg h1,List.getElem?_append]
  by_cases h2:i<off+ys.length
  ·rw[if_pos (by omega),if_pos ⟨by omega,h2⟩]
  ·rw[if_neg (by omega),if_neg (by omega),List.getElem?_drop]
   congr 1;omega
theorem jI {α:Type}{cs ys:List α}{off:Nat}(h:off+ys.length≤cs.length):(c8 cs off ys).length=cs.length:=by
 simp only[c8,List.length_append,List.length_take,List.length_drop];omega
theorem SG (vs:Array Value)(off:Nat)(cells:Array Value):∀(n:Nat),n≤vs.size→∀l,l=(vs.zipIdx.toList.take n)→(l.foldl (fun cs (x:Value×Nat)=>cs.setIfInBounds (off+x.2) x.1) cells).size=cells.size∧
  ∀i,(l.foldl (fun cs (x:Value×Nat)=>cs.setIfInBounds (off+x.2) x.1) cells)[i]?=if off≤i∧i<off+n∧i<cells.size then vs[i-off]? else cells[i]?:=by
 intro n;induction n with
 |zero=>
  intro _ l hl;subst hl;refine⟨rfl,fun i=>?_⟩
  rw[if_neg (by omega)]
  rfl
 |succ n ih=>
  intro hn l hl;subst hl;have e:vs.zipIdx.toList.take (n+1)=vs.zipIdx.toList.take n++[(vs[n],n)]:=by
   rw[List.take_add_one];congr 1
   simp[Array.getElem?_zipIdx,show n<vs.size by omega]
  obtain⟨h1,h2⟩:=ih (by omega) _ rfl
  rw[e,List.foldl_append];simp only[List.foldl_cons,List.foldl_nil];refine⟨by rw[Array.size_setIfInBounds,h1],fun i=>?_⟩
  rw[Array.getElem?_setIfInBounds,h2,h1];by_cases e2:off+n=i
  ·subst e2
   simp only[if_true];by_cases h3:off+n<cells.size
   ·rw[if_pos h3,if_pos ⟨by omega,by omega,h3⟩,Nat.add_sub_cancel_left]
    simp
   ·rw[if_neg h3,if_neg (by omega),Array.getElem?_eq_none (by omega)]
  ·rw[if_neg e2]
   by_cases h4:off≤i∧i<off+n∧i<cells.size
   ·rw[if_pos h4,if_pos (by omega)]
   ·rw[if_neg h4,if_neg (by omega)]
theorem uW (vs:Array Value)(off:Nat)(cells:Array Value):(vs.zipIdx.foldl (fun cs (x:Value×Nat)=>cs.setIfInBounds (off+x.2) x.1) cells).size=cells.size∧
  ∀i,(vs.zipIdx.foldl (fun cs (x:Value×Nat)=>cs.setIfInBounds (off+x.2) x.1) cells)[i]?=if off≤i∧i<off+vs.size∧i<cells.size then vs[i-off]? else cells[i]?:=by
 have:=SG vs off cells vs.size (Nat.le_refl _) _ rfl
 rw[show vs.zipIdx.toList.take vs.size=vs.zipIdx.toList from List.take_of_length_le (by simp),Array.foldl_toList]at this
 exact this
def gL (ρ:Nat→Option Value)(w:World)(D:Nat→Prop)(arr:Array Value)(cs:List TV):Prop:=arr.size=cs.length∧∀(i:Nat) (t:TV),cs[i]?=some t→cA ρ w D (arr.getD i undef) t
theorem gL.c8 {ρ:Nat→Option Value}{w:World}{D:Nat→Prop}{arr vs:Array Value}{cs ys:List TV}{off:Nat}(h:gL ρ w D arr cs)(hv:gL ρ w D vs ys)(hl:off+ys.length≤cs.length){arr':Array Value}(hs:arr'.size=arr.size)
  (hg:∀i,arr'[i]?=if off≤i∧i<off+vs.size∧i<arr.size then vs[i-off]? else arr[i]?):gL ρ w D arr' (c8 cs off ys):=by
 refine⟨by rw[hs,h.1,jI hl],fun i t ht=>?_⟩
 rw[nD hl]at ht;simp only[Array.getD_eq_getD_getElem?,hg];split at ht
 ·rename_i hc
  have:=hv.2 _ _ ht
  rw[if_pos ⟨hc.1,by rw[hv.1];exact hc.2,by rw[h.1];omega⟩]
  simpa[Array.getD_eq_getD_getElem?]using this
 ·rename_i hc
  have:=h.2 _ _ ht
  rw[if_neg (by rw[hv.1];omega)]
  simpa[Array.getD_eq_getD_getElem?]using this
def pw (place:Nat→Option (Nat×Nat)):List TV→List (Nat×GV)→Option (List TV)
 |cs,[]=>some cs
 |cs,(i,g)::rest=>match place i with
  |some (off,size)=>match g.cells? with
   |some ys=>if ys.length=size∧off+size≤cs.length then pw place (c8 cs off ys) rest else none
   |none=>none
  |none=>none
theorem Cz {ρ:Nat→Option Value}{w:World}{D:Nat→Prop}{place:Nat→Option (Nat×Nat)}:∀{parts:List (Nat×GV)} {vs:List (Nat×Value)} {arr:Array Value} {cs bV:List TV},gL ρ w D arr cs→pw place cs parts=some bV→
  vs.length=parts.length→(∀(i:Nat) (x:Nat×GV) (y:Nat×Value),parts[i]?=some x→vs[i]?=some y→x.1=y.1∧bf ρ w D y.2 x.2)→∃arr',Instr.fill place arr vs=some arr'∧gL ρ w D arr' bV
 |[],vs,arr,cs,bV,hc,h,hl,_=>by
  cases h;obtain rfl:vs=[]:=List.eq_nil_of_length_eq_zero hl
  exact⟨arr,rfl,hc⟩
 |(i,g)::rest,[],arr,cs,bV,hc,h,hl,hp=>by cases hl
 |(i,g)::rest,(j,v)::vs,arr,cs,bV,hc,h,hl,hp=>by
  unfold pw at h;obtain⟨e0,hg⟩:=hp 0 _ _ rfl rfl;simp only at e0
  subst e0;split at h
  ·rename_i off size nX
   split at h
   ·rename_i ys BM
    split at h
    ·rename_i Xx
     obtain⟨c1,c2⟩:=Xx;have hv:=kX BM hg;obtain⟨f1,f2⟩:=uW v.cells off arr;have hs:=hc.c8 (off:=off) (show gL ρ w D v.cells ys from hv) (by omega) f1 f2
     obtain⟨arr',r1,r2⟩:=Cz (vs:=vs) hs h (by simpa using hl) fun k x y hx hy=>hp (k+1) x y (by simpa using hx) (by simpa using hy)
     refine⟨arr',?_,r2⟩;rw[Instr.fill,nX];simp only
     rw[if_neg (by have h1:=hc.1;have h2:=hv.1;simp only[ne_eq,Bool.or_eq_true,decide_eq_true_eq,not_or,Decidable.not_not,gt_iff_lt,Nat.not_lt];exact⟨by rw[h2,c1],by rw[h1,h2];omega⟩)]
     exact r1
    ·cases h
   ·cases h
  ·cases h
theorem gL.zero {ρ:Nat→Option Value}{w:World}{D:Nat→Prop}{z:List Value}(h:∀x∈z,x.oneCell'=true):gL ρ w D z.toArray (z.map fun x=> .r (iL x)):=by
 refine⟨by simp,fun i t ht=>?_⟩
 rw[List.getElem?_map,Option.map_eq_some_iff]at ht;obtain⟨x,hx,rfl⟩:=ht;simp only[Array.getD_eq_getD_getElem?,List.getElem?_toArray,hx,Option.getD_some];exact .r (rM (h x (List.mem_of_getElem? hx)))
theorem gL.bK {ρ ρ':Nat→Option Value}{w w':World}{D D':Nat→Prop}(fq:∀b x,ρ b=some x→ρ' b=some x)(hk:cw D w w')(hD:∀b,D b→D' b){arr:Array Value}{cs:List TV}(h:gL ρ w D arr cs):gL ρ' w' D' arr cs:=
 ⟨h.1,fun i t ht=>(h.2 i t ht).bK fq hk hD⟩
theorem CA {ρ:Nat→Option Value}{w:World}{D:Nat→Prop}{g:Nat}{arr:Array Value}{ty:TypeId}{cs:List TV}(hg:w.heap[g]?=some (.cells arr ty (0,0)))(h:gL ρ w D arr cs):eB ρ w D (some (.pointer (some ⟨g,0,none⟩))) (.box cs):=⟨g,arr,ty,rfl,hg,h.1,h.2⟩
theorem zN (w:World)(o:Obj):(w.alloc o).heap[w.heap.size]?=some o:=heap_alloc_new w o
theorem alloc_old (w:World)(o:Obj){k:Nat}(h:k<w.heap.size):(w.alloc o).heap[k]?=w.heap[k]?:=Below.heap_alloc w o k h
theorem xw (w:World)(o:Obj):w.heap.size≤(w.alloc o).heap.size:=by simp
section
variable {P:Program}{E:List PanicEntry→World→Prop}{nt:Nat}{o:Oper}{s:ae}
theorem xx (w:World)(t:TypeId)(v:Value):(newVar t v).run P w= .ok ⟨w.heap.size,0,none⟩ (w.alloc (.cells v.cells t)):=by simp[newVar,newRow]
theorem py {t:TypeId}{d:TD}(h:aw P t=some d)(w:World):∃z,(zeroValue t).run P w= .ok z w∧z.cells.toList=d.zero:=by
 obtain⟨i,u,z,h1,_,h3,_,_,h6,_⟩:=eO h;exact⟨z,by simp[zeroValue,typeInfo,h1,h3],h6⟩
theorem Nj {C:Ctx}{env:Nat→GV}{get:Nat→Option aj}{a:Act}{w:World}{ρ:Nat→Option Value}{D:Nat→Prop}(hR:Rel C env get a w ρ D){b:Nat}(hb:get b=none){arr:Array Value}{cs:List TV}(t:TypeId)(hc:gL ρ w D arr cs):
  ∃ρ',Rel C env (upd get [(b,.box cs)]) a (w.alloc (.cells arr t)) ρ' D∧bf ρ' (w.alloc (.cells arr t)) D (.pointer (some ⟨w.heap.size,0,none⟩)) (.s (.ptr b 0)):=by
 have fq:∀c x,ρ c=some x→(fun c=>if c=b then some (Value.pointer (some ⟨w.heap.size,0,none⟩))else ρ c) c=some x:=fun c x hc=>by
  have:c≠b:=by rintro rfl;rw[hR.free _ hb]at hc;cases hc
  simp[this,hc]
 refine⟨_,hR.alloc (x':= .pointer (some ⟨w.heap.size,0,none⟩)) hb rfl rfl rfl (xw _ _) (fun k hk=>alloc_old _ _ hk) (fun g hg=>?_) (CA (zN _ _) (hc.bK fq (fun k hd=>alloc_old _ _ (hR.ro k hd).1) fun _ h=>h)),?_⟩
 ·injection hg with hg
  simp at hg;omega
 ·exact .s (.ptr (by simp))
theorem PZ {t b:Nat}(ho:o.op= .alloc t)(hd:bz o nt=true){d:TD}(ht:aw P t=some d):eD P E nt o [(b,none)] [] (.s (.ptr b 0)) [(b,.box (d.zero.map fun x=> .r (iL x)))]:=by
 refine .act hd fun C env get a w ρ D hf hi hR=>?_;obtain⟨z,hz,BN⟩:=py ht w;obtain⟨ρ',h1,h2⟩:=Nj hR (hf _ (List.mem_cons_self ..)) t (gL.zero (cC ht).2.2.1);rw[←BN,Array.toArray_toList]at h1 h2;rw[←BN];exact⟨_,_,ρ',D,by simp[execOp,ho,Instr.alloc,hz,xx],h1,h2⟩
theorem Vh {t b:Nat}{x:Operand}(ho:o.op= .box t x)(hd:bz o nt=true){cs:List TV}(hc:(s.ev x).cells?=some cs):eD P E nt o [(b,none)] (bw s.env [x]) (.s (.ptr b 0)) [(b,.box cs)]:=by
 refine .act hd fun C env get a w ρ D hf hi hR=>?_;have hr:=a_ hR hi (x:=x) (by simp)
 obtain⟨ρ',h1,h2⟩:=Nj hR (hf _ (List.mem_cons_self ..)) t (show gL ρ w D _ cs from kX hc hr)
 exact⟨_,_,ρ',D,by simp[execOp,ho,Instr.box,xx],h1,h2⟩
def placeOf (T:TypeId→Option TD):TK→Nat→Option (Nat×Nat)
 | .struct fs,i=>match fs[i]? with
   |some (o,t)=>(T t).map fun d=>(o,d.size)
   |none=>none
 | .array _ e,i=>(T e).map fun d=>(i*d.size,d.size)
 |_,_=>none
def TK.CB:TK→List TypeId
 | .struct fs=>fs.map (·.2)
 | .array _ e=>[e]
 |_=>[]
def mP (s:ae)(ps:List (Nat×Operand)):List (Nat×GV):=ps.map fun x=>(x.1,s.ev x.2)
theorem xy {p q:Nat→Option (Nat×Nat)}:∀(vs:List (Nat×Value)) (c:Array Value),(∀x∈vs,p x.1=q x.1)→Instr.fill p c vs=Instr.fill q c vs
 |[],c,_=>rfl
 |(i,v)::vs,c,h=>by
  have h0:p i=q i:=h (i,v) (List.mem_cons_self ..)
  have ih:∀c,Instr.fill p c vs=Instr.fill q c vs:=fun c=>xy vs c fun x hx=>h x (List.mem_cons_of_mem _ hx)
  simp only[Instr.fill,h0,ih]
theorem uX {p:Nat→Option (Nat×Nat)}:∀{ps:List (Nat×GV)} {c c':List TV},pw p c ps=some c'→∀x∈ps,∃y,p x.1=some y
 |[],_,_,_,x,hx=>by cases hx
 |(i,g)::ps,c,c',h,x,hx=>by
  unfold pw at h;split at h
  ·rename_i nX
   split at h
   ·split at h
    ·rcases List.mem_cons.1 hx with rfl|hx
     ·exact⟨_,nX⟩
     ·exact uX h x hx
    ·cases h
   ·cases h
  ·cases h
theorem CC {α β:Type}(f:α→Sem β)(g:α→β)(w:World):∀(l:List α),(∀x∈l,(f x).run P w= .ok (g x) w)→(l.mapM f).run P w= .ok (l.map g) w
 |[],_=>by simp
 |x::l,h=>by
  simp[List.mapM_cons,h x (List.mem_cons_self ..),CC f g w l fun y hy=>h y (List.mem_cons_of_mem _ hy)]
theorem P0 {t:Nat}{ps:Array (Nat×Operand)}(ho:o.op= .build t ps)(hd:bz o nt=true){d:TD}(ht:aw P t=some d)(dO:d.k.CB.all (fun t=>(aw P t).isSome)=true)
  {cs:List TV} (hc:pw (placeOf (aw P) d.k) (d.zero.map fun x=> .r (iL x)) (mP s ps.toList)=some cs) (po:d.k.agg=true):eD P E nt o [] (bw s.env (ps.toList.map (·.2))) (.a cs) []:=by
 refine .still hd fun C env get a w ρ D hf hi hR=>?_;obtain⟨z,hz,BN⟩:=py ht w;have EM:gL ρ w D z.cells (d.zero.map fun x=> .r (iL x)):=by
  have:=gL.zero (ρ:=ρ) (w:=w) (D:=D) (cC ht).2.2.1
  rwa[←BN,Array.toArray_toList,BN]at this
 have zO:∀(i:Nat) (x:Nat×GV) (y:Nat×Value),(mP s ps.toList)[i]?=some x→(ps.toList.map fun x=>(x.1,a.eval x.2))[i]?=some y→x.1=y.1∧bf ρ w D y.2 x.2:=by
  intro i x y hx hy;simp only[mP,List.getElem?_map,Option.map_eq_some_iff]at hx hy;obtain⟨x',h1,rfl⟩:=hx;obtain⟨y',h2,rfl⟩:=hy;rw[h1]at h2;cases h2;exact⟨rfl,a_ hR hi (List.mem_map.2 ⟨x',List.mem_of_getElem? h1,rfl⟩)⟩
 obtain⟨arr',r1,r2⟩:=Cz EM hc (by simp[mP]) zO
 refine⟨.agg arr',?_,.a r2.1 r2.2⟩;have hm:(ps.map fun x=>(x.1,a.eval x.2)).toList=ps.toList.map fun x=>(x.1,a.eval x.2):=by simp
 cases hk:d.k with
 |sc=>rw[hk]at po;cases po
 |slice e=>rw[hk]at po;cases po
 |array n e=>
  have hu:=wv ht hk;rw[hk]at r1 hc;obtain⟨de,BL⟩:∃de,aw P e=some de:=by
   rw[hk]at dO;simp only[TK.CB,List.all_cons,List.all_nil,Bool.and_true]at dO;exact Option.isSome_iff_exists.1 dO
  have hp:(fun i=>some (i*de.size,de.size))=placeOf (aw P) (.array n e):=by funext i;simp[placeOf,BL]
  rw[←hp]at r1;simp[execOp,ho,Instr.build,hz,run_underlying hu,pj BL,r1]
 |struct fs=>
  obtain⟨gs,u1,u2⟩:=zK ht hk;rw[hk]at r1 hc;have kU:∀f∈gs.toList,∃d',aw P f.type=some d':=fun f hf=>by
   rw[hk]at dO;simp only[TK.CB,List.all_eq_true,List.mem_map,forall_exists_index,and_imp]at dO;exact Option.isSome_iff_exists.1 (dO f.type (f.offset,f.type) (by rw[←u2];exact List.mem_map.2 ⟨f,hf,rfl⟩) rfl)
  have ZT:(gs.mapM fun f=>Functor.map (Prod.mk f.offset) (sizeOf f.type)).run P w= .ok (gs.map fun f=>(f.offset,((aw P f.type).map TD.size).getD 0)) w:=by
   rw[Array.mapM_eq_mapM_toList];have:=CC (P:=P) (fun f:Field=>Functor.map (Prod.mk f.offset) (sizeOf f.type)) (fun f=>(f.offset,((aw P f.type).map TD.size).getD 0)) w gs.toList (fun f hf=>by
    obtain⟨d',qG⟩:=kU f hf;simp[pj qG,qG])
   rw[Sem.run_map,this,Result.andThen_ok];congr 1
   rw[←List.map_toArray]
  have hp:Instr.fill (fun i=>(gs[i]?).map fun f=>(f.offset,((aw P f.type).map TD.size).getD 0)) z.cells (ps.toList.map fun x=>(x.1,a.eval x.2))=some arr':=by
   rw[xy (q:=placeOf (aw P) (.struct fs)) _ _ (fun x hx=>?_)]
   ·exact r1
   ·obtain⟨y,hy,rfl⟩:=List.mem_map.1 hx
    obtain⟨y0,Ge⟩:=uX hc (y.1,s.ev y.2) (List.mem_map.2 ⟨y,hy,rfl⟩);simp only at Ge⊢
    rw[Ge];simp only[placeOf,←u2,List.getElem?_map]at Ge
    cases qp:gs[y.1]? with
    |none=>simp[qp]at Ge
    |some f=>
     simp only[Array.getElem?_toList,qp,Option.map_some]at Ge;obtain⟨d',qG,rfl⟩:=Option.map_eq_some_iff.1 Ge;simp[qp,qG]
  simp[execOp,ho,Instr.build,hz,run_underlying u1,ZT];rw[hp];rfl
end
end Go.Proofs.YtjklkppncmhehaaGreat.T
namespace Go.Proofs.YtjklkppncmhehaaGreat.T
open Go Go.RowKit
theorem pz {i i' k j:Nat}(h:i'<i)(hj:j<k):i'*k+j<i*k:=by
 calc i'*k+j<i'*k+k:=by omega
  _=(i'+1)*k:=by rw[Nat.add_mul,Nat.one_mul]
  _≤i*k:=Nat.mul_le_mul_right k h
theorem uY {l:List Value}{i:Nat}:l.toArray[i]?=l[i]?:=by simp
section
variable {P:Program}{E:List PanicEntry→World→Prop}{nt:Nat}{o:Oper}{s:ae}
theorem ou {t:TypeId}{d:TD}(ht:aw P t=some d){w:World}{g off:Nat}{arr:Array Value}{ty:TypeId}(hg:w.heap[g]?=some (.cells arr ty (0,0))){v:Value}(hv:v.cells.size=d.size)(hl:off+d.size≤arr.size)(h1:∀x∈v.cells.toList,x.oneCell'=true):
  (storeVar t ⟨g,off,none⟩ v).run P w= .ok () (w.setRow g (c8 arr.toList off v.cells.toList).toArray):=by
 have:=run_storeCells_at P g off ty v.cells.toList 0 arr w hg (by simp only[Array.length_toList];omega) h1
 simp only[storeVar,Sem.run_bind,pj ht,Result.andThen_ok,hv,ne_eq,not_true,if_false];rw[this];simp[c8]
theorem wy {ρ:Nat→Option Value}{w:World}{D:Nat→Prop}{arr:Array Value}{cs:List TV}(h:gL ρ w D arr cs):∀x∈arr.toList,x.oneCell'=true:=by
 intro x hx;obtain⟨i,hi,rfl⟩:=List.getElem_of_mem hx;have eN:i<arr.size:=by simpa using hi
 have U_:i<cs.length:=by have:=h.1;omega
 have:=h.2 i cs[i] (List.getElem?_eq_getElem U_)
 simp only[Array.getD_eq_getD_getElem?,Array.getElem?_eq_getElem eN,Option.getD_some]at this;simpa using this.one
theorem sQ {w:World}{g:Nat}{cs:Array Value}{x:Option Value}(hx:bI x=some g):∀k,k<w.heap.size→bI x≠some k→(w.setRow g cs).heap[k]?=w.heap[k]?:=
 fun k _ hk=>setRow_other w g k cs fun e=>hk (by rw[e];exact hx)
theorem EN {t:TypeId}{ax vx:Operand}(ho:o.op= .store t ax vx)(hd:bz o nt=true){d:TD}(ht:aw P t=some d){b off:Nat}{cs:List TV}(ha:s.ev ax= .s (.ptr b off))(hb:s.get b=some (.box cs)){ys:List TV}(hy:(s.ev vx).cells?=some ys)
  (h1:ys.length=d.size) (h2:off+ys.length≤cs.length):eD P E nt o [(b,some (.box cs))] (bw s.env [ax,vx]) .u [(b,.box (c8 cs off ys))]:=by
 refine .skip hd fun C env get a w ρ D hf hi hR=>?_;have uV:=hf _ (List.mem_cons_self ..);obtain⟨g,arr,ty,e1,h3,h4,h5⟩:=hR.blk b _ uV;have hr:=a_ hR hi (x:=ax) (by simp)
 have hv:gL ρ w D _ ys:=kX hy (a_ hR hi (x:=vx) (by simp))
 rw[ha]at hr;generalize Xy:a.eval ax=av at hr
 cases hr with|s hr=>cases hr with|ptr hr=>
 rw[e1]at hr
 cases hr;have bk:=ou ht h3 (v:=a.eval vx) (off:=off) (by rw[hv.1,h1]) (by omega) (wy hv)
 refine⟨w.setRow g (c8 arr.toList off (a.eval vx).cells.toList).toArray,ρ,D,by simp[execOp,ho,Instr.storeAt,Xy,Instr.sureAddr,bk],hR.change uV rfl (setRow_os _ _ _) (setRow_tape _ _ _) (setRow_output _ _ _) (by rw[setRow_size];exact Nat.le_refl _) (sQ (by rw[e1];rfl)) ?_⟩
 rw[e1];refine CA (setRow_heap w g arr _ ty _ h3) ?_;have hK:cw D w (w.setRow g (c8 arr.toList off (a.eval vx).cells.toList).toArray):=fun k pB=>setRow_other _ _ _ _ fun e=>(hR.own b _ g uV rfl (by rw[e1];rfl)).1 (e▸pB)
 have hc:gL ρ w D arr cs:=⟨h4,h5⟩
 refine(hc.c8 hv h2 (arr':=(c8 arr.toList off (a.eval vx).cells.toList).toArray) ?_ fun i=>?_).bK (fun _ _ h=>h) hK fun _ h=>h
 ·have:=hv.1
  rw[List.size_toArray,jI (by simp only[Array.length_toList];omega)];simp
 ·have:=hv.1
  rw[uY,nD (by simp only[Array.length_toList];omega)]
  simp only[Array.length_toList,Array.getElem?_toList];by_cases hc:off≤i∧i<off+(a.eval vx).cells.size
  ·rw[if_pos hc,if_pos ⟨hc.1,hc.2,by omega⟩]
  ·rw[if_neg hc,if_neg fun h=>hc ⟨h.1,h.2.1⟩]
theorem EO {t:TypeId}{ax vx:Operand}(ho:o.op= .store t ax vx)(hd:bz o nt=true){d:TD}(ht:aw P t=some d){b k i off e:Nat}{xs:List (List RT)}(ha:s.ev ax= .s (.row b k i off))(hb:s.get b=some (.rows e k xs)){ys:List TV}(hy:(s.ev vx).cells?=some ys)
  {y:List RT} (Md:xs[i]?=some y) (h1:ys.length=d.size) (h2:off+ys.length≤y.length) {rs:List RT} {bs:List Nat} (Xz:s.nW ys=some (rs,bs)) (tB:b∉bs):
  eD P E nt o ((b,some (.rows e k xs))::bs.map fun c=>(c,s.get c)) (bw s.env [ax,vx]) .u ((b,.rows e k (xs.set i (c8 y off rs)))::bs.map fun c=>(c,.dead)):=by
 refine .skip hd fun C env get a w ρ D hf hi uZ=>?_;have ZU:=hf _ (List.mem_cons_self ..);have fD:∀c∈bs,get c=s.get c:=fun c hc=>hf (c,s.get c) (List.mem_cons_of_mem _ (List.mem_map.2 ⟨c,hc,rfl⟩))
 obtain⟨D',hR,I7,mM⟩:=uZ.consume bs fun c hc=>by
  obtain⟨e,k,xs,h⟩:=nC Xz c hc;exact⟨_,(fD c hc).trans h,rfl⟩
 have uV:upd get (bs.map fun c=>(c,aj.dead)) b=some (.rows e k xs):=by
  have:gt b (bs.map fun c=>(c,aj.dead))=none:=by
   clear fD Xz mM hR hf;induction bs with
   |nil=>rfl
   |cons c bs ih=>
    simp only[List.mem_cons,not_or]at tB;simp only[List.map_cons,gt,if_neg tB.1];exact ih tB.2
  simp only[upd,this];exact ZU
 obtain⟨A,c,e1,q1,q2,q3,q4,q5⟩:=hR.blk b _ uV;have hr:=a_ uZ hi (x:=ax) (by simp)
 have hv:gL ρ w D _ ys:=kX hy (a_ uZ hi (x:=vx) (by simp))
 obtain⟨t1,t2⟩:=tN uZ I7 Xz fD mM;rw[ha]at hr;generalize Xy:a.eval ax=av at hr
 cases hr with|s hr=>cases hr with| @row _ _ _ _ g n' c' hr=>
 have XA:i<xs.length:=(List.getElem?_eq_some_iff.1 Md).1
 rcases q5 with⟨_,rfl,_⟩|⟨g',arr,rfl,q6,q7,q8⟩
 ·simp at XA
 rw[e1]at hr
 cases hr;have hyk:y.length=k:=q4 i y Md
 have hfit:i*k+off+d.size≤arr.size:=by
  rw[q7]
  calc i*k+off+d.size≤i*k+k:=by omega
   _=(i+1)*k:=by rw[Nat.add_mul,Nat.one_mul]
   _≤c*k:=Nat.mul_le_mul_right k (by omega)
 have ye:=hv.1;have bk:=ou ht q6 (v:=a.eval vx) (off:=i*k+off) (by rw[hv.1,h1]) hfit (wy hv)
 refine⟨w.setRow g (c8 arr.toList (i*k+off) (a.eval vx).cells.toList).toArray,ρ,D',by simp[execOp,ho,Instr.storeAt,Xy,Instr.sureAddr,bk],?_⟩
 rw[Cx];refine hR.change uV rfl (setRow_os _ _ _) (setRow_tape _ _ _) (setRow_output _ _ _) (by rw[setRow_size];exact Nat.le_refl _) (sQ (by rw[e1];rfl)) ?_
 have hK:cw D' w (w.setRow g (c8 arr.toList (i*k+off) (a.eval vx).cells.toList).toArray):=fun m pB=>setRow_other _ _ _ _ fun e'=>(hR.own b _ g uV rfl (by rw[e1];rfl)).1 (e'▸pB)
 rw[e1];refine⟨_,c,by rw[List.length_set],by rw[List.length_set];exact q1,q2,q3,fun i' y' dP=>?_,.inr ⟨g,_,rfl,setRow_heap w g arr _ e _ q6,?_,fun i' y' dP j r hj=>?_⟩⟩
 ·rw[List.getElem?_set,if_pos XA]at dP
  split at dP
  ·cases dP
   rw[jI (by omega)]
   exact hyk
  ·exact q4 i' y' dP
 ·rw[List.size_toArray,jI (by simp only[Array.length_toList];omega)]
  simpa using q7
 ·simp only[Array.getD_eq_getD_getElem?,uY]
  rw[nD (by simp only[Array.length_toList];omega)]
  simp only[Array.length_toList,Array.getElem?_toList];rw[List.getElem?_set,if_pos XA]at dP;split at dP
  ·rename_i ei
   subst ei
   cases dP;rw[nD (by omega)]at hj
   split at hj
   ·rename_i hc
    rw[if_pos (by omega)]
    have ai:j-off<ys.length:=by omega
    have:=t2 (j-off) ys[j-off] r (List.getElem?_eq_getElem ai) hj _ (hv.2 _ _ (List.getElem?_eq_getElem ai))
    rw[show i*k+j-(i*k+off)=j-off by omega]
    simpa[Array.getD_eq_getD_getElem?]using this.bK hK fun _ h=>h
   ·rename_i hc
    rw[if_neg (by omega)]
    have:=q8 i y Md j r hj
    simpa[Array.getD_eq_getD_getElem?]using this.bK hK fun _ h=>h
  ·rename_i ei
   have zP:j<k:=by rw[←q4 i' y' dP];exact(List.getElem?_eq_some_iff.1 hj).1
   rw[if_neg (fun hc=>by
    rcases Nat.lt_or_ge i' i with ai|zl
    ·have:=pz ai zP;omega
    ·have:=pz (i:=i') (i':=i) (j:=off+ys.length-1) (k:=k) (by omega) (by omega);omega)]
   have:=q8 i' y' dP j r hj
   simpa[Array.getD_eq_getD_getElem?]using this.bK hK fun _ h=>h
def pC (s:ae)(k:Nat):Nat→List (Nat×Operand)→Option (List (List RT)×List Nat)
 |_,[]=>some ([],[])
 |i,(j,x)::ps=>if j=i then match(s.ev x).cells? with
  |some ts=>if ts.length=k then match s.nW ts with
   |some (r,bs)=>match pC s k (i+1) ps with
    |some (rs,cs)=>some (r::rs,bs++cs)
    |none=>none
   |none=>none
   else none
  |none=>none
  else none
theorem nE {s:ae}{k:Nat}:∀{ps:List (Nat×Operand)} {i:Nat} {xs:List (List RT)} {bs:List Nat},pC s k i ps=some (xs,bs)→∀b∈bs,∃e k xs,s.get b=some (.rows e k xs)
 |[],_,_,_,h=>by cases h;intro b hb;cases hb
 |(j,x)::ps,i,xs,bs,h=>by
  unfold pC at h;split at h
  ·split at h
   ·split at h
    ·split at h
     ·rename_i h1
      split at h
      ·rename_i h2
       cases h;intro b hb;rcases List.mem_append.1 hb with hb|hb
       ·exact nC h1 b hb
       ·exact nE h2 b hb
      ·cases h
     ·cases h
    ·cases h
   ·cases h
  ·cases h
theorem zQ {C:Ctx}{env:Nat→GV}{get:Nat→Option aj}{a:Act}{w:World}{ρ:Nat→Option Value}{D D':Nat→Prop}(hR:Rel C env get a w ρ D)(hD:∀k,D k→D' k){all:List Operand}(hi:∀x∈bw s.env all,env x.1=x.2){k:Nat}:
  ∀{ps:List (Nat×Operand)} {i:Nat} {xs:List (List RT)} {bs:List Nat},pC s k i ps=some (xs,bs)→(∀x∈ps,x.2∈all)→(∀b∈bs,get b=s.get b)→(∀b∈bs,∀g,bI (ρ b)=some g→D' g)→
  xs.length=ps.length∧∀(p:Nat) (x:Nat×Operand),ps[p]?=some x→x.1=i+p∧(a.eval x.2).cells.size=k∧(∀v∈(a.eval x.2).cells.toList,v.oneCell'=true)∧∃y,xs[p]?=some y∧y.length=k∧∀(j:Nat) (r:RT),y[j]?=some r→cH w D' ((a.eval x.2).cells.getD j undef) r
 |[],_,_,_,h,_,_,_=>by cases h;exact⟨rfl,fun p x hx=>by simp at hx⟩
 |(j,x)::ps,i,xs,bs,h,dO,hg,hb=>by
  unfold pC at h;split at h
  ·rename_i BO
   split at h
   ·rename_i ts Kh
    split at h
    ·rename_i hk
     split at h
     ·rename_i r b1 h1
      split at h
      ·rename_i rs' b2 h2
       cases h;obtain⟨Dz,yJ⟩:=zQ hR hD hi h2 (fun x hx=>dO x (List.mem_cons_of_mem _ hx)) (fun b cD=>hg b (List.mem_append_right _ cD)) fun b cD=>hb b (List.mem_append_right _ cD)
       have hc:gL ρ w D _ ts:=kX Kh (a_ hR hi (dO (j,x) (List.mem_cons_self ..)))
       obtain⟨t1,t2⟩:=tN hR hD h1 (fun b cD=>hg b (List.mem_append_left _ cD)) fun b cD=>hb b (List.mem_append_left _ cD)
       refine⟨by simp[Dz],fun p z hz=>?_⟩
       cases p with
       |zero=>
        simp only[List.getElem?_cons_zero,Option.some.injEq]at hz;subst hz;refine⟨BO,by rw[hc.1,hk],wy hc,r,rfl,by rw[t1,hk],fun q r' hq=>?_⟩
        have ai:q<ts.length:=by rw[←t1];exact(List.getElem?_eq_some_iff.1 hq).1
        exact t2 q ts[q] r' (List.getElem?_eq_getElem ai) hq _ (hc.2 _ _ (List.getElem?_eq_getElem ai))
       |succ p=>
        obtain⟨a1,a2,a3,y,a4,a5⟩:=yJ p z (by simpa using hz)
        exact⟨by omega,a2,a3,y,by simpa using a4,a5⟩
      ·cases h
     ·cases h
    ·cases h
   ·cases h
  ·cases h
theorem zR {k:Nat}:∀(vs:List (Nat×Value)) (i0:Nat) (cells:Array Value),(∀(p:Nat) (x:Nat×Value),vs[p]?=some x→x.1=i0+p∧x.2.cells.size=k)→(i0+vs.length)*k≤cells.size→
  ∃c',Instr.fill (fun i=>some (i*k,k)) cells vs=some c'∧c'.size=cells.size∧(∀t,t<i0*k→c'[t]?=cells[t]?)∧∀(p:Nat) (x:Nat×Value),vs[p]?=some x→∀j,j<k→c'[(i0+p)*k+j]?=x.2.cells[j]?
 |[],i0,cells,_,_=>⟨cells,rfl,rfl,fun _ _=>rfl,fun p x hx=>by simp at hx⟩
 |(i,v)::vs,i0,cells,h,hl=>by
  obtain⟨e0,hk⟩:=h 0 _ rfl;simp only[Nat.add_zero]at e0 hk;subst e0;have aY:(i+1+vs.length)*k≤cells.size:=by simp only[List.length_cons]at hl;rw[show i+1+vs.length=i+(vs.length+1) by omega];exact hl
  have h1:(i+1)*k≤(i+1+vs.length)*k:=Nat.mul_le_mul_right k (by omega)
  have h2:(i+1)*k=i*k+k:=by rw[Nat.add_mul,Nat.one_mul]
  obtain⟨f1,f2⟩:=uW v.cells (i*k) cells;obtain⟨c',r1,r2,r3,r4⟩:=zR vs (i+1) _ (fun p x hx=>by
   obtain⟨a1,a2⟩:=h (p+1) x (by simpa using hx)
   exact⟨by omega,a2⟩) (by rw[f1];exact aY)
  refine⟨c',?_,by rw[r2,f1],fun t ht=>?_,fun p x hx j hj=>?_⟩
  ·rw[Instr.fill]
   simp only
   rw[if_neg (by simp only[ne_eq,Bool.or_eq_true,decide_eq_true_eq,not_or,Decidable.not_not,gt_iff_lt,Nat.not_lt];exact⟨hk,by omega⟩)]
   exact r1
  ·rw[r3 t (by omega),f2,if_neg (by omega)]
  ·cases p with
   |zero=>
    simp only[List.getElem?_cons_zero,Option.some.injEq]at hx;subst hx;rw[Nat.add_zero,r3 _ (by omega),f2,if_pos (by omega)]
    congr 1;omega
   |succ p=>
    have:=r4 p x (by simpa using hx) j hj
    rw[show i+(p+1)=i+1+p by omega]
    exact this
theorem I8 {C:Ctx}{env:Nat→GV}{get:Nat→Option aj}{a:Act}{w:World}{ρ:Nat→Option Value}{D:Nat→Prop}(hR:Rel C env get a w ρ D){b:Nat}(hb:get b=none){arr:Array Value}{e k c:Nat}{xs:List (List RT)}(hk:0<k)(hc:xs.length≤c)(hm:c≤maxLen)(hs:arr.size=c*k)
  (hx:∀(i:Nat) (y:List RT),xs[i]?=some y→y.length=k∧∀(j:Nat) (r:RT),y[j]?=some r→cH w D (arr.getD (i*k+j) undef) r):
  ∃ρ',Rel C env (upd get [(b,.rows e k xs)]) a (w.alloc (.cells arr e)) ρ' D∧bf ρ' (w.alloc (.cells arr e)) D (.slice (some ⟨w.heap.size,0,none⟩) xs.length c) (.s (.own b)):=by
 refine⟨_,hR.alloc (x':= .slice (some ⟨w.heap.size,0,none⟩) xs.length c) hb rfl rfl rfl (xw _ _) (fun k hk=>alloc_old _ _ hk) (fun g hg=>?_) ?_,?_⟩
 ·injection hg with hg
  simp at hg;omega
 ·exact⟨_,c,rfl,hc,hm,hk,fun i y hy=>(hx i y hy).1,.inr ⟨_,arr,rfl,zN _ _,hs,fun i y hy j r hj=>((hx i y hy).2 j r hj).bK (fun m hd=>alloc_old _ _ (hR.ro m hd).1) fun _ h=>h⟩⟩
 ·exact .s (.own (by simp))
theorem zS {t n b:Nat}{ps:Array (Nat×Operand)}(ho:o.op= .buildSlice t n ps)(hd:bz o nt=true){d de:TD}{e:TypeId}(ht:aw P t=some d)(hk:d.k= .slice e)(he:aw P e=some de)(h0:0<de.size)(hn:ps.toList.length=n)(pa:n*de.size≤16777216)
  {xs:List (List RT)} {bs:List Nat} (hx:pC s de.size 0 ps.toList=some (xs,bs)):
  eD P E nt o ((b,none)::bs.map fun c=>(c,s.get c)) (bw s.env (ps.toList.map (·.2))) (.s (.own b)) ((b,.rows e de.size xs)::bs.map fun c=>(c,.dead)):=by
 refine .act hd fun C env get a w ρ D hf hi uZ=>?_;have Rx:=hf _ (List.mem_cons_self ..);have fD:∀c∈bs,get c=s.get c:=fun c hc=>hf (c,s.get c) (List.mem_cons_of_mem _ (List.mem_map.2 ⟨c,hc,rfl⟩))
 obtain⟨D',hR,I7,mM⟩:=uZ.consume bs fun c hc=>by
  obtain⟨e,k,xs,h⟩:=nE hx c hc;exact⟨_,(fD c hc).trans h,rfl⟩
 have uV:upd get (bs.map fun c=>(c,aj.dead)) b=none:=by
  have tB:b∉bs:=fun DF=>by
   obtain⟨e,k,xs,h⟩:=nE hx b DF;rw[←fD b DF]at h;simp only at Rx
   rw[Rx]at h;cases h
  have:gt b (bs.map fun c=>(c,aj.dead))=none:=by
   clear fD hx mM hR hf;induction bs with
   |nil=>rfl
   |cons c bs ih=>
    simp only[List.mem_cons,not_or]at tB;simp only[List.map_cons,gt,if_neg tB.1];exact ih tB.2
  simp only[upd,this];exact Rx
 obtain⟨r1,r2⟩:=zQ uZ I7 hi hx (fun x hx=>List.mem_map.2 ⟨x,hx,rfl⟩) fD mM
 obtain⟨z,hz,BN⟩:=py he w;have hu:=ko ht hk;have Vi:z.cells.size=de.size:=by have:=(cC he).2.1;rw[←BN]at this;simpa using this
 have hlen:∀c0:Array Value,c0.size=n*de.size→∃c',Instr.fill (fun i=>some (i*de.size,de.size)) c0 (ps.toList.map fun x=>(x.1,a.eval x.2))=some c'∧c'.size=c0.size∧
   ∀(p:Nat) (x:Nat×Operand),ps.toList[p]?=some x→∀j,j<de.size→c'[p*de.size+j]?=(a.eval x.2).cells[j]?:=by
  intro c0 XB;obtain⟨c',f1,f2,_,f4⟩:=zR (ps.toList.map fun x=>(x.1,a.eval x.2)) 0 c0 (fun p x hx=>by
   rw[List.getElem?_map,Option.map_eq_some_iff]at hx;obtain⟨x',jw,rfl⟩:=hx;obtain⟨a1,a2,_⟩:=r2 p x' jw;exact⟨a1,a2⟩) (by rw[XB,Nat.zero_add,List.length_map,hn];exact Nat.le_refl _)
  refine⟨c',f1,f2,fun p x hx j hj=>?_⟩
  have:=f4 p (x.1,a.eval x.2) (by rw[List.getElem?_map,hx];rfl) j hj
  rwa[Nat.zero_add]at this
 obtain⟨c',f1,f2,f3⟩:=hlen ((Array.range (n*de.size)).map fun i=>(if n*de.size=0 then #[]else z.cells)[i %(if n*de.size=0 then #[]else z.cells).size]!) (by simp)
 have iD:(execOp a.eval o).run P w= .ok (.value (.slice (some ⟨w.heap.size,0,none⟩) n n)) (w.alloc (.cells c' e)):=by
  have hm:(ps.map fun x=>(x.1,a.eval x.2)).toList=ps.toList.map fun x=>(x.1,a.eval x.2):=by simp
  have bh:¬(2^24<n*de.size):=by omega
  by_cases EM:n*de.size=0
  ·simp only[EM,if_true]at f1
   simp[execOp,ho,Instr.buildSlice,run_underlying hu,pj he,EM,newRow];simp at f1
   rw[f1];simp
  ·simp only[EM,if_false]at f1
   simp[execOp,ho,Instr.buildSlice,run_underlying hu,pj he,EM,newRow,hz];rw[f1];simp
   exact pa
 have Wr:xs.length=n:=by rw[r1];exact hn
 obtain⟨ρ',g1,g2⟩:=I8 hR uV (arr:=c') (e:=e) (k:=de.size) (c:=n) (xs:=xs) h0 (by omega) (by simp only[maxLen];have:=Nat.le_mul_of_pos_right n h0;omega) (by rw[f2];simp) (fun i y hy=>by
  have eN:i<ps.toList.length:=by rw[←r1];exact(List.getElem?_eq_some_iff.1 hy).1
  obtain⟨_,b2,_,y',b4,b5,b6⟩:=r2 i _ (List.getElem?_eq_getElem eN);rw[hy]at b4;cases b4;refine⟨b5,fun j r hj=>?_⟩
  have L_:j<de.size:=by rw[←b5];exact(List.getElem?_eq_some_iff.1 hj).1
  have:=b6 j r hj
  simp only[Array.getD_eq_getD_getElem?]at this⊢;rw[f3 i _ (List.getElem?_eq_getElem eN) j L_];exact this)
 rw[Wr]at g2;rw[Cx];exact⟨_,_,ρ',D',iD,g1,g2⟩
end
end Go.Proofs.YtjklkppncmhehaaGreat.T
