/-
What is proved: of each operation that changes memory, what it does to trees and what rests on it. Conditions: as stated.
-/
import Derived.Test.YtlhohdjniaebbaaGreatRy28
import Derived.Laws.AppendOwnNone
set_option linter.unusedVariables false
set_option linter.unusedSimpArgs false
namespace Go.Proofs.YtlhohdjniaebbaaGreat.T
open Go Go.RowKit
theorem lU (b:Nat)(x y:List (Nat×ak)):gt b (x++y)=match gt b x with|some z=>some z|none=>gt b y:=by
 induction x with
 |nil=>rfl
 |cons a x ih=>
  obtain⟨u,z⟩:=a;simp only[List.cons_append,gt];split
  ·rfl
  ·exact ih
theorem UT (get:Nat→Option ak)(x y:List (Nat×ak)):upd (upd get y) x=upd get (x++y):=by
 funext b
 simp only[upd,lU]
 cases gt b x<;>rfl
theorem Cf (get:Nat→Option ak)(b:Nat)(y:ak)(Δ:List (Nat×ak)):upd get ((b,y)::Δ)=upd (upd get Δ) [(b,y)]:=by rw[UT];rfl
theorem kz (get:Nat→Option ak)(b:Nat)(y:ak)(c:Nat):upd get [(b,y)] c=if c=b then some y else get c:=by
 simp only[upd,gt];split<;>simp_all
section
variable {C:Ctx}{env:Nat→GV}{get:Nat→Option ak}{a:Act}{w w':World}{ρ:Nat→Option Value}{D:Nat→Prop}
theorem Rel.move (h:Rel C env get a w ρ D){b b':Nat}{y:ak}{x':Value}(cB:get b'=none)(hold:∃z,get b=some z∧z.live=true)(e1:w'.os=w.os)(e2:w'.tape=w.tape)(e3:w'.output=w.output)(e4:w.heap.size≤w'.heap.size)
  (hk:∀k,k<w.heap.size→bI (ρ b)≠some k→w'.heap[k]?=w.heap[k]?) (hx:∀g,bI (some x')=some g→bI (ρ b)=some g∨w.heap.size≤g) (hy:dr (fun c=>if c=b' then some x' else ρ c) w' D (some x') y):
  Rel C env (upd get [(b',y),(b,.dead)]) a w' (fun c=>if c=b' then some x' else ρ c) D:=by
 obtain⟨z,hz,zl⟩:=hold;have Dh:b≠b':=by rintro rfl;rw[cB]at hz;cases hz
 have dk:∀c x,ρ c=some x→(fun c=>if c=b' then some x' else ρ c) c=some x:=fun c x hc=>by
  have:c≠b':=by rintro rfl;rw[h.free _ cB]at hc;cases hc
  simp[this,hc]
 have MB:∀g,bI (ρ b)=some g→¬D g∧(C.M g∨C.W.heap.size≤g):=fun g hg=>h.own b z g hz zl hg
 have hK:cj D w w':=fun k hd=>hk k (h.ro k hd).1 fun e=>(MB k e).1 hd
 have jj:=h.size;refine⟨e1.trans h.os,e2.trans h.tape,e3.trans h.output,by omega,fun k aj hM=>?_,fun k hd=>⟨Nat.lt_of_lt_of_le (h.ro k hd).1 e4,(h.ro k hd).2⟩,fun c hc=>?_,fun c y' hc=>?_,fun c y' g hc hl hg=>?_,fun c y1 c' y2 g hc hl cb dm hg bf=>?_,fun t=>(h.env t).keep dk hK fun _ h=>h,h.defers,h.nt,fun b x hx=>dk b x (h.ext b x hx)⟩
 ·rw[hk k (by omega) (fun e=>?_)]
  ·exact h.old k aj hM
  ·rcases(MB k e).2 with h1|h1
   ·exact hM h1
   ·omega
 ·simp only[upd,gt]at hc
  split at hc
  ·cases hc
  ·rename_i hg
   have:c≠b':=by rintro rfl;simp at hg
   simp only[this,if_false];exact h.free c hc
 ·simp only[upd,gt]at hc
  by_cases e:c=b'
  ·subst e
   simp only[if_true,Option.some.injEq]at hc;subst hc;simp only[if_true];exact hy
  ·by_cases e':c=b
   ·simp only[e,e',Dh,if_false,if_true,Option.some.injEq]at hc
    subst hc;trivial
   ·simp only[e,e',if_false]at hc
    simp only[e,if_false];refine(h.blk c y' hc).keep dk hK (fun _ h=>h) ?_
    by_cases hl:y'.live=true
    ·right
     intro g hg;exact hk g (h.gu hc hl hg) fun e2=>e' (h.sep c y' b z g hc hl hz zl hg e2)
    ·left
     cases y'<;>simp[ak.live]at hl
     rfl
 ·simp only[upd,gt]at hc
  by_cases e:c=b'
  ·subst e
   simp only[if_true]at hg;rcases hx g hg with h1|h1
   ·exact MB g h1
   ·exact⟨fun hd=>by have:=(h.ro g hd).1;omega,.inr (by omega)⟩
  ·by_cases e':c=b
   ·simp only[e,e',Dh,if_false,if_true,Option.some.injEq]at hc
    subst hc;simp[ak.live]at hl
   ·simp only[e,e',if_false]at hc
    simp only[e,if_false]at hg;exact h.own c y' g hc hl hg
 ·simp only[upd,gt]at hc cb
  have key:∀c y1,c≠b'→(match(if c=b' then some y else if c=b then some ak.dead else none)with|some y=>some y|none=>get c)=some y1→y1.live=true→c≠b∧get c=some y1:=by
   intro c y1 e hc hl;by_cases e':c=b
   ·simp only[e,e',Dh,if_false,if_true,Option.some.injEq]at hc
    subst hc;simp[ak.live]at hl
   ·simp only[e,e',if_false]at hc
    exact⟨e',hc⟩
  by_cases e:c=b'<;>by_cases e':c'=b'
  ·rw[e,e']
  ·obtain⟨n1,n2⟩:=key c' y2 e' cb dm
   simp only[e',if_false]at bf;simp only[e,if_true]at hg;exfalso
   rcases hx g hg with h1|h1
   ·exact n1 (h.sep c' y2 b z g n2 dm hz zl bf h1)
   ·have:=h.gu n2 dm bf;omega
  ·obtain⟨n1,n2⟩:=key c y1 e hc hl
   simp only[e,if_false]at hg;simp only[e',if_true]at bf;exfalso
   rcases hx g bf with h1|h1
   ·exact n1 (h.sep c y1 b z g n2 hl hz zl hg h1)
   ·have:=h.gu n2 hl hg;omega
  ·obtain⟨_,n2⟩:=key c y1 e hc hl
   obtain⟨_,m2⟩:=key c' y2 e' cb dm;simp only[e,if_false]at hg;simp only[e',if_false]at bf;exact h.sep c y1 c' y2 g n2 hl m2 dm hg bf
theorem Rel.alloc (h:Rel C env get a w ρ D){b':Nat}{y:ak}{x':Value}(cB:get b'=none)(e1:w'.os=w.os)(e2:w'.tape=w.tape)(e3:w'.output=w.output)(e4:w.heap.size≤w'.heap.size)
  (hk:∀k,k<w.heap.size→w'.heap[k]?=w.heap[k]?) (hx:∀g,bI (some x')=some g→w.heap.size≤g) (hy:dr (fun c=>if c=b' then some x' else ρ c) w' D (some x') y):
  Rel C env (upd get [(b',y)]) a w' (fun c=>if c=b' then some x' else ρ c) D:=by
 have dk:∀c x,ρ c=some x→(fun c=>if c=b' then some x' else ρ c) c=some x:=fun c x hc=>by
  have:c≠b':=by rintro rfl;rw[h.free _ cB]at hc;cases hc
  simp[this,hc]
 have hK:cj D w w':=fun k hd=>hk k (h.ro k hd).1
 have jj:=h.size;refine⟨e1.trans h.os,e2.trans h.tape,e3.trans h.output,by omega,fun k aj hM=>(hk k (by omega)).trans (h.old k aj hM),fun k hd=>⟨Nat.lt_of_lt_of_le (h.ro k hd).1 e4,(h.ro k hd).2⟩,fun c hc=>?_,fun c y' hc=>?_,fun c y' g hc hl hg=>?_,fun c y1 c' y2 g hc hl cb dm hg bf=>?_,fun t=>(h.env t).keep dk hK fun _ h=>h,h.defers,h.nt,fun b x hx=>dk b x (h.ext b x hx)⟩
 ·rw[kz]at hc
  split at hc
  ·cases hc
  ·rename_i e
   simp only[e,if_false];exact h.free c hc
 ·rw[kz]at hc
  by_cases e:c=b'
  ·simp only[e,if_true,Option.some.injEq]at hc⊢
   subst hc;exact hy
  ·simp only[e,if_false]at hc⊢
   refine(h.blk c y' hc).keep dk hK (fun _ h=>h) ?_
   by_cases hl:y'.live=true
   ·exact .inr fun g hg=>hk g (h.gu hc hl hg)
   ·left
    cases y'<;>simp[ak.live]at hl
    rfl
 ·rw[kz]at hc
  by_cases e:c=b'
  ·simp only[e,if_true]at hg
   have h1:=hx g hg;exact⟨fun hd=>by have:=(h.ro g hd).1;omega,.inr (by omega)⟩
  ·simp only[e,if_false]at hc hg
   exact h.own c y' g hc hl hg
 ·rw[kz]at hc cb
  by_cases e:c=b'<;>by_cases e':c'=b'
  ·rw[e,e']
  ·simp only[e',if_false]at bf cb
   simp only[e,if_true]at hg;have h1:=hx g hg;have:=h.gu cb dm bf;omega
  ·simp only[e,if_false]at hg hc
   simp only[e',if_true]at bf;have h1:=hx g bf;have:=h.gu hc hl hg;omega
  ·simp only[e,if_false]at hg hc
   simp only[e',if_false]at bf cb;exact h.sep c y1 c' y2 g hc hl cb dm hg bf
theorem Rel.change (h:Rel C env get a w ρ D){b:Nat}{y z:ak}(hz:get b=some z)(zl:z.live=true)(e1:w'.os=w.os)(e2:w'.tape=w.tape)(e3:w'.output=w.output)(e4:w.heap.size≤w'.heap.size)
  (hk:∀k,k<w.heap.size→bI (ρ b)≠some k→w'.heap[k]?=w.heap[k]?) (hy:dr ρ w' D (ρ b) y):Rel C env (upd get [(b,y)]) a w' ρ D:=by
 have MB:∀g,bI (ρ b)=some g→¬D g∧(C.M g∨C.W.heap.size≤g):=fun g hg=>h.own b z g hz zl hg
 have hK:cj D w w':=fun k hd=>hk k (h.ro k hd).1 fun e=>(MB k e).1 hd
 have jj:=h.size;refine⟨e1.trans h.os,e2.trans h.tape,e3.trans h.output,by omega,fun k aj hM=>?_,fun k hd=>⟨Nat.lt_of_lt_of_le (h.ro k hd).1 e4,(h.ro k hd).2⟩,fun c hc=>?_,fun c y' hc=>?_,fun c y' g hc hl hg=>?_,fun c y1 c' y2 g hc hl cb dm hg bf=>?_,fun t=>(h.env t).keep (fun _ _ h=>h) hK fun _ h=>h,h.defers,h.nt,h.ext⟩
 ·rw[hk k (by omega) (fun e=>?_)]
  ·exact h.old k aj hM
  ·rcases(MB k e).2 with h1|h1
   ·exact hM h1
   ·omega
 ·rw[kz]at hc
  split at hc
  ·cases hc
  ·exact h.free c hc
 ·rw[kz]at hc
  by_cases e:c=b
  ·simp only[e,if_true,Option.some.injEq]at hc
   subst hc;subst e;exact hy
  ·simp only[e,if_false]at hc
   refine(h.blk c y' hc).keep (fun _ _ h=>h) hK (fun _ h=>h) ?_
   by_cases hl:y'.live=true
   ·exact .inr fun g hg=>hk g (h.gu hc hl hg) fun e2=>e (h.sep c y' b z g hc hl hz zl hg e2)
   ·left
    cases y'<;>simp[ak.live]at hl
    rfl
 ·rw[kz]at hc
  by_cases e:c=b
  ·subst e;exact MB g hg
  ·simp only[e,if_false]at hc
   exact h.own c y' g hc hl hg
 ·rw[kz]at hc cb
  by_cases e:c=b<;>by_cases e':c'=b
  ·rw[e,e']
  ·subst e
   simp only[e',if_false]at cb;exact h.sep c z c' y2 g hz zl cb dm hg bf
  ·subst e'
   simp only[e,if_false]at hc;exact h.sep c y1 c' z g hc hl hz zl hg bf
  ·simp only[e,if_false]at hc
   simp only[e',if_false]at cb;exact h.sep c y1 c' y2 g hc hl cb dm hg bf
theorem Rel.consume (h:Rel C env get a w ρ D)(bs:List Nat)(hb:∀b∈bs,∃z,get b=some z∧z.live=true):∃D':Nat→Prop,Rel C env (upd get (bs.map fun b=>(b,.dead))) a w ρ D'∧(∀k,D k→D' k)∧∀b∈bs,∀g,bI (ρ b)=some g→D' g:=by
 have Sp:∀c,gt c (bs.map fun b=>(b,ak.dead))=if c∈bs then some .dead else none:=by
  intro c;induction bs with
  |nil=>rfl
  |cons b bs ih=>
   simp only[List.map_cons,gt,List.mem_cons];rw[ih fun b cB=>hb b (List.mem_cons_of_mem _ cB)]
   by_cases e:c=b<;>simp[e]
 have zm:∀c,upd get (bs.map fun b=>(b,ak.dead)) c=if c∈bs then some .dead else get c:=by
  intro c;simp only[upd,Sp];split<;>simp_all
 have gr:∀k,D k→D k∨∃b∈bs,bI (ρ b)=some k:=fun k=> .inl
 refine⟨fun k=>D k∨∃b∈bs,bI (ρ b)=some k,⟨h.os,h.tape,h.output,h.size,h.old,fun k hk=>?_,fun c hc=>?_,fun c y hc=>?_,fun c y g hc hl hg=>?_,fun c y1 c' y2 g hc hl cb dm hg bf=>?_,fun t=>(h.env t).keep (fun _ _ h=>h) (cj.refl _ _) gr,h.defers,h.nt,h.ext⟩,gr,fun b cB g hg=> .inr ⟨b,cB,hg⟩⟩
 ·rcases hk with hk|⟨b,cB,hg⟩
  ·exact h.ro k hk
  ·obtain⟨z,hz,hl⟩:=hb b cB
   exact⟨h.gu hz hl hg,.inr (h.own b z k hz hl hg).2⟩
 ·rw[zm]at hc
  split at hc
  ·cases hc
  ·exact h.free c hc
 ·rw[zm]at hc
  split at hc
  ·cases hc;trivial
  ·exact(h.blk c y hc).keep (fun _ _ h=>h) (cj.refl _ _) gr (.inr fun _ _=>rfl)
 ·rw[zm]at hc
  split at hc
  ·cases hc;simp[ak.live]at hl
  ·rename_i hn
   obtain⟨h1,h2⟩:=h.own c y g hc hl hg;refine⟨?_,h2⟩;rintro(hd|⟨b,cB,bf⟩)
   ·exact h1 hd
   ·obtain⟨z,hz,zl⟩:=hb b cB
    have:=h.sep c y b z g hc hl hz zl hg bf
    subst this;exact hn cB
 ·rw[zm]at hc cb
  split at hc
  ·cases hc;simp[ak.live]at hl
  ·split at cb
   ·cases cb;simp[ak.live]at dm
   ·exact h.sep c y1 c' y2 g hc hl cb dm hg bf
end
def ae.wQ (s:ae):TV→Option (RT×List Nat)
 | .r t=>some (t,[])
 | .own b=>match s.get b with
   |some (.rows _ k xs)=>some (.sl k xs,[b])
   |_=>none
 |_=>none
def ae.nn (s:ae):List TV→Option (List RT×List Nat)
 |[]=>some ([],[])
 |t::ts=>match s.wQ t with
  |some (r,bs)=>match s.nn ts with
   |some (rs,cs)=>some (r::rs,bs++cs)
   |none=>none
  |none=>none
theorem MC {s:ae}{t:TV}{r:RT}{bs:List Nat}(h:s.wQ t=some (r,bs)):∀b∈bs,∃e k xs,s.get b=some (.rows e k xs):=by
 unfold ae.wQ at h;split at h
 ·cases h;intro b hb;cases hb
 ·split at h
  ·rename_i hg
   cases h;intro b hb;simp only[List.mem_cons,List.not_mem_nil,or_false]at hb;subst hb;exact⟨_,_,_,hg⟩
  ·cases h
 ·cases h
theorem mQ {s:ae}:∀{ts:List TV} {r:List RT} {bs:List Nat},s.nn ts=some (r,bs)→∀b∈bs,∃e k xs,s.get b=some (.rows e k xs)
 |[],_,_,h=>by cases h;intro b hb;cases hb
 |t::ts,r,bs,h=>by
  unfold ae.nn at h;split at h
  ·rename_i h1
   split at h
   ·rename_i h2
    cases h;intro b hb;rcases List.mem_append.1 hb with hb|hb
    ·exact MC h1 b hb
    ·exact mQ h2 b hb
   ·cases h
  ·cases h
theorem Cg {C:Ctx}{env:Nat→GV}{get:Nat→Option ak}{a:Act}{w:World}{ρ:Nat→Option Value}{D D':Nat→Prop}{s:ae}(hR:Rel C env get a w ρ D){t:TV}{r:RT}{bs:List Nat}(h:s.wQ t=some (r,bs))
  (hg:∀b∈bs,get b=s.get b) (hD:∀k,D k→D' k) (hb:∀b∈bs,∀g,bI (ρ b)=some g→D' g) {v:Value} (hr:cn ρ w D v t):cE w D' v r:=by
 unfold ae.wQ at h;split at h
 ·cases h
  cases hr with|r hr=>exact hr.keep (cj.refl _ _) hD
 ·rename_i b
  split at h
  ·rename_i e k xs uy
   cases h;have abl:get b=some (.rows e k xs):=(hg b (List.mem_cons_self ..)).trans uy
   obtain⟨A,c,e1,h1,h2,h3,h4,h5⟩:=hR.blk b _ abl
   cases hr with|own hr=>
   rw[e1]at hr
   cases hr;rcases h5 with⟨rfl,rfl,rfl⟩|⟨g,arr,rfl,h6,h7,h8⟩
   ·exact .sS h2
   ·refine .N4 h1 h2 (hb b (List.mem_cons_self ..) g (by rw[e1];rfl)) fun i y hy=>⟨h4 i y hy,g,0,rfl,fun j r hj=>⟨arr.getD (i*k+j) undef,?_,(h8 i y hy j r hj).keep (cj.refl _ _) hD⟩⟩
    have hi:i<xs.length:=(List.getElem?_eq_some_iff.1 hy).1
    have MA:j<y.length:=(List.getElem?_eq_some_iff.1 hj).1
    rw[h4 i y hy]at MA;have aj:i*k+j<arr.size:=by
     rw[h7]
     calc i*k+j<i*k+k:=by omega
      _=(i+1)*k:=by rw[Nat.add_mul,Nat.one_mul]
      _≤c*k:=Nat.mul_le_mul_right k (by omega)
    simp[World.cell?,h6,Array.getD_eq_getD_getElem?,Array.getElem?_eq_getElem aj]
  ·cases h
 ·cases h
theorem sW {C:Ctx}{env:Nat→GV}{get:Nat→Option ak}{a:Act}{w:World}{ρ:Nat→Option Value}{D D':Nat→Prop}{s:ae}(hR:Rel C env get a w ρ D)(hD:∀k,D k→D' k):∀{ts:List TV} {rs:List RT} {bs:List Nat},s.nn ts=some (rs,bs)→
  (∀b∈bs,get b=s.get b)→(∀b∈bs,∀g,bI (ρ b)=some g→D' g)→rs.length=ts.length∧∀(i:Nat) (t:TV) (r:RT),ts[i]?=some t→rs[i]?=some r→∀v,cn ρ w D v t→cE w D' v r
 |[],_,_,h,_,_=>by cases h;exact⟨rfl,fun i t r ht=>by simp at ht⟩
 |t::ts,rs,bs,h,hg,hb=>by
  unfold ae.nn at h;split at h
  ·rename_i r0 b0 h1
   split at h
   ·rename_i rs' b1 h2
    cases h;obtain⟨Dc,ye⟩:=sW hR hD h2 (fun b cB=>hg b (List.mem_append_right _ cB)) fun b cB=>hb b (List.mem_append_right _ cB)
    refine⟨by simp[Dc],fun i t' r' ht hr v hv=>?_⟩
    cases i with
    |zero=>
     simp only[List.getElem?_cons_zero,Option.some.injEq]at ht hr;subst ht;subst hr;exact Cg hR h1 (fun b cB=>hg b (List.mem_append_left _ cB)) hD (fun b cB=>hb b (List.mem_append_left _ cB)) hv
    |succ i=>
     simp only[List.getElem?_cons_succ]at ht hr;exact ye i t' r' ht hr v hv
   ·cases h
  ·cases h
end Go.Proofs.YtlhohdjniaebbaaGreat.T
namespace Go.Proofs.YtlhohdjniaebbaaGreat.T
open Go Go.RowKit
theorem dT.act {P:Program}{E:List PanicEntry→World→Prop}{nt:Nat}{o:Oper}{fr:List (Nat×Option ak)}{ins:List (Nat×GV)}{gv:GV}{Δ:List (Nat×ak)}(hd:bF o nt=true)
  (h:∀C env get a w ρ D,(∀x∈fr,get x.1=x.2)→(∀x∈ins,env x.1=x.2)→Rel C env get a w ρ D→∃v w' ρ' D',(execOp a.eval o).run P w= .ok (.value v) w'∧Rel C env (upd get Δ) a w' ρ' D'∧bg ρ' w' D' v gv):dT P E nt o fr ins gv Δ:=by
 intro C env get a w K Q hn hf hi hR hK hE;obtain⟨ρ,D,hR⟩:=hR;obtain⟨v,w',ρ',D',hv,oH,hg⟩:=h C env get a w ρ D hf hi hR;unfold Oper.wp;rw[hv,Oper.upon_value];refine hK _ _ ⟨ρ',D',oH.put (fun d e=>?_) hg⟩
 unfold bF at hd;rw[e]at hd;simpa[hn]using hd
theorem dT.skip {P:Program}{E:List PanicEntry→World→Prop}{nt:Nat}{o:Oper}{fr:List (Nat×Option ak)}{ins:List (Nat×GV)}{Δ:List (Nat×ak)}(hd:bF o nt=true)
  (h:∀C env get a w ρ D,(∀x∈fr,get x.1=x.2)→(∀x∈ins,env x.1=x.2)→Rel C env get a w ρ D→∃w' ρ' D',(execOp a.eval o).run P w= .ok .skip w'∧Rel C env (upd get Δ) a w' ρ' D'):dT P E nt o fr ins .u Δ:=by
 intro C env get a w K Q hn hf hi hR hK hE;obtain⟨ρ,D,hR⟩:=hR;obtain⟨w',ρ',D',hv,oH⟩:=h C env get a w ρ D hf hi hR;unfold Oper.wp;rw[hv,Oper.upon_skip];refine hK _ _ ⟨ρ',D',oH.put (fun d e=>?_) .u⟩
 unfold bF at hd;rw[e]at hd;simpa[hn]using hd
def cU {α:Type}(cs:List α)(off:Nat)(ys:List α):List α:=cs.take off++ys++cs.drop (off+ys.length)
theorem mR {α:Type}{cs ys:List α}{off:Nat}(h:off+ys.length≤cs.length)(i:Nat):(cU cs off ys)[i]?=if off≤i∧i<off+ys.length then ys[i-off]? else cs[i]?:=by
 unfold cU;rw[List.append_assoc,List.getElem?_append];simp only[List.length_take];rw[Nat.min_eq_left (by omega)]
 by_cases h1:i<off
 ·rw[if_pos h1,if_neg (by omega),List.getElem?_take,if_pos h1]
 ·rw[if_neg h1,List.getElem?_append]
  by_cases h2:i<off+ys.length
  ·rw[if_pos (by omega),if_pos ⟨by omega,h2⟩]
  ·rw[if_neg (by omega),if_neg (by omega),List.getElem?_drop]
   congr 1;omega
theorem jq {α:Type}{cs ys:List α}{off:Nat}(h:off+ys.length≤cs.length):(cU cs off ys).length=cs.length:=by
 simp only[cU,List.length_append,List.length_take,List.length_drop];omega
theorem UU (vs:Array Value)(off:Nat)(cells:Array Value):∀(n:Nat),n≤vs.size→∀l,l=(vs.zipIdx.toList.take n)→(l.foldl (fun cs (x:Value×Nat)=>cs.setIfInBounds (off+x.2) x.1) cells).size=cells.size∧
  ∀i,(l.foldl (fun cs (x:Value×Nat)=>cs.setIfInBounds (off+x.2) x.1) cells)[i]?=if off≤i∧i<off+n∧i<cells.size then vs[i-off]? else cells[i]?:=by
 intro n;induction n with
 |zero=>
  intro _ l hl;subst hl;refine⟨rfl,fun i=>?_⟩
  rw[if_neg (by omega)]
  rfl
 |succ n ih=>
  intro hn l hl;subst hl;have e:vs.zipIdx.toList.take (n+1)=vs.zipIdx.toList.take n++[(vs[n],n)]:=by
   rw[List.take_add_one];congr 1
   simp[Array.getElem?_zipIdx,show n<vs.size by omega]
  obtain⟨h1,h2⟩:=ih (by omega) _ rfl
  rw[e,List.foldl_append];simp only[List.foldl_cons,List.foldl_nil];refine⟨by rw[Array.size_setIfInBounds,h1],fun i=>?_⟩
  rw[Array.getElem?_setIfInBounds,h2,h1];by_cases e2:off+n=i
  ·subst e2
   simp only[if_true];by_cases h3:off+n<cells.size
   ·rw[if_pos h3,if_pos ⟨by omega,by omega,h3⟩,Nat.add_sub_cancel_left]
    simp
   ·rw[if_neg h3,if_neg (by omega),Array.getElem?_eq_none (by omega)]
  ·rw[if_neg e2]
   by_cases h4:off≤i∧i<off+n∧i<cells.size
   ·rw[if_pos h4,if_pos (by omega)]
   ·rw[if_neg h4,if_neg (by omega)]
theorem uz (vs:Array Value)(off:Nat)(cells:Array Value):(vs.zipIdx.foldl (fun cs (x:Value×Nat)=>cs.setIfInBounds (off+x.2) x.1) cells).size=cells.size∧
  ∀i,(vs.zipIdx.foldl (fun cs (x:Value×Nat)=>cs.setIfInBounds (off+x.2) x.1) cells)[i]?=if off≤i∧i<off+vs.size∧i<cells.size then vs[i-off]? else cells[i]?:=by
 have:=UU vs off cells vs.size (Nat.le_refl _) _ rfl
 rw[show vs.zipIdx.toList.take vs.size=vs.zipIdx.toList from List.take_of_length_le (by simp),Array.foldl_toList]at this
 exact this
def fV (ρ:Nat→Option Value)(w:World)(D:Nat→Prop)(arr:Array Value)(cs:List TV):Prop:=arr.size=cs.length∧∀(i:Nat) (t:TV),cs[i]?=some t→cn ρ w D (arr.getD i undef) t
theorem fV.cU {ρ:Nat→Option Value}{w:World}{D:Nat→Prop}{arr vs:Array Value}{cs ys:List TV}{off:Nat}(h:fV ρ w D arr cs)(hv:fV ρ w D vs ys)(hl:off+ys.length≤cs.length){arr':Array Value}(hs:arr'.size=arr.size)
  (hg:∀i,arr'[i]?=if off≤i∧i<off+vs.size∧i<arr.size then vs[i-off]? else arr[i]?):fV ρ w D arr' (cU cs off ys):=by
 refine⟨by rw[hs,h.1,jq hl],fun i t ht=>?_⟩
 rw[mR hl]at ht;simp only[Array.getD_eq_getD_getElem?,hg];split at ht
 ·rename_i hc
  have:=hv.2 _ _ ht
  rw[if_pos ⟨hc.1,by rw[hv.1];exact hc.2,by rw[h.1];omega⟩]
  simpa[Array.getD_eq_getD_getElem?]using this
 ·rename_i hc
  have:=h.2 _ _ ht
  rw[if_neg (by rw[hv.1];omega)]
  simpa[Array.getD_eq_getD_getElem?]using this
def oI (place:Nat→Option (Nat×Nat)):List TV→List (Nat×GV)→Option (List TV)
 |cs,[]=>some cs
 |cs,(i,g)::rest=>match place i with
  |some (off,size)=>match g.cells? with
   |some ys=>if ys.length=size∧off+size≤cs.length then oI place (cU cs off ys) rest else none
   |none=>none
  |none=>none
theorem Ch {ρ:Nat→Option Value}{w:World}{D:Nat→Prop}{place:Nat→Option (Nat×Nat)}:∀{parts:List (Nat×GV)} {vs:List (Nat×Value)} {arr:Array Value} {cs bZ:List TV},fV ρ w D arr cs→oI place cs parts=some bZ→
  vs.length=parts.length→(∀(i:Nat) (x:Nat×GV) (y:Nat×Value),parts[i]?=some x→vs[i]?=some y→x.1=y.1∧bg ρ w D y.2 x.2)→∃arr',Instr.fill place arr vs=some arr'∧fV ρ w D arr' bZ
 |[],vs,arr,cs,bZ,hc,h,hl,_=>by
  cases h;obtain rfl:vs=[]:=List.eq_nil_of_length_eq_zero hl
  exact⟨arr,rfl,hc⟩
 |(i,g)::rest,[],arr,cs,bZ,hc,h,hl,hp=>by cases hl
 |(i,g)::rest,(j,v)::vs,arr,cs,bZ,hc,h,hl,hp=>by
  unfold oI at h;obtain⟨e0,hg⟩:=hp 0 _ _ rfl rfl;simp only at e0
  subst e0;split at h
  ·rename_i off size uA
   split at h
   ·rename_i ys Z'
    split at h
    ·rename_i aaa
     obtain⟨c1,c2⟩:=aaa;have hv:=ky Z' hg;obtain⟨f1,f2⟩:=uz v.cells off arr;have hs:=hc.cU (off:=off) (show fV ρ w D v.cells ys from hv) (by omega) f1 f2
     obtain⟨arr',r1,r2⟩:=Ch (vs:=vs) hs h (by simpa using hl) fun k x y hx hy=>hp (k+1) x y (by simpa using hx) (by simpa using hy)
     refine⟨arr',?_,r2⟩;rw[Instr.fill,uA];simp only
     rw[if_neg (by have h1:=hc.1;have h2:=hv.1;simp only[ne_eq,Bool.or_eq_true,decide_eq_true_eq,not_or,Decidable.not_not,gt_iff_lt,Nat.not_lt];exact⟨by rw[h2,c1],by rw[h1,h2];omega⟩)]
     exact r1
    ·cases h
   ·cases h
  ·cases h
theorem fV.zero {ρ:Nat→Option Value}{w:World}{D:Nat→Prop}{z:List Value}(h:∀x∈z,x.oneCell'=true):fV ρ w D z.toArray (z.map fun x=> .r (im x)):=by
 refine⟨by simp,fun i t ht=>?_⟩
 rw[List.getElem?_map,Option.map_eq_some_iff]at ht;obtain⟨x,hx,rfl⟩:=ht;simp only[Array.getD_eq_getD_getElem?,List.getElem?_toArray,hx,Option.getD_some];exact .r (qJ (h x (List.mem_of_getElem? hx)))
theorem fV.keep {ρ ρ':Nat→Option Value}{w w':World}{D D':Nat→Prop}(dk:∀b x,ρ b=some x→ρ' b=some x)(hk:cj D w w')(hD:∀b,D b→D' b){arr:Array Value}{cs:List TV}(h:fV ρ w D arr cs):fV ρ' w' D' arr cs:=
 ⟨h.1,fun i t ht=>(h.2 i t ht).keep dk hk hD⟩
theorem Ci {ρ:Nat→Option Value}{w:World}{D:Nat→Prop}{g:Nat}{arr:Array Value}{ty:TypeId}{cs:List TV}(hg:w.heap[g]?=some (.cells arr ty (0,0)))(h:fV ρ w D arr cs):dr ρ w D (some (.pointer (some ⟨g,0,none⟩))) (.box cs):=⟨g,arr,ty,rfl,hg,h.1,h.2⟩
theorem zn (w:World)(o:Obj):(w.alloc o).heap[w.heap.size]?=some o:=heap_alloc_new w o
theorem alloc_old (w:World)(o:Obj){k:Nat}(h:k<w.heap.size):(w.alloc o).heap[k]?=w.heap[k]?:=Below.heap_alloc w o k h
theorem wR (w:World)(o:Obj):w.heap.size≤(w.alloc o).heap.size:=by simp
section
variable {P:Program}{E:List PanicEntry→World→Prop}{nt:Nat}{o:Oper}{s:ae}
theorem wS (w:World)(t:TypeId)(v:Value):(newVar t v).run P w= .ok ⟨w.heap.size,0,none⟩ (w.alloc (.cells v.cells t)):=by simp[newVar,newRow]
theorem oJ {t:TypeId}{d:TD}(h:aE P t=some d)(w:World):∃z,(zeroValue t).run P w= .ok z w∧z.cells.toList=d.zero:=by
 obtain⟨i,u,z,h1,_,h3,_,_,h6,_⟩:=eF h;exact⟨z,by simp[zeroValue,typeInfo,h1,h3],h6⟩
theorem N7 {C:Ctx}{env:Nat→GV}{get:Nat→Option ak}{a:Act}{w:World}{ρ:Nat→Option Value}{D:Nat→Prop}(hR:Rel C env get a w ρ D){b:Nat}(hb:get b=none){arr:Array Value}{cs:List TV}(t:TypeId)(hc:fV ρ w D arr cs):
  ∃ρ',Rel C env (upd get [(b,.box cs)]) a (w.alloc (.cells arr t)) ρ' D∧bg ρ' (w.alloc (.cells arr t)) D (.pointer (some ⟨w.heap.size,0,none⟩)) (.s (.ptr b 0)):=by
 have dk:∀c x,ρ c=some x→(fun c=>if c=b then some (Value.pointer (some ⟨w.heap.size,0,none⟩))else ρ c) c=some x:=fun c x hc=>by
  have:c≠b:=by rintro rfl;rw[hR.free _ hb]at hc;cases hc
  simp[this,hc]
 refine⟨_,hR.alloc (x':= .pointer (some ⟨w.heap.size,0,none⟩)) hb rfl rfl rfl (wR _ _) (fun k hk=>alloc_old _ _ hk) (fun g hg=>?_) (Ci (zn _ _) (hc.keep dk (fun k hd=>alloc_old _ _ (hR.ro k hd).1) fun _ h=>h)),?_⟩
 ·injection hg with hg
  simp at hg;omega
 ·exact .s (.ptr (by simp))
theorem Q_ {t b:Nat}(ho:o.op= .alloc t)(hd:bF o nt=true){d:TD}(ht:aE P t=some d):dT P E nt o [(b,none)] [] (.s (.ptr b 0)) [(b,.box (d.zero.map fun x=> .r (im x)))]:=by
 refine .act hd fun C env get a w ρ D hf hi hR=>?_;obtain⟨z,hz,Eu⟩:=oJ ht w;obtain⟨ρ',h1,h2⟩:=N7 hR (hf _ (List.mem_cons_self ..)) t (fV.zero (cz ht).2.2.1);rw[←Eu,Array.toArray_toList]at h1 h2;rw[←Eu];exact⟨_,_,ρ',D,by simp[execOp,ho,Instr.alloc,hz,wS],h1,h2⟩
theorem Xx {t b:Nat}{x:Operand}(ho:o.op= .box t x)(hd:bF o nt=true){cs:List TV}(hc:(s.ev x).cells?=some cs):dT P E nt o [(b,none)] (bE s.env [x]) (.s (.ptr b 0)) [(b,.box cs)]:=by
 refine .act hd fun C env get a w ρ D hf hi hR=>?_;have hr:=bc hR hi (x:=x) (by simp)
 obtain⟨ρ',h1,h2⟩:=N7 hR (hf _ (List.mem_cons_self ..)) t (show fV ρ w D _ cs from ky hc hr)
 exact⟨_,_,ρ',D,by simp[execOp,ho,Instr.box,wS],h1,h2⟩
def placeOf (T:TypeId→Option TD):TK→Nat→Option (Nat×Nat)
 | .struct fs,i=>match fs[i]? with
   |some (o,t)=>(T t).map fun d=>(o,d.size)
   |none=>none
 | .array _ e,i=>(T e).map fun d=>(i*d.size,d.size)
 |_,_=>none
def TK.Cj:TK→List TypeId
 | .struct fs=>fs.map (·.2)
 | .array _ e=>[e]
 |_=>[]
def lV (s:ae)(ps:List (Nat×Operand)):List (Nat×GV):=ps.map fun x=>(x.1,s.ev x.2)
theorem wU {p q:Nat→Option (Nat×Nat)}:∀(vs:List (Nat×Value)) (c:Array Value),(∀x∈vs,p x.1=q x.1)→Instr.fill p c vs=Instr.fill q c vs
 |[],c,_=>rfl
 |(i,v)::vs,c,h=>by
  have h0:p i=q i:=h (i,v) (List.mem_cons_self ..)
  have ih:∀c,Instr.fill p c vs=Instr.fill q c vs:=fun c=>wU vs c fun x hx=>h x (List.mem_cons_of_mem _ hx)
  simp only[Instr.fill,h0,ih]
theorem uB {p:Nat→Option (Nat×Nat)}:∀{ps:List (Nat×GV)} {c c':List TV},oI p c ps=some c'→∀x∈ps,∃y,p x.1=some y
 |[],_,_,_,x,hx=>by cases hx
 |(i,g)::ps,c,c',h,x,hx=>by
  unfold oI at h;split at h
  ·rename_i uA
   split at h
   ·split at h
    ·rcases List.mem_cons.1 hx with rfl|hx
     ·exact⟨_,uA⟩
     ·exact uB h x hx
    ·cases h
   ·cases h
  ·cases h
theorem Ck {α β:Type}(f:α→Sem β)(g:α→β)(w:World):∀(l:List α),(∀x∈l,(f x).run P w= .ok (g x) w)→(l.mapM f).run P w= .ok (l.map g) w
 |[],_=>by simp
 |x::l,h=>by
  simp[List.mapM_cons,h x (List.mem_cons_self ..),Ck f g w l fun y hy=>h y (List.mem_cons_of_mem _ hy)]
theorem Ra {t:Nat}{ps:Array (Nat×Operand)}(ho:o.op= .build t ps)(hd:bF o nt=true){d:TD}(ht:aE P t=some d)(cS:d.k.Cj.all (fun t=>(aE P t).isSome)=true)
  {cs:List TV} (hc:oI (placeOf (aE P) d.k) (d.zero.map fun x=> .r (im x)) (lV s ps.toList)=some cs) (oG:d.k.agg=true):dT P E nt o [] (bE s.env (ps.toList.map (·.2))) (.a cs) []:=by
 refine .still hd fun C env get a w ρ D hf hi hR=>?_;obtain⟨z,hz,Eu⟩:=oJ ht w;have Ev:fV ρ w D z.cells (d.zero.map fun x=> .r (im x)):=by
  have:=fV.zero (ρ:=ρ) (w:=w) (D:=D) (cz ht).2.2.1
  rwa[←Eu,Array.toArray_toList,Eu]at this
 have zo:∀(i:Nat) (x:Nat×GV) (y:Nat×Value),(lV s ps.toList)[i]?=some x→(ps.toList.map fun x=>(x.1,a.eval x.2))[i]?=some y→x.1=y.1∧bg ρ w D y.2 x.2:=by
  intro i x y hx hy;simp only[lV,List.getElem?_map,Option.map_eq_some_iff]at hx hy;obtain⟨x',h1,rfl⟩:=hx;obtain⟨y',h2,rfl⟩:=hy;rw[h1]at h2;cases h2;exact⟨rfl,bc hR hi (List.mem_map.2 ⟨x',List.mem_of_getElem? h1,rfl⟩)⟩
 obtain⟨arr',r1,r2⟩:=Ch Ev hc (by simp[lV]) zo
 refine⟨.agg arr',?_,.a r2.1 r2.2⟩;have hm:(ps.map fun x=>(x.1,a.eval x.2)).toList=ps.toList.map fun x=>(x.1,a.eval x.2):=by simp
 cases hk:d.k with
 |sc=>rw[hk]at oG;cases oG
 |slice e=>rw[hk]at oG;cases oG
 |array n e=>
  have hu:=vN ht hk;rw[hk]at r1 hc;obtain⟨de,lp⟩:∃de,aE P e=some de:=by
   rw[hk]at cS;simp only[TK.Cj,List.all_cons,List.all_nil,Bool.and_true]at cS;exact Option.isSome_iff_exists.1 cS
  have hp:(fun i=>some (i*de.size,de.size))=placeOf (aE P) (.array n e):=by funext i;simp[placeOf,lp]
  rw[←hp]at r1;simp[execOp,ho,Instr.build,hz,run_underlying hu,oE lp,r1]
 |struct fs=>
  obtain⟨gs,u1,u2⟩:=zj ht hk;rw[hk]at r1 hc;have jj:∀f∈gs.toList,∃d',aE P f.type=some d':=fun f hf=>by
   rw[hk]at cS;simp only[TK.Cj,List.all_eq_true,List.mem_map,forall_exists_index,and_imp]at cS;exact Option.isSome_iff_exists.1 (cS f.type (f.offset,f.type) (by rw[←u2];exact List.mem_map.2 ⟨f,hf,rfl⟩) rfl)
  have hmm:(gs.mapM fun f=>Functor.map (Prod.mk f.offset) (sizeOf f.type)).run P w= .ok (gs.map fun f=>(f.offset,((aE P f.type).map TD.size).getD 0)) w:=by
   rw[Array.mapM_eq_mapM_toList];have:=Ck (P:=P) (fun f:Field=>Functor.map (Prod.mk f.offset) (sizeOf f.type)) (fun f=>(f.offset,((aE P f.type).map TD.size).getD 0)) w gs.toList (fun f hf=>by
    obtain⟨d',xA⟩:=jj f hf;simp[oE xA,xA])
   rw[Sem.run_map,this,Result.andThen_ok];congr 1
   rw[←List.map_toArray]
  have hp:Instr.fill (fun i=>(gs[i]?).map fun f=>(f.offset,((aE P f.type).map TD.size).getD 0)) z.cells (ps.toList.map fun x=>(x.1,a.eval x.2))=some arr':=by
   rw[wU (q:=placeOf (aE P) (.struct fs)) _ _ (fun x hx=>?_)]
   ·exact r1
   ·obtain⟨y,hy,rfl⟩:=List.mem_map.1 hx
    obtain⟨y0,FQ⟩:=uB hc (y.1,s.ev y.2) (List.mem_map.2 ⟨y,hy,rfl⟩);simp only at FQ⊢
    rw[FQ];simp only[placeOf,←u2,List.getElem?_map]at FQ
    cases pD:gs[y.1]? with
    |none=>simp[pD]at FQ
    |some f=>
     simp only[Array.getElem?_toList,pD,Option.map_some]at FQ;obtain⟨d',xA,rfl⟩:=Option.map_eq_some_iff.1 FQ;simp[pD,xA]
  simp[execOp,ho,Instr.build,hz,run_underlying u1,hmm];rw[hp];rfl
end
end Go.Proofs.YtlhohdjniaebbaaGreat.T
namespace Go.Proofs.YtlhohdjniaebbaaGreat.T
open Go Go.RowKit
theorem oK {i i' k j:Nat}(h:i'<i)(hj:j<k):i'*k+j<i*k:=by
 calc i'*k+j<i'*k+k:=by omega
  _=(i'+1)*k:=by rw[Nat.add_mul,Nat.one_mul]
  _≤i*k:=Nat.mul_le_mul_right k h
theorem uC {l:List Value}{i:Nat}:l.toArray[i]?=l[i]?:=by simp
section
variable {P:Program}{E:List PanicEntry→World→Prop}{nt:Nat}{o:Oper}{s:ae}
theorem nT {t:TypeId}{d:TD}(ht:aE P t=some d){w:World}{g off:Nat}{arr:Array Value}{ty:TypeId}(hg:w.heap[g]?=some (.cells arr ty (0,0))){v:Value}(hv:v.cells.size=d.size)(hl:off+d.size≤arr.size)(h1:∀x∈v.cells.toList,x.oneCell'=true):
  (storeVar t ⟨g,off,none⟩ v).run P w= .ok () (w.setRow g (cU arr.toList off v.cells.toList).toArray):=by
 have:=run_storeCells_at P g off ty v.cells.toList 0 arr w hg (by simp only[Array.length_toList];omega) h1
 simp only[storeVar,Sem.run_bind,oE ht,Result.andThen_ok,hv,ne_eq,not_true,if_false];rw[this];simp[cU]
theorem vP {ρ:Nat→Option Value}{w:World}{D:Nat→Prop}{arr:Array Value}{cs:List TV}(h:fV ρ w D arr cs):∀x∈arr.toList,x.oneCell'=true:=by
 intro x hx;obtain⟨i,hi,rfl⟩:=List.getElem_of_mem hx;have dQ:i<arr.size:=by simpa using hi
 have W6:i<cs.length:=by have:=h.1;omega
 have:=h.2 i cs[i] (List.getElem?_eq_getElem W6)
 simp only[Array.getD_eq_getD_getElem?,Array.getElem?_eq_getElem dQ,Option.getD_some]at this;simpa using this.one
theorem rQ {w:World}{g:Nat}{cs:Array Value}{x:Option Value}(hx:bI x=some g):∀k,k<w.heap.size→bI x≠some k→(w.setRow g cs).heap[k]?=w.heap[k]?:=
 fun k _ hk=>setRow_other w g k cs fun e=>hk (by rw[e];exact hx)
theorem Ew {t:TypeId}{ax vx:Operand}(ho:o.op= .store t ax vx)(hd:bF o nt=true){d:TD}(ht:aE P t=some d){b off:Nat}{cs:List TV}(ha:s.ev ax= .s (.ptr b off))(hb:s.get b=some (.box cs)){ys:List TV}(hy:(s.ev vx).cells?=some ys)
  (h1:ys.length=d.size) (h2:off+ys.length≤cs.length):dT P E nt o [(b,some (.box cs))] (bE s.env [ax,vx]) .u [(b,.box (cU cs off ys))]:=by
 refine .skip hd fun C env get a w ρ D hf hi hR=>?_;have uy:=hf _ (List.mem_cons_self ..);obtain⟨g,arr,ty,e1,h3,h4,h5⟩:=hR.blk b _ uy;have hr:=bc hR hi (x:=ax) (by simp)
 have hv:fV ρ w D _ ys:=ky hy (bc hR hi (x:=vx) (by simp))
 rw[ha]at hr;generalize hav:a.eval ax=av at hr
 cases hr with|s hr=>cases hr with|ptr hr=>
 rw[e1]at hr
 cases hr;have cC:=nT ht h3 (v:=a.eval vx) (off:=off) (by rw[hv.1,h1]) (by omega) (vP hv)
 refine⟨w.setRow g (cU arr.toList off (a.eval vx).cells.toList).toArray,ρ,D,by simp[execOp,ho,Instr.storeAt,hav,Instr.sureAddr,cC],hR.change uy rfl (setRow_os _ _ _) (setRow_tape _ _ _) (setRow_output _ _ _) (by rw[setRow_size];exact Nat.le_refl _) (rQ (by rw[e1];rfl)) ?_⟩
 rw[e1];refine Ci (setRow_heap w g arr _ ty _ h3) ?_;have hK:cj D w (w.setRow g (cU arr.toList off (a.eval vx).cells.toList).toArray):=fun k oL=>setRow_other _ _ _ _ fun e=>(hR.own b _ g uy rfl (by rw[e1];rfl)).1 (e▸oL)
 have hc:fV ρ w D arr cs:=⟨h4,h5⟩
 refine(hc.cU hv h2 (arr':=(cU arr.toList off (a.eval vx).cells.toList).toArray) ?_ fun i=>?_).keep (fun _ _ h=>h) hK fun _ h=>h
 ·have:=hv.1
  rw[List.size_toArray,jq (by simp only[Array.length_toList];omega)];simp
 ·have:=hv.1
  rw[uC,mR (by simp only[Array.length_toList];omega)]
  simp only[Array.length_toList,Array.getElem?_toList];by_cases hc:off≤i∧i<off+(a.eval vx).cells.size
  ·rw[if_pos hc,if_pos ⟨hc.1,hc.2,by omega⟩]
  ·rw[if_neg hc,if_neg fun h=>hc ⟨h.1,h.2.1⟩]
theorem Ex {t:TypeId}{ax vx:Operand}(ho:o.op= .store t ax vx)(hd:bF o nt=true){d:TD}(ht:aE P t=some d){b k i off e:Nat}{xs:List (List RT)}(ha:s.ev ax= .s (.row b k i off))(hb:s.get b=some (.rows e k xs)){ys:List TV}(hy:(s.ev vx).cells?=some ys)
  {y:List RT} (hxi:xs[i]?=some y) (h1:ys.length=d.size) (h2:off+ys.length≤y.length) {rs:List RT} {bs:List Nat} (zh:s.nn ys=some (rs,bs)) (sH:b∉bs):
  dT P E nt o ((b,some (.rows e k xs))::bs.map fun c=>(c,s.get c)) (bE s.env [ax,vx]) .u ((b,.rows e k (xs.set i (cU y off rs)))::bs.map fun c=>(c,.dead)):=by
 refine .skip hd fun C env get a w ρ D hf hi uD=>?_;have abm:=hf _ (List.mem_cons_self ..);have bW:∀c∈bs,get c=s.get c:=fun c hc=>hf (c,s.get c) (List.mem_cons_of_mem _ (List.mem_map.2 ⟨c,hc,rfl⟩))
 obtain⟨D',hR,IY,lT⟩:=uD.consume bs fun c hc=>by
  obtain⟨e,k,xs,h⟩:=mQ zh c hc;exact⟨_,(bW c hc).trans h,rfl⟩
 have uy:upd get (bs.map fun c=>(c,ak.dead)) b=some (.rows e k xs):=by
  have:gt b (bs.map fun c=>(c,ak.dead))=none:=by
   clear bW zh lT hR hf;induction bs with
   |nil=>rfl
   |cons c bs ih=>
    simp only[List.mem_cons,not_or]at sH;simp only[List.map_cons,gt,if_neg sH.1];exact ih sH.2
  simp only[upd,this];exact abm
 obtain⟨A,c,e1,q1,q2,q3,q4,q5⟩:=hR.blk b _ uy;have hr:=bc uD hi (x:=ax) (by simp)
 have hv:fV ρ w D _ ys:=ky hy (bc uD hi (x:=vx) (by simp))
 obtain⟨t1,t2⟩:=sW uD IY zh bW lT;rw[ha]at hr;generalize hav:a.eval ax=av at hr
 cases hr with|s hr=>cases hr with| @row _ _ _ _ g n' c' hr=>
 have hii:i<xs.length:=(List.getElem?_eq_some_iff.1 hxi).1
 rcases q5 with⟨_,rfl,_⟩|⟨g',arr,rfl,q6,q7,q8⟩
 ·simp at hii
 rw[e1]at hr
 cases hr;have hyk:y.length=k:=q4 i y hxi
 have hfit:i*k+off+d.size≤arr.size:=by
  rw[q7]
  calc i*k+off+d.size≤i*k+k:=by omega
   _=(i+1)*k:=by rw[Nat.add_mul,Nat.one_mul]
   _≤c*k:=Nat.mul_le_mul_right k (by omega)
 have xG:=hv.1;have cC:=nT ht q6 (v:=a.eval vx) (off:=i*k+off) (by rw[hv.1,h1]) hfit (vP hv)
 refine⟨w.setRow g (cU arr.toList (i*k+off) (a.eval vx).cells.toList).toArray,ρ,D',by simp[execOp,ho,Instr.storeAt,hav,Instr.sureAddr,cC],?_⟩
 rw[Cf];refine hR.change uy rfl (setRow_os _ _ _) (setRow_tape _ _ _) (setRow_output _ _ _) (by rw[setRow_size];exact Nat.le_refl _) (rQ (by rw[e1];rfl)) ?_
 have hK:cj D' w (w.setRow g (cU arr.toList (i*k+off) (a.eval vx).cells.toList).toArray):=fun m oL=>setRow_other _ _ _ _ fun e'=>(hR.own b _ g uy rfl (by rw[e1];rfl)).1 (e'▸oL)
 rw[e1];refine⟨_,c,by rw[List.length_set],by rw[List.length_set];exact q1,q2,q3,fun i' y' dq=>?_,.inr ⟨g,_,rfl,setRow_heap w g arr _ e _ q6,?_,fun i' y' dq j r hj=>?_⟩⟩
 ·rw[List.getElem?_set,if_pos hii]at dq
  split at dq
  ·cases dq
   rw[jq (by omega)]
   exact hyk
  ·exact q4 i' y' dq
 ·rw[List.size_toArray,jq (by simp only[Array.length_toList];omega)]
  simpa using q7
 ·simp only[Array.getD_eq_getD_getElem?,uC]
  rw[mR (by simp only[Array.length_toList];omega)]
  simp only[Array.length_toList,Array.getElem?_toList];rw[List.getElem?_set,if_pos hii]at dq;split at dq
  ·rename_i ei
   subst ei
   cases dq;rw[mR (by omega)]at hj
   split at hj
   ·rename_i hc
    rw[if_pos (by omega)]
    have aj:j-off<ys.length:=by omega
    have:=t2 (j-off) ys[j-off] r (List.getElem?_eq_getElem aj) hj _ (hv.2 _ _ (List.getElem?_eq_getElem aj))
    rw[show i*k+j-(i*k+off)=j-off by omega]
    simpa[Array.getD_eq_getD_getElem?]using this.keep hK fun _ h=>h
   ·rename_i hc
    rw[if_neg (by omega)]
    have:=q8 i y hxi j r hj
    simpa[Array.getD_eq_getD_getElem?]using this.keep hK fun _ h=>h
  ·rename_i ei
   have zp:j<k:=by rw[←q4 i' y' dq];exact(List.getElem?_eq_some_iff.1 hj).1
   rw[if_neg (fun hc=>by
    rcases Nat.lt_or_ge i' i with aj|AN
    ·have:=oK aj zp;omega
    ·have:=oK (i:=i') (i':=i) (j:=off+ys.length-1) (k:=k) (by omega) (by omega);omega)]
   have:=q8 i' y' dq j r hj
   simpa[Array.getD_eq_getD_getElem?]using this.keep hK fun _ h=>h
def oM (s:ae)(k:Nat):Nat→List (Nat×Operand)→Option (List (List RT)×List Nat)
 |_,[]=>some ([],[])
 |i,(j,x)::ps=>if j=i then match(s.ev x).cells? with
  |some ts=>if ts.length=k then match s.nn ts with
   |some (r,bs)=>match oM s k (i+1) ps with
    |some (rs,cs)=>some (r::rs,bs++cs)
    |none=>none
   |none=>none
   else none
  |none=>none
  else none
theorem mT {s:ae}{k:Nat}:∀{ps:List (Nat×Operand)} {i:Nat} {xs:List (List RT)} {bs:List Nat},oM s k i ps=some (xs,bs)→∀b∈bs,∃e k xs,s.get b=some (.rows e k xs)
 |[],_,_,_,h=>by cases h;intro b hb;cases hb
 |(j,x)::ps,i,xs,bs,h=>by
  unfold oM at h;split at h
  ·split at h
   ·split at h
    ·split at h
     ·rename_i h1
      split at h
      ·rename_i h2
       cases h;intro b hb;rcases List.mem_append.1 hb with hb|hb
       ·exact mQ h1 b hb
       ·exact mT h2 b hb
      ·cases h
     ·cases h
    ·cases h
   ·cases h
  ·cases h
theorem zq {C:Ctx}{env:Nat→GV}{get:Nat→Option ak}{a:Act}{w:World}{ρ:Nat→Option Value}{D D':Nat→Prop}(hR:Rel C env get a w ρ D)(hD:∀k,D k→D' k){all:List Operand}(hi:∀x∈bE s.env all,env x.1=x.2){k:Nat}:
  ∀{ps:List (Nat×Operand)} {i:Nat} {xs:List (List RT)} {bs:List Nat},oM s k i ps=some (xs,bs)→(∀x∈ps,x.2∈all)→(∀b∈bs,get b=s.get b)→(∀b∈bs,∀g,bI (ρ b)=some g→D' g)→
  xs.length=ps.length∧∀(p:Nat) (x:Nat×Operand),ps[p]?=some x→x.1=i+p∧(a.eval x.2).cells.size=k∧(∀v∈(a.eval x.2).cells.toList,v.oneCell'=true)∧∃y,xs[p]?=some y∧y.length=k∧∀(j:Nat) (r:RT),y[j]?=some r→cE w D' ((a.eval x.2).cells.getD j undef) r
 |[],_,_,_,h,_,_,_=>by cases h;exact⟨rfl,fun p x hx=>by simp at hx⟩
 |(j,x)::ps,i,xs,bs,h,cS,hg,hb=>by
  unfold oM at h;split at h
  ·rename_i Bp
   split at h
   ·rename_i ts YQ
    split at h
    ·rename_i hk
     split at h
     ·rename_i r b1 h1
      split at h
      ·rename_i rs' b2 h2
       cases h;obtain⟨Dc,ye⟩:=zq hR hD hi h2 (fun x hx=>cS x (List.mem_cons_of_mem _ hx)) (fun b cB=>hg b (List.mem_append_right _ cB)) fun b cB=>hb b (List.mem_append_right _ cB)
       have hc:fV ρ w D _ ts:=ky YQ (bc hR hi (cS (j,x) (List.mem_cons_self ..)))
       obtain⟨t1,t2⟩:=sW hR hD h1 (fun b cB=>hg b (List.mem_append_left _ cB)) fun b cB=>hb b (List.mem_append_left _ cB)
       refine⟨by simp[Dc],fun p z hz=>?_⟩
       cases p with
       |zero=>
        simp only[List.getElem?_cons_zero,Option.some.injEq]at hz;subst hz;refine⟨Bp,by rw[hc.1,hk],vP hc,r,rfl,by rw[t1,hk],fun q r' hq=>?_⟩
        have aj:q<ts.length:=by rw[←t1];exact(List.getElem?_eq_some_iff.1 hq).1
        exact t2 q ts[q] r' (List.getElem?_eq_getElem aj) hq _ (hc.2 _ _ (List.getElem?_eq_getElem aj))
       |succ p=>
        obtain⟨a1,a2,a3,y,a4,a5⟩:=ye p z (by simpa using hz)
        exact⟨by omega,a2,a3,y,by simpa using a4,a5⟩
      ·cases h
     ·cases h
    ·cases h
   ·cases h
  ·cases h
theorem zr {k:Nat}:∀(vs:List (Nat×Value)) (i0:Nat) (cells:Array Value),(∀(p:Nat) (x:Nat×Value),vs[p]?=some x→x.1=i0+p∧x.2.cells.size=k)→(i0+vs.length)*k≤cells.size→
  ∃c',Instr.fill (fun i=>some (i*k,k)) cells vs=some c'∧c'.size=cells.size∧(∀t,t<i0*k→c'[t]?=cells[t]?)∧∀(p:Nat) (x:Nat×Value),vs[p]?=some x→∀j,j<k→c'[(i0+p)*k+j]?=x.2.cells[j]?
 |[],i0,cells,_,_=>⟨cells,rfl,rfl,fun _ _=>rfl,fun p x hx=>by simp at hx⟩
 |(i,v)::vs,i0,cells,h,hl=>by
  obtain⟨e0,hk⟩:=h 0 _ rfl;simp only[Nat.add_zero]at e0 hk;subst e0;have dm:(i+1+vs.length)*k≤cells.size:=by simp only[List.length_cons]at hl;rw[show i+1+vs.length=i+(vs.length+1) by omega];exact hl
  have h1:(i+1)*k≤(i+1+vs.length)*k:=Nat.mul_le_mul_right k (by omega)
  have h2:(i+1)*k=i*k+k:=by rw[Nat.add_mul,Nat.one_mul]
  obtain⟨f1,f2⟩:=uz v.cells (i*k) cells;obtain⟨c',r1,r2,r3,r4⟩:=zr vs (i+1) _ (fun p x hx=>by
   obtain⟨a1,a2⟩:=h (p+1) x (by simpa using hx)
   exact⟨by omega,a2⟩) (by rw[f1];exact dm)
  refine⟨c',?_,by rw[r2,f1],fun t ht=>?_,fun p x hx j hj=>?_⟩
  ·rw[Instr.fill]
   simp only
   rw[if_neg (by simp only[ne_eq,Bool.or_eq_true,decide_eq_true_eq,not_or,Decidable.not_not,gt_iff_lt,Nat.not_lt];exact⟨hk,by omega⟩)]
   exact r1
  ·rw[r3 t (by omega),f2,if_neg (by omega)]
  ·cases p with
   |zero=>
    simp only[List.getElem?_cons_zero,Option.some.injEq]at hx;subst hx;rw[Nat.add_zero,r3 _ (by omega),f2,if_pos (by omega)]
    congr 1;omega
   |succ p=>
    have:=r4 p x (by simpa using hx) j hj
    rw[show i+(p+1)=i+1+p by omega]
    exact this
theorem IZ {C:Ctx}{env:Nat→GV}{get:Nat→Option ak}{a:Act}{w:World}{ρ:Nat→Option Value}{D:Nat→Prop}(hR:Rel C env get a w ρ D){b:Nat}(hb:get b=none){arr:Array Value}{e k c:Nat}{xs:List (List RT)}(hk:0<k)(hc:xs.length≤c)(hm:c≤maxLen)(hs:arr.size=c*k)
  (hx:∀(i:Nat) (y:List RT),xs[i]?=some y→y.length=k∧∀(j:Nat) (r:RT),y[j]?=some r→cE w D (arr.getD (i*k+j) undef) r):
  ∃ρ',Rel C env (upd get [(b,.rows e k xs)]) a (w.alloc (.cells arr e)) ρ' D∧bg ρ' (w.alloc (.cells arr e)) D (.slice (some ⟨w.heap.size,0,none⟩) xs.length c) (.s (.own b)):=by
 refine⟨_,hR.alloc (x':= .slice (some ⟨w.heap.size,0,none⟩) xs.length c) hb rfl rfl rfl (wR _ _) (fun k hk=>alloc_old _ _ hk) (fun g hg=>?_) ?_,?_⟩
 ·injection hg with hg
  simp at hg;omega
 ·exact⟨_,c,rfl,hc,hm,hk,fun i y hy=>(hx i y hy).1,.inr ⟨_,arr,rfl,zn _ _,hs,fun i y hy j r hj=>((hx i y hy).2 j r hj).keep (fun m hd=>alloc_old _ _ (hR.ro m hd).1) fun _ h=>h⟩⟩
 ·exact .s (.own (by simp))
theorem zt {t n b:Nat}{ps:Array (Nat×Operand)}(ho:o.op= .buildSlice t n ps)(hd:bF o nt=true){d de:TD}{e:TypeId}(ht:aE P t=some d)(hk:d.k= .slice e)(he:aE P e=some de)(h0:0<de.size)(hn:ps.toList.length=n)(SW:n*de.size≤16777216)
  {xs:List (List RT)} {bs:List Nat} (hx:oM s de.size 0 ps.toList=some (xs,bs)):
  dT P E nt o ((b,none)::bs.map fun c=>(c,s.get c)) (bE s.env (ps.toList.map (·.2))) (.s (.own b)) ((b,.rows e de.size xs)::bs.map fun c=>(c,.dead)):=by
 refine .act hd fun C env get a w ρ D hf hi uD=>?_;have SY:=hf _ (List.mem_cons_self ..);have bW:∀c∈bs,get c=s.get c:=fun c hc=>hf (c,s.get c) (List.mem_cons_of_mem _ (List.mem_map.2 ⟨c,hc,rfl⟩))
 obtain⟨D',hR,IY,lT⟩:=uD.consume bs fun c hc=>by
  obtain⟨e,k,xs,h⟩:=mT hx c hc;exact⟨_,(bW c hc).trans h,rfl⟩
 have uy:upd get (bs.map fun c=>(c,ak.dead)) b=none:=by
  have sH:b∉bs:=fun Dh=>by
   obtain⟨e,k,xs,h⟩:=mT hx b Dh;rw[←bW b Dh]at h;simp only at SY
   rw[SY]at h;cases h
  have:gt b (bs.map fun c=>(c,ak.dead))=none:=by
   clear bW hx lT hR hf;induction bs with
   |nil=>rfl
   |cons c bs ih=>
    simp only[List.mem_cons,not_or]at sH;simp only[List.map_cons,gt,if_neg sH.1];exact ih sH.2
  simp only[upd,this];exact SY
 obtain⟨r1,r2⟩:=zq uD IY hi hx (fun x hx=>List.mem_map.2 ⟨x,hx,rfl⟩) bW lT
 obtain⟨z,hz,Eu⟩:=oJ he w;have hu:=jW ht hk;have Xy:z.cells.size=de.size:=by have:=(cz he).2.1;rw[←Eu]at this;simpa using this
 have hlen:∀c0:Array Value,c0.size=n*de.size→∃c',Instr.fill (fun i=>some (i*de.size,de.size)) c0 (ps.toList.map fun x=>(x.1,a.eval x.2))=some c'∧c'.size=c0.size∧
   ∀(p:Nat) (x:Nat×Operand),ps.toList[p]?=some x→∀j,j<de.size→c'[p*de.size+j]?=(a.eval x.2).cells[j]?:=by
  intro c0 hc0;obtain⟨c',f1,f2,_,f4⟩:=zr (ps.toList.map fun x=>(x.1,a.eval x.2)) 0 c0 (fun p x hx=>by
   rw[List.getElem?_map,Option.map_eq_some_iff]at hx;obtain⟨x',hY,rfl⟩:=hx;obtain⟨a1,a2,_⟩:=r2 p x' hY;exact⟨a1,a2⟩) (by rw[hc0,Nat.zero_add,List.length_map,hn];exact Nat.le_refl _)
  refine⟨c',f1,f2,fun p x hx j hj=>?_⟩
  have:=f4 p (x.1,a.eval x.2) (by rw[List.getElem?_map,hx];rfl) j hj
  rwa[Nat.zero_add]at this
 obtain⟨c',f1,f2,f3⟩:=hlen ((Array.range (n*de.size)).map fun i=>(if n*de.size=0 then #[]else z.cells)[i %(if n*de.size=0 then #[]else z.cells).size]!) (by simp)
 have dA:(execOp a.eval o).run P w= .ok (.value (.slice (some ⟨w.heap.size,0,none⟩) n n)) (w.alloc (.cells c' e)):=by
  have hm:(ps.map fun x=>(x.1,a.eval x.2)).toList=ps.toList.map fun x=>(x.1,a.eval x.2):=by simp
  have bf:¬(2^24<n*de.size):=by omega
  by_cases Ev:n*de.size=0
  ·simp only[Ev,if_true]at f1
   simp[execOp,ho,Instr.buildSlice,run_underlying hu,oE he,Ev,newRow];simp at f1
   rw[f1];simp
  ·simp only[Ev,if_false]at f1
   simp[execOp,ho,Instr.buildSlice,run_underlying hu,oE he,Ev,newRow,hz];rw[f1];simp
   exact SW
 have YO:xs.length=n:=by rw[r1];exact hn
 obtain⟨ρ',g1,g2⟩:=IZ hR uy (arr:=c') (e:=e) (k:=de.size) (c:=n) (xs:=xs) h0 (by omega) (by simp only[maxLen];have:=Nat.le_mul_of_pos_right n h0;omega) (by rw[f2];simp) (fun i y hy=>by
  have dQ:i<ps.toList.length:=by rw[←r1];exact(List.getElem?_eq_some_iff.1 hy).1
  obtain⟨_,b2,_,y',b4,b5,b6⟩:=r2 i _ (List.getElem?_eq_getElem dQ);rw[hy]at b4;cases b4;refine⟨b5,fun j r hj=>?_⟩
  have MA:j<de.size:=by rw[←b5];exact(List.getElem?_eq_some_iff.1 hj).1
  have:=b6 j r hj
  simp only[Array.getD_eq_getD_getElem?]at this⊢;rw[f3 i _ (List.getElem?_eq_getElem dQ) j MA];exact this)
 rw[YO]at g2;rw[Cf];exact⟨_,_,ρ',D',dA,g1,g2⟩
end
end Go.Proofs.YtlhohdjniaebbaaGreat.T
