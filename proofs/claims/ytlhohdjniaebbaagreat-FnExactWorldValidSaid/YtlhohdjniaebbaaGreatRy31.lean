/-
What is proved: names may be changed, forgotten, and rows of the call's own become and what rests on it. Conditions: as stated.
-/
import Derived.Test.YtlhohdjniaebbaaGreatRy30
set_option linter.unusedVariables false
set_option linter.unusedSimpArgs false
namespace Go.Proofs.YtlhohdjniaebbaaGreat.T
open Go Go.RowKit
def TV.bB (f:Nat→Nat):TV→TV
 | .r t=> .r t
 | .own b=> .own (f b)
 | .ptr b o=> .ptr (f b) o
 | .row b k i o=> .row (f b) k i o
 | .iZ xs o=> .iZ xs o
def TV.names:TV→List Nat
 | .r _=>[]
 | .own b=>[b]
 | .ptr b _=>[b]
 | .row b _ _ _=>[b]
 | .iZ _ _=>[]
mutual
def GV.bB (f:Nat→Nat):GV→GV
 | .s t=> .s (t.bB f)
 | .a ts=> .a (ts.map (TV.bB f))
 | .p gs=> .p (fH f gs)
 | .fQ fn fs cs=> .fQ fn (fH f fs) (fH f cs)
 | .fC t g=> .fC t (g.bB f)
 | .u=> .u
def fH (f:Nat→Nat):List GV→List GV
 |[]=>[]
 |g::gs=>g.bB f::fH f gs
end
mutual
def GV.names:GV→List Nat
 | .s t=>t.names
 | .a ts=>ts.flatMap TV.names
 | .p gs=>dt gs
 | .fQ _ fs cs=>dt fs++dt cs
 | .fC _ g=>g.names
 | .u=>[]
def dt:List GV→List Nat
 |[]=>[]
 |g::gs=>g.names++dt gs
end
def ak.bB (f:Nat→Nat):ak→ak
 | .box cs=> .box (cs.map (TV.bB f))
 | .rows e k xs=> .rows e k xs
 | .dead=> .dead
def ak.names:ak→List Nat
 | .box cs=>cs.flatMap TV.names
 |_=>[]
theorem gO (f:Nat→Nat):∀(gs:List GV) (i:Nat),(fH f gs)[i]?=gs[i]?.map (GV.bB f)
 |[],i=>by simp[fH]
 |g::gs,0=>by simp[fH]
 |g::gs,i+1=>by simp[fH,gO f gs i]
theorem dc (f:Nat→Nat):∀(gs:List GV),(fH f gs).length=gs.length
 |[]=>rfl
 |g::gs=>by simp[fH,dc f gs]
theorem xL {g:GV}:∀{gs:List GV},g∈gs→∀b∈g.names,b∈dt gs
 |x::gs,h,b,hb=>by
  simp only[dt,List.mem_append];rcases List.mem_cons.1 h with rfl|h
  ·exact .inl hb
  ·exact .inr (xL h b hb)
section
variable {ρ ρ':Nat→Option Value}{w:World}{D:Nat→Prop}{f:Nat→Nat}
theorem cn.bB {v:Value}{t:TV}(h:cn ρ w D v (t.bB f))(hf:∀b∈t.names,∀x,ρ (f b)=some x→ρ' b=some x):cn ρ' w D v t:=by
 cases t with
 |r t=>cases h with|r h=>exact .r h
 |own b=>cases h with|own h=>exact .own (hf b (List.mem_cons_self ..) _ h)
 |ptr b o=>cases h with|ptr h=>exact .ptr (hf b (List.mem_cons_self ..) _ h)
 |row b k i o=>cases h with|row h=>exact .row (hf b (List.mem_cons_self ..) _ h)
 |iZ xs o=>cases h with|iZ vs h1 h2 h3=>exact .iZ vs h1 h2 h3
theorem cn.sX {v:Value}{t:TV}(h:cn ρ' w D v t)(hf:∀b∈t.names,∀x,ρ' b=some x→ρ (f b)=some x):cn ρ w D v (t.bB f):=by
 cases t with
 |r t=>cases h with|r h=>exact .r h
 |own b=>cases h with|own h=>exact .own (hf b (List.mem_cons_self ..) _ h)
 |ptr b o=>cases h with|ptr h=>exact .ptr (hf b (List.mem_cons_self ..) _ h)
 |row b k i o=>cases h with|row h=>exact .row (hf b (List.mem_cons_self ..) _ h)
 |iZ xs o=>cases h with|iZ vs h1 h2 h3=>exact .iZ vs h1 h2 h3
theorem bg.U3 {v:Value}{g':GV}(h:bg ρ w D v g'):∀g,g'=g.bB f→(∀b∈g.names,∀x,ρ (f b)=some x→ρ' b=some x)→bg ρ' w D v g:=by
 induction h with
 |s h=>
  intro g e hf
  cases g<;>simp only[GV.bB,reduceCtorEq,GV.s.injEq]at e
  subst e;exact .s (h.bB hf)
 |a hn h=>
  intro g e hf
  cases g<;>simp only[GV.bB,reduceCtorEq,GV.a.injEq]at e
  rename_i ts;subst e;refine .a (by simpa using hn) fun i t ht=>(h i (t.bB f) (by simp[ht])).bB fun b hb=>hf b ?_
  simp only[GV.names,List.mem_flatMap];exact⟨t,List.mem_of_getElem? ht,hb⟩
 |p hn _ ih=>
  intro g e hf
  cases g<;>simp only[GV.bB,reduceCtorEq,GV.p.injEq]at e
  rename_i gs;subst e;refine .p (by rw[hn,dc]) fun i g hg=>ih i (g.bB f) (by rw[gO,hg];rfl) g rfl fun b hb=>hf b ?_
  exact xL (List.mem_of_getElem? hg) b hb
 |fQ h1 h2 _ _ i1 i2=>
  intro g e hf
  cases g<;>simp only[GV.bB,reduceCtorEq,GV.fQ.injEq]at e
  rename_i OQ fs' bZ;obtain⟨rfl,rfl,rfl⟩:=e;refine .fQ (by rw[h1,dc]) (by rw[h2,dc]) (fun i g hg=>i1 i (g.bB f) (by rw[gO,hg];rfl) g rfl fun b hb=>hf b ?_) fun i g hg=>i2 i (g.bB f) (by rw[gO,hg];rfl) g rfl fun b hb=>hf b ?_
  ·exact List.mem_append_left _ (xL (List.mem_of_getElem? hg) b hb)
  ·exact List.mem_append_right _ (xL (List.mem_of_getElem? hg) b hb)
 |fC _ ih=>
  intro g e hf
  cases g<;>simp only[GV.bB,reduceCtorEq,GV.fC.injEq]at e
  obtain⟨rfl,e⟩:=e;exact .fC (ih _ e hf)
 |u=>
  intro g e hf
  cases g<;>simp only[GV.bB,reduceCtorEq]at e
  exact .u
theorem bg.bB {v:Value}{g:GV}(h:bg ρ w D v (g.bB f))(hf:∀b∈g.names,∀x,ρ (f b)=some x→ρ' b=some x):bg ρ' w D v g:=h.U3 g rfl hf
theorem bg.sX {v:Value}{g:GV}(h:bg ρ' w D v g)(hf:∀b∈g.names,∀x,ρ' b=some x→ρ (f b)=some x):bg ρ w D v (g.bB f):=by
 induction h with
 |s h=>exact .s (h.sX hf)
 |a hn h=>
  refine .a (by simpa using hn) fun i t ht=>?_
  rw[List.getElem?_map,Option.map_eq_some_iff]at ht;obtain⟨t',xM,rfl⟩:=ht;refine(h i t' xM).sX fun b hb=>hf b ?_
  simp only[GV.names,List.mem_flatMap];exact⟨t',List.mem_of_getElem? xM,hb⟩
 |p hn _ ih=>
  refine .p (by rw[hn,dc]) fun i g hg=>?_
  rw[gO,Option.map_eq_some_iff]at hg;obtain⟨g',bf,rfl⟩:=hg;exact ih i g' bf fun b hb=>hf b (xL (List.mem_of_getElem? bf) b hb)
 |fQ h1 h2 _ _ i1 i2=>
  refine .fQ (by rw[h1,dc]) (by rw[h2,dc]) (fun i g hg=>?_) fun i g hg=>?_
  ·rw[gO,Option.map_eq_some_iff]at hg
   obtain⟨g',bf,rfl⟩:=hg;exact i1 i g' bf fun b hb=>hf b (List.mem_append_left _ (xL (List.mem_of_getElem? bf) b hb))
  ·rw[gO,Option.map_eq_some_iff]at hg
   obtain⟨g',bf,rfl⟩:=hg;exact i2 i g' bf fun b hb=>hf b (List.mem_append_right _ (xL (List.mem_of_getElem? bf) b hb))
 |fC _ ih=>exact .fC (ih hf)
 |u=>exact .u
theorem dr.bB {x:Option Value}{y:ak}(h:dr ρ w D x (y.bB f))(hf:∀b∈y.names,∀x,ρ (f b)=some x→ρ' b=some x):dr ρ' w D x y:=by
 cases y with
 |dead=>trivial
 |rows e k xs=>exact h
 |box cs=>
  obtain⟨g,arr,ty,e,h1,h2,h3⟩:=h;refine⟨g,arr,ty,e,h1,by simpa using h2,fun i t ht=>(h3 i (t.bB f) (by simp[ht])).bB fun b hb=>hf b ?_⟩
  simp only[ak.names,List.mem_flatMap];exact⟨t,List.mem_of_getElem? ht,hb⟩
theorem dr.sX {x:Option Value}{y:ak}(h:dr ρ' w D x y)(hf:∀b∈y.names,∀x,ρ' b=some x→ρ (f b)=some x):dr ρ w D x (y.bB f):=by
 cases y with
 |dead=>trivial
 |rows e k xs=>exact h
 |box cs=>
  obtain⟨g,arr,ty,e,h1,h2,h3⟩:=h;refine⟨g,arr,ty,e,h1,by simpa using h2,fun i t ht=>?_⟩
  rw[List.getElem?_map,Option.map_eq_some_iff]at ht;obtain⟨t',xM,rfl⟩:=ht;refine(h3 i t' xM).sX fun b hb=>hf b ?_
  simp only[ak.names,List.mem_flatMap];exact⟨t',List.mem_of_getElem? xM,hb⟩
theorem ak.du (y:ak):(y.bB f).live=y.live:=by cases y<;>rfl
end
def TV.cr (get:Nat→Option ak)(cs:List Nat):TV→TV
 | .own b=>if b∈cs then match get b with
   |some (.rows _ k xs)=> .r (.sl k xs)
   |_=> .own b
   else .own b
 |t=>t
mutual
def GV.cr (get:Nat→Option ak)(cs:List Nat):GV→GV
 | .s t=> .s (t.cr get cs)
 | .a ts=> .a (ts.map (TV.cr get cs))
 | .p gs=> .p (fX get cs gs)
 | .fQ fn fs ds=> .fQ fn fs ds
 | .fC t g=> .fC t (g.cr get cs)
 | .u=> .u
def fX (get:Nat→Option ak)(cs:List Nat):List GV→List GV
 |[]=>[]
 |g::gs=>g.cr get cs::fX get cs gs
end
def ak.cr (get:Nat→Option ak)(cs:List Nat):ak→ak
 | .box ts=> .box (ts.map (TV.cr get cs))
 |y=>y
theorem nU (get:Nat→Option ak)(cs:List Nat):∀(gs:List GV) (i:Nat),(fX get cs gs)[i]?=gs[i]?.map (GV.cr get cs)
 |[],i=>by simp[fX]
 |g::gs,0=>by simp[fX]
 |g::gs,i+1=>by simp[fX,nU get cs gs i]
theorem gS (get:Nat→Option ak)(cs:List Nat):∀(gs:List GV),(fX get cs gs).length=gs.length
 |[]=>rfl
 |g::gs=>by simp[fX,gS get cs gs]
theorem TV.iF {get get':Nat→Option ak}{cs:List Nat}(h:∀b∈cs,get b=get' b)(t:TV):t.cr get cs=t.cr get' cs:=by
 unfold TV.cr;split
 ·rename_i b
  by_cases hb:b∈cs
  ·rw[h b hb]
  ·simp[hb]
 ·rfl
mutual
theorem GV.iF {get get':Nat→Option ak}{cs:List Nat}(h:∀b∈cs,get b=get' b):∀(g:GV),g.cr get cs=g.cr get' cs
 | .s t=>by simp only[GV.cr,TV.iF h]
 | .a ts=>by simp only[GV.cr];congr 1;exact List.map_congr_left fun t _=>TV.iF h t
 | .p gs=>by simp only[GV.cr,wX h gs]
 | .fQ _ _ _=>by simp only[GV.cr]
 | .fC _ g=>by simp only[GV.cr,GV.iF h g]
 | .u=>by simp only[GV.cr]
theorem wX {get get':Nat→Option ak}{cs:List Nat}(h:∀b∈cs,get b=get' b):∀(gs:List GV),fX get cs gs=fX get' cs gs
 |[]=>by simp only[fX]
 |g::gs=>by simp only[fX,GV.iF h g,wX h gs]
end
section
variable {C:Ctx}{env:Nat→GV}{get:Nat→Option ak}{a:Act}{w:World}{ρ:Nat→Option Value}{D D':Nat→Prop}{cs:List Nat}
theorem cn.cr (hR:Rel C env get a w ρ D)(hD:∀k,D k→D' k)(hb:∀b∈cs,∀g,bI (ρ b)=some g→D' g){v:Value}{t:TV}(h:cn ρ w D v t):cn ρ w D' v (t.cr get cs):=by
 unfold TV.cr;split
 ·rename_i b
  split
  ·rename_i hm
   split
   ·rename_i e k xs hg
    have:(ae.wQ ⟨[],[(b,.rows e k xs)],0⟩ (.own b))=some (.sl k xs,[b]):=by simp[ae.wQ,ae.get,gt]
    refine .r (Cg hR this (fun c hc=>?_) hD (fun c hc=>hb c ?_) h)
    ·simp only[List.mem_cons,List.not_mem_nil,or_false]at hc
     subst hc;rw[hg];simp[ae.get,gt]
    ·simp only[List.mem_cons,List.not_mem_nil,or_false]at hc
     subst hc;exact hm
   ·exact h.keep (fun _ _ h=>h) (cj.refl _ _) hD
  ·exact h.keep (fun _ _ h=>h) (cj.refl _ _) hD
 ·exact h.keep (fun _ _ h=>h) (cj.refl _ _) hD
theorem bg.cr (hR:Rel C env get a w ρ D)(hD:∀k,D k→D' k)(hb:∀b∈cs,∀g,bI (ρ b)=some g→D' g){v:Value}{g:GV}(h:bg ρ w D v g):bg ρ w D' v (g.cr get cs):=by
 induction h with
 |s h=>exact .s (h.cr hR hD hb)
 |a hn h=>
  refine .a (by simpa using hn) fun i t ht=>?_
  rw[List.getElem?_map,Option.map_eq_some_iff]at ht;obtain⟨t',xM,rfl⟩:=ht;exact(h i t' xM).cr hR hD hb
 |p hn _ ih=>
  refine .p (by rw[hn,gS]) fun i g hg=>?_
  rw[nU,Option.map_eq_some_iff]at hg;obtain⟨g',bf,rfl⟩:=hg;exact ih i g' bf
 |fQ h1 h2 h3 h4 _ _=>exact .fQ h1 h2 (fun i g hg=>(h3 i g hg).keep (fun _ _ h=>h) (cj.refl _ _) hD) fun i g hg=>(h4 i g hg).keep (fun _ _ h=>h) (cj.refl _ _) hD
 |fC _ ih=>exact .fC ih
 |u=>exact .u
theorem Rel.freeze (hR:Rel C env get a w ρ D)(hb:∀b∈cs,∃z,get b=some z∧z.live=true):∃D',Rel C (fun t=>(env t).cr get cs) (fun b=>if b∈cs then some .dead else(get b).map (ak.cr get cs)) a w ρ D'∧(∀k,D k→D' k)∧∀b∈cs,∀g,bI (ρ b)=some g→D' g:=by
 obtain⟨D',h,hD,lT⟩:=hR.consume cs hb;have Sp:∀c,gt c (cs.map fun b=>(b,ak.dead))=if c∈cs then some .dead else none:=by
  intro c;clear hb h lT;induction cs with
  |nil=>rfl
  |cons b bs ih=>
   simp only[List.map_cons,gt,List.mem_cons];rw[ih];by_cases e:c=b<;>simp[e]
 have zm:∀c,upd get (cs.map fun b=>(b,ak.dead)) c=if c∈cs then some .dead else get c:=by
  intro c;simp only[upd,Sp];split<;>simp_all
 refine⟨D',⟨h.os,h.tape,h.output,h.size,h.old,h.ro,fun c hc=>?_,fun c y hc=>?_,fun c y g hc hl hg=>?_,fun c y1 c' y2 g hc hl cb dm hg bf=>?_,fun t=>(hR.env t).cr hR hD lT,h.defers,h.nt,h.ext⟩,hD,lT⟩
 ·split at hc
  ·cases hc
  ·rename_i hn
   exact hR.free c (by simpa using hc)
 ·split at hc
  ·cases hc;trivial
  ·rename_i hn
   obtain⟨y',dq,rfl⟩:=Option.map_eq_some_iff.1 hc;have:=hR.blk c y' dq
   cases y' with
   |dead=>trivial
   |rows e k xs=>exact this.keep (fun _ _ h=>h) (cj.refl _ _) hD (.inr fun _ _=>rfl)
   |box ts=>
    obtain⟨g,arr,ty,e1,h1,h2,h3⟩:=this;refine⟨g,arr,ty,e1,h1,by simpa using h2,fun i t ht=>?_⟩
    rw[List.getElem?_map,Option.map_eq_some_iff]at ht;obtain⟨t',xM,rfl⟩:=ht;exact(h3 i t' xM).cr hR hD lT
 ·split at hc
  ·cases hc;simp[ak.live]at hl
  ·rename_i hn
   obtain⟨y',dq,rfl⟩:=Option.map_eq_some_iff.1 hc;refine h.own c y' g (by rw[zm,if_neg hn];exact dq) ?_ hg
   cases y'<;>first|rfl|(simp[ak.cr,ak.live]at hl)
 ·split at hc
  ·cases hc;simp[ak.live]at hl
  ·split at cb
   ·cases cb;simp[ak.live]at dm
   ·rename_i hn yv
    obtain⟨y',dq,rfl⟩:=Option.map_eq_some_iff.1 hc;obtain⟨y'',abq,rfl⟩:=Option.map_eq_some_iff.1 cb;refine h.sep c y' c' y'' g (by rw[zm,if_neg hn];exact dq) ?_ (by rw[zm,if_neg yv];exact abq) ?_ hg bf
    ·cases y'<;>first|rfl|(simp[ak.cr,ak.live]at hl)
    ·cases y''<;>first|rfl|(simp[ak.cr,ak.live]at dm)
theorem Rel.rename (hR:Rel C env get a w ρ D){N':Nat→GV}{get':Nat→Option ak}{f:Nat→Nat}{nx:Nat}(abr:∀b x,C.lK b=some x→f b=b∧b<nx)(abt:∀t,N' t= .u∨(env t=(N' t).bB f∧∀b∈(N' t).names,b<nx))
  (cc:∀b y,get' b=some y→b<nx∧(y= .dead∨(get (f b)=some (y.bB f)∧∀c∈y.names,c<nx))) (aae:∀b,b<nx→get' b≠none) (abu:∀b y b' y',get' b=some y→y.live=true→get' b'=some y'→y'.live=true→f b=f b'→b=b'):
  Rel C N' get' a w (fun b=>if b<nx then ρ (f b)else none) D:=by
 have dk:∀b,b<nx→∀x,ρ (f b)=some x→(fun b=>if b<nx then ρ (f b)else none) b=some x:=fun b hb x hx=>by simp[hb,hx]
 refine⟨hR.os,hR.tape,hR.output,hR.size,hR.old,hR.ro,fun b hb=>?_,fun b y hy=>?_,fun b y g hy hl hg=>?_,fun b y b' y' g hy hl dq dm hg bf=>?_,fun t=>?_,hR.defers,hR.nt,fun b x hx=>?_⟩
 ·have:¬b<nx:=fun h=>aae b h hb
  simp[this]
 ·obtain⟨h1,h2⟩:=cc b y hy
  rcases h2 with rfl|⟨h2,h3⟩
  ·trivial
  ·simp only[h1,if_true]
   exact(hR.blk _ _ h2).bB fun c hc=>dk c (h3 c hc)
 ·obtain⟨h1,h2⟩:=cc b y hy
  rcases h2 with rfl|⟨h2,h3⟩
  ·simp[ak.live]at hl
  ·simp only[h1,if_true]at hg
   exact hR.own _ _ g h2 (by rw[ak.du];exact hl) hg
 ·obtain⟨h1,h2⟩:=cc b y hy
  obtain⟨ji,lL⟩:=cc b' y' dq;rcases h2 with rfl|⟨h2,h3⟩
  ·simp[ak.live]at hl
  ·rcases lL with rfl|⟨lL,I7⟩
   ·simp[ak.live]at dm
   ·simp only[h1,ji,if_true]at hg bf
    exact abu b y b' y' hy hl dq dm (hR.sep _ _ _ _ g h2 (by rw[ak.du];exact hl) lL (by rw[ak.du];exact dm) hg bf)
 ·rcases abt t with h|⟨h1,h2⟩
  ·rw[h];exact .u
  ·have:=hR.env t
   rw[h1]at this;exact this.bB fun b hb=>dk b (h2 b hb)
 ·obtain⟨h1,h2⟩:=abr b x hx
  simp only[h2,if_true,h1];exact hR.ext b x hx
end
end Go.Proofs.YtlhohdjniaebbaaGreat.T
namespace Go.Proofs.YtlhohdjniaebbaaGreat.T
open Go Go.RowKit
def iR (s:ae):Nat→GV:=fun t=>lk t s.env
theorem Oc (t:Nat):∀(e:List (Nat×GV)),lk t e= .u∨(t,lk t e)∈e
 |[]=> .inl rfl
 |(u,g)::e=>by
  simp only[lk];split
  ·rename_i h;subst h;exact .inr (List.mem_cons_self ..)
  ·rcases Oc t e with h|h
   ·exact .inl h
   ·exact .inr (List.mem_cons_of_mem _ h)
theorem eN {b:Nat}:∀{l:List (Nat×ak)} {y:ak},gt b l=some y→(b,y)∈l
 |(u,z)::l,y,h=>by
  simp only[gt]at h;split at h
  ·rename_i e;subst e;cases h;exact List.mem_cons_self ..
  ·exact List.mem_cons_of_mem _ (eN h)
def TW (P:Program)(E:List PanicEntry→World→Prop)(nt m:Nat)(c:Code)(Q:Exit→ae→Prop)(s:ae):Prop:=
 ∀C a w,C.nt=nt→(∀b x,C.lK b=some x→b<m)→R C (iR s) s.get a w→∀Q':Exit→Act→World→Prop,(∀e s' a' w',Q e s'→R C (iR s') s'.get a' w'→Q' e a' w')→zk E Q'→c.wp P Q' a w
structure Ys (m:Nat) (s s':ae) (f:Nat→Nat) (cs:List Nat):Prop where
 cons:∀b∈cs,∃e k xs,s.get b=some (.rows e k xs)
 env:∀x∈s'.env,x.2= .u∨((lk x.1 s.env).cr s.get cs=x.2.bB f∧∀b∈x.2.names,b<s'.nx)
 bb:∀x∈s'.bb,x.1<s'.nx∧f x.1∉cs∧(s.get (f x.1)).map (ak.cr s.get cs)=some (x.2.bB f)∧∀b∈x.2.names,b<s'.nx
 inj:∀x∈s'.bb,∀y∈s'.bb,f x.1=f y.1→x.1=y.1
 fix:m≤s'.nx∧∀b,b<m→f b=b
theorem R.weaken {C:Ctx}{m:Nat}{s s':ae}{f:Nat→Nat}{cs:List Nat}(h:Ys m s s' f cs){a:Act}{w:World}(hm:∀b x,C.lK b=some x→b<m)(hR:R C (iR s) s.get a w):R C (iR s') s'.get a w:=by
 obtain⟨ρ,D,hR⟩:=hR;obtain⟨D',oH,_⟩:=hR.freeze (cs:=cs) fun b hb=>by
  obtain⟨e,k,xs,h⟩:=h.cons b hb;exact⟨_,h,rfl⟩
 have yK:∀b y,s'.get b=some y→(b<s'.nx∧y= .dead)∨(b,y)∈s'.bb:=by
  intro b y hy;unfold ae.get at hy;split at hy
  ·rename_i z hz
   cases hy;exact .inr (eN hz)
  ·split at hy
   ·rename_i aj;cases hy;exact .inl ⟨aj,rfl⟩
   ·cases hy
 refine⟨_,D',oH.rename (f:=f) (nx:=s'.nx) (fun b x hx=>⟨h.fix.2 b (hm b x hx),Nat.lt_of_lt_of_le (hm b x hx) h.fix.1⟩) (fun t=>?_) (fun b y hy=>?_) (fun b hb=>?_) fun b y b' y' hy hl dq dm ik=>?_⟩
 ·rcases Oc t s'.env with h1|h1
  ·exact .inl h1
  ·exact h.env _ h1
 ·rcases yK b y hy with⟨h1,rfl⟩|h1
  ·exact⟨h1,.inl rfl⟩
  ·obtain⟨h2,h3,h4,h5⟩:=h.bb _ h1
   exact⟨h2,.inr ⟨by rw[if_neg h3];exact h4,h5⟩⟩
 ·unfold ae.get
  split
  ·simp
  ·simp[hb]
 ·rcases yK b y hy with⟨_,rfl⟩|h1
  ·simp[ak.live]at hl
  ·rcases yK b' y' dq with⟨_,rfl⟩|h2
   ·simp[ak.live]at dm
   ·exact h.inj _ h1 _ h2 ik
def Wk (m:Nat)(s s':ae):Prop:=∃f cs,Ys m s s' f cs
section
variable {P:Program}{E:List PanicEntry→World→Prop}{nt m:Nat}{Q:Exit→ae→Prop}{s:ae}
theorem TW.weaken {c:Code}(s':ae)(h:Wk m s s')(hw:TW P E nt m c Q s'):TW P E nt m c Q s:=by
 obtain⟨f,cs,h⟩:=h;exact fun C a w hn hm hR=>hw C a w hn hm (R.weaken h hm hR)
theorem TW.mono {c:Code}{Q':Exit→ae→Prop}(h:TW P E nt m c Q s)(hq:∀e s,Q e s→Q' e s):TW P E nt m c Q' s:=
 fun C a w hn hm hR Q'' hQ hE=>h C a w hn hm hR Q'' (fun e s' a' w' h1 h2=>hQ e s' a' w' (hq _ _ h1) h2) hE
theorem TW.skip (h:Q .normal s):TW P E nt m .skip Q s:=fun C a w _ _ hR Q' hQ _=>wp_skip (hQ _ _ _ _ h hR)
theorem TW.exit {id:Nat}(h:Q (.exit id) s):TW P E nt m (.exit id) Q s:=fun C a w _ _ hR Q' hQ _=>wp_exit (hQ _ _ _ _ h hR)
theorem TW.ret (h:Q .ret s):TW P E nt m .ret Q s:=fun C a w _ _ hR Q' hQ _=>wp_ret (hQ _ _ _ _ h hR)
def tQ (next:ae→Prop)(Q:Exit→ae→Prop):Exit→ae→Prop
 | .normal,s=>next s
 |e,s=>Q e s
theorem TW.seq {x y:Code}(h:TW P E nt m x (tQ (TW P E nt m y Q) Q) s):TW P E nt m (.seq x y) Q s:=by
 intro C a w hn hm hR Q' hQ hE;refine wp_seq (h C a w hn hm hR _ (fun e s' a' w' h1 h2=>?_) fun ch a w h1 h2=>hE ch a w h1 h2)
 cases e with
 |normal=>exact h1 C a' w' hn hm h2 Q' hQ hE
 |_=>exact hQ _ _ _ _ h1 h2
theorem TW.cond {c:Operand}{x y:Code}{b:Bool}(hb:(s.ev c).b?=some b)(h1:b=true→TW P E nt m x Q s)(h2:b=false→TW P E nt m y Q s):TW P E nt m (.cond c x y) Q s:=by
 intro C a w hn hm hR Q' hQ hE;obtain⟨ρ,D,hr⟩:=hR;have hi:∀x∈bE s.env [c],iR s x.1=x.2:=by
  intro x hx
  cases c<;>simp only[bE,List.mem_cons,List.not_mem_nil,or_false]at hx
  subst hx;rfl
 have hc:=GV.xX hb (bc hr hi (List.mem_cons_self ..));exact wp_cond_split hc (fun e=>h1 e C a w hn hm ⟨ρ,D,hr⟩ Q' hQ hE) fun e=>h2 e C a w hn hm ⟨ρ,D,hr⟩ Q' hQ hE
def bQ (id:Nat)(Q:Exit→ae→Prop):Exit→ae→Prop
 | .exit OR,s=>if OR=id then Q .normal s else Q (.exit OR) s
 |e,s=>Q e s
theorem TW.block {id:Nat}{c:Code}(h:TW P E nt m c (bQ id Q) s):TW P E nt m (.block id c) Q s:=by
 intro C a w hn hm hR Q' hQ hE;refine wp_block (h C a w hn hm hR _ (fun e s' a' w' h1 h2=>?_) fun ch a w h1 h2=>hE ch a w h1 h2)
 cases e with
 |exit OR=>
  simp only[bQ,Exit.inBlock]at h1⊢;split
  ·rename_i e;rw[if_pos e]at h1;exact hQ _ _ _ _ h1 h2
  ·rename_i e;rw[if_neg e]at h1;exact hQ _ _ _ _ h1 h2
 |_=>exact hQ _ _ _ _ h1 h2
theorem TW.loop {α:Type}{c:Code}(I:α→ae)(p:α→Prop)(μ:α→Nat)(x:α)(hx:p x)(h0:Wk m s (I x))
  (round:∀x,p x→TW P E nt m c (tQ (fun s'=>∃y,p y∧μ y<μ x∧Wk m s' (I y)) Q) (I x)):TW P E nt m (.loop c) Q s:=by
 intro C a w hn hm hR Q' hQ hE b k cs;have key:∀n x a w,μ x=n→p x→R C (iR (I x)) (I x).get a w→
   ∃e a' w',Q' e a' w'∧Arrives P (lone (b.at a (.code c:: .inLoop c::k)) cs w) b k cs e a' w':=by
  intro n;induction n using Nat.strongRecOn with
  |_ n ih=>
   intro x a w yv hp hRx;obtain⟨e,a1,w1,hq,wY⟩:=round x hp C a w hn hm hRx (Exit.then (fun a w=>∃y,p y∧μ y<μ x∧R C (iR (I y)) (I y).get a w) Q') (fun e s' a' w' h1 h2=>by
    cases e with
    |normal=>
     obtain⟨y,y1,y2,f,cs,y3⟩:=h1;exact⟨y,y1,y2,R.weaken y3 hm h2⟩
    |_=>exact hQ _ _ _ _ h1 h2) (fun ch a w h1 h2=>hE ch a w h1 h2) b (.inLoop c::k) cs
   cases e with
   |normal=>
    obtain⟨y,y1,y2,y3⟩:=hq;obtain⟨e2,a2,w2,FP,aaf⟩:=ih (μ y) (yv▸y2) y a1 w1 rfl y1 y3;exact⟨e2,a2,w2,FP,.of_steps (Steps.trans wY (.one step_inLoop)) aaf⟩
   |exit id=>exact⟨_,a1,w1,hq,.pass (x:= .inLoop c) rfl (fun _ _=> .inl (by simp)) wY⟩
   |goto l=>exact⟨_,a1,w1,hq,.pass (x:= .inLoop c) rfl (fun _ _=> .inl (by simp)) wY⟩
   |ret=>exact⟨_,a1,w1,hq,.pass (x:= .inLoop c) rfl (fun _ _=> .inl (by simp)) wY⟩
   |panic ch=>exact⟨_,a1,w1,hq,.pass (x:= .inLoop c) rfl (fun _ _=> .inl (by simp)) wY⟩
   |outgrown=>exact⟨_,a1,w1,hq,.pass (x:= .inLoop c) rfl (fun _ _=> .inl (by simp)) wY⟩
 obtain⟨f,Zd,h0⟩:=h0;obtain⟨e,a',w',hq,wY⟩:=key _ x a w rfl hx (R.weaken h0 hm hR);exact⟨e,a',w',hq,.of_steps (.one step_loop) wY⟩
end
def Mf (bb:List (Nat×ak))(ρ:Nat→Option Value)(k:Nat):Prop:=∃b y,gt b bb=some y∧y.live=true∧bI (ρ b)=some k
structure Yt (bb sto':List (Nat×ak)) (m:Nat) (w w':World) (ρ ρ':Nat→Option Value) (D D':Nat→Prop):Prop where
 os:w'.os=w.os
 tape:w'.tape=w.tape
 output:w'.output=w.output
 size:w.heap.size≤w'.heap.size
 old:∀k,k<w.heap.size→¬Mf bb ρ k→w'.heap[k]?=w.heap[k]?
 ro:∀k,D' k→k<w'.heap.size∧(D k∨Mf bb ρ k∨w.heap.size≤k)
 blk:∀b y,gt b sto'=some y→dr ρ' w' D' (ρ' b) y
 own:∀b y g,gt b sto'=some y→y.live=true→bI (ρ' b)=some g→¬D' g∧(Mf bb ρ g∨w.heap.size≤g)
 sep:∀b y b' y' g,gt b sto'=some y→y.live=true→gt b' sto'=some y'→y'.live=true→bI (ρ' b)=some g→bI (ρ' b')=some g→b=b'
 same:∀b,b<m→ρ' b=ρ b
 free:∀b,m≤b→gt b sto'=none→ρ' b=none
def ML (P:Program)(f:FuncId):Prop:=∀args w,(callFunc f args).run P w= .ok (.enter f args) w
theorem ML.of {P:Program}{f:FuncId}{fn:Func}{c:Code}(hf:P.funcs[f]?=some fn)(hb:fn.body=some c)(hn:(fn.name== "runtime.NumGoroutine")=false):ML P f:=by
 intro args w;simp only[callFunc,Sem.run_bind,run_program,Result.andThen_ok,hf,hn,hb,Option.isNone_some,Bool.false_eq_true,if_false,Sem.run_pure]
def TC (P:Program)(E:List PanicEntry→World→Prop)(f:FuncId)(args:List GV)(m:Nat)(bb:List (Nat×ak))(r:GV)(sto':List (Nat×ak)):Prop:=
 ML P f∧∀(w:World) (bJ:Array Value) (ρ:Nat→Option Value) (D:Nat→Prop),bJ.size=args.length→(∀(i:Nat) (g:GV),args[i]?=some g→bg ρ w D (bJ.getD i undef) g)→(∀k,D k→k<w.heap.size)→
  (∀b y,gt b bb=some y→dr ρ w D (ρ b) y)→(∀b y g,gt b bb=some y→y.live=true→bI (ρ b)=some g→¬D g)→
  (∀b y b' y' g,gt b bb=some y→y.live=true→gt b' bb=some y'→y'.live=true→bI (ρ b)=some g→bI (ρ b')=some g→b=b')→
  Calls P f bJ w fun e w'=>(∃ch,e= .panicked ch∧E ch w')∨∃v ρ' D',e= .returned v∧bg ρ' w' D' v r∧Yt bb sto' m w w' ρ ρ' D D'
def ae.Od (P:Program)(s:ae):ResultVar→Option GV
 | .tmp t=>some (lk t s.env)
 | .cell t ty=>match aE P ty with
   |some d=>match s.deref (lk t s.env)with
    |some (_,cs)=>if d.size≤cs.length then some (T.mk d.k.agg (cs.take d.size))else none
    |none=>none
   |none=>none
def ae.Co (P:Program)(s:ae):List ResultVar→Option (List GV)
 |[]=>some []
 |x::xs=>match s.Od P x with
  |some g=>match s.Co P xs with
   |some gs=>some (g::gs)
   |none=>none
  |none=>none
def ae.res (P:Program)(s:ae)(xs:List ResultVar):Option GV:=match s.Co P xs with
 |some [g]=>some g
 |some gs=>some (.p gs)
 |none=>none
def xY (tmps:Array Value):ResultVar→Sem Value
 | .tmp t=>pure (tmps.getD t undef)
 | .cell t ty=>do loadVar ty (←asAddr (tmps.getD t undef))
theorem I8 (fn:Func)(tmps:Array Value):results fn tmps=(do let vs←fn.results.mapM (xY tmps);pure (if h:vs.size=1 then vs[0]else .tuple vs)):=by
 unfold results;congr 1
theorem Rh {P:Program}{C:Ctx}{a:Act}{w:World}{ρ:Nat→Option Value}{D:Nat→Prop}{s:ae}(hR:Rel C (iR s) s.get a w ρ D){x:ResultVar}{g:GV}(h:s.Od P x=some g):
  ∃v,(xY a.tmps x).run P w= .ok v w∧bg ρ w D v g:=by
 cases x with
 |tmp t=>cases h;exact⟨_,rfl,hR.env t⟩
 |cell t ty=>
  simp only[ae.Od]at h;split at h
  ·rename_i d hd
   split at h
   ·rename_i fr cs hc
    split at h
    ·rename_i hl
     cases h;have fO:∀x∈fr,s.get x.1=x.2:=by
      unfold ae.deref at hc;split at hc
      ·split at hc
       ·rename_i hg;cases hc;intro x hx;simp at hx;subst hx;exact hg
       ·cases hc
      ·split at hc
       ·rename_i hg
        split at hc
        ·split at hc
         ·cases hc;intro x hx;simp at hx;subst hx;exact hg
         ·cases hc
        ·cases hc
       ·cases hc
      ·cases hc;intro x hx;cases hx
      ·cases hc
     obtain⟨b,k,e1,Xl⟩:=sV hR hc fO (hR.env t);have oG:=(cz hd).2.2.2;have cb:∀j,j<d.size→w.cell? ⟨b,k+j,none⟩=some ((w.cell? ⟨b,k+j,none⟩).getD undef):=fun j hj=>by
      obtain⟨x,hx,_⟩:=Xl j cs[j] (List.getElem?_eq_getElem (by omega))
      simp[hx]
     refine⟨_,by simp only[xY,e1,asAddr,Sem.run_bind,Sem.run_pure,Result.andThen_ok];rw[kQ hd oG _ cb],?_⟩
     refine uq (by simp;omega) (fun i t hi=>?_) (by rcases oG with h1|h1;exact .inl h1;right;simp;omega)
     rw[List.getElem?_take]at hi;split at hi
     ·rename_i aj
      obtain⟨x,hx,hr⟩:=Xl i t hi;simpa[Array.getD_eq_getD_getElem?,aj,hx]using hr
     ·cases hi
    ·cases h
   ·cases h
  ·cases h
theorem Cp {P:Program}{C:Ctx}{a:Act}{w:World}{ρ:Nat→Option Value}{D:Nat→Prop}{s:ae}(hR:Rel C (iR s) s.get a w ρ D):∀{xs:List ResultVar} {gs:List GV},s.Co P xs=some gs→
  ∃vs:List Value,(xs.mapM (xY a.tmps)).run P w= .ok vs w∧vs.length=gs.length∧∀(i:Nat) (g:GV),gs[i]?=some g→bg ρ w D (vs.getD i undef) g
 |[],gs,h=>by cases h;exact⟨[],by simp,rfl,fun i g hg=>by simp at hg⟩
 |x::xs,gs,h=>by
  simp only[ae.Co]at h;split at h
  ·rename_i g hg
   split at h
   ·rename_i bM bW
    cases h;obtain⟨v,h1,h2⟩:=Rh hR hg;obtain⟨vs,h3,h4,h5⟩:=Cp hR bW;refine⟨v::vs,?_,by simp[h4],fun i g hg=>?_⟩
    ·rw[List.mapM_cons,Sem.run_bind,h1,Result.andThen_ok,Sem.run_bind,h3,Result.andThen_ok]
     rfl
    ·cases i with
     |zero=>simp only[List.getElem?_cons_zero,Option.some.injEq]at hg;subst hg;simpa using h2
     |succ i=>simpa using h5 i g (by simpa using hg)
   ·cases h
  ·cases h
theorem U4 {P:Program}{C:Ctx}{a:Act}{w:World}{ρ:Nat→Option Value}{D:Nat→Prop}{s:ae}(hR:Rel C (iR s) s.get a w ρ D){fn:Func}{xs:List ResultVar}(lF:fn.results.toList=xs){g:GV}(h:s.res P xs=some g):∃v,(results fn a.tmps).run P w= .ok v w∧bg ρ w D v g:=by
 subst lF;unfold ae.res at h
 cases hl:s.Co P fn.results.toList with
 |none=>simp[hl]at h
 |some gs=>
  obtain⟨vs,h1,h2,h3⟩:=Cp hR hl;have dA:(results fn a.tmps).run P w= .ok (if h:vs.toArray.size=1 then vs.toArray[0]else .tuple vs.toArray) w:=by
   rw[I8,Sem.run_bind,Array.mapM_eq_mapM_toList,Sem.run_map,h1];rfl
  refine⟨_,dA,?_⟩;rw[hl]at h;rcases gs with _|⟨g0,_|⟨g1,gs⟩⟩
  ·simp only[Option.some.injEq]at h
   subst h;obtain rfl:vs=[]:=List.eq_nil_of_length_eq_zero (by simpa using h2)
   rw[dif_neg (by simp)]
   exact .p rfl fun i g hg=>by simp at hg
  ·simp only[Option.some.injEq]at h
   subst h;rcases vs with _|⟨v,_|⟨v1,vs⟩⟩
   ·simp at h2
   ·have:=h3 0 g0 rfl
    simpa using this
   ·simp at h2
  ·simp only[Option.some.injEq]at h
   subst h;rw[dif_neg (by simp[h2])]
   refine .p (by simpa using h2) fun i g hg=>?_
   have:=h3 i g hg
   simpa[List.getD_eq_getElem?_getD,Array.getD_eq_getD_getElem?]using this
structure Ret (P:Program) (xs:List ResultVar) (m:Nat) (s:ae) (r:GV) (sto':List (Nat×ak)) (f:Nat→Nat) (cs:List Nat) (r0:GV):Prop where
 res:s.res P xs=some r0
 val:r0.cr s.get cs=r.bB f
 names:∀b∈r.names,b<m∨(gt b sto').isSome=true
 cons:∀b∈cs,∃e k xs,s.get b=some (.rows e k xs)
 bb:∀x∈sto',f x.1∉cs∧(s.get (f x.1)).map (ak.cr s.get cs)=some (x.2.bB f)∧∀b∈x.2.names,b<m∨(gt b sto').isSome=true
 inj:∀x∈sto',∀y∈sto',f x.1=f y.1→x.1=y.1
 fix:∀b,b<m→f b=b
def bo (P:Program)(xs:List ResultVar)(m:Nat)(s:ae)(r:GV)(sto':List (Nat×ak)):Prop:=∃f cs r0,Ret P xs m s r sto' f cs r0
def U5 (P:Program)(xs:List ResultVar)(m:Nat)(r:GV)(sto':List (Nat×ak)):Exit→ae→Prop
 | .normal,s=>bo P xs m s r sto'
 | .ret,s=>bo P xs m s r sto'
 |_,_=>False
def kl:Nat→List GV→List (Nat×GV)
 |_,[]=>[]
 |i,g::gs=>(i,g)::kl (i+1) gs
theorem zw (t:Nat):∀(gs:List GV) (i:Nat),lk t (kl i gs)=if i≤t then gs.getD (t-i) .u else .u
 |[],i=>by simp[kl,lk]
 |g::gs,i=>by
  simp only[kl,lk,zw t gs (i+1)];by_cases h:t=i
  ·subst h;simp
  ·by_cases h2:i≤t
   ·rw[if_neg h,if_pos (by omega),if_pos h2,show t-i=(t-(i+1))+1 by omega,List.getD_cons_succ]
   ·rw[if_neg h,if_neg (by omega),if_neg h2]
theorem cn.restrict {ρ ρ':Nat→Option Value}{w:World}{D:Nat→Prop}{v:Value}{t:TV}(h:cn ρ w D v t)(hf:∀b∈t.names,∀x,ρ b=some x→ρ' b=some x):cn ρ' w D v t:=by
 cases h with
 |r h=>exact .r h
 |own h=>exact .own (hf _ (List.mem_cons_self ..) _ h)
 |ptr h=>exact .ptr (hf _ (List.mem_cons_self ..) _ h)
 |row h=>exact .row (hf _ (List.mem_cons_self ..) _ h)
 |iZ vs h1 h2 h3=>exact .iZ vs h1 h2 h3
theorem bg.restrict {ρ ρ':Nat→Option Value}{w:World}{D:Nat→Prop}{v:Value}{g:GV}(h:bg ρ w D v g):(∀b∈g.names,∀x,ρ b=some x→ρ' b=some x)→bg ρ' w D v g:=by
 induction h with
 |s h=>exact fun hf=> .s (h.restrict hf)
 |a hn h=>exact fun hf=> .a hn fun i t ht=>(h i t ht).restrict fun b hb=>hf b (by simp only[GV.names,List.mem_flatMap];exact⟨t,List.mem_of_getElem? ht,hb⟩)
 |p hn _ ih=>exact fun hf=> .p hn fun i g hg=>ih i g hg fun b hb=>hf b (xL (List.mem_of_getElem? hg) b hb)
 |fQ h1 h2 _ _ i1 i2=>exact fun hf=> .fQ h1 h2 (fun i g hg=>i1 i g hg fun b hb=>hf b (List.mem_append_left _ (xL (List.mem_of_getElem? hg) b hb))) fun i g hg=>i2 i g hg fun b hb=>hf b (List.mem_append_right _ (xL (List.mem_of_getElem? hg) b hb))
 |fC _ ih=>exact fun hf=> .fC (ih hf)
 |u=>exact fun _=> .u
theorem dr.restrict {ρ ρ':Nat→Option Value}{w:World}{D:Nat→Prop}{x:Option Value}{y:ak}(h:dr ρ w D x y)(hf:∀b∈y.names,∀x,ρ b=some x→ρ' b=some x):dr ρ' w D x y:=by
 cases y with
 |dead=>trivial
 |rows e k xs=>exact h
 |box cs=>
  obtain⟨g,arr,ty,e,h1,h2,h3⟩:=h;exact⟨g,arr,ty,e,h1,h2,fun i t ht=>(h3 i t ht).restrict fun b hb=>hf b (by simp only[ak.names,List.mem_flatMap];exact⟨t,List.mem_of_getElem? ht,hb⟩)⟩
def zx (m:Nat)(bb:List (Nat×ak)):Bool:=(List.range m).all fun b=>match gt b bb with|some y=>y.live|none=>false
structure Fits (args:List GV) (m:Nat) (bb:List (Nat×ak)):Prop where
 ok:zx m bb=true
 lt:∀x∈bb,x.1<m
 args:∀g∈args,∀b∈g.names,b<m
 bb:∀x∈bb,∀b∈x.2.names,b<m
theorem Fits.live {args:List GV}{m:Nat}{bb:List (Nat×ak)}(h:Fits args m bb){b:Nat}(hb:b<m):∃y,gt b bb=some y∧y.live=true:=by
 have:=h.ok
 simp only[zx,List.all_eq_true,List.mem_range]at this;have:=this b hb
 split at this
 ·rename_i y hy;exact⟨y,hy,this⟩
 ·cases this
theorem dr.some {ρ:Nat→Option Value}{w:World}{D:Nat→Prop}{x:Option Value}{y:ak}(h:dr ρ w D x y)(hl:y.live=true):∃v,x= .some v:=by
 cases y with
 |dead=>simp[ak.live]at hl
 |rows e k xs=>obtain⟨A,c,e,_⟩:=h;exact⟨_,e⟩
 |box cs=>obtain⟨g,arr,ty,e,_⟩:=h;exact⟨_,e⟩
theorem TC.enter {P:Program}{E:List PanicEntry→World→Prop}{f:FuncId}{fn:Func}{c:Code}{args:List GV}{m:Nat}{bb sto':List (Nat×ak)}{r:GV}(hf:P.funcs[f]?=some fn)(hb:fn.body=some c)(hnm:(fn.name== "runtime.NumGoroutine")=false) {nt:Nat} (hnt:fn.ntmps=nt) {xs:List ResultVar} (lF:fn.results.toList=xs) (hn:args.length≤nt) (hfit:Fits args m bb)
  (h:TW P E nt m c (U5 P xs m r sto') ⟨kl 0 args,bb,m⟩):TC P E f args m bb r sto':=by
 subst hnt;refine⟨ML.of hf hb hnm,?_⟩;intro w bJ ρ D hv ha hD pJ og Q3;let C:Ctx:={W:=w,M:=Mf bb ρ,D0:=D,nt:=fn.ntmps,lK:=fun b=>if b<m then ρ b else none}
 have EC:∀b y,gt b bb=some y→b<m:=fun b y hy=>hfit.lt _ (eN hy)
 have cc:∀b y,(ae.get ⟨kl 0 args,bb,m⟩ b)=some y→b<m∧(y= .dead∨gt b bb=some y):=by
  intro b y hy;unfold ae.get at hy;split at hy
  ·rename_i z hz;cases hy;exact⟨EC _ _ hz,.inr hz⟩
  ·split at hy
   ·rename_i aj;cases hy;exact⟨aj,.inl rfl⟩
   ·cases hy
 have dk:∀b,b<m→(fun b=>if b<m then ρ b else none) b=ρ b:=fun b hb=>by simp[hb]
 have xG:bJ.size=args.length:=hv
 have hR:Rel C (iR ⟨kl 0 args,bb,m⟩) (ae.get ⟨kl 0 args,bb,m⟩) {tmps:=bJ++Array.replicate (fn.ntmps-bJ.size) undef,defers:=[]} w (fun b=>if b<m then ρ b else none) D:=by
  refine⟨rfl,rfl,rfl,Nat.le_refl _,fun k _ _=>rfl,fun k hk=>⟨hD k hk,.inl hk⟩,fun b hb=>?_,fun b y hy=>?_,fun b y g hy hl hg=>?_,fun b y b' y' g hy hl dq dm hg bf=>?_,fun t=>?_,rfl,?_,fun b x hx=>hx⟩
  ·unfold ae.get at hb
   split at hb
   ·cases hb
   ·split at hb
    ·cases hb
    ·rename_i h;simp only at h;simp[h]
  ·obtain⟨h1,h2⟩:=cc b y hy
   rcases h2 with rfl|h2
   ·trivial
   ·simp only[h1,if_true]
    exact(pJ b y h2).restrict fun c hc x hx=>by rw[if_pos (hfit.bb _ (eN h2) c hc)];exact hx
  ·obtain⟨h1,h2⟩:=cc b y hy
   rcases h2 with rfl|h2
   ·simp[ak.live]at hl
   ·simp only[h1,if_true]at hg
    exact⟨og b y g h2 hl hg,.inl ⟨b,y,h2,hl,hg⟩⟩
  ·obtain⟨h1,h2⟩:=cc b y hy
   obtain⟨ji,lL⟩:=cc b' y' dq;rcases h2 with rfl|h2
   ·simp[ak.live]at hl
   ·rcases lL with rfl|lL
    ·simp[ak.live]at dm
    ·simp only[h1,ji,if_true]at hg bf
     exact Q3 b y b' y' g h2 hl lL dm hg bf
  ·simp only[iR,zw,Nat.zero_le,if_true,Nat.sub_zero]
   by_cases ht:t<args.length
   ·have hg:args[t]?= .some args[t]:=List.getElem?_eq_getElem ht
    have:=(ha t _ hg).restrict (ρ':=fun b=>if b<m then ρ b else none) fun c hc x hx=>by rw[if_pos (hfit.args _ (List.getElem_mem ht) c hc)];exact hx
    rw[List.getD_eq_getElem?_getD,hg];have e:(bJ++Array.replicate (fn.ntmps-bJ.size) undef).getD t undef=bJ.getD t undef:=by
     have aj:t<bJ.size:=by omega
     simp[Array.getD_eq_getD_getElem?,Array.getElem?_append_left aj]
    rw[e];exact this
   ·rw[List.getD_eq_getElem?_getD,List.getElem?_eq_none (by omega)]
    exact .u
  ·simp only[Array.size_append,Array.size_replicate]
   show _=fn.ntmps
   omega
 refine calls_of_wp hf hb (h C _ w rfl (fun b x hx=>?_) ⟨_,D,hR⟩ _ (fun e s' a' w' hq oH=>?_) fun ch a w' hd hE=>⟨hd,.inl ⟨ch,rfl,hE⟩⟩)
 ·have:(if b<m then ρ b else none)=some x:=hx
  split at this
  ·assumption
  ·cases this
 obtain⟨Ri,De,U6⟩:=oH;have Yu:bo P xs m s' r sto'→a'.defers=[]∧∃v,(results fn a'.tmps).run P w'= .ok v w'∧((∃ch,Ending.returned v= .panicked ch∧E ch w')∨∃v' ρ' D',Ending.returned v= .returned v'∧bg ρ' w' D' v' r∧Yt bb sto' m w w' ρ ρ' D D'):=by
  rintro⟨f',cs,r0,hr⟩;refine⟨U6.defers,?_⟩;obtain⟨v,tG,AI⟩:=U4 U6 lF hr.res;obtain⟨D',ED,IY,lT⟩:=U6.freeze (cs:=cs) fun b hb=>by
   obtain⟨e,k,xs,h⟩:=hr.cons b hb;exact⟨_,h,rfl⟩
  refine⟨v,tG,.inr ⟨v,fun b=>if b<m then ρ b else if(gt b sto').isSome=true then Ri (f' b)else none,D',rfl,?_,?_⟩⟩
  all_goals
   have oQ:∀b,b<m→Ri b=ρ b:=fun b hb=>by
    obtain⟨y,hy,hl⟩:=hfit.live hb;obtain⟨x,hx⟩:=(pJ b y hy).some hl;rw[hx];refine U6.ext b x ?_;show(if b<m then ρ b else none)=some x
    rw[if_pos hb,hx]
   have UZ:∀b,(b<m∨(gt b sto').isSome=true)→∀x,Ri (f' b)=some x→(fun b=>if b<m then ρ b else if(gt b sto').isSome=true then Ri (f' b)else none) b=some x:=by
    intro b hb x hx;by_cases h1:b<m
    ·rw[hr.fix b h1,oQ b h1]at hx
     simp[h1,hx]
    ·simp[h1,hb.resolve_left h1,hx]
   have zy:∀b,(gt b sto').isSome=true→(if b<m then ρ b else if(gt b sto').isSome=true then Ri (f' b)else none)=Ri (f' b):=by
    intro b hb;by_cases h1:b<m
    ·simp only[h1,if_true,hr.fix b h1,oQ b h1]
    ·simp[h1,hb]
  ·have:=AI.cr U6 IY lT
   rw[hr.val]at this;exact this.bB fun b hb=>UZ b (hr.names b hb)
  ·have cC:∀b y,gt b sto'=some y→(fun b=>if b∈cs then some ak.dead else(s'.get b).map (ak.cr s'.get cs)) (f' b)=some (y.bB f')∧(gt b sto').isSome=true∧∀c∈y.names,c<m∨(gt c sto').isSome=true:=by
    intro b y hy;obtain⟨h1,h2,h3⟩:=hr.bb _ (eN hy);exact⟨by simp only[h1,if_false];exact h2,by rw[hy];rfl,h3⟩
   refine⟨ED.os,ED.tape,ED.output,ED.size,fun k hk hM=>ED.old k hk hM,fun k hk=>ED.ro k hk,fun b y hy=>?_,fun b y g hy hl hg=>?_,fun b y b' y' g hy hl dq dm hg bf=>?_,fun b hb=>by simp[hb],fun b hb hy=>?_⟩
   ·obtain⟨h1,h2,h3⟩:=cC b y hy
    simp only[zy b h2];exact(ED.blk _ _ h1).bB fun c hc=>UZ c (h3 c hc)
   ·obtain⟨h1,h2,h3⟩:=cC b y hy
    simp only[zy b h2]at hg;exact ED.own _ _ g h1 (by rw[ak.du];exact hl) hg
   ·obtain⟨h1,h2,h3⟩:=cC b y hy
    obtain⟨ji,lL,I7⟩:=cC b' y' dq;simp only[zy b h2]at hg;simp only[zy b' lL]at bf;exact hr.inj _ (eN hy) _ (eN dq) (ED.sep _ _ _ _ g h1 (by rw[ak.du];exact hl) ji (by rw[ak.du];exact dm) hg bf)
   ·have:¬b<m:=by omega
    simp[this,hy]
 cases e with
 |normal=>exact Yu hq
 |ret=>exact Yu hq
 |_=>exact hq.elim
end Go.Proofs.YtlhohdjniaebbaaGreat.T
