/-
What is proved: names may be changed, forgotten, and rows of the call's own become and what rests on it. Conditions: as stated.
-/
import Derived.Test.YtabjbdnokpjipaaGreatRw30
set_option linter.unusedVariables false
set_option linter.unusedSimpArgs false
namespace Go.Proofs.YtabjbdnokpjipaaGreat.T
open Go Go.RowKit
def TV.bI (f:Nat→Nat):TV→TV
 | .r t=> .r t
 | .own b=> .own (f b)
 | .ptr b o=> .ptr (f b) o
 | .row b k i o=> .row (f b) k i o
 | .kN xs o=> .kN xs o
def TV.names:TV→List Nat
 | .r _=>[]
 | .own b=>[b]
 | .ptr b _=>[b]
 | .row b _ _ _=>[b]
 | .kN _ _=>[]
mutual
def GV.bI (f:Nat→Nat):GV→GV
 | .s t=> .s (t.bI f)
 | .a ts=> .a (ts.map (TV.bI f))
 | .p gs=> .p (ik f gs)
 | .gK fn fs cs=> .gK fn (ik f fs) (ik f cs)
 | .fD t g=> .fD t (g.bI f)
 | .u=> .u
def ik (f:Nat→Nat):List GV→List GV
 |[]=>[]
 |g::gs=>g.bI f::ik f gs
end
mutual
def GV.names:GV→List Nat
 | .s t=>t.names
 | .a ts=>ts.flatMap TV.names
 | .p gs=>dY gs
 | .gK _ fs cs=>dY fs++dY cs
 | .fD _ g=>g.names
 | .u=>[]
def dY:List GV→List Nat
 |[]=>[]
 |g::gs=>g.names++dY gs
end
def az.bI (f:Nat→Nat):az→az
 | .box cs=> .box (cs.map (TV.bI f))
 | .rows e k xs=> .rows e k xs
 | .dead=> .dead
def az.names:az→List Nat
 | .box cs=>cs.flatMap TV.names
 |_=>[]
theorem jF (f:Nat→Nat):∀(gs:List GV) (i:Nat),(ik f gs)[i]?=gs[i]?.map (GV.bI f)
 |[],i=>by simp[ik]
 |g::gs,0=>by simp[ik]
 |g::gs,i+1=>by simp[ik,jF f gs i]
theorem dZ (f:Nat→Nat):∀(gs:List GV),(ik f gs).length=gs.length
 |[]=>rfl
 |g::gs=>by simp[ik,dZ f gs]
theorem Bi {g:GV}:∀{gs:List GV},g∈gs→∀b∈g.names,b∈dY gs
 |x::gs,h,b,hb=>by
  simp only[dY,List.mem_append];rcases List.mem_cons.1 h with rfl|h
  ·exact .inl hb
  ·exact .inr (Bi h b hb)
section
variable {ρ ρ':Nat→Option Value}{w:World}{D:Nat→Prop}{f:Nat→Nat}
theorem cG.bI {v:Value}{t:TV}(h:cG ρ w D v (t.bI f))(hf:∀b∈t.names,∀x,ρ (f b)=some x→ρ' b=some x):cG ρ' w D v t:=by
 cases t with
 |r t=>cases h with|r h=>exact .r h
 |own b=>cases h with|own h=>exact .own (hf b (List.mem_cons_self ..) _ h)
 |ptr b o=>cases h with|ptr h=>exact .ptr (hf b (List.mem_cons_self ..) _ h)
 |row b k i o=>cases h with|row h=>exact .row (hf b (List.mem_cons_self ..) _ h)
 |kN xs o=>cases h with|kN vs h1 h2 h3=>exact .kN vs h1 h2 h3
theorem cG.wW {v:Value}{t:TV}(h:cG ρ' w D v t)(hf:∀b∈t.names,∀x,ρ' b=some x→ρ (f b)=some x):cG ρ w D v (t.bI f):=by
 cases t with
 |r t=>cases h with|r h=>exact .r h
 |own b=>cases h with|own h=>exact .own (hf b (List.mem_cons_self ..) _ h)
 |ptr b o=>cases h with|ptr h=>exact .ptr (hf b (List.mem_cons_self ..) _ h)
 |row b k i o=>cases h with|row h=>exact .row (hf b (List.mem_cons_self ..) _ h)
 |kN xs o=>cases h with|kN vs h1 h2 h3=>exact .kN vs h1 h2 h3
theorem bA.YJ {v:Value}{g':GV}(h:bA ρ w D v g'):∀g,g'=g.bI f→(∀b∈g.names,∀x,ρ (f b)=some x→ρ' b=some x)→bA ρ' w D v g:=by
 induction h with
 |s h=>
  intro g e hf
  cases g<;>simp only[GV.bI,reduceCtorEq,GV.s.injEq]at e
  subst e;exact .s (h.bI hf)
 |a hn h=>
  intro g e hf
  cases g<;>simp only[GV.bI,reduceCtorEq,GV.a.injEq]at e
  rename_i ts;subst e;refine .a (by simpa using hn) fun i t ht=>(h i (t.bI f) (by simp[ht])).bI fun b hb=>hf b ?_
  simp only[GV.names,List.mem_flatMap];exact⟨t,List.mem_of_getElem? ht,hb⟩
 |p hn _ ih=>
  intro g e hf
  cases g<;>simp only[GV.bI,reduceCtorEq,GV.p.injEq]at e
  rename_i gs;subst e;refine .p (by rw[hn,dZ]) fun i g hg=>ih i (g.bI f) (by rw[jF,hg];rfl) g rfl fun b hb=>hf b ?_
  exact Bi (List.mem_of_getElem? hg) b hb
 |gK h1 h2 _ _ i1 i2=>
  intro g e hf
  cases g<;>simp only[GV.bI,reduceCtorEq,GV.gK.injEq]at e
  rename_i SH fs' cz;obtain⟨rfl,rfl,rfl⟩:=e;refine .gK (by rw[h1,dZ]) (by rw[h2,dZ]) (fun i g hg=>i1 i (g.bI f) (by rw[jF,hg];rfl) g rfl fun b hb=>hf b ?_) fun i g hg=>i2 i (g.bI f) (by rw[jF,hg];rfl) g rfl fun b hb=>hf b ?_
  ·exact List.mem_append_left _ (Bi (List.mem_of_getElem? hg) b hb)
  ·exact List.mem_append_right _ (Bi (List.mem_of_getElem? hg) b hb)
 |fD _ ih=>
  intro g e hf
  cases g<;>simp only[GV.bI,reduceCtorEq,GV.fD.injEq]at e
  obtain⟨rfl,e⟩:=e;exact .fD (ih _ e hf)
 |u=>
  intro g e hf
  cases g<;>simp only[GV.bI,reduceCtorEq]at e
  exact .u
theorem bA.bI {v:Value}{g:GV}(h:bA ρ w D v (g.bI f))(hf:∀b∈g.names,∀x,ρ (f b)=some x→ρ' b=some x):bA ρ' w D v g:=h.YJ g rfl hf
theorem bA.wW {v:Value}{g:GV}(h:bA ρ' w D v g)(hf:∀b∈g.names,∀x,ρ' b=some x→ρ (f b)=some x):bA ρ w D v (g.bI f):=by
 induction h with
 |s h=>exact .s (h.wW hf)
 |a hn h=>
  refine .a (by simpa using hn) fun i t ht=>?_
  rw[List.getElem?_map,Option.map_eq_some_iff]at ht;obtain⟨t',Bj,rfl⟩:=ht;refine(h i t' Bj).wW fun b hb=>hf b ?_
  simp only[GV.names,List.mem_flatMap];exact⟨t',List.mem_of_getElem? Bj,hb⟩
 |p hn _ ih=>
  refine .p (by rw[hn,dZ]) fun i g hg=>?_
  rw[jF,Option.map_eq_some_iff]at hg;obtain⟨g',bu,rfl⟩:=hg;exact ih i g' bu fun b hb=>hf b (Bi (List.mem_of_getElem? bu) b hb)
 |gK h1 h2 _ _ i1 i2=>
  refine .gK (by rw[h1,dZ]) (by rw[h2,dZ]) (fun i g hg=>?_) fun i g hg=>?_
  ·rw[jF,Option.map_eq_some_iff]at hg
   obtain⟨g',bu,rfl⟩:=hg;exact i1 i g' bu fun b hb=>hf b (List.mem_append_left _ (Bi (List.mem_of_getElem? bu) b hb))
  ·rw[jF,Option.map_eq_some_iff]at hg
   obtain⟨g',bu,rfl⟩:=hg;exact i2 i g' bu fun b hb=>hf b (List.mem_append_right _ (Bi (List.mem_of_getElem? bu) b hb))
 |fD _ ih=>exact .fD (ih hf)
 |u=>exact .u
theorem ew.bI {x:Option Value}{y:az}(h:ew ρ w D x (y.bI f))(hf:∀b∈y.names,∀x,ρ (f b)=some x→ρ' b=some x):ew ρ' w D x y:=by
 cases y with
 |dead=>trivial
 |rows e k xs=>exact h
 |box cs=>
  obtain⟨g,arr,ty,e,h1,h2,h3⟩:=h;refine⟨g,arr,ty,e,h1,by simpa using h2,fun i t ht=>(h3 i (t.bI f) (by simp[ht])).bI fun b hb=>hf b ?_⟩
  simp only[az.names,List.mem_flatMap];exact⟨t,List.mem_of_getElem? ht,hb⟩
theorem ew.wW {x:Option Value}{y:az}(h:ew ρ' w D x y)(hf:∀b∈y.names,∀x,ρ' b=some x→ρ (f b)=some x):ew ρ w D x (y.bI f):=by
 cases y with
 |dead=>trivial
 |rows e k xs=>exact h
 |box cs=>
  obtain⟨g,arr,ty,e,h1,h2,h3⟩:=h;refine⟨g,arr,ty,e,h1,by simpa using h2,fun i t ht=>?_⟩
  rw[List.getElem?_map,Option.map_eq_some_iff]at ht;obtain⟨t',Bj,rfl⟩:=ht;refine(h3 i t' Bj).wW fun b hb=>hf b ?_
  simp only[az.names,List.mem_flatMap];exact⟨t',List.mem_of_getElem? Bj,hb⟩
theorem az.eO (y:az):(y.bI f).live=y.live:=by cases y<;>rfl
end
def TV.cX (get:Nat→Option az)(cs:List Nat):TV→TV
 | .own b=>if b∈cs then match get b with
   |some (.rows _ k xs)=> .r (.sl k xs)
   |_=> .own b
   else .own b
 |t=>t
mutual
def GV.cX (get:Nat→Option az)(cs:List Nat):GV→GV
 | .s t=> .s (t.cX get cs)
 | .a ts=> .a (ts.map (TV.cX get cs))
 | .p gs=> .p (il get cs gs)
 | .gK fn fs ds=> .gK fn fs ds
 | .fD t g=> .fD t (g.cX get cs)
 | .u=> .u
def il (get:Nat→Option az)(cs:List Nat):List GV→List GV
 |[]=>[]
 |g::gs=>g.cX get cs::il get cs gs
end
def az.cX (get:Nat→Option az)(cs:List Nat):az→az
 | .box ts=> .box (ts.map (TV.cX get cs))
 |y=>y
theorem qx (get:Nat→Option az)(cs:List Nat):∀(gs:List GV) (i:Nat),(il get cs gs)[i]?=gs[i]?.map (GV.cX get cs)
 |[],i=>by simp[il]
 |g::gs,0=>by simp[il]
 |g::gs,i+1=>by simp[il,qx get cs gs i]
theorem jG (get:Nat→Option az)(cs:List Nat):∀(gs:List GV),(il get cs gs).length=gs.length
 |[]=>rfl
 |g::gs=>by simp[il,jG get cs gs]
theorem TV.ku {get get':Nat→Option az}{cs:List Nat}(h:∀b∈cs,get b=get' b)(t:TV):t.cX get cs=t.cX get' cs:=by
 unfold TV.cX;split
 ·rename_i b
  by_cases hb:b∈cs
  ·rw[h b hb]
  ·simp[hb]
 ·rfl
mutual
theorem GV.ku {get get':Nat→Option az}{cs:List Nat}(h:∀b∈cs,get b=get' b):∀(g:GV),g.cX get cs=g.cX get' cs
 | .s t=>by simp only[GV.cX,TV.ku h]
 | .a ts=>by simp only[GV.cX];congr 1;exact List.map_congr_left fun t _=>TV.ku h t
 | .p gs=>by simp only[GV.cX,As h gs]
 | .gK _ _ _=>by simp only[GV.cX]
 | .fD _ g=>by simp only[GV.cX,GV.ku h g]
 | .u=>by simp only[GV.cX]
theorem As {get get':Nat→Option az}{cs:List Nat}(h:∀b∈cs,get b=get' b):∀(gs:List GV),il get cs gs=il get' cs gs
 |[]=>by simp only[il]
 |g::gs=>by simp only[il,GV.ku h g,As h gs]
end
section
variable {C:Ctx}{env:Nat→GV}{get:Nat→Option az}{a:Act}{w:World}{ρ:Nat→Option Value}{D D':Nat→Prop}{cs:List Nat}
theorem cG.cX (hR:Rel C env get a w ρ D)(hD:∀k,D k→D' k)(hb:∀b∈cs,∀g,bS (ρ b)=some g→D' g){v:Value}{t:TV}(h:cG ρ w D v t):cG ρ w D' v (t.cX get cs):=by
 unfold TV.cX;split
 ·rename_i b
  split
  ·rename_i hm
   split
   ·rename_i e k xs hg
    have:(ah.Am ⟨[],[(b,.rows e k xs)],0⟩ (.own b))=some (.sl k xs,[b]):=by simp[ah.Am,ah.get,gt]
    refine .r (FO hR this (fun c hc=>?_) hD (fun c hc=>hb c ?_) h)
    ·simp only[List.mem_cons,List.not_mem_nil,or_false]at hc
     subst hc;rw[hg];simp[ah.get,gt]
    ·simp only[List.mem_cons,List.not_mem_nil,or_false]at hc
     subst hc;exact hm
   ·exact h.keep (fun _ _ h=>h) (cD.refl _ _) hD
  ·exact h.keep (fun _ _ h=>h) (cD.refl _ _) hD
 ·exact h.keep (fun _ _ h=>h) (cD.refl _ _) hD
theorem bA.cX (hR:Rel C env get a w ρ D)(hD:∀k,D k→D' k)(hb:∀b∈cs,∀g,bS (ρ b)=some g→D' g){v:Value}{g:GV}(h:bA ρ w D v g):bA ρ w D' v (g.cX get cs):=by
 induction h with
 |s h=>exact .s (h.cX hR hD hb)
 |a hn h=>
  refine .a (by simpa using hn) fun i t ht=>?_
  rw[List.getElem?_map,Option.map_eq_some_iff]at ht;obtain⟨t',Bj,rfl⟩:=ht;exact(h i t' Bj).cX hR hD hb
 |p hn _ ih=>
  refine .p (by rw[hn,jG]) fun i g hg=>?_
  rw[qx,Option.map_eq_some_iff]at hg;obtain⟨g',bu,rfl⟩:=hg;exact ih i g' bu
 |gK h1 h2 h3 h4 _ _=>exact .gK h1 h2 (fun i g hg=>(h3 i g hg).keep (fun _ _ h=>h) (cD.refl _ _) hD) fun i g hg=>(h4 i g hg).keep (fun _ _ h=>h) (cD.refl _ _) hD
 |fD _ ih=>exact .fD ih
 |u=>exact .u
theorem Rel.freeze (hR:Rel C env get a w ρ D)(hb:∀b∈cs,∃z,get b=some z∧z.live=true):∃D',Rel C (fun t=>(env t).cX get cs) (fun b=>if b∈cs then some .dead else(get b).map (az.cX get cs)) a w ρ D'∧(∀k,D k→D' k)∧∀b∈cs,∀g,bS (ρ b)=some g→D' g:=by
 obtain⟨D',h,hD,oD⟩:=hR.consume cs hb;have Wp:∀c,gt c (cs.map fun b=>(b,az.dead))=if c∈cs then some .dead else none:=by
  intro c;clear hb h oD;induction cs with
  |nil=>rfl
  |cons b bs ih=>
   simp only[List.map_cons,gt,List.mem_cons];rw[ih];by_cases e:c=b<;>simp[e]
 have MS:∀c,upd get (cs.map fun b=>(b,az.dead)) c=if c∈cs then some .dead else get c:=by
  intro c;simp only[upd,Wp];split<;>simp_all
 refine⟨D',⟨h.os,h.tape,h.output,h.size,h.old,h.ro,fun c hc=>?_,fun c y hc=>?_,fun c y g hc hl hg=>?_,fun c y1 c' y2 g hc hl cI bz hg bu=>?_,fun t=>(hR.env t).cX hR hD oD,h.defers,h.nt,h.ext⟩,hD,oD⟩
 ·split at hc
  ·cases hc
  ·rename_i hn
   exact hR.free c (by simpa using hc)
 ·split at hc
  ·cases hc;trivial
  ·rename_i hn
   obtain⟨y',eL,rfl⟩:=Option.map_eq_some_iff.1 hc;have:=hR.blk c y' eL
   cases y' with
   |dead=>trivial
   |rows e k xs=>exact this.keep (fun _ _ h=>h) (cD.refl _ _) hD (.inr fun _ _=>rfl)
   |box ts=>
    obtain⟨g,arr,ty,e1,h1,h2,h3⟩:=this;refine⟨g,arr,ty,e1,h1,by simpa using h2,fun i t ht=>?_⟩
    rw[List.getElem?_map,Option.map_eq_some_iff]at ht;obtain⟨t',Bj,rfl⟩:=ht;exact(h3 i t' Bj).cX hR hD oD
 ·split at hc
  ·cases hc;simp[az.live]at hl
  ·rename_i hn
   obtain⟨y',eL,rfl⟩:=Option.map_eq_some_iff.1 hc;refine h.own c y' g (by rw[MS,if_neg hn];exact eL) ?_ hg
   cases y'<;>first|rfl|(simp[az.cX,az.live]at hl)
 ·split at hc
  ·cases hc;simp[az.live]at hl
  ·split at cI
   ·cases cI;simp[az.live]at bz
   ·rename_i hn Cb
    obtain⟨y',eL,rfl⟩:=Option.map_eq_some_iff.1 hc;obtain⟨y'',adq,rfl⟩:=Option.map_eq_some_iff.1 cI;refine h.sep c y' c' y'' g (by rw[MS,if_neg hn];exact eL) ?_ (by rw[MS,if_neg Cb];exact adq) ?_ hg bu
    ·cases y'<;>first|rfl|(simp[az.cX,az.live]at hl)
    ·cases y''<;>first|rfl|(simp[az.cX,az.live]at bz)
theorem Rel.rename (hR:Rel C env get a w ρ D){RQ:Nat→GV}{get':Nat→Option az}{f:Nat→Nat}{nx:Nat}(adr:∀b x,C.oo b=some x→f b=b∧b<nx)(ads:∀t,RQ t= .u∨(env t=(RQ t).bI f∧∀b∈(RQ t).names,b<nx))
  (dR:∀b y,get' b=some y→b<nx∧(y= .dead∨(get (f b)=some (y.bI f)∧∀c∈y.names,c<nx))) (acg:∀b,b<nx→get' b≠none) (adt:∀b y b' y',get' b=some y→y.live=true→get' b'=some y'→y'.live=true→f b=f b'→b=b'):
  Rel C RQ get' a w (fun b=>if b<nx then ρ (f b)else none) D:=by
 have eK:∀b,b<nx→∀x,ρ (f b)=some x→(fun b=>if b<nx then ρ (f b)else none) b=some x:=fun b hb x hx=>by simp[hb,hx]
 refine⟨hR.os,hR.tape,hR.output,hR.size,hR.old,hR.ro,fun b hb=>?_,fun b y hy=>?_,fun b y g hy hl hg=>?_,fun b y b' y' g hy hl eL bz hg bu=>?_,fun t=>?_,hR.defers,hR.nt,fun b x hx=>?_⟩
 ·have:¬b<nx:=fun h=>acg b h hb
  simp[this]
 ·obtain⟨h1,h2⟩:=dR b y hy
  rcases h2 with rfl|⟨h2,h3⟩
  ·trivial
  ·simp only[h1,if_true]
   exact(hR.blk _ _ h2).bI fun c hc=>eK c (h3 c hc)
 ·obtain⟨h1,h2⟩:=dR b y hy
  rcases h2 with rfl|⟨h2,h3⟩
  ·simp[az.live]at hl
  ·simp only[h1,if_true]at hg
   exact hR.own _ _ g h2 (by rw[az.eO];exact hl) hg
 ·obtain⟨h1,h2⟩:=dR b y hy
  obtain⟨jg,ot⟩:=dR b' y' eL;rcases h2 with rfl|⟨h2,h3⟩
  ·simp[az.live]at hl
  ·rcases ot with rfl|⟨ot,M8⟩
   ·simp[az.live]at bz
   ·simp only[h1,jg,if_true]at hg bu
    exact adt b y b' y' hy hl eL bz (hR.sep _ _ _ _ g h2 (by rw[az.eO];exact hl) ot (by rw[az.eO];exact bz) hg bu)
 ·rcases ads t with h|⟨h1,h2⟩
  ·rw[h];exact .u
  ·have:=hR.env t
   rw[h1]at this;exact this.bI fun b hb=>eK b (h2 b hb)
 ·obtain⟨h1,h2⟩:=adr b x hx
  simp only[h2,if_true,h1];exact hR.ext b x hx
end
end Go.Proofs.YtabjbdnokpjipaaGreat.T
namespace Go.Proofs.YtabjbdnokpjipaaGreat.T
open Go Go.RowKit
def iI (s:ah):Nat→GV:=fun t=>lk t s.env
theorem RS (t:Nat):∀(e:List (Nat×GV)),lk t e= .u∨(t,lk t e)∈e
 |[]=> .inl rfl
 |(u,g)::e=>by
  simp only[lk];split
  ·rename_i h;subst h;exact .inr (List.mem_cons_self ..)
  ·rcases RS t e with h|h
   ·exact .inl h
   ·exact .inr (List.mem_cons_of_mem _ h)
theorem gq {b:Nat}:∀{l:List (Nat×az)} {y:az},gt b l=some y→(b,y)∈l
 |(u,z)::l,y,h=>by
  simp only[gt]at h;split at h
  ·rename_i e;subst e;cases h;exact List.mem_cons_self ..
  ·exact List.mem_cons_of_mem _ (gq h)
def TW (P:Program)(E:List PanicEntry→World→Prop)(nt m:Nat)(c:Code)(Q:Exit→ah→Prop)(s:ah):Prop:=
 ∀C a w,C.nt=nt→(∀b x,C.oo b=some x→b<m)→R C (iI s) s.get a w→∀Q':Exit→Act→World→Prop,(∀e s' a' w',Q e s'→R C (iI s') s'.get a' w'→Q' e a' w')→CP E Q'→c.wp P Q' a w
structure abu (m:Nat) (s s':ah) (f:Nat→Nat) (cs:List Nat):Prop where
 cons:∀b∈cs,∃e k xs,s.get b=some (.rows e k xs)
 env:∀x∈s'.env,x.2= .u∨((lk x.1 s.env).cX s.get cs=x.2.bI f∧∀b∈x.2.names,b<s'.nx)
 bp:∀x∈s'.bp,x.1<s'.nx∧f x.1∉cs∧(s.get (f x.1)).map (az.cX s.get cs)=some (x.2.bI f)∧∀b∈x.2.names,b<s'.nx
 inj:∀x∈s'.bp,∀y∈s'.bp,f x.1=f y.1→x.1=y.1
 fix:m≤s'.nx∧∀b,b<m→f b=b
theorem R.weaken {C:Ctx}{m:Nat}{s s':ah}{f:Nat→Nat}{cs:List Nat}(h:abu m s s' f cs){a:Act}{w:World}(hm:∀b x,C.oo b=some x→b<m)(hR:R C (iI s) s.get a w):R C (iI s') s'.get a w:=by
 obtain⟨ρ,D,hR⟩:=hR;obtain⟨D',ru,_⟩:=hR.freeze (cs:=cs) fun b hb=>by
  obtain⟨e,k,xs,h⟩:=h.cons b hb;exact⟨_,h,rfl⟩
 have Co:∀b y,s'.get b=some y→(b<s'.nx∧y= .dead)∨(b,y)∈s'.bp:=by
  intro b y hy;unfold ah.get at hy;split at hy
  ·rename_i z hz
   cases hy;exact .inr (gq hz)
  ·split at hy
   ·rename_i ak;cases hy;exact .inl ⟨ak,rfl⟩
   ·cases hy
 refine⟨_,D',ru.rename (f:=f) (nx:=s'.nx) (fun b x hx=>⟨h.fix.2 b (hm b x hx),Nat.lt_of_lt_of_le (hm b x hx) h.fix.1⟩) (fun t=>?_) (fun b y hy=>?_) (fun b hb=>?_) fun b y b' y' hy hl eL bz hff=>?_⟩
 ·rcases RS t s'.env with h1|h1
  ·exact .inl h1
  ·exact h.env _ h1
 ·rcases Co b y hy with⟨h1,rfl⟩|h1
  ·exact⟨h1,.inl rfl⟩
  ·obtain⟨h2,h3,h4,h5⟩:=h.bp _ h1
   exact⟨h2,.inr ⟨by rw[if_neg h3];exact h4,h5⟩⟩
 ·unfold ah.get
  split
  ·simp
  ·simp[hb]
 ·rcases Co b y hy with⟨_,rfl⟩|h1
  ·simp[az.live]at hl
  ·rcases Co b' y' eL with⟨_,rfl⟩|h2
   ·simp[az.live]at bz
   ·exact h.inj _ h1 _ h2 hff
def Wk (m:Nat)(s s':ah):Prop:=∃f cs,abu m s s' f cs
section
variable {P:Program}{E:List PanicEntry→World→Prop}{nt m:Nat}{Q:Exit→ah→Prop}{s:ah}
theorem TW.weaken {c:Code}(s':ah)(h:Wk m s s')(hw:TW P E nt m c Q s'):TW P E nt m c Q s:=by
 obtain⟨f,cs,h⟩:=h;exact fun C a w hn hm hR=>hw C a w hn hm (R.weaken h hm hR)
theorem TW.mono {c:Code}{Q':Exit→ah→Prop}(h:TW P E nt m c Q s)(hq:∀e s,Q e s→Q' e s):TW P E nt m c Q' s:=
 fun C a w hn hm hR Q'' hQ hE=>h C a w hn hm hR Q'' (fun e s' a' w' h1 h2=>hQ e s' a' w' (hq _ _ h1) h2) hE
theorem TW.skip (h:Q .normal s):TW P E nt m .skip Q s:=fun C a w _ _ hR Q' hQ _=>wp_skip (hQ _ _ _ _ h hR)
theorem TW.exit {id:Nat}(h:Q (.exit id) s):TW P E nt m (.exit id) Q s:=fun C a w _ _ hR Q' hQ _=>wp_exit (hQ _ _ _ _ h hR)
theorem TW.ret (h:Q .ret s):TW P E nt m .ret Q s:=fun C a w _ _ hR Q' hQ _=>wp_ret (hQ _ _ _ _ h hR)
def tQ (next:ah→Prop)(Q:Exit→ah→Prop):Exit→ah→Prop
 | .normal,s=>next s
 |e,s=>Q e s
theorem TW.seq {x y:Code}(h:TW P E nt m x (tQ (TW P E nt m y Q) Q) s):TW P E nt m (.seq x y) Q s:=by
 intro C a w hn hm hR Q' hQ hE;refine wp_seq (h C a w hn hm hR _ (fun e s' a' w' h1 h2=>?_) fun ch a w h1 h2=>hE ch a w h1 h2)
 cases e with
 |normal=>exact h1 C a' w' hn hm h2 Q' hQ hE
 |_=>exact hQ _ _ _ _ h1 h2
theorem TW.cond {c:Operand}{x y:Code}{b:Bool}(hb:(s.ev c).b?=some b)(h1:b=true→TW P E nt m x Q s)(h2:b=false→TW P E nt m y Q s):TW P E nt m (.cond c x y) Q s:=by
 intro C a w hn hm hR Q' hQ hE;obtain⟨ρ,D,hr⟩:=hR;have hi:∀x∈bN s.env [c],iI s x.1=x.2:=by
  intro x hx
  cases c<;>simp only[bN,List.mem_cons,List.not_mem_nil,or_false]at hx
  subst hx;rfl
 have hc:=GV.BJ hb (br hr hi (List.mem_cons_self ..));exact wp_cond_split hc (fun e=>h1 e C a w hn hm ⟨ρ,D,hr⟩ Q' hQ hE) fun e=>h2 e C a w hn hm ⟨ρ,D,hr⟩ Q' hQ hE
def bQ (id:Nat)(Q:Exit→ah→Prop):Exit→ah→Prop
 | .exit SI,s=>if SI=id then Q .normal s else Q (.exit SI) s
 |e,s=>Q e s
theorem TW.block {id:Nat}{c:Code}(h:TW P E nt m c (bQ id Q) s):TW P E nt m (.block id c) Q s:=by
 intro C a w hn hm hR Q' hQ hE;refine wp_block (h C a w hn hm hR _ (fun e s' a' w' h1 h2=>?_) fun ch a w h1 h2=>hE ch a w h1 h2)
 cases e with
 |exit SI=>
  simp only[bQ,Exit.inBlock]at h1⊢;split
  ·rename_i e;rw[if_pos e]at h1;exact hQ _ _ _ _ h1 h2
  ·rename_i e;rw[if_neg e]at h1;exact hQ _ _ _ _ h1 h2
 |_=>exact hQ _ _ _ _ h1 h2
theorem TW.loop {α:Type}{c:Code}(I:α→ah)(p:α→Prop)(μ:α→Nat)(x:α)(hx:p x)(h0:Wk m s (I x))
  (round:∀x,p x→TW P E nt m c (tQ (fun s'=>∃y,p y∧μ y<μ x∧Wk m s' (I y)) Q) (I x)):TW P E nt m (.loop c) Q s:=by
 intro C a w hn hm hR Q' hQ hE b k cs;have key:∀n x a w,μ x=n→p x→R C (iI (I x)) (I x).get a w→
   ∃e a' w',Q' e a' w'∧Arrives P (lone (b.at a (.code c:: .inLoop c::k)) cs w) b k cs e a' w':=by
  intro n;induction n using Nat.strongRecOn with
  |_ n ih=>
   intro x a w Cb hp hRx;obtain⟨e,a1,w1,hq,At⟩:=round x hp C a w hn hm hRx (Exit.then (fun a w=>∃y,p y∧μ y<μ x∧R C (iI (I y)) (I y).get a w) Q') (fun e s' a' w' h1 h2=>by
    cases e with
    |normal=>
     obtain⟨y,y1,y2,f,cs,y3⟩:=h1;exact⟨y,y1,y2,R.weaken y3 hm h2⟩
    |_=>exact hQ _ _ _ _ h1 h2) (fun ch a w h1 h2=>hE ch a w h1 h2) b (.inLoop c::k) cs
   cases e with
   |normal=>
    obtain⟨y,y1,y2,y3⟩:=hq;obtain⟨e2,a2,w2,JL,ach⟩:=ih (μ y) (Cb▸y2) y a1 w1 rfl y1 y3;exact⟨e2,a2,w2,JL,.of_steps (Steps.trans At (.one step_inLoop)) ach⟩
   |exit id=>exact⟨_,a1,w1,hq,.pass (x:= .inLoop c) rfl (fun _ _=> .inl (by simp)) At⟩
   |goto l=>exact⟨_,a1,w1,hq,.pass (x:= .inLoop c) rfl (fun _ _=> .inl (by simp)) At⟩
   |ret=>exact⟨_,a1,w1,hq,.pass (x:= .inLoop c) rfl (fun _ _=> .inl (by simp)) At⟩
   |panic ch=>exact⟨_,a1,w1,hq,.pass (x:= .inLoop c) rfl (fun _ _=> .inl (by simp)) At⟩
   |outgrown=>exact⟨_,a1,w1,hq,.pass (x:= .inLoop c) rfl (fun _ _=> .inl (by simp)) At⟩
 obtain⟨f,cs0,h0⟩:=h0;obtain⟨e,a',w',hq,At⟩:=key _ x a w rfl hx (R.weaken h0 hm hR);exact⟨e,a',w',hq,.of_steps (.one step_loop) At⟩
end
def Mf (bp:List (Nat×az))(ρ:Nat→Option Value)(k:Nat):Prop:=∃b y,gt b bp=some y∧y.live=true∧bS (ρ b)=some k
structure abv (bp sto':List (Nat×az)) (m:Nat) (w w':World) (ρ ρ':Nat→Option Value) (D D':Nat→Prop):Prop where
 os:w'.os=w.os
 tape:w'.tape=w.tape
 output:w'.output=w.output
 size:w.heap.size≤w'.heap.size
 old:∀k,k<w.heap.size→¬Mf bp ρ k→w'.heap[k]?=w.heap[k]?
 ro:∀k,D' k→k<w'.heap.size∧(D k∨Mf bp ρ k∨w.heap.size≤k)
 blk:∀b y,gt b sto'=some y→ew ρ' w' D' (ρ' b) y
 own:∀b y g,gt b sto'=some y→y.live=true→bS (ρ' b)=some g→¬D' g∧(Mf bp ρ g∨w.heap.size≤g)
 sep:∀b y b' y' g,gt b sto'=some y→y.live=true→gt b' sto'=some y'→y'.live=true→bS (ρ' b)=some g→bS (ρ' b')=some g→b=b'
 same:∀b,b<m→ρ' b=ρ b
 free:∀b,m≤b→gt b sto'=none→ρ' b=none
def QI (P:Program)(f:FuncId):Prop:=∀args w,(callFunc f args).run P w= .ok (.enter f args) w
theorem QI.of {P:Program}{f:FuncId}{fn:Func}{c:Code}(hf:P.funcs[f]?=some fn)(hb:fn.body=some c)(hn:(fn.name== "runtime.NumGoroutine")=false):QI P f:=by
 intro args w;simp only[callFunc,Sem.run_bind,run_program,Result.andThen_ok,hf,hn,hb,Option.isNone_some,Bool.false_eq_true,if_false,Sem.run_pure]
def TC (P:Program)(E:List PanicEntry→World→Prop)(f:FuncId)(args:List GV)(m:Nat)(bp:List (Nat×az))(r:GV)(sto':List (Nat×az)):Prop:=
 QI P f∧∀(w:World) (bR:Array Value) (ρ:Nat→Option Value) (D:Nat→Prop),bR.size=args.length→(∀(i:Nat) (g:GV),args[i]?=some g→bA ρ w D (bR.getD i undef) g)→(∀k,D k→k<w.heap.size)→
  (∀b y,gt b bp=some y→ew ρ w D (ρ b) y)→(∀b y g,gt b bp=some y→y.live=true→bS (ρ b)=some g→¬D g)→
  (∀b y b' y' g,gt b bp=some y→y.live=true→gt b' bp=some y'→y'.live=true→bS (ρ b)=some g→bS (ρ b')=some g→b=b')→
  Calls P f bR w fun e w'=>(∃ch,e= .panicked ch∧E ch w')∨∃v ρ' D',e= .returned v∧bA ρ' w' D' v r∧abv bp sto' m w w' ρ ρ' D D'
def ah.RU (P:Program)(s:ah):ResultVar→Option GV
 | .tmp t=>some (lk t s.env)
 | .cell t ty=>match aM P ty with
   |some d=>match s.deref (lk t s.env)with
    |some (_,cs)=>if d.size≤cs.length then some (T.mk d.k.agg (cs.take d.size))else none
    |none=>none
   |none=>none
def ah.FX (P:Program)(s:ah):List ResultVar→Option (List GV)
 |[]=>some []
 |x::xs=>match s.RU P x with
  |some g=>match s.FX P xs with
   |some gs=>some (g::gs)
   |none=>none
  |none=>none
def ah.res (P:Program)(s:ah)(xs:List ResultVar):Option GV:=match s.FX P xs with
 |some [g]=>some g
 |some gs=>some (.p gs)
 |none=>none
def BK (tmps:Array Value):ResultVar→Sem Value
 | .tmp t=>pure (tmps.getD t undef)
 | .cell t ty=>do loadVar ty (←asAddr (tmps.getD t undef))
theorem M9 (fn:Func)(tmps:Array Value):results fn tmps=(do let vs←fn.results.mapM (BK tmps);pure (if h:vs.size=1 then vs[0]else .tuple vs)):=by
 unfold results;congr 1
theorem Va {P:Program}{C:Ctx}{a:Act}{w:World}{ρ:Nat→Option Value}{D:Nat→Prop}{s:ah}(hR:Rel C (iI s) s.get a w ρ D){x:ResultVar}{g:GV}(h:s.RU P x=some g):
  ∃v,(BK a.tmps x).run P w= .ok v w∧bA ρ w D v g:=by
 cases x with
 |tmp t=>cases h;exact⟨_,rfl,hR.env t⟩
 |cell t ty=>
  simp only[ah.RU]at h;split at h
  ·rename_i d hd
   split at h
   ·rename_i fr cs hc
    split at h
    ·rename_i hl
     cases h;have fO:∀x∈fr,s.get x.1=x.2:=by
      unfold ah.deref at hc;split at hc
      ·split at hc
       ·rename_i hg;cases hc;intro x hx;simp at hx;subst hx;exact hg
       ·cases hc
      ·split at hc
       ·rename_i hg
        split at hc
        ·split at hc
         ·cases hc;intro x hx;simp at hx;subst hx;exact hg
         ·cases hc
        ·cases hc
       ·cases hc
      ·cases hc;intro x hx;cases hx
      ·cases hc
     obtain⟨b,k,e1,hcc⟩:=wR hR hc fO (hR.env t);have rr:=(c9 hd).2.2.2;have cI:∀j,j<d.size→w.cell? ⟨b,k+j,none⟩=some ((w.cell? ⟨b,k+j,none⟩).getD undef):=fun j hj=>by
      obtain⟨x,hx,_⟩:=hcc j cs[j] (List.getElem?_eq_getElem (by omega))
      simp[hx]
     refine⟨_,by simp only[BK,e1,asAddr,Sem.run_bind,Sem.run_pure,Result.andThen_ok];rw[nn hd rr _ cI],?_⟩
     refine xW (by simp;omega) (fun i t hi=>?_) (by rcases rr with h1|h1;exact .inl h1;right;simp;omega)
     rw[List.getElem?_take]at hi;split at hi
     ·rename_i ak
      obtain⟨x,hx,hr⟩:=hcc i t hi;simpa[Array.getD_eq_getD_getElem?,ak,hx]using hr
     ·cases hi
    ·cases h
   ·cases h
  ·cases h
theorem FY {P:Program}{C:Ctx}{a:Act}{w:World}{ρ:Nat→Option Value}{D:Nat→Prop}{s:ah}(hR:Rel C (iI s) s.get a w ρ D):∀{xs:List ResultVar} {gs:List GV},s.FX P xs=some gs→
  ∃vs:List Value,(xs.mapM (BK a.tmps)).run P w= .ok vs w∧vs.length=gs.length∧∀(i:Nat) (g:GV),gs[i]?=some g→bA ρ w D (vs.getD i undef) g
 |[],gs,h=>by cases h;exact⟨[],by simp,rfl,fun i g hg=>by simp at hg⟩
 |x::xs,gs,h=>by
  simp only[ah.FX]at h;split at h
  ·rename_i g hg
   split at h
   ·rename_i bX dQ
    cases h;obtain⟨v,h1,h2⟩:=Va hR hg;obtain⟨vs,h3,h4,h5⟩:=FY hR dQ;refine⟨v::vs,?_,by simp[h4],fun i g hg=>?_⟩
    ·rw[List.mapM_cons,Sem.run_bind,h1,Result.andThen_ok,Sem.run_bind,h3,Result.andThen_ok]
     rfl
    ·cases i with
     |zero=>simp only[List.getElem?_cons_zero,Option.some.injEq]at hg;subst hg;simpa using h2
     |succ i=>simpa using h5 i g (by simpa using hg)
   ·cases h
  ·cases h
theorem YK {P:Program}{C:Ctx}{a:Act}{w:World}{ρ:Nat→Option Value}{D:Nat→Prop}{s:ah}(hR:Rel C (iI s) s.get a w ρ D){fn:Func}{xs:List ResultVar}(fj:fn.results.toList=xs){g:GV}(h:s.res P xs=some g):∃v,(results fn a.tmps).run P w= .ok v w∧bA ρ w D v g:=by
 subst fj;unfold ah.res at h
 cases hl:s.FX P fn.results.toList with
 |none=>simp[hl]at h
 |some gs=>
  obtain⟨vs,h1,h2,h3⟩:=FY hR hl;have eV:(results fn a.tmps).run P w= .ok (if h:vs.toArray.size=1 then vs.toArray[0]else .tuple vs.toArray) w:=by
   rw[M9,Sem.run_bind,Array.mapM_eq_mapM_toList,Sem.run_map,h1];rfl
  refine⟨_,eV,?_⟩;rw[hl]at h;rcases gs with _|⟨g0,_|⟨g1,gs⟩⟩
  ·simp only[Option.some.injEq]at h
   subst h;obtain rfl:vs=[]:=List.eq_nil_of_length_eq_zero (by simpa using h2)
   rw[dif_neg (by simp)]
   exact .p rfl fun i g hg=>by simp at hg
  ·simp only[Option.some.injEq]at h
   subst h;rcases vs with _|⟨v,_|⟨v1,vs⟩⟩
   ·simp at h2
   ·have:=h3 0 g0 rfl
    simpa using this
   ·simp at h2
  ·simp only[Option.some.injEq]at h
   subst h;rw[dif_neg (by simp[h2])]
   refine .p (by simpa using h2) fun i g hg=>?_
   have:=h3 i g hg
   simpa[List.getD_eq_getElem?_getD,Array.getD_eq_getD_getElem?]using this
structure Ret (P:Program) (xs:List ResultVar) (m:Nat) (s:ah) (r:GV) (sto':List (Nat×az)) (f:Nat→Nat) (cs:List Nat) (r0:GV):Prop where
 res:s.res P xs=some r0
 val:r0.cX s.get cs=r.bI f
 names:∀b∈r.names,b<m∨(gt b sto').isSome=true
 cons:∀b∈cs,∃e k xs,s.get b=some (.rows e k xs)
 bp:∀x∈sto',f x.1∉cs∧(s.get (f x.1)).map (az.cX s.get cs)=some (x.2.bI f)∧∀b∈x.2.names,b<m∨(gt b sto').isSome=true
 inj:∀x∈sto',∀y∈sto',f x.1=f y.1→x.1=y.1
 fix:∀b,b<m→f b=b
def aT (P:Program)(xs:List ResultVar)(m:Nat)(s:ah)(r:GV)(sto':List (Nat×az)):Prop:=∃f cs r0,Ret P xs m s r sto' f cs r0
def YL (P:Program)(xs:List ResultVar)(m:Nat)(r:GV)(sto':List (Nat×az)):Exit→ah→Prop
 | .normal,s=>aT P xs m s r sto'
 | .ret,s=>aT P xs m s r sto'
 |_,_=>False
def mD:Nat→List GV→List (Nat×GV)
 |_,[]=>[]
 |i,g::gs=>(i,g)::mD (i+1) gs
theorem CY (t:Nat):∀(gs:List GV) (i:Nat),lk t (mD i gs)=if i≤t then gs.getD (t-i) .u else .u
 |[],i=>by simp[mD,lk]
 |g::gs,i=>by
  simp only[mD,lk,CY t gs (i+1)];by_cases h:t=i
  ·subst h;simp
  ·by_cases h2:i≤t
   ·rw[if_neg h,if_pos (by omega),if_pos h2,show t-i=(t-(i+1))+1 by omega,List.getD_cons_succ]
   ·rw[if_neg h,if_neg (by omega),if_neg h2]
theorem cG.restrict {ρ ρ':Nat→Option Value}{w:World}{D:Nat→Prop}{v:Value}{t:TV}(h:cG ρ w D v t)(hf:∀b∈t.names,∀x,ρ b=some x→ρ' b=some x):cG ρ' w D v t:=by
 cases h with
 |r h=>exact .r h
 |own h=>exact .own (hf _ (List.mem_cons_self ..) _ h)
 |ptr h=>exact .ptr (hf _ (List.mem_cons_self ..) _ h)
 |row h=>exact .row (hf _ (List.mem_cons_self ..) _ h)
 |kN vs h1 h2 h3=>exact .kN vs h1 h2 h3
theorem bA.restrict {ρ ρ':Nat→Option Value}{w:World}{D:Nat→Prop}{v:Value}{g:GV}(h:bA ρ w D v g):(∀b∈g.names,∀x,ρ b=some x→ρ' b=some x)→bA ρ' w D v g:=by
 induction h with
 |s h=>exact fun hf=> .s (h.restrict hf)
 |a hn h=>exact fun hf=> .a hn fun i t ht=>(h i t ht).restrict fun b hb=>hf b (by simp only[GV.names,List.mem_flatMap];exact⟨t,List.mem_of_getElem? ht,hb⟩)
 |p hn _ ih=>exact fun hf=> .p hn fun i g hg=>ih i g hg fun b hb=>hf b (Bi (List.mem_of_getElem? hg) b hb)
 |gK h1 h2 _ _ i1 i2=>exact fun hf=> .gK h1 h2 (fun i g hg=>i1 i g hg fun b hb=>hf b (List.mem_append_left _ (Bi (List.mem_of_getElem? hg) b hb))) fun i g hg=>i2 i g hg fun b hb=>hf b (List.mem_append_right _ (Bi (List.mem_of_getElem? hg) b hb))
 |fD _ ih=>exact fun hf=> .fD (ih hf)
 |u=>exact fun _=> .u
theorem ew.restrict {ρ ρ':Nat→Option Value}{w:World}{D:Nat→Prop}{x:Option Value}{y:az}(h:ew ρ w D x y)(hf:∀b∈y.names,∀x,ρ b=some x→ρ' b=some x):ew ρ' w D x y:=by
 cases y with
 |dead=>trivial
 |rows e k xs=>exact h
 |box cs=>
  obtain⟨g,arr,ty,e,h1,h2,h3⟩:=h;exact⟨g,arr,ty,e,h1,h2,fun i t ht=>(h3 i t ht).restrict fun b hb=>hf b (by simp only[az.names,List.mem_flatMap];exact⟨t,List.mem_of_getElem? ht,hb⟩)⟩
def dw (m:Nat)(bp:List (Nat×az)):Bool:=(List.range m).all fun b=>match gt b bp with|some y=>y.live|none=>false
structure Fits (args:List GV) (m:Nat) (bp:List (Nat×az)):Prop where
 ok:dw m bp=true
 lt:∀x∈bp,x.1<m
 args:∀g∈args,∀b∈g.names,b<m
 bp:∀x∈bp,∀b∈x.2.names,b<m
theorem Fits.live {args:List GV}{m:Nat}{bp:List (Nat×az)}(h:Fits args m bp){b:Nat}(hb:b<m):∃y,gt b bp=some y∧y.live=true:=by
 have:=h.ok
 simp only[dw,List.all_eq_true,List.mem_range]at this;have:=this b hb
 split at this
 ·rename_i y hy;exact⟨y,hy,this⟩
 ·cases this
theorem ew.some {ρ:Nat→Option Value}{w:World}{D:Nat→Prop}{x:Option Value}{y:az}(h:ew ρ w D x y)(hl:y.live=true):∃v,x= .some v:=by
 cases y with
 |dead=>simp[az.live]at hl
 |rows e k xs=>obtain⟨A,c,e,_⟩:=h;exact⟨_,e⟩
 |box cs=>obtain⟨g,arr,ty,e,_⟩:=h;exact⟨_,e⟩
theorem TC.enter {P:Program}{E:List PanicEntry→World→Prop}{f:FuncId}{fn:Func}{c:Code}{args:List GV}{m:Nat}{bp sto':List (Nat×az)}{r:GV}(hf:P.funcs[f]?=some fn)(hb:fn.body=some c)(hnm:(fn.name== "runtime.NumGoroutine")=false) {nt:Nat} (hnt:fn.ntmps=nt) {xs:List ResultVar} (fj:fn.results.toList=xs) (hn:args.length≤nt) (hfit:Fits args m bp)
  (h:TW P E nt m c (YL P xs m r sto') ⟨mD 0 args,bp,m⟩):TC P E f args m bp r sto':=by
 subst hnt;refine⟨QI.of hf hb hnm,?_⟩;intro w bR ρ D hv ha hD dX Jf UZ;let C:Ctx:={W:=w,M:=Mf bp ρ,D0:=D,nt:=fn.ntmps,oo:=fun b=>if b<m then ρ b else none}
 have Iw:∀b y,gt b bp=some y→b<m:=fun b y hy=>hfit.lt _ (gq hy)
 have dR:∀b y,(ah.get ⟨mD 0 args,bp,m⟩ b)=some y→b<m∧(y= .dead∨gt b bp=some y):=by
  intro b y hy;unfold ah.get at hy;split at hy
  ·rename_i z hz;cases hy;exact⟨Iw _ _ hz,.inr hz⟩
  ·split at hy
   ·rename_i ak;cases hy;exact⟨ak,.inl rfl⟩
   ·cases hy
 have eK:∀b,b<m→(fun b=>if b<m then ρ b else none) b=ρ b:=fun b hb=>by simp[hb]
 have Bf:bR.size=args.length:=hv
 have hR:Rel C (iI ⟨mD 0 args,bp,m⟩) (ah.get ⟨mD 0 args,bp,m⟩) {tmps:=bR++Array.replicate (fn.ntmps-bR.size) undef,defers:=[]} w (fun b=>if b<m then ρ b else none) D:=by
  refine⟨rfl,rfl,rfl,Nat.le_refl _,fun k _ _=>rfl,fun k hk=>⟨hD k hk,.inl hk⟩,fun b hb=>?_,fun b y hy=>?_,fun b y g hy hl hg=>?_,fun b y b' y' g hy hl eL bz hg bu=>?_,fun t=>?_,rfl,?_,fun b x hx=>hx⟩
  ·unfold ah.get at hb
   split at hb
   ·cases hb
   ·split at hb
    ·cases hb
    ·rename_i h;simp only at h;simp[h]
  ·obtain⟨h1,h2⟩:=dR b y hy
   rcases h2 with rfl|h2
   ·trivial
   ·simp only[h1,if_true]
    exact(dX b y h2).restrict fun c hc x hx=>by rw[if_pos (hfit.bp _ (gq h2) c hc)];exact hx
  ·obtain⟨h1,h2⟩:=dR b y hy
   rcases h2 with rfl|h2
   ·simp[az.live]at hl
   ·simp only[h1,if_true]at hg
    exact⟨Jf b y g h2 hl hg,.inl ⟨b,y,h2,hl,hg⟩⟩
  ·obtain⟨h1,h2⟩:=dR b y hy
   obtain⟨jg,ot⟩:=dR b' y' eL;rcases h2 with rfl|h2
   ·simp[az.live]at hl
   ·rcases ot with rfl|ot
    ·simp[az.live]at bz
    ·simp only[h1,jg,if_true]at hg bu
     exact UZ b y b' y' g h2 hl ot bz hg bu
  ·simp only[iI,CY,Nat.zero_le,if_true,Nat.sub_zero]
   by_cases ht:t<args.length
   ·have hg:args[t]?= .some args[t]:=List.getElem?_eq_getElem ht
    have:=(ha t _ hg).restrict (ρ':=fun b=>if b<m then ρ b else none) fun c hc x hx=>by rw[if_pos (hfit.args _ (List.getElem_mem ht) c hc)];exact hx
    rw[List.getD_eq_getElem?_getD,hg];have e:(bR++Array.replicate (fn.ntmps-bR.size) undef).getD t undef=bR.getD t undef:=by
     have ak:t<bR.size:=by omega
     simp[Array.getD_eq_getD_getElem?,Array.getElem?_append_left ak]
    rw[e];exact this
   ·rw[List.getD_eq_getElem?_getD,List.getElem?_eq_none (by omega)]
    exact .u
  ·simp only[Array.size_append,Array.size_replicate]
   show _=fn.ntmps
   omega
 refine calls_of_wp hf hb (h C _ w rfl (fun b x hx=>?_) ⟨_,D,hR⟩ _ (fun e s' a' w' hq ru=>?_) fun ch a w' hd hE=>⟨hd,.inl ⟨ch,rfl,hE⟩⟩)
 ·have:(if b<m then ρ b else none)=some x:=hx
  split at this
  ·assumption
  ·cases this
 obtain⟨Vb,De,YM⟩:=ru;have abw:aT P xs m s' r sto'→a'.defers=[]∧∃v,(results fn a'.tmps).run P w'= .ok v w'∧((∃ch,Ending.returned v= .panicked ch∧E ch w')∨∃v' ρ' D',Ending.returned v= .returned v'∧bA ρ' w' D' v' r∧abv bp sto' m w w' ρ ρ' D D'):=by
  rintro⟨f',cs,r0,hr⟩;refine⟨YM.defers,?_⟩;obtain⟨v,nH,Ei⟩:=YK YM fj hr.res;obtain⟨D',Ix,MT,oD⟩:=YM.freeze (cs:=cs) fun b hb=>by
   obtain⟨e,k,xs,h⟩:=hr.cons b hb;exact⟨_,h,rfl⟩
  refine⟨v,nH,.inr ⟨v,fun b=>if b<m then ρ b else if(gt b sto').isSome=true then Vb (f' b)else none,D',rfl,?_,?_⟩⟩
  all_goals
   have lX:∀b,b<m→Vb b=ρ b:=fun b hb=>by
    obtain⟨y,hy,hl⟩:=hfit.live hb;obtain⟨x,hx⟩:=(dX b y hy).some hl;rw[hx];refine YM.ext b x ?_;show(if b<m then ρ b else none)=some x
    rw[if_pos hb,hx]
   have YE:∀b,(b<m∨(gt b sto').isSome=true)→∀x,Vb (f' b)=some x→(fun b=>if b<m then ρ b else if(gt b sto').isSome=true then Vb (f' b)else none) b=some x:=by
    intro b hb x hx;by_cases h1:b<m
    ·rw[hr.fix b h1,lX b h1]at hx
     simp[h1,hx]
    ·simp[h1,hb.resolve_left h1,hx]
   have iJ:∀b,(gt b sto').isSome=true→(if b<m then ρ b else if(gt b sto').isSome=true then Vb (f' b)else none)=Vb (f' b):=by
    intro b hb;by_cases h1:b<m
    ·simp only[h1,if_true,hr.fix b h1,lX b h1]
    ·simp[h1,hb]
  ·have:=Ei.cX YM MT oD
   rw[hr.val]at this;exact this.bI fun b hb=>YE b (hr.names b hb)
  ·have aZ:∀b y,gt b sto'=some y→(fun b=>if b∈cs then some az.dead else(s'.get b).map (az.cX s'.get cs)) (f' b)=some (y.bI f')∧(gt b sto').isSome=true∧∀c∈y.names,c<m∨(gt c sto').isSome=true:=by
    intro b y hy;obtain⟨h1,h2,h3⟩:=hr.bp _ (gq hy);exact⟨by simp only[h1,if_false];exact h2,by rw[hy];rfl,h3⟩
   refine⟨Ix.os,Ix.tape,Ix.output,Ix.size,fun k hk hM=>Ix.old k hk hM,fun k hk=>Ix.ro k hk,fun b y hy=>?_,fun b y g hy hl hg=>?_,fun b y b' y' g hy hl eL bz hg bu=>?_,fun b hb=>by simp[hb],fun b hb hy=>?_⟩
   ·obtain⟨h1,h2,h3⟩:=aZ b y hy
    simp only[iJ b h2];exact(Ix.blk _ _ h1).bI fun c hc=>YE c (h3 c hc)
   ·obtain⟨h1,h2,h3⟩:=aZ b y hy
    simp only[iJ b h2]at hg;exact Ix.own _ _ g h1 (by rw[az.eO];exact hl) hg
   ·obtain⟨h1,h2,h3⟩:=aZ b y hy
    obtain⟨jg,ot,M8⟩:=aZ b' y' eL;simp only[iJ b h2]at hg;simp only[iJ b' ot]at bu;exact hr.inj _ (gq hy) _ (gq eL) (Ix.sep _ _ _ _ g h1 (by rw[az.eO];exact hl) jg (by rw[az.eO];exact bz) hg bu)
   ·have:¬b<m:=by omega
    simp[this,hy]
 cases e with
 |normal=>exact abw hq
 |ret=>exact abw hq
 |_=>exact hq.elim
end Go.Proofs.YtabjbdnokpjipaaGreat.T
