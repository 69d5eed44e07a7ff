/-
What is proved: names may be changed, forgotten, and rows of the call's own become read-only ('R.weaken'). No condition. rules of a walk over trees ('TW'), and what a function does to trees ('TC', 'TC.enter'). No condition.
-/
import Derived.Test.YtjklkppncmhehaaGreatRx29
set_option linter.unusedVariables false
set_option linter.unusedSimpArgs false
namespace Go.Proofs.YtjklkppncmhehaaGreat.T
open Go Go.RowKit
def TV.bq (f:Nat→Nat):TV→TV
 | .r t=> .r t
 | .own b=> .own (f b)
 | .ptr b o=> .ptr (f b) o
 | .row b k i o=> .row (f b) k i o
 | .ju xs o=> .ju xs o
def TV.names:TV→List Nat
 | .r _=>[]
 | .own b=>[b]
 | .ptr b _=>[b]
 | .row b _ _ _=>[b]
 | .ju _ _=>[]
mutual
def GV.bq (f:Nat→Nat):GV→GV
 | .s t=> .s (t.bq f)
 | .a ts=> .a (ts.map (TV.bq f))
 | .p gs=> .p (fZ f gs)
 | .hU fn fs cs=> .hU fn (fZ f fs) (fZ f cs)
 | .eV t g=> .eV t (g.bq f)
 | .u=> .u
def fZ (f:Nat→Nat):List GV→List GV
 |[]=>[]
 |g::gs=>g.bq f::fZ f gs
end
mutual
def GV.names:GV→List Nat
 | .s t=>t.names
 | .a ts=>ts.flatMap TV.names
 | .p gs=>dw gs
 | .hU _ fs cs=>dw fs++dw cs
 | .eV _ g=>g.names
 | .u=>[]
def dw:List GV→List Nat
 |[]=>[]
 |g::gs=>g.names++dw gs
end
def aj.bq (f:Nat→Nat):aj→aj
 | .box cs=> .box (cs.map (TV.bq f))
 | .rows e k xs=> .rows e k xs
 | .dead=> .dead
def aj.names:aj→List Nat
 | .box cs=>cs.flatMap TV.names
 |_=>[]
theorem iy (f:Nat→Nat):∀(gs:List GV) (i:Nat),(fZ f gs)[i]?=gs[i]?.map (GV.bq f)
 |[],i=>by simp[fZ]
 |g::gs,0=>by simp[fZ]
 |g::gs,i+1=>by simp[fZ,iy f gs i]
theorem dx (f:Nat→Nat):∀(gs:List GV),(fZ f gs).length=gs.length
 |[]=>rfl
 |g::gs=>by simp[fZ,dx f gs]
theorem yi {g:GV}:∀{gs:List GV},g∈gs→∀b∈g.names,b∈dw gs
 |x::gs,h,b,hb=>by
  simp only[dw,List.mem_append];rcases List.mem_cons.1 h with rfl|h
  ·exact .inl hb
  ·exact .inr (yi h b hb)
section
variable {ρ ρ':Nat→Option Value}{w:World}{D:Nat→Prop}{f:Nat→Nat}
theorem cA.bq {v:Value}{t:TV}(h:cA ρ w D v (t.bq f))(hf:∀b∈t.names,∀x,ρ (f b)=some x→ρ' b=some x):cA ρ' w D v t:=by
 cases t with
 |r t=>cases h with|r h=>exact .r h
 |own b=>cases h with|own h=>exact .own (hf b (List.mem_cons_self ..) _ h)
 |ptr b o=>cases h with|ptr h=>exact .ptr (hf b (List.mem_cons_self ..) _ h)
 |row b k i o=>cases h with|row h=>exact .row (hf b (List.mem_cons_self ..) _ h)
 |ju xs o=>cases h with|ju vs h1 h2 h3=>exact .ju vs h1 h2 h3
theorem cA.tR {v:Value}{t:TV}(h:cA ρ' w D v t)(hf:∀b∈t.names,∀x,ρ' b=some x→ρ (f b)=some x):cA ρ w D v (t.bq f):=by
 cases t with
 |r t=>cases h with|r h=>exact .r h
 |own b=>cases h with|own h=>exact .own (hf b (List.mem_cons_self ..) _ h)
 |ptr b o=>cases h with|ptr h=>exact .ptr (hf b (List.mem_cons_self ..) _ h)
 |row b k i o=>cases h with|row h=>exact .row (hf b (List.mem_cons_self ..) _ h)
 |ju xs o=>cases h with|ju vs h1 h2 h3=>exact .ju vs h1 h2 h3
theorem bf.SO {v:Value}{g':GV}(h:bf ρ w D v g'):∀g,g'=g.bq f→(∀b∈g.names,∀x,ρ (f b)=some x→ρ' b=some x)→bf ρ' w D v g:=by
 induction h with
 |s h=>
  intro g e hf
  cases g<;>simp only[GV.bq,reduceCtorEq,GV.s.injEq]at e
  subst e;exact .s (h.bq hf)
 |a hn h=>
  intro g e hf
  cases g<;>simp only[GV.bq,reduceCtorEq,GV.a.injEq]at e
  rename_i ts;subst e;refine .a (by simpa using hn) fun i t ht=>(h i (t.bq f) (by simp[ht])).bq fun b hb=>hf b ?_
  simp only[GV.names,List.mem_flatMap];exact⟨t,List.mem_of_getElem? ht,hb⟩
 |p hn _ ih=>
  intro g e hf
  cases g<;>simp only[GV.bq,reduceCtorEq,GV.p.injEq]at e
  rename_i gs;subst e;refine .p (by rw[hn,dx]) fun i g hg=>ih i (g.bq f) (by rw[iy,hg];rfl) g rfl fun b hb=>hf b ?_
  exact yi (List.mem_of_getElem? hg) b hb
 |hU h1 h2 _ _ i1 i2=>
  intro g e hf
  cases g<;>simp only[GV.bq,reduceCtorEq,GV.hU.injEq]at e
  rename_i N3 fs' bV;obtain⟨rfl,rfl,rfl⟩:=e;refine .hU (by rw[h1,dx]) (by rw[h2,dx]) (fun i g hg=>i1 i (g.bq f) (by rw[iy,hg];rfl) g rfl fun b hb=>hf b ?_) fun i g hg=>i2 i (g.bq f) (by rw[iy,hg];rfl) g rfl fun b hb=>hf b ?_
  ·exact List.mem_append_left _ (yi (List.mem_of_getElem? hg) b hb)
  ·exact List.mem_append_right _ (yi (List.mem_of_getElem? hg) b hb)
 |eV _ ih=>
  intro g e hf
  cases g<;>simp only[GV.bq,reduceCtorEq,GV.eV.injEq]at e
  obtain⟨rfl,e⟩:=e;exact .eV (ih _ e hf)
 |u=>
  intro g e hf
  cases g<;>simp only[GV.bq,reduceCtorEq]at e
  exact .u
theorem bf.bq {v:Value}{g:GV}(h:bf ρ w D v (g.bq f))(hf:∀b∈g.names,∀x,ρ (f b)=some x→ρ' b=some x):bf ρ' w D v g:=h.SO g rfl hf
theorem bf.tR {v:Value}{g:GV}(h:bf ρ' w D v g)(hf:∀b∈g.names,∀x,ρ' b=some x→ρ (f b)=some x):bf ρ w D v (g.bq f):=by
 induction h with
 |s h=>exact .s (h.tR hf)
 |a hn h=>
  refine .a (by simpa using hn) fun i t ht=>?_
  rw[List.getElem?_map,Option.map_eq_some_iff]at ht;obtain⟨t',yj,rfl⟩:=ht;refine(h i t' yj).tR fun b hb=>hf b ?_
  simp only[GV.names,List.mem_flatMap];exact⟨t',List.mem_of_getElem? yj,hb⟩
 |p hn _ ih=>
  refine .p (by rw[hn,dx]) fun i g hg=>?_
  rw[iy,Option.map_eq_some_iff]at hg;obtain⟨g',bh,rfl⟩:=hg;exact ih i g' bh fun b hb=>hf b (yi (List.mem_of_getElem? bh) b hb)
 |hU h1 h2 _ _ i1 i2=>
  refine .hU (by rw[h1,dx]) (by rw[h2,dx]) (fun i g hg=>?_) fun i g hg=>?_
  ·rw[iy,Option.map_eq_some_iff]at hg
   obtain⟨g',bh,rfl⟩:=hg;exact i1 i g' bh fun b hb=>hf b (List.mem_append_left _ (yi (List.mem_of_getElem? bh) b hb))
  ·rw[iy,Option.map_eq_some_iff]at hg
   obtain⟨g',bh,rfl⟩:=hg;exact i2 i g' bh fun b hb=>hf b (List.mem_append_right _ (yi (List.mem_of_getElem? bh) b hb))
 |eV _ ih=>exact .eV (ih hf)
 |u=>exact .u
theorem eB.bq {x:Option Value}{y:aj}(h:eB ρ w D x (y.bq f))(hf:∀b∈y.names,∀x,ρ (f b)=some x→ρ' b=some x):eB ρ' w D x y:=by
 cases y with
 |dead=>trivial
 |rows e k xs=>exact h
 |box cs=>
  obtain⟨g,arr,ty,e,h1,h2,h3⟩:=h;refine⟨g,arr,ty,e,h1,by simpa using h2,fun i t ht=>(h3 i (t.bq f) (by simp[ht])).bq fun b hb=>hf b ?_⟩
  simp only[aj.names,List.mem_flatMap];exact⟨t,List.mem_of_getElem? ht,hb⟩
theorem eB.tR {x:Option Value}{y:aj}(h:eB ρ' w D x y)(hf:∀b∈y.names,∀x,ρ' b=some x→ρ (f b)=some x):eB ρ w D x (y.bq f):=by
 cases y with
 |dead=>trivial
 |rows e k xs=>exact h
 |box cs=>
  obtain⟨g,arr,ty,e,h1,h2,h3⟩:=h;refine⟨g,arr,ty,e,h1,by simpa using h2,fun i t ht=>?_⟩
  rw[List.getElem?_map,Option.map_eq_some_iff]at ht;obtain⟨t',yj,rfl⟩:=ht;refine(h3 i t' yj).tR fun b hb=>hf b ?_
  simp only[aj.names,List.mem_flatMap];exact⟨t',List.mem_of_getElem? yj,hb⟩
theorem aj.dH (y:aj):(y.bq f).live=y.live:=by cases y<;>rfl
end
def TV.cr (get:Nat→Option aj)(cs:List Nat):TV→TV
 | .own b=>if b∈cs then match get b with
   |some (.rows _ k xs)=> .r (.sl k xs)
   |_=> .own b
   else .own b
 |t=>t
mutual
def GV.cr (get:Nat→Option aj)(cs:List Nat):GV→GV
 | .s t=> .s (t.cr get cs)
 | .a ts=> .a (ts.map (TV.cr get cs))
 | .p gs=> .p (f_ get cs gs)
 | .hU fn fs ds=> .hU fn fs ds
 | .eV t g=> .eV t (g.cr get cs)
 | .u=> .u
def f_ (get:Nat→Option aj)(cs:List Nat):List GV→List GV
 |[]=>[]
 |g::gs=>g.cr get cs::f_ get cs gs
end
def aj.cr (get:Nat→Option aj)(cs:List Nat):aj→aj
 | .box ts=> .box (ts.map (TV.cr get cs))
 |y=>y
theorem ov (get:Nat→Option aj)(cs:List Nat):∀(gs:List GV) (i:Nat),(f_ get cs gs)[i]?=gs[i]?.map (GV.cr get cs)
 |[],i=>by simp[f_]
 |g::gs,0=>by simp[f_]
 |g::gs,i+1=>by simp[f_,ov get cs gs i]
theorem iz (get:Nat→Option aj)(cs:List Nat):∀(gs:List GV),(f_ get cs gs).length=gs.length
 |[]=>rfl
 |g::gs=>by simp[f_,iz get cs gs]
theorem TV.i_ {get get':Nat→Option aj}{cs:List Nat}(h:∀b∈cs,get b=get' b)(t:TV):t.cr get cs=t.cr get' cs:=by
 unfold TV.cr;split
 ·rename_i b
  by_cases hb:b∈cs
  ·rw[h b hb]
  ·simp[hb]
 ·rfl
mutual
theorem GV.i_ {get get':Nat→Option aj}{cs:List Nat}(h:∀b∈cs,get b=get' b):∀(g:GV),g.cr get cs=g.cr get' cs
 | .s t=>by simp only[GV.cr,TV.i_ h]
 | .a ts=>by simp only[GV.cr];congr 1;exact List.map_congr_left fun t _=>TV.i_ h t
 | .p gs=>by simp only[GV.cr,xB h gs]
 | .hU _ _ _=>by simp only[GV.cr]
 | .eV _ g=>by simp only[GV.cr,GV.i_ h g]
 | .u=>by simp only[GV.cr]
theorem xB {get get':Nat→Option aj}{cs:List Nat}(h:∀b∈cs,get b=get' b):∀(gs:List GV),f_ get cs gs=f_ get' cs gs
 |[]=>by simp only[f_]
 |g::gs=>by simp only[f_,GV.i_ h g,xB h gs]
end
section
variable {C:Ctx}{env:Nat→GV}{get:Nat→Option aj}{a:Act}{w:World}{ρ:Nat→Option Value}{D D':Nat→Prop}{cs:List Nat}
theorem cA.cr (hR:Rel C env get a w ρ D)(hD:∀k,D k→D' k)(hb:∀b∈cs,∀g,bI (ρ b)=some g→D' g){v:Value}{t:TV}(h:cA ρ w D v t):cA ρ w D' v (t.cr get cs):=by
 unfold TV.cr;split
 ·rename_i b
  split
  ·rename_i hm
   split
   ·rename_i e k xs hg
    have:(ae.xv ⟨[],[(b,.rows e k xs)],0⟩ (.own b))=some (.sl k xs,[b]):=by simp[ae.xv,ae.get,gt]
    refine .r (Cy hR this (fun c hc=>?_) hD (fun c hc=>hb c ?_) h)
    ·simp only[List.mem_cons,List.not_mem_nil,or_false]at hc
     subst hc;rw[hg];simp[ae.get,gt]
    ·simp only[List.mem_cons,List.not_mem_nil,or_false]at hc
     subst hc;exact hm
   ·exact h.bK (fun _ _ h=>h) (cw.refl _ _) hD
  ·exact h.bK (fun _ _ h=>h) (cw.refl _ _) hD
 ·exact h.bK (fun _ _ h=>h) (cw.refl _ _) hD
theorem bf.cr (hR:Rel C env get a w ρ D)(hD:∀k,D k→D' k)(hb:∀b∈cs,∀g,bI (ρ b)=some g→D' g){v:Value}{g:GV}(h:bf ρ w D v g):bf ρ w D' v (g.cr get cs):=by
 induction h with
 |s h=>exact .s (h.cr hR hD hb)
 |a hn h=>
  refine .a (by simpa using hn) fun i t ht=>?_
  rw[List.getElem?_map,Option.map_eq_some_iff]at ht;obtain⟨t',yj,rfl⟩:=ht;exact(h i t' yj).cr hR hD hb
 |p hn _ ih=>
  refine .p (by rw[hn,iz]) fun i g hg=>?_
  rw[ov,Option.map_eq_some_iff]at hg;obtain⟨g',bh,rfl⟩:=hg;exact ih i g' bh
 |hU h1 h2 h3 h4 _ _=>exact .hU h1 h2 (fun i g hg=>(h3 i g hg).bK (fun _ _ h=>h) (cw.refl _ _) hD) fun i g hg=>(h4 i g hg).bK (fun _ _ h=>h) (cw.refl _ _) hD
 |eV _ ih=>exact .eV ih
 |u=>exact .u
theorem Rel.freeze (hR:Rel C env get a w ρ D)(hb:∀b∈cs,∃z,get b=some z∧z.live=true):∃D',Rel C (fun t=>(env t).cr get cs) (fun b=>if b∈cs then some .dead else(get b).map (aj.cr get cs)) a w ρ D'∧(∀k,D k→D' k)∧∀b∈cs,∀g,bI (ρ b)=some g→D' g:=by
 obtain⟨D',h,hD,mM⟩:=hR.consume cs hb;have Q0:∀c,gt c (cs.map fun b=>(b,aj.dead))=if c∈cs then some .dead else none:=by
  intro c;clear hb h mM;induction cs with
  |nil=>rfl
  |cons b bs ih=>
   simp only[List.map_cons,gt,List.mem_cons];rw[ih];by_cases e:c=b<;>simp[e]
 have I6:∀c,upd get (cs.map fun b=>(b,aj.dead)) c=if c∈cs then some .dead else get c:=by
  intro c;simp only[upd,Q0];split<;>simp_all
 refine⟨D',⟨h.os,h.tape,h.output,h.size,h.old,h.ro,fun c hc=>?_,fun c y hc=>?_,fun c y g hc hl hg=>?_,fun c y1 c' y2 g hc hl cY aY hg bh=>?_,fun t=>(hR.env t).cr hR hD mM,h.defers,h.nt,h.ext⟩,hD,mM⟩
 ·split at hc
  ·cases hc
  ·rename_i hn
   exact hR.free c (by simpa using hc)
 ·split at hc
  ·cases hc;trivial
  ·rename_i hn
   obtain⟨y',dP,rfl⟩:=Option.map_eq_some_iff.1 hc;have:=hR.blk c y' dP
   cases y' with
   |dead=>trivial
   |rows e k xs=>exact this.bK (fun _ _ h=>h) (cw.refl _ _) hD (.inr fun _ _=>rfl)
   |box ts=>
    obtain⟨g,arr,ty,e1,h1,h2,h3⟩:=this;refine⟨g,arr,ty,e1,h1,by simpa using h2,fun i t ht=>?_⟩
    rw[List.getElem?_map,Option.map_eq_some_iff]at ht;obtain⟨t',yj,rfl⟩:=ht;exact(h3 i t' yj).cr hR hD mM
 ·split at hc
  ·cases hc;simp[aj.live]at hl
  ·rename_i hn
   obtain⟨y',dP,rfl⟩:=Option.map_eq_some_iff.1 hc;refine h.own c y' g (by rw[I6,if_neg hn];exact dP) ?_ hg
   cases y'<;>first|rfl|(simp[aj.cr,aj.live]at hl)
 ·split at hc
  ·cases hc;simp[aj.live]at hl
  ·split at cY
   ·cases cY;simp[aj.live]at aY
   ·rename_i hn vV
    obtain⟨y',dP,rfl⟩:=Option.map_eq_some_iff.1 hc;obtain⟨Z0,Z1,rfl⟩:=Option.map_eq_some_iff.1 cY;refine h.sep c y' c' Z0 g (by rw[I6,if_neg hn];exact dP) ?_ (by rw[I6,if_neg vV];exact Z1) ?_ hg bh
    ·cases y'<;>first|rfl|(simp[aj.cr,aj.live]at hl)
    ·cases Z0<;>first|rfl|(simp[aj.cr,aj.live]at aY)
theorem Rel.rename (hR:Rel C env get a w ρ D){Nn:Nat→GV}{get':Nat→Option aj}{f:Nat→Nat}{nx:Nat}(Z2:∀b x,C.mE b=some x→f b=b∧b<nx)(Z3:∀t,Nn t= .u∨(env t=(Nn t).bq f∧∀b∈(Nn t).names,b<nx))
  (dQ:∀b y,get' b=some y→b<nx∧(y= .dead∨(get (f b)=some (y.bq f)∧∀c∈y.names,c<nx))) (XK:∀b,b<nx→get' b≠none) (Z4:∀b y b' y',get' b=some y→y.live=true→get' b'=some y'→y'.live=true→f b=f b'→b=b'):
  Rel C Nn get' a w (fun b=>if b<nx then ρ (f b)else none) D:=by
 have fq:∀b,b<nx→∀x,ρ (f b)=some x→(fun b=>if b<nx then ρ (f b)else none) b=some x:=fun b hb x hx=>by simp[hb,hx]
 refine⟨hR.os,hR.tape,hR.output,hR.size,hR.old,hR.ro,fun b hb=>?_,fun b y hy=>?_,fun b y g hy hl hg=>?_,fun b y b' y' g hy hl dP aY hg bh=>?_,fun t=>?_,hR.defers,hR.nt,fun b x hx=>?_⟩
 ·have:¬b<nx:=fun h=>XK b h hb
  simp[this]
 ·obtain⟨h1,h2⟩:=dQ b y hy
  rcases h2 with rfl|⟨h2,h3⟩
  ·trivial
  ·simp only[h1,if_true]
   exact(hR.blk _ _ h2).bq fun c hc=>fq c (h3 c hc)
 ·obtain⟨h1,h2⟩:=dQ b y hy
  rcases h2 with rfl|⟨h2,h3⟩
  ·simp[aj.live]at hl
  ·simp only[h1,if_true]at hg
   exact hR.own _ _ g h2 (by rw[aj.dH];exact hl) hg
 ·obtain⟨h1,h2⟩:=dQ b y hy
  obtain⟨js,nS⟩:=dQ b' y' dP;rcases h2 with rfl|⟨h2,h3⟩
  ·simp[aj.live]at hl
  ·rcases nS with rfl|⟨nS,Jg⟩
   ·simp[aj.live]at aY
   ·simp only[h1,js,if_true]at hg bh
    exact Z4 b y b' y' hy hl dP aY (hR.sep _ _ _ _ g h2 (by rw[aj.dH];exact hl) nS (by rw[aj.dH];exact aY) hg bh)
 ·rcases Z3 t with h|⟨h1,h2⟩
  ·rw[h];exact .u
  ·have:=hR.env t
   rw[h1]at this;exact this.bq fun b hb=>fq b (h2 b hb)
 ·obtain⟨h1,h2⟩:=Z2 b x hx
  simp only[h2,if_true,h1];exact hR.ext b x hx
end
end Go.Proofs.YtjklkppncmhehaaGreat.T
namespace Go.Proofs.YtjklkppncmhehaaGreat.T
open Go Go.RowKit
def jo (s:ae):Nat→GV:=fun t=>lk t s.env
theorem No (t:Nat):∀(e:List (Nat×GV)),lk t e= .u∨(t,lk t e)∈e
 |[]=> .inl rfl
 |(u,g)::e=>by
  simp only[lk];split
  ·rename_i h;subst h;exact .inr (List.mem_cons_self ..)
  ·rcases No t e with h|h
   ·exact .inl h
   ·exact .inr (List.mem_cons_of_mem _ h)
theorem fK {b:Nat}:∀{l:List (Nat×aj)} {y:aj},gt b l=some y→(b,y)∈l
 |(u,z)::l,y,h=>by
  simp only[gt]at h;split at h
  ·rename_i e;subst e;cases h;exact List.mem_cons_self ..
  ·exact List.mem_cons_of_mem _ (fK h)
def TW (P:Program)(E:List PanicEntry→World→Prop)(nt m:Nat)(c:Code)(Q:Exit→ae→Prop)(s:ae):Prop:=
 ∀C a w,C.nt=nt→(∀b x,C.mE b=some x→b<m)→R C (jo s) s.get a w→∀Q':Exit→Act→World→Prop,(∀e s' a' w',Q e s'→R C (jo s') s'.get a' w'→Q' e a' w')→zL E Q'→c.wp P Q' a w
structure VZ (m:Nat) (s s':ae) (f:Nat→Nat) (cs:List Nat):Prop where
 cons:∀b∈cs,∃e k xs,s.get b=some (.rows e k xs)
 env:∀x∈s'.env,x.2= .u∨((lk x.1 s.env).cr s.get cs=x.2.bq f∧∀b∈x.2.names,b<s'.nx)
 sto:∀x∈s'.sto,x.1<s'.nx∧f x.1∉cs∧(s.get (f x.1)).map (aj.cr s.get cs)=some (x.2.bq f)∧∀b∈x.2.names,b<s'.nx
 inj:∀x∈s'.sto,∀y∈s'.sto,f x.1=f y.1→x.1=y.1
 fix:m≤s'.nx∧∀b,b<m→f b=b
theorem R.weaken {C:Ctx}{m:Nat}{s s':ae}{f:Nat→Nat}{cs:List Nat}(h:VZ m s s' f cs){a:Act}{w:World}(hm:∀b x,C.mE b=some x→b<m)(hR:R C (jo s) s.get a w):R C (jo s') s'.get a w:=by
 obtain⟨ρ,D,hR⟩:=hR;obtain⟨D',pt,_⟩:=hR.freeze (cs:=cs) fun b hb=>by
  obtain⟨e,k,xs,h⟩:=h.cons b hb;exact⟨_,h,rfl⟩
 have zi:∀b y,s'.get b=some y→(b<s'.nx∧y= .dead)∨(b,y)∈s'.sto:=by
  intro b y hy;unfold ae.get at hy;split at hy
  ·rename_i z hz
   cases hy;exact .inr (fK hz)
  ·split at hy
   ·rename_i ai;cases hy;exact .inl ⟨ai,rfl⟩
   ·cases hy
 refine⟨_,D',pt.rename (f:=f) (nx:=s'.nx) (fun b x hx=>⟨h.fix.2 b (hm b x hx),Nat.lt_of_lt_of_le (hm b x hx) h.fix.1⟩) (fun t=>?_) (fun b y hy=>?_) (fun b hb=>?_) fun b y b' y' hy hl dP aY Ws=>?_⟩
 ·rcases No t s'.env with h1|h1
  ·exact .inl h1
  ·exact h.env _ h1
 ·rcases zi b y hy with⟨h1,rfl⟩|h1
  ·exact⟨h1,.inl rfl⟩
  ·obtain⟨h2,h3,h4,h5⟩:=h.sto _ h1
   exact⟨h2,.inr ⟨by rw[if_neg h3];exact h4,h5⟩⟩
 ·unfold ae.get
  split
  ·simp
  ·simp[hb]
 ·rcases zi b y hy with⟨_,rfl⟩|h1
  ·simp[aj.live]at hl
  ·rcases zi b' y' dP with⟨_,rfl⟩|h2
   ·simp[aj.live]at aY
   ·exact h.inj _ h1 _ h2 Ws
def Wk (m:Nat)(s s':ae):Prop:=∃f cs,VZ m s s' f cs
section
variable {P:Program}{E:List PanicEntry→World→Prop}{nt m:Nat}{Q:Exit→ae→Prop}{s:ae}
theorem TW.weaken {c:Code}(s':ae)(h:Wk m s s')(hw:TW P E nt m c Q s'):TW P E nt m c Q s:=by
 obtain⟨f,cs,h⟩:=h;exact fun C a w hn hm hR=>hw C a w hn hm (R.weaken h hm hR)
theorem TW.mono {c:Code}{Q':Exit→ae→Prop}(h:TW P E nt m c Q s)(hq:∀e s,Q e s→Q' e s):TW P E nt m c Q' s:=
 fun C a w hn hm hR Q'' hQ hE=>h C a w hn hm hR Q'' (fun e s' a' w' h1 h2=>hQ e s' a' w' (hq _ _ h1) h2) hE
theorem TW.skip (h:Q .normal s):TW P E nt m .skip Q s:=fun C a w _ _ hR Q' hQ _=>wp_skip (hQ _ _ _ _ h hR)
theorem TW.exit {id:Nat}(h:Q (.exit id) s):TW P E nt m (.exit id) Q s:=fun C a w _ _ hR Q' hQ _=>wp_exit (hQ _ _ _ _ h hR)
theorem TW.ret (h:Q .ret s):TW P E nt m .ret Q s:=fun C a w _ _ hR Q' hQ _=>wp_ret (hQ _ _ _ _ h hR)
def tQ (next:ae→Prop)(Q:Exit→ae→Prop):Exit→ae→Prop
 | .normal,s=>next s
 |e,s=>Q e s
theorem TW.seq {x y:Code}(h:TW P E nt m x (tQ (TW P E nt m y Q) Q) s):TW P E nt m (.seq x y) Q s:=by
 intro C a w hn hm hR Q' hQ hE;refine wp_seq (h C a w hn hm hR _ (fun e s' a' w' h1 h2=>?_) fun ch a w h1 h2=>hE ch a w h1 h2)
 cases e with
 |normal=>exact h1 C a' w' hn hm h2 Q' hQ hE
 |_=>exact hQ _ _ _ _ h1 h2
theorem TW.cond {c:Operand}{x y:Code}{b:Bool}(hb:(s.ev c).b?=some b)(h1:b=true→TW P E nt m x Q s)(h2:b=false→TW P E nt m y Q s):TW P E nt m (.cond c x y) Q s:=by
 intro C a w hn hm hR Q' hQ hE;obtain⟨ρ,D,hr⟩:=hR;have hi:∀x∈bw s.env [c],jo s x.1=x.2:=by
  intro x hx
  cases c<;>simp only[bw,List.mem_cons,List.not_mem_nil,or_false]at hx
  subst hx;rfl
 have hc:=GV.yA hb (a_ hr hi (List.mem_cons_self ..));exact wp_cond_split hc (fun e=>h1 e C a w hn hm ⟨ρ,D,hr⟩ Q' hQ hE) fun e=>h2 e C a w hn hm ⟨ρ,D,hr⟩ Q' hQ hE
def bQ (id:Nat)(Q:Exit→ae→Prop):Exit→ae→Prop
 | .exit Uf,s=>if Uf=id then Q .normal s else Q (.exit Uf) s
 |e,s=>Q e s
theorem TW.block {id:Nat}{c:Code}(h:TW P E nt m c (bQ id Q) s):TW P E nt m (.block id c) Q s:=by
 intro C a w hn hm hR Q' hQ hE;refine wp_block (h C a w hn hm hR _ (fun e s' a' w' h1 h2=>?_) fun ch a w h1 h2=>hE ch a w h1 h2)
 cases e with
 |exit Uf=>
  simp only[bQ,Exit.inBlock]at h1⊢;split
  ·rename_i e;rw[if_pos e]at h1;exact hQ _ _ _ _ h1 h2
  ·rename_i e;rw[if_neg e]at h1;exact hQ _ _ _ _ h1 h2
 |_=>exact hQ _ _ _ _ h1 h2
theorem TW.loop {α:Type}{c:Code}(I:α→ae)(p:α→Prop)(μ:α→Nat)(x:α)(hx:p x)(h0:Wk m s (I x))
  (round:∀x,p x→TW P E nt m c (tQ (fun s'=>∃y,p y∧μ y<μ x∧Wk m s' (I y)) Q) (I x)):TW P E nt m (.loop c) Q s:=by
 intro C a w hn hm hR Q' hQ hE b k cs;have key:∀n x a w,μ x=n→p x→R C (jo (I x)) (I x).get a w→
   ∃e a' w',Q' e a' w'∧Arrives P (lone (b.at a (.code c:: .inLoop c::k)) cs w) b k cs e a' w':=by
  intro n;induction n using Nat.strongRecOn with
  |_ n ih=>
   intro x a w vV hp hRx;obtain⟨e,a1,w1,hq,xC⟩:=round x hp C a w hn hm hRx (Exit.then (fun a w=>∃y,p y∧μ y<μ x∧R C (jo (I y)) (I y).get a w) Q') (fun e s' a' w' h1 h2=>by
    cases e with
    |normal=>
     obtain⟨y,y1,y2,f,cs,y3⟩:=h1;exact⟨y,y1,y2,R.weaken y3 hm h2⟩
    |_=>exact hQ _ _ _ _ h1 h2) (fun ch a w h1 h2=>hE ch a w h1 h2) b (.inLoop c::k) cs
   cases e with
   |normal=>
    obtain⟨y,y1,y2,y3⟩:=hq;obtain⟨e2,a2,w2,Re,XL⟩:=ih (μ y) (vV▸y2) y a1 w1 rfl y1 y3;exact⟨e2,a2,w2,Re,.of_steps (Steps.trans xC (.one step_inLoop)) XL⟩
   |exit id=>exact⟨_,a1,w1,hq,.pass (x:= .inLoop c) rfl (fun _ _=> .inl (by simp)) xC⟩
   |goto l=>exact⟨_,a1,w1,hq,.pass (x:= .inLoop c) rfl (fun _ _=> .inl (by simp)) xC⟩
   |ret=>exact⟨_,a1,w1,hq,.pass (x:= .inLoop c) rfl (fun _ _=> .inl (by simp)) xC⟩
   |panic ch=>exact⟨_,a1,w1,hq,.pass (x:= .inLoop c) rfl (fun _ _=> .inl (by simp)) xC⟩
   |outgrown=>exact⟨_,a1,w1,hq,.pass (x:= .inLoop c) rfl (fun _ _=> .inl (by simp)) xC⟩
 obtain⟨f,WX,h0⟩:=h0;obtain⟨e,a',w',hq,xC⟩:=key _ x a w rfl hx (R.weaken h0 hm hR);exact⟨e,a',w',hq,.of_steps (.one step_loop) xC⟩
end
def Mf (sto:List (Nat×aj))(ρ:Nat→Option Value)(k:Nat):Prop:=∃b y,gt b sto=some y∧y.live=true∧bI (ρ b)=some k
structure V0 (sto sto':List (Nat×aj)) (m:Nat) (w w':World) (ρ ρ':Nat→Option Value) (D D':Nat→Prop):Prop where
 os:w'.os=w.os
 tape:w'.tape=w.tape
 output:w'.output=w.output
 size:w.heap.size≤w'.heap.size
 old:∀k,k<w.heap.size→¬Mf sto ρ k→w'.heap[k]?=w.heap[k]?
 ro:∀k,D' k→k<w'.heap.size∧(D k∨Mf sto ρ k∨w.heap.size≤k)
 blk:∀b y,gt b sto'=some y→eB ρ' w' D' (ρ' b) y
 own:∀b y g,gt b sto'=some y→y.live=true→bI (ρ' b)=some g→¬D' g∧(Mf sto ρ g∨w.heap.size≤g)
 sep:∀b y b' y' g,gt b sto'=some y→y.live=true→gt b' sto'=some y'→y'.live=true→bI (ρ' b)=some g→bI (ρ' b')=some g→b=b'
 same:∀b,b<m→ρ' b=ρ b
 free:∀b,m≤b→gt b sto'=none→ρ' b=none
def Mk (P:Program)(f:FuncId):Prop:=∀args w,(callFunc f args).run P w= .ok (.enter f args) w
theorem Mk.of {P:Program}{f:FuncId}{fn:Func}{c:Code}(hf:P.funcs[f]?=some fn)(hb:fn.body=some c)(hn:(fn.name== "runtime.NumGoroutine")=false):Mk P f:=by
 intro args w;simp only[callFunc,Sem.run_bind,run_program,Result.andThen_ok,hf,hn,hb,Option.isNone_some,Bool.false_eq_true,if_false,Sem.run_pure]
def TC (P:Program)(E:List PanicEntry→World→Prop)(f:FuncId)(args:List GV)(m:Nat)(sto:List (Nat×aj))(r:GV)(sto':List (Nat×aj)):Prop:=
 Mk P f∧∀(w:World) (bN:Array Value) (ρ:Nat→Option Value) (D:Nat→Prop),bN.size=args.length→(∀(i:Nat) (g:GV),args[i]?=some g→bf ρ w D (bN.getD i undef) g)→(∀k,D k→k<w.heap.size)→
  (∀b y,gt b sto=some y→eB ρ w D (ρ b) y)→(∀b y g,gt b sto=some y→y.live=true→bI (ρ b)=some g→¬D g)→
  (∀b y b' y' g,gt b sto=some y→y.live=true→gt b' sto=some y'→y'.live=true→bI (ρ b)=some g→bI (ρ b')=some g→b=b')→
  Calls P f bN w fun e w'=>(∃ch,e= .panicked ch∧E ch w')∨∃v ρ' D',e= .returned v∧bf ρ' w' D' v r∧V0 sto sto' m w w' ρ ρ' D D'
def ae.Np (P:Program)(s:ae):ResultVar→Option GV
 | .tmp t=>some (lk t s.env)
 | .cell t ty=>match aw P ty with
   |some d=>match s.deref (lk t s.env)with
    |some (_,cs)=>if d.size≤cs.length then some (T.mk d.k.agg (cs.take d.size))else none
    |none=>none
   |none=>none
def ae.CF (P:Program)(s:ae):List ResultVar→Option (List GV)
 |[]=>some []
 |x::xs=>match s.Np P x with
  |some g=>match s.CF P xs with
   |some gs=>some (g::gs)
   |none=>none
  |none=>none
def ae.res (P:Program)(s:ae)(xs:List ResultVar):Option GV:=match s.CF P xs with
 |some [g]=>some g
 |some gs=>some (.p gs)
 |none=>none
def yB (tmps:Array Value):ResultVar→Sem Value
 | .tmp t=>pure (tmps.getD t undef)
 | .cell t ty=>do loadVar ty (←asAddr (tmps.getD t undef))
theorem Jh (fn:Func)(tmps:Array Value):results fn tmps=(do let vs←fn.results.mapM (yB tmps);pure (if h:vs.size=1 then vs[0]else .tuple vs)):=by
 unfold results;congr 1
theorem P4 {P:Program}{C:Ctx}{a:Act}{w:World}{ρ:Nat→Option Value}{D:Nat→Prop}{s:ae}(hR:Rel C (jo s) s.get a w ρ D){x:ResultVar}{g:GV}(h:s.Np P x=some g):
  ∃v,(yB a.tmps x).run P w= .ok v w∧bf ρ w D v g:=by
 cases x with
 |tmp t=>cases h;exact⟨_,rfl,hR.env t⟩
 |cell t ty=>
  simp only[ae.Np]at h;split at h
  ·rename_i d hd
   split at h
   ·rename_i fr cs hc
    split at h
    ·rename_i hl
     cases h;have fI:∀x∈fr,s.get x.1=x.2:=by
      unfold ae.deref at hc;split at hc
      ·split at hc
       ·rename_i hg;cases hc;intro x hx;simp at hx;subst hx;exact hg
       ·cases hc
      ·split at hc
       ·rename_i hg
        split at hc
        ·split at hc
         ·cases hc;intro x hx;simp at hx;subst hx;exact hg
         ·cases hc
        ·cases hc
       ·cases hc
      ·cases hc;intro x hx;cases hx
      ·cases hc
     obtain⟨b,k,e1,Z5⟩:=tM hR hc fI (hR.env t);have po:=(cC hd).2.2.2;have cY:∀j,j<d.size→w.cell? ⟨b,k+j,none⟩=some ((w.cell? ⟨b,k+j,none⟩).getD undef):=fun j hj=>by
      obtain⟨x,hx,_⟩:=Z5 j cs[j] (List.getElem?_eq_getElem (by omega))
      simp[hx]
     refine⟨_,by simp only[yB,e1,asAddr,Sem.run_bind,Sem.run_pure,Result.andThen_ok];rw[lA hd po _ cY],?_⟩
     refine uS (by simp;omega) (fun i t hi=>?_) (by rcases po with h1|h1;exact .inl h1;right;simp;omega)
     rw[List.getElem?_take]at hi;split at hi
     ·rename_i ai
      obtain⟨x,hx,hr⟩:=Z5 i t hi;simpa[Array.getD_eq_getD_getElem?,ai,hx]using hr
     ·cases hi
    ·cases h
   ·cases h
  ·cases h
theorem CG {P:Program}{C:Ctx}{a:Act}{w:World}{ρ:Nat→Option Value}{D:Nat→Prop}{s:ae}(hR:Rel C (jo s) s.get a w ρ D):∀{xs:List ResultVar} {gs:List GV},s.CF P xs=some gs→
  ∃vs:List Value,(xs.mapM (yB a.tmps)).run P w= .ok vs w∧vs.length=gs.length∧∀(i:Nat) (g:GV),gs[i]?=some g→bf ρ w D (vs.getD i undef) g
 |[],gs,h=>by cases h;exact⟨[],by simp,rfl,fun i g hg=>by simp at hg⟩
 |x::xs,gs,h=>by
  simp only[ae.CF]at h;split at h
  ·rename_i g hg
   split at h
   ·rename_i eJ fD
    cases h;obtain⟨v,h1,h2⟩:=P4 hR hg;obtain⟨vs,h3,h4,h5⟩:=CG hR fD;refine⟨v::vs,?_,by simp[h4],fun i g hg=>?_⟩
    ·rw[List.mapM_cons,Sem.run_bind,h1,Result.andThen_ok,Sem.run_bind,h3,Result.andThen_ok]
     rfl
    ·cases i with
     |zero=>simp only[List.getElem?_cons_zero,Option.some.injEq]at hg;subst hg;simpa using h2
     |succ i=>simpa using h5 i g (by simpa using hg)
   ·cases h
  ·cases h
theorem SP {P:Program}{C:Ctx}{a:Act}{w:World}{ρ:Nat→Option Value}{D:Nat→Prop}{s:ae}(hR:Rel C (jo s) s.get a w ρ D){fn:Func}{xs:List ResultVar}(fp:fn.results.toList=xs){g:GV}(h:s.res P xs=some g):∃v,(results fn a.tmps).run P w= .ok v w∧bf ρ w D v g:=by
 subst fp;unfold ae.res at h
 cases hl:s.CF P fn.results.toList with
 |none=>simp[hl]at h
 |some gs=>
  obtain⟨vs,h1,h2,h3⟩:=CG hR hl;have iD:(results fn a.tmps).run P w= .ok (if h:vs.toArray.size=1 then vs.toArray[0]else .tuple vs.toArray) w:=by
   rw[Jh,Sem.run_bind,Array.mapM_eq_mapM_toList,Sem.run_map,h1];rfl
  refine⟨_,iD,?_⟩;rw[hl]at h;rcases gs with _|⟨g0,_|⟨g1,gs⟩⟩
  ·simp only[Option.some.injEq]at h
   subst h;obtain rfl:vs=[]:=List.eq_nil_of_length_eq_zero (by simpa using h2)
   rw[dif_neg (by simp)]
   exact .p rfl fun i g hg=>by simp at hg
  ·simp only[Option.some.injEq]at h
   subst h;rcases vs with _|⟨v,_|⟨v1,vs⟩⟩
   ·simp at h2
   ·have:=h3 0 g0 rfl
    simpa using this
   ·simp at h2
  ·simp only[Option.some.injEq]at h
   subst h;rw[dif_neg (by simp[h2])]
   refine .p (by simpa using h2) fun i g hg=>?_
   have:=h3 i g hg
   simpa[List.getD_eq_getElem?_getD,Array.getD_eq_getD_getElem?]using this
structure Ret (P:Program) (xs:List ResultVar) (m:Nat) (s:ae) (r:GV) (sto':List (Nat×aj)) (f:Nat→Nat) (cs:List Nat) (r0:GV):Prop where
 res:s.res P xs=some r0
 val:r0.cr s.get cs=r.bq f
 names:∀b∈r.names,b<m∨(gt b sto').isSome=true
 cons:∀b∈cs,∃e k xs,s.get b=some (.rows e k xs)
 sto:∀x∈sto',f x.1∉cs∧(s.get (f x.1)).map (aj.cr s.get cs)=some (x.2.bq f)∧∀b∈x.2.names,b<m∨(gt b sto').isSome=true
 inj:∀x∈sto',∀y∈sto',f x.1=f y.1→x.1=y.1
 fix:∀b,b<m→f b=b
def aE (P:Program)(xs:List ResultVar)(m:Nat)(s:ae)(r:GV)(sto':List (Nat×aj)):Prop:=∃f cs r0,Ret P xs m s r sto' f cs r0
def SQ (P:Program)(xs:List ResultVar)(m:Nat)(r:GV)(sto':List (Nat×aj)):Exit→ae→Prop
 | .normal,s=>aE P xs m s r sto'
 | .ret,s=>aE P xs m s r sto'
 |_,_=>False
def kI:Nat→List GV→List (Nat×GV)
 |_,[]=>[]
 |i,g::gs=>(i,g)::kI (i+1) gs
theorem zV (t:Nat):∀(gs:List GV) (i:Nat),lk t (kI i gs)=if i≤t then gs.getD (t-i) .u else .u
 |[],i=>by simp[kI,lk]
 |g::gs,i=>by
  simp only[kI,lk,zV t gs (i+1)];by_cases h:t=i
  ·subst h;simp
  ·by_cases h2:i≤t
   ·rw[if_neg h,if_pos (by omega),if_pos h2,show t-i=(t-(i+1))+1 by omega,List.getD_cons_succ]
   ·rw[if_neg h,if_neg (by omega),if_neg h2]
theorem cA.restrict {ρ ρ':Nat→Option Value}{w:World}{D:Nat→Prop}{v:Value}{t:TV}(h:cA ρ w D v t)(hf:∀b∈t.names,∀x,ρ b=some x→ρ' b=some x):cA ρ' w D v t:=by
 cases h with
 |r h=>exact .r h
 |own h=>exact .own (hf _ (List.mem_cons_self ..) _ h)
 |ptr h=>exact .ptr (hf _ (List.mem_cons_self ..) _ h)
 |row h=>exact .row (hf _ (List.mem_cons_self ..) _ h)
 |ju vs h1 h2 h3=>exact .ju vs h1 h2 h3
theorem bf.restrict {ρ ρ':Nat→Option Value}{w:World}{D:Nat→Prop}{v:Value}{g:GV}(h:bf ρ w D v g):(∀b∈g.names,∀x,ρ b=some x→ρ' b=some x)→bf ρ' w D v g:=by
 induction h with
 |s h=>exact fun hf=> .s (h.restrict hf)
 |a hn h=>exact fun hf=> .a hn fun i t ht=>(h i t ht).restrict fun b hb=>hf b (by simp only[GV.names,List.mem_flatMap];exact⟨t,List.mem_of_getElem? ht,hb⟩)
 |p hn _ ih=>exact fun hf=> .p hn fun i g hg=>ih i g hg fun b hb=>hf b (yi (List.mem_of_getElem? hg) b hb)
 |hU h1 h2 _ _ i1 i2=>exact fun hf=> .hU h1 h2 (fun i g hg=>i1 i g hg fun b hb=>hf b (List.mem_append_left _ (yi (List.mem_of_getElem? hg) b hb))) fun i g hg=>i2 i g hg fun b hb=>hf b (List.mem_append_right _ (yi (List.mem_of_getElem? hg) b hb))
 |eV _ ih=>exact fun hf=> .eV (ih hf)
 |u=>exact fun _=> .u
theorem eB.restrict {ρ ρ':Nat→Option Value}{w:World}{D:Nat→Prop}{x:Option Value}{y:aj}(h:eB ρ w D x y)(hf:∀b∈y.names,∀x,ρ b=some x→ρ' b=some x):eB ρ' w D x y:=by
 cases y with
 |dead=>trivial
 |rows e k xs=>exact h
 |box cs=>
  obtain⟨g,arr,ty,e,h1,h2,h3⟩:=h;exact⟨g,arr,ty,e,h1,h2,fun i t ht=>(h3 i t ht).restrict fun b hb=>hf b (by simp only[aj.names,List.mem_flatMap];exact⟨t,List.mem_of_getElem? ht,hb⟩)⟩
def gA (m:Nat)(sto:List (Nat×aj)):Bool:=(List.range m).all fun b=>match gt b sto with|some y=>y.live|none=>false
structure Fits (args:List GV) (m:Nat) (sto:List (Nat×aj)):Prop where
 ok:gA m sto=true
 lt:∀x∈sto,x.1<m
 args:∀g∈args,∀b∈g.names,b<m
 sto:∀x∈sto,∀b∈x.2.names,b<m
theorem Fits.live {args:List GV}{m:Nat}{sto:List (Nat×aj)}(h:Fits args m sto){b:Nat}(hb:b<m):∃y,gt b sto=some y∧y.live=true:=by
 have:=h.ok
 simp only[gA,List.all_eq_true,List.mem_range]at this;have:=this b hb
 split at this
 ·rename_i y hy;exact⟨y,hy,this⟩
 ·cases this
theorem eB.some {ρ:Nat→Option Value}{w:World}{D:Nat→Prop}{x:Option Value}{y:aj}(h:eB ρ w D x y)(hl:y.live=true):∃v,x= .some v:=by
 cases y with
 |dead=>simp[aj.live]at hl
 |rows e k xs=>obtain⟨A,c,e,_⟩:=h;exact⟨_,e⟩
 |box cs=>obtain⟨g,arr,ty,e,_⟩:=h;exact⟨_,e⟩
theorem TC.enter {P:Program}{E:List PanicEntry→World→Prop}{f:FuncId}{fn:Func}{c:Code}{args:List GV}{m:Nat}{sto sto':List (Nat×aj)}{r:GV}(hf:P.funcs[f]?=some fn)(hb:fn.body=some c)(XM:(fn.name== "runtime.NumGoroutine")=false) {nt:Nat} (XN:fn.ntmps=nt) {xs:List ResultVar} (fp:fn.results.toList=xs) (hn:args.length≤nt) (hfit:Fits args m sto)
  (h:TW P E nt m c (SQ P xs m r sto') ⟨kI 0 args,sto,m⟩):TC P E f args m sto r sto':=by
 subst XN;refine⟨Mk.of hf hb XM,?_⟩;intro w bN ρ D hv ha hD fl FJ Vn;let C:Ctx:={W:=w,M:=Mf sto ρ,D0:=D,nt:=fn.ntmps,mE:=fun b=>if b<m then ρ b else none}
 have EV:∀b y,gt b sto=some y→b<m:=fun b y hy=>hfit.lt _ (fK hy)
 have dQ:∀b y,(ae.get ⟨kI 0 args,sto,m⟩ b)=some y→b<m∧(y= .dead∨gt b sto=some y):=by
  intro b y hy;unfold ae.get at hy;split at hy
  ·rename_i z hz;cases hy;exact⟨EV _ _ hz,.inr hz⟩
  ·split at hy
   ·rename_i ai;cases hy;exact⟨ai,.inl rfl⟩
   ·cases hy
 have fq:∀b,b<m→(fun b=>if b<m then ρ b else none) b=ρ b:=fun b hb=>by simp[hb]
 have ye:bN.size=args.length:=hv
 have hR:Rel C (jo ⟨kI 0 args,sto,m⟩) (ae.get ⟨kI 0 args,sto,m⟩) {tmps:=bN++Array.replicate (fn.ntmps-bN.size) undef,defers:=[]} w (fun b=>if b<m then ρ b else none) D:=by
  refine⟨rfl,rfl,rfl,Nat.le_refl _,fun k _ _=>rfl,fun k hk=>⟨hD k hk,.inl hk⟩,fun b hb=>?_,fun b y hy=>?_,fun b y g hy hl hg=>?_,fun b y b' y' g hy hl dP aY hg bh=>?_,fun t=>?_,rfl,?_,fun b x hx=>hx⟩
  ·unfold ae.get at hb
   split at hb
   ·cases hb
   ·split at hb
    ·cases hb
    ·rename_i h;simp only at h;simp[h]
  ·obtain⟨h1,h2⟩:=dQ b y hy
   rcases h2 with rfl|h2
   ·trivial
   ·simp only[h1,if_true]
    exact(fl b y h2).restrict fun c hc x hx=>by rw[if_pos (hfit.sto _ (fK h2) c hc)];exact hx
  ·obtain⟨h1,h2⟩:=dQ b y hy
   rcases h2 with rfl|h2
   ·simp[aj.live]at hl
   ·simp only[h1,if_true]at hg
    exact⟨FJ b y g h2 hl hg,.inl ⟨b,y,h2,hl,hg⟩⟩
  ·obtain⟨h1,h2⟩:=dQ b y hy
   obtain⟨js,nS⟩:=dQ b' y' dP;rcases h2 with rfl|h2
   ·simp[aj.live]at hl
   ·rcases nS with rfl|nS
    ·simp[aj.live]at aY
    ·simp only[h1,js,if_true]at hg bh
     exact Vn b y b' y' g h2 hl nS aY hg bh
  ·simp only[jo,zV,Nat.zero_le,if_true,Nat.sub_zero]
   by_cases ht:t<args.length
   ·have hg:args[t]?= .some args[t]:=List.getElem?_eq_getElem ht
    have:=(ha t _ hg).restrict (ρ':=fun b=>if b<m then ρ b else none) fun c hc x hx=>by rw[if_pos (hfit.args _ (List.getElem_mem ht) c hc)];exact hx
    rw[List.getD_eq_getElem?_getD,hg];have e:(bN++Array.replicate (fn.ntmps-bN.size) undef).getD t undef=bN.getD t undef:=by
     have ai:t<bN.size:=by omega
     simp[Array.getD_eq_getD_getElem?,Array.getElem?_append_left ai]
    rw[e];exact this
   ·rw[List.getD_eq_getElem?_getD,List.getElem?_eq_none (by omega)]
    exact .u
  ·simp only[Array.size_append,Array.size_replicate]
   show _=fn.ntmps
   omega
 refine calls_of_wp hf hb (h C _ w rfl (fun b x hx=>?_) ⟨_,D,hR⟩ _ (fun e s' a' w' hq pt=>?_) fun ch a w' hd hE=>⟨hd,.inl ⟨ch,rfl,hE⟩⟩)
 ·have:(if b<m then ρ b else none)=some x:=hx
  split at this
  ·assumption
  ·cases this
 obtain⟨P5,De,SS⟩:=pt;have V1:aE P xs m s' r sto'→a'.defers=[]∧∃v,(results fn a'.tmps).run P w'= .ok v w'∧((∃ch,Ending.returned v= .panicked ch∧E ch w')∨∃v' ρ' D',Ending.returned v= .returned v'∧bf ρ' w' D' v' r∧V0 sto sto' m w w' ρ ρ' D D'):=by
  rintro⟨f',cs,r0,hr⟩;refine⟨SS.defers,?_⟩;obtain⟨v,tu,Bf⟩:=SP SS fp hr.res;obtain⟨D',EW,I7,mM⟩:=SS.freeze (cs:=cs) fun b hb=>by
   obtain⟨e,k,xs,h⟩:=hr.cons b hb;exact⟨_,h,rfl⟩
  refine⟨v,tu,.inr ⟨v,fun b=>if b<m then ρ b else if(gt b sto').isSome=true then P5 (f' b)else none,D',rfl,?_,?_⟩⟩
  all_goals
   have kq:∀b,b<m→P5 b=ρ b:=fun b hb=>by
    obtain⟨y,hy,hl⟩:=hfit.live hb;obtain⟨x,hx⟩:=(fl b y hy).some hl;rw[hx];refine SS.ext b x ?_;show(if b<m then ρ b else none)=some x
    rw[if_pos hb,hx]
   have SK:∀b,(b<m∨(gt b sto').isSome=true)→∀x,P5 (f' b)=some x→(fun b=>if b<m then ρ b else if(gt b sto').isSome=true then P5 (f' b)else none) b=some x:=by
    intro b hb x hx;by_cases h1:b<m
    ·rw[hr.fix b h1,kq b h1]at hx
     simp[h1,hx]
    ·simp[h1,hb.resolve_left h1,hx]
   have ia:∀b,(gt b sto').isSome=true→(if b<m then ρ b else if(gt b sto').isSome=true then P5 (f' b)else none)=P5 (f' b):=by
    intro b hb;by_cases h1:b<m
    ·simp only[h1,if_true,hr.fix b h1,kq b h1]
    ·simp[h1,hb]
  ·have:=Bf.cr SS I7 mM
   rw[hr.val]at this;exact this.bq fun b hb=>SK b (hr.names b hb)
  ·have bk:∀b y,gt b sto'=some y→(fun b=>if b∈cs then some aj.dead else(s'.get b).map (aj.cr s'.get cs)) (f' b)=some (y.bq f')∧(gt b sto').isSome=true∧∀c∈y.names,c<m∨(gt c sto').isSome=true:=by
    intro b y hy;obtain⟨h1,h2,h3⟩:=hr.sto _ (fK hy);exact⟨by simp only[h1,if_false];exact h2,by rw[hy];rfl,h3⟩
   refine⟨EW.os,EW.tape,EW.output,EW.size,fun k hk hM=>EW.old k hk hM,fun k hk=>EW.ro k hk,fun b y hy=>?_,fun b y g hy hl hg=>?_,fun b y b' y' g hy hl dP aY hg bh=>?_,fun b hb=>by simp[hb],fun b hb hy=>?_⟩
   ·obtain⟨h1,h2,h3⟩:=bk b y hy
    simp only[ia b h2];exact(EW.blk _ _ h1).bq fun c hc=>SK c (h3 c hc)
   ·obtain⟨h1,h2,h3⟩:=bk b y hy
    simp only[ia b h2]at hg;exact EW.own _ _ g h1 (by rw[aj.dH];exact hl) hg
   ·obtain⟨h1,h2,h3⟩:=bk b y hy
    obtain⟨js,nS,Jg⟩:=bk b' y' dP;simp only[ia b h2]at hg;simp only[ia b' nS]at bh;exact hr.inj _ (fK hy) _ (fK dP) (EW.sep _ _ _ _ g h1 (by rw[aj.dH];exact hl) js (by rw[aj.dH];exact aY) hg bh)
   ·have:¬b<m:=by omega
    simp[this,hy]
 cases e with
 |normal=>exact V1 hq
 |ret=>exact V1 hq
 |_=>exact hq.elim
end Go.Proofs.YtjklkppncmhehaaGreat.T
