/-
What is proved: names may be changed, forgotten, and rows of the call's own become read-only ('R.weaken'). No condition. rules of a walk over trees ('TW'), and what a function does to trees ('TC', 'TC.enter'). No condition.
-/
import Derived.Test.YtjklkppncmhehaaGreatRa28
set_option linter.unusedVariables false
set_option linter.unusedSimpArgs false
namespace Go.Proofs.YtjklkppncmhehaaGreat.T
open Go Go.RowKit
def TV.bg (f:Nat→Nat):TV→TV
 | .r t=> .r t
 | .own b=> .own (f b)
 | .ptr b o=> .ptr (f b) o
 | .row b k i o=> .row (f b) k i o
 | .gS xs o=> .gS xs o
def TV.names:TV→List Nat
 | .r _=>[]
 | .own b=>[b]
 | .ptr b _=>[b]
 | .row b _ _ _=>[b]
 | .gS _ _=>[]
mutual
def GV.bg (f:Nat→Nat):GV→GV
 | .s t=> .s (t.bg f)
 | .a ts=> .a (ts.map (TV.bg f))
 | .p gs=> .p (eK f gs)
 | .eI fn fs cs=> .eI fn (eK f fs) (eK f cs)
 | .u=> .u
def eK (f:Nat→Nat):List GV→List GV
 |[]=>[]
 |g::gs=>g.bg f::eK f gs
end
mutual
def GV.names:GV→List Nat
 | .s t=>t.names
 | .a ts=>ts.flatMap TV.names
 | .p gs=>cI gs
 | .eI _ fs cs=>cI fs++cI cs
 | .u=>[]
def cI:List GV→List Nat
 |[]=>[]
 |g::gs=>g.names++cI gs
end
def ak.bg (f:Nat→Nat):ak→ak
 | .box cs=> .box (cs.map (TV.bg f))
 | .rows e k xs=> .rows e k xs
 | .dead=> .dead
def ak.names:ak→List Nat
 | .box cs=>cs.flatMap TV.names
 |_=>[]
theorem fP (f:Nat→Nat):∀(gs:List GV) (i:Nat),(eK f gs)[i]?=gs[i]?.map (GV.bg f)
 |[],i=>by simp[eK]
 |g::gs,0=>by simp[eK]
 |g::gs,i+1=>by simp[eK,fP f gs i]
theorem cJ (f:Nat→Nat):∀(gs:List GV),(eK f gs).length=gs.length
 |[]=>rfl
 |g::gs=>by simp[eK,cJ f gs]
theorem uO {g:GV}:∀{gs:List GV},g∈gs→∀b∈g.names,b∈cI gs
 |x::gs,h,b,hb=>by
  simp only[cI,List.mem_append];rcases List.mem_cons.1 h with rfl|h
  ·exact .inl hb
  ·exact .inr (uO h b hb)
section
variable {ρ ρ':Nat→Option Value}{w:World}{D:Nat→Prop}{f:Nat→Nat}
theorem bW.bg {v:Value}{t:TV}(h:bW ρ w D v (t.bg f))(hf:∀b∈t.names,∀x,ρ (f b)=some x→ρ' b=some x):bW ρ' w D v t:=by
 cases t with
 |r t=>cases h with|r h=>exact .r h
 |own b=>cases h with|own h=>exact .own (hf b (List.mem_cons_self ..) _ h)
 |ptr b o=>cases h with|ptr h=>exact .ptr (hf b (List.mem_cons_self ..) _ h)
 |row b k i o=>cases h with|row h=>exact .row (hf b (List.mem_cons_self ..) _ h)
 |gS xs o=>cases h with|gS vs U h2 h3=>exact .gS vs U h2 h3
theorem bW.qP {v:Value}{t:TV}(h:bW ρ' w D v t)(hf:∀b∈t.names,∀x,ρ' b=some x→ρ (f b)=some x):bW ρ w D v (t.bg f):=by
 cases t with
 |r t=>cases h with|r h=>exact .r h
 |own b=>cases h with|own h=>exact .own (hf b (List.mem_cons_self ..) _ h)
 |ptr b o=>cases h with|ptr h=>exact .ptr (hf b (List.mem_cons_self ..) _ h)
 |row b k i o=>cases h with|row h=>exact .row (hf b (List.mem_cons_self ..) _ h)
 |gS xs o=>cases h with|gS vs U h2 h3=>exact .gS vs U h2 h3
theorem aY.Pk {v:Value}{g':GV}(h:aY ρ w D v g'):∀g,g'=g.bg f→(∀b∈g.names,∀x,ρ (f b)=some x→ρ' b=some x)→aY ρ' w D v g:=by
 induction h with
 |s h=>
  intro g e hf
  cases g<;>simp only[GV.bg,reduceCtorEq,GV.s.injEq]at e
  subst e;exact .s (h.bg hf)
 |a hn h=>
  intro g e hf
  cases g<;>simp only[GV.bg,reduceCtorEq,GV.a.injEq]at e
  rename_i ts;subst e;refine .a (by simpa using hn) fun i t ht=>(h i (t.bg f) (by simp[ht])).bg fun b hb=>hf b ?_
  simp only[GV.names,List.mem_flatMap];exact⟨t,List.mem_of_getElem? ht,hb⟩
 |p hn _ ih=>
  intro g e hf
  cases g<;>simp only[GV.bg,reduceCtorEq,GV.p.injEq]at e
  rename_i gs;subst e;refine .p (by rw[hn,cJ]) fun i g hg=>ih i (g.bg f) (by rw[fP,hg];rfl) g rfl fun b hb=>hf b ?_
  exact uO (List.mem_of_getElem? hg) b hb
 |eI U h2 _ _ i1 i2=>
  intro g e hf
  cases g<;>simp only[GV.bg,reduceCtorEq,GV.eI.injEq]at e
  rename_i Km fs' bK;obtain⟨rfl,rfl,rfl⟩:=e;refine .eI (by rw[U,cJ]) (by rw[h2,cJ]) (fun i g hg=>i1 i (g.bg f) (by rw[fP,hg];rfl) g rfl fun b hb=>hf b ?_) fun i g hg=>i2 i (g.bg f) (by rw[fP,hg];rfl) g rfl fun b hb=>hf b ?_
  ·exact List.mem_append_left _ (uO (List.mem_of_getElem? hg) b hb)
  ·exact List.mem_append_right _ (uO (List.mem_of_getElem? hg) b hb)
 |u=>
  intro g e hf
  cases g<;>simp only[GV.bg,reduceCtorEq]at e
  exact .u
theorem aY.bg {v:Value}{g:GV}(h:aY ρ w D v (g.bg f))(hf:∀b∈g.names,∀x,ρ (f b)=some x→ρ' b=some x):aY ρ' w D v g:=h.Pk g rfl hf
theorem aY.qP {v:Value}{g:GV}(h:aY ρ' w D v g)(hf:∀b∈g.names,∀x,ρ' b=some x→ρ (f b)=some x):aY ρ w D v (g.bg f):=by
 induction h with
 |s h=>exact .s (h.qP hf)
 |a hn h=>
  refine .a (by simpa using hn) fun i t ht=>?_
  rw[List.getElem?_map,Option.map_eq_some_iff]at ht;obtain⟨t',uP,rfl⟩:=ht;refine(h i t' uP).qP fun b hb=>hf b ?_
  simp only[GV.names,List.mem_flatMap];exact⟨t',List.mem_of_getElem? uP,hb⟩
 |p hn _ ih=>
  refine .p (by rw[hn,cJ]) fun i g hg=>?_
  rw[fP,Option.map_eq_some_iff]at hg;obtain⟨g',a_,rfl⟩:=hg;exact ih i g' a_ fun b hb=>hf b (uO (List.mem_of_getElem? a_) b hb)
 |eI U h2 _ _ i1 i2=>
  refine .eI (by rw[U,cJ]) (by rw[h2,cJ]) (fun i g hg=>?_) fun i g hg=>?_
  ·rw[fP,Option.map_eq_some_iff]at hg
   obtain⟨g',a_,rfl⟩:=hg;exact i1 i g' a_ fun b hb=>hf b (List.mem_append_left _ (uO (List.mem_of_getElem? a_) b hb))
  ·rw[fP,Option.map_eq_some_iff]at hg
   obtain⟨g',a_,rfl⟩:=hg;exact i2 i g' a_ fun b hb=>hf b (List.mem_append_right _ (uO (List.mem_of_getElem? a_) b hb))
 |u=>exact .u
theorem dt.bg {x:Option Value}{y:ak}(h:dt ρ w D x (y.bg f))(hf:∀b∈y.names,∀x,ρ (f b)=some x→ρ' b=some x):dt ρ' w D x y:=by
 cases y with
 |dead=>trivial
 |rows e k xs=>exact h
 |box cs=>
  obtain⟨g,arr,ty,e,U,h2,h3⟩:=h;refine⟨g,arr,ty,e,U,by simpa using h2,fun i t ht=>(h3 i (t.bg f) (by simp[ht])).bg fun b hb=>hf b ?_⟩
  simp only[ak.names,List.mem_flatMap];exact⟨t,List.mem_of_getElem? ht,hb⟩
theorem dt.qP {x:Option Value}{y:ak}(h:dt ρ' w D x y)(hf:∀b∈y.names,∀x,ρ' b=some x→ρ (f b)=some x):dt ρ w D x (y.bg f):=by
 cases y with
 |dead=>trivial
 |rows e k xs=>exact h
 |box cs=>
  obtain⟨g,arr,ty,e,U,h2,h3⟩:=h;refine⟨g,arr,ty,e,U,by simpa using h2,fun i t ht=>?_⟩
  rw[List.getElem?_map,Option.map_eq_some_iff]at ht;obtain⟨t',uP,rfl⟩:=ht;refine(h3 i t' uP).qP fun b hb=>hf b ?_
  simp only[ak.names,List.mem_flatMap];exact⟨t',List.mem_of_getElem? uP,hb⟩
theorem ak.cX (y:ak):(y.bg f).live=y.live:=by cases y<;>rfl
end
def TV.bZ (get:Nat→Option ak)(cs:List Nat):TV→TV
 | .own b=>if b∈cs then match get b with
   |some (.rows _ k xs)=> .r (.sl k xs)
   |_=> .own b
   else .own b
 |t=>t
mutual
def GV.bZ (get:Nat→Option ak)(cs:List Nat):GV→GV
 | .s t=> .s (t.bZ get cs)
 | .a ts=> .a (ts.map (TV.bZ get cs))
 | .p gs=> .p (eL get cs gs)
 | .eI fn fs ds=> .eI fn fs ds
 | .u=> .u
def eL (get:Nat→Option ak)(cs:List Nat):List GV→List GV
 |[]=>[]
 |g::gs=>g.bZ get cs::eL get cs gs
end
def ak.bZ (get:Nat→Option ak)(cs:List Nat):ak→ak
 | .box ts=> .box (ts.map (TV.bZ get cs))
 |y=>y
theorem mz (get:Nat→Option ak)(cs:List Nat):∀(gs:List GV) (i:Nat),(eL get cs gs)[i]?=gs[i]?.map (GV.bZ get cs)
 |[],i=>by simp[eL]
 |g::gs,0=>by simp[eL]
 |g::gs,i+1=>by simp[eL,mz get cs gs i]
theorem fQ (get:Nat→Option ak)(cs:List Nat):∀(gs:List GV),(eL get cs gs).length=gs.length
 |[]=>rfl
 |g::gs=>by simp[eL,fQ get cs gs]
theorem TV.iS {get get':Nat→Option ak}{cs:List Nat}(h:∀b∈cs,get b=get' b)(t:TV):t.bZ get cs=t.bZ get' cs:=by
 unfold TV.bZ;split
 ·rename_i b
  by_cases hb:b∈cs
  ·rw[h b hb]
  ·simp[hb]
 ·rfl
mutual
theorem GV.iS {get get':Nat→Option ak}{cs:List Nat}(h:∀b∈cs,get b=get' b):∀(g:GV),g.bZ get cs=g.bZ get' cs
 | .s t=>by simp only[GV.bZ,TV.iS h]
 | .a ts=>by simp only[GV.bZ];congr 1;exact List.map_congr_left fun t _=>TV.iS h t
 | .p gs=>by simp only[GV.bZ,uk h gs]
 | .eI _ _ _=>by simp only[GV.bZ]
 | .u=>by simp only[GV.bZ]
theorem uk {get get':Nat→Option ak}{cs:List Nat}(h:∀b∈cs,get b=get' b):∀(gs:List GV),eL get cs gs=eL get' cs gs
 |[]=>by simp only[eL]
 |g::gs=>by simp only[eL,GV.iS h g,uk h gs]
end
section
variable {C:Ctx}{env:Nat→GV}{get:Nat→Option ak}{a:Act}{w:World}{ρ:Nat→Option Value}{D D':Nat→Prop}{cs:List Nat}
theorem bW.bZ (hR:Rel C env get a w ρ D)(hD:∀k,D k→D' k)(hb:∀b∈cs,∀g,bo (ρ b)=some g→D' g){v:Value}{t:TV}(h:bW ρ w D v t):bW ρ w D' v (t.bZ get cs):=by
 unfold TV.bZ;split
 ·rename_i b
  split
  ·rename_i hm
   split
   ·rename_i e k xs hg
    have:(ae.ud ⟨[],[(b,.rows e k xs)],0⟩ (.own b))=some (.sl k xs,[b]):=by simp[ae.ud,ae.get,gt]
    refine .r (zj hR this (fun c hc=>?_) hD (fun c hc=>hb c ?_) h)
    ·simp only[List.mem_cons,List.not_mem_nil,or_false]at hc
     subst hc;rw[hg];simp[ae.get,gt]
    ·simp only[List.mem_cons,List.not_mem_nil,or_false]at hc
     subst hc;exact hm
   ·exact h.bB (fun _ _ h=>h) (bV.refl _ _) hD
  ·exact h.bB (fun _ _ h=>h) (bV.refl _ _) hD
 ·exact h.bB (fun _ _ h=>h) (bV.refl _ _) hD
theorem aY.bZ (hR:Rel C env get a w ρ D)(hD:∀k,D k→D' k)(hb:∀b∈cs,∀g,bo (ρ b)=some g→D' g){v:Value}{g:GV}(h:aY ρ w D v g):aY ρ w D' v (g.bZ get cs):=by
 induction h with
 |s h=>exact .s (h.bZ hR hD hb)
 |a hn h=>
  refine .a (by simpa using hn) fun i t ht=>?_
  rw[List.getElem?_map,Option.map_eq_some_iff]at ht;obtain⟨t',uP,rfl⟩:=ht;exact(h i t' uP).bZ hR hD hb
 |p hn _ ih=>
  refine .p (by rw[hn,fQ]) fun i g hg=>?_
  rw[mz,Option.map_eq_some_iff]at hg;obtain⟨g',a_,rfl⟩:=hg;exact ih i g' a_
 |eI U h2 h3 h4 _ _=>exact .eI U h2 (fun i g hg=>(h3 i g hg).bB (fun _ _ h=>h) (bV.refl _ _) hD) fun i g hg=>(h4 i g hg).bB (fun _ _ h=>h) (bV.refl _ _) hD
 |u=>exact .u
theorem Rel.freeze (hR:Rel C env get a w ρ D)(hb:∀b∈cs,∃z,get b=some z∧z.live=true):∃D',Rel C (fun t=>(env t).bZ get cs) (fun b=>if b∈cs then some .dead else(get b).map (ak.bZ get cs)) a w ρ D'∧(∀k,D k→D' k)∧∀b∈cs,∀g,bo (ρ b)=some g→D' g:=by
 obtain⟨D',h,hD,kM⟩:=hR.consume cs hb;have Nh:∀c,gt c (cs.map fun b=>(b,ak.dead))=if c∈cs then some .dead else none:=by
  intro c;clear hb h kM;induction cs with
  |nil=>rfl
  |cons b bs ih=>
   simp only[List.map_cons,gt,List.mem_cons];rw[ih];by_cases e:c=b<;>simp[e]
 have FM:∀c,upd get (cs.map fun b=>(b,ak.dead)) c=if c∈cs then some .dead else get c:=by
  intro c;simp only[upd,Nh];split<;>simp_all
 refine⟨D',⟨h.os,h.tape,h.output,h.size,h.old,h.ro,fun c hc=>?_,fun c y hc=>?_,fun c y g hc hl hg=>?_,fun c y1 c' y2 g hc hl eR bz hg a_=>?_,fun t=>(hR.env t).bZ hR hD kM,h.defers,h.nt,h.ext⟩,hD,kM⟩
 ·split at hc
  ·cases hc
  ·rename_i hn
   exact hR.free c (by simpa using hc)
 ·split at hc
  ·cases hc;trivial
  ·rename_i hn
   obtain⟨y',dc,rfl⟩:=Option.map_eq_some_iff.1 hc;have:=hR.blk c y' dc
   cases y' with
   |dead=>trivial
   |rows e k xs=>exact this.bB (fun _ _ h=>h) (bV.refl _ _) hD (.inr fun _ _=>rfl)
   |box ts=>
    obtain⟨g,arr,ty,e1,U,h2,h3⟩:=this;refine⟨g,arr,ty,e1,U,by simpa using h2,fun i t ht=>?_⟩
    rw[List.getElem?_map,Option.map_eq_some_iff]at ht;obtain⟨t',uP,rfl⟩:=ht;exact(h3 i t' uP).bZ hR hD kM
 ·split at hc
  ·cases hc;simp[ak.live]at hl
  ·rename_i hn
   obtain⟨y',dc,rfl⟩:=Option.map_eq_some_iff.1 hc;refine h.own c y' g (by rw[FM,if_neg hn];exact dc) ?_ hg
   cases y'<;>first|rfl|(simp[ak.bZ,ak.live]at hl)
 ·split at hc
  ·cases hc;simp[ak.live]at hl
  ·split at eR
   ·cases eR;simp[ak.live]at bz
   ·rename_i hn vq
    obtain⟨y',dc,rfl⟩:=Option.map_eq_some_iff.1 hc;obtain⟨WW,WX,rfl⟩:=Option.map_eq_some_iff.1 eR;refine h.sep c y' c' WW g (by rw[FM,if_neg hn];exact dc) ?_ (by rw[FM,if_neg vq];exact WX) ?_ hg a_
    ·cases y'<;>first|rfl|(simp[ak.bZ,ak.live]at hl)
    ·cases WW<;>first|rfl|(simp[ak.bZ,ak.live]at bz)
theorem Rel.rename (hR:Rel C env get a w ρ D){JQ:Nat→GV}{get':Nat→Option ak}{f:Nat→Nat}{nx:Nat}(WY:∀b x,C.kF b=some x→f b=b∧b<nx)(WZ:∀t,JQ t= .u∨(env t=(JQ t).bg f∧∀b∈(JQ t).names,b<nx))
  (dC:∀b y,get' b=some y→b<nx∧(y= .dead∨(get (f b)=some (y.bg f)∧∀c∈y.names,c<nx))) (Up:∀b,b<nx→get' b≠none) (W0:∀b y b' y',get' b=some y→y.live=true→get' b'=some y'→y'.live=true→f b=f b'→b=b'):
  Rel C JQ get' a w (fun b=>if b<nx then ρ (f b)else none) D:=by
 have ff:∀b,b<nx→∀x,ρ (f b)=some x→(fun b=>if b<nx then ρ (f b)else none) b=some x:=fun b hb x hx=>by simp[hb,hx]
 refine⟨hR.os,hR.tape,hR.output,hR.size,hR.old,hR.ro,fun b hb=>?_,fun b y hy=>?_,fun b y g hy hl hg=>?_,fun b y b' y' g hy hl dc bz hg a_=>?_,fun t=>?_,hR.defers,hR.nt,fun b x hx=>?_⟩
 ·have:¬b<nx:=fun h=>Up b h hb
  simp[this]
 ·obtain⟨U,h2⟩:=dC b y hy
  rcases h2 with rfl|⟨h2,h3⟩
  ·trivial
  ·simp only[U,if_true]
   exact(hR.blk _ _ h2).bg fun c hc=>ff c (h3 c hc)
 ·obtain⟨U,h2⟩:=dC b y hy
  rcases h2 with rfl|⟨h2,h3⟩
  ·simp[ak.live]at hl
  ·simp only[U,if_true]at hg
   exact hR.own _ _ g h2 (by rw[ak.cX];exact hl) hg
 ·obtain⟨U,h2⟩:=dC b y hy
  obtain⟨iM,lU⟩:=dC b' y' dc;rcases h2 with rfl|⟨h2,h3⟩
  ·simp[ak.live]at hl
  ·rcases lU with rfl|⟨lU,F5⟩
   ·simp[ak.live]at bz
   ·simp only[U,iM,if_true]at hg a_
    exact W0 b y b' y' hy hl dc bz (hR.sep _ _ _ _ g h2 (by rw[ak.cX];exact hl) lU (by rw[ak.cX];exact bz) hg a_)
 ·rcases WZ t with h|⟨U,h2⟩
  ·rw[h];exact .u
  ·have:=hR.env t
   rw[U]at this;exact this.bg fun b hb=>ff b (h2 b hb)
 ·obtain⟨U,h2⟩:=WY b x hx
  simp only[h2,if_true,U];exact hR.ext b x hx
end
end Go.Proofs.YtjklkppncmhehaaGreat.T
namespace Go.Proofs.YtjklkppncmhehaaGreat.T
open Go Go.RowKit
def gN (s:ae):Nat→GV:=fun t=>lk t s.env
theorem JR (t:Nat):∀(e:List (Nat×GV)),lk t e= .u∨(t,lk t e)∈e
 |[]=> .inl rfl
 |(u,g)::e=>by
  simp only[lk];split
  ·rename_i h;subst h;exact .inr (List.mem_cons_self ..)
  ·rcases JR t e with h|h
   ·exact .inl h
   ·exact .inr (List.mem_cons_of_mem _ h)
theorem dY {b:Nat}:∀{l:List (Nat×ak)} {y:ak},gt b l=some y→(b,y)∈l
 |(u,z)::l,y,h=>by
  simp only[gt]at h;split at h
  ·rename_i e;subst e;cases h;exact List.mem_cons_self ..
  ·exact List.mem_cons_of_mem _ (dY h)
def TW (P:Program)(E:List PanicEntry→World→Prop)(nt m:Nat)(c:Code)(Q:Exit→ae→Prop)(s:ae):Prop:=
 ∀C a w,C.nt=nt→(∀b x,C.kF b=some x→b<m)→R C (gN s) s.get a w→∀Q':Exit→Act→World→Prop,(∀e s' a' w',Q e s'→R C (gN s') s'.get a' w'→Q' e a' w')→wG E Q'→c.wp P Q' a w
structure Sf (m:Nat) (s s':ae) (f:Nat→Nat) (cs:List Nat):Prop where
 cons:∀b∈cs,∃e k xs,s.get b=some (.rows e k xs)
 env:∀x∈s'.env,x.2= .u∨((lk x.1 s.env).bZ s.get cs=x.2.bg f∧∀b∈x.2.names,b<s'.nx)
 sto:∀x∈s'.sto,x.1<s'.nx∧f x.1∉cs∧(s.get (f x.1)).map (ak.bZ s.get cs)=some (x.2.bg f)∧∀b∈x.2.names,b<s'.nx
 inj:∀x∈s'.sto,∀y∈s'.sto,f x.1=f y.1→x.1=y.1
 fix:m≤s'.nx∧∀b,b<m→f b=b
theorem R.weaken {C:Ctx}{m:Nat}{s s':ae}{f:Nat→Nat}{cs:List Nat}(h:Sf m s s' f cs){a:Act}{w:World}(hm:∀b x,C.kF b=some x→b<m)(hR:R C (gN s) s.get a w):R C (gN s') s'.get a w:=by
 obtain⟨ρ,D,hR⟩:=hR;obtain⟨D',nf,_⟩:=hR.freeze (cs:=cs) fun b hb=>by
  obtain⟨e,k,xs,h⟩:=h.cons b hb;exact⟨_,h,rfl⟩
 have vK:∀b y,s'.get b=some y→(b<s'.nx∧y= .dead)∨(b,y)∈s'.sto:=by
  intro b y hy;unfold ae.get at hy;split at hy
  ·rename_i z hz
   cases hy;exact .inr (dY hz)
  ·split at hy
   ·rename_i aj;cases hy;exact .inl ⟨aj,rfl⟩
   ·cases hy
 refine⟨_,D',nf.rename (f:=f) (nx:=s'.nx) (fun b x hx=>⟨h.fix.2 b (hm b x hx),Nat.lt_of_lt_of_le (hm b x hx) h.fix.1⟩) (fun t=>?_) (fun b y hy=>?_) (fun b hb=>?_) fun b y b' y' hy hl dc bz SO=>?_⟩
 ·rcases JR t s'.env with U|U
  ·exact .inl U
  ·exact h.env _ U
 ·rcases vK b y hy with⟨U,rfl⟩|U
  ·exact⟨U,.inl rfl⟩
  ·obtain⟨h2,h3,h4,h5⟩:=h.sto _ U
   exact⟨h2,.inr ⟨by rw[if_neg h3];exact h4,h5⟩⟩
 ·unfold ae.get
  split
  ·simp
  ·simp[hb]
 ·rcases vK b y hy with⟨_,rfl⟩|U
  ·simp[ak.live]at hl
  ·rcases vK b' y' dc with⟨_,rfl⟩|h2
   ·simp[ak.live]at bz
   ·exact h.inj _ U _ h2 SO
def Wk (m:Nat)(s s':ae):Prop:=∃f cs,Sf m s s' f cs
section
variable {P:Program}{E:List PanicEntry→World→Prop}{nt m:Nat}{Q:Exit→ae→Prop}{s:ae}
theorem TW.weaken {c:Code}(s':ae)(h:Wk m s s')(hw:TW P E nt m c Q s'):TW P E nt m c Q s:=by
 obtain⟨f,cs,h⟩:=h;exact fun C a w hn hm hR=>hw C a w hn hm (R.weaken h hm hR)
theorem TW.mono {c:Code}{Q':Exit→ae→Prop}(h:TW P E nt m c Q s)(hq:∀e s,Q e s→Q' e s):TW P E nt m c Q' s:=
 fun C a w hn hm hR ZQ hQ hE=>h C a w hn hm hR ZQ (fun e s' a' w' U h2=>hQ e s' a' w' (hq _ _ U) h2) hE
theorem TW.skip (h:Q .normal s):TW P E nt m .skip Q s:=fun C a w _ _ hR Q' hQ _=>wp_skip (hQ _ _ _ _ h hR)
theorem TW.exit {id:Nat}(h:Q (.exit id) s):TW P E nt m (.exit id) Q s:=fun C a w _ _ hR Q' hQ _=>wp_exit (hQ _ _ _ _ h hR)
theorem TW.ret (h:Q .ret s):TW P E nt m .ret Q s:=fun C a w _ _ hR Q' hQ _=>wp_ret (hQ _ _ _ _ h hR)
def tQ (next:ae→Prop)(Q:Exit→ae→Prop):Exit→ae→Prop
 | .normal,s=>next s
 |e,s=>Q e s
theorem TW.seq {x y:Code}(h:TW P E nt m x (tQ (TW P E nt m y Q) Q) s):TW P E nt m (.seq x y) Q s:=by
 intro C a w hn hm hR Q' hQ hE;refine wp_seq (h C a w hn hm hR _ (fun e s' a' w' U h2=>?_) fun ch a w U h2=>hE ch a w U h2)
 cases e with
 |normal=>exact U C a' w' hn hm h2 Q' hQ hE
 |_=>exact hQ _ _ _ _ U h2
theorem TW.cond {c:Operand}{x y:Code}{b:Bool}(hb:(s.ev c).b?=some b)(U:b=true→TW P E nt m x Q s)(h2:b=false→TW P E nt m y Q s):TW P E nt m (.cond c x y) Q s:=by
 intro C a w hn hm hR Q' hQ hE;obtain⟨ρ,D,hr⟩:=hR;have hi:∀x∈bF s.env [c],gN s x.1=x.2:=by
  intro x hx
  cases c<;>simp only[bF,List.mem_cons,List.not_mem_nil,or_false]at hx
  subst hx;rfl
 have hc:=GV.u0 hb (aW hr hi (List.mem_cons_self ..));exact wp_cond_split hc (fun e=>U e C a w hn hm ⟨ρ,D,hr⟩ Q' hQ hE) fun e=>h2 e C a w hn hm ⟨ρ,D,hr⟩ Q' hQ hE
def bQ (id:Nat)(Q:Exit→ae→Prop):Exit→ae→Prop
 | .exit Qk,s=>if Qk=id then Q .normal s else Q (.exit Qk) s
 |e,s=>Q e s
theorem TW.block {id:Nat}{c:Code}(h:TW P E nt m c (bQ id Q) s):TW P E nt m (.block id c) Q s:=by
 intro C a w hn hm hR Q' hQ hE;refine wp_block (h C a w hn hm hR _ (fun e s' a' w' U h2=>?_) fun ch a w U h2=>hE ch a w U h2)
 cases e with
 |exit Qk=>
  simp only[bQ,Exit.inBlock]at U⊢;split
  ·rename_i e;rw[if_pos e]at U;exact hQ _ _ _ _ U h2
  ·rename_i e;rw[if_neg e]at U;exact hQ _ _ _ _ U h2
 |_=>exact hQ _ _ _ _ U h2
theorem TW.loop {α:Type}{c:Code}(I:α→ae)(p:α→Prop)(μ:α→Nat)(x:α)(hx:p x)(h0:Wk m s (I x))
  (round:∀x,p x→TW P E nt m c (tQ (fun s'=>∃y,p y∧μ y<μ x∧Wk m s' (I y)) Q) (I x)):TW P E nt m (.loop c) Q s:=by
 intro C a w hn hm hR Q' hQ hE b k cs;have key:∀n x a w,μ x=n→p x→R C (gN (I x)) (I x).get a w→
   ∃e a' w',Q' e a' w'∧Arrives P (lone (b.at a (.code c:: .inLoop c::k)) cs w) b k cs e a' w':=by
  intro n;induction n using Nat.strongRecOn with
  |_ n ih=>
   intro x a w vq hp ZR;obtain⟨e,a1,w1,hq,um⟩:=round x hp C a w hn hm ZR (Exit.then (fun a w=>∃y,p y∧μ y<μ x∧R C (gN (I y)) (I y).get a w) Q') (fun e s' a' w' U h2=>by
    cases e with
    |normal=>
     obtain⟨y,y1,y2,f,cs,y3⟩:=U;exact⟨y,y1,y2,R.weaken y3 hm h2⟩
    |_=>exact hQ _ _ _ _ U h2) (fun ch a w U h2=>hE ch a w U h2) b (.inLoop c::k) cs
   cases e with
   |normal=>
    obtain⟨y,y1,y2,y3⟩:=hq;obtain⟨e2,a2,w2,NB,Ur⟩:=ih (μ y) (vq▸y2) y a1 w1 rfl y1 y3;exact⟨e2,a2,w2,NB,.of_steps (Steps.trans um (.one step_inLoop)) Ur⟩
   |exit id=>exact⟨_,a1,w1,hq,.pass (x:= .inLoop c) rfl (fun _ _=> .inl (by simp)) um⟩
   |goto l=>exact⟨_,a1,w1,hq,.pass (x:= .inLoop c) rfl (fun _ _=> .inl (by simp)) um⟩
   |ret=>exact⟨_,a1,w1,hq,.pass (x:= .inLoop c) rfl (fun _ _=> .inl (by simp)) um⟩
   |panic ch=>exact⟨_,a1,w1,hq,.pass (x:= .inLoop c) rfl (fun _ _=> .inl (by simp)) um⟩
   |outgrown=>exact⟨_,a1,w1,hq,.pass (x:= .inLoop c) rfl (fun _ _=> .inl (by simp)) um⟩
 obtain⟨f,Tp,h0⟩:=h0;obtain⟨e,a',w',hq,um⟩:=key _ x a w rfl hx (R.weaken h0 hm hR);exact⟨e,a',w',hq,.of_steps (.one step_loop) um⟩
end
def Mf (sto:List (Nat×ak))(ρ:Nat→Option Value)(k:Nat):Prop:=∃b y,gt b sto=some y∧y.live=true∧bo (ρ b)=some k
structure Si (sto sto':List (Nat×ak)) (m:Nat) (w w':World) (ρ ρ':Nat→Option Value) (D D':Nat→Prop):Prop where
 os:w'.os=w.os
 tape:w'.tape=w.tape
 output:w'.output=w.output
 size:w.heap.size≤w'.heap.size
 old:∀k,k<w.heap.size→¬Mf sto ρ k→w'.heap[k]?=w.heap[k]?
 ro:∀k,D' k→k<w'.heap.size∧(D k∨Mf sto ρ k∨w.heap.size≤k)
 blk:∀b y,gt b sto'=some y→dt ρ' w' D' (ρ' b) y
 own:∀b y g,gt b sto'=some y→y.live=true→bo (ρ' b)=some g→¬D' g∧(Mf sto ρ g∨w.heap.size≤g)
 sep:∀b y b' y' g,gt b sto'=some y→y.live=true→gt b' sto'=some y'→y'.live=true→bo (ρ' b)=some g→bo (ρ' b')=some g→b=b'
 same:∀b,b<m→ρ' b=ρ b
 free:∀b,m≤b→gt b sto'=none→ρ' b=none
def Mm (P:Program)(f:FuncId):Prop:=∀args w,(callFunc f args).run P w= .ok (.enter f args) w
theorem Mm.of {P:Program}{f:FuncId}{fn:Func}{c:Code}(hf:P.funcs[f]?=some fn)(hb:fn.body=some c)(hn:(fn.name== "runtime.NumGoroutine")=false):Mm P f:=by
 intro args w;simp only[callFunc,Sem.run_bind,run_program,Result.andThen_ok,hf,hn,hb,Option.isNone_some,Bool.false_eq_true,if_false,Sem.run_pure]
def TC (P:Program)(E:List PanicEntry→World→Prop)(f:FuncId)(args:List GV)(m:Nat)(sto:List (Nat×ak))(r:GV)(sto':List (Nat×ak)):Prop:=
 Mm P f∧∀(w:World) (bS:Array Value) (ρ:Nat→Option Value) (D:Nat→Prop),bS.size=args.length→(∀(i:Nat) (g:GV),args[i]?=some g→aY ρ w D (bS.getD i undef) g)→(∀k,D k→k<w.heap.size)→
  (∀b y,gt b sto=some y→dt ρ w D (ρ b) y)→(∀b y g,gt b sto=some y→y.live=true→bo (ρ b)=some g→¬D g)→
  (∀b y b' y' g,gt b sto=some y→y.live=true→gt b' sto=some y'→y'.live=true→bo (ρ b)=some g→bo (ρ b')=some g→b=b')→
  Calls P f bS w fun e w'=>(∃ch,e= .panicked ch∧E ch w')∨∃v ρ' D',e= .returned v∧aY ρ' w' D' v r∧Si sto sto' m w w' ρ ρ' D D'
def ae.JS (P:Program)(s:ae):ResultVar→Option GV
 | .tmp t=>some (lk t s.env)
 | .cell t ty=>match aq P ty with
   |some d=>match s.deref (lk t s.env)with
    |some (_,cs)=>if d.size≤cs.length then some (T.mk d.k.agg (cs.take d.size))else none
    |none=>none
   |none=>none
def ae.zq (P:Program)(s:ae):List ResultVar→Option (List GV)
 |[]=>some []
 |x::xs=>match s.JS P x with
  |some g=>match s.zq P xs with
   |some gs=>some (g::gs)
   |none=>none
  |none=>none
def ae.res (P:Program)(s:ae)(xs:List ResultVar):Option GV:=match s.zq P xs with
 |some [g]=>some g
 |some gs=>some (.p gs)
 |none=>none
def u5 (tmps:Array Value):ResultVar→Sem Value
 | .tmp t=>pure (tmps.getD t undef)
 | .cell t ty=>do loadVar ty (←asAddr (tmps.getD t undef))
theorem F6 (fn:Func)(tmps:Array Value):results fn tmps=(do let vs←fn.results.mapM (u5 tmps);pure (if h:vs.size=1 then vs[0]else .tuple vs)):=by
 unfold results;congr 1
theorem Mn {P:Program}{C:Ctx}{a:Act}{w:World}{ρ:Nat→Option Value}{D:Nat→Prop}{s:ae}(hR:Rel C (gN s) s.get a w ρ D){x:ResultVar}{g:GV}(h:s.JS P x=some g):
  ∃v,(u5 a.tmps x).run P w= .ok v w∧aY ρ w D v g:=by
 cases x with
 |tmp t=>cases h;exact⟨_,rfl,hR.env t⟩
 |cell t ty=>
  simp only[ae.JS]at h;split at h
  ·rename_i d hd
   split at h
   ·rename_i fr cs hc
    split at h
    ·rename_i hl
     cases h;have qG:∀x∈fr,s.get x.1=x.2:=by
      unfold ae.deref at hc;split at hc
      ·split at hc
       ·rename_i hg;cases hc;intro x hx;simp at hx;subst hx;exact hg
       ·cases hc
      ·split at hc
       ·rename_i hg
        split at hc
        ·split at hc
         ·cases hc;intro x hx;simp at hx;subst hx;exact hg
         ·cases hc
        ·cases hc
       ·cases hc
      ·cases hc;intro x hx;cases hx
      ·cases hc
     obtain⟨b,k,e1,W1⟩:=wH hR hc qG (hR.env t);have nd:=(cW hd).2.2.2;have eR:∀j,j<d.size→w.cell? ⟨b,k+j,none⟩=some ((w.cell? ⟨b,k+j,none⟩).getD undef):=fun j hj=>by
      obtain⟨x,hx,_⟩:=W1 j cs[j] (List.getElem?_eq_getElem (by omega))
      simp[hx]
     refine⟨_,by simp only[u5,e1,asAddr,Sem.run_bind,Sem.run_pure,Result.andThen_ok];rw[nM hd nd _ eR],?_⟩
     refine BB (by simp;omega) (fun i t hi=>?_) (by rcases nd with U|U;exact .inl U;right;simp;omega)
     rw[List.getElem?_take]at hi;split at hi
     ·rename_i aj
      obtain⟨x,hx,hr⟩:=W1 i t hi;simpa[Array.getD_eq_getD_getElem?,aj,hx]using hr
     ·cases hi
    ·cases h
   ·cases h
  ·cases h
theorem zr {P:Program}{C:Ctx}{a:Act}{w:World}{ρ:Nat→Option Value}{D:Nat→Prop}{s:ae}(hR:Rel C (gN s) s.get a w ρ D):∀{xs:List ResultVar} {gs:List GV},s.zq P xs=some gs→
  ∃vs:List Value,(xs.mapM (u5 a.tmps)).run P w= .ok vs w∧vs.length=gs.length∧∀(i:Nat) (g:GV),gs[i]?=some g→aY ρ w D (vs.getD i undef) g
 |[],gs,h=>by cases h;exact⟨[],by simp,rfl,fun i g hg=>by simp at hg⟩
 |x::xs,gs,h=>by
  simp only[ae.zq]at h;split at h
  ·rename_i g hg
   split at h
   ·rename_i dP dJ
    cases h;obtain⟨v,U,h2⟩:=Mn hR hg;obtain⟨vs,h3,h4,h5⟩:=zr hR dJ;refine⟨v::vs,?_,by simp[h4],fun i g hg=>?_⟩
    ·rw[List.mapM_cons,Sem.run_bind,U,Result.andThen_ok,Sem.run_bind,h3,Result.andThen_ok]
     rfl
    ·cases i with
     |zero=>simp only[List.getElem?_cons_zero,Option.some.injEq]at hg;subst hg;simpa using h2
     |succ i=>simpa using h5 i g (by simpa using hg)
   ·cases h
  ·cases h
theorem Pm {P:Program}{C:Ctx}{a:Act}{w:World}{ρ:Nat→Option Value}{D:Nat→Prop}{s:ae}(hR:Rel C (gN s) s.get a w ρ D){fn:Func}{xs:List ResultVar}(iy:fn.results.toList=xs){g:GV}(h:s.res P xs=some g):∃v,(results fn a.tmps).run P w= .ok v w∧aY ρ w D v g:=by
 subst iy;unfold ae.res at h
 cases hl:s.zq P fn.results.toList with
 |none=>simp[hl]at h
 |some gs=>
  obtain⟨vs,U,h2,h3⟩:=zr hR hl;have iE:(results fn a.tmps).run P w= .ok (if h:vs.toArray.size=1 then vs.toArray[0]else .tuple vs.toArray) w:=by
   rw[F6,Sem.run_bind,Array.mapM_eq_mapM_toList,Sem.run_map,U];rfl
  refine⟨_,iE,?_⟩;rw[hl]at h;rcases gs with _|⟨g0,_|⟨g1,gs⟩⟩
  ·simp only[Option.some.injEq]at h
   subst h;obtain rfl:vs=[]:=List.eq_nil_of_length_eq_zero (by simpa using h2)
   rw[dif_neg (by simp)]
   exact .p rfl fun i g hg=>by simp at hg
  ·simp only[Option.some.injEq]at h
   subst h;rcases vs with _|⟨v,_|⟨v1,vs⟩⟩
   ·simp at h2
   ·have:=h3 0 g0 rfl
    simpa using this
   ·simp at h2
  ·simp only[Option.some.injEq]at h
   subst h;rw[dif_neg (by simp[h2])]
   refine .p (by simpa using h2) fun i g hg=>?_
   have:=h3 i g hg
   simpa[List.getD_eq_getElem?_getD,Array.getD_eq_getD_getElem?]using this
structure ZS (P:Program) (xs:List ResultVar) (m:Nat) (s:ae) (r:GV) (sto':List (Nat×ak)) (f:Nat→Nat) (cs:List Nat) (r0:GV):Prop where
 res:s.res P xs=some r0
 val:r0.bZ s.get cs=r.bg f
 names:∀b∈r.names,b<m∨(gt b sto').isSome=true
 cons:∀b∈cs,∃e k xs,s.get b=some (.rows e k xs)
 sto:∀x∈sto',f x.1∉cs∧(s.get (f x.1)).map (ak.bZ s.get cs)=some (x.2.bg f)∧∀b∈x.2.names,b<m∨(gt b sto').isSome=true
 inj:∀x∈sto',∀y∈sto',f x.1=f y.1→x.1=y.1
 fix:∀b,b<m→f b=b
def ar (P:Program)(xs:List ResultVar)(m:Nat)(s:ae)(r:GV)(sto':List (Nat×ak)):Prop:=∃f cs r0,ZS P xs m s r sto' f cs r0
def Pn (P:Program)(xs:List ResultVar)(m:Nat)(r:GV)(sto':List (Nat×ak)):Exit→ae→Prop
 | .normal,s=>ar P xs m s r sto'
 | .ret,s=>ar P xs m s r sto'
 |_,_=>False
def jf:Nat→List GV→List (Nat×GV)
 |_,[]=>[]
 |i,g::gs=>(i,g)::jf (i+1) gs
theorem wW (t:Nat):∀(gs:List GV) (i:Nat),lk t (jf i gs)=if i≤t then gs.getD (t-i) .u else .u
 |[],i=>by simp[jf,lk]
 |g::gs,i=>by
  simp only[jf,lk,wW t gs (i+1)];by_cases h:t=i
  ·subst h;simp
  ·by_cases h2:i≤t
   ·rw[if_neg h,if_pos (by omega),if_pos h2,show t-i=(t-(i+1))+1 by omega,List.getD_cons_succ]
   ·rw[if_neg h,if_neg (by omega),if_neg h2]
theorem bW.restrict {ρ ρ':Nat→Option Value}{w:World}{D:Nat→Prop}{v:Value}{t:TV}(h:bW ρ w D v t)(hf:∀b∈t.names,∀x,ρ b=some x→ρ' b=some x):bW ρ' w D v t:=by
 cases h with
 |r h=>exact .r h
 |own h=>exact .own (hf _ (List.mem_cons_self ..) _ h)
 |ptr h=>exact .ptr (hf _ (List.mem_cons_self ..) _ h)
 |row h=>exact .row (hf _ (List.mem_cons_self ..) _ h)
 |gS vs U h2 h3=>exact .gS vs U h2 h3
theorem aY.restrict {ρ ρ':Nat→Option Value}{w:World}{D:Nat→Prop}{v:Value}{g:GV}(h:aY ρ w D v g):(∀b∈g.names,∀x,ρ b=some x→ρ' b=some x)→aY ρ' w D v g:=by
 induction h with
 |s h=>exact fun hf=> .s (h.restrict hf)
 |a hn h=>exact fun hf=> .a hn fun i t ht=>(h i t ht).restrict fun b hb=>hf b (by simp only[GV.names,List.mem_flatMap];exact⟨t,List.mem_of_getElem? ht,hb⟩)
 |p hn _ ih=>exact fun hf=> .p hn fun i g hg=>ih i g hg fun b hb=>hf b (uO (List.mem_of_getElem? hg) b hb)
 |eI U h2 _ _ i1 i2=>exact fun hf=> .eI U h2 (fun i g hg=>i1 i g hg fun b hb=>hf b (List.mem_append_left _ (uO (List.mem_of_getElem? hg) b hb))) fun i g hg=>i2 i g hg fun b hb=>hf b (List.mem_append_right _ (uO (List.mem_of_getElem? hg) b hb))
 |u=>exact fun _=> .u
theorem dt.restrict {ρ ρ':Nat→Option Value}{w:World}{D:Nat→Prop}{x:Option Value}{y:ak}(h:dt ρ w D x y)(hf:∀b∈y.names,∀x,ρ b=some x→ρ' b=some x):dt ρ' w D x y:=by
 cases y with
 |dead=>trivial
 |rows e k xs=>exact h
 |box cs=>
  obtain⟨g,arr,ty,e,U,h2,h3⟩:=h;exact⟨g,arr,ty,e,U,h2,fun i t ht=>(h3 i t ht).restrict fun b hb=>hf b (by simp only[ak.names,List.mem_flatMap];exact⟨t,List.mem_of_getElem? ht,hb⟩)⟩
def iT (m:Nat)(sto:List (Nat×ak)):Bool:=(List.range m).all fun b=>match gt b sto with|some y=>y.live|none=>false
structure Fits (args:List GV) (m:Nat) (sto:List (Nat×ak)):Prop where
 ok:iT m sto=true
 lt:∀x∈sto,x.1<m
 args:∀g∈args,∀b∈g.names,b<m
 sto:∀x∈sto,∀b∈x.2.names,b<m
theorem Fits.live {args:List GV}{m:Nat}{sto:List (Nat×ak)}(h:Fits args m sto){b:Nat}(hb:b<m):∃y,gt b sto=some y∧y.live=true:=by
 have:=h.ok
 simp only[iT,List.all_eq_true,List.mem_range]at this;have:=this b hb
 split at this
 ·rename_i y hy;exact⟨y,hy,this⟩
 ·cases this
theorem dt.some {ρ:Nat→Option Value}{w:World}{D:Nat→Prop}{x:Option Value}{y:ak}(h:dt ρ w D x y)(hl:y.live=true):∃v,x= .some v:=by
 cases y with
 |dead=>simp[ak.live]at hl
 |rows e k xs=>obtain⟨A,c,e,_⟩:=h;exact⟨_,e⟩
 |box cs=>obtain⟨g,arr,ty,e,_⟩:=h;exact⟨_,e⟩
theorem TC.enter {P:Program}{E:List PanicEntry→World→Prop}{f:FuncId}{fn:Func}{c:Code}{args:List GV}{m:Nat}{sto sto':List (Nat×ak)}{r:GV}(hf:P.funcs[f]?=some fn)(hb:fn.body=some c)(Us:(fn.name== "runtime.NumGoroutine")=false) {nt:Nat} (Ut:fn.ntmps=nt) {xs:List ResultVar} (iy:fn.results.toList=xs) (hn:args.length≤nt) (hfit:Fits args m sto)
  (h:TW P E nt m c (Pn P xs m r sto') ⟨jf 0 args,sto,m⟩):TC P E f args m sto r sto':=by
 subst Ut;refine⟨Mm.of hf hb Us,?_⟩;intro w bS ρ D hv ha hD iH Cm Ry;let C:Ctx:={W:=w,M:=Mf sto ρ,D0:=D,nt:=fn.ntmps,kF:=fun b=>if b<m then ρ b else none}
 have BL:∀b y,gt b sto=some y→b<m:=fun b y hy=>hfit.lt _ (dY hy)
 have dC:∀b y,(ae.get ⟨jf 0 args,sto,m⟩ b)=some y→b<m∧(y= .dead∨gt b sto=some y):=by
  intro b y hy;unfold ae.get at hy;split at hy
  ·rename_i z hz;cases hy;exact⟨BL _ _ hz,.inr hz⟩
  ·split at hy
   ·rename_i aj;cases hy;exact⟨aj,.inl rfl⟩
   ·cases hy
 have ff:∀b,b<m→(fun b=>if b<m then ρ b else none) b=ρ b:=fun b hb=>by simp[hb]
 have uL:bS.size=args.length:=hv
 have hR:Rel C (gN ⟨jf 0 args,sto,m⟩) (ae.get ⟨jf 0 args,sto,m⟩) {tmps:=bS++Array.replicate (fn.ntmps-bS.size) undef,defers:=[]} w (fun b=>if b<m then ρ b else none) D:=by
  refine⟨rfl,rfl,rfl,Nat.le_refl _,fun k _ _=>rfl,fun k hk=>⟨hD k hk,.inl hk⟩,fun b hb=>?_,fun b y hy=>?_,fun b y g hy hl hg=>?_,fun b y b' y' g hy hl dc bz hg a_=>?_,fun t=>?_,rfl,?_,fun b x hx=>hx⟩
  ·unfold ae.get at hb
   split at hb
   ·cases hb
   ·split at hb
    ·cases hb
    ·rename_i h;simp only at h;simp[h]
  ·obtain⟨U,h2⟩:=dC b y hy
   rcases h2 with rfl|h2
   ·trivial
   ·simp only[U,if_true]
    exact(iH b y h2).restrict fun c hc x hx=>by rw[if_pos (hfit.sto _ (dY h2) c hc)];exact hx
  ·obtain⟨U,h2⟩:=dC b y hy
   rcases h2 with rfl|h2
   ·simp[ak.live]at hl
   ·simp only[U,if_true]at hg
    exact⟨Cm b y g h2 hl hg,.inl ⟨b,y,h2,hl,hg⟩⟩
  ·obtain⟨U,h2⟩:=dC b y hy
   obtain⟨iM,lU⟩:=dC b' y' dc;rcases h2 with rfl|h2
   ·simp[ak.live]at hl
   ·rcases lU with rfl|lU
    ·simp[ak.live]at bz
    ·simp only[U,iM,if_true]at hg a_
     exact Ry b y b' y' g h2 hl lU bz hg a_
  ·simp only[gN,wW,Nat.zero_le,if_true,Nat.sub_zero]
   by_cases ht:t<args.length
   ·have hg:args[t]?= .some args[t]:=List.getElem?_eq_getElem ht
    have:=(ha t _ hg).restrict (ρ':=fun b=>if b<m then ρ b else none) fun c hc x hx=>by rw[if_pos (hfit.args _ (List.getElem_mem ht) c hc)];exact hx
    rw[List.getD_eq_getElem?_getD,hg];have e:(bS++Array.replicate (fn.ntmps-bS.size) undef).getD t undef=bS.getD t undef:=by
     have aj:t<bS.size:=by omega
     simp[Array.getD_eq_getD_getElem?,Array.getElem?_append_left aj]
    rw[e];exact this
   ·rw[List.getD_eq_getElem?_getD,List.getElem?_eq_none (by omega)]
    exact .u
  ·simp only[Array.size_append,Array.size_replicate]
   show _=fn.ntmps
   omega
 refine calls_of_wp hf hb (h C _ w rfl (fun b x hx=>?_) ⟨_,D,hR⟩ _ (fun e s' a' w' hq nf=>?_) fun ch a w' hd hE=>⟨hd,.inl ⟨ch,rfl,hE⟩⟩)
 ·have:(if b<m then ρ b else none)=some x:=hx
  split at this
  ·assumption
  ·cases this
 obtain⟨Mo,De,Po⟩:=nf;have Sj:ar P xs m s' r sto'→a'.defers=[]∧∃v,(results fn a'.tmps).run P w'= .ok v w'∧((∃ch,Ending.returned v= .panicked ch∧E ch w')∨∃v' ρ' D',Ending.returned v= .returned v'∧aY ρ' w' D' v' r∧Si sto sto' m w w' ρ ρ' D D'):=by
  rintro⟨f',cs,r0,hr⟩;refine⟨Po.defers,?_⟩;obtain⟨v,vm,xY⟩:=Pm Po iy hr.res;obtain⟨D',BM,FP,kM⟩:=Po.freeze (cs:=cs) fun b hb=>by
   obtain⟨e,k,xs,h⟩:=hr.cons b hb;exact⟨_,h,rfl⟩
  refine⟨v,vm,.inr ⟨v,fun b=>if b<m then ρ b else if(gt b sto').isSome=true then Mo (f' b)else none,D',rfl,?_,?_⟩⟩
  all_goals
   have wV:∀b,b<m→Mo b=ρ b:=fun b hb=>by
    obtain⟨y,hy,hl⟩:=hfit.live hb;obtain⟨x,hx⟩:=(iH b y hy).some hl;rw[hx];refine Po.ext b x ?_;show(if b<m then ρ b else none)=some x
    rw[if_pos hb,hx]
   have Sk:∀b,(b<m∨(gt b sto').isSome=true)→∀x,Mo (f' b)=some x→(fun b=>if b<m then ρ b else if(gt b sto').isSome=true then Mo (f' b)else none) b=some x:=by
    intro b hb x hx;by_cases U:b<m
    ·rw[hr.fix b U,wV b U]at hx
     simp[U,hx]
    ·simp[U,hb.resolve_left U,hx]
   have wX:∀b,(gt b sto').isSome=true→(if b<m then ρ b else if(gt b sto').isSome=true then Mo (f' b)else none)=Mo (f' b):=by
    intro b hb;by_cases U:b<m
    ·simp only[U,if_true,hr.fix b U,wV b U]
    ·simp[U,hb]
  ·have:=xY.bZ Po FP kM
   rw[hr.val]at this;exact this.bg fun b hb=>Sk b (hr.names b hb)
  ·have bj:∀b y,gt b sto'=some y→(fun b=>if b∈cs then some ak.dead else(s'.get b).map (ak.bZ s'.get cs)) (f' b)=some (y.bg f')∧(gt b sto').isSome=true∧∀c∈y.names,c<m∨(gt c sto').isSome=true:=by
    intro b y hy;obtain⟨U,h2,h3⟩:=hr.sto _ (dY hy);exact⟨by simp only[U,if_false];exact h2,by rw[hy];rfl,h3⟩
   refine⟨BM.os,BM.tape,BM.output,BM.size,fun k hk hM=>BM.old k hk hM,fun k hk=>BM.ro k hk,fun b y hy=>?_,fun b y g hy hl hg=>?_,fun b y b' y' g hy hl dc bz hg a_=>?_,fun b hb=>by simp[hb],fun b hb hy=>?_⟩
   ·obtain⟨U,h2,h3⟩:=bj b y hy
    simp only[wX b h2];exact(BM.blk _ _ U).bg fun c hc=>Sk c (h3 c hc)
   ·obtain⟨U,h2,h3⟩:=bj b y hy
    simp only[wX b h2]at hg;exact BM.own _ _ g U (by rw[ak.cX];exact hl) hg
   ·obtain⟨U,h2,h3⟩:=bj b y hy
    obtain⟨iM,lU,F5⟩:=bj b' y' dc;simp only[wX b h2]at hg;simp only[wX b' lU]at a_;exact hr.inj _ (dY hy) _ (dY dc) (BM.sep _ _ _ _ g U (by rw[ak.cX];exact hl) iM (by rw[ak.cX];exact bz) hg a_)
   ·have:¬b<m:=by omega
    simp[this,hy]
 cases e with
 |normal=>exact Sj hq
 |ret=>exact Sj hq
 |_=>exact hq.elim
end Go.Proofs.YtjklkppncmhehaaGreat.T
