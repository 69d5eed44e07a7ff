/-
What is proved: a region's operations walked over trees, one after the other ('vcOps'), and that the machine does what they tell, in whatever order ('TW.region'). No condition. the walk of a region over trees ('vcRegion'), and that the machine does what it tells ('TW.region'). No condition.
-/
import Derived.Test.YtjklkppncmhehaaGreatRx31
set_option linter.unusedVariables false
set_option linter.unusedSimpArgs false
namespace Go.Proofs.YtjklkppncmhehaaGreat.T
open Go Go.RowKit
def TV.flat:TV→Bool
 | .r (.v _)=>true
 |_=>false
mutual
def GV.flat:GV→Bool
 | .s t=>t.flat
 | .a ts=>ts.all TV.flat
 | .p gs=>Ad gs
 | .eV _ g=>g.flat
 |_=>false
def Ad:List GV→Bool
 |[]=>true
 |g::gs=>g.flat&&Ad gs
end
theorem cA.flat {ρ ρ':Nat→Option Value}{w w':World}{D D':Nat→Prop}{v:Value}{t:TV}(h:cA ρ w D v t)(hf:t.flat=true):cA ρ' w' D' v t:=by
 unfold TV.flat at hf;split at hf
 ·cases h with|r h=>cases h with|v h=>exact .r (.v h)
 ·cases hf
theorem Ae {g:GV}:∀{gs:List GV},Ad gs=true→g∈gs→g.flat=true
 |x::gs,h,hm=>by
  simp only[Ad,Bool.and_eq_true]at h;rcases List.mem_cons.1 hm with rfl|hm
  ·exact h.1
  ·exact Ae h.2 hm
theorem bf.flat {ρ ρ':Nat→Option Value}{w w':World}{D D':Nat→Prop}{v:Value}{g:GV}(h:bf ρ w D v g):g.flat=true→bf ρ' w' D' v g:=by
 induction h with
 |s h=>exact fun hf=> .s (h.flat hf)
 |a hn h=>exact fun hf=> .a hn fun i t ht=>(h i t ht).flat (by simp only[GV.flat,List.all_eq_true]at hf;exact hf t (List.mem_of_getElem? ht))
 |p hn _ ih=>exact fun hf=> .p hn fun i g hg=>ih i g hg (Ae hf (List.mem_of_getElem? hg))
 |hU=>exact fun hf=>by simp[GV.flat]at hf
 |eV _ ih=>exact fun hf=> .eV (ih hf)
 |u=>exact fun hf=>by simp[GV.flat]at hf
theorem TV.kZ (get:Nat→Option aj)(t:TV):t.cr get []=t:=by
 unfold TV.cr;split<;>simp
mutual
theorem GV.kZ (get:Nat→Option aj):∀(g:GV),g.cr get []=g
 | .s t=>by simp only[GV.cr,TV.kZ]
 | .a ts=>by simp only[GV.cr];congr 1;exact(List.map_congr_left fun t _=>TV.kZ get t).trans (List.map_id ts)
 | .p gs=>by simp only[GV.cr,ox get gs]
 | .hU _ _ _=>by simp only[GV.cr]
 | .eV _ g=>by simp only[GV.cr,GV.kZ get g]
 | .u=>by simp only[GV.cr]
theorem ox (get:Nat→Option aj):∀(gs:List GV),f_ get [] gs=gs
 |[]=>by simp only[f_]
 |g::gs=>by simp only[f_,GV.kZ get g,ox get gs]
end
theorem TV.iM (f:Nat→Nat)(t:TV)(h:t.names=[]):t.bq f=t:=by
 cases t<;>first|rfl|(simp[TV.names]at h)
mutual
theorem GV.iM (f:Nat→Nat):∀(g:GV),g.names=[]→g.bq f=g
 | .s t,h=>by simp only[GV.bq,TV.iM f t h]
 | .a ts,h=>by
   simp only[GV.bq];congr 1;refine(List.map_congr_left fun t ht=>TV.iM f t ?_).trans (List.map_id ts)
   simp only[GV.names,List.flatMap_eq_nil_iff]at h;exact h t ht
 | .p gs,h=>by simp only[GV.bq,oy f gs h]
 | .hU _ fs cs,h=>by
   simp only[GV.names,List.append_eq_nil_iff]at h;simp only[GV.bq,oy f fs h.1,oy f cs h.2]
 | .eV _ g,h=>by simp only[GV.bq,GV.iM f g h]
 | .u,_=>by simp only[GV.bq]
theorem oy (f:Nat→Nat):∀(gs:List GV),dw gs=[]→fZ f gs=gs
 |[],_=>by simp only[fZ]
 |g::gs,h=>by
  simp only[dw,List.append_eq_nil_iff]at h;simp only[fZ,GV.iM f g h.1,oy f gs h.2]
end
theorem TV.rQ (t:TV):t.bq id=t:=by cases t<;>rfl
mutual
theorem GV.rQ:∀(g:GV),g.bq id=g
 | .s t=>by simp only[GV.bq,TV.rQ]
 | .a ts=>by simp only[GV.bq];congr 1;exact(List.map_congr_left fun t _=>TV.rQ t).trans (List.map_id ts)
 | .p gs=>by simp only[GV.bq,vd gs]
 | .hU _ fs cs=>by simp only[GV.bq,vd fs,vd cs]
 | .eV _ g=>by simp only[GV.bq,GV.rQ g]
 | .u=>by simp only[GV.bq]
theorem vd:∀(gs:List GV),fZ id gs=gs
 |[]=>by simp only[fZ]
 |g::gs=>by simp only[fZ,GV.rQ g,vd gs]
end
section
variable {P:Program}{E:List PanicEntry→World→Prop}{nt:Nat}{o:Oper}{s:ae}
theorem S5 {c:Call}(ho:o.op= .call c)(hd:bz o nt=true){f:FuncId}{pH:List GV}{cN:List (Nat×Option aj)}(hf:s.pG P c.callee c.args.toList=some (f,pH,cN)){peek:List Nat}{bU:List GV}{r:GV}
  (hT:TC P E f bU 0 [] r []) (ha:f_ s.get peek pH=bU) (fX:∀b∈peek,rowOf (s.get b)=true) (hr:r.flat=true):
  eD P E nt o (cN++peek.map fun b=>(b,s.get b)) (bw s.env o.op.operands.toList) r []:=by
 refine .call hd fun C env get a w ρ D va hi hR=>?_;have fI:∀x∈peek.map (fun b=>(b,s.get b)),get x.1=x.2:=fun x hx=>va x (List.mem_append_right _ hx)
 obtain⟨zX,hT⟩:=hT;obtain⟨bN,e1,kU,lC⟩:=Jk ho hf zX hR (fun x hx=>va x (List.mem_append_left _ hx)) hi
 refine⟨f,bN,e1,?_⟩;have zZ:∀b∈peek,get b=s.get b:=fun b hb=>fI (b,s.get b) (List.mem_map.2 ⟨b,hb,rfl⟩)
 obtain⟨D1,vb,E0,SV⟩:=hR.consume peek fun b hb=>by
  have:=fX b hb
  rw[zZ b hb];unfold rowOf at this;split at this
  ·rename_i h;exact⟨_,h,rfl⟩
  ·cases this
 refine(hT w _ ρ D1 (by rw[kU,←ha,iz]) (fun i g hg=>?_) (fun k hk=>(vb.ro k hk).1) (fun b y h=>by cases h) (fun b y g h=>by cases h) (fun b y b' y' g h=>by cases h)).mono ?_
 ·rw[←ha,ov,Option.map_eq_some_iff]at hg
  obtain⟨g',bh,rfl⟩:=hg;rw[←GV.i_ zZ];exact(lC i g' bh).cr hR E0 SV
 rintro e w' (h|⟨v,z_,D2,rfl,hv,hP⟩)
 ·exact .inl h
 right
 have hm:∀k,¬Mf [] ρ k:=fun k ⟨b,y,h,_⟩=>by cases h
 have hold:∀k,k<w.heap.size→w'.heap[k]?=w.heap[k]?:=fun k hk=>hP.old k hk (hm k)
 have hK:cw D w w':=fun k hd=>hold k (hR.ro k hd).1
 have h1:=hR.size;have h2:=hP.size;refine⟨v,ρ,D,rfl,⟨hP.os.trans hR.os,hP.tape.trans hR.tape,hP.output.trans hR.output,by omega,fun k hk hM=>(hold k (by omega)).trans (hR.old k hk hM),fun k hk=>⟨Nat.lt_of_lt_of_le (hR.ro k hk).1 h2,(hR.ro k hk).2⟩,hR.free,fun b y hy=>?_,hR.own,hR.sep,fun t=>(hR.env t).bK (fun _ _ h=>h) hK fun _ h=>h,hR.defers,hR.nt,hR.ext⟩,hv.flat hr⟩
 refine(hR.blk b y hy).bK (fun _ _ h=>h) hK (fun _ h=>h) ?_
 by_cases hl:y.live=true
 ·exact .inr fun g hg=>hold g (hR.h_ hy hl hg)
 ·left
  cases y<;>simp[aj.live]at hl
  rfl
abbrev KT:=List (Nat×Option aj)→GV→List (Nat×aj)→Nat→Prop
def rR (P:Program)(E:List PanicEntry→World→Prop)(s:ae)(callee:Callee)(args:List Operand)(K:KT):Prop:=
 ∃f gs cN,s.pG P callee args=some (f,gs,cN)∧(∀x∈cN,s.get x.1=x.2)∧
  ((dw gs=[]∧∃r,TC P E f gs 0 [] r []∧r.names=[]∧K cN r [] s.nx)∨
   (∃peek bU r,TC P E f bU 0 [] r []∧f_ s.get peek gs=bU∧(∀b∈peek,rowOf (s.get b)=true)∧r.flat=true∧K (cN++peek.map fun b=>(b,s.get b)) r [] s.nx)∨
   ∃frag peek bU sto0 sto' cnt r,TC P E f bU frag.length sto0 r sto'∧EZ s gs frag peek bU sto0 sto' cnt∧(∀b∈r.names,b<frag.length+cnt)∧(∀x∈sto',∀b∈x.2.names,b<frag.length+cnt)∧
    K (cN++fL s frag peek cnt) (r.bq (φ frag s.nx)) (jq s frag peek sto' cnt) (s.nx+cnt))
def rS (P:Program)(E:List PanicEntry→World→Prop)(s:ae):Callee→List Operand→List TypeId→KT→Prop
 | .builtin .len,[x],[t],K=>∃d,aw P t=some d∧∃e,d.k= .slice e∧∃k xs fr,s.view (s.ev x)=some (k,xs,fr)∧K fr (gI .i64 xs.length) [] s.nx
 | .builtin .max,[x,y],_,K=>∃k m,(s.ev x).i?=some (k,m)∧∃k' n,(s.ev y).i?=some (k',n)∧K [] (gI k (if n>m then n else m)) [] s.nx
 | .builtin .min,[x,y],_,K=>∃k m,(s.ev x).i?=some (k,m)∧∃k' n,(s.ev y).i?=some (k',n)∧K [] (gI k (if n<m then n else m)) [] s.nx
 | .builtin .append,[bx,yx],[t,t'],K=>t=t'∧∃d,aw P t=some d∧∃e,d.k= .slice e∧∃de,aw P e=some de∧0<de.size∧∃xs ob,s.rO e de.size (s.ev bx)=some (xs,ob)∧∃k ys fr,s.view (s.ev yx)=some (k,ys,fr)∧(k=de.size∨ys=[])∧
   (xs.length+ys.length)*de.bytes≤140737488355328∧xs.length+ys.length≤maxLen∧K ((s.nx,none)::(CD s ob++fr)) (.s (.own s.nx)) ((s.nx,.rows e de.size (xs++ys))::u0 ob) (s.nx+1)
 | .value fx,args,_,K=>rR P E s (.value fx) args K
 | .invoke x n,args,_,K=>rR P E s (.invoke x n) args K
 |_,_,_,_=>False
def sS (P:Program)(E:List PanicEntry→World→Prop)(s:ae)(op:Op)(K:KT):Prop:=
 match op with
 | .move x=>K [] (s.ev x) [] s.nx
 | .assign x=>K [] (s.ev x) [] s.nx
 | .pick c x y=>∃t,(s.ev c).b?=some t∧(t=true→K [] (s.ev x) [] s.nx)∧(t=false→K [] (s.ev y) [] s.nx)
 | .alloc t=>∃d,aw P t=some d∧K [(s.nx,none)] (.s (.ptr s.nx 0)) [(s.nx,.box (d.zero.map fun x=> .r (iL x)))] (s.nx+1)
 | .box _ x=>∃cs,(s.ev x).cells?=some cs∧K [(s.nx,none)] (.s (.ptr s.nx 0)) [(s.nx,.box cs)] (s.nx+1)
 | .build t ps=>∃d,aw P t=some d∧d.k.agg=true∧(d.k.CB.all fun t=>(aw P t).isSome)=true∧∃cs,pw (placeOf (aw P) d.k) (d.zero.map fun x=> .r (iL x)) (mP s ps.toList)=some cs∧K [] (.a cs) [] s.nx
 | .buildSlice t n ps=>∃d,aw P t=some d∧∃e,d.k= .slice e∧∃de,aw P e=some de∧0<de.size∧ps.toList.length=n∧n*de.size≤16777216∧∃xs bs,pC s de.size 0 ps.toList=some (xs,bs)∧
   K ((s.nx,none)::bs.map fun c=>(c,s.get c)) (.s (.own s.nx)) ((s.nx,.rows e de.size xs)::bs.map fun c=>(c,.dead)) (s.nx+1)
 | .load t x=>∃d,aw P t=some d∧∃fr cs,s.deref (s.ev x)=some (fr,cs)∧d.size≤cs.length∧K fr (mk d.k.agg (cs.take d.size)) [] s.nx
 | .store t ax vx=>∃d,aw P t=some d∧∃ys,(s.ev vx).cells?=some ys∧ys.length=d.size∧match s.ev ax with
   | .s (.ptr b off)=>∃cs,s.get b=some (.box cs)∧off+ys.length≤cs.length∧K [(b,some (.box cs))] .u [(b,.box (c8 cs off ys))] s.nx
   | .s (.row b k i off)=>∃e xs,s.get b=some (.rows e k xs)∧∃y,xs[i]?=some y∧off+ys.length≤y.length∧∃rs bs,s.nW ys=some (rs,bs)∧b∉bs∧
     K ((b,some (.rows e k xs))::bs.map fun c=>(c,s.get c)) .u ((b,.rows e k (xs.set i (c8 y off rs)))::bs.map fun c=>(c,.dead)) s.nx
   |_=>False
 | .fieldAddr t x f=>∃k d',pn (aw P) t f=some (k,d')∧d'.size≠0∧∃g,nB k (s.ev x)=some g∧K [] g [] s.nx
 | .field t x f=>∃k d',pn (aw P) t f=some (k,d')∧∃ts,(s.ev x).agg?=some ts∧k+d'.size≤ts.length∧K [] (mk d'.k.agg ((ts.drop k).take d'.size)) [] s.nx
 | .indexAddr t x ix=>∃k n,(s.ev ix).i?=some (k,n)∧0≤n∧s.elem (aw P) t n.toNat (s.ev x) fun fr g=>K fr g [] s.nx
 | .index t x ix=>∃d,aw P t=some d∧∃m e,d.k= .array m e∧∃de,aw P e=some de∧∃k n,(s.ev ix).i?=some (k,n)∧0≤n∧n<m∧∃ts,(s.ev x).agg?=some ts∧n.toNat*de.size+de.size≤ts.length∧
   K [] (mk de.k.agg ((ts.drop (n.toNat*de.size)).take de.size)) [] s.nx
 | .binOp op t x y _=>∃g,Ac P t op (s.ev x) (s.ev y)=some g∧K [] g [] s.nx
 | .convert src dst x=>∃k1,re P src=some k1∧∃k,re P dst=some k∧∃k0 n,(s.ev x).i?=some (k0,n)∧K [] (gI k (k.wrap n)) [] s.nx
 | .nilCheck x=>Jr (s.ev x)=true∧K [] (s.ev x) [] s.nx
 | .unOp .not _ x=>∃b,(s.ev x).b?=some b∧K [] (gB (!b)) [] s.nx
 | .unOp .neg _ x=>∃k n,(s.ev x).i?=some (k,n)∧K [] (gI k (k.wrap (0-n))) [] s.nx
 | .extract x i=>∃gs,(s.ev x).tup?=some gs∧∃g,gs[i]?=some g∧K [] g [] s.nx
 | .makeFunc fn f c=>K [] (.hU fn (f.toList.map s.ev) (c.toList.map s.ev)) [] s.nx
 | .makeInterface t x=>oa P t=true∧K [] (.eV t (s.ev x)) [] s.nx
 | .typeAssert x _ t ok=>oa P t=true∧∃t' g,(s.ev x).ifc?=some (t',g)∧((t'=t∧K [] (if ok=true then .p [g,gB true]else g) [] s.nx)∨(t'≠t∧ok=true∧Nq P t=true∧∃d,aw P t=some d∧K [] (.p [mk d.k.agg (d.zero.map fun x=> .r (iL x)),gB false]) [] s.nx))
 | .makeSlice t lx cx=>∃d,aw P t=some d∧∃e,d.k= .slice e∧∃de,aw P e=some de∧0<de.size∧∃k n,(s.ev lx).i?=some (k,n)∧∃k' m,(s.ev cx).i?=some (k',m)∧0≤n∧n≤m∧(de.bytes:Int)*m≤281474976710656∧m≤9223372036854775807∧
   K [(s.nx,none)] (.s (.own s.nx)) [(s.nx,.rows e de.size (List.replicate n.toNat (de.zero.map iL)))] (s.nx+1)
 | .slice t x lo hi none=>(lo=none∧∃d,aw P t=some d∧∃e,d.k= .slice e∧∃de,aw P e=some de∧∃b e' k xs,s.ev x= .s (.own b)∧s.get b=some (.rows e' k xs)∧∃h,yh s xs.length hi=some h∧h≤xs.length∧K [(s.nx,none),(b,some (.rows e' k xs))] (.s (.own s.nx)) [(s.nx,.rows e' k (xs.take h)),(b,.dead)] (s.nx+1))∨∃d,aw P t=some d∧∃e,d.k= .slice e∧∃de,aw P e=some de∧∃k xs fr,s.view (s.ev x)=some (k,xs,fr)∧(k=de.size∨xs=[])∧∃l,yh s 0 lo=some l∧∃h,yh s xs.length hi=some h∧l≤h∧h≤xs.length∧
   K fr (.s (.r (.sl de.size ((xs.take h).drop l)))) ((jm (s.ev x)).map fun b=>(b,.dead)) s.nx
 | .call c=>rS P E s c.callee c.args.toList c.argTypes.toList K
 |_=>False
theorem CH {nx b:Nat}{y:aj}{Δ:List (Nat×aj)}(h1:nx≤b)(h2:b<nx+1):gt b ((nx,y)::Δ)≠none:=by
 obtain rfl:b=nx:=by omega
 simp[gt]
theorem Vs (s:ae)(h:∀x∈s.sto,x.1<s.nx):s.get s.nx=none:=by
 unfold ae.get;split
 ·rename_i y hy
  have:=h _ (fK hy)
  simp at this
 ·simp
theorem Nt (s:ae)(h:∀x∈s.sto,x.1<s.nx){b:Nat}(hb:s.nx≤b):s.get b=none:=by
 unfold ae.get;split
 ·rename_i y hy
  have:=h _ (fK hy)
  simp at this;omega
 ·rw[if_neg (by omega)]
structure ve (s:ae) (fr:List (Nat×Option aj)) (Δ:List (Nat×aj)) (jv:Nat):Prop where
 fr:∀x∈fr,s.get x.1=x.2
 le:s.nx≤jv
 new:∀b,s.nx≤b→b<jv→gt b Δ≠none
 lt:∀x∈Δ,x.1<jv
theorem nG {s:ae}(hs:∀x∈s.sto,x.1<s.nx){b:Nat}{y:aj}(h:s.get b=some y):b<s.nx:=by
 rcases Nat.lt_or_ge b s.nx with h1|h1
 ·exact h1
 ·rw[Nt s hs h1]at h;cases h
theorem Qa {g:GV}{fr:List (Nat×Option aj)}{cs:List TV}(hc:s.deref g=some (fr,cs)):∀x∈fr,s.get x.1=x.2:=by
 unfold ae.deref at hc;split at hc
 ·split at hc
  ·rename_i hg;cases hc;intro x hx;simp at hx;subst hx;exact hg
  ·cases hc
 ·split at hc
  ·rename_i hg
   split at hc
   ·split at hc
    ·cases hc;intro x hx;simp at hx;subst hx;exact hg
    ·cases hc
   ·cases hc
  ·cases hc
 ·cases hc;intro x hx;cases hx
 ·cases hc
theorem Af {g:GV}{k:Nat}{xs:List (List RT)}{fr:List (Nat×Option aj)}(h:s.view g=some (k,xs,fr)):∀x∈fr,s.get x.1=x.2:=by
 unfold ae.view at h;split at h
 ·cases h;intro x hx;cases hx
 ·cases h;intro x hx;cases hx
 ·split at h
  ·rename_i hg;cases h;intro x hx;simp at hx;subst hx;exact hg
  ·cases h
 ·cases h
theorem ve.nil (hs:∀x∈s.sto,x.1<s.nx){fr:List (Nat×Option aj)}(h:∀x∈fr,s.get x.1=x.2):ve s fr [] s.nx:=⟨h,Nat.le_refl _,fun b h1 h2=>by omega,fun x hx=>by cases hx⟩
theorem sV {c:Call}(hs:∀x∈s.sto,x.1<s.nx)(hd:bz o nt=true)(ho:o.op= .call c){K:KT}(h:rR P E s c.callee c.args.toList K):∃fr gv Δ jv,eD P E nt o fr (bw s.env o.op.operands.toList) gv Δ∧ve s fr Δ jv∧K fr gv Δ jv:=by
 obtain⟨f,gs,cN,hf,va,h2⟩:=h;rcases h2 with⟨h0,r,h2,h3,h4⟩|⟨peek,bU,r,h2,h3,h4,h5,h6⟩|⟨frag,peek,bU,sto0,sto',cnt,r,h2,h3,h4,h5,h6⟩
 ·have:=Jl (E:=E) (nt:=nt) (frag:=[]) (peek:=[]) (sto0:=[]) (sto':=[]) (cnt:=0) ho hd hf h2 ⟨by rw[ox,oy _ _ h0],List.nodup_nil,(fun b hb=>by cases hb),(fun b hb=>by cases hb),(fun b hb=>by cases hb),(fun b hb=>by cases hb),(fun b hb=>by cases hb),fun b hb=>by cases hb⟩ (fun b hb=>by rw[h3]at hb;cases hb) fun x hx=>by cases hx
  rw[GV.iM _ _ h3]at this;simp only[fL,List.map_nil,List.range_zero,List.append_nil]at this;exact⟨_,_,_,_,this,.nil hs va,h4⟩
 ·refine⟨_,_,_,_,S5 ho hd hf h2 h3 h4 h5,.nil hs (fun x hx=>?_),h6⟩
  rcases List.mem_append.1 hx with hx|hx
  ·exact va x hx
  ·obtain⟨c,_,rfl⟩:=List.mem_map.1 hx;rfl
 ·refine⟨_,_,_,_,Jl ho hd hf h2 h3 h4 h5,⟨fun x hx=>?_,by omega,fun b h1 h2=>?_,fun x hx=>?_⟩,h6⟩
  ·rcases List.mem_append.1 hx with hx|hx
   ·exact va x hx
   ·simp only[fL,List.mem_append,List.mem_map,List.mem_range]at hx
    rcases hx with(⟨c,_,rfl⟩|⟨c,_,rfl⟩)|⟨j,hj,rfl⟩
    ·rfl
    ·rfl
    ·exact Nt s hs (by omega)
  ·simp only[jq,mO]
   split
   ·simp
   ·rename_i E8
    split at E8
    ·cases E8
    ·rw[kr (x:=b-s.nx) _ (List.mem_range.2 (by omega)) (by simp only;omega) (fun j hj e=>by simp only at e;rw[show j=b-s.nx by omega])]at E8
     cases E8
  ·simp only[jq,List.mem_append,List.mem_map,List.mem_range]at hx
   rcases hx with(⟨i,hi,rfl⟩|⟨j,hj,rfl⟩)|⟨c,hc,rfl⟩
   ·simp only
    have:=h3.Ns (frag.getD i 0) (by simp only[List.getD_eq_getElem?_getD,List.getElem?_eq_getElem hi,Option.getD_some];exact List.getElem_mem hi)
    omega
   ·simp only;omega
   ·have:=h3.rows c hc
    unfold rowOf at this;split at this
    ·rename_i hg;have:=nG hs hg;simp only;omega
    ·cases this
theorem xE (hs:∀x∈s.sto,x.1<s.nx)(hd:bz o nt=true){K:KT}(h:sS P E s o.op K):∃fr gv Δ jv,eD P E nt o fr (bw s.env o.op.operands.toList) gv Δ∧ve s fr Δ jv∧K fr gv Δ jv:=by
 have eZ:∀x∈([]:List (Nat×Option aj)),s.get x.1=x.2:=fun x hx=>by cases hx
 have q9:s.get s.nx=none:=Vs s hs
 unfold sS at h;split at h
 ·rename_i x ho
  exact⟨_,_,_,_,by rw[ho];exact I4 (.inl ho) hd,.nil hs eZ,h⟩
 ·rename_i x ho
  exact⟨_,_,_,_,by rw[ho];exact I4 (.inr ho) hd,.nil hs eZ,h⟩
 ·rename_i c x y ho
  obtain⟨t,h1,h2,h3⟩:=h;refine⟨_,_,_,_,by rw[ho];exact SB ho hd h1,.nil hs eZ,?_⟩
  cases t
  ·exact h3 rfl
  ·exact h2 rfl
 ·rename_i t ho
  obtain⟨d,h1,h2⟩:=h;exact⟨_,_,_,_,by rw[ho];exact PZ ho hd h1,⟨fun x hx=>by simp at hx;subst hx;exact q9,by omega,fun b h1 h2=>CH h1 h2,fun x hx=>by simp at hx;subst hx;simp⟩,h2⟩
 ·rename_i t x ho
  obtain⟨cs,h1,h2⟩:=h;exact⟨_,_,_,_,by rw[ho];exact Vh ho hd h1,⟨fun x hx=>by simp at hx;subst hx;exact q9,by omega,fun b h1 h2=>CH h1 h2,fun x hx=>by simp at hx;subst hx;simp⟩,h2⟩
 ·rename_i t ps ho
  obtain⟨d,h1,h2,h3,cs,h4,h5⟩:=h;exact⟨_,_,_,_,by rw[ho];exact P0 ho hd h1 h3 h4 h2,.nil hs eZ,h5⟩
 ·rename_i t n ps ho
  obtain⟨d,h1,e,h2,de,h3,h4,h5,h6,xs,bs,h7,h8⟩:=h;have hl:=nE h7;refine⟨_,_,_,_,by rw[ho];exact zS (b:=s.nx) ho hd h1 h2 h3 h4 h5 h6 h7,⟨fun x hx=>?_,by omega,fun b h1 h2=>CH h1 h2,fun x hx=>?_⟩,h8⟩
  ·rcases List.mem_cons.1 hx with rfl|hx
   ·exact q9
   ·obtain⟨c,_,rfl⟩:=List.mem_map.1 hx;rfl
  ·rcases List.mem_cons.1 hx with rfl|hx
   ·simp
   ·obtain⟨c,hc,rfl⟩:=List.mem_map.1 hx
    obtain⟨e,k,xs,hc⟩:=hl c hc;have:=nG hs hc
    simp only;omega
 ·rename_i t x ho
  obtain⟨d,h1,fr,cs,h2,h3,h4⟩:=h;exact⟨_,_,_,_,by rw[ho];exact SC ho hd h1 h2 h3 (cC h1).2.2.2,.nil hs (Qa h2),h4⟩
 ·rename_i t ax vx ho
  obtain⟨d,h1,ys,h2,h3,h4⟩:=h;split at h4
  ·rename_i b off ha
   obtain⟨cs,h5,h6,h7⟩:=h4;exact⟨_,_,_,_,by rw[ho];exact EN ho hd h1 ha h5 h2 h3 h6,⟨fun x hx=>by simp at hx;subst hx;exact h5,Nat.le_refl _,fun b h1 h2=>by omega,fun x hx=>by simp at hx;subst hx;exact nG hs h5⟩,h7⟩
  ·rename_i b k i off ha
   obtain⟨e,xs,h5,y,h6,h7,rs,bs,h8,h9,sq⟩:=h4;have hl:=nC h8;refine⟨_,_,_,_,by rw[ho];exact EO ho hd h1 ha h5 h2 h6 h3 h7 h8 h9,⟨fun x hx=>?_,Nat.le_refl _,fun b h1 h2=>by omega,fun x hx=>?_⟩,sq⟩
   ·rcases List.mem_cons.1 hx with rfl|hx
    ·exact h5
    ·obtain⟨c,_,rfl⟩:=List.mem_map.1 hx;rfl
   ·rcases List.mem_cons.1 hx with rfl|hx
    ·exact nG hs h5
    ·obtain⟨c,hc,rfl⟩:=List.mem_map.1 hx
     obtain⟨e,k,xs,hc⟩:=hl c hc;exact nG hs hc
  ·exact h4.elim
 ·rename_i t x f ho
  obtain⟨k,d',h1,h2,g,h3,h4⟩:=h;exact⟨_,_,_,_,by rw[ho];exact BK ho hd h1 h2 h3,.nil hs eZ,h4⟩
 ·rename_i t x f ho
  obtain⟨k,d',h1,ts,h2,h3,h4⟩:=h;have po:d'.k.agg=true∨d'.size=1:=by
   obtain⟨_,_,_,_,_,h5⟩:=qZ h1;exact(cC h5).2.2.2
  exact⟨_,_,_,_,by rw[ho];exact PX ho hd h1 h2 h3 po,.nil hs eZ,h4⟩
 ·rename_i t x ix ho
  obtain⟨k,n,h1,h2,h3⟩:=h;obtain⟨fr,g,h4,h5,h6⟩:=SD (E:=E) (nt:=nt) ho hd h1 h2 h3;exact⟨_,_,_,_,by rw[ho];exact h4,.nil hs h5,h6⟩
 ·rename_i t x ix ho
  obtain⟨d,h1,m,e,h2,de,h3,k,n,h4,h5,h6,ts,h7,h8,h9⟩:=h;exact⟨_,_,_,_,by rw[ho];exact PY ho hd h1 h2 h3 h4 h5 h6 h7 h8 (cC h3).2.2.2,.nil hs eZ,h9⟩
 ·rename_i op t x y yt ho
  obtain⟨g,h1,h2⟩:=h;exact⟨_,_,_,_,by rw[ho];exact S4 ho hd h1,.nil hs eZ,h2⟩
 ·rename_i src dst x ho
  obtain⟨k1,h1,k,h2,k0,n,h3,h4⟩:=h;exact⟨_,_,_,_,by rw[ho];exact Jq ho hd h1 h2 h3,.nil hs eZ,h4⟩
 ·rename_i x ho
  exact⟨_,_,_,_,by rw[ho];exact E9 ho hd h.1,.nil hs eZ,h.2⟩
 ·rename_i t x ho
  obtain⟨b,h1,h2⟩:=h;exact⟨_,_,_,_,by rw[ho];exact Ve ho hd h1,.nil hs eZ,h2⟩
 ·rename_i t x ho
  obtain⟨k,n,h1,h2⟩:=h;exact⟨_,_,_,_,by rw[ho];exact Vf ho hd h1,.nil hs eZ,h2⟩
 ·rename_i x i ho
  obtain⟨gs,h1,g,h2,h3⟩:=h;exact⟨_,_,_,_,by rw[ho];exact I5 ho hd h1 h2,.nil hs eZ,h3⟩
 ·rename_i fn f c ho
  exact⟨_,_,_,_,by rw[ho];exact EL ho hd,.nil hs eZ,h⟩
 ·rename_i t x ho
  exact⟨_,_,_,_,by rw[ho];exact u_ ho hd h.1,.nil hs eZ,h.2⟩
 ·rename_i x xt t ok ho
  obtain⟨h1,t',g,h2,⟨rfl,h3⟩|⟨h3,rfl,h4,d,h5,h6⟩⟩:=h
  ·exact⟨_,_,_,_,by rw[ho];exact BV ho hd h1 h2,.nil hs eZ,h3⟩
  ·exact⟨_,_,_,_,by rw[ho];exact zW ho hd h1 h4 h5 h2 h3,.nil hs eZ,h6⟩
 ·rename_i t lx cx ho
  obtain⟨d,h1,e,h2,de,h3,h4,k,n,h5,k',m,h6,h7,h8,h9,sq,h11⟩:=h;exact⟨_,_,_,_,by rw[ho];exact BP (b:=s.nx) ho hd h1 h2 h3 h4 h5 h6 h7 h8 h9 sq,⟨fun x hx=>by simp at hx;subst hx;exact q9,by omega,fun b h1 h2=>CH h1 h2,fun x hx=>by simp at hx;subst hx;simp⟩,h11⟩
 ·rename_i t x lo hi ho
  rcases h with⟨rfl,d,h1,e,h2,de,h3,b,e',k,xs,h4,h5,h',h6,h7,h8⟩|⟨d,h1,e,h2,de,h3,k,xs,fr,h4,h5,l,h6,h',h7,h8,h9,sq⟩
  ·have aZ:(Op.slice t x none hi none).operands.toList=x::qh hi:=by cases hi<;>simp[Op.operands,qh]
   refine⟨_,_,_,_,by rw[ho,aZ];exact ER (b':=s.nx) ho hd h1 h2 h3 h4 h5 h6 h7,⟨fun y hy=>?_,by omega,fun b h1 h2=>CH h1 h2,fun y hy=>?_⟩,h8⟩
   ·simp only[List.mem_cons,List.not_mem_nil,or_false]at hy
    rcases hy with rfl|rfl
    ·exact q9
    ·exact h5
   ·simp only[List.mem_cons,List.not_mem_nil,or_false]at hy
    have:=nG hs h5
    rcases hy with rfl|rfl
    ·simp
    ·simp only;omega
  have aZ:(Op.slice t x lo hi none).operands.toList=x::(qh lo++qh hi):=by cases lo<;>cases hi<;>simp[Op.operands,qh]
  refine⟨_,_,_,_,by rw[ho,aZ];exact P2 ho hd h1 h2 h3 h4 h5 h6 h7 h8 h9,⟨Af h4,Nat.le_refl _,fun b h1 h2=>by omega,fun y hy=>?_⟩,sq⟩
  obtain⟨c,hc,rfl⟩:=List.mem_map.1 hy;unfold jm at hc;split at hc
  ·rename_i b eb
   simp only[List.mem_cons,List.not_mem_nil,or_false]at hc;subst hc;rw[eb]at h4;simp only[ae.view]at h4;split at h4
   ·rename_i hg;exact nG hs hg
   ·cases h4
  ·cases hc
 ·rename_i c ho
  obtain⟨callee,iH,Vo⟩:=c;simp only at h
  unfold rS at h;split at h
  ·rename_i x t ea et
   obtain rfl:iH= #[x]:=Array.toList_inj.1 ea
   obtain rfl:Vo= #[t]:=Array.toList_inj.1 et
   obtain⟨d,h1,e,h2,k,xs,fr,h3,h4⟩:=h;exact⟨_,_,_,_,by rw[ho];exact Vd ho hd h1 h2 h3,.nil hs (Af h3),h4⟩
  ·rename_i x y ea
   obtain rfl:iH= #[x,y]:=Array.toList_inj.1 ea
   obtain⟨k,m,h1,k',n,h2,h3⟩:=h;exact⟨_,_,_,_,by rw[ho];exact Vj ho hd h1 h2,.nil hs eZ,h3⟩
  ·rename_i x y ea
   obtain rfl:iH= #[x,y]:=Array.toList_inj.1 ea
   obtain⟨k,m,h1,k',n,h2,h3⟩:=h;exact⟨_,_,_,_,by rw[ho];exact Vk ho hd h1 h2,.nil hs eZ,h3⟩
  ·rename_i bx yx t t' ea et
   obtain rfl:iH= #[bx,yx]:=Array.toList_inj.1 ea
   obtain rfl:Vo= #[t,t']:=Array.toList_inj.1 et
   obtain⟨rfl,d,h1,e,h2,de,h3,h4,xs,ob,h5,k,ys,fr,h6,h7,h8,h9,sq⟩:=h;refine⟨_,_,_,_,by rw[ho];exact Me (b':=s.nx) ho hd h1 h2 h3 h4 h5 h6 h7 h8 h9,⟨fun x hx=>?_,by omega,fun b h1 h2=>CH h1 h2,fun x hx=>?_⟩,sq⟩
   ·rcases List.mem_cons.1 hx with rfl|hx
    ·exact q9
    ·rcases List.mem_append.1 hx with hx|hx
     ·unfold CD at hx
      split at hx
      ·simp at hx;subst hx;rfl
      ·cases hx
     ·exact Af h6 x hx
   ·rcases List.mem_cons.1 hx with rfl|hx
    ·simp
    ·unfold u0 at hx
     split at hx
     ·rename_i b
      simp at hx;subst hx
      unfold ae.rO at h5;split at h5
      ·split at h5
       ·rename_i hg
        split at h5
        ·cases h5;have:=nG hs hg;simp only;omega
        ·cases h5
       ·cases h5
      ·cases h5
      ·cases h5
     ·cases hx
  ·rename_i fx
   exact sV hs hd ho h
  ·rename_i x n
   exact sV hs hd ho h
  ·exact h.elim
 ·exact h.elim
end
end Go.Proofs.YtjklkppncmhehaaGreat.T
namespace Go.Proofs.YtjklkppncmhehaaGreat.T
open Go Go.RowKit
open Go.Proofs.YtjklkppncmhehaaGreat.Sr (xm uF)
abbrev Pl:=List (Nat ⊕ Nat)×List (Nat ⊕ Nat)
def tmpsOf:List Operand→List (Nat ⊕ Nat)
 |[]=>[]
 | .tmp t::xs=> .inl t::tmpsOf xs
 |_::xs=>tmpsOf xs
def ic (o:Oper)(gd:List (Nat ⊕ Nat))(fr:List (Nat×Option aj))(Δ:List (Nat×aj)):Pl:=
 (gd++tmpsOf o.op.operands.toList++fr.map (fun x=> .inr x.1),(match o.dst with|some d=>[.inl d]|none=>[])++Δ.map fun x=> .inr x.1)
def XX (g h:Pl):Bool:=g.2.any (fun l=>Jb l (h.1++h.2))||h.2.any fun l=>Jb l (g.1++g.2)
def Js (gs:List Pl)(ms:List Nat):Bool:=(List.range gs.length).all fun j=>(List.range j).all fun i=>match gs[i]?,gs[j]? with
 |some g,some h=> !XX g h||(ms.getD j 0).testBit i
 |_,_=>true
def Ah (g:Sg):Pl:=(qi g,fb g)
theorem Jt (gs:List Sg)(ms:List Nat):Js (gs.map Ah) ms=pE gs ms:=by
 unfold Js pE;rw[List.length_map];congr 1
 funext j
 congr 1
 funext i
 rw[List.getElem?_map,List.getElem?_map]
 cases gs[i]?<;>cases gs[j]?<;>rfl
theorem rf (e:List (Nat×GV)):∀(xs:List Operand),(bw e xs).map (fun x=>(Sum.inl x.1:Nat ⊕ Nat))=tmpsOf xs
 |[]=>rfl
 |x::xs=>by cases x<;>simp[bw,tmpsOf,rf e xs]
def ae.step (s:ae)(dst:Option Nat)(g:GV)(Δ:List (Nat×aj))(jv:Nat):ae:=
 ⟨match dst with|some d=>(d,g)::s.env|none=>s.env,Δ++s.sto,jv⟩
def xF (d:Nat)(g:GV):List (Nat×GV)→List (Nat×GV)
 |[]=>[(d,g)]
 |(u,x)::e=>if d=u then(d,g)::e else(u,x)::xF d g e
theorem vf (d:Nat)(g:GV)(t:Nat):∀(e:List (Nat×GV)),lk t (xF d g e)=if t=d then g else lk t e
 |[]=>by simp[xF,lk]
 |(u,x)::e=>by
  simp only[xF];split
  ·rename_i h;subst h
   simp only[lk];split<;>rfl
  ·rename_i h
   simp only[lk,vf d g t e];by_cases h1:t=u
   ·subst h1;rw[if_pos rfl,if_neg (fun e=>h e.symm),if_pos rfl]
   ·rw[if_neg h1,if_neg h1]
def ae.qv (s:ae)(d:Nat)(b:Bool):ae:=⟨xF d (gB b) s.env,s.sto,s.nx⟩
def GV.undef?:GV→Bool
 | .p []=>true
 |_=>false
def sW (ops:Array Oper)(j:Nat):Option Nat:=(ops[j]?).bind (·.dst)
def mR (P:Program)(E:List PanicEntry→World→Prop)(nt:Nat)(ops:Array Oper)(draw:Bool):List Oper→ae→List Pl→(ae→List Pl→Prop)→Prop
 |[],s,acc,K=>K s acc
 |o::os,s,acc,K=>bz o nt=true∧match o.guard with
  |none=>sS P E s o.op fun fr gv Δ jv=>mR P E nt ops draw os (s.step o.dst gv Δ jv) (if draw then acc++[ic o [] fr Δ]else[]) K
  |some (j,want)=>∃d,sW ops j=some d∧d<nt∧(((lk d s.env).undef?=true∧mR P E nt ops draw os (s.step o.dst (.p []) [] s.nx) (if draw then acc++[([.inl d],match o.dst with|some d=>[.inl d]|none=>[])]else[]) K)∨∃b,(lk d s.env).b?=some b∧
   (b=want→sS P E (s.qv d want) o.op fun fr gv Δ jv=>mR P E nt ops draw os ((s.qv d want).step o.dst gv Δ jv) (if draw then acc++[ic o [.inl d] fr Δ]else[]) K)∧
   (b= !want→mR P E nt ops draw os ((s.qv d (!want)).step o.dst (.p []) [] s.nx) (if draw then acc++[([.inl d],match o.dst with|some d=>[.inl d]|none=>[])]else[]) K))
def tU (s:ae):Bool:=s.sto.all fun x=>decide (x.1<s.nx)
def Qb (P:Program)(E:List PanicEntry→World→Prop)(nt:Nat)(ops:Array Oper)(draw:Bool)(s:ae)(K:ae→Prop):Prop:=
 tU s=true∧mR P E nt ops draw ops.toList s [] fun s' pl=>(draw=true→(nZ (dM ops.toList)&&Js pl (nY (dM ops.toList)))=true)∧K s'
def Ag (s:ae)(σ:St):Prop:=(∀t,lk t s.env=σ.1 t)∧∀b,s.get b=σ.2 b
theorem Ag.step {s:ae}{σ:St}(h:Ag s σ){fr:List (Nat×Option aj)}{Δ:List (Nat×aj)}{jv:Nat}(hn:ve s fr Δ jv)(ins:List (Nat×GV))(dst:Option Nat)(g:GV):Ag (s.step dst g Δ jv) (ap ⟨fr,ins,dst,g,Δ⟩ σ):=by
 refine⟨fun t=>?_,fun b=>?_⟩
 ·simp only[ae.step,ap,put]
  cases dst with
  |none=>simpa using h.1 t
  |some d=>
   simp only[lk,Option.some.injEq];by_cases e:t=d
   ·subst e;simp
   ·rw[if_neg e,if_neg (fun e'=>e e'.symm)];exact h.1 t
 ·show(match gt b (Δ++s.sto)with|some y=>some y|none=>if b<jv then some aj.dead else none)=(match gt b Δ with|some y=>some y|none=>σ.2 b)
  rw[mO];have hb:=h.2 b
  cases hg:gt b Δ with
  |some y=>rfl
  |none=>
   simp only
   rw[←hb];unfold ae.get
   cases gt b s.sto with
   |some y=>rfl
   |none=>
    simp only
    by_cases h1:b<s.nx
    ·rw[if_pos h1,if_pos (by have:=hn.le;omega)]
    ·by_cases h2:b<jv
     ·exact absurd hg (hn.new b (by omega) h2)
     ·rw[if_neg h1,if_neg h2]
theorem Ag.qv {s:ae}{σ:St}(h:Ag s σ){d:Nat}{b:Bool}(hb:(lk d s.env).b?=some b):Ag (s.qv d b) σ:=by
 refine⟨fun t=>?_,h.2⟩
 simp only[ae.qv,vf];by_cases e:t=d
 ·subst e
  rw[if_pos rfl,←h.1 t];unfold GV.b? at hb;split at hb
  ·rename_i e;cases hb;rw[e];rfl
  ·cases hb
 ·rw[if_neg e];exact h.1 t
theorem Mo {s:ae}(h:tU s=true):∀x∈s.sto,x.1<s.nx:=by
 intro x hx;simp only[tU,List.all_eq_true]at h;simpa using h x hx
theorem nH {s:ae}(h:∀x∈s.sto,x.1<s.nx){fr:List (Nat×Option aj)}{Δ:List (Nat×aj)}{jv:Nat}(hn:ve s fr Δ jv)(dst:Option Nat)(g:GV):∀x∈(s.step dst g Δ jv).sto,x.1<(s.step dst g Δ jv).nx:=by
 intro x hx;rcases List.mem_append.1 hx with hx|hx
 ·exact hn.lt x hx
 ·have:=h x hx;have:=hn.le;simp only[ae.step];omega
theorem Ju {gs eJ:List Sg}{σ:St}(n:Nat):n≤gs.length→can (gs++eJ) σ n=can gs σ n:=by
 induction n with
 |zero=>intro _;rfl
 |succ n ih=>
  intro h;have ih:=ih (by omega)
  have h1:(gs++eJ)[n]?=gs[n]?:=List.getElem?_append_left (by omega)
  simp only[can]at ih;simp only[can,dS,h1,ih]
section
variable {P:Program}{E:List PanicEntry→World→Prop}{nt:Nat}{ops:Array Oper}
theorem Qc {i:Nat}{o:Oper}(ho:ops[i]?=some o)(hg:o.guard=none){fr:List (Nat×Option aj)}{ins:List (Nat×GV)}{gv:GV}{Δ:List (Nat×aj)}(h:eD P E nt o fr ins gv Δ):pD P E nt ops i ⟨fr,ins,o.dst,gv,Δ⟩:=by
 intro C env get a w rest Q hC hf hi hR hK hE;simp only[wpOps,ho];rw[if_pos (by simp[Region.wanted,hg])]
 exact .inl (h C env get a w _ Q hC hf hi hR (fun a' w' pt=>hK a' w' pt) hE)
theorem Ai {C:Ctx}{env:Nat→GV}{get:Nat→Option aj}{a:Act}{w:World}(hR:R C env get a w){j d:Nat}(hd:sW ops j=some d)(ai:d<C.nt){b:Bool}(he:env d=gB b):yielded ops a.tmps j=some b:=by
 obtain⟨ρ,D,hR⟩:=hR;have:=hR.env d
 rw[he]at this;have h1:=pq this;have h2:d<a.tmps.size:=by rw[hR.nt];exact ai
 unfold yielded;unfold sW at hd;rw[hd];simp only[Option.bind_some];rw[Array.getElem?_eq_getElem h2];simp only[Array.getD_eq_getD_getElem?,Array.getElem?_eq_getElem h2,Option.getD_some]at h1;rw[h1]
theorem Jv {i:Nat}{o:Oper}(ho:ops[i]?=some o){j d:Nat}{want:Bool}(hg:o.guard=some (j,want))(hj:sW ops j=some d)(ai:d<nt){fr:List (Nat×Option aj)}{ins:List (Nat×GV)}{gv:GV}{Δ:List (Nat×aj)}(h:eD P E nt o fr ins gv Δ):
  pD P E nt ops i ⟨fr,(d,gB want)::ins,o.dst,gv,Δ⟩:=by
 intro C env get a w rest Q hC hf hi hR hK hE;have hy:=Ai hR hj (by rw[hC];exact ai) (hi (d,gB want) (List.mem_cons_self ..))
 simp only[wpOps,ho];rw[if_pos (by simp[Region.wanted,hg,hy])]
 exact .inl (h C env get a w _ Q hC hf (fun x hx=>hi x (List.mem_cons_of_mem _ hx)) hR (fun a' w' pt=>hK a' w' pt) hE)
theorem Jw {i:Nat}{o:Oper}(ho:ops[i]?=some o)(Mp:bz o nt=true){j d:Nat}{want:Bool}(hg:o.guard=some (j,want))(hj:sW ops j=some d)(ai:d<nt):
  pD P E nt ops i ⟨[],[(d,gB (!want))],o.dst,.p [],[]⟩:=by
 intro C env get a w rest Q hC hf hi hR hK hE;have hy:=Ai hR hj (by rw[hC];exact ai) (hi (d,gB (!want)) (List.mem_cons_self ..))
 simp only[wpOps,ho];rw[if_neg (by simp[Region.wanted,hg,hy])]
 refine hK _ _ ?_;obtain⟨ρ,D,hR⟩:=hR;refine⟨ρ,D,?_⟩;show Rel C (put env o.dst (.p [])) (upd get []) (a.put o.dst undef) w ρ D
 rw[I3];refine hR.put (fun d' e=>?_) (.p rfl fun i g h=>by simp at h)
 unfold bz at Mp;rw[e]at Mp;simpa[hC]using Mp
theorem Jx {i:Nat}{o:Oper}(ho:ops[i]?=some o)(Mp:bz o nt=true){j d:Nat}{want:Bool}(hg:o.guard=some (j,want))(hj:sW ops j=some d)(ai:d<nt):
  pD P E nt ops i ⟨[],[(d,.p [])],o.dst,.p [],[]⟩:=by
 intro C env get a w rest Q hC hf hi hR hK hE;obtain⟨ρ,D,hR⟩:=hR;have h1:=hR.env d;rw[hi (d,.p []) (List.mem_cons_self ..)]at h1;have hy:yielded ops a.tmps j=none:=by
  unfold yielded;unfold sW at hj;rw[hj];have h2:d<a.tmps.size:=by rw[hR.nt,hC];exact ai
  simp only[Option.bind_some,Array.getElem?_eq_getElem h2];simp only[Array.getD_eq_getD_getElem?,Array.getElem?_eq_getElem h2,Option.getD_some]at h1;generalize a.tmps[d]=v at h1
  cases h1;rfl
 simp only[wpOps,ho];rw[if_neg (by simp[Region.wanted,hg,hy])]
 refine hK _ _ ⟨ρ,D,?_⟩;show Rel C (put env o.dst (.p [])) (upd get []) (a.put o.dst undef) w ρ D
 rw[I3];refine hR.put (fun d' e=>?_) (.p rfl fun i g h=>by simp at h)
 unfold bz at Mp;rw[e]at Mp;simpa[hC]using Mp
structure Mq (P:Program) (E:List PanicEntry→World→Prop) (nt:Nat) (ops:Array Oper) (σ:St) (gs:List Sg) (s:ae):Prop where
 step:∀(i:Nat) (g:Sg),gs[i]?=some g→pD P E nt ops i g
 fr:∀(i:Nat) (g:Sg),gs[i]?=some g→∀x∈g.fr,(can gs σ i).2 x.1=x.2
 ins:∀(i:Nat) (g:Sg),gs[i]?=some g→∀x∈g.ins,(can gs σ i).1 x.1=x.2
 ag:Ag s (can gs σ gs.length)
 lt:∀x∈s.sto,x.1<s.nx
theorem Mq.push {σ:St}{gs:List Sg}{s s1:ae}(h:Mq P E nt ops σ gs s){g:Sg}(h1:pD P E nt ops gs.length g)(h2:∀x∈g.fr,s.get x.1=x.2)(h3:∀x∈g.ins,lk x.1 s.env=x.2)(h4:Ag s1 (ap g (can gs σ gs.length)))(h5:∀x∈s1.sto,x.1<s1.nx):Mq P E nt ops σ (gs++[g]) s1:=by
 have Jy:∀i,i≤gs.length→can (gs++[g]) σ i=can gs σ i:=fun i hi=>Ju i hi
 have ki:(gs++[g])[gs.length]?=some g:=by simp
 have Mr:∀(i:Nat) (g':Sg),(gs++[g])[i]?=some g'→(i<gs.length∧gs[i]?=some g')∨(i=gs.length∧g'=g):=by
  intro i g' hi;rw[List.getElem?_append]at hi;split at hi
  ·exact .inl ⟨‹_›,hi⟩
  ·have:i-gs.length=0:=by
    have:=(List.getElem?_eq_some_iff.1 hi).1
    simp at this;omega
   rw[this]at hi
   cases hi;exact .inr ⟨by omega,rfl⟩
 refine⟨fun i g' hi=>?_,fun i g' hi x hx=>?_,fun i g' hi x hx=>?_,?_,h5⟩
 ·rcases Mr i g' hi with⟨_,hi⟩|⟨rfl,rfl⟩
  ·exact h.step i g' hi
  ·exact h1
 ·rcases Mr i g' hi with⟨ai,hi⟩|⟨rfl,rfl⟩
  ·rw[Jy i (by omega)];exact h.fr i g' hi x hx
  ·rw[Jy _ (Nat.le_refl _),←h.ag.2];exact h2 x hx
 ·rcases Mr i g' hi with⟨ai,hi⟩|⟨rfl,rfl⟩
  ·rw[Jy i (by omega)];exact h.ins i g' hi x hx
  ·rw[Jy _ (Nat.le_refl _),←h.ag.1];exact h3 x hx
 ·rw[List.length_append,List.length_singleton,wz ki,Jy _ (Nat.le_refl _)]
  exact h4
theorem rT (e:List (Nat×GV)):∀(xs:List Operand),∀x∈bw e xs,lk x.1 e=x.2
 |[],x,h=>by cases h
 |y::xs,x,h=>by
  cases y with
  |tmp t=>
   rcases List.mem_cons.1 h with rfl|h
   ·rfl
   ·exact rT e xs x h
  |_=>exact rT e xs x h
theorem jJ {draw:Bool}{σ:St}{K:ae→List Pl→Prop}:∀(os:List Oper) (gs:List Sg) (s:ae) (acc:List Pl) (pre:List Oper),ops.toList=pre++os→gs.length=pre.length→Mq P E nt ops σ gs s→(draw=true→acc=gs.map Ah)→mR P E nt ops draw os s acc K→
  ∃eJ s' V4,Mq P E nt ops σ eJ s'∧eJ.length=ops.size∧(draw=true→V4=eJ.map Ah)∧K s' V4
 |[],gs,s,acc,pre,xD,hl,hp,ha,h=>⟨gs,s,acc,hp,by rw[hl,←Array.length_toList,xD,List.append_nil],ha,h⟩
 |o::os,gs,s,acc,pre,xD,hl,hp,ha,h=>by
  have ho:ops[gs.length]?=some o:=by
   rw[←Array.getElem?_toList,xD,hl];simp
  have E_:ops.toList=(pre++[o])++os:=by simp[xD]
  simp only[mR]at h;obtain⟨hd,h⟩:=h;split at h
  ·rename_i hg
   obtain⟨fr,gv,Δ,jv,h1,h2,h3⟩:=xE (nt:=nt) hp.lt hd h;refine jJ os (gs++[⟨fr,_,o.dst,gv,Δ⟩]) _ _ (pre++[o]) E_ (by simp[hl]) (hp.push (Qc ho hg h1) h2.fr (rT _ _) (hp.ag.step h2 _ _ _) (nH hp.lt h2 _ _)) (fun wC=>?_) h3
   rw[wC,if_pos rfl,ha wC,List.map_append];congr 1
   simp only[List.map_cons,List.map_nil,Ah,qi,fb,ic,rf,List.nil_append];rfl
  ·rename_i j want hg
   obtain⟨d,hj,ai,⟨hu,h⟩|⟨b,hb,hr,hsk⟩⟩:=h
   ·have hlk:lk d s.env= .p []:=by
     unfold GV.undef? at hu;split at hu
     ·assumption
     ·cases hu
    have Aj:ve s [] [] s.nx:= .nil hp.lt fun x hx=>(by cases hx)
    refine jJ os (gs++[⟨[],[(d,.p [])],o.dst,.p [],[]⟩]) _ _ (pre++[o]) E_ (by simp[hl]) (hp.push (Jx ho hd hg hj ai) (fun x hx=>by cases hx) (fun x hx=>?_) (hp.ag.step Aj _ _ _) (nH hp.lt Aj _ _)) (fun wC=>?_) h
    ·simp only[List.mem_cons,List.not_mem_nil,or_false]at hx
     subst hx;exact hlk
    ·rw[wC,if_pos rfl,ha wC,List.map_append]
     congr 1
     simp only[List.map_cons,List.map_nil,Ah,qi,fb,List.append_nil];rfl
   by_cases hbw:b=want
   ·subst hbw
    obtain⟨fr,gv,Δ,jv,h1,h2,h3⟩:=xE (s:=s.qv d b) (nt:=nt) hp.lt hd (hr rfl);have bc:Mq P E nt ops σ gs (s.qv d b):=⟨hp.step,hp.fr,hp.ins,hp.ag.qv hb,hp.lt⟩
    refine jJ os (gs++[⟨fr,(d,gB b)::_,o.dst,gv,Δ⟩]) _ _ (pre++[o]) E_ (by simp[hl]) (bc.push (Jv ho hg hj ai h1) h2.fr (fun x hx=>?_) (bc.ag.step h2 _ _ _) (nH bc.lt h2 _ _)) (fun wC=>?_) h3
    ·rcases List.mem_cons.1 hx with rfl|hx
     ·simp[ae.qv,vf]
     ·exact rT _ _ x hx
    ·rw[wC,if_pos rfl,ha wC,List.map_append]
     congr 1
     simp only[List.map_cons,List.map_nil,Ah,qi,fb,ic,rf,List.cons_append,List.nil_append];rfl
   ·have Z':b= !want:=by cases b<;>cases want<;>simp_all
    subst Z';have bc:Mq P E nt ops σ gs (s.qv d (!want)):=⟨hp.step,hp.fr,hp.ins,hp.ag.qv hb,hp.lt⟩
    have Aj:ve (s.qv d (!want)) [] [] s.nx:=ve.nil (s:=s.qv d (!want)) hp.lt fun x hx=>(by cases hx)
    refine jJ os (gs++[⟨[],[(d,gB (!want))],o.dst,.p [],[]⟩]) _ _ (pre++[o]) E_ (by simp[hl]) (bc.push (Jw ho hd hg hj ai) (fun x hx=>by cases hx) (fun x hx=>?_) (bc.ag.step Aj _ _ _) (nH bc.lt Aj _ _)) (fun wC=>?_) (hsk rfl)
    ·simp only[List.mem_cons,List.not_mem_nil,or_false]at hx
     subst hx;simp[ae.qv,vf]
    ·rw[wC,if_pos rfl,ha wC,List.map_append]
     congr 1
     simp only[List.map_cons,List.map_nil,Ah,qi,fb,List.append_nil];rfl
theorem TW.region {m id:Nat}{draw:Bool}{Q:Exit→ae→Prop}{s:ae}(sX:P.follows .mixedOrders=true)(h:Qb P E nt ops draw s fun s'=>Q .normal s'):TW P E nt m (.region id ops draw) Q s:=by
 intro C a w hn hm hR Q' hQ hE;obtain⟨ai,h⟩:=h;obtain⟨gs,s',acc,hp,hlen,zU,wC,hK⟩:=jJ (σ:=(jo s,s.get)) ops.toList [] s [] [] rfl rfl ⟨fun i g h=>by simp at h,fun i g h=>by simp at h,fun i g h=>by simp at h,⟨fun t=>rfl,fun b=>rfl⟩,Mo ai⟩ (fun _=>rfl) h
 have cl:Region.Ok P E nt ops gs (jo s,s.get):=⟨hlen,hp.step,hp.fr,hp.ins⟩
 have zj:∀a w,R C (can gs (jo s,s.get) gs.length).1 (can gs (jo s,s.get) gs.length).2 a w→Q' .normal a w:=by
  intro a w pt;refine hQ _ s' a w hK ?_;have e1:jo s'=(can gs (jo s,s.get) gs.length).1:=funext hp.ag.1
  have e2:s'.get=(can gs (jo s,s.get) gs.length).2:=funext hp.ag.2
  rw[e1,e2];exact pt
 cases draw with
 |false=>
  refine wp_region ?_;rw[List.range_eq_range'];exact EU cl hn hE zj ops.size 0 (by rw[Nat.zero_add];exact hlen.symm) a w hR
 |true=>
  refine wp_region_draw fun t=>?_;have hd:=wC rfl;simp only[Bool.and_eq_true]at hd;obtain⟨tD,wi⟩:=hd;rw[zU rfl,Jt]at wi;have nw:xm ops ops.size (Array.replicate ops.size false) (Region.schedule (P.follows .mixedOrders) ops t):=by
   unfold Region.schedule;rw[sX];exact uF ops _ _ _
  refine Jf cl tD wi hn hE zj ops.size _ _ nw (by simp) ?_ (fun j es hj hx=>?_) a _ ?_
  ·unfold left
   exact Nat.le_trans (List.countP_le_length) (by simp)
  ·simp only[Array.getD_eq_getD_getElem?,Array.getElem?_replicate]at hx
   split at hx<;>simp at hx
  ·rw[P3 (fun i hi=>by
    simp only[Array.getD_eq_getD_getElem?,Array.getElem?_replicate];split<;>rfl) _ (Nat.le_refl _)]
   obtain⟨ρ,D,hR⟩:=hR;exact⟨ρ,D,hR.heap rfl rfl rfl rfl⟩
end
end Go.Proofs.YtjklkppncmhehaaGreat.T
