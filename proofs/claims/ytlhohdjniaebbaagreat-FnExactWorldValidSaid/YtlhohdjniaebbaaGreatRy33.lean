/-
What is proved: a region's operations walked over trees, one after the other and what rests on it. Conditions: as stated.
-/
import Derived.Test.YtlhohdjniaebbaaGreatRy32
set_option linter.unusedVariables false
set_option linter.unusedSimpArgs false
namespace Go.Proofs.YtlhohdjniaebbaaGreat.T
open Go Go.RowKit
def TV.flat:TV→Bool
 | .r (.v _)=>true
 |_=>false
mutual
def GV.flat:GV→Bool
 | .s t=>t.flat
 | .a ts=>ts.all TV.flat
 | .p gs=>zI gs
 | .fC _ g=>g.flat
 |_=>false
def zI:List GV→Bool
 |[]=>true
 |g::gs=>g.flat&&zI gs
end
theorem cn.flat {ρ ρ':Nat→Option Value}{w w':World}{D D':Nat→Prop}{v:Value}{t:TV}(h:cn ρ w D v t)(hf:t.flat=true):cn ρ' w' D' v t:=by
 unfold TV.flat at hf;split at hf
 ·cases h with|r h=>cases h with|v h=>exact .r (.v h)
 ·cases hf
theorem zJ {g:GV}:∀{gs:List GV},zI gs=true→g∈gs→g.flat=true
 |x::gs,h,hm=>by
  simp only[zI,Bool.and_eq_true]at h;rcases List.mem_cons.1 hm with rfl|hm
  ·exact h.1
  ·exact zJ h.2 hm
theorem bg.flat {ρ ρ':Nat→Option Value}{w w':World}{D D':Nat→Prop}{v:Value}{g:GV}(h:bg ρ w D v g):g.flat=true→bg ρ' w' D' v g:=by
 induction h with
 |s h=>exact fun hf=> .s (h.flat hf)
 |a hn h=>exact fun hf=> .a hn fun i t ht=>(h i t ht).flat (by simp only[GV.flat,List.all_eq_true]at hf;exact hf t (List.mem_of_getElem? ht))
 |p hn _ ih=>exact fun hf=> .p hn fun i g hg=>ih i g hg (zJ hf (List.mem_of_getElem? hg))
 |fQ=>exact fun hf=>by simp[GV.flat]at hf
 |fC _ ih=>exact fun hf=> .fC (ih hf)
 |u=>exact fun hf=>by simp[GV.flat]at hf
theorem TV.kA (get:Nat→Option ak)(t:TV):t.cr get []=t:=by
 unfold TV.cr;split<;>simp
mutual
theorem GV.kA (get:Nat→Option ak):∀(g:GV),g.cr get []=g
 | .s t=>by simp only[GV.cr,TV.kA]
 | .a ts=>by simp only[GV.cr];congr 1;exact(List.map_congr_left fun t _=>TV.kA get t).trans (List.map_id ts)
 | .p gs=>by simp only[GV.cr,nV get gs]
 | .fQ _ _ _=>by simp only[GV.cr]
 | .fC _ g=>by simp only[GV.cr,GV.kA get g]
 | .u=>by simp only[GV.cr]
theorem nV (get:Nat→Option ak):∀(gs:List GV),fX get [] gs=gs
 |[]=>by simp only[fX]
 |g::gs=>by simp only[fX,GV.kA get g,nV get gs]
end
theorem TV.iq (f:Nat→Nat)(t:TV)(h:t.names=[]):t.bB f=t:=by
 cases t<;>first|rfl|(simp[TV.names]at h)
mutual
theorem GV.iq (f:Nat→Nat):∀(g:GV),g.names=[]→g.bB f=g
 | .s t,h=>by simp only[GV.bB,TV.iq f t h]
 | .a ts,h=>by
   simp only[GV.bB];congr 1;refine(List.map_congr_left fun t ht=>TV.iq f t ?_).trans (List.map_id ts)
   simp only[GV.names,List.flatMap_eq_nil_iff]at h;exact h t ht
 | .p gs,h=>by simp only[GV.bB,nW f gs h]
 | .fQ _ fs cs,h=>by
   simp only[GV.names,List.append_eq_nil_iff]at h;simp only[GV.bB,nW f fs h.1,nW f cs h.2]
 | .fC _ g,h=>by simp only[GV.bB,GV.iq f g h]
 | .u,_=>by simp only[GV.bB]
theorem nW (f:Nat→Nat):∀(gs:List GV),dt gs=[]→fH f gs=gs
 |[],_=>by simp only[fH]
 |g::gs,h=>by
  simp only[dt,List.append_eq_nil_iff]at h;simp only[fH,GV.iq f g h.1,nW f gs h.2]
end
theorem TV.qO (t:TV):t.bB id=t:=by cases t<;>rfl
mutual
theorem GV.qO:∀(g:GV),g.bB id=g
 | .s t=>by simp only[GV.bB,TV.qO]
 | .a ts=>by simp only[GV.bB];congr 1;exact(List.map_congr_left fun t _=>TV.qO t).trans (List.map_id ts)
 | .p gs=>by simp only[GV.bB,uL gs]
 | .fQ _ fs cs=>by simp only[GV.bB,uL fs,uL cs]
 | .fC _ g=>by simp only[GV.bB,GV.qO g]
 | .u=>by simp only[GV.bB]
theorem uL:∀(gs:List GV),fH id gs=gs
 |[]=>by simp only[fH]
 |g::gs=>by simp only[fH,GV.qO g,uL gs]
end
section
variable {P:Program}{E:List PanicEntry→World→Prop}{nt:Nat}{o:Oper}{s:ae}
theorem Vf {c:Call}(ho:o.op= .call c)(hd:bF o nt=true){f:FuncId}{oR:List GV}{cM:List (Nat×Option ak)}(hf:s.qk P c.callee c.args.toList=some (f,oR,cM)){peek:List Nat}{bY:List GV}{r:GV}
  (hT:TC P E f bY 0 [] r []) (ha:fX s.get peek oR=bY) (gw:∀b∈peek,rowOf (s.get b)=true) (hr:r.flat=true):
  dT P E nt o (cM++peek.map fun b=>(b,s.get b)) (bE s.env o.op.operands.toList) r []:=by
 refine .call hd fun C env get a w ρ D uI hi hR=>?_;have fO:∀x∈peek.map (fun b=>(b,s.get b)),get x.1=x.2:=fun x hx=>uI x (List.mem_append_right _ hx)
 obtain⟨zA,hT⟩:=hT;obtain⟨bJ,e1,jj,sZ⟩:=I' ho hf zA hR (fun x hx=>uI x (List.mem_append_left _ hx)) hi
 refine⟨f,bJ,e1,?_⟩;have zC:∀b∈peek,get b=s.get b:=fun b hb=>fO (b,s.get b) (List.mem_map.2 ⟨b,hb,rfl⟩)
 obtain⟨D1,uJ,EG,U8⟩:=hR.consume peek fun b hb=>by
  have:=gw b hb
  rw[zC b hb];unfold rowOf at this;split at this
  ·rename_i h;exact⟨_,h,rfl⟩
  ·cases this
 refine(hT w _ ρ D1 (by rw[jj,←ha,gS]) (fun i g hg=>?_) (fun k hk=>(uJ.ro k hk).1) (fun b y h=>by cases h) (fun b y g h=>by cases h) (fun b y b' y' g h=>by cases h)).mono ?_
 ·rw[←ha,nU,Option.map_eq_some_iff]at hg
  obtain⟨g',bf,rfl⟩:=hg;rw[←GV.iF zC];exact(sZ i g' bf).cr hR EG U8
 rintro e w' (h|⟨v,zE,D2,rfl,hv,hP⟩)
 ·exact .inl h
 right
 have hm:∀k,¬Mf [] ρ k:=fun k ⟨b,y,h,_⟩=>by cases h
 have hold:∀k,k<w.heap.size→w'.heap[k]?=w.heap[k]?:=fun k hk=>hP.old k hk (hm k)
 have hK:cj D w w':=fun k hd=>hold k (hR.ro k hd).1
 have h1:=hR.size;have h2:=hP.size;refine⟨v,ρ,D,rfl,⟨hP.os.trans hR.os,hP.tape.trans hR.tape,hP.output.trans hR.output,by omega,fun k hk hM=>(hold k (by omega)).trans (hR.old k hk hM),fun k hk=>⟨Nat.lt_of_lt_of_le (hR.ro k hk).1 h2,(hR.ro k hk).2⟩,hR.free,fun b y hy=>?_,hR.own,hR.sep,fun t=>(hR.env t).keep (fun _ _ h=>h) hK fun _ h=>h,hR.defers,hR.nt,hR.ext⟩,hv.flat hr⟩
 refine(hR.blk b y hy).keep (fun _ _ h=>h) hK (fun _ h=>h) ?_
 by_cases hl:y.live=true
 ·exact .inr fun g hg=>hold g (hR.gu hy hl hg)
 ·left
  cases y<;>simp[ak.live]at hl
  rfl
abbrev KT:=List (Nat×Option ak)→GV→List (Nat×ak)→Nat→Prop
def qP (P:Program)(E:List PanicEntry→World→Prop)(s:ae)(callee:Callee)(args:List Operand)(K:KT):Prop:=
 ∃f gs cM,s.qk P callee args=some (f,gs,cM)∧(∀x∈cM,s.get x.1=x.2)∧
  ((dt gs=[]∧∃r,TC P E f gs 0 [] r []∧r.names=[]∧K cM r [] s.nx)∨
   (∃peek bY r,TC P E f bY 0 [] r []∧fX s.get peek gs=bY∧(∀b∈peek,rowOf (s.get b)=true)∧r.flat=true∧K (cM++peek.map fun b=>(b,s.get b)) r [] s.nx)∨
   ∃frag peek bY sto0 sto' cnt r,TC P E f bY frag.length sto0 r sto'∧EF s gs frag peek bY sto0 sto' cnt∧(∀b∈r.names,b<frag.length+cnt)∧(∀x∈sto',∀b∈x.2.names,b<frag.length+cnt)∧
    K (cM++fD s frag peek cnt) (r.bB (φ frag s.nx)) (iS s frag peek sto' cnt) (s.nx+cnt))
def qQ (P:Program)(E:List PanicEntry→World→Prop)(s:ae):Callee→List Operand→List TypeId→KT→Prop
 | .builtin .len,[x],[t],K=>∃d,aE P t=some d∧∃e,d.k= .slice e∧∃k xs fr,s.view (s.ev x)=some (k,xs,fr)∧K fr (gI .i64 xs.length) [] s.nx
 | .builtin .max,[x,y],_,K=>∃k m,(s.ev x).i?=some (k,m)∧∃k' n,(s.ev y).i?=some (k',n)∧K [] (gI k (if n>m then n else m)) [] s.nx
 | .builtin .min,[x,y],_,K=>∃k m,(s.ev x).i?=some (k,m)∧∃k' n,(s.ev y).i?=some (k',n)∧K [] (gI k (if n<m then n else m)) [] s.nx
 | .builtin .append,[bx,yx],[t,t'],K=>t=t'∧∃d,aE P t=some d∧∃e,d.k= .slice e∧∃de,aE P e=some de∧0<de.size∧∃xs ob,s.qM e de.size (s.ev bx)=some (xs,ob)∧∃k ys fr,s.view (s.ev yx)=some (k,ys,fr)∧(k=de.size∨ys=[])∧
   (xs.length+ys.length)*de.bytes≤140737488355328∧xs.length+ys.length≤maxLen∧K ((s.nx,none)::(Cm s ob++fr)) (.s (.own s.nx)) ((s.nx,.rows e de.size (xs++ys))::uE ob) (s.nx+1)
 | .value fx,args,_,K=>qP P E s (.value fx) args K
 | .invoke x n,args,_,K=>qP P E s (.invoke x n) args K
 |_,_,_,_=>False
def rR (P:Program)(E:List PanicEntry→World→Prop)(s:ae)(op:Op)(K:KT):Prop:=
 match op with
 | .move x=>K [] (s.ev x) [] s.nx
 | .assign x=>K [] (s.ev x) [] s.nx
 | .pick c x y=>∃t,(s.ev c).b?=some t∧(t=true→K [] (s.ev x) [] s.nx)∧(t=false→K [] (s.ev y) [] s.nx)
 | .alloc t=>∃d,aE P t=some d∧K [(s.nx,none)] (.s (.ptr s.nx 0)) [(s.nx,.box (d.zero.map fun x=> .r (im x)))] (s.nx+1)
 | .box _ x=>∃cs,(s.ev x).cells?=some cs∧K [(s.nx,none)] (.s (.ptr s.nx 0)) [(s.nx,.box cs)] (s.nx+1)
 | .build t ps=>∃d,aE P t=some d∧d.k.agg=true∧(d.k.Cj.all fun t=>(aE P t).isSome)=true∧∃cs,oI (placeOf (aE P) d.k) (d.zero.map fun x=> .r (im x)) (lV s ps.toList)=some cs∧K [] (.a cs) [] s.nx
 | .buildSlice t n ps=>∃d,aE P t=some d∧∃e,d.k= .slice e∧∃de,aE P e=some de∧0<de.size∧ps.toList.length=n∧n*de.size≤16777216∧∃xs bs,oM s de.size 0 ps.toList=some (xs,bs)∧
   K ((s.nx,none)::bs.map fun c=>(c,s.get c)) (.s (.own s.nx)) ((s.nx,.rows e de.size xs)::bs.map fun c=>(c,.dead)) (s.nx+1)
 | .load t x=>∃d,aE P t=some d∧∃fr cs,s.deref (s.ev x)=some (fr,cs)∧d.size≤cs.length∧K fr (mk d.k.agg (cs.take d.size)) [] s.nx
 | .store t ax vx=>∃d,aE P t=some d∧∃ys,(s.ev vx).cells?=some ys∧ys.length=d.size∧match s.ev ax with
   | .s (.ptr b off)=>∃cs,s.get b=some (.box cs)∧off+ys.length≤cs.length∧K [(b,some (.box cs))] .u [(b,.box (cU cs off ys))] s.nx
   | .s (.row b k i off)=>∃e xs,s.get b=some (.rows e k xs)∧∃y,xs[i]?=some y∧off+ys.length≤y.length∧∃rs bs,s.nn ys=some (rs,bs)∧b∉bs∧
     K ((b,some (.rows e k xs))::bs.map fun c=>(c,s.get c)) .u ((b,.rows e k (xs.set i (cU y off rs)))::bs.map fun c=>(c,.dead)) s.nx
   |_=>False
 | .fieldAddr t x f=>∃k d',oF (aE P) t f=some (k,d')∧d'.size≠0∧∃g,mP k (s.ev x)=some g∧K [] g [] s.nx
 | .field t x f=>∃k d',oF (aE P) t f=some (k,d')∧∃ts,(s.ev x).agg?=some ts∧k+d'.size≤ts.length∧K [] (mk d'.k.agg ((ts.drop k).take d'.size)) [] s.nx
 | .indexAddr t x ix=>∃k n,(s.ev ix).i?=some (k,n)∧0≤n∧s.elem (aE P) t n.toNat (s.ev x) fun fr g=>K fr g [] s.nx
 | .index t x ix=>∃d,aE P t=some d∧∃m e,d.k= .array m e∧∃de,aE P e=some de∧∃k n,(s.ev ix).i?=some (k,n)∧0≤n∧n<m∧∃ts,(s.ev x).agg?=some ts∧n.toNat*de.size+de.size≤ts.length∧
   K [] (mk de.k.agg ((ts.drop (n.toNat*de.size)).take de.size)) [] s.nx
 | .binOp op t x y _=>∃g,zH P t op (s.ev x) (s.ev y)=some g∧K [] g [] s.nx
 | .convert src dst x=>∃k1,pv P src=some k1∧∃k,pv P dst=some k∧∃k0 n,(s.ev x).i?=some (k0,n)∧K [] (gI k (k.wrap n)) [] s.nx
 | .nilCheck x=>Jh (s.ev x)=true∧K [] (s.ev x) [] s.nx
 | .unOp .not _ x=>∃b,(s.ev x).b?=some b∧K [] (gB (!b)) [] s.nx
 | .unOp .neg _ x=>∃k n,(s.ev x).i?=some (k,n)∧K [] (gI k (k.wrap (0-n))) [] s.nx
 | .extract x i=>∃gs,(s.ev x).tup?=some gs∧∃g,gs[i]?=some g∧K [] g [] s.nx
 | .makeFunc fn f c=>K [] (.fQ fn (f.toList.map s.ev) (c.toList.map s.ev)) [] s.nx
 | .makeInterface t x=>nu P t=true∧K [] (.fC t (s.ev x)) [] s.nx
 | .typeAssert x _ t ok=>nu P t=true∧∃t' g,(s.ev x).ifc?=some (t',g)∧((t'=t∧K [] (if ok=true then .p [g,gB true]else g) [] s.nx)∨(t'≠t∧ok=true∧Oe P t=true∧∃d,aE P t=some d∧K [] (.p [mk d.k.agg (d.zero.map fun x=> .r (im x)),gB false]) [] s.nx))
 | .makeSlice t lx cx=>∃d,aE P t=some d∧∃e,d.k= .slice e∧∃de,aE P e=some de∧0<de.size∧∃k n,(s.ev lx).i?=some (k,n)∧∃k' m,(s.ev cx).i?=some (k',m)∧0≤n∧n≤m∧(de.bytes:Int)*m≤281474976710656∧m≤9223372036854775807∧
   K [(s.nx,none)] (.s (.own s.nx)) [(s.nx,.rows e de.size (List.replicate n.toNat (de.zero.map im)))] (s.nx+1)
 | .slice t x lo hi none=>(lo=none∧∃d,aE P t=some d∧∃e,d.k= .slice e∧∃de,aE P e=some de∧∃b e' k xs,s.ev x= .s (.own b)∧s.get b=some (.rows e' k xs)∧∃h,xJ s xs.length hi=some h∧h≤xs.length∧K [(s.nx,none),(b,some (.rows e' k xs))] (.s (.own s.nx)) [(s.nx,.rows e' k (xs.take h)),(b,.dead)] (s.nx+1))∨∃d,aE P t=some d∧∃e,d.k= .slice e∧∃de,aE P e=some de∧∃k xs fr,s.view (s.ev x)=some (k,xs,fr)∧(k=de.size∨xs=[])∧∃l,xJ s 0 lo=some l∧∃h,xJ s xs.length hi=some h∧l≤h∧h≤xs.length∧
   K fr (.s (.r (.sl de.size ((xs.take h).drop l)))) ((iQ (s.ev x)).map fun b=>(b,.dead)) s.nx
 | .call c=>qQ P E s c.callee c.args.toList c.argTypes.toList K
 |_=>False
theorem Cq {nx b:Nat}{y:ak}{Δ:List (Nat×ak)}(h1:nx≤b)(h2:b<nx+1):gt b ((nx,y)::Δ)≠none:=by
 obtain rfl:b=nx:=by omega
 simp[gt]
theorem XJ (s:ae)(h:∀x∈s.bb,x.1<s.nx):s.get s.nx=none:=by
 unfold ae.get;split
 ·rename_i y hy
  have:=h _ (eN hy)
  simp at this
 ·simp
theorem Oh (s:ae)(h:∀x∈s.bb,x.1<s.nx){b:Nat}(hb:s.nx≤b):s.get b=none:=by
 unfold ae.get;split
 ·rename_i y hy
  have:=h _ (eN hy)
  simp at this;omega
 ·rw[if_neg (by omega)]
structure uM (s:ae) (fr:List (Nat×Option ak)) (Δ:List (Nat×ak)) (i_:Nat):Prop where
 fr:∀x∈fr,s.get x.1=x.2
 le:s.nx≤i_
 new:∀b,s.nx≤b→b<i_→gt b Δ≠none
 lt:∀x∈Δ,x.1<i_
theorem mX {s:ae}(hs:∀x∈s.bb,x.1<s.nx){b:Nat}{y:ak}(h:s.get b=some y):b<s.nx:=by
 rcases Nat.lt_or_ge b s.nx with h1|h1
 ·exact h1
 ·rw[Oh s hs h1]at h;cases h
theorem Ro {g:GV}{fr:List (Nat×Option ak)}{cs:List TV}(hc:s.deref g=some (fr,cs)):∀x∈fr,s.get x.1=x.2:=by
 unfold ae.deref at hc;split at hc
 ·split at hc
  ·rename_i hg;cases hc;intro x hx;simp at hx;subst hx;exact hg
  ·cases hc
 ·split at hc
  ·rename_i hg
   split at hc
   ·split at hc
    ·cases hc;intro x hx;simp at hx;subst hx;exact hg
    ·cases hc
   ·cases hc
  ·cases hc
 ·cases hc;intro x hx;cases hx
 ·cases hc
theorem zK {g:GV}{k:Nat}{xs:List (List RT)}{fr:List (Nat×Option ak)}(h:s.view g=some (k,xs,fr)):∀x∈fr,s.get x.1=x.2:=by
 unfold ae.view at h;split at h
 ·cases h;intro x hx;cases hx
 ·cases h;intro x hx;cases hx
 ·split at h
  ·rename_i hg;cases h;intro x hx;simp at hx;subst hx;exact hg
  ·cases h
 ·cases h
theorem uM.nil (hs:∀x∈s.bb,x.1<s.nx){fr:List (Nat×Option ak)}(h:∀x∈fr,s.get x.1=x.2):uM s fr [] s.nx:=⟨h,Nat.le_refl _,fun b h1 h2=>by omega,fun x hx=>by cases hx⟩
theorem rS {c:Call}(hs:∀x∈s.bb,x.1<s.nx)(hd:bF o nt=true)(ho:o.op= .call c){K:KT}(h:qP P E s c.callee c.args.toList K):∃fr gv Δ i_,dT P E nt o fr (bE s.env o.op.operands.toList) gv Δ∧uM s fr Δ i_∧K fr gv Δ i_:=by
 obtain⟨f,gs,cM,hf,uI,h2⟩:=h;rcases h2 with⟨h0,r,h2,h3,h4⟩|⟨peek,bY,r,h2,h3,h4,h5,h6⟩|⟨frag,peek,bY,sto0,sto',cnt,r,h2,h3,h4,h5,h6⟩
 ·have:=Jb (E:=E) (nt:=nt) (frag:=[]) (peek:=[]) (sto0:=[]) (sto':=[]) (cnt:=0) ho hd hf h2 ⟨by rw[nV,nW _ _ h0],List.nodup_nil,(fun b hb=>by cases hb),(fun b hb=>by cases hb),(fun b hb=>by cases hb),(fun b hb=>by cases hb),(fun b hb=>by cases hb),fun b hb=>by cases hb⟩ (fun b hb=>by rw[h3]at hb;cases hb) fun x hx=>by cases hx
  rw[GV.iq _ _ h3]at this;simp only[fD,List.map_nil,List.range_zero,List.append_nil]at this;exact⟨_,_,_,_,this,.nil hs uI,h4⟩
 ·refine⟨_,_,_,_,Vf ho hd hf h2 h3 h4 h5,.nil hs (fun x hx=>?_),h6⟩
  rcases List.mem_append.1 hx with hx|hx
  ·exact uI x hx
  ·obtain⟨c,_,rfl⟩:=List.mem_map.1 hx;rfl
 ·refine⟨_,_,_,_,Jb ho hd hf h2 h3 h4 h5,⟨fun x hx=>?_,by omega,fun b h1 h2=>?_,fun x hx=>?_⟩,h6⟩
  ·rcases List.mem_append.1 hx with hx|hx
   ·exact uI x hx
   ·simp only[fD,List.mem_append,List.mem_map,List.mem_range]at hx
    rcases hx with(⟨c,_,rfl⟩|⟨c,_,rfl⟩)|⟨j,hj,rfl⟩
    ·rfl
    ·rfl
    ·exact Oh s hs (by omega)
  ·simp only[iS,lU]
   split
   ·simp
   ·rename_i EH
    split at EH
    ·cases EH
    ·rw[jX (x:=b-s.nx) _ (List.mem_range.2 (by omega)) (by simp only;omega) (fun j hj e=>by simp only at e;rw[show j=b-s.nx by omega])]at EH
     cases EH
  ·simp only[iS,List.mem_append,List.mem_map,List.mem_range]at hx
   rcases hx with(⟨i,hi,rfl⟩|⟨j,hj,rfl⟩)|⟨c,hc,rfl⟩
   ·simp only
    have:=h3.Og (frag.getD i 0) (by simp only[List.getD_eq_getElem?_getD,List.getElem?_eq_getElem hi,Option.getD_some];exact List.getElem_mem hi)
    omega
   ·simp only;omega
   ·have:=h3.rows c hc
    unfold rowOf at this;split at this
    ·rename_i hg;have:=mX hs hg;simp only;omega
    ·cases this
theorem w_ (hs:∀x∈s.bb,x.1<s.nx)(hd:bF o nt=true){K:KT}(h:rR P E s o.op K):∃fr gv Δ i_,dT P E nt o fr (bE s.env o.op.operands.toList) gv Δ∧uM s fr Δ i_∧K fr gv Δ i_:=by
 have eQ:∀x∈([]:List (Nat×Option ak)),s.get x.1=x.2:=fun x hx=>by cases hx
 have mU:s.get s.nx=none:=XJ s hs
 unfold rR at h;split at h
 ·rename_i x ho
  exact⟨_,_,_,_,by rw[ho];exact IW (.inl ho) hd,.nil hs eQ,h⟩
 ·rename_i x ho
  exact⟨_,_,_,_,by rw[ho];exact IW (.inr ho) hd,.nil hs eQ,h⟩
 ·rename_i c x y ho
  obtain⟨t,h1,h2,h3⟩:=h;refine⟨_,_,_,_,by rw[ho];exact UQ ho hd h1,.nil hs eQ,?_⟩
  cases t
  ·exact h3 rfl
  ·exact h2 rfl
 ·rename_i t ho
  obtain⟨d,h1,h2⟩:=h;exact⟨_,_,_,_,by rw[ho];exact Q_ ho hd h1,⟨fun x hx=>by simp at hx;subst hx;exact mU,by omega,fun b h1 h2=>Cq h1 h2,fun x hx=>by simp at hx;subst hx;simp⟩,h2⟩
 ·rename_i t x ho
  obtain⟨cs,h1,h2⟩:=h;exact⟨_,_,_,_,by rw[ho];exact Xx ho hd h1,⟨fun x hx=>by simp at hx;subst hx;exact mU,by omega,fun b h1 h2=>Cq h1 h2,fun x hx=>by simp at hx;subst hx;simp⟩,h2⟩
 ·rename_i t ps ho
  obtain⟨d,h1,h2,h3,cs,h4,h5⟩:=h;exact⟨_,_,_,_,by rw[ho];exact Ra ho hd h1 h3 h4 h2,.nil hs eQ,h5⟩
 ·rename_i t n ps ho
  obtain⟨d,h1,e,h2,de,h3,h4,h5,h6,xs,bs,h7,h8⟩:=h;have hl:=mT h7;refine⟨_,_,_,_,by rw[ho];exact zt (b:=s.nx) ho hd h1 h2 h3 h4 h5 h6 h7,⟨fun x hx=>?_,by omega,fun b h1 h2=>Cq h1 h2,fun x hx=>?_⟩,h8⟩
  ·rcases List.mem_cons.1 hx with rfl|hx
   ·exact mU
   ·obtain⟨c,_,rfl⟩:=List.mem_map.1 hx;rfl
  ·rcases List.mem_cons.1 hx with rfl|hx
   ·simp
   ·obtain⟨c,hc,rfl⟩:=List.mem_map.1 hx
    obtain⟨e,k,xs,hc⟩:=hl c hc;have:=mX hs hc
    simp only;omega
 ·rename_i t x ho
  obtain⟨d,h1,fr,cs,h2,h3,h4⟩:=h;exact⟨_,_,_,_,by rw[ho];exact UR ho hd h1 h2 h3 (cz h1).2.2.2,.nil hs (Ro h2),h4⟩
 ·rename_i t ax vx ho
  obtain⟨d,h1,ys,h2,h3,h4⟩:=h;split at h4
  ·rename_i b off ha
   obtain⟨cs,h5,h6,h7⟩:=h4;exact⟨_,_,_,_,by rw[ho];exact Ew ho hd h1 ha h5 h2 h3 h6,⟨fun x hx=>by simp at hx;subst hx;exact h5,Nat.le_refl _,fun b h1 h2=>by omega,fun x hx=>by simp at hx;subst hx;exact mX hs h5⟩,h7⟩
  ·rename_i b k i off ha
   obtain⟨e,xs,h5,y,h6,h7,rs,bs,h8,h9,rr⟩:=h4;have hl:=mQ h8;refine⟨_,_,_,_,by rw[ho];exact Ex ho hd h1 ha h5 h2 h6 h3 h7 h8 h9,⟨fun x hx=>?_,Nat.le_refl _,fun b h1 h2=>by omega,fun x hx=>?_⟩,rr⟩
   ·rcases List.mem_cons.1 hx with rfl|hx
    ·exact h5
    ·obtain⟨c,_,rfl⟩:=List.mem_map.1 hx;rfl
   ·rcases List.mem_cons.1 hx with rfl|hx
    ·exact mX hs h5
    ·obtain⟨c,hc,rfl⟩:=List.mem_map.1 hx
     obtain⟨e,k,xs,hc⟩:=hl c hc;exact mX hs hc
  ·exact h4.elim
 ·rename_i t x f ho
  obtain⟨k,d',h1,h2,g,h3,h4⟩:=h;exact⟨_,_,_,_,by rw[ho];exact Bo ho hd h1 h2 h3,.nil hs eQ,h4⟩
 ·rename_i t x f ho
  obtain⟨k,d',h1,ts,h2,h3,h4⟩:=h;have oG:d'.k.agg=true∨d'.size=1:=by
   obtain⟨_,_,_,_,_,h5⟩:=qi h1;exact(cz h5).2.2.2
  exact⟨_,_,_,_,by rw[ho];exact Q8 ho hd h1 h2 h3 oG,.nil hs eQ,h4⟩
 ·rename_i t x ix ho
  obtain⟨k,n,h1,h2,h3⟩:=h;obtain⟨fr,g,h4,h5,h6⟩:=US (E:=E) (nt:=nt) ho hd h1 h2 h3;exact⟨_,_,_,_,by rw[ho];exact h4,.nil hs h5,h6⟩
 ·rename_i t x ix ho
  obtain⟨d,h1,m,e,h2,de,h3,k,n,h4,h5,h6,ts,h7,h8,h9⟩:=h;exact⟨_,_,_,_,by rw[ho];exact Q9 ho hd h1 h2 h3 h4 h5 h6 h7 h8 (cz h3).2.2.2,.nil hs eQ,h9⟩
 ·rename_i op t x y yt ho
  obtain⟨g,h1,h2⟩:=h;exact⟨_,_,_,_,by rw[ho];exact Ve ho hd h1,.nil hs eQ,h2⟩
 ·rename_i src dst x ho
  obtain⟨k1,h1,k,h2,k0,n,h3,h4⟩:=h;exact⟨_,_,_,_,by rw[ho];exact Jg ho hd h1 h2 h3,.nil hs eQ,h4⟩
 ·rename_i x ho
  exact⟨_,_,_,_,by rw[ho];exact EI ho hd h.1,.nil hs eQ,h.2⟩
 ·rename_i t x ho
  obtain⟨b,h1,h2⟩:=h;exact⟨_,_,_,_,by rw[ho];exact Xu ho hd h1,.nil hs eQ,h2⟩
 ·rename_i t x ho
  obtain⟨k,n,h1,h2⟩:=h;exact⟨_,_,_,_,by rw[ho];exact Xv ho hd h1,.nil hs eQ,h2⟩
 ·rename_i x i ho
  obtain⟨gs,h1,g,h2,h3⟩:=h;exact⟨_,_,_,_,by rw[ho];exact IX ho hd h1 h2,.nil hs eQ,h3⟩
 ·rename_i fn f c ho
  exact⟨_,_,_,_,by rw[ho];exact Et ho hd,.nil hs eQ,h⟩
 ·rename_i t x ho
  exact⟨_,_,_,_,by rw[ho];exact uH ho hd h.1,.nil hs eQ,h.2⟩
 ·rename_i x xt t ok ho
  obtain⟨h1,t',g,h2,⟨rfl,h3⟩|⟨h3,rfl,h4,d,h5,h6⟩⟩:=h
  ·exact⟨_,_,_,_,by rw[ho];exact Bv ho hd h1 h2,.nil hs eQ,h3⟩
  ·exact⟨_,_,_,_,by rw[ho];exact zz ho hd h1 h4 h5 h2 h3,.nil hs eQ,h6⟩
 ·rename_i t lx cx ho
  obtain⟨d,h1,e,h2,de,h3,h4,k,n,h5,k',m,h6,h7,h8,h9,rr,ry⟩:=h;exact⟨_,_,_,_,by rw[ho];exact Br (b:=s.nx) ho hd h1 h2 h3 h4 h5 h6 h7 h8 h9 rr,⟨fun x hx=>by simp at hx;subst hx;exact mU,by omega,fun b h1 h2=>Cq h1 h2,fun x hx=>by simp at hx;subst hx;simp⟩,ry⟩
 ·rename_i t x lo hi ho
  rcases h with⟨rfl,d,h1,e,h2,de,h3,b,e',k,xs,h4,h5,h',h6,h7,h8⟩|⟨d,h1,e,h2,de,h3,k,xs,fr,h4,h5,l,h6,h',h7,h8,h9,rr⟩
  ·have aW:(Op.slice t x none hi none).operands.toList=x::pq hi:=by cases hi<;>simp[Op.operands,pq]
   refine⟨_,_,_,_,by rw[ho,aW];exact Ez (b':=s.nx) ho hd h1 h2 h3 h4 h5 h6 h7,⟨fun y hy=>?_,by omega,fun b h1 h2=>Cq h1 h2,fun y hy=>?_⟩,h8⟩
   ·simp only[List.mem_cons,List.not_mem_nil,or_false]at hy
    rcases hy with rfl|rfl
    ·exact mU
    ·exact h5
   ·simp only[List.mem_cons,List.not_mem_nil,or_false]at hy
    have:=mX hs h5
    rcases hy with rfl|rfl
    ·simp
    ·simp only;omega
  have aW:(Op.slice t x lo hi none).operands.toList=x::(pq lo++pq hi):=by cases lo<;>cases hi<;>simp[Op.operands,pq]
  refine⟨_,_,_,_,by rw[ho,aW];exact Rc ho hd h1 h2 h3 h4 h5 h6 h7 h8 h9,⟨zK h4,Nat.le_refl _,fun b h1 h2=>by omega,fun y hy=>?_⟩,rr⟩
  obtain⟨c,hc,rfl⟩:=List.mem_map.1 hy;unfold iQ at hc;split at hc
  ·rename_i b eb
   simp only[List.mem_cons,List.not_mem_nil,or_false]at hc;subst hc;rw[eb]at h4;simp only[ae.view]at h4;split at h4
   ·rename_i hg;exact mX hs hg
   ·cases h4
  ·cases hc
 ·rename_i c ho
  obtain⟨callee,ic,XF⟩:=c;simp only at h
  unfold qQ at h;split at h
  ·rename_i x t ea et
   obtain rfl:ic= #[x]:=Array.toList_inj.1 ea
   obtain rfl:XF= #[t]:=Array.toList_inj.1 et
   obtain⟨d,h1,e,h2,k,xs,fr,h3,h4⟩:=h;exact⟨_,_,_,_,by rw[ho];exact Xt ho hd h1 h2 h3,.nil hs (zK h3),h4⟩
  ·rename_i x y ea
   obtain rfl:ic= #[x,y]:=Array.toList_inj.1 ea
   obtain⟨k,m,h1,k',n,h2,h3⟩:=h;exact⟨_,_,_,_,by rw[ho];exact Xz ho hd h1 h2,.nil hs eQ,h3⟩
  ·rename_i x y ea
   obtain rfl:ic= #[x,y]:=Array.toList_inj.1 ea
   obtain⟨k,m,h1,k',n,h2,h3⟩:=h;exact⟨_,_,_,_,by rw[ho];exact XA ho hd h1 h2,.nil hs eQ,h3⟩
  ·rename_i bx yx t t' ea et
   obtain rfl:ic= #[bx,yx]:=Array.toList_inj.1 ea
   obtain rfl:XF= #[t,t']:=Array.toList_inj.1 et
   obtain⟨rfl,d,h1,e,h2,de,h3,h4,xs,ob,h5,k,ys,fr,h6,h7,h8,h9,rr⟩:=h;refine⟨_,_,_,_,by rw[ho];exact MD (b':=s.nx) ho hd h1 h2 h3 h4 h5 h6 h7 h8 h9,⟨fun x hx=>?_,by omega,fun b h1 h2=>Cq h1 h2,fun x hx=>?_⟩,rr⟩
   ·rcases List.mem_cons.1 hx with rfl|hx
    ·exact mU
    ·rcases List.mem_append.1 hx with hx|hx
     ·unfold Cm at hx
      split at hx
      ·simp at hx;subst hx;rfl
      ·cases hx
     ·exact zK h6 x hx
   ·rcases List.mem_cons.1 hx with rfl|hx
    ·simp
    ·unfold uE at hx
     split at hx
     ·rename_i b
      simp at hx;subst hx
      unfold ae.qM at h5;split at h5
      ·split at h5
       ·rename_i hg
        split at h5
        ·cases h5;have:=mX hs hg;simp only;omega
        ·cases h5
       ·cases h5
      ·cases h5
      ·cases h5
     ·cases hx
  ·rename_i fx
   exact rS hs hd ho h
  ·rename_i x n
   exact rS hs hd ho h
  ·exact h.elim
 ·exact h.elim
end
end Go.Proofs.YtlhohdjniaebbaaGreat.T
namespace Go.Proofs.YtlhohdjniaebbaaGreat.T
open Go Go.RowKit
open Go.Proofs.YtlhohdjniaebbaaGreat.Sr (wI tV)
abbrev Pl:=List (Nat ⊕ Nat)×List (Nat ⊕ Nat)
def tmpsOf:List Operand→List (Nat ⊕ Nat)
 |[]=>[]
 | .tmp t::xs=> .inl t::tmpsOf xs
 |_::xs=>tmpsOf xs
def ir (o:Oper)(gd:List (Nat ⊕ Nat))(fr:List (Nat×Option ak))(Δ:List (Nat×ak)):Pl:=
 (gd++tmpsOf o.op.operands.toList++fr.map (fun x=> .inr x.1),(match o.dst with|some d=>[.inl d]|none=>[])++Δ.map fun x=> .inr x.1)
def aah (g h:Pl):Bool:=g.2.any (fun l=>I2 l (h.1++h.2))||h.2.any fun l=>I2 l (g.1++g.2)
def Ji (gs:List Pl)(ms:List Nat):Bool:=(List.range gs.length).all fun j=>(List.range j).all fun i=>match gs[i]?,gs[j]? with
 |some g,some h=> !aah g h||(ms.getD j 0).testBit i
 |_,_=>true
def zL (g:Sg):Pl:=(pt g,eY g)
theorem Jj (gs:List Sg)(ms:List Nat):Ji (gs.map zL) ms=oO gs ms:=by
 unfold Ji oO;rw[List.length_map];congr 1
 funext j
 congr 1
 funext i
 rw[List.getElem?_map,List.getElem?_map]
 cases gs[i]?<;>cases gs[j]?<;>rfl
theorem ql (e:List (Nat×GV)):∀(xs:List Operand),(bE e xs).map (fun x=>(Sum.inl x.1:Nat ⊕ Nat))=tmpsOf xs
 |[]=>rfl
 |x::xs=>by cases x<;>simp[bE,tmpsOf,ql e xs]
def ae.step (s:ae)(dst:Option Nat)(g:GV)(Δ:List (Nat×ak))(i_:Nat):ae:=
 ⟨match dst with|some d=>(d,g)::s.env|none=>s.env,Δ++s.bb,i_⟩
def xc (d:Nat)(g:GV):List (Nat×GV)→List (Nat×GV)
 |[]=>[(d,g)]
 |(u,x)::e=>if d=u then(d,g)::e else(u,x)::xc d g e
theorem uN (d:Nat)(g:GV)(t:Nat):∀(e:List (Nat×GV)),lk t (xc d g e)=if t=d then g else lk t e
 |[]=>by simp[xc,lk]
 |(u,x)::e=>by
  simp only[xc];split
  ·rename_i h;subst h
   simp only[lk];split<;>rfl
  ·rename_i h
   simp only[lk,uN d g t e];by_cases h1:t=u
   ·subst h1;rw[if_pos rfl,if_neg (fun e=>h e.symm),if_pos rfl]
   ·rw[if_neg h1,if_neg h1]
def ae.pH (s:ae)(d:Nat)(b:Bool):ae:=⟨xc d (gB b) s.env,s.bb,s.nx⟩
def GV.undef?:GV→Bool
 | .p []=>true
 |_=>false
def rT (ops:Array Oper)(j:Nat):Option Nat:=(ops[j]?).bind (·.dst)
def lX (P:Program)(E:List PanicEntry→World→Prop)(nt:Nat)(ops:Array Oper)(draw:Bool):List Oper→ae→List Pl→(ae→List Pl→Prop)→Prop
 |[],s,acc,K=>K s acc
 |o::os,s,acc,K=>bF o nt=true∧match o.guard with
  |none=>rR P E s o.op fun fr gv Δ i_=>lX P E nt ops draw os (s.step o.dst gv Δ i_) (if draw then acc++[ir o [] fr Δ]else[]) K
  |some (j,want)=>∃d,rT ops j=some d∧d<nt∧(((lk d s.env).undef?=true∧lX P E nt ops draw os (s.step o.dst (.p []) [] s.nx) (if draw then acc++[([.inl d],match o.dst with|some d=>[.inl d]|none=>[])]else[]) K)∨∃b,(lk d s.env).b?=some b∧
   (b=want→rR P E (s.pH d want) o.op fun fr gv Δ i_=>lX P E nt ops draw os ((s.pH d want).step o.dst gv Δ i_) (if draw then acc++[ir o [.inl d] fr Δ]else[]) K)∧
   (b= !want→lX P E nt ops draw os ((s.pH d (!want)).step o.dst (.p []) [] s.nx) (if draw then acc++[([.inl d],match o.dst with|some d=>[.inl d]|none=>[])]else[]) K))
def qm (s:ae):Bool:=s.bb.all fun x=>decide (x.1<s.nx)
def Rp (P:Program)(E:List PanicEntry→World→Prop)(nt:Nat)(ops:Array Oper)(draw:Bool)(s:ae)(K:ae→Prop):Prop:=
 qm s=true∧lX P E nt ops draw ops.toList s [] fun s' pl=>(draw=true→(nq (dx ops.toList)&&Ji pl (np (dx ops.toList)))=true)∧K s'
def Ag (s:ae)(σ:St):Prop:=(∀t,lk t s.env=σ.1 t)∧∀b,s.get b=σ.2 b
theorem Ag.step {s:ae}{σ:St}(h:Ag s σ){fr:List (Nat×Option ak)}{Δ:List (Nat×ak)}{i_:Nat}(hn:uM s fr Δ i_)(ins:List (Nat×GV))(dst:Option Nat)(g:GV):Ag (s.step dst g Δ i_) (ap ⟨fr,ins,dst,g,Δ⟩ σ):=by
 refine⟨fun t=>?_,fun b=>?_⟩
 ·simp only[ae.step,ap,put]
  cases dst with
  |none=>simpa using h.1 t
  |some d=>
   simp only[lk,Option.some.injEq];by_cases e:t=d
   ·subst e;simp
   ·rw[if_neg e,if_neg (fun e'=>e e'.symm)];exact h.1 t
 ·show(match gt b (Δ++s.bb)with|some y=>some y|none=>if b<i_ then some ak.dead else none)=(match gt b Δ with|some y=>some y|none=>σ.2 b)
  rw[lU];have hb:=h.2 b
  cases hg:gt b Δ with
  |some y=>rfl
  |none=>
   simp only
   rw[←hb];unfold ae.get
   cases gt b s.bb with
   |some y=>rfl
   |none=>
    simp only
    by_cases h1:b<s.nx
    ·rw[if_pos h1,if_pos (by have:=hn.le;omega)]
    ·by_cases h2:b<i_
     ·exact absurd hg (hn.new b (by omega) h2)
     ·rw[if_neg h1,if_neg h2]
theorem Ag.pH {s:ae}{σ:St}(h:Ag s σ){d:Nat}{b:Bool}(hb:(lk d s.env).b?=some b):Ag (s.pH d b) σ:=by
 refine⟨fun t=>?_,h.2⟩
 simp only[ae.pH,uN];by_cases e:t=d
 ·subst e
  rw[if_pos rfl,←h.1 t];unfold GV.b? at hb;split at hb
  ·rename_i e;cases hb;rw[e];rfl
  ·cases hb
 ·rw[if_neg e];exact h.1 t
theorem zM {s:ae}(h:qm s=true):∀x∈s.bb,x.1<s.nx:=by
 intro x hx;simp only[qm,List.all_eq_true]at h;simpa using h x hx
theorem mY {s:ae}(h:∀x∈s.bb,x.1<s.nx){fr:List (Nat×Option ak)}{Δ:List (Nat×ak)}{i_:Nat}(hn:uM s fr Δ i_)(dst:Option Nat)(g:GV):∀x∈(s.step dst g Δ i_).bb,x.1<(s.step dst g Δ i_).nx:=by
 intro x hx;rcases List.mem_append.1 hx with hx|hx
 ·exact hn.lt x hx
 ·have:=h x hx;have:=hn.le;simp only[ae.step];omega
theorem Jk {gs bM:List Sg}{σ:St}(n:Nat):n≤gs.length→can (gs++bM) σ n=can gs σ n:=by
 induction n with
 |zero=>intro _;rfl
 |succ n ih=>
  intro h;have ih:=ih (by omega)
  have h1:(gs++bM)[n]?=gs[n]?:=List.getElem?_append_left (by omega)
  simp only[can]at ih;simp only[can,dE,h1,ih]
section
variable {P:Program}{E:List PanicEntry→World→Prop}{nt:Nat}{ops:Array Oper}
theorem Rq {i:Nat}{o:Oper}(ho:ops[i]?=some o)(hg:o.guard=none){fr:List (Nat×Option ak)}{ins:List (Nat×GV)}{gv:GV}{Δ:List (Nat×ak)}(h:dT P E nt o fr ins gv Δ):oN P E nt ops i ⟨fr,ins,o.dst,gv,Δ⟩:=by
 intro C env get a w rest Q hC hf hi hR hK hE;simp only[wpOps,ho];rw[if_pos (by simp[Region.wanted,hg])]
 exact .inl (h C env get a w _ Q hC hf hi hR (fun a' w' oH=>hK a' w' oH) hE)
theorem zN {C:Ctx}{env:Nat→GV}{get:Nat→Option ak}{a:Act}{w:World}(hR:R C env get a w){j d:Nat}(hd:rT ops j=some d)(aj:d<C.nt){b:Bool}(he:env d=gB b):yielded ops a.tmps j=some b:=by
 obtain⟨ρ,D,hR⟩:=hR;have:=hR.env d
 rw[he]at this;have h1:=qL this;have h2:d<a.tmps.size:=by rw[hR.nt];exact aj
 unfold yielded;unfold rT at hd;rw[hd];simp only[Option.bind_some];rw[Array.getElem?_eq_getElem h2];simp only[Array.getD_eq_getD_getElem?,Array.getElem?_eq_getElem h2,Option.getD_some]at h1;rw[h1]
theorem Jl {i:Nat}{o:Oper}(ho:ops[i]?=some o){j d:Nat}{want:Bool}(hg:o.guard=some (j,want))(hj:rT ops j=some d)(aj:d<nt){fr:List (Nat×Option ak)}{ins:List (Nat×GV)}{gv:GV}{Δ:List (Nat×ak)}(h:dT P E nt o fr ins gv Δ):
  oN P E nt ops i ⟨fr,(d,gB want)::ins,o.dst,gv,Δ⟩:=by
 intro C env get a w rest Q hC hf hi hR hK hE;have hy:=zN hR hj (by rw[hC];exact aj) (hi (d,gB want) (List.mem_cons_self ..))
 simp only[wpOps,ho];rw[if_pos (by simp[Region.wanted,hg,hy])]
 exact .inl (h C env get a w _ Q hC hf (fun x hx=>hi x (List.mem_cons_of_mem _ hx)) hR (fun a' w' oH=>hK a' w' oH) hE)
theorem Jm {i:Nat}{o:Oper}(ho:ops[i]?=some o)(MO:bF o nt=true){j d:Nat}{want:Bool}(hg:o.guard=some (j,want))(hj:rT ops j=some d)(aj:d<nt):
  oN P E nt ops i ⟨[],[(d,gB (!want))],o.dst,.p [],[]⟩:=by
 intro C env get a w rest Q hC hf hi hR hK hE;have hy:=zN hR hj (by rw[hC];exact aj) (hi (d,gB (!want)) (List.mem_cons_self ..))
 simp only[wpOps,ho];rw[if_neg (by simp[Region.wanted,hg,hy])]
 refine hK _ _ ?_;obtain⟨ρ,D,hR⟩:=hR;refine⟨ρ,D,?_⟩;show Rel C (put env o.dst (.p [])) (upd get []) (a.put o.dst undef) w ρ D
 rw[IV];refine hR.put (fun d' e=>?_) (.p rfl fun i g h=>by simp at h)
 unfold bF at MO;rw[e]at MO;simpa[hC]using MO
theorem Jn {i:Nat}{o:Oper}(ho:ops[i]?=some o)(MO:bF o nt=true){j d:Nat}{want:Bool}(hg:o.guard=some (j,want))(hj:rT ops j=some d)(aj:d<nt):
  oN P E nt ops i ⟨[],[(d,.p [])],o.dst,.p [],[]⟩:=by
 intro C env get a w rest Q hC hf hi hR hK hE;obtain⟨ρ,D,hR⟩:=hR;have h1:=hR.env d;rw[hi (d,.p []) (List.mem_cons_self ..)]at h1;have hy:yielded ops a.tmps j=none:=by
  unfold yielded;unfold rT at hj;rw[hj];have h2:d<a.tmps.size:=by rw[hR.nt,hC];exact aj
  simp only[Option.bind_some,Array.getElem?_eq_getElem h2];simp only[Array.getD_eq_getD_getElem?,Array.getElem?_eq_getElem h2,Option.getD_some]at h1;generalize a.tmps[d]=v at h1
  cases h1;rfl
 simp only[wpOps,ho];rw[if_neg (by simp[Region.wanted,hg,hy])]
 refine hK _ _ ⟨ρ,D,?_⟩;show Rel C (put env o.dst (.p [])) (upd get []) (a.put o.dst undef) w ρ D
 rw[IV];refine hR.put (fun d' e=>?_) (.p rfl fun i g h=>by simp at h)
 unfold bF at MO;rw[e]at MO;simpa[hC]using MO
structure tb (P:Program) (E:List PanicEntry→World→Prop) (nt:Nat) (ops:Array Oper) (σ:St) (gs:List Sg) (s:ae):Prop where
 step:∀(i:Nat) (g:Sg),gs[i]?=some g→oN P E nt ops i g
 fr:∀(i:Nat) (g:Sg),gs[i]?=some g→∀x∈g.fr,(can gs σ i).2 x.1=x.2
 ins:∀(i:Nat) (g:Sg),gs[i]?=some g→∀x∈g.ins,(can gs σ i).1 x.1=x.2
 ag:Ag s (can gs σ gs.length)
 lt:∀x∈s.bb,x.1<s.nx
theorem tb.push {σ:St}{gs:List Sg}{s s1:ae}(h:tb P E nt ops σ gs s){g:Sg}(h1:oN P E nt ops gs.length g)(h2:∀x∈g.fr,s.get x.1=x.2)(h3:∀x∈g.ins,lk x.1 s.env=x.2)(h4:Ag s1 (ap g (can gs σ gs.length)))(h5:∀x∈s1.bb,x.1<s1.nx):tb P E nt ops σ (gs++[g]) s1:=by
 have Jo:∀i,i≤gs.length→can (gs++[g]) σ i=can gs σ i:=fun i hi=>Jk i hi
 have yR:(gs++[g])[gs.length]?=some g:=by simp
 have MQ:∀(i:Nat) (g':Sg),(gs++[g])[i]?=some g'→(i<gs.length∧gs[i]?=some g')∨(i=gs.length∧g'=g):=by
  intro i g' hi;rw[List.getElem?_append]at hi;split at hi
  ·exact .inl ⟨‹_›,hi⟩
  ·have:i-gs.length=0:=by
    have:=(List.getElem?_eq_some_iff.1 hi).1
    simp at this;omega
   rw[this]at hi
   cases hi;exact .inr ⟨by omega,rfl⟩
 refine⟨fun i g' hi=>?_,fun i g' hi x hx=>?_,fun i g' hi x hx=>?_,?_,h5⟩
 ·rcases MQ i g' hi with⟨_,hi⟩|⟨rfl,rfl⟩
  ·exact h.step i g' hi
  ·exact h1
 ·rcases MQ i g' hi with⟨aj,hi⟩|⟨rfl,rfl⟩
  ·rw[Jo i (by omega)];exact h.fr i g' hi x hx
  ·rw[Jo _ (Nat.le_refl _),←h.ag.2];exact h2 x hx
 ·rcases MQ i g' hi with⟨aj,hi⟩|⟨rfl,rfl⟩
  ·rw[Jo i (by omega)];exact h.ins i g' hi x hx
  ·rw[Jo _ (Nat.le_refl _),←h.ag.1];exact h3 x hx
 ·rw[List.length_append,List.length_singleton,vR yR,Jo _ (Nat.le_refl _)]
  exact h4
theorem qR (e:List (Nat×GV)):∀(xs:List Operand),∀x∈bE e xs,lk x.1 e=x.2
 |[],x,h=>by cases h
 |y::xs,x,h=>by
  cases y with
  |tmp t=>
   rcases List.mem_cons.1 h with rfl|h
   ·rfl
   ·exact qR e xs x h
  |_=>exact qR e xs x h
theorem jr {draw:Bool}{σ:St}{K:ae→List Pl→Prop}:∀(os:List Oper) (gs:List Sg) (s:ae) (acc:List Pl) (pre:List Oper),ops.toList=pre++os→gs.length=pre.length→tb P E nt ops σ gs s→(draw=true→acc=gs.map zL)→lX P E nt ops draw os s acc K→
  ∃bM s' Yx,tb P E nt ops σ bM s'∧bM.length=ops.size∧(draw=true→Yx=bM.map zL)∧K s' Yx
 |[],gs,s,acc,pre,wZ,hl,hp,ha,h=>⟨gs,s,acc,hp,by rw[hl,←Array.length_toList,wZ,List.append_nil],ha,h⟩
 |o::os,gs,s,acc,pre,wZ,hl,hp,ha,h=>by
  have ho:ops[gs.length]?=some o:=by
   rw[←Array.getElem?_toList,wZ,hl];simp
  have EJ:ops.toList=(pre++[o])++os:=by simp[wZ]
  simp only[lX]at h;obtain⟨hd,h⟩:=h;split at h
  ·rename_i hg
   obtain⟨fr,gv,Δ,i_,h1,h2,h3⟩:=w_ (nt:=nt) hp.lt hd h;refine jr os (gs++[⟨fr,_,o.dst,gv,Δ⟩]) _ _ (pre++[o]) EJ (by simp[hl]) (hp.push (Rq ho hg h1) h2.fr (qR _ _) (hp.ag.step h2 _ _ _) (mY hp.lt h2 _ _)) (fun vT=>?_) h3
   rw[vT,if_pos rfl,ha vT,List.map_append];congr 1
   simp only[List.map_cons,List.map_nil,zL,pt,eY,ir,ql,List.nil_append];rfl
  ·rename_i j want hg
   obtain⟨d,hj,aj,⟨hu,h⟩|⟨b,hb,hr,hsk⟩⟩:=h
   ·have Z2:lk d s.env= .p []:=by
     unfold GV.undef? at hu;split at hu
     ·assumption
     ·cases hu
    have zO:uM s [] [] s.nx:= .nil hp.lt fun x hx=>(by cases hx)
    refine jr os (gs++[⟨[],[(d,.p [])],o.dst,.p [],[]⟩]) _ _ (pre++[o]) EJ (by simp[hl]) (hp.push (Jn ho hd hg hj aj) (fun x hx=>by cases hx) (fun x hx=>?_) (hp.ag.step zO _ _ _) (mY hp.lt zO _ _)) (fun vT=>?_) h
    ·simp only[List.mem_cons,List.not_mem_nil,or_false]at hx
     subst hx;exact Z2
    ·rw[vT,if_pos rfl,ha vT,List.map_append]
     congr 1
     simp only[List.map_cons,List.map_nil,zL,pt,eY,List.append_nil];rfl
   by_cases hbw:b=want
   ·subst hbw
    obtain⟨fr,gv,Δ,i_,h1,h2,h3⟩:=w_ (s:=s.pH d b) (nt:=nt) hp.lt hd (hr rfl);have bk:tb P E nt ops σ gs (s.pH d b):=⟨hp.step,hp.fr,hp.ins,hp.ag.pH hb,hp.lt⟩
    refine jr os (gs++[⟨fr,(d,gB b)::_,o.dst,gv,Δ⟩]) _ _ (pre++[o]) EJ (by simp[hl]) (bk.push (Jl ho hg hj aj h1) h2.fr (fun x hx=>?_) (bk.ag.step h2 _ _ _) (mY bk.lt h2 _ _)) (fun vT=>?_) h3
    ·rcases List.mem_cons.1 hx with rfl|hx
     ·simp[ae.pH,uN]
     ·exact qR _ _ x hx
    ·rw[vT,if_pos rfl,ha vT,List.map_append]
     congr 1
     simp only[List.map_cons,List.map_nil,zL,pt,eY,ir,ql,List.cons_append,List.nil_append];rfl
   ·have abx:b= !want:=by cases b<;>cases want<;>simp_all
    subst abx;have bk:tb P E nt ops σ gs (s.pH d (!want)):=⟨hp.step,hp.fr,hp.ins,hp.ag.pH hb,hp.lt⟩
    have zO:uM (s.pH d (!want)) [] [] s.nx:=uM.nil (s:=s.pH d (!want)) hp.lt fun x hx=>(by cases hx)
    refine jr os (gs++[⟨[],[(d,gB (!want))],o.dst,.p [],[]⟩]) _ _ (pre++[o]) EJ (by simp[hl]) (bk.push (Jm ho hd hg hj aj) (fun x hx=>by cases hx) (fun x hx=>?_) (bk.ag.step zO _ _ _) (mY bk.lt zO _ _)) (fun vT=>?_) (hsk rfl)
    ·simp only[List.mem_cons,List.not_mem_nil,or_false]at hx
     subst hx;simp[ae.pH,uN]
    ·rw[vT,if_pos rfl,ha vT,List.map_append]
     congr 1
     simp only[List.map_cons,List.map_nil,zL,pt,eY,List.append_nil];rfl
theorem TW.region {m id:Nat}{draw:Bool}{Q:Exit→ae→Prop}{s:ae}(rU:P.follows .mixedOrders=true)(h:Rp P E nt ops draw s fun s'=>Q .normal s'):TW P E nt m (.region id ops draw) Q s:=by
 intro C a w hn hm hR Q' hQ hE;obtain⟨aj,h⟩:=h;obtain⟨gs,s',acc,hp,hlen,zv,vT,hK⟩:=jr (σ:=(iR s,s.get)) ops.toList [] s [] [] rfl rfl ⟨fun i g h=>by simp at h,fun i g h=>by simp at h,fun i g h=>by simp at h,⟨fun t=>rfl,fun b=>rfl⟩,zM aj⟩ (fun _=>rfl) h
 have gp:Region.Ok P E nt ops gs (iR s,s.get):=⟨hlen,hp.step,hp.fr,hp.ins⟩
 have yL:∀a w,R C (can gs (iR s,s.get) gs.length).1 (can gs (iR s,s.get) gs.length).2 a w→Q' .normal a w:=by
  intro a w oH;refine hQ _ s' a w hK ?_;have e1:iR s'=(can gs (iR s,s.get) gs.length).1:=funext hp.ag.1
  have e2:s'.get=(can gs (iR s,s.get) gs.length).2:=funext hp.ag.2
  rw[e1,e2];exact oH
 cases draw with
 |false=>
  refine wp_region ?_;rw[List.range_eq_range'];exact EB gp hn hE yL ops.size 0 (by rw[Nat.zero_add];exact hlen.symm) a w hR
 |true=>
  refine wp_region_draw fun t=>?_;have hd:=vT rfl;simp only[Bool.and_eq_true]at hd;obtain⟨sJ,yS⟩:=hd;rw[zv rfl,Jj]at yS;have mK:wI ops ops.size (Array.replicate ops.size false) (Region.schedule (P.follows .mixedOrders) ops t):=by
   unfold Region.schedule;rw[rU];exact tV ops _ _ _
  refine I6 gp sJ yS hn hE yL ops.size _ _ mK (by simp) ?_ (fun j es hj hx=>?_) a _ ?_
  ·unfold left
   exact Nat.le_trans (List.countP_le_length) (by simp)
  ·simp only[Array.getD_eq_getD_getElem?,Array.getElem?_replicate]at hx
   split at hx<;>simp at hx
  ·rw[Re (fun i hi=>by
    simp only[Array.getD_eq_getD_getElem?,Array.getElem?_replicate];split<;>rfl) _ (Nat.le_refl _)]
   obtain⟨ρ,D,hR⟩:=hR;exact⟨ρ,D,hR.heap rfl rfl rfl rfl⟩
end
end Go.Proofs.YtlhohdjniaebbaaGreat.T
