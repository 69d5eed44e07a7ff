/-
What is proved: a region's operations walked over trees, one after the other and what rests on it. Conditions: as stated.
-/
import Derived.Test.YtabjbdnokpjipaaGreatRw32
set_option linter.unusedVariables false
set_option linter.unusedSimpArgs false
namespace Go.Proofs.YtabjbdnokpjipaaGreat.T
open Go Go.RowKit
def TV.flat:TV→Bool
 | .r (.v _)=>true
 |_=>false
mutual
def GV.flat:GV→Bool
 | .s t=>t.flat
 | .a ts=>ts.all TV.flat
 | .p gs=>C6 gs
 | .fD _ g=>g.flat
 |_=>false
def C6:List GV→Bool
 |[]=>true
 |g::gs=>g.flat&&C6 gs
end
theorem cG.flat {ρ ρ':Nat→Option Value}{w w':World}{D D':Nat→Prop}{v:Value}{t:TV}(h:cG ρ w D v t)(hf:t.flat=true):cG ρ' w' D' v t:=by
 unfold TV.flat at hf;split at hf
 ·cases h with|r h=>cases h with|v h=>exact .r (.v h)
 ·cases hf
theorem C7 {g:GV}:∀{gs:List GV},C6 gs=true→g∈gs→g.flat=true
 |x::gs,h,hm=>by
  simp only[C6,Bool.and_eq_true]at h;rcases List.mem_cons.1 hm with rfl|hm
  ·exact h.1
  ·exact C7 h.2 hm
theorem bA.flat {ρ ρ':Nat→Option Value}{w w':World}{D D':Nat→Prop}{v:Value}{g:GV}(h:bA ρ w D v g):g.flat=true→bA ρ' w' D' v g:=by
 induction h with
 |s h=>exact fun hf=> .s (h.flat hf)
 |a hn h=>exact fun hf=> .a hn fun i t ht=>(h i t ht).flat (by simp only[GV.flat,List.all_eq_true]at hf;exact hf t (List.mem_of_getElem? ht))
 |p hn _ ih=>exact fun hf=> .p hn fun i g hg=>ih i g hg (C7 hf (List.mem_of_getElem? hg))
 |gK=>exact fun hf=>by simp[GV.flat]at hf
 |fD _ ih=>exact fun hf=> .fD (ih hf)
 |u=>exact fun hf=>by simp[GV.flat]at hf
theorem TV.mT (get:Nat→Option az)(t:TV):t.cX get []=t:=by
 unfold TV.cX;split<;>simp
mutual
theorem GV.mT (get:Nat→Option az):∀(g:GV),g.cX get []=g
 | .s t=>by simp only[GV.cX,TV.mT]
 | .a ts=>by simp only[GV.cX];congr 1;exact(List.map_congr_left fun t _=>TV.mT get t).trans (List.map_id ts)
 | .p gs=>by simp only[GV.cX,qz get gs]
 | .gK _ _ _=>by simp only[GV.cX]
 | .fD _ g=>by simp only[GV.cX,GV.mT get g]
 | .u=>by simp only[GV.cX]
theorem qz (get:Nat→Option az):∀(gs:List GV),il get [] gs=gs
 |[]=>by simp only[il]
 |g::gs=>by simp only[il,GV.mT get g,qz get gs]
end
theorem TV.js (f:Nat→Nat)(t:TV)(h:t.names=[]):t.bI f=t:=by
 cases t<;>first|rfl|(simp[TV.names]at h)
mutual
theorem GV.js (f:Nat→Nat):∀(g:GV),g.names=[]→g.bI f=g
 | .s t,h=>by simp only[GV.bI,TV.js f t h]
 | .a ts,h=>by
   simp only[GV.bI];congr 1;refine(List.map_congr_left fun t ht=>TV.js f t ?_).trans (List.map_id ts)
   simp only[GV.names,List.flatMap_eq_nil_iff]at h;exact h t ht
 | .p gs,h=>by simp only[GV.bI,qA f gs h]
 | .gK _ fs cs,h=>by
   simp only[GV.names,List.append_eq_nil_iff]at h;simp only[GV.bI,qA f fs h.1,qA f cs h.2]
 | .fD _ g,h=>by simp only[GV.bI,GV.js f g h]
 | .u,_=>by simp only[GV.bI]
theorem qA (f:Nat→Nat):∀(gs:List GV),dY gs=[]→ik f gs=gs
 |[],_=>by simp only[ik]
 |g::gs,h=>by
  simp only[dY,List.append_eq_nil_iff]at h;simp only[ik,GV.js f g h.1,qA f gs h.2]
end
theorem TV.uT (t:TV):t.bI id=t:=by cases t<;>rfl
mutual
theorem GV.uT:∀(g:GV),g.bI id=g
 | .s t=>by simp only[GV.bI,TV.uT]
 | .a ts=>by simp only[GV.bI];congr 1;exact(List.map_congr_left fun t _=>TV.uT t).trans (List.map_id ts)
 | .p gs=>by simp only[GV.bI,yj gs]
 | .gK _ fs cs=>by simp only[GV.bI,yj fs,yj cs]
 | .fD _ g=>by simp only[GV.bI,GV.uT g]
 | .u=>by simp only[GV.bI]
theorem yj:∀(gs:List GV),ik id gs=gs
 |[]=>by simp only[ik]
 |g::gs=>by simp only[ik,GV.uT g,yj gs]
end
section
variable {P:Program}{E:List PanicEntry→World→Prop}{nt:Nat}{o:Oper}{s:ah}
theorem YW {c:Call}(ho:o.op= .call c)(hd:bO o nt=true){f:FuncId}{rG:List GV}{cW:List (Nat×Option az)}(hf:s.qy P c.callee c.args.toList=some (f,rG,cW)){peek:List Nat}{args':List GV}{r:GV}
  (hT:TC P E f args' 0 [] r []) (ha:il s.get peek rG=args') (iH:∀b∈peek,rowOf (s.get b)=true) (hr:r.flat=true):
  fE P E nt o (cW++peek.map fun b=>(b,s.get b)) (bN s.env o.op.operands.toList) r []:=by
 refine .call hd fun C env get a w ρ D yh hi hR=>?_;have fO:∀x∈peek.map (fun b=>(b,s.get b)),get x.1=x.2:=fun x hx=>yh x (List.mem_append_right _ hx)
 obtain⟨vM,hT⟩:=hT;obtain⟨bR,e1,kq,lZ⟩:=Nb ho hf vM hR (fun x hx=>yh x (List.mem_append_left _ hx)) hi
 refine⟨f,bR,e1,?_⟩;have C1:∀b∈peek,get b=s.get b:=fun b hb=>fO (b,s.get b) (List.mem_map.2 ⟨b,hb,rfl⟩)
 obtain⟨D1,hR1,IA,YO⟩:=hR.consume peek fun b hb=>by
  have:=iH b hb
  rw[C1 b hb];unfold rowOf at this;split at this
  ·rename_i h;exact⟨_,h,rfl⟩
  ·cases this
 refine(hT w _ ρ D1 (by rw[kq,←ha,jG]) (fun i g hg=>?_) (fun k hk=>(hR1.ro k hk).1) (fun b y h=>by cases h) (fun b y g h=>by cases h) (fun b y b' y' g h=>by cases h)).mono ?_
 ·rw[←ha,qx,Option.map_eq_some_iff]at hg
  obtain⟨g',bu,rfl⟩:=hg;rw[←GV.ku C1];exact(lZ i g' bu).cX hR IA YO
 rintro e w' (h|⟨v,C2,D2,rfl,hv,hP⟩)
 ·exact .inl h
 right
 have hm:∀k,¬Mf [] ρ k:=fun k ⟨b,y,h,_⟩=>by cases h
 have hold:∀k,k<w.heap.size→w'.heap[k]?=w.heap[k]?:=fun k hk=>hP.old k hk (hm k)
 have hK:cD D w w':=fun k hd=>hold k (hR.ro k hd).1
 have h1:=hR.size;have h2:=hP.size;refine⟨v,ρ,D,rfl,⟨hP.os.trans hR.os,hP.tape.trans hR.tape,hP.output.trans hR.output,by omega,fun k hk hM=>(hold k (by omega)).trans (hR.old k hk hM),fun k hk=>⟨Nat.lt_of_lt_of_le (hR.ro k hk).1 h2,(hR.ro k hk).2⟩,hR.free,fun b y hy=>?_,hR.own,hR.sep,fun t=>(hR.env t).keep (fun _ _ h=>h) hK fun _ h=>h,hR.defers,hR.nt,hR.ext⟩,hv.flat hr⟩
 refine(hR.blk b y hy).keep (fun _ _ h=>h) hK (fun _ h=>h) ?_
 by_cases hl:y.live=true
 ·exact .inr fun g hg=>hold g (hR.jr hy hl hg)
 ·left
  cases y<;>simp[az.live]at hl
  rfl
abbrev KT:=List (Nat×Option az)→GV→List (Nat×az)→Nat→Prop
def uU (P:Program)(E:List PanicEntry→World→Prop)(s:ah)(callee:Callee)(args:List Operand)(K:KT):Prop:=
 ∃f gs cW,s.qy P callee args=some (f,gs,cW)∧(∀x∈cW,s.get x.1=x.2)∧
  ((dY gs=[]∧∃r,TC P E f gs 0 [] r []∧r.names=[]∧K cW r [] s.nx)∨
   (∃peek args' r,TC P E f args' 0 [] r []∧il s.get peek gs=args'∧(∀b∈peek,rowOf (s.get b)=true)∧r.flat=true∧K (cW++peek.map fun b=>(b,s.get b)) r [] s.nx)∨
   ∃frag peek args' sto0 sto' cnt r,TC P E f args' frag.length sto0 r sto'∧Iz s gs frag peek args' sto0 sto' cnt∧(∀b∈r.names,b<frag.length+cnt)∧(∀x∈sto',∀b∈x.2.names,b<frag.length+cnt)∧
    K (cW++gr s frag peek cnt) (r.bI (φ frag s.nx)) (jL s frag peek sto' cnt) (s.nx+cnt))
def uV (P:Program)(E:List PanicEntry→World→Prop)(s:ah):Callee→List Operand→List TypeId→KT→Prop
 | .builtin .len,[x],[t],K=>∃d,aM P t=some d∧∃e,d.k= .slice e∧∃k xs fr,s.view (s.ev x)=some (k,xs,fr)∧K fr (gI .i64 xs.length) [] s.nx
 | .builtin .max,[x,y],_,K=>∃k m,(s.ev x).i?=some (k,m)∧∃k' n,(s.ev y).i?=some (k',n)∧K [] (gI k (if n>m then n else m)) [] s.nx
 | .builtin .min,[x,y],_,K=>∃k m,(s.ev x).i?=some (k,m)∧∃k' n,(s.ev y).i?=some (k',n)∧K [] (gI k (if n<m then n else m)) [] s.nx
 | .builtin .append,[bx,yx],[t,t'],K=>t=t'∧∃d,aM P t=some d∧∃e,d.k= .slice e∧∃de,aM P e=some de∧0<de.size∧∃xs ob,s.uR e de.size (s.ev bx)=some (xs,ob)∧∃k ys fr,s.view (s.ev yx)=some (k,ys,fr)∧(k=de.size∨ys=[])∧
   (xs.length+ys.length)*de.bytes≤140737488355328∧xs.length+ys.length≤maxLen∧K ((s.nx,none)::(FV s ob++fr)) (.s (.own s.nx)) ((s.nx,.rows e de.size (xs++ys))::yd ob) (s.nx+1)
 | .value fx,args,_,K=>uU P E s (.value fx) args K
 | .invoke x n,args,_,K=>uU P E s (.invoke x n) args K
 |_,_,_,_=>False
def vN (P:Program)(E:List PanicEntry→World→Prop)(s:ah)(op:Op)(K:KT):Prop:=
 match op with
 | .move x=>K [] (s.ev x) [] s.nx
 | .assign x=>K [] (s.ev x) [] s.nx
 | .pick c x y=>∃t,(s.ev c).b?=some t∧(t=true→K [] (s.ev x) [] s.nx)∧(t=false→K [] (s.ev y) [] s.nx)
 | .alloc t=>∃d,aM P t=some d∧K [(s.nx,none)] (.s (.ptr s.nx 0)) [(s.nx,.box (d.zero.map fun x=> .r (jY x)))] (s.nx+1)
 | .box _ x=>∃cs,(s.ev x).cells?=some cs∧K [(s.nx,none)] (.s (.ptr s.nx 0)) [(s.nx,.box cs)] (s.nx+1)
 | .build t ps=>∃d,aM P t=some d∧d.k.agg=true∧(d.k.FT.all fun t=>(aM P t).isSome)=true∧∃cs,rv (placeOf (aM P) d.k) (d.zero.map fun x=> .r (jY x)) (oF s ps.toList)=some cs∧K [] (.a cs) [] s.nx
 | .buildSlice t n ps=>∃d,aM P t=some d∧∃e,d.k= .slice e∧∃de,aM P e=some de∧0<de.size∧ps.toList.length=n∧n*de.size≤16777216∧∃xs bs,rC s de.size 0 ps.toList=some (xs,bs)∧
   K ((s.nx,none)::bs.map fun c=>(c,s.get c)) (.s (.own s.nx)) ((s.nx,.rows e de.size xs)::bs.map fun c=>(c,.dead)) (s.nx+1)
 | .load t x=>∃d,aM P t=some d∧∃fr cs,s.deref (s.ev x)=some (fr,cs)∧d.size≤cs.length∧K fr (mk d.k.agg (cs.take d.size)) [] s.nx
 | .store t ax vx=>∃d,aM P t=some d∧∃ys,(s.ev vx).cells?=some ys∧ys.length=d.size∧match s.ev ax with
   | .s (.ptr b off)=>∃cs,s.get b=some (.box cs)∧off+ys.length≤cs.length∧K [(b,some (.box cs))] .u [(b,.box (dC cs off ys))] s.nx
   | .s (.row b k i off)=>∃e xs,s.get b=some (.rows e k xs)∧∃y,xs[i]?=some y∧off+ys.length≤y.length∧∃rs bs,s.pU ys=some (rs,bs)∧b∉bs∧
     K ((b,some (.rows e k xs))::bs.map fun c=>(c,s.get c)) .u ((b,.rows e k (xs.set i (dC y off rs)))::bs.map fun c=>(c,.dead)) s.nx
   |_=>False
 | .fieldAddr t x f=>∃k d',rq (aM P) t f=some (k,d')∧d'.size≠0∧∃g,pw k (s.ev x)=some g∧K [] g [] s.nx
 | .field t x f=>∃k d',rq (aM P) t f=some (k,d')∧∃ts,(s.ev x).agg?=some ts∧k+d'.size≤ts.length∧K [] (mk d'.k.agg ((ts.drop k).take d'.size)) [] s.nx
 | .indexAddr t x ix=>∃k n,(s.ev ix).i?=some (k,n)∧0≤n∧s.elem (aM P) t n.toNat (s.ev x) fun fr g=>K fr g [] s.nx
 | .index t x ix=>∃d,aM P t=some d∧∃m e,d.k= .array m e∧∃de,aM P e=some de∧∃k n,(s.ev ix).i?=some (k,n)∧0≤n∧n<m∧∃ts,(s.ev x).agg?=some ts∧n.toNat*de.size+de.size≤ts.length∧
   K [] (mk de.k.agg ((ts.drop (n.toNat*de.size)).take de.size)) [] s.nx
 | .binOp op t x y _=>∃g,C5 P t op (s.ev x) (s.ev y)=some g∧K [] g [] s.nx
 | .convert src dst x=>∃k1,sS P src=some k1∧∃k,sS P dst=some k∧∃k0 n,(s.ev x).i?=some (k0,n)∧K [] (gI k (k.wrap n)) [] s.nx
 | .nilCheck x=>Nj (s.ev x)=true∧K [] (s.ev x) [] s.nx
 | .unOp .not _ x=>∃b,(s.ev x).b?=some b∧K [] (gB (!b)) [] s.nx
 | .unOp .neg _ x=>∃k n,(s.ev x).i?=some (k,n)∧K [] (gI k (k.wrap (0-n))) [] s.nx
 | .extract x i=>∃gs,(s.ev x).tup?=some gs∧∃g,gs[i]?=some g∧K [] g [] s.nx
 | .makeFunc fn f c=>K [] (.gK fn (f.toList.map s.ev) (c.toList.map s.ev)) [] s.nx
 | .makeInterface t x=>pX P t=true∧K [] (.fD t (s.ev x)) [] s.nx
 | .typeAssert x _ t ok=>pX P t=true∧∃t' g,(s.ev x).ifc?=some (t',g)∧((t'=t∧K [] (if ok=true then .p [g,gB true]else g) [] s.nx)∨(t'≠t∧ok=true∧RV P t=true∧∃d,aM P t=some d∧K [] (.p [mk d.k.agg (d.zero.map fun x=> .r (jY x)),gB false]) [] s.nx))
 | .makeSlice t lx cx=>∃d,aM P t=some d∧∃e,d.k= .slice e∧∃de,aM P e=some de∧0<de.size∧∃k n,(s.ev lx).i?=some (k,n)∧∃k' m,(s.ev cx).i?=some (k',m)∧0≤n∧n≤m∧(de.bytes:Int)*m≤281474976710656∧m≤9223372036854775807∧
   K [(s.nx,none)] (.s (.own s.nx)) [(s.nx,.rows e de.size (List.replicate n.toNat (de.zero.map jY)))] (s.nx+1)
 | .slice t x lo hi none=>(lo=none∧∃d,aM P t=some d∧∃e,d.k= .slice e∧∃de,aM P e=some de∧∃b e' k xs,s.ev x= .s (.own b)∧s.get b=some (.rows e' k xs)∧∃h,Bh s xs.length hi=some h∧h≤xs.length∧K [(s.nx,none),(b,some (.rows e' k xs))] (.s (.own s.nx)) [(s.nx,.rows e' k (xs.take h)),(b,.dead)] (s.nx+1))∨∃d,aM P t=some d∧∃e,d.k= .slice e∧∃de,aM P e=some de∧∃k xs fr,s.view (s.ev x)=some (k,xs,fr)∧(k=de.size∨xs=[])∧∃l,Bh s 0 lo=some l∧∃h,Bh s xs.length hi=some h∧l≤h∧h≤xs.length∧
   K fr (.s (.r (.sl de.size ((xs.take h).drop l)))) ((kH (s.ev x)).map fun b=>(b,.dead)) s.nx
 | .call c=>uV P E s c.callee c.args.toList c.argTypes.toList K
 |_=>False
theorem FZ {nx b:Nat}{y:az}{Δ:List (Nat×az)}(h1:nx≤b)(h2:b<nx+1):gt b ((nx,y)::Δ)≠none:=by
 obtain rfl:b=nx:=by omega
 simp[gt]
theorem aaX (s:ah)(h:∀x∈s.bp,x.1<s.nx):s.get s.nx=none:=by
 unfold ah.get;split
 ·rename_i y hy
  have:=h _ (gq hy)
  simp at this
 ·simp
theorem RZ (s:ah)(h:∀x∈s.bp,x.1<s.nx){b:Nat}(hb:s.nx≤b):s.get b=none:=by
 unfold ah.get;split
 ·rename_i y hy
  have:=h _ (gq hy)
  simp at this;omega
 ·rw[if_neg (by omega)]
structure yk (s:ah) (fr:List (Nat×Option az)) (Δ:List (Nat×az)) (kQ:Nat):Prop where
 fr:∀x∈fr,s.get x.1=x.2
 le:s.nx≤kQ
 new:∀b,s.nx≤b→b<kQ→gt b Δ≠none
 lt:∀x∈Δ,x.1<kQ
theorem pF {s:ah}(hs:∀x∈s.bp,x.1<s.nx){b:Nat}{y:az}(h:s.get b=some y):b<s.nx:=by
 rcases Nat.lt_or_ge b s.nx with h1|h1
 ·exact h1
 ·rw[RZ s hs h1]at h;cases h
theorem Vg {g:GV}{fr:List (Nat×Option az)}{cs:List TV}(hc:s.deref g=some (fr,cs)):∀x∈fr,s.get x.1=x.2:=by
 unfold ah.deref at hc;split at hc
 ·split at hc
  ·rename_i hg;cases hc;intro x hx;simp at hx;subst hx;exact hg
  ·cases hc
 ·split at hc
  ·rename_i hg
   split at hc
   ·split at hc
    ·cases hc;intro x hx;simp at hx;subst hx;exact hg
    ·cases hc
   ·cases hc
  ·cases hc
 ·cases hc;intro x hx;cases hx
 ·cases hc
theorem C8 {g:GV}{k:Nat}{xs:List (List RT)}{fr:List (Nat×Option az)}(h:s.view g=some (k,xs,fr)):∀x∈fr,s.get x.1=x.2:=by
 unfold ah.view at h;split at h
 ·cases h;intro x hx;cases hx
 ·cases h;intro x hx;cases hx
 ·split at h
  ·rename_i hg;cases h;intro x hx;simp at hx;subst hx;exact hg
  ·cases h
 ·cases h
theorem yk.nil (hs:∀x∈s.bp,x.1<s.nx){fr:List (Nat×Option az)}(h:∀x∈fr,s.get x.1=x.2):yk s fr [] s.nx:=⟨h,Nat.le_refl _,fun b h1 h2=>by omega,fun x hx=>by cases hx⟩
theorem vO {c:Call}(hs:∀x∈s.bp,x.1<s.nx)(hd:bO o nt=true)(ho:o.op= .call c){K:KT}(h:uU P E s c.callee c.args.toList K):∃fr gv Δ kQ,fE P E nt o fr (bN s.env o.op.operands.toList) gv Δ∧yk s fr Δ kQ∧K fr gv Δ kQ:=by
 obtain⟨f,gs,cW,hf,yh,h2⟩:=h;rcases h2 with⟨h0,r,h2,h3,h4⟩|⟨peek,args',r,h2,h3,h4,h5,h6⟩|⟨frag,peek,args',sto0,sto',cnt,r,h2,h3,h4,h5,h6⟩
 ·have:=Nc (E:=E) (nt:=nt) (frag:=[]) (peek:=[]) (sto0:=[]) (sto':=[]) (cnt:=0) ho hd hf h2 ⟨by rw[qz,qA _ _ h0],List.nodup_nil,(fun b hb=>by cases hb),(fun b hb=>by cases hb),(fun b hb=>by cases hb),(fun b hb=>by cases hb),(fun b hb=>by cases hb),fun b hb=>by cases hb⟩ (fun b hb=>by rw[h3]at hb;cases hb) fun x hx=>by cases hx
  rw[GV.js _ _ h3]at this;simp only[gr,List.map_nil,List.range_zero,List.append_nil]at this;exact⟨_,_,_,_,this,.nil hs yh,h4⟩
 ·refine⟨_,_,_,_,YW ho hd hf h2 h3 h4 h5,.nil hs (fun x hx=>?_),h6⟩
  rcases List.mem_append.1 hx with hx|hx
  ·exact yh x hx
  ·obtain⟨c,_,rfl⟩:=List.mem_map.1 hx;rfl
 ·refine⟨_,_,_,_,Nc ho hd hf h2 h3 h4 h5,⟨fun x hx=>?_,by omega,fun b h1 h2=>?_,fun x hx=>?_⟩,h6⟩
  ·rcases List.mem_append.1 hx with hx|hx
   ·exact yh x hx
   ·simp only[gr,List.mem_append,List.mem_map,List.mem_range]at hx
    rcases hx with(⟨c,_,rfl⟩|⟨c,_,rfl⟩)|⟨j,hj,rfl⟩
    ·rfl
    ·rfl
    ·exact RZ s hs (by omega)
  ·simp only[jL,oE]
   split
   ·simp
   ·rename_i IB
    split at IB
    ·cases IB
    ·rw[lY (x:=b-s.nx) _ (List.mem_range.2 (by omega)) (by simp only;omega) (fun j hj e=>by simp only at e;rw[show j=b-s.nx by omega])]at IB
     cases IB
  ·simp only[jL,List.mem_append,List.mem_map,List.mem_range]at hx
   rcases hx with(⟨i,hi,rfl⟩|⟨j,hj,rfl⟩)|⟨c,hc,rfl⟩
   ·simp only
    have:=h3.RY (frag.getD i 0) (by simp only[List.getD_eq_getElem?_getD,List.getElem?_eq_getElem hi,Option.getD_some];exact List.getElem_mem hi)
    omega
   ·simp only;omega
   ·have:=h3.rows c hc
    unfold rowOf at this;split at this
    ·rename_i hg;have:=pF hs hg;simp only;omega
    ·cases this
theorem Av (hs:∀x∈s.bp,x.1<s.nx)(hd:bO o nt=true){K:KT}(h:vN P E s o.op K):∃fr gv Δ kQ,fE P E nt o fr (bN s.env o.op.operands.toList) gv Δ∧yk s fr Δ kQ∧K fr gv Δ kQ:=by
 have ic:∀x∈([]:List (Nat×Option az)),s.get x.1=x.2:=fun x hx=>by cases hx
 have pC:s.get s.nx=none:=aaX s hs
 unfold vN at h;split at h
 ·rename_i x ho
  exact⟨_,_,_,_,by rw[ho];exact MQ (.inl ho) hd,.nil hs ic,h⟩
 ·rename_i x ho
  exact⟨_,_,_,_,by rw[ho];exact MQ (.inr ho) hd,.nil hs ic,h⟩
 ·rename_i c x y ho
  obtain⟨t,h1,h2,h3⟩:=h;refine⟨_,_,_,_,by rw[ho];exact Yw ho hd h1,.nil hs ic,?_⟩
  cases t
  ·exact h3 rfl
  ·exact h2 rfl
 ·rename_i t ho
  obtain⟨d,h1,h2⟩:=h;exact⟨_,_,_,_,by rw[ho];exact U6 ho hd h1,⟨fun x hx=>by simp at hx;subst hx;exact pC,by omega,fun b h1 h2=>FZ h1 h2,fun x hx=>by simp at hx;subst hx;simp⟩,h2⟩
 ·rename_i t x ho
  obtain⟨cs,h1,h2⟩:=h;exact⟨_,_,_,_,by rw[ho];exact aaR ho hd h1,⟨fun x hx=>by simp at hx;subst hx;exact pC,by omega,fun b h1 h2=>FZ h1 h2,fun x hx=>by simp at hx;subst hx;simp⟩,h2⟩
 ·rename_i t ps ho
  obtain⟨d,h1,h2,h3,cs,h4,h5⟩:=h;exact⟨_,_,_,_,by rw[ho];exact U7 ho hd h1 h3 h4 h2,.nil hs ic,h5⟩
 ·rename_i t n ps ho
  obtain⟨d,h1,e,h2,de,h3,h4,h5,h6,xs,bs,h7,h8⟩:=h;have hl:=pB h7;refine⟨_,_,_,_,by rw[ho];exact CV (b:=s.nx) ho hd h1 h2 h3 h4 h5 h6 h7,⟨fun x hx=>?_,by omega,fun b h1 h2=>FZ h1 h2,fun x hx=>?_⟩,h8⟩
  ·rcases List.mem_cons.1 hx with rfl|hx
   ·exact pC
   ·obtain⟨c,_,rfl⟩:=List.mem_map.1 hx;rfl
  ·rcases List.mem_cons.1 hx with rfl|hx
   ·simp
   ·obtain⟨c,hc,rfl⟩:=List.mem_map.1 hx
    obtain⟨e,k,xs,hc⟩:=hl c hc;have:=pF hs hc
    simp only;omega
 ·rename_i t x ho
  obtain⟨d,h1,fr,cs,h2,h3,h4⟩:=h;exact⟨_,_,_,_,by rw[ho];exact Yx ho hd h1 h2 h3 (c9 h1).2.2.2,.nil hs (Vg h2),h4⟩
 ·rename_i t ax vx ho
  obtain⟨d,h1,ys,h2,h3,h4⟩:=h;split at h4
  ·rename_i b off ha
   obtain⟨cs,h5,h6,h7⟩:=h4;exact⟨_,_,_,_,by rw[ho];exact Ip ho hd h1 ha h5 h2 h3 h6,⟨fun x hx=>by simp at hx;subst hx;exact h5,Nat.le_refl _,fun b h1 h2=>by omega,fun x hx=>by simp at hx;subst hx;exact pF hs h5⟩,h7⟩
  ·rename_i b k i off ha
   obtain⟨e,xs,h5,y,h6,h7,rs,bs,h8,h9,vq⟩:=h4;have hl:=py h8;refine⟨_,_,_,_,by rw[ho];exact Iq ho hd h1 ha h5 h2 h6 h3 h7 h8 h9,⟨fun x hx=>?_,Nat.le_refl _,fun b h1 h2=>by omega,fun x hx=>?_⟩,vq⟩
   ·rcases List.mem_cons.1 hx with rfl|hx
    ·exact h5
    ·obtain⟨c,_,rfl⟩:=List.mem_map.1 hx;rfl
   ·rcases List.mem_cons.1 hx with rfl|hx
    ·exact pF hs h5
    ·obtain⟨c,hc,rfl⟩:=List.mem_map.1 hx
     obtain⟨e,k,xs,hc⟩:=hl c hc;exact pF hs hc
  ·exact h4.elim
 ·rename_i t x f ho
  obtain⟨k,d',h1,h2,g,h3,h4⟩:=h;exact⟨_,_,_,_,by rw[ho];exact EN ho hd h1 h2 h3,.nil hs ic,h4⟩
 ·rename_i t x f ho
  obtain⟨k,d',h1,ts,h2,h3,h4⟩:=h;have rr:d'.k.agg=true∨d'.size=1:=by
   obtain⟨_,_,_,_,_,h5⟩:=ub h1;exact(c9 h5).2.2.2
  exact⟨_,_,_,_,by rw[ho];exact U4 ho hd h1 h2 h3 rr,.nil hs ic,h4⟩
 ·rename_i t x ix ho
  obtain⟨k,n,h1,h2,h3⟩:=h;obtain⟨fr,g,h4,h5,h6⟩:=Yy (E:=E) (nt:=nt) ho hd h1 h2 h3;exact⟨_,_,_,_,by rw[ho];exact h4,.nil hs h5,h6⟩
 ·rename_i t x ix ho
  obtain⟨d,h1,m,e,h2,de,h3,k,n,h4,h5,h6,ts,h7,h8,h9⟩:=h;exact⟨_,_,_,_,by rw[ho];exact U5 ho hd h1 h2 h3 h4 h5 h6 h7 h8 (c9 h3).2.2.2,.nil hs ic,h9⟩
 ·rename_i op t x y yt ho
  obtain⟨g,h1,h2⟩:=h;exact⟨_,_,_,_,by rw[ho];exact YV ho hd h1,.nil hs ic,h2⟩
 ·rename_i src dst x ho
  obtain⟨k1,h1,k,h2,k0,n,h3,h4⟩:=h;exact⟨_,_,_,_,by rw[ho];exact Ni ho hd h1 h2 h3,.nil hs ic,h4⟩
 ·rename_i x ho
  exact⟨_,_,_,_,by rw[ho];exact IC ho hd h.1,.nil hs ic,h.2⟩
 ·rename_i t x ho
  obtain⟨b,h1,h2⟩:=h;exact⟨_,_,_,_,by rw[ho];exact aaO ho hd h1,.nil hs ic,h2⟩
 ·rename_i t x ho
  obtain⟨k,n,h1,h2⟩:=h;exact⟨_,_,_,_,by rw[ho];exact aaP ho hd h1,.nil hs ic,h2⟩
 ·rename_i x i ho
  obtain⟨gs,h1,g,h2,h3⟩:=h;exact⟨_,_,_,_,by rw[ho];exact MR ho hd h1 h2,.nil hs ic,h3⟩
 ·rename_i fn f c ho
  exact⟨_,_,_,_,by rw[ho];exact Im ho hd,.nil hs ic,h⟩
 ·rename_i t x ho
  exact⟨_,_,_,_,by rw[ho];exact yg ho hd h.1,.nil hs ic,h.2⟩
 ·rename_i x xt t ok ho
  obtain⟨h1,t',g,h2,⟨rfl,h3⟩|⟨h3,rfl,h4,d,h5,h6⟩⟩:=h
  ·exact⟨_,_,_,_,by rw[ho];exact EX ho hd h1 h2,.nil hs ic,h3⟩
  ·exact⟨_,_,_,_,by rw[ho];exact CZ ho hd h1 h4 h5 h2 h3,.nil hs ic,h6⟩
 ·rename_i t lx cx ho
  obtain⟨d,h1,e,h2,de,h3,h4,k,n,h5,k',m,h6,h7,h8,h9,vq,Nk⟩:=h;exact⟨_,_,_,_,by rw[ho];exact EU (b:=s.nx) ho hd h1 h2 h3 h4 h5 h6 h7 h8 h9 vq,⟨fun x hx=>by simp at hx;subst hx;exact pC,by omega,fun b h1 h2=>FZ h1 h2,fun x hx=>by simp at hx;subst hx;simp⟩,Nk⟩
 ·rename_i t x lo hi ho
  rcases h with⟨rfl,d,h1,e,h2,de,h3,b,e',k,xs,h4,h5,h',h6,h7,h8⟩|⟨d,h1,e,h2,de,h3,k,xs,fr,h4,h5,l,h6,h',h7,h8,h9,vq⟩
  ·have bf:(Op.slice t x none hi none).operands.toList=x::sQ hi:=by cases hi<;>simp[Op.operands,sQ]
   refine⟨_,_,_,_,by rw[ho,bf];exact Is (b':=s.nx) ho hd h1 h2 h3 h4 h5 h6 h7,⟨fun y hy=>?_,by omega,fun b h1 h2=>FZ h1 h2,fun y hy=>?_⟩,h8⟩
   ·simp only[List.mem_cons,List.not_mem_nil,or_false]at hy
    rcases hy with rfl|rfl
    ·exact pC
    ·exact h5
   ·simp only[List.mem_cons,List.not_mem_nil,or_false]at hy
    have:=pF hs h5
    rcases hy with rfl|rfl
    ·simp
    ·simp only;omega
  have bf:(Op.slice t x lo hi none).operands.toList=x::(sQ lo++sQ hi):=by cases lo<;>cases hi<;>simp[Op.operands,sQ]
  refine⟨_,_,_,_,by rw[ho,bf];exact U_ ho hd h1 h2 h3 h4 h5 h6 h7 h8 h9,⟨C8 h4,Nat.le_refl _,fun b h1 h2=>by omega,fun y hy=>?_⟩,vq⟩
  obtain⟨c,hc,rfl⟩:=List.mem_map.1 hy;unfold kH at hc;split at hc
  ·rename_i b eb
   simp only[List.mem_cons,List.not_mem_nil,or_false]at hc;subst hc;rw[eb]at h4;simp only[ah.view]at h4;split at h4
   ·rename_i hg;exact pF hs hg
   ·cases h4
  ·cases hc
 ·rename_i c ho
  obtain⟨callee,jQ,cts⟩:=c;simp only at h
  unfold uV at h;split at h
  ·rename_i x t ea et
   obtain rfl:jQ= #[x]:=Array.toList_inj.1 ea
   obtain rfl:cts= #[t]:=Array.toList_inj.1 et
   obtain⟨d,h1,e,h2,k,xs,fr,h3,h4⟩:=h;exact⟨_,_,_,_,by rw[ho];exact aaN ho hd h1 h2 h3,.nil hs (C8 h3),h4⟩
  ·rename_i x y ea
   obtain rfl:jQ= #[x,y]:=Array.toList_inj.1 ea
   obtain⟨k,m,h1,k',n,h2,h3⟩:=h;exact⟨_,_,_,_,by rw[ho];exact aaS ho hd h1 h2,.nil hs ic,h3⟩
  ·rename_i x y ea
   obtain rfl:jQ= #[x,y]:=Array.toList_inj.1 ea
   obtain⟨k,m,h1,k',n,h2,h3⟩:=h;exact⟨_,_,_,_,by rw[ho];exact aaT ho hd h1 h2,.nil hs ic,h3⟩
  ·rename_i bx yx t t' ea et
   obtain rfl:jQ= #[bx,yx]:=Array.toList_inj.1 ea
   obtain rfl:cts= #[t,t']:=Array.toList_inj.1 et
   obtain⟨rfl,d,h1,e,h2,de,h3,h4,xs,ob,h5,k,ys,fr,h6,h7,h8,h9,vq⟩:=h;refine⟨_,_,_,_,by rw[ho];exact QC (b':=s.nx) ho hd h1 h2 h3 h4 h5 h6 h7 h8 h9,⟨fun x hx=>?_,by omega,fun b h1 h2=>FZ h1 h2,fun x hx=>?_⟩,vq⟩
   ·rcases List.mem_cons.1 hx with rfl|hx
    ·exact pC
    ·rcases List.mem_append.1 hx with hx|hx
     ·unfold FV at hx
      split at hx
      ·simp at hx;subst hx;rfl
      ·cases hx
     ·exact C8 h6 x hx
   ·rcases List.mem_cons.1 hx with rfl|hx
    ·simp
    ·unfold yd at hx
     split at hx
     ·rename_i b
      simp at hx;subst hx
      unfold ah.uR at h5;split at h5
      ·split at h5
       ·rename_i hg
        split at h5
        ·cases h5;have:=pF hs hg;simp only;omega
        ·cases h5
       ·cases h5
      ·cases h5
      ·cases h5
     ·cases hx
  ·rename_i fx
   exact vO hs hd ho h
  ·rename_i x n
   exact vO hs hd ho h
  ·exact h.elim
 ·exact h.elim
end
end Go.Proofs.YtabjbdnokpjipaaGreat.T
namespace Go.Proofs.YtabjbdnokpjipaaGreat.T
open Go Go.RowKit
open Go.Proofs.YtabjbdnokpjipaaGreat.Sr (Ad xH)
abbrev Pl:=List (Nat ⊕ Nat)×List (Nat ⊕ Nat)
def tmpsOf:List Operand→List (Nat ⊕ Nat)
 |[]=>[]
 | .tmp t::xs=> .inl t::tmpsOf xs
 |_::xs=>tmpsOf xs
def jd (o:Oper)(gd:List (Nat ⊕ Nat))(fr:List (Nat×Option az))(Δ:List (Nat×az)):Pl:=
 (gd++tmpsOf o.op.operands.toList++fr.map (fun x=> .inr x.1),(match o.dst with|some d=>[.inl d]|none=>[])++Δ.map fun x=> .inr x.1)
def acj (g h:Pl):Bool:=g.2.any (fun l=>MX l (h.1++h.2))||h.2.any fun l=>MX l (g.1++g.2)
def Nl (gs:List Pl)(ms:List Nat):Bool:=(List.range gs.length).all fun j=>(List.range j).all fun i=>match gs[i]?,gs[j]? with
 |some g,some h=> !acj g h||(ms.getD j 0).testBit i
 |_,_=>true
def C9 (g:Sg):Pl:=(sR g,gL g)
theorem Nm (gs:List Sg)(ms:List Nat):Nl (gs.map C9) ms=rE gs ms:=by
 unfold Nl rE;rw[List.length_map];congr 1
 funext j
 congr 1
 funext i
 rw[List.getElem?_map,List.getElem?_map]
 cases gs[i]?<;>cases gs[j]?<;>rfl
theorem aeU (e:List (Nat×GV)):∀(xs:List Operand),(bN e xs).map (fun x=>(Sum.inl x.1:Nat ⊕ Nat))=tmpsOf xs
 |[]=>rfl
 |x::xs=>by cases x<;>simp[bN,tmpsOf,aeU e xs]
def ah.step (s:ah)(dst:Option Nat)(g:GV)(Δ:List (Nat×az))(kQ:Nat):ah:=
 ⟨match dst with|some d=>(d,g)::s.env|none=>s.env,Δ++s.bp,kQ⟩
def Aw (d:Nat)(g:GV):List (Nat×GV)→List (Nat×GV)
 |[]=>[(d,g)]
 |(u,x)::e=>if d=u then(d,g)::e else(u,x)::Aw d g e
theorem yl (d:Nat)(g:GV)(t:Nat):∀(e:List (Nat×GV)),lk t (Aw d g e)=if t=d then g else lk t e
 |[]=>by simp[Aw,lk]
 |(u,x)::e=>by
  simp only[Aw];split
  ·rename_i h;subst h
   simp only[lk];split<;>rfl
  ·rename_i h
   simp only[lk,yl d g t e];by_cases h1:t=u
   ·subst h1;rw[if_pos rfl,if_neg (fun e=>h e.symm),if_pos rfl]
   ·rw[if_neg h1,if_neg h1]
def ah.tq (s:ah)(d:Nat)(b:Bool):ah:=⟨Aw d (gB b) s.env,s.bp,s.nx⟩
def GV.undef?:GV→Bool
 | .p []=>true
 |_=>false
def vP (ops:Array Oper)(j:Nat):Option Nat:=(ops[j]?).bind (·.dst)
def oJ (P:Program)(E:List PanicEntry→World→Prop)(nt:Nat)(ops:Array Oper)(draw:Bool):List Oper→ah→List Pl→(ah→List Pl→Prop)→Prop
 |[],s,acc,K=>K s acc
 |o::os,s,acc,K=>bO o nt=true∧match o.guard with
  |none=>vN P E s o.op fun fr gv Δ kQ=>oJ P E nt ops draw os (s.step o.dst gv Δ kQ) (if draw then acc++[jd o [] fr Δ]else[]) K
  |some (j,want)=>∃d,vP ops j=some d∧d<nt∧(((lk d s.env).undef?=true∧oJ P E nt ops draw os (s.step o.dst (.p []) [] s.nx) (if draw then acc++[([.inl d],match o.dst with|some d=>[.inl d]|none=>[])]else[]) K)∨∃b,(lk d s.env).b?=some b∧
   (b=want→vN P E (s.tq d want) o.op fun fr gv Δ kQ=>oJ P E nt ops draw os ((s.tq d want).step o.dst gv Δ kQ) (if draw then acc++[jd o [.inl d] fr Δ]else[]) K)∧
   (b= !want→oJ P E nt ops draw os ((s.tq d (!want)).step o.dst (.p []) [] s.nx) (if draw then acc++[([.inl d],match o.dst with|some d=>[.inl d]|none=>[])]else[]) K))
def uf (s:ah):Bool:=s.bp.all fun x=>decide (x.1<s.nx)
def Vh (P:Program)(E:List PanicEntry→World→Prop)(nt:Nat)(ops:Array Oper)(draw:Bool)(s:ah)(K:ah→Prop):Prop:=
 uf s=true∧oJ P E nt ops draw ops.toList s [] fun s' pl=>(draw=true→(pW (eP ops.toList)&&Nl pl (pV (eP ops.toList)))=true)∧K s'
def Ag (s:ah)(σ:St):Prop:=(∀t,lk t s.env=σ.1 t)∧∀b,s.get b=σ.2 b
theorem Ag.step {s:ah}{σ:St}(h:Ag s σ){fr:List (Nat×Option az)}{Δ:List (Nat×az)}{kQ:Nat}(hn:yk s fr Δ kQ)(ins:List (Nat×GV))(dst:Option Nat)(g:GV):Ag (s.step dst g Δ kQ) (ap ⟨fr,ins,dst,g,Δ⟩ σ):=by
 refine⟨fun t=>?_,fun b=>?_⟩
 ·simp only[ah.step,ap,put]
  cases dst with
  |none=>simpa using h.1 t
  |some d=>
   simp only[lk,Option.some.injEq];by_cases e:t=d
   ·subst e;simp
   ·rw[if_neg e,if_neg (fun e'=>e e'.symm)];exact h.1 t
 ·show(match gt b (Δ++s.bp)with|some y=>some y|none=>if b<kQ then some az.dead else none)=(match gt b Δ with|some y=>some y|none=>σ.2 b)
  rw[oE];have hb:=h.2 b
  cases hg:gt b Δ with
  |some y=>rfl
  |none=>
   simp only
   rw[←hb];unfold ah.get
   cases gt b s.bp with
   |some y=>rfl
   |none=>
    simp only
    by_cases h1:b<s.nx
    ·rw[if_pos h1,if_pos (by have:=hn.le;omega)]
    ·by_cases h2:b<kQ
     ·exact absurd hg (hn.new b (by omega) h2)
     ·rw[if_neg h1,if_neg h2]
theorem Ag.tq {s:ah}{σ:St}(h:Ag s σ){d:Nat}{b:Bool}(hb:(lk d s.env).b?=some b):Ag (s.tq d b) σ:=by
 refine⟨fun t=>?_,h.2⟩
 simp only[ah.tq,yl];by_cases e:t=d
 ·subst e
  rw[if_pos rfl,←h.1 t];unfold GV.b? at hb;split at hb
  ·rename_i e;cases hb;rw[e];rfl
  ·cases hb
 ·rw[if_neg e];exact h.1 t
theorem C_ {s:ah}(h:uf s=true):∀x∈s.bp,x.1<s.nx:=by
 intro x hx;simp only[uf,List.all_eq_true]at h;simpa using h x hx
theorem pG {s:ah}(h:∀x∈s.bp,x.1<s.nx){fr:List (Nat×Option az)}{Δ:List (Nat×az)}{kQ:Nat}(hn:yk s fr Δ kQ)(dst:Option Nat)(g:GV):∀x∈(s.step dst g Δ kQ).bp,x.1<(s.step dst g Δ kQ).nx:=by
 intro x hx;rcases List.mem_append.1 hx with hx|hx
 ·exact hn.lt x hx
 ·have:=h x hx;have:=hn.le;simp only[ah.step];omega
theorem Nn {gs bX:List Sg}{σ:St}(n:Nat):n≤gs.length→can (gs++bX) σ n=can gs σ n:=by
 induction n with
 |zero=>intro _;rfl
 |succ n ih=>
  intro h;have ih:=ih (by omega)
  have h1:(gs++bX)[n]?=gs[n]?:=List.getElem?_append_left (by omega)
  simp only[can]at ih;simp only[can,fb,h1,ih]
section
variable {P:Program}{E:List PanicEntry→World→Prop}{nt:Nat}{ops:Array Oper}
theorem Vi {i:Nat}{o:Oper}(ho:ops[i]?=some o)(hg:o.guard=none){fr:List (Nat×Option az)}{ins:List (Nat×GV)}{gv:GV}{Δ:List (Nat×az)}(h:fE P E nt o fr ins gv Δ):rD P E nt ops i ⟨fr,ins,o.dst,gv,Δ⟩:=by
 intro C env get a w rest Q hC hf hi hR hK hE;simp only[wpOps,ho];rw[if_pos (by simp[Region.wanted,hg])]
 exact .inl (h C env get a w _ Q hC hf hi hR (fun a' w' ru=>hK a' w' ru) hE)
theorem C' {C:Ctx}{env:Nat→GV}{get:Nat→Option az}{a:Act}{w:World}(hR:R C env get a w){j d:Nat}(hd:vP ops j=some d)(ak:d<C.nt){b:Bool}(he:env d=gB b):yielded ops a.tmps j=some b:=by
 obtain⟨ρ,D,hR⟩:=hR;have:=hR.env d
 rw[he]at this;have h1:=uQ this;have h2:d<a.tmps.size:=by rw[hR.nt];exact ak
 unfold yielded;unfold vP at hd;rw[hd];simp only[Option.bind_some];rw[Array.getElem?_eq_getElem h2];simp only[Array.getD_eq_getD_getElem?,Array.getElem?_eq_getElem h2,Option.getD_some]at h1;rw[h1]
theorem No {i:Nat}{o:Oper}(ho:ops[i]?=some o){j d:Nat}{want:Bool}(hg:o.guard=some (j,want))(hj:vP ops j=some d)(ak:d<nt){fr:List (Nat×Option az)}{ins:List (Nat×GV)}{gv:GV}{Δ:List (Nat×az)}(h:fE P E nt o fr ins gv Δ):
  rD P E nt ops i ⟨fr,(d,gB want)::ins,o.dst,gv,Δ⟩:=by
 intro C env get a w rest Q hC hf hi hR hK hE;have hy:=C' hR hj (by rw[hC];exact ak) (hi (d,gB want) (List.mem_cons_self ..))
 simp only[wpOps,ho];rw[if_pos (by simp[Region.wanted,hg,hy])]
 exact .inl (h C env get a w _ Q hC hf (fun x hx=>hi x (List.mem_cons_of_mem _ hx)) hR (fun a' w' ru=>hK a' w' ru) hE)
theorem Np {i:Nat}{o:Oper}(ho:ops[i]?=some o)(QM:bO o nt=true){j d:Nat}{want:Bool}(hg:o.guard=some (j,want))(hj:vP ops j=some d)(ak:d<nt):
  rD P E nt ops i ⟨[],[(d,gB (!want))],o.dst,.p [],[]⟩:=by
 intro C env get a w rest Q hC hf hi hR hK hE;have hy:=C' hR hj (by rw[hC];exact ak) (hi (d,gB (!want)) (List.mem_cons_self ..))
 simp only[wpOps,ho];rw[if_neg (by simp[Region.wanted,hg,hy])]
 refine hK _ _ ?_;obtain⟨ρ,D,hR⟩:=hR;refine⟨ρ,D,?_⟩;show Rel C (put env o.dst (.p [])) (upd get []) (a.put o.dst undef) w ρ D
 rw[MO];refine hR.put (fun d' e=>?_) (.p rfl fun i g h=>by simp at h)
 unfold bO at QM;rw[e]at QM;simpa[hC]using QM
theorem Nq {i:Nat}{o:Oper}(ho:ops[i]?=some o)(QM:bO o nt=true){j d:Nat}{want:Bool}(hg:o.guard=some (j,want))(hj:vP ops j=some d)(ak:d<nt):
  rD P E nt ops i ⟨[],[(d,.p [])],o.dst,.p [],[]⟩:=by
 intro C env get a w rest Q hC hf hi hR hK hE;obtain⟨ρ,D,hR⟩:=hR;have h1:=hR.env d;rw[hi (d,.p []) (List.mem_cons_self ..)]at h1;have hy:yielded ops a.tmps j=none:=by
  unfold yielded;unfold vP at hj;rw[hj];have h2:d<a.tmps.size:=by rw[hR.nt,hC];exact ak
  simp only[Option.bind_some,Array.getElem?_eq_getElem h2];simp only[Array.getD_eq_getD_getElem?,Array.getElem?_eq_getElem h2,Option.getD_some]at h1;generalize a.tmps[d]=v at h1
  cases h1;rfl
 simp only[wpOps,ho];rw[if_neg (by simp[Region.wanted,hg,hy])]
 refine hK _ _ ⟨ρ,D,?_⟩;show Rel C (put env o.dst (.p [])) (upd get []) (a.put o.dst undef) w ρ D
 rw[MO];refine hR.put (fun d' e=>?_) (.p rfl fun i g h=>by simp at h)
 unfold bO at QM;rw[e]at QM;simpa[hC]using QM
structure QN (P:Program) (E:List PanicEntry→World→Prop) (nt:Nat) (ops:Array Oper) (σ:St) (gs:List Sg) (s:ah):Prop where
 step:∀(i:Nat) (g:Sg),gs[i]?=some g→rD P E nt ops i g
 fr:∀(i:Nat) (g:Sg),gs[i]?=some g→∀x∈g.fr,(can gs σ i).2 x.1=x.2
 ins:∀(i:Nat) (g:Sg),gs[i]?=some g→∀x∈g.ins,(can gs σ i).1 x.1=x.2
 ag:Ag s (can gs σ gs.length)
 lt:∀x∈s.bp,x.1<s.nx
theorem QN.push {σ:St}{gs:List Sg}{s s1:ah}(h:QN P E nt ops σ gs s){g:Sg}(h1:rD P E nt ops gs.length g)(h2:∀x∈g.fr,s.get x.1=x.2)(h3:∀x∈g.ins,lk x.1 s.env=x.2)(h4:Ag s1 (ap g (can gs σ gs.length)))(h5:∀x∈s1.bp,x.1<s1.nx):QN P E nt ops σ (gs++[g]) s1:=by
 have Nr:∀i,i≤gs.length→can (gs++[g]) σ i=can gs σ i:=fun i hi=>Nn i hi
 have nh:(gs++[g])[gs.length]?=some g:=by simp
 have QO:∀(i:Nat) (g':Sg),(gs++[g])[i]?=some g'→(i<gs.length∧gs[i]?=some g')∨(i=gs.length∧g'=g):=by
  intro i g' hi;rw[List.getElem?_append]at hi;split at hi
  ·exact .inl ⟨‹_›,hi⟩
  ·have:i-gs.length=0:=by
    have:=(List.getElem?_eq_some_iff.1 hi).1
    simp at this;omega
   rw[this]at hi
   cases hi;exact .inr ⟨by omega,rfl⟩
 refine⟨fun i g' hi=>?_,fun i g' hi x hx=>?_,fun i g' hi x hx=>?_,?_,h5⟩
 ·rcases QO i g' hi with⟨_,hi⟩|⟨rfl,rfl⟩
  ·exact h.step i g' hi
  ·exact h1
 ·rcases QO i g' hi with⟨ak,hi⟩|⟨rfl,rfl⟩
  ·rw[Nr i (by omega)];exact h.fr i g' hi x hx
  ·rw[Nr _ (Nat.le_refl _),←h.ag.2];exact h2 x hx
 ·rcases QO i g' hi with⟨ak,hi⟩|⟨rfl,rfl⟩
  ·rw[Nr i (by omega)];exact h.ins i g' hi x hx
  ·rw[Nr _ (Nat.le_refl _),←h.ag.1];exact h3 x hx
 ·rw[List.length_append,List.length_singleton,zp nh,Nr _ (Nat.le_refl _)]
  exact h4
theorem uW (e:List (Nat×GV)):∀(xs:List Operand),∀x∈bN e xs,lk x.1 e=x.2
 |[],x,h=>by cases h
 |y::xs,x,h=>by
  cases y with
  |tmp t=>
   rcases List.mem_cons.1 h with rfl|h
   ·rfl
   ·exact uW e xs x h
  |_=>exact uW e xs x h
theorem ll {draw:Bool}{σ:St}{K:ah→List Pl→Prop}:∀(os:List Oper) (gs:List Sg) (s:ah) (acc:List Pl) (pre:List Oper),ops.toList=pre++os→gs.length=pre.length→QN P E nt ops σ gs s→(draw=true→acc=gs.map C9)→oJ P E nt ops draw os s acc K→
  ∃bX s' abz,QN P E nt ops σ bX s'∧bX.length=ops.size∧(draw=true→abz=bX.map C9)∧K s' abz
 |[],gs,s,acc,pre,Au,hl,hp,ha,h=>⟨gs,s,acc,hp,by rw[hl,←Array.length_toList,Au,List.append_nil],ha,h⟩
 |o::os,gs,s,acc,pre,Au,hl,hp,ha,h=>by
  have ho:ops[gs.length]?=some o:=by
   rw[←Array.getElem?_toList,Au,hl];simp
  have ID:ops.toList=(pre++[o])++os:=by simp[Au]
  simp only[oJ]at h;obtain⟨hd,h⟩:=h;split at h
  ·rename_i hg
   obtain⟨fr,gv,Δ,kQ,h1,h2,h3⟩:=Av (nt:=nt) hp.lt hd h;refine ll os (gs++[⟨fr,_,o.dst,gv,Δ⟩]) _ _ (pre++[o]) ID (by simp[hl]) (hp.push (Vi ho hg h1) h2.fr (uW _ _) (hp.ag.step h2 _ _ _) (pG hp.lt h2 _ _)) (fun zr=>?_) h3
   rw[zr,if_pos rfl,ha zr,List.map_append];congr 1
   simp only[List.map_cons,List.map_nil,C9,sR,gL,jd,aeU,List.nil_append];rfl
  ·rename_i j want hg
   obtain⟨d,hj,ak,⟨hu,h⟩|⟨b,hb,hr,YX⟩⟩:=h
   ·have Yq:lk d s.env= .p []:=by
     unfold GV.undef? at hu;split at hu
     ·assumption
     ·cases hu
    have Da:yk s [] [] s.nx:= .nil hp.lt fun x hx=>(by cases hx)
    refine ll os (gs++[⟨[],[(d,.p [])],o.dst,.p [],[]⟩]) _ _ (pre++[o]) ID (by simp[hl]) (hp.push (Nq ho hd hg hj ak) (fun x hx=>by cases hx) (fun x hx=>?_) (hp.ag.step Da _ _ _) (pG hp.lt Da _ _)) (fun zr=>?_) h
    ·simp only[List.mem_cons,List.not_mem_nil,or_false]at hx
     subst hx;exact Yq
    ·rw[zr,if_pos rfl,ha zr,List.map_append]
     congr 1
     simp only[List.map_cons,List.map_nil,C9,sR,gL,List.append_nil];rfl
   by_cases hbw:b=want
   ·subst hbw
    obtain⟨fr,gv,Δ,kQ,h1,h2,h3⟩:=Av (s:=s.tq d b) (nt:=nt) hp.lt hd (hr rfl);have bw:QN P E nt ops σ gs (s.tq d b):=⟨hp.step,hp.fr,hp.ins,hp.ag.tq hb,hp.lt⟩
    refine ll os (gs++[⟨fr,(d,gB b)::_,o.dst,gv,Δ⟩]) _ _ (pre++[o]) ID (by simp[hl]) (bw.push (No ho hg hj ak h1) h2.fr (fun x hx=>?_) (bw.ag.step h2 _ _ _) (pG bw.lt h2 _ _)) (fun zr=>?_) h3
    ·rcases List.mem_cons.1 hx with rfl|hx
     ·simp[ah.tq,yl]
     ·exact uW _ _ x hx
    ·rw[zr,if_pos rfl,ha zr,List.map_append]
     congr 1
     simp only[List.map_cons,List.map_nil,C9,sR,gL,jd,aeU,List.cons_append,List.nil_append];rfl
   ·have adx:b= !want:=by cases b<;>cases want<;>simp_all
    subst adx;have bw:QN P E nt ops σ gs (s.tq d (!want)):=⟨hp.step,hp.fr,hp.ins,hp.ag.tq hb,hp.lt⟩
    have Da:yk (s.tq d (!want)) [] [] s.nx:=yk.nil (s:=s.tq d (!want)) hp.lt fun x hx=>(by cases hx)
    refine ll os (gs++[⟨[],[(d,gB (!want))],o.dst,.p [],[]⟩]) _ _ (pre++[o]) ID (by simp[hl]) (bw.push (Np ho hd hg hj ak) (fun x hx=>by cases hx) (fun x hx=>?_) (bw.ag.step Da _ _ _) (pG bw.lt Da _ _)) (fun zr=>?_) (YX rfl)
    ·simp only[List.mem_cons,List.not_mem_nil,or_false]at hx
     subst hx;simp[ah.tq,yl]
    ·rw[zr,if_pos rfl,ha zr,List.map_append]
     congr 1
     simp only[List.map_cons,List.map_nil,C9,sR,gL,List.append_nil];rfl
theorem TW.region {m id:Nat}{draw:Bool}{Q:Exit→ah→Prop}{s:ah}(vQ:P.follows .mixedOrders=true)(h:Vh P E nt ops draw s fun s'=>Q .normal s'):TW P E nt m (.region id ops draw) Q s:=by
 intro C a w hn hm hR Q' hQ hE;obtain⟨ak,h⟩:=h;obtain⟨gs,s',acc,hp,hlen,CX,zr,hK⟩:=ll (σ:=(iI s,s.get)) ops.toList [] s [] [] rfl rfl ⟨fun i g h=>by simp at h,fun i g h=>by simp at h,fun i g h=>by simp at h,⟨fun t=>rfl,fun b=>rfl⟩,C_ ak⟩ (fun _=>rfl) h
 have dP:Region.Ok P E nt ops gs (iI s,s.get):=⟨hlen,hp.step,hp.fr,hp.ins⟩
 have vE:∀a w,R C (can gs (iI s,s.get) gs.length).1 (can gs (iI s,s.get) gs.length).2 a w→Q' .normal a w:=by
  intro a w ru;refine hQ _ s' a w hK ?_;have e1:iI s'=(can gs (iI s,s.get) gs.length).1:=funext hp.ag.1
  have e2:s'.get=(can gs (iI s,s.get) gs.length).2:=funext hp.ag.2
  rw[e1,e2];exact ru
 cases draw with
 |false=>
  refine wp_region ?_;rw[List.range_eq_range'];exact Iv dP hn hE vE ops.size 0 (by rw[Nat.zero_add];exact hlen.symm) a w hR
 |true=>
  refine wp_region_draw fun t=>?_;have hd:=zr rfl;simp only[Bool.and_eq_true]at hd;obtain⟨wG,zg⟩:=hd;rw[CX rfl,Nm]at zg;have pn:Ad ops ops.size (Array.replicate ops.size false) (Region.schedule (P.follows .mixedOrders) ops t):=by
   unfold Region.schedule;rw[vQ];exact xH ops _ _ _
  refine M7 dP wG zg hn hE vE ops.size _ _ pn (by simp) ?_ (fun j es hj hx=>?_) a _ ?_
  ·unfold left
   exact Nat.le_trans (List.countP_le_length) (by simp)
  ·simp only[Array.getD_eq_getD_getElem?,Array.getElem?_replicate]at hx
   split at hx<;>simp at hx
  ·rw[U' (fun i hi=>by
    simp only[Array.getD_eq_getD_getElem?,Array.getElem?_replicate];split<;>rfl) _ (Nat.le_refl _)]
   obtain⟨ρ,D,hR⟩:=hR;exact⟨ρ,D,hR.heap rfl rfl rfl rfl⟩
end
end Go.Proofs.YtabjbdnokpjipaaGreat.T
