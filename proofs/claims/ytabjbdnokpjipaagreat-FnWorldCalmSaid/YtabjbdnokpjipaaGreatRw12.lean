/-
What is proved: how the trace's law is kept by every kind of step and what rests on it. Conditions: as stated.
-/
import Derived.Test.YtabjbdnokpjipaaGreatRw11
set_option linter.unusedVariables false
set_option linter.unusedSimpArgs false
namespace Go.Proofs.YtabjbdnokpjipaaGreat.Sr
open Go Go.Conc Go.ConcN
section
variable {γ ai:Gh}{B B':Nat}{t u:Trace}{j k:Nat}{fn:FuncId}{pos:String}{es:Array Event}
def Bb (γ:Gh)(d B:Nat)(es:Array Event):Prop:=∀i e,es[i]?=some e→((MemAct.ofEvent e).touch?=none∨((∃ad wr,e=⟨.cell ad,wr,true⟩∧γ.sh ad.block)∧0<deafBehind d (es.extract 0 i)))∧(MemAct.ofEvent e).low B∧∀a,MemAct.ofEvent e≠.mark (.release a)
theorem TJ.said (A:BA γ)(h:TJ γ B t j)(k1:1≤k)(kj:k≤j)(bh:Bb γ (Deaf t k) B es):TJ γ B (t++MemOp.ofEvents k fn pos es) j:=by
 have mem:∀op∈MemOp.ofEvents k fn pos es,∃i e,es[i]?=some e∧op.g=k∧op.act= .ofEvent e:=fun op bf=>by
  obtain⟨e,he,h1,h2⟩:=ie bf;obtain⟨i,hi⟩:=Array.mem_iff_getElem?.1 he;exact⟨i,e,hi,h1,h2⟩
 have Z6:∀op∈MemOp.ofEvents k fn pos es,∀x,op.act.touch?=some x→γ.Sh x.loc∧x.kind= .atomic:=fun op bf x hx=>by
  obtain⟨i,e,hi,_,h2⟩:=mem op bf;rw[h2]at hx;rcases(bh i e hi).1 with h0|⟨⟨ad,wr,rfl,hs⟩,_⟩
  ·rw[h0]at hx;cases hx
  ·have:MemAct.ofEvent ⟨.cell ad,wr,true⟩= .access ⟨.cell ad,wr,true⟩:=by cases wr<;>rfl
   rw[this]at hx;simp only[MemAct.touch?,Option.some.injEq,if_true]at hx;subst hx;exact⟨⟨ad,rfl,hs⟩,rfl⟩
 refine⟨h.ct.appW A.apart k1 kj fun op bf=>?_,fun op bf=>?_,fun i g hg cf hc=>?_,fun p' bw k' cM Ha hs=>?_,fun p' bw=>(h.norel p' bw).app fun op bf=>?_,xD h.old fun op bf=> .inr (.inl fun x hx=>(Z6 op bf x hx).1)⟩
 ·obtain⟨i,e,hi,h1,h2⟩:=mem op bf
  refine⟨h1,fun x hx=> .inl ?_⟩
  have:=Z6 op bf x hx
  exact⟨this.1,by rw[this.2];exact⟨nofun,nofun⟩⟩
 ·rcases Array.mem_append.1 bf with h1|h1
  ·exact h.low op h1
  ·obtain⟨i,e,hi,_,h2⟩:=mem op h1
   rw[h2];exact(bh i e hi).2.1
 ·
  rcases Nat.lt_or_ge i t.size with hi|hi
  ·rcases h.over i g (by rwa[g?_old hi]at hg) cf ((counts_old hi).1 hc)with⟨q,hq,hb⟩|h'
   ·have hql:q<t.size:=by
     unfold Trace.g? at hq;obtain⟨z,hz,_⟩:=Option.map_eq_some_iff.1 hq;exact lt_size_of_getElem? hz
    exact .inl ⟨q,by rw[g?_old hql];exact hq,hb_app _ hb⟩
   ·exact .inr h'
  ·exfalso
   obtain⟨x,hx,_,hk⟩:=hc;obtain⟨op,ho,nL⟩:=touch_of hx;have hj:(MemOp.ofEvents k fn pos es)[i-t.size]?=some op:=by
    rw[Array.getElem?_append]at ho;simpa[Nat.not_lt.2 hi]using ho
   have bf:=Array.mem_of_getElem? hj;have oq:=Z6 op bf x nL;rw[oq.2]at hk;rcases hk with hk|⟨g',bu,hd⟩
   ·exact hk rfl
   ·have Z7:g'=k:=by
     have:=fH op bf
     simp only[Trace.g?,ho,Option.map_some,Option.some.injEq]at bu;omega
    subst Z7;rw[ofEvents_eq,Array.getElem?_map]at hj;obtain⟨e,he,rfl⟩:=Option.map_eq_some_iff.1 hj;rcases(bh _ e he).1 with h0|⟨_,hdf⟩
    ·simp only at nL;rw[h0]at nL;cases nL
    ·have:(t++MemOp.ofEvents g' fn pos es).deaf g' i=deafBehind (Deaf t g') (es.extract 0 (i-t.size)):=by
      have e1:t++MemOp.ofEvents g' fn pos es=(t++MemOp.ofEvents g' fn pos (es.extract 0 (i-t.size)))++MemOp.ofEvents g' fn pos (es.extract (i-t.size) es.size):=by
       rw[ofEvents_eq,ofEvents_eq,ofEvents_eq,Array.append_assoc,←Array.map_append];congr 2
       apply Array.ext_getElem?
       intro q;have ak:=(Array.getElem?_eq_some_iff.1 he).1;rw[Array.getElem?_append];simp only[Array.size_extract,Array.getElem?_extract];split
       ·rename_i hq
        simp
       ·rename_i hq
        split
        ·congr 1;omega
        ·rename_i JL
         rw[Array.getElem?_eq_none (by omega)]
      have kq:(t++MemOp.ofEvents g' fn pos (es.extract 0 (i-t.size))).size=i:=by
       have ak:=(Array.getElem?_eq_some_iff.1 he).1;rw[ofEvents_eq];simp
       omega
      rw[e1,deaf_old (by omega)]
      rw[←Deaf_own t g' fn pos];show _=Trace.deaf _ g' (Array.size _)
      rw[kq]
     omega
 ·obtain⟨r,tJ,Cp⟩:=h.rel p' bw k' cM Ha hs
  by_cases Hd:k'=k
  ·subst Hd
   refine⟨r,tJ.appOwn fn pos es fun i e he=>?_,fun i x hi zd hx=>?_⟩
   ·exact(bh i e he).1.imp id fun⟨⟨ad,wr,he,_⟩,hd⟩=>⟨⟨ad,wr,he⟩,hd⟩
   ·rcases sM hx with⟨h1,ak⟩|⟨op,bf,h1,_⟩
    ·exact Cp i x hi (by rwa[g?_old ak]at zd) h1
    ·exact(Z6 op bf x h1).1
  ·exact⟨r,ou ⟨tJ,Cp⟩ fH (Ne.symm Hd)⟩
 ·obtain⟨i,e,hi,_,h2⟩:=mem op bf
  rw[h2];exact(bh i e hi).2.2 _
def vk (γ:Gh)(j B:Nat)(e:Event):Prop:=(∀x,(MemAct.ofEvent e).touch?=some x→(γ.Sh x.loc∧x.kind≠.plain)∨(¬γ.Sh x.loc∧(∀k,1≤k→k≤j→¬γ.Own k x.loc)∧(x.write=true→∀k,1≤k→k≤j→¬γ.Rd k x.loc)))∧(MemAct.ofEvent e).low B∧∀a,MemAct.ofEvent e≠.mark (.release a)
theorem TJ.main (A:BA γ)(h:TJ γ B t j)(hB:B≤B')(bh:∀e∈es,vk γ j B' e):TJ γ B' (t++MemOp.ofEvents 0 fn pos es) j:=by
 refine⟨h.ct.app0 A.apart fun op bf=>?_,fun op bf=>?_,zc h.over fun op bf=> .inl (fH op bf),fun p' bw k' cM Ha hs=>?_,fun p' bw=>(h.norel p' bw).app fun op bf=>?_,xD h.old fun op bf=> .inl (fH op bf)⟩
 ·obtain⟨e,he,h1,h2⟩:=ie bf
  exact⟨h1,fun x hx=>(bh e he).1 x (h2▸hx)⟩
 ·rcases Array.mem_append.1 bf with h1|h1
  ·exact MemAct.low_mono hB (h.low op h1)
  ·obtain⟨e,he,_,h2⟩:=ie h1
   rw[h2];exact(bh e he).2.1
 ·obtain⟨r,hr⟩:=h.rel p' bw k' cM Ha hs
  exact⟨r,ou hr fH (by omega)⟩
 ·obtain⟨e,he,_,h2⟩:=ie bf
  rw[h2];exact(bh e he).2.2 _
theorem TJ.mono (h:TJ γ B t j)(hB:B≤B'):TJ γ B' t j:=⟨h.ct,fun op bf=>MemAct.low_mono hB (h.low op bf),h.over,h.rel,h.norel,h.old⟩
theorem TJ.still (A:BA γ)(h:TJ γ B t j){g:Nat}(gj:g≤j)(bh:∀e∈es,(MemAct.ofEvent e).touch?=none∧(MemAct.ofEvent e).low B∧∀a,MemAct.ofEvent e≠.mark (.release a)):TJ γ B (t++MemOp.ofEvents g fn pos es) j:=by
 rcases Nat.eq_zero_or_pos g with rfl|hg
 ·exact h.main A (Nat.le_refl _) fun e he=>⟨fun x hx=>(by rw[(bh e he).1]at hx;cases hx),(bh e he).2⟩
 ·exact h.said A hg gj fun i e hi=>⟨.inl (bh e (Array.mem_of_getElem? hi)).1,(bh e (Array.mem_of_getElem? hi)).2⟩
theorem TJ.release (A:BA γ)(h:TJ γ B t j){p:Ph}(hp:γ.ph=some p)(hk:p.j0<k)(kj:k≤j)(hd:Deaf t k=0)(hw:p.wg<B):
  TJ {γ with st:=fun i=>if i=k then .said else γ.st i} B (t++MemOp.ofEvents k fn pos #[⟨.mark (.releaseMerge ⟨p.wg,0,none⟩),false,true⟩]) j:=by
 have hb:TJ γ B (t++MemOp.ofEvents k fn pos #[⟨.mark (.releaseMerge ⟨p.wg,0,none⟩),false,true⟩]) j:=h.still A kj fun e he=>by
  simp at he;subst he;exact⟨rfl,hw,nofun⟩
 refine⟨hb.ct,hb.low,hb.over,fun p' bw k' cM Ha hs=>?_,hb.norel,hb.old⟩
 by_cases Hd:k'=k
 ·subst Hd
  have e0:p'=p:=by have:=bw.symm.trans hp;exact Option.some.inj this
  subst e0;have hq:(t++MemOp.ofEvents k' fn pos #[⟨.mark (.releaseMerge ⟨p'.wg,0,none⟩),false,true⟩])[t.size]?=some ({g:=k',fn,pos,act:= .mark (.releaseMerge ⟨p'.wg,0,none⟩)}:MemOp):=by
   rw[ofEvents_eq,Array.getElem?_append_right (Nat.le_refl _)];simp[MemAct.ofEvent]
  have kq:(t++MemOp.ofEvents k' fn pos #[⟨.mark (.releaseMerge ⟨p'.wg,0,none⟩),false,true⟩]).size=t.size+1:=by rw[ofEvents_eq];simp
  refine⟨t.size,⟨by rw[act?_of hq],by simp[Trace.g?,hq],⟨k',by simp[Trace.g?,hq],by rw[deaf_old (Nat.le_refl _)];exact hd⟩,fun i hi hg=>?_⟩,fun i x hi hg=>?_⟩
  all_goals
   unfold Trace.g? at hg;obtain⟨z,hz,_⟩:=Option.map_eq_some_iff.1 hg;have:=lt_size_of_getElem? hz
   rw[kq]at this;omega
 ·have wF:γ.st k'≠.busy:=by simpa[Hd]using hs
  exact hb.rel p' bw k' cM Ha wF
theorem TJ.same (h:TJ γ B t j)(h1:ai.sh=γ.sh)(h2:∀k,1≤k→k≤j→(∀l,ai.Own k l↔γ.Own k l)∧∀l,ai.Rd k l↔γ.Rd k l)(h3:∀k,k≤j→ai.st k=γ.st k)(h4:∀p',ai.ph=some p'→∃p,γ.ph=some p∧p.wg=p'.wg∧p.j0=p'.j0)
  (h5:∀p,γ.ph=some p→∃p',ai.ph=some p'∧p.wg=p'.wg∧p.j0=p'.j0):TJ ai B t j:=by
 have eS:ai.Sh=γ.Sh:=by unfold Gh.Sh;rw[h1]
 have h6:∀g,(∃p,γ.ph=some p∧p.j0<g)→∃p,ai.ph=some p∧p.j0<g:=fun g ⟨p,hp,hg⟩=>let⟨p',bw,_,e⟩:=h5 p hp;⟨p',bw,e▸hg⟩
 refine⟨qX h.ct (fun l hl=> .inl (eS▸hl)) (fun k k1 kj l hl=> .inl (((h2 k k1 kj).1 l).1 hl)) (fun k k1 kj l hl=> .inl (((h2 k k1 kj).2 l).1 hl)) (fun l hs hl=> .inl ⟨eS▸hs,fun k k1 kj=>⟨fun x=>(hl k k1 kj).1 (((h2 k k1 kj).1 l).2 x),fun x=>(hl k k1 kj).2 (((h2 k k1 kj).2 l).2 x)⟩⟩)
  (fun l hs hl=> .inl ⟨eS▸hs,fun k k1 kj x=>hl k k1 kj (((h2 k k1 kj).1 l).2 x)⟩),h.low,fun i g a b c=>(h.over i g a b c).imp id (h6 g),fun p' bw k hk kj hs=>?_,fun p' bw=>?_,fun i x g a b c=>(h.old i x g a (eS▸b) c).imp id (h6 g)⟩
 ·obtain⟨p,hp,e1,e2⟩:=h4 p' bw
  rw[←e1,eS];exact h.rel p hp k (by omega) kj (by rw[←h3 k kj];exact hs)
 ·obtain⟨p,hp,e1,e2⟩:=h4 p' bw
  rw[←e1];exact h.norel p hp
theorem TJ.fork (A:BA γ)(h:TJ γ B t j)(h0:Deaf t 0=0){p:Ph}(hp:γ.ph=some p)(hj:p.j0≤j)(hb:γ.st (j+1)= .busy){x y:MemOp}(hx:x.g=0∧x.act= .go (j+1))(hy:y.g=j+1∧y.act= .start):TJ γ B (t++ #[x,y]) (j+1):=by
 have hm:∀op∈ #[x,y],op=x∨op=y:=by intro op bf;simpa using bf
 have hn:∀op∈ #[x,y],op.act.touch?=none:=by
  intro op bf;rcases hm op bf with rfl|rfl
  ·rw[hx.2];rfl
  ·rw[hy.2];rfl
 refine⟨h.ct.fork A.apart hx hy h0,fun op bf=>?_,zc h.over fun op bf=> .inr (.inl (hn op bf)),fun p' bw k' cM Ha hs=>?_,fun p' bw=>(h.norel p' bw).app fun op bf=>?_,xD h.old fun op bf=> .inr (.inl fun z hz=>by rw[hn op bf]at hz;cases hz)⟩
 ·rcases Array.mem_append.1 bf with h1|h1
  ·exact h.low op h1
  ·rcases hm op h1 with rfl|rfl
   ·rw[hx.2];trivial
   ·rw[hy.2];trivial
 ·have A0:k'≤j:=by
   rcases Nat.lt_or_ge j k' with h'|h'
   ·obtain rfl:k'=j+1:=by omega
    exact absurd hb hs
   ·exact h'
  obtain⟨r,hr⟩:=h.rel p' bw k' cM A0 hs;have e:t++ #[x,y]=(t++ #[x])++ #[y]:=by apply Array.ext';simp
  rw[e];have hx0:∀op∈ #[x],op.g=0:=fun op bf=>by simp at bf;subst bf;exact hx.1
  have JM:∀op∈ #[y],op.g=j+1:=fun op bf=>by simp at bf;subst bf;exact hy.1
  exact⟨r,ou (ou hr hx0 (by omega)) JM (by omega)⟩
 ·rcases hm op bf with rfl|rfl
  ·rw[hx.2];nofun
  ·rw[hy.2];nofun
theorem TJ.grow (h:TJ γ B t j)(hB:B≤B')(nM:∀b,γ.sh b→b<B)(k0:Nat):TJ {γ with ow:=fun k b=>γ.ow k b∨(k=k0∧B≤b∧b<B')} B' t j:=by
 refine⟨qX h.ct (fun l hl=> .inl hl) (fun k k1 kj l hl=>?_) (fun k k1 kj l hl=> .inl hl) (fun l hs hl=> .inl ⟨hs,fun k k1 kj=>⟨fun x=>(hl k k1 kj).1 ?_,(hl k k1 kj).2⟩⟩) (fun l hs hl=> .inl ⟨hs,fun k k1 kj x=>hl k k1 kj ?_⟩),
  fun op bf=>MemAct.low_mono hB (h.low op bf),h.over,h.rel,h.norel,h.old⟩
 ·rcases hl with⟨b,hb,ho|⟨_,hb1,_⟩⟩|ho
  ·exact .inl (.inl ⟨b,hb,ho⟩)
  ·exact .inr (pj h.low hb hb1)
  ·exact .inl (.inr ho)
 ·rcases x with⟨b,hb,ho⟩|ho
  ·exact .inl ⟨b,hb,.inl ho⟩
  ·exact .inr ho
 ·rcases x with⟨b,hb,ho⟩|ho
  ·exact .inl ⟨b,hb,.inl ho⟩
  ·exact .inr ho
theorem TJ.open (h:TJ γ B t j)(hB:B≤B')(hn:γ.ph=none)(vi:∀k b,¬γ.ow k b∧¬γ.ro k b)(p:Ph)(hj:p.j0=j)(hw:B≤p.wg)(st:Nat→lE)(wm:WM):TJ {γ with sh:=fun b=>γ.sh b∨b=p.wg,ph:=some p,st,wm} B' t j:=by
 have e1:∀k l,¬γ.Own k l:=by
  rintro k l (⟨b,_,ho⟩|⟨a,_,p',bw,_⟩)
  ·exact(vi k b).1 ho
  ·rw[hn]at bw;cases bw
 have e2:∀k l,¬γ.Rd k l:=fun k l ⟨b,_,ho⟩=>(vi k b).2 ho
 refine⟨qX h.ct (fun l hl=>?_) (fun k k1 kj l hl=>?_) (fun k k1 kj l hl=> .inl hl) (fun l hs hl=> .inl ⟨fun⟨a,ha,hx⟩=>hs ⟨a,ha,.inl hx⟩,fun k k1 kj=>⟨e1 k l,e2 k l⟩⟩) (fun l hs hl=> .inl ⟨fun⟨a,ha,hx⟩=>hs ⟨a,ha,.inl hx⟩,fun k k1 kj=>e1 k l⟩),
  fun op bf=>MemAct.low_mono hB (h.low op bf),fun i g a b c=>?_,fun p' bw k hk kj _=>?_,fun p' bw i hi=>?_,fun i x g a b c=>?_⟩
 ·obtain⟨a,rfl,hs|hs⟩:=hl
  ·exact .inl ⟨a,rfl,hs⟩
  ·exact .inr (pj h.low rfl (hs▸hw))
 ·rcases hl with⟨b,_,ho⟩|⟨a,_,p',bw,hk,_⟩
  ·exact absurd ho (vi k b).1
  ·cases bw;omega
 ·rcases h.over i g a b c with h'|⟨p',bw,_⟩
  ·exact .inl h'
  ·rw[hn]at bw;cases bw
 ·cases bw;omega
 ·cases bw
  obtain⟨op,ho,hoa⟩:=Option.map_eq_some_iff.1 hi;have:=h.low op (Array.mem_of_getElem? ho)
  rw[hoa]at this;have:p.wg<B:=this
  omega
 ·rcases h.old i x g a (fun⟨q,hq,hs⟩=>b ⟨q,hq,.inl hs⟩) c with h'|⟨p',bw,_⟩
  ·exact .inl h'
  ·rw[hn]at bw;cases bw
theorem Cq {t:Trace}{i:Nat}{op:MemOp}(h:t[i]?=some op):t.g? i=some op.g:=by simp[Trace.g?,h]
theorem TJ.join (A:BA γ)(h:TJ γ B t j){p:Ph}(hp:γ.ph=some p)(dW:∀k,p.j0<k→k≤j→γ.st k≠.busy)(h0:Deaf t 0=0)(hw:p.wg<B)(st:Nat→lE)(wm:WM):
  TJ {γ with ow:=fun _ _=>False,ro:=fun _ _=>False,ph:=none,st,wm} B (t++MemOp.ofEvents 0 fn pos #[⟨.mark (.acquire ⟨p.wg,0,none⟩),false,true⟩]) j:=by
 have hb:TJ γ B (t++MemOp.ofEvents 0 fn pos #[⟨.mark (.acquire ⟨p.wg,0,none⟩),false,true⟩]) j:=h.still A (Nat.zero_le _) fun e he=>by
  simp at he;subst he;exact⟨rfl,hw,nofun⟩
 have eu:MemOp.ofEvents 0 fn pos #[⟨.mark (.acquire ⟨p.wg,0,none⟩),false,true⟩]= #[({g:=0,fn,pos,act:= .mark (.acquire ⟨p.wg,0,none⟩)}:MemOp)]:=by rw[ofEvents_eq];simp[MemAct.ofEvent]
 rw[eu]at hb⊢;have hq:(t++ #[({g:=0,fn,pos,act:= .mark (.acquire ⟨p.wg,0,none⟩)}:MemOp)])[t.size]?=some {g:=0,fn,pos,act:= .mark (.acquire ⟨p.wg,0,none⟩)}:=by simp
 have hh:(t++ #[({g:=0,fn,pos,act:= .mark (.acquire ⟨p.wg,0,none⟩)}:MemOp)]).heard t.size:=⟨0,Cq hq,by rw[deaf_old (Nat.le_refl _)];exact h0⟩
 have abd:∀g,p.j0<g→g≤j→∃r,RelBy ⟨p.wg,0,none⟩ (t++ #[({g:=0,fn,pos,act:= .mark (.acquire ⟨p.wg,0,none⟩)}:MemOp)]) g r∧(∀i x,r<i→(t++ #[({g:=0,fn,pos,act:= .mark (.acquire ⟨p.wg,0,none⟩)}:MemOp)]).g? i=some g→touchAt (t++ #[({g:=0,fn,pos,act:= .mark (.acquire ⟨p.wg,0,none⟩)}:MemOp)]) i=some x→γ.Sh x.loc)∧
   HappensBefore (t++ #[({g:=0,fn,pos,act:= .mark (.acquire ⟨p.wg,0,none⟩)}:MemOp)]) r t.size:=by
  intro g hg gj;obtain⟨r,tJ,Cp⟩:=hb.rel p hp g hg gj (dW g hg gj);obtain⟨r',aek,_⟩:=h.rel p hp g hg gj (dW g hg gj);refine⟨r,tJ,Cp,.single (.inr ⟨.marked ?_ (.inr tJ.act) (by rw[act?_of hq]) (fun k _ _=>hb.norel p hp k),tJ.heard,hh⟩)⟩
  have ak:=lt_of_act? tJ.act;have cf:r≠t.size:=by
   rintro rfl;have:=tJ.act
   rw[act?_of hq]at this
   cases this
  simp at ak
  omega
 have all:∀i x,touchAt (t++ #[({g:=0,fn,pos,act:= .mark (.acquire ⟨p.wg,0,none⟩)}:MemOp)]) i=some x→¬γ.Sh x.loc→Knows (t++ #[({g:=0,fn,pos,act:= .mark (.acquire ⟨p.wg,0,none⟩)}:MemOp)]) 0 i:=by
  intro i x hx hs;obtain⟨op,ho,nL⟩:=touch_of hx;rcases hb.old i x op.g hx hs (Cq ho)with h'|⟨p',bw,hg⟩
  ·exact h'
  ·rw[hp]at bw;cases bw
   obtain⟨r,tJ,Cp,WC⟩:=abd op.g hg (hb.ct.gs i op ho);have hle:i≤r:=Nat.le_of_not_lt fun ak=>hs (Cp i x ak (Cq ho) hx)
   refine⟨t.size,_,hq,rfl,.inr ?_⟩;rcases Nat.lt_or_ge i r with ak|ov
   ·exact .trans (.single (.inl ⟨ak,op.g,Cq ho,tJ.g⟩)) WC
   ·obtain rfl:i=r:=by omega
    exact WC
 have pm:∀l,¬γ.Sh l→Perm (t++ #[({g:=0,fn,pos,act:= .mark (.acquire ⟨p.wg,0,none⟩)}:MemOp)]) 0 l:=fun l hs i x hx e=>all i x hx (e▸hs)
 refine⟨qX hb.ct (fun l hl=> .inl hl) (fun k k1 kj l hl=>?_) (fun k k1 kj l hl=>?_) (fun l hs hl=> .inr (pm l hs)) (fun l hs hl=> .inr (.of (pm l hs))),hb.low,fun i g a b c=> .inl ?_,nofun,nofun,fun i x g a b c=> .inl (all i x a b)⟩
 ·rcases hl with⟨b,_,ho⟩|⟨a,_,p',bw,_⟩
  ·exact ho.elim
  ·cases bw
 ·obtain⟨b,_,ho⟩:=hl
  exact ho.elim
 ·rcases hb.over i g a b c with h'|⟨p',bw,hg⟩
  ·exact h'
  ·rw[hp]at bw;cases bw
   have gj:g≤j:=by
    unfold Trace.g? at a;obtain⟨op,ho,rfl⟩:=Option.map_eq_some_iff.1 a;exact hb.ct.gs i op ho
   obtain⟨r,tJ,Cp,WC⟩:=abd g hg gj;have hle:i≤r:=Nat.le_of_not_lt fun ak=>tJ.after i ak a c
   refine⟨t.size,Cq hq,?_⟩;rcases Nat.lt_or_ge i r with ak|ov
   ·exact .trans (.single (.inl ⟨ak,g,a,tJ.g⟩)) WC
   ·obtain rfl:i=r:=by omega
    exact WC
theorem TJ.init (γ:Gh)(B:Nat):TJ γ B #[] 0:=
 ⟨⟨fun i op x hi=>by simp at hi,fun k k1 kj=>by omega,fun k k1 kj=>by omega,fun l _ _ i x hx=>by simp[touchAt,Trace.act?]at hx,fun l _ _ i x hx=>by simp[touchAt,Trace.act?]at hx,fun said=>by rintro⟨i,q,_,⟨a,b,ha,_⟩,_⟩;simp[Trace.act?]at ha,fun i op hi=>by simp at hi⟩,
   fun op bf=>by simp at bf,fun i g hg=>by simp[Trace.g?]at hg,fun p _ k _ hk _=>by omega,fun p _ i hi=>by simp[Trace.act?]at hi,fun i x g hx=>by simp[touchAt,Trace.act?]at hx⟩
end
end Go.Proofs.YtabjbdnokpjipaaGreat.Sr
namespace Go.Proofs.YtabjbdnokpjipaaGreat.Sr
open Go Go.Conc Go.ConcN
def cnt (st:Nat→lE)(j0:Nat):Nat→Nat
 |0=>0
 |m+1=>cnt st j0 m+(if st (j0+m+1)= .off then 0 else 1)
theorem qY {st st':Nat→lE}{j0:Nat}:∀{m:Nat},(∀k,j0<k→k≤j0+m→(st k= .off↔st' k= .off))→cnt st j0 m=cnt st' j0 m
 |0,_=>rfl
 |m+1,h=>by
  simp only[cnt];rw[qY (m:=m) fun k h1 h2=>h k h1 (by omega)]
  have:=h (j0+m+1) (by omega) (by omega)
  simp[this]
theorem Cr {st:Nat→lE}{j0 k:Nat}:∀{m:Nat},j0<k→k≤j0+m→st k≠.off→cnt st j0 m=cnt (fun i=>if i=k then .off else st i) j0 m+1
 |0,h1,h2,_=>by omega
 |m+1,h1,h2,h3=>by
  simp only[cnt];by_cases hk:k=j0+m+1
  ·subst hk
   rw[qY (m:=m) (st:=fun i=>if i=j0+m+1 then lE.off else st i) (st':=st) fun i _ hi=>by rw[if_neg (by omega)]]
   simp[h3]
  ·rw[Cr (m:=m) h1 (by omega) h3]
   have:¬(j0+m+1=k):=fun e=>hk e.symm
   simp only[if_neg this];omega
theorem JN {st:Nat→lE}{j0:Nat}:∀{m:Nat},0<cnt st j0 m→∃k,j0<k∧k≤j0+m∧st k≠.off
 |0,h=>by simp[cnt]at h
 |m+1,h=>by
  simp only[cnt]at h;by_cases h1:st (j0+m+1)= .off
  ·obtain⟨k,a,b,c⟩:=JN (m:=m) (by simp[h1]at h;exact h)
   exact⟨k,a,by omega,c⟩
  ·exact⟨j0+m+1,by omega,by omega,h1⟩
theorem Tl {st:Nat→lE}{j0 m:Nat}(h:cnt st j0 m=0)(k:Nat)(h1:j0<k)(h2:k≤j0+m):st k= .off:=Classical.byContradiction fun hn=>by
 have:=Cr h1 h2 hn
 omega
theorem BG {st:Nat→lE}{j0:Nat}:∀{m:Nat},cnt st j0 m≤m
 |0=>Nat.le_refl _
 |m+1=>by
  have:=BG (st:=st) (j0:=j0) (m:=m)
  simp only[cnt];split<;>omega
def bW:Int:=4294967296
def bo (wm:WM)(v:Nat):Int:=match wm with
 | .op=>v*bW
 | .reg=>v*bW+1
 | .la _=>1
 |_=>0
def Cs:WM→Int
 | .rel=>1
 |_=>0
def di (e:TypeId)(st sm:Int):Obj:= .cells #[.int .u64 st,.int .u32 sm] e
def Gh.v (γ:Gh)(p:Ph):Nat:=cnt γ.st p.j0 (γ.j-p.j0)+γ.extra
structure Phase (γ:Gh) (w:World) (p:Ph):Prop where
 j0:p.j0≤γ.j
 jn:γ.j-p.j0+γ.extra≤p.n
 n5:p.n≤5
 sh:γ.sh p.wg
 Alt:p.A<w.heap.size
 wg:w.heap[p.wg]?=some (di p.eW (bo γ.wm (γ.v p)) (Cs γ.wm))
 reg:γ.wm= .reg→γ.extra=0∧0<γ.v p
 la:∀k,γ.wm= .la k∨γ.wm= .lb k→γ.v p=0∧p.j0<k∧k≤γ.j∧γ.st k= .off
 rel:γ.wm= .rel→γ.v p=0
 arr:∃cs,w.heap[p.A]?=some (.cells cs p.eA)∧cs.size=5*p.n∧∀k,p.j0<k→k≤γ.j→γ.st k≠.busy→∀c,c<5→cs[5*(k-p.j0-1)+c]?=some (p.o8 (k-p.j0-1) c)
structure JJ (γ:Gh) (w:World) (t:Trace) (j:Nat):Prop where
 tj:TJ γ w.heap.size t j
 ba:BA γ
 j:γ.j=j
 ox:∀k b,γ.ow k b→b<w.heap.size
 mO:∀k b,γ.ro k b→b<w.heap.size
 dL:∀b,γ.sh b→b<w.heap.size
 none:γ.ph=none→(∀k b,¬γ.ow k b∧¬γ.ro k b)∧(∀k,γ.st k= .off)∧γ.wm= .op
 out:∀p,γ.ph=some p→∀k,k≤p.j0∨γ.j<k→γ.st k= .off∧∀b,¬γ.ow k b∧¬γ.ro k b
 phase:∀p,γ.ph=some p→Phase γ w p
def Gh.Gone (γ:Gh)(k:Nat):Prop:=γ.st k= .off∧γ.wm≠.la k∧γ.wm≠.lb k
structure RW (k:Nat) (γ:Gh) (w:World) (ai:Gh) (w':World):Prop where
 size:w.heap.size≤w'.heap.size
 same:w'.tape=w.tape∧w'.os=w.os∧w'.output=w.output
 gone:γ.Gone k↔ai.Gone k
 live:¬γ.Gone k→ai.st k=γ.st k∧(∀b,ai.ow k b↔γ.ow k b)∧(∀b,ai.ro k b↔γ.ro k b)∧ai.ph=γ.ph∧(ai.wm= .la k↔γ.wm= .la k)∧(ai.wm= .lb k↔γ.wm= .lb k)∧
  (∀b,γ.ow k b∨γ.ro k b→w'.heap[b]?=w.heap[b]?)∧∀a,γ.Slot k a→w'.cell? a=w.cell? a
structure RM (γ:Gh) (w:World) (ai:Gh) (w':World):Prop where
 size:w.heap.size≤w'.heap.size
 same:w'.tape=w.tape∧w'.os=w.os∧w'.output=w.output
 gh:ai.sh=γ.sh∧ai.ph=γ.ph∧ai.ro=γ.ro∧ai.extra=γ.extra∧ai.j=γ.j
 none:γ.ph=none→ai=γ∧w'.heap=w.heap
 ow:∀k b,b<w.heap.size→(ai.ow k b↔γ.ow k b)
 heap:∀b,b<w.heap.size→(∀k,¬γ.ow k b)→¬γ.sh b→(∀p,γ.ph=some p→b≠p.A)→w'.heap[b]?=w.heap[b]?
 wm:γ.wm= .op↔ai.wm= .op
 le:∀p,γ.ph=some p→cnt ai.st p.j0 (γ.j-p.j0)≤cnt γ.st p.j0 (γ.j-p.j0)
def RR (k:Nat):Gh→World→Gh→World→Prop:=if k=0 then RM else RW k
theorem RW.refl (k:Nat)(γ:Gh)(w:World):RW k γ w γ w:=⟨Nat.le_refl _,⟨rfl,rfl,rfl⟩,.rfl,fun _=>⟨rfl,fun _=> .rfl,fun _=> .rfl,rfl,.rfl,.rfl,fun _ _=>rfl,fun _ _=>rfl⟩⟩
theorem RM.refl (γ:Gh)(w:World):RM γ w γ w:=⟨Nat.le_refl _,⟨rfl,rfl,rfl⟩,⟨rfl,rfl,rfl,rfl,rfl⟩,fun _=>⟨rfl,rfl⟩,fun _ _ _=> .rfl,fun _ _ _ _ _=>rfl,.rfl,fun _ _=>Nat.le_refl _⟩
theorem RW.trans {k:Nat}{a b c:Gh}{u v w:World}(h:RW k a u b v)(g:RW k b v c w):RW k a u c w:=by
 refine⟨Nat.le_trans h.size g.size,⟨g.same.1.trans h.same.1,g.same.2.1.trans h.same.2.1,g.same.2.2.trans h.same.2.2⟩,h.gone.trans g.gone,fun hn=>?_⟩
 obtain⟨a1,a2,a3,a4,a5,a6,a7,a8⟩:=h.live hn;obtain⟨b1,b2,b3,b4,b5,b6,b7,b8⟩:=g.live fun x=>hn (h.gone.2 x)
 refine⟨b1.trans a1,fun x=>(b2 x).trans (a2 x),fun x=>(b3 x).trans (a3 x),b4.trans a4,b5.trans a5,b6.trans a6,fun x hx=>(b7 x ?_).trans (a7 x hx),fun x hx=>(b8 x ?_).trans (a8 x hx)⟩
 ·exact hx.imp (a2 x).2 (a3 x).2
 ·unfold Gh.Slot at hx⊢
  rwa[a4]
theorem RM.trans {a b c:Gh}{u v w:World}(h:RM a u b v)(g:RM b v c w):RM a u c w:=by
 obtain⟨a1,a2,a3,a4,a5⟩:=h.gh;obtain⟨b1,b2,b3,b4,b5⟩:=g.gh;refine⟨Nat.le_trans h.size g.size,⟨g.same.1.trans h.same.1,g.same.2.1.trans h.same.2.1,g.same.2.2.trans h.same.2.2⟩,⟨b1.trans a1,b2.trans a2,b3.trans a3,b4.trans a4,b5.trans a5⟩,fun hn=>?_,
  fun k x hx=>(g.ow k x (Nat.lt_of_lt_of_le hx h.size)).trans (h.ow k x hx),fun x hx h1 h2 h3=>?_,h.wm.trans g.wm,fun p hp=>?_⟩
 ·obtain⟨e1,e2⟩:=h.none hn
  subst e1;obtain⟨e3,e4⟩:=g.none hn;exact⟨e3,e4.trans e2⟩
 ·rw[g.heap x (Nat.lt_of_lt_of_le hx h.size) (fun k hk=>h1 k ((h.ow k x hx).1 hk)) (a1▸h2) (fun p hp=>h3 p (a2▸hp)),h.heap x hx h1 h2 h3]
 ·have:=g.le p (a2▸hp)
  rw[a5]at this;exact Nat.le_trans this (h.le p hp)
theorem JJ.draw {γ:Gh}{w:World}{t:Trace}{j:Nat}(h:JJ γ w t j)(d:Nat):JJ γ (w.at d) t j:=
 ⟨h.tj,h.ba,h.j,h.ox,h.mO,h.dL,h.none,h.out,fun p hp=>let x:=h.phase p hp;⟨x.j0,x.jn,x.n5,x.sh,x.Alt,x.wg,x.reg,x.la,x.rel,x.arr⟩⟩
theorem JJ.sub {γ:Gh}{w:World}{t u:Trace}{j:Nat}(h:JJ γ w t j)(hu:TJ γ w.heap.size u j):JJ γ w u j:=⟨hu,h.ba,h.j,h.ox,h.mO,h.dL,h.none,h.out,h.phase⟩
theorem tK {e:Event}(h:e.mute=true)(B:Nat):(MemAct.ofEvent e).touch?=none∧(MemAct.ofEvent e).low B∧∀a,MemAct.ofEvent e≠.mark (.release a):=by
 refine⟨touch_mute h,low_mute h B,fun a=>?_⟩
 obtain⟨loc,wr,sy⟩:=e
 cases loc<;>simp_all[Event.mute]
 rename_i m
 cases m<;>simp_all[MemAct.ofEvent]
def sys (P:Program):Sys P Gh where
 J:=JJ
 R:=RR
 Bl:=fun γ _=>γ.wm≠.rel
 Gone:=Gh.Gone
 refl:=fun k γ w=>by
  unfold RR;split
  ·exact RM.refl γ w
  ·exact RW.refl k γ w
 trans:=fun {k a u b v c w} h g=>by
  unfold RR at*;by_cases hk:k=0
  ·simp only[if_pos hk]at*
   exact RM.trans h g
  ·simp only[if_neg hk]at*
   exact RW.trans h g
 Wx:=fun d h=>h.draw d
 Cm:=fun k γ w d=>by
  unfold RR;split
  ·exact⟨Nat.le_refl _,⟨rfl,rfl,rfl⟩,⟨rfl,rfl,rfl,rfl,rfl⟩,fun _=>⟨rfl,rfl⟩,fun _ _ _=> .rfl,fun _ _ _ _ _=>rfl,.rfl,fun _ _=>Nat.le_refl _⟩
  ·exact⟨Nat.le_refl _,⟨rfl,rfl,rfl⟩,.rfl,fun _=>⟨rfl,fun _=> .rfl,fun _=> .rfl,rfl,.rfl,.rfl,fun _ _=>rfl,fun _ _=>rfl⟩⟩
 Rr:=fun _ _ _=> .rfl
 Rs:=fun h=>h.tj.ct.gs
 mute:=fun fn pos es h hg k1 kj hm=>h.sub (h.tj.still h.ba kj fun e he=>tK (hm e he) _)
end Go.Proofs.YtabjbdnokpjipaaGreat.Sr
namespace Go.Proofs.YtabjbdnokpjipaaGreat.Sr
open Go Go.Conc Go.ConcN
section
variable {γ:Gh}{w w1:World}{t:Trace}{j k:Nat}{p:Ph}{fn:FuncId}{pos:String}{es:Array Event}
abbrev bG (w w1:World):Prop:=w1.tape=w.tape∧w1.os=w.os∧w1.output=w.output
def Gh.grow (γ:Gh)(k a b:Nat):Gh:={γ with ow:=fun i x=>γ.ow i x∨(i=k∧a≤x∧x<b)}
theorem JJ.lt (h:JJ γ w t j)(hp:γ.ph=some p):p.wg<w.heap.size∧p.A<w.heap.size∧p.wg≠p.A:=by
 have x:=h.phase p hp;exact⟨h.dL _ x.sh,x.Alt,fun e=>(h.ba.A p hp).2 (e▸x.sh)⟩
theorem BA.grow (h:JJ γ w t j)(hs:w.heap.size≤w1.heap.size):BA (γ.grow k w.heap.size w1.heap.size):=by
 refine⟨?_,?_,?_,h.ba.xC,fun p hp=>?_⟩
 ·rintro i i' b (h1|⟨rfl,h1,_⟩) (h2|⟨rfl,h2,_⟩)
  ·exact h.ba.ow _ _ _ h1 h2
  ·have:=h.ox _ _ h1;omega
  ·have:=h.ox _ _ h2;omega
  ·rfl
 ·rintro i i' b (h1|⟨rfl,h1,_⟩) h2
  ·exact h.ba.tI _ _ _ h1 h2
  ·have:=h.mO _ _ h2;omega
 ·rintro i b (h1|⟨rfl,h1,_⟩) h2
  ·exact h.ba.vF _ _ h1 h2
  ·have:=h.dL _ h2;omega
 ·obtain⟨h1,h2⟩:=h.ba.A p hp
  have:=(h.lt hp).2.1
  refine⟨fun i=>⟨?_,(h1 i).2⟩,h2⟩
  rintro(h3|⟨rfl,h3,_⟩)
  ·exact(h1 i).1 h3
  ·omega
theorem cell_of {w w':World}{a:Addr}(h:w'.heap[a.block]?=w.heap[a.block]?):w'.cell? a=w.cell? a:=by
 unfold World.cell?;rw[h]
theorem ae3 (h:JJ γ w t j)(hp:γ.ph=some p)(hk:p.j0<k)(kj:k≤j)(hb:γ.st k= .busy)(iy:bG w w1)(hs:w.heap.size≤w1.heap.size)(hh:∀b,b<w.heap.size→¬γ.ow k b→w1.heap[b]?=w.heap[b]?)
  (bh:∀e∈es,Tk (γ.grow k w.heap.size w1.heap.size) k w1.heap.size e):
  JJ (γ.grow k w.heap.size w1.heap.size) w1 (t++MemOp.ofEvents k fn pos es) j∧∀k',k'≠k→RR k' γ w (γ.grow k w.heap.size w1.heap.size) w1:=by
 have kZ:=BA.grow (k:=k) h hs;obtain⟨l1,l2,l3⟩:=h.lt hp;have x:=h.phase p hp;refine⟨⟨(h.tj.grow hs h.dL k).worker kZ (Nat.le_refl _) hp hk kj hb bh,kZ,h.j,?_,fun i b hi=>Nat.lt_of_lt_of_le (h.mO i b hi) hs,fun b hi=>Nat.lt_of_lt_of_le (h.dL b hi) hs,fun e=>?_,fun p' bw i hi=>?_,fun p' bw=>?_⟩,fun k' cM=>?_⟩
 ·rintro i b (h1|⟨_,_,h1⟩)
  ·exact Nat.lt_of_lt_of_le (h.ox i b h1) hs
  ·exact h1
 ·have:γ.ph=none:=e
  rw[hp]at this;cases this
 ·have e:γ.ph=some p':=bw
  rw[hp]at e;cases e;obtain⟨h1,h2⟩:=h.out p hp i hi;refine⟨h1,fun b=>⟨?_,(h2 b).2⟩⟩
  rintro(h3|⟨rfl,_⟩)
  ·exact(h2 b).1 h3
  ·rw[hb]at h1;cases h1
 ·have e:γ.ph=some p':=bw
  rw[hp]at e;cases e;have hwg:w1.heap[p.wg]?=w.heap[p.wg]?:=hh _ l1 fun o=>h.ba.vF _ _ o x.sh
  have hA:w1.heap[p.A]?=w.heap[p.A]?:=hh _ l2 ((h.ba.A p hp).1 k).1
  obtain⟨cs,a1,a2,a3⟩:=x.arr;exact⟨x.j0,x.jn,x.n5,x.sh,Nat.lt_of_lt_of_le l2 hs,hwg.trans x.wg,x.reg,x.la,x.rel,cs,hA.trans a1,a2,a3⟩
 ·unfold RR
  split
  ·refine⟨hs,iy,⟨rfl,rfl,rfl,rfl,rfl⟩,fun e=>?_,fun i b ak=>⟨?_,.inl⟩,fun b ak h1 _ _=>hh b ak (h1 k),.rfl,fun _ _=>Nat.le_refl _⟩
   ·rw[hp]at e;cases e
   ·rintro(h3|⟨_,h3,_⟩)
    ·exact h3
    ·omega
  ·refine⟨hs,iy,.rfl,fun _=>⟨rfl,fun b=>⟨?_,.inl⟩,fun _=> .rfl,rfl,.rfl,.rfl,fun b cT=>?_,fun a ha=>?_⟩⟩
   ·rintro(h3|⟨h3,_⟩)
    ·exact h3
    ·exact absurd h3 cM
   ·refine hh b ?_ fun o=>?_
    ·exact cT.elim (h.ox _ _) (h.mO _ _)
    ·exact cT.elim (fun x=>cM (h.ba.ow _ _ _ x o)) (fun x=>h.ba.tI _ _ _ o x)
   ·obtain⟨p',bw,_,zb,_⟩:=ha
    rw[hp]at bw;cases bw;exact cell_of (by rw[zb];exact hh _ l2 ((h.ba.A p hp).1 k).1)
theorem WE (h:JJ γ w t j)(hp:γ.ph=some p)(hk:p.j0<k)(kj:k≤j)(hb:γ.st k= .busy)(iy:bG w w1)(hs:w1.heap.size=w.heap.size)(hh:∀b,b≠p.A→w1.heap[b]?=w.heap[b]?)
  (hA:∀cs,w.heap[p.A]?=some (.cells cs p.eA)→∃cz,w1.heap[p.A]?=some (.cells cz p.eA)∧cz.size=cs.size∧∀o,¬(5*(k-p.j0-1)≤o∧o<5*(k-p.j0-1)+5)→cz[o]?=cs[o]?) (bh:∀e∈es,Tk γ k w.heap.size e):
  JJ γ w1 (t++MemOp.ofEvents k fn pos es) j∧∀k',k'≠k→RR k' γ w γ w1:=by
 obtain⟨l1,l2,l3⟩:=h.lt hp;have x:=h.phase p hp;obtain⟨cs,a1,a2,a3⟩:=x.arr;obtain⟨cz,b1,b2,b3⟩:=hA cs a1;refine⟨⟨hs▸h.tj.worker h.ba (Nat.le_refl _) hp hk kj hb bh,h.ba,h.j,hs▸h.ox,hs▸h.mO,hs▸h.dL,h.none,h.out,fun p' bw=>?_⟩,fun k' cM=>?_⟩
 ·rw[hp]at bw;cases bw
  refine⟨x.j0,x.jn,x.n5,x.sh,hs▸l2,(hh _ l3).trans x.wg,x.reg,x.la,x.rel,cz,b1,b2.trans a2,fun i i1 i2 i3 c hc=>?_⟩
  have cf:i≠k:=fun e=>i3 (e▸hb)
  rw[b3 _ (by omega)]
  exact a3 i i1 i2 i3 c hc
 ·unfold RR
  split
  ·refine⟨Nat.le_of_eq hs.symm,iy,⟨rfl,rfl,rfl,rfl,rfl⟩,fun e=>?_,fun _ _ _=> .rfl,fun b ak h1 _ h3=>hh b (h3 p hp),.rfl,fun _ _=>Nat.le_refl _⟩
   rw[hp]at e;cases e
  ·refine⟨Nat.le_of_eq hs.symm,iy,.rfl,fun _=>⟨rfl,fun _=> .rfl,fun _=> .rfl,rfl,.rfl,.rfl,fun b cT=>hh b ?_,fun a ha=>?_⟩⟩
   ·rintro rfl
    exact cT.elim ((h.ba.A p hp).1 _).1 ((h.ba.A p hp).1 _).2
   ·obtain⟨p',bw,Z8,zb,h4,h5⟩:=ha
    rw[hp]at bw;cases bw;unfold World.cell?;rw[zb,a1,b1];simp only
    rw[b3 _ (by omega)]
theorem OG (h:JJ γ w t j)(hp:γ.ph=some p)(hk:p.j0<k)(kj:k≤j)(hb:γ.st k= .busy)(hd:Deaf t k=0)(hc:∀c,c<5→w.cell? ⟨p.A,5*(k-p.j0-1)+c,none⟩=some (p.o8 (k-p.j0-1) c)):
  JJ {γ with st:=fun i=>if i=k then .said else γ.st i} w (t++MemOp.ofEvents k fn pos #[⟨.mark (.releaseMerge ⟨p.wg,0,none⟩),false,true⟩]) j∧∀k',k'≠k→RR k' γ w {γ with st:=fun i=>if i=k then .said else γ.st i} w:=by
 obtain⟨l1,l2,l3⟩:=h.lt hp;have x:=h.phase p hp;obtain⟨cs,a1,a2,a3⟩:=x.arr;have ec:∀j0 m,cnt (fun i=>if i=k then lE.said else γ.st i) j0 m=cnt γ.st j0 m:=fun j0 m=>qY fun i _ _=>by
  by_cases e:i=k
  ·subst e;simp[hb]
  ·simp[e]
 have kZ:BA {γ with st:=fun i=>if i=k then .said else γ.st i}:=⟨h.ba.ow,h.ba.tI,h.ba.vF,h.ba.xC,h.ba.A⟩
 have ev:∀q,Gh.v {γ with st:=fun i=>if i=k then .said else γ.st i} q=γ.v q:=fun q=>by unfold Gh.v;rw[ec]
 refine⟨⟨h.tj.release h.ba hp hk kj hd l1,kZ,h.j,h.ox,h.mO,h.dL,fun e=>?_,fun p' bw i hi=>?_,fun p' bw=>?_⟩,fun k' cM=>?_⟩
 ·have:γ.ph=none:=e
  rw[hp]at this;cases this
 ·have e:γ.ph=some p':=bw
  rw[hp]at e;cases e;obtain⟨h1,h2⟩:=h.out p hp i hi;refine⟨?_,h2⟩;have cf:i≠k:=fun e=>by rw[e,hb]at h1;cases h1
  simp[cf,h1]
 ·have e:γ.ph=some p':=bw
  rw[hp]at e;cases e;refine⟨x.j0,x.jn,x.n5,x.sh,l2,by rw[ev];exact x.wg,fun e=>by rw[ev];exact x.reg e,fun i hi=>?_,fun e=>by rw[ev];exact x.rel e,cs,a1,a2,fun i i1 i2 i3 c cI=>?_⟩
  ·obtain⟨c1,c2,c3,c4⟩:=x.la i hi
   have cf:i≠k:=fun e=>by rw[e,hb]at c4;cases c4
   exact⟨by rw[ev];exact c1,c2,c3,by simp[cf,c4]⟩
  ·by_cases He:i=k
   ·subst He
    have:=hc c cI
    unfold World.cell? at this;rw[a1]at this;simpa using this
   ·exact a3 i i1 i2 (by simpa[He]using i3) c cI
 ·unfold RR
  split
  ·refine⟨Nat.le_refl _,⟨rfl,rfl,rfl⟩,⟨rfl,rfl,rfl,rfl,rfl⟩,fun e=>?_,fun _ _ _=> .rfl,fun _ _ _ _ _=>rfl,.rfl,fun q _=>by rw[ec];exact Nat.le_refl _⟩
   rw[hp]at e;cases e
  ·have es:(if k'=k then lE.said else γ.st k')=γ.st k':=if_neg cM
   refine⟨Nat.le_refl _,⟨rfl,rfl,rfl⟩,?_,fun _=>⟨es,fun _=> .rfl,fun _=> .rfl,rfl,.rfl,.rfl,fun _ _=>rfl,fun _ _=>rfl⟩⟩
   unfold Gh.Gone;simp only[es]
end
end Go.Proofs.YtabjbdnokpjipaaGreat.Sr
namespace Go.Proofs.YtabjbdnokpjipaaGreat.Sr
open Go Go.Conc Go.ConcN
section
variable {γ:Gh}{w w1:World}{t:Trace}{j k:Nat}{p:Ph}{fn:FuncId}{pos:String}{es:Array Event}
theorem JO (h:JJ γ w t j)(k1:1≤k)(kj:k≤j)(bh:Bb γ (Deaf t k) w.heap.size es):JJ γ w (t++MemOp.ofEvents k fn pos es) j∧∀k',k'≠k→RR k' γ w γ w:=
 ⟨h.sub (h.tj.said h.ba k1 kj bh),fun k' _=>(sys default).refl k' γ w⟩
def Gh.gC (γ:Gh)(st:Nat→lE)(wm:WM):Gh:={γ with st,wm}
theorem tM (hp:γ.ph=some p)(nM:γ.sh p.wg)(kZ:BA γ)(hs:w1.heap.size=w.heap.size)(iy:bG w w1)(hh:∀b,b≠p.wg→w1.heap[b]?=w.heap[b]?){st:Nat→lE}{wm:WM}
  (aZ:∀i,i≠k→st i=γ.st i) (hwm:∀i,i≠k→1≤i→(wm= .la i↔γ.wm= .la i)∧(wm= .lb i↔γ.wm= .lb i)) (h0:k≠0→(γ.wm= .op↔wm= .op)∧cnt st p.j0 (γ.j-p.j0)≤cnt γ.st p.j0 (γ.j-p.j0)):
  ∀k',k'≠k→RR k' γ w (γ.gC st wm) w1:=by
 intro k' cM;unfold RR;split
 ·rename_i e
  subst e;obtain⟨c1,c2⟩:=h0 (Ne.symm cM);refine⟨Nat.le_of_eq hs.symm,iy,⟨rfl,rfl,rfl,rfl,rfl⟩,fun e=>?_,fun _ _ _=> .rfl,fun b _ _ h2 _=>hh b fun e=>h2 (e▸nM),c1,fun q hq=>?_⟩
  ·rw[hp]at e;cases e
  ·rw[hp]at hq;cases hq;exact c2
 ·rename_i e
  obtain⟨d1,d2⟩:=hwm k' cM (by omega)
  refine⟨Nat.le_of_eq hs.symm,iy,?_,fun _=>⟨aZ k' cM,fun _=> .rfl,fun _=> .rfl,rfl,d1,d2,fun b hb=>hh b ?_,fun a ha=>cell_of (hh _ ?_)⟩⟩
  ·unfold Gh.Gone Gh.gC
   simp only[aZ k' cM,ne_eq,d1,d2]
  ·rintro rfl
   exact hb.elim (fun x=>kZ.vF _ _ x nM) (fun x=>kZ.xC _ _ x nM)
  ·obtain⟨q,hq,_,hA,_⟩:=ha
   rw[hp]at hq;cases hq;rw[hA];exact fun e=>(kZ.A p hp).2 (e▸nM)
theorem xE (h:JJ γ w t j)(hp:γ.ph=some p)(hs:w1.heap.size=w.heap.size)(hh:∀b,b≠p.wg→w1.heap[b]?=w.heap[b]?){st:Nat→lE}{wm:WM}{u:Trace}(hu:TJ (γ.gC st wm) w1.heap.size u j)
  (JA:∀i,i≤p.j0∨γ.j<i→st i=γ.st i) (hph:let ai:=γ.gC st wm
   w1.heap[p.wg]?=some (di p.eW (bo wm (ai.v p)) (Cs wm))∧(wm= .reg→γ.extra=0∧0<ai.v p)∧(∀i,wm= .la i∨wm= .lb i→ai.v p=0∧p.j0<i∧i≤γ.j∧st i= .off)∧(wm= .rel→ai.v p=0)) (Hf:∀i,γ.st i= .busy→st i= .busy):
  JJ (γ.gC st wm) w1 u j:=by
 obtain⟨l1,l2,l3⟩:=h.lt hp;have x:=h.phase p hp;obtain⟨g1,g2,g3,g4⟩:=hph;refine⟨hu,⟨h.ba.ow,h.ba.tI,h.ba.vF,h.ba.xC,h.ba.A⟩,h.j,hs▸h.ox,hs▸h.mO,hs▸h.dL,fun e=>?_,fun p' bw i hi=>?_,fun p' bw=>?_⟩
 ·have:γ.ph=none:=e
  rw[hp]at this;cases this
 ·have e:γ.ph=some p':=bw
  rw[hp]at e;cases e;obtain⟨h1,h2⟩:=h.out p hp i hi;exact⟨(JA i hi).trans h1,h2⟩
 ·have e:γ.ph=some p':=bw
  rw[hp]at e;cases e;obtain⟨cs,a1,a2,a3⟩:=x.arr;refine⟨x.j0,x.jn,x.n5,x.sh,hs▸l2,g1,g2,g3,g4,cs,(hh _ (Ne.symm l3)).trans a1,a2,fun i i1 i2 i3 c hc=>a3 i i1 i2 (fun e=>i3 (Hf i e)) c hc⟩
def oy (γ:Gh)(k:Nat):Nat→lE:=fun i=>if i=k then .off else γ.st i
theorem WG (h:JJ γ w t j)(hp:γ.ph=some p)(hk:p.j0<k)(kj:k≤j)(hb:γ.st k≠.off)(wm:WM):γ.v p=(γ.gC (oy γ k) wm).v p+1∧cnt γ.st p.j0 (γ.j-p.j0)=cnt (oy γ k) p.j0 (γ.j-p.j0)+1:=by
 have x:=(h.phase p hp).j0;have:=Cr (st:=γ.st) (m:=γ.j-p.j0) hk (by rw[h.j]at*;omega) hb
 refine⟨?_,this⟩;unfold Gh.v Gh.gC;simp only
 have e:cnt γ.st p.j0 (γ.j-p.j0)=cnt (oy γ k) p.j0 (γ.j-p.j0)+1:=this
 omega
theorem Hg {ai:Gh}(h1:ai.sh=γ.sh){d B:Nat}(h:Bb γ d B es):Bb ai d B es:=fun i e hi=>⟨(h i e hi).1.imp id fun⟨⟨ad,wr,a,b⟩,c⟩=>⟨⟨ad,wr,a,h1▸b⟩,c⟩,(h i e hi).2⟩
theorem TJ.gC {st:Nat→lE}{wm:WM}{B:Nat}(h:TJ γ B t j)(aZ:∀i,γ.st i= .busy→st i= .busy):TJ (γ.gC st wm) B t j:=
 ⟨h.ct,h.low,h.over,fun p hp i i1 i2 i3=>h.rel p hp i i1 i2 fun e=>i3 (aZ i e),h.norel,h.old⟩
theorem BA.gC {st:Nat→lE}{wm:WM}(h:BA γ):BA (γ.gC st wm):=⟨h.ow,h.tI,h.vF,h.xC,h.A⟩
theorem Tm {wm:WM}{v:Nat}(k:Nat)(bf:wm= .op∨wm= .reg)(hv:1≤v):bo wm v-bW=bo (if wm= .reg∧v=1 then WM.la k else wm) (v-1)∧Cs (if wm= .reg∧v=1 then WM.la k else wm)=0:=by
 obtain⟨n,rfl⟩:∃n,v=n+1:=⟨v-1,by omega⟩
 have e:((n+1:Nat):Int)*bW=n*bW+bW:=by rw[Int.natCast_add,Int.natCast_one,Int.add_mul,Int.one_mul]
 rcases bf with rfl|rfl
 ·rw[if_neg (by simp)]
  refine⟨?_,rfl⟩;show((n+1:Nat):Int)*bW-bW=((n+1-1:Nat):Int)*bW
  rw[e,Nat.add_sub_cancel];exact Int.add_sub_cancel _ _
 ·by_cases hn:n=0
  ·subst hn
   rw[if_pos ⟨rfl,rfl⟩];refine⟨?_,rfl⟩;show((0+1:Nat):Int)*bW+1-bW=1
   rw[e];show(0:Int)*bW+bW+1-bW=1
   generalize bW=z;rw[Int.zero_mul];omega
  ·rw[if_neg (by simp[hn])]
   refine⟨?_,rfl⟩;show((n+1:Nat):Int)*bW+1-bW=((n+1-1:Nat):Int)*bW+1
   rw[e,Nat.add_sub_cancel];generalize(n:Int)*bW=y;generalize bW=z;omega
theorem abY (h:JJ γ w t j)(hp:γ.ph=some p)(hk:p.j0<k)(kj:k≤j)(hb:γ.st k= .said)(iy:bG w w1)(hs:w1.heap.size=w.heap.size)(hh:∀b,b≠p.wg→w1.heap[b]?=w.heap[b]?)
  (hw:w1.heap[p.wg]?=some (di p.eW (bo γ.wm (γ.v p)-bW) 0)) (bh:Bb γ (Deaf t k) w.heap.size es):
  let wm:=if γ.wm= .reg∧γ.v p=1 then WM.la k else γ.wm
  (γ.wm= .op∨γ.wm= .reg)∧1≤γ.v p∧JJ (γ.gC (oy γ k) wm) w1 (t++MemOp.ofEvents k fn pos es) j∧∀k',k'≠k→RR k' γ w (γ.gC (oy γ k) wm) w1:=by
 intro wm;have x:=h.phase p hp;have vi:γ.st k≠.off:=by rw[hb];nofun
 have hv:=fun wm=>WG h hp hk kj vi wm
 have nH:=(hv wm).1;have bf:γ.wm= .op∨γ.wm= .reg:=by
  cases e:γ.wm with
  |op=>exact .inl rfl
  |reg=>exact .inr rfl
  |la i=>have:=(x.la i (.inl e)).1;omega
  |lb i=>have:=(x.la i (.inr e)).1;omega
  |rel=>have:=x.rel e;omega
 have Hf:∀i,γ.st i= .busy→oy γ k i= .busy:=fun i hi=>by
  unfold oy;rw[if_neg (fun e=>by rw[e,hb]at hi;cases hi)]
  exact hi
 refine⟨bf,by omega,xE h hp hs hh ?_ (fun i hi=>?_) ⟨?_,fun e=>?_,fun i e=>?_,fun e=>?_⟩ Hf,tM hp x.sh h.ba hs iy hh (fun i hi=>if_neg hi) (fun i hi _=>?_) fun _=>⟨?_,by have:=(hv wm).2;omega⟩⟩
 ·exact(hs▸h.tj.gC Hf:TJ (γ.gC (oy γ k) wm) w1.heap.size t j).said h.ba.gC (by omega) kj (Hg rfl (hs▸bh))
 ·unfold oy
  rw[if_neg (by rw[h.j]at hi;omega)]
 ·obtain⟨q1,q2⟩:=Tm k bf (by omega:1≤γ.v p)
  have e5:(γ.gC (oy γ k) wm).v p=γ.v p-1:=by omega
  rw[hw,e5,q1,q2]
 ·have e':(if γ.wm= .reg∧γ.v p=1 then WM.la k else γ.wm)= .reg:=e
  split at e'
  ·cases e'
  ·rename_i hn
   refine⟨(x.reg e').1,?_⟩;have:γ.v p≠1:=fun h1=>hn ⟨e',h1⟩
   omega
 ·have e':(if γ.wm= .reg∧γ.v p=1 then WM.la k else γ.wm)= .la i∨(if γ.wm= .reg∧γ.v p=1 then WM.la k else γ.wm)= .lb i:=e
  split at e'
  ·rename_i hc
   rcases e' with e'|e'
   ·cases e'
    exact⟨by omega,hk,by rw[h.j];exact kj,if_pos rfl⟩
   ·cases e'
  ·rcases bf with e2|e2<;>rw[e2]at e'<;>rcases e' with e'|e'<;>cases e'
 ·have e':(if γ.wm= .reg∧γ.v p=1 then WM.la k else γ.wm)= .rel:=e
  split at e'
  ·cases e'
  ·rcases bf with e2|e2<;>rw[e2]at e'<;>cases e'
 ·show((if γ.wm= .reg∧γ.v p=1 then WM.la k else γ.wm)=_↔_)∧((if γ.wm= .reg∧γ.v p=1 then WM.la k else γ.wm)=_↔_)
  rcases bf with e2|e2<;>rw[e2]
  ·simp
  ·split
   ·simp only[WM.la.injEq,reduceCtorEq,iff_self,and_true,iff_false]
    exact Ne.symm hi
   ·simp
 ·show _↔(if γ.wm= .reg∧γ.v p=1 then WM.la k else γ.wm)=_
  rcases bf with e2|e2<;>rw[e2]
  ·simp
  ·split<;>simp
theorem WH (h:JJ γ w t j)(hp:γ.ph=some p)(hl:γ.wm= .la k)(iy:bG w w1)(hs:w1.heap.size=w.heap.size)(hh:∀b,b≠p.wg→w1.heap[b]?=w.heap[b]?)
  (hw:w1.heap[p.wg]?=some (di p.eW 0 0)) (bh:Bb γ (Deaf t k) w.heap.size es):
  JJ (γ.gC γ.st (.lb k)) w1 (t++MemOp.ofEvents k fn pos es) j∧∀k',k'≠k→RR k' γ w (γ.gC γ.st (.lb k)) w1:=by
 have x:=h.phase p hp;obtain⟨c1,c2,c3,c4⟩:=x.la k (.inl hl);refine⟨xE h hp hs hh ?_ (fun i hi=>rfl) ⟨hw,nofun,fun i e=>?_,nofun⟩ fun _=>id,tM hp x.sh h.ba hs iy hh (fun i hi=>rfl) (fun i hi _=>?_) fun _=>⟨by rw[hl];simp,Nat.le_refl _⟩⟩
 ·exact(hs▸h.tj.gC (fun _=>id):TJ (γ.gC γ.st (.lb k)) w1.heap.size t j).said h.ba.gC (by omega) (by rw[←h.j];exact c3) (Hg rfl (hs▸bh))
 ·rcases e with e|e
  ·cases e
  ·cases e;exact⟨c1,c2,c3,c4⟩
 ·rw[hl]
  simp[Ne.symm hi]
theorem Z9 (h:JJ γ w t j)(hp:γ.ph=some p)(hl:γ.wm= .lb k)(iy:bG w w1)(hs:w1.heap.size=w.heap.size)(hh:∀b,b≠p.wg→w1.heap[b]?=w.heap[b]?)
  (hw:w1.heap[p.wg]?=some (di p.eW 0 1)) (bh:Bb γ (Deaf t k) w.heap.size es):
  JJ (γ.gC γ.st .rel) w1 (t++MemOp.ofEvents k fn pos es) j∧∀k',k'≠k→RR k' γ w (γ.gC γ.st .rel) w1:=by
 have x:=h.phase p hp;obtain⟨c1,c2,c3,c4⟩:=x.la k (.inr hl);refine⟨xE h hp hs hh ?_ (fun i hi=>rfl) ⟨hw,nofun,fun i e=>?_,fun _=>c1⟩ fun _=>id,tM hp x.sh h.ba hs iy hh (fun i hi=>rfl) (fun i hi _=>?_) fun _=>⟨by rw[hl];simp,Nat.le_refl _⟩⟩
 ·exact(hs▸h.tj.gC (fun _=>id):TJ (γ.gC γ.st .rel) w1.heap.size t j).said h.ba.gC (by omega) (by rw[←h.j];exact c3) (Hg rfl (hs▸bh))
 ·rcases e with e|e<;>cases e
 ·rw[hl]
  simp[Ne.symm hi]
end
end Go.Proofs.YtabjbdnokpjipaaGreat.Sr
