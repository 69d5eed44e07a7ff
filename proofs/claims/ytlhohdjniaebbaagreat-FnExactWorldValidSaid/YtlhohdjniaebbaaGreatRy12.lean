/-
What is proved: how the trace's law is kept by every kind of step and what rests on it. Conditions: as stated.
-/
import Derived.Test.YtlhohdjniaebbaaGreatRy11
set_option linter.unusedVariables false
set_option linter.unusedSimpArgs false
namespace Go.Proofs.YtlhohdjniaebbaaGreat.Sr
open Go Go.Conc Go.ConcN
section
variable {γ ah:Gh}{B B':Nat}{t u:Trace}{j k:Nat}{fn:FuncId}{pos:String}{es:Array Event}
def xD (γ:Gh)(d B:Nat)(es:Array Event):Prop:=∀i e,es[i]?=some e→((MemAct.ofEvent e).touch?=none∨((∃ad wr,e=⟨.cell ad,wr,true⟩∧γ.sh ad.block)∧0<deafBehind d (es.extract 0 i)))∧(MemAct.ofEvent e).low B∧∀a,MemAct.ofEvent e≠.mark (.release a)
theorem TJ.said (A:BA γ)(h:TJ γ B t j)(k1:1≤k)(kj:k≤j)(aR:xD γ (Deaf t k) B es):TJ γ B (t++MemOp.ofEvents k fn pos es) j:=by
 have mem:∀op∈MemOp.ofEvents k fn pos es,∃i e,es[i]?=some e∧op.g=k∧op.act= .ofEvent e:=fun op aW=>by
  obtain⟨e,he,h1,h2⟩:=fh aW;obtain⟨i,hi⟩:=Array.mem_iff_getElem?.1 he;exact⟨i,e,hi,h1,h2⟩
 have Wc:∀op∈MemOp.ofEvents k fn pos es,∀x,op.act.touch?=some x→γ.Sh x.loc∧x.kind= .atomic:=fun op aW x hx=>by
  obtain⟨i,e,hi,_,h2⟩:=mem op aW;rw[h2]at hx;rcases(aR i e hi).1 with h0|⟨⟨ad,wr,rfl,hs⟩,_⟩
  ·rw[h0]at hx;cases hx
  ·have:MemAct.ofEvent ⟨.cell ad,wr,true⟩= .access ⟨.cell ad,wr,true⟩:=by cases wr<;>rfl
   rw[this]at hx;simp only[MemAct.touch?,Option.some.injEq,if_true]at hx;subst hx;exact⟨⟨ad,rfl,hs⟩,rfl⟩
 refine⟨h.ct.appW A.apart k1 kj fun op aW=>?_,fun op aW=>?_,fun i g hg cv hc=>?_,fun p' bk k' cQ Dj hs=>?_,fun p' bk=>(h.norel p' bk).app fun op aW=>?_,tR h.old fun op aW=> .inr (.inl fun x hx=>(Wc op aW x hx).1)⟩
 ·obtain⟨i,e,hi,h1,h2⟩:=mem op aW
  refine⟨h1,fun x hx=> .inl ?_⟩
  have:=Wc op aW x hx
  exact⟨this.1,by rw[this.2];exact⟨nofun,nofun⟩⟩
 ·rcases Array.mem_append.1 aW with h1|h1
  ·exact h.low op h1
  ·obtain⟨i,e,hi,_,h2⟩:=mem op h1
   rw[h2];exact(aR i e hi).2.1
 ·
  rcases Nat.lt_or_ge i t.size with hi|hi
  ·rcases h.over i g (by rwa[g?_old hi]at hg) cv ((counts_old hi).1 hc)with⟨q,hq,hb⟩|h'
   ·have Y1:q<t.size:=by
     unfold Trace.g? at hq;obtain⟨z,hz,_⟩:=Option.map_eq_some_iff.1 hq;exact lt_size_of_getElem? hz
    exact .inl ⟨q,by rw[g?_old Y1];exact hq,hb_app _ hb⟩
   ·exact .inr h'
  ·exfalso
   obtain⟨x,hx,_,hk⟩:=hc;obtain⟨op,ho,lh⟩:=touch_of hx;have hj:(MemOp.ofEvents k fn pos es)[i-t.size]?=some op:=by
    rw[Array.getElem?_append]at ho;simpa[Nat.not_lt.2 hi]using ho
   have aW:=Array.mem_of_getElem? hj;have sG:=Wc op aW x lh;rw[sG.2]at hk;rcases hk with hk|⟨g',bf,hd⟩
   ·exact hk rfl
   ·have KL:g'=k:=by
     have:=dW op aW
     simp only[Trace.g?,ho,Option.map_some,Option.some.injEq]at bf;omega
    subst KL;rw[ofEvents_eq,Array.getElem?_map]at hj;obtain⟨e,he,rfl⟩:=Option.map_eq_some_iff.1 hj;rcases(aR _ e he).1 with h0|⟨_,hdf⟩
    ·simp only at lh;rw[h0]at lh;cases lh
    ·have:(t++MemOp.ofEvents g' fn pos es).deaf g' i=deafBehind (Deaf t g') (es.extract 0 (i-t.size)):=by
      have e1:t++MemOp.ofEvents g' fn pos es=(t++MemOp.ofEvents g' fn pos (es.extract 0 (i-t.size)))++MemOp.ofEvents g' fn pos (es.extract (i-t.size) es.size):=by
       rw[ofEvents_eq,ofEvents_eq,ofEvents_eq,Array.append_assoc,←Array.map_append];congr 2
       apply Array.ext_getElem?
       intro q;have aj:=(Array.getElem?_eq_some_iff.1 he).1;rw[Array.getElem?_append];simp only[Array.size_extract,Array.getElem?_extract];split
       ·rename_i hq
        simp
       ·rename_i hq
        split
        ·congr 1;omega
        ·rename_i FP
         rw[Array.getElem?_eq_none (by omega)]
      have jj:(t++MemOp.ofEvents g' fn pos (es.extract 0 (i-t.size))).size=i:=by
       have aj:=(Array.getElem?_eq_some_iff.1 he).1;rw[ofEvents_eq];simp
       omega
      rw[e1,deaf_old (by omega)]
      rw[←Deaf_own t g' fn pos];show _=Trace.deaf _ g' (Array.size _)
      rw[jj]
     omega
 ·obtain⟨r,pU,yM⟩:=h.rel p' bk k' cQ Dj hs
  by_cases Dk:k'=k
  ·subst Dk
   refine⟨r,pU.appOwn fn pos es fun i e he=>?_,fun i x hi pD hx=>?_⟩
   ·exact(aR i e he).1.imp id fun⟨⟨ad,wr,he,_⟩,hd⟩=>⟨⟨ad,wr,he⟩,hd⟩
   ·rcases pj hx with⟨h1,aj⟩|⟨op,aW,h1,_⟩
    ·exact yM i x hi (by rwa[g?_old aj]at pD) h1
    ·exact(Wc op aW x h1).1
  ·exact⟨r,lM ⟨pU,yM⟩ dW (Ne.symm Dk)⟩
 ·obtain⟨i,e,hi,_,h2⟩:=mem op aW
  rw[h2];exact(aR i e hi).2.2 _
def rj (γ:Gh)(j B:Nat)(e:Event):Prop:=(∀x,(MemAct.ofEvent e).touch?=some x→(γ.Sh x.loc∧x.kind≠.plain)∨(¬γ.Sh x.loc∧(∀k,1≤k→k≤j→¬γ.Own k x.loc)∧(x.write=true→∀k,1≤k→k≤j→¬γ.Rd k x.loc)))∧(MemAct.ofEvent e).low B∧∀a,MemAct.ofEvent e≠.mark (.release a)
theorem TJ.main (A:BA γ)(h:TJ γ B t j)(hB:B≤B')(aR:∀e∈es,rj γ j B' e):TJ γ B' (t++MemOp.ofEvents 0 fn pos es) j:=by
 refine⟨h.ct.app0 A.apart fun op aW=>?_,fun op aW=>?_,vE h.over fun op aW=> .inl (dW op aW),fun p' bk k' cQ Dj hs=>?_,fun p' bk=>(h.norel p' bk).app fun op aW=>?_,tR h.old fun op aW=> .inl (dW op aW)⟩
 ·obtain⟨e,he,h1,h2⟩:=fh aW
  exact⟨h1,fun x hx=>(aR e he).1 x (h2▸hx)⟩
 ·rcases Array.mem_append.1 aW with h1|h1
  ·exact MemAct.low_mono hB (h.low op h1)
  ·obtain⟨e,he,_,h2⟩:=fh h1
   rw[h2];exact(aR e he).2.1
 ·obtain⟨r,hr⟩:=h.rel p' bk k' cQ Dj hs
  exact⟨r,lM hr dW (by omega)⟩
 ·obtain⟨e,he,_,h2⟩:=fh aW
  rw[h2];exact(aR e he).2.2 _
theorem TJ.mono (h:TJ γ B t j)(hB:B≤B'):TJ γ B' t j:=⟨h.ct,fun op aW=>MemAct.low_mono hB (h.low op aW),h.over,h.rel,h.norel,h.old⟩
theorem TJ.still (A:BA γ)(h:TJ γ B t j){g:Nat}(gj:g≤j)(aR:∀e∈es,(MemAct.ofEvent e).touch?=none∧(MemAct.ofEvent e).low B∧∀a,MemAct.ofEvent e≠.mark (.release a)):TJ γ B (t++MemOp.ofEvents g fn pos es) j:=by
 rcases Nat.eq_zero_or_pos g with rfl|hg
 ·exact h.main A (Nat.le_refl _) fun e he=>⟨fun x hx=>(by rw[(aR e he).1]at hx;cases hx),(aR e he).2⟩
 ·exact h.said A hg gj fun i e hi=>⟨.inl (aR e (Array.mem_of_getElem? hi)).1,(aR e (Array.mem_of_getElem? hi)).2⟩
theorem TJ.release (A:BA γ)(h:TJ γ B t j){p:Ph}(hp:γ.ph=some p)(hk:p.j0<k)(kj:k≤j)(hd:Deaf t k=0)(hw:p.wg<B):
  TJ {γ with st:=fun i=>if i=k then .said else γ.st i} B (t++MemOp.ofEvents k fn pos #[⟨.mark (.releaseMerge ⟨p.wg,0,none⟩),false,true⟩]) j:=by
 have hb:TJ γ B (t++MemOp.ofEvents k fn pos #[⟨.mark (.releaseMerge ⟨p.wg,0,none⟩),false,true⟩]) j:=h.still A kj fun e he=>by
  simp at he;subst he;exact⟨rfl,hw,nofun⟩
 refine⟨hb.ct,hb.low,hb.over,fun p' bk k' cQ Dj hs=>?_,hb.norel,hb.old⟩
 by_cases Dk:k'=k
 ·subst Dk
  have e0:p'=p:=by have:=bk.symm.trans hp;exact Option.some.inj this
  subst e0;have hq:(t++MemOp.ofEvents k' fn pos #[⟨.mark (.releaseMerge ⟨p'.wg,0,none⟩),false,true⟩])[t.size]?=some ({g:=k',fn,pos,act:= .mark (.releaseMerge ⟨p'.wg,0,none⟩)}:MemOp):=by
   rw[ofEvents_eq,Array.getElem?_append_right (Nat.le_refl _)];simp[MemAct.ofEvent]
  have jj:(t++MemOp.ofEvents k' fn pos #[⟨.mark (.releaseMerge ⟨p'.wg,0,none⟩),false,true⟩]).size=t.size+1:=by rw[ofEvents_eq];simp
  refine⟨t.size,⟨by rw[act?_of hq],by simp[Trace.g?,hq],⟨k',by simp[Trace.g?,hq],by rw[deaf_old (Nat.le_refl _)];exact hd⟩,fun i hi hg=>?_⟩,fun i x hi hg=>?_⟩
  all_goals
   unfold Trace.g? at hg;obtain⟨z,hz,_⟩:=Option.map_eq_some_iff.1 hg;have:=lt_size_of_getElem? hz
   rw[jj]at this;omega
 ·have vF:γ.st k'≠.busy:=by simpa[Dk]using hs
  exact hb.rel p' bk k' cQ Dj vF
theorem TJ.same (h:TJ γ B t j)(h1:ah.sh=γ.sh)(h2:∀k,1≤k→k≤j→(∀l,ah.Own k l↔γ.Own k l)∧∀l,ah.Rd k l↔γ.Rd k l)(h3:∀k,k≤j→ah.st k=γ.st k)(h4:∀p',ah.ph=some p'→∃p,γ.ph=some p∧p.wg=p'.wg∧p.j0=p'.j0)
  (h5:∀p,γ.ph=some p→∃p',ah.ph=some p'∧p.wg=p'.wg∧p.j0=p'.j0):TJ ah B t j:=by
 have eS:ah.Sh=γ.Sh:=by unfold Gh.Sh;rw[h1]
 have h6:∀g,(∃p,γ.ph=some p∧p.j0<g)→∃p,ah.ph=some p∧p.j0<g:=fun g ⟨p,hp,hg⟩=>let⟨p',bk,_,e⟩:=h5 p hp;⟨p',bk,e▸hg⟩
 refine⟨ou h.ct (fun l hl=> .inl (eS▸hl)) (fun k k1 kj l hl=> .inl (((h2 k k1 kj).1 l).1 hl)) (fun k k1 kj l hl=> .inl (((h2 k k1 kj).2 l).1 hl)) (fun l hs hl=> .inl ⟨eS▸hs,fun k k1 kj=>⟨fun x=>(hl k k1 kj).1 (((h2 k k1 kj).1 l).2 x),fun x=>(hl k k1 kj).2 (((h2 k k1 kj).2 l).2 x)⟩⟩)
  (fun l hs hl=> .inl ⟨eS▸hs,fun k k1 kj x=>hl k k1 kj (((h2 k k1 kj).1 l).2 x)⟩),h.low,fun i g a b c=>(h.over i g a b c).imp id (h6 g),fun p' bk k hk kj hs=>?_,fun p' bk=>?_,fun i x g a b c=>(h.old i x g a (eS▸b) c).imp id (h6 g)⟩
 ·obtain⟨p,hp,e1,e2⟩:=h4 p' bk
  rw[←e1,eS];exact h.rel p hp k (by omega) kj (by rw[←h3 k kj];exact hs)
 ·obtain⟨p,hp,e1,e2⟩:=h4 p' bk
  rw[←e1];exact h.norel p hp
theorem TJ.fork (A:BA γ)(h:TJ γ B t j)(h0:Deaf t 0=0){p:Ph}(hp:γ.ph=some p)(hj:p.j0≤j)(hb:γ.st (j+1)= .busy){x y:MemOp}(hx:x.g=0∧x.act= .go (j+1))(hy:y.g=j+1∧y.act= .start):TJ γ B (t++ #[x,y]) (j+1):=by
 have hm:∀op∈ #[x,y],op=x∨op=y:=by intro op aW;simpa using aW
 have hn:∀op∈ #[x,y],op.act.touch?=none:=by
  intro op aW;rcases hm op aW with rfl|rfl
  ·rw[hx.2];rfl
  ·rw[hy.2];rfl
 refine⟨h.ct.fork A.apart hx hy h0,fun op aW=>?_,vE h.over fun op aW=> .inr (.inl (hn op aW)),fun p' bk k' cQ Dj hs=>?_,fun p' bk=>(h.norel p' bk).app fun op aW=>?_,tR h.old fun op aW=> .inr (.inl fun z hz=>by rw[hn op aW]at hz;cases hz)⟩
 ·rcases Array.mem_append.1 aW with h1|h1
  ·exact h.low op h1
  ·rcases hm op h1 with rfl|rfl
   ·rw[hx.2];trivial
   ·rw[hy.2];trivial
 ·have V':k'≤j:=by
   rcases Nat.lt_or_ge j k' with h'|h'
   ·obtain rfl:k'=j+1:=by omega
    exact absurd hb hs
   ·exact h'
  obtain⟨r,hr⟩:=h.rel p' bk k' cQ V' hs;have e:t++ #[x,y]=(t++ #[x])++ #[y]:=by apply Array.ext';simp
  rw[e];have Y2:∀op∈ #[x],op.g=0:=fun op aW=>by simp at aW;subst aW;exact hx.1
  have FQ:∀op∈ #[y],op.g=j+1:=fun op aW=>by simp at aW;subst aW;exact hy.1
  exact⟨r,lM (lM hr Y2 (by omega)) FQ (by omega)⟩
 ·rcases hm op aW with rfl|rfl
  ·rw[hx.2];nofun
  ·rw[hy.2];nofun
theorem TJ.grow (h:TJ γ B t j)(hB:B≤B')(ni:∀b,γ.sh b→b<B)(k0:Nat):TJ {γ with ow:=fun k b=>γ.ow k b∨(k=k0∧B≤b∧b<B')} B' t j:=by
 refine⟨ou h.ct (fun l hl=> .inl hl) (fun k k1 kj l hl=>?_) (fun k k1 kj l hl=> .inl hl) (fun l hs hl=> .inl ⟨hs,fun k k1 kj=>⟨fun x=>(hl k k1 kj).1 ?_,(hl k k1 kj).2⟩⟩) (fun l hs hl=> .inl ⟨hs,fun k k1 kj x=>hl k k1 kj ?_⟩),
  fun op aW=>MemAct.low_mono hB (h.low op aW),h.over,h.rel,h.norel,h.old⟩
 ·rcases hl with⟨b,hb,ho|⟨_,Y3,_⟩⟩|ho
  ·exact .inl (.inl ⟨b,hb,ho⟩)
  ·exact .inr (mJ h.low hb Y3)
  ·exact .inl (.inr ho)
 ·rcases x with⟨b,hb,ho⟩|ho
  ·exact .inl ⟨b,hb,.inl ho⟩
  ·exact .inr ho
 ·rcases x with⟨b,hb,ho⟩|ho
  ·exact .inl ⟨b,hb,.inl ho⟩
  ·exact .inr ho
theorem TJ.open (h:TJ γ B t j)(hB:B≤B')(hn:γ.ph=none)(dB:∀k b,¬γ.ow k b∧¬γ.ro k b)(p:Ph)(hj:p.j0=j)(hw:B≤p.wg)(st:Nat→jE)(wm:WM):TJ {γ with sh:=fun b=>γ.sh b∨b=p.wg,ph:=some p,st,wm} B' t j:=by
 have e1:∀k l,¬γ.Own k l:=by
  rintro k l (⟨b,_,ho⟩|⟨a,_,p',bk,_⟩)
  ·exact(dB k b).1 ho
  ·rw[hn]at bk;cases bk
 have e2:∀k l,¬γ.Rd k l:=fun k l ⟨b,_,ho⟩=>(dB k b).2 ho
 refine⟨ou h.ct (fun l hl=>?_) (fun k k1 kj l hl=>?_) (fun k k1 kj l hl=> .inl hl) (fun l hs hl=> .inl ⟨fun⟨a,ha,hx⟩=>hs ⟨a,ha,.inl hx⟩,fun k k1 kj=>⟨e1 k l,e2 k l⟩⟩) (fun l hs hl=> .inl ⟨fun⟨a,ha,hx⟩=>hs ⟨a,ha,.inl hx⟩,fun k k1 kj=>e1 k l⟩),
  fun op aW=>MemAct.low_mono hB (h.low op aW),fun i g a b c=>?_,fun p' bk k hk kj _=>?_,fun p' bk i hi=>?_,fun i x g a b c=>?_⟩
 ·obtain⟨a,rfl,hs|hs⟩:=hl
  ·exact .inl ⟨a,rfl,hs⟩
  ·exact .inr (mJ h.low rfl (hs▸hw))
 ·rcases hl with⟨b,_,ho⟩|⟨a,_,p',bk,hk,_⟩
  ·exact absurd ho (dB k b).1
  ·cases bk;omega
 ·rcases h.over i g a b c with h'|⟨p',bk,_⟩
  ·exact .inl h'
  ·rw[hn]at bk;cases bk
 ·cases bk;omega
 ·cases bk
  obtain⟨op,ho,hoa⟩:=Option.map_eq_some_iff.1 hi;have:=h.low op (Array.mem_of_getElem? ho)
  rw[hoa]at this;have:p.wg<B:=this
  omega
 ·rcases h.old i x g a (fun⟨q,hq,hs⟩=>b ⟨q,hq,.inl hs⟩) c with h'|⟨p',bk,_⟩
  ·exact .inl h'
  ·rw[hn]at bk;cases bk
theorem yN {t:Trace}{i:Nat}{op:MemOp}(h:t[i]?=some op):t.g? i=some op.g:=by simp[Trace.g?,h]
theorem TJ.join (A:BA γ)(h:TJ γ B t j){p:Ph}(hp:γ.ph=some p)(cS:∀k,p.j0<k→k≤j→γ.st k≠.busy)(h0:Deaf t 0=0)(hw:p.wg<B)(st:Nat→jE)(wm:WM):
  TJ {γ with ow:=fun _ _=>False,ro:=fun _ _=>False,ph:=none,st,wm} B (t++MemOp.ofEvents 0 fn pos #[⟨.mark (.acquire ⟨p.wg,0,none⟩),false,true⟩]) j:=by
 have hb:TJ γ B (t++MemOp.ofEvents 0 fn pos #[⟨.mark (.acquire ⟨p.wg,0,none⟩),false,true⟩]) j:=h.still A (Nat.zero_le _) fun e he=>by
  simp at he;subst he;exact⟨rfl,hw,nofun⟩
 have eu:MemOp.ofEvents 0 fn pos #[⟨.mark (.acquire ⟨p.wg,0,none⟩),false,true⟩]= #[({g:=0,fn,pos,act:= .mark (.acquire ⟨p.wg,0,none⟩)}:MemOp)]:=by rw[ofEvents_eq];simp[MemAct.ofEvent]
 rw[eu]at hb⊢;have hq:(t++ #[({g:=0,fn,pos,act:= .mark (.acquire ⟨p.wg,0,none⟩)}:MemOp)])[t.size]?=some {g:=0,fn,pos,act:= .mark (.acquire ⟨p.wg,0,none⟩)}:=by simp
 have hh:(t++ #[({g:=0,fn,pos,act:= .mark (.acquire ⟨p.wg,0,none⟩)}:MemOp)]).heard t.size:=⟨0,yN hq,by rw[deaf_old (Nat.le_refl _)];exact h0⟩
 have Yc:∀g,p.j0<g→g≤j→∃r,RelBy ⟨p.wg,0,none⟩ (t++ #[({g:=0,fn,pos,act:= .mark (.acquire ⟨p.wg,0,none⟩)}:MemOp)]) g r∧(∀i x,r<i→(t++ #[({g:=0,fn,pos,act:= .mark (.acquire ⟨p.wg,0,none⟩)}:MemOp)]).g? i=some g→touchAt (t++ #[({g:=0,fn,pos,act:= .mark (.acquire ⟨p.wg,0,none⟩)}:MemOp)]) i=some x→γ.Sh x.loc)∧
   HappensBefore (t++ #[({g:=0,fn,pos,act:= .mark (.acquire ⟨p.wg,0,none⟩)}:MemOp)]) r t.size:=by
  intro g hg gj;obtain⟨r,pU,yM⟩:=hb.rel p hp g hg gj (cS g hg gj);obtain⟨r',ab9,_⟩:=h.rel p hp g hg gj (cS g hg gj);refine⟨r,pU,yM,.single (.inr ⟨.marked ?_ (.inr pU.act) (by rw[act?_of hq]) (fun k _ _=>hb.norel p hp k),pU.heard,hh⟩)⟩
  have aj:=lt_of_act? pU.act;have cv:r≠t.size:=by
   rintro rfl;have:=pU.act
   rw[act?_of hq]at this
   cases this
  simp at aj
  omega
 have all:∀i x,touchAt (t++ #[({g:=0,fn,pos,act:= .mark (.acquire ⟨p.wg,0,none⟩)}:MemOp)]) i=some x→¬γ.Sh x.loc→Knows (t++ #[({g:=0,fn,pos,act:= .mark (.acquire ⟨p.wg,0,none⟩)}:MemOp)]) 0 i:=by
  intro i x hx hs;obtain⟨op,ho,lh⟩:=touch_of hx;rcases hb.old i x op.g hx hs (yN ho)with h'|⟨p',bk,hg⟩
  ·exact h'
  ·rw[hp]at bk;cases bk
   obtain⟨r,pU,yM,SE⟩:=Yc op.g hg (hb.ct.gs i op ho);have hle:i≤r:=Nat.le_of_not_lt fun aj=>hs (yM i x aj (yN ho) hx)
   refine⟨t.size,_,hq,rfl,.inr ?_⟩;rcases Nat.lt_or_ge i r with aj|AN
   ·exact .trans (.single (.inl ⟨aj,op.g,yN ho,pU.g⟩)) SE
   ·obtain rfl:i=r:=by omega
    exact SE
 have pm:∀l,¬γ.Sh l→Perm (t++ #[({g:=0,fn,pos,act:= .mark (.acquire ⟨p.wg,0,none⟩)}:MemOp)]) 0 l:=fun l hs i x hx e=>all i x hx (e▸hs)
 refine⟨ou hb.ct (fun l hl=> .inl hl) (fun k k1 kj l hl=>?_) (fun k k1 kj l hl=>?_) (fun l hs hl=> .inr (pm l hs)) (fun l hs hl=> .inr (.of (pm l hs))),hb.low,fun i g a b c=> .inl ?_,nofun,nofun,fun i x g a b c=> .inl (all i x a b)⟩
 ·rcases hl with⟨b,_,ho⟩|⟨a,_,p',bk,_⟩
  ·exact ho.elim
  ·cases bk
 ·obtain⟨b,_,ho⟩:=hl
  exact ho.elim
 ·rcases hb.over i g a b c with h'|⟨p',bk,hg⟩
  ·exact h'
  ·rw[hp]at bk;cases bk
   have gj:g≤j:=by
    unfold Trace.g? at a;obtain⟨op,ho,rfl⟩:=Option.map_eq_some_iff.1 a;exact hb.ct.gs i op ho
   obtain⟨r,pU,yM,SE⟩:=Yc g hg gj;have hle:i≤r:=Nat.le_of_not_lt fun aj=>pU.after i aj a c
   refine⟨t.size,yN hq,?_⟩;rcases Nat.lt_or_ge i r with aj|AN
   ·exact .trans (.single (.inl ⟨aj,g,a,pU.g⟩)) SE
   ·obtain rfl:i=r:=by omega
    exact SE
theorem TJ.init (γ:Gh)(B:Nat):TJ γ B #[] 0:=
 ⟨⟨fun i op x hi=>by simp at hi,fun k k1 kj=>by omega,fun k k1 kj=>by omega,fun l _ _ i x hx=>by simp[touchAt,Trace.act?]at hx,fun l _ _ i x hx=>by simp[touchAt,Trace.act?]at hx,fun said=>by rintro⟨i,q,_,⟨a,b,ha,_⟩,_⟩;simp[Trace.act?]at ha,fun i op hi=>by simp at hi⟩,
   fun op aW=>by simp at aW,fun i g hg=>by simp[Trace.g?]at hg,fun p _ k _ hk _=>by omega,fun p _ i hi=>by simp[Trace.act?]at hi,fun i x g hx=>by simp[touchAt,Trace.act?]at hx⟩
end
end Go.Proofs.YtlhohdjniaebbaaGreat.Sr
namespace Go.Proofs.YtlhohdjniaebbaaGreat.Sr
open Go Go.Conc Go.ConcN
def cnt (st:Nat→jE)(j0:Nat):Nat→Nat
 |0=>0
 |m+1=>cnt st j0 m+(if st (j0+m+1)= .off then 0 else 1)
theorem ov {st st':Nat→jE}{j0:Nat}:∀{m:Nat},(∀k,j0<k→k≤j0+m→(st k= .off↔st' k= .off))→cnt st j0 m=cnt st' j0 m
 |0,_=>rfl
 |m+1,h=>by
  simp only[cnt];rw[ov (m:=m) fun k h1 h2=>h k h1 (by omega)]
  have:=h (j0+m+1) (by omega) (by omega)
  simp[this]
theorem yO {st:Nat→jE}{j0 k:Nat}:∀{m:Nat},j0<k→k≤j0+m→st k≠.off→cnt st j0 m=cnt (fun i=>if i=k then .off else st i) j0 m+1
 |0,h1,h2,_=>by omega
 |m+1,h1,h2,h3=>by
  simp only[cnt];by_cases hk:k=j0+m+1
  ·subst hk
   rw[ov (m:=m) (st:=fun i=>if i=j0+m+1 then jE.off else st i) (st':=st) fun i _ hi=>by rw[if_neg (by omega)]]
   simp[h3]
  ·rw[yO (m:=m) h1 (by omega) h3]
   have:¬(j0+m+1=k):=fun e=>hk e.symm
   simp only[if_neg this];omega
theorem FT {st:Nat→jE}{j0:Nat}:∀{m:Nat},0<cnt st j0 m→∃k,j0<k∧k≤j0+m∧st k≠.off
 |0,h=>by simp[cnt]at h
 |m+1,h=>by
  simp only[cnt]at h;by_cases h1:st (j0+m+1)= .off
  ·obtain⟨k,a,b,c⟩:=FT (m:=m) (by simp[h1]at h;exact h)
   exact⟨k,a,by omega,c⟩
  ·exact⟨j0+m+1,by omega,by omega,h1⟩
theorem Pz {st:Nat→jE}{j0 m:Nat}(h:cnt st j0 m=0)(k:Nat)(h1:j0<k)(h2:k≤j0+m):st k= .off:=Classical.byContradiction fun hn=>by
 have:=yO h1 h2 hn
 omega
theorem xU {st:Nat→jE}{j0:Nat}:∀{m:Nat},cnt st j0 m≤m
 |0=>Nat.le_refl _
 |m+1=>by
  have:=xU (st:=st) (j0:=j0) (m:=m)
  simp only[cnt];split<;>omega
def bK:Int:=4294967296
def a_ (wm:WM)(v:Nat):Int:=match wm with
 | .op=>v*bK
 | .reg=>v*bK+1
 | .la _=>1
 |_=>0
def yP:WM→Int
 | .rel=>1
 |_=>0
def cD (e:TypeId)(st sm:Int):Obj:= .cells #[.int .u64 st,.int .u32 sm] e
def Gh.v (γ:Gh)(p:Ph):Nat:=cnt γ.st p.j0 (γ.j-p.j0)+γ.extra
structure Phase (γ:Gh) (w:World) (p:Ph):Prop where
 j0:p.j0≤γ.j
 jn:γ.j-p.j0+γ.extra≤p.n
 n5:p.n≤5
 sh:γ.sh p.wg
 Alt:p.A<w.heap.size
 wg:w.heap[p.wg]?=some (cD p.eW (a_ γ.wm (γ.v p)) (yP γ.wm))
 reg:γ.wm= .reg→γ.extra=0∧0<γ.v p
 la:∀k,γ.wm= .la k∨γ.wm= .lb k→γ.v p=0∧p.j0<k∧k≤γ.j∧γ.st k= .off
 rel:γ.wm= .rel→γ.v p=0
 arr:∃cs,w.heap[p.A]?=some (.cells cs p.eA)∧cs.size=5*p.n∧∀k,p.j0<k→k≤γ.j→γ.st k≠.busy→∀c,c<5→cs[5*(k-p.j0-1)+c]?=some (p.mB (k-p.j0-1) c)
structure JJ (γ:Gh) (w:World) (t:Trace) (j:Nat):Prop where
 tj:TJ γ w.heap.size t j
 ba:BA γ
 j:γ.j=j
 lN:∀k b,γ.ow k b→b<w.heap.size
 kv:∀k b,γ.ro k b→b<w.heap.size
 cX:∀b,γ.sh b→b<w.heap.size
 none:γ.ph=none→(∀k b,¬γ.ow k b∧¬γ.ro k b)∧(∀k,γ.st k= .off)∧γ.wm= .op
 out:∀p,γ.ph=some p→∀k,k≤p.j0∨γ.j<k→γ.st k= .off∧∀b,¬γ.ow k b∧¬γ.ro k b
 phase:∀p,γ.ph=some p→Phase γ w p
def Gh.Gone (γ:Gh)(k:Nat):Prop:=γ.st k= .off∧γ.wm≠.la k∧γ.wm≠.lb k
structure RW (k:Nat) (γ:Gh) (w:World) (ah:Gh) (w':World):Prop where
 size:w.heap.size≤w'.heap.size
 same:w'.tape=w.tape∧w'.os=w.os∧w'.output=w.output
 gone:γ.Gone k↔ah.Gone k
 live:¬γ.Gone k→ah.st k=γ.st k∧(∀b,ah.ow k b↔γ.ow k b)∧(∀b,ah.ro k b↔γ.ro k b)∧ah.ph=γ.ph∧(ah.wm= .la k↔γ.wm= .la k)∧(ah.wm= .lb k↔γ.wm= .lb k)∧
  (∀b,γ.ow k b∨γ.ro k b→w'.heap[b]?=w.heap[b]?)∧∀a,γ.Slot k a→w'.cell? a=w.cell? a
structure RM (γ:Gh) (w:World) (ah:Gh) (w':World):Prop where
 size:w.heap.size≤w'.heap.size
 same:w'.tape=w.tape∧w'.os=w.os∧w'.output=w.output
 gh:ah.sh=γ.sh∧ah.ph=γ.ph∧ah.ro=γ.ro∧ah.extra=γ.extra∧ah.j=γ.j
 none:γ.ph=none→ah=γ∧w'.heap=w.heap
 ow:∀k b,b<w.heap.size→(ah.ow k b↔γ.ow k b)
 heap:∀b,b<w.heap.size→(∀k,¬γ.ow k b)→¬γ.sh b→(∀p,γ.ph=some p→b≠p.A)→w'.heap[b]?=w.heap[b]?
 wm:γ.wm= .op↔ah.wm= .op
 le:∀p,γ.ph=some p→cnt ah.st p.j0 (γ.j-p.j0)≤cnt γ.st p.j0 (γ.j-p.j0)
def RR (k:Nat):Gh→World→Gh→World→Prop:=if k=0 then RM else RW k
theorem RW.refl (k:Nat)(γ:Gh)(w:World):RW k γ w γ w:=⟨Nat.le_refl _,⟨rfl,rfl,rfl⟩,.rfl,fun _=>⟨rfl,fun _=> .rfl,fun _=> .rfl,rfl,.rfl,.rfl,fun _ _=>rfl,fun _ _=>rfl⟩⟩
theorem RM.refl (γ:Gh)(w:World):RM γ w γ w:=⟨Nat.le_refl _,⟨rfl,rfl,rfl⟩,⟨rfl,rfl,rfl,rfl,rfl⟩,fun _=>⟨rfl,rfl⟩,fun _ _ _=> .rfl,fun _ _ _ _ _=>rfl,.rfl,fun _ _=>Nat.le_refl _⟩
theorem RW.trans {k:Nat}{a b c:Gh}{u v w:World}(h:RW k a u b v)(g:RW k b v c w):RW k a u c w:=by
 refine⟨Nat.le_trans h.size g.size,⟨g.same.1.trans h.same.1,g.same.2.1.trans h.same.2.1,g.same.2.2.trans h.same.2.2⟩,h.gone.trans g.gone,fun hn=>?_⟩
 obtain⟨a1,a2,a3,a4,a5,a6,a7,a8⟩:=h.live hn;obtain⟨b1,b2,b3,b4,b5,b6,b7,b8⟩:=g.live fun x=>hn (h.gone.2 x)
 refine⟨b1.trans a1,fun x=>(b2 x).trans (a2 x),fun x=>(b3 x).trans (a3 x),b4.trans a4,b5.trans a5,b6.trans a6,fun x hx=>(b7 x ?_).trans (a7 x hx),fun x hx=>(b8 x ?_).trans (a8 x hx)⟩
 ·exact hx.imp (a2 x).2 (a3 x).2
 ·unfold Gh.Slot at hx⊢
  rwa[a4]
theorem RM.trans {a b c:Gh}{u v w:World}(h:RM a u b v)(g:RM b v c w):RM a u c w:=by
 obtain⟨a1,a2,a3,a4,a5⟩:=h.gh;obtain⟨b1,b2,b3,b4,b5⟩:=g.gh;refine⟨Nat.le_trans h.size g.size,⟨g.same.1.trans h.same.1,g.same.2.1.trans h.same.2.1,g.same.2.2.trans h.same.2.2⟩,⟨b1.trans a1,b2.trans a2,b3.trans a3,b4.trans a4,b5.trans a5⟩,fun hn=>?_,
  fun k x hx=>(g.ow k x (Nat.lt_of_lt_of_le hx h.size)).trans (h.ow k x hx),fun x hx h1 h2 h3=>?_,h.wm.trans g.wm,fun p hp=>?_⟩
 ·obtain⟨e1,e2⟩:=h.none hn
  subst e1;obtain⟨e3,e4⟩:=g.none hn;exact⟨e3,e4.trans e2⟩
 ·rw[g.heap x (Nat.lt_of_lt_of_le hx h.size) (fun k hk=>h1 k ((h.ow k x hx).1 hk)) (a1▸h2) (fun p hp=>h3 p (a2▸hp)),h.heap x hx h1 h2 h3]
 ·have:=g.le p (a2▸hp)
  rw[a5]at this;exact Nat.le_trans this (h.le p hp)
theorem JJ.draw {γ:Gh}{w:World}{t:Trace}{j:Nat}(h:JJ γ w t j)(d:Nat):JJ γ (w.at d) t j:=
 ⟨h.tj,h.ba,h.j,h.lN,h.kv,h.cX,h.none,h.out,fun p hp=>let x:=h.phase p hp;⟨x.j0,x.jn,x.n5,x.sh,x.Alt,x.wg,x.reg,x.la,x.rel,x.arr⟩⟩
theorem JJ.sub {γ:Gh}{w:World}{t u:Trace}{j:Nat}(h:JJ γ w t j)(hu:TJ γ w.heap.size u j):JJ γ w u j:=⟨hu,h.ba,h.j,h.lN,h.kv,h.cX,h.none,h.out,h.phase⟩
theorem pV {e:Event}(h:e.mute=true)(B:Nat):(MemAct.ofEvent e).touch?=none∧(MemAct.ofEvent e).low B∧∀a,MemAct.ofEvent e≠.mark (.release a):=by
 refine⟨touch_mute h,low_mute h B,fun a=>?_⟩
 obtain⟨loc,wr,sy⟩:=e
 cases loc<;>simp_all[Event.mute]
 rename_i m
 cases m<;>simp_all[MemAct.ofEvent]
def sys (P:Program):Sys P Gh where
 J:=JJ
 R:=RR
 Bl:=fun γ _=>γ.wm≠.rel
 Gone:=Gh.Gone
 refl:=fun k γ w=>by
  unfold RR;split
  ·exact RM.refl γ w
  ·exact RW.refl k γ w
 trans:=fun {k a u b v c w} h g=>by
  unfold RR at*;by_cases hk:k=0
  ·simp only[if_pos hk]at*
   exact RM.trans h g
  ·simp only[if_neg hk]at*
   exact RW.trans h g
 Sz:=fun d h=>h.draw d
 yI:=fun k γ w d=>by
  unfold RR;split
  ·exact⟨Nat.le_refl _,⟨rfl,rfl,rfl⟩,⟨rfl,rfl,rfl,rfl,rfl⟩,fun _=>⟨rfl,rfl⟩,fun _ _ _=> .rfl,fun _ _ _ _ _=>rfl,.rfl,fun _ _=>Nat.le_refl _⟩
  ·exact⟨Nat.le_refl _,⟨rfl,rfl,rfl⟩,.rfl,fun _=>⟨rfl,fun _=> .rfl,fun _=> .rfl,rfl,.rfl,.rfl,fun _ _=>rfl,fun _ _=>rfl⟩⟩
 NQ:=fun _ _ _=> .rfl
 NR:=fun h=>h.tj.ct.gs
 mute:=fun fn pos es h hg k1 kj hm=>h.sub (h.tj.still h.ba kj fun e he=>pV (hm e he) _)
end Go.Proofs.YtlhohdjniaebbaaGreat.Sr
namespace Go.Proofs.YtlhohdjniaebbaaGreat.Sr
open Go Go.Conc Go.ConcN
section
variable {γ:Gh}{w w1:World}{t:Trace}{j k:Nat}{p:Ph}{fn:FuncId}{pos:String}{es:Array Event}
abbrev bq (w w1:World):Prop:=w1.tape=w.tape∧w1.os=w.os∧w1.output=w.output
def Gh.grow (γ:Gh)(k a b:Nat):Gh:={γ with ow:=fun i x=>γ.ow i x∨(i=k∧a≤x∧x<b)}
theorem JJ.lt (h:JJ γ w t j)(hp:γ.ph=some p):p.wg<w.heap.size∧p.A<w.heap.size∧p.wg≠p.A:=by
 have x:=h.phase p hp;exact⟨h.cX _ x.sh,x.Alt,fun e=>(h.ba.A p hp).2 (e▸x.sh)⟩
theorem BA.grow (h:JJ γ w t j)(hs:w.heap.size≤w1.heap.size):BA (γ.grow k w.heap.size w1.heap.size):=by
 refine⟨?_,?_,?_,h.ba.tP,fun p hp=>?_⟩
 ·rintro i i' b (h1|⟨rfl,h1,_⟩) (h2|⟨rfl,h2,_⟩)
  ·exact h.ba.ow _ _ _ h1 h2
  ·have:=h.lN _ _ h1;omega
  ·have:=h.lN _ _ h2;omega
  ·rfl
 ·rintro i i' b (h1|⟨rfl,h1,_⟩) h2
  ·exact h.ba.pT _ _ _ h1 h2
  ·have:=h.kv _ _ h2;omega
 ·rintro i b (h1|⟨rfl,h1,_⟩) h2
  ·exact h.ba.rK _ _ h1 h2
  ·have:=h.cX _ h2;omega
 ·obtain⟨h1,h2⟩:=h.ba.A p hp
  have:=(h.lt hp).2.1
  refine⟨fun i=>⟨?_,(h1 i).2⟩,h2⟩
  rintro(h3|⟨rfl,h3,_⟩)
  ·exact(h1 i).1 h3
  ·omega
theorem cell_of {w w':World}{a:Addr}(h:w'.heap[a.block]?=w.heap[a.block]?):w'.cell? a=w.cell? a:=by
 unfold World.cell?;rw[h]
theorem SG (h:JJ γ w t j)(hp:γ.ph=some p)(hk:p.j0<k)(kj:k≤j)(hb:γ.st k= .busy)(iB:bq w w1)(hs:w.heap.size≤w1.heap.size)(hh:∀b,b<w.heap.size→¬γ.ow k b→w1.heap[b]?=w.heap[b]?)
  (aR:∀e∈es,Py (γ.grow k w.heap.size w1.heap.size) k w1.heap.size e):
  JJ (γ.grow k w.heap.size w1.heap.size) w1 (t++MemOp.ofEvents k fn pos es) j∧∀k',k'≠k→RR k' γ w (γ.grow k w.heap.size w1.heap.size) w1:=by
 have yQ:=BA.grow (k:=k) h hs;obtain⟨l1,l2,l3⟩:=h.lt hp;have x:=h.phase p hp;refine⟨⟨(h.tj.grow hs h.cX k).worker yQ (Nat.le_refl _) hp hk kj hb aR,yQ,h.j,?_,fun i b hi=>Nat.lt_of_lt_of_le (h.kv i b hi) hs,fun b hi=>Nat.lt_of_lt_of_le (h.cX b hi) hs,fun e=>?_,fun p' bk i hi=>?_,fun p' bk=>?_⟩,fun k' cQ=>?_⟩
 ·rintro i b (h1|⟨_,_,h1⟩)
  ·exact Nat.lt_of_lt_of_le (h.lN i b h1) hs
  ·exact h1
 ·have:γ.ph=none:=e
  rw[hp]at this;cases this
 ·have e:γ.ph=some p':=bk
  rw[hp]at e;cases e;obtain⟨h1,h2⟩:=h.out p hp i hi;refine⟨h1,fun b=>⟨?_,(h2 b).2⟩⟩
  rintro(h3|⟨rfl,_⟩)
  ·exact(h2 b).1 h3
  ·rw[hb]at h1;cases h1
 ·have e:γ.ph=some p':=bk
  rw[hp]at e;cases e;have Y4:w1.heap[p.wg]?=w.heap[p.wg]?:=hh _ l1 fun o=>h.ba.rK _ _ o x.sh
  have hA:w1.heap[p.A]?=w.heap[p.A]?:=hh _ l2 ((h.ba.A p hp).1 k).1
  obtain⟨cs,a1,a2,a3⟩:=x.arr;exact⟨x.j0,x.jn,x.n5,x.sh,Nat.lt_of_lt_of_le l2 hs,Y4.trans x.wg,x.reg,x.la,x.rel,cs,hA.trans a1,a2,a3⟩
 ·unfold RR
  split
  ·refine⟨hs,iB,⟨rfl,rfl,rfl,rfl,rfl⟩,fun e=>?_,fun i b aj=>⟨?_,.inl⟩,fun b aj h1 _ _=>hh b aj (h1 k),.rfl,fun _ _=>Nat.le_refl _⟩
   ·rw[hp]at e;cases e
   ·rintro(h3|⟨_,h3,_⟩)
    ·exact h3
    ·omega
  ·refine⟨hs,iB,.rfl,fun _=>⟨rfl,fun b=>⟨?_,.inl⟩,fun _=> .rfl,rfl,.rfl,.rfl,fun b cB=>?_,fun a ha=>?_⟩⟩
   ·rintro(h3|⟨h3,_⟩)
    ·exact h3
    ·exact absurd h3 cQ
   ·refine hh b ?_ fun o=>?_
    ·exact cB.elim (h.lN _ _) (h.kv _ _)
    ·exact cB.elim (fun x=>cQ (h.ba.ow _ _ _ x o)) (fun x=>h.ba.pT _ _ _ o x)
   ·obtain⟨p',bk,_,Di,_⟩:=ha
    rw[hp]at bk;cases bk;exact cell_of (by rw[Di];exact hh _ l2 ((h.ba.A p hp).1 k).1)
theorem SH (h:JJ γ w t j)(hp:γ.ph=some p)(hk:p.j0<k)(kj:k≤j)(hb:γ.st k= .busy)(iB:bq w w1)(hs:w1.heap.size=w.heap.size)(hh:∀b,b≠p.A→w1.heap[b]?=w.heap[b]?)
  (hA:∀cs,w.heap[p.A]?=some (.cells cs p.eA)→∃bZ,w1.heap[p.A]?=some (.cells bZ p.eA)∧bZ.size=cs.size∧∀o,¬(5*(k-p.j0-1)≤o∧o<5*(k-p.j0-1)+5)→bZ[o]?=cs[o]?) (aR:∀e∈es,Py γ k w.heap.size e):
  JJ γ w1 (t++MemOp.ofEvents k fn pos es) j∧∀k',k'≠k→RR k' γ w γ w1:=by
 obtain⟨l1,l2,l3⟩:=h.lt hp;have x:=h.phase p hp;obtain⟨cs,a1,a2,a3⟩:=x.arr;obtain⟨bZ,b1,b2,b3⟩:=hA cs a1;refine⟨⟨hs▸h.tj.worker h.ba (Nat.le_refl _) hp hk kj hb aR,h.ba,h.j,hs▸h.lN,hs▸h.kv,hs▸h.cX,h.none,h.out,fun p' bk=>?_⟩,fun k' cQ=>?_⟩
 ·rw[hp]at bk;cases bk
  refine⟨x.j0,x.jn,x.n5,x.sh,hs▸l2,(hh _ l3).trans x.wg,x.reg,x.la,x.rel,bZ,b1,b2.trans a2,fun i i1 i2 i3 c hc=>?_⟩
  have cv:i≠k:=fun e=>i3 (e▸hb)
  rw[b3 _ (by omega)]
  exact a3 i i1 i2 i3 c hc
 ·unfold RR
  split
  ·refine⟨Nat.le_of_eq hs.symm,iB,⟨rfl,rfl,rfl,rfl,rfl⟩,fun e=>?_,fun _ _ _=> .rfl,fun b aj h1 _ h3=>hh b (h3 p hp),.rfl,fun _ _=>Nat.le_refl _⟩
   rw[hp]at e;cases e
  ·refine⟨Nat.le_of_eq hs.symm,iB,.rfl,fun _=>⟨rfl,fun _=> .rfl,fun _=> .rfl,rfl,.rfl,.rfl,fun b cB=>hh b ?_,fun a ha=>?_⟩⟩
   ·rintro rfl
    exact cB.elim ((h.ba.A p hp).1 _).1 ((h.ba.A p hp).1 _).2
   ·obtain⟨p',bk,Wd,Di,h4,h5⟩:=ha
    rw[hp]at bk;cases bk;unfold World.cell?;rw[Di,a1,b1];simp only
    rw[b3 _ (by omega)]
theorem KN (h:JJ γ w t j)(hp:γ.ph=some p)(hk:p.j0<k)(kj:k≤j)(hb:γ.st k= .busy)(hd:Deaf t k=0)(hc:∀c,c<5→w.cell? ⟨p.A,5*(k-p.j0-1)+c,none⟩=some (p.mB (k-p.j0-1) c)):
  JJ {γ with st:=fun i=>if i=k then .said else γ.st i} w (t++MemOp.ofEvents k fn pos #[⟨.mark (.releaseMerge ⟨p.wg,0,none⟩),false,true⟩]) j∧∀k',k'≠k→RR k' γ w {γ with st:=fun i=>if i=k then .said else γ.st i} w:=by
 obtain⟨l1,l2,l3⟩:=h.lt hp;have x:=h.phase p hp;obtain⟨cs,a1,a2,a3⟩:=x.arr;have ec:∀j0 m,cnt (fun i=>if i=k then jE.said else γ.st i) j0 m=cnt γ.st j0 m:=fun j0 m=>ov fun i _ _=>by
  by_cases e:i=k
  ·subst e;simp[hb]
  ·simp[e]
 have yQ:BA {γ with st:=fun i=>if i=k then .said else γ.st i}:=⟨h.ba.ow,h.ba.pT,h.ba.rK,h.ba.tP,h.ba.A⟩
 have ev:∀q,Gh.v {γ with st:=fun i=>if i=k then .said else γ.st i} q=γ.v q:=fun q=>by unfold Gh.v;rw[ec]
 refine⟨⟨h.tj.release h.ba hp hk kj hd l1,yQ,h.j,h.lN,h.kv,h.cX,fun e=>?_,fun p' bk i hi=>?_,fun p' bk=>?_⟩,fun k' cQ=>?_⟩
 ·have:γ.ph=none:=e
  rw[hp]at this;cases this
 ·have e:γ.ph=some p':=bk
  rw[hp]at e;cases e;obtain⟨h1,h2⟩:=h.out p hp i hi;refine⟨?_,h2⟩;have cv:i≠k:=fun e=>by rw[e,hb]at h1;cases h1
  simp[cv,h1]
 ·have e:γ.ph=some p':=bk
  rw[hp]at e;cases e;refine⟨x.j0,x.jn,x.n5,x.sh,l2,by rw[ev];exact x.wg,fun e=>by rw[ev];exact x.reg e,fun i hi=>?_,fun e=>by rw[ev];exact x.rel e,cs,a1,a2,fun i i1 i2 i3 c cb=>?_⟩
  ·obtain⟨c1,c2,c3,c4⟩:=x.la i hi
   have cv:i≠k:=fun e=>by rw[e,hb]at c4;cases c4
   exact⟨by rw[ev];exact c1,c2,c3,by simp[cv,c4]⟩
  ·by_cases hik:i=k
   ·subst hik
    have:=hc c cb
    unfold World.cell? at this;rw[a1]at this;simpa using this
   ·exact a3 i i1 i2 (by simpa[hik]using i3) c cb
 ·unfold RR
  split
  ·refine⟨Nat.le_refl _,⟨rfl,rfl,rfl⟩,⟨rfl,rfl,rfl,rfl,rfl⟩,fun e=>?_,fun _ _ _=> .rfl,fun _ _ _ _ _=>rfl,.rfl,fun q _=>by rw[ec];exact Nat.le_refl _⟩
   rw[hp]at e;cases e
  ·have es:(if k'=k then jE.said else γ.st k')=γ.st k':=if_neg cQ
   refine⟨Nat.le_refl _,⟨rfl,rfl,rfl⟩,?_,fun _=>⟨es,fun _=> .rfl,fun _=> .rfl,rfl,.rfl,.rfl,fun _ _=>rfl,fun _ _=>rfl⟩⟩
   unfold Gh.Gone;simp only[es]
end
end Go.Proofs.YtlhohdjniaebbaaGreat.Sr
namespace Go.Proofs.YtlhohdjniaebbaaGreat.Sr
open Go Go.Conc Go.ConcN
section
variable {γ:Gh}{w w1:World}{t:Trace}{j k:Nat}{p:Ph}{fn:FuncId}{pos:String}{es:Array Event}
theorem FU (h:JJ γ w t j)(k1:1≤k)(kj:k≤j)(aR:xD γ (Deaf t k) w.heap.size es):JJ γ w (t++MemOp.ofEvents k fn pos es) j∧∀k',k'≠k→RR k' γ w γ w:=
 ⟨h.sub (h.tj.said h.ba k1 kj aR),fun k' _=>(sys default).refl k' γ w⟩
def Gh.eR (γ:Gh)(st:Nat→jE)(wm:WM):Gh:={γ with st,wm}
theorem pW (hp:γ.ph=some p)(ni:γ.sh p.wg)(yQ:BA γ)(hs:w1.heap.size=w.heap.size)(iB:bq w w1)(hh:∀b,b≠p.wg→w1.heap[b]?=w.heap[b]?){st:Nat→jE}{wm:WM}
  (cC:∀i,i≠k→st i=γ.st i) (Y5:∀i,i≠k→1≤i→(wm= .la i↔γ.wm= .la i)∧(wm= .lb i↔γ.wm= .lb i)) (h0:k≠0→(γ.wm= .op↔wm= .op)∧cnt st p.j0 (γ.j-p.j0)≤cnt γ.st p.j0 (γ.j-p.j0)):
  ∀k',k'≠k→RR k' γ w (γ.eR st wm) w1:=by
 intro k' cQ;unfold RR;split
 ·rename_i e
  subst e;obtain⟨c1,c2⟩:=h0 (Ne.symm cQ);refine⟨Nat.le_of_eq hs.symm,iB,⟨rfl,rfl,rfl,rfl,rfl⟩,fun e=>?_,fun _ _ _=> .rfl,fun b _ _ h2 _=>hh b fun e=>h2 (e▸ni),c1,fun q hq=>?_⟩
  ·rw[hp]at e;cases e
  ·rw[hp]at hq;cases hq;exact c2
 ·rename_i e
  obtain⟨d1,d2⟩:=Y5 k' cQ (by omega)
  refine⟨Nat.le_of_eq hs.symm,iB,?_,fun _=>⟨cC k' cQ,fun _=> .rfl,fun _=> .rfl,rfl,d1,d2,fun b hb=>hh b ?_,fun a ha=>cell_of (hh _ ?_)⟩⟩
  ·unfold Gh.Gone Gh.eR
   simp only[cC k' cQ,ne_eq,d1,d2]
  ·rintro rfl
   exact hb.elim (fun x=>yQ.rK _ _ x ni) (fun x=>yQ.tP _ _ x ni)
  ·obtain⟨q,hq,_,hA,_⟩:=ha
   rw[hp]at hq;cases hq;rw[hA];exact fun e=>(yQ.A p hp).2 (e▸ni)
theorem tS (h:JJ γ w t j)(hp:γ.ph=some p)(hs:w1.heap.size=w.heap.size)(hh:∀b,b≠p.wg→w1.heap[b]?=w.heap[b]?){st:Nat→jE}{wm:WM}{u:Trace}(hu:TJ (γ.eR st wm) w1.heap.size u j)
  (FG:∀i,i≤p.j0∨γ.j<i→st i=γ.st i) (hph:let ah:=γ.eR st wm
   w1.heap[p.wg]?=some (cD p.eW (a_ wm (ah.v p)) (yP wm))∧(wm= .reg→γ.extra=0∧0<ah.v p)∧(∀i,wm= .la i∨wm= .lb i→ah.v p=0∧p.j0<i∧i≤γ.j∧st i= .off)∧(wm= .rel→ah.v p=0)) (Dl:∀i,γ.st i= .busy→st i= .busy):
  JJ (γ.eR st wm) w1 u j:=by
 obtain⟨l1,l2,l3⟩:=h.lt hp;have x:=h.phase p hp;obtain⟨g1,g2,g3,g4⟩:=hph;refine⟨hu,⟨h.ba.ow,h.ba.pT,h.ba.rK,h.ba.tP,h.ba.A⟩,h.j,hs▸h.lN,hs▸h.kv,hs▸h.cX,fun e=>?_,fun p' bk i hi=>?_,fun p' bk=>?_⟩
 ·have:γ.ph=none:=e
  rw[hp]at this;cases this
 ·have e:γ.ph=some p':=bk
  rw[hp]at e;cases e;obtain⟨h1,h2⟩:=h.out p hp i hi;exact⟨(FG i hi).trans h1,h2⟩
 ·have e:γ.ph=some p':=bk
  rw[hp]at e;cases e;obtain⟨cs,a1,a2,a3⟩:=x.arr;refine⟨x.j0,x.jn,x.n5,x.sh,hs▸l2,g1,g2,g3,g4,cs,(hh _ (Ne.symm l3)).trans a1,a2,fun i i1 i2 i3 c hc=>a3 i i1 i2 (fun e=>i3 (Dl i e)) c hc⟩
def lO (γ:Gh)(k:Nat):Nat→jE:=fun i=>if i=k then .off else γ.st i
theorem SI (h:JJ γ w t j)(hp:γ.ph=some p)(hk:p.j0<k)(kj:k≤j)(hb:γ.st k≠.off)(wm:WM):γ.v p=(γ.eR (lO γ k) wm).v p+1∧cnt γ.st p.j0 (γ.j-p.j0)=cnt (lO γ k) p.j0 (γ.j-p.j0)+1:=by
 have x:=(h.phase p hp).j0;have:=yO (st:=γ.st) (m:=γ.j-p.j0) hk (by rw[h.j]at*;omega) hb
 refine⟨?_,this⟩;unfold Gh.v Gh.eR;simp only
 have e:cnt γ.st p.j0 (γ.j-p.j0)=cnt (lO γ k) p.j0 (γ.j-p.j0)+1:=this
 omega
theorem Dm {ah:Gh}(h1:ah.sh=γ.sh){d B:Nat}(h:xD γ d B es):xD ah d B es:=fun i e hi=>⟨(h i e hi).1.imp id fun⟨⟨ad,wr,a,b⟩,c⟩=>⟨⟨ad,wr,a,h1▸b⟩,c⟩,(h i e hi).2⟩
theorem TJ.eR {st:Nat→jE}{wm:WM}{B:Nat}(h:TJ γ B t j)(cC:∀i,γ.st i= .busy→st i= .busy):TJ (γ.eR st wm) B t j:=
 ⟨h.ct,h.low,h.over,fun p hp i i1 i2 i3=>h.rel p hp i i1 i2 fun e=>i3 (cC i e),h.norel,h.old⟩
theorem BA.eR {st:Nat→jE}{wm:WM}(h:BA γ):BA (γ.eR st wm):=⟨h.ow,h.pT,h.rK,h.tP,h.A⟩
theorem PA {wm:WM}{v:Nat}(k:Nat)(aW:wm= .op∨wm= .reg)(hv:1≤v):a_ wm v-bK=a_ (if wm= .reg∧v=1 then WM.la k else wm) (v-1)∧yP (if wm= .reg∧v=1 then WM.la k else wm)=0:=by
 obtain⟨n,rfl⟩:∃n,v=n+1:=⟨v-1,by omega⟩
 have e:((n+1:Nat):Int)*bK=n*bK+bK:=by rw[Int.natCast_add,Int.natCast_one,Int.add_mul,Int.one_mul]
 rcases aW with rfl|rfl
 ·rw[if_neg (by simp)]
  refine⟨?_,rfl⟩;show((n+1:Nat):Int)*bK-bK=((n+1-1:Nat):Int)*bK
  rw[e,Nat.add_sub_cancel];exact Int.add_sub_cancel _ _
 ·by_cases hn:n=0
  ·subst hn
   rw[if_pos ⟨rfl,rfl⟩];refine⟨?_,rfl⟩;show((0+1:Nat):Int)*bK+1-bK=1
   rw[e];show(0:Int)*bK+bK+1-bK=1
   generalize bK=z;rw[Int.zero_mul];omega
  ·rw[if_neg (by simp[hn])]
   refine⟨?_,rfl⟩;show((n+1:Nat):Int)*bK+1-bK=((n+1-1:Nat):Int)*bK+1
   rw[e,Nat.add_sub_cancel];generalize(n:Int)*bK=y;generalize bK=z;omega
theorem Y6 (h:JJ γ w t j)(hp:γ.ph=some p)(hk:p.j0<k)(kj:k≤j)(hb:γ.st k= .said)(iB:bq w w1)(hs:w1.heap.size=w.heap.size)(hh:∀b,b≠p.wg→w1.heap[b]?=w.heap[b]?)
  (hw:w1.heap[p.wg]?=some (cD p.eW (a_ γ.wm (γ.v p)-bK) 0)) (aR:xD γ (Deaf t k) w.heap.size es):
  let wm:=if γ.wm= .reg∧γ.v p=1 then WM.la k else γ.wm
  (γ.wm= .op∨γ.wm= .reg)∧1≤γ.v p∧JJ (γ.eR (lO γ k) wm) w1 (t++MemOp.ofEvents k fn pos es) j∧∀k',k'≠k→RR k' γ w (γ.eR (lO γ k) wm) w1:=by
 intro wm;have x:=h.phase p hp;have dB:γ.st k≠.off:=by rw[hb];nofun
 have hv:=fun wm=>SI h hp hk kj dB wm
 have tG:=(hv wm).1;have aW:γ.wm= .op∨γ.wm= .reg:=by
  cases e:γ.wm with
  |op=>exact .inl rfl
  |reg=>exact .inr rfl
  |la i=>have:=(x.la i (.inl e)).1;omega
  |lb i=>have:=(x.la i (.inr e)).1;omega
  |rel=>have:=x.rel e;omega
 have Dl:∀i,γ.st i= .busy→lO γ k i= .busy:=fun i hi=>by
  unfold lO;rw[if_neg (fun e=>by rw[e,hb]at hi;cases hi)]
  exact hi
 refine⟨aW,by omega,tS h hp hs hh ?_ (fun i hi=>?_) ⟨?_,fun e=>?_,fun i e=>?_,fun e=>?_⟩ Dl,pW hp x.sh h.ba hs iB hh (fun i hi=>if_neg hi) (fun i hi _=>?_) fun _=>⟨?_,by have:=(hv wm).2;omega⟩⟩
 ·exact(hs▸h.tj.eR Dl:TJ (γ.eR (lO γ k) wm) w1.heap.size t j).said h.ba.eR (by omega) kj (Dm rfl (hs▸aR))
 ·unfold lO
  rw[if_neg (by rw[h.j]at hi;omega)]
 ·obtain⟨q1,q2⟩:=PA k aW (by omega:1≤γ.v p)
  have e5:(γ.eR (lO γ k) wm).v p=γ.v p-1:=by omega
  rw[hw,e5,q1,q2]
 ·have e':(if γ.wm= .reg∧γ.v p=1 then WM.la k else γ.wm)= .reg:=e
  split at e'
  ·cases e'
  ·rename_i hn
   refine⟨(x.reg e').1,?_⟩;have:γ.v p≠1:=fun h1=>hn ⟨e',h1⟩
   omega
 ·have e':(if γ.wm= .reg∧γ.v p=1 then WM.la k else γ.wm)= .la i∨(if γ.wm= .reg∧γ.v p=1 then WM.la k else γ.wm)= .lb i:=e
  split at e'
  ·rename_i hc
   rcases e' with e'|e'
   ·cases e'
    exact⟨by omega,hk,by rw[h.j];exact kj,if_pos rfl⟩
   ·cases e'
  ·rcases aW with e2|e2<;>rw[e2]at e'<;>rcases e' with e'|e'<;>cases e'
 ·have e':(if γ.wm= .reg∧γ.v p=1 then WM.la k else γ.wm)= .rel:=e
  split at e'
  ·cases e'
  ·rcases aW with e2|e2<;>rw[e2]at e'<;>cases e'
 ·show((if γ.wm= .reg∧γ.v p=1 then WM.la k else γ.wm)=_↔_)∧((if γ.wm= .reg∧γ.v p=1 then WM.la k else γ.wm)=_↔_)
  rcases aW with e2|e2<;>rw[e2]
  ·simp
  ·split
   ·simp only[WM.la.injEq,reduceCtorEq,iff_self,and_true,iff_false]
    exact Ne.symm hi
   ·simp
 ·show _↔(if γ.wm= .reg∧γ.v p=1 then WM.la k else γ.wm)=_
  rcases aW with e2|e2<;>rw[e2]
  ·simp
  ·split<;>simp
theorem SJ (h:JJ γ w t j)(hp:γ.ph=some p)(hl:γ.wm= .la k)(iB:bq w w1)(hs:w1.heap.size=w.heap.size)(hh:∀b,b≠p.wg→w1.heap[b]?=w.heap[b]?)
  (hw:w1.heap[p.wg]?=some (cD p.eW 0 0)) (aR:xD γ (Deaf t k) w.heap.size es):
  JJ (γ.eR γ.st (.lb k)) w1 (t++MemOp.ofEvents k fn pos es) j∧∀k',k'≠k→RR k' γ w (γ.eR γ.st (.lb k)) w1:=by
 have x:=h.phase p hp;obtain⟨c1,c2,c3,c4⟩:=x.la k (.inl hl);refine⟨tS h hp hs hh ?_ (fun i hi=>rfl) ⟨hw,nofun,fun i e=>?_,nofun⟩ fun _=>id,pW hp x.sh h.ba hs iB hh (fun i hi=>rfl) (fun i hi _=>?_) fun _=>⟨by rw[hl];simp,Nat.le_refl _⟩⟩
 ·exact(hs▸h.tj.eR (fun _=>id):TJ (γ.eR γ.st (.lb k)) w1.heap.size t j).said h.ba.eR (by omega) (by rw[←h.j];exact c3) (Dm rfl (hs▸aR))
 ·rcases e with e|e
  ·cases e
  ·cases e;exact⟨c1,c2,c3,c4⟩
 ·rw[hl]
  simp[Ne.symm hi]
theorem We (h:JJ γ w t j)(hp:γ.ph=some p)(hl:γ.wm= .lb k)(iB:bq w w1)(hs:w1.heap.size=w.heap.size)(hh:∀b,b≠p.wg→w1.heap[b]?=w.heap[b]?)
  (hw:w1.heap[p.wg]?=some (cD p.eW 0 1)) (aR:xD γ (Deaf t k) w.heap.size es):
  JJ (γ.eR γ.st .rel) w1 (t++MemOp.ofEvents k fn pos es) j∧∀k',k'≠k→RR k' γ w (γ.eR γ.st .rel) w1:=by
 have x:=h.phase p hp;obtain⟨c1,c2,c3,c4⟩:=x.la k (.inr hl);refine⟨tS h hp hs hh ?_ (fun i hi=>rfl) ⟨hw,nofun,fun i e=>?_,fun _=>c1⟩ fun _=>id,pW hp x.sh h.ba hs iB hh (fun i hi=>rfl) (fun i hi _=>?_) fun _=>⟨by rw[hl];simp,Nat.le_refl _⟩⟩
 ·exact(hs▸h.tj.eR (fun _=>id):TJ (γ.eR γ.st .rel) w1.heap.size t j).said h.ba.eR (by omega) (by rw[←h.j];exact c3) (Dm rfl (hs▸aR))
 ·rcases e with e|e<;>cases e
 ·rw[hl]
  simp[Ne.symm hi]
end
end Go.Proofs.YtlhohdjniaebbaaGreat.Sr
