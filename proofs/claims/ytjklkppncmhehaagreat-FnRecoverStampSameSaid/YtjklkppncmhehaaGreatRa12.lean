/-
What is proved: how the trace's law is kept by every kind of step ('TJ.said', 'TJ.release', 'TJ.main', 'TJ.fork', 'TJ.join', 'TJ.grow', 'TJ.open'). Conditions: those that each theorem states. what holds at every moment of the machine ('JJ'), what each goroutine may rely on ('RW', 'RM'), and that they make a system ('sys'). No condition. the steps of a worker, as the system sees them. Conditions: those that each theorem states. a worker's steps at the group, as the system sees them. Conditions: those that each theorem states.
-/
import Derived.Test.YtjklkppncmhehaaGreatRa11
set_option linter.unusedVariables false
set_option linter.unusedSimpArgs false
namespace Go.Proofs.YtjklkppncmhehaaGreat.Sr
open Go Go.Conc Go.ConcN
section
variable {γ af:Gh}{B B':Nat}{t u:Trace}{j k:Nat}{fn:FuncId}{pos:String}{es:Array Event}
def uI (γ:Gh)(d B:Nat)(es:Array Event):Prop:=∀i e,es[i]?=some e→((MemAct.ofEvent e).touch?=none∨((∃ad wr,e=⟨.cell ad,wr,true⟩∧γ.sh ad.block)∧0<deafBehind d (es.extract 0 i)))∧(MemAct.ofEvent e).low B∧∀a,MemAct.ofEvent e≠.mark (.release a)
theorem TJ.said (A:BA γ)(h:TJ γ B t j)(k1:1≤k)(kj:k≤j)(cE:uI γ (Deaf t k) B es):TJ γ B (t++MemOp.ofEvents k fn pos es) j:=by
 have mem:∀op∈MemOp.ofEvents k fn pos es,∃i e,es[i]?=some e∧op.g=k∧op.act= .ofEvent e:=fun op aS=>by
  obtain⟨e,he,U,h2⟩:=dS aS;obtain⟨i,hi⟩:=Array.mem_iff_getElem?.1 he;exact⟨i,e,hi,U,h2⟩
 have Qy:∀op∈MemOp.ofEvents k fn pos es,∀x,op.act.touch?=some x→γ.Sh x.loc∧x.kind= .atomic:=fun op aS x hx=>by
  obtain⟨i,e,hi,_,h2⟩:=mem op aS;rw[h2]at hx;rcases(cE i e hi).1 with h0|⟨⟨ad,wr,rfl,hs⟩,_⟩
  ·rw[h0]at hx;cases hx
  ·have:MemAct.ofEvent ⟨.cell ad,wr,true⟩= .access ⟨.cell ad,wr,true⟩:=by cases wr<;>rfl
   rw[this]at hx;simp only[MemAct.touch?,Option.some.injEq,if_true]at hx;subst hx;exact⟨⟨ad,rfl,hs⟩,rfl⟩
 refine⟨h.ct.appW A.apart k1 kj fun op aS=>?_,fun op aS=>?_,fun i g hg cG hc=>?_,fun p' aV k' cB Ak hs=>?_,fun p' aV=>(h.norel p' aV).app fun op aS=>?_,rz h.old fun op aS=> .inr (.inl fun x hx=>(Qy op aS x hx).1)⟩
 ·obtain⟨i,e,hi,U,h2⟩:=mem op aS
  refine⟨U,fun x hx=> .inl ?_⟩
  have:=Qy op aS x hx
  exact⟨this.1,by rw[this.2];exact⟨nofun,nofun⟩⟩
 ·rcases Array.mem_append.1 aS with U|U
  ·exact h.low op U
  ·obtain⟨i,e,hi,_,h2⟩:=mem op U
   rw[h2];exact(cE i e hi).2.1
 ·
  rcases Nat.lt_or_ge i t.size with hi|hi
  ·rcases h.over i g (by rwa[g?_old hi]at hg) cG ((counts_old hi).1 hc)with⟨q,hq,hb⟩|h'
   ·have S':q<t.size:=by
     unfold Trace.g? at hq;obtain⟨z,hz,_⟩:=Option.map_eq_some_iff.1 hq;exact lt_size_of_getElem? hz
    exact .inl ⟨q,by rw[g?_old S'];exact hq,hb_app _ hb⟩
   ·exact .inr h'
  ·exfalso
   obtain⟨x,hx,_,hk⟩:=hc;obtain⟨op,ho,j5⟩:=touch_of hx;have hj:(MemOp.ofEvents k fn pos es)[i-t.size]?=some op:=by
    rw[Array.getElem?_append]at ho;simpa[Nat.not_lt.2 hi]using ho
   have aS:=Array.mem_of_getElem? hj;have vL:=Qy op aS x j5;rw[vL.2]at hk;rcases hk with hk|⟨g',a_,hd⟩
   ·exact hk rfl
   ·have G8:g'=k:=by
     have:=dz op aS
     simp only[Trace.g?,ho,Option.map_some,Option.some.injEq]at a_;omega
    subst G8;rw[ofEvents_eq,Array.getElem?_map]at hj;obtain⟨e,he,rfl⟩:=Option.map_eq_some_iff.1 hj;rcases(cE _ e he).1 with h0|⟨_,hdf⟩
    ·simp only at j5;rw[h0]at j5;cases j5
    ·have:(t++MemOp.ofEvents g' fn pos es).deaf g' i=deafBehind (Deaf t g') (es.extract 0 (i-t.size)):=by
      have e1:t++MemOp.ofEvents g' fn pos es=(t++MemOp.ofEvents g' fn pos (es.extract 0 (i-t.size)))++MemOp.ofEvents g' fn pos (es.extract (i-t.size) es.size):=by
       rw[ofEvents_eq,ofEvents_eq,ofEvents_eq,Array.append_assoc,←Array.map_append];congr 2
       apply Array.ext_getElem?
       intro q;have aj:=(Array.getElem?_eq_some_iff.1 he).1;rw[Array.getElem?_append];simp only[Array.size_extract,Array.getElem?_extract];split
       ·rename_i hq
        simp
       ·rename_i hq
        split
        ·congr 1;omega
        ·rename_i NB
         rw[Array.getElem?_eq_none (by omega)]
      have jG:(t++MemOp.ofEvents g' fn pos (es.extract 0 (i-t.size))).size=i:=by
       have aj:=(Array.getElem?_eq_some_iff.1 he).1;rw[ofEvents_eq];simp
       omega
      rw[e1,deaf_old (by omega)]
      rw[←Deaf_own t g' fn pos];show _=Trace.deaf _ g' (Array.size _)
      rw[jG]
     omega
 ·obtain⟨r,oq,vO⟩:=h.rel p' aV k' cB Ak hs
  by_cases Al:k'=k
  ·subst Al
   refine⟨r,oq.appOwn fn pos es fun i e he=>?_,fun i x hi nW hx=>?_⟩
   ·exact(cE i e he).1.imp id fun⟨⟨ad,wr,he,_⟩,hd⟩=>⟨⟨ad,wr,he⟩,hd⟩
   ·rcases nJ hx with⟨U,aj⟩|⟨op,aS,U,_⟩
    ·exact vO i x hi (by rwa[g?_old aj]at nW) U
    ·exact(Qy op aS x U).1
  ·exact⟨r,kG ⟨oq,vO⟩ dz (Ne.symm Al)⟩
 ·obtain⟨i,e,hi,_,h2⟩:=mem op aS
  rw[h2];exact(cE i e hi).2.2 _
def tb (γ:Gh)(j B:Nat)(e:Event):Prop:=(∀x,(MemAct.ofEvent e).touch?=some x→(γ.Sh x.loc∧x.kind≠.plain)∨(¬γ.Sh x.loc∧(∀k,1≤k→k≤j→¬γ.Own k x.loc)∧(x.write=true→∀k,1≤k→k≤j→¬γ.Rd k x.loc)))∧(MemAct.ofEvent e).low B∧∀a,MemAct.ofEvent e≠.mark (.release a)
theorem TJ.main (A:BA γ)(h:TJ γ B t j)(hB:B≤B')(cE:∀e∈es,tb γ j B' e):TJ γ B' (t++MemOp.ofEvents 0 fn pos es) j:=by
 refine⟨h.ct.app0 A.apart fun op aS=>?_,fun op aS=>?_,s_ h.over fun op aS=> .inl (dz op aS),fun p' aV k' cB Ak hs=>?_,fun p' aV=>(h.norel p' aV).app fun op aS=>?_,rz h.old fun op aS=> .inl (dz op aS)⟩
 ·obtain⟨e,he,U,h2⟩:=dS aS
  exact⟨U,fun x hx=>(cE e he).1 x (h2▸hx)⟩
 ·rcases Array.mem_append.1 aS with U|U
  ·exact MemAct.low_mono hB (h.low op U)
  ·obtain⟨e,he,_,h2⟩:=dS U
   rw[h2];exact(cE e he).2.1
 ·obtain⟨r,hr⟩:=h.rel p' aV k' cB Ak hs
  exact⟨r,kG hr dz (by omega)⟩
 ·obtain⟨e,he,_,h2⟩:=dS aS
  rw[h2];exact(cE e he).2.2 _
theorem TJ.mono (h:TJ γ B t j)(hB:B≤B'):TJ γ B' t j:=⟨h.ct,fun op aS=>MemAct.low_mono hB (h.low op aS),h.over,h.rel,h.norel,h.old⟩
theorem TJ.still (A:BA γ)(h:TJ γ B t j){g:Nat}(gj:g≤j)(cE:∀e∈es,(MemAct.ofEvent e).touch?=none∧(MemAct.ofEvent e).low B∧∀a,MemAct.ofEvent e≠.mark (.release a)):TJ γ B (t++MemOp.ofEvents g fn pos es) j:=by
 rcases Nat.eq_zero_or_pos g with rfl|hg
 ·exact h.main A (Nat.le_refl _) fun e he=>⟨fun x hx=>(by rw[(cE e he).1]at hx;cases hx),(cE e he).2⟩
 ·exact h.said A hg gj fun i e hi=>⟨.inl (cE e (Array.mem_of_getElem? hi)).1,(cE e (Array.mem_of_getElem? hi)).2⟩
theorem TJ.release (A:BA γ)(h:TJ γ B t j){p:Ph}(hp:γ.ph=some p)(hk:p.j0<k)(kj:k≤j)(hd:Deaf t k=0)(hw:p.wg<B):
  TJ {γ with st:=fun i=>if i=k then .said else γ.st i} B (t++MemOp.ofEvents k fn pos #[⟨.mark (.releaseMerge ⟨p.wg,0,none⟩),false,true⟩]) j:=by
 have hb:TJ γ B (t++MemOp.ofEvents k fn pos #[⟨.mark (.releaseMerge ⟨p.wg,0,none⟩),false,true⟩]) j:=h.still A kj fun e he=>by
  simp at he;subst he;exact⟨rfl,hw,nofun⟩
 refine⟨hb.ct,hb.low,hb.over,fun p' aV k' cB Ak hs=>?_,hb.norel,hb.old⟩
 by_cases Al:k'=k
 ·subst Al
  have e0:p'=p:=by have:=aV.symm.trans hp;exact Option.some.inj this
  subst e0;have hq:(t++MemOp.ofEvents k' fn pos #[⟨.mark (.releaseMerge ⟨p'.wg,0,none⟩),false,true⟩])[t.size]?=some ({g:=k',fn,pos,act:= .mark (.releaseMerge ⟨p'.wg,0,none⟩)}:MemOp):=by
   rw[ofEvents_eq,Array.getElem?_append_right (Nat.le_refl _)];simp[MemAct.ofEvent]
  have jG:(t++MemOp.ofEvents k' fn pos #[⟨.mark (.releaseMerge ⟨p'.wg,0,none⟩),false,true⟩]).size=t.size+1:=by rw[ofEvents_eq];simp
  refine⟨t.size,⟨by rw[act?_of hq],by simp[Trace.g?,hq],⟨k',by simp[Trace.g?,hq],by rw[deaf_old (Nat.le_refl _)];exact hd⟩,fun i hi hg=>?_⟩,fun i x hi hg=>?_⟩
  all_goals
   unfold Trace.g? at hg;obtain⟨z,hz,_⟩:=Option.map_eq_some_iff.1 hg;have:=lt_size_of_getElem? hz
   rw[jG]at this;omega
 ·have vP:γ.st k'≠.busy:=by simpa[Al]using hs
  exact hb.rel p' aV k' cB Ak vP
theorem TJ.same (h:TJ γ B t j)(U:af.sh=γ.sh)(h2:∀k,1≤k→k≤j→(∀l,af.Own k l↔γ.Own k l)∧∀l,af.Rd k l↔γ.Rd k l)(h3:∀k,k≤j→af.st k=γ.st k)(h4:∀p',af.ph=some p'→∃p,γ.ph=some p∧p.wg=p'.wg∧p.j0=p'.j0)
  (h5:∀p,γ.ph=some p→∃p',af.ph=some p'∧p.wg=p'.wg∧p.j0=p'.j0):TJ af B t j:=by
 have eS:af.Sh=γ.Sh:=by unfold Gh.Sh;rw[U]
 have h6:∀g,(∃p,γ.ph=some p∧p.j0<g)→∃p,af.ph=some p∧p.j0<g:=fun g ⟨p,hp,hg⟩=>let⟨p',aV,_,e⟩:=h5 p hp;⟨p',aV,e▸hg⟩
 refine⟨mU h.ct (fun l hl=> .inl (eS▸hl)) (fun k k1 kj l hl=> .inl (((h2 k k1 kj).1 l).1 hl)) (fun k k1 kj l hl=> .inl (((h2 k k1 kj).2 l).1 hl)) (fun l hs hl=> .inl ⟨eS▸hs,fun k k1 kj=>⟨fun x=>(hl k k1 kj).1 (((h2 k k1 kj).1 l).2 x),fun x=>(hl k k1 kj).2 (((h2 k k1 kj).2 l).2 x)⟩⟩)
  (fun l hs hl=> .inl ⟨eS▸hs,fun k k1 kj x=>hl k k1 kj (((h2 k k1 kj).1 l).2 x)⟩),h.low,fun i g a b c=>(h.over i g a b c).imp id (h6 g),fun p' aV k hk kj hs=>?_,fun p' aV=>?_,fun i x g a b c=>(h.old i x g a (eS▸b) c).imp id (h6 g)⟩
 ·obtain⟨p,hp,e1,e2⟩:=h4 p' aV
  rw[←e1,eS];exact h.rel p hp k (by omega) kj (by rw[←h3 k kj];exact hs)
 ·obtain⟨p,hp,e1,e2⟩:=h4 p' aV
  rw[←e1];exact h.norel p hp
theorem TJ.fork (A:BA γ)(h:TJ γ B t j)(h0:Deaf t 0=0){p:Ph}(hp:γ.ph=some p)(hj:p.j0≤j)(hb:γ.st (j+1)= .busy){x y:MemOp}(hx:x.g=0∧x.act= .go (j+1))(hy:y.g=j+1∧y.act= .start):TJ γ B (t++ #[x,y]) (j+1):=by
 have hm:∀op∈ #[x,y],op=x∨op=y:=by intro op aS;simpa using aS
 have hn:∀op∈ #[x,y],op.act.touch?=none:=by
  intro op aS;rcases hm op aS with rfl|rfl
  ·rw[hx.2];rfl
  ·rw[hy.2];rfl
 refine⟨h.ct.fork A.apart hx hy h0,fun op aS=>?_,s_ h.over fun op aS=> .inr (.inl (hn op aS)),fun p' aV k' cB Ak hs=>?_,fun p' aV=>(h.norel p' aV).app fun op aS=>?_,rz h.old fun op aS=> .inr (.inl fun z hz=>by rw[hn op aS]at hz;cases hz)⟩
 ·rcases Array.mem_append.1 aS with U|U
  ·exact h.low op U
  ·rcases hm op U with rfl|rfl
   ·rw[hx.2];trivial
   ·rw[hy.2];trivial
 ·have Qt:k'≤j:=by
   rcases Nat.lt_or_ge j k' with h'|h'
   ·obtain rfl:k'=j+1:=by omega
    exact absurd hb hs
   ·exact h'
  obtain⟨r,hr⟩:=h.rel p' aV k' cB Qt hs;have e:t++ #[x,y]=(t++ #[x])++ #[y]:=by apply Array.ext';simp
  rw[e];have Ta:∀op∈ #[x],op.g=0:=fun op aS=>by simp at aS;subst aS;exact hx.1
  have CQ:∀op∈ #[y],op.g=j+1:=fun op aS=>by simp at aS;subst aS;exact hy.1
  exact⟨r,kG (kG hr Ta (by omega)) CQ (by omega)⟩
 ·rcases hm op aS with rfl|rfl
  ·rw[hx.2];nofun
  ·rw[hy.2];nofun
theorem TJ.grow (h:TJ γ B t j)(hB:B≤B')(ot:∀b,γ.sh b→b<B)(k0:Nat):TJ {γ with ow:=fun k b=>γ.ow k b∨(k=k0∧B≤b∧b<B')} B' t j:=by
 refine⟨mU h.ct (fun l hl=> .inl hl) (fun k k1 kj l hl=>?_) (fun k k1 kj l hl=> .inl hl) (fun l hs hl=> .inl ⟨hs,fun k k1 kj=>⟨fun x=>(hl k k1 kj).1 ?_,(hl k k1 kj).2⟩⟩) (fun l hs hl=> .inl ⟨hs,fun k k1 kj x=>hl k k1 kj ?_⟩),
  fun op aS=>MemAct.low_mono hB (h.low op aS),h.over,h.rel,h.norel,h.old⟩
 ·rcases hl with⟨b,hb,ho|⟨_,Tb,_⟩⟩|ho
  ·exact .inl (.inl ⟨b,hb,ho⟩)
  ·exact .inr (lz h.low hb Tb)
  ·exact .inl (.inr ho)
 ·rcases x with⟨b,hb,ho⟩|ho
  ·exact .inl ⟨b,hb,.inl ho⟩
  ·exact .inr ho
 ·rcases x with⟨b,hb,ho⟩|ho
  ·exact .inl ⟨b,hb,.inl ho⟩
  ·exact .inr ho
theorem TJ.open (h:TJ γ B t j)(hB:B≤B')(hn:γ.ph=none)(pD:∀k b,¬γ.ow k b∧¬γ.ro k b)(p:Ph)(hj:p.j0=j)(hw:B≤p.wg)(st:Nat→iz)(wm:WM):TJ {γ with sh:=fun b=>γ.sh b∨b=p.wg,ph:=some p,st,wm} B' t j:=by
 have e1:∀k l,¬γ.Own k l:=by
  rintro k l (⟨b,_,ho⟩|⟨a,_,p',aV,_⟩)
  ·exact(pD k b).1 ho
  ·rw[hn]at aV;cases aV
 have e2:∀k l,¬γ.Rd k l:=fun k l ⟨b,_,ho⟩=>(pD k b).2 ho
 refine⟨mU h.ct (fun l hl=>?_) (fun k k1 kj l hl=>?_) (fun k k1 kj l hl=> .inl hl) (fun l hs hl=> .inl ⟨fun⟨a,ha,hx⟩=>hs ⟨a,ha,.inl hx⟩,fun k k1 kj=>⟨e1 k l,e2 k l⟩⟩) (fun l hs hl=> .inl ⟨fun⟨a,ha,hx⟩=>hs ⟨a,ha,.inl hx⟩,fun k k1 kj=>e1 k l⟩),
  fun op aS=>MemAct.low_mono hB (h.low op aS),fun i g a b c=>?_,fun p' aV k hk kj _=>?_,fun p' aV i hi=>?_,fun i x g a b c=>?_⟩
 ·obtain⟨a,rfl,hs|hs⟩:=hl
  ·exact .inl ⟨a,rfl,hs⟩
  ·exact .inr (lz h.low rfl (hs▸hw))
 ·rcases hl with⟨b,_,ho⟩|⟨a,_,p',aV,hk,_⟩
  ·exact absurd ho (pD k b).1
  ·cases aV;omega
 ·rcases h.over i g a b c with h'|⟨p',aV,_⟩
  ·exact .inl h'
  ·rw[hn]at aV;cases aV
 ·cases aV;omega
 ·cases aV
  obtain⟨op,ho,Yo⟩:=Option.map_eq_some_iff.1 hi;have:=h.low op (Array.mem_of_getElem? ho)
  rw[Yo]at this;have:p.wg<B:=this
  omega
 ·rcases h.old i x g a (fun⟨q,hq,hs⟩=>b ⟨q,hq,.inl hs⟩) c with h'|⟨p',aV,_⟩
  ·exact .inl h'
  ·rw[hn]at aV;cases aV
theorem vQ {t:Trace}{i:Nat}{op:MemOp}(h:t[i]?=some op):t.g? i=some op.g:=by simp[Trace.g?,h]
theorem TJ.join (A:BA γ)(h:TJ γ B t j){p:Ph}(hp:γ.ph=some p)(db:∀k,p.j0<k→k≤j→γ.st k≠.busy)(h0:Deaf t 0=0)(hw:p.wg<B)(st:Nat→iz)(wm:WM):
  TJ {γ with ow:=fun _ _=>False,ro:=fun _ _=>False,ph:=none,st,wm} B (t++MemOp.ofEvents 0 fn pos #[⟨.mark (.acquire ⟨p.wg,0,none⟩),false,true⟩]) j:=by
 have hb:TJ γ B (t++MemOp.ofEvents 0 fn pos #[⟨.mark (.acquire ⟨p.wg,0,none⟩),false,true⟩]) j:=h.still A (Nat.zero_le _) fun e he=>by
  simp at he;subst he;exact⟨rfl,hw,nofun⟩
 have eu:MemOp.ofEvents 0 fn pos #[⟨.mark (.acquire ⟨p.wg,0,none⟩),false,true⟩]= #[({g:=0,fn,pos,act:= .mark (.acquire ⟨p.wg,0,none⟩)}:MemOp)]:=by rw[ofEvents_eq];simp[MemAct.ofEvent]
 rw[eu]at hb⊢;have hq:(t++ #[({g:=0,fn,pos,act:= .mark (.acquire ⟨p.wg,0,none⟩)}:MemOp)])[t.size]?=some {g:=0,fn,pos,act:= .mark (.acquire ⟨p.wg,0,none⟩)}:=by simp
 have hh:(t++ #[({g:=0,fn,pos,act:= .mark (.acquire ⟨p.wg,0,none⟩)}:MemOp)]).heard t.size:=⟨0,vQ hq,by rw[deaf_old (Nat.le_refl _)];exact h0⟩
 have R6:∀g,p.j0<g→g≤j→∃r,RelBy ⟨p.wg,0,none⟩ (t++ #[({g:=0,fn,pos,act:= .mark (.acquire ⟨p.wg,0,none⟩)}:MemOp)]) g r∧(∀i x,r<i→(t++ #[({g:=0,fn,pos,act:= .mark (.acquire ⟨p.wg,0,none⟩)}:MemOp)]).g? i=some g→touchAt (t++ #[({g:=0,fn,pos,act:= .mark (.acquire ⟨p.wg,0,none⟩)}:MemOp)]) i=some x→γ.Sh x.loc)∧
   HappensBefore (t++ #[({g:=0,fn,pos,act:= .mark (.acquire ⟨p.wg,0,none⟩)}:MemOp)]) r t.size:=by
  intro g hg gj;obtain⟨r,oq,vO⟩:=hb.rel p hp g hg gj (db g hg gj);obtain⟨r',aag,_⟩:=h.rel p hp g hg gj (db g hg gj);refine⟨r,oq,vO,.single (.inr ⟨.marked ?_ (.inr oq.act) (by rw[act?_of hq]) (fun k _ _=>hb.norel p hp k),oq.heard,hh⟩)⟩
  have aj:=lt_of_act? oq.act;have cG:r≠t.size:=by
   rintro rfl;have:=oq.act
   rw[act?_of hq]at this
   cases this
  simp at aj
  omega
 have all:∀i x,touchAt (t++ #[({g:=0,fn,pos,act:= .mark (.acquire ⟨p.wg,0,none⟩)}:MemOp)]) i=some x→¬γ.Sh x.loc→Knows (t++ #[({g:=0,fn,pos,act:= .mark (.acquire ⟨p.wg,0,none⟩)}:MemOp)]) 0 i:=by
  intro i x hx hs;obtain⟨op,ho,j5⟩:=touch_of hx;rcases hb.old i x op.g hx hs (vQ ho)with h'|⟨p',aV,hg⟩
  ·exact h'
  ·rw[hp]at aV;cases aV
   obtain⟨r,oq,vO,NC⟩:=R6 op.g hg (hb.ct.gs i op ho);have hle:i≤r:=Nat.le_of_not_lt fun aj=>hs (vO i x aj (vQ ho) hx)
   refine⟨t.size,_,hq,rfl,.inr ?_⟩;rcases Nat.lt_or_ge i r with aj|vR
   ·exact .trans (.single (.inl ⟨aj,op.g,vQ ho,oq.g⟩)) NC
   ·obtain rfl:i=r:=by omega
    exact NC
 have pm:∀l,¬γ.Sh l→Perm (t++ #[({g:=0,fn,pos,act:= .mark (.acquire ⟨p.wg,0,none⟩)}:MemOp)]) 0 l:=fun l hs i x hx e=>all i x hx (e▸hs)
 refine⟨mU hb.ct (fun l hl=> .inl hl) (fun k k1 kj l hl=>?_) (fun k k1 kj l hl=>?_) (fun l hs hl=> .inr (pm l hs)) (fun l hs hl=> .inr (.of (pm l hs))),hb.low,fun i g a b c=> .inl ?_,nofun,nofun,fun i x g a b c=> .inl (all i x a b)⟩
 ·rcases hl with⟨b,_,ho⟩|⟨a,_,p',aV,_⟩
  ·exact ho.elim
  ·cases aV
 ·obtain⟨b,_,ho⟩:=hl
  exact ho.elim
 ·rcases hb.over i g a b c with h'|⟨p',aV,hg⟩
  ·exact h'
  ·rw[hp]at aV;cases aV
   have gj:g≤j:=by
    unfold Trace.g? at a;obtain⟨op,ho,rfl⟩:=Option.map_eq_some_iff.1 a;exact hb.ct.gs i op ho
   obtain⟨r,oq,vO,NC⟩:=R6 g hg gj;have hle:i≤r:=Nat.le_of_not_lt fun aj=>oq.after i aj a c
   refine⟨t.size,vQ hq,?_⟩;rcases Nat.lt_or_ge i r with aj|vR
   ·exact .trans (.single (.inl ⟨aj,g,a,oq.g⟩)) NC
   ·obtain rfl:i=r:=by omega
    exact NC
theorem TJ.init (γ:Gh)(B:Nat):TJ γ B #[] 0:=
 ⟨⟨fun i op x hi=>by simp at hi,fun k k1 kj=>by omega,fun k k1 kj=>by omega,fun l _ _ i x hx=>by simp[touchAt,Trace.act?]at hx,fun l _ _ i x hx=>by simp[touchAt,Trace.act?]at hx,fun said=>by rintro⟨i,q,_,⟨a,b,ha,_⟩,_⟩;simp[Trace.act?]at ha,fun i op hi=>by simp at hi⟩,
   fun op aS=>by simp at aS,fun i g hg=>by simp[Trace.g?]at hg,fun p _ k _ hk _=>by omega,fun p _ i hi=>by simp[Trace.act?]at hi,fun i x g hx=>by simp[touchAt,Trace.act?]at hx⟩
end
end Go.Proofs.YtjklkppncmhehaaGreat.Sr
namespace Go.Proofs.YtjklkppncmhehaaGreat.Sr
open Go Go.Conc Go.ConcN
def cnt (st:Nat→iz)(j0:Nat):Nat→Nat
 |0=>0
 |m+1=>cnt st j0 m+(if st (j0+m+1)= .off then 0 else 1)
theorem mV {st st':Nat→iz}{j0:Nat}:∀{m:Nat},(∀k,j0<k→k≤j0+m→(st k= .off↔st' k= .off))→cnt st j0 m=cnt st' j0 m
 |0,_=>rfl
 |m+1,h=>by
  simp only[cnt];rw[mV (m:=m) fun k U h2=>h k U (by omega)]
  have:=h (j0+m+1) (by omega) (by omega)
  simp[this]
theorem vT {st:Nat→iz}{j0 k:Nat}:∀{m:Nat},j0<k→k≤j0+m→st k≠.off→cnt st j0 m=cnt (fun i=>if i=k then .off else st i) j0 m+1
 |0,U,h2,_=>by omega
 |m+1,U,h2,h3=>by
  simp only[cnt];by_cases hk:k=j0+m+1
  ·subst hk
   rw[mV (m:=m) (st:=fun i=>if i=j0+m+1 then iz.off else st i) (st':=st) fun i _ hi=>by rw[if_neg (by omega)]]
   simp[h3]
  ·rw[vT (m:=m) U (by omega) h3]
   have:¬(j0+m+1=k):=fun e=>hk e.symm
   simp only[if_neg this];omega
theorem CR {st:Nat→iz}{j0:Nat}:∀{m:Nat},0<cnt st j0 m→∃k,j0<k∧k≤j0+m∧st k≠.off
 |0,h=>by simp[cnt]at h
 |m+1,h=>by
  simp only[cnt]at h;by_cases U:st (j0+m+1)= .off
  ·obtain⟨k,a,b,c⟩:=CR (m:=m) (by simp[U]at h;exact h)
   exact⟨k,a,by omega,c⟩
  ·exact⟨j0+m+1,by omega,by omega,U⟩
theorem K1 {st:Nat→iz}{j0 m:Nat}(h:cnt st j0 m=0)(k:Nat)(U:j0<k)(h2:k≤j0+m):st k= .off:=Classical.byContradiction fun hn=>by
 have:=vT U h2 hn
 omega
theorem uX {st:Nat→iz}{j0:Nat}:∀{m:Nat},cnt st j0 m≤m
 |0=>Nat.le_refl _
 |m+1=>by
  have:=uX (st:=st) (j0:=j0) (m:=m)
  simp only[cnt];split<;>omega
def bp:Int:=4294967296
def aP (wm:WM)(v:Nat):Int:=match wm with
 | .op=>v*bp
 | .bT=>v*bp+1
 | .la _=>1
 |_=>0
def vU:WM→Int
 | .rel=>1
 |_=>0
def cd (e:TypeId)(st sm:Int):Obj:= .cells #[.int .u64 st,.int .u32 sm] e
def Gh.v (γ:Gh)(p:Ph):Nat:=cnt γ.st p.j0 (γ.j-p.j0)+γ.extra
structure Phase (γ:Gh) (w:World) (p:Ph):Prop where
 j0:p.j0≤γ.j
 jn:γ.j-p.j0+γ.extra≤p.n
 n5:p.n≤5
 sh:γ.sh p.wg
 Alt:p.A<w.heap.size
 wg:w.heap[p.wg]?=some (cd p.eW (aP γ.wm (γ.v p)) (vU γ.wm))
 bT:γ.wm= .bT→γ.extra=0∧0<γ.v p
 la:∀k,γ.wm= .la k∨γ.wm= .lb k→γ.v p=0∧p.j0<k∧k≤γ.j∧γ.st k= .off
 rel:γ.wm= .rel→γ.v p=0
 arr:∃cs,w.heap[p.A]?=some (.cells cs p.eA)∧cs.size=5*p.n∧∀k,p.j0<k→k≤γ.j→γ.st k≠.busy→∀c,c<5→cs[5*(k-p.j0-1)+c]?=some (p.lh (k-p.j0-1) c)
structure JJ (γ:Gh) (w:World) (t:Trace) (j:Nat):Prop where
 tj:TJ γ w.heap.size t j
 ba:BA γ
 j:γ.j=j
 kH:∀k b,γ.ow k b→b<w.heap.size
 jm:∀k b,γ.ro k b→b<w.heap.size
 cT:∀b,γ.sh b→b<w.heap.size
 none:γ.ph=none→(∀k b,¬γ.ow k b∧¬γ.ro k b)∧(∀k,γ.st k= .off)∧γ.wm= .op
 out:∀p,γ.ph=some p→∀k,k≤p.j0∨γ.j<k→γ.st k= .off∧∀b,¬γ.ow k b∧¬γ.ro k b
 phase:∀p,γ.ph=some p→Phase γ w p
def Gh.cV (γ:Gh)(k:Nat):Prop:=γ.st k= .off∧γ.wm≠.la k∧γ.wm≠.lb k
structure RW (k:Nat) (γ:Gh) (w:World) (af:Gh) (w':World):Prop where
 size:w.heap.size≤w'.heap.size
 same:w'.tape=w.tape∧w'.os=w.os∧w'.output=w.output
 gone:γ.cV k↔af.cV k
 live:¬γ.cV k→af.st k=γ.st k∧(∀b,af.ow k b↔γ.ow k b)∧(∀b,af.ro k b↔γ.ro k b)∧af.ph=γ.ph∧(af.wm= .la k↔γ.wm= .la k)∧(af.wm= .lb k↔γ.wm= .lb k)∧
  (∀b,γ.ow k b∨γ.ro k b→w'.heap[b]?=w.heap[b]?)∧∀a,γ.Slot k a→w'.cell? a=w.cell? a
structure RM (γ:Gh) (w:World) (af:Gh) (w':World):Prop where
 size:w.heap.size≤w'.heap.size
 same:w'.tape=w.tape∧w'.os=w.os∧w'.output=w.output
 gh:af.sh=γ.sh∧af.ph=γ.ph∧af.ro=γ.ro∧af.extra=γ.extra∧af.j=γ.j
 none:γ.ph=none→af=γ∧w'.heap=w.heap
 ow:∀k b,b<w.heap.size→(af.ow k b↔γ.ow k b)
 heap:∀b,b<w.heap.size→(∀k,¬γ.ow k b)→¬γ.sh b→(∀p,γ.ph=some p→b≠p.A)→w'.heap[b]?=w.heap[b]?
 wm:γ.wm= .op↔af.wm= .op
 le:∀p,γ.ph=some p→cnt af.st p.j0 (γ.j-p.j0)≤cnt γ.st p.j0 (γ.j-p.j0)
def RR (k:Nat):Gh→World→Gh→World→Prop:=if k=0 then RM else RW k
theorem RW.refl (k:Nat)(γ:Gh)(w:World):RW k γ w γ w:=⟨Nat.le_refl _,⟨rfl,rfl,rfl⟩,.rfl,fun _=>⟨rfl,fun _=> .rfl,fun _=> .rfl,rfl,.rfl,.rfl,fun _ _=>rfl,fun _ _=>rfl⟩⟩
theorem RM.refl (γ:Gh)(w:World):RM γ w γ w:=⟨Nat.le_refl _,⟨rfl,rfl,rfl⟩,⟨rfl,rfl,rfl,rfl,rfl⟩,fun _=>⟨rfl,rfl⟩,fun _ _ _=> .rfl,fun _ _ _ _ _=>rfl,.rfl,fun _ _=>Nat.le_refl _⟩
theorem RW.trans {k:Nat}{a b c:Gh}{u v w:World}(h:RW k a u b v)(g:RW k b v c w):RW k a u c w:=by
 refine⟨Nat.le_trans h.size g.size,⟨g.same.1.trans h.same.1,g.same.2.1.trans h.same.2.1,g.same.2.2.trans h.same.2.2⟩,h.gone.trans g.gone,fun hn=>?_⟩
 obtain⟨a1,a2,a3,a4,a5,a6,a7,a8⟩:=h.live hn;obtain⟨b1,b2,b3,b4,b5,b6,b7,b8⟩:=g.live fun x=>hn (h.gone.2 x)
 refine⟨b1.trans a1,fun x=>(b2 x).trans (a2 x),fun x=>(b3 x).trans (a3 x),b4.trans a4,b5.trans a5,b6.trans a6,fun x hx=>(b7 x ?_).trans (a7 x hx),fun x hx=>(b8 x ?_).trans (a8 x hx)⟩
 ·exact hx.imp (a2 x).2 (a3 x).2
 ·unfold Gh.Slot at hx⊢
  rwa[a4]
theorem RM.trans {a b c:Gh}{u v w:World}(h:RM a u b v)(g:RM b v c w):RM a u c w:=by
 obtain⟨a1,a2,a3,a4,a5⟩:=h.gh;obtain⟨b1,b2,b3,b4,b5⟩:=g.gh;refine⟨Nat.le_trans h.size g.size,⟨g.same.1.trans h.same.1,g.same.2.1.trans h.same.2.1,g.same.2.2.trans h.same.2.2⟩,⟨b1.trans a1,b2.trans a2,b3.trans a3,b4.trans a4,b5.trans a5⟩,fun hn=>?_,
  fun k x hx=>(g.ow k x (Nat.lt_of_lt_of_le hx h.size)).trans (h.ow k x hx),fun x hx U h2 h3=>?_,h.wm.trans g.wm,fun p hp=>?_⟩
 ·obtain⟨e1,e2⟩:=h.none hn
  subst e1;obtain⟨e3,e4⟩:=g.none hn;exact⟨e3,e4.trans e2⟩
 ·rw[g.heap x (Nat.lt_of_lt_of_le hx h.size) (fun k hk=>U k ((h.ow k x hx).1 hk)) (a1▸h2) (fun p hp=>h3 p (a2▸hp)),h.heap x hx U h2 h3]
 ·have:=g.le p (a2▸hp)
  rw[a5]at this;exact Nat.le_trans this (h.le p hp)
theorem JJ.draw {γ:Gh}{w:World}{t:Trace}{j:Nat}(h:JJ γ w t j)(d:Nat):JJ γ (w.at d) t j:=
 ⟨h.tj,h.ba,h.j,h.kH,h.jm,h.cT,h.none,h.out,fun p hp=>let x:=h.phase p hp;⟨x.j0,x.jn,x.n5,x.sh,x.Alt,x.wg,x.bT,x.la,x.rel,x.arr⟩⟩
theorem JJ.sub {γ:Gh}{w:World}{t u:Trace}{j:Nat}(h:JJ γ w t j)(hu:TJ γ w.heap.size u j):JJ γ w u j:=⟨hu,h.ba,h.j,h.kH,h.jm,h.cT,h.none,h.out,h.phase⟩
theorem ou {e:Event}(h:e.mute=true)(B:Nat):(MemAct.ofEvent e).touch?=none∧(MemAct.ofEvent e).low B∧∀a,MemAct.ofEvent e≠.mark (.release a):=by
 refine⟨touch_mute h,low_mute h B,fun a=>?_⟩
 obtain⟨loc,wr,sy⟩:=e
 cases loc<;>simp_all[Event.mute]
 rename_i m
 cases m<;>simp_all[MemAct.ofEvent]
def sys (P:Program):Sys P Gh where
 J:=JJ
 R:=RR
 Bl:=fun γ _=>γ.wm≠.rel
 cV:=Gh.cV
 refl:=fun k γ w=>by
  unfold RR;split
  ·exact RM.refl γ w
  ·exact RW.refl k γ w
 trans:=fun {k a u b v c w} h g=>by
  unfold RR at*;by_cases hk:k=0
  ·simp only[if_pos hk]at*
   exact RM.trans h g
  ·simp only[if_neg hk]at*
   exact RW.trans h g
 Ns:=fun d h=>h.draw d
 vI:=fun k γ w d=>by
  unfold RR;split
  ·exact⟨Nat.le_refl _,⟨rfl,rfl,rfl⟩,⟨rfl,rfl,rfl,rfl,rfl⟩,fun _=>⟨rfl,rfl⟩,fun _ _ _=> .rfl,fun _ _ _ _ _=>rfl,.rfl,fun _ _=>Nat.le_refl _⟩
  ·exact⟨Nat.le_refl _,⟨rfl,rfl,rfl⟩,.rfl,fun _=>⟨rfl,fun _=> .rfl,fun _=> .rfl,rfl,.rfl,.rfl,fun _ _=>rfl,fun _ _=>rfl⟩⟩
 Jx:=fun _ _ _=> .rfl
 Jy:=fun h=>h.tj.ct.gs
 mute:=fun fn pos es h hg k1 kj hm=>h.sub (h.tj.still h.ba kj fun e he=>ou (hm e he) _)
end Go.Proofs.YtjklkppncmhehaaGreat.Sr
namespace Go.Proofs.YtjklkppncmhehaaGreat.Sr
open Go Go.Conc Go.ConcN
section
variable {γ:Gh}{w w1:World}{t:Trace}{j k:Nat}{p:Ph}{fn:FuncId}{pos:String}{es:Array Event}
abbrev br (w w1:World):Prop:=w1.tape=w.tape∧w1.os=w.os∧w1.output=w.output
def Gh.grow (γ:Gh)(k a b:Nat):Gh:={γ with ow:=fun i x=>γ.ow i x∨(i=k∧a≤x∧x<b)}
theorem JJ.lt (h:JJ γ w t j)(hp:γ.ph=some p):p.wg<w.heap.size∧p.A<w.heap.size∧p.wg≠p.A:=by
 have x:=h.phase p hp;exact⟨h.cT _ x.sh,x.Alt,fun e=>(h.ba.A p hp).2 (e▸x.sh)⟩
theorem BA.grow (h:JJ γ w t j)(hs:w.heap.size≤w1.heap.size):BA (γ.grow k w.heap.size w1.heap.size):=by
 refine⟨?_,?_,?_,h.ba.ry,fun p hp=>?_⟩
 ·rintro i i' b (U|⟨rfl,U,_⟩) (h2|⟨rfl,h2,_⟩)
  ·exact h.ba.ow _ _ _ U h2
  ·have:=h.kH _ _ U;omega
  ·have:=h.kH _ _ h2;omega
  ·rfl
 ·rintro i i' b (U|⟨rfl,U,_⟩) h2
  ·exact h.ba.oo _ _ _ U h2
  ·have:=h.jm _ _ h2;omega
 ·rintro i b (U|⟨rfl,U,_⟩) h2
  ·exact h.ba.pT _ _ U h2
  ·have:=h.cT _ h2;omega
 ·obtain⟨U,h2⟩:=h.ba.A p hp
  have:=(h.lt hp).2.1
  refine⟨fun i=>⟨?_,(U i).2⟩,h2⟩
  rintro(h3|⟨rfl,h3,_⟩)
  ·exact(U i).1 h3
  ·omega
theorem cell_of {w w':World}{a:Addr}(h:w'.heap[a.block]?=w.heap[a.block]?):w'.cell? a=w.cell? a:=by
 unfold World.cell?;rw[h]
theorem ND (h:JJ γ w t j)(hp:γ.ph=some p)(hk:p.j0<k)(kj:k≤j)(hb:γ.st k= .busy)(fg:br w w1)(hs:w.heap.size≤w1.heap.size)(hh:∀b,b<w.heap.size→¬γ.ow k b→w1.heap[b]?=w.heap[b]?)
  (cE:∀e∈es,K0 (γ.grow k w.heap.size w1.heap.size) k w1.heap.size e):
  JJ (γ.grow k w.heap.size w1.heap.size) w1 (t++MemOp.ofEvents k fn pos es) j∧∀k',k'≠k→RR k' γ w (γ.grow k w.heap.size w1.heap.size) w1:=by
 have vV:=BA.grow (k:=k) h hs;obtain⟨l1,l2,l3⟩:=h.lt hp;have x:=h.phase p hp;refine⟨⟨(h.tj.grow hs h.cT k).worker vV (Nat.le_refl _) hp hk kj hb cE,vV,h.j,?_,fun i b hi=>Nat.lt_of_lt_of_le (h.jm i b hi) hs,fun b hi=>Nat.lt_of_lt_of_le (h.cT b hi) hs,fun e=>?_,fun p' aV i hi=>?_,fun p' aV=>?_⟩,fun k' cB=>?_⟩
 ·rintro i b (U|⟨_,_,U⟩)
  ·exact Nat.lt_of_lt_of_le (h.kH i b U) hs
  ·exact U
 ·have:γ.ph=none:=e
  rw[hp]at this;cases this
 ·have e:γ.ph=some p':=aV
  rw[hp]at e;cases e;obtain⟨U,h2⟩:=h.out p hp i hi;refine⟨U,fun b=>⟨?_,(h2 b).2⟩⟩
  rintro(h3|⟨rfl,_⟩)
  ·exact(h2 b).1 h3
  ·rw[hb]at U;cases U
 ·have e:γ.ph=some p':=aV
  rw[hp]at e;cases e;have Tc:w1.heap[p.wg]?=w.heap[p.wg]?:=hh _ l1 fun o=>h.ba.pT _ _ o x.sh
  have hA:w1.heap[p.A]?=w.heap[p.A]?:=hh _ l2 ((h.ba.A p hp).1 k).1
  obtain⟨cs,a1,a2,a3⟩:=x.arr;exact⟨x.j0,x.jn,x.n5,x.sh,Nat.lt_of_lt_of_le l2 hs,Tc.trans x.wg,x.bT,x.la,x.rel,cs,hA.trans a1,a2,a3⟩
 ·unfold RR
  split
  ·refine⟨hs,fg,⟨rfl,rfl,rfl,rfl,rfl⟩,fun e=>?_,fun i b aj=>⟨?_,.inl⟩,fun b aj U _ _=>hh b aj (U k),.rfl,fun _ _=>Nat.le_refl _⟩
   ·rw[hp]at e;cases e
   ·rintro(h3|⟨_,h3,_⟩)
    ·exact h3
    ·omega
  ·refine⟨hs,fg,.rfl,fun _=>⟨rfl,fun b=>⟨?_,.inl⟩,fun _=> .rfl,rfl,.rfl,.rfl,fun b cv=>?_,fun a ha=>?_⟩⟩
   ·rintro(h3|⟨h3,_⟩)
    ·exact h3
    ·exact absurd h3 cB
   ·refine hh b ?_ fun o=>?_
    ·exact cv.elim (h.kH _ _) (h.jm _ _)
    ·exact cv.elim (fun x=>cB (h.ba.ow _ _ _ x o)) (fun x=>h.ba.oo _ _ _ o x)
   ·obtain⟨p',aV,_,s8,_⟩:=ha
    rw[hp]at aV;cases aV;exact cell_of (by rw[s8];exact hh _ l2 ((h.ba.A p hp).1 k).1)
theorem NF (h:JJ γ w t j)(hp:γ.ph=some p)(hk:p.j0<k)(kj:k≤j)(hb:γ.st k= .busy)(fg:br w w1)(hs:w1.heap.size=w.heap.size)(hh:∀b,b≠p.A→w1.heap[b]?=w.heap[b]?)
  (hA:∀cs,w.heap[p.A]?=some (.cells cs p.eA)→∃bK,w1.heap[p.A]?=some (.cells bK p.eA)∧bK.size=cs.size∧∀o,¬(5*(k-p.j0-1)≤o∧o<5*(k-p.j0-1)+5)→bK[o]?=cs[o]?) (cE:∀e∈es,K0 γ k w.heap.size e):
  JJ γ w1 (t++MemOp.ofEvents k fn pos es) j∧∀k',k'≠k→RR k' γ w γ w1:=by
 obtain⟨l1,l2,l3⟩:=h.lt hp;have x:=h.phase p hp;obtain⟨cs,a1,a2,a3⟩:=x.arr;obtain⟨bK,b1,b2,b3⟩:=hA cs a1;refine⟨⟨hs▸h.tj.worker h.ba (Nat.le_refl _) hp hk kj hb cE,h.ba,h.j,hs▸h.kH,hs▸h.jm,hs▸h.cT,h.none,h.out,fun p' aV=>?_⟩,fun k' cB=>?_⟩
 ·rw[hp]at aV;cases aV
  refine⟨x.j0,x.jn,x.n5,x.sh,hs▸l2,(hh _ l3).trans x.wg,x.bT,x.la,x.rel,bK,b1,b2.trans a2,fun i i1 i2 i3 c hc=>?_⟩
  have cG:i≠k:=fun e=>i3 (e▸hb)
  rw[b3 _ (by omega)]
  exact a3 i i1 i2 i3 c hc
 ·unfold RR
  split
  ·refine⟨Nat.le_of_eq hs.symm,fg,⟨rfl,rfl,rfl,rfl,rfl⟩,fun e=>?_,fun _ _ _=> .rfl,fun b aj U _ h3=>hh b (h3 p hp),.rfl,fun _ _=>Nat.le_refl _⟩
   rw[hp]at e;cases e
  ·refine⟨Nat.le_of_eq hs.symm,fg,.rfl,fun _=>⟨rfl,fun _=> .rfl,fun _=> .rfl,rfl,.rfl,.rfl,fun b cv=>hh b ?_,fun a ha=>?_⟩⟩
   ·rintro rfl
    exact cv.elim ((h.ba.A p hp).1 _).1 ((h.ba.A p hp).1 _).2
   ·obtain⟨p',aV,Vs,s8,h4,h5⟩:=ha
    rw[hp]at aV;cases aV;unfold World.cell?;rw[s8,a1,b1];simp only
    rw[b3 _ (by omega)]
theorem G9 (h:JJ γ w t j)(hp:γ.ph=some p)(hk:p.j0<k)(kj:k≤j)(hb:γ.st k= .busy)(hd:Deaf t k=0)(hc:∀c,c<5→w.cell? ⟨p.A,5*(k-p.j0-1)+c,none⟩=some (p.lh (k-p.j0-1) c)):
  JJ {γ with st:=fun i=>if i=k then .said else γ.st i} w (t++MemOp.ofEvents k fn pos #[⟨.mark (.releaseMerge ⟨p.wg,0,none⟩),false,true⟩]) j∧∀k',k'≠k→RR k' γ w {γ with st:=fun i=>if i=k then .said else γ.st i} w:=by
 obtain⟨l1,l2,l3⟩:=h.lt hp;have x:=h.phase p hp;obtain⟨cs,a1,a2,a3⟩:=x.arr;have ec:∀j0 m,cnt (fun i=>if i=k then iz.said else γ.st i) j0 m=cnt γ.st j0 m:=fun j0 m=>mV fun i _ _=>by
  by_cases e:i=k
  ·subst e;simp[hb]
  ·simp[e]
 have vV:BA {γ with st:=fun i=>if i=k then .said else γ.st i}:=⟨h.ba.ow,h.ba.oo,h.ba.pT,h.ba.ry,h.ba.A⟩
 have ev:∀q,Gh.v {γ with st:=fun i=>if i=k then .said else γ.st i} q=γ.v q:=fun q=>by unfold Gh.v;rw[ec]
 refine⟨⟨h.tj.release h.ba hp hk kj hd l1,vV,h.j,h.kH,h.jm,h.cT,fun e=>?_,fun p' aV i hi=>?_,fun p' aV=>?_⟩,fun k' cB=>?_⟩
 ·have:γ.ph=none:=e
  rw[hp]at this;cases this
 ·have e:γ.ph=some p':=aV
  rw[hp]at e;cases e;obtain⟨U,h2⟩:=h.out p hp i hi;refine⟨?_,h2⟩;have cG:i≠k:=fun e=>by rw[e,hb]at U;cases U
  simp[cG,U]
 ·have e:γ.ph=some p':=aV
  rw[hp]at e;cases e;refine⟨x.j0,x.jn,x.n5,x.sh,l2,by rw[ev];exact x.wg,fun e=>by rw[ev];exact x.bT e,fun i hi=>?_,fun e=>by rw[ev];exact x.rel e,cs,a1,a2,fun i i1 i2 i3 c eR=>?_⟩
  ·obtain⟨c1,c2,c3,c4⟩:=x.la i hi
   have cG:i≠k:=fun e=>by rw[e,hb]at c4;cases c4
   exact⟨by rw[ev];exact c1,c2,c3,by simp[cG,c4]⟩
  ·by_cases Vt:i=k
   ·subst Vt
    have:=hc c eR
    unfold World.cell? at this;rw[a1]at this;simpa using this
   ·exact a3 i i1 i2 (by simpa[Vt]using i3) c eR
 ·unfold RR
  split
  ·refine⟨Nat.le_refl _,⟨rfl,rfl,rfl⟩,⟨rfl,rfl,rfl,rfl,rfl⟩,fun e=>?_,fun _ _ _=> .rfl,fun _ _ _ _ _=>rfl,.rfl,fun q _=>by rw[ec];exact Nat.le_refl _⟩
   rw[hp]at e;cases e
  ·have es:(if k'=k then iz.said else γ.st k')=γ.st k':=if_neg cB
   refine⟨Nat.le_refl _,⟨rfl,rfl,rfl⟩,?_,fun _=>⟨es,fun _=> .rfl,fun _=> .rfl,rfl,.rfl,.rfl,fun _ _=>rfl,fun _ _=>rfl⟩⟩
   unfold Gh.cV;simp only[es]
end
end Go.Proofs.YtjklkppncmhehaaGreat.Sr
namespace Go.Proofs.YtjklkppncmhehaaGreat.Sr
open Go Go.Conc Go.ConcN
section
variable {γ:Gh}{w w1:World}{t:Trace}{j k:Nat}{p:Ph}{fn:FuncId}{pos:String}{es:Array Event}
theorem CS (h:JJ γ w t j)(k1:1≤k)(kj:k≤j)(cE:uI γ (Deaf t k) w.heap.size es):JJ γ w (t++MemOp.ofEvents k fn pos es) j∧∀k',k'≠k→RR k' γ w γ w:=
 ⟨h.sub (h.tj.said h.ba k1 kj cE),fun k' _=>(sys default).refl k' γ w⟩
def Gh.dK (γ:Gh)(st:Nat→iz)(wm:WM):Gh:={γ with st,wm}
theorem ov (hp:γ.ph=some p)(ot:γ.sh p.wg)(vV:BA γ)(hs:w1.heap.size=w.heap.size)(fg:br w w1)(hh:∀b,b≠p.wg→w1.heap[b]?=w.heap[b]?){st:Nat→iz}{wm:WM}
  (bj:∀i,i≠k→st i=γ.st i) (Te:∀i,i≠k→1≤i→(wm= .la i↔γ.wm= .la i)∧(wm= .lb i↔γ.wm= .lb i)) (h0:k≠0→(γ.wm= .op↔wm= .op)∧cnt st p.j0 (γ.j-p.j0)≤cnt γ.st p.j0 (γ.j-p.j0)):
  ∀k',k'≠k→RR k' γ w (γ.dK st wm) w1:=by
 intro k' cB;unfold RR;split
 ·rename_i e
  subst e;obtain⟨c1,c2⟩:=h0 (Ne.symm cB);refine⟨Nat.le_of_eq hs.symm,fg,⟨rfl,rfl,rfl,rfl,rfl⟩,fun e=>?_,fun _ _ _=> .rfl,fun b _ _ h2 _=>hh b fun e=>h2 (e▸ot),c1,fun q hq=>?_⟩
  ·rw[hp]at e;cases e
  ·rw[hp]at hq;cases hq;exact c2
 ·rename_i e
  obtain⟨d1,d2⟩:=Te k' cB (by omega)
  refine⟨Nat.le_of_eq hs.symm,fg,?_,fun _=>⟨bj k' cB,fun _=> .rfl,fun _=> .rfl,rfl,d1,d2,fun b hb=>hh b ?_,fun a ha=>cell_of (hh _ ?_)⟩⟩
  ·unfold Gh.cV Gh.dK
   simp only[bj k' cB,ne_eq,d1,d2]
  ·rintro rfl
   exact hb.elim (fun x=>vV.pT _ _ x ot) (fun x=>vV.ry _ _ x ot)
  ·obtain⟨q,hq,_,hA,_⟩:=ha
   rw[hp]at hq;cases hq;rw[hA];exact fun e=>(vV.A p hp).2 (e▸ot)
theorem rA (h:JJ γ w t j)(hp:γ.ph=some p)(hs:w1.heap.size=w.heap.size)(hh:∀b,b≠p.wg→w1.heap[b]?=w.heap[b]?){st:Nat→iz}{wm:WM}{u:Trace}(hu:TJ (γ.dK st wm) w1.heap.size u j)
  (CG:∀i,i≤p.j0∨γ.j<i→st i=γ.st i) (Yp:let af:=γ.dK st wm
   w1.heap[p.wg]?=some (cd p.eW (aP wm (af.v p)) (vU wm))∧(wm= .bT→γ.extra=0∧0<af.v p)∧(∀i,wm= .la i∨wm= .lb i→af.v p=0∧p.j0<i∧i≤γ.j∧st i= .off)∧(wm= .rel→af.v p=0)) (Am:∀i,γ.st i= .busy→st i= .busy):
  JJ (γ.dK st wm) w1 u j:=by
 obtain⟨l1,l2,l3⟩:=h.lt hp;have x:=h.phase p hp;obtain⟨g1,g2,g3,g4⟩:=Yp;refine⟨hu,⟨h.ba.ow,h.ba.oo,h.ba.pT,h.ba.ry,h.ba.A⟩,h.j,hs▸h.kH,hs▸h.jm,hs▸h.cT,fun e=>?_,fun p' aV i hi=>?_,fun p' aV=>?_⟩
 ·have:γ.ph=none:=e
  rw[hp]at this;cases this
 ·have e:γ.ph=some p':=aV
  rw[hp]at e;cases e;obtain⟨U,h2⟩:=h.out p hp i hi;exact⟨(CG i hi).trans U,h2⟩
 ·have e:γ.ph=some p':=aV
  rw[hp]at e;cases e;obtain⟨cs,a1,a2,a3⟩:=x.arr;refine⟨x.j0,x.jn,x.n5,x.sh,hs▸l2,g1,g2,g3,g4,cs,(hh _ (Ne.symm l3)).trans a1,a2,fun i i1 i2 i3 c hc=>a3 i i1 i2 (fun e=>i3 (Am i e)) c hc⟩
def kI (γ:Gh)(k:Nat):Nat→iz:=fun i=>if i=k then .off else γ.st i
theorem NG (h:JJ γ w t j)(hp:γ.ph=some p)(hk:p.j0<k)(kj:k≤j)(hb:γ.st k≠.off)(wm:WM):γ.v p=(γ.dK (kI γ k) wm).v p+1∧cnt γ.st p.j0 (γ.j-p.j0)=cnt (kI γ k) p.j0 (γ.j-p.j0)+1:=by
 have x:=(h.phase p hp).j0;have:=vT (st:=γ.st) (m:=γ.j-p.j0) hk (by rw[h.j]at*;omega) hb
 refine⟨?_,this⟩;unfold Gh.v Gh.dK;simp only
 have e:cnt γ.st p.j0 (γ.j-p.j0)=cnt (kI γ k) p.j0 (γ.j-p.j0)+1:=this
 omega
theorem Ao {af:Gh}(U:af.sh=γ.sh){d B:Nat}(h:uI γ d B es):uI af d B es:=fun i e hi=>⟨(h i e hi).1.imp id fun⟨⟨ad,wr,a,b⟩,c⟩=>⟨⟨ad,wr,a,U▸b⟩,c⟩,(h i e hi).2⟩
theorem TJ.dK {st:Nat→iz}{wm:WM}{B:Nat}(h:TJ γ B t j)(bj:∀i,γ.st i= .busy→st i= .busy):TJ (γ.dK st wm) B t j:=
 ⟨h.ct,h.low,h.over,fun p hp i i1 i2 i3=>h.rel p hp i i1 i2 fun e=>i3 (bj i e),h.norel,h.old⟩
theorem BA.dK {st:Nat→iz}{wm:WM}(h:BA γ):BA (γ.dK st wm):=⟨h.ow,h.oo,h.pT,h.ry,h.A⟩
theorem K3 {wm:WM}{v:Nat}(k:Nat)(aS:wm= .op∨wm= .bT)(hv:1≤v):aP wm v-bp=aP (if wm= .bT∧v=1 then WM.la k else wm) (v-1)∧vU (if wm= .bT∧v=1 then WM.la k else wm)=0:=by
 obtain⟨n,rfl⟩:∃n,v=n+1:=⟨v-1,by omega⟩
 have e:((n+1:Nat):Int)*bp=n*bp+bp:=by rw[Int.natCast_add,Int.natCast_one,Int.add_mul,Int.one_mul]
 rcases aS with rfl|rfl
 ·rw[if_neg (by simp)]
  refine⟨?_,rfl⟩;show((n+1:Nat):Int)*bp-bp=((n+1-1:Nat):Int)*bp
  rw[e,Nat.add_sub_cancel];exact Int.add_sub_cancel _ _
 ·by_cases hn:n=0
  ·subst hn
   rw[if_pos ⟨rfl,rfl⟩];refine⟨?_,rfl⟩;show((0+1:Nat):Int)*bp+1-bp=1
   rw[e];show(0:Int)*bp+bp+1-bp=1
   generalize bp=z;rw[Int.zero_mul];omega
  ·rw[if_neg (by simp[hn])]
   refine⟨?_,rfl⟩;show((n+1:Nat):Int)*bp+1-bp=((n+1-1:Nat):Int)*bp+1
   rw[e,Nat.add_sub_cancel];generalize(n:Int)*bp=y;generalize bp=z;omega
theorem Tf (h:JJ γ w t j)(hp:γ.ph=some p)(hk:p.j0<k)(kj:k≤j)(hb:γ.st k= .said)(fg:br w w1)(hs:w1.heap.size=w.heap.size)(hh:∀b,b≠p.wg→w1.heap[b]?=w.heap[b]?)
  (hw:w1.heap[p.wg]?=some (cd p.eW (aP γ.wm (γ.v p)-bp) 0)) (cE:uI γ (Deaf t k) w.heap.size es):
  let wm:=if γ.wm= .bT∧γ.v p=1 then WM.la k else γ.wm
  (γ.wm= .op∨γ.wm= .bT)∧1≤γ.v p∧JJ (γ.dK (kI γ k) wm) w1 (t++MemOp.ofEvents k fn pos es) j∧∀k',k'≠k→RR k' γ w (γ.dK (kI γ k) wm) w1:=by
 intro wm;have x:=h.phase p hp;have pD:γ.st k≠.off:=by rw[hb];nofun
 have hv:=fun wm=>NG h hp hk kj pD wm
 have vm:=(hv wm).1;have aS:γ.wm= .op∨γ.wm= .bT:=by
  cases e:γ.wm with
  |op=>exact .inl rfl
  |bT=>exact .inr rfl
  |la i=>have:=(x.la i (.inl e)).1;omega
  |lb i=>have:=(x.la i (.inr e)).1;omega
  |rel=>have:=x.rel e;omega
 have Am:∀i,γ.st i= .busy→kI γ k i= .busy:=fun i hi=>by
  unfold kI;rw[if_neg (fun e=>by rw[e,hb]at hi;cases hi)]
  exact hi
 refine⟨aS,by omega,rA h hp hs hh ?_ (fun i hi=>?_) ⟨?_,fun e=>?_,fun i e=>?_,fun e=>?_⟩ Am,ov hp x.sh h.ba hs fg hh (fun i hi=>if_neg hi) (fun i hi _=>?_) fun _=>⟨?_,by have:=(hv wm).2;omega⟩⟩
 ·exact(hs▸h.tj.dK Am:TJ (γ.dK (kI γ k) wm) w1.heap.size t j).said h.ba.dK (by omega) kj (Ao rfl (hs▸cE))
 ·unfold kI
  rw[if_neg (by rw[h.j]at hi;omega)]
 ·obtain⟨q1,q2⟩:=K3 k aS (by omega:1≤γ.v p)
  have e5:(γ.dK (kI γ k) wm).v p=γ.v p-1:=by omega
  rw[hw,e5,q1,q2]
 ·have e':(if γ.wm= .bT∧γ.v p=1 then WM.la k else γ.wm)= .bT:=e
  split at e'
  ·cases e'
  ·rename_i hn
   refine⟨(x.bT e').1,?_⟩;have:γ.v p≠1:=fun U=>hn ⟨e',U⟩
   omega
 ·have e':(if γ.wm= .bT∧γ.v p=1 then WM.la k else γ.wm)= .la i∨(if γ.wm= .bT∧γ.v p=1 then WM.la k else γ.wm)= .lb i:=e
  split at e'
  ·rename_i hc
   rcases e' with e'|e'
   ·cases e'
    exact⟨by omega,hk,by rw[h.j];exact kj,if_pos rfl⟩
   ·cases e'
  ·rcases aS with e2|e2<;>rw[e2]at e'<;>rcases e' with e'|e'<;>cases e'
 ·have e':(if γ.wm= .bT∧γ.v p=1 then WM.la k else γ.wm)= .rel:=e
  split at e'
  ·cases e'
  ·rcases aS with e2|e2<;>rw[e2]at e'<;>cases e'
 ·show((if γ.wm= .bT∧γ.v p=1 then WM.la k else γ.wm)=_↔_)∧((if γ.wm= .bT∧γ.v p=1 then WM.la k else γ.wm)=_↔_)
  rcases aS with e2|e2<;>rw[e2]
  ·simp
  ·split
   ·simp only[WM.la.injEq,reduceCtorEq,iff_self,and_true,iff_false]
    exact Ne.symm hi
   ·simp
 ·show _↔(if γ.wm= .bT∧γ.v p=1 then WM.la k else γ.wm)=_
  rcases aS with e2|e2<;>rw[e2]
  ·simp
  ·split<;>simp
theorem NH (h:JJ γ w t j)(hp:γ.ph=some p)(hl:γ.wm= .la k)(fg:br w w1)(hs:w1.heap.size=w.heap.size)(hh:∀b,b≠p.wg→w1.heap[b]?=w.heap[b]?)
  (hw:w1.heap[p.wg]?=some (cd p.eW 0 0)) (cE:uI γ (Deaf t k) w.heap.size es):
  JJ (γ.dK γ.st (.lb k)) w1 (t++MemOp.ofEvents k fn pos es) j∧∀k',k'≠k→RR k' γ w (γ.dK γ.st (.lb k)) w1:=by
 have x:=h.phase p hp;obtain⟨c1,c2,c3,c4⟩:=x.la k (.inl hl);refine⟨rA h hp hs hh ?_ (fun i hi=>rfl) ⟨hw,nofun,fun i e=>?_,nofun⟩ fun _=>id,ov hp x.sh h.ba hs fg hh (fun i hi=>rfl) (fun i hi _=>?_) fun _=>⟨by rw[hl];simp,Nat.le_refl _⟩⟩
 ·exact(hs▸h.tj.dK (fun _=>id):TJ (γ.dK γ.st (.lb k)) w1.heap.size t j).said h.ba.dK (by omega) (by rw[←h.j];exact c3) (Ao rfl (hs▸cE))
 ·rcases e with e|e
  ·cases e
  ·cases e;exact⟨c1,c2,c3,c4⟩
 ·rw[hl]
  simp[Ne.symm hi]
theorem Qz (h:JJ γ w t j)(hp:γ.ph=some p)(hl:γ.wm= .lb k)(fg:br w w1)(hs:w1.heap.size=w.heap.size)(hh:∀b,b≠p.wg→w1.heap[b]?=w.heap[b]?)
  (hw:w1.heap[p.wg]?=some (cd p.eW 0 1)) (cE:uI γ (Deaf t k) w.heap.size es):
  JJ (γ.dK γ.st .rel) w1 (t++MemOp.ofEvents k fn pos es) j∧∀k',k'≠k→RR k' γ w (γ.dK γ.st .rel) w1:=by
 have x:=h.phase p hp;obtain⟨c1,c2,c3,c4⟩:=x.la k (.inr hl);refine⟨rA h hp hs hh ?_ (fun i hi=>rfl) ⟨hw,nofun,fun i e=>?_,fun _=>c1⟩ fun _=>id,ov hp x.sh h.ba hs fg hh (fun i hi=>rfl) (fun i hi _=>?_) fun _=>⟨by rw[hl];simp,Nat.le_refl _⟩⟩
 ·exact(hs▸h.tj.dK (fun _=>id):TJ (γ.dK γ.st .rel) w1.heap.size t j).said h.ba.dK (by omega) (by rw[←h.j];exact c3) (Ao rfl (hs▸cE))
 ·rcases e with e|e<;>cases e
 ·rw[hl]
  simp[Ne.symm hi]
end
end Go.Proofs.YtjklkppncmhehaaGreat.Sr
