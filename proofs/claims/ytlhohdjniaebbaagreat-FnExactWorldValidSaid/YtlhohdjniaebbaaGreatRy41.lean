/-
What is proved: where a tree says 'nil', rows of one's own without an element serve and what rests on it. Conditions: as stated.
-/
import Derived.Test.YtlhohdjniaebbaaGreatRy35
import Derived.Test.YtlhohdjniaebbaaGreatRy40
import Derived.Test.YtlhohdjniaebbaaGreatRy38
set_option linter.unusedVariables false
set_option linter.unusedSimpArgs false
namespace Go.Proofs.YtlhohdjniaebbaaGreat.T
open Go Go.RowKit
def TV.ln (n:Nat)(x y:TV):Prop:=x=y∨(x= .r .nil∧y= .own n)
def RG (n:Nat):List TV→List TV→Prop
 |[],[]=>True
 |x::xs,y::ys=>x.ln n y∧RG n xs ys
 |_,_=>False
def GV.ln (n:Nat):GV→GV→Prop
 | .s x,.s y=>x.ln n y
 | .a xs,.a ys=>RG n xs ys
 |g,g'=>g=g'
def ak.ln (n:Nat):ak→ak→Prop
 | .box xs,.box ys=>RG n xs ys
 |y,y'=>y=y'
def XX (n:Nat):List (Nat×GV)→List (Nat×GV)→Prop
 |[],[]=>True
 |x::xs,y::ys=>x.1=y.1∧x.2.ln n y.2∧XX n xs ys
 |_,_=>False
def XY (n:Nat):List (Nat×ak)→List (Nat×ak)→Prop
 |[],[]=>True
 |x::xs,y::ys=>x.1=y.1∧x.2.ln n y.2∧XY n xs ys
 |_,_=>False
theorem TV.mi (n:Nat)(x:TV):x.ln n x:= .inl rfl
theorem TV.XZ (n:Nat):(TV.r .nil).ln n (.own n):= .inr ⟨rfl,rfl⟩
theorem qW (n:Nat):∀xs:List TV,RG n xs xs
 |[]=>trivial
 |x::xs=>⟨x.mi n,qW n xs⟩
theorem GV.mi (n:Nat)(g:GV):g.ln n g:=by
 cases g
 case s x=>exact x.mi n
 case a xs=>exact qW n xs
 all_goals rfl
theorem ak.mi (n:Nat)(y:ak):y.ln n y:=by
 cases y
 case box xs=>exact qW n xs
 all_goals rfl
theorem Ap {n:Nat}:∀{xs ys:List TV},RG n xs ys→xs.length=ys.length∧∀(i:Nat) (y:TV),ys[i]?=some y→∃x,xs[i]?=some x∧x.ln n y
 |[],[],_=>⟨rfl,fun i y h=>by simp at h⟩
 |x::xs,y::ys,h=>by
  obtain⟨h1,h2⟩:=Ap h.2;refine⟨by simp[h1],fun i z hz=>?_⟩
  cases i with
  |zero=>cases hz;exact⟨x,rfl,h.1⟩
  |succ i=>exact h2 i z hz
 |[],_::_,h=>h.elim
 |_::_,[],h=>h.elim
section
variable {n:Nat}{ρ ρ':Nat→Option Value}{w:World}{D:Nat→Prop}
theorem cn.ln (dk:∀b x,ρ b=some x→ρ' b=some x)(hn:ρ' n=some (.slice none 0 0)){v:Value}{x y:TV}(h:x.ln n y)(hr:cn ρ w D v x):cn ρ' w D v y:=by
 rcases h with rfl|⟨rfl,rfl⟩
 ·exact hr.keep dk (cj.refl D w) fun _ h=>h
 ·cases hr with|r hr=>cases hr with|nil=>exact .own hn
theorem bg.ln (dk:∀b x,ρ b=some x→ρ' b=some x)(hn:ρ' n=some (.slice none 0 0)){v:Value}{x y:GV}(h:x.ln n y)(hr:bg ρ w D v x):bg ρ' w D v y:=by
 unfold GV.ln at h;split at h
 ·cases hr with|s hr=>exact .s (hr.ln dk hn h)
 ·cases hr with
  |a hl hr=>
   obtain⟨h1,h2⟩:=Ap h;refine .a (hl.trans h1) fun i t ht=>?_;obtain⟨x,hx,hl⟩:=h2 i t ht;exact(hr i x hx).ln dk hn hl
 ·subst h;exact hr.keep dk (cj.refl D w) fun _ h=>h
theorem dr.ln (dk:∀b x,ρ b=Option.some x→ρ' b=Option.some x)(hn:ρ' n=Option.some (.slice none 0 0)){v:Option Value}{x y:ak}(h:x.ln n y)(hr:dr ρ w D v x):dr ρ' w D v y:=by
 unfold ak.ln at h;split at h
 ·obtain⟨g,arr,ty,e1,e2,e3,e4⟩:=hr
  obtain⟨h1,h2⟩:=Ap h;refine⟨g,arr,ty,e1,e2,e3.trans h1,fun i t ht=>?_⟩
  obtain⟨x,hx,hl⟩:=h2 i t ht;exact(e4 i x hx).ln dk hn hl
 ·subst h;exact hr.keep dk (cj.refl D w) (fun _ h=>h) (.inr fun _ _=>rfl)
end
theorem ak.Aq {n:Nat}{x y:ak}(h:x.ln n y):x.live=y.live:=by
 unfold ak.ln at h;split at h
 ·rfl
 ·subst h;rfl
theorem Ou {n:Nat}(t:Nat):∀{e e':List (Nat×GV)},XX n e e'→(lk t e).ln n (lk t e')
 |[],[],_=>rfl
 |x::xs,y::ys,h=>by
  obtain⟨h1,h2,h3⟩:=h;obtain⟨u,g⟩:=x;obtain⟨u',g'⟩:=y
  cases h1;simp only[lk];split
  ·exact h2
  ·exact Ou t h3
 |[],_::_,h=>h.elim
 |_::_,[],h=>h.elim
theorem Ov {n:Nat}(b:Nat):∀{e e':List (Nat×ak)},XY n e e'→(gt b e=none∧gt b e'=none)∨∃y y',gt b e=some y∧gt b e'=some y'∧y.ln n y'
 |[],[],_=> .inl ⟨rfl,rfl⟩
 |x::xs,y::ys,h=>by
  obtain⟨h1,h2,h3⟩:=h;obtain⟨u,g⟩:=x;obtain⟨u',g'⟩:=y
  cases h1;simp only[gt];split
  ·exact .inr ⟨_,_,rfl,rfl,h2⟩
  ·exact Ov b h3
 |[],_::_,h=>h.elim
 |_::_,[],h=>h.elim
theorem TW.nil {P:Program}{E:List PanicEntry→World→Prop}{nt m:Nat}{Q:Exit→ae→Prop}{s:ae}{c:Code}(e:TypeId)(k:Nat)(env:List (Nat×GV))(bb:List (Nat×ak))(hw:TW P E nt m c Q ⟨env,(s.nx,.rows e k [])::bb,s.nx+1⟩)
  (he:XX s.nx s.env env:=by simp) (hs:XY s.nx s.bb bb:=by simp) (hk:0<k:=by simp) (aj:qm s=true:=by simp) (hmn:m≤s.nx:=by simp):TW P E nt m c Q s:=by
 intro C a w hn hm hR;refine hw C a w hn hm ?_;obtain⟨ρ,D,h⟩:=hR;have fO:s.get s.nx=none:=by
  unfold ae.get
  cases hg:gt s.nx s.bb with
  |none=>simp
  |some y=>exact absurd (zM aj _ (eN hg)) (by simp)
 have abM:=h.free _ fO;have dk:∀b x,ρ b=some x→(fun b=>if b=s.nx then some (Value.slice none 0 0)else ρ b) b=some x:=by
  intro b x hx;by_cases e:b=s.nx
  ·subst e;rw[abM]at hx;cases hx
  ·simp[e,hx]
 have cv:∀b,b≠s.nx→(fun b=>if b=s.nx then some (Value.slice none 0 0)else ρ b) b=ρ b:=fun b hb=>by simp[hb]
 have hg:∀b,b≠s.nx→(s.get b=none∧ae.get ⟨env,(s.nx,.rows e k [])::bb,s.nx+1⟩ b=none)∨∃y y',s.get b=some y∧ae.get ⟨env,(s.nx,.rows e k [])::bb,s.nx+1⟩ b=some y'∧y.ln s.nx y':=by
  intro b hb;unfold ae.get;simp only[gt,if_neg hb];rcases Ov b hs with⟨h1,h2⟩|⟨y,y',h1,h2,h3⟩
  ·rw[h1,h2]
   simp only
   by_cases hl:b<s.nx
   ·rw[if_pos hl,if_pos (by omega)];exact .inr ⟨_,_,rfl,rfl,rfl⟩
   ·rw[if_neg hl,if_neg (by omega)];exact .inl ⟨rfl,rfl⟩
  ·rw[h1,h2]
   exact .inr ⟨_,_,rfl,rfl,h3⟩
 have QA:ae.get ⟨env,(s.nx,.rows e k [])::bb,s.nx+1⟩ s.nx=some (.rows e k []):=by simp[ae.get,gt]
 have hb:∀b y',b≠s.nx→ae.get ⟨env,(s.nx,.rows e k [])::bb,s.nx+1⟩ b=some y'→∃y,s.get b=some y∧y.ln s.nx y':=by
  intro b y' hb hy;rcases hg b hb with⟨h1,h2⟩|⟨y,y2,h1,h2,h3⟩
  ·rw[h2]at hy;cases hy
  ·rw[h2]at hy;cases hy;exact⟨y,h1,h3⟩
 have vQ:∀g,bI ((fun b=>if b=s.nx then some (Value.slice none 0 0)else ρ b) s.nx)=some g→False:=fun g h=>by simp[bI]at h
 refine⟨fun b=>if b=s.nx then some (.slice none 0 0)else ρ b,D,⟨h.os,h.tape,h.output,h.size,h.old,h.ro,fun b cB=>?_,fun b y' hy=>?_,fun b y' g hy hl bf=>?_,fun b y b' y' g hy hl dq dm sz eD=>?_,fun t=>(h.env t).ln dk (by simp) (Ou t he),h.defers,h.nt,fun b x hx=>?_⟩⟩
 ·by_cases e1:b=s.nx
  ·subst e1;rw[QA]at cB;cases cB
  ·rcases hg b e1 with⟨h1,h2⟩|⟨y,y2,h1,h2,h3⟩
   ·rw[if_neg e1];exact h.free b h1
   ·rw[h2]at cB;cases cB
 ·by_cases e1:b=s.nx
  ·subst e1
   rw[QA]at hy
   cases hy;exact⟨none,0,by simp,Nat.le_refl _,Nat.zero_le _,hk,fun i y h=>by simp at h,.inl ⟨rfl,rfl,rfl⟩⟩
  ·obtain⟨y,h1,h2⟩:=hb b y' e1 hy
   have:=dr.ln dk (by simp) h2 (h.blk b y h1)
   rwa[if_neg e1]
 ·by_cases e1:b=s.nx
  ·subst e1;exact(vQ g bf).elim
  ·obtain⟨y,h1,h2⟩:=hb b y' e1 hy
   rw[if_neg e1]at bf;exact h.own b y g h1 (by rw[ak.Aq h2];exact hl) bf
 ·by_cases e1:b=s.nx
  ·subst e1;exact(vQ g sz).elim
  ·by_cases e2:b'=s.nx
   ·subst e2;exact(vQ g eD).elim
   ·obtain⟨z,h1,h2⟩:=hb b y e1 hy
    obtain⟨z',ji,lL⟩:=hb b' y' e2 dq;rw[if_neg e1]at sz;rw[if_neg e2]at eD;exact h.sep b z b' z' g h1 (by rw[ak.Aq h2];exact hl) ji (by rw[ak.Aq lL];exact dm) sz eD
 ·have:=hm b x hx
  rw[if_neg (by omega)]
  exact h.ext b x hx
attribute [simp] XX XY RG GV.ln ak.ln TV.mi TV.XZ qW GV.mi ak.mi
end Go.Proofs.YtlhohdjniaebbaaGreat.T
namespace Go.Proofs.YtlhohdjniaebbaaGreat.T
open Go Go.RowKit
set_option maxRecDepth 100000
set_option maxHeartbeats 4000000
variable {E:List PanicEntry→World→Prop}
theorem RH {aN:List (Int×Int)}(g:Int):aN.Pairwise (fun a b=>a.2<b.2)→ES aN (iu aN g) g=aN.any fun s=>decide (s.2=g):=by
 induction aN with
 |nil=>intro _;rfl
 |cons x xs ih=>
  intro h;rw[List.pairwise_cons]at h;by_cases hx:x.2<g
  ·have h1:iu (x::xs) g=iu xs g+1:=by
    unfold iu;rw[List.takeWhile_cons,if_pos (by simpa using hx),List.length_cons]
   have h2:ES (x::xs) (iu (x::xs) g) g=ES xs (iu xs g) g:=by rw[h1];rfl
   rw[h2,ih h.2,List.any_cons,show decide (x.2=g)=false by simp;omega,Bool.false_or]
  ·have h1:iu (x::xs) g=0:=by
    unfold iu;rw[List.takeWhile_cons,if_neg (by simpa using hx),List.length_nil]
   rw[h1,List.any_cons,show xs.any (fun s=>decide (s.2=g))=false by
    simp only[List.any_eq_false,decide_eq_true_eq];intro y hy;have:=h.1 y hy
    omega,Bool.or_false]
   rfl
end Go.Proofs.YtlhohdjniaebbaaGreat.T
namespace Go.Proofs.YtlhohdjniaebbaaGreat.T
open Go Go.RowKit
set_option maxRecDepth 100000
set_option maxHeartbeats 4000000
variable {E:List PanicEntry→World→Prop}
end Go.Proofs.YtlhohdjniaebbaaGreat.T
namespace Go.Proofs.YtlhohdjniaebbaaGreat.T
open Go Go.RowKit
theorem gG (g:aH)(m:Int):bj g m=(g.pend++g.done).find? (fun e=>decide (e.m=m)):=by
 unfold bj;rw[List.find?_append]
 cases g.pend.find? (fun e=>decide (e.m=m))<;>rfl
theorem Vp.uX {g:aH}(k:Vp g):(g.pend++g.done).Pairwise (fun a b=>a.m≠b.m):=List.pairwise_append.2 ⟨k.pl.uX,k.dl.uX,fun a ha b hb=>k.dp b hb a ha⟩
theorem n_ {m:Int}{e:aK}:∀{L:List aK},L.Pairwise (fun a b=>a.m≠b.m)→(L.find? (fun e=>decide (e.m=m))=some e↔e∈L∧e.m=m)
 |[],_=>by simp
 |x::L,h=>by
  rw[List.pairwise_cons]at h;by_cases hx:x.m=m
  ·rw[List.find?_cons_of_pos (by simpa using hx)]
   constructor
   ·intro e1;cases e1;exact⟨by simp,hx⟩
   ·rintro⟨h1,h2⟩
    rcases List.mem_cons.1 h1 with rfl|h1
    ·rfl
    ·exact absurd (hx.trans h2.symm) (h.1 e h1)
  ·rw[List.find?_cons_of_neg (by simpa using hx),n_ h.2]
   constructor
   ·rintro⟨h1,h2⟩;exact⟨by simp[h1],h2⟩
   ·rintro⟨h1,h2⟩
    rcases List.mem_cons.1 h1 with rfl|h1
    ·exact absurd h2 hx
    ·exact⟨h1,h2⟩
theorem tq {L K:List aK}(h:L.Pairwise (fun a b=>a.m≠b.m))(p:L.Perm K)(m:Int):L.find? (fun e=>decide (e.m=m))=K.find? (fun e=>decide (e.m=m)):=by
 have h':K.Pairwise (fun a b=>a.m≠b.m):=(p.pairwise_iff (fun h=>Ne.symm h)).1 h
 apply Option.ext
 intro e;rw[n_ h,n_ h',p.mem_iff]
theorem qX {g:aH}{m:Int}:cl g m=false↔g.pend.find? (fun e=>decide (e.m=m))=none∧g.done.find? (fun e=>decide (e.m=m))=none:=by
 unfold cl bj
 cases g.pend.find? (fun e=>decide (e.m=m))<;>simp
theorem tu {g:aH}{m:Int}(h:cl g m=true):(aV g m).1=g:=by
 unfold aV;split
 ·split<;>rfl
 ·rename_i h1
  split
  ·rfl
  ·rename_i h2
   rw[qX.2 ⟨h1,h2⟩]at h;cases h
theorem wj {g:aH}{m:Int}(h:cl g m=false):(aV g m).1=g∨(aV g m).1=⟨g.id,g.clock+1,g.pend++[⟨m,g.clock+1,g.id,false⟩],g.done⟩∧bj (aV g m).1 m=some ⟨m,g.clock+1,g.id,false⟩:=by
 obtain⟨h1,h2⟩:=qX.1 h;unfold aV;rw[h1,h2];simp only
 split
 ·exact .inl rfl
 ·refine .inr ⟨rfl,?_⟩
  unfold bj;simp only[List.find?_append,h1,Option.none_or];simp
theorem JR {g:aH}{m k:Int}(h:k≠m):bj (aV g m).1 k=bj g k∧(aV g m).1.done=g.done:=by
 cases hs:cl g m
 ·rcases wj hs with e|⟨e, -⟩
  ·rw[e];exact⟨rfl,rfl⟩
  ·rw[e]
   refine⟨?_,rfl⟩;unfold bj;simp only[List.find?_append];have:¬m=k:=fun e=>h e.symm
   simp[this]
 ·rw[tu hs];exact⟨rfl,rfl⟩
theorem Ar {g:aH}{m t s:Int}(h:bm g=true):(c8 g m t s)=(g,[],false)∨∃(e:aK) (rest pre:List aK),e.m=m∧e.f=false∧bj g m=some e∧(g.pend++g.done).Perm (e::rest)∧
  ((c8 g m t s).1.pend++(c8 g m t s).1.done).Perm (⟨m,t,s,true⟩::rest)∧(c8 g m t s).1.done=g.done++pre∧(c8 g m t s).2.1=pre.map aK.m∧(c8 g m t s).2.2=true:=by
 rcases pa g m t s with e|⟨j,e,he,lW,XT,XE,hl,hs,eq⟩
 ·exact .inl e
 ·right
  obtain⟨pre,p1,p2,p3, -, -⟩:=v_ (l_ (g.pend.eraseIdx j) m t s) g.done [];have hj:j<g.pend.length:=(List.getElem?_eq_some_iff.1 he).1
  refine⟨e,g.pend.eraseIdx j++g.done,pre,lW,XT,by rw[bj,XE],?_,?_,by rw[eq];exact p2,by rw[eq];simpa using p3,by rw[eq]⟩
  ·rw[←List.cons_append]
   refine List.Perm.append_right _ ?_;have h1:g.pend=g.pend.take j++e::g.pend.drop (j+1):=by
    obtain⟨_,rfl⟩:=List.getElem?_eq_some_iff.1 he;rw[←List.drop_eq_getElem_cons hj,List.take_append_drop]
   rw[List.eraseIdx_eq_take_drop_succ];conv=>lhs;rw[h1]
   exact List.perm_middle
  ·rw[eq]
   simp only[p2];have hp:=Ai (g.pend.eraseIdx j) m t s;rw[p1]at hp;rw[←List.cons_append];refine List.Perm.trans ?_ (List.Perm.append_right g.done hp);generalize(jz (l_ (g.pend.eraseIdx j) m t s) g.done []).1=A;rw[←List.append_assoc];refine List.perm_append_comm.trans ?_;rw[←List.append_assoc]
theorem E1 {g:aH}{m k t s:Int}(h:bm g=true)(hk:k≠m)(hm:br m=true)(hs:aP t s=true):bj (c8 g m t s).1 k=bj g k∧∃pre,(c8 g m t s).1.done=g.done++pre:=by
 have h':=CC (t:=t) (s:=s) h hm hs;rcases Ar (m:=m) (t:=t) (s:=s) h with e|⟨e,rest,pre,lW, -, -,p1,p2,p3, -⟩
 ·rw[e];exact⟨rfl,[],by simp⟩
 ·refine⟨?_,pre,p3⟩
  rw[gG,gG,tq (dy.1 h').uX p2,tq (dy.1 h).uX p1,List.find?_cons_of_neg (by simpa using fun e=>hk e.symm),List.find?_cons_of_neg (by simp[lW];exact fun e=>hk e.symm)]
structure Rec (gs:List aH) (set:List Int) (m:Int) (s:Int×Int) (out:List aH):Prop where
 len:out.length=5
 ok:∀i:Nat,i<5→bm (aB out i)=true
 off:∀i:Nat,i<5→(i:Int)∉set→aB out i=aB gs i
 on:∀i:Nat,i<5→(i:Int)∈set→aB out i=(c8 (aV (aB gs i) m).1 m s.1 s.2).1
 st:∀g∈set,cl (aB out g.toNat) m=true∧(aU (aB out g.toNat) m).f=true∧((aU (aB out g.toNat) m).t,(aU (aB out g.toNat) m).g)=s
 keep:∀g∈set,cl (aB gs g.toNat) m=true→aS s.1 s.2 (aU (aB gs g.toNat) m).t (aU (aB gs g.toNat) m).g=false∧((aU (aB gs g.toNat) m).f=true→((aU (aB gs g.toNat) m).t,(aU (aB gs g.toNat) m).g)=s)
 other:∀i:Nat,i<5→∀k,k≠m→bj (aB out i) k=bj (aB gs i) k
 pre:∀i:Nat,i<5→∃p,(aB out i).done=(aB gs i).done++p
end Go.Proofs.YtlhohdjniaebbaaGreat.T
namespace Go.Proofs.YtlhohdjniaebbaaGreat.T
open Go Go.RowKit
structure u_ (gs:List aH) (set:List Int) (m t s:Int):Prop where
 ok:aP t s=true
 mem:s∈set
 kn:cl (aB gs s.toNat) m=true
 op:(aU (aB gs s.toNat) m).f=false→(aU (aB gs s.toNat) m).t=t∧(aU (aB gs s.toNat) m).g=s
 fi:(aU (aB gs s.toNat) m).f=true→aS (aU (aB gs s.toNat) m).t (aU (aB gs s.toNat) m).g t s=false∧((aU (aB gs s.toNat) m).g=s→(aU (aB gs s.toNat) m).t=t)
structure ig (gs:List aH) (set:List Int) (m t s:Int):Prop where
 ok:aP t s=true
 mem:s∈set
 kn:∀g∈set,cl (aB gs g.toNat) m=true
 fi:∀g∈set,(aU (aB gs g.toNat) m).f=true→(aU (aB gs g.toNat) m).t=t∧(aU (aB gs g.toNat) m).g=s
 le:∀g∈set,aS t s (aU (aB gs g.toNat) m).t (aU (aB gs g.toNat) m).g=false
 own:(aU (aB gs s.toNat) m).t=t∧(aU (aB gs s.toNat) m).g=s
theorem JS {t s t' s':Int}(h:aS t s t' s'=false)(k:aS t' s' t s=false):t=t'∧s=s':=by
 simp only[aS,decide_eq_false_iff_not]at*;omega
theorem ig.uniq {gs:List aH}{set:List Int}{m t s t' s':Int}(h:ig gs set m t s)(k:ig gs set m t' s'):t=t'∧s=s':=by
 have a:=h.le s' k.mem;rw[k.own.1,k.own.2]at a;have b:=k.le s h.mem;rw[h.own.1,h.own.2]at b;exact JS a b
inductive Chg (gs:List aH) (set:List Int) (i:Nat) (m:Int) (o n:Option aK):Prop
 |same (h:n=o)
 |new (e:aK) (ho:o=none) (hn:n=some e) (hf:e.f=false) (cK:(i:Int)∈set)
 |fin (e:aK) (t s:Int) (ho:o=some e) (hf:e.f=false) (hn:n=some ⟨m,t,s,true⟩) (cK:(i:Int)∈set) (hF:ig gs set m t s)
structure BD (gs bM:List aH) (set:List Int) (m:Int):Prop where
 other:∀i:Nat,i<5→∀k,k≠m→bj (aB bM i) k=bj (aB gs i) k
 chg:∀i:Nat,i<5→Chg gs set i m (bj (aB gs i) m) (bj (aB bM i) m)
theorem ig.upd {gs bM:List aH}{set k9:List Int}{m k t s:Int}(h:ig gs k9 k t s)(U:BD gs bM set m)(hr:dN k9)(hs:k=m→k9=set):ig bM k9 k t s:=by
 have one:∀g∈k9,cl (aB bM g.toNat) k=true∧(aU (aB bM g.toNat) k=aU (aB gs g.toNat) k∨aU (aB bM g.toNat) k=⟨k,t,s,true⟩):=by
  intro g hg;obtain⟨g0,g1⟩:=hr g hg;have JK:=h.kn g hg;by_cases hk:k=m
  ·subst hk
   have cO:=hs rfl;subst cO;rcases U.chg g.toNat (by omega)with e|⟨e,ho, -, -, -⟩|⟨e,t0,s0,ho,hf,hn, -,hF⟩
   ·unfold cl aU at*;rw[e];exact⟨JK,.inl rfl⟩
   ·rw[cl,ho]at JK;cases JK
   ·obtain⟨rfl,rfl⟩:=h.uniq hF
    unfold cl aU;rw[hn];exact⟨rfl,.inr rfl⟩
  ·have e:=U.other g.toNat (by omega) k hk
   unfold cl aU at*;rw[e];exact⟨JK,.inl rfl⟩
 refine⟨h.ok,h.mem,fun g hg=>(one g hg).1,fun g hg hf=>?_,fun g hg=>?_,?_⟩
 ·rcases(one g hg).2 with e|e
  ·rw[e]at hf⊢;exact h.fi g hg hf
  ·rw[e];exact⟨rfl,rfl⟩
 ·rcases(one g hg).2 with e|e
  ·rw[e];exact h.le g hg
  ·rw[e];exact u5 _ _
 ·rcases(one s h.mem).2 with e|e
  ·rw[e];exact h.own
  ·rw[e];exact⟨rfl,rfl⟩
theorem u_.upd {gs bM:List aH}{set k9:List Int}{m k t s:Int}(h:u_ gs k9 k t s)(U:BD gs bM set m)(hr:dN k9)(hs:k=m→k9=set):u_ bM k9 k t s:=by
 obtain⟨g0,g1⟩:=hr s h.mem;have same:bj (aB bM s.toNat) k=bj (aB gs s.toNat) k→u_ bM k9 k t s:=fun e=>by
  have a:=h.kn;have b:=h.op;have c:=h.fi;refine⟨h.ok,h.mem,?_,?_,?_⟩<;>(unfold cl aU at*;rw[e];assumption)
 by_cases hk:k=m
 ·subst hk
  have cO:=hs rfl;subst cO;have JK:=h.kn;rcases U.chg s.toNat (by omega)with e|⟨e,ho, -, -, -⟩|⟨e,t0,s0,ho,hf,hn, -,hF⟩
  ·exact same e
  ·rw[cl,ho]at JK;cases JK
  ·have hD:aU (aB gs s.toNat) k=e:=by rw[aU,ho];rfl
   have hD':aU (aB bM s.toNat) k=⟨k,t0,s0,true⟩:=by rw[aU,hn];rfl
   have aW:=h.op (by rw[hD];exact hf)
   have hle:=hF.le s h.mem;rw[hD]at aW hle;refine⟨h.ok,h.mem,by rw[cl,hn];rfl,fun vM=>?_,fun _=>?_⟩
   ·rw[hD']at vM;cases vM
   ·rw[hD']
    rw[aW.1,aW.2]at hle;refine⟨hle,fun e0=>?_⟩
    simp only at e0⊢
    have:=hF.own
    rw[e0,hD]at this;rw[←this.1];exact aW.1
 ·exact same (U.other s.toNat (by omega) k hk)
structure oa (ss:List (List Int)) (gs:List aH):Prop where
 g5:gs.length=5
 jH:∀i:Nat,i<5→bm (aB gs i)=true∧(aB gs i).id=i
 kC:∀(i:Nat) (m:Int) (e:aK),i<5→bj (aB gs i) m=some e→0≤m∧m<ss.length∧(i:Int)∈ss.getD m.toNat []∧(e.f=true→ig gs (ss.getD m.toNat []) m e.t e.g)
theorem dJ {ss:List (List Int)}(h:∀s∈ss,cf s=true)(m:Nat):dN (ss.getD m []):=by
 rw[List.getD_eq_getElem?_getD]
 cases e:ss[m]? with
 |none=>exact fun g hg=>by cases hg
 |some s=>exact(jA (h s (List.mem_of_getElem? e))).2.2
theorem oa.upd {ss:List (List Int)}{gs bM:List aH}{m:Int}(h:oa ss gs)(cO:∀s∈ss,cf s=true)(U:BD gs bM (ss.getD m.toNat []) m)(h5:bM.length=5)(hg:∀i:Nat,i<5→bm (aB bM i)=true∧(aB bM i).id=i)(h0:0≤m)(h1:m<ss.length):oa ss bM:=by
 refine⟨h5,hg,fun i k e hi he=>?_⟩
 have old:bj (aB bM i) k=bj (aB gs i) k→0≤k∧k<ss.length∧(i:Int)∈ss.getD k.toNat []∧(e.f=true→ig bM (ss.getD k.toNat []) k e.t e.g):=fun e0=>by
  rw[e0]at he;obtain⟨a,b,c,d⟩:=h.kC i k e hi he;exact⟨a,b,c,fun hf=>(d hf).upd U (dJ cO _) fun ek=>by rw[ek]⟩
 by_cases hk:k=m
 ·subst hk
  rcases U.chg i hi with e0|⟨x, -,hn,hf,cK⟩|⟨x,t0,s0,ho,hf,hn,cK,hF⟩
  ·exact old e0
  ·rw[hn]at he;cases he
   exact⟨h0,h1,cK,fun vM=>by rw[hf]at vM;cases vM⟩
  ·rw[hn]at he;cases he
   exact⟨h0,h1,cK,fun _=>hF.upd U (dJ cO _) fun _=>rfl⟩
 ·exact old (U.other i hi k hk)
theorem JU {ss:List (List Int)}{gs:List aH}(h:oa ss gs)(cO:∀s∈ss,cf s=true){m g:Int}(h0:0≤m)(h1:m<ss.length)(hg0:0≤g)(sz:g<5){G:aH}(hG:bm G=true∧G.id=(aB gs g.toNat).id)
  (ho:∀k,k≠m→bj G k=bj (aB gs g.toNat) k) (hc:Chg gs (ss.getD m.toNat []) g.toNat m (bj (aB gs g.toNat) m) (bj G m)):BD gs (gs.set g.toNat G) (ss.getD m.toNat []) m∧oa ss (gs.set g.toNat G):=by
 have h5:=h.g5;have sG:∀i:Nat,aB (gs.set g.toNat G) i=if i=g.toNat then G else aB gs i:=fun i=>JQ G (by omega)
 have U:BD gs (gs.set g.toNat G) (ss.getD m.toNat []) m:=by
  refine⟨fun i hi k hk=>?_,fun i hi=>?_⟩
  ·rw[sG];split
   ·rename_i e;subst e;exact ho k hk
   ·rfl
  ·rw[sG];split
   ·rename_i e;subst e;exact hc
   ·exact .same rfl
 refine⟨U,h.upd cO U (by simpa using h5) (fun i hi=>?_) h0 h1⟩
 rw[sG];split
 ·rename_i e;subst e;exact⟨hG.1,hG.2.trans (h.jH _ hi).2⟩
 ·exact h.jH i hi
theorem qY {g:aH}{m:Int}{e:aK}(hg:bm g=true)(h:bj g m=some e):e.m=m∧aP e.t e.g=true∧(e.f=false→e.g=g.id):=by
 have k:=dy.1 hg;rw[gG,n_ k.uX]at h;obtain⟨h1,h2⟩:=h;have:EOk g.id g.clock e:=by
  rcases List.mem_append.1 h1 with h1|h1
  ·exact k.pl.kC e h1
  ·exact k.dl.kC e h1
 exact⟨h2,this.st,fun hf=>by rcases this.ow with h|h;rw[h]at hf;cases hf;exact h⟩
theorem E7 {g:aH}{m:Int}(h:(aV g m).2.2=true):∃e,bj (aV g m).1 m=some e∧e.f=false∧(aV g m).2.1=(e.t,e.g):=by
 cases hs:cl g m
 ·obtain⟨h1,h2⟩:=qX.1 hs
  rcases wj hs with e|⟨e,e'⟩
  ·exfalso
   unfold aV at h e;rw[h1,h2]at h e;simp only at h e
   split at h
   ·cases h
   ·rename_i hc;rw[if_neg hc]at e
    have:=congrArg aH.clock e
    simp at this
    omega
  ·refine⟨_,e',rfl,?_⟩
   unfold aV at h⊢;rw[h1,h2]at h⊢;simp only at h⊢
   split at h
   ·cases h
   ·rename_i hc;rw[if_neg hc]
 ·rw[tu hs]
  cases he:g.pend.find? (fun e=>decide (e.m=m))with
  |some e=>
   have hS:bj g m=some e:=by unfold bj;rw[he]
   by_cases hf:e.f=true
   ·have hP:aV g m=(g,(0,0),false):=by unfold aV;rw[he];exact if_pos hf
    rw[hP]at h
    cases h
   ·have hP:aV g m=(g,(e.t,e.g),true):=by unfold aV;rw[he];exact if_neg hf
    rw[hP];exact⟨e,hS,by simpa using hf,rfl⟩
  |none=>
   cases hd:g.done.find? (fun e=>decide (e.m=m))with
   |some x=>
    have hP:aV g m=(g,(0,0),false):=by unfold aV;rw[he,hd]
    rw[hP]at h
    cases h
   |none=>rw[qX.2 ⟨he,hd⟩]at hs;cases hs
theorem As {ss:List (List Int)}{gs:List aH}(h:oa ss gs)(cO:∀s∈ss,cf s=true)(xP:ss.length≤12){m g:Int}(h0:0≤m)(h1:m<ss.length)(hg:g∈ss.getD m.toNat []):
  BD gs (gs.set g.toNat (aV (aB gs g.toNat) m).1) (ss.getD m.toNat []) m∧oa ss (gs.set g.toNat (aV (aB gs g.toNat) m).1)∧
   ((aV (aB gs g.toNat) m).2.2=true→(aV (aB gs g.toNat) m).2.1.2=g∧u_ (gs.set g.toNat (aV (aB gs g.toNat) m).1) (ss.getD m.toNat []) m (aV (aB gs g.toNat) m).2.1.1 (aV (aB gs g.toNat) m).2.1.2):=by
 obtain⟨g0,g1⟩:=dJ cO _ g hg;have hm:br m=true:=by simp only[br,decide_eq_true_eq];omega
 have hv:=(h.jH g.toNat (by omega)).1
 have hid:=(h.jH g.toNat (by omega)).2
 have gp:=JE hv hm;have YI:=JG (aB gs g.toNat) m;obtain⟨U,K⟩:=JU h cO h0 h1 g0 g1 (G:=(aV (aB gs g.toNat) m).1) ⟨gp,YI⟩ (fun k hk=>(JR hk).1) (by
  cases hs:cl (aB gs g.toNat) m
  ·rcases wj hs with e|⟨-,e⟩
   ·rw[e];exact .same rfl
   ·refine .new _ ?_ e rfl (by rw[show((g.toNat:Nat):Int)=g by omega];exact hg)
    unfold cl at hs
    cases hx:bj (aB gs g.toNat) m with
    |none=>rfl
    |some x=>rw[hx]at hs;cases hs
  ·rw[tu hs];exact .same rfl)
 refine⟨U,K,fun ha=>?_⟩
 obtain⟨e,he,hf,cC⟩:=E7 ha;obtain⟨-,e2,e3⟩:=qY gp he;have po:=e3 hf;rw[YI,hid,show((g.toNat:Nat):Int)=g by omega]at po
 rw[cC];simp only
 refine⟨po,?_⟩;have sG:aB (gs.set g.toNat (aV (aB gs g.toNat) m).1) e.g.toNat=(aV (aB gs g.toNat) m).1:=by
  rw[JQ _ (by rw[h.g5];omega),po,if_pos rfl]
 refine⟨e2,by rw[po];exact hg,?_,fun _=>?_,fun vM=>?_⟩
 ·rw[sG,cl,he];rfl
 ·rw[sG,aU,he];exact⟨rfl,rfl⟩
 ·rw[sG,aU,he]at vM;simp only[Option.getD_some]at vM;rw[hf]at vM;cases vM
theorem CJ {ss:List (List Int)}{gs:List aH}(h:oa ss gs)(cO:∀s∈ss,cf s=true)(xP:ss.length≤12){m g t s:Int}(h0:0≤m)(h1:m<ss.length)(hg:g∈ss.getD m.toNat [])(hF:ig gs (ss.getD m.toNat []) m t s):
  BD gs (gs.set g.toNat (c8 (aB gs g.toNat) m t s).1) (ss.getD m.toNat []) m∧oa ss (gs.set g.toNat (c8 (aB gs g.toNat) m t s).1):=by
 obtain⟨g0,g1⟩:=dJ cO _ g hg;have hm:br m=true:=by simp only[br,decide_eq_true_eq];omega
 have hv:=(h.jH g.toNat (by omega)).1
 have gp:=CC hv hm hF.ok;refine JU h cO h0 h1 g0 g1 (G:=(c8 (aB gs g.toNat) m t s).1) ⟨gp,Ry _ _ _ _⟩ (fun k hk=>(E1 hv hk hm hF.ok).1) ?_
 rcases Ar (m:=m) (t:=t) (s:=s) hv with e|⟨e,rest,pre,lW,XT,cC,p1,p2,p3, -⟩
 ·rw[e];exact .same rfl
 ·refine .fin e t s cC XT ?_ (by rw[show((g.toNat:Nat):Int)=g by omega];exact hg) hF
  rw[gG,tq (dy.1 gp).uX p2,List.find?_cons_of_pos (by simp)]
structure qD (gs:List aH) (set:List Int) (m:Int) (r:cH):Prop where
 ok:ef r=true
 ms:r.m=m
 st:r.gs=set
 aN:∀s∈r.aN,u_ gs set m s.1 s.2
theorem RI {ss:List (List Int)}{gs:List aH}(h:oa ss gs)(cO:∀s∈ss,cf s=true){m:Int}{r:cH}(hr:qD gs (ss.getD m.toNat []) m r)(hl:(kT r).2=true):ig gs (ss.getD m.toNat []) m (kT r).1.1 (kT r).1.2:=by
 have cC:=hr.st;have Ow:=dJ cO m.toNat;generalize aY:ss.getD m.toNat []=set at*;have hlen:r.gs.length≤r.aN.length:=by
  unfold kT at hl;split at hl
  ·cases hl
  ·omega
 have hs:(kT r).1=xg r.aN:=by
  unfold kT;rw[if_neg (by omega)]
 have nL:∀g∈set,∃t,(t,g)∈r.aN:=fun g hg=>by
  have hm:=(VB hr.ok).1.2 hlen;simp only[Ot,List.filter_eq_nil_iff,Bool.and_eq_true,Bool.not_eq_true',not_and,Bool.not_eq_false]at hm;have:=hm g (wh.2 (Ow g hg)) (cI.2 (by rw[cC];exact hg))
  obtain⟨x,hx,rfl⟩:=List.mem_map.1 (wi.1 this);exact⟨x.1,hx⟩
 obtain⟨cv, -, -⟩:=jA (u9 hr.ok).1;rw[cC]at cv;rw[hs];have abN:xg r.aN∈r.aN∧∀x∈r.aN,aS (xg r.aN).1 (xg r.aN).2 x.1 x.2=false:=by
  rcases hg:r.aN with _|⟨x,xs⟩
  ·obtain⟨g,bf⟩:=List.exists_mem_of_ne_nil set cv
   obtain⟨t,ht⟩:=nL g bf;rw[hg]at ht;cases ht
  ·obtain⟨m1,m2,m3⟩:=JP x xs
   refine⟨?_,fun y hy=>?_⟩
   ·rcases m3 with e|e
    ·exact List.mem_cons.2 (.inl e)
    ·exact List.mem_cons.2 (.inr e)
   ·rcases List.mem_cons.1 hy with rfl|hy
    ·exact m1
    ·exact m2 y hy
 obtain⟨gr,hle⟩:=abN;generalize xg r.aN=s at*;have hS:=hr.aN s gr;by_cases hc:∃g∈set,cl (aB gs g.toNat) m=true∧(aU (aB gs g.toNat) m).f=true
 ·obtain⟨g,hg,k1,k2⟩:=hc
  obtain⟨e,he⟩:=Option.isSome_iff_exists.1 k1;have hD:aU (aB gs g.toNat) m=e:=by rw[aU,he];rfl
  rw[hD]at k2;obtain⟨g0,g1⟩:=Ow g hg;obtain⟨-, -, -,hF⟩:=h.kC g.toNat m e (by omega) he
  have hF:=hF k2;rw[aY]at hF;have a:aS s.1 s.2 e.t e.g=false:=by
   obtain⟨t,ht⟩:=nL e.g hF.mem;have hT:=hr.aN _ ht;have:t=e.t:=by
    cases hf:(aU (aB gs e.g.toNat) m).f
    ·exact(hT.op hf).1.symm.trans hF.own.1
    ·exact((hT.fi hf).2 hF.own.2).symm.trans hF.own.1
   rw[←this];exact hle _ ht
  have b:aS e.t e.g s.1 s.2=false:=by
   cases hf:(aU (aB gs s.2.toNat) m).f
   ·have:=hF.le s.2 hS.mem
    rwa[(hS.op hf).1,(hS.op hf).2]at this
   ·have:=(hS.fi hf).1
    rwa[(hF.fi s.2 hS.mem hf).1,(hF.fi s.2 hS.mem hf).2]at this
  obtain⟨e1,e2⟩:=JS a b;rw[e1,e2];exact hF
 ·have aW:∀g∈set,∃t,(t,g)∈r.aN∧cl (aB gs g.toNat) m=true∧(aU (aB gs g.toNat) m).f=false∧(aU (aB gs g.toNat) m).t=t∧(aU (aB gs g.toNat) m).g=g:=fun g hg=>by
   obtain⟨t,ht⟩:=nL g hg;have hT:=hr.aN _ ht;have hf:(aU (aB gs g.toNat) m).f=false:=by
    cases hf:(aU (aB gs g.toNat) m).f
    ·rfl
    ·exact absurd ⟨g,hg,hT.kn,hf⟩ hc
   exact⟨t,ht,hT.kn,hf,hT.op hf⟩
  refine⟨hS.ok,hS.mem,fun g hg=>?_,fun g hg hf=>?_,fun g hg=>?_,?_⟩
  ·obtain⟨t, -,k, -⟩:=aW g hg;exact k
  ·obtain⟨t, -, -,k, -⟩:=aW g hg;rw[k]at hf;cases hf
  ·obtain⟨t,ht, -, -,k1,k2⟩:=aW g hg;rw[k1,k2];exact hle _ ht
  ·obtain⟨t,ht, -,k, -, -⟩:=aW s.2 hS.mem;exact hS.op k
structure va (ss:List (List Int)) (gs:List aH) (p:eI):Prop where
 m0:0≤p.m
 m1:p.m<ss.length
 g:p.g∈ss.getD p.m.toNat []
 k:(p.k=1∧p.t=0∧p.s=0)∨(p.k=2∧p.s=p.g∧u_ gs (ss.getD p.m.toNat []) p.m p.t p.s)∨(p.k=3∧ig gs (ss.getD p.m.toNat []) p.m p.t p.s)
structure c_ (w:az):Prop where
 MV:w.an.length≤12
 set:∀s∈w.an,cf s=true
 gs:oa w.an w.ai
 rl:w.rounds.length=w.an.length
 sl:w.bh.length=w.an.length
 nl:w.bC.length≤16
 o_:∀m:Nat,m<w.an.length→qD w.ai (w.an.getD m []) m (w.rounds.getD m ⟨0,[],[]⟩)
 bC:∀p∈w.bC,va w.an w.ai p
theorem qD.upd {gs bM:List aH}{set k9:List Int}{m k:Int}{r:cH}(h:qD gs k9 k r)(U:BD gs bM set m)(hr:dN k9)(hs:k=m→k9=set):qD bM k9 k r:=⟨h.ok,h.ms,h.st,fun s vF=>(h.aN s vF).upd U hr hs⟩
theorem va.upd {ss:List (List Int)}{gs bM:List aH}{m:Int}{p:eI}(h:va ss gs p)(cO:∀s∈ss,cf s=true)(U:BD gs bM (ss.getD m.toNat []) m):va ss bM p:=by
 refine⟨h.m0,h.m1,h.g,?_⟩;rcases h.k with h|⟨a,b,c⟩|⟨a,c⟩
 ·exact .inl h
 ·exact .inr (.inl ⟨a,b,c.upd U (dJ cO _) fun e=>by rw[e]⟩)
 ·exact .inr (.inr ⟨a,c.upd U (dJ cO _) fun e=>by rw[e]⟩)
theorem c_.upd {w:az}(h:c_ w){bM:List aH}{m:Int}(hm:0≤m)(U:BD w.ai bM (w.an.getD m.toNat []) m)(K:oa w.an bM):c_ ⟨w.an,bM,w.rounds,w.bh,w.bC⟩:=
 {h with
  gs:=K
  o_:=fun k hk=>(h.o_ k hk).upd U (dJ h.set _) fun e=>by rw[←e];simp
  bC:=fun p hp=>(h.bC p hp).upd h.set U}
theorem c_.post {w:az}(h:c_ w){p:eI}(hp:va w.an w.ai p):c_ (iJ w p):=by
 unfold iJ;split
 ·refine {h with nl:=by simp;omega,bC:=fun x hx=>?_}
  rcases List.mem_append.1 hx with hx|hx
  ·exact h.bC x hx
  ·rw[List.mem_singleton]at hx;subst hx;exact hp
 ·exact h
theorem BE (w:az)(p:eI):(iJ w p).ai=w.ai:=by unfold iJ;split<;>rfl
theorem c_.qz (f:Int→eI):∀(gs:List Int) (w:az),c_ w→(∀g∈gs,va w.an w.ai (f g))→c_ (gs.foldl (fun w g=>iJ w (f g)) w)
 |[],w,h,_=>h
 |g::gs,w,h,hp=>c_.qz f gs _ (h.post (hp g (List.mem_cons_self ..))) fun x hx=>by
  rw[qy,BE];exact hp x (List.mem_cons_of_mem _ hx)
theorem c_.tell {w:az}(h:c_ w){m:Int}(h0:0≤m)(h1:m<w.an.length):c_ (vW w m):=by
 unfold vW;split
 ·rename_i hl
  have hr:=h.o_ m.toNat (by omega)
  rw[show((m.toNat:Nat):Int)=m by omega]at hr
  have hF:=RI h.gs h.set hr hl;exact c_.qz (fun g=>⟨3,m,g,(kT (bT w m)).1.1,(kT (bT w m)).1.2⟩) _ w h fun g hg=>⟨h0,h1,hg,.inr (.inr ⟨rfl,hF⟩)⟩
 ·exact h
theorem c_.ask {w:az}(h:c_ w){m:Int}(h0:0≤m)(h1:m<w.an.length){gs:List Int}(hg:∀g∈gs,g∈w.an.getD m.toNat []):c_ (zZ w m gs):=
 c_.qz (fun g=>⟨1,m,g,0,0⟩) _ w h fun g bW=>⟨h0,h1,hg g bW,.inl ⟨rfl,rfl,rfl⟩⟩
theorem c_.erase {w:az}(h:c_ w)(i:Nat):c_ ⟨w.an,w.ai,w.rounds,w.bh,w.bC.eraseIdx i⟩:=
 {h with
  nl:=Nat.le_trans (List.length_eraseIdx_le ..) h.nl
  bC:=fun p hp=>h.bC p (List.mem_of_mem_eraseIdx hp)}
theorem RJ {α:Type}{xs:List α}{i k:Nat}{x d:α}(hi:i<xs.length):(xs.set i x).getD k d=if k=i then x else xs.getD k d:=by
 simp only[List.getD_eq_getElem?_getD,List.getElem?_set];by_cases h:k=i
 ·subst h;simp[hi]
 ·rw[if_neg h,if_neg (fun e=>h e.symm)]
theorem c_.ya {w:az}(h:c_ w){m:Int}(h0:0≤m)(h1:m<w.an.length){r:cH}(hr:qD w.ai (w.an.getD m.toNat []) m r):c_ ⟨w.an,w.ai,w.rounds.set m.toNat r,w.bh,w.bC⟩:=
 {h with
  rl:=by simpa using h.rl
  o_:=fun k hk=>by
   show qD w.ai (w.an.getD k []) k ((w.rounds.set m.toNat r).getD k ⟨0,[],[]⟩)
   rw[RJ (by rw[h.rl];omega)]
   split
   ·rename_i e;subst e;rwa[show((m.toNat:Nat):Int)=m by omega]
   ·exact h.o_ k hk
  bC:=h.bC}
theorem RK {r:cH}(h1:cf r.gs=true)(h2:br r.m=true)(h3:∀s∈r.aN,aP s.1 s.2=true∧s.2∈r.gs)(h4:r.aN.Pairwise (fun a b=>a.2<b.2)):ef r=true:=by
 simp only[ef,Bool.and_eq_true,bd];refine⟨⟨fun i hi=>?_,h2⟩,h1⟩
 have hm:=h3 _ (List.getElem_mem hi);rw[fY,List.getElem?_eq_getElem hi];simp only[Bool.and_eq_true,Bool.or_eq_true,decide_eq_true_eq];refine⟨⟨hm.1,cI.2 hm.2⟩,?_⟩;rcases i with _|i
 ·exact .inl rfl
 ·right
  rw[Nat.add_sub_cancel,List.getElem?_eq_getElem (show i<r.aN.length by omega)]
  simp only[decide_eq_true_eq];exact List.pairwise_iff_getElem.1 h4 i (i+1) (by omega) hi (by omega)
theorem CK (s t:Int):∀{aN:List (Int×Int)},aN.Pairwise (fun a b=>a.2<b.2)→(∀x∈aN,x.2≠s)→(aN.take (iu aN s)++[(t,s)]++aN.drop (iu aN s)).Pairwise fun a b=>a.2<b.2
 |[],_,_=>by simp[iu]
 |x::l,hp,hn=>by
  rw[List.pairwise_cons]at hp;by_cases hx:x.2<s
  ·have qB:iu (x::l) s=iu l s+1:=by
    unfold iu;rw[List.takeWhile_cons,if_pos (by simpa using hx),List.length_cons]
   rw[qB,List.take_succ_cons,List.drop_succ_cons];refine List.pairwise_cons.2 ⟨fun y hy=>?_,CK s t hp.2 fun y hy=>hn y (by simp[hy])⟩
   rcases List.mem_append.1 hy with hy|hy
   ·rcases List.mem_append.1 hy with hy|hy
    ·exact hp.1 y (List.mem_of_mem_take hy)
    ·obtain rfl:=List.mem_singleton.1 hy
     exact hx
   ·exact hp.1 y (List.mem_of_mem_drop hy)
  ·have qB:iu (x::l) s=0:=by
    unfold iu;rw[List.takeWhile_cons,if_neg (by simpa using hx),List.length_nil]
   have aj:s<x.2:=by have:=hn x (by simp);omega
   rw[qB];refine List.pairwise_cons.2 ⟨fun y hy=>?_,List.pairwise_cons.2 hp⟩
   rcases List.mem_cons.1 hy with rfl|hy
   ·exact aj
   ·have:=hp.1 y hy
    show s<y.2
    omega
theorem aav {gs:List aH}{set:List Int}{m t s:Int}{r:cH}(h:qD gs set m r)(hs:u_ gs set m t s):qD gs set m (zY r t s).1:=by
 unfold zY;split
 ·exact h
 ·rename_i hc
  obtain⟨h1,h2,h3,h4⟩:=u9 h.ok;have gr:∀x∈r.aN.take (iu r.aN s)++[(t,s)]++r.aN.drop (iu r.aN s),x=(t,s)∨x∈r.aN:=fun x hx=>by
   rcases List.mem_append.1 hx with hx|hx
   ·rcases List.mem_append.1 hx with hx|hx
    ·exact .inr (List.mem_of_mem_take hx)
    ·exact .inl (List.mem_singleton.1 hx)
   ·exact .inr (List.mem_of_mem_drop hx)
  refine⟨?_,h.ms,h.st,fun x hx=>?_⟩
  ·refine RK h1 h2 (fun x hx=>?_) ?_
   ·rcases gr x hx with rfl|hx
    ·exact⟨hs.ok,by rw[h.st];exact hs.mem⟩
    ·exact h3 x hx
   ·refine CK s t h4 fun x hx e=>hc (.inr ?_)
    rw[RH s h4,List.any_eq_true];exact⟨x,hx,by simpa using e⟩
  ·rcases gr x hx with rfl|hx
   ·exact hs
   ·exact h.aN x hx
theorem c_.hear {w:az}(h:c_ w){p:eI}(hp:va w.an w.ai p):c_ (Aa w p):=by
 have hg:=hp.g;unfold Aa;split
 ·obtain⟨U,K,S⟩:=As h.gs h.set h.MV hp.m0 hp.m1 hg
  have hw:=h.upd hp.m0 U K;split
  ·rename_i ha
   obtain⟨s1,s2⟩:=S ha;exact hw.post ⟨hp.m0,hp.m1,hg,.inr (.inl ⟨rfl,s1,s2⟩)⟩
  ·exact hw
 ·rename_i Wd
  split
  ·rename_i hk2
   rcases hp.k with⟨e, -⟩|⟨-,xQ,hS⟩|⟨e, -⟩
   ·exact absurd e Wd
   ·have hr:=h.o_ p.m.toNat (by have:=hp.m1;have:=hp.m0;omega)
    rw[show((p.m.toNat:Nat):Int)=p.m by have:=hp.m0;omega]at hr
    split
    ·exact h
    ·have hw:=h.ya hp.m0 hp.m1 (aav hr hS)
     split
     ·exact hw.tell hp.m0 hp.m1
     ·exact hw
   ·omega
  ·split
   ·rename_i hk3
    rcases hp.k with⟨e, -⟩|⟨e, -⟩|⟨-,hF⟩
    ·omega
    ·omega
    ·obtain⟨U,K⟩:=CJ h.gs h.set h.MV hp.m0 hp.m1 hg hF
     exact h.upd hp.m0 U K
   ·exact h
theorem c_.Vk {w:az}(h:c_ w)(k a:Int):c_ (Jv w k a):=by
 unfold Jv;split
 ·exact h
 ·split
  ·exact h
  ·rename_i p hp
   have Vl:=h.bC p (List.mem_of_getElem? hp);split
   ·exact h.post Vl
   ·split
    ·exact(h.erase _).hear Vl
    ·exact h.erase _
theorem c_.send {w:az}(h:c_ w)(k:Int):c_ (z_ w k):=by
 unfold z_;split
 ·rename_i hk
  obtain⟨h1,h2,h3⟩:=hk;obtain⟨b1,b2⟩:=Jx h1 h2;have old:∀m:Nat,m<w.an.length→(w.an++[dU k]).getD m []=w.an.getD m []:=fun m hm=>by
   rw[List.getD_eq_getElem?_getD,List.getD_eq_getElem?_getD,List.getElem?_append_left hm]
  have mU:(w.an++[dU k]).getD w.an.length []=dU k:=by simp[List.getD_eq_getElem?_getD]
  have hw:c_ ⟨w.an++[dU k],w.ai,w.rounds++[⟨w.an.length,dU k,[]⟩],w.bh++[false],w.bC⟩:=by
   refine⟨by simp;omega,fun s hs=>?_,⟨h.gs.g5,h.gs.jH,fun i m e hi he=>?_⟩,by simp[h.rl],by simp[h.sl],h.nl,fun m hm=>?_,fun p hp=>?_⟩
   ·rcases List.mem_append.1 hs with hs|hs
    ·exact h.set s hs
    ·rw[List.mem_singleton]at hs;subst hs;exact b1
   ·obtain⟨a,b,c,d⟩:=h.gs.kC i m e hi he
    show 0≤m∧m<((w.an++[dU k]).length:Int)∧(i:Int)∈(w.an++[dU k]).getD m.toNat []∧(e.f=true→ig w.ai ((w.an++[dU k]).getD m.toNat []) m e.t e.g)
    rw[old m.toNat (by omega)]
    exact⟨a,by simp;omega,c,d⟩
   ·show qD w.ai ((w.an++[dU k]).getD m []) m ((w.rounds++[(⟨w.an.length,dU k,[]⟩:cH)]).getD m ⟨0,[],[]⟩)
    by_cases hl:m<w.an.length
    ·rw[old m hl,show(w.rounds++[(⟨w.an.length,dU k,[]⟩:cH)]).getD m ⟨0,[],[]⟩=w.rounds.getD m ⟨0,[],[]⟩ by
      rw[List.getD_eq_getElem?_getD,List.getD_eq_getElem?_getD,List.getElem?_append_left (by rw[h.rl];exact hl)]]
     exact h.o_ m hl
    ·obtain rfl:m=w.an.length:=by simp at hm;omega
     rw[mU,show(w.rounds++[(⟨w.an.length,dU k,[]⟩:cH)]).getD w.an.length ⟨0,[],[]⟩=⟨w.an.length,dU k,[]⟩ by simp[List.getD_eq_getElem?_getD,←h.rl]]
     refine⟨?_,rfl,rfl,fun s hs=>by cases hs⟩
     simp only[ef,Bool.and_eq_true];exact⟨⟨bw fun i hi=>by simp at hi,by simp only[br,decide_eq_true_eq];omega⟩,b1⟩
   ·have hv:=h.bC p hp
    show va (w.an++[dU k]) w.ai p
    have e:=old p.m.toNat (by have:=hv.m0;have:=hv.m1;omega)
    exact⟨hv.m0,by have:=hv.m1;simp;omega,by rw[e];exact hv.g,by rw[e];exact hv.k⟩
  refine hw.ask (m:=w.an.length) (by omega) (by simp;omega) fun g hg=>?_
  rw[show((w.an.length:Nat):Int).toNat=w.an.length by omega]
  show g∈(w.an++[dU k]).getD w.an.length []
  rw[mU];exact hg
 ·exact h
theorem c_.props {m:Int}(h0:0≤m):∀{set:List Int} {w:az},c_ w→m<w.an.length→(∀g∈set,g∈w.an.getD m.toNat [])→c_ ⟨w.an,iw w.ai m set,w.rounds,w.bh,w.bC⟩
 |[],w,h,_,_=>h
 |g::set,w,h,h1,hg=>by
  obtain⟨U,K, -⟩:=As h.gs h.set h.MV h0 h1 (hg g (List.mem_cons_self ..));exact c_.props h0 (set:=set) (h.upd h0 U K) h1 fun x hx=>hg x (List.mem_cons_of_mem _ hx)
theorem c_.YJ {m:Int}{s:Int×Int}(h0:0≤m):∀{set:List Int} {w:az},c_ w→m<w.an.length→ig w.ai (w.an.getD m.toNat []) m s.1 s.2→(∀g∈set,g∈w.an.getD m.toNat [])→c_ ⟨w.an,qT w.ai m s set,w.rounds,w.bh,w.bC⟩
 |[],w,h,_,_,_=>h
 |g::set,w,h,h1,hF,hg=>by
  obtain⟨U,K⟩:=CJ h.gs h.set h.MV h0 h1 (hg g (List.mem_cons_self ..)) hF;exact c_.YJ h0 (set:=set) (h.upd h0 U K) h1 (hF.upd U (dJ h.set _) fun _=>rfl) fun x hx=>hg x (List.mem_cons_of_mem _ hx)
theorem vb {gs:List aH}{m:Int}{l:List (Int×Int)}:∀{set:List Int} {acc:List (Int×Int)},qw gs m set acc= .inr l→l.length=acc.length+(set.filter fun g=>cl (aB gs g.toNat) m).length
 |[],acc,h=>by cases h;simp
 |g::set,acc,h=>by
  rw[qw]at h;split at h
  ·cases h
  ·have:=vb h
   rw[this]
   cases hs:cl (aB gs g.toNat) m
   ·simp[hs]
   ·simp[hs];omega
theorem Ng {ss:List (List Int)}{gs:List aH}(h:oa ss gs)(cO:∀s∈ss,cf s=true){m:Int}(cv:ss.getD m.toNat []≠[])(hs:(iI gs (ss.getD m.toNat []) m).2=true):ig gs (ss.getD m.toNat []) m (iI gs (ss.getD m.toNat []) m).1.1 (iI gs (ss.getD m.toNat []) m).1.2:=by
 have hr:=dJ cO m.toNat;have hv:∀g∈gs,bm g=true:=fun g hg=>by
  obtain⟨i,hi,rfl⟩:=List.getElem_of_mem hg;have:=(h.jH i (by rw[←h.g5];exact hi)).1
  rwa[aB,List.getD_eq_getElem?_getD,List.getElem?_eq_getElem hi]at this
 generalize aY:ss.getD m.toNat []=set at*;unfold iI at hs⊢;split at hs
 ·rename_i s' he
  obtain⟨a,ha,a1,a2,rfl⟩:=Am he;obtain⟨e,MY⟩:=Option.isSome_iff_exists.1 a1;have hD:aU (aB gs a.toNat) m=e:=by rw[aU,MY];rfl
  rw[hD]at a2⊢;obtain⟨a0,a3⟩:=hr a ha;obtain⟨-, -, -,hF⟩:=h.kC a.toNat m e (by omega) MY
  have:=hF a2
  rwa[aY]at this
 ·rename_i l he
  split at hs
  ·cases hs
  ·rename_i hlen
   rw[if_neg hlen];have abO:=vb he;have cS:∀g∈set,cl (aB gs g.toNat) m=true:=by
    have h1:=List.length_filter_le (fun g=>cl (aB gs g.toNat) m) set
    simp only[List.length_nil,Nat.zero_add]at abO;exact List.length_filter_eq_length_iff.1 (by omega)
   obtain⟨-,k2,k3, -⟩:=An he;have po:∀g∈set,(aU (aB gs g.toNat) m).g=g:=fun g hg=>by
    obtain⟨e,MY⟩:=Option.isSome_iff_exists.1 (cS g hg);have hD:aU (aB gs g.toNat) m=e:=by rw[aU,MY];rfl
    have hf:=(k2 g hg (cS g hg)).1;rw[hD]at hf⊢;obtain⟨g0,g1⟩:=hr g hg;have:=(qY (h.jH g.toNat (by omega)).1 MY).2.2 hf
    rw[this,(h.jH g.toNat (by omega)).2];omega
   rcases l with _|⟨x,xs⟩
   ·exact absurd (List.length_pos_iff.2 cv) (by simpa using hlen)
   ·obtain⟨m1,m2,m3⟩:=JP x xs
    have cK:pz x xs∈x::xs:=by
     rcases m3 with h|h
     ·rw[h];exact List.mem_cons_self ..
     ·exact List.mem_cons_of_mem _ h
    rcases k3 _ cK with h'|⟨g,hg,bW,e⟩
    ·cases h'
    ·have hle:∀y∈x::xs,aS (pz x xs).1 (pz x xs).2 y.1 y.2=false:=fun y hy=>by
      rcases List.mem_cons.1 hy with rfl|hy
      ·exact m1
      ·exact m2 y hy
     simp only[xg];rw[e]at hle⊢;have ho:=po g hg;obtain⟨g0,g1⟩:=hr g hg;have gp:=Nb (h.jH g.toNat (by omega)).1 bW
     simp only at hle⊢
     refine⟨gp,by rw[ho];exact hg,cS,fun g' bf hf=>?_,fun g' bf=>hle _ (k2 g' bf (cS g' bf)).2,?_⟩
     ·rw[(k2 g' bf (cS g' bf)).1]at hf;cases hf
     ·rw[ho];exact⟨rfl,ho⟩
theorem c_.recover {w:az}(h:c_ w){a:Int}(h0:0≤a)(h1:a<w.an.length)(hs:(xh w.ai (setAt w a) a).2=true):c_ ⟨w.an,(xh w.ai (setAt w a) a).1,w.rounds,w.bh,w.bC⟩:=by
 have aY:setAt w a=w.an.getD a.toNat []:=rfl
 have cv:w.an.getD a.toNat []≠[]:=by
  rw[List.getD_eq_getElem?_getD,List.getElem?_eq_getElem (by omega)]
  exact(jA (h.set _ (List.getElem_mem _))).1
 have hP:=h.props h0 (set:=w.an.getD a.toNat []) h1 fun g hg=>hg
 unfold xh at hs⊢;rw[aY]at hs⊢;split at hs
 ·rename_i cC
  rw[if_pos cC];have hF:=Ng hP.gs hP.set cv cC;exact hP.YJ h0 (set:=w.an.getD a.toNat []) h1 hF fun g hg=>hg
 ·cases hs
theorem VC {r:cH}{g:Int}(h:g∈tf r):g∈r.gs:=by
 unfold tf at h;split at h
 ·exact(List.mem_filter.1 h).1
 ·cases h
theorem c_.EV {w:az}(h:c_ w)(k a:Int):c_ (qx w k a):=by
 unfold qx;split
 ·exact h
 ·rename_i ha
  have Jy:0≤a:=by omega
  have Jz:a<w.an.length:=by omega
  split
  ·exact {h with sl:=by simpa using h.sl,bC:=h.bC,o_:=h.o_}
  ·split
   ·split
    ·exact h
    ·have hr:=h.o_ a.toNat (by omega)
     have hA:c_ (zZ w a (tf (bT w a))):=h.ask Jy Jz fun g hg=>by
      have:=VC hg
      rw[show(bT w a).gs=w.an.getD a.toNat []from hr.st]at this
      exact this
     refine hA.tell Jy ?_;unfold zZ;rw[qA];exact Jz
   ·split
    ·split
     ·rename_i hs;exact h.recover Jy Jz hs
     ·exact h
    ·exact h
theorem c_.event {w:az}(h:c_ w)(k a:Int):c_ (XR w k a):=by
 unfold XR;split
 ·exact h.send a
 ·split
  ·exact h.Vk k a
  ·exact h.EV k a
end Go.Proofs.YtlhohdjniaebbaaGreat.T
namespace Go.Proofs.YtlhohdjniaebbaaGreat.T
open Go Go.RowKit
def Ox (gs:List aH)(n:Int):Prop:=∀i:Nat,i<5→(aB gs i).clock≤n
end Go.Proofs.YtlhohdjniaebbaaGreat.T
namespace Go.Proofs.YtlhohdjniaebbaaGreat.T
open Go Go.RowKit
theorem JV {w:az}(h:c_ w):cY w.ai=true:=by
 have h5:=h.gs.g5;simp only[cY,Bool.and_eq_true,decide_eq_true_eq,bd,h5];refine⟨⟨trivial,fun i hi=>?_⟩,fun m hm=>?_⟩
 ·simp only[oY,Bool.and_eq_true,decide_eq_true_eq];exact h.gs.jH i hi
 ·simp only[qt,bd,h5,uU]
  intro i hi k hk;unfold l8
  cases h1:cl (aB w.ai i) m
  ·rfl
  ·cases h2:(aU (aB w.ai i) m).f
   ·rfl
   ·cases h3:cl (aB w.ai k) m
    ·rfl
    ·obtain⟨e,he⟩:=Option.isSome_iff_exists.1 h1
     obtain⟨d,hd⟩:=Option.isSome_iff_exists.1 h3;have hE:aU (aB w.ai i) m=e:=by rw[aU,he];rfl
     have hD:aU (aB w.ai k) m=d:=by rw[aU,hd];rfl
     rw[hE]at h2;obtain⟨-, -, -,F⟩:=h.gs.kC i m e hi he;have F:=F h2;obtain⟨-, -,cK, -⟩:=h.gs.kC k m d hk hd;have a:=F.fi k cK;have b:=F.le k cK;rw[show((k:Nat):Int).toNat=k by omega,hD]at a b
     rw[hE,hD]
     cases hf:d.f
     ·simp[b]
     ·obtain⟨a1,a2⟩:=a hf;simp[a1,a2]
theorem Ox.mono {gs:List aH}{n n':Int}(h:Ox gs n)(hn:n≤n'):Ox gs n':=fun i hi=>by have:=h i hi;omega
def aaw (w:az)(m:Int):Prop:=∀g∈setAt w m,cl (aB w.ai g.toNat) m=true∧(aU (aB w.ai g.toNat) m).f=true
structure Calm (w:az) (n:Int) (k:Nat) (x:az):Prop where
 ok:c_ x
 ck:Ox x.ai (n+k)
 an:x.an=w.an
 bC:x.bC=[]
 fin:∀j:Nat,j<k→aaw x j
 pre:∀i:Nat,i<5→∃p,(aB x.ai i).done=(aB w.ai i).done++p
end Go.Proofs.YtlhohdjniaebbaaGreat.T
namespace Go.Proofs.YtlhohdjniaebbaaGreat.T
open Go Go.RowKit
set_option maxRecDepth 100000
set_option maxHeartbeats 4000000
variable {E:List PanicEntry→World→Prop}
theorem TC.Qz {P:Program}{f:FuncId}{args:List GV}{m:Nat}{bb sto':List (Nat×ak)}{x y z:GV}(hl:x.le y)(h:TC P E f args m bb (.p [x,z]) sto'):TC P E f args m bb (.p [y,z]) sto':=by
 refine⟨h.1,fun w bJ ρ D hv ha hD h1 h2 h3=>(h.2 w bJ ρ D hv ha hD h1 h2 h3).mono ?_⟩
 rintro e w' (hE|⟨v,ρ',D',rfl,hr,hP⟩)
 ·exact .inl hE
 ·refine .inr ⟨v,ρ',D',rfl,?_,hP⟩
  cases hr with
  |p hn hr=>
   refine .p hn fun i t ht=>?_;rcases i with _|i
   ·cases ht
    exact(hr 0 x rfl).le hl
   ·exact hr (i+1) t ht
end Go.Proofs.YtlhohdjniaebbaaGreat.T
namespace Go.Proofs.YtlhohdjniaebbaaGreat.T
open Go Go.RowKit
section
variable {r:Rg}{o:Oper}{os:List Oper}{gd:List (Nat ⊕ Nat)}{s:ae}{acc:List Pl}{K:ae→Prop}{c:Call}{f:FuncId}{qp gs:List GV}{cM:List (Nat×Option ak)}{tt:Option (FuncId×List GV×List (Nat×Option ak))}
end
end Go.Proofs.YtlhohdjniaebbaaGreat.T
namespace Go.Proofs.YtlhohdjniaebbaaGreat.T
open Go Go.RowKit
set_option maxRecDepth 100000
set_option maxHeartbeats 4000000
variable {E:List PanicEntry→World→Prop}
@[simp] theorem ab0:iG Tw.prog 216 "loop.example/groupmulticast/impl.message"=some (262,none):=by kernel_rfl
@[simp] theorem aaH:iG Tw.prog 218 "loop.example/groupmulticast/impl.message"=some (263,none):=by kernel_rfl
@[simp] theorem ab1:iG Tw.prog 220 "loop.example/groupmulticast/impl.message"=some (264,none):=by kernel_rfl
end Go.Proofs.YtlhohdjniaebbaaGreat.T
namespace Go.Proofs.YtlhohdjniaebbaaGreat.T
open Go Go.RowKit
set_option maxRecDepth 100000
set_option maxHeartbeats 4000000
theorem dK {w:az}{m:Int}(h0:0≤m)(h1:m<w.an.length):w.an[m.toNat]?=some (setAt w m):=by
 rw[setAt,List.getD_eq_getElem?_getD,List.getElem?_eq_getElem (by omega)];rfl
theorem RL {S:List Int}(h:cf S=true):fj S S 5=S:=by
 obtain⟨-, -,hr⟩:=jA h;have hg:=nb (mh h) hr;unfold fj;simp only[Bool.and_self];exact hg.symm
end Go.Proofs.YtlhohdjniaebbaaGreat.T
