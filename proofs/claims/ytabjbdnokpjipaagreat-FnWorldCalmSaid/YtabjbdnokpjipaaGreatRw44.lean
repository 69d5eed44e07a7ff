/-
What is proved: where a tree says 'nil', rows of one's own without an element serve and what rests on it. Conditions: as stated.
-/
import Derived.Test.YtabjbdnokpjipaaGreatRw35
import Derived.Test.YtabjbdnokpjipaaGreatRw43
import Derived.Test.YtabjbdnokpjipaaGreatRw39
import Derived.Test.YtabjbdnokpjipaaGreatRw42
set_option linter.unusedVariables false
set_option linter.unusedSimpArgs false
namespace Go.Proofs.YtabjbdnokpjipaaGreat.T
open Go Go.RowKit
def TV.ln (n:Nat)(x y:TV):Prop:=x=y∨(x= .r .nil∧y= .own n)
def VN (n:Nat):List TV→List TV→Prop
 |[],[]=>True
 |x::xs,y::ys=>x.ln n y∧VN n xs ys
 |_,_=>False
def GV.ln (n:Nat):GV→GV→Prop
 | .s x,.s y=>x.ln n y
 | .a xs,.a ys=>VN n xs ys
 |g,g'=>g=g'
def az.ln (n:Nat):az→az→Prop
 | .box xs,.box ys=>VN n xs ys
 |y,y'=>y=y'
def lnE (n:Nat):List (Nat×GV)→List (Nat×GV)→Prop
 |[],[]=>True
 |x::xs,y::ys=>x.1=y.1∧x.2.ln n y.2∧lnE n xs ys
 |_,_=>False
def lnS (n:Nat):List (Nat×az)→List (Nat×az)→Prop
 |[],[]=>True
 |x::xs,y::ys=>x.1=y.1∧x.2.ln n y.2∧lnS n xs ys
 |_,_=>False
theorem TV.oY (n:Nat)(x:TV):x.ln n x:= .inl rfl
theorem TV.aa5 (n:Nat):(TV.r .nil).ln n (.own n):= .inr ⟨rfl,rfl⟩
theorem vc (n:Nat):∀xs:List TV,VN n xs xs
 |[]=>trivial
 |x::xs=>⟨x.oY n,vc n xs⟩
theorem GV.oY (n:Nat)(g:GV):g.ln n g:=by
 cases g
 case s x=>exact x.oY n
 case a xs=>exact vc n xs
 all_goals rfl
theorem az.oY (n:Nat)(y:az):y.ln n y:=by
 cases y
 case box xs=>exact vc n xs
 all_goals rfl
theorem DQ {n:Nat}:∀{xs ys:List TV},VN n xs ys→xs.length=ys.length∧∀(i:Nat) (y:TV),ys[i]?=some y→∃x,xs[i]?=some x∧x.ln n y
 |[],[],_=>⟨rfl,fun i y h=>by simp at h⟩
 |x::xs,y::ys,h=>by
  obtain⟨h1,h2⟩:=DQ h.2;refine⟨by simp[h1],fun i z hz=>?_⟩
  cases i with
  |zero=>cases hz;exact⟨x,rfl,h.1⟩
  |succ i=>exact h2 i z hz
 |[],_::_,h=>h.elim
 |_::_,[],h=>h.elim
section
variable {n:Nat}{ρ ρ':Nat→Option Value}{w:World}{D:Nat→Prop}
theorem cG.ln (eK:∀b x,ρ b=some x→ρ' b=some x)(hn:ρ' n=some (.slice none 0 0)){v:Value}{x y:TV}(h:x.ln n y)(hr:cG ρ w D v x):cG ρ' w D v y:=by
 rcases h with rfl|⟨rfl,rfl⟩
 ·exact hr.keep eK (cD.refl D w) fun _ h=>h
 ·cases hr with|r hr=>cases hr with|nil=>exact .own hn
theorem bA.ln (eK:∀b x,ρ b=some x→ρ' b=some x)(hn:ρ' n=some (.slice none 0 0)){v:Value}{x y:GV}(h:x.ln n y)(hr:bA ρ w D v x):bA ρ' w D v y:=by
 unfold GV.ln at h;split at h
 ·cases hr with|s hr=>exact .s (hr.ln eK hn h)
 ·cases hr with
  |a hl hr=>
   obtain⟨h1,h2⟩:=DQ h;refine .a (hl.trans h1) fun i t ht=>?_;obtain⟨x,hx,hl⟩:=h2 i t ht;exact(hr i x hx).ln eK hn hl
 ·subst h;exact hr.keep eK (cD.refl D w) fun _ h=>h
theorem ew.ln (eK:∀b x,ρ b=Option.some x→ρ' b=Option.some x)(hn:ρ' n=Option.some (.slice none 0 0)){v:Option Value}{x y:az}(h:x.ln n y)(hr:ew ρ w D v x):ew ρ' w D v y:=by
 unfold az.ln at h;split at h
 ·obtain⟨g,arr,ty,e1,e2,e3,e4⟩:=hr
  obtain⟨h1,h2⟩:=DQ h;refine⟨g,arr,ty,e1,e2,e3.trans h1,fun i t ht=>?_⟩
  obtain⟨x,hx,hl⟩:=h2 i t ht;exact(e4 i x hx).ln eK hn hl
 ·subst h;exact hr.keep eK (cD.refl D w) (fun _ h=>h) (.inr fun _ _=>rfl)
end
theorem az.DR {n:Nat}{x y:az}(h:x.ln n y):x.live=y.live:=by
 unfold az.ln at h;split at h
 ·rfl
 ·subst h;rfl
theorem Se {n:Nat}(t:Nat):∀{e e':List (Nat×GV)},lnE n e e'→(lk t e).ln n (lk t e')
 |[],[],_=>rfl
 |x::xs,y::ys,h=>by
  obtain⟨h1,h2,h3⟩:=h;obtain⟨u,g⟩:=x;obtain⟨u',g'⟩:=y
  cases h1;simp only[lk];split
  ·exact h2
  ·exact Se t h3
 |[],_::_,h=>h.elim
 |_::_,[],h=>h.elim
theorem Sf {n:Nat}(b:Nat):∀{e e':List (Nat×az)},lnS n e e'→(gt b e=none∧gt b e'=none)∨∃y y',gt b e=some y∧gt b e'=some y'∧y.ln n y'
 |[],[],_=> .inl ⟨rfl,rfl⟩
 |x::xs,y::ys,h=>by
  obtain⟨h1,h2,h3⟩:=h;obtain⟨u,g⟩:=x;obtain⟨u',g'⟩:=y
  cases h1;simp only[gt];split
  ·exact .inr ⟨_,_,rfl,rfl,h2⟩
  ·exact Sf b h3
 |[],_::_,h=>h.elim
 |_::_,[],h=>h.elim
theorem TW.nil {P:Program}{E:List PanicEntry→World→Prop}{nt m:Nat}{Q:Exit→ah→Prop}{s:ah}{c:Code}(e:TypeId)(k:Nat)(env:List (Nat×GV))(bp:List (Nat×az))(hw:TW P E nt m c Q ⟨env,(s.nx,.rows e k [])::bp,s.nx+1⟩)
  (he:lnE s.nx s.env env:=by simp) (hs:lnS s.nx s.bp bp:=by simp) (hk:0<k:=by simp) (ak:uf s=true:=by simp) (hmn:m≤s.nx:=by simp):TW P E nt m c Q s:=by
 intro C a w hn hm hR;refine hw C a w hn hm ?_;obtain⟨ρ,D,h⟩:=hR;have fO:s.get s.nx=none:=by
  unfold ah.get
  cases hg:gt s.nx s.bp with
  |none=>simp
  |some y=>exact absurd (C_ ak _ (gq hg)) (by simp)
 have adO:=h.free _ fO;have eK:∀b x,ρ b=some x→(fun b=>if b=s.nx then some (Value.slice none 0 0)else ρ b) b=some x:=by
  intro b x hx;by_cases e:b=s.nx
  ·subst e;rw[adO]at hx;cases hx
  ·simp[e,hx]
 have cf:∀b,b≠s.nx→(fun b=>if b=s.nx then some (Value.slice none 0 0)else ρ b) b=ρ b:=fun b hb=>by simp[hb]
 have hg:∀b,b≠s.nx→(s.get b=none∧ah.get ⟨env,(s.nx,.rows e k [])::bp,s.nx+1⟩ b=none)∨∃y y',s.get b=some y∧ah.get ⟨env,(s.nx,.rows e k [])::bp,s.nx+1⟩ b=some y'∧y.ln s.nx y':=by
  intro b hb;unfold ah.get;simp only[gt,if_neg hb];rcases Sf b hs with⟨h1,h2⟩|⟨y,y',h1,h2,h3⟩
  ·rw[h1,h2]
   simp only
   by_cases hl:b<s.nx
   ·rw[if_pos hl,if_pos (by omega)];exact .inr ⟨_,_,rfl,rfl,rfl⟩
   ·rw[if_neg hl,if_neg (by omega)];exact .inl ⟨rfl,rfl⟩
  ·rw[h1,h2]
   exact .inr ⟨_,_,rfl,rfl,h3⟩
 have Uu:ah.get ⟨env,(s.nx,.rows e k [])::bp,s.nx+1⟩ s.nx=some (.rows e k []):=by simp[ah.get,gt]
 have hb:∀b y',b≠s.nx→ah.get ⟨env,(s.nx,.rows e k [])::bp,s.nx+1⟩ b=some y'→∃y,s.get b=some y∧y.ln s.nx y':=by
  intro b y' hb hy;rcases hg b hb with⟨h1,h2⟩|⟨y,y2,h1,h2,h3⟩
  ·rw[h2]at hy;cases hy
  ·rw[h2]at hy;cases hy;exact⟨y,h1,h3⟩
 have kP:∀g,bS ((fun b=>if b=s.nx then some (Value.slice none 0 0)else ρ b) s.nx)=some g→False:=fun g h=>by simp[bS]at h
 refine⟨fun b=>if b=s.nx then some (.slice none 0 0)else ρ b,D,⟨h.os,h.tape,h.output,h.size,h.old,h.ro,fun b cT=>?_,fun b y' hy=>?_,fun b y' g hy hl bu=>?_,fun b y b' y' g hy hl eL bz th SM=>?_,fun t=>(h.env t).ln eK (by simp) (Se t he),h.defers,h.nt,fun b x hx=>?_⟩⟩
 ·by_cases e1:b=s.nx
  ·subst e1;rw[Uu]at cT;cases cT
  ·rcases hg b e1 with⟨h1,h2⟩|⟨y,y2,h1,h2,h3⟩
   ·rw[if_neg e1];exact h.free b h1
   ·rw[h2]at cT;cases cT
 ·by_cases e1:b=s.nx
  ·subst e1
   rw[Uu]at hy
   cases hy;exact⟨none,0,by simp,Nat.le_refl _,Nat.zero_le _,hk,fun i y h=>by simp at h,.inl ⟨rfl,rfl,rfl⟩⟩
  ·obtain⟨y,h1,h2⟩:=hb b y' e1 hy
   have:=ew.ln eK (by simp) h2 (h.blk b y h1)
   rwa[if_neg e1]
 ·by_cases e1:b=s.nx
  ·subst e1;exact(kP g bu).elim
  ·obtain⟨y,h1,h2⟩:=hb b y' e1 hy
   rw[if_neg e1]at bu;exact h.own b y g h1 (by rw[az.DR h2];exact hl) bu
 ·by_cases e1:b=s.nx
  ·subst e1;exact(kP g th).elim
  ·by_cases e2:b'=s.nx
   ·subst e2;exact(kP g SM).elim
   ·obtain⟨z,h1,h2⟩:=hb b y e1 hy
    obtain⟨z',jg,ot⟩:=hb b' y' e2 eL;rw[if_neg e1]at th;rw[if_neg e2]at SM;exact h.sep b z b' z' g h1 (by rw[az.DR h2];exact hl) jg (by rw[az.DR ot];exact bz) th SM
 ·have:=hm b x hx
  rw[if_neg (by omega)]
  exact h.ext b x hx
attribute [simp] lnE lnS VN GV.ln az.ln TV.oY TV.aa5 vc GV.oY az.oY
end Go.Proofs.YtabjbdnokpjipaaGreat.T
namespace Go.Proofs.YtabjbdnokpjipaaGreat.T
open Go Go.RowKit
set_option maxRecDepth 100000
set_option maxHeartbeats 4000000
variable {E:List PanicEntry→World→Prop}
theorem uC (xs:List Int)(h:xs.length≤4294967296):TC Tw.prog E 62 [gR (aY xs)] 0 [] (.s (.own 0)) [(0,fU xs)]:=by
 refine tE Tryz.f62 Tryz.ntmps62 (by rw[Tryz.results62]) ?_
 (refine TW.go ?_;simp[maxLen];repeat' first|intro hc|refine aa.mk ?_|refine aI ?_|refine af ?_ ?_)
 exact oW [1] []
theorem Fb (xs:List (Int×Int))(h:xs.length≤4294967296):TC Tw.prog E 91 [gR (lq xs)] 0 [] (.s (.own 0)) [(0,R9 xs)]:=by
 refine tE Tryz.f91 Tryz.ntmps91 (by rw[Tryz.results91]) ?_
 (refine TW.go ?_;simp[maxLen];repeat' first|intro hc|refine aa.mk ?_|refine aI ?_|refine af ?_ ?_)
 exact oW [1] []
theorem yI (r:cl)(h:jT r 4294967296):TC Tw.prog E 63 [.a ((aK r).map .r)] 0 [] (NL r 0 1) (NM r):=by
 obtain⟨hp,hd⟩:=h;refine tE Tryz.f63 Tryz.ntmps63 (by rw[Tryz.results63]) ?_
 (refine TW.go ?_;simp[aK,maxLen];repeat' first|intro hc|refine aa.mk ?_|refine aI ?_|refine af ?_ ?_|(refine cF [] 1 ?_;refine⟨_,_,uC _ hp,?_⟩;simp[aK,maxLen])|(refine cF [] 1 ?_;refine⟨_,_,Fb _ hd,?_⟩;simp[aK,maxLen]))
 exact oW [2,3] []
theorem By (m:Int)(set:List Int)(hm:bj m=true)(hs:cB set=true):TC Tw.prog E 105 [gI .i64 m,gR (aY set)] 0 [] (.p [.a [.r (rI m),.own 0,.r .nil],gB true]) [(0,fU set)]:=by
 have hM:=fL (E:=E) m;have hV:=jx (E:=E) set;obtain⟨-,hl, -⟩:=eY hs;rw[hm]at hM;rw[hs]at hV;have hC:=uC (E:=E) set (by omega)
 refine tE Tryz.f105 Tryz.ntmps105 (by rw[Tryz.results105]) ?_
 (refine TW.go ?_;simp;repeat' first|intro hc|refine aa.mk ?_|refine aI ?_|refine af ?_ ?_|(refine cP ?_;(first|refine⟨_,hM,?_⟩|refine⟨_,hV,?_⟩);simp)|(refine cF [] 1 ?_;refine⟨_,_,hC,?_⟩;simp))
 exact oW [1] []
theorem NZ {aH:List (Int×Int)}(g:Int):aH.Pairwise (fun a b=>a.2<b.2)→aH.filter (fun x=>decide (x.2<g))=aH.take (dy aH g):=by
 induction aH with
 |nil=>intro _;rfl
 |cons x xs ih=>
  intro h;rw[List.pairwise_cons]at h;by_cases hx:x.2<g
  ·rw[List.filter_cons_of_pos (by simpa using hx),ih h.2]
   unfold dy;rw[List.takeWhile_cons,if_pos (by simpa using hx),List.length_cons,List.take_succ_cons]
  ·rw[List.filter_cons_of_neg (by simpa using hx)]
   unfold dy;rw[List.takeWhile_cons,if_neg (by simpa using hx),List.length_nil,List.take_zero,List.filter_eq_nil_iff]
   intro y hy;have:=h.1 y hy
   simp only[decide_eq_true_eq];omega
theorem Gn {aH:List (Int×Int)}(g:Int):aH.Pairwise (fun a b=>a.2<b.2)→uk aH (dy aH g) g=aH.any fun s=>decide (s.2=g):=by
 induction aH with
 |nil=>intro _;rfl
 |cons x xs ih=>
  intro h;rw[List.pairwise_cons]at h;by_cases hx:x.2<g
  ·have h1:dy (x::xs) g=dy xs g+1:=by
    unfold dy;rw[List.takeWhile_cons,if_pos (by simpa using hx),List.length_cons]
   have h2:uk (x::xs) (dy (x::xs) g) g=uk xs (dy xs g) g:=by rw[h1];rfl
   rw[h2,ih h.2,List.any_cons,show decide (x.2=g)=false by simp;omega,Bool.false_or]
  ·have h1:dy (x::xs) g=0:=by
    unfold dy;rw[List.takeWhile_cons,if_neg (by simpa using hx),List.length_nil]
   rw[h1,List.any_cons,show xs.any (fun s=>decide (s.2=g))=false by
    simp only[List.any_eq_false,decide_eq_true_eq];intro y hy;have:=h.1 y hy
    omega,Bool.or_false]
   rfl
abbrev AN (r:cl) (s:Int) (k:Nat):List (Int×Int):=(r.aH.take k).filter fun x=>decide (x.2<s)
theorem VO {r:cl}{s:Int}{k:Nat}{x:Int×Int}(h:r.aH[k]?=some x):AN r s (k+1)=AN r s k++if x.2<s then[x]else[]:=by
 rw[AN,List.take_add_one,h,List.filter_append];congr 1
 by_cases hx:x.2<s<;>simp[hx]
theorem N1 (r:cl)(t s:Int)(h:jT r 1000)(hv:fe r=true)(hs:bc t s=true):TC Tw.prog E 131 [.a ((aK r).map .r),mU (t,s)] 0 [] (.p [NL (gO r t s).1 0 1,gB (gO r t s).2]) (NM (gO r t s).1):=by
 have hle:jT r 4294967296:=⟨by have:=h.1;omega,by have:=h.2;omega⟩
 have hV:=mF (E:=E) r hle;have hS:=dc (E:=E) t s;have hC:=yI (E:=E) r hle;have hO:=Zq (E:=E) r;have hH:=aeQ (E:=E) r.gs s;have hA:=AL (E:=E) r s;obtain⟨h1, -,h3,h4⟩:=pP hv;have hsa:=Gn s h4;have hfl:=NZ s h4;have NN:=h.2;have hlen:r.aH.length≤maxLen:=by simp only[maxLen];omega
 rw[hv]at hV;rw[hs]at hS;refine tE Tryz.f131 Tryz.ntmps131 (by rw[Tryz.results131]) ?_
 have pE:gO r t s=if cb r.gs s=false∨iM r s=true then(r,false)else(⟨r.m,r.gs,r.aH.take (dy r.aH s)++[(t,s)]++r.aH.drop (dy r.aH s)⟩,true):=by
  unfold gO;rw[hsa];rfl
 cases hh:cb r.gs s
 ·rw[hh]at hH
  rw[show gO r t s=(r,false) by rw[pE,if_pos (.inl hh)]]
  (refine TW.go ?_;simp[aK];repeat' first|intro hc|refine aa.mk ?_|refine aI ?_|refine af ?_ ?_|(refine cP ?_;(first|refine⟨_,hV,?_⟩|refine⟨_,hS,?_⟩|refine⟨_,hO,?_⟩|refine⟨_,hH,?_⟩);simp[aK])|(refine cF [] 2 ?_;refine⟨_,_,hC,?_⟩;simp[aK]))
  exact oW [3,4] []
 ·rw[hh]at hH
  cases ha:iM r s
  ·rw[ha]at hA
   rw[show gO r t s=(⟨r.m,r.gs,r.aH.take (dy r.aH s)++[(t,s)]++r.aH.drop (dy r.aH s)⟩,true) by rw[pE,if_neg (by simp[hh,ha])]]
   (refine TW.go ?_;simp[aK];repeat' first|intro hc|refine aa.mk ?_|refine aI ?_|refine af ?_ ?_|(refine cP ?_;(first|refine⟨_,hV,?_⟩|refine⟨_,hS,?_⟩|refine⟨_,hO,?_⟩|refine⟨_,hH,?_⟩|refine⟨_,hA,?_⟩);simp[aK])|(refine cF [] 2 ?_;refine⟨_,_,hC,?_⟩;simp[aK]))
   refine⟨TW.weaken ⟨[(2,.s (.ptr 0 0)),(3,.s (.ptr 1 0)),(4,.s (.ptr 2 0)),(6,.s (.ptr 3 0)),(38,gR (lq r.aH)),(39,gI .i64 r.aH.length),(40,gI .i64 0)],[(0,.box ((aK r).map .r)),(1,.box [.r (rI t),.r (rI s)]),(2,.box [.r (rI 0),.r .nil,.r .nil]),(3,.box [.r (rI r.m),.own 4,.r .nil]),(4,fU r.gs)],5⟩
    (Wk.own [0,1,2,5,3] [] (by simp) (by simp) (by simp[aK]) (by simp) (by simp)) (TW.nil 36 2 [(2,.s (.ptr 0 0)),(3,.s (.ptr 1 0)),(4,.s (.ptr 2 0)),(6,.s (.ptr 3 0)),(38,gR (lq r.aH)),(39,gI .i64 r.aH.length),(40,gI .i64 0)] [(0,.box ((aK r).map .r)),(1,.box [.r (rI t),.r (rI s)]),(2,.box [.r (rI 0),.r .nil,.r .nil]),(3,.box [.r (rI r.m),.own 4,.own 5]),(4,fU r.gs)] (Nu.get ?_))⟩
   refine tL (fun(k:Nat)=>⟨[(2,.s (.ptr 0 0)),(3,.s (.ptr 1 0)),(4,.s (.ptr 2 0)),(6,.s (.ptr 3 0)),(38,gR (lq r.aH)),(39,gI .i64 r.aH.length),(40,gI .i64 (k:Nat))],[(0,.box ((aK r).map .r)),(1,.box [.r (rI t),.r (rI s)]),(2,.box [.r (rI 0),.r .nil,.r .nil]),(3,.box [.r (rI r.m),.own 4,.own 5]),(4,fU r.gs),(5,R9 (AN r s k))],6⟩) (fun k=>k≤r.aH.length) (fun k=>r.aH.length-k) 0 (by omega)
    (kO [0,1,2,3,4,5] []) fun k hk=>?_
   by_cases ak:k<r.aH.length
   ·have he:r.aH[k]?=some r.aH[k]:=List.getElem?_eq_getElem ak
    have an:(k:Int)<(r.aH.length:Int):=by omega
    have aE:=wrap_add ak hlen;have dX:=VO (s:=s) he;have p9:(AN r s k).length≤k:=Nat.le_trans (List.length_filter_le _ _) (by simp;omega)
    generalize r.aH[k]=x at*;generalize AN r s k=L at*;by_cases hx:x.2<s
    ·rw[if_pos hx]at dX
     (refine TW.go ?_;simp[an,he,aE,hx,eE,maxLen];repeat' first|intro hc|refine aa.mk ?_|refine aI ?_|refine af ?_ ?_)
     exact⟨k+1,by omega,by omega,Wk.own [0,1,2,3,4,8] [] (by simp) (by simp) (by simp[dX,eE]) (by simp) (by simp)⟩
    ·rw[if_neg hx]at dX
     (refine TW.go ?_;simp[an,he,aE,hx,eE,maxLen];repeat' first|intro hc|refine aa.mk ?_|refine aI ?_|refine af ?_ ?_)
     exact⟨k+1,by omega,by omega,Wk.own [0,1,2,3,4,5] [] (by simp) (by simp) (by simp[dX]) (by simp) (by simp)⟩
   ·obtain rfl:k=r.aH.length:=by omega
    have hL:AN r s r.aH.length=r.aH.take (dy r.aH s):=by rw[AN,List.take_length,hfl]
    have hn:=Zd r.aH s;have YI:(r.aH.take (dy r.aH s)).length=dy r.aH s:=by rw[List.length_take];omega
    rw[hL];generalize dy r.aH s=n at*;generalize r.aH.take n=L at*;have oa:IntKind.i64.wrap (n:Int)=n:=aQ (by omega) (by omega)
    have hnI:(n:Int)≤r.aH.length:=by omega
    (refine TW.go ?_;simp[YI,oa,hn,hnI,aK,maxLen];repeat' first|intro hc|refine aa.mk ?_|refine aI ?_|refine af ?_ ?_)
    refine aT.own [4,8] [] (by simp;rfl) (by simp[eE]) (by simp) (by simp) (by simp[eE]) (by simp)
  ·rw[ha]at hA
   rw[show gO r t s=(r,false) by rw[pE,if_pos (.inr ha)]]
   (refine TW.go ?_;simp[aK];repeat' first|intro hc|refine aa.mk ?_|refine aI ?_|refine af ?_ ?_|(refine cP ?_;(first|refine⟨_,hV,?_⟩|refine⟨_,hS,?_⟩|refine⟨_,hO,?_⟩|refine⟨_,hH,?_⟩|refine⟨_,hA,?_⟩);simp[aK])|(refine cF [] 2 ?_;refine⟨_,_,hC,?_⟩;simp[aK]))
   exact oW [3,4] []
end Go.Proofs.YtabjbdnokpjipaaGreat.T
namespace Go.Proofs.YtabjbdnokpjipaaGreat.T
open Go Go.RowKit
set_option maxRecDepth 100000
set_option maxHeartbeats 4000000
variable {E:List PanicEntry→World→Prop}
theorem I2 (xs:List Bool)(h:xs.length≤4294967296):TC Tw.prog E 60 [gR (rS xs)] 0 [] (.s (.own 0)) [(0,mh xs)]:=by
 refine tE Tryz.f60 Tryz.ntmps60 (by rw[Tryz.results60]) ?_
 (refine TW.go ?_;simp[maxLen];repeat' first|intro hc|refine aa.mk ?_|refine aI ?_|refine af ?_ ?_)
 exact oW [1] []
theorem AO (xs:List dE)(h:xs.length≤4294967296):TC Tw.prog E 61 [gR (Du xs)] 0 [] (.s (.own 0)) [(0,qF xs)]:=by
 refine tE Tryz.f61 Tryz.ntmps61 (by rw[Tryz.results61]) ?_
 (refine TW.go ?_;simp[maxLen];repeat' first|intro hc|refine aa.mk ?_|refine aI ?_|refine af ?_ ?_)
 exact oW [1] []
abbrev AP (lk:Int) (w:aA):List (Nat×az):=[(0,.box [.r (.v (.int .i32 lk)),.r (.v (.int .u32 0)),.own 1,.own 2,.own 3,.own 4,.own 5]),(1,rZ w.aj),(2,fp w.ae),(3,r_ w.rounds),(4,mh w.aP),(5,qF w.aX)]
abbrev N2 (lk:Int) (w:aA):List (Nat×az):=[(0,.box [.r (.v (.int .i32 lk)),.r (.v (.int .u32 0)),.own 6,.own 7,.own 8,.own 9,.own 10]),(6,rZ w.aj),(7,fp w.ae),(8,r_ w.rounds),(9,mh w.aP),(10,qF w.aX)]
def xo (ps:List dE)(p:dE):List dE:=if ps.length<16 then ps++[p]else ps
def N3 (ps:List dE)(f:Int→dE)(gs:List Int):List dE:=gs.foldl (fun ps g=>xo ps (f g)) ps
theorem Gp (f:Int→dE):∀(gs:List Int) (w:aA),gs.foldl (fun w g=>dg w (f g)) w=⟨w.aj,w.ae,w.rounds,w.aP,N3 w.aX f gs⟩
 |[],w=>rfl
 |g::gs,w=>by
  rw[List.foldl_cons,Gp f gs];unfold N3;rw[List.foldl_cons];unfold dg xo;split<;>rfl
theorem N4 (f:Int→dE):∀(gs:List Int) (ps:List dE),ps.length≤16→(N3 ps f gs).length≤16
 |[],_,h=>h
 |g::gs,ps,h=>N4 f gs _ (by show(xo ps (f g)).length≤16;unfold xo;split;(simp;omega);exact h)
abbrev I3:GV:= .s (.ptr 0 2)
theorem m_ (w:aA)(lk kd m t s:Int)(gs:List Int)(hl:gs.length≤4294967296)(hn:w.aX.length≤16):TC Tw.prog E 106 [I3,gI .i64 kd,gI .i64 m,gR (aY gs),mU (t,s)] 6 (AP lk w) (.p [])
  (N2 lk (gs.foldl (fun w g=>dg w ⟨kd,m,g,t,s⟩) w)):=by
 rw[Gp (fun g=>⟨kd,m,g,t,s⟩)]
 have hlen:gs.length≤maxLen:=by simp only[maxLen];omega
 refine tE Tryz.f106 Tryz.ntmps106 (by rw[Tryz.results106]) ?_ (hfit:=(Fits.of (by simp[dw,az.live,List.range_succ]) (by simp) (by simp)))
 (refine TW.go ?_;simp;repeat' first|intro hc|refine aa.mk ?_|refine aI ?_|refine af ?_ ?_)
 refine tL (fun(k:Nat)=>⟨[(0,I3),(1,gI .i64 kd),(2,gI .i64 m),(9,.s (.ptr 11 0)),(12,gR (aY gs)),(13,gI .i64 gs.length),(14,gI .i64 (k:Nat))],[(0,.box [.r (.v (.int .i32 lk)),.r (.v (.int .u32 0)),.own 6,.own 7,.own 8,.own 9,.own 10]),(6,rZ w.aj),(7,fp w.ae),(8,r_ w.rounds),(9,mh w.aP),(10,qF (N3 w.aX (fun g=>⟨kd,m,g,t,s⟩) (gs.take k))),(11,.box [.r (rI t),.r (rI s)])],12⟩) (fun k=>k≤gs.length) (fun k=>gs.length-k) 0 (by omega) (Wk.own [1,2,3,4,5,6] [] (by simp) (by simp) (by simp[N3]) (by simp) (by simp)) fun k hk=>?_
 by_cases ak:k<gs.length
 ·have he:gs[k]?=some gs[k]:=List.getElem?_eq_getElem ak
  have an:(k:Int)<(gs.length:Int):=by omega
  have aE:=wrap_add ak hlen;have dX:N3 w.aX (fun g=>⟨kd,m,g,t,s⟩) (gs.take (k+1))=xo (N3 w.aX (fun g=>⟨kd,m,g,t,s⟩) (gs.take k)) ⟨kd,m,gs[k],t,s⟩:=dr _ _ he
  have kP:=N4 (fun g=>⟨kd,m,g,t,s⟩) (gs.take k) w.aX hn
  generalize N3 w.aX (fun g=>⟨kd,m,g,t,s⟩) (gs.take k)=ps at*
  generalize gs[k]=g at*;by_cases hp:ps.length<16
  ·have hpI:(ps.length:Int)<16:=by omega
   rw[xo,if_pos hp]at dX;(refine TW.go ?_;simp[an,he,hpI,aE,maxLen];repeat' first|intro hc|refine aa.mk ?_|refine aI ?_|refine af ?_ ?_)
   exact⟨k+1,by omega,by omega,Wk.own [6,7,8,9,13,11] [] (by simp) (by simp) (by simp[dX,cd]) (by simp) (by simp)⟩
  ·have hpI:¬(ps.length:Int)<16:=by omega
   rw[xo,if_neg hp]at dX;(refine TW.go ?_;simp[an,he,hpI,aE,maxLen];repeat' first|intro hc|refine aa.mk ?_|refine aI ?_|refine af ?_ ?_)
   exact⟨k+1,by omega,by omega,Wk.own [6,7,8,9,10,11] [] (by simp) (by simp) (by simp[dX]) (by simp) (by simp)⟩
 ·obtain rfl:k=gs.length:=by omega
  rw[List.take_length];(refine TW.go ?_;simp;repeat' first|intro hc|refine aa.mk ?_|refine aI ?_|refine af ?_ ?_)
  exact oW [6,7,8,9,10] []
theorem yJ (w:aA)(h:jw w):TC Tw.prog E 36 [gW w] 0 [] wO (wS w):=by
 have vW:=h.l_;have Bn:=h.rl;have kl:=h.sl;have kP:=h.nl;have hlen:w.aj.length≤maxLen:=by simp only[maxLen];omega
 have nu:w.rounds.length≤maxLen:=by simp only[maxLen];omega
 refine tE Tryz.f36 Tryz.ntmps36 (by rw[Tryz.results36]) ?_
 (refine TW.go ?_;simp[wT,maxLen];repeat' first|intro hc|refine aa.mk ?_|refine aI ?_|refine af ?_ ?_|(refine cF [] 1 ?_;refine⟨_,_,v_ w.ae h.sys,?_⟩;simp[wT,maxLen])|(refine cF [] 1 ?_;refine⟨_,_,I2 w.aP (by omega),?_⟩;simp[wT,maxLen])|(refine cF [] 1 ?_;refine⟨_,_,AO w.aX (by omega),?_⟩;simp[wT,maxLen]))
 refine⟨TW.weaken ⟨[(1,.s (.ptr 0 0)),(2,.s (.ptr 1 0)),(3,.s (.ptr 2 0)),(19,gR (kz w.aj)),(20,gI .i64 w.aj.length),(21,gI .i64 0)],[(0,.box ((wT w).map .r)),(1,.box [.r .nil,.r .nil,.r .nil,.r .nil,.r .nil]),(2,.box [.r .nil,.own 3,.r .nil,.own 4,.own 5]),(3,fp w.ae),(4,mh w.aP),(5,qF w.aX)],6⟩
  (Wk.own [0,1,5,2,3,4] [] (by simp) (by simp) (by simp[wT]) (by simp) (by simp)) ?_⟩
 refine TW.nil 45 1 [(1,.s (.ptr 0 0)),(2,.s (.ptr 1 0)),(3,.s (.ptr 2 0)),(19,gR (kz w.aj)),(20,gI .i64 w.aj.length),(21,gI .i64 0)] [(0,.box ((wT w).map .r)),(1,.box [.r .nil,.r .nil,.r .nil,.r .nil,.r .nil]),(2,.box [.own 6,.own 3,.r .nil,.own 4,.own 5]),(3,fp w.ae),(4,mh w.aP),(5,qF w.aX)] ?_;refine TW.nil 66 3 [(1,.s (.ptr 0 0)),(2,.s (.ptr 1 0)),(3,.s (.ptr 2 0)),(19,gR (kz w.aj)),(20,gI .i64 w.aj.length),(21,gI .i64 0)] [(6,rZ []),(0,.box ((wT w).map .r)),(1,.box [.r .nil,.r .nil,.r .nil,.r .nil,.r .nil]),(2,.box [.own 6,.own 3,.own 7,.own 4,.own 5]),(3,fp w.ae),(4,mh w.aP),(5,qF w.aX)] (Nu.get ?_);refine tL (fun(k:Nat)=>⟨[(1,.s (.ptr 0 0)),(2,.s (.ptr 1 0)),(3,.s (.ptr 2 0)),(19,gR (kz w.aj)),(20,gI .i64 w.aj.length),(21,gI .i64 (k:Nat))],[(0,.box ((wT w).map .r)),(1,.box [.r .nil,.r .nil,.r .nil,.r .nil,.r .nil]),(2,.box [.own 6,.own 3,.own 7,.own 4,.own 5]),(3,fp w.ae),(4,mh w.aP),(5,qF w.aX),(6,rZ (w.aj.take k)),(7,r_ [])],8⟩) (fun k=>k≤w.aj.length) (fun k=>w.aj.length-k) 0 (by omega)
  (Wk.own [0,1,2,3,4,5,6,7] [] (by simp) (by simp) (by simp[wT]) (by simp) (by simp)) fun k hk=>?_
 by_cases ak:k<w.aj.length
 ·have he:w.aj[k]?=some w.aj[k]:=List.getElem?_eq_getElem ak
  have iy:=h.set _ (List.getElem_mem ak);have an:(k:Int)<(w.aj.length:Int):=by omega
  have aE:=wrap_add ak hlen;have EY:k≤12:=by omega
  generalize w.aj[k]=S at he iy;obtain⟨-,hS5, -⟩:=iy;have Jo:(List.take k (w.aj.map fun s=>[aY s])).length≤12:=by simp;omega
  (refine TW.go ?_;simp[an,he,aE,maxLen];repeat' first|intro hc|refine aa.mk ?_|refine aI ?_|refine af ?_ ?_|(refine cF [] 1 ?_;refine⟨_,_,uC S (by omega),?_⟩;simp[an,he,aE,maxLen]))
  exact⟨k+1,by omega,by omega,Wk.own [0,1,2,3,4,5,10,7] [] (by simp) (by simp) (by simp[wT,fl he]) (by simp) (by simp)⟩
 ·obtain rfl:k=w.aj.length:=by omega
  (refine TW.go ?_;simp[wT];repeat' first|intro hc|refine aa.mk ?_|refine aI ?_|refine af ?_ ?_)
  refine tL (fun(k:Nat)=>⟨[(1,.s (.ptr 0 0)),(2,.s (.ptr 1 0)),(3,.s (.ptr 2 0)),(34,gR (zx w.rounds)),(35,gI .i64 w.rounds.length),(36,gI .i64 (k:Nat))],[(0,.box ((wT w).map .r)),(1,.box [.r .nil,.r .nil,.r .nil,.r .nil,.r .nil]),(2,.box [.own 6,.own 3,.own 7,.own 4,.own 5]),(3,fp w.ae),(4,mh w.aP),(5,qF w.aX),(6,rZ w.aj),(7,r_ (w.rounds.take k))],8⟩) (fun k=>k≤w.rounds.length) (fun k=>w.rounds.length-k) 0 (by omega)
   (Wk.own [0,1,2,3,4,5,6,7] [] (by simp) (by simp) (by simp[wT]) (by simp) (by simp)) fun k hk=>?_
  by_cases ak:k<w.rounds.length
  ·have he:w.rounds[k]?=some w.rounds[k]:=List.getElem?_eq_getElem ak
   have tX:=h.oU _ (List.getElem_mem ak);have an:(k:Int)<(w.rounds.length:Int):=by omega
   have aE:=wrap_add ak nu;have EY:k≤12:=by omega
   generalize w.rounds[k]=r at he tX;have hr:jT r 4294967296:=⟨by have:=tX.2.1;omega,by have:=tX.2.2;omega⟩
   have htr:(List.take k (w.rounds.map aK)).length≤12:=by simp;omega
   have hC:=yI (E:=E) r hr;(refine TW.go ?_;simp[an,he,aK,aE,maxLen];repeat' first|intro hc|refine aa.mk ?_|refine aI ?_|refine af ?_ ?_|(refine cF [] 2 ?_;refine⟨_,_,hC,?_⟩;simp[an,he,aK,aE,maxLen]))
   exact⟨k+1,by omega,by omega,Wk.own [0,1,2,3,4,5,6,12] [] (by simp) (by simp) (by simp[wT,fl he,aK]) (by simp) (by simp)⟩
  ·obtain rfl:k=w.rounds.length:=by omega
   (refine TW.go ?_;simp[wT];repeat' first|intro hc|refine aa.mk ?_|refine aI ?_|refine af ?_ ?_)
   exact oW [6,3,7,4,5] []
abbrev abP (m g:Int):GV:= .a [.r (rI m),.r (rI g)]
abbrev Si (m t s:Int):GV:= .a [.r (rI m),.r (rI t),.r (rI s)]
abbrev abQ (m g t s:Int):GV:= .a [.r (rI m),.r (rI g),.r (rI t),.r (rI s)]
theorem Gq (m g:Int):TC Tw.prog E 193 [abP m g] 0 [] (gI .i64 m) []:=by
 refine tE Tryz.f193 Tryz.ntmps193 (by rw[Tryz.results193]) ?_
 (refine TW.go ?_;simp;repeat' first|intro hc|refine aa.mk ?_|refine aI ?_|refine af ?_ ?_)
 exact oW [] []
theorem uD (m t s:Int):TC Tw.prog E 194 [Si m t s] 0 [] (gI .i64 m) []:=by
 refine tE Tryz.f194 Tryz.ntmps194 (by rw[Tryz.results194]) ?_
 (refine TW.go ?_;simp;repeat' first|intro hc|refine aa.mk ?_|refine aI ?_|refine af ?_ ?_)
 exact oW [] []
theorem Gr (m g t s:Int):TC Tw.prog E 195 [abQ m g t s] 0 [] (gI .i64 m) []:=by
 refine tE Tryz.f195 Tryz.ntmps195 (by rw[Tryz.results195]) ?_
 (refine TW.go ?_;simp;repeat' first|intro hc|refine aa.mk ?_|refine aI ?_|refine af ?_ ?_)
 exact oW [] []
def xp (p:dE):GV:=if p.k=1 then .fD 161 (abP p.m p.g)else if p.k=2 then .fD 163 (Si p.m p.t p.s)else .fD 165 (abQ p.m p.g p.t p.s)
theorem VP (p:dE):TC Tw.prog E 108 [gP p] 0 [] (xp p) []:=by
 refine tE Tryz.f108 Tryz.ntmps108 (by rw[Tryz.results108]) ?_
 unfold xp;by_cases k1:p.k=1
 ·rw[if_pos k1]
  (refine TW.go ?_;simp[cd,k1];repeat' first|intro hc|refine aa.mk ?_|refine aI ?_|refine af ?_ ?_)
  exact oW [] []
 ·rw[if_neg k1]
  by_cases k2:p.k=2
  ·rw[if_pos k2]
   (refine TW.go ?_;simp[cd,k2];repeat' first|intro hc|refine aa.mk ?_|refine aI ?_|refine af ?_ ?_)
   exact oW [] []
  ·rw[if_neg k2]
   (refine TW.go ?_;simp[cd,k1,k2];repeat' first|intro hc|refine aa.mk ?_|refine aI ?_|refine af ?_ ?_)
   exact oW [] []
end Go.Proofs.YtabjbdnokpjipaaGreat.T
namespace Go.Proofs.YtabjbdnokpjipaaGreat.T
open Go Go.RowKit
theorem c7 (g:aF)(m:Int):aU g m=(g.pend++g.done).find? (fun e=>decide (e.m=m)):=by
 unfold aU;rw[List.find?_append]
 cases g.pend.find? (fun e=>decide (e.m=m))<;>rfl
theorem Y'.nq {g:aF}(k:Y' g):(g.pend++g.done).Pairwise (fun a b=>a.m≠b.m):=List.pairwise_append.2 ⟨k.pl.nq,k.dl.nq,fun a ha b hb=>k.dp b hb a ha⟩
theorem fg {m:Int}{e:aB}:∀{L:List aB},L.Pairwise (fun a b=>a.m≠b.m)→(L.find? (fun e=>decide (e.m=m))=some e↔e∈L∧e.m=m)
 |[],_=>by simp
 |x::L,h=>by
  rw[List.pairwise_cons]at h;by_cases hx:x.m=m
  ·rw[List.find?_cons_of_pos (by simpa using hx)]
   constructor
   ·intro e1;cases e1;exact⟨by simp,hx⟩
   ·rintro⟨h1,h2⟩
    rcases List.mem_cons.1 h1 with rfl|h1
    ·rfl
    ·exact absurd (hx.trans h2.symm) (h.1 e h1)
  ·rw[List.find?_cons_of_neg (by simpa using hx),fg h.2]
   constructor
   ·rintro⟨h1,h2⟩;exact⟨by simp[h1],h2⟩
   ·rintro⟨h1,h2⟩
    rcases List.mem_cons.1 h1 with rfl|h1
    ·exact absurd h2 hx
    ·exact⟨h1,h2⟩
theorem sE {L K:List aB}(h:L.Pairwise (fun a b=>a.m≠b.m))(p:L.Perm K)(m:Int):L.find? (fun e=>decide (e.m=m))=K.find? (fun e=>decide (e.m=m)):=by
 have h':K.Pairwise (fun a b=>a.m≠b.m):=(p.pairwise_iff (fun h=>Ne.symm h)).1 h
 apply Option.ext
 intro e;rw[fg h,fg h',p.mem_iff]
theorem qK {g:aF}{m:Int}:cc g m=false↔g.pend.find? (fun e=>decide (e.m=m))=none∧g.done.find? (fun e=>decide (e.m=m))=none:=by
 unfold cc aU
 cases g.pend.find? (fun e=>decide (e.m=m))<;>simp
theorem kD {g:aF}{m:Int}(h:cc g m=true):(aD g m).1=g:=by
 unfold aD;split
 ·split<;>rfl
 ·rename_i h1
  split
  ·rfl
  ·rename_i h2
   rw[qK.2 ⟨h1,h2⟩]at h;cases h
theorem qL {g:aF}{m:Int}(h:cc g m=false):(aD g m).1=g∨(aD g m).1=⟨g.id,g.clock+1,g.pend++[⟨m,g.clock+1,g.id,false⟩],g.done⟩∧aU (aD g m).1 m=some ⟨m,g.clock+1,g.id,false⟩:=by
 obtain⟨h1,h2⟩:=qK.1 h;unfold aD;rw[h1,h2];simp only
 split
 ·exact .inl rfl
 ·refine .inr ⟨rfl,?_⟩
  unfold aU;simp only[List.find?_append,h1,Option.none_or];simp
theorem AQ {g:aF}{m:Int}(h:cc (aD g m).1 m=true)(hf:(aV (aD g m).1 m).f=true):(aD g m).1=g∧cc g m=true:=by
 cases hs:cc g m
 ·rcases qL hs with e|⟨-,e⟩
  ·rw[e,hs]at h;cases h
  ·rw[aV,e]at hf;cases hf
 ·exact⟨kD hs,rfl⟩
theorem uE {g:aF}{m k:Int}(h:k≠m):aU (aD g m).1 k=aU g k∧(aD g m).1.done=g.done:=by
 cases hs:cc g m
 ·rcases qL hs with e|⟨e, -⟩
  ·rw[e];exact⟨rfl,rfl⟩
  ·rw[e]
   refine⟨?_,rfl⟩;unfold aU;simp only[List.find?_append];have:¬m=k:=fun e=>h e.symm
   simp[this]
 ·rw[kD hs];exact⟨rfl,rfl⟩
theorem xq {g:aF}{m t s:Int}(h:bB g=true):(bn g m t s)=(g,[],false)∨∃(e:aB) (rest pre:List aB),e.m=m∧e.f=false∧aU g m=some e∧(g.pend++g.done).Perm (e::rest)∧
  ((bn g m t s).1.pend++(bn g m t s).1.done).Perm (⟨m,t,s,true⟩::rest)∧(bn g m t s).1.done=g.done++pre∧(bn g m t s).2.1=pre.map aB.m∧(bn g m t s).2.2=true:=by
 rcases ly g m t s with e|⟨j,e,he,o_,VA,zq,hl,hs,eq⟩
 ·exact .inl e
 ·right
  obtain⟨pre,p1,p2,p3, -, -⟩:=zB (fo (g.pend.eraseIdx j) m t s) g.done [];have hj:j<g.pend.length:=(List.getElem?_eq_some_iff.1 he).1
  refine⟨e,g.pend.eraseIdx j++g.done,pre,o_,VA,by rw[aU,zq],?_,?_,by rw[eq];exact p2,by rw[eq];simpa using p3,by rw[eq]⟩
  ·rw[←List.cons_append]
   refine List.Perm.append_right _ ?_;have h1:g.pend=g.pend.take j++e::g.pend.drop (j+1):=by
    obtain⟨_,rfl⟩:=List.getElem?_eq_some_iff.1 he;rw[←List.drop_eq_getElem_cons hj,List.take_append_drop]
   rw[List.eraseIdx_eq_take_drop_succ];conv=>lhs;rw[h1]
   exact List.perm_middle
  ·rw[eq]
   simp only[p2];have hp:=Dz (g.pend.eraseIdx j) m t s;rw[p1]at hp;rw[←List.cons_append];refine List.Perm.trans ?_ (List.Perm.append_right g.done hp);generalize(eG (fo (g.pend.eraseIdx j) m t s) g.done []).1=A;rw[←List.append_assoc];refine List.perm_append_comm.trans ?_;rw[←List.append_assoc]
theorem N5 {g:aF}{m:Int}(h:(aV g m).f=true)(hs:cc g m=true)(t s:Int):bn g m t s=(g,[],false):=by
 rcases ly g m t s with e|⟨j,e, -, -,VA,zq, -⟩
 ·exact e
 ·rw[aV,aU,zq]at h
  simp only[Option.getD_some]at h;rw[VA]at h;cases h
theorem sF {g:aF}{m k t s:Int}(h:bB g=true)(hk:k≠m)(hm:bj m=true)(hs:bc t s=true):aU (bn g m t s).1 k=aU g k∧∃pre,(bn g m t s).1.done=g.done++pre:=by
 have h':=u9 (t:=t) (s:=s) h hm hs;rcases xq (m:=m) (t:=t) (s:=s) h with e|⟨e,rest,pre,o_, -, -,p1,p2,p3, -⟩
 ·rw[e];exact⟨rfl,[],by simp⟩
 ·refine⟨?_,pre,p3⟩
  rw[c7,c7,sE (cv.1 h').nq p2,sE (cv.1 h).nq p1,List.find?_cons_of_neg (by simpa using fun e=>hk e.symm),List.find?_cons_of_neg (by simp[o_];exact fun e=>hk e.symm)]
theorem yK {g:aF}{m t s:Int}(h:bB g=true)(hm:bj m=true)(hs:bc t s=true):bn g m t s=(g,[],false)∨aU (bn g m t s).1 m=some ⟨m,t,s,true⟩:=by
 have h':=u9 (t:=t) (s:=s) h hm hs;rcases xq (m:=m) (t:=t) (s:=s) h with e|⟨e,rest,pre,o_, -, -,p1,p2,p3, -⟩
 ·exact .inl e
 ·right
  rw[c7,sE (cv.1 h').nq p2,List.find?_cons_of_pos (by simp)]
structure Rec (gs:List aF) (set:List Int) (m:Int) (s:Int×Int) (out:List aF):Prop where
 len:out.length=5
 ok:∀i:Nat,i<5→bB (gAt out i)=true
 off:∀i:Nat,i<5→(i:Int)∉set→gAt out i=gAt gs i
 on:∀i:Nat,i<5→(i:Int)∈set→gAt out i=(bn (aD (gAt gs i) m).1 m s.1 s.2).1
 st:∀g∈set,cc (gAt out g.toNat) m=true∧(aV (gAt out g.toNat) m).f=true∧((aV (gAt out g.toNat) m).t,(aV (gAt out g.toNat) m).g)=s
 keep:∀g∈set,cc (gAt gs g.toNat) m=true→aO s.1 s.2 (aV (gAt gs g.toNat) m).t (aV (gAt gs g.toNat) m).g=false∧((aV (gAt gs g.toNat) m).f=true→((aV (gAt gs g.toNat) m).t,(aV (gAt gs g.toNat) m).g)=s)
 other:∀i:Nat,i<5→∀k,k≠m→aU (gAt out i) k=aU (gAt gs i) k
 pre:∀i:Nat,i<5→∃p,(gAt out i).done=(gAt gs i).done++p
theorem Zs {gs:List aF}{set:List Int}{m:Int}(h:mi gs set m=true)(ha:(eH gs set m).2=true):∃s,bc s.1 s.2=true∧Rec gs set m s (eH gs set m).1:=by
 have h0:=h;simp only[mi,Bool.and_eq_true]at h0;obtain⟨⟨h1,h2⟩,hm⟩:=h0;obtain⟨cf,hl5,hr⟩:=eY h2;have N6:=vb h2;have h5:=oX h1;have hv:=NV h1;obtain⟨p5,pA⟩:=uA m hr N6 h5;have pv:=pO hm hr h5 hv;have aZ:(aS (aN gs m set) set m).2=true:=by
  cases hx:(aS (aN gs m set) set m).2
  ·unfold eH at ha;rw[hx]at ha;cases ha
  ·rfl
 have yG:=yF pv p5 hr cf aZ;have hA:eH gs set m=(bK (aN gs m set) m (aS (aN gs m set) set m).1 set,dF (bK (aN gs m set) m (aS (aN gs m set) set m).1 set) m set):=by
  unfold eH;rw[if_pos aZ]
 rw[hA]at ha⊢;have Bp:aS (aN gs m set) set m=((aS (aN gs m set) set m).1,true):=by rw[←aZ]
 generalize(aS (aN gs m set) set m).1=s at*;obtain⟨f5,fA⟩:=BP m s hr N6 p5;have fv:=sw hm yG hr p5 pv;have Zt:∀i:Nat,i<5→bB (gAt gs i)=true:=fun i hi=>DK h1 hi
 have on:∀i:Nat,i<5→(i:Int)∈set→gAt (bK (aN gs m set) m s set) i=(bn (aD (gAt gs i) m).1 m s.1 s.2).1:=fun i hi cH=>by rw[fA i hi,if_pos cH,pA i hi,if_pos cH]
 have off:∀i:Nat,i<5→(i:Int)∉set→gAt (bK (aN gs m set) m s set) i=gAt gs i:=fun i hi cH=>by rw[fA i hi,if_neg cH,pA i hi,if_neg cH]
 have pAt:∀g∈set,gAt (aN gs m set) g.toNat=(aD (gAt gs g.toNat) m).1:=fun g hg=>by
  have:=hr g hg
  rw[pA g.toNat (by omega),if_pos (by rw[show((g.toNat:Nat):Int)=g by omega];exact hg)]
 have oAt:∀g∈set,gAt (bK (aN gs m set) m s set) g.toNat=(bn (aD (gAt gs g.toNat) m).1 m s.1 s.2).1:=fun g hg=>by
  have:=hr g hg
  exact on g.toNat (by omega) (by rw[show((g.toNat:Nat):Int)=g by omega];exact hg)
 have keep:∀g∈set,cc (gAt gs g.toNat) m=true→aO s.1 s.2 (aV (gAt gs g.toNat) m).t (aV (gAt gs g.toNat) m).g=false∧((aV (gAt gs g.toNat) m).f=true→((aV (gAt gs g.toNat) m).t,(aV (gAt gs g.toNat) m).g)=s):=by
  intro g hg hk;have Gs:=Bp;unfold aS at Gs;split at Gs
  ·rename_i s' he
   cases Gs;obtain⟨a,Zu,a1,a2,a3⟩:=su he;rw[pAt a Zu]at a1 a2 a3;obtain⟨e1,e2⟩:=AQ a1 a2;rw[e1]at a1 a2 a3;have hp:=VI h1 hm (i:=a.toNat) (k:=g.toNat) (by have:=hr a Zu;omega) (by have:=hr g hg;omega)
   simp only[zu,a1,a2,hk]at hp
   cases hf:(aV (gAt gs g.toNat) m).f
   ·simp[hf]at hp
    refine⟨?_,fun h=>by cases h⟩
    rw[a3];exact hp
   ·simp[hf]at hp
    refine⟨?_,fun _=>?_⟩
    ·rw[a3];simp only;rw[hp.1,hp.2];exact nT _ _
    ·rw[a3,hp.1,hp.2]
  ·rename_i l he
   split at Gs
   ·cases Gs
   ·rename_i hlen
    cases Gs;obtain⟨-,k2,k3,k4⟩:=aeT he;have hG:=kD hk;have:=k2 g hg
    rw[pAt g hg,hG]at this;obtain⟨e1,e2⟩:=this hk;refine⟨?_,fun h=>by rw[e1]at h;cases h⟩
    rcases l with _|⟨x,xs⟩
    ·cases e2
    ·obtain⟨m1,m2,m3⟩:=yD x xs
     rcases List.mem_cons.1 e2 with h|h
     ·subst h;exact m1
     ·exact m2 _ h
 refine⟨s,yG,f5,fun i hi=>fv _ (mX (by omega)),off,on,fun g hg=>?_,keep,fun i hi k hk=>?_,fun i hi=>?_⟩
 ·have gN:cc (gAt (bK (aN gs m set) m s set) g.toNat) m=true∧(aV (gAt (bK (aN gs m set) m s set) g.toNat) m).f=true:=by
   have:=List.all_eq_true.1 ha g hg
   simpa using this
  refine⟨gN.1,gN.2,?_⟩;have zo:=hr g hg;have hP:=mZ (Zt g.toNat (by omega)) hm
  rw[oAt g hg]at gN⊢;rcases yK hP hm yG with e|e
  ·rw[e]at gN⊢
   simp only at gN⊢
   obtain⟨e1,e2⟩:=AQ gN.1 gN.2;rw[e1]at gN⊢;exact(keep g hg e2).2 gN.2
  ·rw[aV,e];rfl
 ·by_cases cH:(i:Int)∈set
  ·rw[on i hi cH,(sF (mZ (Zt i hi) hm) hk hm yG).1,(uE hk).1]
  ·rw[off i hi cH]
 ·by_cases cH:(i:Int)∈set
  ·rw[on i hi cH]
   obtain⟨p,hp⟩:=(sF (k:=m+1) (mZ (Zt i hi) hm) (by omega) hm yG).2
   exact⟨p,by rw[hp,(uE (k:=m+1) (by omega)).2]⟩
  ·rw[off i hi cH];exact⟨[],by simp⟩
theorem Q8 {gs:List aF}{set:List Int}{m:Int}(cf:set≠[])(hr:cm set)(N6:set.Pairwise (·<·))(h5:gs.length=5)(h:∀g∈set,cc (gAt gs g.toNat) m=true∧(aV (gAt gs g.toNat) m).f=true):eH gs set m=(gs,true):=by
 obtain⟨p5,pA⟩:=uA m hr N6 h5;have oq:∀i:Nat,(i:Int)∈set→cc (gAt gs i) m=true∧(aV (gAt gs i) m).f=true:=fun i hi=>by simpa using h _ hi
 have hP:aN gs m set=gs:=NU p5 h5 fun i hi=>by
  rw[pA i hi];split
  ·rename_i hm;exact kD (oq i hm).1
  ·rfl
 have hS:(aS gs set m).2=true:=by
  rcases set with _|⟨x,set⟩
  ·exact absurd rfl cf
  ·obtain⟨a,b⟩:=h x (List.mem_cons_self ..)
   unfold aS;rw[iX,a,b];rfl
 have hA:eH gs set m=(bK gs m (aS gs set m).1 set,dF (bK gs m (aS gs set m).1 set) m set):=by
  unfold eH;rw[hP,if_pos hS]
 rw[hA];generalize(aS gs set m).1=s;obtain⟨f5,fA⟩:=BP m s hr N6 h5;have hF:bK gs m s set=gs:=NU f5 h5 fun i hi=>by
  rw[fA i hi];split
  ·rename_i hm;rw[N5 (oq i hm).2 (oq i hm).1]
  ·rfl
 rw[hF];refine Prod.ext rfl ?_;show dF gs m set=true
 exact List.all_eq_true.2 fun g hg=>by simpa using h g hg
end Go.Proofs.YtabjbdnokpjipaaGreat.T
