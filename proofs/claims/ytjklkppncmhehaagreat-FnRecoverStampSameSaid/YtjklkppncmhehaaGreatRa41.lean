/-
What is proved: where a tree says 'nil', rows of one's own without an element serve as well ('TW.nil'). No condition. the program's new round and its further stamp do to trees what the reference's do. Conditions: those that each states. the law that recovery finds what the sender finds, over trees: it answers true, or escapes. No condition but that the code is bytes. how a code that a law takes reads: a slice of bytes. No program's text is walked. a law whose lone run over the second program answers true over trees, or escapes, does so for every code that came in ('law_of_tree'). Conditions: those that the theorem states. the statement FnRecoverStampSameSaid: for every code the law returns true, and the code reads behind the call as it read before. No condition.
-/
import Derived.Test.YtjklkppncmhehaaGreatRa33
import Derived.Test.YtjklkppncmhehaaGreatRa40
import Derived.Test.YtjklkppncmhehaaGreatRows
import Derived.WalkKit
import Derived.ProofKit
import Derived.OpenShut
import Derived.ChangeOld
import Derived.Lib.SmallJoins
import Derived.Test.YtjklkppncmhehaaGreatRa25
import Derived.Test.YtjklkppncmhehaaGreatRa38
import Derived.Test.YtjklkppncmhehaaGreatRa39
import Derived.Conc.LeavingOf
set_option linter.unusedVariables false
set_option linter.unusedSimpArgs false
namespace Go.Proofs.YtjklkppncmhehaaGreat.T
open Go Go.RowKit
def TV.ln (n:Nat)(x y:TV):Prop:=x=y∨(x= .r .nil∧y= .own n)
def lnL (n:Nat):List TV→List TV→Prop
 |[],[]=>True
 |x::xs,y::ys=>x.ln n y∧lnL n xs ys
 |_,_=>False
def GV.ln (n:Nat):GV→GV→Prop
 | .s x,.s y=>x.ln n y
 | .a xs,.a ys=>lnL n xs ys
 |g,g'=>g=g'
def ak.ln (n:Nat):ak→ak→Prop
 | .box xs,.box ys=>lnL n xs ys
 |y,y'=>y=y'
def lnE (n:Nat):List (Nat×GV)→List (Nat×GV)→Prop
 |[],[]=>True
 |x::xs,y::ys=>x.1=y.1∧x.2.ln n y.2∧lnE n xs ys
 |_,_=>False
def lnS (n:Nat):List (Nat×ak)→List (Nat×ak)→Prop
 |[],[]=>True
 |x::xs,y::ys=>x.1=y.1∧x.2.ln n y.2∧lnS n xs ys
 |_,_=>False
theorem TV.aa8 (n:Nat)(x:TV):x.ln n x:= .inl rfl
theorem TV.abW (n:Nat):(TV.r .nil).ln n (.own n):= .inr ⟨rfl,rfl⟩
theorem aba (n:Nat):∀xs:List TV,lnL n xs xs
 |[]=>trivial
 |x::xs=>⟨x.aa8 n,aba n xs⟩
theorem GV.aa8 (n:Nat)(g:GV):g.ln n g:=by
 cases g
 case s x=>exact x.aa8 n
 case a xs=>exact aba n xs
 all_goals rfl
theorem ak.aa8 (n:Nat)(y:ak):y.ln n y:=by
 cases y
 case box xs=>exact aba n xs
 all_goals rfl
theorem abn {n:Nat}:∀{xs ys:List TV},lnL n xs ys→xs.length=ys.length∧∀(i:Nat) (y:TV),ys[i]?=some y→∃x,xs[i]?=some x∧x.ln n y
 |[],[],_=>⟨rfl,fun i y h=>by simp at h⟩
 |x::xs,y::ys,h=>by
  obtain⟨U,h2⟩:=abn h.2;refine⟨by simp[U],fun i z hz=>?_⟩
  cases i with
  |zero=>cases hz;exact⟨x,rfl,h.1⟩
  |succ i=>exact h2 i z hz
 |[],_::_,h=>h.elim
 |_::_,[],h=>h.elim
section
variable {n:Nat}{ρ ρ':Nat→Option Value}{w:World}{D:Nat→Prop}
theorem bW.ln (ff:∀b x,ρ b=some x→ρ' b=some x)(hn:ρ' n=some (.slice none 0 0)){v:Value}{x y:TV}(h:x.ln n y)(hr:bW ρ w D v x):bW ρ' w D v y:=by
 rcases h with rfl|⟨rfl,rfl⟩
 ·exact hr.bB ff (bV.refl D w) fun _ h=>h
 ·cases hr with|r hr=>cases hr with|nil=>exact .own hn
theorem aY.ln (ff:∀b x,ρ b=some x→ρ' b=some x)(hn:ρ' n=some (.slice none 0 0)){v:Value}{x y:GV}(h:x.ln n y)(hr:aY ρ w D v x):aY ρ' w D v y:=by
 unfold GV.ln at h;split at h
 ·cases hr with|s hr=>exact .s (hr.ln ff hn h)
 ·cases hr with
  |a hl hr=>
   obtain⟨U,h2⟩:=abn h;refine .a (hl.trans U) fun i t ht=>?_;obtain⟨x,hx,hl⟩:=h2 i t ht;exact(hr i x hx).ln ff hn hl
 ·subst h;exact hr.bB ff (bV.refl D w) fun _ h=>h
theorem dt.ln (ff:∀b x,ρ b=Option.some x→ρ' b=Option.some x)(hn:ρ' n=Option.some (.slice none 0 0)){v:Option Value}{x y:ak}(h:x.ln n y)(hr:dt ρ w D v x):dt ρ' w D v y:=by
 unfold ak.ln at h;split at h
 ·obtain⟨g,arr,ty,e1,e2,e3,e4⟩:=hr
  obtain⟨U,h2⟩:=abn h;refine⟨g,arr,ty,e1,e2,e3.trans U,fun i t ht=>?_⟩
  obtain⟨x,hx,hl⟩:=h2 i t ht;exact(e4 i x hx).ln ff hn hl
 ·subst h;exact hr.bB ff (bV.refl D w) (fun _ h=>h) (.inr fun _ _=>rfl)
end
theorem ak.abo {n:Nat}{x y:ak}(h:x.ln n y):x.live=y.live:=by
 unfold ak.ln at h;split at h
 ·rfl
 ·subst h;rfl
theorem abJ {n:Nat}(t:Nat):∀{e e':List (Nat×GV)},lnE n e e'→(lk t e).ln n (lk t e')
 |[],[],_=>rfl
 |x::xs,y::ys,h=>by
  obtain⟨U,h2,h3⟩:=h;obtain⟨u,g⟩:=x;obtain⟨u',g'⟩:=y
  cases U;simp only[lk];split
  ·exact h2
  ·exact abJ t h3
 |[],_::_,h=>h.elim
 |_::_,[],h=>h.elim
theorem abK {n:Nat}(b:Nat):∀{e e':List (Nat×ak)},lnS n e e'→(gt b e=none∧gt b e'=none)∨∃y y',gt b e=some y∧gt b e'=some y'∧y.ln n y'
 |[],[],_=> .inl ⟨rfl,rfl⟩
 |x::xs,y::ys,h=>by
  obtain⟨U,h2,h3⟩:=h;obtain⟨u,g⟩:=x;obtain⟨u',g'⟩:=y
  cases U;simp only[gt];split
  ·exact .inr ⟨_,_,rfl,rfl,h2⟩
  ·exact abK b h3
 |[],_::_,h=>h.elim
 |_::_,[],h=>h.elim
theorem TW.nil {P:Program}{E:List PanicEntry→World→Prop}{nt m:Nat}{Q:Exit→ae→Prop}{s:ae}{c:Code}(e:TypeId)(k:Nat)(env:List (Nat×GV))(sto:List (Nat×ak))(hw:TW P E nt m c Q ⟨env,(s.nx,.rows e k [])::sto,s.nx+1⟩)
  (he:lnE s.nx s.env env:=by simp) (hs:lnS s.nx s.sto sto:=by simp) (hk:0<k:=by simp) (aj:qS s=true:=by simp) (hmn:m≤s.nx:=by simp):TW P E nt m c Q s:=by
 intro C a w hn hm hR;refine hw C a w hn hm ?_;obtain⟨ρ,D,h⟩:=hR;have qG:s.get s.nx=none:=by
  unfold ae.get
  cases hg:gt s.nx s.sto with
  |none=>simp
  |some y=>exact absurd (I1 aj _ (dY hg)) (by simp)
 have abZ:=h.free _ qG;have ff:∀b x,ρ b=some x→(fun b=>if b=s.nx then some (Value.slice none 0 0)else ρ b) b=some x:=by
  intro b x hx;by_cases e:b=s.nx
  ·subst e;rw[abZ]at hx;cases hx
  ·simp[e,hx]
 have cG:∀b,b≠s.nx→(fun b=>if b=s.nx then some (Value.slice none 0 0)else ρ b) b=ρ b:=fun b hb=>by simp[hb]
 have hg:∀b,b≠s.nx→(s.get b=none∧ae.get ⟨env,(s.nx,.rows e k [])::sto,s.nx+1⟩ b=none)∨∃y y',s.get b=some y∧ae.get ⟨env,(s.nx,.rows e k [])::sto,s.nx+1⟩ b=some y'∧y.ln s.nx y':=by
  intro b hb;unfold ae.get;simp only[gt,if_neg hb];rcases abK b hs with⟨U,h2⟩|⟨y,y',U,h2,h3⟩
  ·rw[U,h2]
   simp only
   by_cases hl:b<s.nx
   ·rw[if_pos hl,if_pos (by omega)];exact .inr ⟨_,_,rfl,rfl,rfl⟩
   ·rw[if_neg hl,if_neg (by omega)];exact .inl ⟨rfl,rfl⟩
  ·rw[U,h2]
   exact .inr ⟨_,_,rfl,rfl,h3⟩
 have rR:ae.get ⟨env,(s.nx,.rows e k [])::sto,s.nx+1⟩ s.nx=some (.rows e k []):=by simp[ae.get,gt]
 have hb:∀b y',b≠s.nx→ae.get ⟨env,(s.nx,.rows e k [])::sto,s.nx+1⟩ b=some y'→∃y,s.get b=some y∧y.ln s.nx y':=by
  intro b y' hb hy;rcases hg b hb with⟨U,h2⟩|⟨y,y2,U,h2,h3⟩
  ·rw[h2]at hy;cases hy
  ·rw[h2]at hy;cases hy;exact⟨y,U,h3⟩
 have uN:∀g,bo ((fun b=>if b=s.nx then some (Value.slice none 0 0)else ρ b) s.nx)=some g→False:=fun g h=>by simp[bo]at h
 refine⟨fun b=>if b=s.nx then some (.slice none 0 0)else ρ b,D,⟨h.os,h.tape,h.output,h.size,h.old,h.ro,fun b cv=>?_,fun b y' hy=>?_,fun b y' g hy hl a_=>?_,fun b y b' y' g hy hl dc bz uF Yd=>?_,fun t=>(h.env t).ln ff (by simp) (abJ t he),h.defers,h.nt,fun b x hx=>?_⟩⟩
 ·by_cases e1:b=s.nx
  ·subst e1;rw[rR]at cv;cases cv
  ·rcases hg b e1 with⟨U,h2⟩|⟨y,y2,U,h2,h3⟩
   ·rw[if_neg e1];exact h.free b U
   ·rw[h2]at cv;cases cv
 ·by_cases e1:b=s.nx
  ·subst e1
   rw[rR]at hy
   cases hy;exact⟨none,0,by simp,Nat.le_refl _,Nat.zero_le _,hk,fun i y h=>by simp at h,.inl ⟨rfl,rfl,rfl⟩⟩
  ·obtain⟨y,U,h2⟩:=hb b y' e1 hy
   have:=dt.ln ff (by simp) h2 (h.blk b y U)
   rwa[if_neg e1]
 ·by_cases e1:b=s.nx
  ·subst e1;exact(uN g a_).elim
  ·obtain⟨y,U,h2⟩:=hb b y' e1 hy
   rw[if_neg e1]at a_;exact h.own b y g U (by rw[ak.abo h2];exact hl) a_
 ·by_cases e1:b=s.nx
  ·subst e1;exact(uN g uF).elim
  ·by_cases e2:b'=s.nx
   ·subst e2;exact(uN g Yd).elim
   ·obtain⟨z,U,h2⟩:=hb b y e1 hy
    obtain⟨z',iM,lU⟩:=hb b' y' e2 dc;rw[if_neg e1]at uF;rw[if_neg e2]at Yd;exact h.sep b z b' z' g U (by rw[ak.abo h2];exact hl) iM (by rw[ak.abo lU];exact bz) uF Yd
 ·have:=hm b x hx
  rw[if_neg (by omega)]
  exact h.ext b x hx
attribute [simp] lnE lnS lnL GV.ln ak.ln TV.aa8 TV.abW aba GV.aa8 ak.aa8
end Go.Proofs.YtjklkppncmhehaaGreat.T
namespace Go.Proofs.YtjklkppncmhehaaGreat.T
open Go Go.RowKit
set_option maxRecDepth 100000
set_option maxHeartbeats 4000000
variable {E:List PanicEntry→World→Prop}
theorem abg (xs:List Int)(h:xs.length≤4294967296):TC Tw.prog E 58 [gR (bL xs)] 0 [] (.s (.own 0)) [(0,lf xs)]:=by
 refine tE Tryz.f58 Tryz.ntmps58 (by rw[Tryz.results58]) ?_
 (refine TW.go ?_;simp[maxLen];repeat' first|intro hc|refine aa.mk ?_|refine aI ?_|refine ah ?_ ?_)
 exact oW [1] []
theorem abr (xs:List (Int×Int))(h:xs.length≤4294967296):TC Tw.prog E 115 [gR (PB xs)] 0 [] (.s (.own 0)) [(0,Sw xs)]:=by
 refine tE Tryz.f115 Tryz.ntmps115 (by rw[Tryz.results115]) ?_
 (refine TW.go ?_;simp[maxLen];repeat' first|intro hc|refine aa.mk ?_|refine aI ?_|refine ah ?_ ?_)
 exact oW [1] []
theorem abA (r:fb)(h:qU r 4294967296):TC Tw.prog E 60 [.a ((aX r).map .r)] 0 [] (PH r 0 1) (PI r):=by
 obtain⟨hp,hd⟩:=h;refine tE Tryz.f60 Tryz.ntmps60 (by rw[Tryz.results60]) ?_
 (refine TW.go ?_;simp[aX,maxLen];repeat' first|intro hc|refine aa.mk ?_|refine aI ?_|refine ah ?_ ?_|(refine cF [] 1 ?_;refine⟨_,_,abg _ hp,?_⟩;simp[aX,maxLen])|(refine cF [] 1 ?_;refine⟨_,_,abr _ hd,?_⟩;simp[aX,maxLen]))
 exact oW [2,3] []
theorem abl (m:Int)(set:List Int)(hm:bC m=true)(hs:fD set=true):TC Tw.prog E 19 [gI .i64 m,gR (bL set)] 0 [] (.p [.a [.r (rI m),.own 0,.r .nil],gB true]) [(0,lf set)]:=by
 have hM:=nF (E:=E) m;have hV:=xP (E:=E) set;obtain⟨-,hl, -⟩:=o8 hs;rw[hm]at hM;rw[hs]at hV;have hC:=abg (E:=E) set (by omega)
 refine tE Tryz.f19 Tryz.ntmps19 (by rw[Tryz.results19]) ?_
 (refine TW.go ?_;simp;repeat' first|intro hc|refine aa.mk ?_|refine aI ?_|refine ah ?_ ?_|(refine cP ?_;(first|refine⟨_,hM,?_⟩|refine⟨_,hV,?_⟩);simp)|(refine cF [] 1 ?_;refine⟨_,_,hC,?_⟩;simp))
 exact oW [1] []
theorem abE {bm:List (Int×Int)}(g:Int):bm.Pairwise (fun a b=>a.2<b.2)→bm.filter (fun x=>decide (x.2<g))=bm.take (qf bm g):=by
 induction bm with
 |nil=>intro _;rfl
 |cons x xs ih=>
  intro h;rw[List.pairwise_cons]at h;by_cases hx:x.2<g
  ·rw[List.filter_cons_of_pos (by simpa using hx),ih h.2]
   unfold qf;rw[List.takeWhile_cons,if_pos (by simpa using hx),List.length_cons,List.take_succ_cons]
  ·rw[List.filter_cons_of_neg (by simpa using hx)]
   unfold qf;rw[List.takeWhile_cons,if_neg (by simpa using hx),List.length_nil,List.take_zero,List.filter_eq_nil_iff]
   intro y hy;have:=h.1 y hy
   simp only[decide_eq_true_eq];omega
theorem abM {bm:List (Int×Int)}(g:Int):bm.Pairwise (fun a b=>a.2<b.2)→xy bm (qf bm g) g=bm.any fun s=>decide (s.2=g):=by
 induction bm with
 |nil=>intro _;rfl
 |cons x xs ih=>
  intro h;rw[List.pairwise_cons]at h;by_cases hx:x.2<g
  ·have U:qf (x::xs) g=qf xs g+1:=by
    unfold qf;rw[List.takeWhile_cons,if_pos (by simpa using hx),List.length_cons]
   have h2:xy (x::xs) (qf (x::xs) g) g=xy xs (qf xs g) g:=by rw[U];rfl
   rw[h2,ih h.2,List.any_cons,show decide (x.2=g)=false by simp;omega,Bool.false_or]
  ·have U:qf (x::xs) g=0:=by
    unfold qf;rw[List.takeWhile_cons,if_neg (by simpa using hx),List.length_nil]
   rw[U,List.any_cons,show xs.any (fun s=>decide (s.2=g))=false by
    simp only[List.any_eq_false,decide_eq_true_eq];intro y hy;have:=h.1 y hy
    omega,Bool.or_false]
   rfl
abbrev abh (r:fb) (s:Int) (k:Nat):List (Int×Int):=(r.bm.take k).filter fun x=>decide (x.2<s)
theorem abN {r:fb}{s:Int}{k:Nat}{x:Int×Int}(h:r.bm[k]?=some x):abh r s (k+1)=abh r s k++if x.2<s then[x]else[]:=by
 rw[abh,List.take_add_one,h,List.filter_append];congr 1
 by_cases hx:x.2<s<;>simp[hx]
theorem abF (r:fb)(t s:Int)(h:qU r 1000)(hv:oQ r=true)(hs:bb t s=true):TC Tw.prog E 20 [.a ((aX r).map .r),km (t,s)] 0 [] (.p [PH (mC r t s).1 0 1,gB (mC r t s).2]) (PI (mC r t s).1):=by
 have hle:qU r 4294967296:=⟨by have:=h.1;omega,by have:=h.2;omega⟩
 have hV:=aa_ (E:=E) r hle;have hS:=ji (E:=E) t s;have hC:=abA (E:=E) r hle;have hO:=abR (E:=E) r;have hH:=abd (E:=E) r.gs s;have hA:=abf (E:=E) r s;obtain⟨U, -,h3,h4⟩:=abz hv;have X1:=abM s h4;have hfl:=abE s h4;have RV:=h.2;have hlen:r.bm.length≤maxLen:=by simp only[maxLen];omega
 rw[hv]at hV;rw[hs]at hS;refine tE Tryz.f20 Tryz.ntmps20 (by rw[Tryz.results20]) ?_
 have qa:mC r t s=if oN r.gs s=false∨oR r s=true then(r,false)else(⟨r.m,r.gs,r.bm.take (qf r.bm s)++[(t,s)]++r.bm.drop (qf r.bm s)⟩,true):=by
  unfold mC;rw[X1];rfl
 cases hh:oN r.gs s
 ·rw[hh]at hH
  rw[show mC r t s=(r,false) by rw[qa,if_pos (.inl hh)]]
  (refine TW.go ?_;simp[aX];repeat' first|intro hc|refine aa.mk ?_|refine aI ?_|refine ah ?_ ?_|(refine cP ?_;(first|refine⟨_,hV,?_⟩|refine⟨_,hS,?_⟩|refine⟨_,hO,?_⟩|refine⟨_,hH,?_⟩);simp[aX])|(refine cF [] 2 ?_;refine⟨_,_,hC,?_⟩;simp[aX]))
  exact oW [3,4] []
 ·rw[hh]at hH
  cases ha:oR r s
  ·rw[ha]at hA
   rw[show mC r t s=(⟨r.m,r.gs,r.bm.take (qf r.bm s)++[(t,s)]++r.bm.drop (qf r.bm s)⟩,true) by rw[qa,if_neg (by simp[hh,ha])]]
   (refine TW.go ?_;simp[aX];repeat' first|intro hc|refine aa.mk ?_|refine aI ?_|refine ah ?_ ?_|(refine cP ?_;(first|refine⟨_,hV,?_⟩|refine⟨_,hS,?_⟩|refine⟨_,hO,?_⟩|refine⟨_,hH,?_⟩|refine⟨_,hA,?_⟩);simp[aX])|(refine cF [] 2 ?_;refine⟨_,_,hC,?_⟩;simp[aX]))
   refine⟨TW.weaken ⟨[(2,.s (.ptr 0 0)),(3,.s (.ptr 1 0)),(4,.s (.ptr 2 0)),(6,.s (.ptr 3 0)),(38,gR (PB r.bm)),(39,gI .i64 r.bm.length),(40,gI .i64 0)],[(0,.box ((aX r).map .r)),(1,.box [.r (rI t),.r (rI s)]),(2,.box [.r (rI 0),.r .nil,.r .nil]),(3,.box [.r (rI r.m),.own 4,.r .nil]),(4,lf r.gs)],5⟩
    (Wk.own [0,1,2,5,3] [] (by simp) (by simp) (by simp[aX]) (by simp) (by simp)) (TW.nil 28 2 [(2,.s (.ptr 0 0)),(3,.s (.ptr 1 0)),(4,.s (.ptr 2 0)),(6,.s (.ptr 3 0)),(38,gR (PB r.bm)),(39,gI .i64 r.bm.length),(40,gI .i64 0)] [(0,.box ((aX r).map .r)),(1,.box [.r (rI t),.r (rI s)]),(2,.box [.r (rI 0),.r .nil,.r .nil]),(3,.box [.r (rI r.m),.own 4,.own 5]),(4,lf r.gs)] (UE.get ?_))⟩
   refine tL (fun(k:Nat)=>⟨[(2,.s (.ptr 0 0)),(3,.s (.ptr 1 0)),(4,.s (.ptr 2 0)),(6,.s (.ptr 3 0)),(38,gR (PB r.bm)),(39,gI .i64 r.bm.length),(40,gI .i64 (k:Nat))],[(0,.box ((aX r).map .r)),(1,.box [.r (rI t),.r (rI s)]),(2,.box [.r (rI 0),.r .nil,.r .nil]),(3,.box [.r (rI r.m),.own 4,.own 5]),(4,lf r.gs),(5,Sw (abh r s k))],6⟩) (fun k=>k≤r.bm.length) (fun k=>r.bm.length-k) 0 (by omega)
    (kO [0,1,2,3,4,5] []) fun k hk=>?_
   by_cases aj:k<r.bm.length
   ·have he:r.bm[k]?=some r.bm[k]:=List.getElem?_eq_getElem aj
    have aw:(k:Int)<(r.bm.length:Int):=by omega
    have aF:=wrap_add aj hlen;have iH:=abN (s:=s) he;have pK:(abh r s k).length≤k:=Nat.le_trans (List.length_filter_le _ _) (by simp;omega)
    generalize r.bm[k]=x at*;generalize abh r s k=L at*;by_cases hx:x.2<s
    ·rw[if_pos hx]at iH
     (refine TW.go ?_;simp[aw,he,aF,hx,iC,maxLen];repeat' first|intro hc|refine aa.mk ?_|refine aI ?_|refine ah ?_ ?_)
     exact⟨k+1,by omega,by omega,Wk.own [0,1,2,3,4,8] [] (by simp) (by simp) (by simp[iH,iC]) (by simp) (by simp)⟩
    ·rw[if_neg hx]at iH
     (refine TW.go ?_;simp[aw,he,aF,hx,iC,maxLen];repeat' first|intro hc|refine aa.mk ?_|refine aI ?_|refine ah ?_ ?_)
     exact⟨k+1,by omega,by omega,Wk.own [0,1,2,3,4,5] [] (by simp) (by simp) (by simp[iH]) (by simp) (by simp)⟩
   ·obtain rfl:k=r.bm.length:=by omega
    have hL:abh r s r.bm.length=r.bm.take (qf r.bm s):=by rw[abh,List.take_length,hfl]
    have hn:=abQ r.bm s;have Un:(r.bm.take (qf r.bm s)).length=qf r.bm s:=by rw[List.length_take];omega
    rw[hL];generalize qf r.bm s=n at*;generalize r.bm.take n=L at*;have oc:IntKind.i64.wrap (n:Int)=n:=aL (by omega) (by omega)
    have hnI:(n:Int)≤r.bm.length:=by omega
    (refine TW.go ?_;simp[Un,oc,hn,hnI,aX,maxLen];repeat' first|intro hc|refine aa.mk ?_|refine aI ?_|refine ah ?_ ?_)
    refine ar.own [4,8] [] (by simp;rfl) (by simp[iC]) (by simp) (by simp) (by simp[iC]) (by simp)
  ·rw[ha]at hA
   rw[show mC r t s=(r,false) by rw[qa,if_pos (.inr ha)]]
   (refine TW.go ?_;simp[aX];repeat' first|intro hc|refine aa.mk ?_|refine aI ?_|refine ah ?_ ?_|(refine cP ?_;(first|refine⟨_,hV,?_⟩|refine⟨_,hS,?_⟩|refine⟨_,hO,?_⟩|refine⟨_,hH,?_⟩|refine⟨_,hA,?_⟩);simp[aX])|(refine cF [] 2 ?_;refine⟨_,_,hC,?_⟩;simp[aX]))
   exact oW [3,4] []
end Go.Proofs.YtjklkppncmhehaaGreat.T
namespace Go.Proofs.YtjklkppncmhehaaGreat.T
open Go Go.RowKit
set_option maxRecDepth 100000
set_option maxHeartbeats 4000000
theorem abT {r:fb}(U:fD r.gs=true)(h2:bC r.m=true)(h3:∀s∈r.bm,bb s.1 s.2=true∧s.2∈r.gs)(h4:r.bm.Pairwise (fun a b=>a.2<b.2)):oQ r=true:=by
 simp only[oQ,Bool.and_eq_true,cu];refine⟨⟨fun i hi=>?_,h2⟩,U⟩
 have hm:=h3 _ (List.getElem_mem hi);rw[sC,List.getElem?_eq_getElem hi];simp only[Bool.and_eq_true,Bool.or_eq_true,decide_eq_true_eq];refine⟨⟨hm.1,aa7.2 hm.2⟩,?_⟩;rcases i with _|i
 ·exact .inl rfl
 ·right
  rw[Nat.add_sub_cancel,List.getElem?_eq_getElem (show i<r.bm.length by omega)]
  simp only[decide_eq_true_eq];exact List.pairwise_iff_getElem.1 h4 i (i+1) (by omega) hi (by omega)
theorem abp {id clock:Int}{es:List aK}{e:aK}(h:iY id clock es=true)(he:e∈es)(hf:e.f=false):e.g=id:=by
 obtain⟨i,hi,rfl⟩:=List.getElem_of_mem he;rw[iY,cu]at h;have:=h i hi
 rw[kY,List.getElem?_eq_getElem hi]at this;simp only[Bool.and_eq_true,hf,Bool.false_or,decide_eq_true_eq]at this;exact this.2
theorem abU {g:az}{m:Int}(hg:bI g=true)(h:gT g m=true)(hf:(bG g m).f=false):(bG g m).g=g.id:=by
 simp only[bI,Bool.and_eq_true]at hg;obtain⟨e,he⟩:=Option.isSome_iff_exists.1 h;rw[bG,he,Option.getD_some]at hf⊢;unfold fa at he;split at he
 ·rename_i U;cases he;exact abp hg.1.1.1.2 (List.mem_of_find?_eq_some U) hf
 ·exact abp hg.1.1.2 (List.mem_of_find?_eq_some he) hf
theorem abX {gs:List az}(h:cZ gs=true){i:Nat}(hi:i<5):(aG gs i).id=i:=by
 have h5:=i7 h;simp only[cZ,Bool.and_eq_true,cu,h5]at h;have:=h.1.2 i hi
 simp only[pJ,Bool.and_eq_true,decide_eq_true_eq]at this;exact this.2
abbrev stP (gs:List az) (m g:Int):Int×Int:=((bG (aG gs g.toNat) m).t,(bG (aG gs g.toNat) m).g)
def aa6 (gs:List az)(m g:Int):Prop:=gT (aG gs g.toNat) m=true∧(bG (aG gs g.toNat) m).f=false
theorem abe {gs:List az}{m g:Int}(h:cZ gs=true)(h0:0≤g)(U:g<5)(ho:aa6 gs m g):(stP gs m g).2=g:=by
 have:=abU (xU h (i:=g.toNat) (by omega)) ho.1 ho.2
 rw[abX h (by omega)]at this
 show(bG (aG gs g.toNat) m).g=g
 omega
theorem abO {gs:List az}{set xs:List Int}{m:Int}(h:jP gs set m=true)(hx:xs.Pairwise (·<·))(hs:∀g∈xs,g∈set)(ho:∀g∈xs,aa6 gs m g):oQ ⟨m,set,xs.map (stP gs m)⟩=true:=by
 simp only[jP,Bool.and_eq_true]at h;obtain⟨⟨U,h2⟩,hm⟩:=h;obtain⟨-, -,hr⟩:=o8 h2;have FU:∀g∈xs,(stP gs m g).2=g:=fun g hg=>abe U (hr g (hs g hg)).1 (hr g (hs g hg)).2 (ho g hg)
 refine abT h2 hm (fun s vP=>?_) ?_
 ·obtain⟨g,hg,rfl⟩:=List.mem_map.1 vP
  refine⟨q_ (xU U (i:=g.toNat) (by have:=hr g (hs g hg);omega)) (ho g hg).1,?_⟩
  rw[FU g hg];exact hs g hg
 ·rw[List.pairwise_map]
  exact hx.imp_of_mem fun ha hb lR=>by rw[FU _ ha,FU _ hb];exact lR
theorem abP {r:fb}{t s:Int}(U:s∈r.gs)(h2:∀x∈r.bm,x.2<s):mC r t s=(⟨r.m,r.gs,r.bm++[(t,s)]⟩,true):=by
 have hl:qf r.bm s=r.bm.length:=ME fun i hi x hx=>h2 x (List.mem_of_getElem? hx)
 have hs:xy r.bm r.bm.length s=false:=by rw[xy,List.getElem?_eq_none (by omega)]
 rw[mC,hl,hs,aa7.2 U,if_neg (by simp),List.take_length,List.drop_length,List.append_nil]
theorem abi {gs:List az}{m:Int}:∀{set:List Int} {acc:List (Int×Int)},(∀g∈set,aa6 gs m g)→gA gs m set acc= .inr (acc++set.map (stP gs m))
 |[],acc,_=>by simp[gA]
 |g::set,acc,h=>by
  obtain⟨a,b⟩:=h g (List.mem_cons_self ..);rw[gA,a,b];simp only[Bool.true_and,Bool.false_eq_true,if_false,if_true];rw[abi fun x hx=>h x (List.mem_cons_of_mem _ hx)]
  simp
theorem abb (bs:List Int)(hb:∀b∈bs,0≤b∧b≤255):TC Tw.prog lQ 4 [gR (pw bs)] 0 [] (gB true) []:=by
 have hD:=pM (E:=lQ) bs ⟨fun b h=>hb b (List.mem_of_mem_take h),by simp;omega⟩
 obtain⟨hL, -, -, -⟩:=uB (pk (bs.take 2000)) 0;generalize(eN (pk (bs.take 2000)) 0).1=gs at*;generalize J6 (pk (bs.take 2000))=sm at*;obtain⟨set,m⟩:=sm;simp only at hD
 have UW:gw gs 4294967290:=⟨by have:=hL.1;omega,fun g hg=>by have:=hL.2 g hg;exact⟨by have:=this.1;omega,by have:=this.2;omega⟩⟩
 have hI:=uV gs set m UW;have hS:=pN (E:=lQ) gs set m UW;refine tE Tryz.f4 Tryz.ntmps4 (by rw[Tryz.results4]) ?_
 by_cases hl:1048576<bs.length
 ·have bz:(1048576:Int)<(bs.length:Int):=by omega
  (refine TW.go ?_;simp[bz];repeat' first|intro hc|refine aa.mk ?_|refine aI ?_|refine ah ?_ ?_)
  exact oW [] []
 ·have bz:¬(1048576:Int)<(bs.length:Int):=by omega
  cases hR:(o5 gs set m).2
  ·rw[hR]at hI hS
   (refine TW.go ?_;simp[bz,jv];repeat' first|intro hc|refine aa.mk ?_|refine aI ?_|refine ah ?_ ?_|(refine cP ?_;(first|refine⟨_,hD,?_⟩|refine⟨_,hI,?_⟩|refine⟨_,hS,?_⟩);simp[bz,jv]))
   exact oW [] []
  ·have fL:jP gs set m=true:=by
    unfold o5 at hR;split at hR
    ·assumption
    ·cases hR
   have bj:o5 gs set m=bD gs set m:=by rw[o5,if_pos fL]
   rw[hR]at hI hS;generalize hs:(o5 gs set m).1=s at*;have hsD:bD gs set m=(s,true):=by rw[←bj,←hs,←hR]
   have mf:=fL;simp only[jP,Bool.and_eq_true]at mf;obtain⟨⟨o1,o2⟩,om⟩:=mf;obtain⟨cG,hl5,hr⟩:=o8 o2;have abV:=abc o2;have h5:=i7 o1;have hN:=abl (E:=lQ) m set om o2;(refine TW.go ?_;simp[bz,jv];repeat' first|intro hc|refine aa.mk ?_|refine aI ?_|refine ah ?_ ?_|(refine cP ?_;(first|refine⟨_,hD,?_⟩|refine⟨_,hI,?_⟩|refine⟨_,hS,?_⟩);simp[bz,jv])|(refine cF [] 1 ?_;refine⟨_,_,hN,?_⟩;simp[bz,jv]))
   refine⟨TW.weaken ⟨[(3,gR (dD gs)),(4,gR (bL set)),(5,gI .i64 m),(6,.s (.ptr 0 0)),(10,.s (.ptr 1 0)),(11,gB true),(12,gI .i64 0)],[(0,.box [.r (rI s.1),.r (rI s.2)]),(1,.box [.r (rI m),.r (bL set),.r .nil])],2⟩ (kO [0,3] [2])
    (TW.le [(3,gR (dD gs)),(4,gR (bL set)),(5,gI .i64 m),(6,.s (.ptr 0 0)),(10,.s (.ptr 1 0)),(11,gB true),(12,gI .i64 0)] [(0,.box [.r (rI s.1),.r (rI s.2)]),(1,.box [.r (rI m),.r (bL set),.r (.sl 2 [])])] (by simp) (by simp) (UE.get ?_))⟩
   refine tL (fun(k:Nat)=>⟨[(3,gR (dD gs)),(4,gR (bL set)),(5,gI .i64 m),(6,.s (.ptr 0 0)),(10,.s (.ptr 1 0)),(11,gB true),(12,gI .i64 (k:Nat))],[(0,.box [.r (rI s.1),.r (rI s.2)]),(1,.box [.r (rI m),.r (bL set),.r (PB ((set.take k).map (stP gs m)))])],2⟩) (fun k=>k≤set.length∧∀g∈set.take k,aa6 gs m g) (fun k=>set.length-k) 0 ⟨by omega,by simp⟩
    (kO [0,1] []) fun k hk=>?_
   obtain⟨hk,ho⟩:=hk;have hrk:=abO fL (abV.sublist (List.take_sublist k set)) (fun g hg=>List.mem_of_mem_take hg) ho
   have FU:∀y∈(set.take k).map (stP gs m),∃g∈set.take k,y.2=g:=fun y hy=>by
    obtain⟨g,hg,rfl⟩:=List.mem_map.1 hy;have:=hr g (List.mem_of_mem_take hg)
    exact⟨g,hg,abe o1 this.1 this.2 (ho g hg)⟩
   have Un:((set.take k).map (stP gs m)).length=k:=by simp;omega
   by_cases aj:k<set.length
   ·have he:set[k]?=some set[k]:=List.getElem?_eq_getElem aj
    have p_:=List.getElem_mem aj;have htk:(set.take (k+1)).map (stP gs m)=(set.take k).map (stP gs m)++[stP gs m set[k]]:=by
     rw[List.take_add_one,he,List.map_append];rfl
    have Nh:∀y∈(set.take k).map (stP gs m),y.2<set[k]:=fun y hy=>by
     obtain⟨g,hg,e⟩:=FU y hy;rw[e];obtain⟨i,hi,rfl⟩:=List.getElem_of_mem hg;rw[List.getElem_take];exact List.pairwise_iff_getElem.1 abV i k _ aj (by simp at hi;omega)
    have abm:aa6 gs m set[k]→∀g∈set.take (k+1),aa6 gs m g:=fun h g hg=>by
     rw[List.take_add_one,he,List.mem_append]at hg;rcases hg with hg|hg
     ·exact ho g hg
     ·simp at hg;rw[hg];exact h
    generalize set[k]=x at*;obtain⟨x0,x1⟩:=hr x p_;have hG:=fU (gs:=gs) (i:=x.toNat) (by omega)
    have hT:=qq (E:=lQ) (aG gs x.toNat) m (UW.2 _ (List.mem_of_getElem? hG));have hv:=xU o1 (i:=x.toNat) (by omega)
    simp only[cC,o_,hv,if_true,Bool.true_and]at hT;have aw:(k:Int)<(set.length:Int):=by omega
    have aF:IntKind.i64.wrap ((k:Int)+1)=(k:Int)+1:=aL (by omega) (by omega)
    have KZ:aa6 gs m x→(bG (aG gs x.toNat) m).g=x:=fun h=>abe o1 x0 x1 h
    have hxo:aa6 gs m x→bb (bG (aG gs x.toNat) m).t (bG (aG gs x.toNat) m).g=true:=fun h=>q_ hv h.1
    unfold stP at htk;unfold aa6 at abm KZ hxo;generalize aG gs x.toNat=G at*;generalize bG G m=e at*;generalize hLe:(set.take k).map (stP gs m)=L at*
    cases Cg:gT G m
    ·rw[Cg]at hT
     (refine TW.go ?_;simp[aw,he,x0,hG,aF,ai,au];repeat' first|intro hc|refine aa.mk ?_|refine aI ?_|refine ah ?_ ?_|(refine cP ?_;refine⟨_,hT,?_⟩;simp[aw,he,x0,hG,aF,ai,au]))
     exact oW [] []
    ·rw[Cg]at hT
     cases hf:e.f
     ·have aS:=abm ⟨Cg,hf⟩
      have X2:=KZ ⟨Cg,hf⟩;have hA:=abF (E:=lQ) ⟨m,set,L⟩ e.t e.g ⟨by simp only;omega,by simp only;omega⟩ hrk (hxo ⟨Cg,hf⟩)
      rw[abP (by rw[X2];exact p_) (fun y hy=>by rw[X2];exact Nh y hy)]at hA
      simp only[aX,List.map_cons,List.map_nil]at hA;(refine TW.go ?_;simp[aw,he,x0,hG,aF,ai,au,hf];repeat' first|intro hc|refine aa.mk ?_|refine aI ?_|refine ah ?_ ?_|(refine cP ?_;refine⟨_,hT,?_⟩;simp[aw,he,x0,hG,aF,ai,au,hf])|(refine cF [] 2 ?_;refine⟨_,_,hA,?_⟩;simp[aw,he,x0,hG,aF,ai,au,hf]))
      exact⟨k+1,⟨by omega,aS⟩,by omega,Wk.own [0,1] [3,4] (by simp) (by simp) (by simp[htk]) (by simp) (by simp)⟩
     ·(refine TW.go ?_;simp[aw,he,x0,hG,aF,ai,au,hf];repeat' first|intro hc|refine aa.mk ?_|refine aI ?_|refine ah ?_ ?_|(refine cP ?_;refine⟨_,hT,?_⟩;simp[aw,he,x0,hG,aF,ai,au,hf]))
      exact oW [] []
   ·obtain rfl:k=set.length:=by omega
    rw[List.take_length]at ho hrk Un⊢;have wD:=abi (acc:=[]) ho;have hF:=abq (E:=lQ) ⟨m,set,set.map (stP gs m)⟩ ⟨by simp only;omega,by simp;omega⟩ hrk
    have te:mD (set.map (stP gs m))=s:=by
     rw[bD,wD]at hsD;simp only[List.nil_append,List.length_map,Nat.lt_irrefl,if_false,Prod.mk.injEq,and_true]at hsD;exact hsD
    have vX:jL ⟨m,set,set.map (stP gs m)⟩=(s,true):=by rw[jL,if_neg (by simp),te]
    rw[vX]at hF;simp only[aX,List.map_cons,List.map_nil]at hF;generalize set.map (stP gs m)=L at*;(refine TW.go ?_;simp[jv];repeat' first|intro hc|refine aa.mk ?_|refine aI ?_|refine ah ?_ ?_|(refine cP ?_;refine⟨_,hF,?_⟩;simp[jv]))
    exact oW [] []
end Go.Proofs.YtjklkppncmhehaaGreat.T
namespace Go.Proofs.YtjklkppncmhehaaGreat
open Go.ChangeShapes Go.WideShapes Go.ChangeAt Go.RowKit Go.Joins
theorem own:ownKnob Tryz.prog.godebug=none:=by kernel_rfl
theorem laidOut:laidOutB Tryz.prog=true:=by kernel_rfl
def Jq (bs:List Int):List Value:=bs.map (Value.int .u8)
def Bytes (bs:List Int):Prop:=∀b∈bs,0≤b∧b≤255
theorem wf_u8 {n:Int}(h:(Lit.int .u8 n).wf=true):0≤n∧n≤255:=by
 have:=bounds_u8 h
 omega
set_option maxRecDepth 100000 in
theorem MU {H:Type}{enc:TypeId×Value→H}{W:World}{r:Reach}{b0:Nat}{v:Value}{d:DataW H}{p:List MemPlace}
  (hv:Value.okWide Tryz.prog W r b0 22 v) (h:DataW.Trod enc Tryz.prog W 0 (fun _=>true) true 22 v d p):
  ∃A n c bs,v= .slice A n c∧n≤c∧c≤maxLen∧Reads W W.heap.size 1 A n (Jq bs)∧Bytes bs:=by
 obtain⟨A,n,c,rfl⟩:=okWide_slice Tryz.underlying22 hv;obtain⟨fuel,hf⟩:=h;rcases open_ints Tryz.underlying22 Tryz.underlying5 (by kernel_rfl) hf with⟨lV,_⟩|⟨a,l,c',zs,lV,_,hl,hm,hz,_,dq,hwf⟩
 ·simp[Value.cells]at lV
  obtain⟨rfl,rfl,rfl⟩:=lV;exact⟨none,0,0,[],rfl,Nat.le_refl _,Nat.zero_le _,Reads.none_,fun b hb=>by simp at hb⟩
 ·simp[Value.cells]at lV
  obtain⟨rfl,rfl,rfl⟩:=lV;have FO:zs.length=c:=by simpa using hz
  refine⟨some a,n,c,zs.take n,rfl,hl,hm,⟨?_,fun h0=>⟨a,rfl,?_,fun j u hu=>?_⟩⟩,fun b hb=>wf_u8 (hwf b (List.mem_of_mem_take hb))⟩
  ·simp[Jq];omega
  ·have U:=dq 0 (by omega)
   have:=World.block_lt_of_cell? W (a.add 0) U
   rwa[jg]at this
  ·unfold Jq at hu
   rw[List.getElem?_map]at hu;have hj:j<n:=by
    have:=(List.getElem?_eq_some_iff.1 (show(zs.take n)[j]?=some ((zs.take n)[j]?.getD 0)from by
     cases hq:(zs.take n)[j]? with
     |none=>rw[hq]at hu;cases hu
     |some z=>rfl)).1
    rw[List.length_take]at this;omega
   rw[List.getElem?_take,if_pos hj]at hu;rw[dq j (by omega),List.getD_eq_getElem?_getD]
   cases hq:zs[j]? with
   |none=>rw[hq]at hu;cases hu
   |some z=>rw[hq]at hu;exact hu
end Go.Proofs.YtjklkppncmhehaaGreat
namespace Go.Proofs.YtjklkppncmhehaaGreat.T
open Go Go.RowKit
theorem Jr {W v:World}{A:Option Addr}{n c:Nat}{bs:List Int}(hA:Sr.JH W A)(hn:n≤c)(hc:c≤maxLen)(hr:Reads W W.heap.size 1 A n (Jq bs))(hv:∀q k z,W.cell? q=some (.int k z)→v.cell? q=some (.int k z))(hz:v.heap.size=W.heap.size):
  cb v (fun b=>b<v.heap.size) (.slice A n c) (pw bs):=by
 obtain⟨hl,hr⟩:=hr;have hl:bs.length=n:=by simpa[Jq]using hl
 by_cases h0:n=0
 ·subst h0
  obtain rfl:bs=[]:=List.length_eq_zero_iff.1 hl
  exact .yA hc
 ·obtain⟨ad,rfl,aj,dq⟩:=hr (by omega)
  have eF:=(hA ad rfl).1;obtain⟨b,o,sp⟩:=ad;simp only at eF
  subst eF;have se:∀(i:Nat) (e:List RT),(bs.map fun b=>([.v (.int .u8 b)]:List RT))[i]?=some e→∃x,bs[i]?=some x∧e=[.v (.int .u8 x)]:=fun i e he=>by
   rw[List.getElem?_map,Option.map_eq_some_iff]at he;obtain⟨x,hx,rfl⟩:=he;exact⟨x,hx,rfl⟩
  have:=cb.sl (w:=v) (D:=fun b=>b<v.heap.size) (b:=b) (o:=o) (c:=c) (k:=1) (xs:=bs.map fun b=>[.v (.int .u8 b)]) (fun i _=> .int .u8 (bs.getD i 0)) (by simp;omega) hc (by rw[hz];exact aj) (fun i e he=>by obtain⟨x,_,rfl⟩:=se i e he;rfl)
   (fun i e he j r hj=>by
    obtain⟨x,hx,rfl⟩:=se i e he;rcases j with _|j
    ·have:=dq i (.int .u8 x) (by simp[Jq,hx])
     rw[add_lit]at this;rw[List.getD_eq_getElem?_getD,hx,show o+(i*1+0)=o+i by omega]
     exact hv _ _ _ this
    ·simp at hj)
   (fun i e he j r hj=>by
    obtain⟨x,hx,rfl⟩:=se i e he;rcases j with _|j
    ·cases hj
     rw[List.getD_eq_getElem?_getD,hx];exact .v rfl
    ·simp at hj)
  simpa[hl]using this
theorem Ck {f:FuncId}{W:World}{A:Option Addr}{n c:Nat}{bs:List Int}(hA:Sr.JH W A)(hn:n≤c)(hc:c≤maxLen)(hr:Reads W W.heap.size 1 A n (Jq bs))(hT:TC Tw.prog lQ f [gR (pw bs)] 0 [] (gB true) [])(v:World)(hv:∀q k z,W.cell? q=some (.int k z)→v.cell? q=some (.int k z))(hz:v.heap.size=W.heap.size):
  Calls Tw.prog f #[.slice A n c] v Sr.rS:=by
 refine(hT.2 v #[.slice A n c] (fun _=>none) (fun b=>b<v.heap.size) rfl (fun i g hg=>?_) (fun k h=>h) (fun b y h=>by cases h) (fun b y g h=>by cases h) (fun b y b' y' g h=>by cases h)).mono ?_
 ·rcases i with _|i
  ·cases hg
   exact .s (.r (Jr hA hn hc hr hv hz))
  ·simp at hg
 ·rintro e w' (⟨ch,rfl,hE⟩|⟨x,ρ',D',rfl,hx,_⟩)
  ·exact .inr hE
  ·left
   rw[pg hx]
end Go.Proofs.YtjklkppncmhehaaGreat.T
namespace Go.Proofs.YtjklkppncmhehaaGreat.fnRecoverStampSame
open Go.ChangeShapes Go.WideShapes Go.ChangeAt Go.RowKit Go.Conc Go.Joins
set_option maxRecDepth 100000 in
theorem lifted (os:Os)(started:os.Started)(H:Type)(enc:TypeId×Value→H):
  ReturnsInLeavingWide {} Tryz.checked os 4 .any (Rows.fnRecoverStampSameSpec.pre6 enc Tryz.prog Tryz.f4 Rows.fnRecoverStampSameRow.domain false) (Rows.fnRecoverStampSameSpec.post enc Tryz.prog Tryz.f4 false true false false):=by
 refine returnsInLeavingWide_of_change_sized (C:=Tryz.checked) own started Tryz.func4
  (ChangeSpec.witness6 (enc:=enc) (C:=Tryz.checked) false ⟨#[],#[.slice none 0 0],[]⟩ 8 (by kernel_rfl) (by kernel_rfl) (by kernel_rfl) (by kernel_rfl)) ?_
 intro W base args ds gs before P_ hW _ _ _;have wX:∀(j:Nat) t v,Tryz.f4.params[j]?=some t→args[j]?=some v→Value.okWide Tryz.prog W .any base t v:=P_
 have hW':=hW;obtain⟨p,q,XD,hV,rfl,pA,hnd⟩:=hW;have hA:DataW.TrodAll enc Tryz.prog W 0 (fun _=>true) true Tryz.f4.params.toList args.toList ds p:=XD
 rw[Tryz.params4]at hA wX;obtain⟨v0,vs0,d0,ds0,p0,q0,qQ,rfl,rfl,h0,r0⟩:=trodAll_cons hA;obtain⟨rfl,rfl,rfl⟩:=trodAll_nil r0;obtain rfl:args= #[v0]:=by cases args;simp_all
 obtain⟨rfl,rfl⟩:=trodVars_none hV;have k0:=h0;have lt0:∀x∈p0,x.block<W.heap.size:=by obtain⟨m,hm⟩:=k0;exact DataW.trod_lt m _ _ _ hm
 have OS:=wX 0 22 v0 rfl rfl;obtain⟨A,n,c,bs,rfl,hn,hc,hr,hb⟩:=MU OS h0;clear XD P_;obtain⟨M,last,o,w',t',U,h2,h3,h4⟩:=Sr.yz (f:=4) (n:=n) (c:=c) (by decide+kernel) (by decide+kernel) (Sr.FG Tryz.underlying22 OS) (fun v dq hz=>T.Ck (Sr.FG Tryz.underlying22 OS) hn hc hr (T.abb bs hb) v dq hz)
 refine⟨M,last,o,w',t',U,h2,h3,h4.mono fun v hF=>?_⟩
 obtain⟨rfl,XE⟩:v= .bool true∧Below W.heap.size W w':=hF;exact⟨_,_,_,[],_,[],hW',trodAll_mk1 (shut_bool Tryz.underlying4 _),(trodAll_cons_mk (Below.trod laidOut (by kernel_rfl) (of_decide_eq_true (by kernel_rfl)) k0 XE lt0) trodAll_mk0),rfl,XE.frame _,fun h=>by cases h⟩
theorem andT {a b:Bool}(h:a=true)(k:b=true):(a&&b)=true:=by rw[h,k];rfl
set_option maxHeartbeats 4000000 in
theorem closed:joinedFacts Tryz.pinned.checked.prog 4 Tryz.f4 Rows.fnRecoverStampSameSpec Rows.fnRecoverStampSameRow=true:=by
 unfold joinedFacts
 repeat (with_reducible refine andT ?_ (by as_aux_lemma=>kernel_rfl))
 as_aux_lemma=>kernel_rfl
theorem named:Tryz.pinned.checked.prog.funcNamed Rows.fnRecoverStampSameRow.func=some 4:=by kernel_rfl
theorem over:Rows.fnRecoverStampSameRow.holds Tryz.pinned (OpenSpec.ofChange Rows.fnRecoverStampSameSpec):=
 OpenClaim.holds_of_wide_leaving 4 Tryz.f4 rfl rfl rfl rfl rfl rfl rfl ⟨rfl,rfl,rfl,rfl,rfl⟩ rfl rfl rfl rfl rfl named Tryz.func4 closed
  (of_decide_eq_true (by kernel_rfl)) (by unfold Func.isWrapper;first|(rw[if_pos (by decide+kernel)];kernel_rfl)|(rw[if_neg (by decide+kernel)];exact⟨rfl,rfl⟩))
  (fun os started H enc _=>lifted os started H enc)
theorem proved:Rows.FnRecoverStampSameSaid:=over
#print axioms proved
end Go.Proofs.YtjklkppncmhehaaGreat.fnRecoverStampSame
