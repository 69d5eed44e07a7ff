/-
What is proved: what the program's run does to trees: an event of a packet and what rests on it. Conditions: as stated.
-/
import Derived.Test.YtabjbdnokpjipaaGreatRw46
import Derived.Test.YtabjbdnokpjipaaGreatRw25
import Derived.Test.YtabjbdnokpjipaaGreatRw35
import Derived.Test.YtabjbdnokpjipaaGreatRw43
import Derived.Test.YtabjbdnokpjipaaGreatRw44
import Derived.Test.YtabjbdnokpjipaaGreatRw40
set_option linter.unusedVariables false
set_option linter.unusedSimpArgs false
namespace Go.Proofs.YtabjbdnokpjipaaGreat.T
open Go Go.RowKit
set_option maxRecDepth 100000
set_option maxHeartbeats 4000000
variable {E:List PanicEntry→World→Prop}
abbrev ZD (lk:Int) (w:aA):List (Nat×az):=[(0,.box [.r (.v (.int .i32 lk)),.r (.v (.int .u32 0)),.r (kz w.aj),.r (dq w.ae),.r (zx w.rounds),.r (rS w.aP),.r (Du w.aX)])]
theorem Of (w:aA)(lk k a:Int)(h:b_ w)(hs:cw 2000 w):TC Tw.prog E 78 [I3,gI .i64 k,gI .i64 a] 6 (AP lk w) (.p []) (ZD lk (sW w k a)):=by
 have hN:jw w:=hs.mono (by omega)
 have kP:=h.nl;refine tE Tryz.f78 Tryz.ntmps78 (by rw[Tryz.results78]) ?_ (hfit:=(Fits.of (by simp[dw,az.live,List.range_succ]) (by simp) (by simp)))
 unfold sW;by_cases ha:a<0
 ·rw[if_pos ha]
  (refine TW.go ?_;simp[ha];repeat' first|intro hc|refine aa.mk ?_|refine aI ?_|refine af ?_ ?_)
  exact oW [] [1,2,3,4,5]
 ·rw[if_neg ha]
  have eM:0≤a:=by omega
  rcases hn:w.aX[a.toNat]? with _|p
  ·have ov:=List.getElem?_eq_none_iff.1 hn
   have cJ:(w.aX.length:Int)≤a:=by omega
   (refine TW.go ?_;simp[ha,cJ];repeat' first|intro hc|refine aa.mk ?_|refine aI ?_|refine af ?_ ?_)
   exact oW [] [1,2,3,4,5]
  ·have ak:=(List.getElem?_eq_some_iff.1 hn).1
   have cJ:¬(w.aX.length:Int)≤a:=by omega
   have R_:a<(w.aX.length:Int):=by omega
   have hpk:=h.aX p (List.mem_of_getElem? hn);simp only
   by_cases k4:k=4
   ·rw[if_pos k4]
    have hT:=m_ (E:=E) w lk p.k p.m p.t p.s [p.g] (by simp) kP
    simp only[List.foldl_cons,List.foldl_nil]at hT;have e:(⟨p.k,p.m,p.g,p.t,p.s⟩:dE)=p:=rfl
    rw[e]at hT;generalize dg w p=v at*;simp at hT
    (refine TW.go ?_;simp[cd,ha,cJ,eM,hn,k4];repeat' first|intro hc|refine aa.mk ?_|refine aI ?_|refine af ?_ ?_|(refine cLP [0,1,2,3,4,5] [7] 5 ?_;refine⟨_,_,_,_,hT,?_⟩;simp[cd,ha,cJ,eM,hn,k4]))
    exact oW [] [8,9,10,11,12]
   ·rw[if_neg k4]
    refine TW.weaken ⟨[(0,I3),(1,gI .i64 k),(2,gI .i64 a)],[(0,.box [.r (.v (.int .i32 lk)),.r (.v (.int .u32 0)),.own 1,.own 2,.own 3,.own 4,.r (Du w.aX)]),(1,rZ w.aj),(2,fp w.ae),(3,r_ w.rounds),(4,mh w.aP)],6⟩ (kO [] [5]) ?_;have Bu:IntKind.i64.wrap (a+1)=a+1:=aQ (by omega) (by omega)
    have pa:(a+1).toNat=a.toNat+1:=by omega
    have eI:0≤a+1:=by omega
    have uu:=List.eraseIdx_eq_take_drop_succ w.aX a.toNat;have hC:=AO (E:=E) (w.aX.take a.toNat) (by simp;omega)
    simp only[Du,qF,List.map_take]at hC;have zq:tc (⟨w.aj,w.ae,w.rounds,w.aP,w.aX.eraseIdx a.toNat⟩:aA).aj (⟨w.aj,w.ae,w.rounds,w.aP,w.aX.eraseIdx a.toNat⟩:aA).ae p:=hpk
    have hH:=Ra (E:=E) ⟨w.aj,w.ae,w.rounds,w.aP,w.aX.eraseIdx a.toNat⟩ lk p (h.erase _) (hs.erase _) zq;have hO:=VP (E:=E) p;by_cases k2:k=2
    ·rw[if_pos k2]
     generalize np ⟨w.aj,w.ae,w.rounds,w.aP,w.aX.eraseIdx a.toNat⟩ p=v at*;simp[uu]at hH;have bf:(xp p).names=[]:=by unfold xp;split;rfl;split<;>rfl
     generalize xp p=op at*;have So:∀f:Nat→Nat,op.bI f=op:=fun f=>GV.js f _ bf
     (refine TW.go ?_;simp[cd,ha,eM,eI,cJ,hn,k4,k2,Bu,pa,maxLen,bf,So];repeat' first|intro hc|refine aa.mk ?_|refine aI ?_|refine af ?_ ?_|(refine cP ?_;refine⟨_,hO,?_⟩;simp[cd,ha,eM,eI,cJ,hn,k4,k2,Bu,pa,maxLen,bf,So])|(refine cF [] 1 ?_;refine⟨_,_,hC,?_⟩;simp[cd,ha,eM,eI,cJ,hn,k4,k2,Bu,pa,maxLen,bf,So])|(refine cL [0,1,2,3,4,8] 5 ?_;refine⟨_,_,_,_,hH,?_⟩;simp[cd,ha,eM,eI,cJ,hn,k4,k2,Bu,pa,maxLen,bf,So]))
     exact oW [] [9,10,11,12,13]
    ·rw[if_neg k2]
     (refine TW.go ?_;simp[cd,ha,eM,eI,cJ,hn,k4,k2,Bu,pa,maxLen];repeat' first|intro hc|refine aa.mk ?_|refine aI ?_|refine af ?_ ?_|(refine cF [] 1 ?_;refine⟨_,_,hC,?_⟩;simp[cd,ha,eM,eI,cJ,hn,k4,k2,Bu,pa,maxLen]))
     refine aT.own [] [1,2,3,4,8] (by simp;rfl) (by simp[uu]) (by simp) (by simp) (by simp[uu]) (by simp)
theorem I_ (w:aA)(lk k a:Int)(h:b_ w)(hs:cw 2000 w):TC Tw.prog bq 79 [I3,gI .i64 k,gI .i64 a] 6 (AP lk w) (.p []) (ZD lk (fM w k a)):=by
 have hN:jw w:=hs.mono (by omega)
 have kP:=h.nl;have Bn:=h.rl;have kl:=h.sl;unfold fM;by_cases ha:a<0∨(w.aj.length:Int)≤a
 ·rw[if_pos ha]
  refine tE Tryz.f79 Tryz.ntmps79 (by rw[Tryz.results79]) ?_ (hfit:=(Fits.of (by simp[dw,az.live,List.range_succ]) (by simp) (by simp)))
  by_cases eI:a<0
  ·(refine TW.go ?_;simp[eI];repeat' first|intro hc|refine aa.mk ?_|refine aI ?_|refine af ?_ ?_)
   exact oW [] [1,2,3,4,5]
  ·have zM:(w.aj.length:Int)≤a:=by omega
   (refine TW.go ?_;simp[eI,zM];repeat' first|intro hc|refine aa.mk ?_|refine aI ?_|refine af ?_ ?_)
   exact oW [] [1,2,3,4,5]
 ·rw[if_neg ha]
  have h0:0≤a:=by omega
  have h1:a<w.aj.length:=by omega
  have eI:¬a<0:=by omega
  have zM:¬(w.aj.length:Int)≤a:=by omega
  have hR:=nY hN h0 h1;have hS:=se hN h0 h1;by_cases k5:k=5
  ·rw[if_pos k5]
   refine tE Tryz.f79 Tryz.ntmps79 (by rw[Tryz.results79]) ?_ (hfit:=(Fits.of (by simp[dw,az.live,List.range_succ]) (by simp) (by simp)))
   (refine TW.go ?_;simp[eI,zM,k5,h0,hS];repeat' first|intro hc|refine aa.mk ?_|refine aI ?_|refine af ?_ ?_)
   refine aT.own [] [1,2,3,4,5] (by simp;rfl) (by simp[List.map_set]) (by simp) (by simp) (by simp[List.map_set]) (by simp)
  ·rw[if_neg k5]
   by_cases k6:k=6
   ·rw[if_pos k6]
    cases aZ:pM w a
    ·rw[if_neg (by simp)]
     have Rb:=uI h h0 h1;have hM:=tb (E:=bq) (bC w a) (DY hN h0 h1) Rb;rw[aa7 Rb]at hM;have GQ:=h.oU a.toNat (by omega)
     have hmi:∀g∈dk (bC w a),g∈w.aj.getD a.toNat []:=fun g hg=>by
      have:=N9 hg
      rwa[show(bC w a).gs=w.aj.getD a.toNat []from GQ.st]at this
     have hml:(dk (bC w a)).length≤5:=by
      have e:=(eY (pP Rb).1).2.1;refine Nat.le_trans ?_ e;unfold dk;rw[if_pos Rb];exact List.length_filter_le _ _
     have hT:TC Tw.prog bq _ _ 6 (AP lk w) (.p []) (N2 lk (im w a (dk (bC w a)))):=m_ (E:=bq) w lk 1 a 0 0 (dk (bC w a)) (by omega) kP
     have hW:=h.ask h0 h1 hmi;obtain⟨nM,Bp⟩:=NO hs h0 h1;have jg:a<((im w a (dk (bC w a))).aj.length:Int):=by rw[Bp];exact h1
     have hF:=GA (E:=bq) (im w a (dk (bC w a))) lk a (nM.mono (by omega)) h0 jg (uI hW h0 jg)
     clear hW nM Bp jg hmi GQ;generalize im w a (dk (bC w a))=v at*;generalize jS v a=u at*;generalize dk (bC w a)=M at*;refine tE Tryz.f79 Tryz.ntmps79 (by rw[Tryz.results79]) ?_ (hfit:=(Fits.of (by simp[dw,az.live,List.range_succ]) (by simp) (by simp)))
     (refine TW.go ?_;simp[eI,zM,k6,h0,hS,aZ,hR,aK];repeat' first|intro hc|refine aa.mk ?_|refine aI ?_|refine af ?_ ?_|(refine cP ?_;refine⟨_,hM,?_⟩;simp[eI,zM,k6,h0,hS,aZ,hR,aK])|(refine cL [0,1,2,3,4,5] 5 ?_;refine⟨_,_,_,_,hT,?_⟩;simp[eI,zM,k6,h0,hS,aZ,hR,aK])|(refine cL [0,6,7,8,9,10] 5 ?_;refine⟨_,_,_,_,hF,?_⟩;simp[eI,zM,k6,h0,hS,aZ,hR,aK]))
     exact oW [] [11,12,13,14,15]
    ·rw[if_pos rfl]
     refine tE Tryz.f79 Tryz.ntmps79 (by rw[Tryz.results79]) ?_ (hfit:=(Fits.of (by simp[dw,az.live,List.range_succ]) (by simp) (by simp)))
     (refine TW.go ?_;simp[eI,zM,k6,h0,hS,aZ];repeat' first|intro hc|refine aa.mk ?_|refine aI ?_|refine af ?_ ?_)
     exact oW [] [1,2,3,4,5]
   ·rw[if_neg k6]
    by_cases k7:k=7
    ·rw[if_pos k7]
     have hm:=Oe h h0 h1;have jj:=ve h h0 h1;have dP:mi w.ae (setAt w a) a=true:=by rw[mi,DU h,jj,hm];rfl
     have bh:w.aj[a.toNat]?=some (setAt w a):=by rw[setAt,List.getD_eq_getElem?_getD,List.getElem?_eq_getElem (by omega)];rfl
     have hL:iC w.ae 4000:=⟨by have:=hs.g5;omega,fun g hg=>by have:=(hs.dS g hg).1;exact⟨by omega,by omega⟩⟩
     rcases E' w.ae (setAt w a) a hL with⟨e, -⟩|⟨-,hP⟩
     ·rw[dP]at e;cases e
     ·unfold lz at hP
      rw[if_pos dP]at hP;clear dP jj;generalize setAt w a=S at*;refine tE Tryz.f79 Tryz.ntmps79 (by rw[Tryz.results79]) ?_ (hfit:=(Fits.of (by simp[dw,az.live,List.range_succ]) (by simp) (by simp)))
      refine TW.weaken ⟨[(0,I3),(1,gI .i64 k),(2,gI .i64 a)],[(0,.box [.r (.v (.int .i32 lk)),.r (.v (.int .u32 0)),.r (kz w.aj),.r (dq w.ae),.own 3,.own 4,.own 5]),(3,r_ w.rounds),(4,mh w.aP),(5,qF w.aX)],6⟩ (kO [] [1,2]) ?_
      cases hb:(eH w.ae S a).2
      ·rw[hb]at hP
       rw[if_neg (by simp)]at hP⊢
       (refine TW.go ?_;simp[eI,zM,k7,h0,bh];repeat' first|intro hc|refine aa.mk ?_|refine aI ?_|refine af ?_ ?_|(refine cP ?_;refine⟨_,hP,?_⟩;simp[eI,zM,k7,h0,bh]))
       exact oW [] [3,4,5]
      ·rw[hb]at hP
       rw[if_pos rfl]at hP⊢;generalize(eH w.ae S a).1=bX at*;(refine TW.go ?_;simp[eI,zM,k7,h0,bh];repeat' first|intro hc|refine aa.mk ?_|refine aI ?_|refine af ?_ ?_|(refine cP ?_;refine⟨_,hP,?_⟩;simp[eI,zM,k7,h0,bh]))
       exact oW [] [3,4,5]
    ·rw[if_neg k7]
     refine tE Tryz.f79 Tryz.ntmps79 (by rw[Tryz.results79]) ?_ (hfit:=(Fits.of (by simp[dw,az.live,List.range_succ]) (by simp) (by simp)))
     (refine TW.go ?_;simp[eI,zM,k5,k6,k7];repeat' first|intro hc|refine aa.mk ?_|refine aI ?_|refine af ?_ ?_)
     exact oW [] [1,2,3,4,5]
end Go.Proofs.YtabjbdnokpjipaaGreat.T
namespace Go.Proofs.YtabjbdnokpjipaaGreat.T
open Go Go.RowKit
noncomputable def aa9:Code:=match Tw.GD.body with
 |some (.seq _ (.seq _ r))=>r
 |_=> .skip
def dH:Array Oper:= #[{dst:=some 4,op:= .move (.const (.bool true)),type:=0,pos:= "",after:= #[],guard:=none},{dst:=some 4,op:= .move (.const (.bool false)),type:=0,pos:= "",after:= #[],guard:=none}]
def jy:Array Oper:= #[{dst:=some 5,op:= .makeFunc (.func Sr.bE) #[.tmp 0,.tmp 1] #[],type:=0,pos:= "",after:= #[],guard:=none},{dst:=some 6,op:= .makeInterface Sr.nQ (.tmp 5),type:=0,pos:= "",after:= #[],guard:=none},{dst:=none,op:= .panic (.tmp 6),type:=0,pos:= "",after:= #[],guard:=none}]
def ZE (rest:Code):Code:= .seq (.region 70 dH true) (.seq (.cond (.tmp 4) (.region 71 jy false) .skip) rest)
theorem Re:Tw.GD.body=some (ZE aa9):=by kernel_rfl
theorem kK {ops:Array Oper}{Q:Exit→Act→World→Prop}{i:Nat}{K:Act→World→Prop}{a:Act}{w:World}{o:Oper}{v:Value}(ho:ops[i]?=some o)(hg:o.guard=none)(hr:(execOp a.eval o).run Tw.prog w= .ok (.value v) w)(h:K (a.put o.dst v) w):wpOp Tw.prog ops Q i K a w:=by
 unfold wpOp;rw[ho];simp only
 rw[if_pos (by unfold Region.wanted;rw[hg])]
 left
 unfold Oper.wp;rw[hr];exact h
theorem Og {ops:Array Oper}{Q:Exit→Act→World→Prop}{i:Nat}{K:Act→World→Prop}{a:Act}{w:World}{o:Oper}{v:Value}(ho:ops[i]?=some o)(hg:o.guard=none)(hr:(execOp a.eval o).run Tw.prog w= .halt (.panic v) w)(h:Q (.panic [{v,recovered:=false}]) a w):wpOp Tw.prog ops Q i K a w:=by
 unfold wpOp;rw[ho];simp only
 rw[if_pos (by unfold Region.wanted;rw[hg])]
 left
 unfold Oper.wp;rw[hr];exact h
theorem yP {a:Act}{d t:Nat}{v:Value}(h:d≠t):(a.put (some d) v).tmps.getD t undef=a.tmps.getD t undef:=by
 simp[Act.put,Array.getD_eq_getD_getElem?,Array.getElem?_setIfInBounds,h]
theorem sH {a:Act}{d:Nat}{v:Value}(h:d<a.tmps.size):(a.put (some d) v).tmps.getD d undef=v:=by
 simp[Act.put,Array.getD_eq_getD_getElem?,Array.getElem?_setIfInBounds,h]
theorem GB {s:Sem Next}{x:Next}(h:Sr.lK Tw.prog s #[]=some (x,#[]))(w:World):s.run Tw.prog w= .ok x w:=by
 have:=Sem.runT_fst Tw.prog s w #[]
 rw[Sr.wz h]at this;exact this.symm
theorem ZF (ρ:Operand→Value):Sr.lK Tw.prog (execOp ρ jy[1]) #[]=some (.value (.iface Sr.nQ (ρ (.tmp 5))),#[]):=by kernel_rfl
theorem V1 (ρ:Operand→Value):execOp ρ jy[2]=execOp (fun _=>ρ (.tmp 6)) jy[2]:=by kernel_rfl
theorem V2 (us:Array Value):execOp (fun _=>Sr.jX us) jy[2]= .halt (.panic (Sr.jX us)):=by kernel_rfl
theorem TW.adU {E:List PanicEntry→World→Prop}{nt m:Nat}{rest:Code}{Q:Exit→ah→Prop}{s:ah}(hnt:6<nt)(hu:lk 4 s.env= .u)
  (adV:∀(C:Ctx) (a:Act) (w:World),R C (iI s) s.get a w→E [{v:=Sr.jX #[a.tmps.getD 0 undef,a.tmps.getD 1 undef],recovered:=false}] w) (h:TW Tw.prog E nt m rest Q s):TW Tw.prog E nt m (ZE rest) Q s:=by
 intro C a w hn hm hR Q' hQ hE;obtain⟨ρ,D,hR⟩:=hR;have kq:a.tmps.size=nt:=hR.nt.trans hn
 have hR1:Rel C (iI s) s.get a {w with drawn:=w.drawn+1} ρ D:=hR.heap rfl rfl rfl rfl
 have Dw:∀v,Rel C (iI s) s.get (a.put (some 4) v) {w with drawn:=w.drawn+1} ρ D:=fun v=>by
  have:=hR1.put (dst:=some 4) (v:=v) (g:= .u) (fun d hd=>by cases hd;rw[hn];omega) .u
  rwa[show T.put (iI s) (some 4) .u=iI s from funext fun t=>by
   unfold T.put;split
   ·rename_i e
    cases e;exact hu.symm
   ·rfl]at this
 have vE:∀b,Exit.then ((Code.seq (.cond (.tmp 4) (.region 71 jy false) .skip) rest).wp Tw.prog Q') Q' .normal (a.put (some 4) (.bool b)) {w with drawn:=w.drawn+1}:=by
  intro b;show(Code.seq _ rest).wp Tw.prog Q' _ _
  have B9:(a.put (some 4) (.bool b)).eval (.tmp 4)= .bool b:=sH (by omega)
  refine wp_seq ?_
  cases b
  ·refine wp_cond_false B9 (wp_skip ?_)
   exact h C _ _ hn hm ⟨ρ,D,Dw _⟩ Q' hQ hE
  ·refine wp_cond_true B9 (wp_region ?_)
   show wpOps Tw.prog jy _ [0,1,2] _ _
   rw[wpOps_cons];have e0:(a.put (some 4) (.bool true)).eval (.tmp 0)=a.tmps.getD 0 undef:=yP (by decide)
   have e1:(a.put (some 4) (.bool true)).eval (.tmp 1)=a.tmps.getD 1 undef:=yP (by decide)
   refine kK (o:=jy[0]) (v:= .func (.func Sr.bE) #[a.tmps.getD 0 undef,a.tmps.getD 1 undef] #[]) rfl rfl ?_ ?_
   ·rw[←e0,←e1]
    generalize a.put (some 4) (.bool true)=a4;exact GB (by kernel_rfl) _
   rw[wpOps_cons];refine kK (o:=jy[1]) (v:= .iface Sr.nQ (.func (.func Sr.bE) #[a.tmps.getD 0 undef,a.tmps.getD 1 undef] #[])) rfl rfl ?_ ?_
   ·exact GB ((ZF _).trans (congrArg (fun v=>some (Next.value (.iface Sr.nQ v),(#[]:Array Event))) (sH (d:=5) (a:=a.put (some 4) (.bool true)) (by simp[Act.put];omega)))) _
   rw[wpOps_cons];refine Og (o:=jy[2]) (v:=Sr.jX #[a.tmps.getD 0 undef,a.tmps.getD 1 undef]) rfl rfl ?_ ?_
   ·refine(congrArg (fun x:Sem Next=>x.run Tw.prog _) ((V1 _).trans ((congrArg (fun v=>execOp (fun _=>v) jy[2]) (sH (d:=6) (a:=(a.put (some 4) (.bool true)).put (some 5) (.func (.func Sr.bE) #[a.tmps.getD 0 undef,a.tmps.getD 1 undef] #[])) (v:=Sr.jX #[a.tmps.getD 0 undef,a.tmps.getD 1 undef]) ?_)).trans (V2 _)))).trans rfl
    simp[Act.put];omega
   ·show Q' _ _ _
    refine hE _ _ _ hR.defers ?_;exact adV C a _ ⟨ρ,D,hR1⟩
 refine wp_seq (wp_region_any (by kernel_rfl) ?_)
 have r0:Region.ready .any dH (Array.replicate 2 false)=[0,1]:=by decide+kernel
 have r1:Region.ready .any dH #[true,false]=[1]:=by decide+kernel
 have r2:Region.ready .any dH #[false,true]=[0]:=by decide+kernel
 have r3:Region.ready .any dH #[true,true]=[]:=by decide+kernel
 have pp:∀x y:Value,(a.put (some 4) x).put (some 4) y=a.put (some 4) y:=fun x y=>by simp[Act.put]
 have mv:∀(c:Act) (b:Bool) (o:Oper),o.op= .move (.const (.bool b))→(execOp c.eval o).run Tw.prog {w with drawn:=w.drawn+1}= .ok (.value (.bool b)) {w with drawn:=w.drawn+1}:=fun c b o ho=>by
  unfold execOp;rw[ho];rfl
 refine⟨fun h0=>(by rw[show dH.size=2 from rfl,r0]at h0;cases h0),fun i hi=>?_⟩
 rw[show dH.size=2 from rfl,r0]at hi
 have fB:i=0∨i=1:=by simpa using hi
 rcases fB with rfl|rfl
 ·refine kK (o:=dH[0]) (v:= .bool true) rfl rfl (mv _ _ _ rfl) ?_
  refine⟨fun h0=>(by rw[show(Array.replicate dH.size false).setIfInBounds 0 true= #[true,false]from rfl,r1]at h0;cases h0),fun i hi=>?_⟩
  rw[show(Array.replicate dH.size false).setIfInBounds 0 true= #[true,false]from rfl,r1]at hi
  obtain rfl:i=1:=by simpa using hi
  refine kK (o:=dH[1]) (v:= .bool false) rfl rfl (mv _ _ _ rfl) ⟨r3,?_⟩;rw[show((a.put dH[0].dst (.bool true)).put dH[1].dst (.bool false))=a.put (some 4) (.bool false)from pp _ _]
  exact vE false
 ·refine kK (o:=dH[1]) (v:= .bool false) rfl rfl (mv _ _ _ rfl) ?_
  refine⟨fun h0=>(by rw[show(Array.replicate dH.size false).setIfInBounds 1 true= #[false,true]from rfl,r2]at h0;cases h0),fun i hi=>?_⟩
  rw[show(Array.replicate dH.size false).setIfInBounds 1 true= #[false,true]from rfl,r2]at hi
  obtain rfl:i=0:=by simpa using hi
  refine kK (o:=dH[0]) (v:= .bool true) rfl rfl (mv _ _ _ rfl) ⟨r3,?_⟩;rw[show((a.put dH[1].dst (.bool false)).put dH[0].dst (.bool true))=a.put (some 4) (.bool true)from pp _ _]
  exact vE true
end Go.Proofs.YtabjbdnokpjipaaGreat.T
namespace Go.Proofs.YtabjbdnokpjipaaGreat.T
open Go Go.RowKit
set_option maxRecDepth 100000
set_option maxHeartbeats 4000000
theorem ZG {w:aA}{k a:Int}(h1:k≠1)(h2:k≠2)(h3:k≠3)(h4:k≠4)(h5:k≠5)(h6:k≠6)(h7:k≠7):h_ w k a=w:=by
 unfold h_ fM;rw[if_neg h1,if_neg (by omega)]
 simp[h5,h6,h7]
theorem ZH {ρ:Nat→Option Value}{w:World}{D:Nat→Prop}{v x:Value}(h:cG ρ w D v (.r (.v x))):v=x:=by
 cases h with
 |r h=>cases h;rfl
theorem ZI (w:aA)(k a:Int)(h:b_ w)(hs:cw 2000 w):TC Tw.prog bq 44 [.s (.ptr 0 0),gE k a] 6 (AP 0 w) (.p []) (ZD 0 (h_ w k a)):=by
 have hN:jw w:=hs.mono (by omega)
 have kP:=h.nl;refine tE Tw.GD Tryz.ntmps44 (show Tryz.f44.results.toList=_ by rw[Tryz.results44]) ?_ (hf:=Tw.uL) (hb:=Re) (hfit:=(Fits.of (by simp[dw,az.live,List.range_succ]) (by simp) (by simp)))
 refine TW.adU (by decide) rfl ?_ ?_
 ·intro C x v hR
  obtain⟨ρ,D,hR⟩:=hR;have h0:bA ρ v D (x.tmps.getD 0 undef) (.s (.ptr 0 0)):=hR.env 0
  obtain⟨g,arr,ty,e1,e2,e3,e4⟩:ew ρ v D (ρ 0) (.box [.r (.v (.int .i32 0)),.r (.v (.int .u32 0)),.own 1,.own 2,.own 3,.own 4,.own 5]):=hR.blk 0 _ rfl;have h1:=ZH (e4 0 _ rfl);generalize x.tmps.getD 0 undef=y at*;generalize x.tmps.getD 1 undef=z at*
  cases h0 with
  |s h0=>
   cases h0 with
   | @ptr _ g' _ hp=>
     rw[e1]at hp
     cases hp;refine .inr ⟨_,rfl,g,z,rfl,fun u hu=>?_⟩
     have hc:u.heap[g]?=some (.cells arr ty (0,0)):=by rw[hu];exact e2
     have h2:arr[0]?=some (.int .i32 0):=by
      have:0<arr.size:=by rw[e3];decide
      rw[Array.getElem?_eq_getElem this];rw[Array.getD_eq_getD_getElem?,Array.getElem?_eq_getElem this]at h1;exact congrArg some h1
     constructor
     ·unfold World.cell?
      simp[hc,h2]
     ·unfold World.frozen?
      simp[hc]
 ·show TW Tw.prog bq _ 6 (.seq (.region _ #[_] _) (.seq (.region _ #[_,_,_,_] _) (.seq (.region _ #[_,_,_] _) (.seq (.seq _ _) (.seq (.region _ #[_,_] _) (.cond _ (.region _ #[_] _) (.loop .skip))))))) _ _
  by_cases k1:k=1
  ·have hS:=aa6 (E:=bq) w 1 a hN
   rw[show h_ w k a=kA w a by rw[h_,if_pos k1]]
   generalize kA w a=v at*;(refine TW.go ?_;simp[k1];repeat' first|intro hc|refine aa.mk ?_|refine aI ?_|refine af ?_ ?_|(refine cL [0,1,2,3,4,5] 5 ?_;refine⟨_,_,_,_,hS,?_⟩;simp[k1]))
   exact oW [] [7,8,9,10,11]
  ·by_cases k2:k=2∨k=3∨k=4
   ·have hP:=Of (E:=bq) w 1 k a h hs
    rw[show h_ w k a=sW w k a by rw[h_,if_neg k1,if_pos k2]]
    generalize sW w k a=v at*;rcases k2 with rfl|rfl|rfl
    ·(refine TW.go ?_;simp;repeat' first|intro hc|refine aa.mk ?_|refine aI ?_|refine af ?_ ?_|(refine cL [0,1,2,3,4,5] 0 ?_;refine⟨_,_,_,_,hP,?_⟩;simp))
     exact oW [] []
    ·(refine TW.go ?_;simp;repeat' first|intro hc|refine aa.mk ?_|refine aI ?_|refine af ?_ ?_|(refine cL [0,1,2,3,4,5] 0 ?_;refine⟨_,_,_,_,hP,?_⟩;simp))
     exact oW [] []
    ·(refine TW.go ?_;simp;repeat' first|intro hc|refine aa.mk ?_|refine aI ?_|refine af ?_ ?_|(refine cL [0,1,2,3,4,5] 0 ?_;refine⟨_,_,_,_,hP,?_⟩;simp))
     exact oW [] []
   ·by_cases k5:k=5∨k=6∨k=7
    ·have hM:=I_ w 1 k a h hs
     rw[show h_ w k a=fM w k a by rw[h_,if_neg k1,if_neg k2]]
     generalize fM w k a=v at*;rcases k5 with rfl|rfl|rfl
     ·(refine TW.go ?_;simp;repeat' first|intro hc|refine aa.mk ?_|refine aI ?_|refine af ?_ ?_|(refine cL [0,1,2,3,4,5] 0 ?_;refine⟨_,_,_,_,hM,?_⟩;simp))
      exact oW [] []
     ·(refine TW.go ?_;simp;repeat' first|intro hc|refine aa.mk ?_|refine aI ?_|refine af ?_ ?_|(refine cL [0,1,2,3,4,5] 0 ?_;refine⟨_,_,_,_,hM,?_⟩;simp))
      exact oW [] []
     ·(refine TW.go ?_;simp;repeat' first|intro hc|refine aa.mk ?_|refine aI ?_|refine af ?_ ?_|(refine cL [0,1,2,3,4,5] 0 ?_;refine⟨_,_,_,_,hM,?_⟩;simp))
      exact oW [] []
    ·simp only[not_or]at k2 k5
     obtain⟨k2,k3,k4⟩:=k2;obtain⟨k5,k6,k7⟩:=k5;rw[ZG k1 k2 k3 k4 k5 k6 k7];(refine TW.go ?_;simp[k1,k2,k3,k4,k5,k6,k7];repeat' first|intro hc|refine aa.mk ?_|refine aI ?_|refine af ?_ ?_)
     exact oW [] [1,2,3,4,5]
end Go.Proofs.YtabjbdnokpjipaaGreat.T
namespace Go.Proofs.YtabjbdnokpjipaaGreat.T
open Go Go.RowKit
set_option maxRecDepth 100000
set_option maxHeartbeats 4000000
variable {E:List PanicEntry→World→Prop}
theorem mo (xs:List Int)(n:Int):TC Tw.prog E 15 [gR (aY xs),gI .i64 n] 0 [] (gB (cb xs n)) []:=by
 refine tE Tryz.f15 Tryz.ntmps15 (by rw[Tryz.results15]) ?_
 refine TW.len 0 rfl fun hlen=>?_;simp only[List.length_map]at hlen;(refine TW.go ?_;simp;repeat' first|intro hc|refine aa.mk ?_|refine aI ?_|refine af ?_ ?_)
 refine tL (fun k=>⟨[(0,gR (aY xs)),(1,gI .i64 n),(5,gI .i64 (k:Nat))],[],0⟩) (fun k=>k≤xs.length∧∀(i:Nat) (x:Int),i<k→xs[i]?=some x→x≠n) (fun k=>xs.length-k) 0 ⟨by omega,fun i x hi=>by omega⟩ (kS) fun k hk=>?_
 obtain⟨hk,hf⟩:=hk;by_cases ak:k<xs.length
 ·have he:xs[k]?=some xs[k]:=List.getElem?_eq_getElem ak
  (refine TW.go ?_;simp[ak,he,wrap_add ak hlen];repeat' first|intro hc|refine aa.mk ?_|refine aI ?_|refine af ?_ ?_)
  ·refine aT.nil (r:=gB (cb xs n)) ?_ rfl
   simp[cb];exact hc▸List.getElem_mem ak
  ·refine⟨k+1,⟨by omega,fun i y hi hy=>?_⟩,by omega,kS⟩
   by_cases e:i=k
   ·subst e;rw[he]at hy;cases hy;exact hc
   ·exact hf i y (by omega) hy
 ·obtain rfl:k=xs.length:=by omega
  (refine TW.go ?_;simp;repeat' first|intro hc|refine aa.mk ?_|refine aI ?_|refine af ?_ ?_)
  refine aT.nil (r:=gB (cb xs n)) ?_ rfl;simp[cb];intro x hx e;obtain⟨i,hi,rfl⟩:=List.getElem_of_mem hx;exact hf i _ hi (List.getElem?_eq_getElem hi) e
theorem AV (es:List Int):TC Tw.prog E 47 [gR (aY es),gR (aY es)] 0 [] (gB true) []:=by
 refine tE Tryz.f47 Tryz.ntmps47 (by rw[Tryz.results47]) ?_
 refine TW.len 0 rfl fun hlen=>?_;simp only[List.length_map]at hlen;(refine TW.go ?_;simp;repeat' first|intro hc|refine aa.mk ?_|refine aI ?_|refine af ?_ ?_)
 refine tL (fun k=>⟨[(0,gR (aY es)),(1,gR (aY es)),(5,gI .i64 (k:Nat))],[],0⟩) (fun k=>k≤es.length) (fun k=>es.length-k) 0 (by omega) (kS) fun k hk=>?_
 by_cases ak:k<es.length
 ·have he:es[k]?=some es[k]:=List.getElem?_eq_getElem ak
  have an:(k:Int)<(es.length:Int):=by omega
  have aE:=wrap_add ak hlen;generalize es[k]=e at he;(refine TW.go ?_;simp[an,he,aE];repeat' first|intro hc|refine aa.mk ?_|refine aI ?_|refine af ?_ ?_)
  exact⟨k+1,by omega,by omega,kS⟩
 ·obtain rfl:k=es.length:=by omega
  (refine TW.go ?_;simp;repeat' first|intro hc|refine aa.mk ?_|refine aI ?_|refine af ?_ ?_)
  exact oW [] []
theorem D7 (es:List aB):TC Tw.prog E 81 [gR (dj es),gR (dj es)] 0 [] (gB true) []:=by
 refine tE Tryz.f81 Tryz.ntmps81 (by rw[Tryz.results81]) ?_
 refine TW.len 0 rfl fun hlen=>?_;simp only[List.length_map]at hlen;(refine TW.go ?_;simp;repeat' first|intro hc|refine aa.mk ?_|refine aI ?_|refine af ?_ ?_)
 refine tL (fun k=>⟨[(0,gR (dj es)),(1,gR (dj es)),(5,gI .i64 (k:Nat))],[],0⟩) (fun k=>k≤es.length) (fun k=>es.length-k) 0 (by omega) (kS) fun k hk=>?_
 by_cases ak:k<es.length
 ·have he:es[k]?=some es[k]:=List.getElem?_eq_getElem ak
  have an:(k:Int)<(es.length:Int):=by omega
  have aE:=wrap_add ak hlen;generalize es[k]=e at he;(refine TW.go ?_;simp[an,he,aE,aG,oI];repeat' first|intro hc|refine aa.mk ?_|refine aI ?_|refine af ?_ ?_)
  exact⟨k+1,by omega,by omega,kS⟩
 ·obtain rfl:k=es.length:=by omega
  (refine TW.go ?_;simp;repeat' first|intro hc|refine aa.mk ?_|refine aI ?_|refine af ?_ ?_)
  exact oW [] []
theorem I' (g:aF):TC Tw.prog E 48 [.a ((au g).map .r),.a ((au g).map .r)] 0 [] (gB true) []:=by
 refine tE Tryz.f48 Tryz.ntmps48 (by rw[Tryz.results48]) ?_
 (refine TW.go ?_;simp[au];repeat' first|intro hc|refine aa.mk ?_|refine aI ?_|refine af ?_ ?_|(refine cP ?_;refine⟨_,D7 _,?_⟩;simp[au]))
 exact oW [] []
theorem Fe (es:List aF):TC Tw.prog E 30 [gR (dq es),gR (dq es)] 0 [] (gB true) []:=by
 refine tE Tryz.f30 Tryz.ntmps30 (by rw[Tryz.results30]) ?_
 refine TW.len 0 rfl fun hlen=>?_;simp only[List.length_map]at hlen;(refine TW.go ?_;simp;repeat' first|intro hc|refine aa.mk ?_|refine aI ?_|refine af ?_ ?_)
 refine tL (fun k=>⟨[(0,gR (dq es)),(1,gR (dq es)),(5,gI .i64 (k:Nat))],[],0⟩) (fun k=>k≤es.length) (fun k=>es.length-k) 0 (by omega) (kS) fun k hk=>?_
 by_cases ak:k<es.length
 ·have he:es[k]?=some es[k]:=List.getElem?_eq_getElem ak
  have an:(k:Int)<(es.length:Int):=by omega
  have aE:=wrap_add ak hlen;generalize es[k]=e at he;(refine TW.go ?_;simp[an,he,aE,au];repeat' first|intro hc|refine aa.mk ?_|refine aI ?_|refine af ?_ ?_|(refine cP ?_;refine⟨_,I' e,?_⟩;simp[an,he,aE,au]))
  exact⟨k+1,by omega,by omega,kS⟩
 ·obtain rfl:k=es.length:=by omega
  (refine TW.go ?_;simp;repeat' first|intro hc|refine aa.mk ?_|refine aI ?_|refine af ?_ ?_)
  exact oW [] []
theorem Ff (g:aF)(h:jv g 4294967280)(hv:bB g=true):TC Tw.prog E 37 [.a ((au g).map .r)] 0 [] (.s (.own 0)) [(0,fU (g.done.map aB.m))]:=by
 have hV:=iU (E:=E) g ⟨by have:=h.1;omega,by have:=h.2;omega⟩
 rw[mg,hv]at hV;have hlen:g.done.length≤maxLen:=by have:=h.2;simp only[maxLen];omega
 obtain⟨-,SM⟩:=h;refine tE Tryz.f37 Tryz.ntmps37 (by rw[Tryz.results37]) ?_
 (refine TW.go ?_;simp[au];repeat' first|intro hc|refine aa.mk ?_|refine aI ?_|refine af ?_ ?_|(refine cP ?_;refine⟨_,hV,?_⟩;simp[au]))
 refine tL (fun(k:Nat)=>⟨[(3,.s (.own 0)),(11,gR (dj g.done)),(12,gI .i64 g.done.length),(13,gI .i64 (k:Nat))],[(0,fU ((g.done.take k).map aB.m))],1⟩) (fun k=>k≤g.done.length) (fun k=>g.done.length-k) 0 (by omega) (kO [1] []) fun k hk=>?_
 by_cases ak:k<g.done.length
 ·have he:g.done[k]?=some g.done[k]:=List.getElem?_eq_getElem ak
  have an:(k:Int)<(g.done.length:Int):=by omega
  have aE:=wrap_add ak hlen;have htk:g.done.take (k+1)=g.done.take k++[g.done[k]]:=by rw[List.take_add_one,he];rfl
  generalize g.done[k]=e at*;(refine TW.go ?_;simp[an,he,aE,aG,maxLen];repeat' first|intro hc|refine aa.mk ?_|refine aI ?_|refine af ?_ ?_)
  exact⟨k+1,by omega,by omega,Wk.own [3] [] (by simp) (by simp) (by simp[htk]) (by simp) (by simp)⟩
 ·obtain rfl:k=g.done.length:=by omega
  rw[List.take_length];(refine TW.go ?_;simp;repeat' first|intro hc|refine aa.mk ?_|refine aI ?_|refine af ?_ ?_)
  exact oW [0] []
theorem iC.mono {gs:List aF}{n n':Nat}(h:iC gs n)(hn:n≤n'):iC gs n':=⟨by have:=h.1;omega,fun g hg=>by have:=h.2 g hg;exact⟨by have:=this.1;omega,by have:=this.2;omega⟩⟩
end Go.Proofs.YtabjbdnokpjipaaGreat.T
namespace Go.Proofs.YtabjbdnokpjipaaGreat.T
open Go Go.RowKit
set_option maxRecDepth 100000
set_option maxHeartbeats 4000000
variable {E:List PanicEntry→World→Prop}
theorem TC.aa_ {P:Program}{f:FuncId}{args:List GV}{m:Nat}{bp sto':List (Nat×az)}{x y:GV}(hl:x.le y)(h:TC P E f args m bp x sto'):TC P E f args m bp y sto':=by
 refine⟨h.1,fun w bR ρ D hv ha hD h1 h2 h3=>(h.2 w bR ρ D hv ha hD h1 h2 h3).mono ?_⟩
 rintro e w' (hE|⟨v,ρ',D',rfl,hr,hP⟩)
 ·exact .inl hE
 ·exact .inr ⟨v,ρ',D',rfl,hr.le hl,hP⟩
theorem zN (id:Int)(h:bM id=true):TC Tw.prog E 43 [gI .i64 id] 0 [] (.p [.a [.r (rI id),.r (rI 0),.r .nil,.r .nil],gB true]) []:=by
 have hI:=oR (E:=E) id;rw[h]at hI;refine tE Tryz.f43 Tryz.ntmps43 (by rw[Tryz.results43]) ?_
 (refine TW.go ?_;simp;repeat' first|intro hc|refine aa.mk ?_|refine aI ?_|refine af ?_ ?_|(refine cP ?_;refine⟨_,hI,?_⟩;simp))
 exact oW [] []
theorem Bz (id:Int)(h:bM id=true):TC Tw.prog E 43 [gI .i64 id] 0 [] (.p [.a [.r (rI id),.r (rI 0),.r (.sl 4 []),.r (.sl 4 [])],gB true]) []:=TC.Mo (by simp) (zN id h)
theorem zO:TC Tw.prog E 26 [] 0 [] (.a [.r .nil,.r (dq iP.ae),.r .nil,.r .nil,.r .nil]) []:=by
 refine tE Tryz.f26 Tryz.ntmps26 (by rw[Tryz.results26]) ?_
 (refine TW.go ?_;simp;repeat' first|intro hc|refine aa.mk ?_|refine aI ?_|refine af ?_ ?_)
 refine⟨TW.weaken ⟨[(0,.s (.ptr 0 0)),(1,.s (.ptr 1 0)),(6,gI .i64 0)],[(0,.box [.r .nil,.r .nil,.r .nil,.r .nil,.r .nil]),(1,.box [.r .nil,.r .nil,.r .nil,.r .nil,.r .nil])],2⟩
  (kO [0,1] []) ?_⟩
 refine TW.nil 43 4 [(0,.s (.ptr 0 0)),(1,.s (.ptr 1 0)),(6,gI .i64 0)] [(0,.box [.r .nil,.r .nil,.r .nil,.r .nil,.r .nil]),(1,.box [.r .nil,.own 2,.r .nil,.r .nil,.r .nil])] (Nu.get ?_);refine tL (fun(k:Nat)=>⟨[(0,.s (.ptr 0 0)),(1,.s (.ptr 1 0)),(6,gI .i64 (k:Nat))],[(0,.box [.r .nil,.r .nil,.r .nil,.r .nil,.r .nil]),(1,.box [.r .nil,.own 2,.r .nil,.r .nil,.r .nil]),(2,fp (qH k))],3⟩) (fun k=>k≤5) (fun k=>5-k) 0 (by omega) (Wk.own [0,1,2] [] (by simp) (by simp) (by simp[qH]) (by simp) (by simp)) fun k hk=>?_
 by_cases ak:k<5
 ·have an:(k:Int)<5:=by omega
  have hg:bM (k:Int)=true:=by simp[bM];omega
  have aE:IntKind.i64.wrap ((k:Int)+1)=(k:Int)+1:=aQ (by omega) (by omega)
  have hl:=Gf k;have hG:=Bz (E:=E) _ hg;(refine TW.go ?_;simp[an,aE,maxLen];repeat' first|intro hc|refine aa.mk ?_|refine aI ?_|refine af ?_ ?_|(refine cP ?_;refine⟨_,hG,?_⟩;simp[an,aE,maxLen]))
  exact⟨k+1,by omega,by omega,Wk.own [0,1,5] [] (by simp) (by simp) (by simp[DH k,au]) (by simp) (by simp)⟩
 ·obtain rfl:k=5:=by omega
  (refine TW.go ?_;simp;repeat' first|intro hc|refine aa.mk ?_|refine aI ?_|refine af ?_ ?_)
  refine aT.own [] [2] (by simp;rfl) (by simp[iP,qH,List.range_succ]) (by simp) (by simp) (by simp[iP,qH,List.range_succ]) (by simp)
theorem BB:TC Tw.prog E 26 [] 0 [] (gW iP) []:=by
 refine TC.aa_ ?_ zO;show _∧_∧_∧_∧_∧_
 exact⟨TV.le_nil 1,TV.le_refl _,TV.le_nil 3,TV.le_nil 1,TV.le_nil 5,trivial⟩
theorem D8 (w:aA)(k a:Int)(h:b_ w)(hs:cw 2000 w):TC Tw.prog bq 27 [gW w,gE k a] 0 [] (gW (h_ w k a)) []:=by
 have hV:=qc w h hs;have hC:=yJ (E:=bq) w (hs.mono (by omega))
 have hA:=ZI w k a h hs;generalize h_ w k a=v at*;refine tE Tryz.f27 Tryz.ntmps27 (by rw[Tryz.results27]) ?_
 (refine TW.go ?_;simp[wT];repeat' first|intro hc|refine aa.mk ?_|refine aI ?_|refine af ?_ ?_|(refine cP ?_;refine⟨_,hV,?_⟩;simp[wT])|(refine cF [] 5 ?_;refine⟨_,_,hC,?_⟩;simp[wT])|(refine cL [8,3,4,5,6,7] 0 ?_;refine⟨_,_,_,_,hA,?_⟩;simp[wT]))
 refine aT.own [] [] (by simp;rfl) (by simp[wT]) (by simp) (by simp) (by simp[wT]) (by simp)
abbrev D9 (es:List (Int×Int)):RT:= .sl 2 (es.map fun e=>[rI e.1,rI e.2])
theorem D_ {es:List (Int×Int)}{k:Nat}{e:Int×Int}(h:es[k]?=some e):eJ (es.take (k+1))=h_ (eJ (es.take k)) e.1 e.2:=dr _ _ h
theorem Ea:∀(es:List (Int×Int)) (w:aA) (n:Nat),cw n w→cw (n+5*es.length) (es.foldl (fun w e=>h_ w e.1 e.2) w)
 |[],w,n,h=>by simpa using h
 |e::es,w,n,h=>by
  have:=Ea es (h_ w e.1 e.2) (n+5) (h.event _ _)
  rw[List.length_cons,show n+5*(es.length+1)=n+5+5*es.length by omega]
  exact this
theorem vf (es:List (Int×Int))(h:es.length≤300):cw 1500 (eJ es):=(Ea es iP 0 zE).mono (by omega)
theorem iE (es:List (Int×Int))(h:es.length≤80):TC Tw.prog bq 11 [gR (D9 es)] 0 [] (.p [gW (eJ es),gB true]) []:=by
 have hl:¬80<(es.length:Int):=by omega
 have hlen:es.length≤maxLen:=by simp only[maxLen];omega
 have hN:=BB (E:=bq);have e0:eJ (es.take 0)=iP:=rfl
 rw[←e0]at hN;refine tE Tryz.f11 Tryz.ntmps11 (by rw[Tryz.results11]) ?_
 (refine TW.go ?_;simp[hl,wT];repeat' first|intro hc|refine aa.mk ?_|refine aI ?_|refine af ?_ ?_|(refine cP ?_;refine⟨_,hN,?_⟩;simp[hl,wT]))
 refine tL (fun(k:Nat)=>⟨[(2,.s (.ptr 0 0)),(4,.s (.ptr 1 0)),(12,gR (D9 es)),(13,gI .i64 es.length),(14,gI .i64 (k:Nat))],[(0,.box [.r .nil,.r .nil,.r .nil,.r .nil,.r .nil]),(1,.box ((wT (eJ (es.take k))).map .r))],2⟩) (fun k=>k≤es.length) (fun k=>es.length-k) 0 (by omega) (Wk.own [0,1] [] (by simp) (by simp) (by simp[wT]) (by simp) (by simp)) fun k hk=>?_
 by_cases ak:k<es.length
 ·have he:es[k]?=some es[k]:=List.getElem?_eq_getElem ak
  have an:(k:Int)<(es.length:Int):=by omega
  have aE:=wrap_add ak hlen;have dX:=D_ he;have hD:=D8 (eJ (es.take k)) es[k].1 es[k].2 (DX _).1 ((vf _ (by rw[List.length_take];omega)).mono (by omega))
  rw[←dX]at hD;generalize hv:eJ (es.take (k+1))=v at*;generalize eJ (es.take k)=u at*;generalize es[k]=e at*;(refine TW.go ?_;simp[wT,he,an,aE];repeat' first|intro hc|refine aa.mk ?_|refine aI ?_|refine af ?_ ?_|(refine cP ?_;refine⟨_,hD,?_⟩;simp[wT,he,an,aE]))
  exact⟨k+1,by omega,by omega,Wk.own [0,1] [] (by simp) (by simp) (by simp[wT,hv]) (by simp) (by simp)⟩
 ·obtain rfl:k=es.length:=by omega
  rw[List.take_length];(refine TW.go ?_;simp[wT];repeat' first|intro hc|refine aa.mk ?_|refine aI ?_|refine af ?_ ?_)
  refine aT.own [] [] (by simp;rfl) (by simp[wT]) (by simp) (by simp) (by simp[wT]) (by simp)
theorem fW (es:List (Int×Int))(h:80<es.length):TC Tw.prog E 11 [gR (D9 es)] 0 [] (.p [.a [.r .nil,.r .nil,.r .nil,.r .nil,.r .nil],gB false]) []:=by
 have hl:80<(es.length:Int):=by omega
 refine tE Tryz.f11 Tryz.ntmps11 (by rw[Tryz.results11]) ?_
 (refine TW.go ?_;simp[hl];repeat' first|intro hc|refine aa.mk ?_|refine aI ?_|refine af ?_ ?_)
 exact oW [] []
theorem dV (es:List (Int×Int))(h:es.length≤80):TC Tw.prog E 12 [gR (D9 es)] 0 [] (.p [gW (eJ es),gB true]) []:=by
 have hl:¬80<(es.length:Int):=by omega
 have hlen:es.length≤maxLen:=by simp only[maxLen];omega
 have hN:=s_ (E:=E);have e0:eJ (es.take 0)=iP:=rfl
 rw[←e0]at hN;refine tE Tryz.f12 Tryz.ntmps12 (by rw[Tryz.results12]) ?_
 (refine TW.go ?_;simp[hl,wT];repeat' first|intro hc|refine aa.mk ?_|refine aI ?_|refine af ?_ ?_|(refine cP ?_;refine⟨_,hN,?_⟩;simp[hl,wT]))
 refine tL (fun(k:Nat)=>⟨[(0,gR (D9 es)),(2,.s (.ptr 0 0)),(4,.s (.ptr 1 0)),(5,gI .i64 (k:Nat))],[(0,.box [.r .nil,.r .nil,.r .nil,.r .nil,.r .nil]),(1,.box ((wT (eJ (es.take k))).map .r))],2⟩) (fun k=>k≤es.length) (fun k=>es.length-k) 0 (by omega) (Wk.own [0,1] [] (by simp) (by simp) (by simp[wT]) (by simp) (by simp)) fun k hk=>?_
 by_cases ak:k<es.length
 ·have he:es[k]?=some es[k]:=List.getElem?_eq_getElem ak
  have an:(k:Int)<(es.length:Int):=by omega
  have aE:=wrap_add ak hlen;have dX:=D_ he;have hD:=aeX (E:=E) (eJ (es.take k)) es[k].1 es[k].2 ((vf _ (by rw[List.length_take];omega)).mono (by omega))
  rw[←dX]at hD;generalize hv:eJ (es.take (k+1))=v at*;generalize eJ (es.take k)=u at*;generalize es[k]=e at*;(refine TW.go ?_;simp[wT,he,an,aE];repeat' first|intro hc|refine aa.mk ?_|refine aI ?_|refine af ?_ ?_|(refine cP ?_;refine⟨_,hD,?_⟩;simp[wT,he,an,aE]))
  exact⟨k+1,by omega,by omega,Wk.own [0,1] [] (by simp) (by simp) (by simp[wT,hv]) (by simp) (by simp)⟩
 ·obtain rfl:k=es.length:=by omega
  rw[List.take_length];have hC:=fV (E:=E) (eJ es) ((vf es (by omega)).mono (by omega))
  (refine TW.go ?_;simp[wT];repeat' first|intro hc|refine aa.mk ?_|refine aI ?_|refine af ?_ ?_|(refine cF [] 5 ?_;refine⟨_,_,hC,?_⟩;simp[wT]))
  refine aT.own [] [2,3,4,5,6] (by simp;rfl) (by simp[wT]) (by simp) (by simp) (by simp[wT]) (by simp)
theorem dI (es:List (Int×Int))(h:80<es.length):TC Tw.prog E 12 [gR (D9 es)] 0 [] (.p [.a [.r .nil,.r .nil,.r .nil,.r .nil,.r .nil],gB false]) []:=by
 have hl:80<(es.length:Int):=by omega
 refine tE Tryz.f12 Tryz.ntmps12 (by rw[Tryz.results12]) ?_
 (refine TW.go ?_;simp[hl];repeat' first|intro hc|refine aa.mk ?_|refine aI ?_|refine af ?_ ?_)
 exact oW [] []
end Go.Proofs.YtabjbdnokpjipaaGreat.T
