/-
What is proved: what a call does to trees ('op_call', 'op_peek'). No condition. '==' and '!=' between structs of integers and Booleans, conversions between integers, and the check that a pointer is there, over trees. No condition. a region's operations walked over trees, one after the other ('vcOps'), and that the machine does what they tell, in whatever order ('TW.region'). No condition.
-/
import Derived.Test.YtjklkppncmhehaaGreatRa29
import Derived.Test.YtjklkppncmhehaaGreatRa26
import Derived.Laws.StructEq
set_option linter.unusedVariables false
set_option linter.unusedSimpArgs false
namespace Go.Proofs.YtjklkppncmhehaaGreat.T
open Go Go.RowKit
theorem dR.call {P:Program}{E:List PanicEntry→World→Prop}{nt:Nat}{o:Oper}{fr:List (Nat×Option ak)}{ins:List (Nat×GV)}{gv:GV}{Δ:List (Nat×ak)}(hd:bu o nt=true)
  (h:∀C env get a w ρ D,(∀x∈fr,get x.1=x.2)→(∀x∈ins,env x.1=x.2)→Rel C env get a w ρ D→∃f bS,(execOp a.eval o).run P w= .ok (.enter f bS) w∧Calls P f bS w fun e w'=>(∃ch,e= .panicked ch∧E ch w')∨∃v ρ' D',e= .returned v∧Rel C env (upd get Δ) a w' ρ' D'∧aY ρ' w' D' v gv):dR P E nt o fr ins gv Δ:=by
 intro C env get a w K Q hn hf hi hR hK hE;obtain⟨ρ,D,hR⟩:=hR;obtain⟨f,bS,hv,hc⟩:=h C env get a w ρ D hf hi hR;unfold Oper.wp;rw[hv,Oper.upon_enter];refine hc.mono ?_;rintro e w' (⟨ch,rfl,he⟩|⟨v,ρ',D',rfl,nf,hg⟩)
 ·exact hE ch a w' hR.defers he
 ·refine hK _ _ ⟨ρ',D',nf.put (fun d e=>?_) hg⟩
  unfold bu at hd;rw[e]at hd;simpa[hn]using hd
theorem zt {P:Program}{o:Oper}{fx:Operand}{args:Array Operand}{Pp:Array TypeId}(ho:o.op= .call {callee:= .value fx,args:=args,argTypes:=Pp}){a:Act}{f:FuncId}{first jq:Array Value}(hf:a.eval fx= .func (.func f) first jq)(he:Mm P f)(w:World):
  (execOp a.eval o).run P w= .ok (.enter f (first++args.map a.eval++jq)) w:=by
 have:=he (first++args.map a.eval++jq) w
 simp only[execOp,ho,resolve,hf,Deferred.ofValue,Sem.run_bind,Sem.run_pure,Result.andThen_ok,invoke,this]
section
variable {P:Program}{E:List PanicEntry→World→Prop}{nt:Nat}{o:Oper}{s:ae}
theorem zu {C:Ctx}{env:Nat→GV}{get:Nat→Option ak}{a:Act}{w:World}{ρ:Nat→Option Value}{D:Nat→Prop}(hR:Rel C env get a w ρ D){fx:Operand}{args:Array Operand}(hi:∀x∈bF s.env (fx::args.toList),env x.1=x.2){f:FuncId}{fs cs:List GV}(hf:s.ev fx= .eI (.func f) fs cs):
  ∃first jq,a.eval fx= .func (.func f) first jq∧(first++args.map a.eval++jq).size=(fs++args.toList.map s.ev++cs).length∧∀(i:Nat) (g:GV),(fs++args.toList.map s.ev++cs)[i]?=some g→aY ρ w D ((first++args.map a.eval++jq).getD i undef) g:=by
 have hr:=aW hR hi (x:=fx) (List.mem_cons_self ..);rw[hf]at hr;generalize a.eval fx=v at hr
 cases hr with
 | @eI _ first jq _ _ U h2 h3 h4=>
 refine⟨first,jq,rfl,by simp[U,h2],fun i g hg=>?_⟩
 simp only[Array.getD_eq_getD_getElem?,Array.getElem?_append,Array.size_append,Array.size_map,U];simp only[List.getElem?_append,List.length_append,List.length_map]at hg;have jG:args.size=args.toList.length:=by simp
 rw[jG];split at hg
 ·rename_i aj
  rw[if_pos aj];split at hg
  ·rename_i W2
   rw[if_pos W2];simpa[Array.getD_eq_getD_getElem?]using h3 i g hg
  ·rename_i vR
   rw[if_neg vR];rw[List.getElem?_map,Option.map_eq_some_iff]at hg;obtain⟨x,hx,rfl⟩:=hg;have iG:args[i-fs.length]?=some x:=by simpa using hx
   simp only[Array.getElem?_map,iG,Option.map_some,Option.getD_some];exact aW hR hi (List.mem_cons_of_mem _ (List.mem_of_getElem? hx))
 ·rename_i vR
  rw[if_neg vR];simpa[Array.getD_eq_getD_getElem?]using h4 _ g hg
def φ (frag:List Nat)(nx:Nat)(b:Nat):Nat:=if b<frag.length then frag.getD b 0 else nx+(b-frag.length)
def rowOf:Option ak→Bool
 |some (.rows ..)=>true
 |_=>false
structure BN (s:ae) (Uu:List GV) (frag peek:List Nat) (bJ:List GV) (sto0 sto':List (Nat×ak)) (cnt:Nat):Prop where
 args:eL s.get peek Uu=eK (φ frag s.nx) bJ
 nodup:frag.Nodup
 JU:∀b∈frag,b<s.nx
 apart:∀b∈peek,b∉frag
 rows:∀b∈peek,rowOf (s.get b)=true
 W3:∀b,b<frag.length→(s.get (frag.getD b 0))=(gt b sto0).map (ak.bg (φ frag s.nx))∧(gt b sto0).isSome=true
 live:∀x∈sto0,x.1<frag.length∧x.2.live=true
 news:∀x∈sto',x.1<frag.length+cnt
def gO (s:ae)(frag peek:List Nat)(sto':List (Nat×ak))(cnt:Nat):List (Nat×ak):=
 ((List.range frag.length).map fun i=>(frag.getD i 0,match gt i sto' with|some y=>y.bg (φ frag s.nx)|none=> .dead))++((List.range cnt).map fun j=>(s.nx+j,match gt (frag.length+j) sto' with|some y=>y.bg (φ frag s.nx)|none=> .dead))++peek.map fun b=>(b,.dead)
def fS (s:ae)(frag peek:List Nat)(cnt:Nat):List (Nat×Option ak):=(frag.map fun b=>(b,s.get b))++(peek.map fun b=>(b,s.get b))++(List.range cnt).map fun j=>(s.nx+j,none)
theorem nq {β:Type}(f:β→Nat×ak){b:Nat}:∀{l:List β},(∀x∈l,(f x).1≠b)→gt b (l.map f)=none
 |[],_=>rfl
 |x::l,h=>by
  have h0:=h x (List.mem_cons_self ..);simp only[List.map_cons,gt];rw[if_neg (fun e=>h0 e.symm)]
  exact nq f fun y hy=>h y (List.mem_cons_of_mem _ hy)
theorem iU {β:Type}(f:β→Nat×ak){b:Nat}{x:β}:∀{l:List β},x∈l→(f x).1=b→(∀y∈l,(f y).1=b→f y=f x)→gt b (l.map f)=some (f x).2
 |y::l,h,hb,hu=>by
  simp only[List.map_cons,gt];split
  ·rename_i e
   rw[hu y (List.mem_cons_self ..) e.symm]
  ·rename_i e
   rcases List.mem_cons.1 h with rfl|h
   ·exact absurd hb.symm e
   ·exact iU f h hb fun z hz=>hu z (List.mem_cons_of_mem _ hz)
theorem wY {l:List Nat}(h:l.Nodup){i j:Nat}(hi:i<l.length)(hj:j<l.length)(e:l.getD i 0=l.getD j 0):i=j:=by
 simp only[List.getD_eq_getElem?_getD,List.getElem?_eq_getElem hi,List.getElem?_eq_getElem hj,Option.getD_some]at e;exact(List.getElem_inj h).1 e
theorem F7 {fx:Operand}{args:Array Operand}{Pp:Array TypeId}(ho:o.op= .call {callee:= .value fx,args:=args,argTypes:=Pp})(hd:bu o nt=true){f:FuncId}{fs cs:List GV}(hf:s.ev fx= .eI (.func f) fs cs){frag peek:List Nat}{bJ:List GV}{sto0 sto':List (Nat×ak)}{cnt:Nat}{r:GV}
  (hT:TC P E f bJ frag.length sto0 r sto') (hk:BN s (fs++args.toList.map s.ev++cs) frag peek bJ sto0 sto' cnt) (hr:∀b∈r.names,b<frag.length+cnt) (ZT:∀x∈sto',∀b∈x.2.names,b<frag.length+cnt):
  dR P E nt o (fS s frag peek cnt) (bF s.env (fx::args.toList)) (r.bg (φ frag s.nx)) (gO s frag peek sto' cnt):=by
 refine .call hd fun C env get a w ρ D qG hi hR=>?_;obtain⟨first,jq,e1,jG,qQ⟩:=zu hR hi hf;obtain⟨F8,hT⟩:=hT;refine⟨f,_,zt ho e1 F8 w,?_⟩;have Uv:∀b∈frag,get b=s.get b:=fun b hb=>qG (b,s.get b) (by simp only[fS,List.mem_append,List.mem_map];exact .inl (.inl ⟨b,hb,rfl⟩))
 have wZ:∀b∈peek,get b=s.get b:=fun b hb=>qG (b,s.get b) (by simp only[fS,List.mem_append,List.mem_map];exact .inl (.inr ⟨b,hb,rfl⟩))
 have p9:∀j,j<cnt→get (s.nx+j)=none:=fun j hj=>qG (s.nx+j,none) (by simp only[fS,List.mem_append,List.mem_map,List.mem_range];exact .inr ⟨j,hj,rfl⟩)
 have Mp:∀i,i<frag.length→frag.getD i 0∈frag:=fun i hi=>by
  simp only[List.getD_eq_getElem?_getD,List.getElem?_eq_getElem hi,Option.getD_some];exact List.getElem_mem hi
 have Rz:∀b∈peek,∃z,get b=some z∧z.live=true:=by
  intro b hb;have:=hk.rows b hb
  rw[wZ b hb];unfold rowOf at this;split at this
  ·rename_i h;exact⟨_,h,rfl⟩
  ·cases this
 obtain⟨D1,sj,BO,Pq⟩:=hR.consume peek Rz;have Pr:∀c,gt c (peek.map fun b=>(b,ak.dead))=if c∈peek then some .dead else none:=by
  intro c;by_cases hc:c∈peek
  ·rw[if_pos hc]
   exact iU (fun b=>(b,ak.dead)) hc rfl fun y _ e=>by simp only at e;rw[e]
  ·rw[if_neg hc]
   exact nq _ fun x hx e=>hc (by simp only at e;rw[←e];exact hx)
 have Ps:∀c,upd get (peek.map fun b=>(b,ak.dead)) c=if c∈peek then some .dead else get c:=by
  intro c;simp only[upd,Pr];split<;>simp_all
 have F9:∀i,i<frag.length→φ frag s.nx i=frag.getD i 0:=fun i hi=>by simp only[φ,if_pos hi]
 have Sl:∀i,¬i<frag.length→φ frag s.nx i=s.nx+(i-frag.length):=fun i hi=>by simp only[φ,if_neg hi]
 have F_:∀b y,gt b sto0=some y→b<frag.length∧y.live=true∧get (frag.getD b 0)=some (y.bg (φ frag s.nx))∧upd get (peek.map fun b=>(b,ak.dead)) (frag.getD b 0)=some (y.bg (φ frag s.nx)):=by
  intro b y hy;obtain⟨U,h2⟩:=hk.live _ (dY hy);obtain⟨h3,_⟩:=hk.W3 b U;rw[hy]at h3;have h4:get (frag.getD b 0)=some (y.bg (φ frag s.nx)):=by rw[Uv _ (Mp b U),h3];rfl
  refine⟨U,h2,h4,?_⟩;rw[Ps,if_neg fun h=>hk.apart _ h (Mp b U)]
  exact h4
 have ZU:∀(i:Nat) (g:GV),bJ[i]?=some g→aY (fun b=>ρ (φ frag s.nx b)) w D1 ((first++args.map a.eval++jq).getD i undef) g:=by
  intro i g hg;have hlen:bJ.length=(fs++args.toList.map s.ev++cs).length:=by
   have:=congrArg List.length hk.args
   rw[fQ,cJ]at this;exact this.symm
  have Mq:i<(fs++args.toList.map s.ev++cs).length:=by rw[←hlen];exact(List.getElem?_eq_some_iff.1 hg).1
  have U:=qQ i _ (List.getElem?_eq_getElem Mq);have h2:=U.bZ (cs:=peek) hR BO Pq;have h3:(eK (φ frag s.nx) bJ)[i]?=some (g.bg (φ frag s.nx)):=by rw[fP,hg];rfl
  rw[←hk.args,mz,List.getElem?_eq_getElem Mq]at h3;simp only[Option.map_some,Option.some.injEq]at h3;have h4:∀g:GV,g.bZ get peek=g.bZ s.get peek:=GV.iS wZ
  rw[h4,h3]at h2;exact h2.bg fun b _ x hx=>hx
 refine(hT w _ (fun b=>ρ (φ frag s.nx b)) D1 (by rw[jG,←fQ s.get peek,hk.args,cJ]) ZU (fun k cB=>(sj.ro k cB).1) (fun b y hy=>?_) (fun b y g hy hl hg=>?_) (fun b y b' y' g hy hl dc bz hg a_=>?_)).mono ?_
 ·obtain⟨U,h2,h3,h4⟩:=F_ b y hy
  simp only[F9 b U];exact(sj.blk _ _ h4).bg fun c _ x hx=>hx
 ·obtain⟨U,h2,h3,h4⟩:=F_ b y hy
  simp only[F9 b U]at hg;exact(sj.own _ _ g h4 (by rw[ak.cX];exact h2) hg).1
 ·obtain⟨U,h2,h3,h4⟩:=F_ b y hy
  obtain⟨iM,lU,F5,Pt⟩:=F_ b' y' dc;simp only[F9 b U]at hg;simp only[F9 b' iM]at a_;exact wY hk.nodup U iM (sj.sep _ _ _ _ g h4 (by rw[ak.cX];exact h2) Pt (by rw[ak.cX];exact lU) hg a_)
 rintro e w' (h|⟨v,w_,D2,rfl,hv,hP⟩)
 ·exact .inl h
 right
 have Uw:∀k,Mf sto0 (fun b=>ρ (φ frag s.nx b)) k→∃i z,i<frag.length∧get (frag.getD i 0)=some z∧z.live=true∧frag.getD i 0∉peek∧bo (ρ (frag.getD i 0))=some k:=by
  rintro k ⟨b,y,hy,hl,hg⟩;obtain⟨U,h2,h3,h4⟩:=F_ b y hy;simp only[F9 b U]at hg;exact⟨b,_,U,h3,by rw[ak.cX];exact h2,fun h=>hk.apart _ h (Mp b U),hg⟩
 have W4:∀k,D1 k→¬Mf sto0 (fun b=>ρ (φ frag s.nx b)) k:=by
  intro k nj hm;obtain⟨i,z,U,h2,h3,h4,h5⟩:=Uw k hm;exact(sj.own _ z k (by rw[Ps,if_neg h4];exact h2) h3 h5).1 nj
 have hK:bV D1 w w':=fun k nj=>hP.old k (sj.ro k nj).1 (W4 k nj)
 let RD:Nat→Option Value:=fun b=>if b<s.nx then ρ b else if b<s.nx+cnt then w_ (frag.length+(b-s.nx))else ρ b
 have Pu:∀b x,ρ b=some x→RD b=some x:=by
  intro b x hx;show(if b<s.nx then ρ b else if b<s.nx+cnt then w_ (frag.length+(b-s.nx))else ρ b)=some x
  by_cases U:b<s.nx
  ·rw[if_pos U];exact hx
  ·by_cases h2:b<s.nx+cnt
   ·have:=hR.free b (by have:=p9 (b-s.nx) (by omega);rwa[show s.nx+(b-s.nx)=b by omega]at this)
    rw[hx]at this;cases this
   ·rw[if_neg U,if_neg h2];exact hx
 have qR:∀b,b<frag.length+cnt→RD (φ frag s.nx b)=w_ b:=by
  intro b hb;by_cases U:b<frag.length
  ·rw[F9 b U,hP.same b U]
   have aj:=hk.JU _ (Mp b U);show(if frag.getD b 0<s.nx then ρ (frag.getD b 0)else _)=ρ (φ frag s.nx b)
   rw[if_pos aj,F9 b U]
  ·rw[Sl b U]
   show(if s.nx+(b-frag.length)<s.nx then _ else if s.nx+(b-frag.length)<s.nx+cnt then w_ (frag.length+(s.nx+(b-frag.length)-s.nx))else _)=w_ b
   rw[if_neg (by omega),if_pos (by omega)]
   congr 1;omega
 let D3:Nat→Prop:=fun k=>D1 k∨D2 k
 have W5:∀k,D2 k→k<w'.heap.size∧(D1 k∨Mf sto0 (fun b=>ρ (φ frag s.nx b)) k∨w.heap.size≤k):=hP.ro
 have dC:∀c y,upd get (gO s frag peek sto' cnt) c=some y→y.live=true→(∃b y',b<frag.length+cnt∧c=φ frag s.nx b∧gt b sto'=some y'∧y=y'.bg (φ frag s.nx))∨(c∉frag∧c∉peek∧get c=some y∧¬(s.nx≤c∧c<s.nx+cnt)):=by
  intro c y hy hl;simp only[upd,gO,kN]at hy;by_cases U:c∈frag
  ·left
   obtain⟨i,eE,ZV⟩:=List.getElem_of_mem U;have Pv:frag.getD i 0=c:=by simp[List.getD_eq_getElem?_getD,eE,ZV]
   rw[iU (x:=i) _ (List.mem_range.2 eE) Pv (fun j hj e=>by rw[wY hk.nodup (List.mem_range.1 hj) eE (by simp only at e;rw[e,Pv])])]at hy
   simp only[Option.some.injEq]at hy;split at hy
   ·rename_i y' dc
    exact⟨i,y',by omega,by rw[F9 i eE,Pv],dc,hy.symm⟩
   ·subst hy;simp[ak.live]at hl
  ·rw[nq _ (fun i eE e=>U (by simp only at e;rw[←e];exact Mp i (List.mem_range.1 eE)))]at hy
   by_cases h2:s.nx≤c∧c<s.nx+cnt
   ·left
    rw[iU (x:=c-s.nx) _ (List.mem_range.2 (by omega)) (by simp only;omega) (fun j hj e=>by simp only at e;rw[show j=c-s.nx by omega])]at hy
    simp only[Option.some.injEq]at hy;split at hy
    ·rename_i y' dc
     refine⟨frag.length+(c-s.nx),y',by omega,by rw[Sl _ (by omega)];omega,dc,hy.symm⟩
    ·subst hy;simp[ak.live]at hl
   ·rw[nq _ (fun j hj e=>h2 (by have:=List.mem_range.1 hj;simp only at e;omega))]at hy
    by_cases h3:c∈peek
    ·rw[Pr,if_pos h3]at hy
     simp only[Option.some.injEq]at hy;subst hy;simp[ak.live]at hl
    ·rw[Pr,if_neg h3]at hy
     exact .inr ⟨U,h3,hy,h2⟩
 have hold:∀c y,c∉frag→c∉peek→get c=some y→y.live=true→∀g,bo (ρ c)=some g→¬D3 g∧¬Mf sto0 (fun b=>ρ (φ frag s.nx b)) g∧g<w.heap.size:=by
  intro c y U h2 hy hl g hg;have W6:¬Mf sto0 (fun b=>ρ (φ frag s.nx b)) g:=by
   intro hm;obtain⟨i,z,i1,i2,i3,i4,i5⟩:=Uw g hm;have:=hR.sep c y _ z g hy hl i2 i3 hg i5
   exact U (this▸Mp i i1)
  have aj:=hR.fu hy hl hg;have qF:=(sj.own c y g (by rw[Ps,if_neg h2];exact hy) hl hg).1
  refine⟨?_,W6,aj⟩;rintro(h|h)
  ·exact qF h
  ·rcases(W5 g h).2 with h|h|h
   ·exact qF h
   ·exact W6 h
   ·omega
 have F':∀c y,get c=some y→¬(s.nx≤c∧c<s.nx+cnt)→RD c=ρ c:=by
  intro c y _ h;show(if c<s.nx then ρ c else if c<s.nx+cnt then w_ (frag.length+(c-s.nx))else ρ c)=ρ c
  by_cases U:c<s.nx
  ·rw[if_pos U]
  ·rw[if_neg U,if_neg (by omega)]
 have IZ:∀g b y',gt b sto'=some y'→y'.live=true→bo (w_ b)=some g→¬D3 g∧(Mf sto0 (fun b=>ρ (φ frag s.nx b)) g∨w.heap.size≤g):=by
  intro g b y' dc hl hg;obtain⟨U,h2⟩:=hP.own b y' g dc hl hg;refine⟨?_,h2⟩;rintro(h|h)
  ·rcases h2 with h2|h2
   ·exact W4 g h h2
   ·have:=(sj.ro g h).1;omega
  ·exact U h
 have Ux:∀g,Mf sto0 (fun b=>ρ (φ frag s.nx b)) g∨w.heap.size≤g→C.M g∨C.W.heap.size≤g:=by
  rintro g (h|h)
  ·obtain⟨i,z,i1,i2,i3,i4,i5⟩:=Uw g h
   exact(hR.own _ z g i2 i3 i5).2
  ·have:=hR.size;exact .inr (by omega)
 have ZW:=hR.size;have XU:=hP.size;refine⟨v,RD,D3,rfl,⟨hP.os.trans hR.os,hP.tape.trans hR.tape,hP.output.trans hR.output,by omega,fun k Vs RE=>?_,fun k cB=>?_,fun c hc=>?_,fun c y hy=>?_,fun c y g hy hl hg=>?_,fun c y c' y' g hy hl dc bz hg a_=>?_,fun t=>(hR.env t).bB Pu (fun k nj=>hK k (BO k nj)) (fun k nj=> .inl (BO k nj)),hR.defers,hR.nt,fun b x hx=>Pu b x (hR.ext b x hx)⟩,?_⟩
 ·rw[hP.old k (by omega) (fun hm=>?_)]
  ·exact hR.old k Vs RE
  ·rcases Ux k (.inl hm)with h|h
   ·exact RE h
   ·omega
 ·rcases cB with cB|cB
  ·have:=sj.ro k cB
   exact⟨by omega,this.2⟩
  ·obtain⟨U,h2⟩:=W5 k cB
   refine⟨U,?_⟩;rcases h2 with h2|h2
   ·exact(sj.ro k h2).2
   ·exact .inr (Ux k h2)
 ·
  have OV:gt c (gO s frag peek sto' cnt)=none∧get c=none:=by
   simp only[upd]at hc;split at hc
   ·cases hc
   ·rename_i h;exact⟨h,hc⟩
  have hcn:¬(s.nx≤c∧c<s.nx+cnt):=by
   intro h2;have h0:=OV.1;simp only[gO,kN]at h0;split at h0
   ·cases h0
   ·rename_i BP
    split at BP
    ·cases BP
    ·rw[iU (x:=c-s.nx) _ (List.mem_range.2 (by omega)) (by simp only;omega) (fun j hj e=>by simp only at e;rw[show j=c-s.nx by omega])]at BP
     cases BP
  show(if c<s.nx then ρ c else if c<s.nx+cnt then w_ (frag.length+(c-s.nx))else ρ c)=none
  have:=hR.free c OV.2
  by_cases U:c<s.nx
  ·rw[if_pos U];exact this
  ·rw[if_neg U,if_neg (by omega)];exact this
 ·by_cases hl:y.live=true
  ·rcases dC c y hy hl with⟨b,y',b1,rfl,b2,rfl⟩|⟨U,h2,h3,h4⟩
   ·rw[qR b b1]
    refine((hP.blk b y' b2).bB (fun _ _ h=>h) (bV.refl _ _) (fun k h=> .inr h) (.inr fun _ _=>rfl)).qP fun c' eR x hx=>?_;rw[qR c' (ZT _ (dY b2) c' eR)];exact hx
   ·rw[F' c y h3 h4]
    exact(hR.blk c y h3).bB Pu (fun k nj=>hK k (BO k nj)) (fun k nj=> .inl (BO k nj)) (.inr fun g hg=>by
     obtain⟨_,q2,q3⟩:=hold c y U h2 h3 hl g hg;exact hP.old g q3 q2)
  ·cases y with
   |dead=>trivial
   |box=>simp[ak.live]at hl
   |rows=>simp[ak.live]at hl
 ·rcases dC c y hy hl with⟨b,y',b1,rfl,b2,rfl⟩|⟨U,h2,h3,h4⟩
  ·rw[qR b b1]at hg
   rw[ak.cX]at hl;obtain⟨q1,q2⟩:=IZ g b y' b2 hl hg;exact⟨q1,Ux g q2⟩
  ·rw[F' c y h3 h4]at hg
   exact⟨(hold c y U h2 h3 hl g hg).1,(hR.own c y g h3 hl hg).2⟩
 ·rcases dC c y hy hl with⟨b,y1,b1,rfl,b2,rfl⟩|⟨U,h2,h3,h4⟩
  ·rw[qR b b1]at hg
   rw[ak.cX]at hl;rcases dC c' y' dc bz with⟨b',Uy,OP,rfl,Uz,rfl⟩|⟨iM,lU,F5,Pt⟩
   ·rw[qR b' OP]at a_
    rw[ak.cX]at bz;rw[hP.sep b y1 b' Uy g b2 hl Uz bz hg a_]
   ·rw[F' c' y' F5 Pt]at a_
    obtain⟨_,q2,q3⟩:=hold c' y' iM lU F5 bz g a_;rcases(IZ g b y1 b2 hl hg).2 with h|h
    ·exact absurd h q2
    ·omega
  ·rw[F' c y h3 h4]at hg
   rcases dC c' y' dc bz with⟨b',Uy,OP,rfl,Uz,rfl⟩|⟨iM,lU,F5,Pt⟩
   ·rw[qR b' OP]at a_
    rw[ak.cX]at bz;obtain⟨_,q2,q3⟩:=hold c y U h2 h3 hl g hg;rcases(IZ g b' Uy Uz bz a_).2 with h|h
    ·exact absurd h q2
    ·omega
   ·rw[F' c' y' F5 Pt]at a_
    exact hR.sep c y c' y' g h3 hl F5 bz hg a_
 ·refine(hv.bB (fun _ _ h=>h) (bV.refl _ _) (fun k h=> .inr h)).qP fun b hb x hx=>?_
  rw[qR b (hr b hb)];exact hx
end
end Go.Proofs.YtjklkppncmhehaaGreat.T
namespace Go.Proofs.YtjklkppncmhehaaGreat.T
open Go Go.RowKit
def u9 (P:Program)(rec:TypeId→Option (List Bool)):Nat→List Field→Option (List Bool)
 |_,[]=>some []
 |off,f::fs=>match rec f.type,aq P f.type,u9 P rec (off+((aq P f.type).map TD.size).getD 0) fs with
  |some a,some d,some b=>if f.name≠ "_"∧f.offset=off∧a.length=d.size then some (a++b)else none
  |_,_,_=>none
def xc (P:Program):Nat→TypeId→Option (List Bool)
 |0,_=>none
 |n+1,t=>match P.underlying t with
  |some (.int _)=>some [true]
  |some .bool=>some [false]
  |some (.struct fs)=>if P.stoodInHeld t=true then none else u9 P (xc P n) 0 fs.toList
  |_=>none
def iV (P:Program)(t:TypeId):Option (List Bool):=
 if P.eqGuardType P.depth t=true then none else match P.underlying t,aq P t with
  |some (.struct _),some _=>xc P 8 t
  |_,_=>none
def jv:List Bool→List TV→List TV→Option Bool
 |[],[],[]=>some true
 |true::ks,.r (.v (.int k a))::xs,.r (.v (.int k' b))::ys=>if k=k' then(jv ks xs ys).map fun r=>decide (a=b)&&r else none
 |false::ks,.r (.v (.bool a))::xs,.r (.v (.bool b))::ys=>(jv ks xs ys).map fun r=>(a==b)&&r
 |_,_,_=>none
theorem xd:∀{ks:List Bool} {xs ys:List TV} {r:Bool},jv ks xs ys=some r→xs.length=ks.length∧ys.length=ks.length:=by
 intro ks;induction ks with
 |nil=>
  intro xs ys r h;unfold jv at h;split at h<;>simp_all
 |cons k ks ih=>
  intro xs ys r h;unfold jv at h;split at h
  ·simp_all
  ·rename_i e1;cases e1
   split at h
   ·obtain⟨r',h',_⟩:=Option.map_eq_some_iff.1 h
    have:=ih h'
    simp[this.1,this.2]
   ·cases h
  ·rename_i e1;cases e1
   obtain⟨r',h',_⟩:=Option.map_eq_some_iff.1 h;have:=ih h'
   simp[this.1,this.2]
  ·cases h
theorem Pw:∀{a b:List Bool} {xs ys:List TV} {r:Bool},jv (a++b) xs ys=some r→∃r1 r2,jv a (xs.take a.length) (ys.take a.length)=some r1∧jv b (xs.drop a.length) (ys.drop a.length)=some r2∧r=(r1&&r2):=by
 intro a;induction a with
 |nil=>intro b xs ys r h;exact⟨true,r,by simp[jv],by simpa using h,by simp⟩
 |cons k a ih=>
  intro b xs ys r h;rw[List.cons_append]at h;unfold jv at h;split at h
  ·simp_all
  ·rename_i e1;cases e1
   split at h
   ·rename_i hk
    obtain⟨r',h',rfl⟩:=Option.map_eq_some_iff.1 h;obtain⟨r1,r2,U,h2,rfl⟩:=ih h';exact⟨_,r2,by simp only[List.length_cons,List.take_succ_cons,jv,U,hk,if_true];rfl,by simpa using h2,by simp[Bool.and_assoc]⟩
   ·cases h
  ·rename_i e1;cases e1
   obtain⟨r',h',rfl⟩:=Option.map_eq_some_iff.1 h;obtain⟨r1,r2,U,h2,rfl⟩:=ih h';exact⟨_,r2,by simp only[List.length_cons,List.take_succ_cons,jv,U];rfl,by simpa using h2,by simp[Bool.and_assoc]⟩
  ·cases h
section
variable {P:Program}{E:List PanicEntry→World→Prop}{nt:Nat}{o:Oper}{s:ae}{ρ:Nat→Option Value}{w:World}{D:Nat→Prop}
theorem nu {t:TypeId}{d:TD}{u:TypeDesc}(h:aq P t=some d)(hu:P.underlying t=some u):d.k=pX u:=by
 obtain⟨i,u',z,_,h2,_,_,_,_,h7⟩:=dX h;rw[hu]at h2
 cases h2;exact h7.symm
theorem sk (e:Nat){rec:TypeId→Option (List Bool)}(Sm:∀t ks,rec t=some ks→∀d,aq P t=some d→∀(v v':Value) (xs ys:List TV) (r:Bool),aY ρ w D v (mk d.k.agg xs)→aY ρ w D v' (mk d.k.agg ys)→jv ks xs ys=some r→(Op.equalIn e t v v').run P w= .ok r w)
  {arr arr':Array Value} {ts RF:List TV} (hn:arr.size=ts.length) (vq:arr'.size=RF.length) (h:∀(i:Nat) (t:TV),ts[i]?=some t→bW ρ w D (arr.getD i undef) t) (h':∀(i:Nat) (t:TV),RF[i]?=some t→bW ρ w D (arr'.getD i undef) t):
  ∀(fs:List Field) (off:Nat) (ks:List Bool) (r:Bool),u9 P rec off fs=some ks→off≤ts.length→off≤RF.length→jv ks (ts.drop off) (RF.drop off)=some r→(Op.eqFields e arr arr' fs).run P w= .ok r w
 |[],off,ks,r,hl,U,h2,hr=>by
  cases hl;unfold jv at hr;split at hr<;>simp_all[Op.eqFields]
 |f::fs,off,ks,r,hl,U,h2,hr=>by
  unfold u9 at hl;split at hl
  ·rename_i a d b ha hd hb
   split at hl
   ·rename_i hc
    obtain⟨c1,rfl,c3⟩:=hc
    cases hl;obtain⟨r1,r2,e1,e2,rfl⟩:=Pw hr;have hlen:=xd hr;simp only[List.length_drop,List.length_append]at hlen;have nd:=(cW hd).2.2.2;obtain⟨v,q1,q2⟩:=pf (w:=w) hd hn h (k:=f.offset) (by omega) nd
    obtain⟨v',q3,q4⟩:=pf (w:=w) hd vq h' (k:=f.offset) (by omega) nd
    rw[c3]at e1 e2;have k1:=Sm _ _ ha d hd v v' _ _ r1 q2 q4 e1;simp only[hd,Option.map_some,Option.getD_some]at hb;have k2:=sk e Sm hn vq h h' fs (f.offset+d.size) b r2 hb (by omega) (by omega) (by rw[List.drop_drop,List.drop_drop]at e2;exact e2)
    simp only[Op.eqFields,c1,ne_eq,not_false_eq_true,if_true,Sem.run_bind,q1,q3,k1,Result.andThen_ok,Sem.run_ite]
    cases r1
    ·simp
    ·simp[k2]
   ·cases hl
  ·cases hl
theorem Ga (e:Nat):∀(n:Nat) (t:TypeId) (ks:List Bool),xc P n t=some ks→∀d,aq P t=some d→∀(v v':Value) (xs ys:List TV) (r:Bool),aY ρ w D v (mk d.k.agg xs)→aY ρ w D v' (mk d.k.agg ys)→jv ks xs ys=some r→(Op.equalIn (e+n) t v v').run P w= .ok r w
 |0,t,ks,h,_,_,_,_,_,_,_,_,_,_=>by simp[xc]at h
 |n+1,t,ks,h,d,hd,v,v',xs,ys,r,hv,fp,hr=>by
  unfold xc at h;split at h
  ·rename_i k hu
   cases h;have hk:=nu hd hu;rw[hk]at hv fp;unfold jv at hr;split at hr
   ·simp_all
   ·rename_i e1;cases e1
    split at hr
    ·rename_i hk
     subst hk;obtain⟨r',U,rfl⟩:=Option.map_eq_some_iff.1 hr;have:=xd U
     simp only[List.length_nil,List.length_eq_zero_iff]at this;obtain⟨rfl,rfl⟩:=this
     cases U;have a1:=rT hv;have a2:=rT fp;subst a1 a2;rw[show e+(n+1)=(e+n)+1 from rfl,run_equalIn_int w _ _ _ _ _ _ hu]
     simp only[Bool.and_true];rfl
    ·cases hr
   ·rename_i e1;cases e1
   ·cases hr
  ·rename_i hu
   cases h;have hk:=nu hd hu;rw[hk]at hv fp;unfold jv at hr;split at hr
   ·simp_all
   ·rename_i e1;cases e1
   ·rename_i e1;cases e1
    obtain⟨r',U,rfl⟩:=Option.map_eq_some_iff.1 hr;have:=xd U
    simp only[List.length_nil,List.length_eq_zero_iff]at this;obtain⟨rfl,rfl⟩:=this
    cases U;have a1:=pg hv;have a2:=pg fp;subst a1 a2;rw[show e+(n+1)=(e+n)+1 from rfl,run_equalIn_bool' w _ _ _ _ hu]
    simp
   ·cases hr
  ·rename_i fs hu
   split at h
   ·cases h
   ·rename_i bj
    have hk:=nu hd hu;rw[hk]at hv fp;simp only[pX,TK.agg,mk,if_true]at hv fp;have pC:P.fieldsOf t=fs:=by simp[Program.fieldsOf,hu]
    cases hv with
    |a hn hv=>
     cases fp with
     |a vq fp=>
      rw[show e+(n+1)=(e+n)+1 from rfl,run_equalIn_struct w _ t _ _ (by rw[pC];exact hu) (by simpa using bj),pC]
      exact sk (e+n) (fun t ks h d hd v v' xs ys r q1 q2 q3=>Ga e n t ks h d hd v v' xs ys r q1 q2 q3) hn vq hv fp _ 0 ks r h (by omega) (by omega) hr
  ·cases h
def aD (P:Program)(t:TypeId):Bool:=match P.underlying t with
 |some .bool=>true
 |_=>false
def xe (P:Program)(t:TypeId)(op:BinOp)(gx gy:GV):Option GV:=match gx,gy with
 | .a xs,.a ys=>match iV P t with
   |some ks=>match jv ks xs ys with
    |some r=>match op with
     | .eql=>some (gB r)
     | .neq=>some (gB (!r))
     |_=>none
    |none=>none
   |none=>none
 |_,_=>JL (aD P t) op gx gy
theorem Px {op:BinOp}{t yt:TypeId}{x y:Operand}(ho:o.op= .binOp op t x y yt)(hd:bu o nt=true){g:GV}(hg:xe P t op (s.ev x) (s.ev y)=some g):dR P E nt o [] (bF s.env [x,y]) g []:=by
 unfold xe at hg;split at hg
 ·rename_i xs ys ex ey
  refine .still hd fun C env get a w ρ D hf hi hR=>?_;have hx:=aW hR hi (x:=x) (by simp)
  have hy:=aW hR hi (x:=y) (by simp)
  rw[ex]at hx;rw[ey]at hy;split at hg
  ·rename_i ks I0
   split at hg
   ·rename_i r hr
    unfold iV at I0;split at I0
    ·cases I0
    ·rename_i u_
     split at I0
     ·rename_i fs d hu W7
      have nd:=nu W7 hu;have key:∀v v',aY ρ w D v (.a xs)→aY ρ w D v' (.a ys)→(Op.equalIn 10000 t v v').run P w= .ok r w:=fun v v' U h2=>
       Ga (P:=P) 9992 8 t ks I0 d W7 v v' xs ys r (by rw[nd];exact U) (by rw[nd];exact h2) hr
      generalize ha:a.eval x=vx at hx;generalize hb:a.eval y=vy at hy;have key:=key vx vy hx hy
      cases hx with
      |a hn hx=>
       cases hy with
       |a vq hy=>
        have u_:P.eqGuardType P.depth t=false:=by simpa using u_
        split at hg
        ·cases hg
         exact⟨.bool r,by simp[execOp,ho,ha,hb,run_eqGuard_agg w _ _ _ _ _ _ u_,run_eql_struct,key],.s (.r (.v rfl))⟩
        ·cases hg
         exact⟨.bool (!r),by simp[execOp,ho,ha,hb,run_eqGuard_agg w _ _ _ _ _ _ u_,run_neq_struct,key],.s (.r (.v rfl))⟩
        ·cases hg
     ·cases I0
   ·cases hg
  ·cases hg
 ·exact Rr ho hd (fun h=>by unfold aD at h;split at h<;>simp_all) hg
def oJ (P:Program)(t:TypeId):Option IntKind:=match P.underlying t with
 |some (.int k)=>some k
 |_=>none
theorem Gb {src dst:TypeId}{x:Operand}(ho:o.op= .convert src dst x)(hd:bu o nt=true){k k0 k1:IntKind}{n:Int}(U:oJ P src=some k1)(h2:oJ P dst=some k)(h3:(s.ev x).i?=some (k0,n)):dR P E nt o [] (bF s.env [x]) (gI k (k.wrap n)) []:=by
 refine .still hd fun C env get a w ρ D hf hi hR=>?_;have hx:=GV.eY h3 (aW hR hi (x:=x) (by simp))
 unfold oJ at U h2;split at U
 ·rename_i u1
  split at h2
  ·rename_i u2
   cases U;cases h2
   exact⟨.int k (k.wrap n),by simp[execOp,ho,hx,convert,run_underlying u1,run_underlying u2,Conv.intToInt],.s (.r (.v rfl))⟩
  ·cases h2
 ·cases U
def Gc:GV→Bool
 | .s (.ptr _ _)| .s (.row _ _ _ _)| .s (.gS _ _)=>true
 |_=>false
theorem BQ {x:Operand}(ho:o.op= .nilCheck x)(hd:bu o nt=true)(h:Gc (s.ev x)=true):dR P E nt o [] (bF s.env [x]) (s.ev x) []:=by
 refine .still hd fun C env get a w ρ D hf hi hR=>?_;have hx:=aW hR hi (x:=x) (by simp)
 generalize hv:a.eval x=v at hx;have:∃A,v= .pointer (some A):=by
  unfold Gc at h;split at h
  ·rename_i e;rw[e]at hx;cases hx with|s hx=>cases hx with|ptr _=>exact⟨_,rfl⟩
  ·rename_i e;rw[e]at hx;cases hx with|s hx=>cases hx with|row _=>exact⟨_,rfl⟩
  ·rename_i e;rw[e]at hx;cases hx with|s hx=>cases hx with|gS _ _ _ _=>exact⟨_,rfl⟩
  ·cases h
 obtain⟨A,hA⟩:=this;exact⟨.pointer (some A),by simp[execOp,ho,hv,hA],hA▸hx⟩
end
end Go.Proofs.YtjklkppncmhehaaGreat.T
namespace Go.Proofs.YtjklkppncmhehaaGreat.T
open Go Go.RowKit
def TV.flat:TV→Bool
 | .r (.v _)=>true
 |_=>false
mutual
def GV.flat:GV→Bool
 | .s t=>t.flat
 | .a ts=>ts.all TV.flat
 | .p gs=>xf gs
 |_=>false
def xf:List GV→Bool
 |[]=>true
 |g::gs=>g.flat&&xf gs
end
theorem bW.flat {ρ ρ':Nat→Option Value}{w w':World}{D D':Nat→Prop}{v:Value}{t:TV}(h:bW ρ w D v t)(hf:t.flat=true):bW ρ' w' D' v t:=by
 unfold TV.flat at hf;split at hf
 ·cases h with|r h=>cases h with|v h=>exact .r (.v h)
 ·cases hf
theorem xg {g:GV}:∀{gs:List GV},xf gs=true→g∈gs→g.flat=true
 |x::gs,h,hm=>by
  simp only[xf,Bool.and_eq_true]at h;rcases List.mem_cons.1 hm with rfl|hm
  ·exact h.1
  ·exact xg h.2 hm
theorem aY.flat {ρ ρ':Nat→Option Value}{w w':World}{D D':Nat→Prop}{v:Value}{g:GV}(h:aY ρ w D v g):g.flat=true→aY ρ' w' D' v g:=by
 induction h with
 |s h=>exact fun hf=> .s (h.flat hf)
 |a hn h=>exact fun hf=> .a hn fun i t ht=>(h i t ht).flat (by simp only[GV.flat,List.all_eq_true]at hf;exact hf t (List.mem_of_getElem? ht))
 |p hn _ ih=>exact fun hf=> .p hn fun i g hg=>ih i g hg (xg hf (List.mem_of_getElem? hg))
 |eI=>exact fun hf=>by simp[GV.flat]at hf
 |u=>exact fun hf=>by simp[GV.flat]at hf
theorem TV.kQ (get:Nat→Option ak)(t:TV):t.bZ get []=t:=by
 unfold TV.bZ;split<;>simp
mutual
theorem GV.kQ (get:Nat→Option ak):∀(g:GV),g.bZ get []=g
 | .s t=>by simp only[GV.bZ,TV.kQ]
 | .a ts=>by simp only[GV.bZ];congr 1;exact(List.map_congr_left fun t _=>TV.kQ get t).trans (List.map_id ts)
 | .p gs=>by simp only[GV.bZ,mA get gs]
 | .eI _ _ _=>by simp only[GV.bZ]
 | .u=>by simp only[GV.bZ]
theorem mA (get:Nat→Option ak):∀(gs:List GV),eL get [] gs=gs
 |[]=>by simp only[eL]
 |g::gs=>by simp only[eL,GV.kQ get g,mA get gs]
end
theorem TV.iq (f:Nat→Nat)(t:TV)(h:t.names=[]):t.bg f=t:=by
 cases t<;>first|rfl|(simp[TV.names]at h)
mutual
theorem GV.iq (f:Nat→Nat):∀(g:GV),g.names=[]→g.bg f=g
 | .s t,h=>by simp only[GV.bg,TV.iq f t h]
 | .a ts,h=>by
   simp only[GV.bg];congr 1;refine(List.map_congr_left fun t ht=>TV.iq f t ?_).trans (List.map_id ts)
   simp only[GV.names,List.flatMap_eq_nil_iff]at h;exact h t ht
 | .p gs,h=>by simp only[GV.bg,mB f gs h]
 | .eI _ fs cs,h=>by
   simp only[GV.names,List.append_eq_nil_iff]at h;simp only[GV.bg,mB f fs h.1,mB f cs h.2]
 | .u,_=>by simp only[GV.bg]
theorem mB (f:Nat→Nat):∀(gs:List GV),cI gs=[]→eK f gs=gs
 |[],_=>by simp only[eK]
 |g::gs,h=>by
  simp only[cI,List.append_eq_nil_iff]at h;simp only[eK,GV.iq f g h.1,mB f gs h.2]
end
theorem TV.sn (t:TV):t.bg id=t:=by cases t<;>rfl
mutual
theorem GV.sn:∀(g:GV),g.bg id=g
 | .s t=>by simp only[GV.bg,TV.sn]
 | .a ts=>by simp only[GV.bg];congr 1;exact(List.map_congr_left fun t _=>TV.sn t).trans (List.map_id ts)
 | .p gs=>by simp only[GV.bg,sq gs]
 | .eI _ fs cs=>by simp only[GV.bg,sq fs,sq cs]
 | .u=>by simp only[GV.bg]
theorem sq:∀(gs:List GV),eK id gs=gs
 |[]=>by simp only[eK]
 |g::gs=>by simp only[eK,GV.sn g,sq gs]
end
section
variable {P:Program}{E:List PanicEntry→World→Prop}{nt:Nat}{o:Oper}{s:ae}
theorem Py {fx:Operand}{args:Array Operand}{Pp:Array TypeId}(ho:o.op= .call {callee:= .value fx,args:=args,argTypes:=Pp})(hd:bu o nt=true){f:FuncId}{fs cs:List GV}(hf:s.ev fx= .eI (.func f) fs cs){peek:List Nat}{bJ:List GV}{r:GV}
  (hT:TC P E f bJ 0 [] r []) (ha:eL s.get peek (fs++args.toList.map s.ev++cs)=bJ) (eJ:∀b∈peek,rowOf (s.get b)=true) (hr:r.flat=true):
  dR P E nt o (peek.map fun b=>(b,s.get b)) (bF s.env (fx::args.toList)) r []:=by
 refine .call hd fun C env get a w ρ D qG hi hR=>?_;obtain⟨first,jq,e1,jG,qQ⟩:=zu hR hi hf;obtain⟨F8,hT⟩:=hT;refine⟨f,_,zt ho e1 F8 w,?_⟩;have wZ:∀b∈peek,get b=s.get b:=fun b hb=>qG (b,s.get b) (List.mem_map.2 ⟨b,hb,rfl⟩)
 obtain⟨D1,sj,BO,Pq⟩:=hR.consume peek fun b hb=>by
  have:=eJ b hb
  rw[wZ b hb];unfold rowOf at this;split at this
  ·rename_i h;exact⟨_,h,rfl⟩
  ·cases this
 refine(hT w _ ρ D1 (by rw[jG,←ha,fQ]) (fun i g hg=>?_) (fun k hk=>(sj.ro k hk).1) (fun b y h=>by cases h) (fun b y g h=>by cases h) (fun b y b' y' g h=>by cases h)).mono ?_
 ·rw[←ha,mz,Option.map_eq_some_iff]at hg
  obtain⟨g',a_,rfl⟩:=hg;rw[←GV.iS wZ];exact(qQ i g' a_).bZ hR BO Pq
 rintro e w' (h|⟨v,w_,D2,rfl,hv,hP⟩)
 ·exact .inl h
 right
 have hm:∀k,¬Mf [] ρ k:=fun k ⟨b,y,h,_⟩=>by cases h
 have hold:∀k,k<w.heap.size→w'.heap[k]?=w.heap[k]?:=fun k hk=>hP.old k hk (hm k)
 have hK:bV D w w':=fun k hd=>hold k (hR.ro k hd).1
 have U:=hR.size;have h2:=hP.size;refine⟨v,ρ,D,rfl,⟨hP.os.trans hR.os,hP.tape.trans hR.tape,hP.output.trans hR.output,by omega,fun k hk hM=>(hold k (by omega)).trans (hR.old k hk hM),fun k hk=>⟨Nat.lt_of_lt_of_le (hR.ro k hk).1 h2,(hR.ro k hk).2⟩,hR.free,fun b y hy=>?_,hR.own,hR.sep,fun t=>(hR.env t).bB (fun _ _ h=>h) hK fun _ h=>h,hR.defers,hR.nt,hR.ext⟩,hv.flat hr⟩
 refine(hR.blk b y hy).bB (fun _ _ h=>h) hK (fun _ h=>h) ?_
 by_cases hl:y.live=true
 ·exact .inr fun g hg=>hold g (hR.fu hy hl hg)
 ·left
  cases y<;>simp[ak.live]at hl
  rfl
abbrev KT:=List (Nat×Option ak)→GV→List (Nat×ak)→Nat→Prop
def GV.fn?:GV→Option (FuncId×List GV×List GV)
 | .eI (.func f) fs cs=>some (f,fs,cs)
 |_=>none
def RG (P:Program)(E:List PanicEntry→World→Prop)(s:ae)(fx:GV)(args:List GV)(K:KT):Prop:=
 ∃f fs cs,fx.fn?=some (f,fs,cs)∧
  ((cI (fs++args++cs)=[]∧∃r,TC P E f (fs++args++cs) 0 [] r []∧r.names=[]∧K [] r [] s.nx)∨
   (∃peek bJ r,TC P E f bJ 0 [] r []∧eL s.get peek (fs++args++cs)=bJ∧(∀b∈peek,rowOf (s.get b)=true)∧r.flat=true∧K (peek.map fun b=>(b,s.get b)) r [] s.nx)∨
   ∃frag peek bJ sto0 sto' cnt r,TC P E f bJ frag.length sto0 r sto'∧BN s (fs++args++cs) frag peek bJ sto0 sto' cnt∧(∀b∈r.names,b<frag.length+cnt)∧(∀x∈sto',∀b∈x.2.names,b<frag.length+cnt)∧
    K (fS s frag peek cnt) (r.bg (φ frag s.nx)) (gO s frag peek sto' cnt) (s.nx+cnt))
def pn (P:Program)(E:List PanicEntry→World→Prop)(s:ae):Callee→List Operand→List TypeId→KT→Prop
 | .builtin .len,[x],[t],K=>∃d,aq P t=some d∧∃e,d.k= .slice e∧∃k xs fr,s.view (s.ev x)=some (k,xs,fr)∧K fr (gI .i64 xs.length) [] s.nx
 | .builtin .max,[x,y],_,K=>∃k m,(s.ev x).i?=some (k,m)∧∃k' n,(s.ev y).i?=some (k',n)∧K [] (gI k (if n>m then n else m)) [] s.nx
 | .builtin .min,[x,y],_,K=>∃k m,(s.ev x).i?=some (k,m)∧∃k' n,(s.ev y).i?=some (k',n)∧K [] (gI k (if n<m then n else m)) [] s.nx
 | .builtin .append,[bx,yx],[t,t'],K=>t=t'∧∃d,aq P t=some d∧∃e,d.k= .slice e∧∃de,aq P e=some de∧0<de.size∧∃xs ob,s.pj e de.size (s.ev bx)=some (xs,ob)∧∃k ys fr,s.view (s.ev yx)=some (k,ys,fr)∧(k=de.size∨ys=[])∧
   (xs.length+ys.length)*de.bytes≤140737488355328∧xs.length+ys.length≤maxLen∧K ((s.nx,none)::(zo s ob++fr)) (.s (.own s.nx)) ((s.nx,.rows e de.size (xs++ys))::r_ ob) (s.nx+1)
 | .value fx,args,_,K=>RG P E s (s.ev fx) (args.map s.ev) K
 |_,_,_,_=>False
def su (P:Program)(E:List PanicEntry→World→Prop)(s:ae)(op:Op)(K:KT):Prop:=
 match op with
 | .move x=>K [] (s.ev x) [] s.nx
 | .assign x=>K [] (s.ev x) [] s.nx
 | .pick c x y=>∃t,(s.ev c).b?=some t∧(t=true→K [] (s.ev x) [] s.nx)∧(t=false→K [] (s.ev y) [] s.nx)
 | .alloc t=>∃d,aq P t=some d∧K [(s.nx,none)] (.s (.ptr s.nx 0)) [(s.nx,.box (d.zero.map fun x=> .r (jr x)))] (s.nx+1)
 | .box _ x=>∃cs,(s.ev x).cells?=some cs∧K [(s.nx,none)] (.s (.ptr s.nx 0)) [(s.nx,.box cs)] (s.nx+1)
 | .build t ps=>∃d,aq P t=some d∧d.k.agg=true∧(d.k.zm.all fun t=>(aq P t).isSome)=true∧∃cs,ng (placeOf (aq P) d.k) (d.zero.map fun x=> .r (jr x)) (kP s ps.toList)=some cs∧K [] (.a cs) [] s.nx
 | .buildSlice t n ps=>∃d,aq P t=some d∧∃e,d.k= .slice e∧∃de,aq P e=some de∧0<de.size∧ps.toList.length=n∧n*de.size≤16777216∧∃xs bs,nk s de.size 0 ps.toList=some (xs,bs)∧
   K ((s.nx,none)::bs.map fun c=>(c,s.get c)) (.s (.own s.nx)) ((s.nx,.rows e de.size xs)::bs.map fun c=>(c,.dead)) (s.nx+1)
 | .load t x=>∃d,aq P t=some d∧∃fr cs,s.deref (s.ev x)=some (fr,cs)∧d.size≤cs.length∧K fr (mk d.k.agg (cs.take d.size)) [] s.nx
 | .store t ax vx=>∃d,aq P t=some d∧∃ys,(s.ev vx).cells?=some ys∧ys.length=d.size∧match s.ev ax with
   | .s (.ptr b off)=>∃cs,s.get b=some (.box cs)∧off+ys.length≤cs.length∧K [(b,some (.box cs))] .u [(b,.box (cr cs off ys))] s.nx
   | .s (.row b k i off)=>∃e xs,s.get b=some (.rows e k xs)∧∃y,xs[i]?=some y∧off+ys.length≤y.length∧∃rs bs,s.lZ ys=some (rs,bs)∧b∉bs∧
     K ((b,some (.rows e k xs))::bs.map fun c=>(c,s.get c)) .u ((b,.rows e k (xs.set i (cr y off rs)))::bs.map fun c=>(c,.dead)) s.nx
   |_=>False
 | .fieldAddr t x f=>∃k d',nc (aq P) t f=some (k,d')∧d'.size≠0∧∃g,lE k (s.ev x)=some g∧K [] g [] s.nx
 | .field t x f=>∃k d',nc (aq P) t f=some (k,d')∧∃ts,(s.ev x).agg?=some ts∧k+d'.size≤ts.length∧K [] (mk d'.k.agg ((ts.drop k).take d'.size)) [] s.nx
 | .indexAddr t x ix=>∃k n,(s.ev ix).i?=some (k,n)∧0≤n∧s.elem (aq P) t n.toNat (s.ev x) fun fr g=>K fr g [] s.nx
 | .index t x ix=>∃d,aq P t=some d∧∃m e,d.k= .array m e∧∃de,aq P e=some de∧∃k n,(s.ev ix).i?=some (k,n)∧0≤n∧n<m∧∃ts,(s.ev x).agg?=some ts∧n.toNat*de.size+de.size≤ts.length∧
   K [] (mk de.k.agg ((ts.drop (n.toNat*de.size)).take de.size)) [] s.nx
 | .binOp op t x y _=>∃g,xe P t op (s.ev x) (s.ev y)=some g∧K [] g [] s.nx
 | .convert src dst x=>∃k1,oJ P src=some k1∧∃k,oJ P dst=some k∧∃k0 n,(s.ev x).i?=some (k0,n)∧K [] (gI k (k.wrap n)) [] s.nx
 | .nilCheck x=>Gc (s.ev x)=true∧K [] (s.ev x) [] s.nx
 | .unOp .not _ x=>∃b,(s.ev x).b?=some b∧K [] (gB (!b)) [] s.nx
 | .unOp .neg _ x=>∃k n,(s.ev x).i?=some (k,n)∧K [] (gI k (k.wrap (0-n))) [] s.nx
 | .extract x i=>∃gs,(s.ev x).tup?=some gs∧∃g,gs[i]?=some g∧K [] g [] s.nx
 | .makeFunc fn f c=>K [] (.eI fn (f.toList.map s.ev) (c.toList.map s.ev)) [] s.nx
 | .makeSlice t lx cx=>∃d,aq P t=some d∧∃e,d.k= .slice e∧∃de,aq P e=some de∧0<de.size∧∃k n,(s.ev lx).i?=some (k,n)∧∃k' m,(s.ev cx).i?=some (k',m)∧0≤n∧n≤m∧(de.bytes:Int)*m≤281474976710656∧m≤9223372036854775807∧
   K [(s.nx,none)] (.s (.own s.nx)) [(s.nx,.rows e de.size (List.replicate n.toNat (de.zero.map jr)))] (s.nx+1)
 | .slice t x lo hi none=>∃d,aq P t=some d∧∃e,d.k= .slice e∧∃de,aq P e=some de∧∃k xs fr,s.view (s.ev x)=some (k,xs,fr)∧(k=de.size∨xs=[])∧∃l,BI s 0 lo=some l∧∃h,BI s xs.length hi=some h∧l≤h∧h≤xs.length∧
   K fr (.s (.r (.sl de.size ((xs.take h).drop l)))) ((gM (s.ev x)).map fun b=>(b,.dead)) s.nx
 | .call c=>pn P E s c.callee c.args.toList c.argTypes.toList K
 |_=>False
theorem Gd {nx b:Nat}{y:ak}{Δ:List (Nat×ak)}(U:nx≤b)(h2:b<nx+1):gt b ((nx,y)::Δ)≠none:=by
 obtain rfl:b=nx:=by omega
 simp[gt]
theorem RH (s:ae)(h:∀x∈s.sto,x.1<s.nx):s.get s.nx=none:=by
 unfold ae.get;split
 ·rename_i y hy
  have:=h _ (dY hy)
  simp at this
 ·simp
theorem JV (s:ae)(h:∀x∈s.sto,x.1<s.nx){b:Nat}(hb:s.nx≤b):s.get b=none:=by
 unfold ae.get;split
 ·rename_i y hy
  have:=h _ (dY hy)
  simp at this;omega
 ·rw[if_neg (by omega)]
structure uo (s:ae) (fr:List (Nat×Option ak)) (Δ:List (Nat×ak)) (iW:Nat):Prop where
 fr:∀x∈fr,s.get x.1=x.2
 le:s.nx≤iW
 new:∀b,s.nx≤b→b<iW→gt b Δ≠none
 lt:∀x∈Δ,x.1<iW
theorem nv {s:ae}(hs:∀x∈s.sto,x.1<s.nx){b:Nat}{y:ak}(h:s.get b=some y):b<s.nx:=by
 rcases Nat.lt_or_ge b s.nx with U|U
 ·exact U
 ·rw[JV s hs U]at h;cases h
theorem Mr {g:GV}{fr:List (Nat×Option ak)}{cs:List TV}(hc:s.deref g=some (fr,cs)):∀x∈fr,s.get x.1=x.2:=by
 unfold ae.deref at hc;split at hc
 ·split at hc
  ·rename_i hg;cases hc;intro x hx;simp at hx;subst hx;exact hg
  ·cases hc
 ·split at hc
  ·rename_i hg
   split at hc
   ·split at hc
    ·cases hc;intro x hx;simp at hx;subst hx;exact hg
    ·cases hc
   ·cases hc
  ·cases hc
 ·cases hc;intro x hx;cases hx
 ·cases hc
theorem xh {g:GV}{k:Nat}{xs:List (List RT)}{fr:List (Nat×Option ak)}(h:s.view g=some (k,xs,fr)):∀x∈fr,s.get x.1=x.2:=by
 unfold ae.view at h;split at h
 ·cases h;intro x hx;cases hx
 ·cases h;intro x hx;cases hx
 ·split at h
  ·rename_i hg;cases h;intro x hx;simp at hx;subst hx;exact hg
  ·cases h
 ·cases h
theorem uo.nil (hs:∀x∈s.sto,x.1<s.nx){fr:List (Nat×Option ak)}(h:∀x∈fr,s.get x.1=x.2):uo s fr [] s.nx:=⟨h,Nat.le_refl _,fun b U h2=>by omega,fun x hx=>by cases hx⟩
theorem uq (hs:∀x∈s.sto,x.1<s.nx)(hd:bu o nt=true){K:KT}(h:su P E s o.op K):∃fr gv Δ iW,dR P E nt o fr (bF s.env o.op.operands.toList) gv Δ∧uo s fr Δ iW∧K fr gv Δ iW:=by
 have eH:∀x∈([]:List (Nat×Option ak)),s.get x.1=x.2:=fun x hx=>by cases hx
 have p9:s.get s.nx=none:=RH s hs
 unfold su at h;split at h
 ·rename_i x ho
  exact⟨_,_,_,_,by rw[ho];exact FJ (.inl ho) hd,.nil hs eH,h⟩
 ·rename_i x ho
  exact⟨_,_,_,_,by rw[ho];exact FJ (.inr ho) hd,.nil hs eH,h⟩
 ·rename_i c x y ho
  obtain⟨t,U,h2,h3⟩:=h;refine⟨_,_,_,_,by rw[ho];exact O0 ho hd U,.nil hs eH,?_⟩
  cases t
  ·exact h3 rfl
  ·exact h2 rfl
 ·rename_i t ho
  obtain⟨d,U,h2⟩:=h;exact⟨_,_,_,_,by rw[ho];exact Mg ho hd U,⟨fun x hx=>by simp at hx;subst hx;exact p9,by omega,fun b U h2=>Gd U h2,fun x hx=>by simp at hx;subst hx;simp⟩,h2⟩
 ·rename_i t x ho
  obtain⟨cs,U,h2⟩:=h;exact⟨_,_,_,_,by rw[ho];exact Rs ho hd U,⟨fun x hx=>by simp at hx;subst hx;exact p9,by omega,fun b U h2=>Gd U h2,fun x hx=>by simp at hx;subst hx;simp⟩,h2⟩
 ·rename_i t ps ho
  obtain⟨d,U,h2,h3,cs,h4,h5⟩:=h;exact⟨_,_,_,_,by rw[ho];exact Mh ho hd U h3 h4 h2,.nil hs eH,h5⟩
 ·rename_i t n ps ho
  obtain⟨d,U,e,h2,de,h3,h4,h5,h6,xs,bs,h7,h8⟩:=h;have hl:=lH h7;refine⟨_,_,_,_,by rw[ho];exact wP (b:=s.nx) ho hd U h2 h3 h4 h5 h6 h7,⟨fun x hx=>?_,by omega,fun b U h2=>Gd U h2,fun x hx=>?_⟩,h8⟩
  ·rcases List.mem_cons.1 hx with rfl|hx
   ·exact p9
   ·obtain⟨c,_,rfl⟩:=List.mem_map.1 hx;rfl
  ·rcases List.mem_cons.1 hx with rfl|hx
   ·simp
   ·obtain⟨c,hc,rfl⟩:=List.mem_map.1 hx
    obtain⟨e,k,xs,hc⟩:=hl c hc;have:=nv hs hc
    simp only;omega
 ·rename_i t x ho
  obtain⟨d,U,fr,cs,h2,h3,h4⟩:=h;exact⟨_,_,_,_,by rw[ho];exact O7 ho hd U h2 h3 (cW U).2.2.2,.nil hs (Mr h2),h4⟩
 ·rename_i t ax vx ho
  obtain⟨d,U,ys,h2,h3,h4⟩:=h;split at h4
  ·rename_i b off ha
   obtain⟨cs,h5,h6,h7⟩:=h4;exact⟨_,_,_,_,by rw[ho];exact BF ho hd U ha h5 h2 h3 h6,⟨fun x hx=>by simp at hx;subst hx;exact h5,Nat.le_refl _,fun b U h2=>by omega,fun x hx=>by simp at hx;subst hx;exact nv hs h5⟩,h7⟩
  ·rename_i b k i off ha
   obtain⟨e,xs,h5,y,h6,h7,rs,bs,h8,h9,pH⟩:=h4;have hl:=lF h8;refine⟨_,_,_,_,by rw[ho];exact BG ho hd U ha h5 h2 h6 h3 h7 h8 h9,⟨fun x hx=>?_,Nat.le_refl _,fun b U h2=>by omega,fun x hx=>?_⟩,pH⟩
   ·rcases List.mem_cons.1 hx with rfl|hx
    ·exact h5
    ·obtain⟨c,_,rfl⟩:=List.mem_map.1 hx;rfl
   ·rcases List.mem_cons.1 hx with rfl|hx
    ·exact nv hs h5
    ·obtain⟨c,hc,rfl⟩:=List.mem_map.1 hx
     obtain⟨e,k,xs,hc⟩:=hl c hc;exact nv hs hc
  ·exact h4.elim
 ·rename_i t x f ho
  obtain⟨k,d',U,h2,g,h3,h4⟩:=h;exact⟨_,_,_,_,by rw[ho];exact yB ho hd U h2 h3,.nil hs eH,h4⟩
 ·rename_i t x f ho
  obtain⟨k,d',U,ts,h2,h3,h4⟩:=h;have nd:d'.k.agg=true∨d'.size=1:=by
   obtain⟨_,_,_,_,_,h5⟩:=oI U;exact(cW h5).2.2.2
  exact⟨_,_,_,_,by rw[ho];exact Md ho hd U h2 h3 nd,.nil hs eH,h4⟩
 ·rename_i t x ix ho
  obtain⟨k,n,U,h2,h3⟩:=h;obtain⟨fr,g,h4,h5,h6⟩:=O_ (E:=E) (nt:=nt) ho hd U h2 h3;exact⟨_,_,_,_,by rw[ho];exact h4,.nil hs h5,h6⟩
 ·rename_i t x ix ho
  obtain⟨d,U,m,e,h2,de,h3,k,n,h4,h5,h6,ts,h7,h8,h9⟩:=h;exact⟨_,_,_,_,by rw[ho];exact Me ho hd U h2 h3 h4 h5 h6 h7 h8 (cW h3).2.2.2,.nil hs eH,h9⟩
 ·rename_i op t x y yt ho
  obtain⟨g,U,h2⟩:=h;exact⟨_,_,_,_,by rw[ho];exact Px ho hd U,.nil hs eH,h2⟩
 ·rename_i src dst x ho
  obtain⟨k1,U,k,h2,k0,n,h3,h4⟩:=h;exact⟨_,_,_,_,by rw[ho];exact Gb ho hd U h2 h3,.nil hs eH,h4⟩
 ·rename_i x ho
  exact⟨_,_,_,_,by rw[ho];exact BQ ho hd h.1,.nil hs eH,h.2⟩
 ·rename_i t x ho
  obtain⟨b,U,h2⟩:=h;exact⟨_,_,_,_,by rw[ho];exact Rp ho hd U,.nil hs eH,h2⟩
 ·rename_i t x ho
  obtain⟨k,n,U,h2⟩:=h;exact⟨_,_,_,_,by rw[ho];exact Rq ho hd U,.nil hs eH,h2⟩
 ·rename_i x i ho
  obtain⟨gs,U,g,h2,h3⟩:=h;exact⟨_,_,_,_,by rw[ho];exact FK ho hd U h2,.nil hs eH,h3⟩
 ·rename_i fn f c ho
  exact⟨_,_,_,_,by rw[ho];exact BC ho hd,.nil hs eH,h⟩
 ·rename_i t lx cx ho
  obtain⟨d,U,e,h2,de,h3,h4,k,n,h5,k',m,h6,h7,h8,h9,pH,ZX⟩:=h;exact⟨_,_,_,_,by rw[ho];exact yC (b:=s.nx) ho hd U h2 h3 h4 h5 h6 h7 h8 h9 pH,⟨fun x hx=>by simp at hx;subst hx;exact p9,by omega,fun b U h2=>Gd U h2,fun x hx=>by simp at hx;subst hx;simp⟩,ZX⟩
 ·rename_i t x lo hi ho
  obtain⟨d,U,e,h2,de,h3,k,xs,fr,h4,h5,l,h6,h',h7,h8,h9,pH⟩:=h;have aS:(Op.slice t x lo hi none).operands.toList=x::(ui lo++ui hi):=by cases lo<;>cases hi<;>simp[Op.operands,ui]
  refine⟨_,_,_,_,by rw[ho,aS];exact Mj ho hd U h2 h3 h4 h5 h6 h7 h8 h9,⟨xh h4,Nat.le_refl _,fun b U h2=>by omega,fun y hy=>?_⟩,pH⟩
  obtain⟨c,hc,rfl⟩:=List.mem_map.1 hy;unfold gM at hc;split at hc
  ·rename_i b eb
   simp only[List.mem_cons,List.not_mem_nil,or_false]at hc;subst hc;rw[eb]at h4;simp only[ae.view]at h4;split at h4
   ·rename_i hg;exact nv hs hg
   ·cases h4
  ·cases hc
 ·rename_i c ho
  obtain⟨callee,tu,UA⟩:=c;simp only at h
  unfold pn at h;split at h
  ·rename_i x t ea et
   obtain rfl:tu= #[x]:=Array.toList_inj.1 ea
   obtain rfl:UA= #[t]:=Array.toList_inj.1 et
   obtain⟨d,U,e,h2,k,xs,fr,h3,h4⟩:=h;exact⟨_,_,_,_,by rw[ho];exact Ro ho hd U h2 h3,.nil hs (xh h3),h4⟩
  ·rename_i x y ea
   obtain rfl:tu= #[x,y]:=Array.toList_inj.1 ea
   obtain⟨k,m,U,k',n,h2,h3⟩:=h;exact⟨_,_,_,_,by rw[ho];exact Ru ho hd U h2,.nil hs eH,h3⟩
  ·rename_i x y ea
   obtain rfl:tu= #[x,y]:=Array.toList_inj.1 ea
   obtain⟨k,m,U,k',n,h2,h3⟩:=h;exact⟨_,_,_,_,by rw[ho];exact Rv ho hd U h2,.nil hs eH,h3⟩
  ·rename_i bx yx t t' ea et
   obtain rfl:tu= #[bx,yx]:=Array.toList_inj.1 ea
   obtain rfl:UA= #[t,t']:=Array.toList_inj.1 et
   obtain⟨rfl,d,U,e,h2,de,h3,h4,xs,ob,h5,k,ys,fr,h6,h7,h8,h9,pH⟩:=h;refine⟨_,_,_,_,by rw[ho];exact IT (b':=s.nx) ho hd U h2 h3 h4 h5 h6 h7 h8 h9,⟨fun x hx=>?_,by omega,fun b U h2=>Gd U h2,fun x hx=>?_⟩,pH⟩
   ·rcases List.mem_cons.1 hx with rfl|hx
    ·exact p9
    ·rcases List.mem_append.1 hx with hx|hx
     ·unfold zo at hx
      split at hx
      ·simp at hx;subst hx;rfl
      ·cases hx
     ·exact xh h6 x hx
   ·rcases List.mem_cons.1 hx with rfl|hx
    ·simp
    ·unfold r_ at hx
     split at hx
     ·rename_i b
      simp at hx;subst hx
      unfold ae.pj at h5;split at h5
      ·split at h5
       ·rename_i hg
        split at h5
        ·cases h5;have:=nv hs hg;simp only;omega
        ·cases h5
       ·cases h5
      ·cases h5
      ·cases h5
     ·cases hx
  ·rename_i fx
   obtain⟨f,fs,cs,U,h2⟩:=h;have hf:s.ev fx= .eI (.func f) fs cs:=by
    unfold GV.fn? at U;split at U
    ·rename_i e;cases U;exact e
    ·cases U
   have ur:(Op.call {callee:= .value fx,args:=tu,argTypes:=UA}).operands.toList=fx::tu.toList:=by simp[Op.operands,Call.operands]
   rcases h2 with⟨h0,r,h2,h3,h4⟩|⟨peek,bJ,r,h2,h3,h4,h5,h6⟩|⟨frag,peek,bJ,sto0,sto',cnt,r,h2,h3,h4,h5,h6⟩
   ·have:=F7 (E:=E) (nt:=nt) (frag:=[]) (peek:=[]) (sto0:=[]) (sto':=[]) (cnt:=0) ho hd hf h2 ⟨by rw[mA,mB _ _ h0],List.nodup_nil,(fun b hb=>by cases hb),(fun b hb=>by cases hb),(fun b hb=>by cases hb),(fun b hb=>by cases hb),(fun b hb=>by cases hb),fun b hb=>by cases hb⟩ (fun b hb=>by rw[h3]at hb;cases hb) fun x hx=>by cases hx
    rw[GV.iq _ _ h3]at this;exact⟨_,_,_,_,by rw[ho,ur];exact this,.nil hs eH,h4⟩
   ·exact⟨_,_,_,_,by rw[ho,ur];exact Py ho hd hf h2 h3 h4 h5,.nil hs (fun x hx=>by obtain⟨c,_,rfl⟩:=List.mem_map.1 hx;rfl),h6⟩
   ·refine⟨_,_,_,_,by rw[ho,ur];exact F7 ho hd hf h2 h3 h4 h5,⟨fun x hx=>?_,by omega,fun b U h2=>?_,fun x hx=>?_⟩,h6⟩
    ·simp only[fS,List.mem_append,List.mem_map,List.mem_range]at hx
     rcases hx with(⟨c,_,rfl⟩|⟨c,_,rfl⟩)|⟨j,hj,rfl⟩
     ·rfl
     ·rfl
     ·exact JV s hs (by omega)
    ·simp only[gO,kN]
     split
     ·simp
     ·rename_i BP
      split at BP
      ·cases BP
      ·rw[iU (x:=b-s.nx) _ (List.mem_range.2 (by omega)) (by simp only;omega) (fun j hj e=>by simp only at e;rw[show j=b-s.nx by omega])]at BP
       cases BP
    ·simp only[gO,List.mem_append,List.mem_map,List.mem_range]at hx
     rcases hx with(⟨i,hi,rfl⟩|⟨j,hj,rfl⟩)|⟨c,hc,rfl⟩
     ·simp only
      have:=h3.JU (frag.getD i 0) (by simp only[List.getD_eq_getElem?_getD,List.getElem?_eq_getElem hi,Option.getD_some];exact List.getElem_mem hi)
      omega
     ·simp only;omega
     ·have:=h3.rows c hc
      unfold rowOf at this;split at this
      ·rename_i hg;have:=nv hs hg;simp only;omega
      ·cases this
  ·exact h.elim
 ·exact h.elim
end
end Go.Proofs.YtjklkppncmhehaaGreat.T
