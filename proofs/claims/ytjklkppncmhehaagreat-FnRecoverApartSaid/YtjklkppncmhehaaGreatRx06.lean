/-
What is proved: the tree of a lone call ('ends_of_calls'), a step of a goroutine that follows it ('lone_step'), its end ('lone_end'). Conditions: those that each theorem states. a reckoner of steps that hang on no world ('qstep'), and that it tells the truth ('qstep_sound'). No condition. a reckoner of steps that look at one cell, or at a block's shape, and may store once ('vstep'), and that it tells the truth ('vstep_sound'). No condition.
-/
import Derived.Test.YtjklkppncmhehaaGreatRx05
import Derived.Calls
import Derived.Test.YtjklkppncmhehaaGreatProg
import Derived.Conc.Own
import Derived.Conc.Listed
set_option linter.unusedVariables false
set_option linter.unusedSimpArgs false
namespace Go.Proofs.YtjklkppncmhehaaGreat.Sr
open Go Go.Conc
def cJ:Frame:={fn:=0,tmps:= #[],todo:=[.code (.refuse "")],defers:=[{target:= .nil,args:= #[]}],mode:= .run,kind:= .normal}
def bE (Q:Program)(R:Ending→World→Prop)(fr:Frame)(cs:List Frame)(v:World):Prop:=cs=[cJ]∧∃e T d,R e (v.on T d)∧fr.leaving Q (v.on T d) e
section
variable {Q:Program}{R:Ending→World→Prop}
theorem Q1:∀fr cs v T d,bE Q R fr cs v→bE Q R fr cs (v.on T d):=fun fr cs v T d ⟨h,e,T',d',h1,h2⟩=>⟨h,e,T',d',h1,h2⟩
theorem ends_of_calls {f:FuncId}{args:Array Value}{v:World}(hO:∀w,¬R .outgrown w)(h:∀T,Calls Q f args (v.on T 0) R):Ends Q (bE Q R) (Frame.enter Q f args .normal) [cJ] v:=by
 refine QY Q1 fun T=>?_;obtain⟨e,w',fr,h1,h2,h3,h4⟩:=h T [cJ];have hs:Steps Q (lone (Frame.enter Q f args .normal) [cJ] (v.on T 0)) (lone fr [cJ] w'):=by
  cases e with
  |outgrown=>exact absurd h1 (hO _)
  |returned x=>exact h2
  |panicked c=>exact h2
 obtain⟨n,hn⟩:=hs;exact⟨n,fr,[cJ],w',hn,rfl,e,w'.tape,w'.drawn,h1,h4⟩
theorem N7 (v:World):¬Ends Q (bE Q R) cJ [] v:=by
 intro h;have key:∀w,∃o w' es,stepG Q true (G cJ []) w= .ended o w' es:=fun w=>⟨_,_,_,rfl⟩
 cases h with
 |stop h=>exact absurd h.1 (by simp)
 |step h1 _=>
  obtain⟨_,_,_,_,h⟩:=h1 v.tape v.drawn (.dead key);obtain⟨o,w',es,hk⟩:=key (v.on v.tape v.drawn);rw[hk]at h
  cases h
theorem Q2 (x:Value):cJ.finish x=cJ:=rfl
theorem xj (chain:List PanicEntry)(v:World):¬Ends Q (bE Q R) (cJ.raise chain) [] v:=by
 intro h;have key:∀w,∃o w' es,stepG Q true (G (cJ.raise chain) []) w= .ended o w' es:=fun w=>⟨_,_,_,rfl⟩
 cases h with
 |stop h=>exact absurd h.1 (by simp)
 |step h1 _=>
  obtain⟨_,_,_,_,h⟩:=h1 v.tape v.drawn (.dead key);obtain⟨o,w',es,hk⟩:=key (v.on v.tape v.drawn);rw[hk]at h
  cases h
end
section
variable {τ:TypeId}{P:Program}{F:Array Func}{spec:FuncId→Bool}{m:az}{R:Ending→World→Prop}
theorem Dn (B:iC τ P F spec m.good){f' f:Frame}(h:FR P spec m f' f):f'.defers=[]∧(∃fr,(Program.mk (Program.toTables P) F).funcs[f'.fn]?=some fr)∧(f'.mode= .run∨f'.mode= .returning):=by
 cases h with
 |mk fn todo mode hs hg ha ok hm=>
  obtain⟨fr,e1,_,_⟩:=B.same fn hg hs;exact⟨rfl,⟨fr,e1⟩,hm⟩
theorem uw (B:iC τ P F spec m.good){fs' fs:List Frame}(h:lj P spec m fs' fs):∀x∈fs',Passes (Program.mk (Program.toTables P) F) x:=by
 induction h with
 |nil=>simp
 |cons h hr _ ih=>
  intro x hx;rcases List.mem_cons.1 hx with rfl|hx
  ·obtain⟨h1,h2,_⟩:=Dn B h
   exact⟨h1,h2,hr⟩
  ·exact ih x hx
theorem og (B:iC τ P F spec m.good)(hO:∀w,¬R .outgrown w){f' f:Frame}{fs':List Frame}{v:World}(h:FR P spec m f' f)(hl:¬(f'.mode= .returning∧fs'=[])):
  ¬bE (Program.mk (Program.toTables P) F) R f' (fs'++[cJ]) v:=by
 rintro⟨hc,e,T,d,h1,h2⟩;have eZ:fs'=[]:=by
  cases fs' with
  |nil=>rfl
  |cons a l=>simp at hc
 obtain⟨_,_,hm⟩:=Dn B h
 cases e with
 |returned x=>exact hl ⟨h2.1,eZ⟩
 |panicked c=>have:=h2.1;rcases hm with hm|hm<;>rw[hm]at this<;>cases this
 |outgrown=>exact hO _ h1
theorem tx (B:iC τ P F spec m.good)(hO:∀w,¬R .outgrown w)(hP:∀x w,Plain τ (.panic x)→¬R (.panicked [{v:=x,recovered:=false}]) w){f' f:Frame}{fs' fs e:List Frame}{v w:World}
  (hE:Ends (Program.mk (Program.toTables P) F) (bE (Program.mk (Program.toTables P) F) R) f' (fs'++[cJ]) v) (h:FR P spec m f' f) (hs:lj P spec m fs' fs) (T:Nat→Question→Nat) (d:Nat) (hw:WR m (v.on T d) w) (hl:¬(f'.mode= .returning∧fs'=[])) (mn:Bool):
  ∃n f1' f1 fs1' fs1 v1 w1 es aQ,jk (Program.mk (Program.toTables P) F) f' (fs'++[cJ]) (v.on T d)∧stepG (Program.mk (Program.toTables P) F) true (G f' (fs'++[cJ])) (v.on T d)= .go (G f1' (fs1'++[cJ])) v1 aQ∧
   stepG P mn (G f (fs++e)) w= .go (G f1 (fs1++e)) w1 es∧(FR P spec n f1' f1∨(kE P F spec n f1' f1∧fs1'≠[]))∧lj P spec n fs1' fs1∧WR n v1 w1∧Kept m n (v.on T d) w v1 w1∧oT n (v.on T d) es:=by
 have ht:=F6 B h hs hw hl (e':=[cJ])
 cases hE with
 |stop hS=>exact absurd hS (og B hO h hl)
 |step k1 k2=>
  obtain⟨fE,bV,v1,aQ,hgo⟩:=k1 T d ht;have yX:=N5 B (mn:=mn) (mn':=true) (e':=[cJ]) (e:=e) h hs hw hl hgo;generalize bk:stepG P mn (G f (fs++e)) w=st at yX;generalize xY:G fE bV=g1 at yX hgo
  cases yX with
  | @goes n f1' f1 fs1' fs1 _ w1 es q1 q2 q3 q4 q5=>
    exact⟨n,f1',f1,fs1',fs1,v1,w1,es,aQ,ht,hgo,rfl,q1,q2,q3,q4,q5⟩
  | @panics x _ _ hp=>
    have hc:=k2 T d _ _ _ _ ht hgo;obtain⟨a1,a2,a3⟩:=Dn B h;have hm:(f'.raise [{v:=x,recovered:=false}])={f' with mode:= .panicking [{v:=x,recovered:=false}]}:=by
     unfold Frame.raise;rcases a3 with a3|a3<;>rw[a3]
    rw[hm]at hc;obtain⟨f2,b1,v2,_,b3⟩:=yW (c:=cJ) (fun f cs v h=>h.1) fs' {f' with mode:= .panicking [{v:=x,recovered:=false}]} (uw B hs) a1 a2 rfl hc (xj _ _)
    obtain⟨_,en,T2,d2,c1,c2⟩:=b3
    cases en with
    |returned y=>have:=c2.1;rw[b1]at this;cases this
    |panicked ch=>
     have:=c2.1
     rw[b1]at this;injection this with this
     rw[←this]at c1;exact absurd c1 (hP x _ hp)
    |outgrown=>exact absurd c1 (hO _)
theorem vW (B:iC τ P F spec m.good)(hO:∀w,¬R .outgrown w){f' f:Frame}{v w:World}{T:Nat→Question→Nat}{d:Nat}
  (hE:Ends (Program.mk (Program.toTables P) F) (bE (Program.mk (Program.toTables P) F) R) f' [cJ] v) (h:FR P spec m f' f) (hw:WR m (v.on T d) w) (hl:f'.mode= .returning):
  ∃x T' d',R (.returned x) (v.on T' d')∧f'.leaving (Program.mk (Program.toTables P) F) (v.on T' d') (.returned x):=by
 cases hE with
 |stop hS=>
  obtain⟨_,e,T',d',h1,h2⟩:=hS
  cases e with
  |returned x=>exact⟨x,T',d',h1,h2⟩
  |panicked c=>have:=h2.1;rw[hl]at this;cases this
  |outgrown=>exact absurd h1 (hO _)
 |step k1 k2=>
  exfalso
  cases h with
  | @mk fn bd tm todo mode fW hg ha ok hm=>
    obtain rfl:mode= .returning:=hl
    obtain⟨fr,e1,e2,e3⟩:=B.same fn hg fW;have ll:=jj (F:=F) (m:=m) B.rt fr ha;have ht:jk (Program.mk (Program.toTables P) F) (aH fn bd todo .returning) [cJ] (v.on T d):= .ret e1 (ll.sf hw)
    obtain⟨fE,bV,v1,aQ,hgo⟩:=k1 T d ht
    cases hr:(results fr bd).runT (Program.mk (Program.toTables P) F) (v.on T d) #[]with
    |mk r Dm=>
     cases r with
     |halt h0 v2=>exact vU e1 hr _ _ _ hgo
     |ok a v2=>
      have hc:=k2 T d _ _ _ _ ht (np e1 hr);rw[Q2]at hc;exact N7 _ hc
end
end Go.Proofs.YtjklkppncmhehaaGreat.Sr
namespace Go.Proofs.YtjklkppncmhehaaGreat.Sr
open Go Go.Conc
def oh (P:Program){α:Type}:Sem α→Array Event→Option (α×Array Event)
 | .pure a,es=>some (a,es)
 | .program k,es=>oh P (k P) es
 | .mark m k,es=>oh P k (es.push ⟨.mark m,false,true⟩)
 |_,_=>none
theorem ux {P:Program}{α:Type}{s:Sem α}:∀{es aQ:Array Event} {a:α},oh P s es=some (a,aQ)→∀w,s.runT P w es=(.ok a w,aQ):=by
 induction s with
 |pure a=>
  intro es aQ b h w;simp only[oh,Option.some.injEq,Prod.mk.injEq]at h;obtain⟨rfl,rfl⟩:=h;rfl
 |program k ih=>intro es aQ b h w;exact ih P h w
 |mark m k ih=>intro es aQ b h w;exact ih h w
 |_=>intro es aQ b h;cases h
def bX (P:Program)(g:Goroutine):Option (Goroutine×Array Event):=
 let {frame:=fr,callers,status,dying,offers}:=g
 if status != .running||dying.isSome||offers.isSome||fr.roundOf.isSome||fr.kind== .early then none else
 let go (fr:Frame):Option (Goroutine×Array Event):=some ({frame:=fr,callers,status:= .running,dying:=none},#[])
 match fr.mode with
 | .run=>
   match fr.todo with
   |[]| .code .ret::_=>go {fr with mode:= .returning}
   | .code .skip::k| .code (.label _)::k| .inBlock _::k| .inScope _::k=>go {fr with todo:=k}
   | .code (.seq a b)::k=>go {fr with todo:= .code a:: .code b::k}
   | .code (.cond c x y)::k=>match fr.eval c with
     | .bool true=>go {fr with todo:= .code x::k}
     | .bool false=>go {fr with todo:= .code y::k}
     |_=>none
   | .code (.block id b)::k=>go {fr with todo:= .code b:: .inBlock id::k}
   | .code (.loop b)::k| .inLoop b::k=>go {fr with todo:= .code b:: .inLoop b::k}
   | .code (.exit id)::k=>match exitTo id k with
     |some k'=>go {fr with todo:=k'}
     |none=>none
   | .code (.region _ ops false)::k=>go {fr with todo:= .inRegion ops (List.range ops.size)::k}
   | .inRegion _ []::k=>go {fr with todo:=k}
   | .inRegion ops (i::_)::_=>match ops[i]? with
     |none=>none
     |some o=>match Region.wanted o (yielded ops fr.tmps)with
      |false=>go (fr.finish undef)
      |true=>match oh P (execOp fr.eval o) #[]with
       |some (.value v,es)=>some ({frame:=fr.finish v,callers,status:= .running,dying:=none},seen P fr.fn es)
       |some (.skip,es)=>some ({frame:=fr.finish undef,callers,status:= .running,dying:=none},seen P fr.fn es)
       |some (.enter f args,es)=>some ({frame:=Frame.enter P f args .normal,callers:=fr::callers,status:= .running,dying:=none},seen P fr.fn es)
       |some (.defer d,es)=>some ({frame:={fr with defers:=d::fr.defers}.finish undef,callers,status:= .running,dying:=none},seen P fr.fn es)
       |_=>none
   |_=>none
 | .panicking chain=>match fr.defers with
   |{target:= .fn f cap,args}::ds=>match oh P (invoke (.fn f cap) args) #[]with
    |some (.enter f args,es)=>some ({frame:=Frame.enter P f args .deferred,callers:={fr with defers:=ds}::callers,status:= .running,dying:=none},seen P fr.fn es)
    |some (.value _,es)=>some ({frame:={fr with defers:=ds},callers,status:= .running,dying:=none},seen P fr.fn es)
    |_=>none
   |[]=>match chain,callers,fr.todo with
    |{goexit:=true, .. }::_,[],[]=>some ({frame:=fr,callers:=[],status:= .finished,dying:=none},#[])
    |_,_,_=>none
   |_=>none
 | .returning=>match fr.defers with
   |{target:= .fn f cap,args}::ds=>match oh P (invoke (.fn f cap) args) #[]with
    |some (.enter f args,es)=>some ({frame:=Frame.enter P f args .deferred,callers:={fr with defers:=ds}::callers,status:= .running,dying:=none},seen P fr.fn es)
    |some (.value _,es)=>some ({frame:={fr with defers:=ds},callers,status:= .running,dying:=none},seen P fr.fn es)
    |_=>none
   |[]=>match P.funcs[fr.fn]?,callers with
    |some fn,c::cs=>match oh P (results fn fr.tmps) #[]with
     |some (v,es)=>match fr.kind with
      | .normal=>some ({frame:=c.finish v,callers:=cs,status:= .running,dying:=none},seen P fr.fn es)
      | .deferred=>match c.mode with
        | .returning=>some ({frame:=c,callers:=cs,status:= .running,dying:=none},seen P fr.fn es)
        | .panicking ({recovered:=false, .. }::_)=>some ({frame:=c,callers:=cs,status:= .running,dying:=none},seen P fr.fn es)
        |_=>none
      |_=>none
     |none=>none
    |_,_=>none
   |_=>none
theorem fF {P:Program}{g g':Goroutine}{es:Array Event}(h:bX P g=some (g',es)):g.status= .running∧∀(b:Bool) (w:World),stepG P b g w= .go g' w es:=by
 obtain⟨fr,callers,status,dying,offers⟩:=g;unfold bX at h;dsimp only at h
 split at h
 ·cases h
 rename_i hc;simp only[Bool.or_eq_true,bne_iff_ne,ne_eq,Option.isSome_iff_exists,beq_iff_eq,not_or,Classical.not_not,not_exists]at hc;obtain⟨⟨⟨⟨rfl,hd⟩,ho⟩,hr⟩,hk⟩:=hc;have qG:dying=none:=by cases dying with|none=>rfl|some x=>exact absurd rfl (hd x)
 have qm:offers=none:=by cases offers with|none=>rfl|some x=>exact absurd rfl (ho x)
 have eH:fr.roundOf=none:=by cases hq:fr.roundOf with|none=>rfl|some x=>exact absurd hq (hr x)
 subst qG qm;refine⟨rfl,fun b w=>?_⟩
 obtain⟨fn,tmps,todo,defers,mode,kind,roundOf⟩:=fr;dsimp only at eH hk h
 subst eH;have yY:(kind==CallKind.early)=false:=by simpa using hk
 cases mode with
 |run=>
  dsimp only at h
  split at h
  ·simp only[Option.some.injEq,Prod.mk.injEq]at h;obtain⟨rfl,rfl⟩:=h;simp[stepG,stepG.exec]
  ·simp only[Option.some.injEq,Prod.mk.injEq]at h;obtain⟨rfl,rfl⟩:=h;simp[stepG,stepG.exec]
  ·simp only[Option.some.injEq,Prod.mk.injEq]at h;obtain⟨rfl,rfl⟩:=h;simp[stepG,stepG.exec]
  ·simp only[Option.some.injEq,Prod.mk.injEq]at h;obtain⟨rfl,rfl⟩:=h;simp[stepG,stepG.exec]
  ·simp only[Option.some.injEq,Prod.mk.injEq]at h;obtain⟨rfl,rfl⟩:=h;simp[stepG,stepG.exec]
  ·simp only[Option.some.injEq,Prod.mk.injEq]at h;obtain⟨rfl,rfl⟩:=h;simp[stepG,stepG.exec]
  ·simp only[Option.some.injEq,Prod.mk.injEq]at h;obtain⟨rfl,rfl⟩:=h;simp[stepG,stepG.exec]
  ·split at h
   ·rename_i he
    simp only[Option.some.injEq,Prod.mk.injEq]at h;obtain⟨rfl,rfl⟩:=h;simp only[stepG,stepG.exec,he];rfl
   ·rename_i he
    simp only[Option.some.injEq,Prod.mk.injEq]at h;obtain⟨rfl,rfl⟩:=h;simp only[stepG,stepG.exec,he];rfl
   ·cases h
  ·simp only[Option.some.injEq,Prod.mk.injEq]at h;obtain⟨rfl,rfl⟩:=h;simp[stepG,stepG.exec]
  ·simp only[Option.some.injEq,Prod.mk.injEq]at h;obtain⟨rfl,rfl⟩:=h;simp[stepG,stepG.exec]
  ·simp only[Option.some.injEq,Prod.mk.injEq]at h;obtain⟨rfl,rfl⟩:=h;simp[stepG,stepG.exec]
  ·split at h
   ·rename_i he
    simp only[Option.some.injEq,Prod.mk.injEq]at h;obtain⟨rfl,rfl⟩:=h;simp[stepG,stepG.exec,he]
   ·cases h
  ·simp only[Option.some.injEq,Prod.mk.injEq]at h;obtain⟨rfl,rfl⟩:=h;simp[stepG,stepG.exec]
  ·simp only[Option.some.injEq,Prod.mk.injEq]at h;obtain⟨rfl,rfl⟩:=h;simp[stepG,stepG.exec]
  ·rename_i ops i rest k
   split at h
   ·cases h
   ·rename_i o ho
    cases hw:Region.wanted o (yielded ops tmps)with
    |false=>
     simp only[hw,Option.some.injEq,Prod.mk.injEq]at h;obtain⟨rfl,rfl⟩:=h;simp only[stepG,stepG.exec];exact if_neg (by simp[ho,hw])
    |true=>
     have e1:stepG P b {frame:={fn,tmps,todo:= .inRegion ops (i::rest)::k,defers,mode:= .run,kind,roundOf:=none},callers,status:= .running,dying:=none} w=
       stepG.apply P true {fn,tmps,todo:= .inRegion ops (i::rest)::k,defers,mode:= .run,kind,roundOf:=none} callers none (execOp (Frame.eval {fn,tmps,todo:= .inRegion ops (i::rest)::k,defers,mode:= .run,kind,roundOf:=none}) o) w:=by
      simp only[stepG,stepG.exec];rw[if_pos (by simp[ho,hw])]
      simp only[stepG.oper,Frame.oper?,ho]
     rw[e1];simp only[hw]at h;split at h
     ·rename_i v aQ hq
      simp only[Option.some.injEq,Prod.mk.injEq]at h;obtain⟨rfl,rfl⟩:=h;simp only[stepG.apply,ux hq w,yY,if_true,Bool.false_eq_true,if_false,GStep.after,Array.append_empty]
     ·rename_i aQ hq
      simp only[Option.some.injEq,Prod.mk.injEq]at h;obtain⟨rfl,rfl⟩:=h;simp only[stepG.apply,ux hq w,yY,if_true,Bool.false_eq_true,if_false,GStep.after,Array.append_empty]
     ·rename_i f args aQ hq
      simp only[Option.some.injEq,Prod.mk.injEq]at h;obtain⟨rfl,rfl⟩:=h;simp only[stepG.apply,ux hq w,yY,if_true,Bool.false_eq_true,if_false,GStep.after,Array.append_empty]
     ·rename_i d aQ hq
      simp only[Option.some.injEq,Prod.mk.injEq]at h;obtain⟨rfl,rfl⟩:=h;simp only[stepG.apply,ux hq w,yY,if_true,Bool.false_eq_true,if_false,GStep.after,Array.append_empty]
     ·cases h
  ·cases h
 |panicking chain=>
  dsimp only at h
  split at h
  ·split at h
   ·rename_i hq
    simp only[Option.some.injEq,Prod.mk.injEq]at h;obtain⟨rfl,rfl⟩:=h;simp only[stepG,unwind,callDeferred,Bool.false_and,Bool.false_eq_true,if_false,ux hq w,GStep.after,Array.append_empty]
   ·rename_i hq
    simp only[Option.some.injEq,Prod.mk.injEq]at h;obtain⟨rfl,rfl⟩:=h;simp only[stepG,unwind,callDeferred,Bool.false_and,Bool.false_eq_true,if_false,ux hq w,GStep.after,Array.append_empty]
   ·cases h
  ·split at h
   ·simp only[Option.some.injEq,Prod.mk.injEq]at h;obtain⟨rfl,rfl⟩:=h
    have hc:∀ch,Frame.catches P {fn,tmps,todo:=[],defers:=[],mode:= .panicking ch,kind,roundOf:=none}=false:=by
     intro ch;unfold Frame.catches;split<;>first|rfl|(rename_i h1 h2;cases h2)
    simp only[stepG,unwind,hc,Bool.false_eq_true,if_false];rfl
   ·cases h
  ·cases h
 |returning=>
  dsimp only at h
  split at h
  ·split at h
   ·rename_i hq
    simp only[Option.some.injEq,Prod.mk.injEq]at h;obtain⟨rfl,rfl⟩:=h;simp only[stepG,unwind,callDeferred,Bool.false_and,Bool.false_eq_true,if_false,ux hq w,GStep.after,Array.append_empty]
   ·rename_i hq
    simp only[Option.some.injEq,Prod.mk.injEq]at h;obtain⟨rfl,rfl⟩:=h;simp only[stepG,unwind,callDeferred,Bool.false_and,Bool.false_eq_true,if_false,ux hq w,GStep.after,Array.append_empty]
   ·cases h
  ·split at h
   ·rename_i hf
    split at h
    ·rename_i hq
     cases kind with
     |normal=>
      simp only[Option.some.injEq,Prod.mk.injEq]at h;obtain⟨rfl,rfl⟩:=h;simp only[stepG,unwind,hf,ux hq w,doReturn,GStep.after,Array.append_empty]
     |deferred=>
      dsimp only at h
      split at h
      ·rename_i hm
       simp only[Option.some.injEq,Prod.mk.injEq]at h;obtain⟨rfl,rfl⟩:=h;simp only[stepG,unwind,hf,ux hq w,doReturn,hm,GStep.after,Array.append_empty]
      ·rename_i hm
       simp only[Option.some.injEq,Prod.mk.injEq]at h;obtain⟨rfl,rfl⟩:=h;simp only[stepG,unwind,hf,ux hq w,doReturn,hm,GStep.after,Array.append_empty]
      ·cases h
     |_=>cases h
    ·cases h
   ·cases h
  ·cases h
def mute (P:Program):Nat→Goroutine→Bool
 |0,_=>true
 |n+1,g=>match bX P g with
  |some (g',es)=>es.isEmpty&&mute P n g'
  |none=>false
def aN (P:Program):Nat→Goroutine→Goroutine
 |0,g=>g
 |n+1,g=>match bX P g with
  |some (g',_)=>aN P n g'
  |none=>g
theorem tz {P:Program}{n:Nat}{g:Goroutine}(h:mute P (n+1) g=true):∃g',g.status= .running∧(∀b w,stepG P b g w= .go g' w #[])∧mute P n g'=true∧aN P (n+1) g=aN P n g':=by
 unfold mute at h
 cases hq:bX P g with
 |none=>rw[hq]at h;cases h
 |some p=>
  obtain⟨g',es⟩:=p;rw[hq]at h;simp only[Bool.and_eq_true,Array.isEmpty_iff]at h;obtain⟨rfl,hm⟩:=h;exact⟨g',(fF hq).1,(fF hq).2,hm,by simp only[aN,hq]⟩
def g_ (P:Program):Nat→Nat→Goroutine→Bool
 |0,d,g=>g.status== .finished&&d==0
 |n+1,d,g=>(g.status== .finished&&d==0)||match bX P g with
  |some (g',es)=>es.all (·.mute)&&g_ P n (deafBehind d es) g'
  |none=>false
def gu (P:Program)(g:Goroutine):Option (Sem Next):=
 match g with
 |{frame:={mode:= .run,todo:= .inRegion ops (i::rest)::k,roundOf:=none,kind,fn,tmps,defers},callers,status:= .running,dying:=none,offers:=none}=>
  if kind== .early then none else
  match ops[i]? with
  |some o=>if Region.wanted o (yielded ops tmps)then some (execOp (Frame.eval {mode:= .run,todo:= .inRegion ops (i::rest)::k,roundOf:=none,kind,fn,tmps,defers}) o)else none
  |none=>none
 |_=>none
def bu (g:Goroutine)(v:Value):Goroutine:={frame:=g.frame.finish v,callers:=g.callers,status:= .running,dying:=none}
theorem yZ {P:Program}{g:Goroutine}{s:Sem Next}(h:gu P g=some s)(b:Bool)(w:World):g.status= .running∧g.offers=none∧g.frame.kind≠.early∧stepG P b g w=stepG.apply P true g.frame g.callers none s w:=by
 unfold gu at h;split at h
 ·split at h
  ·cases h
  ·rename_i hk
   split at h
   ·rename_i ho
    split at h
    ·rename_i hw
     cases h;refine⟨rfl,rfl,by simpa using hk,?_⟩
     simp only[stepG,stepG.exec];rw[if_pos (by simp[ho,hw])]
     simp only[stepG.oper,Frame.oper?,ho]
    ·cases h
   ·cases h
 ·cases h
theorem oV {P:Program}{g:Goroutine}{s:Sem Next}(h:gu P g=some s)(b:Bool){w w1:World}{x:Value}{es:Array Event}(hr:s.runT P w #[]=(.ok (.value x) w1,es)):stepG P b g w= .go (bu g x) w1 (seen P g.frame.fn es):=by
 obtain⟨_,_,hk,e⟩:=yZ h b w;have yY:(g.frame.kind==CallKind.early)=false:=by simpa using hk
 rw[e];simp only[stepG.apply,hr,yY,if_true,Bool.false_eq_true,if_false,GStep.after,Array.append_empty,bu]
end Go.Proofs.YtjklkppncmhehaaGreat.Sr
namespace Go.Proofs.YtjklkppncmhehaaGreat.Sr
open Go Go.Conc
structure Ui (α:Type)where
 x:α
 es:Array Event
 ls:List Addr
 rs:List Nat
 sto:Option (Addr×Value)
def lL (P:Program)(v:Value)(sh:Option (TypeId×Nat)){α:Type}:Sem α→Array Event→Option (Ui α)
 | .pure a,es=>some ⟨a,es,[],[],none⟩
 | .program k,es=>lL P v sh (k P) es
 | .mark m k,es=>lL P v sh k (es.push ⟨.mark m,false,true⟩)
 | .load md a k,es=>match lL P v sh (k v) (es.push ⟨.cell a,false,md== .atomic⟩)with
   |some y=>some {y with ls:=a::y.ls}
   |none=>none
 | .shape r k,es=>match lL P v sh (k sh) es with
   |some y=>some {y with rs:=r::y.rs}
   |none=>none
 | .frozen a k,es=>match lL P v sh (k false) es with
   |some y=>some {y with ls:=a::y.ls}
   |none=>none
 | .store md a x k,es=>match x with
   | .int i n=>match oh P k (es.push ⟨.cell a,true,md== .atomic⟩)with
     |some (b,aQ)=>some ⟨b,aQ,[a],[],some (a,.int i n)⟩
     |none=>none
   |_=>none
 |_,_=>none
def kG (w:World):Option (Addr×Value)→World
 |none=>w
 |some (a,x)=>w.setCell a x
theorem F7 {P:Program}{v:Value}{sh:Option (TypeId×Nat)}{α:Type}{s:Sem α}:∀{es:Array Event} {y:Ui α},lL P v sh s es=some y→∀w:World,(∀a∈y.ls,w.cell? a=some v∧w.frozen? a=false)→(∀r∈y.rs,w.shape? r=sh)→s.runT P w es=(.ok y.x (kG w y.sto),y.es):=by
 induction s with
 |pure a=>intro es y h w _ _;simp only[lL,Option.some.injEq]at h;subst h;rfl
 |program k ih=>intro es y h w;exact ih P h w
 |mark m k ih=>intro es y h w;exact ih h w
 |load md a k ih=>
  intro es y h w hl hr;simp only[lL]at h
  cases hy:lL P v sh (k v) (es.push ⟨.cell a,false,md== .atomic⟩)with
  |none=>rw[hy]at h;cases h
  |some y'=>
   rw[hy]at h
   cases h;have:=ih v hy w (fun b hb=>hl b (List.mem_cons_of_mem _ hb)) hr
   simp only[Sem.runT,(hl a (List.mem_cons_self ..)).1];exact this
 |shape r k ih=>
  intro es y h w hl hr;simp only[lL]at h
  cases hy:lL P v sh (k sh) es with
  |none=>rw[hy]at h;cases h
  |some y'=>
   rw[hy]at h
   cases h;have:=ih sh hy w hl (fun b hb=>hr b (List.mem_cons_of_mem _ hb))
   simp only[Sem.runT,hr r (List.mem_cons_self ..)];exact this
 |frozen a k ih=>
  intro es y h w hl hr;simp only[lL]at h
  cases hy:lL P v sh (k false) es with
  |none=>rw[hy]at h;cases h
  |some y'=>
   rw[hy]at h
   cases h;have:=ih false hy w (fun b hb=>hl b (List.mem_cons_of_mem _ hb)) hr
   simp only[Sem.runT,(hl a (List.mem_cons_self ..)).2];exact this
 |store md a x k ih=>
  intro es y h w hl hr
  cases x with
  |int i n=>
   simp only[lL]at h
   cases hy:oh P k (es.push ⟨.cell a,true,md== .atomic⟩)with
   |none=>rw[hy]at h;cases h
   |some q=>
    obtain⟨b,aQ⟩:=q;rw[hy]at h
    cases h;obtain⟨h1,h2⟩:=hl a (List.mem_cons_self ..);simp only[Sem.runT,h1,h2,Bool.false_eq_true,if_false];exact ux hy _
  |_=>simp[lL]at h
 |_=>intro es y h;cases h
def bn (P:Program)(v:Value)(sh:Option (TypeId×Nat))(g:Goroutine):Option (Ui Goroutine):=
 match gu P g with
 |none=>none
 |some s=>match lL P v sh s #[]with
  |some ⟨.value x,es,ls,rs,sto⟩=>some ⟨bu g x,seen P g.frame.fn es,ls,rs,sto⟩
  |_=>none
theorem vS {P:Program}{v:Value}{sh:Option (TypeId×Nat)}{g:Goroutine}{y:Ui Goroutine}(h:bn P v sh g=some y):
  g.status= .running∧∀(b:Bool) (w:World),(∀a∈y.ls,w.cell? a=some v∧w.frozen? a=false)→(∀r∈y.rs,w.shape? r=sh)→stepG P b g w= .go y.x (kG w y.sto) y.es:=by
 unfold bn at h
 cases ho:gu P g with
 |none=>rw[ho]at h;cases h
 |some s=>
  rw[ho]at h;dsimp only at h
  split at h
  ·rename_i x es ls rs sto hs
   cases h;exact⟨(yZ ho true default).1,fun b w h1 h2=>oV ho b (F7 hs w h1 h2)⟩
  ·cases h
end Go.Proofs.YtjklkppncmhehaaGreat.Sr
