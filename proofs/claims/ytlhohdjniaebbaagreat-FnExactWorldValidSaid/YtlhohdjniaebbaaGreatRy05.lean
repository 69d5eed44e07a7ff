/-
What is proved: one step of a goroutine, in two programs that differ in some and what rests on it. Conditions: as stated.
-/
import Derived.Test.YtlhohdjniaebbaaGreatRy04
set_option linter.unusedVariables false
set_option linter.unusedSimpArgs false
namespace Go.Proofs.YtlhohdjniaebbaaGreat.Sr
open Go Go.Conc
def aM (fn:FuncId)(tm:Array Value)(todo:List Item)(mode:FrameMode):Frame:={fn,tmps:=tm,todo,defers:=[],mode,kind:= .normal}
def fb (fn:FuncId)(tm:Array Value)(todo:List Item)(mode:FrameMode)(ds:List Deferred):Frame:={fn,tmps:=tm,todo,defers:=ds,mode,kind:= .normal}
abbrev bp:FuncId:=77
abbrev C1:Bool:=true
def yq:Code:= .seq (.region 90 #[{dst:=some 4,op:= .load 21 (.tmp 6),type:=21,pos:= "",after:= #[],guard:=none},{dst:=some 5,op:= .binOp .eql 21 (.tmp 4) (.const (.int .i32 1)) 21,type:=4,pos:= "",after:= #[],guard:=none}] false)
 (.cond (.tmp 5) (.region 91 #[{dst:=none,op:= .store 21 (.tmp 6) (.const (.int .i32 0)),type:=0,pos:= "",after:= #[],guard:=none}] false) (.loop .skip))
def tI (b:Nat):Deferred:={target:= .fn (.func 130) #[],args:= #[.pointer (some ⟨b,0,none⟩)]}
abbrev C2:Nat:=6
def fp (P:Program)(good:FuncId→Bool)(ar:Bool):Code→Bool
 | .ret=>ar
 | .skip| .exit _| .label _=>true
 | .region _ ops _=>ops.all fun o=>gk P good o.op&&(ar||o.dst !=some C2)
 | .seq a b=>fp P good ar a&&fp P good ar b
 | .cond c a b=>fa c&&fp P good ar a&&fp P good ar b
 | .block _ a| .loop a=>fp P good ar a
 |_=>false
def cw (P:Program)(good:FuncId→Bool)(ar:Bool):Item→Bool
 | .code c=>fp P good ar c
 | .inBlock _=>true
 | .inLoop b=>fp P good ar b
 | .inRegion ops _=>ops.all fun o=>gk P good o.op&&(ar||o.dst !=some C2)
 |_=>false
def mH (P:Program)(good:FuncId→Bool)(fn:Func):Bool:=
 match fn.body with
 |some c=>fp P good true c
 |none=>false
inductive lH (spec:FuncId→Bool) (m:aD) (fn:FuncId) (mode:FrameMode) (tm:Array Value):List Item→List Deferred→Prop
 |no (hs:spec fn=false) (hg:m.good fn=true):lH spec m fn mode tm [] []
 |ap {r b:Nat} (hf:fn=bp) (hb:m r=some b) (hm:mode= .run) (hs:spec fn=true) (ht:tm.getD C2 undef= .pointer (some ⟨r,0,none⟩)):lH spec m fn mode tm [.code yq] [tI b]
theorem lH.mono {spec:FuncId→Bool}{m n:aD}{fn:FuncId}{mode:FrameMode}{tm:Array Value}{tl:List Item}{ds:List Deferred}(h:aD.le m n)(x:lH spec m fn mode tm tl ds):lH spec n fn mode tm tl ds:=by
 cases x with
 |no hs hg=>exact .no hs (h.good▸hg)
 |ap hf hb hm hs ht=>exact .ap hf (h.sub _ _ hb) hm hs ht
def wF (tm:Array Value)(o:Option Nat)(v:Value):Array Value:=match o with
 |some d=>tm.setIfInBounds d v
 |none=>tm
theorem lH.put {spec:FuncId→Bool}{m:aD}{fn:FuncId}{mode:FrameMode}{tm:Array Value}{tl:List Item}{ds:List Deferred}(x:lH spec m fn mode tm tl ds){o:Option Nat}(ho:(tl.isEmpty||o !=some C2)=true)(v:Value):
  lH spec m fn mode (wF tm o v) tl ds:=by
 cases x with
 |no hs hg=>exact .no hs hg
 |ap hf hb hm hs ht=>
  refine .ap hf hb hm hs ?_
  cases o with
  |none=>exact ht
  |some d=>
   have hd:d≠C2:=by simpa using ho
   rw[←ht];simp[wF,Array.getD_eq_getD_getElem?,Array.getElem?_setIfInBounds,hd]
inductive FR (P:Program) (spec:FuncId→Bool) (m:aD) (f' f:Frame):Prop
 |mk (fn:FuncId) {tm' tm:Array Value} (todo:List Item) (mode:FrameMode) {tl:List Item} {ds:List Deferred} (ht:lH spec m fn mode tm' tl ds) (h:AR m tm' tm) (ok:∀x∈todo,cw P m.good tl.isEmpty x=true)
   (hm:mode= .run∨mode= .returning) (e':f'=aM fn tm' (todo++tl) mode:=by rfl) (e:f=fb fn tm todo mode ds:=by rfl):FR P spec m f' f
theorem FR.mono {P:Program}{spec:FuncId→Bool}{m n:aD}(h:aD.le m n){f' f:Frame}(x:FR P spec m f' f):FR P spec n f' f:=by
 cases x with
 |mk fn todo mode ht ha ok hm e' e=>exact .mk fn todo mode (ht.mono h) (ha.mono h) (h.good▸ok) hm e' e
def KA (f:Frame)(fs:List Frame):Prop:=f.defers=[]∧∀c∈fs,c.defers=[]
def Edge (f' f:Frame)(fs':List Frame):Prop:=(f'.mode= .returning∧fs'=[])∨(f.todo=[]∧f.defers≠[])
inductive h_ (P:Program) (spec:FuncId→Bool) (m:aD):List Frame→List Frame→Prop
 |nil:h_ P spec m [] []
 |cons {f' f:Frame} {fs' fs:List Frame} (h:FR P spec m f' f) (hr:f'.mode= .run) (k:h_ P spec m fs' fs):h_ P spec m (f'::fs') (f::fs)
theorem h_.mono {P:Program}{spec:FuncId→Bool}{m n:aD}(h:aD.le m n){f' f:List Frame}(x:h_ P spec m f' f):h_ P spec n f' f:=by
 induction x with
 |nil=>exact .nil
 |cons a b _ ih=>exact .cons (a.mono h) b ih
inductive kg (P:Program) (F:Array Func) (spec:FuncId→Bool) (m:aD):Frame→Frame→Prop
 |mk (f:FuncId) {us vs:Array Value} (hs:spec f=true) (h:AR m us vs) (hn:∀n,cA f=some n→us.size=n):kg P F spec m (Frame.enter (Program.mk (Program.toTables P) F) f us .normal) (Frame.enter P f vs .normal)
structure fg (τ:TypeId) (P:Program) (F:Array Func) (spec good:FuncId→Bool):Prop where
 rt:dZ τ P
 globals:P.globals.size=0
 bJ:∀f,yd f=true→good f=true∧cA f=none
 fns:yn P F good
 ap:spec bp=true→∃fr,F[bp]?=some fr
 same:∀f,good f=true→spec f=false→∃fn,F[f]?=some fn∧P.funcs[f]?=some fn∧mH P good fn=true
def om (n:aD)(v:World)(es:Array Event):Prop:=∀e∈es,∃e',AF n e' e∧(e'.write=true→∀a,e'.loc= .cell a→¬dG v a.block)
theorem om.none {n:aD}{v:World}:om n v #[]:=fun e he=>by simp at he
section
variable {τ:TypeId}{P:Program}{F:Array Func}{spec:FuncId→Bool}{m:aD}
theorem BM (v:Value)(h:fa (.const v)=true):VR m v v:=by
 have flat:∀x:Value,(match x with| .bool _| .int _ _| .string _| .pointer none| .slice none _ _| .map none| .nilFunc| .nilIface=>true|_=>false)=true→VR m x x:=by
  intro x hx
  cases x with
  |bool b=>exact .bool b
  |int k n=>exact .int k n
  |string s=>exact .string s
  |pointer a=>cases a<;>first|exact .nilPtr|cases hx
  |slice a l c=>cases a<;>first|exact .cp _ _|cases hx
  |map r=>cases r<;>first|exact .j_|cases hx
  |nilFunc=>exact .nilFunc
  |nilIface=>exact .nilIface
  |_=>cases hx
 cases v with
 |agg xs=>exact .agg rfl fun i h1 h2=>flat _ (Array.all_eq_true_iff_forall_mem.1 h _ (Array.getElem_mem _))
 |tuple xs=>
  have:xs= #[]:=by simpa[fa]using h
  subst this;exact .tuple rfl fun i h1 _=>by simp at h1
 |bool b=>exact .bool b
 |int k n=>exact .int k n
 |string s=>exact .string s
 |pointer a=>cases a<;>first|exact .nilPtr|cases h
 |slice a l c=>cases a<;>first|exact .cp _ _|cases h
 |map r=>cases r<;>first|exact .j_|cases h
 |nilFunc=>exact .nilFunc
 |nilIface=>exact .nilIface
 |_=>cases h
theorem AR.oper {us vs:Array Value}(h:AR m us vs)(hv:∀f,yd f=true→m.good f=true∧cA f=none){ds:List Deferred}:pP m (Act.eval ⟨us,[]⟩) (Act.eval ⟨vs,ds⟩):=by
 intro x hx
 cases x with
 |tmp t=>exact h.getD t .undef
 |const v=>exact BM v hx
 |func f=>exact .func (.func f) (hv f hx) rfl (fun i h _=>by simp at h) rfl (fun i h _=>by simp at h)
 |_=>cases hx
theorem su {p:Item→Prop}:∀{k k':List Item} {id:Nat},exitTo id k=some k'→(∀x∈k,p x)→∀x∈k',p x
 |[],_,_,h,_=>by simp[exitTo]at h
 |i::k,k',id,h,hp=>by
  cases i with
  |inBlock OR=>
   simp only[exitTo]at h;split at h
   ·cases h;exact fun x hx=>hp x (by simp[hx])
   ·exact su h fun x hx=>hp x (by simp[hx])
  |_=>simp only[exitTo]at h;exact su h fun x hx=>hp x (by simp[hx])
theorem jf {fr:Frame}{cs:List Frame}{s:Sem Next}{w w1:World}{x:Value}{es:Array Event}(hk:fr.kind= .normal)(h:s.runT P w #[]=(.ok (.value x) w1,es)):
  stepG.apply P true fr cs none s w= .go (G (fr.finish x) cs) w1 (seen P fr.fn es):=by
 have cQ:(fr.kind==CallKind.early)=false:=by rw[hk];rfl
 simp only[stepG.apply,h,cQ,if_true,Bool.false_eq_true,if_false,GStep.after,Array.append_empty,G]
theorem kt {fr:Frame}{cs:List Frame}{s:Sem Next}{w w1:World}{es:Array Event}(hk:fr.kind= .normal)(h:s.runT P w #[]=(.ok .skip w1,es)):
  stepG.apply P true fr cs none s w= .go (G (fr.finish undef) cs) w1 (seen P fr.fn es):=by
 have cQ:(fr.kind==CallKind.early)=false:=by rw[hk];rfl
 simp only[stepG.apply,h,cQ,if_true,Bool.false_eq_true,if_false,GStep.after,Array.append_empty,G]
theorem jg {fr:Frame}{cs:List Frame}{s:Sem Next}{w w1:World}{f:FuncId}{args:Array Value}{es:Array Event}(hk:fr.kind= .normal)(ht:∃ops l k,fr.todo= .inRegion ops l::k)(h:s.runT P w #[]=(.ok (.enter f args) w1,es)):
  stepG.apply P true fr cs none s w= .go (G (Frame.enter P f args .normal) (fr::cs)) w1 (seen P fr.fn es):=by
 obtain⟨ops,l,k,ht⟩:=ht;have cQ:(fr.kind==CallKind.early)=false:=by rw[hk];rfl
 simp only[stepG.apply,h,cQ,ht,if_true,Bool.false_eq_true,if_false,GStep.after,Array.append_empty,G]
theorem gK {fr:Frame}{cs:List Frame}{s:Sem Next}{w w1:World}{x:Value}{es:Array Event}(hk:fr.kind= .normal)(h:s.runT P w #[]=(.halt (.panic x) w1,es)):
  stepG.apply P true fr cs none s w= .go (G (fr.raise [{v:=x,recovered:=false}]) cs) w1 (seen P fr.fn es):=by
 have cQ:(fr.kind==CallKind.early)=false:=by rw[hk];rfl
 simp only[stepG.apply,h,cQ,if_true,Bool.false_eq_true,if_false,GStep.after,Array.append_empty,G]
theorem Fy {fr:Frame}{cs:List Frame}{s:Sem Next}{w w1:World}{h0:Halt}{es:Array Event}(hp:Plain τ h0)(h:s.runT P w #[]=(.halt h0 w1,es)):
  (∃x,h0= .panic x)∨∀g v e,stepG.apply P true fr cs none s w≠.go g v e:=by
 cases h0 with
 |panic x=>exact .inl ⟨x,rfl⟩
 |stuck z=>exact .inr fun g v e=>by simp only[stepG.apply,h,if_true,GStep.after];exact nofun
 |unsupported u=>
  refine .inr fun g v e=>?_
  cases u with
  |initOrder g=>exact absurd rfl (hp g)
  |_=>simp only[stepG.apply,h,if_true,GStep.after];exact nofun
 |_=>exact hp.elim
end
end Go.Proofs.YtlhohdjniaebbaaGreat.Sr
namespace Go.Proofs.YtlhohdjniaebbaaGreat.Sr
open Go Go.Conc
section
variable {τ:TypeId}{P:Program}{F:Array Func}{spec:FuncId→Bool}{m:aD}
inductive LR (m:aD):List Value→List Value→Prop
 |nil:LR m [] []
 |cons {x y:Value} {us vs:List Value} (h:VR m x y) (k:LR m us vs):LR m (x::us) (y::vs)
theorem LR.mono {n:aD}(h:aD.le m n){us vs:List Value}(x:LR m us vs):LR n us vs:=by
 induction x with
 |nil=>exact .nil
 |cons a _ ih=>exact .cons (a.mono h) ih
theorem LR.arr {us vs:List Value}(h:LR m us vs):AR m us.toArray vs.toArray:=by
 induction h with
 |nil=>exact AR.nil
 | @cons x y us vs h k ih=>
   have:=(AR.one h).append ih
   simpa using this
theorem BN {ι:Type}{f f':ι→Sem Value}(h:∀(n:aD),aD.le m n→∀x,aT τ P F VR n (f x) (f' x)):∀(l:List ι) {n:aD},aD.le m n→aT τ P F LR n (l.mapM f) (l.mapM f')
 |[],n,_=>by simp only[List.mapM_nil];exact sP .nil
 |a::l,n,hn=>by
  simp only[List.mapM_cons];exact(h n hn a).bind fun n2 x y h2 hx=>(BN h l (aD.le_trans hn h2)).bind fun n3 xs ys h3 lF=>sP (.cons (hx.mono h3) lF)
theorem iN (R:dZ τ P)(fn:Func){us vs:Array Value}(h:AR m us vs):aT τ P F VR m (results fn us) (results fn vs):=by
 unfold results;rw[Array.mapM_eq_mapM_toList,Array.mapM_eq_mapM_toList];refine SR.bind (RA:=AR) ?_ fun n xs ys hn lF=>?_
 ·refine(BN (fun n hn x=>?_) _ (aD.le_refl m)).bind fun n xs ys hn lF=>sP lF.arr
  cases x with
  |tmp t=>exact sP ((h.mono hn).getD t .undef)
  |cell a t=>exact(sj R ((h.mono hn).getD a .undef)).bind fun n2 x y h2 hx=>pM t hx
 ·refine sP ?_
  by_cases h1:xs.size=1
  ·rw[dif_pos h1,dif_pos (by rw[←lF.1];exact h1)]
   exact lF.2 0 (by omega) (by rw[←lF.1];omega)
  ·rw[dif_neg h1,dif_neg (by rw[←lF.1];exact h1)]
   exact .tuple lF.1 lF.2
inductive Out (τ:TypeId) (P:Program) (F:Array Func) (spec:FuncId→Bool) (m:aD) (e' e:List Frame) (f':Frame) (fs':List Frame) (f:Frame) (fs:List Frame) (v w:World):Goroutine→World→GStep→Prop
 |goes {n:aD} {f1' f1:Frame} {fs1' fs1:List Frame} {v1 w1:World} {es:Array Event} (h:FR P spec n f1' f1∨(kg P F spec n f1' f1∧fs1'≠[])) (hs:h_ P spec n fs1' fs1) (hw:WR n v1 w1) (hk:Kept m n v w v1 w1) (he:om n v es) (hd:KA f fs→KA f1 fs1):Out τ P F spec m e' e f' fs' f fs v w (G f1' (fs1'++e')) v1 (.go (G f1 (fs1++e)) w1 es)
 |panics {x:Value} {v1:World} {s:GStep} (hp:Plain τ (.panic x)):Out τ P F spec m e' e f' fs' f fs v w (G (f'.raise [{v:=x,recovered:=false}]) (fs'++e')) v1 s
theorem Out.bD {e' e:List Frame}{f':Frame}{fs':List Frame}{f:Frame}{fs:List Frame}{v w:World}{f1' f1:Frame}{bM gs:List Frame}{sl sr:GStep}{g1:Goroutine}{v1:World}{aQ:Array Event}
  (h:FR P spec m f1' f1) (hs:h_ P spec m bM gs) (hw:WR m v w) (el:sl= .go (G f1' (bM++e')) v #[]) (er:sr= .go (G f1 (gs++e)) w #[]) (b_:sl= .go g1 v1 aQ) (hd:KA f fs→KA f1 gs:=by exact fun q=>q):
  Out τ P F spec m e' e f' fs' f fs v w g1 v1 sr:=by
 rw[el]at b_;injection b_ with h1 h2 _
 subst h1 h2;rw[er];exact .goes (.inl h) hs hw (Kept.refl m v w) om.none hd
theorem om.of {n:aD}{v:World}{us jC:List Event}{Q:Program}{fn:FuncId}(h:wv n us jC)(gJ:∀e∈us,e.write=true→∀a,e.loc= .cell a→¬dG v a.block):om n v (seen Q fn (#[]++jC.toArray)):=by
 intro e he;have dg:=mem_seen he;simp only[Array.empty_append,List.mem_toArray]at dg;clear he;induction h with
 |nil=>cases dg
 | @cons a b us jC fL _ ih=>
   rcases List.mem_cons.1 dg with rfl|dg
   ·exact⟨a,fL,gJ a (by simp)⟩
   ·exact ih (fun e he=>gJ e (by simp[he])) dg
theorem OS (B:fg τ P F spec m.good){fn:FuncId}{tm' tm:Array Value}{ops:Array Oper}{i:Nat}{rest:List Nat}{k:List Item}{o:Oper}{mn mn':Bool}{fs' fs e' e:List Frame}{v w:World}
  {tl:List Item} {ds:List Deferred} (dR:lH spec m fn .run tm' tl ds) (h:AR m tm' tm) (ok:∀x∈(Item.inRegion ops (i::rest)::k),cw P m.good tl.isEmpty x=true) (hs:h_ P spec m fs' fs) (hw:WR m v w)
  (ho:ops[i]?=some o) (YS:Region.wanted o (yielded ops tm')=true) (V4:Region.wanted o (yielded ops tm)=true) {g1:Goroutine} {v1:World} {aQ:Array Event}
  (b_:stepG (Program.mk (Program.toTables P) F) mn' (G (aM fn tm' ((.inRegion ops (i::rest)::k)++tl) .run) (fs'++e')) v= .go g1 v1 aQ):
  Out τ P F spec m e' e (aM fn tm' ((.inRegion ops (i::rest)::k)++tl) .run) fs' (fb fn tm (.inRegion ops (i::rest)::k) .run ds) fs v w g1 v1 (stepG P mn (G (fb fn tm (.inRegion ops (i::rest)::k) .run ds) (fs++e)) w):=by
 have Sj:gk P m.good o.op=true:=by
  have:=ok _ (List.mem_cons_self ..)
  simp only[cw]at this;have:=Array.all_eq_true_iff_forall_mem.1 this o (Array.mem_of_getElem? ho)
  rw[Bool.and_eq_true]at this;exact this.1
 have Sk:(tl.isEmpty||((ops[i]?).bind (·.dst))!=some C2)=true:=by
  have:=ok _ (List.mem_cons_self ..)
  simp only[cw]at this;have:=Array.all_eq_true_iff_forall_mem.1 this o (Array.mem_of_getElem? ho)
  rw[Bool.and_eq_true]at this;rw[ho];exact this.2
 have e1:stepG (Program.mk (Program.toTables P) F) mn' (G (aM fn tm' ((.inRegion ops (i::rest)::k)++tl) .run) (fs'++e')) v=stepG.apply (Program.mk (Program.toTables P) F) true (aM fn tm' ((.inRegion ops (i::rest)::k)++tl) .run) (fs'++e') none (execOp (Act.eval ⟨tm',[]⟩) o) v:=
  stepG_oper (b:=aM fn #[] [] .run) (a:=⟨tm',[]⟩) ho YS
 have e2:stepG P mn (G (fb fn tm (.inRegion ops (i::rest)::k) .run ds) (fs++e)) w=stepG.apply P true (fb fn tm (.inRegion ops (i::rest)::k) .run ds) (fs++e) none (execOp (Act.eval ⟨tm,ds⟩) o) w:=
  stepG_oper (b:=aM fn #[] [] .run) (a:=⟨tm,ds⟩) ho V4
 rw[e1]at b_;rw[e2];have jD:=oj (F:=F) B.rt B.globals B.fns (h.oper B.bJ (ds:=ds)) o Sj fun f=>⟨rfl,rfl⟩
 have ht:∃tJ l k',(aM fn tm' ((.inRegion ops (i::rest)::k)++tl) .run).todo= .inRegion tJ l::k':=⟨_,_,_,rfl⟩
 have ht2:∃tJ l k',(fb fn tm (.inRegion ops (i::rest)::k) .run ds).todo= .inRegion tJ l::k':=⟨_,_,_,rfl⟩
 have tK:∀n:aD,aD.le m n→∀x∈(Item.inRegion ops rest::k),cw P n.good tl.isEmpty x=true:=by
  intro n hn x hx;rw[←hn.good];rcases List.mem_cons.1 hx with rfl|hx
  ·exact ok (.inRegion ops (i::rest)) (by simp)
  ·exact ok x (by simp[hx])
 have fin:∀(n:aD) {x y:Value},aD.le m n→VR n x y→FR P spec n ((aM fn tm' ((.inRegion ops (i::rest)::k)++tl) .run).finish x) ((fb fn tm (.inRegion ops (i::rest)::k) .run ds).finish y):=by
  intro n x y hn kG;refine .mk fn (tm':=wF tm' ((ops[i]?).bind (·.dst)) x) (tm:=wF tm ((ops[i]?).bind (·.dst)) y) (.inRegion ops rest::k) .run ((dR.mono hn).put Sk x) ?_ (tK n hn) (.inl rfl)
  unfold wF;cases(ops[i]?).bind (·.dst)with
  |none=>exact h.mono hn
  |some d=>exact(h.mono hn).set d kG
 cases hr:(execOp (Act.eval ⟨tm',[]⟩) o).runT (Program.mk (Program.toTables P) F) v #[]with
 |mk r C3=>
  cases r with
  |halt h0 v2=>
   rcases Fy (jD.run_halt hw hr) hr with⟨x,rfl⟩|cv
   ·rw[gK rfl hr]at b_
    injection b_ with h1 h2 _
    subst h1 h2;exact .panics (jD.run_halt hw hr)
   ·exact absurd b_ (cv _ _ _)
  |ok a v2=>
   obtain⟨n,b,w',us,jC,r1,r2,r3,r4,r5,r6⟩:=jD.run (fs:= #[]) hw hr;obtain⟨KB,w1,w2,w3⟩:=jD.writes hw hr;have sw:us=KB:=by
    have:=r2.symm.trans w1
    simpa using this
   subst sw;have FA:om n v (seen P fn (#[]++jC.toArray)):=om.of r3 w2
   cases r4 with
   |value kG=>
    rw[jf rfl hr]at b_;rw[jf rfl r1];injection b_ with h1 h2 _
    subst h1 h2;exact .goes (.inl (fin n r6.le kG)) (hs.mono r6.le) r5 r6 FA fun q=>q
   |skip=>
    rw[kt rfl hr]at b_;rw[kt rfl r1];injection b_ with h1 h2 _
    subst h1 h2;exact .goes (.inl (fin n r6.le .undef)) (hs.mono r6.le) r5 r6 FA fun q=>q
   |enter f hf ha rh=>
    rw[jg rfl ht hr]at b_;rw[jg rfl ht2 r1];injection b_ with h1 h2 _
    subst h1 h2;have pA:h_ P spec n (aM fn tm' ((.inRegion ops (i::rest)::k)++tl) .run::fs') (fb fn tm (.inRegion ops (i::rest)::k) .run ds::fs):=
     .cons (.mk fn (.inRegion ops (i::rest)::k) .run (dR.mono r6.le) (h.mono r6.le) (fun x hx=>by rw[←r6.le.good];exact ok x hx) (.inl rfl)) rfl (hs.mono r6.le)
    refine .goes (fs1':=_::fs') (fs1:=_::fs) ?_ pA r5 r6 FA fun⟨d1,d2⟩=>⟨rfl,fun c hc=>(by rcases List.mem_cons.1 hc with rfl|hc;exact d1;exact d2 c hc)⟩
    cases Sl:spec f with
    |true=>exact .inr ⟨.mk f Sl ha rh,by simp⟩
    |false=>
     obtain⟨fr,e1,e2,e3⟩:=B.same f (by rw[r6.le.good];exact hf) Sl
     have en:∀(Q:Program) (xs:Array Value),Q.funcs[f]?=some fr→Frame.enter Q f xs .normal=aM f (xs++Array.replicate (fr.ntmps-xs.size) undef) [.code (fr.body.getD (.refuse "unsupported: a function without a Go body is entered"))] .run:=by
      intro Q xs hq;simp[Frame.enter,hq,aM]
     rw[en _ _ e1,en _ _ e2];refine .inl (.mk f [.code (fr.body.getD (.refuse "unsupported: a function without a Go body is entered"))] .run (.no Sl hf) (tl:=[]) (ds:=[]) ?_ (fun x hx=>?_) (.inl rfl))
     ·rw[ha.1]
      exact ha.append ⟨rfl,fun i h1 h2=>by simp only[Array.getElem_replicate];exact .undef⟩
     ·rcases List.mem_singleton.1 hx with rfl
      unfold mH at e3
      cases hb:fr.body with
      |none=>rw[hb]at e3;cases e3
      |some c=>rw[hb]at e3;simpa[cw,←r6.le.good]using e3
end
end Go.Proofs.YtlhohdjniaebbaaGreat.Sr
namespace Go.Proofs.YtlhohdjniaebbaaGreat.Sr
open Go Go.Conc
section
variable {τ:TypeId}{P:Program}{F:Array Func}{spec:FuncId→Bool}{m:aD}
theorem rF {fn:FuncId}{ar:Bool}{t:Array Value}{todo tl:List Item}{ds:List Deferred}{x:Value}(h:∀i∈todo,cw P m.good ar i=true)(ht:∀i∈tl,∃c,i= .code c)(hn:∀ops i rest k,todo≠.inRegion ops (i::rest)::k):
  (aM fn t (todo++tl) .run).finish x=aM fn t (todo++tl) .run∧(fb fn t todo .run ds).finish x=fb fn t todo .run ds:=by
 cases todo with
 |nil=>
  cases tl with
  |nil=>exact⟨rfl,rfl⟩
  |cons i k=>
   obtain⟨c,rfl⟩:=ht i (by simp)
   exact⟨rfl,rfl⟩
 |cons i k=>
  have h0:=h i (by simp)
  cases i with
  |inRegion ops l=>
   cases l with
   |nil=>exact⟨rfl,rfl⟩
   |cons j rest=>exact absurd rfl (hn _ _ _ _)
  |code c=>exact⟨rfl,rfl⟩
  |inBlock id=>exact⟨rfl,rfl⟩
  |inLoop b=>exact⟨rfl,rfl⟩
  |_=>simp[cw]at h0
theorem lH.yr {fn:FuncId}{mode:FrameMode}{tm:Array Value}{tl:List Item}{ds:List Deferred}(h:lH spec m fn mode tm tl ds):∀i∈tl,∃c,i= .code c:=by
 cases h with
 |no=>exact fun i hi=>by cases hi
 |ap=>exact fun i hi=>⟨_,List.mem_singleton.1 hi⟩
theorem lH.back {fn:FuncId}{tm:Array Value}{tl:List Item}{ds:List Deferred}(h:lH spec m fn .returning tm tl ds):tl=[]∧ds=[]∧spec fn=false∧m.good fn=true:=by
 cases h with
 |no fc hg=>exact⟨rfl,rfl,fc,hg⟩
 |ap _ _ h=>cases h
theorem FR.finish {n:aD}{c' c:Frame}(h:FR P spec m c' c)(hr:c'.mode= .run){x y:Value}(hn:aD.le m n)(kG:VR n x y):FR P spec n (c'.finish x) (c.finish y):=by
 obtain @⟨fn,tm',tm,todo,mode,tl,ds,dR,ha,ok,hm,rfl,rfl⟩:=h
 obtain rfl:mode= .run:=hr
 by_cases hq:∃ops i rest k,todo= .inRegion ops (i::rest)::k
 ·obtain⟨ops,i,rest,k,rfl⟩:=hq
  have Sk:(tl.isEmpty||((ops[i]?).bind (·.dst))!=some C2)=true:=by
   cases ho:ops[i]? with
   |none=>simp
   |some o=>
    have:=ok (.inRegion ops (i::rest)) (by simp)
    simp only[cw]at this;have:=Array.all_eq_true_iff_forall_mem.1 this o (Array.mem_of_getElem? ho)
    rw[Bool.and_eq_true]at this;exact this.2
  refine .mk fn (tm':=wF tm' ((ops[i]?).bind (·.dst)) x) (tm:=wF tm ((ops[i]?).bind (·.dst)) y) (.inRegion ops rest::k) .run ((dR.mono hn).put Sk x) ?_ (fun z hz=>?_) (.inl rfl)
  ·unfold wF;cases(ops[i]?).bind (·.dst)with
   |none=>exact ha.mono hn
   |some d=>exact(ha.mono hn).set d kG
  ·rw[←hn.good]
   rcases List.mem_cons.1 hz with rfl|hz
   ·exact ok (.inRegion ops (i::rest)) (by simp)
   ·exact ok z (by simp[hz])
 ·have V5:∀ops i rest k,todo≠.inRegion ops (i::rest)::k:=fun ops i rest k e=>hq ⟨ops,i,rest,k,e⟩
  have f1:=fun x=>(rF (fn:=fn) (t:=tm') (tl:=tl) (ds:=ds) (x:=x) ok dR.yr V5).1
  have f2:=fun x=>(rF (fn:=fn) (t:=tm) (tl:=tl) (ds:=ds) (x:=x) ok dR.yr V5).2
  rw[f1,f2];exact FR.mono hn (.mk fn todo .run dR ha ok (.inl rfl))
theorem yu {c:Frame}{x:Value}:(c.finish x).defers=c.defers:=by
 unfold Frame.finish;split<;>rfl
theorem k_ {Q:Program}{mn:Bool}{fn:FuncId}{fr:Func}{t:Array Value}{todo:List Item}{c:Frame}{cs:List Frame}{w w1:World}{x:Value}{es:Array Event}(hf:Q.funcs[fn]?=some fr)(h:(results fr t).runT Q w #[]=(.ok x w1,es)):
  stepG Q mn (G (aM fn t todo .returning) (c::cs)) w= .go (G (c.finish x) cs) w1 (seen Q fn es):=by
 simp only[G,aM,stepG,unwind,hf,h,doReturn,GStep.after,Array.append_empty]
theorem vz {Q:Program}{mn:Bool}{fn:FuncId}{fr:Func}{t:Array Value}{todo:List Item}{cs:List Frame}{w w1:World}{h0:Halt}{es:Array Event}(hf:Q.funcs[fn]?=some fr)(h:(results fr t).runT Q w #[]=(.halt h0 w1,es)):
  ∀g v e,stepG Q mn (G (aM fn t todo .returning) cs) w≠.go g v e:=by
 intro g v e
 cases h0<;>simp only[G,aM,stepG,unwind,hf,h,GStep.after]<;>exact nofun
theorem ku {id:Nat}{tl:List Item}:∀{k k':List Item},exitTo id k=some k'→exitTo id (k++tl)=some (k'++tl)
 |[],_,h=>by simp[exitTo]at h
 |i::k,k',h=>by
  cases i with
  |inBlock OR=>
   simp only[exitTo,List.cons_append]at h⊢;split at h
   ·rename_i e;cases h;rw[if_pos e]
   ·rename_i e;rw[if_neg e];exact ku h
  |_=>simp only[exitTo,List.cons_append]at h⊢;exact ku h
theorem jh {id:Nat}{tl:List Item}(hc:∀i∈tl,∃c,i=Item.code c):∀{k:List Item},exitTo id k=none→exitTo id (k++tl)=none
 |[],_=>by
  rw[List.nil_append];induction tl with
  |nil=>rfl
  |cons i l ih=>
   obtain⟨c,rfl⟩:=hc i (by simp)
   simp only[exitTo];exact ih fun i hi=>hc i (by simp[hi])
 |i::k,h=>by
  cases i with
  |inBlock OR=>
   simp only[exitTo,List.cons_append]at h⊢;split at h
   ·cases h
   ·rename_i e;rw[if_neg e];exact jh hc h
  |_=>simp only[exitTo,List.cons_append]at h⊢;exact jh hc h
theorem FB {us vs:Array Value}(h:AR m us vs)(ops:Array Oper):yielded ops us=yielded ops vs:=by
 funext j
 unfold yielded
 cases(ops[j]?).bind (·.dst)with
 |none=>rfl
 |some d=>
  simp only[Option.bind_some];rcases h.get? d with⟨h1,h2⟩|⟨x,y,h1,h2,h3⟩
  ·rw[h1,h2]
  ·rw[h1,h2]
   cases h3 with
   |fS y hy hn=>cases y<;>first|rfl|exact absurd rfl (hn.2 _)
   |_=>rfl
theorem OT (B:fg τ P F spec m.good){f' f:Frame}{mn mn':Bool}{fs' fs e' e:List Frame}{v w:World}(h:FR P spec m f' f)(hs:h_ P spec m fs' fs)(hw:WR m v w)
  (hl:¬Edge f' f fs') {g1:Goroutine} {v1:World} {aQ:Array Event} (b_:stepG (Program.mk (Program.toTables P) F) mn' (G f' (fs'++e')) v= .go g1 v1 aQ):
  Out τ P F spec m e' e f' fs' f fs v w g1 v1 (stepG P mn (G f (fs++e)) w):=by
 obtain @⟨fn,tm',tm,todo,mode,tl,ds,dR,ha,ok,hm,rfl,rfl⟩:=h
 ·rcases hm with rfl|rfl
  ·cases todo with
   |nil=>
    cases dR with
    |ap=>exact absurd (.inr ⟨rfl,by simp[fb]⟩) hl
    |no fc hg=>
     exact .bD (f1':=aM fn tm' [] .returning) (f1:=fb fn tm [] .returning []) (.mk fn [] .returning (.no fc hg) ha ok (.inr rfl)) hs hw (stepG_end (b:=aM fn #[] [] .run) (a:=⟨tm',[]⟩)) (stepG_end (b:=aM fn #[] [] .run) (a:=⟨tm,[]⟩)) b_
   |cons i k=>
    have tK:∀x∈k,cw P m.good tl.isEmpty x=true:=fun x hx=>ok x (by simp[hx])
    have jP:=ok i (by simp)
    have cons:∀{x:Item} {l:List Item},cw P m.good tl.isEmpty x=true→(∀y∈l,cw P m.good tl.isEmpty y=true)→∀y∈x::l,cw P m.good tl.isEmpty y=true:=by
     intro x l h1 h2 y hy;rcases List.mem_cons.1 hy with rfl|hy
     ·exact h1
     ·exact h2 y hy
    cases i with
    |code c=>
     cases c with
     |skip=>exact .bD (f1':=aM fn tm' (k++tl) .run) (f1:=fb fn tm k .run ds) (.mk fn k .run dR ha tK (.inl rfl)) hs hw (stepG_skip (b:=aM fn #[] [] .run) (a:=⟨tm',[]⟩)) (stepG_skip (b:=aM fn #[] [] .run) (a:=⟨tm,ds⟩)) b_
     |label l=>exact .bD (f1':=aM fn tm' (k++tl) .run) (f1:=fb fn tm k .run ds) (.mk fn k .run dR ha tK (.inl rfl)) hs hw (stepG_label (b:=aM fn #[] [] .run) (a:=⟨tm',[]⟩)) (stepG_label (b:=aM fn #[] [] .run) (a:=⟨tm,ds⟩)) b_
     |ret=>
      cases dR with
      |ap=>simp[cw,fp]at jP
      |no fc hg=>
       refine .bD (f1':=aM fn tm' ((.code .ret::k)++[]) .returning) (f1:=fb fn tm (.code .ret::k) .returning []) (.mk fn (.code .ret::k) .returning (.no fc hg) ha ok (.inr rfl)) hs hw ?_ ?_ b_
       ·simp[G,aM,stepG,stepG.exec]
       ·simp[G,fb,stepG,stepG.exec]
     |exit id=>
      have el:∀(Q:Program) (b:Bool) (t:Array Value) (cs:List Frame) (z:World) (k:List Item),exitTo id k=none→∀g v e,stepG Q b (G (aM fn t (.code (.exit id)::k) .run) cs) z≠.go g v e:=by
       intro Q b t cs z k he g v e;simp only[G,aM,stepG,stepG.exec,he,Option.elim_none];exact nofun
      cases hx:exitTo id k with
      |none=>exact absurd b_ (el _ _ _ _ _ (k++tl) (jh dR.yr hx) _ _ _)
      |some k'=>exact .bD (f1':=aM fn tm' (k'++tl) .run) (f1:=fb fn tm k' .run ds) (.mk fn k' .run dR ha (su hx tK) (.inl rfl)) hs hw (stepG_exit (b:=aM fn #[] [] .run) (a:=⟨tm',[]⟩) (ku hx)) (stepG_exit (b:=aM fn #[] [] .run) (a:=⟨tm,ds⟩) hx) b_
     |seq x y=>
      simp only[cw,fp,Bool.and_eq_true]at jP;exact .bD (f1':=aM fn tm' ((.code x:: .code y::k)++tl) .run) (f1:=fb fn tm (.code x:: .code y::k) .run ds) (.mk fn (.code x:: .code y::k) .run dR ha (cons jP.1 (cons jP.2 tK)) (.inl rfl)) hs hw (stepG_seq (b:=aM fn #[] [] .run) (a:=⟨tm',[]⟩)) (stepG_seq (b:=aM fn #[] [] .run) (a:=⟨tm,ds⟩)) b_
     |block id x=>
      exact .bD (f1':=aM fn tm' ((.code x:: .inBlock id::k)++tl) .run) (f1:=fb fn tm (.code x:: .inBlock id::k) .run ds) (.mk fn (.code x:: .inBlock id::k) .run dR ha (cons jP (cons rfl tK)) (.inl rfl)) hs hw (stepG_block (b:=aM fn #[] [] .run) (a:=⟨tm',[]⟩)) (stepG_block (b:=aM fn #[] [] .run) (a:=⟨tm,ds⟩)) b_
     |loop x=>
      exact .bD (f1':=aM fn tm' ((.code x:: .inLoop x::k)++tl) .run) (f1:=fb fn tm (.code x:: .inLoop x::k) .run ds) (.mk fn (.code x:: .inLoop x::k) .run dR ha (cons jP (cons jP tK)) (.inl rfl)) hs hw (stepG_loop (b:=aM fn #[] [] .run) (a:=⟨tm',[]⟩)) (stepG_loop (b:=aM fn #[] [] .run) (a:=⟨tm,ds⟩)) b_
     |cond c x y=>
      simp only[cw,fp,Bool.and_eq_true]at jP;have hc:=ha.oper B.bJ (ds:=ds) c jP.1.1;have key:∀b:Bool,Act.eval ⟨tm',[]⟩ c= .bool b→Act.eval ⟨tm,ds⟩ c= .bool b→Out τ P F spec m e' e (aM fn tm' ((.code (.cond c x y)::k)++tl) .run) fs' (fb fn tm (.code (.cond c x y)::k) .run ds) fs v w g1 v1 (stepG P mn (G (fb fn tm (.code (.cond c x y)::k) .run ds) (fs++e)) w):=by
       intro b h1 h2;refine .bD (f1':=aM fn tm' ((.code (if b then x else y)::k)++tl) .run) (f1:=fb fn tm (.code (if b then x else y)::k) .run ds) (.mk fn (.code (if b then x else y)::k) .run dR ha (cons ?_ tK) (.inl rfl)) hs hw (stepG_cond (b:=aM fn #[] [] .run) (a:=⟨tm',[]⟩) h1) (stepG_cond (b:=aM fn #[] [] .run) (a:=⟨tm,ds⟩) h2) b_
       cases b
       ·exact jP.2
       ·exact jP.1.2
      have no:(∀b,Act.eval ⟨tm',[]⟩ c≠.bool b)→False:=by
       intro hb;have he:(Frame.mk fn tm' (.code (.cond c x y)::(k++tl)) [] .run .normal none).eval c=Act.eval ⟨tm',[]⟩ c:=by cases c<;>rfl
       revert b_
       simp only[G,aM,List.cons_append,stepG,stepG.exec,he]
       cases hv:Act.eval ⟨tm',[]⟩ c with
       |bool b=>exact absurd hv (hb b)
       |_=>exact nofun
      cases h1:Act.eval ⟨tm',[]⟩ c with
      |bool b=>
       rw[h1]at hc
       cases h2:Act.eval ⟨tm,ds⟩ c with
       |bool b2=>rw[h2]at hc;cases hc;exact key _ h1 h2
       |_=>rw[h2]at hc;cases hc
      |_=>exact(no fun b hb=>by rw[h1]at hb;cases hb).elim
     |region id ops draw=>
      cases draw with
      |false=>exact .bD (f1':=aM fn tm' ((.inRegion ops (List.range ops.size)::k)++tl) .run) (f1:=fb fn tm (.inRegion ops (List.range ops.size)::k) .run ds) (.mk fn (.inRegion ops (List.range ops.size)::k) .run dR ha (cons jP tK) (.inl rfl)) hs hw (stepG_region (b:=aM fn #[] [] .run) (a:=⟨tm',[]⟩)) (stepG_region (b:=aM fn #[] [] .run) (a:=⟨tm,ds⟩)) b_
      |true=>
       have ed:∀(Q:Program) (b:Bool) (t:Array Value) (cs:List Frame) (z:World) (k:List Item) (ds:List Deferred),stepG Q b (G (fb fn t (.code (.region id ops true)::k) .run ds) cs) z=
         .go (G (fb fn t (.inRegion ops (Region.schedule (Q.follows .mixedOrders) ops (z.tape z.drawn (.order fn id)))::k) .run ds) cs) {z with drawn:=z.drawn+1} #[]:=by
        intro Q b t cs z k ds;simp[G,fb,stepG,stepG.exec,choose,Sem.run,Question.forced,Question.cut]
       replace b_:=(ed (Program.mk (Program.toTables P) F) mn' tm' (fs'++e') v (k++tl) []).symm.trans b_
       rw[ed];injection b_ with h1 h2 _
       subst h1 h2;rw[hw.tape,hw.drawn];have hfo:Tables.follows (Program.mk (Program.toTables P) F).toTables .mixedOrders=Tables.follows P.toTables .mixedOrders:=rfl
       rw[hfo];refine .goes (n:=m) (.inl (.mk fn (.inRegion ops (Region.schedule (P.follows .mixedOrders) ops (v.tape v.drawn (.order fn id)))::k) .run dR ha (cons jP tK) (.inl rfl))) hs ⟨hw.inj,hw.iX,hw.os,rfl,rfl⟩ ⟨aD.le_refl m,Nat.le_refl _,Nat.le_refl _,fun _ _=>rfl,fun _ _ _=>rfl,fun _ _ h=> .inl h,Nat.le_succ _,rfl,rfl,hw.tape.symm⟩ om.none fun q=>q
     |_=>simp[cw,fp]at jP
    |inBlock id=>exact .bD (f1':=aM fn tm' (k++tl) .run) (f1:=fb fn tm k .run ds) (.mk fn k .run dR ha tK (.inl rfl)) hs hw (stepG_inBlock (b:=aM fn #[] [] .run) (a:=⟨tm',[]⟩)) (stepG_inBlock (b:=aM fn #[] [] .run) (a:=⟨tm,ds⟩)) b_
    |inLoop x=>exact .bD (f1':=aM fn tm' ((.code x:: .inLoop x::k)++tl) .run) (f1:=fb fn tm (.code x:: .inLoop x::k) .run ds) (.mk fn (.code x:: .inLoop x::k) .run dR ha (cons jP (cons jP tK)) (.inl rfl)) hs hw (stepG_inLoop (b:=aM fn #[] [] .run) (a:=⟨tm',[]⟩)) (stepG_inLoop (b:=aM fn #[] [] .run) (a:=⟨tm,ds⟩)) b_
    |inRegion ops l=>
     cases l with
     |nil=>exact .bD (f1':=aM fn tm' (k++tl) .run) (f1:=fb fn tm k .run ds) (.mk fn k .run dR ha tK (.inl rfl)) hs hw (stepG_region_end (b:=aM fn #[] [] .run) (a:=⟨tm',[]⟩)) (stepG_region_end (b:=aM fn #[] [] .run) (a:=⟨tm,ds⟩)) b_
     |cons j rest=>
      have hy:=FB ha ops;have skip:((ops[j]?).map (Region.wanted · (yielded ops tm'))).getD false=false→Out τ P F spec m e' e (aM fn tm' ((.inRegion ops (j::rest)::k)++tl) .run) fs' (fb fn tm (.inRegion ops (j::rest)::k) .run ds) fs v w g1 v1 (stepG P mn (G (fb fn tm (.inRegion ops (j::rest)::k) .run ds) (fs++e)) w):=by
       intro hn;have es:∀(Q:Program) (b:Bool) (t:Array Value) (cs:List Frame) (z:World) (k:List Item) (ds:List Deferred),yielded ops t=yielded ops tm'→stepG Q b (G (fb fn t (.inRegion ops (j::rest)::k) .run ds) cs) z= .go (G ((fb fn t (.inRegion ops (j::rest)::k) .run ds).finish undef) cs) z #[]:=by
        intro Q b t cs z k ds ht;have yv:((ops[j]?).map (Region.wanted · (yielded ops t))).getD false=false:=by rw[ht];exact hn
        simp only[G,fb,stepG,stepG.exec];exact if_neg (by rw[yv];simp)
       exact .bD ((FR.mk fn (.inRegion ops (j::rest)::k) .run dR ha ok (.inl rfl)).finish rfl (aD.le_refl m) .undef) hs hw (es _ _ _ _ _ (k++tl) [] rfl) (es _ _ _ _ _ _ _ hy.symm) b_
      cases ho:ops[j]? with
      |none=>exact skip (by rw[ho];rfl)
      |some o=>
       cases nf:Region.wanted o (yielded ops tm')with
       |false=>exact skip (by rw[ho];exact nf)
       |true=>exact OS B dR ha ok hs hw ho nf (by rw[←hy];exact nf) b_
    |_=>simp[cw]at jP
  ·cases hs with
   |nil=>exact absurd (.inl ⟨rfl,rfl⟩) hl
   | @cons c' c bM gs hc yw bW=>
     obtain⟨rfl,rfl,fc,hg⟩:=dR.back;obtain⟨fr,e1,e2,e3⟩:=B.same fn hg fc;have jD:=iN (F:=F) (m:=m) B.rt fr ha
     cases hr:(results fr tm').runT (Program.mk (Program.toTables P) F) v #[]with
     |mk r C3=>
      cases r with
      |halt h0 v2=>exact absurd b_ (vz e1 hr _ _ _)
      |ok a v2=>
       obtain⟨n,b,w',us,jC,r1,r2,r3,r4,r5,r6⟩:=jD.run (fs:= #[]) hw hr;obtain⟨KB,w1,w2,w3⟩:=jD.writes hw hr;have sw:us=KB:=by
        have:=r2.symm.trans w1
        simpa using this
       subst sw;rw[List.cons_append,k_ e1 hr]at b_;rw[show fb fn tm todo .returning []=aM fn tm todo .returning from rfl,List.cons_append,k_ e2 r1]
       injection b_ with h1 h2 _
       subst h1 h2;exact .goes (.inl (hc.finish yw r6.le r4)) (bW.mono r6.le) r5 r6 (om.of r3 w2) fun⟨_,d2⟩=>⟨yu.trans (d2 c (by simp)),fun x hx=>d2 x (by simp[hx])⟩
end
end Go.Proofs.YtlhohdjniaebbaaGreat.Sr
namespace Go
def World.on (v:World)(T:Nat→Question→Nat)(d:Nat):World:={v with tape:=T,drawn:=d}
def Result.wd {α:Type}:Result α→World
 | .ok _ w=>w
 | .halt _ w=>w
def Result.on {α:Type}(T:Nat→Question→Nat)(d:Nat):Result α→Result α
 | .ok a w=> .ok a (w.on T d)
 | .halt h w=> .halt h (w.on T d)
end Go
namespace Go.Proofs.YtlhohdjniaebbaaGreat.Sr
open Go Go.Conc
@[simp] theorem ab3 (v:World) (T T':Nat→Question→Nat) (d d':Nat):(v.on T d).on T' d'=v.on T' d':=rfl
@[simp] theorem aaM (v:World):v.on v.tape v.drawn=v:=rfl
def kK (T:Nat→Question→Nat)(d:Nat)(T':Nat→Question→Nat)(d' k:Nat):Prop:=∀j,j<k→∀q,T' (d'+j) q=T (d+j) q
theorem kK.le {T T':Nat→Question→Nat}{d d' k l:Nat}(h:kK T d T' d' k)(hl:l≤k):kK T d T' d' l:=fun j hj=>h j (by omega)
theorem kK.shift {T T':Nat→Question→Nat}{d d' k l:Nat}(h:kK T d T' d' (l+k)):kK T (d+l) T' (d'+l) k:=fun j hj q=>by
 have:=h (l+j) (by omega) q
 simpa[Nat.add_assoc]using this
def SF (P:Program){α:Type}:Sem α→World→Prop
 | .pure _,_| .halt _,_=>True
 | .load _ a k,w=>match w.cell? a with
   |some x=>SF P (k x) w
   |none=>∀r u,w.heap[a.block]?≠some (.view r u)
 | .store _ a x k,w=>(∃cs,x= .agg cs∨x= .tuple cs)∨match w.cell? a with
   |some _=>w.frozen? a=true∨SF P k (w.setCell a x)
   |none=>∀r u,w.heap[a.block]?≠some (.view r u)
 | .new o k,w=>SF P (k w.heap.size) {w with heap:=w.heap.push o}
 | .shape r k,w=>SF P (k (w.shape? r)) w
 | .frozen a k,w=>SF P (k (w.frozen? a)) w
 | .getObj r k,w=>∀o,w.heap[r]?=some o→(∃c e f,o= .cells c e f)∨SF P (k o) w
 | .choose q k,w=>if q.forced then SF P (k 0) w else SF P (k (q.cut (w.tape w.drawn q))) {w with drawn:=w.drawn+1}
 | .program k,w=>SF P (k P) w
 | .mark _ k,w=>SF P k w
 |_,_=>False
theorem SF.on {P:Program}{α:Type}{s:Sem α}:∀{v:World} {es:Array Event} {r:Result α} {aQ:Array Event},SF P s v→s.runT P v es=(r,aQ)→
  ∃k,r.wd.tape=v.tape∧r.wd.drawn=v.drawn+k∧∀T' d',kK v.tape v.drawn T' d' k→s.runT P (v.on T' d') es=(r.on T' (d'+k),aQ)∧SF P s (v.on T' d'):=by
 induction s with
 |pure a=>
  intro v es r aQ h hr;simp only[Sem.runT,Prod.mk.injEq]at hr;obtain⟨rfl,rfl⟩:=hr;exact⟨0,rfl,rfl,fun T' d' _=>⟨rfl,trivial⟩⟩
 |halt h0=>
  intro v es r aQ h hr;simp only[Sem.runT,Prod.mk.injEq]at hr;obtain⟨rfl,rfl⟩:=hr;exact⟨0,rfl,rfl,fun T' d' _=>⟨rfl,trivial⟩⟩
 |load md a c ih=>
  intro v es r aQ h hr;simp only[SF]at h;simp only[Sem.runT]at hr
  cases hv:v.cell? a with
  |some x=>
   rw[hv]at hr h;obtain⟨k,h1,h2,h3⟩:=ih x h hr;refine⟨k,h1,h2,fun T' d' hA=>?_⟩
   have fM:(v.on T' d').cell? a=some x:=hv
   simp only[Sem.runT,SF,fM];exact h3 T' d' hA
  |none=>
   rw[hv]at hr h;have hf:∃e,v.farLoad P a (md== .atomic)= .error e:=by
    unfold World.farLoad
    cases hb:v.heap[a.block]? with
    |none=>exact⟨_,rfl⟩
    |some o=>cases o<;>first|exact⟨_,rfl⟩|exact absurd hb (h _ _)
   obtain⟨e,he⟩:=hf;rw[he]at hr;simp only[Prod.mk.injEq]at hr;obtain⟨rfl,rfl⟩:=hr;refine⟨0,rfl,rfl,fun T' d' _=>?_⟩
   have fM:(v.on T' d').cell? a=none:=hv
   have dg:(v.on T' d').farLoad P a (md== .atomic)= .error e:=he
   simp only[Sem.runT,SF,fM,dg];exact⟨rfl,h⟩
 |store md a x c ih=>
  intro v es r aQ h hr;simp only[SF]at h;by_cases pI:(∀cs,x≠.agg cs)∧(∀cs,x≠.tuple cs)
  ·replace h:=h.resolve_left (fun⟨cs,e⟩=>e.elim (pI.1 cs) (pI.2 cs))
   have e1:∀(q:World) (gs:Array Event),Sem.runT P (.store md a x c) q gs=match q.cell? a with
     |some _=>if q.frozen? a then(.halt (.unsupported (.unsafePointer "a write to bytes that a string shares")) q,gs)else c.runT P (q.setCell a x) (gs.push ⟨.cell a,true,md== .atomic⟩)
     |none=>match q.farStore P a x (md== .atomic)with
      | .ok (q,gg)=>c.runT P q (gs++gg.toArray.map (⟨.cell ·,true,md== .atomic⟩))
      | .error h=>(.halt h q,gs):=by
    intro q gs
    cases x<;>first|rfl|exact absurd rfl (pI.1 _)|exact absurd rfl (pI.2 _)
   rw[e1]at hr
   cases hv:v.cell? a with
   |some u=>
    rw[hv]at hr h;simp only at hr h
    split at hr
    ·rename_i kH
     simp only[Prod.mk.injEq]at hr;obtain⟨rfl,rfl⟩:=hr;refine⟨0,rfl,rfl,fun T' d' _=>?_⟩
     have fM:(v.on T' d').cell? a=some u:=hv
     have NO:(v.on T' d').frozen? a=true:=kH
     rw[e1,fM];simp only[SF,fM];rw[if_pos NO];exact⟨rfl,.inr (.inl NO)⟩
    ·rename_i kH
     obtain⟨k,h1,h2,h3⟩:=ih (h.resolve_left kH) hr;refine⟨k,h1,h2,fun T' d' hA=>?_⟩
     have fM:(v.on T' d').cell? a=some u:=hv
     have NO:¬(v.on T' d').frozen? a=true:=kH
     rw[e1,fM];simp only[SF,fM];rw[if_neg NO];exact⟨(h3 T' d' hA).1,.inr (.inr (h3 T' d' hA).2)⟩
   |none=>
    rw[hv]at hr h;have hf:∃e,v.farStore P a x (md== .atomic)= .error e:=by
     unfold World.farStore
     cases hb:v.heap[a.block]? with
     |none=>exact⟨_,rfl⟩
     |some o=>cases o<;>first|exact⟨_,rfl⟩|exact absurd hb (h _ _)
    obtain⟨e,he⟩:=hf;rw[he]at hr;simp only[Prod.mk.injEq]at hr;obtain⟨rfl,rfl⟩:=hr;refine⟨0,rfl,rfl,fun T' d' _=>?_⟩
    have fM:(v.on T' d').cell? a=none:=hv
    have dg:(v.on T' d').farStore P a x (md== .atomic)= .error e:=by
     unfold World.farStore at he⊢;have e:(v.on T' d').heap=v.heap:=rfl
     rw[e]
     cases hb:v.heap[a.block]? with
     |none=>rw[hb]at he;exact he
     |some o=>rw[hb]at he;cases o<;>first|exact he|exact absurd hb (h _ _)
    rw[e1,fM,dg];simp only[SF,fM];exact⟨rfl,.inr h⟩
  ·have hx:∃cs,x= .agg cs∨x= .tuple cs:=by
    cases x with
    |agg cs=>exact⟨cs,.inl rfl⟩
    |tuple cs=>exact⟨cs,.inr rfl⟩
    |_=>exact absurd ⟨by simp,by simp⟩ pI
   obtain⟨cs,hY⟩:=hx;rcases hY with rfl|rfl<;>
   ·simp only[Sem.runT,Prod.mk.injEq]at hr
    obtain⟨rfl,rfl⟩:=hr;exact⟨0,rfl,rfl,fun T' d' _=>⟨rfl,.inl ⟨cs,by simp⟩⟩⟩
 |new o c ih=>
  intro v es r aQ h hr;obtain⟨k,h1,h2,h3⟩:=ih v.heap.size h hr;exact⟨k,h1,h2,fun T' d' hA=>h3 T' d' hA⟩
 |shape r0 c ih=>
  intro v es r aQ h hr;obtain⟨k,h1,h2,h3⟩:=ih _ h hr;exact⟨k,h1,h2,fun T' d' hA=>h3 T' d' hA⟩
 |frozen a c ih=>
  intro v es r aQ h hr;obtain⟨k,h1,h2,h3⟩:=ih _ h hr;exact⟨k,h1,h2,fun T' d' hA=>h3 T' d' hA⟩
 |getObj r0 c ih=>
  intro v es r aQ h hr;simp only[SF]at h;simp only[Sem.runT]at hr;have hh:∀T' d',(v.on T' d').heap=v.heap:=fun _ _=>rfl
  cases hb:v.heap[r0]? with
  |none=>
   rw[hb]at hr;simp only[Prod.mk.injEq]at hr;obtain⟨rfl,rfl⟩:=hr;refine⟨0,rfl,rfl,fun T' d' _=>?_⟩
   simp only[Sem.runT,SF,hh,hb];exact⟨rfl,nofun⟩
  |some o=>
   rw[hb]at hr;by_cases ho:∃c e f,o= .cells c e f
   ·obtain⟨c',e',f',rfl⟩:=ho
    simp only[Prod.mk.injEq]at hr;obtain⟨rfl,rfl⟩:=hr;refine⟨0,rfl,rfl,fun T' d' _=>?_⟩
    simp only[Sem.runT,SF,hh,hb];exact⟨rfl,fun o ho=>by cases ho;exact .inl ⟨_,_,_,rfl⟩⟩
   ·have dA:∀(T':Nat→Question→Nat) d',Sem.runT P (.getObj r0 c) (v.on T' d') es=Sem.runT P (c o) (v.on T' d') (es.push ⟨.obj r0,false,o.isChan⟩):=by
     intro T' d';simp only[Sem.runT,hh,hb]
     cases o<;>first|rfl|exact absurd ⟨_,_,_,rfl⟩ ho
    have fl:Sem.runT P (c o) v (es.push ⟨.obj r0,false,o.isChan⟩)=(r,aQ):=by
     cases o<;>first|exact hr|exact absurd ⟨_,_,_,rfl⟩ ho
    obtain⟨k,h1,h2,h3⟩:=ih _ ((h _ hb).resolve_left ho) fl;refine⟨k,h1,h2,fun T' d' hA=>⟨(dA T' d').trans (h3 T' d' hA).1,?_⟩⟩
    simp only[SF,hh,hb];intro o' pB
    cases pB;exact .inr (h3 T' d' hA).2
 |choose q c ih=>
  intro v es r aQ h hr;simp only[SF]at h;simp only[Sem.runT]at hr;by_cases hq:q.forced=true
  ·rw[if_pos hq]at hr h
   obtain⟨k,h1,h2,h3⟩:=ih 0 h hr;refine⟨k,h1,h2,fun T' d' hA=>?_⟩
   simp only[Sem.runT,SF];rw[if_pos hq,if_pos hq];exact h3 T' d' hA
  ·rw[if_neg hq]at hr h
   obtain⟨k,h1,h2,h3⟩:=ih _ h hr;refine⟨1+k,h1,by rw[h2];show v.drawn+1+k=_;omega,fun T' d' hA=>?_⟩
   have e0:T' d' q=v.tape v.drawn q:=by have:=hA 0 (by omega) q;simpa using this
   have:=h3 T' (d'+1) (hA.shift (l:=1))
   simp only[Sem.runT,SF];rw[if_neg hq,if_neg hq];have e1:({(v.on T' d')with drawn:=(v.on T' d').drawn+1}:World)=World.on {v with drawn:=v.drawn+1} T' (d'+1):=rfl
   have e2:(v.on T' d').tape (v.on T' d').drawn q=v.tape v.drawn q:=e0
   rw[e1,e2,show d'+(1+k)=d'+1+k by omega]
   exact this
 |program c ih=>
  intro v es r aQ h hr;obtain⟨k,h1,h2,h3⟩:=ih P h hr;exact⟨k,h1,h2,fun T' d' hA=>h3 T' d' hA⟩
 |mark m c ih=>
  intro v es r aQ h hr;obtain⟨k,h1,h2,h3⟩:=ih h hr;exact⟨k,h1,h2,fun T' d' hA=>h3 T' d' hA⟩
 |freeze a n c ih=>intro v es r aQ h;exact h.elim
 |setObj r0 o c ih=>intro v es r aQ h;exact h.elim
 |sys c k ih=>intro v es r aQ h;exact h.elim
end Go.Proofs.YtlhohdjniaebbaaGreat.Sr
