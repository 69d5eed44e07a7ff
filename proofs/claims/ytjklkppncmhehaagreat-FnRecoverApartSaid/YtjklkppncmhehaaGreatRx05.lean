/-
What is proved: one step of a goroutine, in two programs that differ in some functions' bodies, in memories alike up to names, is alike ('sim_step'). Conditions: those that the theorem states. one step of a goroutine, in two programs that differ in some functions' bodies, in memories alike up to names, is alike ('sim_step'). Conditions: those that the theorem states. a run of a program of the model ('Sem') hangs on no more of the tape than the answers that it takes. No condition. if a lone run comes to its stop on every tape, there is a well-founded tree of its steps over all tapes ('ends_of'). Conditions: those that the theorem states. a step of a goroutine that is related to another is plain ('fr_tame'); a panic that nobody recovers goes to the bottom of the tree ('unwinds'). Conditions: those that each theorem states.
-/
import Derived.Test.YtjklkppncmhehaaGreatRx04
set_option linter.unusedVariables false
set_option linter.unusedSimpArgs false
namespace Go.Proofs.YtjklkppncmhehaaGreat.Sr
open Go Go.Conc
section
variable {τ:TypeId}{P:Program}{F:Array Func}{spec:FuncId→Bool}{m:az}
inductive LR (m:az):List Value→List Value→Prop
 |nil:LR m [] []
 |cons {x y:Value} {us vs:List Value} (h:VR m x y) (k:LR m us vs):LR m (x::us) (y::vs)
theorem LR.mono {n:az}(h:az.le m n){us vs:List Value}(x:LR m us vs):LR n us vs:=by
 induction x with
 |nil=>exact .nil
 |cons a _ ih=>exact .cons (a.mono h) ih
theorem LR.arr {us vs:List Value}(h:LR m us vs):AR m us.toArray vs.toArray:=by
 induction h with
 |nil=>exact AR.nil
 | @cons x y us vs h k ih=>
   have:=(AR.one h).append ih
   simpa using this
theorem Cd {ι:Type}{f f':ι→Sem Value}(h:∀(n:az),az.le m n→∀x,aR τ P F VR n (f x) (f' x)):∀(l:List ι) {n:az},az.le m n→aR τ P F LR n (l.mapM f) (l.mapM f')
 |[],n,_=>by simp only[List.mapM_nil];exact sP .nil
 |a::l,n,hn=>by
  simp only[List.mapM_cons];exact(h n hn a).bind fun n2 x y h2 hx=>(Cd h l (az.le_trans hn h2)).bind fun n3 xs ys h3 fp=>sP (.cons (hx.mono h3) fp)
theorem jj (R:eX τ P)(fn:Func){us vs:Array Value}(h:AR m us vs):aR τ P F VR m (results fn us) (results fn vs):=by
 unfold results;rw[Array.mapM_eq_mapM_toList,Array.mapM_eq_mapM_toList];refine SR.bind (RA:=AR) ?_ fun n xs ys hn fp=>?_
 ·refine(Cd (fun n hn x=>?_) _ (az.le_refl m)).bind fun n xs ys hn fp=>sP fp.arr
  cases x with
  |tmp t=>exact sP ((h.mono hn).getD t .undef)
  |cell a t=>exact(tq R ((h.mono hn).getD a .undef)).bind fun n2 x y h2 hx=>qA t hx
 ·refine sP ?_
  by_cases h1:xs.size=1
  ·rw[dif_pos h1,dif_pos (by rw[←fp.1];exact h1)]
   exact fp.2 0 (by omega) (by rw[←fp.1];omega)
  ·rw[dif_neg h1,dif_neg (by rw[←fp.1];exact h1)]
   exact .tuple fp.1 fp.2
inductive Out (τ:TypeId) (P:Program) (F:Array Func) (spec:FuncId→Bool) (m:az) (e' e:List Frame) (f':Frame) (fs':List Frame) (v w:World):Goroutine→World→GStep→Prop
 |goes {n:az} {f1' f1:Frame} {fs1' fs1:List Frame} {v1 w1:World} {es:Array Event} (h:FR P spec n f1' f1∨(kE P F spec n f1' f1∧fs1'≠[])) (hs:lj P spec n fs1' fs1) (hw:WR n v1 w1) (hk:Kept m n v w v1 w1) (he:oT n v es):Out τ P F spec m e' e f' fs' v w (G f1' (fs1'++e')) v1 (.go (G f1 (fs1++e)) w1 es)
 |panics {x:Value} {v1:World} {s:GStep} (hp:Plain τ (.panic x)):Out τ P F spec m e' e f' fs' v w (G (f'.raise [{v:=x,recovered:=false}]) (fs'++e')) v1 s
theorem Out.bL {e' e:List Frame}{f':Frame}{fs':List Frame}{v w:World}{f1' f1:Frame}{eJ gs:List Frame}{sl sr:GStep}{g1:Goroutine}{v1:World}{aQ:Array Event}
  (h:FR P spec m f1' f1) (hs:lj P spec m eJ gs) (hw:WR m v w) (el:sl= .go (G f1' (eJ++e')) v #[]) (er:sr= .go (G f1 (gs++e)) w #[]) (bZ:sl= .go g1 v1 aQ):
  Out τ P F spec m e' e f' fs' v w g1 v1 sr:=by
 rw[el]at bZ;injection bZ with h1 h2 _
 subst h1 h2;rw[er];exact .goes (.inl h) hs hw (Kept.refl m v w) oT.none
theorem oT.of {n:az}{v:World}{us jR:List Event}{Q:Program}{fn:FuncId}(h:xd n us jR)(qF:∀e∈us,e.write=true→∀a,e.loc= .cell a→¬dV v a.block):oT n v (seen Q fn (#[]++jR.toArray)):=by
 intro e he;have dc:=mem_seen he;simp only[Array.empty_append,List.mem_toArray]at dc;clear he;induction h with
 |nil=>cases dc
 | @cons a b us jR fB _ ih=>
   rcases List.mem_cons.1 dc with rfl|dc
   ·exact⟨a,fB,qF a (by simp)⟩
   ·exact ih (fun e he=>qF e (by simp[he])) dc
theorem N4 (B:iC τ P F spec m.good){fn:FuncId}{bd tm:Array Value}{ops:Array Oper}{i:Nat}{rest:List Nat}{k:List Item}{o:Oper}{mn mn':Bool}{fs' fs e' e:List Frame}{v w:World}
  (fW:spec fn=false) (hg:m.good fn=true) (h:AR m bd tm) (ok:∀x∈(Item.inRegion ops (i::rest)::k),dv P m.good x=true) (hs:lj P spec m fs' fs) (hw:WR m v w)
  (ho:ops[i]?=some o) (Wv:Region.wanted o (yielded ops bd)=true) (Ug:Region.wanted o (yielded ops tm)=true) {g1:Goroutine} {v1:World} {aQ:Array Event}
  (bZ:stepG (Program.mk (Program.toTables P) F) mn' (G (aH fn bd (.inRegion ops (i::rest)::k) .run) (fs'++e')) v= .go g1 v1 aQ):
  Out τ P F spec m e' e (aH fn bd (.inRegion ops (i::rest)::k) .run) fs' v w g1 v1 (stepG P mn (G (aH fn tm (.inRegion ops (i::rest)::k) .run) (fs++e)) w):=by
 have QT:iB P m.good o.op=true:=by
  have:=ok _ (List.mem_cons_self ..)
  simp only[dv]at this;exact Array.all_eq_true_iff_forall_mem.1 this o (Array.mem_of_getElem? ho)
 have e1:stepG (Program.mk (Program.toTables P) F) mn' (G (aH fn bd (.inRegion ops (i::rest)::k) .run) (fs'++e')) v=stepG.apply (Program.mk (Program.toTables P) F) true (aH fn bd (.inRegion ops (i::rest)::k) .run) (fs'++e') none (execOp (Act.eval ⟨bd,[]⟩) o) v:=
  stepG_oper (b:=aH fn #[] [] .run) (a:=⟨bd,[]⟩) ho Wv
 have e2:stepG P mn (G (aH fn tm (.inRegion ops (i::rest)::k) .run) (fs++e)) w=stepG.apply P true (aH fn tm (.inRegion ops (i::rest)::k) .run) (fs++e) none (execOp (Act.eval ⟨tm,[]⟩) o) w:=
  stepG_oper (b:=aH fn #[] [] .run) (a:=⟨tm,[]⟩) ho Ug
 rw[e1]at bZ;rw[e2];have ll:=tv (F:=F) B.rt B.globals B.fns (h.oper B.bN) o QT fun f=>⟨rfl,rfl⟩
 have ht:∃ur l k',(aH fn bd (.inRegion ops (i::rest)::k) .run).todo= .inRegion ur l::k':=⟨_,_,_,rfl⟩
 have ht2:∃ur l k',(aH fn tm (.inRegion ops (i::rest)::k) .run).todo= .inRegion ur l::k':=⟨_,_,_,rfl⟩
 have uu:∀n:az,az.le m n→∀x∈(Item.inRegion ops rest::k),dv P n.good x=true:=by
  intro n hn x hx;rw[←hn.good];rcases List.mem_cons.1 hx with rfl|hx
  ·exact ok (.inRegion ops (i::rest)) (by simp)
  ·exact ok x (by simp[hx])
 have fin:∀(n:az) {x y:Value},az.le m n→VR n x y→FR P spec n ((aH fn bd (.inRegion ops (i::rest)::k) .run).finish x) ((aH fn tm (.inRegion ops (i::rest)::k) .run).finish y):=by
  intro n x y hn mo;have:∀(t:Array Value) (z:Value),(aH fn t (.inRegion ops (i::rest)::k) .run).finish z=aH fn (match(ops[i]?).bind (·.dst)with|some d=>t.setIfInBounds d z|none=>t) (.inRegion ops rest::k) .run:=fun t z=>rfl
  rw[this,this];refine .mk fn _ _ fW (hn.good▸hg) ?_ (uu n hn) (.inl rfl)
  cases(ops[i]?).bind (·.dst)with
  |none=>exact h.mono hn
  |some d=>exact(h.mono hn).set d mo
 cases hr:(execOp (Act.eval ⟨bd,[]⟩) o).runT (Program.mk (Program.toTables P) F) v #[]with
 |mk r Dm=>
  cases r with
  |halt h0 v2=>
   rcases FZ (ll.run_halt hw hr) hr with⟨x,rfl⟩|bY
   ·rw[jC rfl hr]at bZ
    injection bZ with h1 h2 _
    subst h1 h2;exact .panics (ll.run_halt hw hr)
   ·exact absurd bZ (bY _ _ _)
  |ok a v2=>
   obtain⟨n,b,w',us,jR,r1,r2,r3,r4,r5,r6⟩:=ll.run (fs:= #[]) hw hr;obtain⟨Ko,w1,w2,w3⟩:=ll.writes hw hr;have vT:us=Ko:=by
    have:=r2.symm.trans w1
    simpa using this
   subst vT;have F2:oT n v (seen P fn (#[]++jR.toArray)):=oT.of r3 w2
   cases r4 with
   |value mo=>
    rw[jA rfl hr]at bZ;rw[jA rfl r1];injection bZ with h1 h2 _
    subst h1 h2;exact .goes (.inl (fin n r6.le mo)) (hs.mono r6.le) r5 r6 F2
   |skip=>
    rw[kR rfl hr]at bZ;rw[kR rfl r1];injection bZ with h1 h2 _
    subst h1 h2;exact .goes (.inl (fin n r6.le .undef)) (hs.mono r6.le) r5 r6 F2
   |enter f hf ha yU=>
    rw[jB rfl ht hr]at bZ;rw[jB rfl ht2 r1];injection bZ with h1 h2 _
    subst h1 h2;have sg:lj P spec n (aH fn bd (.inRegion ops (i::rest)::k) .run::fs') (aH fn tm (.inRegion ops (i::rest)::k) .run::fs):=
     .cons (.mk fn _ _ fW (r6.le.good▸hg) (h.mono r6.le) (fun x hx=>by rw[←r6.le.good];exact ok x hx) (.inl rfl)) rfl (hs.mono r6.le)
    refine .goes (fs1':=_::fs') (fs1:=_::fs) ?_ sg r5 r6 F2
    cases QU:spec f with
    |true=>exact .inr ⟨.mk f QU ha yU,by simp⟩
    |false=>
     obtain⟨fr,e1,e2,e3⟩:=B.same f (by rw[r6.le.good];exact hf) QU
     have en:∀(Q:Program) (xs:Array Value),Q.funcs[f]?=some fr→Frame.enter Q f xs .normal=aH f (xs++Array.replicate (fr.ntmps-xs.size) undef) [.code (fr.body.getD (.refuse "unsupported: a function without a Go body is entered"))] .run:=by
      intro Q xs hq;simp[Frame.enter,hq,aH]
     rw[en _ _ e1,en _ _ e2];refine .inl (.mk f _ _ QU hf ?_ (fun x hx=>?_) (.inl rfl))
     ·rw[ha.1]
      exact ha.append ⟨rfl,fun i h1 h2=>by simp only[Array.getElem_replicate];exact .undef⟩
     ·rcases List.mem_singleton.1 hx with rfl
      unfold nn at e3
      cases hb:fr.body with
      |none=>rw[hb]at e3;cases e3
      |some c=>rw[hb]at e3;simpa[dv,←r6.le.good]using e3
end
end Go.Proofs.YtjklkppncmhehaaGreat.Sr
namespace Go.Proofs.YtjklkppncmhehaaGreat.Sr
open Go Go.Conc
section
variable {τ:TypeId}{P:Program}{F:Array Func}{spec:FuncId→Bool}{m:az}
theorem sF {fn:FuncId}{t:Array Value}{todo:List Item}{x:Value}(h:∀i∈todo,dv P m.good i=true)(hn:∀ops i rest k,todo≠.inRegion ops (i::rest)::k):(aH fn t todo .run).finish x=aH fn t todo .run:=by
 cases todo with
 |nil=>rfl
 |cons i k=>
  have h0:=h i (by simp)
  cases i with
  |inRegion ops l=>
   cases l with
   |nil=>rfl
   |cons j rest=>exact absurd rfl (hn _ _ _ _)
  |code c=>rfl
  |inBlock id=>rfl
  |inLoop b=>rfl
  |_=>simp[dv]at h0
theorem FR.finish {n:az}{c' c:Frame}(h:FR P spec m c' c)(hr:c'.mode= .run){x y:Value}(hn:az.le m n)(mo:VR n x y):FR P spec n (c'.finish x) (c.finish y):=by
 cases h with
 | @mk fn bd tm todo mode hs hg ha ok hm=>
   cases hr;by_cases hq:∃ops i rest k,todo= .inRegion ops (i::rest)::k
   ·obtain⟨ops,i,rest,k,rfl⟩:=hq
    have:∀(t:Array Value) (z:Value),(aH fn t (.inRegion ops (i::rest)::k) .run).finish z=aH fn (match(ops[i]?).bind (·.dst)with|some d=>t.setIfInBounds d z|none=>t) (.inRegion ops rest::k) .run:=fun t z=>rfl
    have e0:(aH fn bd (.inRegion ops (i::rest)::k) FrameMode.run).mode= .run:=rfl
    show FR P spec n ((aH fn bd (.inRegion ops (i::rest)::k) .run).finish x) ((aH fn tm (.inRegion ops (i::rest)::k) .run).finish y)
    rw[this,this];refine .mk fn _ _ hs (hn.good▸hg) ?_ (fun z hz=>?_) (.inl rfl)
    ·cases(ops[i]?).bind (·.dst)with
     |none=>exact ha.mono hn
     |some d=>exact(ha.mono hn).set d mo
    ·rw[←hn.good]
     rcases List.mem_cons.1 hz with rfl|hz
     ·exact ok (.inRegion ops (i::rest)) (by simp)
     ·exact ok z (by simp[hz])
   ·have Uh:∀ops i rest k,todo≠.inRegion ops (i::rest)::k:=fun ops i rest k e=>hq ⟨ops,i,rest,k,e⟩
    show FR P spec n ((aH fn bd todo .run).finish x) ((aH fn tm todo .run).finish y)
    rw[sF ok Uh,sF ok Uh];exact FR.mono hn (.mk fn todo .run hs hg ha ok (.inl rfl))
theorem np {Q:Program}{mn:Bool}{fn:FuncId}{fr:Func}{t:Array Value}{todo:List Item}{c:Frame}{cs:List Frame}{w w1:World}{x:Value}{es:Array Event}(hf:Q.funcs[fn]?=some fr)(h:(results fr t).runT Q w #[]=(.ok x w1,es)):
  stepG Q mn (G (aH fn t todo .returning) (c::cs)) w= .go (G (c.finish x) cs) w1 (seen Q fn es):=by
 simp only[G,aH,stepG,unwind,hf,h,doReturn,GStep.after,Array.append_empty]
theorem vU {Q:Program}{mn:Bool}{fn:FuncId}{fr:Func}{t:Array Value}{todo:List Item}{cs:List Frame}{w w1:World}{h0:Halt}{es:Array Event}(hf:Q.funcs[fn]?=some fr)(h:(results fr t).runT Q w #[]=(.halt h0 w1,es)):
  ∀g v e,stepG Q mn (G (aH fn t todo .returning) cs) w≠.go g v e:=by
 intro g v e
 cases h0<;>simp only[G,aH,stepG,unwind,hf,h,GStep.after]<;>exact nofun
theorem F3 {us vs:Array Value}(h:AR m us vs)(ops:Array Oper):yielded ops us=yielded ops vs:=by
 funext j
 unfold yielded
 cases(ops[j]?).bind (·.dst)with
 |none=>rfl
 |some d=>
  simp only[Option.bind_some];rcases h.get? d with⟨h1,h2⟩|⟨x,y,h1,h2,h3⟩
  ·rw[h1,h2]
  ·rw[h1,h2]
   cases h3 with
   |gF y hy hn=>cases y<;>first|rfl|exact absurd rfl (hn.2 _)
   |_=>rfl
theorem N5 (B:iC τ P F spec m.good){f' f:Frame}{mn mn':Bool}{fs' fs e' e:List Frame}{v w:World}(h:FR P spec m f' f)(hs:lj P spec m fs' fs)(hw:WR m v w)
  (hl:¬(f'.mode= .returning∧fs'=[])) {g1:Goroutine} {v1:World} {aQ:Array Event} (bZ:stepG (Program.mk (Program.toTables P) F) mn' (G f' (fs'++e')) v= .go g1 v1 aQ):
  Out τ P F spec m e' e f' fs' v w g1 v1 (stepG P mn (G f (fs++e)) w):=by
 cases h with
 | @mk fn bd tm todo mode fW hg ha ok hm=>
   rcases hm with rfl|rfl
   ·cases todo with
    |nil=>
     exact .bL (f1':=aH fn bd [] .returning) (f1:=aH fn tm [] .returning) (.mk fn [] .returning fW hg ha ok (.inr rfl)) hs hw (stepG_end (b:=aH fn #[] [] .run) (a:=⟨bd,[]⟩)) (stepG_end (b:=aH fn #[] [] .run) (a:=⟨tm,[]⟩)) bZ
    |cons i k=>
     have uu:∀x∈k,dv P m.good x=true:=fun x hx=>ok x (by simp[hx])
     have kT:=ok i (by simp)
     have cons:∀{x:Item} {l:List Item},dv P m.good x=true→(∀y∈l,dv P m.good y=true)→∀y∈x::l,dv P m.good y=true:=by
      intro x l h1 h2 y hy;rcases List.mem_cons.1 hy with rfl|hy
      ·exact h1
      ·exact h2 y hy
     cases i with
     |code c=>
      cases c with
      |skip=>exact .bL (f1':=aH fn bd k .run) (f1:=aH fn tm k .run) (.mk fn k .run fW hg ha uu (.inl rfl)) hs hw (stepG_skip (b:=aH fn #[] [] .run) (a:=⟨bd,[]⟩)) (stepG_skip (b:=aH fn #[] [] .run) (a:=⟨tm,[]⟩)) bZ
      |label l=>exact .bL (f1':=aH fn bd k .run) (f1:=aH fn tm k .run) (.mk fn k .run fW hg ha uu (.inl rfl)) hs hw (stepG_label (b:=aH fn #[] [] .run) (a:=⟨bd,[]⟩)) (stepG_label (b:=aH fn #[] [] .run) (a:=⟨tm,[]⟩)) bZ
      |ret=>
       refine .bL (f1':=aH fn bd (.code .ret::k) .returning) (f1:=aH fn tm (.code .ret::k) .returning) (.mk fn _ .returning fW hg ha ok (.inr rfl)) hs hw ?_ ?_ bZ
       ·simp[G,aH,stepG,stepG.exec]
       ·simp[G,aH,stepG,stepG.exec]
      |exit id=>
       have el:∀(Q:Program) (b:Bool) (t:Array Value) (cs:List Frame) (z:World),exitTo id k=none→∀g v e,stepG Q b (G (aH fn t (.code (.exit id)::k) .run) cs) z≠.go g v e:=by
        intro Q b t cs z he g v e;simp only[G,aH,stepG,stepG.exec,he,Option.elim_none];exact nofun
       cases hx:exitTo id k with
       |none=>exact absurd bZ (el _ _ _ _ _ hx _ _ _)
       |some k'=>exact .bL (f1':=aH fn bd k' .run) (f1:=aH fn tm k' .run) (.mk fn k' .run fW hg ha (tw hx uu) (.inl rfl)) hs hw (stepG_exit (b:=aH fn #[] [] .run) (a:=⟨bd,[]⟩) hx) (stepG_exit (b:=aH fn #[] [] .run) (a:=⟨tm,[]⟩) hx) bZ
      |seq x y=>
       simp only[dv,gG,Bool.and_eq_true]at kT;exact .bL (f1':=aH fn bd (.code x:: .code y::k) .run) (f1:=aH fn tm (.code x:: .code y::k) .run) (.mk fn _ .run fW hg ha (cons kT.1 (cons kT.2 uu)) (.inl rfl)) hs hw (stepG_seq (b:=aH fn #[] [] .run) (a:=⟨bd,[]⟩)) (stepG_seq (b:=aH fn #[] [] .run) (a:=⟨tm,[]⟩)) bZ
      |block id x=>
       exact .bL (f1':=aH fn bd (.code x:: .inBlock id::k) .run) (f1:=aH fn tm (.code x:: .inBlock id::k) .run) (.mk fn _ .run fW hg ha (cons kT (cons rfl uu)) (.inl rfl)) hs hw (stepG_block (b:=aH fn #[] [] .run) (a:=⟨bd,[]⟩)) (stepG_block (b:=aH fn #[] [] .run) (a:=⟨tm,[]⟩)) bZ
      |loop x=>
       exact .bL (f1':=aH fn bd (.code x:: .inLoop x::k) .run) (f1:=aH fn tm (.code x:: .inLoop x::k) .run) (.mk fn _ .run fW hg ha (cons kT (cons kT uu)) (.inl rfl)) hs hw (stepG_loop (b:=aH fn #[] [] .run) (a:=⟨bd,[]⟩)) (stepG_loop (b:=aH fn #[] [] .run) (a:=⟨tm,[]⟩)) bZ
      |cond c x y=>
       simp only[dv,gG,Bool.and_eq_true]at kT;have hc:=ha.oper B.bN c kT.1.1;have key:∀b:Bool,Act.eval ⟨bd,[]⟩ c= .bool b→Act.eval ⟨tm,[]⟩ c= .bool b→Out τ P F spec m e' e (aH fn bd (.code (.cond c x y)::k) .run) fs' v w g1 v1 (stepG P mn (G (aH fn tm (.code (.cond c x y)::k) .run) (fs++e)) w):=by
        intro b h1 h2;refine .bL (f1':=aH fn bd (.code (if b then x else y)::k) .run) (f1:=aH fn tm (.code (if b then x else y)::k) .run) (.mk fn _ .run fW hg ha (cons ?_ uu) (.inl rfl)) hs hw (stepG_cond (b:=aH fn #[] [] .run) (a:=⟨bd,[]⟩) h1) (stepG_cond (b:=aH fn #[] [] .run) (a:=⟨tm,[]⟩) h2) bZ
        cases b
        ·exact kT.2
        ·exact kT.1.2
       have no:(∀b,Act.eval ⟨bd,[]⟩ c≠.bool b)→False:=by
        intro hb;have he:(Frame.mk fn bd (.code (.cond c x y)::k) [] .run .normal none).eval c=Act.eval ⟨bd,[]⟩ c:=by cases c<;>rfl
        revert bZ
        simp only[G,aH,stepG,stepG.exec,he]
        cases hv:Act.eval ⟨bd,[]⟩ c with
        |bool b=>exact absurd hv (hb b)
        |_=>exact nofun
       cases h1:Act.eval ⟨bd,[]⟩ c with
       |bool b=>
        rw[h1]at hc
        cases h2:Act.eval ⟨tm,[]⟩ c with
        |bool b2=>rw[h2]at hc;cases hc;exact key _ h1 h2
        |_=>rw[h2]at hc;cases hc
       |_=>exact(no fun b hb=>by rw[h1]at hb;cases hb).elim
      |region id ops draw=>
       cases draw with
       |false=>exact .bL (f1':=aH fn bd (.inRegion ops (List.range ops.size)::k) .run) (f1:=aH fn tm (.inRegion ops (List.range ops.size)::k) .run) (.mk fn _ .run fW hg ha (cons kT uu) (.inl rfl)) hs hw (stepG_region (b:=aH fn #[] [] .run) (a:=⟨bd,[]⟩)) (stepG_region (b:=aH fn #[] [] .run) (a:=⟨tm,[]⟩)) bZ
       |true=>
        have ed:∀(Q:Program) (b:Bool) (t:Array Value) (cs:List Frame) (z:World),stepG Q b (G (aH fn t (.code (.region id ops true)::k) .run) cs) z=
          .go (G (aH fn t (.inRegion ops (Region.schedule (Q.follows .mixedOrders) ops (z.tape z.drawn (.order fn id)))::k) .run) cs) {z with drawn:=z.drawn+1} #[]:=by
         intro Q b t cs z;simp[G,aH,stepG,stepG.exec,choose,Sem.run,Question.forced,Question.cut]
        rw[ed]at bZ;rw[ed];injection bZ with h1 h2 _
        subst h1 h2;rw[hw.tape,hw.drawn];have hfo:Tables.follows (Program.mk (Program.toTables P) F).toTables .mixedOrders=Tables.follows P.toTables .mixedOrders:=rfl
        rw[hfo];refine .goes (n:=m) (.inl (.mk fn _ .run fW hg ha (cons kT uu) (.inl rfl))) hs ⟨hw.inj,hw.kM,hw.os,rfl,rfl⟩ ⟨az.le_refl m,Nat.le_refl _,Nat.le_refl _,fun _ _=>rfl,fun _ _ _=>rfl,fun _ _ h=> .inl h,Nat.le_succ _,rfl,rfl,hw.tape.symm⟩ oT.none
      |_=>simp[dv,gG]at kT
     |inBlock id=>exact .bL (f1':=aH fn bd k .run) (f1:=aH fn tm k .run) (.mk fn k .run fW hg ha uu (.inl rfl)) hs hw (stepG_inBlock (b:=aH fn #[] [] .run) (a:=⟨bd,[]⟩)) (stepG_inBlock (b:=aH fn #[] [] .run) (a:=⟨tm,[]⟩)) bZ
     |inLoop x=>exact .bL (f1':=aH fn bd (.code x:: .inLoop x::k) .run) (f1:=aH fn tm (.code x:: .inLoop x::k) .run) (.mk fn _ .run fW hg ha (cons kT (cons kT uu)) (.inl rfl)) hs hw (stepG_inLoop (b:=aH fn #[] [] .run) (a:=⟨bd,[]⟩)) (stepG_inLoop (b:=aH fn #[] [] .run) (a:=⟨tm,[]⟩)) bZ
     |inRegion ops l=>
      cases l with
      |nil=>exact .bL (f1':=aH fn bd k .run) (f1:=aH fn tm k .run) (.mk fn k .run fW hg ha uu (.inl rfl)) hs hw (stepG_region_end (b:=aH fn #[] [] .run) (a:=⟨bd,[]⟩)) (stepG_region_end (b:=aH fn #[] [] .run) (a:=⟨tm,[]⟩)) bZ
      |cons j rest=>
       have hy:=F3 ha ops;have skip:((ops[j]?).map (Region.wanted · (yielded ops bd))).getD false=false→Out τ P F spec m e' e (aH fn bd (.inRegion ops (j::rest)::k) .run) fs' v w g1 v1 (stepG P mn (G (aH fn tm (.inRegion ops (j::rest)::k) .run) (fs++e)) w):=by
        intro hn;have es:∀(Q:Program) (b:Bool) (t:Array Value) (cs:List Frame) (z:World),yielded ops t=yielded ops bd→stepG Q b (G (aH fn t (.inRegion ops (j::rest)::k) .run) cs) z= .go (G ((aH fn t (.inRegion ops (j::rest)::k) .run).finish undef) cs) z #[]:=by
         intro Q b t cs z ht;have vV:((ops[j]?).map (Region.wanted · (yielded ops t))).getD false=false:=by rw[ht];exact hn
         simp only[G,aH,stepG,stepG.exec];exact if_neg (by rw[vV];simp)
        exact .bL ((FR.mk fn _ .run fW hg ha ok (.inl rfl)).finish rfl (az.le_refl m) .undef) hs hw (es _ _ _ _ _ rfl) (es _ _ _ _ _ hy.symm) bZ
       cases ho:ops[j]? with
       |none=>exact skip (by rw[ho];rfl)
       |some o=>
        cases qy:Region.wanted o (yielded ops bd)with
        |false=>exact skip (by rw[ho];exact qy)
        |true=>exact N4 B fW hg ha ok hs hw ho qy (by rw[←hy];exact qy) bZ
     |_=>simp[dv]at kT
   ·cases hs with
    |nil=>exact absurd ⟨rfl,rfl⟩ hl
    | @cons c' c eJ gs hc QV fD=>
      obtain⟨fr,e1,e2,e3⟩:=B.same fn hg fW;have ll:=jj (F:=F) (m:=m) B.rt fr ha
      cases hr:(results fr bd).runT (Program.mk (Program.toTables P) F) v #[]with
      |mk r Dm=>
       cases r with
       |halt h0 v2=>exact absurd bZ (vU e1 hr _ _ _)
       |ok a v2=>
        obtain⟨n,b,w',us,jR,r1,r2,r3,r4,r5,r6⟩:=ll.run (fs:= #[]) hw hr;obtain⟨Ko,w1,w2,w3⟩:=ll.writes hw hr;have vT:us=Ko:=by
         have:=r2.symm.trans w1
         simpa using this
        subst vT;rw[List.cons_append,np e1 hr]at bZ;rw[List.cons_append,np e2 r1];injection bZ with h1 h2 _
        subst h1 h2;exact .goes (.inl (hc.finish QV r6.le r4)) (fD.mono r6.le) r5 r6 (oT.of r3 w2)
end
end Go.Proofs.YtjklkppncmhehaaGreat.Sr
namespace Go
def World.on (v:World)(T:Nat→Question→Nat)(d:Nat):World:={v with tape:=T,drawn:=d}
def Result.wd {α:Type}:Result α→World
 | .ok _ w=>w
 | .halt _ w=>w
def Result.on {α:Type}(T:Nat→Question→Nat)(d:Nat):Result α→Result α
 | .ok a w=> .ok a (w.on T d)
 | .halt h w=> .halt h (w.on T d)
end Go
namespace Go.Proofs.YtjklkppncmhehaaGreat.Sr
open Go Go.Conc
@[simp] theorem aaA (v:World) (T T':Nat→Question→Nat) (d d':Nat):(v.on T d).on T' d'=v.on T' d':=rfl
@[simp] theorem Yu (v:World):v.on v.tape v.drawn=v:=rfl
def ln (T:Nat→Question→Nat)(d:Nat)(T':Nat→Question→Nat)(d' k:Nat):Prop:=∀j,j<k→∀q,T' (d'+j) q=T (d+j) q
theorem ln.le {T T':Nat→Question→Nat}{d d' k l:Nat}(h:ln T d T' d' k)(hl:l≤k):ln T d T' d' l:=fun j hj=>h j (by omega)
theorem ln.shift {T T':Nat→Question→Nat}{d d' k l:Nat}(h:ln T d T' d' (l+k)):ln T (d+l) T' (d'+l) k:=fun j hj q=>by
 have:=h (l+j) (by omega) q
 simpa[Nat.add_assoc]using this
def SF (P:Program){α:Type}:Sem α→World→Prop
 | .pure _,_| .halt _,_=>True
 | .load _ a k,w=>match w.cell? a with
   |some x=>SF P (k x) w
   |none=>∀r u,w.heap[a.block]?≠some (.view r u)
 | .store _ a x k,w=>(∃cs,x= .agg cs∨x= .tuple cs)∨match w.cell? a with
   |some _=>w.frozen? a=true∨SF P k (w.setCell a x)
   |none=>∀r u,w.heap[a.block]?≠some (.view r u)
 | .new o k,w=>SF P (k w.heap.size) {w with heap:=w.heap.push o}
 | .shape r k,w=>SF P (k (w.shape? r)) w
 | .frozen a k,w=>SF P (k (w.frozen? a)) w
 | .getObj r k,w=>∀o,w.heap[r]?=some o→(∃c e f,o= .cells c e f)∨SF P (k o) w
 | .choose q k,w=>if q.forced then SF P (k 0) w else SF P (k (q.cut (w.tape w.drawn q))) {w with drawn:=w.drawn+1}
 | .program k,w=>SF P (k P) w
 | .mark _ k,w=>SF P k w
 |_,_=>False
theorem SF.on {P:Program}{α:Type}{s:Sem α}:∀{v:World} {es:Array Event} {r:Result α} {aQ:Array Event},SF P s v→s.runT P v es=(r,aQ)→
  ∃k,r.wd.tape=v.tape∧r.wd.drawn=v.drawn+k∧∀T' d',ln v.tape v.drawn T' d' k→s.runT P (v.on T' d') es=(r.on T' (d'+k),aQ)∧SF P s (v.on T' d'):=by
 induction s with
 |pure a=>
  intro v es r aQ h hr;simp only[Sem.runT,Prod.mk.injEq]at hr;obtain⟨rfl,rfl⟩:=hr;exact⟨0,rfl,rfl,fun T' d' _=>⟨rfl,trivial⟩⟩
 |halt h0=>
  intro v es r aQ h hr;simp only[Sem.runT,Prod.mk.injEq]at hr;obtain⟨rfl,rfl⟩:=hr;exact⟨0,rfl,rfl,fun T' d' _=>⟨rfl,trivial⟩⟩
 |load md a c ih=>
  intro v es r aQ h hr;simp only[SF]at h;simp only[Sem.runT]at hr
  cases hv:v.cell? a with
  |some x=>
   rw[hv]at hr h;obtain⟨k,h1,h2,h3⟩:=ih x h hr;refine⟨k,h1,h2,fun T' d' hA=>?_⟩
   have gZ:(v.on T' d').cell? a=some x:=hv
   simp only[Sem.runT,SF,gZ];exact h3 T' d' hA
  |none=>
   rw[hv]at hr h;have hf:∃e,v.farLoad P a (md== .atomic)= .error e:=by
    unfold World.farLoad
    cases hb:v.heap[a.block]? with
    |none=>exact⟨_,rfl⟩
    |some o=>cases o<;>first|exact⟨_,rfl⟩|exact absurd hb (h _ _)
   obtain⟨e,he⟩:=hf;rw[he]at hr;simp only[Prod.mk.injEq]at hr;obtain⟨rfl,rfl⟩:=hr;refine⟨0,rfl,rfl,fun T' d' _=>?_⟩
   have gZ:(v.on T' d').cell? a=none:=hv
   have dc:(v.on T' d').farLoad P a (md== .atomic)= .error e:=he
   simp only[Sem.runT,SF,gZ,dc];exact⟨rfl,h⟩
 |store md a x c ih=>
  intro v es r aQ h hr;simp only[SF]at h;by_cases qx:(∀cs,x≠.agg cs)∧(∀cs,x≠.tuple cs)
  ·replace h:=h.resolve_left (fun⟨cs,e⟩=>e.elim (qx.1 cs) (qx.2 cs))
   have e1:∀(q:World) (gs:Array Event),Sem.runT P (.store md a x c) q gs=match q.cell? a with
     |some _=>if q.frozen? a then(.halt (.unsupported (.unsafePointer "a write to bytes that a string shares")) q,gs)else c.runT P (q.setCell a x) (gs.push ⟨.cell a,true,md== .atomic⟩)
     |none=>match q.farStore P a x (md== .atomic)with
      | .ok (q,gV)=>c.runT P q (gs++gV.toArray.map (⟨.cell ·,true,md== .atomic⟩))
      | .error h=>(.halt h q,gs):=by
    intro q gs
    cases x<;>first|rfl|exact absurd rfl (qx.1 _)|exact absurd rfl (qx.2 _)
   rw[e1]at hr
   cases hv:v.cell? a with
   |some u=>
    rw[hv]at hr h;simp only at hr h
    split at hr
    ·rename_i mu
     simp only[Prod.mk.injEq]at hr;obtain⟨rfl,rfl⟩:=hr;refine⟨0,rfl,rfl,fun T' d' _=>?_⟩
     have gZ:(v.on T' d').cell? a=some u:=hv
     have MY:(v.on T' d').frozen? a=true:=mu
     rw[e1,gZ];simp only[SF,gZ];rw[if_pos MY];exact⟨rfl,.inr (.inl MY)⟩
    ·rename_i mu
     obtain⟨k,h1,h2,h3⟩:=ih (h.resolve_left mu) hr;refine⟨k,h1,h2,fun T' d' hA=>?_⟩
     have gZ:(v.on T' d').cell? a=some u:=hv
     have MY:¬(v.on T' d').frozen? a=true:=mu
     rw[e1,gZ];simp only[SF,gZ];rw[if_neg MY];exact⟨(h3 T' d' hA).1,.inr (.inr (h3 T' d' hA).2)⟩
   |none=>
    rw[hv]at hr h;have hf:∃e,v.farStore P a x (md== .atomic)= .error e:=by
     unfold World.farStore
     cases hb:v.heap[a.block]? with
     |none=>exact⟨_,rfl⟩
     |some o=>cases o<;>first|exact⟨_,rfl⟩|exact absurd hb (h _ _)
    obtain⟨e,he⟩:=hf;rw[he]at hr;simp only[Prod.mk.injEq]at hr;obtain⟨rfl,rfl⟩:=hr;refine⟨0,rfl,rfl,fun T' d' _=>?_⟩
    have gZ:(v.on T' d').cell? a=none:=hv
    have dc:(v.on T' d').farStore P a x (md== .atomic)= .error e:=by
     unfold World.farStore at he⊢;have e:(v.on T' d').heap=v.heap:=rfl
     rw[e]
     cases hb:v.heap[a.block]? with
     |none=>rw[hb]at he;exact he
     |some o=>rw[hb]at he;cases o<;>first|exact he|exact absurd hb (h _ _)
    rw[e1,gZ,dc];simp only[SF,gZ];exact⟨rfl,.inr h⟩
  ·have hx:∃cs,x= .agg cs∨x= .tuple cs:=by
    cases x with
    |agg cs=>exact⟨cs,.inl rfl⟩
    |tuple cs=>exact⟨cs,.inr rfl⟩
    |_=>exact absurd ⟨by simp,by simp⟩ qx
   obtain⟨cs,jw⟩:=hx;rcases jw with rfl|rfl<;>
   ·simp only[Sem.runT,Prod.mk.injEq]at hr
    obtain⟨rfl,rfl⟩:=hr;exact⟨0,rfl,rfl,fun T' d' _=>⟨rfl,.inl ⟨cs,by simp⟩⟩⟩
 |new o c ih=>
  intro v es r aQ h hr;obtain⟨k,h1,h2,h3⟩:=ih v.heap.size h hr;exact⟨k,h1,h2,fun T' d' hA=>h3 T' d' hA⟩
 |shape r0 c ih=>
  intro v es r aQ h hr;obtain⟨k,h1,h2,h3⟩:=ih _ h hr;exact⟨k,h1,h2,fun T' d' hA=>h3 T' d' hA⟩
 |frozen a c ih=>
  intro v es r aQ h hr;obtain⟨k,h1,h2,h3⟩:=ih _ h hr;exact⟨k,h1,h2,fun T' d' hA=>h3 T' d' hA⟩
 |getObj r0 c ih=>
  intro v es r aQ h hr;simp only[SF]at h;simp only[Sem.runT]at hr;have hh:∀T' d',(v.on T' d').heap=v.heap:=fun _ _=>rfl
  cases hb:v.heap[r0]? with
  |none=>
   rw[hb]at hr;simp only[Prod.mk.injEq]at hr;obtain⟨rfl,rfl⟩:=hr;refine⟨0,rfl,rfl,fun T' d' _=>?_⟩
   simp only[Sem.runT,SF,hh,hb];exact⟨rfl,nofun⟩
  |some o=>
   rw[hb]at hr;by_cases ho:∃c e f,o= .cells c e f
   ·obtain⟨c',e',f',rfl⟩:=ho
    simp only[Prod.mk.injEq]at hr;obtain⟨rfl,rfl⟩:=hr;refine⟨0,rfl,rfl,fun T' d' _=>?_⟩
    simp only[Sem.runT,SF,hh,hb];exact⟨rfl,fun o ho=>by cases ho;exact .inl ⟨_,_,_,rfl⟩⟩
   ·have iD:∀(T':Nat→Question→Nat) d',Sem.runT P (.getObj r0 c) (v.on T' d') es=Sem.runT P (c o) (v.on T' d') (es.push ⟨.obj r0,false,o.isChan⟩):=by
     intro T' d';simp only[Sem.runT,hh,hb]
     cases o<;>first|rfl|exact absurd ⟨_,_,_,rfl⟩ ho
    have eH:Sem.runT P (c o) v (es.push ⟨.obj r0,false,o.isChan⟩)=(r,aQ):=by
     cases o<;>first|exact hr|exact absurd ⟨_,_,_,rfl⟩ ho
    obtain⟨k,h1,h2,h3⟩:=ih _ ((h _ hb).resolve_left ho) eH;refine⟨k,h1,h2,fun T' d' hA=>⟨(iD T' d').trans (h3 T' d' hA).1,?_⟩⟩
    simp only[SF,hh,hb];intro o' qm
    cases qm;exact .inr (h3 T' d' hA).2
 |choose q c ih=>
  intro v es r aQ h hr;simp only[SF]at h;simp only[Sem.runT]at hr;by_cases hq:q.forced=true
  ·rw[if_pos hq]at hr h
   obtain⟨k,h1,h2,h3⟩:=ih 0 h hr;refine⟨k,h1,h2,fun T' d' hA=>?_⟩
   simp only[Sem.runT,SF];rw[if_pos hq,if_pos hq];exact h3 T' d' hA
  ·rw[if_neg hq]at hr h
   obtain⟨k,h1,h2,h3⟩:=ih _ h hr;refine⟨1+k,h1,by rw[h2];show v.drawn+1+k=_;omega,fun T' d' hA=>?_⟩
   have e0:T' d' q=v.tape v.drawn q:=by have:=hA 0 (by omega) q;simpa using this
   have:=h3 T' (d'+1) (hA.shift (l:=1))
   simp only[Sem.runT,SF];rw[if_neg hq,if_neg hq];have e1:({(v.on T' d')with drawn:=(v.on T' d').drawn+1}:World)=World.on {v with drawn:=v.drawn+1} T' (d'+1):=rfl
   have e2:(v.on T' d').tape (v.on T' d').drawn q=v.tape v.drawn q:=e0
   rw[e1,e2,show d'+(1+k)=d'+1+k by omega]
   exact this
 |program c ih=>
  intro v es r aQ h hr;obtain⟨k,h1,h2,h3⟩:=ih P h hr;exact⟨k,h1,h2,fun T' d' hA=>h3 T' d' hA⟩
 |mark m c ih=>
  intro v es r aQ h hr;obtain⟨k,h1,h2,h3⟩:=ih h hr;exact⟨k,h1,h2,fun T' d' hA=>h3 T' d' hA⟩
 |freeze a n c ih=>intro v es r aQ h;exact h.elim
 |setObj r0 o c ih=>intro v es r aQ h;exact h.elim
 |sys c k ih=>intro v es r aQ h;exact h.elim
end Go.Proofs.YtjklkppncmhehaaGreat.Sr
namespace Go.Proofs.YtjklkppncmhehaaGreat.Sr
open Go Go.Conc
def QW:Result Next→Prop
 | .ok (.value _) _| .ok .skip _| .ok (.enter ..) _| .halt (.panic _) _| .halt (.stuck _) _=>True
 | .halt (.unsupported u) _=>∀g,u≠.initOrder g
 |_=>False
inductive jk (Q:Program):Frame→List Frame→World→Prop
 |bL {fr fr1:Frame} {cs cs1:List Frame} {v:World} (h:∀w,stepG Q true (G fr cs) w= .go (G fr1 cs1) w #[]):jk Q fr cs v
 |dead {fr:Frame} {cs:List Frame} {v:World} (h:∀w,∃o w' es,stepG Q true (G fr cs) w= .ended o w' es):jk Q fr cs v
 |draw (fn:FuncId) (tm:Array Value) (id:Nat) (ops:Array Oper) (k:List Item) {cs:List Frame} {v:World}:jk Q (aH fn tm (.code (.region id ops true)::k) .run) cs v
 |op {fn:FuncId} {tm:Array Value} {ops:Array Oper} {i:Nat} {rest:List Nat} {k:List Item} {o:Oper} {cs:List Frame} {v:World} (ho:ops[i]?=some o) (hw:Region.wanted o (yielded ops tm)=true)
   (hs:SF Q (execOp (Act.eval ⟨tm,[]⟩) o) v) (hr:QW ((execOp (Act.eval ⟨tm,[]⟩) o).runT Q v #[]).1):jk Q (aH fn tm (.inRegion ops (i::rest)::k) .run) cs v
 |ret {fn:FuncId} {tm:Array Value} {todo:List Item} {fr:Func} {c:Frame} {cs:List Frame} {v:World} (hf:Q.funcs[fn]?=some fr) (hs:SF Q (results fr tm) v):jk Q (aH fn tm todo .returning) (c::cs) v
section
variable {Q:Program}
theorem lU (b:Bool)(fn:FuncId)(t:Array Value)(id:Nat)(ops:Array Oper)(k:List Item)(cs:List Frame)(z:World):stepG Q b (G (aH fn t (.code (.region id ops true)::k) .run) cs) z=
  .go (G (aH fn t (.inRegion ops (Region.schedule (Q.follows .mixedOrders) ops (z.tape z.drawn (.order fn id)))::k) .run) cs) {z with drawn:=z.drawn+1} #[]:=by
 simp[G,aH,stepG,stepG.exec,choose,Sem.run,Question.forced,Question.cut]
theorem j5 {fr:Frame}{cs:List Frame}{s:Sem Next}{w w1:World}{h0:Halt}{es:Array Event}(h:s.runT Q w #[]=(.halt h0 w1,es))(hb:(∃z,h0= .stuck z)∨∃u,h0= .unsupported u∧∀g,u≠.initOrder g):
  ∃o w' aQ,stepG.apply Q true fr cs none s w= .ended o w' aQ:=by
 rcases hb with⟨z,rfl⟩|⟨u,rfl,hu⟩
 ·exact⟨_,_,_,by simp only[stepG.apply,h,if_true,GStep.after];rfl⟩
 ·cases u with
  |initOrder g=>exact absurd rfl (hu g)
  |_=>exact⟨_,_,_,by simp only[stepG.apply,h,if_true,GStep.after];rfl⟩
theorem F4 {mn:Bool}{fn:FuncId}{fr:Func}{t:Array Value}{todo:List Item}{cs:List Frame}{w w1:World}{h0:Halt}{es:Array Event}(hf:Q.funcs[fn]?=some fr)(h:(results fr t).runT Q w #[]=(.halt h0 w1,es)):
  ∃o w' aQ,stepG Q mn (G (aH fn t todo .returning) cs) w= .ended o w' aQ:=by
 cases h0<;>exact⟨_,_,_,by simp only[G,aH,stepG,unwind,hf,h,GStep.after];rfl⟩
theorem jk.on {fr:Frame}{cs:List Frame}{v:World}(h:jk Q fr cs v):
  (∃fr1 cs1 v1 es k,v1.tape=v.tape∧v1.drawn=v.drawn+k∧stepG Q true (G fr cs) v= .go (G fr1 cs1) v1 es∧∀T' d',ln v.tape v.drawn T' d' k→stepG Q true (G fr cs) (v.on T' d')= .go (G fr1 cs1) (v1.on T' (d'+k)) es)∨
  ((∃o w es,stepG Q true (G fr cs) v= .ended o w es)∧∃k,∀T' d',ln v.tape v.drawn T' d' k→∃o w es,stepG Q true (G fr cs) (v.on T' d')= .ended o w es):=by
 cases h with
 |bL h=>exact .inl ⟨_,_,v,#[],0,rfl,rfl,h v,fun T' d' _=>h _⟩
 |dead h=>exact .inr ⟨h v,0,fun T' d' _=>h _⟩
 |draw fn tm id ops k=>
  refine .inl ⟨_,_,_,_,1,?_,?_,lU ..,fun T' d' hA=>?_⟩
  ·rfl
  ·rfl
  ·rw[lU]
   have e0:T' d' (.order fn id)=v.tape v.drawn (.order fn id):=by have:=hA 0 (by omega) (.order fn id);simpa using this
   have e1:(v.on T' d').tape (v.on T' d').drawn (.order fn id)=v.tape v.drawn (.order fn id):=e0
   rw[e1];rfl
 | @op fn tm ops i rest k o _ _ ho hw hs hr=>
   have e:∀w,stepG Q true (G (aH fn tm (.inRegion ops (i::rest)::k) .run) cs) w=stepG.apply Q true (aH fn tm (.inRegion ops (i::rest)::k) .run) cs none (execOp (Act.eval ⟨tm,[]⟩) o) w:=
    fun w=>stepG_oper (b:=aH fn #[] [] .run) (a:=⟨tm,[]⟩) ho hw
   have ht:∃ur l k',(aH fn tm (.inRegion ops (i::rest)::k) .run).todo= .inRegion ur l::k':=⟨_,_,_,rfl⟩
   simp only[e];generalize hq:(execOp (Act.eval ⟨tm,[]⟩) o).runT Q v #[]=q at hr;obtain⟨r,es⟩:=q;obtain⟨k2,h1,h2,h3⟩:=hs.on hq
   cases r with
   |ok a v1=>
    cases a with
    |value x=>exact .inl ⟨_,_,v1,_,k2,h1,h2,jA rfl hq,fun T' d' hA=>jA rfl (h3 T' d' hA).1⟩
    |skip=>exact .inl ⟨_,_,v1,_,k2,h1,h2,kR rfl hq,fun T' d' hA=>kR rfl (h3 T' d' hA).1⟩
    |enter f args=>exact .inl ⟨_,_,v1,_,k2,h1,h2,jB rfl ht hq,fun T' d' hA=>jB rfl ht (h3 T' d' hA).1⟩
    |_=>exact hr.elim
   |halt h0 v1=>
    cases h0 with
    |panic x=>exact .inl ⟨_,_,v1,_,k2,h1,h2,jC rfl hq,fun T' d' hA=>jC rfl (h3 T' d' hA).1⟩
    |stuck z=>exact .inr ⟨j5 hq (.inl ⟨z,rfl⟩),k2,fun T' d' hA=>j5 (h3 T' d' hA).1 (.inl ⟨z,rfl⟩)⟩
    |unsupported u=>exact .inr ⟨j5 hq (.inr ⟨u,rfl,hr⟩),k2,fun T' d' hA=>j5 (h3 T' d' hA).1 (.inr ⟨u,rfl,hr⟩)⟩
    |_=>exact hr.elim
 | @ret fn tm todo fr c cs _ hf hs=>
   generalize hq:(results fr tm).runT Q v #[]=q;obtain⟨r,es⟩:=q;obtain⟨k2,h1,h2,h3⟩:=hs.on hq
   cases r with
   |ok a v1=>exact .inl ⟨_,_,v1,_,k2,h1,h2,np hf hq,fun T' d' hA=>np hf (h3 T' d' hA).1⟩
   |halt h0 v1=>exact .inr ⟨F4 hf hq,k2,fun T' d' hA=>F4 hf (h3 T' d' hA).1⟩
inductive Ends (Q:Program) (Stop:Frame→List Frame→World→Prop):Frame→List Frame→World→Prop
 |stop {fr:Frame} {cs:List Frame} {v:World} (h:Stop fr cs v):Ends Q Stop fr cs v
 |step {fr:Frame} {cs:List Frame} {v:World} (h1:∀T d,jk Q fr cs (v.on T d)→∃fE bV v' es,stepG Q true (G fr cs) (v.on T d)= .go (G fE bV) v' es)
   (h2:∀T d fE bV v' es,jk Q fr cs (v.on T d)→stepG Q true (G fr cs) (v.on T d)= .go (G fE bV) v' es→Ends Q Stop fE bV v'):Ends Q Stop fr cs v
theorem N6 {fr fE:Frame}{cs bV:List Frame}{w w':World}(h:lone fr cs w=lone fE bV w'):fr=fE∧cs=bV∧w=w':=by
 unfold lone at h;injection h with h1 h2 h3
 have:({frame:=fr,callers:=cs,status:= .running,dying:=none}:Goroutine)={frame:=fE,callers:=bV,status:= .running,dying:=none}:=by
  have:=congrArg (fun(a:Array Goroutine)=>a[0]?) h2
  simpa using this
 injection this with h4 h5
 exact⟨h4,h5,h1⟩
theorem QX {fr fE:Frame}{cs bV:List Frame}{w w':World}{es:Array Event}(h:stepG Q true (G fr cs) w= .go (G fE bV) w' es):step Q (lone fr cs w)= .next (lone fE bV w'):=
 step_lone_go (by unfold G at h;rw[h];rfl)
theorem F5 {fr:Frame}{cs:List Frame}{w w':World}{o:Outcome}{es:Array Event}(h:stepG Q true (G fr cs) w= .ended o w' es):step Q (lone fr cs w)= .ended o w':=
 step_lone_ended (by unfold G at h;rw[h];rfl)
theorem QY {Stop:Frame→List Frame→World→Prop}(hS:∀fr cs v T d,Stop fr cs v→Stop fr cs (v.on T d)){fr:Frame}{cs:List Frame}{v:World}
  (H:∀T,∃N fE bV v',runN Q N (lone fr cs (v.on T 0))= .next (lone fE bV v')∧Stop fE bV v'):Ends Q Stop fr cs v:=by
 classical
 refine Classical.byContradiction fun bY=>?_;let S:={x:Frame×List Frame×World //¬Ends Q Stop x.1 x.2.1 x.2.2}
 have hx:∀x:S,∃(T:Nat→Question→Nat) (d k:Nat) (y:S),∀T' d',ln T d T' d' k→(∃o w es,stepG Q true (G x.1.1 x.1.2.1) (x.1.2.2.on T' d')= .ended o w es)∨
   (∃es,stepG Q true (G x.1.1 x.1.2.1) (x.1.2.2.on T' d')= .go (G y.1.1 y.1.2.1) (y.1.2.2.on T' (d'+k)) es):=by
  rintro⟨⟨fr,cs,v⟩,hn⟩;dsimp only at hn⊢
  by_cases h1:∀T d,jk Q fr cs (v.on T d)→∃fE bV v' es,stepG Q true (G fr cs) (v.on T d)= .go (G fE bV) v' es
  ·by_cases h2:∀T d fE bV v' es,jk Q fr cs (v.on T d)→stepG Q true (G fr cs) (v.on T d)= .go (G fE bV) v' es→Ends Q Stop fE bV v'
   ·exact absurd (.step h1 h2) hn
   ·simp only[Classical.not_forall]at h2
    obtain⟨T,d,fE,bV,v',es,ht,hg,Yv⟩:=h2;rcases ht.on with⟨fr1,cs1,v1,QZ,k,e1,e2,e3,e4⟩|⟨⟨o,w,QZ,e1⟩,_⟩
    ·rw[e3]at hg
     injection hg with xY Yw _
     unfold G at xY;injection xY with hg3 hg4
     subst Yw hg3 hg4;refine⟨T,d,k,⟨(fr1,cs1,v1),Yv⟩,fun T' d' hA=> .inr ⟨QZ,?_⟩⟩
     exact e4 T' d' hA
    ·rw[e1]at hg;cases hg
  ·simp only[Classical.not_forall]at h1
   obtain⟨T,d,ht,hg⟩:=h1;rcases ht.on with⟨fr1,cs1,v1,QZ,k,e1,e2,e3,e4⟩|⟨_,k,e2⟩
   ·exact absurd ⟨_,_,_,_,e3⟩ hg
   ·exact⟨T,d,k,⟨(fr,cs,v),hn⟩,fun T' d' hA=> .inl (e2 T' d' hA)⟩
 let Tt:S→Nat→Question→Nat:=fun x=>(hx x).choose
 let dd:S→Nat:=fun x=>(hx x).choose_spec.choose
 let kk:S→Nat:=fun x=>(hx x).choose_spec.choose_spec.choose
 let nx:S→S:=fun x=>(hx x).choose_spec.choose_spec.choose_spec.choose
 have hp:∀x:S,∀T' d',ln (Tt x) (dd x) T' d' (kk x)→(∃o w es,stepG Q true (G x.1.1 x.1.2.1) (x.1.2.2.on T' d')= .ended o w es)∨
   (∃es,stepG Q true (G x.1.1 x.1.2.1) (x.1.2.2.on T' d')= .go (G (nx x).1.1 (nx x).1.2.1) ((nx x).1.2.2.on T' (d'+kk x)) es):=fun x=>(hx x).choose_spec.choose_spec.choose_spec.choose_spec
 clear_value Tt dd kk nx
 let s:Nat→S:=fun n=>Nat.rec ⟨(fr,cs,v),bY⟩ (fun _ x=>nx x) n
 let D:Nat→Nat:=fun n=>Nat.rec 0 (fun i a=>a+kk (s i)) n
 have s0:s 0=⟨(fr,cs,v),bY⟩:=rfl
 have s1:∀i,s (i+1)=nx (s i):=fun i=>rfl
 have D0:D 0=0:=rfl
 have D1:∀i,D (i+1)=D i+kk (s i):=fun i=>rfl
 clear_value s D
 have mono:∀i j,i≤j→D i≤D j:=by
  intro i j lp;induction lp with
  |refl=>exact Nat.le_refl _
  |step _ ih=>rw[D1];omega
 let T:Nat→Question→Nat:=fun p q=>if h:∃i,D i≤p∧p<D (i+1)then Tt (s h.choose) (dd (s h.choose)+(p-D h.choose)) q else 0
 have hT:∀i,ln (Tt (s i)) (dd (s i)) T (D i) (kk (s i)):=by
  intro i j hj q;have h:∃i',D i'≤D i+j∧D i+j<D (i'+1):=⟨i,by omega,by rw[D1];omega⟩
  have hc:=h.choose_spec;have he:h.choose=i:=by
   rcases Nat.lt_trichotomy h.choose i with ai|heq|Q0
   ·have:=mono (h.choose+1) i ai;omega
   ·exact heq
   ·have:=mono (i+1) h.choose Q0;rw[D1]at this;omega
  show(if h:∃i',D i'≤D i+j∧D i+j<D (i'+1)then Tt (s h.choose) (dd (s h.choose)+(D i+j-D h.choose)) q else 0)=_
  rw[dif_pos h,he];congr 1
  omega
 clear_value T
 have iD:∀i,(∃j,j<i∧∃o w,runN Q (j+1) (lone fr cs (v.on T 0))= .ended o w)∨runN Q i (lone fr cs (v.on T 0))= .next (lone (s i).1.1 (s i).1.2.1 ((s i).1.2.2.on T (D i))):=by
  intro i;induction i with
  |zero=>right;rw[s0,D0];rfl
  |succ i ih=>
   rcases ih with⟨j,hj,h⟩|ih
   ·exact .inl ⟨j,by omega,h⟩
   ·rcases hp (s i) T (D i) (hT i)with⟨o,w,es,h⟩|⟨es,h⟩
    ·refine .inl ⟨i,by omega,o,w,?_⟩
     rw[runN_add,ih];show(match step Q _ with| .next m=>Stepped.next m|e=>e)=_
     rw[F5 h]
    ·right
     rw[runN_add,ih,s1,D1];show(match step Q _ with| .next m=>Stepped.next m|e=>e)=_
     rw[QX h]
 obtain⟨N,fE,bV,v',hN,bk⟩:=H T;rcases iD N with⟨j,hj,o,w,h⟩|h
 ·obtain⟨c,rfl⟩:∃c,N=(j+1)+c:=⟨N-(j+1),by omega⟩
  rw[runN_add,h]at hN
  cases hN
 ·rw[hN]at h
  injection h with h
  obtain⟨h1,h2,h3⟩:=N6 h;have:=(s N).2
  refine this (.stop ?_);rw[←h1,←h2];have h4:(s N).1.2.2=v'.on (s N).1.2.2.tape (s N).1.2.2.drawn:=by rw[h3];rfl
  rw[h4];exact hS _ _ _ _ _ bk
end
end Go.Proofs.YtjklkppncmhehaaGreat.Sr
namespace Go.Proofs.YtjklkppncmhehaaGreat.Sr
open Go Go.Conc
section
variable {τ:TypeId}{P' P:Program}{α β:Type}{RA:az→α→β→Prop}
theorem d_.sf {Q:Program}{s:Sem α}:∀{v:World},d_ τ s→SF Q s v:=by
 induction s with
 |halt h0=>intro v h;trivial
 |new o c ih=>intro v h;exact ih _ (h _)
 |shape r c ih=>intro v h;exact ih _ (h _)
 |frozen a c ih=>intro v h;exact ih _ (h _)
 |choose q c ih=>
  intro v h;simp only[SF];split
  ·exact ih _ (h _)
  ·exact ih _ (h _)
 |program c ih=>intro v h;exact ih _ (h _)
 |mark m c ih=>intro v h;exact ih h
 |_=>intro v h;exact h.elim
theorem sG {v:World}{a:Addr}(h:∃o,v.heap[a.block]?=some o∧Da o):∀r u,v.heap[a.block]?≠some (.view r u):=by
 obtain⟨o,ho,hb⟩:=h;rintro r u e;rw[ho]at e;rcases hb with⟨us,e',fz,rfl⟩|⟨x,l,rfl⟩<;>cases e
theorem SR.sf {s:Sem α}{s':Sem β}:∀{m:az} {v w:World},SR τ P' P RA m s s'→WR m v w→SF P' s v:=by
 induction s generalizing s' with
 |pure a=>intro m v w h hw;trivial
 |halt h0=>intro m v w h hw;trivial
 |load md a c ih=>
  intro m v w h hw;obtain⟨a',k',rfl,ha,hk⟩:=h;obtain⟨lT,fj,_⟩:=hw.cell ha;simp only[SF]
  cases hv:v.cell? a with
  |none=>exact sG fj
  |some x=>
   obtain⟨y,hy,mo⟩:=lT x hv;exact ih x (hk m x y (az.le_refl m) mo) hw
 |store md a x c ih=>
  intro m v w h hw;obtain⟨a',x',k',rfl,ha,hx,hk⟩:=h;obtain⟨lT,fj,mu⟩:=hw.cell ha;simp only[SF];right
  cases hv:v.cell? a with
  |none=>exact sG fj
  |some u=>exact .inr (ih (hk m (az.le_refl m)) (hw.set ha hx))
 |new o c ih=>
  intro m v w h hw;obtain⟨o',k',rfl,ho,hk⟩:=h;obtain⟨hle,qy⟩:=hw.new ho;exact ih v.heap.size (hk _ v.heap.size w.heap.size hle (by simp[az.put])) qy
 |choose q c ih=>
  intro m v w h hw;obtain⟨k',rfl,hk⟩:=h;simp only[SF];split
  ·exact ih 0 (hk 0) hw
  ·exact ih (q.cut (v.tape v.drawn q)) (v:={v with drawn:=v.drawn+1}) (w:={w with tape:=v.tape,drawn:=v.drawn+1}) (hk _) ⟨hw.inj,hw.kM,hw.os,rfl,rfl⟩
 |program c ih=>
  intro m v w h hw;rcases h with h|⟨k',rfl,hk⟩
  ·exact d_.sf (s:=c P') h
  ·exact ih P' hk hw
 |mark md c ih=>
  intro m v w h hw
  cases md with
  |noRoom=>
   obtain⟨k',rfl,hk⟩:=h;exact ih hk hw
  |_=>exact h.elim
 |getObj r c ih=>
  intro m v w h hw;obtain⟨r',k',rfl,eH,hk⟩:=h;obtain⟨o,p,ho,hp,aZ⟩:=hw.kM _ _ eH;intro o' qm;rw[ho]at qm
  cases qm;rcases aZ with⟨us,vs,e,fz,gz,rfl,rfl,hf,hs,hx⟩|⟨x,y,l,rfl,rfl,mo⟩
  ·exact .inl ⟨_,_,_,rfl⟩
  ·exact .inr (ih (.number x l) (hk x y l mo) hw)
 |shape r c ih=>
  intro m v w h hw;rcases h with h|⟨r',k',rfl,eH,hk⟩
  ·show SF P' (c _) v
   exact d_.sf (h _)
  ·exact ih _ (hk _) hw
 |frozen a c ih=>
  intro m v w h hw;show SF P' (c _) v
  exact d_.sf (h _)
 |freeze a n c ih=>intro m v w h;exact h.elim
 |setObj r o c ih=>intro m v w h;exact h.elim
 |sys c k2 ih=>intro m v w h;exact h.elim
end
section
variable {τ:TypeId}{P:Program}{F:Array Func}{spec:FuncId→Bool}{m:az}
theorem Ce {s:Sem Next}{s':Sem Next}{v w:World}(h:aR τ P F iX m s s')(hw:WR m v w):QW (s.runT (Program.mk (Program.toTables P) F) v #[]).1:=by
 cases hr:s.runT (Program.mk (Program.toTables P) F) v #[]with
 |mk r es=>
  cases r with
  |ok a v1=>
   obtain⟨n,b,w',us,jR,_,_,_,r4,_,_⟩:=h.run (fs:= #[]) hw hr
   cases r4<;>trivial
  |halt h0 v1=>
   have hp:=h.run_halt hw hr
   cases h0<;>first|trivial|exact hp|exact hp.elim
theorem yV {Q:Program}{fn:FuncId}{t:Array Value}{c:Operand}{x y:Code}{k:List Item}{cs:List Frame}(hb:∀b,Act.eval ⟨t,[]⟩ c≠.bool b)(w:World):∃o w' es,stepG Q true (G (aH fn t (.code (.cond c x y)::k) .run) cs) w= .ended o w' es:=by
 have he:(Frame.mk fn t (.code (.cond c x y)::k) [] .run .normal none).eval c=Act.eval ⟨t,[]⟩ c:=by cases c<;>rfl
 simp only[G,aH,stepG,stepG.exec,he]
 cases hv:Act.eval ⟨t,[]⟩ c with
 |bool b=>exact absurd hv (hb b)
 |_=>exact⟨_,_,_,rfl⟩
theorem F6 (B:iC τ P F spec m.good){f' f:Frame}{fs' fs e':List Frame}{v w:World}(h:FR P spec m f' f)(hs:lj P spec m fs' fs)(hw:WR m v w)(hl:¬(f'.mode= .returning∧fs'=[])):
  jk (Program.mk (Program.toTables P) F) f' (fs'++e') v:=by
 cases h with
 | @mk fn bd tm todo mode fW hg ha ok hm=>
   rcases hm with rfl|rfl
   ·cases todo with
    |nil=>exact .bL fun w=>stepG_end (b:=aH fn #[] [] .run) (a:=⟨bd,[]⟩)
    |cons i k=>
     have kT:=ok i (by simp)
     cases i with
     |code c=>
      cases c with
      |skip=>exact .bL fun w=>stepG_skip (b:=aH fn #[] [] .run) (a:=⟨bd,[]⟩)
      |label l=>exact .bL fun w=>stepG_label (b:=aH fn #[] [] .run) (a:=⟨bd,[]⟩)
      |ret=>exact .bL (fr1:=aH fn bd (.code .ret::k) .returning) (cs1:=fs'++e') fun w=>by simp[G,aH,stepG,stepG.exec]
      |exit id=>
       cases hx:exitTo id k with
       |none=>exact .dead fun w=>⟨_,_,_,by simp only[G,aH,stepG,stepG.exec,hx,Option.elim_none];rfl⟩
       |some k'=>exact .bL fun w=>stepG_exit (b:=aH fn #[] [] .run) (a:=⟨bd,[]⟩) hx
      |seq x y=>exact .bL fun w=>stepG_seq (b:=aH fn #[] [] .run) (a:=⟨bd,[]⟩)
      |block id x=>exact .bL fun w=>stepG_block (b:=aH fn #[] [] .run) (a:=⟨bd,[]⟩)
      |loop x=>exact .bL fun w=>stepG_loop (b:=aH fn #[] [] .run) (a:=⟨bd,[]⟩)
      |cond c x y=>
       cases h1:Act.eval ⟨bd,[]⟩ c with
       |bool b=>exact .bL fun w=>stepG_cond (b:=aH fn #[] [] .run) (a:=⟨bd,[]⟩) h1
       |_=>exact .dead (yV fun b hb=>by rw[h1]at hb;cases hb)
      |region id ops draw=>
       cases draw with
       |false=>exact .bL fun w=>stepG_region (b:=aH fn #[] [] .run) (a:=⟨bd,[]⟩)
       |true=>exact .draw fn bd id ops k
      |_=>simp[dv,gG]at kT
     |inBlock id=>exact .bL fun w=>stepG_inBlock (b:=aH fn #[] [] .run) (a:=⟨bd,[]⟩)
     |inLoop x=>exact .bL fun w=>stepG_inLoop (b:=aH fn #[] [] .run) (a:=⟨bd,[]⟩)
     |inRegion ops l=>
      cases l with
      |nil=>exact .bL fun w=>stepG_region_end (b:=aH fn #[] [] .run) (a:=⟨bd,[]⟩)
      |cons j rest=>
       have skip:((ops[j]?).map (Region.wanted · (yielded ops bd))).getD false=false→jk (Program.mk (Program.toTables P) F) (aH fn bd (.inRegion ops (j::rest)::k) .run) (fs'++e') v:=by
        intro hn;refine .bL (fr1:=(aH fn bd (.inRegion ops (j::rest)::k) .run).finish undef) (cs1:=fs'++e') fun z=>?_;simp only[G,aH,stepG,stepG.exec];exact if_neg (by rw[hn];simp)
       cases ho:ops[j]? with
       |none=>exact skip (by rw[ho];rfl)
       |some o=>
        cases qy:Region.wanted o (yielded ops bd)with
        |false=>exact skip (by rw[ho];exact qy)
        |true=>
         have QT:iB P m.good o.op=true:=by
          simp only[dv]at kT;exact Array.all_eq_true_iff_forall_mem.1 kT o (Array.mem_of_getElem? ho)
         have ll:=tv (F:=F) B.rt B.globals B.fns (ha.oper B.bN) o QT fun f=>⟨rfl,rfl⟩
         exact .op ho qy (ll.sf hw) (Ce ll hw)
     |_=>simp[dv]at kT
   ·cases hs with
    |nil=>exact absurd ⟨rfl,rfl⟩ hl
    | @cons c' c eJ gs hc QV fD=>
      obtain⟨fr,e1,e2,e3⟩:=B.same fn hg fW;exact .ret e1 ((jj (F:=F) (m:=m) B.rt fr ha).sf hw)
def Passes (Q:Program)(f:Frame):Prop:=f.defers=[]∧(∃fr,Q.funcs[f.fn]?=some fr)∧f.mode= .run
theorem kF {Q:Program}{b:Bool}{f c:Frame}{cs:List Frame}{chain:List PanicEntry}(h1:f.defers=[])(h2:∃fr,Q.funcs[f.fn]?=some fr)(h3:f.mode= .panicking chain)(w:World):
  stepG Q b (G f (c::cs)) w= .go (G (c.raise chain) cs) w #[]:=by
 obtain⟨fr,h2⟩:=h2;simp[G,stepG,h3,unwind,h1,Frame.catches,h2]
theorem yW {Q:Program}{Stop:Frame→List Frame→World→Prop}{c:Frame}(hc:∀f cs v,Stop f cs v→cs=[c]){chain:List PanicEntry}{v:World}:
  ∀(cs:List Frame) (f:Frame),(∀x∈cs,Passes Q x)→f.defers=[]→(∃fr,Q.funcs[f.fn]?=some fr)→f.mode= .panicking chain→Ends Q Stop f (cs++[c]) v→
   ¬Ends Q Stop (c.raise chain) [] v→∃f:Frame,f.mode= .panicking chain∧∃v',v'.heap=v.heap∧Stop f [c] v'
 |[],f,_,h1,h2,h3,h,oU=>by
  cases h with
  |stop h=>exact⟨f,h3,v,rfl,h⟩
  |step k1 k2=>
   have ht:jk Q f [c] (v.on v.tape v.drawn):= .bL fun w=>kF h1 h2 h3 w
   exact absurd (k2 v.tape v.drawn _ _ _ _ ht (kF h1 h2 h3 _)) oU
 |d::cs,f,hp,h1,h2,h3,h,oU=>by
  obtain⟨d1,d2,d3⟩:=hp d (by simp)
  cases h with
  |stop h=>
   have:=hc _ _ _ h
   simp at this
  |step k1 k2=>
   have ht:jk Q f (d::(cs++[c])) (v.on v.tape v.drawn):= .bL fun w=>kF h1 h2 h3 w
   have h':=k2 v.tape v.drawn _ _ _ _ ht (kF h1 h2 h3 _);refine yW hc cs (d.raise chain) (fun x hx=>hp x (by simp[hx])) ?_ ?_ ?_ h' oU
   ·unfold Frame.raise;rw[d3];exact d1
   ·unfold Frame.raise;rw[d3];exact d2
   ·unfold Frame.raise;rw[d3]
end
end Go.Proofs.YtjklkppncmhehaaGreat.Sr
