/-
What is proved: one step of a goroutine, in two programs that differ in some functions' bodies, in memories alike up to names, is alike ('sim_step'). Conditions: those that the theorem states. one step of a goroutine, in two programs that differ in some functions' bodies, in memories alike up to names, is alike ('sim_step'). Conditions: those that the theorem states. a run of a program of the model ('Sem') hangs on no more of the tape than the answers that it takes. No condition. if a lone run comes to its stop on every tape, there is a well-founded tree of its steps over all tapes ('ends_of'). Conditions: those that the theorem states. a step of a goroutine that is related to another is plain ('fr_tame'); a panic that nobody recovers goes to the bottom of the tree ('unwinds'). Conditions: those that each theorem states.
-/
import Derived.Test.YtjklkppncmhehaaGreatRa04
set_option linter.unusedVariables false
set_option linter.unusedSimpArgs false
namespace Go.Proofs.YtjklkppncmhehaaGreat.Sr
open Go Go.Conc
section
variable {τ:TypeId}{P:Program}{F:Array Func}{spec:FuncId→Bool}{m:ao}
inductive LR (m:ao):List Value→List Value→Prop
 |nil:LR m [] []
 |cons {x y:Value} {us vs:List Value} (h:VR m x y) (k:LR m us vs):LR m (x::us) (y::vs)
theorem LR.mono {n:ao}(h:ao.le m n){us vs:List Value}(x:LR m us vs):LR n us vs:=by
 induction x with
 |nil=>exact .nil
 |cons a _ ih=>exact .cons (a.mono h) ih
theorem LR.arr {us vs:List Value}(h:LR m us vs):AR m us.toArray vs.toArray:=by
 induction h with
 |nil=>exact AR.nil
 | @cons x y us vs h k ih=>
   have:=(AR.one h).append ih
   simpa using this
theorem yT {ι:Type}{f f':ι→Sem Value}(h:∀(n:ao),ao.le m n→∀x,aR τ P F VR n (f x) (f' x)):∀(l:List ι) {n:ao},ao.le m n→aR τ P F LR n (l.mapM f) (l.mapM f')
 |[],n,_=>by simp only[List.mapM_nil];exact sP .nil
 |a::l,n,hn=>by
  simp only[List.mapM_cons];exact(h n hn a).bind fun n2 x y h2 hx=>(yT h l (ao.le_trans hn h2)).bind fun n3 xs ys h3 iy=>sP (.cons (hx.mono h3) iy)
theorem gJ (R:fo τ P)(fn:Func){us vs:Array Value}(h:AR m us vs):aR τ P F VR m (results fn us) (results fn vs):=by
 unfold results;rw[Array.mapM_eq_mapM_toList,Array.mapM_eq_mapM_toList];refine SR.bind (RA:=AR) ?_ fun n xs ys hn iy=>?_
 ·refine(yT (fun n hn x=>?_) _ (ao.le_refl m)).bind fun n xs ys hn iy=>sP iy.arr
  cases x with
  |tmp t=>exact sP ((h.mono hn).getD t .undef)
  |cell a t=>exact(vg R ((h.mono hn).getD a .undef)).bind fun n2 x y h2 hx=>tS t hx
 ·refine sP ?_
  by_cases U:xs.size=1
  ·rw[dif_pos U,dif_pos (by rw[←iy.1];exact U)]
   exact iy.2 0 (by omega) (by rw[←iy.1];omega)
  ·rw[dif_neg U,dif_neg (by rw[←iy.1];exact U)]
   exact .tuple iy.1 iy.2
inductive Out (τ:TypeId) (P:Program) (F:Array Func) (spec:FuncId→Bool) (m:ao) (e' e:List Frame) (f':Frame) (fs':List Frame) (v w:World):Goroutine→World→GStep→Prop
 |goes {n:ao} {f1' f1:Frame} {fs1' fs1:List Frame} {v1 w1:World} {es:Array Event} (h:FR P spec n f1' f1∨(jb P F spec n f1' f1∧fs1'≠[])) (hs:jC P spec n fs1' fs1) (hw:WR n v1 w1) (hk:Kept m n v w v1 w1) (he:mO n v es):Out τ P F spec m e' e f' fs' v w (G f1' (fs1'++e')) v1 (.go (G f1 (fs1++e)) w1 es)
 |panics {x:Value} {v1:World} {s:GStep} (hp:Plain τ (.panic x)):Out τ P F spec m e' e f' fs' v w (G (f'.raise [{v:=x,recovered:=false}]) (fs'++e')) v1 s
theorem Out.bq {e' e:List Frame}{f':Frame}{fs':List Frame}{v w:World}{f1' f1:Frame}{dP gs:List Frame}{sl sr:GStep}{g1:Goroutine}{v1:World}{aJ:Array Event}
  (h:FR P spec m f1' f1) (hs:jC P spec m dP gs) (hw:WR m v w) (el:sl= .go (G f1' (dP++e')) v #[]) (er:sr= .go (G f1 (gs++e)) w #[]) (bO:sl= .go g1 v1 aJ):
  Out τ P F spec m e' e f' fs' v w g1 v1 sr:=by
 rw[el]at bO;injection bO with U h2 _
 subst U h2;rw[er];exact .goes (.inl h) hs hw (Kept.refl m v w) mO.none
theorem mO.of {n:ao}{v:World}{us iw:List Event}{Q:Program}{fn:FuncId}(h:tN n us iw)(oj:∀e∈us,e.write=true→∀a,e.loc= .cell a→¬di v a.block):mO n v (seen Q fn (#[]++iw.toArray)):=by
 intro e he;have dF:=mem_seen he;simp only[Array.empty_append,List.mem_toArray]at dF;clear he;induction h with
 |nil=>cases dF
 | @cons a b us iw lR _ ih=>
   rcases List.mem_cons.1 dF with rfl|dF
   ·exact⟨a,lR,oj a (by simp)⟩
   ·exact ih (fun e he=>oj e (by simp[he])) dF
theorem Kn (B:fV τ P F spec m.good){fn:FuncId}{aT tm:Array Value}{ops:Array Oper}{i:Nat}{rest:List Nat}{k:List Item}{o:Oper}{mn mn':Bool}{fs' fs e' e:List Frame}{v w:World}
  (eF:spec fn=false) (hg:m.good fn=true) (h:AR m aT tm) (ok:∀x∈(Item.inRegion ops (i::rest)::k),cH P m.good x=true) (hs:jC P spec m fs' fs) (hw:WR m v w)
  (ho:ops[i]?=some o) (SV:Region.wanted o (yielded ops aT)=true) (Ql:Region.wanted o (yielded ops tm)=true) {g1:Goroutine} {v1:World} {aJ:Array Event}
  (bO:stepG (Program.mk (Program.toTables P) F) mn' (G (aA fn aT (.inRegion ops (i::rest)::k) .run) (fs'++e')) v= .go g1 v1 aJ):
  Out τ P F spec m e' e (aA fn aT (.inRegion ops (i::rest)::k) .run) fs' v w g1 v1 (stepG P mn (G (aA fn tm (.inRegion ops (i::rest)::k) .run) (fs++e)) w):=by
 have M_:gG P m.good o.op=true:=by
  have:=ok _ (List.mem_cons_self ..)
  simp only[cH]at this;exact Array.all_eq_true_iff_forall_mem.1 this o (Array.mem_of_getElem? ho)
 have e1:stepG (Program.mk (Program.toTables P) F) mn' (G (aA fn aT (.inRegion ops (i::rest)::k) .run) (fs'++e')) v=stepG.apply (Program.mk (Program.toTables P) F) true (aA fn aT (.inRegion ops (i::rest)::k) .run) (fs'++e') none (execOp (Act.eval ⟨aT,[]⟩) o) v:=
  stepG_oper (b:=aA fn #[] [] .run) (a:=⟨aT,[]⟩) ho SV
 have e2:stepG P mn (G (aA fn tm (.inRegion ops (i::rest)::k) .run) (fs++e)) w=stepG.apply P true (aA fn tm (.inRegion ops (i::rest)::k) .run) (fs++e) none (execOp (Act.eval ⟨tm,[]⟩) o) w:=
  stepG_oper (b:=aA fn #[] [] .run) (a:=⟨tm,[]⟩) ho Ql
 rw[e1]at bO;rw[e2];have jD:=qy (F:=F) B.rt B.globals B.fns (h.oper B.bS) o M_ fun f=>⟨rfl,rfl⟩
 have ht:∃rn l k',(aA fn aT (.inRegion ops (i::rest)::k) .run).todo= .inRegion rn l::k':=⟨_,_,_,rfl⟩
 have X':∃rn l k',(aA fn tm (.inRegion ops (i::rest)::k) .run).todo= .inRegion rn l::k':=⟨_,_,_,rfl⟩
 have rp:∀n:ao,ao.le m n→∀x∈(Item.inRegion ops rest::k),cH P n.good x=true:=by
  intro n hn x hx;rw[←hn.good];rcases List.mem_cons.1 hx with rfl|hx
  ·exact ok (.inRegion ops (i::rest)) (by simp)
  ·exact ok x (by simp[hx])
 have fin:∀(n:ao) {x y:Value},ao.le m n→VR n x y→FR P spec n ((aA fn aT (.inRegion ops (i::rest)::k) .run).finish x) ((aA fn tm (.inRegion ops (i::rest)::k) .run).finish y):=by
  intro n x y hn kv;have:∀(t:Array Value) (z:Value),(aA fn t (.inRegion ops (i::rest)::k) .run).finish z=aA fn (match(ops[i]?).bind (·.dst)with|some d=>t.setIfInBounds d z|none=>t) (.inRegion ops rest::k) .run:=fun t z=>rfl
  rw[this,this];refine .mk fn _ _ eF (hn.good▸hg) ?_ (rp n hn) (.inl rfl)
  cases(ops[i]?).bind (·.dst)with
  |none=>exact h.mono hn
  |some d=>exact(h.mono hn).set d kv
 cases hr:(execOp (Act.eval ⟨aT,[]⟩) o).runT (Program.mk (Program.toTables P) F) v #[]with
 |mk r zU=>
  cases r with
  |halt h0 v2=>
   rcases CA (jD.run_halt hw hr) hr with⟨x,rfl⟩|cG
   ·rw[ia rfl hr]at bO
    injection bO with U h2 _
    subst U h2;exact .panics (jD.run_halt hw hr)
   ·exact absurd bO (cG _ _ _)
  |ok a v2=>
   obtain⟨n,b,w',us,iw,r1,r2,r3,r4,r5,r6⟩:=jD.run (fs:= #[]) hw hr;obtain⟨G2,w1,w2,w3⟩:=jD.writes hw hr;have sW:us=G2:=by
    have:=r2.symm.trans w1
    simpa using this
   subst sW;have CB:mO n v (seen P fn (#[]++iw.toArray)):=mO.of r3 w2
   cases r4 with
   |value kv=>
    rw[hY rfl hr]at bO;rw[hY rfl r1];injection bO with U h2 _
    subst U h2;exact .goes (.inl (fin n r6.le kv)) (hs.mono r6.le) r5 r6 CB
   |skip=>
    rw[jk rfl hr]at bO;rw[jk rfl r1];injection bO with U h2 _
    subst U h2;exact .goes (.inl (fin n r6.le .undef)) (hs.mono r6.le) r5 r6 CB
   |enter f hf ha vp=>
    rw[h_ rfl ht hr]at bO;rw[h_ rfl X' r1];injection bO with U h2 _
    subst U h2;have pC:jC P spec n (aA fn aT (.inRegion ops (i::rest)::k) .run::fs') (aA fn tm (.inRegion ops (i::rest)::k) .run::fs):=
     .cons (.mk fn _ _ eF (r6.le.good▸hg) (h.mono r6.le) (fun x hx=>by rw[←r6.le.good];exact ok x hx) (.inl rfl)) rfl (hs.mono r6.le)
    refine .goes (fs1':=_::fs') (fs1:=_::fs) ?_ pC r5 r6 CB
    cases Na:spec f with
    |true=>exact .inr ⟨.mk f Na ha vp,by simp⟩
    |false=>
     obtain⟨fr,e1,e2,e3⟩:=B.same f (by rw[r6.le.good];exact hf) Na
     have en:∀(Q:Program) (xs:Array Value),Q.funcs[f]?=some fr→Frame.enter Q f xs .normal=aA f (xs++Array.replicate (fr.ntmps-xs.size) undef) [.code (fr.body.getD (.refuse "unsupported: a function without a Go body is entered"))] .run:=by
      intro Q xs hq;simp[Frame.enter,hq,aA]
     rw[en _ _ e1,en _ _ e2];refine .inl (.mk f _ _ Na hf ?_ (fun x hx=>?_) (.inl rfl))
     ·rw[ha.1]
      exact ha.append ⟨rfl,fun i U h2=>by simp only[Array.getElem_replicate];exact .undef⟩
     ·rcases List.mem_singleton.1 hx with rfl
      unfold lr at e3
      cases hb:fr.body with
      |none=>rw[hb]at e3;cases e3
      |some c=>rw[hb]at e3;simpa[cH,←r6.le.good]using e3
end
end Go.Proofs.YtjklkppncmhehaaGreat.Sr
namespace Go.Proofs.YtjklkppncmhehaaGreat.Sr
open Go Go.Conc
section
variable {τ:TypeId}{P:Program}{F:Array Func}{spec:FuncId→Bool}{m:ao}
theorem pQ {fn:FuncId}{t:Array Value}{todo:List Item}{x:Value}(h:∀i∈todo,cH P m.good i=true)(hn:∀ops i rest k,todo≠.inRegion ops (i::rest)::k):(aA fn t todo .run).finish x=aA fn t todo .run:=by
 cases todo with
 |nil=>rfl
 |cons i k=>
  have h0:=h i (by simp)
  cases i with
  |inRegion ops l=>
   cases l with
   |nil=>rfl
   |cons j rest=>exact absurd rfl (hn _ _ _ _)
  |code c=>rfl
  |inBlock id=>rfl
  |inLoop b=>rfl
  |_=>simp[cH]at h0
theorem FR.finish {n:ao}{c' c:Frame}(h:FR P spec m c' c)(hr:c'.mode= .run){x y:Value}(hn:ao.le m n)(kv:VR n x y):FR P spec n (c'.finish x) (c.finish y):=by
 cases h with
 | @mk fn aT tm todo mode hs hg ha ok hm=>
   cases hr;by_cases hq:∃ops i rest k,todo= .inRegion ops (i::rest)::k
   ·obtain⟨ops,i,rest,k,rfl⟩:=hq
    have:∀(t:Array Value) (z:Value),(aA fn t (.inRegion ops (i::rest)::k) .run).finish z=aA fn (match(ops[i]?).bind (·.dst)with|some d=>t.setIfInBounds d z|none=>t) (.inRegion ops rest::k) .run:=fun t z=>rfl
    have e0:(aA fn aT (.inRegion ops (i::rest)::k) FrameMode.run).mode= .run:=rfl
    show FR P spec n ((aA fn aT (.inRegion ops (i::rest)::k) .run).finish x) ((aA fn tm (.inRegion ops (i::rest)::k) .run).finish y)
    rw[this,this];refine .mk fn _ _ hs (hn.good▸hg) ?_ (fun z hz=>?_) (.inl rfl)
    ·cases(ops[i]?).bind (·.dst)with
     |none=>exact ha.mono hn
     |some d=>exact(ha.mono hn).set d kv
    ·rw[←hn.good]
     rcases List.mem_cons.1 hz with rfl|hz
     ·exact ok (.inRegion ops (i::rest)) (by simp)
     ·exact ok z (by simp[hz])
   ·have Qm:∀ops i rest k,todo≠.inRegion ops (i::rest)::k:=fun ops i rest k e=>hq ⟨ops,i,rest,k,e⟩
    show FR P spec n ((aA fn aT todo .run).finish x) ((aA fn tm todo .run).finish y)
    rw[pQ ok Qm,pQ ok Qm];exact FR.mono hn (.mk fn todo .run hs hg ha ok (.inl rfl))
theorem lu {Q:Program}{mn:Bool}{fn:FuncId}{fr:Func}{t:Array Value}{todo:List Item}{c:Frame}{cs:List Frame}{w w1:World}{x:Value}{es:Array Event}(hf:Q.funcs[fn]?=some fr)(h:(results fr t).runT Q w #[]=(.ok x w1,es)):
  stepG Q mn (G (aA fn t todo .returning) (c::cs)) w= .go (G (c.finish x) cs) w1 (seen Q fn es):=by
 simp only[G,aA,stepG,unwind,hf,h,doReturn,GStep.after,Array.append_empty]
theorem sX {Q:Program}{mn:Bool}{fn:FuncId}{fr:Func}{t:Array Value}{todo:List Item}{cs:List Frame}{w w1:World}{h0:Halt}{es:Array Event}(hf:Q.funcs[fn]?=some fr)(h:(results fr t).runT Q w #[]=(.halt h0 w1,es)):
  ∀g v e,stepG Q mn (G (aA fn t todo .returning) cs) w≠.go g v e:=by
 intro g v e
 cases h0<;>simp only[G,aA,stepG,unwind,hf,h,GStep.after]<;>exact nofun
theorem CC {us vs:Array Value}(h:AR m us vs)(ops:Array Oper):yielded ops us=yielded ops vs:=by
 funext j
 unfold yielded
 cases(ops[j]?).bind (·.dst)with
 |none=>rfl
 |some d=>
  simp only[Option.bind_some];rcases h.get? d with⟨U,h2⟩|⟨x,y,U,h2,h3⟩
  ·rw[U,h2]
  ·rw[U,h2]
   cases h3 with
   |eU y hy hn=>cases y<;>first|rfl|exact absurd rfl (hn.2 _)
   |_=>rfl
theorem Ko (B:fV τ P F spec m.good){f' f:Frame}{mn mn':Bool}{fs' fs e' e:List Frame}{v w:World}(h:FR P spec m f' f)(hs:jC P spec m fs' fs)(hw:WR m v w)
  (hl:¬(f'.mode= .returning∧fs'=[])) {g1:Goroutine} {v1:World} {aJ:Array Event} (bO:stepG (Program.mk (Program.toTables P) F) mn' (G f' (fs'++e')) v= .go g1 v1 aJ):
  Out τ P F spec m e' e f' fs' v w g1 v1 (stepG P mn (G f (fs++e)) w):=by
 cases h with
 | @mk fn aT tm todo mode eF hg ha ok hm=>
   rcases hm with rfl|rfl
   ·cases todo with
    |nil=>
     exact .bq (f1':=aA fn aT [] .returning) (f1:=aA fn tm [] .returning) (.mk fn [] .returning eF hg ha ok (.inr rfl)) hs hw (stepG_end (b:=aA fn #[] [] .run) (a:=⟨aT,[]⟩)) (stepG_end (b:=aA fn #[] [] .run) (a:=⟨tm,[]⟩)) bO
    |cons i k=>
     have rp:∀x∈k,cH P m.good x=true:=fun x hx=>ok x (by simp[hx])
     have jl:=ok i (by simp)
     have cons:∀{x:Item} {l:List Item},cH P m.good x=true→(∀y∈l,cH P m.good y=true)→∀y∈x::l,cH P m.good y=true:=by
      intro x l U h2 y hy;rcases List.mem_cons.1 hy with rfl|hy
      ·exact U
      ·exact h2 y hy
     cases i with
     |code c=>
      cases c with
      |skip=>exact .bq (f1':=aA fn aT k .run) (f1:=aA fn tm k .run) (.mk fn k .run eF hg ha rp (.inl rfl)) hs hw (stepG_skip (b:=aA fn #[] [] .run) (a:=⟨aT,[]⟩)) (stepG_skip (b:=aA fn #[] [] .run) (a:=⟨tm,[]⟩)) bO
      |label l=>exact .bq (f1':=aA fn aT k .run) (f1:=aA fn tm k .run) (.mk fn k .run eF hg ha rp (.inl rfl)) hs hw (stepG_label (b:=aA fn #[] [] .run) (a:=⟨aT,[]⟩)) (stepG_label (b:=aA fn #[] [] .run) (a:=⟨tm,[]⟩)) bO
      |ret=>
       refine .bq (f1':=aA fn aT (.code .ret::k) .returning) (f1:=aA fn tm (.code .ret::k) .returning) (.mk fn _ .returning eF hg ha ok (.inr rfl)) hs hw ?_ ?_ bO
       ·simp[G,aA,stepG,stepG.exec]
       ·simp[G,aA,stepG,stepG.exec]
      |exit id=>
       have el:∀(Q:Program) (b:Bool) (t:Array Value) (cs:List Frame) (z:World),exitTo id k=none→∀g v e,stepG Q b (G (aA fn t (.code (.exit id)::k) .run) cs) z≠.go g v e:=by
        intro Q b t cs z he g v e;simp only[G,aA,stepG,stepG.exec,he,Option.elim_none];exact nofun
       cases hx:exitTo id k with
       |none=>exact absurd bO (el _ _ _ _ _ hx _ _ _)
       |some k'=>exact .bq (f1':=aA fn aT k' .run) (f1:=aA fn tm k' .run) (.mk fn k' .run eF hg ha (qz hx rp) (.inl rfl)) hs hw (stepG_exit (b:=aA fn #[] [] .run) (a:=⟨aT,[]⟩) hx) (stepG_exit (b:=aA fn #[] [] .run) (a:=⟨tm,[]⟩) hx) bO
      |seq x y=>
       simp only[cH,eV,Bool.and_eq_true]at jl;exact .bq (f1':=aA fn aT (.code x:: .code y::k) .run) (f1:=aA fn tm (.code x:: .code y::k) .run) (.mk fn _ .run eF hg ha (cons jl.1 (cons jl.2 rp)) (.inl rfl)) hs hw (stepG_seq (b:=aA fn #[] [] .run) (a:=⟨aT,[]⟩)) (stepG_seq (b:=aA fn #[] [] .run) (a:=⟨tm,[]⟩)) bO
      |block id x=>
       exact .bq (f1':=aA fn aT (.code x:: .inBlock id::k) .run) (f1:=aA fn tm (.code x:: .inBlock id::k) .run) (.mk fn _ .run eF hg ha (cons jl (cons rfl rp)) (.inl rfl)) hs hw (stepG_block (b:=aA fn #[] [] .run) (a:=⟨aT,[]⟩)) (stepG_block (b:=aA fn #[] [] .run) (a:=⟨tm,[]⟩)) bO
      |loop x=>
       exact .bq (f1':=aA fn aT (.code x:: .inLoop x::k) .run) (f1:=aA fn tm (.code x:: .inLoop x::k) .run) (.mk fn _ .run eF hg ha (cons jl (cons jl rp)) (.inl rfl)) hs hw (stepG_loop (b:=aA fn #[] [] .run) (a:=⟨aT,[]⟩)) (stepG_loop (b:=aA fn #[] [] .run) (a:=⟨tm,[]⟩)) bO
      |cond c x y=>
       simp only[cH,eV,Bool.and_eq_true]at jl;have hc:=ha.oper B.bS c jl.1.1;have key:∀b:Bool,Act.eval ⟨aT,[]⟩ c= .bool b→Act.eval ⟨tm,[]⟩ c= .bool b→Out τ P F spec m e' e (aA fn aT (.code (.cond c x y)::k) .run) fs' v w g1 v1 (stepG P mn (G (aA fn tm (.code (.cond c x y)::k) .run) (fs++e)) w):=by
        intro b U h2;refine .bq (f1':=aA fn aT (.code (if b then x else y)::k) .run) (f1:=aA fn tm (.code (if b then x else y)::k) .run) (.mk fn _ .run eF hg ha (cons ?_ rp) (.inl rfl)) hs hw (stepG_cond (b:=aA fn #[] [] .run) (a:=⟨aT,[]⟩) U) (stepG_cond (b:=aA fn #[] [] .run) (a:=⟨tm,[]⟩) h2) bO
        cases b
        ·exact jl.2
        ·exact jl.1.2
       have no:(∀b,Act.eval ⟨aT,[]⟩ c≠.bool b)→False:=by
        intro hb;have he:(Frame.mk fn aT (.code (.cond c x y)::k) [] .run .normal none).eval c=Act.eval ⟨aT,[]⟩ c:=by cases c<;>rfl
        revert bO
        simp only[G,aA,stepG,stepG.exec,he]
        cases hv:Act.eval ⟨aT,[]⟩ c with
        |bool b=>exact absurd hv (hb b)
        |_=>exact nofun
       cases U:Act.eval ⟨aT,[]⟩ c with
       |bool b=>
        rw[U]at hc
        cases h2:Act.eval ⟨tm,[]⟩ c with
        |bool b2=>rw[h2]at hc;cases hc;exact key _ U h2
        |_=>rw[h2]at hc;cases hc
       |_=>exact(no fun b hb=>by rw[U]at hb;cases hb).elim
      |region id ops draw=>
       cases draw with
       |false=>exact .bq (f1':=aA fn aT (.inRegion ops (List.range ops.size)::k) .run) (f1:=aA fn tm (.inRegion ops (List.range ops.size)::k) .run) (.mk fn _ .run eF hg ha (cons jl rp) (.inl rfl)) hs hw (stepG_region (b:=aA fn #[] [] .run) (a:=⟨aT,[]⟩)) (stepG_region (b:=aA fn #[] [] .run) (a:=⟨tm,[]⟩)) bO
       |true=>
        have ed:∀(Q:Program) (b:Bool) (t:Array Value) (cs:List Frame) (z:World),stepG Q b (G (aA fn t (.code (.region id ops true)::k) .run) cs) z=
          .go (G (aA fn t (.inRegion ops (Region.schedule (Q.follows .mixedOrders) ops (z.tape z.drawn (.order fn id)))::k) .run) cs) {z with drawn:=z.drawn+1} #[]:=by
         intro Q b t cs z;simp[G,aA,stepG,stepG.exec,choose,Sem.run,Question.forced,Question.cut]
        rw[ed]at bO;rw[ed];injection bO with U h2 _
        subst U h2;rw[hw.tape,hw.drawn];have Ya:Tables.follows (Program.mk (Program.toTables P) F).toTables .mixedOrders=Tables.follows P.toTables .mixedOrders:=rfl
        rw[Ya];refine .goes (n:=m) (.inl (.mk fn _ .run eF hg ha (cons jl rp) (.inl rfl))) hs ⟨hw.inj,hw.jj,hw.os,rfl,rfl⟩ ⟨ao.le_refl m,Nat.le_refl _,Nat.le_refl _,fun _ _=>rfl,fun _ _ _=>rfl,fun _ _ h=> .inl h,Nat.le_succ _,rfl,rfl,hw.tape.symm⟩ mO.none
      |_=>simp[cH,eV]at jl
     |inBlock id=>exact .bq (f1':=aA fn aT k .run) (f1:=aA fn tm k .run) (.mk fn k .run eF hg ha rp (.inl rfl)) hs hw (stepG_inBlock (b:=aA fn #[] [] .run) (a:=⟨aT,[]⟩)) (stepG_inBlock (b:=aA fn #[] [] .run) (a:=⟨tm,[]⟩)) bO
     |inLoop x=>exact .bq (f1':=aA fn aT (.code x:: .inLoop x::k) .run) (f1:=aA fn tm (.code x:: .inLoop x::k) .run) (.mk fn _ .run eF hg ha (cons jl (cons jl rp)) (.inl rfl)) hs hw (stepG_inLoop (b:=aA fn #[] [] .run) (a:=⟨aT,[]⟩)) (stepG_inLoop (b:=aA fn #[] [] .run) (a:=⟨tm,[]⟩)) bO
     |inRegion ops l=>
      cases l with
      |nil=>exact .bq (f1':=aA fn aT k .run) (f1:=aA fn tm k .run) (.mk fn k .run eF hg ha rp (.inl rfl)) hs hw (stepG_region_end (b:=aA fn #[] [] .run) (a:=⟨aT,[]⟩)) (stepG_region_end (b:=aA fn #[] [] .run) (a:=⟨tm,[]⟩)) bO
      |cons j rest=>
       have hy:=CC ha ops;have skip:((ops[j]?).map (Region.wanted · (yielded ops aT))).getD false=false→Out τ P F spec m e' e (aA fn aT (.inRegion ops (j::rest)::k) .run) fs' v w g1 v1 (stepG P mn (G (aA fn tm (.inRegion ops (j::rest)::k) .run) (fs++e)) w):=by
        intro hn;have es:∀(Q:Program) (b:Bool) (t:Array Value) (cs:List Frame) (z:World),yielded ops t=yielded ops aT→stepG Q b (G (aA fn t (.inRegion ops (j::rest)::k) .run) cs) z= .go (G ((aA fn t (.inRegion ops (j::rest)::k) .run).finish undef) cs) z #[]:=by
         intro Q b t cs z ht;have vq:((ops[j]?).map (Region.wanted · (yielded ops t))).getD false=false:=by rw[ht];exact hn
         simp only[G,aA,stepG,stepG.exec];exact if_neg (by rw[vq];simp)
        exact .bq ((FR.mk fn _ .run eF hg ha ok (.inl rfl)).finish rfl (ao.le_refl m) .undef) hs hw (es _ _ _ _ _ rfl) (es _ _ _ _ _ hy.symm) bO
       cases ho:ops[j]? with
       |none=>exact skip (by rw[ho];rfl)
       |some o=>
        cases oc:Region.wanted o (yielded ops aT)with
        |false=>exact skip (by rw[ho];exact oc)
        |true=>exact Kn B eF hg ha ok hs hw ho oc (by rw[←hy];exact oc) bO
     |_=>simp[cH]at jl
   ·cases hs with
    |nil=>exact absurd ⟨rfl,rfl⟩ hl
    | @cons c' c dP gs hc Nb dJ=>
      obtain⟨fr,e1,e2,e3⟩:=B.same fn hg eF;have jD:=gJ (F:=F) (m:=m) B.rt fr ha
      cases hr:(results fr aT).runT (Program.mk (Program.toTables P) F) v #[]with
      |mk r zU=>
       cases r with
       |halt h0 v2=>exact absurd bO (sX e1 hr _ _ _)
       |ok a v2=>
        obtain⟨n,b,w',us,iw,r1,r2,r3,r4,r5,r6⟩:=jD.run (fs:= #[]) hw hr;obtain⟨G2,w1,w2,w3⟩:=jD.writes hw hr;have sW:us=G2:=by
         have:=r2.symm.trans w1
         simpa using this
        subst sW;rw[List.cons_append,lu e1 hr]at bO;rw[List.cons_append,lu e2 r1];injection bO with U h2 _
        subst U h2;exact .goes (.inl (hc.finish Nb r6.le r4)) (dJ.mono r6.le) r5 r6 (mO.of r3 w2)
end
end Go.Proofs.YtjklkppncmhehaaGreat.Sr
namespace Go
def World.on (v:World)(T:Nat→Question→Nat)(d:Nat):World:={v with tape:=T,drawn:=d}
def Result.wd {α:Type}:Result α→World
 | .ok _ w=>w
 | .halt _ w=>w
def Result.on {α:Type}(T:Nat→Question→Nat)(d:Nat):Result α→Result α
 | .ok a w=> .ok a (w.on T d)
 | .halt h w=> .halt h (w.on T d)
end Go
namespace Go.Proofs.YtjklkppncmhehaaGreat.Sr
open Go Go.Conc
@[simp] theorem Yb (v:World) (T T':Nat→Question→Nat) (d d':Nat):(v.on T d).on T' d'=v.on T' d':=rfl
@[simp] theorem Va (v:World):v.on v.tape v.drawn=v:=rfl
def jE (T:Nat→Question→Nat)(d:Nat)(T':Nat→Question→Nat)(d' k:Nat):Prop:=∀j,j<k→∀q,T' (d'+j) q=T (d+j) q
theorem jE.le {T T':Nat→Question→Nat}{d d' k l:Nat}(h:jE T d T' d' k)(hl:l≤k):jE T d T' d' l:=fun j hj=>h j (by omega)
theorem jE.shift {T T':Nat→Question→Nat}{d d' k l:Nat}(h:jE T d T' d' (l+k)):jE T (d+l) T' (d'+l) k:=fun j hj q=>by
 have:=h (l+j) (by omega) q
 simpa[Nat.add_assoc]using this
def SF (P:Program){α:Type}:Sem α→World→Prop
 | .pure _,_| .halt _,_=>True
 | .load _ a k,w=>match w.cell? a with
   |some x=>SF P (k x) w
   |none=>∀r u,w.heap[a.block]?≠some (.view r u)
 | .store _ a x k,w=>(∃cs,x= .agg cs∨x= .tuple cs)∨match w.cell? a with
   |some _=>w.frozen? a=true∨SF P k (w.setCell a x)
   |none=>∀r u,w.heap[a.block]?≠some (.view r u)
 | .new o k,w=>SF P (k w.heap.size) {w with heap:=w.heap.push o}
 | .shape r k,w=>SF P (k (w.shape? r)) w
 | .frozen a k,w=>SF P (k (w.frozen? a)) w
 | .getObj r k,w=>∀o,w.heap[r]?=some o→(∃c e f,o= .cells c e f)∨SF P (k o) w
 | .choose q k,w=>if q.forced then SF P (k 0) w else SF P (k (q.cut (w.tape w.drawn q))) {w with drawn:=w.drawn+1}
 | .program k,w=>SF P (k P) w
 | .mark _ k,w=>SF P k w
 |_,_=>False
theorem SF.on {P:Program}{α:Type}{s:Sem α}:∀{v:World} {es:Array Event} {r:Result α} {aJ:Array Event},SF P s v→s.runT P v es=(r,aJ)→
  ∃k,r.wd.tape=v.tape∧r.wd.drawn=v.drawn+k∧∀T' d',jE v.tape v.drawn T' d' k→s.runT P (v.on T' d') es=(r.on T' (d'+k),aJ)∧SF P s (v.on T' d'):=by
 induction s with
 |pure a=>
  intro v es r aJ h hr;simp only[Sem.runT,Prod.mk.injEq]at hr;obtain⟨rfl,rfl⟩:=hr;exact⟨0,rfl,rfl,fun T' d' _=>⟨rfl,trivial⟩⟩
 |halt h0=>
  intro v es r aJ h hr;simp only[Sem.runT,Prod.mk.injEq]at hr;obtain⟨rfl,rfl⟩:=hr;exact⟨0,rfl,rfl,fun T' d' _=>⟨rfl,trivial⟩⟩
 |load md a c ih=>
  intro v es r aJ h hr;simp only[SF]at h;simp only[Sem.runT]at hr
  cases hv:v.cell? a with
  |some x=>
   rw[hv]at hr h;obtain⟨k,U,h2,h3⟩:=ih x h hr;refine⟨k,U,h2,fun T' d' hA=>?_⟩
   have fp:(v.on T' d').cell? a=some x:=hv
   simp only[Sem.runT,SF,fp];exact h3 T' d' hA
  |none=>
   rw[hv]at hr h;have hf:∃e,v.farLoad P a (md== .atomic)= .error e:=by
    unfold World.farLoad
    cases hb:v.heap[a.block]? with
    |none=>exact⟨_,rfl⟩
    |some o=>cases o<;>first|exact⟨_,rfl⟩|exact absurd hb (h _ _)
   obtain⟨e,he⟩:=hf;rw[he]at hr;simp only[Prod.mk.injEq]at hr;obtain⟨rfl,rfl⟩:=hr;refine⟨0,rfl,rfl,fun T' d' _=>?_⟩
   have fp:(v.on T' d').cell? a=none:=hv
   have dF:(v.on T' d').farLoad P a (md== .atomic)= .error e:=he
   simp only[Sem.runT,SF,fp,dF];exact⟨rfl,h⟩
 |store md a x c ih=>
  intro v es r aJ h hr;simp only[SF]at h;by_cases oa:(∀cs,x≠.agg cs)∧(∀cs,x≠.tuple cs)
  ·replace h:=h.resolve_left (fun⟨cs,e⟩=>e.elim (oa.1 cs) (oa.2 cs))
   have e1:∀(q:World) (gs:Array Event),Sem.runT P (.store md a x c) q gs=match q.cell? a with
     |some _=>if q.frozen? a then(.halt (.unsupported (.unsafePointer "a write to bytes that a string shares")) q,gs)else c.runT P (q.setCell a x) (gs.push ⟨.cell a,true,md== .atomic⟩)
     |none=>match q.farStore P a x (md== .atomic)with
      | .ok (q,fl)=>c.runT P q (gs++fl.toArray.map (⟨.cell ·,true,md== .atomic⟩))
      | .error h=>(.halt h q,gs):=by
    intro q gs
    cases x<;>first|rfl|exact absurd rfl (oa.1 _)|exact absurd rfl (oa.2 _)
   rw[e1]at hr
   cases hv:v.cell? a with
   |some u=>
    rw[hv]at hr h;simp only at hr h
    split at hr
    ·rename_i pA
     simp only[Prod.mk.injEq]at hr;obtain⟨rfl,rfl⟩:=hr;refine⟨0,rfl,rfl,fun T' d' _=>?_⟩
     have fp:(v.on T' d').cell? a=some u:=hv
     have Jv:(v.on T' d').frozen? a=true:=pA
     rw[e1,fp];simp only[SF,fp];rw[if_pos Jv];exact⟨rfl,.inr (.inl Jv)⟩
    ·rename_i pA
     obtain⟨k,U,h2,h3⟩:=ih (h.resolve_left pA) hr;refine⟨k,U,h2,fun T' d' hA=>?_⟩
     have fp:(v.on T' d').cell? a=some u:=hv
     have Jv:¬(v.on T' d').frozen? a=true:=pA
     rw[e1,fp];simp only[SF,fp];rw[if_neg Jv];exact⟨(h3 T' d' hA).1,.inr (.inr (h3 T' d' hA).2)⟩
   |none=>
    rw[hv]at hr h;have hf:∃e,v.farStore P a x (md== .atomic)= .error e:=by
     unfold World.farStore
     cases hb:v.heap[a.block]? with
     |none=>exact⟨_,rfl⟩
     |some o=>cases o<;>first|exact⟨_,rfl⟩|exact absurd hb (h _ _)
    obtain⟨e,he⟩:=hf;rw[he]at hr;simp only[Prod.mk.injEq]at hr;obtain⟨rfl,rfl⟩:=hr;refine⟨0,rfl,rfl,fun T' d' _=>?_⟩
    have fp:(v.on T' d').cell? a=none:=hv
    have dF:(v.on T' d').farStore P a x (md== .atomic)= .error e:=by
     unfold World.farStore at he⊢;have e:(v.on T' d').heap=v.heap:=rfl
     rw[e]
     cases hb:v.heap[a.block]? with
     |none=>rw[hb]at he;exact he
     |some o=>rw[hb]at he;cases o<;>first|exact he|exact absurd hb (h _ _)
    rw[e1,fp,dF];simp only[SF,fp];exact⟨rfl,.inr h⟩
  ·have hx:∃cs,x= .agg cs∨x= .tuple cs:=by
    cases x with
    |agg cs=>exact⟨cs,.inl rfl⟩
    |tuple cs=>exact⟨cs,.inr rfl⟩
    |_=>exact absurd ⟨by simp,by simp⟩ oa
   obtain⟨cs,iG⟩:=hx;rcases iG with rfl|rfl<;>
   ·simp only[Sem.runT,Prod.mk.injEq]at hr
    obtain⟨rfl,rfl⟩:=hr;exact⟨0,rfl,rfl,fun T' d' _=>⟨rfl,.inl ⟨cs,by simp⟩⟩⟩
 |new o c ih=>
  intro v es r aJ h hr;obtain⟨k,U,h2,h3⟩:=ih v.heap.size h hr;exact⟨k,U,h2,fun T' d' hA=>h3 T' d' hA⟩
 |shape r0 c ih=>
  intro v es r aJ h hr;obtain⟨k,U,h2,h3⟩:=ih _ h hr;exact⟨k,U,h2,fun T' d' hA=>h3 T' d' hA⟩
 |frozen a c ih=>
  intro v es r aJ h hr;obtain⟨k,U,h2,h3⟩:=ih _ h hr;exact⟨k,U,h2,fun T' d' hA=>h3 T' d' hA⟩
 |getObj r0 c ih=>
  intro v es r aJ h hr;simp only[SF]at h;simp only[Sem.runT]at hr;have hh:∀T' d',(v.on T' d').heap=v.heap:=fun _ _=>rfl
  cases hb:v.heap[r0]? with
  |none=>
   rw[hb]at hr;simp only[Prod.mk.injEq]at hr;obtain⟨rfl,rfl⟩:=hr;refine⟨0,rfl,rfl,fun T' d' _=>?_⟩
   simp only[Sem.runT,SF,hh,hb];exact⟨rfl,nofun⟩
  |some o=>
   rw[hb]at hr;by_cases ho:∃c e f,o= .cells c e f
   ·obtain⟨c',e',f',rfl⟩:=ho
    simp only[Prod.mk.injEq]at hr;obtain⟨rfl,rfl⟩:=hr;refine⟨0,rfl,rfl,fun T' d' _=>?_⟩
    simp only[Sem.runT,SF,hh,hb];exact⟨rfl,fun o ho=>by cases ho;exact .inl ⟨_,_,_,rfl⟩⟩
   ·have iE:∀(T':Nat→Question→Nat) d',Sem.runT P (.getObj r0 c) (v.on T' d') es=Sem.runT P (c o) (v.on T' d') (es.push ⟨.obj r0,false,o.isChan⟩):=by
     intro T' d';simp only[Sem.runT,hh,hb]
     cases o<;>first|rfl|exact absurd ⟨_,_,_,rfl⟩ ho
    have dE:Sem.runT P (c o) v (es.push ⟨.obj r0,false,o.isChan⟩)=(r,aJ):=by
     cases o<;>first|exact hr|exact absurd ⟨_,_,_,rfl⟩ ho
    obtain⟨k,U,h2,h3⟩:=ih _ ((h _ hb).resolve_left ho) dE;refine⟨k,U,h2,fun T' d' hA=>⟨(iE T' d').trans (h3 T' d' hA).1,?_⟩⟩
    simp only[SF,hh,hb];intro o' nU
    cases nU;exact .inr (h3 T' d' hA).2
 |choose q c ih=>
  intro v es r aJ h hr;simp only[SF]at h;simp only[Sem.runT]at hr;by_cases hq:q.forced=true
  ·rw[if_pos hq]at hr h
   obtain⟨k,U,h2,h3⟩:=ih 0 h hr;refine⟨k,U,h2,fun T' d' hA=>?_⟩
   simp only[Sem.runT,SF];rw[if_pos hq,if_pos hq];exact h3 T' d' hA
  ·rw[if_neg hq]at hr h
   obtain⟨k,U,h2,h3⟩:=ih _ h hr;refine⟨1+k,U,by rw[h2];show v.drawn+1+k=_;omega,fun T' d' hA=>?_⟩
   have e0:T' d' q=v.tape v.drawn q:=by have:=hA 0 (by omega) q;simpa using this
   have:=h3 T' (d'+1) (hA.shift (l:=1))
   simp only[Sem.runT,SF];rw[if_neg hq,if_neg hq];have e1:({(v.on T' d')with drawn:=(v.on T' d').drawn+1}:World)=World.on {v with drawn:=v.drawn+1} T' (d'+1):=rfl
   have e2:(v.on T' d').tape (v.on T' d').drawn q=v.tape v.drawn q:=e0
   rw[e1,e2,show d'+(1+k)=d'+1+k by omega]
   exact this
 |program c ih=>
  intro v es r aJ h hr;obtain⟨k,U,h2,h3⟩:=ih P h hr;exact⟨k,U,h2,fun T' d' hA=>h3 T' d' hA⟩
 |mark m c ih=>
  intro v es r aJ h hr;obtain⟨k,U,h2,h3⟩:=ih h hr;exact⟨k,U,h2,fun T' d' hA=>h3 T' d' hA⟩
 |freeze a n c ih=>intro v es r aJ h;exact h.elim
 |setObj r0 o c ih=>intro v es r aJ h;exact h.elim
 |sys c k ih=>intro v es r aJ h;exact h.elim
end Go.Proofs.YtjklkppncmhehaaGreat.Sr
namespace Go.Proofs.YtjklkppncmhehaaGreat.Sr
open Go Go.Conc
def Nc:Result Next→Prop
 | .ok (.value _) _| .ok .skip _| .ok (.enter ..) _| .halt (.panic _) _| .halt (.stuck _) _=>True
 | .halt (.unsupported u) _=>∀g,u≠.initOrder g
 |_=>False
inductive gK (Q:Program):Frame→List Frame→World→Prop
 |bq {fr fr1:Frame} {cs cs1:List Frame} {v:World} (h:∀w,stepG Q true (G fr cs) w= .go (G fr1 cs1) w #[]):gK Q fr cs v
 |dead {fr:Frame} {cs:List Frame} {v:World} (h:∀w,∃o w' es,stepG Q true (G fr cs) w= .ended o w' es):gK Q fr cs v
 |draw (fn:FuncId) (tm:Array Value) (id:Nat) (ops:Array Oper) (k:List Item) {cs:List Frame} {v:World}:gK Q (aA fn tm (.code (.region id ops true)::k) .run) cs v
 |op {fn:FuncId} {tm:Array Value} {ops:Array Oper} {i:Nat} {rest:List Nat} {k:List Item} {o:Oper} {cs:List Frame} {v:World} (ho:ops[i]?=some o) (hw:Region.wanted o (yielded ops tm)=true)
   (hs:SF Q (execOp (Act.eval ⟨tm,[]⟩) o) v) (hr:Nc ((execOp (Act.eval ⟨tm,[]⟩) o).runT Q v #[]).1):gK Q (aA fn tm (.inRegion ops (i::rest)::k) .run) cs v
 |ret {fn:FuncId} {tm:Array Value} {todo:List Item} {fr:Func} {c:Frame} {cs:List Frame} {v:World} (hf:Q.funcs[fn]?=some fr) (hs:SF Q (results fr tm) v):gK Q (aA fn tm todo .returning) (c::cs) v
section
variable {Q:Program}
theorem jY (b:Bool)(fn:FuncId)(t:Array Value)(id:Nat)(ops:Array Oper)(k:List Item)(cs:List Frame)(z:World):stepG Q b (G (aA fn t (.code (.region id ops true)::k) .run) cs) z=
  .go (G (aA fn t (.inRegion ops (Region.schedule (Q.follows .mixedOrders) ops (z.tape z.drawn (.order fn id)))::k) .run) cs) {z with drawn:=z.drawn+1} #[]:=by
 simp[G,aA,stepG,stepG.exec,choose,Sem.run,Question.forced,Question.cut]
theorem iK {fr:Frame}{cs:List Frame}{s:Sem Next}{w w1:World}{h0:Halt}{es:Array Event}(h:s.runT Q w #[]=(.halt h0 w1,es))(hb:(∃z,h0= .stuck z)∨∃u,h0= .unsupported u∧∀g,u≠.initOrder g):
  ∃o w' aJ,stepG.apply Q true fr cs none s w= .ended o w' aJ:=by
 rcases hb with⟨z,rfl⟩|⟨u,rfl,hu⟩
 ·exact⟨_,_,_,by simp only[stepG.apply,h,if_true,GStep.after];rfl⟩
 ·cases u with
  |initOrder g=>exact absurd rfl (hu g)
  |_=>exact⟨_,_,_,by simp only[stepG.apply,h,if_true,GStep.after];rfl⟩
theorem CD {mn:Bool}{fn:FuncId}{fr:Func}{t:Array Value}{todo:List Item}{cs:List Frame}{w w1:World}{h0:Halt}{es:Array Event}(hf:Q.funcs[fn]?=some fr)(h:(results fr t).runT Q w #[]=(.halt h0 w1,es)):
  ∃o w' aJ,stepG Q mn (G (aA fn t todo .returning) cs) w= .ended o w' aJ:=by
 cases h0<;>exact⟨_,_,_,by simp only[G,aA,stepG,unwind,hf,h,GStep.after];rfl⟩
theorem gK.on {fr:Frame}{cs:List Frame}{v:World}(h:gK Q fr cs v):
  (∃fr1 cs1 v1 es k,v1.tape=v.tape∧v1.drawn=v.drawn+k∧stepG Q true (G fr cs) v= .go (G fr1 cs1) v1 es∧∀T' d',jE v.tape v.drawn T' d' k→stepG Q true (G fr cs) (v.on T' d')= .go (G fr1 cs1) (v1.on T' (d'+k)) es)∨
  ((∃o w es,stepG Q true (G fr cs) v= .ended o w es)∧∃k,∀T' d',jE v.tape v.drawn T' d' k→∃o w es,stepG Q true (G fr cs) (v.on T' d')= .ended o w es):=by
 cases h with
 |bq h=>exact .inl ⟨_,_,v,#[],0,rfl,rfl,h v,fun T' d' _=>h _⟩
 |dead h=>exact .inr ⟨h v,0,fun T' d' _=>h _⟩
 |draw fn tm id ops k=>
  refine .inl ⟨_,_,_,_,1,?_,?_,jY ..,fun T' d' hA=>?_⟩
  ·rfl
  ·rfl
  ·rw[jY]
   have e0:T' d' (.order fn id)=v.tape v.drawn (.order fn id):=by have:=hA 0 (by omega) (.order fn id);simpa using this
   have e1:(v.on T' d').tape (v.on T' d').drawn (.order fn id)=v.tape v.drawn (.order fn id):=e0
   rw[e1];rfl
 | @op fn tm ops i rest k o _ _ ho hw hs hr=>
   have e:∀w,stepG Q true (G (aA fn tm (.inRegion ops (i::rest)::k) .run) cs) w=stepG.apply Q true (aA fn tm (.inRegion ops (i::rest)::k) .run) cs none (execOp (Act.eval ⟨tm,[]⟩) o) w:=
    fun w=>stepG_oper (b:=aA fn #[] [] .run) (a:=⟨tm,[]⟩) ho hw
   have ht:∃rn l k',(aA fn tm (.inRegion ops (i::rest)::k) .run).todo= .inRegion rn l::k':=⟨_,_,_,rfl⟩
   simp only[e];generalize hq:(execOp (Act.eval ⟨tm,[]⟩) o).runT Q v #[]=q at hr;obtain⟨r,es⟩:=q;obtain⟨k2,U,h2,h3⟩:=hs.on hq
   cases r with
   |ok a v1=>
    cases a with
    |value x=>exact .inl ⟨_,_,v1,_,k2,U,h2,hY rfl hq,fun T' d' hA=>hY rfl (h3 T' d' hA).1⟩
    |skip=>exact .inl ⟨_,_,v1,_,k2,U,h2,jk rfl hq,fun T' d' hA=>jk rfl (h3 T' d' hA).1⟩
    |enter f args=>exact .inl ⟨_,_,v1,_,k2,U,h2,h_ rfl ht hq,fun T' d' hA=>h_ rfl ht (h3 T' d' hA).1⟩
    |_=>exact hr.elim
   |halt h0 v1=>
    cases h0 with
    |panic x=>exact .inl ⟨_,_,v1,_,k2,U,h2,ia rfl hq,fun T' d' hA=>ia rfl (h3 T' d' hA).1⟩
    |stuck z=>exact .inr ⟨iK hq (.inl ⟨z,rfl⟩),k2,fun T' d' hA=>iK (h3 T' d' hA).1 (.inl ⟨z,rfl⟩)⟩
    |unsupported u=>exact .inr ⟨iK hq (.inr ⟨u,rfl,hr⟩),k2,fun T' d' hA=>iK (h3 T' d' hA).1 (.inr ⟨u,rfl,hr⟩)⟩
    |_=>exact hr.elim
 | @ret fn tm todo fr c cs _ hf hs=>
   generalize hq:(results fr tm).runT Q v #[]=q;obtain⟨r,es⟩:=q;obtain⟨k2,U,h2,h3⟩:=hs.on hq
   cases r with
   |ok a v1=>exact .inl ⟨_,_,v1,_,k2,U,h2,lu hf hq,fun T' d' hA=>lu hf (h3 T' d' hA).1⟩
   |halt h0 v1=>exact .inr ⟨CD hf hq,k2,fun T' d' hA=>CD hf (h3 T' d' hA).1⟩
inductive Ends (Q:Program) (Stop:Frame→List Frame→World→Prop):Frame→List Frame→World→Prop
 |stop {fr:Frame} {cs:List Frame} {v:World} (h:Stop fr cs v):Ends Q Stop fr cs v
 |step {fr:Frame} {cs:List Frame} {v:World} (U:∀T d,gK Q fr cs (v.on T d)→∃eG bK v' es,stepG Q true (G fr cs) (v.on T d)= .go (G eG bK) v' es)
   (h2:∀T d eG bK v' es,gK Q fr cs (v.on T d)→stepG Q true (G fr cs) (v.on T d)= .go (G eG bK) v' es→Ends Q Stop eG bK v'):Ends Q Stop fr cs v
theorem Kq {fr eG:Frame}{cs bK:List Frame}{w w':World}(h:lone fr cs w=lone eG bK w'):fr=eG∧cs=bK∧w=w':=by
 unfold lone at h;injection h with U h2 h3
 have:({frame:=fr,callers:=cs,status:= .running,dying:=none}:Goroutine)={frame:=eG,callers:=bK,status:= .running,dying:=none}:=by
  have:=congrArg (fun(a:Array Goroutine)=>a[0]?) h2
  simpa using this
 injection this with h4 h5
 exact⟨h4,h5,U⟩
theorem Nd {fr eG:Frame}{cs bK:List Frame}{w w':World}{es:Array Event}(h:stepG Q true (G fr cs) w= .go (G eG bK) w' es):step Q (lone fr cs w)= .next (lone eG bK w'):=
 step_lone_go (by unfold G at h;rw[h];rfl)
theorem CE {fr:Frame}{cs:List Frame}{w w':World}{o:Outcome}{es:Array Event}(h:stepG Q true (G fr cs) w= .ended o w' es):step Q (lone fr cs w)= .ended o w':=
 step_lone_ended (by unfold G at h;rw[h];rfl)
theorem Nf {Stop:Frame→List Frame→World→Prop}(hS:∀fr cs v T d,Stop fr cs v→Stop fr cs (v.on T d)){fr:Frame}{cs:List Frame}{v:World}
  (H:∀T,∃N eG bK v',runN Q N (lone fr cs (v.on T 0))= .next (lone eG bK v')∧Stop eG bK v'):Ends Q Stop fr cs v:=by
 classical
 refine Classical.byContradiction fun cG=>?_;let S:={x:Frame×List Frame×World //¬Ends Q Stop x.1 x.2.1 x.2.2}
 have hx:∀x:S,∃(T:Nat→Question→Nat) (d k:Nat) (y:S),∀T' d',jE T d T' d' k→(∃o w es,stepG Q true (G x.1.1 x.1.2.1) (x.1.2.2.on T' d')= .ended o w es)∨
   (∃es,stepG Q true (G x.1.1 x.1.2.1) (x.1.2.2.on T' d')= .go (G y.1.1 y.1.2.1) (y.1.2.2.on T' (d'+k)) es):=by
  rintro⟨⟨fr,cs,v⟩,hn⟩;dsimp only at hn⊢
  by_cases U:∀T d,gK Q fr cs (v.on T d)→∃eG bK v' es,stepG Q true (G fr cs) (v.on T d)= .go (G eG bK) v' es
  ·by_cases h2:∀T d eG bK v' es,gK Q fr cs (v.on T d)→stepG Q true (G fr cs) (v.on T d)= .go (G eG bK) v' es→Ends Q Stop eG bK v'
   ·exact absurd (.step U h2) hn
   ·simp only[Classical.not_forall]at h2
    obtain⟨T,d,eG,bK,v',es,ht,hg,Vc⟩:=h2;rcases ht.on with⟨fr1,cs1,v1,Ng,k,e1,e2,e3,e4⟩|⟨⟨o,w,Ng,e1⟩,_⟩
    ·rw[e3]at hg
     injection hg with uF Yd _
     unfold G at uF;injection uF with Ye Yf
     subst Yd Ye Yf;refine⟨T,d,k,⟨(fr1,cs1,v1),Vc⟩,fun T' d' hA=> .inr ⟨Ng,?_⟩⟩
     exact e4 T' d' hA
    ·rw[e1]at hg;cases hg
  ·simp only[Classical.not_forall]at U
   obtain⟨T,d,ht,hg⟩:=U;rcases ht.on with⟨fr1,cs1,v1,Ng,k,e1,e2,e3,e4⟩|⟨_,k,e2⟩
   ·exact absurd ⟨_,_,_,_,e3⟩ hg
   ·exact⟨T,d,k,⟨(fr,cs,v),hn⟩,fun T' d' hA=> .inl (e2 T' d' hA)⟩
 let Tt:S→Nat→Question→Nat:=fun x=>(hx x).choose
 let dd:S→Nat:=fun x=>(hx x).choose_spec.choose
 let kk:S→Nat:=fun x=>(hx x).choose_spec.choose_spec.choose
 let nx:S→S:=fun x=>(hx x).choose_spec.choose_spec.choose_spec.choose
 have hp:∀x:S,∀T' d',jE (Tt x) (dd x) T' d' (kk x)→(∃o w es,stepG Q true (G x.1.1 x.1.2.1) (x.1.2.2.on T' d')= .ended o w es)∨
   (∃es,stepG Q true (G x.1.1 x.1.2.1) (x.1.2.2.on T' d')= .go (G (nx x).1.1 (nx x).1.2.1) ((nx x).1.2.2.on T' (d'+kk x)) es):=fun x=>(hx x).choose_spec.choose_spec.choose_spec.choose_spec
 clear_value Tt dd kk nx
 let s:Nat→S:=fun n=>Nat.rec ⟨(fr,cs,v),cG⟩ (fun _ x=>nx x) n
 let D:Nat→Nat:=fun n=>Nat.rec 0 (fun i a=>a+kk (s i)) n
 have s0:s 0=⟨(fr,cs,v),cG⟩:=rfl
 have s1:∀i,s (i+1)=nx (s i):=fun i=>rfl
 have D0:D 0=0:=rfl
 have D1:∀i,D (i+1)=D i+kk (s i):=fun i=>rfl
 clear_value s D
 have mono:∀i j,i≤j→D i≤D j:=by
  intro i j vr;induction vr with
  |refl=>exact Nat.le_refl _
  |step _ ih=>rw[D1];omega
 let T:Nat→Question→Nat:=fun p q=>if h:∃i,D i≤p∧p<D (i+1)then Tt (s h.choose) (dd (s h.choose)+(p-D h.choose)) q else 0
 have hT:∀i,jE (Tt (s i)) (dd (s i)) T (D i) (kk (s i)):=by
  intro i j hj q;have h:∃i',D i'≤D i+j∧D i+j<D (i'+1):=⟨i,by omega,by rw[D1];omega⟩
  have hc:=h.choose_spec;have he:h.choose=i:=by
   rcases Nat.lt_trichotomy h.choose i with aj|heq|Nh
   ·have:=mono (h.choose+1) i aj;omega
   ·exact heq
   ·have:=mono (i+1) h.choose Nh;rw[D1]at this;omega
  show(if h:∃i',D i'≤D i+j∧D i+j<D (i'+1)then Tt (s h.choose) (dd (s h.choose)+(D i+j-D h.choose)) q else 0)=_
  rw[dif_pos h,he];congr 1
  omega
 clear_value T
 have iE:∀i,(∃j,j<i∧∃o w,runN Q (j+1) (lone fr cs (v.on T 0))= .ended o w)∨runN Q i (lone fr cs (v.on T 0))= .next (lone (s i).1.1 (s i).1.2.1 ((s i).1.2.2.on T (D i))):=by
  intro i;induction i with
  |zero=>right;rw[s0,D0];rfl
  |succ i ih=>
   rcases ih with⟨j,hj,h⟩|ih
   ·exact .inl ⟨j,by omega,h⟩
   ·rcases hp (s i) T (D i) (hT i)with⟨o,w,es,h⟩|⟨es,h⟩
    ·refine .inl ⟨i,by omega,o,w,?_⟩
     rw[runN_add,ih];show(match step Q _ with| .next m=>Stepped.next m|e=>e)=_
     rw[CE h]
    ·right
     rw[runN_add,ih,s1,D1];show(match step Q _ with| .next m=>Stepped.next m|e=>e)=_
     rw[Nd h]
 obtain⟨N,eG,bK,v',hN,bj⟩:=H T;rcases iE N with⟨j,hj,o,w,h⟩|h
 ·obtain⟨c,rfl⟩:∃c,N=(j+1)+c:=⟨N-(j+1),by omega⟩
  rw[runN_add,h]at hN
  cases hN
 ·rw[hN]at h
  injection h with h
  obtain⟨U,h2,h3⟩:=Kq h;have:=(s N).2
  refine this (.stop ?_);rw[←U,←h2];have h4:(s N).1.2.2=v'.on (s N).1.2.2.tape (s N).1.2.2.drawn:=by rw[h3];rfl
  rw[h4];exact hS _ _ _ _ _ bj
end
end Go.Proofs.YtjklkppncmhehaaGreat.Sr
namespace Go.Proofs.YtjklkppncmhehaaGreat.Sr
open Go Go.Conc
section
variable {τ:TypeId}{P' P:Program}{α β:Type}{RA:ao→α→β→Prop}
theorem dm.sf {Q:Program}{s:Sem α}:∀{v:World},dm τ s→SF Q s v:=by
 induction s with
 |halt h0=>intro v h;trivial
 |new o c ih=>intro v h;exact ih _ (h _)
 |shape r c ih=>intro v h;exact ih _ (h _)
 |frozen a c ih=>intro v h;exact ih _ (h _)
 |choose q c ih=>
  intro v h;simp only[SF];split
  ·exact ih _ (h _)
  ·exact ih _ (h _)
 |program c ih=>intro v h;exact ih _ (h _)
 |mark m c ih=>intro v h;exact ih h
 |_=>intro v h;exact h.elim
theorem pR {v:World}{a:Addr}(h:∃o,v.heap[a.block]?=some o∧zK o):∀r u,v.heap[a.block]?≠some (.view r u):=by
 obtain⟨o,ho,hb⟩:=h;rintro r u e;rw[ho]at e;rcases hb with⟨us,e',fz,rfl⟩|⟨x,l,rfl⟩<;>cases e
theorem SR.sf {s:Sem α}{s':Sem β}:∀{m:ao} {v w:World},SR τ P' P RA m s s'→WR m v w→SF P' s v:=by
 induction s generalizing s' with
 |pure a=>intro m v w h hw;trivial
 |halt h0=>intro m v w h hw;trivial
 |load md a c ih=>
  intro m v w h hw;obtain⟨a',k',rfl,ha,hk⟩:=h;obtain⟨nT,eC,_⟩:=hw.cell ha;simp only[SF]
  cases hv:v.cell? a with
  |none=>exact pR eC
  |some x=>
   obtain⟨y,hy,kv⟩:=nT x hv;exact ih x (hk m x y (ao.le_refl m) kv) hw
 |store md a x c ih=>
  intro m v w h hw;obtain⟨a',x',k',rfl,ha,hx,hk⟩:=h;obtain⟨nT,eC,pA⟩:=hw.cell ha;simp only[SF];right
  cases hv:v.cell? a with
  |none=>exact pR eC
  |some u=>exact .inr (ih (hk m (ao.le_refl m)) (hw.set ha hx))
 |new o c ih=>
  intro m v w h hw;obtain⟨o',k',rfl,ho,hk⟩:=h;obtain⟨hle,oc⟩:=hw.new ho;exact ih v.heap.size (hk _ v.heap.size w.heap.size hle (by simp[ao.put])) oc
 |choose q c ih=>
  intro m v w h hw;obtain⟨k',rfl,hk⟩:=h;simp only[SF];split
  ·exact ih 0 (hk 0) hw
  ·exact ih (q.cut (v.tape v.drawn q)) (v:={v with drawn:=v.drawn+1}) (w:={w with tape:=v.tape,drawn:=v.drawn+1}) (hk _) ⟨hw.inj,hw.jj,hw.os,rfl,rfl⟩
 |program c ih=>
  intro m v w h hw;rcases h with h|⟨k',rfl,hk⟩
  ·exact dm.sf (s:=c P') h
  ·exact ih P' hk hw
 |mark md c ih=>
  intro m v w h hw
  cases md with
  |noRoom=>
   obtain⟨k',rfl,hk⟩:=h;exact ih hk hw
  |_=>exact h.elim
 |getObj r c ih=>
  intro m v w h hw;obtain⟨r',k',rfl,dE,hk⟩:=h;obtain⟨o,p,ho,hp,aS⟩:=hw.jj _ _ dE;intro o' nU;rw[ho]at nU
  cases nU;rcases aS with⟨us,vs,e,fz,gz,rfl,rfl,hf,hs,hx⟩|⟨x,y,l,rfl,rfl,kv⟩
  ·exact .inl ⟨_,_,_,rfl⟩
  ·exact .inr (ih (.number x l) (hk x y l kv) hw)
 |shape r c ih=>
  intro m v w h hw;rcases h with h|⟨r',k',rfl,dE,hk⟩
  ·show SF P' (c _) v
   exact dm.sf (h _)
  ·exact ih _ (hk _) hw
 |frozen a c ih=>
  intro m v w h hw;show SF P' (c _) v
  exact dm.sf (h _)
 |freeze a n c ih=>intro m v w h;exact h.elim
 |setObj r o c ih=>intro m v w h;exact h.elim
 |sys c k2 ih=>intro m v w h;exact h.elim
end
section
variable {τ:TypeId}{P:Program}{F:Array Func}{spec:FuncId→Bool}{m:ao}
theorem yU {s:Sem Next}{s':Sem Next}{v w:World}(h:aR τ P F iJ m s s')(hw:WR m v w):Nc (s.runT (Program.mk (Program.toTables P) F) v #[]).1:=by
 cases hr:s.runT (Program.mk (Program.toTables P) F) v #[]with
 |mk r es=>
  cases r with
  |ok a v1=>
   obtain⟨n,b,w',us,iw,_,_,_,r4,_,_⟩:=h.run (fs:= #[]) hw hr
   cases r4<;>trivial
  |halt h0 v1=>
   have hp:=h.run_halt hw hr
   cases h0<;>first|trivial|exact hp|exact hp.elim
theorem vt {Q:Program}{fn:FuncId}{t:Array Value}{c:Operand}{x y:Code}{k:List Item}{cs:List Frame}(hb:∀b,Act.eval ⟨t,[]⟩ c≠.bool b)(w:World):∃o w' es,stepG Q true (G (aA fn t (.code (.cond c x y)::k) .run) cs) w= .ended o w' es:=by
 have he:(Frame.mk fn t (.code (.cond c x y)::k) [] .run .normal none).eval c=Act.eval ⟨t,[]⟩ c:=by cases c<;>rfl
 simp only[G,aA,stepG,stepG.exec,he]
 cases hv:Act.eval ⟨t,[]⟩ c with
 |bool b=>exact absurd hv (hb b)
 |_=>exact⟨_,_,_,rfl⟩
theorem CF (B:fV τ P F spec m.good){f' f:Frame}{fs' fs e':List Frame}{v w:World}(h:FR P spec m f' f)(hs:jC P spec m fs' fs)(hw:WR m v w)(hl:¬(f'.mode= .returning∧fs'=[])):
  gK (Program.mk (Program.toTables P) F) f' (fs'++e') v:=by
 cases h with
 | @mk fn aT tm todo mode eF hg ha ok hm=>
   rcases hm with rfl|rfl
   ·cases todo with
    |nil=>exact .bq fun w=>stepG_end (b:=aA fn #[] [] .run) (a:=⟨aT,[]⟩)
    |cons i k=>
     have jl:=ok i (by simp)
     cases i with
     |code c=>
      cases c with
      |skip=>exact .bq fun w=>stepG_skip (b:=aA fn #[] [] .run) (a:=⟨aT,[]⟩)
      |label l=>exact .bq fun w=>stepG_label (b:=aA fn #[] [] .run) (a:=⟨aT,[]⟩)
      |ret=>exact .bq (fr1:=aA fn aT (.code .ret::k) .returning) (cs1:=fs'++e') fun w=>by simp[G,aA,stepG,stepG.exec]
      |exit id=>
       cases hx:exitTo id k with
       |none=>exact .dead fun w=>⟨_,_,_,by simp only[G,aA,stepG,stepG.exec,hx,Option.elim_none];rfl⟩
       |some k'=>exact .bq fun w=>stepG_exit (b:=aA fn #[] [] .run) (a:=⟨aT,[]⟩) hx
      |seq x y=>exact .bq fun w=>stepG_seq (b:=aA fn #[] [] .run) (a:=⟨aT,[]⟩)
      |block id x=>exact .bq fun w=>stepG_block (b:=aA fn #[] [] .run) (a:=⟨aT,[]⟩)
      |loop x=>exact .bq fun w=>stepG_loop (b:=aA fn #[] [] .run) (a:=⟨aT,[]⟩)
      |cond c x y=>
       cases U:Act.eval ⟨aT,[]⟩ c with
       |bool b=>exact .bq fun w=>stepG_cond (b:=aA fn #[] [] .run) (a:=⟨aT,[]⟩) U
       |_=>exact .dead (vt fun b hb=>by rw[U]at hb;cases hb)
      |region id ops draw=>
       cases draw with
       |false=>exact .bq fun w=>stepG_region (b:=aA fn #[] [] .run) (a:=⟨aT,[]⟩)
       |true=>exact .draw fn aT id ops k
      |_=>simp[cH,eV]at jl
     |inBlock id=>exact .bq fun w=>stepG_inBlock (b:=aA fn #[] [] .run) (a:=⟨aT,[]⟩)
     |inLoop x=>exact .bq fun w=>stepG_inLoop (b:=aA fn #[] [] .run) (a:=⟨aT,[]⟩)
     |inRegion ops l=>
      cases l with
      |nil=>exact .bq fun w=>stepG_region_end (b:=aA fn #[] [] .run) (a:=⟨aT,[]⟩)
      |cons j rest=>
       have skip:((ops[j]?).map (Region.wanted · (yielded ops aT))).getD false=false→gK (Program.mk (Program.toTables P) F) (aA fn aT (.inRegion ops (j::rest)::k) .run) (fs'++e') v:=by
        intro hn;refine .bq (fr1:=(aA fn aT (.inRegion ops (j::rest)::k) .run).finish undef) (cs1:=fs'++e') fun z=>?_;simp only[G,aA,stepG,stepG.exec];exact if_neg (by rw[hn];simp)
       cases ho:ops[j]? with
       |none=>exact skip (by rw[ho];rfl)
       |some o=>
        cases oc:Region.wanted o (yielded ops aT)with
        |false=>exact skip (by rw[ho];exact oc)
        |true=>
         have M_:gG P m.good o.op=true:=by
          simp only[cH]at jl;exact Array.all_eq_true_iff_forall_mem.1 jl o (Array.mem_of_getElem? ho)
         have jD:=qy (F:=F) B.rt B.globals B.fns (ha.oper B.bS) o M_ fun f=>⟨rfl,rfl⟩
         exact .op ho oc (jD.sf hw) (yU jD hw)
     |_=>simp[cH]at jl
   ·cases hs with
    |nil=>exact absurd ⟨rfl,rfl⟩ hl
    | @cons c' c dP gs hc Nb dJ=>
      obtain⟨fr,e1,e2,e3⟩:=B.same fn hg eF;exact .ret e1 ((gJ (F:=F) (m:=m) B.rt fr ha).sf hw)
def Passes (Q:Program)(f:Frame):Prop:=f.defers=[]∧(∃fr,Q.funcs[f.fn]?=some fr)∧f.mode= .run
theorem jc {Q:Program}{b:Bool}{f c:Frame}{cs:List Frame}{chain:List PanicEntry}(U:f.defers=[])(h2:∃fr,Q.funcs[f.fn]?=some fr)(h3:f.mode= .panicking chain)(w:World):
  stepG Q b (G f (c::cs)) w= .go (G (c.raise chain) cs) w #[]:=by
 obtain⟨fr,h2⟩:=h2;simp[G,stepG,h3,unwind,U,Frame.catches,h2]
theorem vu {Q:Program}{Stop:Frame→List Frame→World→Prop}{c:Frame}(hc:∀f cs v,Stop f cs v→cs=[c]){chain:List PanicEntry}{v:World}:
  ∀(cs:List Frame) (f:Frame),(∀x∈cs,Passes Q x)→f.defers=[]→(∃fr,Q.funcs[f.fn]?=some fr)→f.mode= .panicking chain→Ends Q Stop f (cs++[c]) v→
   ¬Ends Q Stop (c.raise chain) [] v→∃f:Frame,f.mode= .panicking chain∧∃v',v'.heap=v.heap∧Stop f [c] v'
 |[],f,_,U,h2,h3,h,pD=>by
  cases h with
  |stop h=>exact⟨f,h3,v,rfl,h⟩
  |step k1 k2=>
   have ht:gK Q f [c] (v.on v.tape v.drawn):= .bq fun w=>jc U h2 h3 w
   exact absurd (k2 v.tape v.drawn _ _ _ _ ht (jc U h2 h3 _)) pD
 |d::cs,f,hp,U,h2,h3,h,pD=>by
  obtain⟨d1,d2,d3⟩:=hp d (by simp)
  cases h with
  |stop h=>
   have:=hc _ _ _ h
   simp at this
  |step k1 k2=>
   have ht:gK Q f (d::(cs++[c])) (v.on v.tape v.drawn):= .bq fun w=>jc U h2 h3 w
   have h':=k2 v.tape v.drawn _ _ _ _ ht (jc U h2 h3 _);refine vu hc cs (d.raise chain) (fun x hx=>hp x (by simp[hx])) ?_ ?_ ?_ h' pD
   ·unfold Frame.raise;rw[d3];exact d1
   ·unfold Frame.raise;rw[d3];exact d2
   ·unfold Frame.raise;rw[d3]
end
end Go.Proofs.YtjklkppncmhehaaGreat.Sr
