/-
What is proved: of makeSlice, append, slice, max and min, what each does to trees. No condition. a region's operations, whatever the order in which they are taken, come to where the order of the text comes to ('region_any', 'region_text'). No condition.
-/
import Derived.Test.YtjklkppncmhehaaGreatRa27
import Derived.Test.YtjklkppncmhehaaGreatRa13
set_option linter.unusedVariables false
set_option linter.unusedSimpArgs false
namespace Go.Proofs.YtjklkppncmhehaaGreat.T
open Go Go.RowKit
section
variable {P:Program}{E:List PanicEntry→World→Prop}{nt:Nat}{o:Oper}{s:ae}
theorem yC {t b:Nat}{lx cx:Operand}(ho:o.op= .makeSlice t lx cx)(hd:bu o nt=true){d de:TD}{e:TypeId}(ht:aq P t=some d)(hk:d.k= .slice e)(he:aq P e=some de)(h0:0<de.size){k k':IntKind}{n m:Int}
  (hl:(s.ev lx).i?=some (k,n)) (hc:(s.ev cx).i?=some (k',m)) (U:0≤n) (h2:n≤m) (h3:(de.bytes:Int)*m≤281474976710656) (h4:m≤9223372036854775807):
  dR P E nt o [(b,none)] (bF s.env [lx,cx]) (.s (.own b)) [(b,.rows e de.size (List.replicate n.toNat (de.zero.map jr)))]:=by
 refine .act hd fun C env get a w ρ D hf hi hR=>?_;have el:=GV.eY hl (aW hR hi (x:=lx) (by simp))
 have ec:=GV.eY hc (aW hR hi (x:=cx) (by simp))
 obtain⟨i,u,z,q1,q2,q3,q4,q5,q6,q7⟩:=dX he;have iE:=run_make (P:=P) (w:=w) t e i z (kr ht hk) q1 q3 k k' n m U h2 (by rw[q5];exact h3) h4
 have Rt:z.cells.size=de.size:=by have:=(cW he).2.1;rw[←q6]at this;simpa using this
 obtain⟨ρ',g1,g2⟩:=FT hR (hf _ (List.mem_cons_self ..)) (arr:=madeCells z.cells (m.toNat*i.size)) (e:=e) (k:=de.size) (c:=m.toNat) (xs:=List.replicate n.toNat (de.zero.map jr)) h0 (by simp;omega) (by simp only[maxLen];omega) (by simp[madeCells,q4]) (fun j y hy=>by
  have hj:j<n.toNat:=by have:=(List.getElem?_eq_some_iff.1 hy).1;simpa using this
  rw[List.getElem?_replicate,if_pos hj]at hy
  cases hy;refine⟨by rw[List.length_map,(cW he).2.1],fun p r hp=>?_⟩
  rw[List.getElem?_map,Option.map_eq_some_iff]at hp;obtain⟨x,hx,rfl⟩:=hp;have tn:p<de.size:=by rw[←(cW he).2.1];exact(List.getElem?_eq_some_iff.1 hx).1
  have aj:j*de.size+p<m.toNat*i.size:=by rw[q4];exact ni (by omega) tn
  have WQ:(j*de.size+p) % z.cells.size=p:=by rw[Rt,Nat.mul_comm,Nat.mul_add_mod,Nat.mod_eq_of_lt tn]
  have WS:z.cells[p]?=some x:=by rw[←q6]at hx;simpa using hx
  have:(madeCells z.cells (m.toNat*i.size)).getD (j*de.size+p) undef=x:=by
   have aV:p<z.cells.size:=by omega
   simp[madeCells,aj,WQ,Array.getD_eq_getD_getElem?];rw[Array.getElem?_eq_getElem aV]at WS;simpa[getElem!_pos z.cells p aV]using WS
  rw[this];exact pe ((cW he).2.2.1 x (List.mem_of_getElem? hx)))
 rw[List.length_replicate]at g2;exact⟨_,_,ρ',D,by simp[execOp,ho,el,ec,iE],g1,g2⟩
def eZ (w:World)(A:Option Addr)(n:Nat):List Value:=(List.range n).map fun t=>match A with
 |some a=>(w.cell? (a.add t)).getD undef
 |none=>undef
theorem uh {w:World}{D:Nat→Prop}{A:Option Addr}{k:Nat}{ys:List (List RT)}(h0:0<k)(h:Row w D A k ys){t:Nat}(ht:t<ys.length*k):
  ∃b o v y r,A=some ⟨b,o,none⟩∧w.cell? ⟨b,o+t,none⟩=some v∧(eZ w A (ys.length*k))[t]?=some v∧ys[t / k]?=some y∧y[t % k]?=some r∧cb w D v r:=by
 have hi:t / k<ys.length:=(Nat.div_lt_iff_lt_mul h0).2 ht
 obtain⟨U,b,o,rfl,h2⟩:=h (t / k) ys[t / k] (List.getElem?_eq_getElem hi);have hm:t % k<ys[t / k].length:=by rw[U];exact Nat.mod_lt _ h0
 obtain⟨v,hv,hr⟩:=h2 (t % k) _ (List.getElem?_eq_getElem hm);have e:t / k*k+t % k=t:=by rw[Nat.mul_comm];exact Nat.div_add_mod t k
 rw[e]at hv;refine⟨b,o,v,_,_,rfl,hv,?_,List.getElem?_eq_getElem hi,List.getElem?_eq_getElem hm,hr⟩;simp[eZ,ht,add_lit,hv]
theorem yD {w':World}{ρ:Nat→Option Value}{D:Nat→Prop}{e k n:Nat}{v':Value}{xs ys:List (List RT)}{bS news:List Value}(h0:0<k)(hx:∀(i:Nat) (y:List RT),xs[i]?=some y→y.length=k∧∀(j:Nat) (r:RT),y[j]?=some r→cb w' D (bS.getD (i*k+j) undef) r)
  (Mi:bS.length=xs.length*k) (hy:∀(i:Nat) (y:List RT),ys[i]?=some y→y.length=k∧∀(j:Nat) (r:RT),y[j]?=some r→cb w' D (news.getD (i*k+j) undef) r) (hn:n=(xs++ys).length) (ho:w'.ownsRow 0 e k v' n (bS++news)):dt ρ w' D (some v') (.rows e k (xs++ys)):=by
 have db:∀(i:Nat) (y:List RT),(xs++ys)[i]?=some y→y.length=k∧∀(j:Nat) (r:RT),y[j]?=some r→cb w' D ((bS++news).getD (i*k+j) undef) r:=by
  intro i y wQ;rw[List.getElem?_append]at wQ;split at wQ
  ·rename_i aj
   obtain⟨a1,a2⟩:=hx i y wQ;refine⟨a1,fun j r hj=>?_⟩
   have wL:j<k:=by rw[←a1];exact(List.getElem?_eq_some_iff.1 hj).1
   have:i*k+j<bS.length:=by rw[Mi];exact ni aj wL
   rw[List.getD_eq_getElem?_getD,List.getElem?_append_left this,←List.getD_eq_getElem?_getD];exact a2 j r hj
  ·rename_i vR
   obtain⟨a1,a2⟩:=hy _ y wQ;refine⟨a1,fun j r hj=>?_⟩
   have aan:xs.length*k≤i*k:=Nat.mul_le_mul_right k (by omega)
   rw[List.getD_eq_getElem?_getD,List.getElem?_append_right (by rw[Mi];omega),←List.getD_eq_getElem?_getD,Mi,show i*k+j-xs.length*k=(i-xs.length)*k+j by rw[Nat.sub_mul];omega]
   exact a2 j r hj
 obtain⟨o1,o2⟩:=ho;rcases o2 with⟨rfl,hz⟩|⟨g,cap,cur,rfl,_,q1,q2,q3,q4,q5⟩
 ·have:xs++ys=[]:=List.eq_nil_of_length_eq_zero (by omega)
  exact⟨none,0,by rw[this];rfl,by rw[this];exact Nat.zero_le _,Nat.zero_le _,h0,fun i y h=>(db i y h).1,.inl ⟨rfl,this,rfl⟩⟩
 ·refine⟨_,cap,by rw[hn],by omega,q3,h0,fun i y h=>(db i y h).1,.inr ⟨g,cur,rfl,q1,q4,fun i y wQ j r hj=>?_⟩⟩
  obtain⟨a1,a2⟩:=db i y wQ;have wL:j<k:=by rw[←a1];exact(List.getElem?_eq_some_iff.1 hj).1
  have aj:i*k+j<n*k:=ni (by rw[hn];exact(List.getElem?_eq_some_iff.1 wQ).1) wL
  have:=a2 j r hj
  rw[←q5,List.getD_eq_getElem?_getD,List.getElem?_take,if_pos aj]at this;simpa[Array.getD_eq_getD_getElem?]using this
theorem yE {w:World}{ρ:Nat→Option Value}{D:Nat→Prop}{e k:Nat}{v:Option Value}{xs:List (List RT)}(h:dt ρ w D v (.rows e k xs)):∃A c bS,v=some (.slice A xs.length c)∧w.ownsRow 0 e k (.slice A xs.length c) xs.length bS∧0<k∧
  ∀(i:Nat) (y:List RT),xs[i]?=some y→y.length=k∧∀(j:Nat) (r:RT),y[j]?=some r→cb w D (bS.getD (i*k+j) undef) r:=by
 obtain⟨A,c,rfl,U,h2,h3,h4,h5⟩:=h;rcases h5 with⟨rfl,rfl,rfl⟩|⟨g,arr,rfl,h6,h7,h8⟩
 ·exact⟨none,0,[],rfl,World.ownsRow_nil w 0 e k,h3,fun i y hy=>by simp at hy⟩
 ·have hle:xs.length*k≤arr.size:=by rw[h7];exact Nat.mul_le_mul_right k U
  refine⟨_,c,arr.toList.take (xs.length*k),rfl,⟨by have:=hle;simp only[List.length_take,Array.length_toList,List.size_toArray];omega,.inr ⟨g,c,arr,rfl,Nat.zero_le _,h6,U,h2,h7,rfl⟩⟩,h3,fun i y hy=>⟨h4 i y hy,fun j r hj=>?_⟩⟩
  have wL:j<k:=by rw[←h4 i y hy];exact(List.getElem?_eq_some_iff.1 hj).1
  have aj:i*k+j<xs.length*k:=ni (List.getElem?_eq_some_iff.1 hy).1 wL
  rw[List.getD_eq_getElem?_getD,List.getElem?_take,if_pos aj];simpa[Array.getD_eq_getD_getElem?]using h8 i y hy j r hj
theorem uM (A:Option Addr)(n c:Nat):(Value.slice A n c).ownBlock=bo (some (.slice A n c)):=by cases A<;>rfl
def ae.pj (s:ae)(e k:Nat):GV→Option (List (List RT)×Option Nat)
 | .s (.own b)=>match s.get b with
   |some (.rows e' k' xs)=>if e=e'∧k=k' then some (xs,some b)else none
   |_=>none
 | .s (.r .nil)=>some ([],none)
 |_=>none
def r_:Option Nat→List (Nat×ak)
 |some b=>[(b,.dead)]
 |none=>[]
def zo (s:ae):Option Nat→List (Nat×Option ak)
 |some b=>[(b,s.get b)]
 |none=>[]
theorem IT {t b':Nat}{bx yx:Operand}(ho:o.op= .call {callee:= .builtin .append,args:= #[bx,yx],argTypes:= #[t,t]})(hd:bu o nt=true){d de:TD}{e:TypeId}(ht:aq P t=some d)(hk:d.k= .slice e)(he:aq P e=some de)(h0:0<de.size)
  {xs:List (List RT)} {ob:Option Nat} (hb:s.pj e de.size (s.ev bx)=some (xs,ob)) {k:Nat} {ys:List (List RT)} {fr:List (Nat×Option ak)} (hy:s.view (s.ev yx)=some (k,ys,fr)) (Al:k=de.size∨ys=[]) (BH:(xs.length+ys.length)*de.bytes≤140737488355328) (Uf:xs.length+ys.length≤maxLen):
  dR P E nt o ((b',none)::(zo s ob++fr)) (bF s.env [bx,yx]) (.s (.own b')) ((b',.rows e de.size (xs++ys))::r_ ob):=by
 refine .act hd fun C env get a w ρ D hf hi hR=>?_;have cv:=hf _ (List.mem_cons_self ..);simp only at cv
 have ZE:∀x∈zo s ob,get x.1=x.2:=fun x hx=>hf x (List.mem_cons_of_mem _ (List.mem_append_left _ hx))
 have ZF:∀x∈fr,get x.1=x.2:=fun x hx=>hf x (List.mem_cons_of_mem _ (List.mem_append_right _ hx))
 obtain⟨Ay,cy,ey,r1,r2,IU⟩:=tl hR hy ZF (aW hR hi (x:=yx) (by simp))
 have eJ:Row w D Ay de.size ys:=by
  rcases Al with rfl|rfl
  ·exact IU
  ·intro i e he;simp at he
 obtain⟨i,u,z,q1,q2,q3,q4,q5,q6,q7⟩:=dX he;have hu:=kr ht hk;have Rt:z.cells.size=de.size:=by have:=(cW he).2.1;rw[←q6]at this;simpa using this
 obtain⟨A,c,bS,ev,FU,Mi,iy,Pc⟩:∃A c bS,a.eval bx= .slice A xs.length c∧w.ownsRow 0 e de.size (.slice A xs.length c) xs.length bS∧bS.length=xs.length*de.size∧
   (∀(i:Nat) (y:List RT),xs[i]?=some y→y.length=de.size∧∀(j:Nat) (r:RT),y[j]?=some r→cb w D (bS.getD (i*de.size+j) undef) r)∧
   ((ob=none∧A=none)∨∃b,ob=some b∧(∃z,get b=some z∧z.live=true)∧ρ b=some (.slice A xs.length c)):=by
  have hr:=aW hR hi (x:=bx) (by simp)
  unfold ae.pj at hb;split at hb
  ·rename_i b eb
   split at hb
   ·rename_i e' k' WK hg
    split at hb
    ·rename_i hc
     obtain⟨rfl,rfl⟩:=hc
     cases hb;have rV:get b=some (.rows e de.size xs):=(ZE (b,s.get b) (List.mem_cons_self ..)).trans hg
     obtain⟨A,c,bS,a1,a2,a3,a4⟩:=yE (hR.blk b _ rV);rw[eb]at hr;generalize a.eval bx=v at hr⊢
     cases hr with|s hr=>cases hr with|own hr=>
     rw[a1]at hr
     cases hr;exact⟨A,c,bS,rfl,a2,a2.1,a4,.inr ⟨b,rfl,⟨_,rV,rfl⟩,a1⟩⟩
    ·cases hb
   ·cases hb
  ·rename_i eb
   cases hb;rw[eb]at hr;generalize a.eval bx=v at hr⊢
   cases hr with|s hr=>cases hr with|r hr=>
   cases hr;exact⟨none,0,[],rfl,World.ownsRow_nil w 0 e de.size,by simp,fun i y h=>(by simp at h),.inl ⟨rfl,rfl⟩⟩
  ·cases hb
 obtain⟨v',w',iE,Ug,sd,p9⟩:∃v' w',(execOp a.eval o).run P w= .ok (.value v') w'∧w'.ownsRow 0 e de.size v' (xs.length+ys.length) (bS++eZ w Ay (ys.length*de.size))∧w.grownBy w' (Value.slice A xs.length c).ownBlock∧(∀g,bo (some v')=some g→bo (some (.slice A xs.length c))=some g∨w.heap.size≤g):=by
  cases hA:Ay with
  |none=>
   have FN:ys=[]:=by
    cases ys with
    |nil=>rfl
    |cons y ys=>
     obtain⟨_,b,o,e',_⟩:=eJ 0 y rfl;rw[hA]at e';cases e'
   subst FN;rw[hA]at ey;have hcy:cy=0∨cy≠0:=by omega
   have iE:(execOp a.eval o).run P w= .ok (.value (.slice A xs.length c)) w:=by
    obtain⟨o1,o2⟩:=FU;have ZG:xs.length≤c:=by
     rcases o2 with⟨e1,e2⟩|⟨g,cap,cur,e1,_,_,e2,_⟩
     ·omega
     ·simp only[Value.slice.injEq]at e1
      omega
    simp only[execOp,ho,resolve,invoke,builtin,Builtin.append_,List.map_toArray,List.map_cons,List.map_nil,ev,ey,Sem.run_bind,Sem.run_pure,Result.andThen_ok,List.getElem?_toArray,List.getElem?_cons_zero,List.getElem?_cons_succ,run_underlying hu,oF he];simp[Builtin.lenOf,ZG,Builtin.firstCells];rcases o2 with⟨e1,e2⟩|⟨g,cap,cur,e1,_,q,_⟩
    ·simp only[Value.slice.injEq]at e1
     obtain⟨rfl,_,rfl⟩:=e1;simp
    ·simp only[Value.slice.injEq]at e1
     obtain⟨rfl,_,rfl⟩:=e1;simp[storeCells]
   refine⟨_,w,iE,?_,⟨rfl,rfl,rfl,Nat.le_refl _,fun _ _ _=>rfl⟩,fun g h=> .inl h⟩
   simpa[eZ]using FU
  |some ad=>
   have uN:(eZ w (some ad) (ys.length*de.size)).length=ys.length*de.size:=by simp[eZ]
   have dq:∀j u,(eZ w (some ad) (ys.length*de.size))[j]?=some u→w.cell? (ad.add j)=some u∧u.oneCell'=true:=by
    intro j u hu;have hj:j<ys.length*de.size:=by rw[←uN];exact(List.getElem?_eq_some_iff.1 hu).1
    rw[hA]at eJ;obtain⟨b,o',v,y,r,e1,e2,e3,_,_,e4⟩:=uh h0 eJ hj;rw[e3]at hu;cases hu
    cases e1;rw[add_lit];exact⟨e2,e4.one⟩
   obtain⟨v',w',pI,Of,ZH,_⟩:=run_append_own (P:=P) (w:=w) 0 t o.type e i z de.size de.bytes hu q1 q3 q4 q5 Rt h0 (.slice A xs.length c) xs.length bS FU ad ys.length cy (eZ w (some ad) (ys.length*de.size)) uN (fun j u h=>(dq j u h).1) (fun u hu=>by
    obtain⟨j,hj,rfl⟩:=List.getElem_of_mem hu;exact(dq j _ (List.getElem?_eq_getElem hj)).2) Uf BH (Nat.zero_le _)
   refine⟨v',w',?_,Of,ZH,fun g hg=>?_⟩
   ·rw[hA]at ey
    simp[execOp,ho,resolve,invoke,builtin,ev,ey,pI]
   ·have yF:=FU.2
    rcases yF with⟨e1,e2⟩|⟨g0,cap,cur,e1,_,p1,p2,p3,p4,p5⟩
    ·simp only[Value.slice.injEq]at e1
     obtain⟨rfl,_,rfl⟩:=e1;by_cases hm:ys.length=0
     ·have Ki:v'= .slice none 0 0:=by
       have BD:eZ w (some ad) (ys.length*de.size)=[]:=List.eq_nil_of_length_eq_zero (by rw[uN,hm,Nat.zero_mul])
       simp[Builtin.append_,run_underlying hu,sizeOf,typeInfo,q1,Builtin.lenOf,Builtin.firstCells,loadCells,loadCellsFrom,hm,e2]at pI;exact pI.1.symm
      rw[Ki]at hg;cases hg
     ·rw[e2]at pI
      have hr:=run_append_nil (P:=P) w t o.type e i z hu q1 q3 ad ys.length cy (eZ w (some ad) (ys.length*de.size)) (by rw[uN,q4]) (fun j u h=>(dq j u h).1) (by omega) (by simp only[maxLen]at Uf;omega) (by rw[q5];have hb:=BH;simp only[e2,Nat.zero_add]at hb;omega)
      rw[hr]at pI;injection pI with pI _
      rw[←pI]at hg;injection hg with hg
      simp at hg
      exact .inr (by omega)
    ·simp only[Value.slice.injEq]at e1
     obtain⟨rfl,_,rfl⟩:=e1;by_cases Pd:xs.length+ys.length≤c
     ·have hfit:xs.length*i.size+(eZ w (some ad) (ys.length*de.size)).length≤cur.size:=by rw[uN,p4,q4,←Nat.add_mul];exact Nat.mul_le_mul_right _ Pd
      have hr:=run_append_room (P:=P) w t o.type e i hu q1 g0 xs.length c cur p1 ad ys.length cy (eZ w (some ad) (ys.length*de.size)) (by rw[uN,q4]) (fun j u h=>(dq j u h).1) (fun u hu=>by
       obtain⟨j,hj,rfl⟩:=List.getElem_of_mem hu;exact(dq j _ (List.getElem?_eq_getElem hj)).2) Pd hfit
      rw[hr]at pI;injection pI with pI _
      rw[←pI]at hg;exact .inl hg
     ·have holds:∀j u,bS[j]?=some u→w.cell? ((⟨g0,0,none⟩:Addr).add j)=some u:=FU.cells (g:=g0) rfl
      have hr:=run_append_grow (P:=P) w t o.type e i z hu q1 q3 ⟨g0,0,none⟩ xs.length c bS (by rw[Mi,q4]) holds ad ys.length cy (eZ w (some ad) (ys.length*de.size)) (by rw[uN,q4]) (fun j u h=>(dq j u h).1) (by omega) (by simp only[maxLen]at Uf;omega) (by rw[q5];exact growslice_fits (by omega) BH)
      rw[hr]at pI;injection pI with pI _
      rw[←pI]at hg;injection hg with hg
      simp at hg
      exact .inr (by omega)
 rw[uM]at sd;have WT:bV D w w':=by
  intro k nj;refine sd.block k (hR.ro k nj).1 fun e'=>?_;rcases Pc with⟨_,rfl⟩|⟨b,_,⟨z',Uh,Ui⟩,JN⟩
  ·cases e'
  ·exact(hR.own b z' k Uh Ui (by rw[JN];exact e'.symm)).1 nj
 have dc:∀(i:Nat) (y:List RT),ys[i]?=some y→y.length=de.size∧∀(j:Nat) (r:RT),y[j]?=some r→cb w' D ((eZ w Ay (ys.length*de.size)).getD (i*de.size+j) undef) r:=by
  intro i y wQ;have a1:=(eJ i y wQ).1;refine⟨a1,fun j r hj=>?_⟩
  have wL:j<de.size:=by rw[←a1];exact(List.getElem?_eq_some_iff.1 hj).1
  have aj:i*de.size+j<ys.length*de.size:=ni (List.getElem?_eq_some_iff.1 wQ).1 wL
  obtain⟨b,o',v,y',r',_,_,e3,e4,e5,e6⟩:=uh h0 eJ aj;have d1:(i*de.size+j)/ de.size=i:=by rw[Nat.mul_comm,Nat.mul_add_div h0,Nat.div_eq_of_lt wL,Nat.add_zero]
  have d2:(i*de.size+j) % de.size=j:=by rw[Nat.mul_comm,Nat.mul_add_mod,Nat.mod_eq_of_lt wL]
  rw[d1,wQ]at e4;cases e4;rw[d2,hj]at e5;cases e5;rw[List.getD_eq_getElem?_getD,e3];exact e6.bB WT fun _ h=>h
 have iG:∀(i:Nat) (y:List RT),xs[i]?=some y→y.length=de.size∧∀(j:Nat) (r:RT),y[j]?=some r→cb w' D (bS.getD (i*de.size+j) undef) r:=fun i y h=>⟨(iy i y h).1,fun j r hj=>((iy i y h).2 j r hj).bB WT fun _ h=>h⟩
 have hB:∀ρ',dt ρ' w' D (some v') (.rows e de.size (xs++ys)):=fun ρ'=>yD h0 iG Mi dc (by simp) Ug
 have WU:∃A' n' c',v'= .slice A' n' c':=by
  obtain⟨A',c',e1,_⟩:=hB ρ
  cases e1;exact⟨_,_,_,rfl⟩
 obtain⟨A',n',c',rfl⟩:=WU;refine⟨_,w',(fun c0=>if c0=b' then some (.slice A' n' c')else ρ c0),D,iE,?_,.s (.own (by simp))⟩
 rcases Pc with⟨rfl,rfl⟩|⟨b,rfl,IV,JN⟩
 ·refine hR.alloc cv sd.os sd.tape sd.output sd.size (fun k hk=>sd.block k hk (by simp[bo])) (fun g hg=>?_) (hB _)
  rcases p9 g hg with U|U
  ·cases U
  ·exact U
 ·refine hR.move cv IV sd.os sd.tape sd.output sd.size (fun k hk cG=>sd.block k hk fun e'=>cG (by rw[JN];exact e'.symm)) (fun g hg=>by rw[JN];exact p9 g hg) (hB _)
def BI (s:ae)(Pe:Nat):Option Operand→Option Nat
 |none=>some Pe
 |some x=>match(s.ev x).i? with
  |some (_,n)=>if 0≤n then some n.toNat else none
  |none=>none
theorem tq {C:Ctx}{env:Nat→GV}{get:Nat→Option ak}{a:Act}{w:World}{ρ:Nat→Option Value}{D:Nat→Prop}(hR:Rel C env get a w ρ D){xs:List Operand}(hi:∀x∈bF s.env xs,env x.1=x.2){Pe:Nat}{x:Operand}{n:Nat}(h:BI s Pe (some x)=some n)(hx:x∈xs):
  ∃k,a.eval x= .int k (n:Int):=by
 simp only[BI]at h;split at h
 ·rename_i k m hm
  split at h
  ·cases h
   refine⟨k,?_⟩;rw[GV.eY hm (aW hR hi hx)];congr 1;omega
  ·cases h
 ·cases h
def ui:Option Operand→List Operand
 |some x=>[x]
 |none=>[]
def gM:GV→List Nat
 | .s (.own b)=>[b]
 |_=>[]
theorem Mj {t:TypeId}{x:Operand}{lo eE:Option Operand}(ho:o.op= .slice t x lo eE none)(hd:bu o nt=true){d de:TD}{e:TypeId}(ht:aq P t=some d)(hk:d.k= .slice e)(he:aq P e=some de){k:Nat}{xs:List (List RT)}{fr:List (Nat×Option ak)}
  (hv:s.view (s.ev x)=some (k,xs,fr)) (Al:k=de.size∨xs=[]) {l h:Nat} (hl:BI s 0 lo=some l) (hh:BI s xs.length eE=some h) (U:l≤h) (h2:h≤xs.length):
  dR P E nt o fr (bF s.env (x::(ui lo++ui eE))) (.s (.r (.sl de.size ((xs.take h).drop l)))) ((gM (s.ev x)).map fun b=>(b,.dead)):=by
 refine .act hd fun C env get a w ρ D hf hi rZ=>?_;have hr:=aW rZ hi (x:=x) (by simp)
 obtain⟨A,c,ev,hc,hm,IU⟩:=tl rZ hv hf hr;have eJ:Row w D A de.size xs:=by
  rcases Al with rfl|rfl
  ·exact IU
  ·intro i e he;simp at he
 have IV:∀b∈gM (s.ev x),∃z,get b=some z∧z.live=true:=by
  intro b hb;unfold gM at hb;split at hb
  ·rename_i b' eb
   simp only[List.mem_cons,List.not_mem_nil,or_false]at hb;subst hb;rw[eb]at hv;simp only[ae.view]at hv;split at hv
   ·rename_i hg
    cases hv;exact⟨_,hf _ (List.mem_cons_self ..),rfl⟩
   ·cases hv
  ·cases hb
 obtain⟨D',hR,FP,kM⟩:=rZ.consume (gM (s.ev x)) IV;have ZI:∀b o,A=some ⟨b,o,none⟩→xs≠[]→D' b:=by
  intro b o' hA cG;rw[ev]at hr
  cases hg:s.ev x with
  |s t=>
   cases t with
   |own b'=>
    rw[hg]at hr
    cases hr with|s hr=>cases hr with|own hr=>
    exact kM b' (by rw[hg];exact List.mem_cons_self ..) b (by rw[hr,hA];rfl)
   |r t=>
    rw[hg]at hr hv
    cases t with
    |sl k' WK=>
     simp only[ae.view,Option.some.injEq,Prod.mk.injEq]at hv;obtain⟨rfl,rfl,_⟩:=hv
     cases hr with|s hr=>cases hr with|r hr=>
     obtain⟨A',c',e1,_,_,_,h4⟩:=hr.slice;simp only[Value.slice.injEq]at e1;exact FP b (h4 b o' (e1.1▸hA) cG)
    |nil=>
     simp only[ae.view,Option.some.injEq,Prod.mk.injEq]at hv;exact absurd hv.2.1.symm cG
    |v y=>simp[ae.view]at hv
   |_=>rw[hg]at hv;simp[ae.view]at hv
  |_=>rw[hg]at hv;simp[ae.view]at hv
 have hu:=kr ht hk;have iE:(execOp a.eval o).run P w= .ok (.value (.slice (if c=l then A else A.map (·.add (l*de.size))) (h-l) (c-l))) w:=by
  cases IW:lo with
  |none=>
   rw[IW]at hl
   cases hl
   cases wR:eE with
   |none=>
    rw[wR]at hh
    cases hh;simp[execOp,ho,IW,wR,Instr.sliceAt,Instr.slice,Instr.sliceBounds,run_underlying hu,ev,oF he]
   |some y=>
    rw[wR]at hh;obtain⟨k1,e1⟩:=tq rZ hi hh (by simp[ui,wR])
    have:h≤c:=by omega
    simp[execOp,ho,IW,wR,Instr.sliceAt,Instr.slice,Instr.sliceBounds,Instr.sliceBound,asIntOf,run_underlying hu,ev,oF he,e1,this]
  |some z=>
   rw[IW]at hl;obtain⟨k2,e2⟩:=tq rZ hi hl (by simp[ui,IW])
   cases wR:eE with
   |none=>
    rw[wR]at hh
    cases hh;simp[execOp,ho,IW,wR,Instr.sliceAt,Instr.slice,Instr.sliceBounds,Instr.sliceBound,asIntOf,run_underlying hu,ev,oF he,e2,U]
   |some y=>
    rw[wR]at hh;obtain⟨k1,e1⟩:=tq rZ hi hh (by simp[ui,wR])
    have:h≤c:=by omega
    simp[execOp,ho,IW,wR,Instr.sliceAt,Instr.slice,Instr.sliceBounds,Instr.sliceBound,asIntOf,run_underlying hu,ev,oF he,e1,e2,this,U]
 refine⟨_,w,ρ,D',iE,hR,.s (.r ?_)⟩;have hlen:((xs.take h).drop l).length=h-l:=by simp only[List.length_drop,List.length_take];omega
 by_cases hz:h=l
 ·have eH:(xs.take h).drop l=[]:=List.eq_nil_of_length_eq_zero (by omega)
  rw[eH,hz,Nat.sub_self];exact .yA (by omega)
 ·have se:¬c=l:=by omega
  have cG:xs≠[]:=by intro e;subst e;simp at h2;omega
  obtain⟨x0,Ta⟩:∃x0,xs[0]?=some x0:=by
   cases xs with
   |nil=>exact absurd rfl cG
   |cons x0 xs=>exact⟨x0,rfl⟩
  obtain⟨_,b,o',rfl,_⟩:=eJ 0 x0 Ta;simp only[se,if_false,Option.map_some,add_lit];rw[←hlen];refine .JI (by omega) (by omega) (ZI b o' rfl cG) fun i y hy=>?_
  rw[List.getElem?_drop,List.getElem?_take]at hy;split at hy
  ·obtain⟨a1,b2,o2,e2,a2⟩:=eJ _ y hy
   cases e2;refine⟨a1,b,_,rfl,fun j r hj=>?_⟩
   obtain⟨v,vm,xY⟩:=a2 j r hj;refine⟨v,?_,xY.bB (bV.refl _ _) FP⟩;rw[Nat.add_mul]at vm;rw[←vm];congr 2;omega
  ·cases hy
theorem Ru {xa xb:Operand}{ts:Array TypeId}(ho:o.op= .call {callee:= .builtin .max,args:= #[xa,xb],argTypes:=ts})(hd:bu o nt=true){k k':IntKind}{m n:Int}(U:(s.ev xa).i?=some (k,m))(h2:(s.ev xb).i?=some (k',n)):dR P E nt o [] (bF s.env [xa,xb]) (gI k (if n>m then n else m)) []:=by
 refine .still hd fun C env get a w ρ D hf hi hR=>⟨.int k (if n>m then n else m),?_,.s (.r (.v rfl))⟩
 have e1:=GV.eY U (aW hR hi (x:=xa) (by simp))
 have e2:=GV.eY h2 (aW hR hi (x:=xb) (by simp))
 have:=run_max_int2 (P:=P) w ts o.type k k' m n
 simp[execOp,ho,resolve,invoke,builtin,e1,e2,this]
theorem Rv {xa xb:Operand}{ts:Array TypeId}(ho:o.op= .call {callee:= .builtin .min,args:= #[xa,xb],argTypes:=ts})(hd:bu o nt=true){k k':IntKind}{m n:Int}(U:(s.ev xa).i?=some (k,m))(h2:(s.ev xb).i?=some (k',n)):dR P E nt o [] (bF s.env [xa,xb]) (gI k (if n<m then n else m)) []:=by
 refine .still hd fun C env get a w ρ D hf hi hR=>⟨.int k (if n<m then n else m),?_,.s (.r (.v rfl))⟩
 have e1:=GV.eY U (aW hR hi (x:=xa) (by simp))
 have e2:=GV.eY h2 (aW hR hi (x:=xb) (by simp))
 have:=run_min_int2 (P:=P) w ts o.type k k' m n
 simp[execOp,ho,resolve,invoke,builtin,e1,e2,this]
end
end Go.Proofs.YtjklkppncmhehaaGreat.T
namespace Go.Proofs.YtjklkppncmhehaaGreat.T
open Go Go.RowKit
open Go.Proofs.YtjklkppncmhehaaGreat.Sr (tY pU oy)
structure Sg where
 fr:List (Nat×Option ak)
 ins:List (Nat×GV)
 dst:Option Nat
 gv:GV
 Δ:List (Nat×ak)
abbrev St:=(Nat→GV)×(Nat→Option ak)
def ap (g:Sg)(σ:St):St:=(put σ.1 g.dst g.gv,upd σ.2 g.Δ)
def nm (P:Program)(E:List PanicEntry→World→Prop)(nt:Nat)(ops:Array Oper)(i:Nat)(g:Sg):Prop:=
 ∀C env get a w rest Q,C.nt=nt→(∀x∈g.fr,get x.1=x.2)→(∀x∈g.ins,env x.1=x.2)→R C env get a w→(∀a' w',R C (ap g (env,get)).1 (ap g (env,get)).2 a' w'→wpOps P ops Q rest a' w')→wG E Q→wpOps P ops Q (i::rest) a w
def at_ (σ:St):Nat ⊕ Nat→GV ⊕ Option ak
 | .inl t=> .inl (σ.1 t)
 | .inr b=> .inr (σ.2 b)
def dM (g:Sg):List (Nat ⊕ Nat):=(match g.dst with|some d=>[.inl d]|none=>[])++g.Δ.map fun x=> .inr x.1
def nO (g:Sg):List (Nat ⊕ Nat):=(g.ins.map fun x=> .inl x.1)++g.fr.map fun x=> .inr x.1
theorem Rw {σ τ:St}(h:∀l,at_ σ l=at_ τ l):σ=τ:=by
 obtain⟨e,g⟩:=σ;obtain⟨e',g'⟩:=τ;have U:e=e':=funext fun t=>by have:=h (.inl t);simpa[at_]using this
 have h2:g=g':=funext fun b=>by have:=h (.inr b);simpa[at_]using this
 rw[U,h2]
theorem FV {b:Nat}:∀{l:List (Nat×ak)},(∀x∈l,x.1≠b)→gt b l=none
 |[],_=>rfl
 |(u,y)::l,h=>by
  have:=h (u,y) (List.mem_cons_self ..)
  simp only[gt];rw[if_neg (fun e=>this e.symm)]
  exact FV fun x hx=>h x (List.mem_cons_of_mem _ hx)
theorem FW {b:Nat}:∀{l:List (Nat×ak)},(∃x∈l,x.1=b)→∃y,gt b l=some y
 |[],h=>by obtain⟨x,hx,_⟩:=h;cases hx
 |(u,y)::l,h=>by
  simp only[gt];split
  ·exact⟨_,rfl⟩
  ·rename_i hn
   obtain⟨x,hx,rfl⟩:=h;rcases List.mem_cons.1 hx with rfl|hx
   ·exact absurd rfl hn
   ·exact FW ⟨x,hx,rfl⟩
theorem kl (g:Sg)(σ:St){l:Nat ⊕ Nat}(h:l∉dM g):at_ (ap g σ) l=at_ σ l:=by
 cases l with
 |inl t=>
  simp only[at_,ap,put];split
  ·rename_i e
   exact absurd (by simp[dM,e]) h
  ·rfl
 |inr b=>
  simp only[at_,ap,upd];rw[FV fun x hx e=>h (by simp only[dM,List.mem_append,List.mem_map];exact .inr ⟨x,hx,by rw[e]⟩)]
theorem IX (g:Sg)(σ τ:St){l:Nat ⊕ Nat}(h:l∈dM g):at_ (ap g σ) l=at_ (ap g τ) l:=by
 cases l with
 |inl t=>
  have:g.dst=some t:=by
   simp only[dM,List.mem_append,List.mem_map]at h;rcases h with h|⟨x,_,e⟩
   ·split at h
    ·rename_i e;simp at h;rw[e,h]
    ·cases h
   ·cases e
  simp only[at_,ap,put,this,if_true]
 |inr b=>
  obtain⟨y,hy⟩:∃y,gt b g.Δ=some y:=FW (by
   simp only[dM,List.mem_append,List.mem_map]at h;rcases h with h|⟨x,hx,e⟩
   ·split at h<;>simp at h
   ·cases e;exact⟨x,hx,rfl⟩)
  simp only[at_,ap,upd,hy]
instance UZ:DecidableEq (Nat ⊕ Nat)
 | .inl a,.inl b=>if h:a=b then isTrue (by rw[h])else isFalse fun e=>by cases e;exact h rfl
 | .inr a,.inr b=>if h:a=b then isTrue (by rw[h])else isFalse fun e=>by cases e;exact h rfl
 | .inl _,.inr _=>isFalse fun e=>by cases e
 | .inr _,.inl _=>isFalse fun e=>by cases e
def FX (l:Nat ⊕ Nat)(xs:List (Nat ⊕ Nat)):Bool:=xs.any fun x=>decide (l=x)
theorem FY {l:Nat ⊕ Nat}{xs:List (Nat ⊕ Nat)}(h:l∈xs):FX l xs=true:=List.any_eq_true.2 ⟨l,h,by simp⟩
def zp (g h:Sg):Bool:=(dM g).any (fun l=>FX l (nO h++dM h))||(dM h).any fun l=>FX l (nO g++dM g)
theorem JO {g h:Sg}{l:Nat ⊕ Nat}(U:l∈dM g)(h2:l∈nO h∨l∈dM h):zp g h=true:=by
 simp only[zp,Bool.or_eq_true,List.any_eq_true];exact .inl ⟨l,U,FY (List.mem_append.2 h2)⟩
theorem Rx {g h:Sg}{l:Nat ⊕ Nat}(U:l∈dM h)(h2:l∈nO g∨l∈dM g):zp g h=true:=by
 simp only[zp,Bool.or_eq_true,List.any_eq_true];exact .inr ⟨l,U,FY (List.mem_append.2 h2)⟩
def dg (gs:List Sg)(L:Nat→Bool)(σ:St):Nat→St
 |0=>σ
 |n+1=>if L n then match gs[n]? with
  |some g=>ap g (dg gs L σ n)
  |none=>dg gs L σ n
  else dg gs L σ n
def can (gs:List Sg)(σ:St)(n:Nat):St:=dg gs (fun _=>true) σ n
theorem tt {gs:List Sg}{σ:St}{n:Nat}{g:Sg}(h:gs[n]?=some g):can gs σ (n+1)=ap g (can gs σ n):=by simp[can,dg,h]
def lI (acc:List Nat)(es:List Nat):Nat:=es.foldl (fun s e=>s|||2^e|||acc.getD e 0) 0
def l8 (BJ:List (List Nat)):List Nat:=BJ.foldl (fun acc es=>acc++[lI acc es]) []
theorem sg {acc es:List Nat}{i:Nat}(h:(lI acc es).testBit i=true):∃e∈es,i=e∨(acc.getD e 0).testBit i=true:=by
 have key:∀(es:List Nat) (s:Nat),(es.foldl (fun s e=>s|||2^e|||acc.getD e 0) s).testBit i=true→s.testBit i=true∨∃e∈es,i=e∨(acc.getD e 0).testBit i=true:=by
  intro es;induction es with
  |nil=>intro s h;exact .inl h
  |cons e es ih=>
   intro s h;rcases ih _ h with h|⟨e',he,h⟩
   ·simp only[Nat.testBit_or,Bool.or_eq_true,Nat.testBit_two_pow,decide_eq_true_eq]at h
    rcases h with(h|h)|h
    ·exact .inl h
    ·exact .inr ⟨e,List.mem_cons_self ..,.inl h.symm⟩
    ·exact .inr ⟨e,List.mem_cons_self ..,.inr h⟩
   ·exact .inr ⟨e',List.mem_cons_of_mem _ he,h⟩
 rcases key es 0 h with h|h
 ·simp at h
 ·exact h
theorem uj (X:Nat→Prop)(BJ:List (List Nat))(hX:∀(j:Nat) (es:List Nat),BJ[j]?=some es→X j→∀e∈es,X e){i j:Nat}(h:((l8 BJ).getD j 0).testBit i=true)(hj:X j):X i:=by
 have key:∀(pre rest:List (List Nat)) (acc:List Nat),BJ=pre++rest→acc.length=pre.length→(∀j i,(acc.getD j 0).testBit i=true→X j→X i)→∀j i,((rest.foldl (fun acc es=>acc++[lI acc es]) acc).getD j 0).testBit i=true→X j→X i:=by
  intro pre rest;induction rest generalizing pre with
  |nil=>intro acc _ _ h;exact h
  |cons es rest ih=>
   intro acc he hl wU;refine ih (pre++[es]) (acc++[lI acc es]) (by simp[he]) (by simp[hl]) fun j i hb hj=>?_
   rw[List.getD_eq_getElem?_getD,List.getElem?_append]at hb;split at hb
   ·exact wU j i (by rw[List.getD_eq_getElem?_getD];exact hb) hj
   ·rename_i vR
    by_cases e:j=acc.length
    ·subst e
     simp only[Nat.sub_self,List.getElem?_cons_zero,Option.getD_some]at hb;obtain⟨e',dF,h⟩:=sg hb;have hx:=hX acc.length es (by rw[he,hl];simp) hj e' dF
     rcases h with rfl|h
     ·exact hx
     ·exact wU e' i h hx
    ·have:([lI acc es])[j-acc.length]?=none:=List.getElem?_eq_none (by simp;omega)
     rw[this]at hb;simp at hb
 exact key [] BJ [] rfl rfl (fun j i h _=>by simp at h) j i h hj
def nn (gs:List Sg)(ms:List Nat):Bool:=(List.range gs.length).all fun j=>(List.range j).all fun i=>match gs[i]?,gs[j]? with
 |some g,some h=> !zp g h||(ms.getD j 0).testBit i
 |_,_=>true
theorem np {gs:List Sg}{ms:List Nat}(h:nn gs ms=true){i j:Nat}(vr:i<j){g g':Sg}(hi:gs[i]?=some g)(hj:gs[j]?=some g')(hc:zp g g'=true):(ms.getD j 0).testBit i=true:=by
 simp only[nn,List.all_eq_true,List.mem_range]at h;have:=h j (List.getElem?_eq_some_iff.1 hj).1 i vr
 rw[hi,hj]at this;simpa[hc]using this
def c8 (ops:List Oper):List (List Nat):=ops.map fun o=>(o.after.toList.filter (Region.binds .any ·)).map (·.on)
def l9 (BJ:List (List Nat)):Bool:=(List.range BJ.length).all fun j=>(BJ.getD j []).all fun e=>e<j
section
variable {gs:List Sg}{ms:List Nat}{σ:St}{L:Nat→Bool}
theorem F2 (fL:nn gs ms=true)(hL:∀i j,L j=true→(ms.getD j 0).testBit i=true→L i=true){i:Nat}{g:Sg}(hi:gs[i]?=some g)(hn:L i=false)(JP:∀m,(ms.getD i 0).testBit m=true→L m=true){l:Nat ⊕ Nat}(hl:l∈nO g∨l∈dM g):
  ∀n,i≤n→at_ (dg gs L σ n) l=at_ (can gs σ i) l:=by
 have U:∀m,m≤i→at_ (dg gs L σ m) l=at_ (can gs σ m) l:=by
  intro m;induction m with
  |zero=>intro _;rfl
  |succ m ih=>
   intro hm;have ih:=ih (by omega)
   cases hg:gs[m]? with
   |none=>simp only[dg,can,hg,if_true,ite_self];exact ih
   |some gm=>
    rw[tt hg]
    cases Uj:L m with
    |true=>
     simp only[dg,Uj,if_true,hg];by_cases hw:l∈dM gm
     ·exact IX gm _ _ hw
     ·rw[kl gm _ hw,kl gm _ hw];exact ih
    |false=>
     simp only[dg,Uj,Bool.false_eq_true,if_false];by_cases hw:l∈dM gm
     ·have:=JP m (np fL (by omega) hg hi (JO hw hl))
      rw[Uj]at this;cases this
     ·rw[kl gm _ hw];exact ih
 intro n c7;induction n with
 |zero=>
  obtain rfl:i=0:=by omega
  exact U 0 (Nat.le_refl _)
 |succ n ih=>
  by_cases e:i=n+1
  ·subst e;exact U _ (Nat.le_refl _)
  ·have ih:=ih (by omega)
   rw[←ih]
   cases si:L n with
   |false=>simp[dg,si]
   |true=>
    cases hg:gs[n]? with
    |none=>simp[dg,si,hg]
    |some gn=>
     simp only[dg,si,if_true,hg];refine kl gn _ fun hw=>?_;by_cases e':n=i
     ·subst e';rw[hn]at si;cases si
     ·have:=hL i n si (np fL (by omega) hi hg (Rx hw hl))
      rw[hn]at this;cases this
theorem Pf (fL:nn gs ms=true)(hL:∀i j,L j=true→(ms.getD j 0).testBit i=true→L i=true){i:Nat}{g:Sg}(hi:gs[i]?=some g)(hn:L i=false):∀n,i<n→ap g (dg gs L σ n)=dg gs (fun m=>L m||m==i) σ n:=by
 have h0:∀m,m≤i→dg gs (fun m=>L m||m==i) σ m=dg gs L σ m:=by
  intro m;induction m with
  |zero=>intro _;rfl
  |succ m ih=>
   intro hm;have ZJ:(m==i)=false:=by simp;omega
   simp only[dg,ZJ,Bool.or_false];rw[ih (by omega)]
 intro n c7;induction n with
 |zero=>omega
 |succ n ih=>
  by_cases e:n=i
  ·subst e
   have:dg gs L σ (n+1)=dg gs L σ n:=by simp[dg,hn]
   rw[this];simp only[dg,beq_self_eq_true,Bool.or_true,if_true,hi,h0 n (Nat.le_refl _)]
  ·have ZK:(n==i)=false:=by simpa using e
   have ih:=ih (by omega)
   cases si:L n with
   |false=>
    have U:dg gs L σ (n+1)=dg gs L σ n:=by simp[dg,si]
    have h2:dg gs (fun m=>L m||m==i) σ (n+1)=dg gs (fun m=>L m||m==i) σ n:=by simp[dg,si,ZK]
    rw[U,h2,ih]
   |true=>
    cases hg:gs[n]? with
    |none=>
     have U:dg gs L σ (n+1)=dg gs L σ n:=by simp[dg,si,hg]
     have h2:dg gs (fun m=>L m||m==i) σ (n+1)=dg gs (fun m=>L m||m==i) σ n:=by simp[dg,si,hg]
     rw[U,h2,ih]
    |some gn=>
     have U:dg gs L σ (n+1)=ap gn (dg gs L σ n):=by simp[dg,si,hg]
     have h2:dg gs (fun m=>L m||m==i) σ (n+1)=ap gn (dg gs (fun m=>L m||m==i) σ n):=by simp[dg,si,hg]
     rw[U,h2,←ih];refine Rw fun l=>?_;have pD:¬(l∈dM gn∧l∈dM g):=fun⟨a,b⟩=>by
      have:=hL i n si (np fL (by omega) hi hg (JO b (.inr a)))
      rw[hn]at this;cases this
     by_cases w1:l∈dM g
     ·have w2:l∉dM gn:=fun h=>pD ⟨h,w1⟩
      rw[kl gn _ w2];exact IX g _ _ w1
     ·rw[kl g _ w1]
      by_cases w2:l∈dM gn
      ·exact IX gn _ _ w2
      ·rw[kl gn _ w2,kl gn _ w2,kl g _ w1]
theorem Pg (h:∀i,i<gs.length→L i=true):∀n,n≤gs.length→dg gs L σ n=can gs σ n:=by
 intro n;induction n with
 |zero=>intro _;rfl
 |succ n ih=>
  intro hn;have:=ih (by omega)
  simp only[can]at this;simp only[dg,can,h n (by omega),if_true,this]
theorem Mk (h:∀i,i<gs.length→L i=false):∀n,n≤gs.length→dg gs L σ n=σ:=by
 intro n;induction n with
 |zero=>intro _;rfl
 |succ n ih=>
  intro hn;simp only[dg,h n (by omega),Bool.false_eq_true,if_false]
  exact ih (by omega)
end
structure Region.Ok (P:Program) (E:List PanicEntry→World→Prop) (nt:Nat) (ops:Array Oper) (gs:List Sg) (σ:St):Prop where
 len:gs.length=ops.size
 step:∀(i:Nat) (g:Sg),gs[i]?=some g→nm P E nt ops i g
 fr:∀(i:Nat) (g:Sg),gs[i]?=some g→∀x∈g.fr,(can gs σ i).2 x.1=x.2
 ins:∀(i:Nat) (g:Sg),gs[i]?=some g→∀x∈g.ins,(can gs σ i).1 x.1=x.2
section
variable {P:Program}{E:List PanicEntry→World→Prop}{nt:Nat}{ops:Array Oper}{gs:List Sg}{σ:St}
theorem IY {L:Array Bool}{i:Nat}{o:Oper}(hi:ops[i]?=some o)(hn:L.getD i true=false)(h:∀e∈o.after,Region.binds .any e=true→L.getD e.on false=true):i∈Region.ready .any ops L:=by
 unfold Region.ready;rw[List.mem_filter,List.mem_range];refine⟨(Array.getElem?_eq_some_iff.1 hi).1,?_⟩;simp only[hn,Bool.not_false,Bool.true_and,hi,Option.map_some,Option.getD_some];rw[Array.all_eq_true_iff_forall_mem];intro e he
 cases hb:Region.binds .any e
 ·simp
 ·simp[h e he hb]
theorem F3 {i:Nat}{es:List Nat}(h:(c8 ops.toList)[i]?=some es):∃o,ops[i]?=some o∧es=(o.after.toList.filter (Region.binds .any ·)).map (·.on):=by
 simp only[c8,List.getElem?_map,Option.map_eq_some_iff]at h;obtain⟨o,ho,rfl⟩:=h;exact⟨o,by simpa using ho,rfl⟩
def left (L:Array Bool)(n:Nat):Nat:=(List.range n).countP fun i=> !(L.getD i true)
theorem F4 (dJ:Region.Ok P E nt ops gs σ)(he:l9 (c8 ops.toList)=true)(fL:nn gs (l8 (c8 ops.toList))=true){C:Ctx}(hC:C.nt=nt){Q:Exit→Act→World→Prop}(hE:wG E Q)(hQ:∀a w,R C (can gs σ gs.length).1 (can gs σ gs.length).2 a w→Q .normal a w):
  ∀(n:Nat) (L:Array Bool) (l:List Nat),tY ops n L l→L.size=ops.size→left L ops.size≤n→(∀(j:Nat) (es:List Nat),(c8 ops.toList)[j]?=some es→L.getD j false=true→∀e∈es,L.getD e false=true)→
  ∀a w,R C (dg gs (fun i=>L.getD i false) σ gs.length).1 (dg gs (fun i=>L.getD i false) σ gs.length).2 a w→wpOps P ops Q l a w:=by
 have vM:∀(L:Array Bool),L.size=ops.size→(∀i,i<ops.size→L.getD i true=true)→∀a w,R C (dg gs (fun i=>L.getD i false) σ gs.length).1 (dg gs (fun i=>L.getD i false) σ gs.length).2 a w→Q .normal a w:=by
  intro L hs db a w hR;rw[Pg (fun i hi=>by
   have:=db i (by rw[←dJ.len];exact hi)
   have aj:i<L.size:=by rw[hs,←dJ.len];exact hi
   simp only[Array.getD_eq_getD_getElem?,Array.getElem?_eq_getElem aj,Option.getD_some]at this⊢;exact this) _ (Nat.le_refl _)]at hR
  exact hQ a w hR
 intro n;induction n with
 |zero=>
  intro L l hl hs Ul se a w hR;obtain rfl:l=[]:=hl
  refine vM L hs (fun i hi=>?_) a w hR
  have h0:left L ops.size=0:=by omega
  simp only[left,List.countP_eq_zero,List.mem_range,Bool.not_eq_true',Bool.not_eq_false]at h0;exact h0 i hi
 |succ n ih=>
  intro L l hl hs Ul se a w hR;rcases hl with⟨hr,rfl⟩|⟨i,l',hi,rfl,hl⟩
  ·refine vM L hs (fun i hi=>?_) a w hR
   induction i using Nat.strongRecOn with
   |_ i ZM=>
    cases ZN:L.getD i true with
    |true=>rfl
    |false=>
     exfalso
     have ho:ops[i]?=some ops[i]:=Array.getElem?_eq_getElem hi
     have p_:i∈Region.ready .any ops L:=IY ho ZN fun e yG hb=>by
      have aj:e.on<i:=by
       simp only[l9,List.all_eq_true,List.mem_range]at he;have U:=he i (by simp[c8];exact hi)
       have:(c8 ops.toList).getD i []=(ops[i].after.toList.filter (Region.binds .any ·)).map (·.on):=by simp[c8,hi]
       rw[this]at U;have:=U e.on (List.mem_map.2 ⟨e,by simp[yG,hb],rfl⟩)
       simpa using this
      have:=ZM e.on aj (by omega)
      have rU:e.on<L.size:=by omega
      simp only[Array.getD_eq_getD_getElem?,Array.getElem?_eq_getElem rU,Option.getD_some]at this⊢;exact this
     rw[hr]at p_
     cases p_
  ·obtain⟨U,h2,o,ho,h3⟩:=oy hi
   have Um:L.getD i false=false:=by
    have rU:i<L.size:=by omega
    simp only[Array.getD_eq_getD_getElem?,Array.getElem?_eq_getElem rU,Option.getD_some]at h2⊢;exact h2
   obtain⟨g,hg⟩:∃g,gs[i]?=some g:=⟨_,List.getElem?_eq_getElem (by rw[dJ.len];exact U)⟩
   have Pj:∀i j,L.getD j false=true→((l8 (c8 ops.toList)).getD j 0).testBit i=true→L.getD i false=true:=fun i j hj hb=>uj (fun m=>L.getD m false=true) _ se hb hj
   have JP:∀m,((l8 (c8 ops.toList)).getD i 0).testBit m=true→L.getD m false=true:=by
    intro m hb;have hX:∀(j:Nat) (es:List Nat),(c8 ops.toList)[j]?=some es→(L.getD j false=true∨j=i)→∀e∈es,(L.getD e false=true∨e=i):=by
     intro j es hj hx e yG;rcases hx with hx|rfl
     ·exact .inl (se j es hj hx e yG)
     ·obtain⟨o',nU,rfl⟩:=F3 hj
      rw[ho]at nU;cases nU;obtain⟨e',dF,rfl⟩:=List.mem_map.1 yG;simp only[List.mem_filter,Array.mem_toList_iff]at dF;exact .inl (h3 e' dF.1 dF.2)
    have WN:∀(acc:List Nat) (es:List Nat),True:=fun _ _=>trivial
    have:=uj (fun m=>L.getD m false=true∨m=i) _ hX hb (.inr rfl)
    rcases this with h|rfl
    ·exact h
    ·exfalso
     have hX':∀(j:Nat) (es:List Nat),(c8 ops.toList)[j]?=some es→(j<m∨L.getD j false=true∨j=m)→∀e∈es,(e<m∨L.getD e false=true∨e=m):=by
      intro j es hj hx e yG;have aj:e<j:=by
       simp only[l9,List.all_eq_true,List.mem_range]at he;have iM:=he j (List.getElem?_eq_some_iff.1 hj).1 e (by rw[List.getD_eq_getElem?_getD,hj];exact yG)
       simpa using iM
      rcases hx with hx|hx|rfl
      ·exact .inl (by omega)
      ·exact .inr (.inl (se j es hj hx e yG))
      ·exact .inl aj
     have key:∀(pre rest:List (List Nat)) (acc:List Nat),c8 ops.toList=pre++rest→acc.length=pre.length→(∀j i,(acc.getD j 0).testBit i=true→i<j)→∀j i,((rest.foldl (fun acc es=>acc++[lI acc es]) acc).getD j 0).testBit i=true→i<j:=by
      intro pre rest;induction rest generalizing pre with
      |nil=>intro acc _ _ h;exact h
      |cons es rest ZO=>
       intro acc Hh Un wU;refine ZO (pre++[es]) (acc++[lI acc es]) (by simp[Hh]) (by simp[Un]) fun j i hb=>?_
       rw[List.getD_eq_getElem?_getD,List.getElem?_append]at hb;split at hb
       ·exact wU j i (by rw[List.getD_eq_getElem?_getD];exact hb)
       ·by_cases e:j=acc.length
        ·subst e
         simp only[Nat.sub_self,List.getElem?_cons_zero,Option.getD_some]at hb;obtain⟨e',dF,h⟩:=sg hb;have aj:e'<acc.length:=by
          simp only[l9,List.all_eq_true,List.mem_range]at he;have:=he acc.length (by rw[Hh,Un];simp) e' (by rw[List.getD_eq_getElem?_getD,Hh,Un];simpa using dF)
          simpa using this
         rcases h with rfl|h
         ·exact aj
         ·have:=wU e' i h;omega
        ·have:([lI acc es])[j-acc.length]?=none:=List.getElem?_eq_none (by simp;omega)
         rw[this]at hb;simp at hb
     have:=key [] _ [] rfl rfl (fun j i h=>by simp at h) m m hb
     omega
   refine dJ.step i g hg C _ _ a w l' Q hC (fun x hx=>?_) (fun x hx=>?_) hR (fun a' w' nf=>?_) hE
   ·have:=F2 fL Pj hg Um JP (σ:=σ) (l:= .inr x.1) (.inl (by simp only[nO,List.mem_append,List.mem_map];exact .inr ⟨x,hx,rfl⟩)) gs.length (by rw[dJ.len];omega)
    simp only[at_,Sum.inr.injEq]at this;rw[this];exact dJ.fr i g hg x hx
   ·have:=F2 fL Pj hg Um JP (σ:=σ) (l:= .inl x.1) (.inl (by simp only[nO,List.mem_append,List.mem_map];exact .inl ⟨x,hx,rfl⟩)) gs.length (by rw[dJ.len];omega)
    simp only[at_,Sum.inl.injEq]at this;rw[this];exact dJ.ins i g hg x hx
   ·have qa:=Pf fL Pj hg Um (σ:=σ) gs.length (by rw[dJ.len];exact U)
    have b_:∀m,(L.setIfInBounds i true).getD m false=(L.getD m false||m==i):=by
     intro m;simp only[Array.getD_eq_getD_getElem?,Array.getElem?_setIfInBounds];by_cases e:i=m
     ·subst e
      simp[show i<L.size by omega]
     ·simp only[e,if_false]
      rw[show(m==i)=false by simp;omega,Bool.or_false]
    refine ih _ _ hl (by simp[hs]) ?_ (fun j es hj hx e yG=>?_) a' w' ?_
    ·
     have aj:left (L.setIfInBounds i true) ops.size<left L ops.size:=by
      unfold left;have:∀(n:Nat),i<n→n≤ops.size→(List.range n).countP (fun j=> !(L.setIfInBounds i true).getD j true)<(List.range n).countP fun j=> !L.getD j true:=by
       intro n;have wV:∀j,j≠i→(L.setIfInBounds i true).getD j true=L.getD j true:=by
        intro j hj;simp only[Array.getD_eq_getD_getElem?,Array.getElem?_setIfInBounds,if_neg (fun e=>hj (Eq.symm e))]
       have Uo:(L.setIfInBounds i true).getD i true=true:=by
        simp[Array.getD_eq_getD_getElem?,Array.getElem?_setIfInBounds,show i<L.size by omega]
       have hle:∀n,n≤i→(List.range n).countP (fun j=> !(L.setIfInBounds i true).getD j true)=(List.range n).countP fun j=> !L.getD j true:=by
        intro n hn;refine List.countP_congr fun j hj=>?_;rw[wV j (by have:=List.mem_range.1 hj;omega)]
       induction n with
       |zero=>omega
       |succ n ZP=>
        intro c7 pD;rw[List.range_succ,List.countP_append,List.countP_append];by_cases e:n=i
        ·subst e
         rw[hle n (Nat.le_refl _)];have lU:L[n]?.getD true=false:=by simpa using h2
         simp[Uo,lU]
        ·have:=ZP (by omega) (by omega)
         simp only[List.countP_cons,List.countP_nil,wV n e];omega
      exact this ops.size U (Nat.le_refl _)
     omega
    ·rw[b_]at hx⊢
     simp only[Bool.or_eq_true,beq_iff_eq]at hx⊢;rcases hx with hx|rfl
     ·exact .inl (se j es hj hx e yG)
     ·obtain⟨o',nU,rfl⟩:=F3 hj
      rw[ho]at nU;cases nU;obtain⟨e',dF,rfl⟩:=List.mem_map.1 yG;simp only[List.mem_filter,Array.mem_toList_iff]at dF;exact .inl (h3 e' dF.1 dF.2)
    ·rw[show(fun m=>(L.setIfInBounds i true).getD m false)=fun m=>L.getD m false||m==i from funext b_,←qa]
     exact nf
theorem BK (dJ:Region.Ok P E nt ops gs σ){C:Ctx}(hC:C.nt=nt){Q:Exit→Act→World→Prop}(hE:wG E Q)(hQ:∀a w,R C (can gs σ gs.length).1 (can gs σ gs.length).2 a w→Q .normal a w):
  ∀(m k:Nat),k+m=gs.length→∀a w,R C (can gs σ k).1 (can gs σ k).2 a w→wpOps P ops Q (List.range' k m) a w:=by
 intro m;induction m with
 |zero=>intro k hk a w hR;exact hQ a w (by rw[←hk];exact hR)
 |succ m ih=>
  intro k hk a w hR;obtain⟨g,hg⟩:∃g,gs[k]?=some g:=⟨_,List.getElem?_eq_getElem (by omega)⟩
  rw[List.range'_succ];refine dJ.step k g hg C _ _ a w _ Q hC (dJ.fr k g hg) (dJ.ins k g hg) hR (fun a' w' nf=>ih (k+1) (by omega) a' w' ?_) hE
  rw[tt hg];exact nf
end
end Go.Proofs.YtjklkppncmhehaaGreat.T
