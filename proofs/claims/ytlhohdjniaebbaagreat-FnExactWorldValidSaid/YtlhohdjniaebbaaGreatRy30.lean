/-
What is proved: of makeSlice, append, slice, max and min, what each does to trees and what rests on it. Conditions: as stated.
-/
import Derived.Test.YtlhohdjniaebbaaGreatRy29
import Derived.Test.YtlhohdjniaebbaaGreatRy14
set_option linter.unusedVariables false
set_option linter.unusedSimpArgs false
namespace Go.Proofs.YtlhohdjniaebbaaGreat.T
open Go Go.RowKit
section
variable {P:Program}{E:List PanicEntry→World→Prop}{nt:Nat}{o:Oper}{s:ae}
theorem Br {t b:Nat}{lx cx:Operand}(ho:o.op= .makeSlice t lx cx)(hd:bF o nt=true){d de:TD}{e:TypeId}(ht:aE P t=some d)(hk:d.k= .slice e)(he:aE P e=some de)(h0:0<de.size){k k':IntKind}{n m:Int}
  (hl:(s.ev lx).i?=some (k,n)) (hc:(s.ev cx).i?=some (k',m)) (h1:0≤n) (h2:n≤m) (h3:(de.bytes:Int)*m≤281474976710656) (h4:m≤9223372036854775807):
  dT P E nt o [(b,none)] (bE s.env [lx,cx]) (.s (.own b)) [(b,.rows e de.size (List.replicate n.toNat (de.zero.map im)))]:=by
 refine .act hd fun C env get a w ρ D hf hi hR=>?_;have el:=GV.fU hl (bc hR hi (x:=lx) (by simp))
 have ec:=GV.fU hc (bc hR hi (x:=cx) (by simp))
 obtain⟨i,u,z,q1,q2,q3,q4,q5,q6,q7⟩:=eF he;have dA:=run_make (P:=P) (w:=w) t e i z (jW ht hk) q1 q3 k k' n m h1 h2 (by rw[q5];exact h3) h4
 have Xy:z.cells.size=de.size:=by have:=(cz he).2.1;rw[←q6]at this;simpa using this
 obtain⟨ρ',g1,g2⟩:=IZ hR (hf _ (List.mem_cons_self ..)) (arr:=madeCells z.cells (m.toNat*i.size)) (e:=e) (k:=de.size) (c:=m.toNat) (xs:=List.replicate n.toNat (de.zero.map im)) h0 (by simp;omega) (by simp only[maxLen];omega) (by simp[madeCells,q4]) (fun j y hy=>by
  have hj:j<n.toNat:=by have:=(List.getElem?_eq_some_iff.1 hy).1;simpa using this
  rw[List.getElem?_replicate,if_pos hj]at hy
  cases hy;refine⟨by rw[List.length_map,(cz he).2.1],fun p r hp=>?_⟩
  rw[List.getElem?_map,Option.map_eq_some_iff]at hp;obtain⟨x,hx,rfl⟩:=hp;have uA:p<de.size:=by rw[←(cz he).2.1];exact(List.getElem?_eq_some_iff.1 hx).1
  have aj:j*de.size+p<m.toNat*i.size:=by rw[q4];exact oK (by omega) uA
  have abn:(j*de.size+p) % z.cells.size=p:=by rw[Xy,Nat.mul_comm,Nat.mul_add_mod,Nat.mod_eq_of_lt uA]
  have hxz:z.cells[p]?=some x:=by rw[←q6]at hx;simpa using hx
  have:(madeCells z.cells (m.toNat*i.size)).getD (j*de.size+p) undef=x:=by
   have bk:p<z.cells.size:=by omega
   simp[madeCells,aj,abn,Array.getD_eq_getD_getElem?];rw[Array.getElem?_eq_getElem bk]at hxz;simpa[getElem!_pos z.cells p bk]using hxz
  rw[this];exact qJ ((cz he).2.2.1 x (List.mem_of_getElem? hx)))
 rw[List.length_replicate]at g2;exact⟨_,_,ρ',D,by simp[execOp,ho,el,ec,dA],g1,g2⟩
def fW (w:World)(A:Option Addr)(n:Nat):List Value:=(List.range n).map fun t=>match A with
 |some a=>(w.cell? (a.add t)).getD undef
 |none=>undef
theorem wV {w:World}{D:Nat→Prop}{A:Option Addr}{k:Nat}{ys:List (List RT)}(h0:0<k)(h:Row w D A k ys){t:Nat}(ht:t<ys.length*k):
  ∃b o v y r,A=some ⟨b,o,none⟩∧w.cell? ⟨b,o+t,none⟩=some v∧(fW w A (ys.length*k))[t]?=some v∧ys[t / k]?=some y∧y[t % k]?=some r∧cE w D v r:=by
 have hi:t / k<ys.length:=(Nat.div_lt_iff_lt_mul h0).2 ht
 obtain⟨h1,b,o,rfl,h2⟩:=h (t / k) ys[t / k] (List.getElem?_eq_getElem hi);have hm:t % k<ys[t / k].length:=by rw[h1];exact Nat.mod_lt _ h0
 obtain⟨v,hv,hr⟩:=h2 (t % k) _ (List.getElem?_eq_getElem hm);have e:t / k*k+t % k=t:=by rw[Nat.mul_comm];exact Nat.div_add_mod t k
 rw[e]at hv;refine⟨b,o,v,_,_,rfl,hv,?_,List.getElem?_eq_getElem hi,List.getElem?_eq_getElem hm,hr⟩;simp[fW,ht,add_lit,hv]
theorem Bs {w':World}{ρ:Nat→Option Value}{D:Nat→Prop}{e k n:Nat}{v':Value}{xs ys:List (List RT)}{bJ news:List Value}(h0:0<k)(hx:∀(i:Nat) (y:List RT),xs[i]?=some y→y.length=k∧∀(j:Nat) (r:RT),y[j]?=some r→cE w' D (bJ.getD (i*k+j) undef) r)
  (Rb:bJ.length=xs.length*k) (hy:∀(i:Nat) (y:List RT),ys[i]?=some y→y.length=k∧∀(j:Nat) (r:RT),y[j]?=some r→cE w' D (news.getD (i*k+j) undef) r) (hn:n=(xs++ys).length) (ho:w'.ownsRow 0 e k v' n (bJ++news)):dr ρ w' D (some v') (.rows e k (xs++ys)):=by
 have cS:∀(i:Nat) (y:List RT),(xs++ys)[i]?=some y→y.length=k∧∀(j:Nat) (r:RT),y[j]?=some r→cE w' D ((bJ++news).getD (i*k+j) undef) r:=by
  intro i y zu;rw[List.getElem?_append]at zu;split at zu
  ·rename_i aj
   obtain⟨a1,a2⟩:=hx i y zu;refine⟨a1,fun j r hj=>?_⟩
   have zp:j<k:=by rw[←a1];exact(List.getElem?_eq_some_iff.1 hj).1
   have:i*k+j<bJ.length:=by rw[Rb];exact oK aj zp
   rw[List.getD_eq_getElem?_getD,List.getElem?_append_left this,←List.getD_eq_getElem?_getD];exact a2 j r hj
  ·rename_i AN
   obtain⟨a1,a2⟩:=hy _ y zu;refine⟨a1,fun j r hj=>?_⟩
   have ab':xs.length*k≤i*k:=Nat.mul_le_mul_right k (by omega)
   rw[List.getD_eq_getElem?_getD,List.getElem?_append_right (by rw[Rb];omega),←List.getD_eq_getElem?_getD,Rb,show i*k+j-xs.length*k=(i-xs.length)*k+j by rw[Nat.sub_mul];omega]
   exact a2 j r hj
 obtain⟨o1,o2⟩:=ho;rcases o2 with⟨rfl,hz⟩|⟨g,cap,cur,rfl,_,q1,q2,q3,q4,q5⟩
 ·have:xs++ys=[]:=List.eq_nil_of_length_eq_zero (by omega)
  exact⟨none,0,by rw[this];rfl,by rw[this];exact Nat.zero_le _,Nat.zero_le _,h0,fun i y h=>(cS i y h).1,.inl ⟨rfl,this,rfl⟩⟩
 ·refine⟨_,cap,by rw[hn],by omega,q3,h0,fun i y h=>(cS i y h).1,.inr ⟨g,cur,rfl,q1,q4,fun i y zu j r hj=>?_⟩⟩
  obtain⟨a1,a2⟩:=cS i y zu;have zp:j<k:=by rw[←a1];exact(List.getElem?_eq_some_iff.1 hj).1
  have aj:i*k+j<n*k:=oK (by rw[hn];exact(List.getElem?_eq_some_iff.1 zu).1) zp
  have:=a2 j r hj
  rw[←q5,List.getD_eq_getElem?_getD,List.getElem?_take,if_pos aj]at this;simpa[Array.getD_eq_getD_getElem?]using this
theorem Bt {w:World}{ρ:Nat→Option Value}{D:Nat→Prop}{e k:Nat}{v:Option Value}{xs:List (List RT)}(h:dr ρ w D v (.rows e k xs)):∃A c bJ,v=some (.slice A xs.length c)∧w.ownsRow 0 e k (.slice A xs.length c) xs.length bJ∧0<k∧
  ∀(i:Nat) (y:List RT),xs[i]?=some y→y.length=k∧∀(j:Nat) (r:RT),y[j]?=some r→cE w D (bJ.getD (i*k+j) undef) r:=by
 obtain⟨A,c,rfl,h1,h2,h3,h4,h5⟩:=h;rcases h5 with⟨rfl,rfl,rfl⟩|⟨g,arr,rfl,h6,h7,h8⟩
 ·exact⟨none,0,[],rfl,World.ownsRow_nil w 0 e k,h3,fun i y hy=>by simp at hy⟩
 ·have hle:xs.length*k≤arr.size:=by rw[h7];exact Nat.mul_le_mul_right k h1
  refine⟨_,c,arr.toList.take (xs.length*k),rfl,⟨by have:=hle;simp only[List.length_take,Array.length_toList,List.size_toArray];omega,.inr ⟨g,c,arr,rfl,Nat.zero_le _,h6,h1,h2,h7,rfl⟩⟩,h3,fun i y hy=>⟨h4 i y hy,fun j r hj=>?_⟩⟩
  have zp:j<k:=by rw[←h4 i y hy];exact(List.getElem?_eq_some_iff.1 hj).1
  have aj:i*k+j<xs.length*k:=oK (List.getElem?_eq_some_iff.1 hy).1 zp
  rw[List.getD_eq_getElem?_getD,List.getElem?_take,if_pos aj];simpa[Array.getD_eq_getD_getElem?]using h8 i y hy j r hj
theorem xH (A:Option Addr)(n c:Nat):(Value.slice A n c).ownBlock=bI (some (.slice A n c)):=by cases A<;>rfl
def ae.qM (s:ae)(e k:Nat):GV→Option (List (List RT)×Option Nat)
 | .s (.own b)=>match s.get b with
   |some (.rows e' k' xs)=>if e=e'∧k=k' then some (xs,some b)else none
   |_=>none
 | .s (.r .nil)=>some ([],none)
 |_=>none
def uE:Option Nat→List (Nat×ak)
 |some b=>[(b,.dead)]
 |none=>[]
def Cm (s:ae):Option Nat→List (Nat×Option ak)
 |some b=>[(b,s.get b)]
 |none=>[]
theorem MD {t b':Nat}{bx yx:Operand}(ho:o.op= .call {callee:= .builtin .append,args:= #[bx,yx],argTypes:= #[t,t]})(hd:bF o nt=true){d de:TD}{e:TypeId}(ht:aE P t=some d)(hk:d.k= .slice e)(he:aE P e=some de)(h0:0<de.size)
  {xs:List (List RT)} {ob:Option Nat} (hb:s.qM e de.size (s.ev bx)=some (xs,ob)) {k:Nat} {ys:List (List RT)} {fr:List (Nat×Option ak)} (hy:s.view (s.ev yx)=some (k,ys,fr)) (Dk:k=de.size∨ys=[]) (Ey:(xs.length+ys.length)*de.bytes≤140737488355328) (h63:xs.length+ys.length≤maxLen):
  dT P E nt o ((b',none)::(Cm s ob++fr)) (bE s.env [bx,yx]) (.s (.own b')) ((b',.rows e de.size (xs++ys))::uE ob):=by
 refine .act hd fun C env get a w ρ D hf hi hR=>?_;have cB:=hf _ (List.mem_cons_self ..);simp only at cB
 have hf1:∀x∈Cm s ob,get x.1=x.2:=fun x hx=>hf x (List.mem_cons_of_mem _ (List.mem_append_left _ hx))
 have Bu:∀x∈fr,get x.1=x.2:=fun x hx=>hf x (List.mem_cons_of_mem _ (List.mem_append_right _ hx))
 obtain⟨Ay,cy,ey,r1,r2,ME⟩:=vO hR hy Bu (bc hR hi (x:=yx) (by simp))
 have gw:Row w D Ay de.size ys:=by
  rcases Dk with rfl|rfl
  ·exact ME
  ·intro i e he;simp at he
 obtain⟨i,u,z,q1,q2,q3,q4,q5,q6,q7⟩:=eF he;have hu:=jW ht hk;have Xy:z.cells.size=de.size:=by have:=(cz he).2.1;rw[←q6]at this;simpa using this
 obtain⟨A,c,bJ,ev,po,Rb,lF,UW⟩:∃A c bJ,a.eval bx= .slice A xs.length c∧w.ownsRow 0 e de.size (.slice A xs.length c) xs.length bJ∧bJ.length=xs.length*de.size∧
   (∀(i:Nat) (y:List RT),xs[i]?=some y→y.length=de.size∧∀(j:Nat) (r:RT),y[j]?=some r→cE w D (bJ.getD (i*de.size+j) undef) r)∧
   ((ob=none∧A=none)∨∃b,ob=some b∧(∃z,get b=some z∧z.live=true)∧ρ b=some (.slice A xs.length c)):=by
  have hr:=bc hR hi (x:=bx) (by simp)
  unfold ae.qM at hb;split at hb
  ·rename_i b eb
   split at hb
   ·rename_i e' k' xs' hg
    split at hb
    ·rename_i hc
     obtain⟨rfl,rfl⟩:=hc
     cases hb;have uy:get b=some (.rows e de.size xs):=(hf1 (b,s.get b) (List.mem_cons_self ..)).trans hg
     obtain⟨A,c,bJ,a1,a2,a3,a4⟩:=Bt (hR.blk b _ uy);rw[eb]at hr;generalize a.eval bx=v at hr⊢
     cases hr with|s hr=>cases hr with|own hr=>
     rw[a1]at hr
     cases hr;exact⟨A,c,bJ,rfl,a2,a2.1,a4,.inr ⟨b,rfl,⟨_,uy,rfl⟩,a1⟩⟩
    ·cases hb
   ·cases hb
  ·rename_i eb
   cases hb;rw[eb]at hr;generalize a.eval bx=v at hr⊢
   cases hr with|s hr=>cases hr with|r hr=>
   cases hr;exact⟨none,0,[],rfl,World.ownsRow_nil w 0 e de.size,by simp,fun i y h=>(by simp at h),.inl ⟨rfl,rfl⟩⟩
  ·cases hb
 obtain⟨v',w',dA,aab,xI,mU⟩:∃v' w',(execOp a.eval o).run P w= .ok (.value v') w'∧w'.ownsRow 0 e de.size v' (xs.length+ys.length) (bJ++fW w Ay (ys.length*de.size))∧w.grownBy w' (Value.slice A xs.length c).ownBlock∧(∀g,bI (some v')=some g→bI (some (.slice A xs.length c))=some g∨w.heap.size≤g):=by
  cases hA:Ay with
  |none=>
   have Z':ys=[]:=by
    cases ys with
    |nil=>rfl
    |cons y ys=>
     obtain⟨_,b,o,e',_⟩:=gw 0 y rfl;rw[hA]at e';cases e'
   subst Z';rw[hA]at ey;have hcy:cy=0∨cy≠0:=by omega
   have dA:(execOp a.eval o).run P w= .ok (.value (.slice A xs.length c)) w:=by
    obtain⟨o1,o2⟩:=po;have hsc:xs.length≤c:=by
     rcases o2 with⟨e1,e2⟩|⟨g,cap,cur,e1,_,_,e2,_⟩
     ·omega
     ·simp only[Value.slice.injEq]at e1
      omega
    simp only[execOp,ho,resolve,invoke,builtin,Builtin.append_,List.map_toArray,List.map_cons,List.map_nil,ev,ey,Sem.run_bind,Sem.run_pure,Result.andThen_ok,List.getElem?_toArray,List.getElem?_cons_zero,List.getElem?_cons_succ,run_underlying hu,oE he];simp[Builtin.lenOf,hsc,Builtin.firstCells];rcases o2 with⟨e1,e2⟩|⟨g,cap,cur,e1,_,q,_⟩
    ·simp only[Value.slice.injEq]at e1
     obtain⟨rfl,_,rfl⟩:=e1;simp
    ·simp only[Value.slice.injEq]at e1
     obtain⟨rfl,_,rfl⟩:=e1;simp[storeCells]
   refine⟨_,w,dA,?_,⟨rfl,rfl,rfl,Nat.le_refl _,fun _ _ _=>rfl⟩,fun g h=> .inl h⟩
   simpa[fW]using po
  |some ad=>
   have vQ:(fW w (some ad) (ys.length*de.size)).length=ys.length*de.size:=by simp[fW]
   have eT:∀j u,(fW w (some ad) (ys.length*de.size))[j]?=some u→w.cell? (ad.add j)=some u∧u.oneCell'=true:=by
    intro j u hu;have hj:j<ys.length*de.size:=by rw[←vQ];exact(List.getElem?_eq_some_iff.1 hu).1
    rw[hA]at gw;obtain⟨b,o',v,y,r,e1,e2,e3,_,_,e4⟩:=wV h0 gw hj;rw[e3]at hu;cases hu
    cases e1;rw[add_lit];exact⟨e2,e4.one⟩
   obtain⟨v',w',ru,Tq,r3',_⟩:=run_append_own (P:=P) (w:=w) 0 t o.type e i z de.size de.bytes hu q1 q3 q4 q5 Xy h0 (.slice A xs.length c) xs.length bJ po ad ys.length cy (fW w (some ad) (ys.length*de.size)) vQ (fun j u h=>(eT j u h).1) (fun u hu=>by
    obtain⟨j,hj,rfl⟩:=List.getElem_of_mem hu;exact(eT j _ (List.getElem?_eq_getElem hj)).2) h63 Ey (Nat.zero_le _)
   refine⟨v',w',?_,Tq,r3',fun g hg=>?_⟩
   ·rw[hA]at ey
    simp[execOp,ho,resolve,invoke,builtin,ev,ey,ru]
   ·have MF:=po.2
    rcases MF with⟨e1,e2⟩|⟨g0,cap,cur,e1,_,p1,p2,p3,p4,p5⟩
    ·simp only[Value.slice.injEq]at e1
     obtain⟨rfl,_,rfl⟩:=e1;by_cases hm:ys.length=0
     ·have Kw:v'= .slice none 0 0:=by
       have Ev:fW w (some ad) (ys.length*de.size)=[]:=List.eq_nil_of_length_eq_zero (by rw[vQ,hm,Nat.zero_mul])
       simp[Builtin.append_,run_underlying hu,sizeOf,typeInfo,q1,Builtin.lenOf,Builtin.firstCells,loadCells,loadCellsFrom,hm,e2]at ru;exact ru.1.symm
      rw[Kw]at hg;cases hg
     ·rw[e2]at ru
      have hr:=run_append_nil (P:=P) w t o.type e i z hu q1 q3 ad ys.length cy (fW w (some ad) (ys.length*de.size)) (by rw[vQ,q4]) (fun j u h=>(eT j u h).1) (by omega) (by simp only[maxLen]at h63;omega) (by rw[q5];have hb:=Ey;simp only[e2,Nat.zero_add]at hb;omega)
      rw[hr]at ru;injection ru with ru _
      rw[←ru]at hg;injection hg with hg
      simp at hg
      exact .inr (by omega)
    ·simp only[Value.slice.injEq]at e1
     obtain⟨rfl,_,rfl⟩:=e1;by_cases UX:xs.length+ys.length≤c
     ·have hfit:xs.length*i.size+(fW w (some ad) (ys.length*de.size)).length≤cur.size:=by rw[vQ,p4,q4,←Nat.add_mul];exact Nat.mul_le_mul_right _ UX
      have hr:=run_append_room (P:=P) w t o.type e i hu q1 g0 xs.length c cur p1 ad ys.length cy (fW w (some ad) (ys.length*de.size)) (by rw[vQ,q4]) (fun j u h=>(eT j u h).1) (fun u hu=>by
       obtain⟨j,hj,rfl⟩:=List.getElem_of_mem hu;exact(eT j _ (List.getElem?_eq_getElem hj)).2) UX hfit
      rw[hr]at ru;injection ru with ru _
      rw[←ru]at hg;exact .inl hg
     ·have holds:∀j u,bJ[j]?=some u→w.cell? ((⟨g0,0,none⟩:Addr).add j)=some u:=po.cells (g:=g0) rfl
      have hr:=run_append_grow (P:=P) w t o.type e i z hu q1 q3 ⟨g0,0,none⟩ xs.length c bJ (by rw[Rb,q4]) holds ad ys.length cy (fW w (some ad) (ys.length*de.size)) (by rw[vQ,q4]) (fun j u h=>(eT j u h).1) (by omega) (by simp only[maxLen]at h63;omega) (by rw[q5];exact growslice_fits (by omega) Ey)
      rw[hr]at ru;injection ru with ru _
      rw[←ru]at hg;injection hg with hg
      simp at hg
      exact .inr (by omega)
 rw[xH]at xI;have hKD:cj D w w':=by
  intro k oL;refine xI.block k (hR.ro k oL).1 fun e'=>?_;rcases UW with⟨_,rfl⟩|⟨b,_,⟨z',hz1,hz2⟩,N8⟩
  ·cases e'
  ·exact(hR.own b z' k hz1 hz2 (by rw[N8];exact e'.symm)).1 oL
 have dq:∀(i:Nat) (y:List RT),ys[i]?=some y→y.length=de.size∧∀(j:Nat) (r:RT),y[j]?=some r→cE w' D ((fW w Ay (ys.length*de.size)).getD (i*de.size+j) undef) r:=by
  intro i y zu;have a1:=(gw i y zu).1;refine⟨a1,fun j r hj=>?_⟩
  have zp:j<de.size:=by rw[←a1];exact(List.getElem?_eq_some_iff.1 hj).1
  have aj:i*de.size+j<ys.length*de.size:=oK (List.getElem?_eq_some_iff.1 zu).1 zp
  obtain⟨b,o',v,y',r',_,_,e3,e4,e5,e6⟩:=wV h0 gw aj;have d1:(i*de.size+j)/ de.size=i:=by rw[Nat.mul_comm,Nat.mul_add_div h0,Nat.div_eq_of_lt zp,Nat.add_zero]
  have d2:(i*de.size+j) % de.size=j:=by rw[Nat.mul_comm,Nat.mul_add_mod,Nat.mod_eq_of_lt zp]
  rw[d1,zu]at e4;cases e4;rw[d2,hj]at e5;cases e5;rw[List.getD_eq_getElem?_getD,e3];exact e6.keep hKD fun _ h=>h
 have hY:∀(i:Nat) (y:List RT),xs[i]?=some y→y.length=de.size∧∀(j:Nat) (r:RT),y[j]?=some r→cE w' D (bJ.getD (i*de.size+j) undef) r:=fun i y h=>⟨(lF i y h).1,fun j r hj=>((lF i y h).2 j r hj).keep hKD fun _ h=>h⟩
 have hB:∀ρ',dr ρ' w' D (some v') (.rows e de.size (xs++ys)):=fun ρ'=>Bs h0 hY Rb dq (by simp) aab
 have abo:∃A' n' c',v'= .slice A' n' c':=by
  obtain⟨A',c',e1,_⟩:=hB ρ
  cases e1;exact⟨_,_,_,rfl⟩
 obtain⟨A',n',c',rfl⟩:=abo;refine⟨_,w',(fun c0=>if c0=b' then some (.slice A' n' c')else ρ c0),D,dA,?_,.s (.own (by simp))⟩
 rcases UW with⟨rfl,rfl⟩|⟨b,rfl,MG,N8⟩
 ·refine hR.alloc cB xI.os xI.tape xI.output xI.size (fun k hk=>xI.block k hk (by simp[bI])) (fun g hg=>?_) (hB _)
  rcases mU g hg with h1|h1
  ·cases h1
  ·exact h1
 ·refine hR.move cB MG xI.os xI.tape xI.output xI.size (fun k hk cv=>xI.block k hk fun e'=>cv (by rw[N8];exact e'.symm)) (fun g hg=>by rw[N8];exact mU g hg) (hB _)
def xJ (s:ae)(UY:Nat):Option Operand→Option Nat
 |none=>some UY
 |some x=>match(s.ev x).i? with
  |some (_,n)=>if 0≤n then some n.toNat else none
  |none=>none
theorem qN {C:Ctx}{env:Nat→GV}{get:Nat→Option ak}{a:Act}{w:World}{ρ:Nat→Option Value}{D:Nat→Prop}(hR:Rel C env get a w ρ D){xs:List Operand}(hi:∀x∈bE s.env xs,env x.1=x.2){UY:Nat}{x:Operand}{n:Nat}(h:xJ s UY (some x)=some n)(hx:x∈xs):
  ∃k,a.eval x= .int k (n:Int):=by
 simp only[xJ]at h;split at h
 ·rename_i k m hm
  split at h
  ·cases h
   refine⟨k,?_⟩;rw[GV.fU hm (bc hR hi hx)];congr 1;omega
  ·cases h
 ·cases h
def pq:Option Operand→List Operand
 |some x=>[x]
 |none=>[]
def iQ:GV→List Nat
 | .s (.own b)=>[b]
 |_=>[]
theorem Ez {t:TypeId}{x:Operand}{dQ:Option Operand}(ho:o.op= .slice t x none dQ none)(hd:bF o nt=true){d de:TD}{e:TypeId}(ht:aE P t=some d)(hk:d.k= .slice e)(he:aE P e=some de){b b':Nat}{e':TypeId}{k:Nat}{xs:List (List RT)}
  (hv:s.ev x= .s (.own b)) (hg:s.get b=some (.rows e' k xs)) {h:Nat} (hh:xJ s xs.length dQ=some h) (h2:h≤xs.length):
  dT P E nt o [(b',none),(b,some (.rows e' k xs))] (bE s.env (x::pq dQ)) (.s (.own b')) [(b',.rows e' k (xs.take h)),(b,.dead)]:=by
 refine .act hd fun C env get a w ρ D hf hi hR=>?_;have hr:=bc hR hi (x:=x) (by simp)
 rw[hv]at hr;have cB:=hf _ (List.mem_cons_self ..);have hb:=hf (b,some (.rows e' k xs)) (by simp)
 generalize ev:a.eval x=v at hr
 cases hr with|s hr=>cases hr with| @own _ n c A dk=>
 obtain⟨A',c',e1,q1,q2,q3,q4,q5⟩:=hR.blk b _ hb;rw[e1]at dk;simp only[Option.some.injEq,Value.slice.injEq]at dk;obtain⟨rfl,rfl,rfl⟩:=dk;have hu:=jW ht hk;have hA:(if c'=0 then A' else A'.map (·.add (0*de.size)))=A':=by
  rcases q5 with⟨rfl,_⟩|⟨g,arr,rfl,_⟩
  ·split<;>rfl
  ·split
   ·rfl
   ·simp[Addr.add]
 have dA:(execOp a.eval o).run P w= .ok (.value (.slice A' h c')) w:=by
  cases qj:dQ with
  |none=>
   rw[qj]at hh
   cases hh;simp[execOp,ho,qj,Instr.sliceAt,Instr.slice,Instr.sliceBounds,run_underlying hu,ev,oE he]at hA⊢;exact hA
  |some y=>
   rw[qj]at hh;obtain⟨k1,e2⟩:=qN hR hi hh (by simp[pq,qj])
   have:h≤c':=by omega
   simp[execOp,ho,qj,Instr.sliceAt,Instr.slice,Instr.sliceBounds,Instr.sliceBound,asIntOf,run_underlying hu,ev,oE he,e2,this]at hA⊢;exact hA
 have hlen:(xs.take h).length=h:=by simp only[List.length_take];omega
 have UZ:∀c x,ρ c=some x→(fun c=>if c=b' then some (Value.slice A' h c')else ρ c) c=some x:=fun c x hc=>by
  have:c≠b':=by rintro rfl;rw[hR.free _ cB]at hc;cases hc
  simp[this,hc]
 have cc:∀(i:Nat) (y:List RT),(xs.take h)[i]?=some y→xs[i]?=some y:=fun i y hy=>by
  rw[List.getElem?_take]at hy;split at hy
  ·exact hy
  ·cases hy
 refine⟨_,w,_,D,dA,hR.move (x':= .slice A' h c') cB ⟨_,hb,rfl⟩ rfl rfl rfl (Nat.le_refl _) (fun k _ _=>rfl) (fun g bf=> .inl (by rw[e1];cases A'<;>exact bf)) ⟨A',c',by rw[hlen],by omega,q2,q3,fun i y hy=>q4 i y (cc i y hy),?_⟩,.s (.own (by simp))⟩
 rcases q5 with⟨r1,r2,r3⟩|⟨g,arr,r1,r2,r3,r4⟩
 ·exact .inl ⟨r1,by rw[r2,List.take_nil],r3⟩
 ·exact .inr ⟨g,arr,r1,r2,r3,fun i y hy j r hr=>r4 i y (cc i y hy) j r hr⟩
theorem Rc {t:TypeId}{x:Operand}{lo dQ:Option Operand}(ho:o.op= .slice t x lo dQ none)(hd:bF o nt=true){d de:TD}{e:TypeId}(ht:aE P t=some d)(hk:d.k= .slice e)(he:aE P e=some de){k:Nat}{xs:List (List RT)}{fr:List (Nat×Option ak)}
  (hv:s.view (s.ev x)=some (k,xs,fr)) (Dk:k=de.size∨xs=[]) {l h:Nat} (hl:xJ s 0 lo=some l) (hh:xJ s xs.length dQ=some h) (h1:l≤h) (h2:h≤xs.length):
  dT P E nt o fr (bE s.env (x::(pq lo++pq dQ))) (.s (.r (.sl de.size ((xs.take h).drop l)))) ((iQ (s.ev x)).map fun b=>(b,.dead)):=by
 refine .act hd fun C env get a w ρ D hf hi uD=>?_;have hr:=bc uD hi (x:=x) (by simp)
 obtain⟨A,c,ev,hc,hm,ME⟩:=vO uD hv hf hr;have gw:Row w D A de.size xs:=by
  rcases Dk with rfl|rfl
  ·exact ME
  ·intro i e he;simp at he
 have MG:∀b∈iQ (s.ev x),∃z,get b=some z∧z.live=true:=by
  intro b hb;unfold iQ at hb;split at hb
  ·rename_i b' eb
   simp only[List.mem_cons,List.not_mem_nil,or_false]at hb;subst hb;rw[eb]at hv;simp only[ae.view]at hv;split at hv
   ·rename_i hg
    cases hv;exact⟨_,hf _ (List.mem_cons_self ..),rfl⟩
   ·cases hv
  ·cases hb
 obtain⟨D',hR,IY,lT⟩:=uD.consume (iQ (s.ev x)) MG;have hAD:∀b o,A=some ⟨b,o,none⟩→xs≠[]→D' b:=by
  intro b o' hA cv;rw[ev]at hr
  cases hg:s.ev x with
  |s t=>
   cases t with
   |own b'=>
    rw[hg]at hr
    cases hr with|s hr=>cases hr with|own hr=>
    exact lT b' (by rw[hg];exact List.mem_cons_self ..) b (by rw[hr,hA];rfl)
   |r t=>
    rw[hg]at hr hv
    cases t with
    |sl k' xs'=>
     simp only[ae.view,Option.some.injEq,Prod.mk.injEq]at hv;obtain⟨rfl,rfl,_⟩:=hv
     cases hr with|s hr=>cases hr with|r hr=>
     obtain⟨A',c',e1,_,_,_,h4⟩:=hr.slice;simp only[Value.slice.injEq]at e1;exact IY b (h4 b o' (e1.1▸hA) cv)
    |nil=>
     simp only[ae.view,Option.some.injEq,Prod.mk.injEq]at hv;exact absurd hv.2.1.symm cv
    |v y=>simp[ae.view]at hv
   |_=>rw[hg]at hv;simp[ae.view]at hv
  |_=>rw[hg]at hv;simp[ae.view]at hv
 have hu:=jW ht hk;have dA:(execOp a.eval o).run P w= .ok (.value (.slice (if c=l then A else A.map (·.add (l*de.size))) (h-l) (c-l))) w:=by
  cases MH:lo with
  |none=>
   rw[MH]at hl
   cases hl
   cases qj:dQ with
   |none=>
    rw[qj]at hh
    cases hh;simp[execOp,ho,MH,qj,Instr.sliceAt,Instr.slice,Instr.sliceBounds,run_underlying hu,ev,oE he]
   |some y=>
    rw[qj]at hh;obtain⟨k1,e1⟩:=qN uD hi hh (by simp[pq,qj])
    have:h≤c:=by omega
    simp[execOp,ho,MH,qj,Instr.sliceAt,Instr.slice,Instr.sliceBounds,Instr.sliceBound,asIntOf,run_underlying hu,ev,oE he,e1,this]
  |some z=>
   rw[MH]at hl;obtain⟨k2,e2⟩:=qN uD hi hl (by simp[pq,MH])
   cases qj:dQ with
   |none=>
    rw[qj]at hh
    cases hh;simp[execOp,ho,MH,qj,Instr.sliceAt,Instr.slice,Instr.sliceBounds,Instr.sliceBound,asIntOf,run_underlying hu,ev,oE he,e2,h1]
   |some y=>
    rw[qj]at hh;obtain⟨k1,e1⟩:=qN uD hi hh (by simp[pq,qj])
    have:h≤c:=by omega
    simp[execOp,ho,MH,qj,Instr.sliceAt,Instr.slice,Instr.sliceBounds,Instr.sliceBound,asIntOf,run_underlying hu,ev,oE he,e1,e2,this,h1]
 refine⟨_,w,ρ,D',dA,hR,.s (.r ?_)⟩;have hlen:((xs.take h).drop l).length=h-l:=by simp only[List.length_drop,List.length_take];omega
 by_cases hz:h=l
 ·have eQ:(xs.take h).drop l=[]:=List.eq_nil_of_length_eq_zero (by omega)
  rw[eQ,hz,Nat.sub_self];exact .sS (by omega)
 ·have xK:¬c=l:=by omega
  have cv:xs≠[]:=by intro e;subst e;simp at h2;omega
  obtain⟨x0,Y2⟩:∃x0,xs[0]?=some x0:=by
   cases xs with
   |nil=>exact absurd rfl cv
   |cons x0 xs=>exact⟨x0,rfl⟩
  obtain⟨_,b,o',rfl,_⟩:=gw 0 x0 Y2;simp only[xK,if_false,Option.map_some,add_lit];rw[←hlen];refine .N4 (by omega) (by omega) (hAD b o' rfl cv) fun i y hy=>?_
  rw[List.getElem?_drop,List.getElem?_take]at hy;split at hy
  ·obtain⟨a1,b2,o2,e2,a2⟩:=gw _ y hy
   cases e2;refine⟨a1,b,_,rfl,fun j r hj=>?_⟩
   obtain⟨v,tG,AI⟩:=a2 j r hj;refine⟨v,?_,AI.keep (cj.refl _ _) IY⟩;rw[Nat.add_mul]at tG;rw[←tG];congr 2;omega
  ·cases hy
theorem Xz {xa xb:Operand}{ts:Array TypeId}(ho:o.op= .call {callee:= .builtin .max,args:= #[xa,xb],argTypes:=ts})(hd:bF o nt=true){k k':IntKind}{m n:Int}(h1:(s.ev xa).i?=some (k,m))(h2:(s.ev xb).i?=some (k',n)):dT P E nt o [] (bE s.env [xa,xb]) (gI k (if n>m then n else m)) []:=by
 refine .still hd fun C env get a w ρ D hf hi hR=>⟨.int k (if n>m then n else m),?_,.s (.r (.v rfl))⟩
 have e1:=GV.fU h1 (bc hR hi (x:=xa) (by simp))
 have e2:=GV.fU h2 (bc hR hi (x:=xb) (by simp))
 have:=run_max_int2 (P:=P) w ts o.type k k' m n
 simp[execOp,ho,resolve,invoke,builtin,e1,e2,this]
theorem XA {xa xb:Operand}{ts:Array TypeId}(ho:o.op= .call {callee:= .builtin .min,args:= #[xa,xb],argTypes:=ts})(hd:bF o nt=true){k k':IntKind}{m n:Int}(h1:(s.ev xa).i?=some (k,m))(h2:(s.ev xb).i?=some (k',n)):dT P E nt o [] (bE s.env [xa,xb]) (gI k (if n<m then n else m)) []:=by
 refine .still hd fun C env get a w ρ D hf hi hR=>⟨.int k (if n<m then n else m),?_,.s (.r (.v rfl))⟩
 have e1:=GV.fU h1 (bc hR hi (x:=xa) (by simp))
 have e2:=GV.fU h2 (bc hR hi (x:=xb) (by simp))
 have:=run_min_int2 (P:=P) w ts o.type k k' m n
 simp[execOp,ho,resolve,invoke,builtin,e1,e2,this]
end
end Go.Proofs.YtlhohdjniaebbaaGreat.T
namespace Go.Proofs.YtlhohdjniaebbaaGreat.T
open Go Go.RowKit
open Go.Proofs.YtlhohdjniaebbaaGreat.Sr (wI rL pZ)
structure Sg where
 fr:List (Nat×Option ak)
 ins:List (Nat×GV)
 dst:Option Nat
 gv:GV
 Δ:List (Nat×ak)
abbrev St:=(Nat→GV)×(Nat→Option ak)
def ap (g:Sg)(σ:St):St:=(put σ.1 g.dst g.gv,upd σ.2 g.Δ)
def oN (P:Program)(E:List PanicEntry→World→Prop)(nt:Nat)(ops:Array Oper)(i:Nat)(g:Sg):Prop:=
 ∀C env get a w rest Q,C.nt=nt→(∀x∈g.fr,get x.1=x.2)→(∀x∈g.ins,env x.1=x.2)→R C env get a w→(∀a' w',R C (ap g (env,get)).1 (ap g (env,get)).2 a' w'→wpOps P ops Q rest a' w')→zk E Q→wpOps P ops Q (i::rest) a w
def at_ (σ:St):Nat ⊕ Nat→GV ⊕ Option ak
 | .inl t=> .inl (σ.1 t)
 | .inr b=> .inr (σ.2 b)
def eY (g:Sg):List (Nat ⊕ Nat):=(match g.dst with|some d=>[.inl d]|none=>[])++g.Δ.map fun x=> .inr x.1
def pt (g:Sg):List (Nat ⊕ Nat):=(g.ins.map fun x=> .inl x.1)++g.fr.map fun x=> .inr x.1
theorem XB {σ τ:St}(h:∀l,at_ σ l=at_ τ l):σ=τ:=by
 obtain⟨e,g⟩:=σ;obtain⟨e',g'⟩:=τ;have h1:e=e':=funext fun t=>by have:=h (.inl t);simpa[at_]using this
 have h2:g=g':=funext fun b=>by have:=h (.inr b);simpa[at_]using this
 rw[h1,h2]
theorem I0 {b:Nat}:∀{l:List (Nat×ak)},(∀x∈l,x.1≠b)→gt b l=none
 |[],_=>rfl
 |(u,y)::l,h=>by
  have:=h (u,y) (List.mem_cons_self ..)
  simp only[gt];rw[if_neg (fun e=>this e.symm)]
  exact I0 fun x hx=>h x (List.mem_cons_of_mem _ hx)
theorem I1 {b:Nat}:∀{l:List (Nat×ak)},(∃x∈l,x.1=b)→∃y,gt b l=some y
 |[],h=>by obtain⟨x,hx,_⟩:=h;cases hx
 |(u,y)::l,h=>by
  simp only[gt];split
  ·exact⟨_,rfl⟩
  ·rename_i hn
   obtain⟨x,hx,rfl⟩:=h;rcases List.mem_cons.1 hx with rfl|hx
   ·exact absurd rfl hn
   ·exact I1 ⟨x,hx,rfl⟩
theorem lq (g:Sg)(σ:St){l:Nat ⊕ Nat}(h:l∉eY g):at_ (ap g σ) l=at_ σ l:=by
 cases l with
 |inl t=>
  simp only[at_,ap,put];split
  ·rename_i e
   exact absurd (by simp[eY,e]) h
  ·rfl
 |inr b=>
  simp only[at_,ap,upd];rw[I0 fun x hx e=>h (by simp only[eY,List.mem_append,List.mem_map];exact .inr ⟨x,hx,by rw[e]⟩)]
theorem MJ (g:Sg)(σ τ:St){l:Nat ⊕ Nat}(h:l∈eY g):at_ (ap g σ) l=at_ (ap g τ) l:=by
 cases l with
 |inl t=>
  have:g.dst=some t:=by
   simp only[eY,List.mem_append,List.mem_map]at h;rcases h with h|⟨x,_,e⟩
   ·split at h
    ·rename_i e;simp at h;rw[e,h]
    ·cases h
   ·cases e
  simp only[at_,ap,put,this,if_true]
 |inr b=>
  obtain⟨y,hy⟩:∃y,gt b g.Δ=some y:=I1 (by
   simp only[eY,List.mem_append,List.mem_map]at h;rcases h with h|⟨x,hx,e⟩
   ·split at h<;>simp at h
   ·cases e;exact⟨x,hx,rfl⟩)
  simp only[at_,ap,upd,hy]
instance aaB:DecidableEq (Nat ⊕ Nat)
 | .inl a,.inl b=>if h:a=b then isTrue (by rw[h])else isFalse fun e=>by cases e;exact h rfl
 | .inr a,.inr b=>if h:a=b then isTrue (by rw[h])else isFalse fun e=>by cases e;exact h rfl
 | .inl _,.inr _=>isFalse fun e=>by cases e
 | .inr _,.inl _=>isFalse fun e=>by cases e
def I2 (l:Nat ⊕ Nat)(xs:List (Nat ⊕ Nat)):Bool:=xs.any fun x=>decide (l=x)
theorem I3 {l:Nat ⊕ Nat}{xs:List (Nat ⊕ Nat)}(h:l∈xs):I2 l xs=true:=List.any_eq_true.2 ⟨l,h,by simp⟩
def Cn (g h:Sg):Bool:=(eY g).any (fun l=>I2 l (pt h++eY h))||(eY h).any fun l=>I2 l (pt g++eY g)
theorem N9 {g h:Sg}{l:Nat ⊕ Nat}(h1:l∈eY g)(h2:l∈pt h∨l∈eY h):Cn g h=true:=by
 simp only[Cn,Bool.or_eq_true,List.any_eq_true];exact .inl ⟨l,h1,I3 (List.mem_append.2 h2)⟩
theorem XC {g h:Sg}{l:Nat ⊕ Nat}(h1:l∈eY h)(h2:l∈pt g∨l∈eY g):Cn g h=true:=by
 simp only[Cn,Bool.or_eq_true,List.any_eq_true];exact .inr ⟨l,h1,I3 (List.mem_append.2 h2)⟩
def dE (gs:List Sg)(L:Nat→Bool)(σ:St):Nat→St
 |0=>σ
 |n+1=>if L n then match gs[n]? with
  |some g=>ap g (dE gs L σ n)
  |none=>dE gs L σ n
  else dE gs L σ n
def can (gs:List Sg)(σ:St)(n:Nat):St:=dE gs (fun _=>true) σ n
theorem vR {gs:List Sg}{σ:St}{n:Nat}{g:Sg}(h:gs[n]?=some g):can gs σ (n+1)=ap g (can gs σ n):=by simp[can,dE,h]
def mV (acc:List Nat)(es:List Nat):Nat:=es.foldl (fun s e=>s|||2^e|||acc.getD e 0) 0
def np (EA:List (List Nat)):List Nat:=EA.foldl (fun acc es=>acc++[mV acc es]) []
theorem uF {acc es:List Nat}{i:Nat}(h:(mV acc es).testBit i=true):∃e∈es,i=e∨(acc.getD e 0).testBit i=true:=by
 have key:∀(es:List Nat) (s:Nat),(es.foldl (fun s e=>s|||2^e|||acc.getD e 0) s).testBit i=true→s.testBit i=true∨∃e∈es,i=e∨(acc.getD e 0).testBit i=true:=by
  intro es;induction es with
  |nil=>intro s h;exact .inl h
  |cons e es ih=>
   intro s h;rcases ih _ h with h|⟨e',he,h⟩
   ·simp only[Nat.testBit_or,Bool.or_eq_true,Nat.testBit_two_pow,decide_eq_true_eq]at h
    rcases h with(h|h)|h
    ·exact .inl h
    ·exact .inr ⟨e,List.mem_cons_self ..,.inl h.symm⟩
    ·exact .inr ⟨e,List.mem_cons_self ..,.inr h⟩
   ·exact .inr ⟨e',List.mem_cons_of_mem _ he,h⟩
 rcases key es 0 h with h|h
 ·simp at h
 ·exact h
theorem wW (X:Nat→Prop)(EA:List (List Nat))(hX:∀(j:Nat) (es:List Nat),EA[j]?=some es→X j→∀e∈es,X e){i j:Nat}(h:((np EA).getD j 0).testBit i=true)(hj:X j):X i:=by
 have key:∀(pre rest:List (List Nat)) (acc:List Nat),EA=pre++rest→acc.length=pre.length→(∀j i,(acc.getD j 0).testBit i=true→X j→X i)→∀j i,((rest.foldl (fun acc es=>acc++[mV acc es]) acc).getD j 0).testBit i=true→X j→X i:=by
  intro pre rest;induction rest generalizing pre with
  |nil=>intro acc _ _ h;exact h
  |cons es rest ih=>
   intro acc he hl zv;refine ih (pre++[es]) (acc++[mV acc es]) (by simp[he]) (by simp[hl]) fun j i hb hj=>?_
   rw[List.getD_eq_getElem?_getD,List.getElem?_append]at hb;split at hb
   ·exact zv j i (by rw[List.getD_eq_getElem?_getD];exact hb) hj
   ·rename_i AN
    by_cases e:j=acc.length
    ·subst e
     simp only[Nat.sub_self,List.getElem?_cons_zero,Option.getD_some]at hb;obtain⟨e',dg,h⟩:=uF hb;have hx:=hX acc.length es (by rw[he,hl];simp) hj e' dg
     rcases h with rfl|h
     ·exact hx
     ·exact zv e' i h hx
    ·have:([mV acc es])[j-acc.length]?=none:=List.getElem?_eq_none (by simp;omega)
     rw[this]at hb;simp at hb
 exact key [] EA [] rfl rfl (fun j i h _=>by simp at h) j i h hj
def oO (gs:List Sg)(ms:List Nat):Bool:=(List.range gs.length).all fun j=>(List.range j).all fun i=>match gs[i]?,gs[j]? with
 |some g,some h=> !Cn g h||(ms.getD j 0).testBit i
 |_,_=>true
theorem oP {gs:List Sg}{ms:List Nat}(h:oO gs ms=true){i j:Nat}(pR:i<j){g g':Sg}(hi:gs[i]?=some g)(hj:gs[j]?=some g')(hc:Cn g g'=true):(ms.getD j 0).testBit i=true:=by
 simp only[oO,List.all_eq_true,List.mem_range]at h;have:=h j (List.getElem?_eq_some_iff.1 hj).1 i pR
 rw[hi,hj]at this;simpa[hc]using this
def dx (ops:List Oper):List (List Nat):=ops.map fun o=>(o.after.toList.filter (Region.binds .any ·)).map (·.on)
def nq (EA:List (List Nat)):Bool:=(List.range EA.length).all fun j=>(EA.getD j []).all fun e=>e<j
section
variable {gs:List Sg}{ms:List Nat}{σ:St}{L:Nat→Bool}
theorem I4 (gp:oO gs ms=true)(hL:∀i j,L j=true→(ms.getD j 0).testBit i=true→L i=true){i:Nat}{g:Sg}(hi:gs[i]?=some g)(hn:L i=false)(N_:∀m,(ms.getD i 0).testBit m=true→L m=true){l:Nat ⊕ Nat}(hl:l∈pt g∨l∈eY g):
  ∀n,i≤n→at_ (dE gs L σ n) l=at_ (can gs σ i) l:=by
 have h1:∀m,m≤i→at_ (dE gs L σ m) l=at_ (can gs σ m) l:=by
  intro m;induction m with
  |zero=>intro _;rfl
  |succ m ih=>
   intro hm;have ih:=ih (by omega)
   cases hg:gs[m]? with
   |none=>simp only[dE,can,hg,if_true,ite_self];exact ih
   |some gm=>
    rw[vR hg]
    cases hLm:L m with
    |true=>
     simp only[dE,hLm,if_true,hg];by_cases hw:l∈eY gm
     ·exact MJ gm _ _ hw
     ·rw[lq gm _ hw,lq gm _ hw];exact ih
    |false=>
     simp only[dE,hLm,Bool.false_eq_true,if_false];by_cases hw:l∈eY gm
     ·have:=N_ m (oP gp (by omega) hg hi (N9 hw hl))
      rw[hLm]at this;cases this
     ·rw[lq gm _ hw];exact ih
 intro n gr;induction n with
 |zero=>
  obtain rfl:i=0:=by omega
  exact h1 0 (Nat.le_refl _)
 |succ n ih=>
  by_cases e:i=n+1
  ·subst e;exact h1 _ (Nat.le_refl _)
  ·have ih:=ih (by omega)
   rw[←ih]
   cases uG:L n with
   |false=>simp[dE,uG]
   |true=>
    cases hg:gs[n]? with
    |none=>simp[dE,uG,hg]
    |some gn=>
     simp only[dE,uG,if_true,hg];refine lq gn _ fun hw=>?_;by_cases e':n=i
     ·subst e';rw[hn]at uG;cases uG
     ·have:=hL i n uG (oP gp (by omega) hi hg (XC hw hl))
      rw[hn]at this;cases this
theorem U0 (gp:oO gs ms=true)(hL:∀i j,L j=true→(ms.getD j 0).testBit i=true→L i=true){i:Nat}{g:Sg}(hi:gs[i]?=some g)(hn:L i=false):∀n,i<n→ap g (dE gs L σ n)=dE gs (fun m=>L m||m==i) σ n:=by
 have h0:∀m,m≤i→dE gs (fun m=>L m||m==i) σ m=dE gs L σ m:=by
  intro m;induction m with
  |zero=>intro _;rfl
  |succ m ih=>
   intro hm;have hmi:(m==i)=false:=by simp;omega
   simp only[dE,hmi,Bool.or_false];rw[ih (by omega)]
 intro n gr;induction n with
 |zero=>omega
 |succ n ih=>
  by_cases e:n=i
  ·subst e
   have:dE gs L σ (n+1)=dE gs L σ n:=by simp[dE,hn]
   rw[this];simp only[dE,beq_self_eq_true,Bool.or_true,if_true,hi,h0 n (Nat.le_refl _)]
  ·have hni:(n==i)=false:=by simpa using e
   have ih:=ih (by omega)
   cases uG:L n with
   |false=>
    have h1:dE gs L σ (n+1)=dE gs L σ n:=by simp[dE,uG]
    have h2:dE gs (fun m=>L m||m==i) σ (n+1)=dE gs (fun m=>L m||m==i) σ n:=by simp[dE,uG,hni]
    rw[h1,h2,ih]
   |true=>
    cases hg:gs[n]? with
    |none=>
     have h1:dE gs L σ (n+1)=dE gs L σ n:=by simp[dE,uG,hg]
     have h2:dE gs (fun m=>L m||m==i) σ (n+1)=dE gs (fun m=>L m||m==i) σ n:=by simp[dE,uG,hg]
     rw[h1,h2,ih]
    |some gn=>
     have h1:dE gs L σ (n+1)=ap gn (dE gs L σ n):=by simp[dE,uG,hg]
     have h2:dE gs (fun m=>L m||m==i) σ (n+1)=ap gn (dE gs (fun m=>L m||m==i) σ n):=by simp[dE,uG,hg]
     rw[h1,h2,←ih];refine XB fun l=>?_;have dB:¬(l∈eY gn∧l∈eY g):=fun⟨a,b⟩=>by
      have:=hL i n uG (oP gp (by omega) hi hg (N9 b (.inr a)))
      rw[hn]at this;cases this
     by_cases w1:l∈eY g
     ·have w2:l∉eY gn:=fun h=>dB ⟨h,w1⟩
      rw[lq gn _ w2];exact MJ g _ _ w1
     ·rw[lq g _ w1]
      by_cases w2:l∈eY gn
      ·exact MJ gn _ _ w2
      ·rw[lq gn _ w2,lq gn _ w2,lq g _ w1]
theorem U1 (h:∀i,i<gs.length→L i=true):∀n,n≤gs.length→dE gs L σ n=can gs σ n:=by
 intro n;induction n with
 |zero=>intro _;rfl
 |succ n ih=>
  intro hn;have:=ih (by omega)
  simp only[can]at this;simp only[dE,can,h n (by omega),if_true,this]
theorem Re (h:∀i,i<gs.length→L i=false):∀n,n≤gs.length→dE gs L σ n=σ:=by
 intro n;induction n with
 |zero=>intro _;rfl
 |succ n ih=>
  intro hn;simp only[dE,h n (by omega),Bool.false_eq_true,if_false]
  exact ih (by omega)
end
structure Region.Ok (P:Program) (E:List PanicEntry→World→Prop) (nt:Nat) (ops:Array Oper) (gs:List Sg) (σ:St):Prop where
 len:gs.length=ops.size
 step:∀(i:Nat) (g:Sg),gs[i]?=some g→oN P E nt ops i g
 fr:∀(i:Nat) (g:Sg),gs[i]?=some g→∀x∈g.fr,(can gs σ i).2 x.1=x.2
 ins:∀(i:Nat) (g:Sg),gs[i]?=some g→∀x∈g.ins,(can gs σ i).1 x.1=x.2
section
variable {P:Program}{E:List PanicEntry→World→Prop}{nt:Nat}{ops:Array Oper}{gs:List Sg}{σ:St}
theorem MK {L:Array Bool}{i:Nat}{o:Oper}(hi:ops[i]?=some o)(hn:L.getD i true=false)(h:∀e∈o.after,Region.binds .any e=true→L.getD e.on false=true):i∈Region.ready .any ops L:=by
 unfold Region.ready;rw[List.mem_filter,List.mem_range];refine⟨(Array.getElem?_eq_some_iff.1 hi).1,?_⟩;simp only[hn,Bool.not_false,Bool.true_and,hi,Option.map_some,Option.getD_some];rw[Array.all_eq_true_iff_forall_mem];intro e he
 cases hb:Region.binds .any e
 ·simp
 ·simp[h e he hb]
theorem I5 {i:Nat}{es:List Nat}(h:(dx ops.toList)[i]?=some es):∃o,ops[i]?=some o∧es=(o.after.toList.filter (Region.binds .any ·)).map (·.on):=by
 simp only[dx,List.getElem?_map,Option.map_eq_some_iff]at h;obtain⟨o,ho,rfl⟩:=h;exact⟨o,by simpa using ho,rfl⟩
def left (L:Array Bool)(n:Nat):Nat:=(List.range n).countP fun i=> !(L.getD i true)
theorem I6 (bW:Region.Ok P E nt ops gs σ)(he:nq (dx ops.toList)=true)(gp:oO gs (np (dx ops.toList))=true){C:Ctx}(hC:C.nt=nt){Q:Exit→Act→World→Prop}(hE:zk E Q)(hQ:∀a w,R C (can gs σ gs.length).1 (can gs σ gs.length).2 a w→Q .normal a w):
  ∀(n:Nat) (L:Array Bool) (l:List Nat),wI ops n L l→L.size=ops.size→left L ops.size≤n→(∀(j:Nat) (es:List Nat),(dx ops.toList)[j]?=some es→L.getD j false=true→∀e∈es,L.getD e false=true)→
  ∀a w,R C (dE gs (fun i=>L.getD i false) σ gs.length).1 (dE gs (fun i=>L.getD i false) σ gs.length).2 a w→wpOps P ops Q l a w:=by
 have yL:∀(L:Array Bool),L.size=ops.size→(∀i,i<ops.size→L.getD i true=true)→∀a w,R C (dE gs (fun i=>L.getD i false) σ gs.length).1 (dE gs (fun i=>L.getD i false) σ gs.length).2 a w→Q .normal a w:=by
  intro L hs cS a w hR;rw[U1 (fun i hi=>by
   have:=cS i (by rw[←bW.len];exact hi)
   have aj:i<L.size:=by rw[hs,←bW.len];exact hi
   simp only[Array.getD_eq_getD_getElem?,Array.getElem?_eq_getElem aj,Option.getD_some]at this⊢;exact this) _ (Nat.le_refl _)]at hR
  exact hQ a w hR
 intro n;induction n with
 |zero=>
  intro L l hl hs aac xK a w hR;obtain rfl:l=[]:=hl
  refine yL L hs (fun i hi=>?_) a w hR
  have h0:left L ops.size=0:=by omega
  simp only[left,List.countP_eq_zero,List.mem_range,Bool.not_eq_true',Bool.not_eq_false]at h0;exact h0 i hi
 |succ n ih=>
  intro L l hl hs aac xK a w hR;rcases hl with⟨hr,rfl⟩|⟨i,l',hi,rfl,hl⟩
  ·refine yL L hs (fun i hi=>?_) a w hR
   induction i using Nat.strongRecOn with
   |_ i ihs=>
    cases hLi:L.getD i true with
    |true=>rfl
    |false=>
     exfalso
     have ho:ops[i]?=some ops[i]:=Array.getElem?_eq_getElem hi
     have cK:i∈Region.ready .any ops L:=MK ho hLi fun e lW hb=>by
      have aj:e.on<i:=by
       simp only[nq,List.all_eq_true,List.mem_range]at he;have h1:=he i (by simp[dx];exact hi)
       have:(dx ops.toList).getD i []=(ops[i].after.toList.filter (Region.binds .any ·)).map (·.on):=by simp[dx,hi]
       rw[this]at h1;have:=h1 e.on (List.mem_map.2 ⟨e,by simp[lW,hb],rfl⟩)
       simpa using this
      have:=ihs e.on aj (by omega)
      have uw:e.on<L.size:=by omega
      simp only[Array.getD_eq_getD_getElem?,Array.getElem?_eq_getElem uw,Option.getD_some]at this⊢;exact this
     rw[hr]at cK
     cases cK
  ·obtain⟨h1,h2,o,ho,h3⟩:=pZ hi
   have hL0:L.getD i false=false:=by
    have uw:i<L.size:=by omega
    simp only[Array.getD_eq_getD_getElem?,Array.getElem?_eq_getElem uw,Option.getD_some]at h2⊢;exact h2
   obtain⟨g,hg⟩:∃g,gs[i]?=some g:=⟨_,List.getElem?_eq_getElem (by rw[bW.len];exact h1)⟩
   have U2:∀i j,L.getD j false=true→((np (dx ops.toList)).getD j 0).testBit i=true→L.getD i false=true:=fun i j hj hb=>wW (fun m=>L.getD m false=true) _ xK hb hj
   have N_:∀m,((np (dx ops.toList)).getD i 0).testBit m=true→L.getD m false=true:=by
    intro m hb;have hX:∀(j:Nat) (es:List Nat),(dx ops.toList)[j]?=some es→(L.getD j false=true∨j=i)→∀e∈es,(L.getD e false=true∨e=i):=by
     intro j es hj hx e lW;rcases hx with hx|rfl
     ·exact .inl (xK j es hj hx e lW)
     ·obtain⟨o',pB,rfl⟩:=I5 hj
      rw[ho]at pB;cases pB;obtain⟨e',dg,rfl⟩:=List.mem_map.1 lW;simp only[List.mem_filter,Array.mem_toList_iff]at dg;exact .inl (h3 e' dg.1 dg.2)
    have hmm:∀(acc:List Nat) (es:List Nat),True:=fun _ _=>trivial
    have:=wW (fun m=>L.getD m false=true∨m=i) _ hX hb (.inr rfl)
    rcases this with h|rfl
    ·exact h
    ·exfalso
     have hX':∀(j:Nat) (es:List Nat),(dx ops.toList)[j]?=some es→(j<m∨L.getD j false=true∨j=m)→∀e∈es,(e<m∨L.getD e false=true∨e=m):=by
      intro j es hj hx e lW;have aj:e<j:=by
       simp only[nq,List.all_eq_true,List.mem_range]at he;have ji:=he j (List.getElem?_eq_some_iff.1 hj).1 e (by rw[List.getD_eq_getElem?_getD,hj];exact lW)
       simpa using ji
      rcases hx with hx|hx|rfl
      ·exact .inl (by omega)
      ·exact .inr (.inl (xK j es hj hx e lW))
      ·exact .inl aj
     have key:∀(pre rest:List (List Nat)) (acc:List Nat),dx ops.toList=pre++rest→acc.length=pre.length→(∀j i,(acc.getD j 0).testBit i=true→i<j)→∀j i,((rest.foldl (fun acc es=>acc++[mV acc es]) acc).getD j 0).testBit i=true→i<j:=by
      intro pre rest;induction rest generalizing pre with
      |nil=>intro acc _ _ h;exact h
      |cons es rest ihr=>
       intro acc KV XD zv;refine ihr (pre++[es]) (acc++[mV acc es]) (by simp[KV]) (by simp[XD]) fun j i hb=>?_
       rw[List.getD_eq_getElem?_getD,List.getElem?_append]at hb;split at hb
       ·exact zv j i (by rw[List.getD_eq_getElem?_getD];exact hb)
       ·by_cases e:j=acc.length
        ·subst e
         simp only[Nat.sub_self,List.getElem?_cons_zero,Option.getD_some]at hb;obtain⟨e',dg,h⟩:=uF hb;have aj:e'<acc.length:=by
          simp only[nq,List.all_eq_true,List.mem_range]at he;have:=he acc.length (by rw[KV,XD];simp) e' (by rw[List.getD_eq_getElem?_getD,KV,XD];simpa using dg)
          simpa using this
         rcases h with rfl|h
         ·exact aj
         ·have:=zv e' i h;omega
        ·have:([mV acc es])[j-acc.length]?=none:=List.getElem?_eq_none (by simp;omega)
         rw[this]at hb;simp at hb
     have:=key [] _ [] rfl rfl (fun j i h=>by simp at h) m m hb
     omega
   refine bW.step i g hg C _ _ a w l' Q hC (fun x hx=>?_) (fun x hx=>?_) hR (fun a' w' oH=>?_) hE
   ·have:=I4 gp U2 hg hL0 N_ (σ:=σ) (l:= .inr x.1) (.inl (by simp only[pt,List.mem_append,List.mem_map];exact .inr ⟨x,hx,rfl⟩)) gs.length (by rw[bW.len];omega)
    simp only[at_,Sum.inr.injEq]at this;rw[this];exact bW.fr i g hg x hx
   ·have:=I4 gp U2 hg hL0 N_ (σ:=σ) (l:= .inl x.1) (.inl (by simp only[pt,List.mem_append,List.mem_map];exact .inl ⟨x,hx,rfl⟩)) gs.length (by rw[bW.len];omega)
    simp only[at_,Sum.inl.injEq]at this;rw[this];exact bW.ins i g hg x hx
   ·have abp:=U0 gp U2 hg hL0 (σ:=σ) gs.length (by rw[bW.len];exact h1)
    have aY:∀m,(L.setIfInBounds i true).getD m false=(L.getD m false||m==i):=by
     intro m;simp only[Array.getD_eq_getD_getElem?,Array.getElem?_setIfInBounds];by_cases e:i=m
     ·subst e
      simp[show i<L.size by omega]
     ·simp only[e,if_false]
      rw[show(m==i)=false by simp;omega,Bool.or_false]
    refine ih _ _ hl (by simp[hs]) ?_ (fun j es hj hx e lW=>?_) a' w' ?_
    ·
     have aj:left (L.setIfInBounds i true) ops.size<left L ops.size:=by
      unfold left;have:∀(n:Nat),i<n→n≤ops.size→(List.range n).countP (fun j=> !(L.setIfInBounds i true).getD j true)<(List.range n).countP fun j=> !L.getD j true:=by
       intro n;have oQ:∀j,j≠i→(L.setIfInBounds i true).getD j true=L.getD j true:=by
        intro j hj;simp only[Array.getD_eq_getD_getElem?,Array.getElem?_setIfInBounds,if_neg (fun e=>hj (Eq.symm e))]
       have aad:(L.setIfInBounds i true).getD i true=true:=by
        simp[Array.getD_eq_getD_getElem?,Array.getElem?_setIfInBounds,show i<L.size by omega]
       have hle:∀n,n≤i→(List.range n).countP (fun j=> !(L.setIfInBounds i true).getD j true)=(List.range n).countP fun j=> !L.getD j true:=by
        intro n hn;refine List.countP_congr fun j hj=>?_;rw[oQ j (by have:=List.mem_range.1 hj;omega)]
       induction n with
       |zero=>omega
       |succ n ihn=>
        intro gr dB;rw[List.range_succ,List.countP_append,List.countP_append];by_cases e:n=i
        ·subst e
         rw[hle n (Nat.le_refl _)];have lL:L[n]?.getD true=false:=by simpa using h2
         simp[aad,lL]
        ·have:=ihn (by omega) (by omega)
         simp only[List.countP_cons,List.countP_nil,oQ n e];omega
      exact this ops.size h1 (Nat.le_refl _)
     omega
    ·rw[aY]at hx⊢
     simp only[Bool.or_eq_true,beq_iff_eq]at hx⊢;rcases hx with hx|rfl
     ·exact .inl (xK j es hj hx e lW)
     ·obtain⟨o',pB,rfl⟩:=I5 hj
      rw[ho]at pB;cases pB;obtain⟨e',dg,rfl⟩:=List.mem_map.1 lW;simp only[List.mem_filter,Array.mem_toList_iff]at dg;exact .inl (h3 e' dg.1 dg.2)
    ·rw[show(fun m=>(L.setIfInBounds i true).getD m false)=fun m=>L.getD m false||m==i from funext aY,←abp]
     exact oH
theorem EB (bW:Region.Ok P E nt ops gs σ){C:Ctx}(hC:C.nt=nt){Q:Exit→Act→World→Prop}(hE:zk E Q)(hQ:∀a w,R C (can gs σ gs.length).1 (can gs σ gs.length).2 a w→Q .normal a w):
  ∀(m k:Nat),k+m=gs.length→∀a w,R C (can gs σ k).1 (can gs σ k).2 a w→wpOps P ops Q (List.range' k m) a w:=by
 intro m;induction m with
 |zero=>intro k hk a w hR;exact hQ a w (by rw[←hk];exact hR)
 |succ m ih=>
  intro k hk a w hR;obtain⟨g,hg⟩:∃g,gs[k]?=some g:=⟨_,List.getElem?_eq_getElem (by omega)⟩
  rw[List.range'_succ];refine bW.step k g hg C _ _ a w _ Q hC (bW.fr k g hg) (bW.ins k g hg) hR (fun a' w' oH=>ih (k+1) (by omega) a' w' ?_) hE
  rw[vR hg];exact oH
end
end Go.Proofs.YtlhohdjniaebbaaGreat.T
