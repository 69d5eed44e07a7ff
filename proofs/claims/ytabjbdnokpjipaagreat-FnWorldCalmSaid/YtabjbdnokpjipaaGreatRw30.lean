/-
What is proved: of makeSlice, append, slice, max and min, what each does to trees and what rests on it. Conditions: as stated.
-/
import Derived.Test.YtabjbdnokpjipaaGreatRw29
import Derived.Test.YtabjbdnokpjipaaGreatRw14
set_option linter.unusedVariables false
set_option linter.unusedSimpArgs false
namespace Go.Proofs.YtabjbdnokpjipaaGreat.T
open Go Go.RowKit
section
variable {P:Program}{E:List PanicEntry→World→Prop}{nt:Nat}{o:Oper}{s:ah}
theorem EU {t b:Nat}{lx cx:Operand}(ho:o.op= .makeSlice t lx cx)(hd:bO o nt=true){d de:TD}{e:TypeId}(ht:aM P t=some d)(hk:d.k= .slice e)(he:aM P e=some de)(h0:0<de.size){k k':IntKind}{n m:Int}
  (hl:(s.ev lx).i?=some (k,n)) (hc:(s.ev cx).i?=some (k',m)) (h1:0≤n) (h2:n≤m) (h3:(de.bytes:Int)*m≤281474976710656) (h4:m≤9223372036854775807):
  fE P E nt o [(b,none)] (bN s.env [lx,cx]) (.s (.own b)) [(b,.rows e de.size (List.replicate n.toNat (de.zero.map jY)))]:=by
 refine .act hd fun C env get a w ρ D hf hi hR=>?_;have el:=GV.i_ hl (br hR hi (x:=lx) (by simp))
 have ec:=GV.i_ hc (br hR hi (x:=cx) (by simp))
 obtain⟨i,u,z,q1,q2,q3,q4,q5,q6,q7⟩:=fS he;have eV:=run_make (P:=P) (w:=w) t e i z (lW ht hk) q1 q3 k k' n m h1 h2 (by rw[q5];exact h3) h4
 have hzs:z.cells.size=de.size:=by have:=(c9 he).2.1;rw[←q6]at this;simpa using this
 obtain⟨ρ',g1,g2⟩:=MU hR (hf _ (List.mem_cons_self ..)) (arr:=madeCells z.cells (m.toNat*i.size)) (e:=e) (k:=de.size) (c:=m.toNat) (xs:=List.replicate n.toNat (de.zero.map jY)) h0 (by simp;omega) (by simp only[maxLen];omega) (by simp[madeCells,q4]) (fun j y hy=>by
  have hj:j<n.toNat:=by have:=(List.getElem?_eq_some_iff.1 hy).1;simpa using this
  rw[List.getElem?_replicate,if_pos hj]at hy
  cases hy;refine⟨by rw[List.length_map,(c9 he).2.1],fun p r hp=>?_⟩
  rw[List.getElem?_map,Option.map_eq_some_iff]at hp;obtain⟨x,hx,rfl⟩:=hp;have qv:p<de.size:=by rw[←(c9 he).2.1];exact(List.getElem?_eq_some_iff.1 hx).1
  have ak:j*de.size+p<m.toNat*i.size:=by rw[q4];exact rz (by omega) qv
  have ado:(j*de.size+p) % z.cells.size=p:=by rw[hzs,Nat.mul_comm,Nat.mul_add_mod,Nat.mod_eq_of_lt qv]
  have hxz:z.cells[p]?=some x:=by rw[←q6]at hx;simpa using hx
  have:(madeCells z.cells (m.toNat*i.size)).getD (j*de.size+p) undef=x:=by
   have bw:p<z.cells.size:=by omega
   simp[madeCells,ak,ado,Array.getD_eq_getD_getElem?];rw[Array.getElem?_eq_getElem bw]at hxz;simpa[getElem!_pos z.cells p bw]using hxz
  rw[this];exact uO ((c9 he).2.2.1 x (List.mem_of_getElem? hx)))
 rw[List.length_replicate]at g2;exact⟨_,_,ρ',D,by simp[execOp,ho,el,ec,eV],g1,g2⟩
def jc (w:World)(A:Option Addr)(n:Nat):List Value:=(List.range n).map fun t=>match A with
 |some a=>(w.cell? (a.add t)).getD undef
 |none=>undef
theorem Aq {w:World}{D:Nat→Prop}{A:Option Addr}{k:Nat}{ys:List (List RT)}(h0:0<k)(h:Row w D A k ys){t:Nat}(ht:t<ys.length*k):
  ∃b o v y r,A=some ⟨b,o,none⟩∧w.cell? ⟨b,o+t,none⟩=some v∧(jc w A (ys.length*k))[t]?=some v∧ys[t / k]?=some y∧y[t % k]?=some r∧dh w D v r:=by
 have hi:t / k<ys.length:=(Nat.div_lt_iff_lt_mul h0).2 ht
 obtain⟨h1,b,o,rfl,h2⟩:=h (t / k) ys[t / k] (List.getElem?_eq_getElem hi);have hm:t % k<ys[t / k].length:=by rw[h1];exact Nat.mod_lt _ h0
 obtain⟨v,hv,hr⟩:=h2 (t % k) _ (List.getElem?_eq_getElem hm);have e:t / k*k+t % k=t:=by rw[Nat.mul_comm];exact Nat.div_add_mod t k
 rw[e]at hv;refine⟨b,o,v,_,_,rfl,hv,?_,List.getElem?_eq_getElem hi,List.getElem?_eq_getElem hm,hr⟩;simp[jc,ht,add_lit,hv]
theorem EV {w':World}{ρ:Nat→Option Value}{D:Nat→Prop}{e k n:Nat}{v':Value}{xs ys:List (List RT)}{bR news:List Value}(h0:0<k)(hx:∀(i:Nat) (y:List RT),xs[i]?=some y→y.length=k∧∀(j:Nat) (r:RT),y[j]?=some r→dh w' D (bR.getD (i*k+j) undef) r)
  (U9:bR.length=xs.length*k) (hy:∀(i:Nat) (y:List RT),ys[i]?=some y→y.length=k∧∀(j:Nat) (r:RT),y[j]?=some r→dh w' D (news.getD (i*k+j) undef) r) (hn:n=(xs++ys).length) (ho:w'.ownsRow 0 e k v' n (bR++news)):ew ρ w' D (some v') (.rows e k (xs++ys)):=by
 have dW:∀(i:Nat) (y:List RT),(xs++ys)[i]?=some y→y.length=k∧∀(j:Nat) (r:RT),y[j]?=some r→dh w' D ((bR++news).getD (i*k+j) undef) r:=by
  intro i y CW;rw[List.getElem?_append]at CW;split at CW
  ·rename_i ak
   obtain⟨a1,a2⟩:=hx i y CW;refine⟨a1,fun j r hj=>?_⟩
   have vr:j<k:=by rw[←a1];exact(List.getElem?_eq_some_iff.1 hj).1
   have:i*k+j<bR.length:=by rw[U9];exact rz ak vr
   rw[List.getD_eq_getElem?_getD,List.getElem?_append_left this,←List.getD_eq_getElem?_getD];exact a2 j r hj
  ·rename_i ov
   obtain⟨a1,a2⟩:=hy _ y CW;refine⟨a1,fun j r hj=>?_⟩
   have aem:xs.length*k≤i*k:=Nat.mul_le_mul_right k (by omega)
   rw[List.getD_eq_getElem?_getD,List.getElem?_append_right (by rw[U9];omega),←List.getD_eq_getElem?_getD,U9,show i*k+j-xs.length*k=(i-xs.length)*k+j by rw[Nat.sub_mul];omega]
   exact a2 j r hj
 obtain⟨o1,o2⟩:=ho;rcases o2 with⟨rfl,hz⟩|⟨g,cap,cur,rfl,_,q1,q2,q3,q4,q5⟩
 ·have:xs++ys=[]:=List.eq_nil_of_length_eq_zero (by omega)
  exact⟨none,0,by rw[this];rfl,by rw[this];exact Nat.zero_le _,Nat.zero_le _,h0,fun i y h=>(dW i y h).1,.inl ⟨rfl,this,rfl⟩⟩
 ·refine⟨_,cap,by rw[hn],by omega,q3,h0,fun i y h=>(dW i y h).1,.inr ⟨g,cur,rfl,q1,q4,fun i y CW j r hj=>?_⟩⟩
  obtain⟨a1,a2⟩:=dW i y CW;have vr:j<k:=by rw[←a1];exact(List.getElem?_eq_some_iff.1 hj).1
  have ak:i*k+j<n*k:=rz (by rw[hn];exact(List.getElem?_eq_some_iff.1 CW).1) vr
  have:=a2 j r hj
  rw[←q5,List.getD_eq_getElem?_getD,List.getElem?_take,if_pos ak]at this;simpa[Array.getD_eq_getD_getElem?]using this
theorem EW {w:World}{ρ:Nat→Option Value}{D:Nat→Prop}{e k:Nat}{v:Option Value}{xs:List (List RT)}(h:ew ρ w D v (.rows e k xs)):∃A c bR,v=some (.slice A xs.length c)∧w.ownsRow 0 e k (.slice A xs.length c) xs.length bR∧0<k∧
  ∀(i:Nat) (y:List RT),xs[i]?=some y→y.length=k∧∀(j:Nat) (r:RT),y[j]?=some r→dh w D (bR.getD (i*k+j) undef) r:=by
 obtain⟨A,c,rfl,h1,h2,h3,h4,h5⟩:=h;rcases h5 with⟨rfl,rfl,rfl⟩|⟨g,arr,rfl,h6,h7,h8⟩
 ·exact⟨none,0,[],rfl,World.ownsRow_nil w 0 e k,h3,fun i y hy=>by simp at hy⟩
 ·have hle:xs.length*k≤arr.size:=by rw[h7];exact Nat.mul_le_mul_right k h1
  refine⟨_,c,arr.toList.take (xs.length*k),rfl,⟨by have:=hle;simp only[List.length_take,Array.length_toList,List.size_toArray];omega,.inr ⟨g,c,arr,rfl,Nat.zero_le _,h6,h1,h2,h7,rfl⟩⟩,h3,fun i y hy=>⟨h4 i y hy,fun j r hj=>?_⟩⟩
  have vr:j<k:=by rw[←h4 i y hy];exact(List.getElem?_eq_some_iff.1 hj).1
  have ak:i*k+j<xs.length*k:=rz (List.getElem?_eq_some_iff.1 hy).1 vr
  rw[List.getD_eq_getElem?_getD,List.getElem?_take,if_pos ak];simpa[Array.getD_eq_getD_getElem?]using h8 i y hy j r hj
theorem Bg (A:Option Addr)(n c:Nat):(Value.slice A n c).ownBlock=bS (some (.slice A n c)):=by cases A<;>rfl
def ah.uR (s:ah)(e k:Nat):GV→Option (List (List RT)×Option Nat)
 | .s (.own b)=>match s.get b with
   |some (.rows e' k' xs)=>if e=e'∧k=k' then some (xs,some b)else none
   |_=>none
 | .s (.r .nil)=>some ([],none)
 |_=>none
def yd:Option Nat→List (Nat×az)
 |some b=>[(b,.dead)]
 |none=>[]
def FV (s:ah):Option Nat→List (Nat×Option az)
 |some b=>[(b,s.get b)]
 |none=>[]
theorem QC {t b':Nat}{bx yx:Operand}(ho:o.op= .call {callee:= .builtin .append,args:= #[bx,yx],argTypes:= #[t,t]})(hd:bO o nt=true){d de:TD}{e:TypeId}(ht:aM P t=some d)(hk:d.k= .slice e)(he:aM P e=some de)(h0:0<de.size)
  {xs:List (List RT)} {ob:Option Nat} (hb:s.uR e de.size (s.ev bx)=some (xs,ob)) {k:Nat} {ys:List (List RT)} {fr:List (Nat×Option az)} (hy:s.view (s.ev yx)=some (k,ys,fr)) (Hd:k=de.size∨ys=[]) (Ir:(xs.length+ys.length)*de.bytes≤140737488355328) (h63:xs.length+ys.length≤maxLen):
  fE P E nt o ((b',none)::(FV s ob++fr)) (bN s.env [bx,yx]) (.s (.own b')) ((b',.rows e de.size (xs++ys))::yd ob):=by
 refine .act hd fun C env get a w ρ D hf hi hR=>?_;have cT:=hf _ (List.mem_cons_self ..);simp only at cT
 have hf1:∀x∈FV s ob,get x.1=x.2:=fun x hx=>hf x (List.mem_cons_of_mem _ (List.mem_append_left _ hx))
 have hf2:∀x∈fr,get x.1=x.2:=fun x hx=>hf x (List.mem_cons_of_mem _ (List.mem_append_right _ hx))
 obtain⟨Ay,cy,ey,r1,r2,QD⟩:=zm hR hy hf2 (br hR hi (x:=yx) (by simp))
 have iH:Row w D Ay de.size ys:=by
  rcases Hd with rfl|rfl
  ·exact QD
  ·intro i e he;simp at he
 obtain⟨i,u,z,q1,q2,q3,q4,q5,q6,q7⟩:=fS he;have hu:=lW ht hk;have hzs:z.cells.size=de.size:=by have:=(c9 he).2.1;rw[←q6]at this;simpa using this
 obtain⟨A,c,bR,ev,oG,U9,fj,YB⟩:∃A c bR,a.eval bx= .slice A xs.length c∧w.ownsRow 0 e de.size (.slice A xs.length c) xs.length bR∧bR.length=xs.length*de.size∧
   (∀(i:Nat) (y:List RT),xs[i]?=some y→y.length=de.size∧∀(j:Nat) (r:RT),y[j]?=some r→dh w D (bR.getD (i*de.size+j) undef) r)∧
   ((ob=none∧A=none)∨∃b,ob=some b∧(∃z,get b=some z∧z.live=true)∧ρ b=some (.slice A xs.length c)):=by
  have hr:=br hR hi (x:=bx) (by simp)
  unfold ah.uR at hb;split at hb
  ·rename_i b eb
   split at hb
   ·rename_i e' k' xs' hg
    split at hb
    ·rename_i hc
     obtain⟨rfl,rfl⟩:=hc
     cases hb;have xZ:get b=some (.rows e de.size xs):=(hf1 (b,s.get b) (List.mem_cons_self ..)).trans hg
     obtain⟨A,c,bR,a1,a2,a3,a4⟩:=EW (hR.blk b _ xZ);rw[eb]at hr;generalize a.eval bx=v at hr⊢
     cases hr with|s hr=>cases hr with|own hr=>
     rw[a1]at hr
     cases hr;exact⟨A,c,bR,rfl,a2,a2.1,a4,.inr ⟨b,rfl,⟨_,xZ,rfl⟩,a1⟩⟩
    ·cases hb
   ·cases hb
  ·rename_i eb
   cases hb;rw[eb]at hr;generalize a.eval bx=v at hr⊢
   cases hr with|s hr=>cases hr with|r hr=>
   cases hr;exact⟨none,0,[],rfl,World.ownsRow_nil w 0 e de.size,by simp,fun i y h=>(by simp at h),.inl ⟨rfl,rfl⟩⟩
  ·cases hb
 obtain⟨v',w',eV,acd,zo,pC⟩:∃v' w',(execOp a.eval o).run P w= .ok (.value v') w'∧w'.ownsRow 0 e de.size v' (xs.length+ys.length) (bR++jc w Ay (ys.length*de.size))∧w.grownBy w' (Value.slice A xs.length c).ownBlock∧(∀g,bS (some v')=some g→bS (some (.slice A xs.length c))=some g∨w.heap.size≤g):=by
  cases hA:Ay with
  |none=>
   have EP:ys=[]:=by
    cases ys with
    |nil=>rfl
    |cons y ys=>
     obtain⟨_,b,o,e',_⟩:=iH 0 y rfl;rw[hA]at e';cases e'
   subst EP;rw[hA]at ey;have hcy:cy=0∨cy≠0:=by omega
   have eV:(execOp a.eval o).run P w= .ok (.value (.slice A xs.length c)) w:=by
    obtain⟨o1,o2⟩:=oG;have hsc:xs.length≤c:=by
     rcases o2 with⟨e1,e2⟩|⟨g,cap,cur,e1,_,_,e2,_⟩
     ·omega
     ·simp only[Value.slice.injEq]at e1
      omega
    simp only[execOp,ho,resolve,invoke,builtin,Builtin.append_,List.map_toArray,List.map_cons,List.map_nil,ev,ey,Sem.run_bind,Sem.run_pure,Result.andThen_ok,List.getElem?_toArray,List.getElem?_cons_zero,List.getElem?_cons_succ,run_underlying hu,rp he];simp[Builtin.lenOf,hsc,Builtin.firstCells];rcases o2 with⟨e1,e2⟩|⟨g,cap,cur,e1,_,q,_⟩
    ·simp only[Value.slice.injEq]at e1
     obtain⟨rfl,_,rfl⟩:=e1;simp
    ·simp only[Value.slice.injEq]at e1
     obtain⟨rfl,_,rfl⟩:=e1;simp[storeCells]
   refine⟨_,w,eV,?_,⟨rfl,rfl,rfl,Nat.le_refl _,fun _ _ _=>rfl⟩,fun g h=> .inl h⟩
   simpa[jc]using oG
  |some ad=>
   have kP:(jc w (some ad) (ys.length*de.size)).length=ys.length*de.size:=by simp[jc]
   have cO:∀j u,(jc w (some ad) (ys.length*de.size))[j]?=some u→w.cell? (ad.add j)=some u∧u.oneCell'=true:=by
    intro j u hu;have hj:j<ys.length*de.size:=by rw[←kP];exact(List.getElem?_eq_some_iff.1 hu).1
    rw[hA]at iH;obtain⟨b,o',v,y,r,e1,e2,e3,_,_,e4⟩:=Aq h0 iH hj;rw[e3]at hu;cases hu
    cases e1;rw[add_lit];exact⟨e2,e4.one⟩
   obtain⟨v',w',vt,Xi,r3',_⟩:=run_append_own (P:=P) (w:=w) 0 t o.type e i z de.size de.bytes hu q1 q3 q4 q5 hzs h0 (.slice A xs.length c) xs.length bR oG ad ys.length cy (jc w (some ad) (ys.length*de.size)) kP (fun j u h=>(cO j u h).1) (fun u hu=>by
    obtain⟨j,hj,rfl⟩:=List.getElem_of_mem hu;exact(cO j _ (List.getElem?_eq_getElem hj)).2) h63 Ir (Nat.zero_le _)
   refine⟨v',w',?_,Xi,r3',fun g hg=>?_⟩
   ·rw[hA]at ey
    simp[execOp,ho,resolve,invoke,builtin,ev,ey,vt]
   ·have QE:=oG.2
    rcases QE with⟨e1,e2⟩|⟨g0,cap,cur,e1,_,p1,p2,p3,p4,p5⟩
    ·simp only[Value.slice.injEq]at e1
     obtain⟨rfl,_,rfl⟩:=e1;by_cases hm:ys.length=0
     ·have GQ:v'= .slice none 0 0:=by
       have Io:jc w (some ad) (ys.length*de.size)=[]:=List.eq_nil_of_length_eq_zero (by rw[kP,hm,Nat.zero_mul])
       simp[Builtin.append_,run_underlying hu,sizeOf,typeInfo,q1,Builtin.lenOf,Builtin.firstCells,loadCells,loadCellsFrom,hm,e2]at vt;exact vt.1.symm
      rw[GQ]at hg;cases hg
     ·rw[e2]at vt
      have hr:=run_append_nil (P:=P) w t o.type e i z hu q1 q3 ad ys.length cy (jc w (some ad) (ys.length*de.size)) (by rw[kP,q4]) (fun j u h=>(cO j u h).1) (by omega) (by simp only[maxLen]at h63;omega) (by rw[q5];have hb:=Ir;simp only[e2,Nat.zero_add]at hb;omega)
      rw[hr]at vt;injection vt with vt _
      rw[←vt]at hg;injection hg with hg
      simp at hg
      exact .inr (by omega)
    ·simp only[Value.slice.injEq]at e1
     obtain⟨rfl,_,rfl⟩:=e1;by_cases YC:xs.length+ys.length≤c
     ·have hfit:xs.length*i.size+(jc w (some ad) (ys.length*de.size)).length≤cur.size:=by rw[kP,p4,q4,←Nat.add_mul];exact Nat.mul_le_mul_right _ YC
      have hr:=run_append_room (P:=P) w t o.type e i hu q1 g0 xs.length c cur p1 ad ys.length cy (jc w (some ad) (ys.length*de.size)) (by rw[kP,q4]) (fun j u h=>(cO j u h).1) (fun u hu=>by
       obtain⟨j,hj,rfl⟩:=List.getElem_of_mem hu;exact(cO j _ (List.getElem?_eq_getElem hj)).2) YC hfit
      rw[hr]at vt;injection vt with vt _
      rw[←vt]at hg;exact .inl hg
     ·have holds:∀j u,bR[j]?=some u→w.cell? ((⟨g0,0,none⟩:Addr).add j)=some u:=oG.cells (g:=g0) rfl
      have hr:=run_append_grow (P:=P) w t o.type e i z hu q1 q3 ⟨g0,0,none⟩ xs.length c bR (by rw[U9,q4]) holds ad ys.length cy (jc w (some ad) (ys.length*de.size)) (by rw[kP,q4]) (fun j u h=>(cO j u h).1) (by omega) (by simp only[maxLen]at h63;omega) (by rw[q5];exact growslice_fits (by omega) Ir)
      rw[hr]at vt;injection vt with vt _
      rw[←vt]at hg;injection hg with hg
      simp at hg
      exact .inr (by omega)
 rw[Bg]at zo;have hKD:cD D w w':=by
  intro k rA;refine zo.block k (hR.ro k rA).1 fun e'=>?_;rcases YB with⟨_,rfl⟩|⟨b,_,⟨z',oH,hz2⟩,RN⟩
  ·cases e'
  ·exact(hR.own b z' k oH hz2 (by rw[RN];exact e'.symm)).1 rA
 have eL:∀(i:Nat) (y:List RT),ys[i]?=some y→y.length=de.size∧∀(j:Nat) (r:RT),y[j]?=some r→dh w' D ((jc w Ay (ys.length*de.size)).getD (i*de.size+j) undef) r:=by
  intro i y CW;have a1:=(iH i y CW).1;refine⟨a1,fun j r hj=>?_⟩
  have vr:j<de.size:=by rw[←a1];exact(List.getElem?_eq_some_iff.1 hj).1
  have ak:i*de.size+j<ys.length*de.size:=rz (List.getElem?_eq_some_iff.1 CW).1 vr
  obtain⟨b,o',v,y',r',_,_,e3,e4,e5,e6⟩:=Aq h0 iH ak;have d1:(i*de.size+j)/ de.size=i:=by rw[Nat.mul_comm,Nat.mul_add_div h0,Nat.div_eq_of_lt vr,Nat.add_zero]
  have d2:(i*de.size+j) % de.size=j:=by rw[Nat.mul_comm,Nat.mul_add_mod,Nat.mod_eq_of_lt vr]
  rw[d1,CW]at e4;cases e4;rw[d2,hj]at e5;cases e5;rw[List.getD_eq_getElem?_getD,e3];exact e6.keep hKD fun _ h=>h
 have jN:∀(i:Nat) (y:List RT),xs[i]?=some y→y.length=de.size∧∀(j:Nat) (r:RT),y[j]?=some r→dh w' D (bR.getD (i*de.size+j) undef) r:=fun i y h=>⟨(fj i y h).1,fun j r hj=>((fj i y h).2 j r hj).keep hKD fun _ h=>h⟩
 have hB:∀ρ',ew ρ' w' D (some v') (.rows e de.size (xs++ys)):=fun ρ'=>EV h0 jN U9 eL (by simp) acd
 have adp:∃A' n' c',v'= .slice A' n' c':=by
  obtain⟨A',c',e1,_⟩:=hB ρ
  cases e1;exact⟨_,_,_,rfl⟩
 obtain⟨A',n',c',rfl⟩:=adp;refine⟨_,w',(fun c0=>if c0=b' then some (.slice A' n' c')else ρ c0),D,eV,?_,.s (.own (by simp))⟩
 rcases YB with⟨rfl,rfl⟩|⟨b,rfl,QF,RN⟩
 ·refine hR.alloc cT zo.os zo.tape zo.output zo.size (fun k hk=>zo.block k hk (by simp[bS])) (fun g hg=>?_) (hB _)
  rcases pC g hg with h1|h1
  ·cases h1
  ·exact h1
 ·refine hR.move cT QF zo.os zo.tape zo.output zo.size (fun k hk cf=>zo.block k hk fun e'=>cf (by rw[RN];exact e'.symm)) (fun g hg=>by rw[RN];exact pC g hg) (hB _)
def Bh (s:ah)(YD:Nat):Option Operand→Option Nat
 |none=>some YD
 |some x=>match(s.ev x).i? with
  |some (_,n)=>if 0≤n then some n.toNat else none
  |none=>none
theorem uS {C:Ctx}{env:Nat→GV}{get:Nat→Option az}{a:Act}{w:World}{ρ:Nat→Option Value}{D:Nat→Prop}(hR:Rel C env get a w ρ D){xs:List Operand}(hi:∀x∈bN s.env xs,env x.1=x.2){YD:Nat}{x:Operand}{n:Nat}(h:Bh s YD (some x)=some n)(hx:x∈xs):
  ∃k,a.eval x= .int k (n:Int):=by
 simp only[Bh]at h;split at h
 ·rename_i k m hm
  split at h
  ·cases h
   refine⟨k,?_⟩;rw[GV.i_ hm (br hR hi hx)];congr 1;omega
  ·cases h
 ·cases h
def sQ:Option Operand→List Operand
 |some x=>[x]
 |none=>[]
def kH:GV→List Nat
 | .s (.own b)=>[b]
 |_=>[]
theorem Is {t:TypeId}{x:Operand}{fB:Option Operand}(ho:o.op= .slice t x none fB none)(hd:bO o nt=true){d de:TD}{e:TypeId}(ht:aM P t=some d)(hk:d.k= .slice e)(he:aM P e=some de){b b':Nat}{e':TypeId}{k:Nat}{xs:List (List RT)}
  (hv:s.ev x= .s (.own b)) (hg:s.get b=some (.rows e' k xs)) {h:Nat} (hh:Bh s xs.length fB=some h) (h2:h≤xs.length):
  fE P E nt o [(b',none),(b,some (.rows e' k xs))] (bN s.env (x::sQ fB)) (.s (.own b')) [(b',.rows e' k (xs.take h)),(b,.dead)]:=by
 refine .act hd fun C env get a w ρ D hf hi hR=>?_;have hr:=br hR hi (x:=x) (by simp)
 rw[hv]at hr;have cT:=hf _ (List.mem_cons_self ..);have hb:=hf (b,some (.rows e' k xs)) (by simp)
 generalize ev:a.eval x=v at hr
 cases hr with|s hr=>cases hr with| @own _ n c A eK=>
 obtain⟨A',c',e1,q1,q2,q3,q4,q5⟩:=hR.blk b _ hb;rw[e1]at eK;simp only[Option.some.injEq,Value.slice.injEq]at eK;obtain⟨rfl,rfl,rfl⟩:=eK;have hu:=lW ht hk;have hA:(if c'=0 then A' else A'.map (·.add (0*de.size)))=A':=by
  rcases q5 with⟨rfl,_⟩|⟨g,arr,rfl,_⟩
  ·split<;>rfl
  ·split
   ·rfl
   ·simp[Addr.add]
 have eV:(execOp a.eval o).run P w= .ok (.value (.slice A' h c')) w:=by
  cases hhi:fB with
  |none=>
   rw[hhi]at hh
   cases hh;simp[execOp,ho,hhi,Instr.sliceAt,Instr.slice,Instr.sliceBounds,run_underlying hu,ev,rp he]at hA⊢;exact hA
  |some y=>
   rw[hhi]at hh;obtain⟨k1,e2⟩:=uS hR hi hh (by simp[sQ,hhi])
   have:h≤c':=by omega
   simp[execOp,ho,hhi,Instr.sliceAt,Instr.slice,Instr.sliceBounds,Instr.sliceBound,asIntOf,run_underlying hu,ev,rp he,e2,this]at hA⊢;exact hA
 have hlen:(xs.take h).length=h:=by simp only[List.length_take];omega
 have YE:∀c x,ρ c=some x→(fun c=>if c=b' then some (Value.slice A' h c')else ρ c) c=some x:=fun c x hc=>by
  have:c≠b':=by rintro rfl;rw[hR.free _ cT]at hc;cases hc
  simp[this,hc]
 have dR:∀(i:Nat) (y:List RT),(xs.take h)[i]?=some y→xs[i]?=some y:=fun i y hy=>by
  rw[List.getElem?_take]at hy;split at hy
  ·exact hy
  ·cases hy
 refine⟨_,w,_,D,eV,hR.move (x':= .slice A' h c') cT ⟨_,hb,rfl⟩ rfl rfl rfl (Nat.le_refl _) (fun k _ _=>rfl) (fun g bu=> .inl (by rw[e1];cases A'<;>exact bu)) ⟨A',c',by rw[hlen],by omega,q2,q3,fun i y hy=>q4 i y (dR i y hy),?_⟩,.s (.own (by simp))⟩
 rcases q5 with⟨r1,r2,r3⟩|⟨g,arr,r1,r2,r3,r4⟩
 ·exact .inl ⟨r1,by rw[r2,List.take_nil],r3⟩
 ·exact .inr ⟨g,arr,r1,r2,r3,fun i y hy j r hr=>r4 i y (dR i y hy) j r hr⟩
theorem U_ {t:TypeId}{x:Operand}{lo fB:Option Operand}(ho:o.op= .slice t x lo fB none)(hd:bO o nt=true){d de:TD}{e:TypeId}(ht:aM P t=some d)(hk:d.k= .slice e)(he:aM P e=some de){k:Nat}{xs:List (List RT)}{fr:List (Nat×Option az)}
  (hv:s.view (s.ev x)=some (k,xs,fr)) (Hd:k=de.size∨xs=[]) {l h:Nat} (hl:Bh s 0 lo=some l) (hh:Bh s xs.length fB=some h) (h1:l≤h) (h2:h≤xs.length):
  fE P E nt o fr (bN s.env (x::(sQ lo++sQ fB))) (.s (.r (.sl de.size ((xs.take h).drop l)))) ((kH (s.ev x)).map fun b=>(b,.dead)):=by
 refine .act hd fun C env get a w ρ D hf hi yc=>?_;have hr:=br yc hi (x:=x) (by simp)
 obtain⟨A,c,ev,hc,hm,QD⟩:=zm yc hv hf hr;have iH:Row w D A de.size xs:=by
  rcases Hd with rfl|rfl
  ·exact QD
  ·intro i e he;simp at he
 have QF:∀b∈kH (s.ev x),∃z,get b=some z∧z.live=true:=by
  intro b hb;unfold kH at hb;split at hb
  ·rename_i b' eb
   simp only[List.mem_cons,List.not_mem_nil,or_false]at hb;subst hb;rw[eb]at hv;simp only[ah.view]at hv;split at hv
   ·rename_i hg
    cases hv;exact⟨_,hf _ (List.mem_cons_self ..),rfl⟩
   ·cases hv
  ·cases hb
 obtain⟨D',hR,MT,oD⟩:=yc.consume (kH (s.ev x)) QF;have hAD:∀b o,A=some ⟨b,o,none⟩→xs≠[]→D' b:=by
  intro b o' hA cf;rw[ev]at hr
  cases hg:s.ev x with
  |s t=>
   cases t with
   |own b'=>
    rw[hg]at hr
    cases hr with|s hr=>cases hr with|own hr=>
    exact oD b' (by rw[hg];exact List.mem_cons_self ..) b (by rw[hr,hA];rfl)
   |r t=>
    rw[hg]at hr hv
    cases t with
    |sl k' xs'=>
     simp only[ah.view,Option.some.injEq,Prod.mk.injEq]at hv;obtain⟨rfl,rfl,_⟩:=hv
     cases hr with|s hr=>cases hr with|r hr=>
     obtain⟨A',c',e1,_,_,_,h4⟩:=hr.slice;simp only[Value.slice.injEq]at e1;exact MT b (h4 b o' (e1.1▸hA) cf)
    |nil=>
     simp only[ah.view,Option.some.injEq,Prod.mk.injEq]at hv;exact absurd hv.2.1.symm cf
    |v y=>simp[ah.view]at hv
   |_=>rw[hg]at hv;simp[ah.view]at hv
  |_=>rw[hg]at hv;simp[ah.view]at hv
 have hu:=lW ht hk;have eV:(execOp a.eval o).run P w= .ok (.value (.slice (if c=l then A else A.map (·.add (l*de.size))) (h-l) (c-l))) w:=by
  cases It:lo with
  |none=>
   rw[It]at hl
   cases hl
   cases hhi:fB with
   |none=>
    rw[hhi]at hh
    cases hh;simp[execOp,ho,It,hhi,Instr.sliceAt,Instr.slice,Instr.sliceBounds,run_underlying hu,ev,rp he]
   |some y=>
    rw[hhi]at hh;obtain⟨k1,e1⟩:=uS yc hi hh (by simp[sQ,hhi])
    have:h≤c:=by omega
    simp[execOp,ho,It,hhi,Instr.sliceAt,Instr.slice,Instr.sliceBounds,Instr.sliceBound,asIntOf,run_underlying hu,ev,rp he,e1,this]
  |some z=>
   rw[It]at hl;obtain⟨k2,e2⟩:=uS yc hi hl (by simp[sQ,It])
   cases hhi:fB with
   |none=>
    rw[hhi]at hh
    cases hh;simp[execOp,ho,It,hhi,Instr.sliceAt,Instr.slice,Instr.sliceBounds,Instr.sliceBound,asIntOf,run_underlying hu,ev,rp he,e2,h1]
   |some y=>
    rw[hhi]at hh;obtain⟨k1,e1⟩:=uS yc hi hh (by simp[sQ,hhi])
    have:h≤c:=by omega
    simp[execOp,ho,It,hhi,Instr.sliceAt,Instr.slice,Instr.sliceBounds,Instr.sliceBound,asIntOf,run_underlying hu,ev,rp he,e1,e2,this,h1]
 refine⟨_,w,ρ,D',eV,hR,.s (.r ?_)⟩;have hlen:((xs.take h).drop l).length=h-l:=by simp only[List.length_drop,List.length_take];omega
 by_cases hz:h=l
 ·have ic:(xs.take h).drop l=[]:=List.eq_nil_of_length_eq_zero (by omega)
  rw[ic,hz,Nat.sub_self];exact .EM (by omega)
 ·have wV:¬c=l:=by omega
  have cf:xs≠[]:=by intro e;subst e;simp at h2;omega
  obtain⟨x0,hx0⟩:∃x0,xs[0]?=some x0:=by
   cases xs with
   |nil=>exact absurd rfl cf
   |cons x0 xs=>exact⟨x0,rfl⟩
  obtain⟨_,b,o',rfl,_⟩:=iH 0 x0 hx0;simp only[wV,if_false,Option.map_some,add_lit];rw[←hlen];refine .RI (by omega) (by omega) (hAD b o' rfl cf) fun i y hy=>?_
  rw[List.getElem?_drop,List.getElem?_take]at hy;split at hy
  ·obtain⟨a1,b2,o2,e2,a2⟩:=iH _ y hy
   cases e2;refine⟨a1,b,_,rfl,fun j r hj=>?_⟩
   obtain⟨v,nH,Ei⟩:=a2 j r hj;refine⟨v,?_,Ei.keep (cD.refl _ _) MT⟩;rw[Nat.add_mul]at nH;rw[←nH];congr 2;omega
  ·cases hy
theorem aaS {xa xb:Operand}{ts:Array TypeId}(ho:o.op= .call {callee:= .builtin .max,args:= #[xa,xb],argTypes:=ts})(hd:bO o nt=true){k k':IntKind}{m n:Int}(h1:(s.ev xa).i?=some (k,m))(h2:(s.ev xb).i?=some (k',n)):fE P E nt o [] (bN s.env [xa,xb]) (gI k (if n>m then n else m)) []:=by
 refine .still hd fun C env get a w ρ D hf hi hR=>⟨.int k (if n>m then n else m),?_,.s (.r (.v rfl))⟩
 have e1:=GV.i_ h1 (br hR hi (x:=xa) (by simp))
 have e2:=GV.i_ h2 (br hR hi (x:=xb) (by simp))
 have:=run_max_int2 (P:=P) w ts o.type k k' m n
 simp[execOp,ho,resolve,invoke,builtin,e1,e2,this]
theorem aaT {xa xb:Operand}{ts:Array TypeId}(ho:o.op= .call {callee:= .builtin .min,args:= #[xa,xb],argTypes:=ts})(hd:bO o nt=true){k k':IntKind}{m n:Int}(h1:(s.ev xa).i?=some (k,m))(h2:(s.ev xb).i?=some (k',n)):fE P E nt o [] (bN s.env [xa,xb]) (gI k (if n<m then n else m)) []:=by
 refine .still hd fun C env get a w ρ D hf hi hR=>⟨.int k (if n<m then n else m),?_,.s (.r (.v rfl))⟩
 have e1:=GV.i_ h1 (br hR hi (x:=xa) (by simp))
 have e2:=GV.i_ h2 (br hR hi (x:=xb) (by simp))
 have:=run_min_int2 (P:=P) w ts o.type k k' m n
 simp[execOp,ho,resolve,invoke,builtin,e1,e2,this]
end
end Go.Proofs.YtabjbdnokpjipaaGreat.T
namespace Go.Proofs.YtabjbdnokpjipaaGreat.T
open Go Go.RowKit
open Go.Proofs.YtabjbdnokpjipaaGreat.Sr (Ad vG tP)
structure Sg where
 fr:List (Nat×Option az)
 ins:List (Nat×GV)
 dst:Option Nat
 gv:GV
 Δ:List (Nat×az)
abbrev St:=(Nat→GV)×(Nat→Option az)
def ap (g:Sg)(σ:St):St:=(put σ.1 g.dst g.gv,upd σ.2 g.Δ)
def rD (P:Program)(E:List PanicEntry→World→Prop)(nt:Nat)(ops:Array Oper)(i:Nat)(g:Sg):Prop:=
 ∀C env get a w rest Q,C.nt=nt→(∀x∈g.fr,get x.1=x.2)→(∀x∈g.ins,env x.1=x.2)→R C env get a w→(∀a' w',R C (ap g (env,get)).1 (ap g (env,get)).2 a' w'→wpOps P ops Q rest a' w')→CP E Q→wpOps P ops Q (i::rest) a w
def at_ (σ:St):Nat ⊕ Nat→GV ⊕ Option az
 | .inl t=> .inl (σ.1 t)
 | .inr b=> .inr (σ.2 b)
def gL (g:Sg):List (Nat ⊕ Nat):=(match g.dst with|some d=>[.inl d]|none=>[])++g.Δ.map fun x=> .inr x.1
def sR (g:Sg):List (Nat ⊕ Nat):=(g.ins.map fun x=> .inl x.1)++g.fr.map fun x=> .inr x.1
theorem aaU {σ τ:St}(h:∀l,at_ σ l=at_ τ l):σ=τ:=by
 obtain⟨e,g⟩:=σ;obtain⟨e',g'⟩:=τ;have h1:e=e':=funext fun t=>by have:=h (.inl t);simpa[at_]using this
 have h2:g=g':=funext fun b=>by have:=h (.inr b);simpa[at_]using this
 rw[h1,h2]
theorem MV {b:Nat}:∀{l:List (Nat×az)},(∀x∈l,x.1≠b)→gt b l=none
 |[],_=>rfl
 |(u,y)::l,h=>by
  have:=h (u,y) (List.mem_cons_self ..)
  simp only[gt];rw[if_neg (fun e=>this e.symm)]
  exact MV fun x hx=>h x (List.mem_cons_of_mem _ hx)
theorem MW {b:Nat}:∀{l:List (Nat×az)},(∃x∈l,x.1=b)→∃y,gt b l=some y
 |[],h=>by obtain⟨x,hx,_⟩:=h;cases hx
 |(u,y)::l,h=>by
  simp only[gt];split
  ·exact⟨_,rfl⟩
  ·rename_i hn
   obtain⟨x,hx,rfl⟩:=h;rcases List.mem_cons.1 hx with rfl|hx
   ·exact absurd rfl hn
   ·exact MW ⟨x,hx,rfl⟩
theorem nR (g:Sg)(σ:St){l:Nat ⊕ Nat}(h:l∉gL g):at_ (ap g σ) l=at_ σ l:=by
 cases l with
 |inl t=>
  simp only[at_,ap,put];split
  ·rename_i e
   exact absurd (by simp[gL,e]) h
  ·rfl
 |inr b=>
  simp only[at_,ap,upd];rw[MV fun x hx e=>h (by simp only[gL,List.mem_append,List.mem_map];exact .inr ⟨x,hx,by rw[e]⟩)]
theorem QG (g:Sg)(σ τ:St){l:Nat ⊕ Nat}(h:l∈gL g):at_ (ap g σ) l=at_ (ap g τ) l:=by
 cases l with
 |inl t=>
  have:g.dst=some t:=by
   simp only[gL,List.mem_append,List.mem_map]at h;rcases h with h|⟨x,_,e⟩
   ·split at h
    ·rename_i e;simp at h;rw[e,h]
    ·cases h
   ·cases e
  simp only[at_,ap,put,this,if_true]
 |inr b=>
  obtain⟨y,hy⟩:∃y,gt b g.Δ=some y:=MW (by
   simp only[gL,List.mem_append,List.mem_map]at h;rcases h with h|⟨x,hx,e⟩
   ·split at h<;>simp at h
   ·cases e;exact⟨x,hx,rfl⟩)
  simp only[at_,ap,upd,hy]
instance acA:DecidableEq (Nat ⊕ Nat)
 | .inl a,.inl b=>if h:a=b then isTrue (by rw[h])else isFalse fun e=>by cases e;exact h rfl
 | .inr a,.inr b=>if h:a=b then isTrue (by rw[h])else isFalse fun e=>by cases e;exact h rfl
 | .inl _,.inr _=>isFalse fun e=>by cases e
 | .inr _,.inl _=>isFalse fun e=>by cases e
def MX (l:Nat ⊕ Nat)(xs:List (Nat ⊕ Nat)):Bool:=xs.any fun x=>decide (l=x)
theorem MY {l:Nat ⊕ Nat}{xs:List (Nat ⊕ Nat)}(h:l∈xs):MX l xs=true:=List.any_eq_true.2 ⟨l,h,by simp⟩
def FW (g h:Sg):Bool:=(gL g).any (fun l=>MX l (sR h++gL h))||(gL h).any fun l=>MX l (sR g++gL g)
theorem RO {g h:Sg}{l:Nat ⊕ Nat}(h1:l∈gL g)(h2:l∈sR h∨l∈gL h):FW g h=true:=by
 simp only[FW,Bool.or_eq_true,List.any_eq_true];exact .inl ⟨l,h1,MY (List.mem_append.2 h2)⟩
theorem aaV {g h:Sg}{l:Nat ⊕ Nat}(h1:l∈gL h)(h2:l∈sR g∨l∈gL g):FW g h=true:=by
 simp only[FW,Bool.or_eq_true,List.any_eq_true];exact .inr ⟨l,h1,MY (List.mem_append.2 h2)⟩
def fb (gs:List Sg)(L:Nat→Bool)(σ:St):Nat→St
 |0=>σ
 |n+1=>if L n then match gs[n]? with
  |some g=>ap g (fb gs L σ n)
  |none=>fb gs L σ n
  else fb gs L σ n
def can (gs:List Sg)(σ:St)(n:Nat):St:=fb gs (fun _=>true) σ n
theorem zp {gs:List Sg}{σ:St}{n:Nat}{g:Sg}(h:gs[n]?=some g):can gs σ (n+1)=ap g (can gs σ n):=by simp[can,fb,h]
def pD (acc:List Nat)(es:List Nat):Nat:=es.foldl (fun s e=>s|||2^e|||acc.getD e 0) 0
def pV (Iu:List (List Nat)):List Nat:=Iu.foldl (fun acc es=>acc++[pD acc es]) []
theorem ye {acc es:List Nat}{i:Nat}(h:(pD acc es).testBit i=true):∃e∈es,i=e∨(acc.getD e 0).testBit i=true:=by
 have key:∀(es:List Nat) (s:Nat),(es.foldl (fun s e=>s|||2^e|||acc.getD e 0) s).testBit i=true→s.testBit i=true∨∃e∈es,i=e∨(acc.getD e 0).testBit i=true:=by
  intro es;induction es with
  |nil=>intro s h;exact .inl h
  |cons e es ih=>
   intro s h;rcases ih _ h with h|⟨e',he,h⟩
   ·simp only[Nat.testBit_or,Bool.or_eq_true,Nat.testBit_two_pow,decide_eq_true_eq]at h
    rcases h with(h|h)|h
    ·exact .inl h
    ·exact .inr ⟨e,List.mem_cons_self ..,.inl h.symm⟩
    ·exact .inr ⟨e,List.mem_cons_self ..,.inr h⟩
   ·exact .inr ⟨e',List.mem_cons_of_mem _ he,h⟩
 rcases key es 0 h with h|h
 ·simp at h
 ·exact h
theorem Ar (X:Nat→Prop)(Iu:List (List Nat))(hX:∀(j:Nat) (es:List Nat),Iu[j]?=some es→X j→∀e∈es,X e){i j:Nat}(h:((pV Iu).getD j 0).testBit i=true)(hj:X j):X i:=by
 have key:∀(pre rest:List (List Nat)) (acc:List Nat),Iu=pre++rest→acc.length=pre.length→(∀j i,(acc.getD j 0).testBit i=true→X j→X i)→∀j i,((rest.foldl (fun acc es=>acc++[pD acc es]) acc).getD j 0).testBit i=true→X j→X i:=by
  intro pre rest;induction rest generalizing pre with
  |nil=>intro acc _ _ h;exact h
  |cons es rest ih=>
   intro acc he hl CX;refine ih (pre++[es]) (acc++[pD acc es]) (by simp[he]) (by simp[hl]) fun j i hb hj=>?_
   rw[List.getD_eq_getElem?_getD,List.getElem?_append]at hb;split at hb
   ·exact CX j i (by rw[List.getD_eq_getElem?_getD];exact hb) hj
   ·rename_i ov
    by_cases e:j=acc.length
    ·subst e
     simp only[Nat.sub_self,List.getElem?_cons_zero,Option.getD_some]at hb;obtain⟨e',du,h⟩:=ye hb;have hx:=hX acc.length es (by rw[he,hl];simp) hj e' du
     rcases h with rfl|h
     ·exact hx
     ·exact CX e' i h hx
    ·have:([pD acc es])[j-acc.length]?=none:=List.getElem?_eq_none (by simp;omega)
     rw[this]at hb;simp at hb
 exact key [] Iu [] rfl rfl (fun j i h _=>by simp at h) j i h hj
def rE (gs:List Sg)(ms:List Nat):Bool:=(List.range gs.length).all fun j=>(List.range j).all fun i=>match gs[i]?,gs[j]? with
 |some g,some h=> !FW g h||(ms.getD j 0).testBit i
 |_,_=>true
theorem rF {gs:List Sg}{ms:List Nat}(h:rE gs ms=true){i j:Nat}(jf:i<j){g g':Sg}(hi:gs[i]?=some g)(hj:gs[j]?=some g')(hc:FW g g'=true):(ms.getD j 0).testBit i=true:=by
 simp only[rE,List.all_eq_true,List.mem_range]at h;have:=h j (List.getElem?_eq_some_iff.1 hj).1 i jf
 rw[hi,hj]at this;simpa[hc]using this
def eP (ops:List Oper):List (List Nat):=ops.map fun o=>(o.after.toList.filter (Region.binds .any ·)).map (·.on)
def pW (Iu:List (List Nat)):Bool:=(List.range Iu.length).all fun j=>(Iu.getD j []).all fun e=>e<j
section
variable {gs:List Sg}{ms:List Nat}{σ:St}{L:Nat→Bool}
theorem MZ (dP:rE gs ms=true)(hL:∀i j,L j=true→(ms.getD j 0).testBit i=true→L i=true){i:Nat}{g:Sg}(hi:gs[i]?=some g)(hn:L i=false)(RP:∀m,(ms.getD i 0).testBit m=true→L m=true){l:Nat ⊕ Nat}(hl:l∈sR g∨l∈gL g):
  ∀n,i≤n→at_ (fb gs L σ n) l=at_ (can gs σ i) l:=by
 have h1:∀m,m≤i→at_ (fb gs L σ m) l=at_ (can gs σ m) l:=by
  intro m;induction m with
  |zero=>intro _;rfl
  |succ m ih=>
   intro hm;have ih:=ih (by omega)
   cases hg:gs[m]? with
   |none=>simp only[fb,can,hg,if_true,ite_self];exact ih
   |some gm=>
    rw[zp hg]
    cases hLm:L m with
    |true=>
     simp only[fb,hLm,if_true,hg];by_cases hw:l∈gL gm
     ·exact QG gm _ _ hw
     ·rw[nR gm _ hw,nR gm _ hw];exact ih
    |false=>
     simp only[fb,hLm,Bool.false_eq_true,if_false];by_cases hw:l∈gL gm
     ·have:=RP m (rF dP (by omega) hg hi (RO hw hl))
      rw[hLm]at this;cases this
     ·rw[nR gm _ hw];exact ih
 intro n cJ;induction n with
 |zero=>
  obtain rfl:i=0:=by omega
  exact h1 0 (Nat.le_refl _)
 |succ n ih=>
  by_cases e:i=n+1
  ·subst e;exact h1 _ (Nat.le_refl _)
  ·have ih:=ih (by omega)
   rw[←ih]
   cases yf:L n with
   |false=>simp[fb,yf]
   |true=>
    cases hg:gs[n]? with
    |none=>simp[fb,yf,hg]
    |some gn=>
     simp only[fb,yf,if_true,hg];refine nR gn _ fun hw=>?_;by_cases e':n=i
     ·subst e';rw[hn]at yf;cases yf
     ·have:=hL i n yf (rF dP (by omega) hi hg (aaV hw hl))
      rw[hn]at this;cases this
theorem YF (dP:rE gs ms=true)(hL:∀i j,L j=true→(ms.getD j 0).testBit i=true→L i=true){i:Nat}{g:Sg}(hi:gs[i]?=some g)(hn:L i=false):∀n,i<n→ap g (fb gs L σ n)=fb gs (fun m=>L m||m==i) σ n:=by
 have h0:∀m,m≤i→fb gs (fun m=>L m||m==i) σ m=fb gs L σ m:=by
  intro m;induction m with
  |zero=>intro _;rfl
  |succ m ih=>
   intro hm;have hmi:(m==i)=false:=by simp;omega
   simp only[fb,hmi,Bool.or_false];rw[ih (by omega)]
 intro n cJ;induction n with
 |zero=>omega
 |succ n ih=>
  by_cases e:n=i
  ·subst e
   have:fb gs L σ (n+1)=fb gs L σ n:=by simp[fb,hn]
   rw[this];simp only[fb,beq_self_eq_true,Bool.or_true,if_true,hi,h0 n (Nat.le_refl _)]
  ·have hni:(n==i)=false:=by simpa using e
   have ih:=ih (by omega)
   cases yf:L n with
   |false=>
    have h1:fb gs L σ (n+1)=fb gs L σ n:=by simp[fb,yf]
    have h2:fb gs (fun m=>L m||m==i) σ (n+1)=fb gs (fun m=>L m||m==i) σ n:=by simp[fb,yf,hni]
    rw[h1,h2,ih]
   |true=>
    cases hg:gs[n]? with
    |none=>
     have h1:fb gs L σ (n+1)=fb gs L σ n:=by simp[fb,yf,hg]
     have h2:fb gs (fun m=>L m||m==i) σ (n+1)=fb gs (fun m=>L m||m==i) σ n:=by simp[fb,yf,hg]
     rw[h1,h2,ih]
    |some gn=>
     have h1:fb gs L σ (n+1)=ap gn (fb gs L σ n):=by simp[fb,yf,hg]
     have h2:fb gs (fun m=>L m||m==i) σ (n+1)=ap gn (fb gs (fun m=>L m||m==i) σ n):=by simp[fb,yf,hg]
     rw[h1,h2,←ih];refine aaU fun l=>?_;have vi:¬(l∈gL gn∧l∈gL g):=fun⟨a,b⟩=>by
      have:=hL i n yf (rF dP (by omega) hi hg (RO b (.inr a)))
      rw[hn]at this;cases this
     by_cases w1:l∈gL g
     ·have w2:l∉gL gn:=fun h=>vi ⟨h,w1⟩
      rw[nR gn _ w2];exact QG g _ _ w1
     ·rw[nR g _ w1]
      by_cases w2:l∈gL gn
      ·exact QG gn _ _ w2
      ·rw[nR gn _ w2,nR gn _ w2,nR g _ w1]
theorem YG (h:∀i,i<gs.length→L i=true):∀n,n≤gs.length→fb gs L σ n=can gs σ n:=by
 intro n;induction n with
 |zero=>intro _;rfl
 |succ n ih=>
  intro hn;have:=ih (by omega)
  simp only[can]at this;simp only[fb,can,h n (by omega),if_true,this]
theorem U' (h:∀i,i<gs.length→L i=false):∀n,n≤gs.length→fb gs L σ n=σ:=by
 intro n;induction n with
 |zero=>intro _;rfl
 |succ n ih=>
  intro hn;simp only[fb,h n (by omega),Bool.false_eq_true,if_false]
  exact ih (by omega)
end
structure Region.Ok (P:Program) (E:List PanicEntry→World→Prop) (nt:Nat) (ops:Array Oper) (gs:List Sg) (σ:St):Prop where
 len:gs.length=ops.size
 step:∀(i:Nat) (g:Sg),gs[i]?=some g→rD P E nt ops i g
 fr:∀(i:Nat) (g:Sg),gs[i]?=some g→∀x∈g.fr,(can gs σ i).2 x.1=x.2
 ins:∀(i:Nat) (g:Sg),gs[i]?=some g→∀x∈g.ins,(can gs σ i).1 x.1=x.2
section
variable {P:Program}{E:List PanicEntry→World→Prop}{nt:Nat}{ops:Array Oper}{gs:List Sg}{σ:St}
theorem QH {L:Array Bool}{i:Nat}{o:Oper}(hi:ops[i]?=some o)(hn:L.getD i true=false)(h:∀e∈o.after,Region.binds .any e=true→L.getD e.on false=true):i∈Region.ready .any ops L:=by
 unfold Region.ready;rw[List.mem_filter,List.mem_range];refine⟨(Array.getElem?_eq_some_iff.1 hi).1,?_⟩;simp only[hn,Bool.not_false,Bool.true_and,hi,Option.map_some,Option.getD_some];rw[Array.all_eq_true_iff_forall_mem];intro e he
 cases hb:Region.binds .any e
 ·simp
 ·simp[h e he hb]
theorem M0 {i:Nat}{es:List Nat}(h:(eP ops.toList)[i]?=some es):∃o,ops[i]?=some o∧es=(o.after.toList.filter (Region.binds .any ·)).map (·.on):=by
 simp only[eP,List.getElem?_map,Option.map_eq_some_iff]at h;obtain⟨o,ho,rfl⟩:=h;exact⟨o,by simpa using ho,rfl⟩
def left (L:Array Bool)(n:Nat):Nat:=(List.range n).countP fun i=> !(L.getD i true)
theorem M7 (dQ:Region.Ok P E nt ops gs σ)(he:pW (eP ops.toList)=true)(dP:rE gs (pV (eP ops.toList))=true){C:Ctx}(hC:C.nt=nt){Q:Exit→Act→World→Prop}(hE:CP E Q)(hQ:∀a w,R C (can gs σ gs.length).1 (can gs σ gs.length).2 a w→Q .normal a w):
  ∀(n:Nat) (L:Array Bool) (l:List Nat),Ad ops n L l→L.size=ops.size→left L ops.size≤n→(∀(j:Nat) (es:List Nat),(eP ops.toList)[j]?=some es→L.getD j false=true→∀e∈es,L.getD e false=true)→
  ∀a w,R C (fb gs (fun i=>L.getD i false) σ gs.length).1 (fb gs (fun i=>L.getD i false) σ gs.length).2 a w→wpOps P ops Q l a w:=by
 have vE:∀(L:Array Bool),L.size=ops.size→(∀i,i<ops.size→L.getD i true=true)→∀a w,R C (fb gs (fun i=>L.getD i false) σ gs.length).1 (fb gs (fun i=>L.getD i false) σ gs.length).2 a w→Q .normal a w:=by
  intro L hs dW a w hR;rw[YG (fun i hi=>by
   have:=dW i (by rw[←dQ.len];exact hi)
   have ak:i<L.size:=by rw[hs,←dQ.len];exact hi
   simp only[Array.getD_eq_getD_getElem?,Array.getElem?_eq_getElem ak,Option.getD_some]at this⊢;exact this) _ (Nat.le_refl _)]at hR
  exact hQ a w hR
 intro n;induction n with
 |zero=>
  intro L l hl hs ace wV a w hR;obtain rfl:l=[]:=hl
  refine vE L hs (fun i hi=>?_) a w hR
  have h0:left L ops.size=0:=by omega
  simp only[left,List.countP_eq_zero,List.mem_range,Bool.not_eq_true',Bool.not_eq_false]at h0;exact h0 i hi
 |succ n ih=>
  intro L l hl hs ace wV a w hR;rcases hl with⟨hr,rfl⟩|⟨i,l',hi,rfl,hl⟩
  ·refine vE L hs (fun i hi=>?_) a w hR
   induction i using Nat.strongRecOn with
   |_ i ihs=>
    cases hLi:L.getD i true with
    |true=>rfl
    |false=>
     exfalso
     have ho:ops[i]?=some ops[i]:=Array.getElem?_eq_getElem hi
     have cH:i∈Region.ready .any ops L:=QH ho hLi fun e o_ hb=>by
      have ak:e.on<i:=by
       simp only[pW,List.all_eq_true,List.mem_range]at he;have h1:=he i (by simp[eP];exact hi)
       have:(eP ops.toList).getD i []=(ops[i].after.toList.filter (Region.binds .any ·)).map (·.on):=by simp[eP,hi]
       rw[this]at h1;have:=h1 e.on (List.mem_map.2 ⟨e,by simp[o_,hb],rfl⟩)
       simpa using this
      have:=ihs e.on ak (by omega)
      have xY:e.on<L.size:=by omega
      simp only[Array.getD_eq_getD_getElem?,Array.getElem?_eq_getElem xY,Option.getD_some]at this⊢;exact this
     rw[hr]at cH
     cases cH
  ·obtain⟨h1,h2,o,ho,h3⟩:=tP hi
   have hL0:L.getD i false=false:=by
    have xY:i<L.size:=by omega
    simp only[Array.getD_eq_getD_getElem?,Array.getElem?_eq_getElem xY,Option.getD_some]at h2⊢;exact h2
   obtain⟨g,hg⟩:∃g,gs[i]?=some g:=⟨_,List.getElem?_eq_getElem (by rw[dQ.len];exact h1)⟩
   have YH:∀i j,L.getD j false=true→((pV (eP ops.toList)).getD j 0).testBit i=true→L.getD i false=true:=fun i j hj hb=>Ar (fun m=>L.getD m false=true) _ wV hb hj
   have RP:∀m,((pV (eP ops.toList)).getD i 0).testBit m=true→L.getD m false=true:=by
    intro m hb;have hX:∀(j:Nat) (es:List Nat),(eP ops.toList)[j]?=some es→(L.getD j false=true∨j=i)→∀e∈es,(L.getD e false=true∨e=i):=by
     intro j es hj hx e o_;rcases hx with hx|rfl
     ·exact .inl (wV j es hj hx e o_)
     ·obtain⟨o',tf,rfl⟩:=M0 hj
      rw[ho]at tf;cases tf;obtain⟨e',du,rfl⟩:=List.mem_map.1 o_;simp only[List.mem_filter,Array.mem_toList_iff]at du;exact .inl (h3 e' du.1 du.2)
    have hmm:∀(acc:List Nat) (es:List Nat),True:=fun _ _=>trivial
    have:=Ar (fun m=>L.getD m false=true∨m=i) _ hX hb (.inr rfl)
    rcases this with h|rfl
    ·exact h
    ·exfalso
     have hX':∀(j:Nat) (es:List Nat),(eP ops.toList)[j]?=some es→(j<m∨L.getD j false=true∨j=m)→∀e∈es,(e<m∨L.getD e false=true∨e=m):=by
      intro j es hj hx e o_;have ak:e<j:=by
       simp only[pW,List.all_eq_true,List.mem_range]at he;have jg:=he j (List.getElem?_eq_some_iff.1 hj).1 e (by rw[List.getD_eq_getElem?_getD,hj];exact o_)
       simpa using jg
      rcases hx with hx|hx|rfl
      ·exact .inl (by omega)
      ·exact .inr (.inl (wV j es hj hx e o_))
      ·exact .inl ak
     have key:∀(pre rest:List (List Nat)) (acc:List Nat),eP ops.toList=pre++rest→acc.length=pre.length→(∀j i,(acc.getD j 0).testBit i=true→i<j)→∀j i,((rest.foldl (fun acc es=>acc++[pD acc es]) acc).getD j 0).testBit i=true→i<j:=by
      intro pre rest;induction rest generalizing pre with
      |nil=>intro acc _ _ h;exact h
      |cons es rest ihr=>
       intro acc ON YI CX;refine ihr (pre++[es]) (acc++[pD acc es]) (by simp[ON]) (by simp[YI]) fun j i hb=>?_
       rw[List.getD_eq_getElem?_getD,List.getElem?_append]at hb;split at hb
       ·exact CX j i (by rw[List.getD_eq_getElem?_getD];exact hb)
       ·by_cases e:j=acc.length
        ·subst e
         simp only[Nat.sub_self,List.getElem?_cons_zero,Option.getD_some]at hb;obtain⟨e',du,h⟩:=ye hb;have ak:e'<acc.length:=by
          simp only[pW,List.all_eq_true,List.mem_range]at he;have:=he acc.length (by rw[ON,YI];simp) e' (by rw[List.getD_eq_getElem?_getD,ON,YI];simpa using du)
          simpa using this
         rcases h with rfl|h
         ·exact ak
         ·have:=CX e' i h;omega
        ·have:([pD acc es])[j-acc.length]?=none:=List.getElem?_eq_none (by simp;omega)
         rw[this]at hb;simp at hb
     have:=key [] _ [] rfl rfl (fun j i h=>by simp at h) m m hb
     omega
   refine dQ.step i g hg C _ _ a w l' Q hC (fun x hx=>?_) (fun x hx=>?_) hR (fun a' w' ru=>?_) hE
   ·have:=MZ dP YH hg hL0 RP (σ:=σ) (l:= .inr x.1) (.inl (by simp only[sR,List.mem_append,List.mem_map];exact .inr ⟨x,hx,rfl⟩)) gs.length (by rw[dQ.len];omega)
    simp only[at_,Sum.inr.injEq]at this;rw[this];exact dQ.fr i g hg x hx
   ·have:=MZ dP YH hg hL0 RP (σ:=σ) (l:= .inl x.1) (.inl (by simp only[sR,List.mem_append,List.mem_map];exact .inl ⟨x,hx,rfl⟩)) gs.length (by rw[dQ.len];omega)
    simp only[at_,Sum.inl.injEq]at this;rw[this];exact dQ.ins i g hg x hx
   ·have pE:=YF dP YH hg hL0 (σ:=σ) gs.length (by rw[dQ.len];exact h1)
    have bT:∀m,(L.setIfInBounds i true).getD m false=(L.getD m false||m==i):=by
     intro m;simp only[Array.getD_eq_getD_getElem?,Array.getElem?_setIfInBounds];by_cases e:i=m
     ·subst e
      simp[show i<L.size by omega]
     ·simp only[e,if_false]
      rw[show(m==i)=false by simp;omega,Bool.or_false]
    refine ih _ _ hl (by simp[hs]) ?_ (fun j es hj hx e o_=>?_) a' w' ?_
    ·
     have ak:left (L.setIfInBounds i true) ops.size<left L ops.size:=by
      unfold left;have:∀(n:Nat),i<n→n≤ops.size→(List.range n).countP (fun j=> !(L.setIfInBounds i true).getD j true)<(List.range n).countP fun j=> !L.getD j true:=by
       intro n;have lX:∀j,j≠i→(L.setIfInBounds i true).getD j true=L.getD j true:=by
        intro j hj;simp only[Array.getD_eq_getD_getElem?,Array.getElem?_setIfInBounds,if_neg (fun e=>hj (Eq.symm e))]
       have acf:(L.setIfInBounds i true).getD i true=true:=by
        simp[Array.getD_eq_getD_getElem?,Array.getElem?_setIfInBounds,show i<L.size by omega]
       have hle:∀n,n≤i→(List.range n).countP (fun j=> !(L.setIfInBounds i true).getD j true)=(List.range n).countP fun j=> !L.getD j true:=by
        intro n hn;refine List.countP_congr fun j hj=>?_;rw[lX j (by have:=List.mem_range.1 hj;omega)]
       induction n with
       |zero=>omega
       |succ n ihn=>
        intro cJ vi;rw[List.range_succ,List.countP_append,List.countP_append];by_cases e:n=i
        ·subst e
         rw[hle n (Nat.le_refl _)];have ot:L[n]?.getD true=false:=by simpa using h2
         simp[acf,ot]
        ·have:=ihn (by omega) (by omega)
         simp only[List.countP_cons,List.countP_nil,lX n e];omega
      exact this ops.size h1 (Nat.le_refl _)
     omega
    ·rw[bT]at hx⊢
     simp only[Bool.or_eq_true,beq_iff_eq]at hx⊢;rcases hx with hx|rfl
     ·exact .inl (wV j es hj hx e o_)
     ·obtain⟨o',tf,rfl⟩:=M0 hj
      rw[ho]at tf;cases tf;obtain⟨e',du,rfl⟩:=List.mem_map.1 o_;simp only[List.mem_filter,Array.mem_toList_iff]at du;exact .inl (h3 e' du.1 du.2)
    ·rw[show(fun m=>(L.setIfInBounds i true).getD m false)=fun m=>L.getD m false||m==i from funext bT,←pE]
     exact ru
theorem Iv (dQ:Region.Ok P E nt ops gs σ){C:Ctx}(hC:C.nt=nt){Q:Exit→Act→World→Prop}(hE:CP E Q)(hQ:∀a w,R C (can gs σ gs.length).1 (can gs σ gs.length).2 a w→Q .normal a w):
  ∀(m k:Nat),k+m=gs.length→∀a w,R C (can gs σ k).1 (can gs σ k).2 a w→wpOps P ops Q (List.range' k m) a w:=by
 intro m;induction m with
 |zero=>intro k hk a w hR;exact hQ a w (by rw[←hk];exact hR)
 |succ m ih=>
  intro k hk a w hR;obtain⟨g,hg⟩:∃g,gs[k]?=some g:=⟨_,List.getElem?_eq_getElem (by omega)⟩
  rw[List.range'_succ];refine dQ.step k g hg C _ _ a w _ Q hC (dQ.fr k g hg) (dQ.ins k g hg) hR (fun a' w' ru=>ih (k+1) (by omega) a' w' ?_) hE
  rw[zp hg];exact ru
end
end Go.Proofs.YtabjbdnokpjipaaGreat.T
