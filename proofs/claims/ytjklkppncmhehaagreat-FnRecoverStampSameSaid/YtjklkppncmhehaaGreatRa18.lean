/-
What is proved: the visible steps of the starter's Add and Wait, reckoned by the kernel. No condition.
-/
import Derived.Test.YtjklkppncmhehaaGreatRa06
import Derived.Test.YtjklkppncmhehaaGreatRa08
import Derived.Test.YtjklkppncmhehaaGreatRa17
set_option linter.unusedVariables false
set_option linter.unusedSimpArgs false
namespace Go.Proofs.YtjklkppncmhehaaGreat.Sr
open Go Go.Conc
def wx (P:Program)(v:Value){α:Type}:Sem α→Option (List Addr)
 | .program k=>wx P v (k P)
 | .mark _ k=>wx P v k
 | .load _ a k=>match wx P v (k v)with
   |some l=>some (a::l)
   |none=>none
 | .halt .blocked=>some []
 |_=>none
theorem DY {P:Program}{v:Value}{α:Type}{s:Sem α}:∀{es:Array Event} {l:List Addr},wx P v s=some l→∀w:World,(∀a∈l,w.cell? a=some v)→∃aJ,s.runT P w es=(.halt .blocked w,aJ):=by
 induction s with
 |program k ih=>intro es l h w;exact ih P h w
 |mark m k ih=>intro es l h w;exact ih h w
 |load md a k ih=>
  intro es l h w hl;simp only[wx]at h
  cases hy:wx P v (k v)with
  |none=>rw[hy]at h;cases h
  |some l'=>
   rw[hy]at h
   cases h;simp only[Sem.runT,hl a (List.mem_cons_self ..)];exact ih v hy w fun b hb=>hl b (List.mem_cons_of_mem _ hb)
 |halt h0=>
  intro es l h w _
  cases h0 with
  |blocked=>exact⟨es,rfl⟩
  |_=>cases h
 |_=>intro es l h;cases h
def je (P:Program)(v:Value)(g:Goroutine):Option (List Addr):=
 match eQ P g with
 |none=>none
 |some s=>wx P v s
theorem ye {P:Program}{v:Value}{g:Goroutine}{l:List Addr}(h:je P v g=some l)(w:World)(hl:∀a∈l,w.cell? a=some v):stepG P true g w= .go {g with status:= .blocked} w #[]:=by
 unfold je at h
 cases ho:eQ P g with
 |none=>rw[ho]at h;cases h
 |some s=>
  rw[ho]at h;obtain⟨aJ,hs⟩:=DY (es:= #[]) h w hl;obtain⟨U,h2,h3,h4⟩:=vw ho true w;have vv:(g.frame.kind==CallKind.early)=false:=by simpa using h3
  rw[h4];unfold eQ at ho;split at ho
  ·simp only[stepG.apply,hs]
   simp[GStep.after,seen]
  ·cases ho
section
variable(wg:Nat)(tm:Nat→Value)(c:Frame)(cs:List Frame)
set_option maxRecDepth 100000
theorem HG:aZ Tryz.prog (.int .u64 0) none (Hm Tryz.prog wg c cs)=some ⟨nX Tryz.prog wg c cs 4294967296,#[bE ⟨wg,0,none⟩,dr ⟨wg,0,none⟩],[⟨wg,0,none⟩,⟨wg,0,none⟩],[],some (⟨wg,0,none⟩,.int .u64 4294967296)⟩:=by kernel_rfl
theorem HH:aZ Tryz.prog (.int .u64 4294967296) none (Hm Tryz.prog wg c cs)=some ⟨nX Tryz.prog wg c cs 8589934592,#[bE ⟨wg,0,none⟩,dr ⟨wg,0,none⟩],[⟨wg,0,none⟩,⟨wg,0,none⟩],[],some (⟨wg,0,none⟩,.int .u64 8589934592)⟩:=by kernel_rfl
theorem HI:aZ Tryz.prog (.int .u64 8589934592) none (Hm Tryz.prog wg c cs)=some ⟨nX Tryz.prog wg c cs 12884901888,#[bE ⟨wg,0,none⟩,dr ⟨wg,0,none⟩],[⟨wg,0,none⟩,⟨wg,0,none⟩],[],some (⟨wg,0,none⟩,.int .u64 12884901888)⟩:=by kernel_rfl
theorem HJ:aZ Tryz.prog (.int .u64 12884901888) none (Hm Tryz.prog wg c cs)=some ⟨nX Tryz.prog wg c cs 17179869184,#[bE ⟨wg,0,none⟩,dr ⟨wg,0,none⟩],[⟨wg,0,none⟩,⟨wg,0,none⟩],[],some (⟨wg,0,none⟩,.int .u64 17179869184)⟩:=by kernel_rfl
theorem HK:aZ Tryz.prog (.int .u64 17179869184) none (Hm Tryz.prog wg c cs)=some ⟨nX Tryz.prog wg c cs 21474836480,#[bE ⟨wg,0,none⟩,dr ⟨wg,0,none⟩],[⟨wg,0,none⟩,⟨wg,0,none⟩],[],some (⟨wg,0,none⟩,.int .u64 21474836480)⟩:=by kernel_rfl
theorem LF:aZ Tryz.prog undef (some (191,2)) (VW Tryz.prog wg c cs)=some ⟨Ty Tryz.prog wg c cs,#[],[],[wg,wg],none⟩:=by kernel_rfl
theorem DZ:aZ Tryz.prog (.int .u64 0) none (Av Tryz.prog wg tm c cs)=some ⟨pE Tryz.prog wg tm c cs 0,#[bE ⟨wg,0,none⟩],[⟨wg,0,none⟩],[],none⟩:=by kernel_rfl
theorem D4:aZ Tryz.prog (.int .u64 4294967296) none (Av Tryz.prog wg tm c cs)=some ⟨pE Tryz.prog wg tm c cs 4294967296,#[bE ⟨wg,0,none⟩],[⟨wg,0,none⟩],[],none⟩:=by kernel_rfl
theorem D5:aZ Tryz.prog (.int .u64 8589934592) none (Av Tryz.prog wg tm c cs)=some ⟨pE Tryz.prog wg tm c cs 8589934592,#[bE ⟨wg,0,none⟩],[⟨wg,0,none⟩],[],none⟩:=by kernel_rfl
theorem D6:aZ Tryz.prog (.int .u64 12884901888) none (Av Tryz.prog wg tm c cs)=some ⟨pE Tryz.prog wg tm c cs 12884901888,#[bE ⟨wg,0,none⟩],[⟨wg,0,none⟩],[],none⟩:=by kernel_rfl
theorem D7:aZ Tryz.prog (.int .u64 17179869184) none (Av Tryz.prog wg tm c cs)=some ⟨pE Tryz.prog wg tm c cs 17179869184,#[bE ⟨wg,0,none⟩],[⟨wg,0,none⟩],[],none⟩:=by kernel_rfl
theorem D8:aZ Tryz.prog (.int .u64 21474836480) none (Av Tryz.prog wg tm c cs)=some ⟨pE Tryz.prog wg tm c cs 21474836480,#[bE ⟨wg,0,none⟩],[⟨wg,0,none⟩],[],none⟩:=by kernel_rfl
theorem LG:aZ Tryz.prog undef (some (191,2)) (VZ Tryz.prog wg tm c cs)=some ⟨N_ Tryz.prog wg tm c cs,#[],[],[wg,wg],none⟩:=by kernel_rfl
theorem HL:aZ Tryz.prog (.int .u64 4294967296) (some (191,2)) (lj Tryz.prog wg tm c cs 4294967296)=some ⟨dH Tryz.prog wg tm c cs 4294967296 true,#[bE ⟨wg,0,none⟩,dr ⟨wg,0,none⟩],[⟨wg,0,none⟩,⟨wg,0,none⟩,⟨wg,0,none⟩],[wg],some (⟨wg,0,none⟩,.int .u64 4294967297)⟩:=by kernel_rfl
theorem yf:aZ Tryz.prog (.int .u64 0) (some (191,2)) (lj Tryz.prog wg tm c cs 4294967296)=some ⟨dH Tryz.prog wg tm c cs 4294967296 false,#[bE ⟨wg,0,none⟩],[⟨wg,0,none⟩,⟨wg,0,none⟩],[wg],none⟩:=by kernel_rfl
theorem D9:aZ Tryz.prog undef (some (191,2)) (wv Tryz.prog wg tm c cs 4294967296)=some ⟨lX Tryz.prog wg tm c cs 4294967296,#[],[],[wg,wg],none⟩:=by kernel_rfl
theorem HM:aZ Tryz.prog (.int .u32 1) none (jo Tryz.prog wg tm c cs 4294967296)=some ⟨bf (jo Tryz.prog wg tm c cs 4294967296) (.tuple #[]),#[dj .disable,bE ⟨wg,1,none⟩,dr ⟨wg,1,none⟩,dj .enable],[⟨wg,1,none⟩,⟨wg,1,none⟩],[],some (⟨wg,1,none⟩,.int .u32 0)⟩:=by kernel_rfl
theorem rH:je Tryz.prog (.int .u32 0) (jo Tryz.prog wg tm c cs 4294967296)=some [⟨wg,1,none⟩]:=by kernel_rfl
theorem D_:aZ Tryz.prog (.int .u64 0) none (pF Tryz.prog wg tm c cs 4294967296)=some ⟨bf (pF Tryz.prog wg tm c cs 4294967296) (.int .u64 0),#[bE ⟨wg,0,none⟩],[⟨wg,0,none⟩],[],none⟩:=by kernel_rfl
theorem Ea:aZ Tryz.prog undef (some (191,2)) (Lm Tryz.prog wg tm c cs 4294967296)=some ⟨jH Tryz.prog wg tm c cs 4294967296,#[],[],[wg,wg],none⟩:=by kernel_rfl
theorem HN:aZ Tryz.prog (.int .u64 8589934592) (some (191,2)) (lj Tryz.prog wg tm c cs 8589934592)=some ⟨dH Tryz.prog wg tm c cs 8589934592 true,#[bE ⟨wg,0,none⟩,dr ⟨wg,0,none⟩],[⟨wg,0,none⟩,⟨wg,0,none⟩,⟨wg,0,none⟩],[wg],some (⟨wg,0,none⟩,.int .u64 8589934593)⟩:=by kernel_rfl
theorem yg:aZ Tryz.prog (.int .u64 0) (some (191,2)) (lj Tryz.prog wg tm c cs 8589934592)=some ⟨dH Tryz.prog wg tm c cs 8589934592 false,#[bE ⟨wg,0,none⟩],[⟨wg,0,none⟩,⟨wg,0,none⟩],[wg],none⟩:=by kernel_rfl
theorem yh:aZ Tryz.prog (.int .u64 4294967296) (some (191,2)) (lj Tryz.prog wg tm c cs 8589934592)=some ⟨dH Tryz.prog wg tm c cs 8589934592 false,#[bE ⟨wg,0,none⟩],[⟨wg,0,none⟩,⟨wg,0,none⟩],[wg],none⟩:=by kernel_rfl
theorem Eb:aZ Tryz.prog undef (some (191,2)) (wv Tryz.prog wg tm c cs 8589934592)=some ⟨lX Tryz.prog wg tm c cs 8589934592,#[],[],[wg,wg],none⟩:=by kernel_rfl
theorem HO:aZ Tryz.prog (.int .u32 1) none (jo Tryz.prog wg tm c cs 8589934592)=some ⟨bf (jo Tryz.prog wg tm c cs 8589934592) (.tuple #[]),#[dj .disable,bE ⟨wg,1,none⟩,dr ⟨wg,1,none⟩,dj .enable],[⟨wg,1,none⟩,⟨wg,1,none⟩],[],some (⟨wg,1,none⟩,.int .u32 0)⟩:=by kernel_rfl
theorem rJ:je Tryz.prog (.int .u32 0) (jo Tryz.prog wg tm c cs 8589934592)=some [⟨wg,1,none⟩]:=by kernel_rfl
theorem Ec:aZ Tryz.prog (.int .u64 0) none (pF Tryz.prog wg tm c cs 8589934592)=some ⟨bf (pF Tryz.prog wg tm c cs 8589934592) (.int .u64 0),#[bE ⟨wg,0,none⟩],[⟨wg,0,none⟩],[],none⟩:=by kernel_rfl
theorem Ed:aZ Tryz.prog undef (some (191,2)) (Lm Tryz.prog wg tm c cs 8589934592)=some ⟨jH Tryz.prog wg tm c cs 8589934592,#[],[],[wg,wg],none⟩:=by kernel_rfl
theorem HP:aZ Tryz.prog (.int .u64 12884901888) (some (191,2)) (lj Tryz.prog wg tm c cs 12884901888)=some ⟨dH Tryz.prog wg tm c cs 12884901888 true,#[bE ⟨wg,0,none⟩,dr ⟨wg,0,none⟩],[⟨wg,0,none⟩,⟨wg,0,none⟩,⟨wg,0,none⟩],[wg],some (⟨wg,0,none⟩,.int .u64 12884901889)⟩:=by kernel_rfl
theorem yi:aZ Tryz.prog (.int .u64 0) (some (191,2)) (lj Tryz.prog wg tm c cs 12884901888)=some ⟨dH Tryz.prog wg tm c cs 12884901888 false,#[bE ⟨wg,0,none⟩],[⟨wg,0,none⟩,⟨wg,0,none⟩],[wg],none⟩:=by kernel_rfl
theorem yj:aZ Tryz.prog (.int .u64 4294967296) (some (191,2)) (lj Tryz.prog wg tm c cs 12884901888)=some ⟨dH Tryz.prog wg tm c cs 12884901888 false,#[bE ⟨wg,0,none⟩],[⟨wg,0,none⟩,⟨wg,0,none⟩],[wg],none⟩:=by kernel_rfl
theorem yk:aZ Tryz.prog (.int .u64 8589934592) (some (191,2)) (lj Tryz.prog wg tm c cs 12884901888)=some ⟨dH Tryz.prog wg tm c cs 12884901888 false,#[bE ⟨wg,0,none⟩],[⟨wg,0,none⟩,⟨wg,0,none⟩],[wg],none⟩:=by kernel_rfl
theorem Ee:aZ Tryz.prog undef (some (191,2)) (wv Tryz.prog wg tm c cs 12884901888)=some ⟨lX Tryz.prog wg tm c cs 12884901888,#[],[],[wg,wg],none⟩:=by kernel_rfl
theorem HR:aZ Tryz.prog (.int .u32 1) none (jo Tryz.prog wg tm c cs 12884901888)=some ⟨bf (jo Tryz.prog wg tm c cs 12884901888) (.tuple #[]),#[dj .disable,bE ⟨wg,1,none⟩,dr ⟨wg,1,none⟩,dj .enable],[⟨wg,1,none⟩,⟨wg,1,none⟩],[],some (⟨wg,1,none⟩,.int .u32 0)⟩:=by kernel_rfl
theorem rK:je Tryz.prog (.int .u32 0) (jo Tryz.prog wg tm c cs 12884901888)=some [⟨wg,1,none⟩]:=by kernel_rfl
theorem Ef:aZ Tryz.prog (.int .u64 0) none (pF Tryz.prog wg tm c cs 12884901888)=some ⟨bf (pF Tryz.prog wg tm c cs 12884901888) (.int .u64 0),#[bE ⟨wg,0,none⟩],[⟨wg,0,none⟩],[],none⟩:=by kernel_rfl
theorem Eg:aZ Tryz.prog undef (some (191,2)) (Lm Tryz.prog wg tm c cs 12884901888)=some ⟨jH Tryz.prog wg tm c cs 12884901888,#[],[],[wg,wg],none⟩:=by kernel_rfl
theorem HT:aZ Tryz.prog (.int .u64 17179869184) (some (191,2)) (lj Tryz.prog wg tm c cs 17179869184)=some ⟨dH Tryz.prog wg tm c cs 17179869184 true,#[bE ⟨wg,0,none⟩,dr ⟨wg,0,none⟩],[⟨wg,0,none⟩,⟨wg,0,none⟩,⟨wg,0,none⟩],[wg],some (⟨wg,0,none⟩,.int .u64 17179869185)⟩:=by kernel_rfl
theorem yl:aZ Tryz.prog (.int .u64 0) (some (191,2)) (lj Tryz.prog wg tm c cs 17179869184)=some ⟨dH Tryz.prog wg tm c cs 17179869184 false,#[bE ⟨wg,0,none⟩],[⟨wg,0,none⟩,⟨wg,0,none⟩],[wg],none⟩:=by kernel_rfl
theorem ym:aZ Tryz.prog (.int .u64 4294967296) (some (191,2)) (lj Tryz.prog wg tm c cs 17179869184)=some ⟨dH Tryz.prog wg tm c cs 17179869184 false,#[bE ⟨wg,0,none⟩],[⟨wg,0,none⟩,⟨wg,0,none⟩],[wg],none⟩:=by kernel_rfl
theorem yn:aZ Tryz.prog (.int .u64 8589934592) (some (191,2)) (lj Tryz.prog wg tm c cs 17179869184)=some ⟨dH Tryz.prog wg tm c cs 17179869184 false,#[bE ⟨wg,0,none⟩],[⟨wg,0,none⟩,⟨wg,0,none⟩],[wg],none⟩:=by kernel_rfl
theorem yo:aZ Tryz.prog (.int .u64 12884901888) (some (191,2)) (lj Tryz.prog wg tm c cs 17179869184)=some ⟨dH Tryz.prog wg tm c cs 17179869184 false,#[bE ⟨wg,0,none⟩],[⟨wg,0,none⟩,⟨wg,0,none⟩],[wg],none⟩:=by kernel_rfl
theorem Eh:aZ Tryz.prog undef (some (191,2)) (wv Tryz.prog wg tm c cs 17179869184)=some ⟨lX Tryz.prog wg tm c cs 17179869184,#[],[],[wg,wg],none⟩:=by kernel_rfl
theorem HU:aZ Tryz.prog (.int .u32 1) none (jo Tryz.prog wg tm c cs 17179869184)=some ⟨bf (jo Tryz.prog wg tm c cs 17179869184) (.tuple #[]),#[dj .disable,bE ⟨wg,1,none⟩,dr ⟨wg,1,none⟩,dj .enable],[⟨wg,1,none⟩,⟨wg,1,none⟩],[],some (⟨wg,1,none⟩,.int .u32 0)⟩:=by kernel_rfl
theorem rL:je Tryz.prog (.int .u32 0) (jo Tryz.prog wg tm c cs 17179869184)=some [⟨wg,1,none⟩]:=by kernel_rfl
theorem Ei:aZ Tryz.prog (.int .u64 0) none (pF Tryz.prog wg tm c cs 17179869184)=some ⟨bf (pF Tryz.prog wg tm c cs 17179869184) (.int .u64 0),#[bE ⟨wg,0,none⟩],[⟨wg,0,none⟩],[],none⟩:=by kernel_rfl
theorem Ej:aZ Tryz.prog undef (some (191,2)) (Lm Tryz.prog wg tm c cs 17179869184)=some ⟨jH Tryz.prog wg tm c cs 17179869184,#[],[],[wg,wg],none⟩:=by kernel_rfl
theorem HV:aZ Tryz.prog (.int .u64 21474836480) (some (191,2)) (lj Tryz.prog wg tm c cs 21474836480)=some ⟨dH Tryz.prog wg tm c cs 21474836480 true,#[bE ⟨wg,0,none⟩,dr ⟨wg,0,none⟩],[⟨wg,0,none⟩,⟨wg,0,none⟩,⟨wg,0,none⟩],[wg],some (⟨wg,0,none⟩,.int .u64 21474836481)⟩:=by kernel_rfl
theorem yp:aZ Tryz.prog (.int .u64 0) (some (191,2)) (lj Tryz.prog wg tm c cs 21474836480)=some ⟨dH Tryz.prog wg tm c cs 21474836480 false,#[bE ⟨wg,0,none⟩],[⟨wg,0,none⟩,⟨wg,0,none⟩],[wg],none⟩:=by kernel_rfl
theorem yq:aZ Tryz.prog (.int .u64 4294967296) (some (191,2)) (lj Tryz.prog wg tm c cs 21474836480)=some ⟨dH Tryz.prog wg tm c cs 21474836480 false,#[bE ⟨wg,0,none⟩],[⟨wg,0,none⟩,⟨wg,0,none⟩],[wg],none⟩:=by kernel_rfl
theorem yr:aZ Tryz.prog (.int .u64 8589934592) (some (191,2)) (lj Tryz.prog wg tm c cs 21474836480)=some ⟨dH Tryz.prog wg tm c cs 21474836480 false,#[bE ⟨wg,0,none⟩],[⟨wg,0,none⟩,⟨wg,0,none⟩],[wg],none⟩:=by kernel_rfl
theorem yu:aZ Tryz.prog (.int .u64 12884901888) (some (191,2)) (lj Tryz.prog wg tm c cs 21474836480)=some ⟨dH Tryz.prog wg tm c cs 21474836480 false,#[bE ⟨wg,0,none⟩],[⟨wg,0,none⟩,⟨wg,0,none⟩],[wg],none⟩:=by kernel_rfl
theorem yv:aZ Tryz.prog (.int .u64 17179869184) (some (191,2)) (lj Tryz.prog wg tm c cs 21474836480)=some ⟨dH Tryz.prog wg tm c cs 21474836480 false,#[bE ⟨wg,0,none⟩],[⟨wg,0,none⟩,⟨wg,0,none⟩],[wg],none⟩:=by kernel_rfl
theorem Ek:aZ Tryz.prog undef (some (191,2)) (wv Tryz.prog wg tm c cs 21474836480)=some ⟨lX Tryz.prog wg tm c cs 21474836480,#[],[],[wg,wg],none⟩:=by kernel_rfl
theorem HW:aZ Tryz.prog (.int .u32 1) none (jo Tryz.prog wg tm c cs 21474836480)=some ⟨bf (jo Tryz.prog wg tm c cs 21474836480) (.tuple #[]),#[dj .disable,bE ⟨wg,1,none⟩,dr ⟨wg,1,none⟩,dj .enable],[⟨wg,1,none⟩,⟨wg,1,none⟩],[],some (⟨wg,1,none⟩,.int .u32 0)⟩:=by kernel_rfl
theorem rM:je Tryz.prog (.int .u32 0) (jo Tryz.prog wg tm c cs 21474836480)=some [⟨wg,1,none⟩]:=by kernel_rfl
theorem El:aZ Tryz.prog (.int .u64 0) none (pF Tryz.prog wg tm c cs 21474836480)=some ⟨bf (pF Tryz.prog wg tm c cs 21474836480) (.int .u64 0),#[bE ⟨wg,0,none⟩],[⟨wg,0,none⟩],[],none⟩:=by kernel_rfl
theorem Em:aZ Tryz.prog undef (some (191,2)) (Lm Tryz.prog wg tm c cs 21474836480)=some ⟨jH Tryz.prog wg tm c cs 21474836480,#[],[],[wg,wg],none⟩:=by kernel_rfl
end
end Go.Proofs.YtjklkppncmhehaaGreat.Sr
