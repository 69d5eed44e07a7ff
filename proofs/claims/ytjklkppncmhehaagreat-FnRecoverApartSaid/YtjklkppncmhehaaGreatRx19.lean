/-
What is proved: the visible steps of the starter's Add and Wait, reckoned by the kernel. No condition.
-/
import Derived.Test.YtjklkppncmhehaaGreatRx06
import Derived.Test.YtjklkppncmhehaaGreatRx08
import Derived.Test.YtjklkppncmhehaaGreatRx18
set_option linter.unusedVariables false
set_option linter.unusedSimpArgs false
namespace Go.Proofs.YtjklkppncmhehaaGreat.Sr
open Go Go.Conc
def zB (P:Program)(v:Value){α:Type}:Sem α→Option (List Addr)
 | .program k=>zB P v (k P)
 | .mark _ k=>zB P v k
 | .load _ a k=>match zB P v (k v)with
   |some l=>some (a::l)
   |none=>none
 | .halt .blocked=>some []
 |_=>none
theorem Hp {P:Program}{v:Value}{α:Type}{s:Sem α}:∀{es:Array Event} {l:List Addr},zB P v s=some l→∀w:World,(∀a∈l,w.cell? a=some v)→∃aQ,s.runT P w es=(.halt .blocked w,aQ):=by
 induction s with
 |program k ih=>intro es l h w;exact ih P h w
 |mark m k ih=>intro es l h w;exact ih h w
 |load md a k ih=>
  intro es l h w hl;simp only[zB]at h
  cases hy:zB P v (k v)with
  |none=>rw[hy]at h;cases h
  |some l'=>
   rw[hy]at h
   cases h;simp only[Sem.runT,hl a (List.mem_cons_self ..)];exact ih v hy w fun b hb=>hl b (List.mem_cons_of_mem _ hb)
 |halt h0=>
  intro es l h w _
  cases h0 with
  |blocked=>exact⟨es,rfl⟩
  |_=>cases h
 |_=>intro es l h;cases h
def kH (P:Program)(v:Value)(g:Goroutine):Option (List Addr):=
 match gu P g with
 |none=>none
 |some s=>zB P v s
theorem Bo {P:Program}{v:Value}{g:Goroutine}{l:List Addr}(h:kH P v g=some l)(w:World)(hl:∀a∈l,w.cell? a=some v):stepG P true g w= .go {g with status:= .blocked} w #[]:=by
 unfold kH at h
 cases ho:gu P g with
 |none=>rw[ho]at h;cases h
 |some s=>
  rw[ho]at h;obtain⟨aQ,hs⟩:=Hp (es:= #[]) h w hl;obtain⟨h1,h2,h3,h4⟩:=yZ ho true w;have yY:(g.frame.kind==CallKind.early)=false:=by simpa using h3
  rw[h4];unfold gu at ho;split at ho
  ·simp only[stepG.apply,hs]
   simp[GStep.after,seen]
  ·cases ho
section
variable(wg:Nat)(tm:Nat→Value)(c:Frame)(cs:List Frame)
set_option maxRecDepth 100000
theorem K5:bn Tryz.prog (.int .u64 0) none (KN Tryz.prog wg c cs)=some ⟨qq Tryz.prog wg c cs 4294967296,#[bR ⟨wg,0,none⟩,ew ⟨wg,0,none⟩],[⟨wg,0,none⟩,⟨wg,0,none⟩],[],some (⟨wg,0,none⟩,.int .u64 4294967296)⟩:=by kernel_rfl
theorem K6:bn Tryz.prog (.int .u64 4294967296) none (KN Tryz.prog wg c cs)=some ⟨qq Tryz.prog wg c cs 8589934592,#[bR ⟨wg,0,none⟩,ew ⟨wg,0,none⟩],[⟨wg,0,none⟩,⟨wg,0,none⟩],[],some (⟨wg,0,none⟩,.int .u64 8589934592)⟩:=by kernel_rfl
theorem K7:bn Tryz.prog (.int .u64 8589934592) none (KN Tryz.prog wg c cs)=some ⟨qq Tryz.prog wg c cs 12884901888,#[bR ⟨wg,0,none⟩,ew ⟨wg,0,none⟩],[⟨wg,0,none⟩,⟨wg,0,none⟩],[],some (⟨wg,0,none⟩,.int .u64 12884901888)⟩:=by kernel_rfl
theorem K8:bn Tryz.prog (.int .u64 12884901888) none (KN Tryz.prog wg c cs)=some ⟨qq Tryz.prog wg c cs 17179869184,#[bR ⟨wg,0,none⟩,ew ⟨wg,0,none⟩],[⟨wg,0,none⟩,⟨wg,0,none⟩],[],some (⟨wg,0,none⟩,.int .u64 17179869184)⟩:=by kernel_rfl
theorem K9:bn Tryz.prog (.int .u64 17179869184) none (KN Tryz.prog wg c cs)=some ⟨qq Tryz.prog wg c cs 21474836480,#[bR ⟨wg,0,none⟩,ew ⟨wg,0,none⟩],[⟨wg,0,none⟩,⟨wg,0,none⟩],[],some (⟨wg,0,none⟩,.int .u64 21474836480)⟩:=by kernel_rfl
theorem Pr:bn Tryz.prog undef (some (191,2)) (Y8 Tryz.prog wg c cs)=some ⟨W3 Tryz.prog wg c cs,#[],[],[wg,wg],none⟩:=by kernel_rfl
theorem Hq:bn Tryz.prog (.int .u64 0) none (DS Tryz.prog wg tm c cs)=some ⟨sj Tryz.prog wg tm c cs 0,#[bR ⟨wg,0,none⟩],[⟨wg,0,none⟩],[],none⟩:=by kernel_rfl
theorem Hr:bn Tryz.prog (.int .u64 4294967296) none (DS Tryz.prog wg tm c cs)=some ⟨sj Tryz.prog wg tm c cs 4294967296,#[bR ⟨wg,0,none⟩],[⟨wg,0,none⟩],[],none⟩:=by kernel_rfl
theorem Hs:bn Tryz.prog (.int .u64 8589934592) none (DS Tryz.prog wg tm c cs)=some ⟨sj Tryz.prog wg tm c cs 8589934592,#[bR ⟨wg,0,none⟩],[⟨wg,0,none⟩],[],none⟩:=by kernel_rfl
theorem Ht:bn Tryz.prog (.int .u64 12884901888) none (DS Tryz.prog wg tm c cs)=some ⟨sj Tryz.prog wg tm c cs 12884901888,#[bR ⟨wg,0,none⟩],[⟨wg,0,none⟩],[],none⟩:=by kernel_rfl
theorem Hu:bn Tryz.prog (.int .u64 17179869184) none (DS Tryz.prog wg tm c cs)=some ⟨sj Tryz.prog wg tm c cs 17179869184,#[bR ⟨wg,0,none⟩],[⟨wg,0,none⟩],[],none⟩:=by kernel_rfl
theorem Hv:bn Tryz.prog (.int .u64 21474836480) none (DS Tryz.prog wg tm c cs)=some ⟨sj Tryz.prog wg tm c cs 21474836480,#[bR ⟨wg,0,none⟩],[⟨wg,0,none⟩],[],none⟩:=by kernel_rfl
theorem Ps:bn Tryz.prog undef (some (191,2)) (Y' Tryz.prog wg tm c cs)=some ⟨RQ Tryz.prog wg tm c cs,#[],[],[wg,wg],none⟩:=by kernel_rfl
theorem K_:bn Tryz.prog (.int .u64 4294967296) (some (191,2)) (nh Tryz.prog wg tm c cs 4294967296)=some ⟨eU Tryz.prog wg tm c cs 4294967296 true,#[bR ⟨wg,0,none⟩,ew ⟨wg,0,none⟩],[⟨wg,0,none⟩,⟨wg,0,none⟩,⟨wg,0,none⟩],[wg],some (⟨wg,0,none⟩,.int .u64 4294967297)⟩:=by kernel_rfl
theorem Bp:bn Tryz.prog (.int .u64 0) (some (191,2)) (nh Tryz.prog wg tm c cs 4294967296)=some ⟨eU Tryz.prog wg tm c cs 4294967296 false,#[bR ⟨wg,0,none⟩],[⟨wg,0,none⟩,⟨wg,0,none⟩],[wg],none⟩:=by kernel_rfl
theorem Hw:bn Tryz.prog undef (some (191,2)) (zA Tryz.prog wg tm c cs 4294967296)=some ⟨nV Tryz.prog wg tm c cs 4294967296,#[],[],[wg,wg],none⟩:=by kernel_rfl
theorem La:bn Tryz.prog (.int .u32 1) none (kW Tryz.prog wg tm c cs 4294967296)=some ⟨bu (kW Tryz.prog wg tm c cs 4294967296) (.tuple #[]),#[dX .disable,bR ⟨wg,1,none⟩,ew ⟨wg,1,none⟩,dX .enable],[⟨wg,1,none⟩,⟨wg,1,none⟩],[],some (⟨wg,1,none⟩,.int .u32 0)⟩:=by kernel_rfl
theorem uH:kH Tryz.prog (.int .u32 0) (kW Tryz.prog wg tm c cs 4294967296)=some [⟨wg,1,none⟩]:=by kernel_rfl
theorem Hx:bn Tryz.prog (.int .u64 0) none (sk Tryz.prog wg tm c cs 4294967296)=some ⟨bu (sk Tryz.prog wg tm c cs 4294967296) (.int .u64 0),#[bR ⟨wg,0,none⟩],[⟨wg,0,none⟩],[],none⟩:=by kernel_rfl
theorem Hy:bn Tryz.prog undef (some (191,2)) (O0 Tryz.prog wg tm c cs 4294967296)=some ⟨lr Tryz.prog wg tm c cs 4294967296,#[],[],[wg,wg],none⟩:=by kernel_rfl
theorem Lb:bn Tryz.prog (.int .u64 8589934592) (some (191,2)) (nh Tryz.prog wg tm c cs 8589934592)=some ⟨eU Tryz.prog wg tm c cs 8589934592 true,#[bR ⟨wg,0,none⟩,ew ⟨wg,0,none⟩],[⟨wg,0,none⟩,⟨wg,0,none⟩,⟨wg,0,none⟩],[wg],some (⟨wg,0,none⟩,.int .u64 8589934593)⟩:=by kernel_rfl
theorem Br:bn Tryz.prog (.int .u64 0) (some (191,2)) (nh Tryz.prog wg tm c cs 8589934592)=some ⟨eU Tryz.prog wg tm c cs 8589934592 false,#[bR ⟨wg,0,none⟩],[⟨wg,0,none⟩,⟨wg,0,none⟩],[wg],none⟩:=by kernel_rfl
theorem Bs:bn Tryz.prog (.int .u64 4294967296) (some (191,2)) (nh Tryz.prog wg tm c cs 8589934592)=some ⟨eU Tryz.prog wg tm c cs 8589934592 false,#[bR ⟨wg,0,none⟩],[⟨wg,0,none⟩,⟨wg,0,none⟩],[wg],none⟩:=by kernel_rfl
theorem Hz:bn Tryz.prog undef (some (191,2)) (zA Tryz.prog wg tm c cs 8589934592)=some ⟨nV Tryz.prog wg tm c cs 8589934592,#[],[],[wg,wg],none⟩:=by kernel_rfl
theorem Lc:bn Tryz.prog (.int .u32 1) none (kW Tryz.prog wg tm c cs 8589934592)=some ⟨bu (kW Tryz.prog wg tm c cs 8589934592) (.tuple #[]),#[dX .disable,bR ⟨wg,1,none⟩,ew ⟨wg,1,none⟩,dX .enable],[⟨wg,1,none⟩,⟨wg,1,none⟩],[],some (⟨wg,1,none⟩,.int .u32 0)⟩:=by kernel_rfl
theorem uI:kH Tryz.prog (.int .u32 0) (kW Tryz.prog wg tm c cs 8589934592)=some [⟨wg,1,none⟩]:=by kernel_rfl
theorem HD:bn Tryz.prog (.int .u64 0) none (sk Tryz.prog wg tm c cs 8589934592)=some ⟨bu (sk Tryz.prog wg tm c cs 8589934592) (.int .u64 0),#[bR ⟨wg,0,none⟩],[⟨wg,0,none⟩],[],none⟩:=by kernel_rfl
theorem HF:bn Tryz.prog undef (some (191,2)) (O0 Tryz.prog wg tm c cs 8589934592)=some ⟨lr Tryz.prog wg tm c cs 8589934592,#[],[],[wg,wg],none⟩:=by kernel_rfl
theorem Ld:bn Tryz.prog (.int .u64 12884901888) (some (191,2)) (nh Tryz.prog wg tm c cs 12884901888)=some ⟨eU Tryz.prog wg tm c cs 12884901888 true,#[bR ⟨wg,0,none⟩,ew ⟨wg,0,none⟩],[⟨wg,0,none⟩,⟨wg,0,none⟩,⟨wg,0,none⟩],[wg],some (⟨wg,0,none⟩,.int .u64 12884901889)⟩:=by kernel_rfl
theorem Bt:bn Tryz.prog (.int .u64 0) (some (191,2)) (nh Tryz.prog wg tm c cs 12884901888)=some ⟨eU Tryz.prog wg tm c cs 12884901888 false,#[bR ⟨wg,0,none⟩],[⟨wg,0,none⟩,⟨wg,0,none⟩],[wg],none⟩:=by kernel_rfl
theorem Bu:bn Tryz.prog (.int .u64 4294967296) (some (191,2)) (nh Tryz.prog wg tm c cs 12884901888)=some ⟨eU Tryz.prog wg tm c cs 12884901888 false,#[bR ⟨wg,0,none⟩],[⟨wg,0,none⟩,⟨wg,0,none⟩],[wg],none⟩:=by kernel_rfl
theorem Bv:bn Tryz.prog (.int .u64 8589934592) (some (191,2)) (nh Tryz.prog wg tm c cs 12884901888)=some ⟨eU Tryz.prog wg tm c cs 12884901888 false,#[bR ⟨wg,0,none⟩],[⟨wg,0,none⟩,⟨wg,0,none⟩],[wg],none⟩:=by kernel_rfl
theorem HG:bn Tryz.prog undef (some (191,2)) (zA Tryz.prog wg tm c cs 12884901888)=some ⟨nV Tryz.prog wg tm c cs 12884901888,#[],[],[wg,wg],none⟩:=by kernel_rfl
theorem Le:bn Tryz.prog (.int .u32 1) none (kW Tryz.prog wg tm c cs 12884901888)=some ⟨bu (kW Tryz.prog wg tm c cs 12884901888) (.tuple #[]),#[dX .disable,bR ⟨wg,1,none⟩,ew ⟨wg,1,none⟩,dX .enable],[⟨wg,1,none⟩,⟨wg,1,none⟩],[],some (⟨wg,1,none⟩,.int .u32 0)⟩:=by kernel_rfl
theorem uJ:kH Tryz.prog (.int .u32 0) (kW Tryz.prog wg tm c cs 12884901888)=some [⟨wg,1,none⟩]:=by kernel_rfl
theorem HH:bn Tryz.prog (.int .u64 0) none (sk Tryz.prog wg tm c cs 12884901888)=some ⟨bu (sk Tryz.prog wg tm c cs 12884901888) (.int .u64 0),#[bR ⟨wg,0,none⟩],[⟨wg,0,none⟩],[],none⟩:=by kernel_rfl
theorem HI:bn Tryz.prog undef (some (191,2)) (O0 Tryz.prog wg tm c cs 12884901888)=some ⟨lr Tryz.prog wg tm c cs 12884901888,#[],[],[wg,wg],none⟩:=by kernel_rfl
theorem Lf:bn Tryz.prog (.int .u64 17179869184) (some (191,2)) (nh Tryz.prog wg tm c cs 17179869184)=some ⟨eU Tryz.prog wg tm c cs 17179869184 true,#[bR ⟨wg,0,none⟩,ew ⟨wg,0,none⟩],[⟨wg,0,none⟩,⟨wg,0,none⟩,⟨wg,0,none⟩],[wg],some (⟨wg,0,none⟩,.int .u64 17179869185)⟩:=by kernel_rfl
theorem Bw:bn Tryz.prog (.int .u64 0) (some (191,2)) (nh Tryz.prog wg tm c cs 17179869184)=some ⟨eU Tryz.prog wg tm c cs 17179869184 false,#[bR ⟨wg,0,none⟩],[⟨wg,0,none⟩,⟨wg,0,none⟩],[wg],none⟩:=by kernel_rfl
theorem Bx:bn Tryz.prog (.int .u64 4294967296) (some (191,2)) (nh Tryz.prog wg tm c cs 17179869184)=some ⟨eU Tryz.prog wg tm c cs 17179869184 false,#[bR ⟨wg,0,none⟩],[⟨wg,0,none⟩,⟨wg,0,none⟩],[wg],none⟩:=by kernel_rfl
theorem By:bn Tryz.prog (.int .u64 8589934592) (some (191,2)) (nh Tryz.prog wg tm c cs 17179869184)=some ⟨eU Tryz.prog wg tm c cs 17179869184 false,#[bR ⟨wg,0,none⟩],[⟨wg,0,none⟩,⟨wg,0,none⟩],[wg],none⟩:=by kernel_rfl
theorem Bz:bn Tryz.prog (.int .u64 12884901888) (some (191,2)) (nh Tryz.prog wg tm c cs 17179869184)=some ⟨eU Tryz.prog wg tm c cs 17179869184 false,#[bR ⟨wg,0,none⟩],[⟨wg,0,none⟩,⟨wg,0,none⟩],[wg],none⟩:=by kernel_rfl
theorem HJ:bn Tryz.prog undef (some (191,2)) (zA Tryz.prog wg tm c cs 17179869184)=some ⟨nV Tryz.prog wg tm c cs 17179869184,#[],[],[wg,wg],none⟩:=by kernel_rfl
theorem Lg:bn Tryz.prog (.int .u32 1) none (kW Tryz.prog wg tm c cs 17179869184)=some ⟨bu (kW Tryz.prog wg tm c cs 17179869184) (.tuple #[]),#[dX .disable,bR ⟨wg,1,none⟩,ew ⟨wg,1,none⟩,dX .enable],[⟨wg,1,none⟩,⟨wg,1,none⟩],[],some (⟨wg,1,none⟩,.int .u32 0)⟩:=by kernel_rfl
theorem uK:kH Tryz.prog (.int .u32 0) (kW Tryz.prog wg tm c cs 17179869184)=some [⟨wg,1,none⟩]:=by kernel_rfl
theorem HK:bn Tryz.prog (.int .u64 0) none (sk Tryz.prog wg tm c cs 17179869184)=some ⟨bu (sk Tryz.prog wg tm c cs 17179869184) (.int .u64 0),#[bR ⟨wg,0,none⟩],[⟨wg,0,none⟩],[],none⟩:=by kernel_rfl
theorem HL:bn Tryz.prog undef (some (191,2)) (O0 Tryz.prog wg tm c cs 17179869184)=some ⟨lr Tryz.prog wg tm c cs 17179869184,#[],[],[wg,wg],none⟩:=by kernel_rfl
theorem Lh:bn Tryz.prog (.int .u64 21474836480) (some (191,2)) (nh Tryz.prog wg tm c cs 21474836480)=some ⟨eU Tryz.prog wg tm c cs 21474836480 true,#[bR ⟨wg,0,none⟩,ew ⟨wg,0,none⟩],[⟨wg,0,none⟩,⟨wg,0,none⟩,⟨wg,0,none⟩],[wg],some (⟨wg,0,none⟩,.int .u64 21474836481)⟩:=by kernel_rfl
theorem BB:bn Tryz.prog (.int .u64 0) (some (191,2)) (nh Tryz.prog wg tm c cs 21474836480)=some ⟨eU Tryz.prog wg tm c cs 21474836480 false,#[bR ⟨wg,0,none⟩],[⟨wg,0,none⟩,⟨wg,0,none⟩],[wg],none⟩:=by kernel_rfl
theorem BC:bn Tryz.prog (.int .u64 4294967296) (some (191,2)) (nh Tryz.prog wg tm c cs 21474836480)=some ⟨eU Tryz.prog wg tm c cs 21474836480 false,#[bR ⟨wg,0,none⟩],[⟨wg,0,none⟩,⟨wg,0,none⟩],[wg],none⟩:=by kernel_rfl
theorem BD:bn Tryz.prog (.int .u64 8589934592) (some (191,2)) (nh Tryz.prog wg tm c cs 21474836480)=some ⟨eU Tryz.prog wg tm c cs 21474836480 false,#[bR ⟨wg,0,none⟩],[⟨wg,0,none⟩,⟨wg,0,none⟩],[wg],none⟩:=by kernel_rfl
theorem BE:bn Tryz.prog (.int .u64 12884901888) (some (191,2)) (nh Tryz.prog wg tm c cs 21474836480)=some ⟨eU Tryz.prog wg tm c cs 21474836480 false,#[bR ⟨wg,0,none⟩],[⟨wg,0,none⟩,⟨wg,0,none⟩],[wg],none⟩:=by kernel_rfl
theorem BF:bn Tryz.prog (.int .u64 17179869184) (some (191,2)) (nh Tryz.prog wg tm c cs 21474836480)=some ⟨eU Tryz.prog wg tm c cs 21474836480 false,#[bR ⟨wg,0,none⟩],[⟨wg,0,none⟩,⟨wg,0,none⟩],[wg],none⟩:=by kernel_rfl
theorem HM:bn Tryz.prog undef (some (191,2)) (zA Tryz.prog wg tm c cs 21474836480)=some ⟨nV Tryz.prog wg tm c cs 21474836480,#[],[],[wg,wg],none⟩:=by kernel_rfl
theorem Li:bn Tryz.prog (.int .u32 1) none (kW Tryz.prog wg tm c cs 21474836480)=some ⟨bu (kW Tryz.prog wg tm c cs 21474836480) (.tuple #[]),#[dX .disable,bR ⟨wg,1,none⟩,ew ⟨wg,1,none⟩,dX .enable],[⟨wg,1,none⟩,⟨wg,1,none⟩],[],some (⟨wg,1,none⟩,.int .u32 0)⟩:=by kernel_rfl
theorem uL:kH Tryz.prog (.int .u32 0) (kW Tryz.prog wg tm c cs 21474836480)=some [⟨wg,1,none⟩]:=by kernel_rfl
theorem HN:bn Tryz.prog (.int .u64 0) none (sk Tryz.prog wg tm c cs 21474836480)=some ⟨bu (sk Tryz.prog wg tm c cs 21474836480) (.int .u64 0),#[bR ⟨wg,0,none⟩],[⟨wg,0,none⟩],[],none⟩:=by kernel_rfl
theorem HO:bn Tryz.prog undef (some (191,2)) (O0 Tryz.prog wg tm c cs 21474836480)=some ⟨lr Tryz.prog wg tm c cs 21474836480,#[],[],[wg,wg],none⟩:=by kernel_rfl
end
end Go.Proofs.YtjklkppncmhehaaGreat.Sr
