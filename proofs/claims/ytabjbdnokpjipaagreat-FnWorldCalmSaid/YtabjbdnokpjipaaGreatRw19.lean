/-
What is proved: the visible steps of the starter's Add and Wait, reckoned by the kernel. No condition.
-/
import Derived.Test.YtabjbdnokpjipaaGreatRw06
import Derived.Test.YtabjbdnokpjipaaGreatRw08
import Derived.Test.YtabjbdnokpjipaaGreatRw18
set_option linter.unusedVariables false
set_option linter.unusedSimpArgs false
namespace Go.Proofs.YtabjbdnokpjipaaGreat.Sr
open Go Go.Conc
def CD (P:Program)(v:Value){α:Type}:Sem α→Option (List Addr)
 | .program k=>CD P v (k P)
 | .mark _ k=>CD P v k
 | .load _ a k=>match CD P v (k v)with
   |some l=>some (a::l)
   |none=>none
 | .halt .blocked=>some []
 |_=>none
theorem K0 {P:Program}{v:Value}{α:Type}{s:Sem α}:∀{es:Array Event} {l:List Addr},CD P v s=some l→∀w:World,(∀a∈l,w.cell? a=some v)→∃bd,s.runT P w es=(.halt .blocked w,bd):=by
 induction s with
 |program k ih=>intro es l h w;exact ih P h w
 |mark m k ih=>intro es l h w;exact ih h w
 |load md a k ih=>
  intro es l h w hl;simp only[CD]at h
  cases hy:CD P v (k v)with
  |none=>rw[hy]at h;cases h
  |some l'=>
   rw[hy]at h
   cases h;simp only[Sem.runT,hl a (List.mem_cons_self ..)];exact ih v hy w fun b hb=>hl b (List.mem_cons_of_mem _ hb)
 |halt h0=>
  intro es l h w _
  cases h0 with
  |blocked=>exact⟨es,rfl⟩
  |_=>cases h
 |_=>intro es l h;cases h
def mC (P:Program)(v:Value)(g:Goroutine):Option (List Addr):=
 match cN P g with
 |none=>none
 |some s=>CD P v s
theorem Ep {P:Program}{v:Value}{g:Goroutine}{l:List Addr}(h:mC P v g=some l)(w:World)(hl:∀a∈l,w.cell? a=some v):stepG P true g w= .go {g with status:= .blocked} w #[]:=by
 unfold mC at h
 cases ho:cN P g with
 |none=>rw[ho]at h;cases h
 |some s=>
  rw[ho]at h;obtain⟨bd,hs⟩:=K0 (es:= #[]) h w hl;obtain⟨h1,h2,h3,h4⟩:=vj ho true w;have y_:(g.frame.kind==CallKind.early)=false:=by simpa using h3
  rw[h4];unfold cN at ho;split at ho
  ·simp only[stepG.apply,hs]
   simp[GStep.after,seen]
  ·cases ho
section
variable(wg:Nat)(tm:Nat→Value)(c:Frame)(cs:List Frame)
set_option maxRecDepth 100000
theorem Pk:bF Tryz.prog (.int .u64 0) none (OV Tryz.prog wg c cs)=some ⟨tk Tryz.prog wg c cs 4294967296,#[cp ⟨wg,0,none⟩,fu ⟨wg,0,none⟩],[⟨wg,0,none⟩,⟨wg,0,none⟩],[],some (⟨wg,0,none⟩,.int .u64 4294967296)⟩:=by kernel_rfl
theorem Pm:bF Tryz.prog (.int .u64 4294967296) none (OV Tryz.prog wg c cs)=some ⟨tk Tryz.prog wg c cs 8589934592,#[cp ⟨wg,0,none⟩,fu ⟨wg,0,none⟩],[⟨wg,0,none⟩,⟨wg,0,none⟩],[],some (⟨wg,0,none⟩,.int .u64 8589934592)⟩:=by kernel_rfl
theorem Pn:bF Tryz.prog (.int .u64 8589934592) none (OV Tryz.prog wg c cs)=some ⟨tk Tryz.prog wg c cs 12884901888,#[cp ⟨wg,0,none⟩,fu ⟨wg,0,none⟩],[⟨wg,0,none⟩,⟨wg,0,none⟩],[],some (⟨wg,0,none⟩,.int .u64 12884901888)⟩:=by kernel_rfl
theorem Po:bF Tryz.prog (.int .u64 12884901888) none (OV Tryz.prog wg c cs)=some ⟨tk Tryz.prog wg c cs 17179869184,#[cp ⟨wg,0,none⟩,fu ⟨wg,0,none⟩],[⟨wg,0,none⟩,⟨wg,0,none⟩],[],some (⟨wg,0,none⟩,.int .u64 17179869184)⟩:=by kernel_rfl
theorem Pp:bF Tryz.prog (.int .u64 17179869184) none (OV Tryz.prog wg c cs)=some ⟨tk Tryz.prog wg c cs 21474836480,#[cp ⟨wg,0,none⟩,fu ⟨wg,0,none⟩],[⟨wg,0,none⟩,⟨wg,0,none⟩],[],some (⟨wg,0,none⟩,.int .u64 21474836480)⟩:=by kernel_rfl
theorem T9:bF Tryz.prog undef (some (181,2)) (ad5 Tryz.prog wg c cs)=some ⟨ad6 Tryz.prog wg c cs,#[],[],[wg,wg],none⟩:=by kernel_rfl
theorem K1:bF Tryz.prog (.int .u64 0) none (Ho Tryz.prog wg tm c cs)=some ⟨vn Tryz.prog wg tm c cs 0,#[cp ⟨wg,0,none⟩],[⟨wg,0,none⟩],[],none⟩:=by kernel_rfl
theorem K3:bF Tryz.prog (.int .u64 4294967296) none (Ho Tryz.prog wg tm c cs)=some ⟨vn Tryz.prog wg tm c cs 4294967296,#[cp ⟨wg,0,none⟩],[⟨wg,0,none⟩],[],none⟩:=by kernel_rfl
theorem K4:bF Tryz.prog (.int .u64 8589934592) none (Ho Tryz.prog wg tm c cs)=some ⟨vn Tryz.prog wg tm c cs 8589934592,#[cp ⟨wg,0,none⟩],[⟨wg,0,none⟩],[],none⟩:=by kernel_rfl
theorem K5:bF Tryz.prog (.int .u64 12884901888) none (Ho Tryz.prog wg tm c cs)=some ⟨vn Tryz.prog wg tm c cs 12884901888,#[cp ⟨wg,0,none⟩],[⟨wg,0,none⟩],[],none⟩:=by kernel_rfl
theorem K6:bF Tryz.prog (.int .u64 17179869184) none (Ho Tryz.prog wg tm c cs)=some ⟨vn Tryz.prog wg tm c cs 17179869184,#[cp ⟨wg,0,none⟩],[⟨wg,0,none⟩],[],none⟩:=by kernel_rfl
theorem K7:bF Tryz.prog (.int .u64 21474836480) none (Ho Tryz.prog wg tm c cs)=some ⟨vn Tryz.prog wg tm c cs 21474836480,#[cp ⟨wg,0,none⟩],[⟨wg,0,none⟩],[],none⟩:=by kernel_rfl
theorem T_:bF Tryz.prog undef (some (181,2)) (wz2 Tryz.prog wg tm c cs)=some ⟨Xd Tryz.prog wg tm c cs,#[],[],[wg,wg],none⟩:=by kernel_rfl
theorem Pq:bF Tryz.prog (.int .u64 4294967296) (some (181,2)) (o9 Tryz.prog wg tm c cs 4294967296)=some ⟨gg Tryz.prog wg tm c cs 4294967296 true,#[cp ⟨wg,0,none⟩,fu ⟨wg,0,none⟩],[⟨wg,0,none⟩,⟨wg,0,none⟩,⟨wg,0,none⟩],[wg],some (⟨wg,0,none⟩,.int .u64 4294967297)⟩:=by kernel_rfl
theorem Er:bF Tryz.prog (.int .u64 0) (some (181,2)) (o9 Tryz.prog wg tm c cs 4294967296)=some ⟨gg Tryz.prog wg tm c cs 4294967296 false,#[cp ⟨wg,0,none⟩],[⟨wg,0,none⟩,⟨wg,0,none⟩],[wg],none⟩:=by kernel_rfl
theorem K8:bF Tryz.prog undef (some (181,2)) (CC Tryz.prog wg tm c cs 4294967296)=some ⟨pT Tryz.prog wg tm c cs 4294967296,#[],[],[wg,wg],none⟩:=by kernel_rfl
theorem Pr:bF Tryz.prog (.int .u32 1) none (mP Tryz.prog wg tm c cs 4294967296)=some ⟨bm (mP Tryz.prog wg tm c cs 4294967296) (.tuple #[]),#[ff .disable,cp ⟨wg,1,none⟩,fu ⟨wg,1,none⟩,ff .enable],[⟨wg,1,none⟩,⟨wg,1,none⟩],[],some (⟨wg,1,none⟩,.int .u32 0)⟩:=by kernel_rfl
theorem xI:mC Tryz.prog (.int .u32 0) (mP Tryz.prog wg tm c cs 4294967296)=some [⟨wg,1,none⟩]:=by kernel_rfl
theorem K9:bF Tryz.prog (.int .u64 0) none (vo Tryz.prog wg tm c cs 4294967296)=some ⟨bm (vo Tryz.prog wg tm c cs 4294967296) (.int .u64 0),#[cp ⟨wg,0,none⟩],[⟨wg,0,none⟩],[],none⟩:=by kernel_rfl
theorem K_:bF Tryz.prog undef (some (181,2)) (TO Tryz.prog wg tm c cs 4294967296)=some ⟨nj Tryz.prog wg tm c cs 4294967296,#[],[],[wg,wg],none⟩:=by kernel_rfl
theorem Ps:bF Tryz.prog (.int .u64 8589934592) (some (181,2)) (o9 Tryz.prog wg tm c cs 8589934592)=some ⟨gg Tryz.prog wg tm c cs 8589934592 true,#[cp ⟨wg,0,none⟩,fu ⟨wg,0,none⟩],[⟨wg,0,none⟩,⟨wg,0,none⟩,⟨wg,0,none⟩],[wg],some (⟨wg,0,none⟩,.int .u64 8589934593)⟩:=by kernel_rfl
theorem Es:bF Tryz.prog (.int .u64 0) (some (181,2)) (o9 Tryz.prog wg tm c cs 8589934592)=some ⟨gg Tryz.prog wg tm c cs 8589934592 false,#[cp ⟨wg,0,none⟩],[⟨wg,0,none⟩,⟨wg,0,none⟩],[wg],none⟩:=by kernel_rfl
theorem Et:bF Tryz.prog (.int .u64 4294967296) (some (181,2)) (o9 Tryz.prog wg tm c cs 8589934592)=some ⟨gg Tryz.prog wg tm c cs 8589934592 false,#[cp ⟨wg,0,none⟩],[⟨wg,0,none⟩,⟨wg,0,none⟩],[wg],none⟩:=by kernel_rfl
theorem La:bF Tryz.prog undef (some (181,2)) (CC Tryz.prog wg tm c cs 8589934592)=some ⟨pT Tryz.prog wg tm c cs 8589934592,#[],[],[wg,wg],none⟩:=by kernel_rfl
theorem Pt:bF Tryz.prog (.int .u32 1) none (mP Tryz.prog wg tm c cs 8589934592)=some ⟨bm (mP Tryz.prog wg tm c cs 8589934592) (.tuple #[]),#[ff .disable,cp ⟨wg,1,none⟩,fu ⟨wg,1,none⟩,ff .enable],[⟨wg,1,none⟩,⟨wg,1,none⟩],[],some (⟨wg,1,none⟩,.int .u32 0)⟩:=by kernel_rfl
theorem xJ:mC Tryz.prog (.int .u32 0) (mP Tryz.prog wg tm c cs 8589934592)=some [⟨wg,1,none⟩]:=by kernel_rfl
theorem Lb:bF Tryz.prog (.int .u64 0) none (vo Tryz.prog wg tm c cs 8589934592)=some ⟨bm (vo Tryz.prog wg tm c cs 8589934592) (.int .u64 0),#[cp ⟨wg,0,none⟩],[⟨wg,0,none⟩],[],none⟩:=by kernel_rfl
theorem Lc:bF Tryz.prog undef (some (181,2)) (TO Tryz.prog wg tm c cs 8589934592)=some ⟨nj Tryz.prog wg tm c cs 8589934592,#[],[],[wg,wg],none⟩:=by kernel_rfl
theorem Pu:bF Tryz.prog (.int .u64 12884901888) (some (181,2)) (o9 Tryz.prog wg tm c cs 12884901888)=some ⟨gg Tryz.prog wg tm c cs 12884901888 true,#[cp ⟨wg,0,none⟩,fu ⟨wg,0,none⟩],[⟨wg,0,none⟩,⟨wg,0,none⟩,⟨wg,0,none⟩],[wg],some (⟨wg,0,none⟩,.int .u64 12884901889)⟩:=by kernel_rfl
theorem Eu:bF Tryz.prog (.int .u64 0) (some (181,2)) (o9 Tryz.prog wg tm c cs 12884901888)=some ⟨gg Tryz.prog wg tm c cs 12884901888 false,#[cp ⟨wg,0,none⟩],[⟨wg,0,none⟩,⟨wg,0,none⟩],[wg],none⟩:=by kernel_rfl
theorem Ev:bF Tryz.prog (.int .u64 4294967296) (some (181,2)) (o9 Tryz.prog wg tm c cs 12884901888)=some ⟨gg Tryz.prog wg tm c cs 12884901888 false,#[cp ⟨wg,0,none⟩],[⟨wg,0,none⟩,⟨wg,0,none⟩],[wg],none⟩:=by kernel_rfl
theorem Ew:bF Tryz.prog (.int .u64 8589934592) (some (181,2)) (o9 Tryz.prog wg tm c cs 12884901888)=some ⟨gg Tryz.prog wg tm c cs 12884901888 false,#[cp ⟨wg,0,none⟩],[⟨wg,0,none⟩,⟨wg,0,none⟩],[wg],none⟩:=by kernel_rfl
theorem Ld:bF Tryz.prog undef (some (181,2)) (CC Tryz.prog wg tm c cs 12884901888)=some ⟨pT Tryz.prog wg tm c cs 12884901888,#[],[],[wg,wg],none⟩:=by kernel_rfl
theorem Pv:bF Tryz.prog (.int .u32 1) none (mP Tryz.prog wg tm c cs 12884901888)=some ⟨bm (mP Tryz.prog wg tm c cs 12884901888) (.tuple #[]),#[ff .disable,cp ⟨wg,1,none⟩,fu ⟨wg,1,none⟩,ff .enable],[⟨wg,1,none⟩,⟨wg,1,none⟩],[],some (⟨wg,1,none⟩,.int .u32 0)⟩:=by kernel_rfl
theorem xK:mC Tryz.prog (.int .u32 0) (mP Tryz.prog wg tm c cs 12884901888)=some [⟨wg,1,none⟩]:=by kernel_rfl
theorem Le:bF Tryz.prog (.int .u64 0) none (vo Tryz.prog wg tm c cs 12884901888)=some ⟨bm (vo Tryz.prog wg tm c cs 12884901888) (.int .u64 0),#[cp ⟨wg,0,none⟩],[⟨wg,0,none⟩],[],none⟩:=by kernel_rfl
theorem Lf:bF Tryz.prog undef (some (181,2)) (TO Tryz.prog wg tm c cs 12884901888)=some ⟨nj Tryz.prog wg tm c cs 12884901888,#[],[],[wg,wg],none⟩:=by kernel_rfl
theorem Pw:bF Tryz.prog (.int .u64 17179869184) (some (181,2)) (o9 Tryz.prog wg tm c cs 17179869184)=some ⟨gg Tryz.prog wg tm c cs 17179869184 true,#[cp ⟨wg,0,none⟩,fu ⟨wg,0,none⟩],[⟨wg,0,none⟩,⟨wg,0,none⟩,⟨wg,0,none⟩],[wg],some (⟨wg,0,none⟩,.int .u64 17179869185)⟩:=by kernel_rfl
theorem Ex:bF Tryz.prog (.int .u64 0) (some (181,2)) (o9 Tryz.prog wg tm c cs 17179869184)=some ⟨gg Tryz.prog wg tm c cs 17179869184 false,#[cp ⟨wg,0,none⟩],[⟨wg,0,none⟩,⟨wg,0,none⟩],[wg],none⟩:=by kernel_rfl
theorem Ey:bF Tryz.prog (.int .u64 4294967296) (some (181,2)) (o9 Tryz.prog wg tm c cs 17179869184)=some ⟨gg Tryz.prog wg tm c cs 17179869184 false,#[cp ⟨wg,0,none⟩],[⟨wg,0,none⟩,⟨wg,0,none⟩],[wg],none⟩:=by kernel_rfl
theorem Ez:bF Tryz.prog (.int .u64 8589934592) (some (181,2)) (o9 Tryz.prog wg tm c cs 17179869184)=some ⟨gg Tryz.prog wg tm c cs 17179869184 false,#[cp ⟨wg,0,none⟩],[⟨wg,0,none⟩,⟨wg,0,none⟩],[wg],none⟩:=by kernel_rfl
theorem EA:bF Tryz.prog (.int .u64 12884901888) (some (181,2)) (o9 Tryz.prog wg tm c cs 17179869184)=some ⟨gg Tryz.prog wg tm c cs 17179869184 false,#[cp ⟨wg,0,none⟩],[⟨wg,0,none⟩,⟨wg,0,none⟩],[wg],none⟩:=by kernel_rfl
theorem Lg:bF Tryz.prog undef (some (181,2)) (CC Tryz.prog wg tm c cs 17179869184)=some ⟨pT Tryz.prog wg tm c cs 17179869184,#[],[],[wg,wg],none⟩:=by kernel_rfl
theorem Px:bF Tryz.prog (.int .u32 1) none (mP Tryz.prog wg tm c cs 17179869184)=some ⟨bm (mP Tryz.prog wg tm c cs 17179869184) (.tuple #[]),#[ff .disable,cp ⟨wg,1,none⟩,fu ⟨wg,1,none⟩,ff .enable],[⟨wg,1,none⟩,⟨wg,1,none⟩],[],some (⟨wg,1,none⟩,.int .u32 0)⟩:=by kernel_rfl
theorem xL:mC Tryz.prog (.int .u32 0) (mP Tryz.prog wg tm c cs 17179869184)=some [⟨wg,1,none⟩]:=by kernel_rfl
theorem Lh:bF Tryz.prog (.int .u64 0) none (vo Tryz.prog wg tm c cs 17179869184)=some ⟨bm (vo Tryz.prog wg tm c cs 17179869184) (.int .u64 0),#[cp ⟨wg,0,none⟩],[⟨wg,0,none⟩],[],none⟩:=by kernel_rfl
theorem Li:bF Tryz.prog undef (some (181,2)) (TO Tryz.prog wg tm c cs 17179869184)=some ⟨nj Tryz.prog wg tm c cs 17179869184,#[],[],[wg,wg],none⟩:=by kernel_rfl
theorem Py:bF Tryz.prog (.int .u64 21474836480) (some (181,2)) (o9 Tryz.prog wg tm c cs 21474836480)=some ⟨gg Tryz.prog wg tm c cs 21474836480 true,#[cp ⟨wg,0,none⟩,fu ⟨wg,0,none⟩],[⟨wg,0,none⟩,⟨wg,0,none⟩,⟨wg,0,none⟩],[wg],some (⟨wg,0,none⟩,.int .u64 21474836481)⟩:=by kernel_rfl
theorem EB:bF Tryz.prog (.int .u64 0) (some (181,2)) (o9 Tryz.prog wg tm c cs 21474836480)=some ⟨gg Tryz.prog wg tm c cs 21474836480 false,#[cp ⟨wg,0,none⟩],[⟨wg,0,none⟩,⟨wg,0,none⟩],[wg],none⟩:=by kernel_rfl
theorem EC:bF Tryz.prog (.int .u64 4294967296) (some (181,2)) (o9 Tryz.prog wg tm c cs 21474836480)=some ⟨gg Tryz.prog wg tm c cs 21474836480 false,#[cp ⟨wg,0,none⟩],[⟨wg,0,none⟩,⟨wg,0,none⟩],[wg],none⟩:=by kernel_rfl
theorem ED:bF Tryz.prog (.int .u64 8589934592) (some (181,2)) (o9 Tryz.prog wg tm c cs 21474836480)=some ⟨gg Tryz.prog wg tm c cs 21474836480 false,#[cp ⟨wg,0,none⟩],[⟨wg,0,none⟩,⟨wg,0,none⟩],[wg],none⟩:=by kernel_rfl
theorem EE:bF Tryz.prog (.int .u64 12884901888) (some (181,2)) (o9 Tryz.prog wg tm c cs 21474836480)=some ⟨gg Tryz.prog wg tm c cs 21474836480 false,#[cp ⟨wg,0,none⟩],[⟨wg,0,none⟩,⟨wg,0,none⟩],[wg],none⟩:=by kernel_rfl
theorem EF:bF Tryz.prog (.int .u64 17179869184) (some (181,2)) (o9 Tryz.prog wg tm c cs 21474836480)=some ⟨gg Tryz.prog wg tm c cs 21474836480 false,#[cp ⟨wg,0,none⟩],[⟨wg,0,none⟩,⟨wg,0,none⟩],[wg],none⟩:=by kernel_rfl
theorem Lj:bF Tryz.prog undef (some (181,2)) (CC Tryz.prog wg tm c cs 21474836480)=some ⟨pT Tryz.prog wg tm c cs 21474836480,#[],[],[wg,wg],none⟩:=by kernel_rfl
theorem Pz:bF Tryz.prog (.int .u32 1) none (mP Tryz.prog wg tm c cs 21474836480)=some ⟨bm (mP Tryz.prog wg tm c cs 21474836480) (.tuple #[]),#[ff .disable,cp ⟨wg,1,none⟩,fu ⟨wg,1,none⟩,ff .enable],[⟨wg,1,none⟩,⟨wg,1,none⟩],[],some (⟨wg,1,none⟩,.int .u32 0)⟩:=by kernel_rfl
theorem xM:mC Tryz.prog (.int .u32 0) (mP Tryz.prog wg tm c cs 21474836480)=some [⟨wg,1,none⟩]:=by kernel_rfl
theorem Lk:bF Tryz.prog (.int .u64 0) none (vo Tryz.prog wg tm c cs 21474836480)=some ⟨bm (vo Tryz.prog wg tm c cs 21474836480) (.int .u64 0),#[cp ⟨wg,0,none⟩],[⟨wg,0,none⟩],[],none⟩:=by kernel_rfl
theorem Ll:bF Tryz.prog undef (some (181,2)) (TO Tryz.prog wg tm c cs 21474836480)=some ⟨nj Tryz.prog wg tm c cs 21474836480,#[],[],[wg,wg],none⟩:=by kernel_rfl
end
end Go.Proofs.YtabjbdnokpjipaaGreat.Sr
