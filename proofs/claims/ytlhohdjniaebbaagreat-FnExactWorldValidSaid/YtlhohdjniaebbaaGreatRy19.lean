/-
What is proved: the visible steps of the starter's Add and Wait, reckoned by the kernel. No condition.
-/
import Derived.Test.YtlhohdjniaebbaaGreatRy06
import Derived.Test.YtlhohdjniaebbaaGreatRy08
import Derived.Test.YtlhohdjniaebbaaGreatRy18
set_option linter.unusedVariables false
set_option linter.unusedSimpArgs false
namespace Go.Proofs.YtlhohdjniaebbaaGreat.Sr
open Go Go.Conc
def y_ (P:Program)(v:Value){α:Type}:Sem α→Option (List Addr)
 | .program k=>y_ P v (k P)
 | .mark _ k=>y_ P v k
 | .load _ a k=>match y_ P v (k v)with
   |some l=>some (a::l)
   |none=>none
 | .halt .blocked=>some []
 |_=>none
theorem G4 {P:Program}{v:Value}{α:Type}{s:Sem α}:∀{es:Array Event} {l:List Addr},y_ P v s=some l→∀w:World,(∀a∈l,w.cell? a=some v)→∃aQ,s.runT P w es=(.halt .blocked w,aQ):=by
 induction s with
 |program k ih=>intro es l h w;exact ih P h w
 |mark m k ih=>intro es l h w;exact ih h w
 |load md a k ih=>
  intro es l h w hl;simp only[y_]at h
  cases hy:y_ P v (k v)with
  |none=>rw[hy]at h;cases h
  |some l'=>
   rw[hy]at h
   cases h;simp only[Sem.runT,hl a (List.mem_cons_self ..)];exact ih v hy w fun b hb=>hl b (List.mem_cons_of_mem _ hb)
 |halt h0=>
  intro es l h w _
  cases h0 with
  |blocked=>exact⟨es,rfl⟩
  |_=>cases h
 |_=>intro es l h;cases h
def ki (P:Program)(v:Value)(g:Goroutine):Option (List Addr):=
 match cm P g with
 |none=>none
 |some s=>y_ P v s
theorem AQ {P:Program}{v:Value}{g:Goroutine}{l:List Addr}(h:ki P v g=some l)(w:World)(hl:∀a∈l,w.cell? a=some v):stepG P true g w= .go {g with status:= .blocked} w #[]:=by
 unfold ki at h
 cases ho:cm P g with
 |none=>rw[ho]at h;cases h
 |some s=>
  rw[ho]at h;obtain⟨aQ,hs⟩:=G4 (es:= #[]) h w hl;obtain⟨h1,h2,h3,h4⟩:=ri ho true w;have vC:(g.frame.kind==CallKind.early)=false:=by simpa using h3
  rw[h4];unfold cm at ho;split at ho
  ·simp only[stepG.apply,hs]
   simp[GStep.after,seen]
  ·cases ho
section
variable(wg:Nat)(tm:Nat→Value)(c:Frame)(cs:List Frame)
set_option maxRecDepth 100000
theorem Lj:bn Tryz.prog (.int .u64 0) none (K4 Tryz.prog wg c cs)=some ⟨pE Tryz.prog wg c cs 4294967296,#[bV ⟨wg,0,none⟩,dS ⟨wg,0,none⟩],[⟨wg,0,none⟩,⟨wg,0,none⟩],[],some (⟨wg,0,none⟩,.int .u64 4294967296)⟩:=by kernel_rfl
theorem Lk:bn Tryz.prog (.int .u64 4294967296) none (K4 Tryz.prog wg c cs)=some ⟨pE Tryz.prog wg c cs 8589934592,#[bV ⟨wg,0,none⟩,dS ⟨wg,0,none⟩],[⟨wg,0,none⟩,⟨wg,0,none⟩],[],some (⟨wg,0,none⟩,.int .u64 8589934592)⟩:=by kernel_rfl
theorem Ll:bn Tryz.prog (.int .u64 8589934592) none (K4 Tryz.prog wg c cs)=some ⟨pE Tryz.prog wg c cs 12884901888,#[bV ⟨wg,0,none⟩,dS ⟨wg,0,none⟩],[⟨wg,0,none⟩,⟨wg,0,none⟩],[],some (⟨wg,0,none⟩,.int .u64 12884901888)⟩:=by kernel_rfl
theorem Lm:bn Tryz.prog (.int .u64 12884901888) none (K4 Tryz.prog wg c cs)=some ⟨pE Tryz.prog wg c cs 17179869184,#[bV ⟨wg,0,none⟩,dS ⟨wg,0,none⟩],[⟨wg,0,none⟩,⟨wg,0,none⟩],[],some (⟨wg,0,none⟩,.int .u64 17179869184)⟩:=by kernel_rfl
theorem Ln:bn Tryz.prog (.int .u64 17179869184) none (K4 Tryz.prog wg c cs)=some ⟨pE Tryz.prog wg c cs 21474836480,#[bV ⟨wg,0,none⟩,dS ⟨wg,0,none⟩],[⟨wg,0,none⟩,⟨wg,0,none⟩],[],some (⟨wg,0,none⟩,.int .u64 21474836480)⟩:=by kernel_rfl
theorem Qc:bn Tryz.prog undef (some (231,2)) (ad5 Tryz.prog wg c cs)=some ⟨Zk Tryz.prog wg c cs,#[],[],[wg,wg],none⟩:=by kernel_rfl
theorem G5:bn Tryz.prog (.int .u64 0) none (Du Tryz.prog wg tm c cs)=some ⟨rn Tryz.prog wg tm c cs 0,#[bV ⟨wg,0,none⟩],[⟨wg,0,none⟩],[],none⟩:=by kernel_rfl
theorem G6:bn Tryz.prog (.int .u64 4294967296) none (Du Tryz.prog wg tm c cs)=some ⟨rn Tryz.prog wg tm c cs 4294967296,#[bV ⟨wg,0,none⟩],[⟨wg,0,none⟩],[],none⟩:=by kernel_rfl
theorem G7:bn Tryz.prog (.int .u64 8589934592) none (Du Tryz.prog wg tm c cs)=some ⟨rn Tryz.prog wg tm c cs 8589934592,#[bV ⟨wg,0,none⟩],[⟨wg,0,none⟩],[],none⟩:=by kernel_rfl
theorem G8:bn Tryz.prog (.int .u64 12884901888) none (Du Tryz.prog wg tm c cs)=some ⟨rn Tryz.prog wg tm c cs 12884901888,#[bV ⟨wg,0,none⟩],[⟨wg,0,none⟩],[],none⟩:=by kernel_rfl
theorem G9:bn Tryz.prog (.int .u64 17179869184) none (Du Tryz.prog wg tm c cs)=some ⟨rn Tryz.prog wg tm c cs 17179869184,#[bV ⟨wg,0,none⟩],[⟨wg,0,none⟩],[],none⟩:=by kernel_rfl
theorem G_:bn Tryz.prog (.int .u64 21474836480) none (Du Tryz.prog wg tm c cs)=some ⟨rn Tryz.prog wg tm c cs 21474836480,#[bV ⟨wg,0,none⟩],[⟨wg,0,none⟩],[],none⟩:=by kernel_rfl
theorem Qd:bn Tryz.prog undef (some (231,2)) (wz2 Tryz.prog wg tm c cs)=some ⟨Tl Tryz.prog wg tm c cs,#[],[],[wg,wg],none⟩:=by kernel_rfl
theorem Lo:bn Tryz.prog (.int .u64 4294967296) (some (231,2)) (mC Tryz.prog wg tm c cs 4294967296)=some ⟨eM Tryz.prog wg tm c cs 4294967296 true,#[bV ⟨wg,0,none⟩,dS ⟨wg,0,none⟩],[⟨wg,0,none⟩,⟨wg,0,none⟩,⟨wg,0,none⟩],[wg],some (⟨wg,0,none⟩,.int .u64 4294967297)⟩:=by kernel_rfl
theorem AS:bn Tryz.prog (.int .u64 0) (some (231,2)) (mC Tryz.prog wg tm c cs 4294967296)=some ⟨eM Tryz.prog wg tm c cs 4294967296 false,#[bV ⟨wg,0,none⟩],[⟨wg,0,none⟩,⟨wg,0,none⟩],[wg],none⟩:=by kernel_rfl
theorem G':bn Tryz.prog undef (some (231,2)) (y9 Tryz.prog wg tm c cs 4294967296)=some ⟨nk Tryz.prog wg tm c cs 4294967296,#[],[],[wg,wg],none⟩:=by kernel_rfl
theorem Lp:bn Tryz.prog (.int .u32 1) none (kx Tryz.prog wg tm c cs 4294967296)=some ⟨aZ (kx Tryz.prog wg tm c cs 4294967296) (.tuple #[]),#[dL .disable,bV ⟨wg,1,none⟩,dS ⟨wg,1,none⟩,dL .enable],[⟨wg,1,none⟩,⟨wg,1,none⟩],[],some (⟨wg,1,none⟩,.int .u32 0)⟩:=by kernel_rfl
theorem tW:ki Tryz.prog (.int .u32 0) (kx Tryz.prog wg tm c cs 4294967296)=some [⟨wg,1,none⟩]:=by kernel_rfl
theorem Ha:bn Tryz.prog (.int .u64 0) none (rp Tryz.prog wg tm c cs 4294967296)=some ⟨aZ (rp Tryz.prog wg tm c cs 4294967296) (.int .u64 0),#[bV ⟨wg,0,none⟩],[⟨wg,0,none⟩],[],none⟩:=by kernel_rfl
theorem Hd:bn Tryz.prog undef (some (231,2)) (PW Tryz.prog wg tm c cs 4294967296)=some ⟨kN Tryz.prog wg tm c cs 4294967296,#[],[],[wg,wg],none⟩:=by kernel_rfl
theorem Lq:bn Tryz.prog (.int .u64 8589934592) (some (231,2)) (mC Tryz.prog wg tm c cs 8589934592)=some ⟨eM Tryz.prog wg tm c cs 8589934592 true,#[bV ⟨wg,0,none⟩,dS ⟨wg,0,none⟩],[⟨wg,0,none⟩,⟨wg,0,none⟩,⟨wg,0,none⟩],[wg],some (⟨wg,0,none⟩,.int .u64 8589934593)⟩:=by kernel_rfl
theorem AT:bn Tryz.prog (.int .u64 0) (some (231,2)) (mC Tryz.prog wg tm c cs 8589934592)=some ⟨eM Tryz.prog wg tm c cs 8589934592 false,#[bV ⟨wg,0,none⟩],[⟨wg,0,none⟩,⟨wg,0,none⟩],[wg],none⟩:=by kernel_rfl
theorem AU:bn Tryz.prog (.int .u64 4294967296) (some (231,2)) (mC Tryz.prog wg tm c cs 8589934592)=some ⟨eM Tryz.prog wg tm c cs 8589934592 false,#[bV ⟨wg,0,none⟩],[⟨wg,0,none⟩,⟨wg,0,none⟩],[wg],none⟩:=by kernel_rfl
theorem He:bn Tryz.prog undef (some (231,2)) (y9 Tryz.prog wg tm c cs 8589934592)=some ⟨nk Tryz.prog wg tm c cs 8589934592,#[],[],[wg,wg],none⟩:=by kernel_rfl
theorem Lr:bn Tryz.prog (.int .u32 1) none (kx Tryz.prog wg tm c cs 8589934592)=some ⟨aZ (kx Tryz.prog wg tm c cs 8589934592) (.tuple #[]),#[dL .disable,bV ⟨wg,1,none⟩,dS ⟨wg,1,none⟩,dL .enable],[⟨wg,1,none⟩,⟨wg,1,none⟩],[],some (⟨wg,1,none⟩,.int .u32 0)⟩:=by kernel_rfl
theorem tX:ki Tryz.prog (.int .u32 0) (kx Tryz.prog wg tm c cs 8589934592)=some [⟨wg,1,none⟩]:=by kernel_rfl
theorem Hf:bn Tryz.prog (.int .u64 0) none (rp Tryz.prog wg tm c cs 8589934592)=some ⟨aZ (rp Tryz.prog wg tm c cs 8589934592) (.int .u64 0),#[bV ⟨wg,0,none⟩],[⟨wg,0,none⟩],[],none⟩:=by kernel_rfl
theorem Hg:bn Tryz.prog undef (some (231,2)) (PW Tryz.prog wg tm c cs 8589934592)=some ⟨kN Tryz.prog wg tm c cs 8589934592,#[],[],[wg,wg],none⟩:=by kernel_rfl
theorem Ls:bn Tryz.prog (.int .u64 12884901888) (some (231,2)) (mC Tryz.prog wg tm c cs 12884901888)=some ⟨eM Tryz.prog wg tm c cs 12884901888 true,#[bV ⟨wg,0,none⟩,dS ⟨wg,0,none⟩],[⟨wg,0,none⟩,⟨wg,0,none⟩,⟨wg,0,none⟩],[wg],some (⟨wg,0,none⟩,.int .u64 12884901889)⟩:=by kernel_rfl
theorem AV:bn Tryz.prog (.int .u64 0) (some (231,2)) (mC Tryz.prog wg tm c cs 12884901888)=some ⟨eM Tryz.prog wg tm c cs 12884901888 false,#[bV ⟨wg,0,none⟩],[⟨wg,0,none⟩,⟨wg,0,none⟩],[wg],none⟩:=by kernel_rfl
theorem AW:bn Tryz.prog (.int .u64 4294967296) (some (231,2)) (mC Tryz.prog wg tm c cs 12884901888)=some ⟨eM Tryz.prog wg tm c cs 12884901888 false,#[bV ⟨wg,0,none⟩],[⟨wg,0,none⟩,⟨wg,0,none⟩],[wg],none⟩:=by kernel_rfl
theorem AX:bn Tryz.prog (.int .u64 8589934592) (some (231,2)) (mC Tryz.prog wg tm c cs 12884901888)=some ⟨eM Tryz.prog wg tm c cs 12884901888 false,#[bV ⟨wg,0,none⟩],[⟨wg,0,none⟩,⟨wg,0,none⟩],[wg],none⟩:=by kernel_rfl
theorem Hh:bn Tryz.prog undef (some (231,2)) (y9 Tryz.prog wg tm c cs 12884901888)=some ⟨nk Tryz.prog wg tm c cs 12884901888,#[],[],[wg,wg],none⟩:=by kernel_rfl
theorem Lu:bn Tryz.prog (.int .u32 1) none (kx Tryz.prog wg tm c cs 12884901888)=some ⟨aZ (kx Tryz.prog wg tm c cs 12884901888) (.tuple #[]),#[dL .disable,bV ⟨wg,1,none⟩,dS ⟨wg,1,none⟩,dL .enable],[⟨wg,1,none⟩,⟨wg,1,none⟩],[],some (⟨wg,1,none⟩,.int .u32 0)⟩:=by kernel_rfl
theorem tY:ki Tryz.prog (.int .u32 0) (kx Tryz.prog wg tm c cs 12884901888)=some [⟨wg,1,none⟩]:=by kernel_rfl
theorem Hi:bn Tryz.prog (.int .u64 0) none (rp Tryz.prog wg tm c cs 12884901888)=some ⟨aZ (rp Tryz.prog wg tm c cs 12884901888) (.int .u64 0),#[bV ⟨wg,0,none⟩],[⟨wg,0,none⟩],[],none⟩:=by kernel_rfl
theorem Hj:bn Tryz.prog undef (some (231,2)) (PW Tryz.prog wg tm c cs 12884901888)=some ⟨kN Tryz.prog wg tm c cs 12884901888,#[],[],[wg,wg],none⟩:=by kernel_rfl
theorem Lv:bn Tryz.prog (.int .u64 17179869184) (some (231,2)) (mC Tryz.prog wg tm c cs 17179869184)=some ⟨eM Tryz.prog wg tm c cs 17179869184 true,#[bV ⟨wg,0,none⟩,dS ⟨wg,0,none⟩],[⟨wg,0,none⟩,⟨wg,0,none⟩,⟨wg,0,none⟩],[wg],some (⟨wg,0,none⟩,.int .u64 17179869185)⟩:=by kernel_rfl
theorem AY:bn Tryz.prog (.int .u64 0) (some (231,2)) (mC Tryz.prog wg tm c cs 17179869184)=some ⟨eM Tryz.prog wg tm c cs 17179869184 false,#[bV ⟨wg,0,none⟩],[⟨wg,0,none⟩,⟨wg,0,none⟩],[wg],none⟩:=by kernel_rfl
theorem AZ:bn Tryz.prog (.int .u64 4294967296) (some (231,2)) (mC Tryz.prog wg tm c cs 17179869184)=some ⟨eM Tryz.prog wg tm c cs 17179869184 false,#[bV ⟨wg,0,none⟩],[⟨wg,0,none⟩,⟨wg,0,none⟩],[wg],none⟩:=by kernel_rfl
theorem A0:bn Tryz.prog (.int .u64 8589934592) (some (231,2)) (mC Tryz.prog wg tm c cs 17179869184)=some ⟨eM Tryz.prog wg tm c cs 17179869184 false,#[bV ⟨wg,0,none⟩],[⟨wg,0,none⟩,⟨wg,0,none⟩],[wg],none⟩:=by kernel_rfl
theorem A_:bn Tryz.prog (.int .u64 12884901888) (some (231,2)) (mC Tryz.prog wg tm c cs 17179869184)=some ⟨eM Tryz.prog wg tm c cs 17179869184 false,#[bV ⟨wg,0,none⟩],[⟨wg,0,none⟩,⟨wg,0,none⟩],[wg],none⟩:=by kernel_rfl
theorem Hk:bn Tryz.prog undef (some (231,2)) (y9 Tryz.prog wg tm c cs 17179869184)=some ⟨nk Tryz.prog wg tm c cs 17179869184,#[],[],[wg,wg],none⟩:=by kernel_rfl
theorem Lw:bn Tryz.prog (.int .u32 1) none (kx Tryz.prog wg tm c cs 17179869184)=some ⟨aZ (kx Tryz.prog wg tm c cs 17179869184) (.tuple #[]),#[dL .disable,bV ⟨wg,1,none⟩,dS ⟨wg,1,none⟩,dL .enable],[⟨wg,1,none⟩,⟨wg,1,none⟩],[],some (⟨wg,1,none⟩,.int .u32 0)⟩:=by kernel_rfl
theorem tZ:ki Tryz.prog (.int .u32 0) (kx Tryz.prog wg tm c cs 17179869184)=some [⟨wg,1,none⟩]:=by kernel_rfl
theorem Hl:bn Tryz.prog (.int .u64 0) none (rp Tryz.prog wg tm c cs 17179869184)=some ⟨aZ (rp Tryz.prog wg tm c cs 17179869184) (.int .u64 0),#[bV ⟨wg,0,none⟩],[⟨wg,0,none⟩],[],none⟩:=by kernel_rfl
theorem Hm:bn Tryz.prog undef (some (231,2)) (PW Tryz.prog wg tm c cs 17179869184)=some ⟨kN Tryz.prog wg tm c cs 17179869184,#[],[],[wg,wg],none⟩:=by kernel_rfl
theorem Lx:bn Tryz.prog (.int .u64 21474836480) (some (231,2)) (mC Tryz.prog wg tm c cs 21474836480)=some ⟨eM Tryz.prog wg tm c cs 21474836480 true,#[bV ⟨wg,0,none⟩,dS ⟨wg,0,none⟩],[⟨wg,0,none⟩,⟨wg,0,none⟩,⟨wg,0,none⟩],[wg],some (⟨wg,0,none⟩,.int .u64 21474836481)⟩:=by kernel_rfl
theorem Ba:bn Tryz.prog (.int .u64 0) (some (231,2)) (mC Tryz.prog wg tm c cs 21474836480)=some ⟨eM Tryz.prog wg tm c cs 21474836480 false,#[bV ⟨wg,0,none⟩],[⟨wg,0,none⟩,⟨wg,0,none⟩],[wg],none⟩:=by kernel_rfl
theorem Bb:bn Tryz.prog (.int .u64 4294967296) (some (231,2)) (mC Tryz.prog wg tm c cs 21474836480)=some ⟨eM Tryz.prog wg tm c cs 21474836480 false,#[bV ⟨wg,0,none⟩],[⟨wg,0,none⟩,⟨wg,0,none⟩],[wg],none⟩:=by kernel_rfl
theorem Bc:bn Tryz.prog (.int .u64 8589934592) (some (231,2)) (mC Tryz.prog wg tm c cs 21474836480)=some ⟨eM Tryz.prog wg tm c cs 21474836480 false,#[bV ⟨wg,0,none⟩],[⟨wg,0,none⟩,⟨wg,0,none⟩],[wg],none⟩:=by kernel_rfl
theorem Bd:bn Tryz.prog (.int .u64 12884901888) (some (231,2)) (mC Tryz.prog wg tm c cs 21474836480)=some ⟨eM Tryz.prog wg tm c cs 21474836480 false,#[bV ⟨wg,0,none⟩],[⟨wg,0,none⟩,⟨wg,0,none⟩],[wg],none⟩:=by kernel_rfl
theorem Be:bn Tryz.prog (.int .u64 17179869184) (some (231,2)) (mC Tryz.prog wg tm c cs 21474836480)=some ⟨eM Tryz.prog wg tm c cs 21474836480 false,#[bV ⟨wg,0,none⟩],[⟨wg,0,none⟩,⟨wg,0,none⟩],[wg],none⟩:=by kernel_rfl
theorem Hn:bn Tryz.prog undef (some (231,2)) (y9 Tryz.prog wg tm c cs 21474836480)=some ⟨nk Tryz.prog wg tm c cs 21474836480,#[],[],[wg,wg],none⟩:=by kernel_rfl
theorem Ly:bn Tryz.prog (.int .u32 1) none (kx Tryz.prog wg tm c cs 21474836480)=some ⟨aZ (kx Tryz.prog wg tm c cs 21474836480) (.tuple #[]),#[dL .disable,bV ⟨wg,1,none⟩,dS ⟨wg,1,none⟩,dL .enable],[⟨wg,1,none⟩,⟨wg,1,none⟩],[],some (⟨wg,1,none⟩,.int .u32 0)⟩:=by kernel_rfl
theorem t_:ki Tryz.prog (.int .u32 0) (kx Tryz.prog wg tm c cs 21474836480)=some [⟨wg,1,none⟩]:=by kernel_rfl
theorem Ho:bn Tryz.prog (.int .u64 0) none (rp Tryz.prog wg tm c cs 21474836480)=some ⟨aZ (rp Tryz.prog wg tm c cs 21474836480) (.int .u64 0),#[bV ⟨wg,0,none⟩],[⟨wg,0,none⟩],[],none⟩:=by kernel_rfl
theorem Hp:bn Tryz.prog undef (some (231,2)) (PW Tryz.prog wg tm c cs 21474836480)=some ⟨kN Tryz.prog wg tm c cs 21474836480,#[],[],[wg,wg],none⟩:=by kernel_rfl
end
end Go.Proofs.YtlhohdjniaebbaaGreat.Sr
