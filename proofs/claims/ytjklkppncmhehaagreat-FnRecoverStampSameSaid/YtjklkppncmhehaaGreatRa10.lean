/-
What is proved: the steps of a worker's region, reckoned by the kernel. No condition.
-/
import Derived.Test.YtjklkppncmhehaaGreatRa08
import Derived.Test.YtjklkppncmhehaaGreatRa09
set_option linter.unusedVariables false
set_option linter.unusedSimpArgs false
namespace Go.Proofs.YtjklkppncmhehaaGreat.Sr
open Go Go.Conc
def jF (P:Program):Array Oper:=match P.funcs[160]? with
 |some fn=>match fn.body with
  |some (Code.seq _ (Code.region _ ops _))=>ops
  |_=> #[]
 |none=> #[]
def ptr (b:Nat):Value:= .pointer (some ⟨b,0,none⟩)
def Nm (P:Program)(wg qb gb ab ib:Nat)(x5 x6 x7 x8 x9 df:Value)(l:List Nat):Frame:=
 {fn:=160,tmps:= #[ptr wg,ptr qb,ptr gb,ptr ab,ptr ib,x5,x6,x7,x8,x9,df],todo:=[.inRegion (jF P) l],
  defers:=[{target:= .fn (.func 161) #[],args:= #[ptr wg]}],mode:= .run,kind:= .deferred}
def cS (P:Program)(wg qb gb ab ib:Nat)(x5 x6 x7 x8 x9 df:Value)(l:List Nat):Goroutine:={frame:=Nm P wg qb gb ab ib x5 x6 x7 x8 x9 df l,callers:=[tX P],status:= .running,dying:=none}
def G4 (P:Program)(wg qb gb ab ib:Nat):Goroutine:=
 {frame:={(default:Frame)with fn:=P.funcs.size,defers:=[{target:= .fn (.func 160) #[ptr wg,ptr qb,ptr gb,ptr ab,ptr ib],args:= #[]}],mode:= .panicking [goexitEntry]},
  callers:=[],status:= .running,dying:=none}
abbrev cD (a:Addr) (wr:Bool):Event:=⟨.cell a,wr,false⟩
def SZ (P:Program)(wg qb gb ab ib:Nat):Goroutine:=
 {frame:={fn:=160,tmps:= #[ptr wg,ptr qb,ptr gb,ptr ab,ptr ib,undef,undef,undef,undef,undef,undef],todo:=[.code (.region 1 (jF P) true)],defers:=[{target:= .fn (.func 161) #[],args:= #[ptr wg]}],mode:= .run,kind:= .deferred},callers:=[tX P],status:= .running,dying:=none}
structure dB where
 m:Int
 t:Int
 g:Int
 f:Bool
 k:Bool
def dB.cell (a:dB):Nat→Value
 |0=> .int .i64 a.m
 |1=> .int .i64 a.t
 |2=> .int .i64 a.g
 |3=> .bool a.f
 |_=> .bool a.k
def dB.val (a:dB):Value:= .agg #[.int .i64 a.m,.int .i64 a.t,.int .i64 a.g,.bool a.f,.bool a.k]
section
variable(wg qb gb ab ib:Nat)(x5 x6 x7 x8 x9 df v:Value)(l:List Nat)
set_option maxRecDepth 100000
theorem KD:mute Tryz.prog 5 (G4 Tryz.prog wg qb gb ab ib)=true:=by kernel_rfl
theorem Np:aE Tryz.prog 5 (G4 Tryz.prog wg qb gb ab ib)=SZ Tryz.prog wg qb gb ab ib:=by kernel_rfl
theorem CM:Region.departs (jF Tryz.prog)=false:=by kernel_rfl
theorem KE (b0 b1 b2 b3 b4 b5 b6:Bool):(Region.ready .any (jF Tryz.prog) #[b0,b1,b2,b3,b4,b5,b6]).isEmpty=(b0&&b1&&b2&&b3&&b4&&b5&&b6):=by
 cases b0<;>cases b1<;>cases b2<;>cases b3<;>cases b4<;>cases b5<;>cases b6<;>kernel_rfl
theorem Nq:(jF Tryz.prog)[4]?.map (·.after.toList.map (·.on))=some [2,3]∧(jF Tryz.prog)[5]?.map (·.after.toList.map (·.on))=some [0,1,0,1,2,3,4]∧(jF Tryz.prog)[6]?.map (·.after.toList.map (·.on))=some [5,4,4,0,1,2,3,4]∧(jF Tryz.prog).all (·.after.all (Region.binds .any ·))=true:=by
 exact⟨by kernel_rfl,by kernel_rfl,by kernel_rfl,by kernel_rfl⟩
theorem CN:(jF Tryz.prog).size=7:=by kernel_rfl
theorem Vh:aZ Tryz.prog v none (cS Tryz.prog wg qb gb ab ib x5 x6 x7 x8 x9 df (0::l))=some ⟨cS Tryz.prog wg qb gb ab ib v x6 x7 x8 x9 df l,#[cD ⟨ab,0,none⟩ false],[⟨ab,0,none⟩],[],none⟩:=by kernel_rfl
theorem Vi:aZ Tryz.prog v none (cS Tryz.prog wg qb gb ab ib x5 x6 x7 x8 x9 df (1::l))=some ⟨cS Tryz.prog wg qb gb ab ib x5 v x7 x8 x9 df l,#[cD ⟨ib,0,none⟩ false],[⟨ib,0,none⟩],[],none⟩:=by kernel_rfl
theorem Vj:aZ Tryz.prog v none (cS Tryz.prog wg qb gb ab ib x5 x6 x7 x8 x9 df (2::l))=some ⟨cS Tryz.prog wg qb gb ab ib x5 x6 v x8 x9 df l,#[cD ⟨qb,0,none⟩ false],[⟨qb,0,none⟩],[],none⟩:=by kernel_rfl
theorem Vk:aZ Tryz.prog v none (cS Tryz.prog wg qb gb ab ib x5 x6 x7 x8 x9 df (3::l))=some ⟨cS Tryz.prog wg qb gb ab ib x5 x6 x7 v x9 df l,#[cD ⟨gb,0,none⟩ false],[⟨gb,0,none⟩],[],none⟩:=by kernel_rfl
theorem Vl (gs ms:Nat):bM Tryz.prog (cS Tryz.prog wg qb gb ab ib x5 x6 (.func (.func 121) #[] #[ptr gs,ptr ms]) x8 x9 df (4::l))=
  some ({frame:=Frame.enter Tryz.prog 121 #[x8,ptr gs,ptr ms] .normal,callers:=[Nm Tryz.prog wg qb gb ab ib x5 x6 (.func (.func 121) #[] #[ptr gs,ptr ms]) x8 x9 df (4::l),tX Tryz.prog],status:= .running,dying:=none},#[]):=by kernel_rfl
theorem KF (A:Nat):bM Tryz.prog (cS Tryz.prog wg qb gb ab ib (.slice (some ⟨A,0,none⟩) 1 1) (.int .i64 0) x7 x8 x9 df (5::l))=some (cS Tryz.prog wg qb gb ab ib (.slice (some ⟨A,0,none⟩) 1 1) (.int .i64 0) x7 x8 x9 (.pointer (some ⟨A,0,none⟩)) l,#[]):=by kernel_rfl
theorem KH (A:Nat):bM Tryz.prog (cS Tryz.prog wg qb gb ab ib (.slice (some ⟨A,0,none⟩) 2 2) (.int .i64 0) x7 x8 x9 df (5::l))=some (cS Tryz.prog wg qb gb ab ib (.slice (some ⟨A,0,none⟩) 2 2) (.int .i64 0) x7 x8 x9 (.pointer (some ⟨A,0,none⟩)) l,#[]):=by kernel_rfl
theorem KI (A:Nat):bM Tryz.prog (cS Tryz.prog wg qb gb ab ib (.slice (some ⟨A,0,none⟩) 2 2) (.int .i64 1) x7 x8 x9 df (5::l))=some (cS Tryz.prog wg qb gb ab ib (.slice (some ⟨A,0,none⟩) 2 2) (.int .i64 1) x7 x8 x9 (.pointer (some ⟨A,5,none⟩)) l,#[]):=by kernel_rfl
theorem KJ (A:Nat):bM Tryz.prog (cS Tryz.prog wg qb gb ab ib (.slice (some ⟨A,0,none⟩) 3 3) (.int .i64 0) x7 x8 x9 df (5::l))=some (cS Tryz.prog wg qb gb ab ib (.slice (some ⟨A,0,none⟩) 3 3) (.int .i64 0) x7 x8 x9 (.pointer (some ⟨A,0,none⟩)) l,#[]):=by kernel_rfl
theorem KL (A:Nat):bM Tryz.prog (cS Tryz.prog wg qb gb ab ib (.slice (some ⟨A,0,none⟩) 3 3) (.int .i64 1) x7 x8 x9 df (5::l))=some (cS Tryz.prog wg qb gb ab ib (.slice (some ⟨A,0,none⟩) 3 3) (.int .i64 1) x7 x8 x9 (.pointer (some ⟨A,5,none⟩)) l,#[]):=by kernel_rfl
theorem KN (A:Nat):bM Tryz.prog (cS Tryz.prog wg qb gb ab ib (.slice (some ⟨A,0,none⟩) 3 3) (.int .i64 2) x7 x8 x9 df (5::l))=some (cS Tryz.prog wg qb gb ab ib (.slice (some ⟨A,0,none⟩) 3 3) (.int .i64 2) x7 x8 x9 (.pointer (some ⟨A,10,none⟩)) l,#[]):=by kernel_rfl
theorem KO (A:Nat):bM Tryz.prog (cS Tryz.prog wg qb gb ab ib (.slice (some ⟨A,0,none⟩) 4 4) (.int .i64 0) x7 x8 x9 df (5::l))=some (cS Tryz.prog wg qb gb ab ib (.slice (some ⟨A,0,none⟩) 4 4) (.int .i64 0) x7 x8 x9 (.pointer (some ⟨A,0,none⟩)) l,#[]):=by kernel_rfl
theorem KP (A:Nat):bM Tryz.prog (cS Tryz.prog wg qb gb ab ib (.slice (some ⟨A,0,none⟩) 4 4) (.int .i64 1) x7 x8 x9 df (5::l))=some (cS Tryz.prog wg qb gb ab ib (.slice (some ⟨A,0,none⟩) 4 4) (.int .i64 1) x7 x8 x9 (.pointer (some ⟨A,5,none⟩)) l,#[]):=by kernel_rfl
theorem KQ (A:Nat):bM Tryz.prog (cS Tryz.prog wg qb gb ab ib (.slice (some ⟨A,0,none⟩) 4 4) (.int .i64 2) x7 x8 x9 df (5::l))=some (cS Tryz.prog wg qb gb ab ib (.slice (some ⟨A,0,none⟩) 4 4) (.int .i64 2) x7 x8 x9 (.pointer (some ⟨A,10,none⟩)) l,#[]):=by kernel_rfl
theorem KR (A:Nat):bM Tryz.prog (cS Tryz.prog wg qb gb ab ib (.slice (some ⟨A,0,none⟩) 4 4) (.int .i64 3) x7 x8 x9 df (5::l))=some (cS Tryz.prog wg qb gb ab ib (.slice (some ⟨A,0,none⟩) 4 4) (.int .i64 3) x7 x8 x9 (.pointer (some ⟨A,15,none⟩)) l,#[]):=by kernel_rfl
theorem KS (A:Nat):bM Tryz.prog (cS Tryz.prog wg qb gb ab ib (.slice (some ⟨A,0,none⟩) 5 5) (.int .i64 0) x7 x8 x9 df (5::l))=some (cS Tryz.prog wg qb gb ab ib (.slice (some ⟨A,0,none⟩) 5 5) (.int .i64 0) x7 x8 x9 (.pointer (some ⟨A,0,none⟩)) l,#[]):=by kernel_rfl
theorem KU (A:Nat):bM Tryz.prog (cS Tryz.prog wg qb gb ab ib (.slice (some ⟨A,0,none⟩) 5 5) (.int .i64 1) x7 x8 x9 df (5::l))=some (cS Tryz.prog wg qb gb ab ib (.slice (some ⟨A,0,none⟩) 5 5) (.int .i64 1) x7 x8 x9 (.pointer (some ⟨A,5,none⟩)) l,#[]):=by kernel_rfl
theorem KV (A:Nat):bM Tryz.prog (cS Tryz.prog wg qb gb ab ib (.slice (some ⟨A,0,none⟩) 5 5) (.int .i64 2) x7 x8 x9 df (5::l))=some (cS Tryz.prog wg qb gb ab ib (.slice (some ⟨A,0,none⟩) 5 5) (.int .i64 2) x7 x8 x9 (.pointer (some ⟨A,10,none⟩)) l,#[]):=by kernel_rfl
theorem KW (A:Nat):bM Tryz.prog (cS Tryz.prog wg qb gb ab ib (.slice (some ⟨A,0,none⟩) 5 5) (.int .i64 3) x7 x8 x9 df (5::l))=some (cS Tryz.prog wg qb gb ab ib (.slice (some ⟨A,0,none⟩) 5 5) (.int .i64 3) x7 x8 x9 (.pointer (some ⟨A,15,none⟩)) l,#[]):=by kernel_rfl
theorem KX (A:Nat):bM Tryz.prog (cS Tryz.prog wg qb gb ab ib (.slice (some ⟨A,0,none⟩) 5 5) (.int .i64 4) x7 x8 x9 df (5::l))=some (cS Tryz.prog wg qb gb ab ib (.slice (some ⟨A,0,none⟩) 5 5) (.int .i64 4) x7 x8 x9 (.pointer (some ⟨A,20,none⟩)) l,#[]):=by kernel_rfl
theorem Vm (A o:Nat)(a:dB):iL Tryz.prog (cS Tryz.prog wg qb gb ab ib x5 x6 x7 x8 a.val (.pointer (some ⟨A,o,none⟩)) (6::l))=some (cS Tryz.prog wg qb gb ab ib x5 x6 x7 x8 a.val (.pointer (some ⟨A,o,none⟩)) l,
  #[cD ⟨A,o,none⟩ true,cD ⟨A,o+1,none⟩ true,cD ⟨A,o+2,none⟩ true,cD ⟨A,o+3,none⟩ true,cD ⟨A,o+4,none⟩ true],
  [(⟨A,o,none⟩,a.cell 0),(⟨A,o+1,none⟩,a.cell 1),(⟨A,o+2,none⟩,a.cell 2),(⟨A,o+3,none⟩,a.cell 3),(⟨A,o+4,none⟩,a.cell 4)]):=by kernel_rfl
theorem Qr:mute Tryz.prog 1 (cS Tryz.prog wg qb gb ab ib x5 x6 x7 x8 x9 df [])=true:=by kernel_rfl
theorem Nr:aE Tryz.prog 1 (cS Tryz.prog wg qb gb ab ib x5 x6 x7 x8 x9 df [])=Qo Tryz.prog wg #[ptr wg,ptr qb,ptr gb,ptr ab,ptr ib,x5,x6,x7,x8,x9,df]:=by kernel_rfl
end
end Go.Proofs.YtjklkppncmhehaaGreat.Sr
