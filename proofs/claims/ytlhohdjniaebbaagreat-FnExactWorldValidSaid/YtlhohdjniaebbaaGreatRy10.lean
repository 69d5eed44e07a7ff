/-
What is proved: the steps of a worker's region, reckoned by the kernel. No condition.
-/
import Derived.Test.YtlhohdjniaebbaaGreatRy08
import Derived.Test.YtlhohdjniaebbaaGreatRy09
set_option linter.unusedVariables false
set_option linter.unusedSimpArgs false
namespace Go.Proofs.YtlhohdjniaebbaaGreat.Sr
open Go Go.Conc
def kL (P:Program):Array Oper:=match P.funcs[211]? with
 |some fn=>match fn.body with
  |some (Code.seq _ (Code.region _ ops _))=>ops
  |_=> #[]
 |none=> #[]
def ptr (b:Nat):Value:= .pointer (some ⟨b,0,none⟩)
def Sv (P:Program)(wg qb gb ab ib:Nat)(x5 x6 x7 x8 x9 dD:Value)(l:List Nat):Frame:=
 {fn:=211,tmps:= #[ptr wg,ptr qb,ptr gb,ptr ab,ptr ib,x5,x6,x7,x8,x9,dD],todo:=[.inRegion (kL P) l],
  defers:=[{target:= .fn (.func 212) #[],args:= #[ptr wg]}],mode:= .run,kind:= .deferred}
def dh (P:Program)(wg qb gb ab ib:Nat)(x5 x6 x7 x8 x9 dD:Value)(l:List Nat):Goroutine:={frame:=Sv P wg qb gb ab ib x5 x6 x7 x8 x9 dD l,callers:=[wH P],status:= .running,dying:=none}
def KH (P:Program)(wg qb gb ab ib:Nat):Goroutine:=
 {frame:={(default:Frame)with fn:=P.funcs.size,defers:=[{target:= .fn (.func 211) #[ptr wg,ptr qb,ptr gb,ptr ab,ptr ib],args:= #[]}],mode:= .panicking [goexitEntry]},
  callers:=[],status:= .running,dying:=none}
abbrev db (a:Addr) (wr:Bool):Event:=⟨.cell a,wr,false⟩
def YW (P:Program)(wg qb gb ab ib:Nat):Goroutine:=
 {frame:={fn:=211,tmps:= #[ptr wg,ptr qb,ptr gb,ptr ab,ptr ib,undef,undef,undef,undef,undef,undef],todo:=[.code (.region 1 (kL P) true)],defers:=[{target:= .fn (.func 212) #[],args:= #[ptr wg]}],mode:= .run,kind:= .deferred},callers:=[wH P],status:= .running,dying:=none}
structure eH where
 m:Int
 t:Int
 g:Int
 f:Bool
 k:Bool
def eH.cell (a:eH):Nat→Value
 |0=> .int .i64 a.m
 |1=> .int .i64 a.t
 |2=> .int .i64 a.g
 |3=> .bool a.f
 |_=> .bool a.k
def eH.val (a:eH):Value:= .agg #[.int .i64 a.m,.int .i64 a.t,.int .i64 a.g,.bool a.f,.bool a.k]
section
variable(wg qb gb ab ib:Nat)(x5 x6 x7 x8 x9 dD v:Value)(l:List Nat)
set_option maxRecDepth 100000
theorem Pb:mute Tryz.prog 5 (KH Tryz.prog wg qb gb ab ib)=true:=by kernel_rfl
theorem Sw:aL Tryz.prog 5 (KH Tryz.prog wg qb gb ab ib)=YW Tryz.prog wg qb gb ab ib:=by kernel_rfl
theorem FL:Region.departs (kL Tryz.prog)=false:=by kernel_rfl
theorem Pd (b0 b1 b2 b3 b4 b5 b6:Bool):(Region.ready .any (kL Tryz.prog) #[b0,b1,b2,b3,b4,b5,b6]).isEmpty=(b0&&b1&&b2&&b3&&b4&&b5&&b6):=by
 cases b0<;>cases b1<;>cases b2<;>cases b3<;>cases b4<;>cases b5<;>cases b6<;>kernel_rfl
theorem Sx:(kL Tryz.prog)[4]?.map (·.after.toList.map (·.on))=some [2,3]∧(kL Tryz.prog)[5]?.map (·.after.toList.map (·.on))=some [0,1,0,1,2,3,4]∧(kL Tryz.prog)[6]?.map (·.after.toList.map (·.on))=some [5,4,4,0,1,2,3,4]∧(kL Tryz.prog).all (·.after.all (Region.binds .any ·))=true:=by
 exact⟨by kernel_rfl,by kernel_rfl,by kernel_rfl,by kernel_rfl⟩
theorem FM:(kL Tryz.prog).size=7:=by kernel_rfl
theorem aaO:bn Tryz.prog v none (dh Tryz.prog wg qb gb ab ib x5 x6 x7 x8 x9 dD (0::l))=some ⟨dh Tryz.prog wg qb gb ab ib v x6 x7 x8 x9 dD l,#[db ⟨ab,0,none⟩ false],[⟨ab,0,none⟩],[],none⟩:=by kernel_rfl
theorem aaP:bn Tryz.prog v none (dh Tryz.prog wg qb gb ab ib x5 x6 x7 x8 x9 dD (1::l))=some ⟨dh Tryz.prog wg qb gb ab ib x5 v x7 x8 x9 dD l,#[db ⟨ib,0,none⟩ false],[⟨ib,0,none⟩],[],none⟩:=by kernel_rfl
theorem aaQ:bn Tryz.prog v none (dh Tryz.prog wg qb gb ab ib x5 x6 x7 x8 x9 dD (2::l))=some ⟨dh Tryz.prog wg qb gb ab ib x5 x6 v x8 x9 dD l,#[db ⟨qb,0,none⟩ false],[⟨qb,0,none⟩],[],none⟩:=by kernel_rfl
theorem aaR:bn Tryz.prog v none (dh Tryz.prog wg qb gb ab ib x5 x6 x7 x8 x9 dD (3::l))=some ⟨dh Tryz.prog wg qb gb ab ib x5 x6 x7 v x9 dD l,#[db ⟨gb,0,none⟩ false],[⟨gb,0,none⟩],[],none⟩:=by kernel_rfl
theorem aaS (gs ms:Nat):bU Tryz.prog (dh Tryz.prog wg qb gb ab ib x5 x6 (.func (.func 187) #[] #[ptr gs,ptr ms]) x8 x9 dD (4::l))=
  some ({frame:=Frame.enter Tryz.prog 187 #[x8,ptr gs,ptr ms] .normal,callers:=[Sv Tryz.prog wg qb gb ab ib x5 x6 (.func (.func 187) #[] #[ptr gs,ptr ms]) x8 x9 dD (4::l),wH Tryz.prog],status:= .running,dying:=none},#[]):=by kernel_rfl
theorem Pe (A:Nat):bU Tryz.prog (dh Tryz.prog wg qb gb ab ib (.slice (some ⟨A,0,none⟩) 1 1) (.int .i64 0) x7 x8 x9 dD (5::l))=some (dh Tryz.prog wg qb gb ab ib (.slice (some ⟨A,0,none⟩) 1 1) (.int .i64 0) x7 x8 x9 (.pointer (some ⟨A,0,none⟩)) l,#[]):=by kernel_rfl
theorem Pf (A:Nat):bU Tryz.prog (dh Tryz.prog wg qb gb ab ib (.slice (some ⟨A,0,none⟩) 2 2) (.int .i64 0) x7 x8 x9 dD (5::l))=some (dh Tryz.prog wg qb gb ab ib (.slice (some ⟨A,0,none⟩) 2 2) (.int .i64 0) x7 x8 x9 (.pointer (some ⟨A,0,none⟩)) l,#[]):=by kernel_rfl
theorem Pg (A:Nat):bU Tryz.prog (dh Tryz.prog wg qb gb ab ib (.slice (some ⟨A,0,none⟩) 2 2) (.int .i64 1) x7 x8 x9 dD (5::l))=some (dh Tryz.prog wg qb gb ab ib (.slice (some ⟨A,0,none⟩) 2 2) (.int .i64 1) x7 x8 x9 (.pointer (some ⟨A,5,none⟩)) l,#[]):=by kernel_rfl
theorem Pj (A:Nat):bU Tryz.prog (dh Tryz.prog wg qb gb ab ib (.slice (some ⟨A,0,none⟩) 3 3) (.int .i64 0) x7 x8 x9 dD (5::l))=some (dh Tryz.prog wg qb gb ab ib (.slice (some ⟨A,0,none⟩) 3 3) (.int .i64 0) x7 x8 x9 (.pointer (some ⟨A,0,none⟩)) l,#[]):=by kernel_rfl
theorem Pk (A:Nat):bU Tryz.prog (dh Tryz.prog wg qb gb ab ib (.slice (some ⟨A,0,none⟩) 3 3) (.int .i64 1) x7 x8 x9 dD (5::l))=some (dh Tryz.prog wg qb gb ab ib (.slice (some ⟨A,0,none⟩) 3 3) (.int .i64 1) x7 x8 x9 (.pointer (some ⟨A,5,none⟩)) l,#[]):=by kernel_rfl
theorem Pm (A:Nat):bU Tryz.prog (dh Tryz.prog wg qb gb ab ib (.slice (some ⟨A,0,none⟩) 3 3) (.int .i64 2) x7 x8 x9 dD (5::l))=some (dh Tryz.prog wg qb gb ab ib (.slice (some ⟨A,0,none⟩) 3 3) (.int .i64 2) x7 x8 x9 (.pointer (some ⟨A,10,none⟩)) l,#[]):=by kernel_rfl
theorem Pn (A:Nat):bU Tryz.prog (dh Tryz.prog wg qb gb ab ib (.slice (some ⟨A,0,none⟩) 4 4) (.int .i64 0) x7 x8 x9 dD (5::l))=some (dh Tryz.prog wg qb gb ab ib (.slice (some ⟨A,0,none⟩) 4 4) (.int .i64 0) x7 x8 x9 (.pointer (some ⟨A,0,none⟩)) l,#[]):=by kernel_rfl
theorem Po (A:Nat):bU Tryz.prog (dh Tryz.prog wg qb gb ab ib (.slice (some ⟨A,0,none⟩) 4 4) (.int .i64 1) x7 x8 x9 dD (5::l))=some (dh Tryz.prog wg qb gb ab ib (.slice (some ⟨A,0,none⟩) 4 4) (.int .i64 1) x7 x8 x9 (.pointer (some ⟨A,5,none⟩)) l,#[]):=by kernel_rfl
theorem Pp (A:Nat):bU Tryz.prog (dh Tryz.prog wg qb gb ab ib (.slice (some ⟨A,0,none⟩) 4 4) (.int .i64 2) x7 x8 x9 dD (5::l))=some (dh Tryz.prog wg qb gb ab ib (.slice (some ⟨A,0,none⟩) 4 4) (.int .i64 2) x7 x8 x9 (.pointer (some ⟨A,10,none⟩)) l,#[]):=by kernel_rfl
theorem Pq (A:Nat):bU Tryz.prog (dh Tryz.prog wg qb gb ab ib (.slice (some ⟨A,0,none⟩) 4 4) (.int .i64 3) x7 x8 x9 dD (5::l))=some (dh Tryz.prog wg qb gb ab ib (.slice (some ⟨A,0,none⟩) 4 4) (.int .i64 3) x7 x8 x9 (.pointer (some ⟨A,15,none⟩)) l,#[]):=by kernel_rfl
theorem Pr (A:Nat):bU Tryz.prog (dh Tryz.prog wg qb gb ab ib (.slice (some ⟨A,0,none⟩) 5 5) (.int .i64 0) x7 x8 x9 dD (5::l))=some (dh Tryz.prog wg qb gb ab ib (.slice (some ⟨A,0,none⟩) 5 5) (.int .i64 0) x7 x8 x9 (.pointer (some ⟨A,0,none⟩)) l,#[]):=by kernel_rfl
theorem Ps (A:Nat):bU Tryz.prog (dh Tryz.prog wg qb gb ab ib (.slice (some ⟨A,0,none⟩) 5 5) (.int .i64 1) x7 x8 x9 dD (5::l))=some (dh Tryz.prog wg qb gb ab ib (.slice (some ⟨A,0,none⟩) 5 5) (.int .i64 1) x7 x8 x9 (.pointer (some ⟨A,5,none⟩)) l,#[]):=by kernel_rfl
theorem Pt (A:Nat):bU Tryz.prog (dh Tryz.prog wg qb gb ab ib (.slice (some ⟨A,0,none⟩) 5 5) (.int .i64 2) x7 x8 x9 dD (5::l))=some (dh Tryz.prog wg qb gb ab ib (.slice (some ⟨A,0,none⟩) 5 5) (.int .i64 2) x7 x8 x9 (.pointer (some ⟨A,10,none⟩)) l,#[]):=by kernel_rfl
theorem Pu (A:Nat):bU Tryz.prog (dh Tryz.prog wg qb gb ab ib (.slice (some ⟨A,0,none⟩) 5 5) (.int .i64 3) x7 x8 x9 dD (5::l))=some (dh Tryz.prog wg qb gb ab ib (.slice (some ⟨A,0,none⟩) 5 5) (.int .i64 3) x7 x8 x9 (.pointer (some ⟨A,15,none⟩)) l,#[]):=by kernel_rfl
theorem Pv (A:Nat):bU Tryz.prog (dh Tryz.prog wg qb gb ab ib (.slice (some ⟨A,0,none⟩) 5 5) (.int .i64 4) x7 x8 x9 dD (5::l))=some (dh Tryz.prog wg qb gb ab ib (.slice (some ⟨A,0,none⟩) 5 5) (.int .i64 4) x7 x8 x9 (.pointer (some ⟨A,20,none⟩)) l,#[]):=by kernel_rfl
theorem aaT (A o:Nat)(a:eH):jQ Tryz.prog (dh Tryz.prog wg qb gb ab ib x5 x6 x7 x8 a.val (.pointer (some ⟨A,o,none⟩)) (6::l))=some (dh Tryz.prog wg qb gb ab ib x5 x6 x7 x8 a.val (.pointer (some ⟨A,o,none⟩)) l,
  #[db ⟨A,o,none⟩ true,db ⟨A,o+1,none⟩ true,db ⟨A,o+2,none⟩ true,db ⟨A,o+3,none⟩ true,db ⟨A,o+4,none⟩ true],
  [(⟨A,o,none⟩,a.cell 0),(⟨A,o+1,none⟩,a.cell 1),(⟨A,o+2,none⟩,a.cell 2),(⟨A,o+3,none⟩,a.cell 3),(⟨A,o+4,none⟩,a.cell 4)]):=by kernel_rfl
theorem V9:mute Tryz.prog 1 (dh Tryz.prog wg qb gb ab ib x5 x6 x7 x8 x9 dD [])=true:=by kernel_rfl
theorem Sy:aL Tryz.prog 1 (dh Tryz.prog wg qb gb ab ib x5 x6 x7 x8 x9 dD [])=V6 Tryz.prog wg #[ptr wg,ptr qb,ptr gb,ptr ab,ptr ib,x5,x6,x7,x8,x9,dD]:=by kernel_rfl
end
end Go.Proofs.YtlhohdjniaebbaaGreat.Sr
