/-
What is proved: the steps of a worker's region, reckoned by the kernel. No condition.
-/
import Derived.Test.YtabjbdnokpjipaaGreatRw08
import Derived.Test.YtabjbdnokpjipaaGreatRw09
set_option linter.unusedVariables false
set_option linter.unusedSimpArgs false
namespace Go.Proofs.YtabjbdnokpjipaaGreat.Sr
open Go Go.Conc
def ng (P:Program):Array Oper:=match P.funcs[152]? with
 |some fn=>match fn.body with
  |some (Code.seq _ (Code.region _ ops _))=>ops
  |_=> #[]
 |none=> #[]
def ptr (b:Nat):Value:= .pointer (some ⟨b,0,none⟩)
def Wt (P:Program)(wg qb gb ab ib:Nat)(x5 x6 x7 x8 x9 fa:Value)(l:List Nat):Frame:=
 {fn:=152,tmps:= #[ptr wg,ptr qb,ptr gb,ptr ab,ptr ib,x5,x6,x7,x8,x9,fa],todo:=[.inRegion (ng P) l],
  defers:=[{target:= .fn (.func 153) #[],args:= #[ptr wg]}],mode:= .run,kind:= .deferred}
def ef (P:Program)(wg qb gb ab ib:Nat)(x5 x6 x7 x8 x9 fa:Value)(l:List Nat):Goroutine:={frame:=Wt P wg qb gb ab ib x5 x6 x7 x8 x9 fa l,callers:=[Ac P],status:= .running,dying:=none}
def OE (P:Program)(wg qb gb ab ib:Nat):Goroutine:=
 {frame:={(default:Frame)with fn:=P.funcs.size,defers:=[{target:= .fn (.func 152) #[ptr wg,ptr qb,ptr gb,ptr ab,ptr ib],args:= #[]}],mode:= .panicking [goexitEntry]},
  callers:=[],status:= .running,dying:=none}
abbrev dT (a:Addr) (wr:Bool):Event:=⟨.cell a,wr,false⟩
def wdG (P:Program)(wg qb gb ab ib:Nat):Goroutine:=
 {frame:={fn:=152,tmps:= #[ptr wg,ptr qb,ptr gb,ptr ab,ptr ib,undef,undef,undef,undef,undef,undef],todo:=[.code (.region 1 (ng P) true)],defers:=[{target:= .fn (.func 153) #[],args:= #[ptr wg]}],mode:= .run,kind:= .deferred},callers:=[Ac P],status:= .running,dying:=none}
structure fZ where
 m:Int
 t:Int
 g:Int
 f:Bool
 k:Bool
def fZ.cell (a:fZ):Nat→Value
 |0=> .int .i64 a.m
 |1=> .int .i64 a.t
 |2=> .int .i64 a.g
 |3=> .bool a.f
 |_=> .bool a.k
def fZ.val (a:fZ):Value:= .agg #[.int .i64 a.m,.int .i64 a.t,.int .i64 a.g,.bool a.f,.bool a.k]
section
variable(wg qb gb ab ib:Nat)(x5 x6 x7 x8 x9 fa v:Value)(l:List Nat)
set_option maxRecDepth 100000
theorem SY:mute Tryz.prog 5 (OE Tryz.prog wg qb gb ab ib)=true:=by kernel_rfl
theorem Wu:aR Tryz.prog 5 (OE Tryz.prog wg qb gb ab ib)=wdG Tryz.prog wg qb gb ab ib:=by kernel_rfl
theorem JF:Region.departs (ng Tryz.prog)=false:=by kernel_rfl
theorem SZ (b0 b1 b2 b3 b4 b5 b6:Bool):(Region.ready .any (ng Tryz.prog) #[b0,b1,b2,b3,b4,b5,b6]).isEmpty=(b0&&b1&&b2&&b3&&b4&&b5&&b6):=by
 cases b0<;>cases b1<;>cases b2<;>cases b3<;>cases b4<;>cases b5<;>cases b6<;>kernel_rfl
theorem Wv:(ng Tryz.prog)[4]?.map (·.after.toList.map (·.on))=some [2,3]∧(ng Tryz.prog)[5]?.map (·.after.toList.map (·.on))=some [0,1,0,1,2,3,4]∧(ng Tryz.prog)[6]?.map (·.after.toList.map (·.on))=some [5,4,4,0,1,2,3,4]∧(ng Tryz.prog).all (·.after.all (Region.binds .any ·))=true:=by
 exact⟨by kernel_rfl,by kernel_rfl,by kernel_rfl,by kernel_rfl⟩
theorem JG:(ng Tryz.prog).size=7:=by kernel_rfl
theorem acN:bF Tryz.prog v none (ef Tryz.prog wg qb gb ab ib x5 x6 x7 x8 x9 fa (0::l))=some ⟨ef Tryz.prog wg qb gb ab ib v x6 x7 x8 x9 fa l,#[dT ⟨ab,0,none⟩ false],[⟨ab,0,none⟩],[],none⟩:=by kernel_rfl
theorem acO:bF Tryz.prog v none (ef Tryz.prog wg qb gb ab ib x5 x6 x7 x8 x9 fa (1::l))=some ⟨ef Tryz.prog wg qb gb ab ib x5 v x7 x8 x9 fa l,#[dT ⟨ib,0,none⟩ false],[⟨ib,0,none⟩],[],none⟩:=by kernel_rfl
theorem acP:bF Tryz.prog v none (ef Tryz.prog wg qb gb ab ib x5 x6 x7 x8 x9 fa (2::l))=some ⟨ef Tryz.prog wg qb gb ab ib x5 x6 v x8 x9 fa l,#[dT ⟨qb,0,none⟩ false],[⟨qb,0,none⟩],[],none⟩:=by kernel_rfl
theorem acQ:bF Tryz.prog v none (ef Tryz.prog wg qb gb ab ib x5 x6 x7 x8 x9 fa (3::l))=some ⟨ef Tryz.prog wg qb gb ab ib x5 x6 x7 v x9 fa l,#[dT ⟨gb,0,none⟩ false],[⟨gb,0,none⟩],[],none⟩:=by kernel_rfl
theorem acR (gs ms:Nat):cn Tryz.prog (ef Tryz.prog wg qb gb ab ib x5 x6 (.func (.func 139) #[] #[ptr gs,ptr ms]) x8 x9 fa (4::l))=
  some ({frame:=Frame.enter Tryz.prog 139 #[x8,ptr gs,ptr ms] .normal,callers:=[Wt Tryz.prog wg qb gb ab ib x5 x6 (.func (.func 139) #[] #[ptr gs,ptr ms]) x8 x9 fa (4::l),Ac Tryz.prog],status:= .running,dying:=none},#[]):=by kernel_rfl
theorem S0 (A:Nat):cn Tryz.prog (ef Tryz.prog wg qb gb ab ib (.slice (some ⟨A,0,none⟩) 1 1) (.int .i64 0) x7 x8 x9 fa (5::l))=some (ef Tryz.prog wg qb gb ab ib (.slice (some ⟨A,0,none⟩) 1 1) (.int .i64 0) x7 x8 x9 (.pointer (some ⟨A,0,none⟩)) l,#[]):=by kernel_rfl
theorem S1 (A:Nat):cn Tryz.prog (ef Tryz.prog wg qb gb ab ib (.slice (some ⟨A,0,none⟩) 2 2) (.int .i64 0) x7 x8 x9 fa (5::l))=some (ef Tryz.prog wg qb gb ab ib (.slice (some ⟨A,0,none⟩) 2 2) (.int .i64 0) x7 x8 x9 (.pointer (some ⟨A,0,none⟩)) l,#[]):=by kernel_rfl
theorem S4 (A:Nat):cn Tryz.prog (ef Tryz.prog wg qb gb ab ib (.slice (some ⟨A,0,none⟩) 2 2) (.int .i64 1) x7 x8 x9 fa (5::l))=some (ef Tryz.prog wg qb gb ab ib (.slice (some ⟨A,0,none⟩) 2 2) (.int .i64 1) x7 x8 x9 (.pointer (some ⟨A,5,none⟩)) l,#[]):=by kernel_rfl
theorem S5 (A:Nat):cn Tryz.prog (ef Tryz.prog wg qb gb ab ib (.slice (some ⟨A,0,none⟩) 3 3) (.int .i64 0) x7 x8 x9 fa (5::l))=some (ef Tryz.prog wg qb gb ab ib (.slice (some ⟨A,0,none⟩) 3 3) (.int .i64 0) x7 x8 x9 (.pointer (some ⟨A,0,none⟩)) l,#[]):=by kernel_rfl
theorem S7 (A:Nat):cn Tryz.prog (ef Tryz.prog wg qb gb ab ib (.slice (some ⟨A,0,none⟩) 3 3) (.int .i64 1) x7 x8 x9 fa (5::l))=some (ef Tryz.prog wg qb gb ab ib (.slice (some ⟨A,0,none⟩) 3 3) (.int .i64 1) x7 x8 x9 (.pointer (some ⟨A,5,none⟩)) l,#[]):=by kernel_rfl
theorem S9 (A:Nat):cn Tryz.prog (ef Tryz.prog wg qb gb ab ib (.slice (some ⟨A,0,none⟩) 3 3) (.int .i64 2) x7 x8 x9 fa (5::l))=some (ef Tryz.prog wg qb gb ab ib (.slice (some ⟨A,0,none⟩) 3 3) (.int .i64 2) x7 x8 x9 (.pointer (some ⟨A,10,none⟩)) l,#[]):=by kernel_rfl
theorem S_ (A:Nat):cn Tryz.prog (ef Tryz.prog wg qb gb ab ib (.slice (some ⟨A,0,none⟩) 4 4) (.int .i64 0) x7 x8 x9 fa (5::l))=some (ef Tryz.prog wg qb gb ab ib (.slice (some ⟨A,0,none⟩) 4 4) (.int .i64 0) x7 x8 x9 (.pointer (some ⟨A,0,none⟩)) l,#[]):=by kernel_rfl
theorem S' (A:Nat):cn Tryz.prog (ef Tryz.prog wg qb gb ab ib (.slice (some ⟨A,0,none⟩) 4 4) (.int .i64 1) x7 x8 x9 fa (5::l))=some (ef Tryz.prog wg qb gb ab ib (.slice (some ⟨A,0,none⟩) 4 4) (.int .i64 1) x7 x8 x9 (.pointer (some ⟨A,5,none⟩)) l,#[]):=by kernel_rfl
theorem Ta (A:Nat):cn Tryz.prog (ef Tryz.prog wg qb gb ab ib (.slice (some ⟨A,0,none⟩) 4 4) (.int .i64 2) x7 x8 x9 fa (5::l))=some (ef Tryz.prog wg qb gb ab ib (.slice (some ⟨A,0,none⟩) 4 4) (.int .i64 2) x7 x8 x9 (.pointer (some ⟨A,10,none⟩)) l,#[]):=by kernel_rfl
theorem Tb (A:Nat):cn Tryz.prog (ef Tryz.prog wg qb gb ab ib (.slice (some ⟨A,0,none⟩) 4 4) (.int .i64 3) x7 x8 x9 fa (5::l))=some (ef Tryz.prog wg qb gb ab ib (.slice (some ⟨A,0,none⟩) 4 4) (.int .i64 3) x7 x8 x9 (.pointer (some ⟨A,15,none⟩)) l,#[]):=by kernel_rfl
theorem Tc (A:Nat):cn Tryz.prog (ef Tryz.prog wg qb gb ab ib (.slice (some ⟨A,0,none⟩) 5 5) (.int .i64 0) x7 x8 x9 fa (5::l))=some (ef Tryz.prog wg qb gb ab ib (.slice (some ⟨A,0,none⟩) 5 5) (.int .i64 0) x7 x8 x9 (.pointer (some ⟨A,0,none⟩)) l,#[]):=by kernel_rfl
theorem Te (A:Nat):cn Tryz.prog (ef Tryz.prog wg qb gb ab ib (.slice (some ⟨A,0,none⟩) 5 5) (.int .i64 1) x7 x8 x9 fa (5::l))=some (ef Tryz.prog wg qb gb ab ib (.slice (some ⟨A,0,none⟩) 5 5) (.int .i64 1) x7 x8 x9 (.pointer (some ⟨A,5,none⟩)) l,#[]):=by kernel_rfl
theorem Tf (A:Nat):cn Tryz.prog (ef Tryz.prog wg qb gb ab ib (.slice (some ⟨A,0,none⟩) 5 5) (.int .i64 2) x7 x8 x9 fa (5::l))=some (ef Tryz.prog wg qb gb ab ib (.slice (some ⟨A,0,none⟩) 5 5) (.int .i64 2) x7 x8 x9 (.pointer (some ⟨A,10,none⟩)) l,#[]):=by kernel_rfl
theorem ae1 (A:Nat):cn Tryz.prog (ef Tryz.prog wg qb gb ab ib (.slice (some ⟨A,0,none⟩) 5 5) (.int .i64 3) x7 x8 x9 fa (5::l))=some (ef Tryz.prog wg qb gb ab ib (.slice (some ⟨A,0,none⟩) 5 5) (.int .i64 3) x7 x8 x9 (.pointer (some ⟨A,15,none⟩)) l,#[]):=by kernel_rfl
theorem Ti (A:Nat):cn Tryz.prog (ef Tryz.prog wg qb gb ab ib (.slice (some ⟨A,0,none⟩) 5 5) (.int .i64 4) x7 x8 x9 fa (5::l))=some (ef Tryz.prog wg qb gb ab ib (.slice (some ⟨A,0,none⟩) 5 5) (.int .i64 4) x7 x8 x9 (.pointer (some ⟨A,20,none⟩)) l,#[]):=by kernel_rfl
theorem acS (A o:Nat)(a:fZ):lQ Tryz.prog (ef Tryz.prog wg qb gb ab ib x5 x6 x7 x8 a.val (.pointer (some ⟨A,o,none⟩)) (6::l))=some (ef Tryz.prog wg qb gb ab ib x5 x6 x7 x8 a.val (.pointer (some ⟨A,o,none⟩)) l,
  #[dT ⟨A,o,none⟩ true,dT ⟨A,o+1,none⟩ true,dT ⟨A,o+2,none⟩ true,dT ⟨A,o+3,none⟩ true,dT ⟨A,o+4,none⟩ true],
  [(⟨A,o,none⟩,a.cell 0),(⟨A,o+1,none⟩,a.cell 1),(⟨A,o+2,none⟩,a.cell 2),(⟨A,o+3,none⟩,a.cell 3),(⟨A,o+4,none⟩,a.cell 4)]):=by kernel_rfl
theorem Z2:mute Tryz.prog 1 (ef Tryz.prog wg qb gb ab ib x5 x6 x7 x8 x9 fa [])=true:=by kernel_rfl
theorem Ww:aR Tryz.prog 1 (ef Tryz.prog wg qb gb ab ib x5 x6 x7 x8 x9 fa [])=ZZ Tryz.prog wg #[ptr wg,ptr qb,ptr gb,ptr ab,ptr ib,x5,x6,x7,x8,x9,fa]:=by kernel_rfl
end
end Go.Proofs.YtabjbdnokpjipaaGreat.Sr
