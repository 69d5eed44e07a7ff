/-
What is proved: the steps of a worker's region, reckoned by the kernel. No condition.
-/
import Derived.Test.YtjklkppncmhehaaGreatRx08
import Derived.Test.YtjklkppncmhehaaGreatRx09
set_option linter.unusedVariables false
set_option linter.unusedSimpArgs false
namespace Go.Proofs.YtjklkppncmhehaaGreat.Sr
open Go Go.Conc
def lq (P:Program):Array Oper:=match P.funcs[160]? with
 |some fn=>match fn.body with
  |some (Code.seq _ (Code.region _ ops _))=>ops
  |_=> #[]
 |none=> #[]
def ptr (b:Nat):Value:= .pointer (some ⟨b,0,none⟩)
def Q5 (P:Program)(wg qb gb ab ib:Nat)(x5 x6 x7 x8 x9 dR:Value)(l:List Nat):Frame:=
 {fn:=160,tmps:= #[ptr wg,ptr qb,ptr gb,ptr ab,ptr ib,x5,x6,x7,x8,x9,dR],todo:=[.inRegion (lq P) l],
  defers:=[{target:= .fn (.func 161) #[],args:= #[ptr wg]}],mode:= .run,kind:= .deferred}
def dC (P:Program)(wg qb gb ab ib:Nat)(x5 x6 x7 x8 x9 dR:Value)(l:List Nat):Goroutine:={frame:=Q5 P wg qb gb ab ib x5 x6 x7 x8 x9 dR l,callers:=[xk P],status:= .running,dying:=none}
def Kr (P:Program)(wg qb gb ab ib:Nat):Goroutine:=
 {frame:={(default:Frame)with fn:=P.funcs.size,defers:=[{target:= .fn (.func 160) #[ptr wg,ptr qb,ptr gb,ptr ab,ptr ib],args:= #[]}],mode:= .panicking [goexitEntry]},
  callers:=[],status:= .running,dying:=none}
abbrev dq (a:Addr) (wr:Bool):Event:=⟨.cell a,wr,false⟩
def Wz (P:Program)(wg qb gb ab ib:Nat):Goroutine:=
 {frame:={fn:=160,tmps:= #[ptr wg,ptr qb,ptr gb,ptr ab,ptr ib,undef,undef,undef,undef,undef,undef],todo:=[.code (.region 1 (lq P) true)],defers:=[{target:= .fn (.func 161) #[],args:= #[ptr wg]}],mode:= .run,kind:= .deferred},callers:=[xk P],status:= .running,dying:=none}
structure eQ where
 m:Int
 t:Int
 g:Int
 f:Bool
 k:Bool
def eQ.cell (a:eQ):Nat→Value
 |0=> .int .i64 a.m
 |1=> .int .i64 a.t
 |2=> .int .i64 a.g
 |3=> .bool a.f
 |_=> .bool a.k
def eQ.val (a:eQ):Value:= .agg #[.int .i64 a.m,.int .i64 a.t,.int .i64 a.g,.bool a.f,.bool a.k]
section
variable(wg qb gb ab ib:Nat)(x5 x6 x7 x8 x9 dR v:Value)(l:List Nat)
set_option maxRecDepth 100000
theorem Oh:mute Tryz.prog 5 (Kr Tryz.prog wg qb gb ab ib)=true:=by kernel_rfl
theorem Q6:aN Tryz.prog 5 (Kr Tryz.prog wg qb gb ab ib)=Wz Tryz.prog wg qb gb ab ib:=by kernel_rfl
theorem Ga:Region.departs (lq Tryz.prog)=false:=by kernel_rfl
theorem Oi (b0 b1 b2 b3 b4 b5 b6:Bool):(Region.ready .any (lq Tryz.prog) #[b0,b1,b2,b3,b4,b5,b6]).isEmpty=(b0&&b1&&b2&&b3&&b4&&b5&&b6):=by
 cases b0<;>cases b1<;>cases b2<;>cases b3<;>cases b4<;>cases b5<;>cases b6<;>kernel_rfl
theorem Q7:(lq Tryz.prog)[4]?.map (·.after.toList.map (·.on))=some [2,3]∧(lq Tryz.prog)[5]?.map (·.after.toList.map (·.on))=some [0,1,0,1,2,3,4]∧(lq Tryz.prog)[6]?.map (·.after.toList.map (·.on))=some [5,4,4,0,1,2,3,4]∧(lq Tryz.prog).all (·.after.all (Region.binds .any ·))=true:=by
 exact⟨by kernel_rfl,by kernel_rfl,by kernel_rfl,by kernel_rfl⟩
theorem Gb:(lq Tryz.prog).size=7:=by kernel_rfl
theorem Yz:bn Tryz.prog v none (dC Tryz.prog wg qb gb ab ib x5 x6 x7 x8 x9 dR (0::l))=some ⟨dC Tryz.prog wg qb gb ab ib v x6 x7 x8 x9 dR l,#[dq ⟨ab,0,none⟩ false],[⟨ab,0,none⟩],[],none⟩:=by kernel_rfl
theorem YA:bn Tryz.prog v none (dC Tryz.prog wg qb gb ab ib x5 x6 x7 x8 x9 dR (1::l))=some ⟨dC Tryz.prog wg qb gb ab ib x5 v x7 x8 x9 dR l,#[dq ⟨ib,0,none⟩ false],[⟨ib,0,none⟩],[],none⟩:=by kernel_rfl
theorem YB:bn Tryz.prog v none (dC Tryz.prog wg qb gb ab ib x5 x6 x7 x8 x9 dR (2::l))=some ⟨dC Tryz.prog wg qb gb ab ib x5 x6 v x8 x9 dR l,#[dq ⟨qb,0,none⟩ false],[⟨qb,0,none⟩],[],none⟩:=by kernel_rfl
theorem YC:bn Tryz.prog v none (dC Tryz.prog wg qb gb ab ib x5 x6 x7 x8 x9 dR (3::l))=some ⟨dC Tryz.prog wg qb gb ab ib x5 x6 x7 v x9 dR l,#[dq ⟨gb,0,none⟩ false],[⟨gb,0,none⟩],[],none⟩:=by kernel_rfl
theorem YD (gs ms:Nat):bX Tryz.prog (dC Tryz.prog wg qb gb ab ib x5 x6 (.func (.func 121) #[] #[ptr gs,ptr ms]) x8 x9 dR (4::l))=
  some ({frame:=Frame.enter Tryz.prog 121 #[x8,ptr gs,ptr ms] .normal,callers:=[Q5 Tryz.prog wg qb gb ab ib x5 x6 (.func (.func 121) #[] #[ptr gs,ptr ms]) x8 x9 dR (4::l),xk Tryz.prog],status:= .running,dying:=none},#[]):=by kernel_rfl
theorem Oj (A:Nat):bX Tryz.prog (dC Tryz.prog wg qb gb ab ib (.slice (some ⟨A,0,none⟩) 1 1) (.int .i64 0) x7 x8 x9 dR (5::l))=some (dC Tryz.prog wg qb gb ab ib (.slice (some ⟨A,0,none⟩) 1 1) (.int .i64 0) x7 x8 x9 (.pointer (some ⟨A,0,none⟩)) l,#[]):=by kernel_rfl
theorem Ol (A:Nat):bX Tryz.prog (dC Tryz.prog wg qb gb ab ib (.slice (some ⟨A,0,none⟩) 2 2) (.int .i64 0) x7 x8 x9 dR (5::l))=some (dC Tryz.prog wg qb gb ab ib (.slice (some ⟨A,0,none⟩) 2 2) (.int .i64 0) x7 x8 x9 (.pointer (some ⟨A,0,none⟩)) l,#[]):=by kernel_rfl
theorem Om (A:Nat):bX Tryz.prog (dC Tryz.prog wg qb gb ab ib (.slice (some ⟨A,0,none⟩) 2 2) (.int .i64 1) x7 x8 x9 dR (5::l))=some (dC Tryz.prog wg qb gb ab ib (.slice (some ⟨A,0,none⟩) 2 2) (.int .i64 1) x7 x8 x9 (.pointer (some ⟨A,5,none⟩)) l,#[]):=by kernel_rfl
theorem On (A:Nat):bX Tryz.prog (dC Tryz.prog wg qb gb ab ib (.slice (some ⟨A,0,none⟩) 3 3) (.int .i64 0) x7 x8 x9 dR (5::l))=some (dC Tryz.prog wg qb gb ab ib (.slice (some ⟨A,0,none⟩) 3 3) (.int .i64 0) x7 x8 x9 (.pointer (some ⟨A,0,none⟩)) l,#[]):=by kernel_rfl
theorem Oo (A:Nat):bX Tryz.prog (dC Tryz.prog wg qb gb ab ib (.slice (some ⟨A,0,none⟩) 3 3) (.int .i64 1) x7 x8 x9 dR (5::l))=some (dC Tryz.prog wg qb gb ab ib (.slice (some ⟨A,0,none⟩) 3 3) (.int .i64 1) x7 x8 x9 (.pointer (some ⟨A,5,none⟩)) l,#[]):=by kernel_rfl
theorem Oq (A:Nat):bX Tryz.prog (dC Tryz.prog wg qb gb ab ib (.slice (some ⟨A,0,none⟩) 3 3) (.int .i64 2) x7 x8 x9 dR (5::l))=some (dC Tryz.prog wg qb gb ab ib (.slice (some ⟨A,0,none⟩) 3 3) (.int .i64 2) x7 x8 x9 (.pointer (some ⟨A,10,none⟩)) l,#[]):=by kernel_rfl
theorem Ot (A:Nat):bX Tryz.prog (dC Tryz.prog wg qb gb ab ib (.slice (some ⟨A,0,none⟩) 4 4) (.int .i64 0) x7 x8 x9 dR (5::l))=some (dC Tryz.prog wg qb gb ab ib (.slice (some ⟨A,0,none⟩) 4 4) (.int .i64 0) x7 x8 x9 (.pointer (some ⟨A,0,none⟩)) l,#[]):=by kernel_rfl
theorem Ou (A:Nat):bX Tryz.prog (dC Tryz.prog wg qb gb ab ib (.slice (some ⟨A,0,none⟩) 4 4) (.int .i64 1) x7 x8 x9 dR (5::l))=some (dC Tryz.prog wg qb gb ab ib (.slice (some ⟨A,0,none⟩) 4 4) (.int .i64 1) x7 x8 x9 (.pointer (some ⟨A,5,none⟩)) l,#[]):=by kernel_rfl
theorem Ov (A:Nat):bX Tryz.prog (dC Tryz.prog wg qb gb ab ib (.slice (some ⟨A,0,none⟩) 4 4) (.int .i64 2) x7 x8 x9 dR (5::l))=some (dC Tryz.prog wg qb gb ab ib (.slice (some ⟨A,0,none⟩) 4 4) (.int .i64 2) x7 x8 x9 (.pointer (some ⟨A,10,none⟩)) l,#[]):=by kernel_rfl
theorem Ow (A:Nat):bX Tryz.prog (dC Tryz.prog wg qb gb ab ib (.slice (some ⟨A,0,none⟩) 4 4) (.int .i64 3) x7 x8 x9 dR (5::l))=some (dC Tryz.prog wg qb gb ab ib (.slice (some ⟨A,0,none⟩) 4 4) (.int .i64 3) x7 x8 x9 (.pointer (some ⟨A,15,none⟩)) l,#[]):=by kernel_rfl
theorem Ox (A:Nat):bX Tryz.prog (dC Tryz.prog wg qb gb ab ib (.slice (some ⟨A,0,none⟩) 5 5) (.int .i64 0) x7 x8 x9 dR (5::l))=some (dC Tryz.prog wg qb gb ab ib (.slice (some ⟨A,0,none⟩) 5 5) (.int .i64 0) x7 x8 x9 (.pointer (some ⟨A,0,none⟩)) l,#[]):=by kernel_rfl
theorem Oy (A:Nat):bX Tryz.prog (dC Tryz.prog wg qb gb ab ib (.slice (some ⟨A,0,none⟩) 5 5) (.int .i64 1) x7 x8 x9 dR (5::l))=some (dC Tryz.prog wg qb gb ab ib (.slice (some ⟨A,0,none⟩) 5 5) (.int .i64 1) x7 x8 x9 (.pointer (some ⟨A,5,none⟩)) l,#[]):=by kernel_rfl
theorem Oz (A:Nat):bX Tryz.prog (dC Tryz.prog wg qb gb ab ib (.slice (some ⟨A,0,none⟩) 5 5) (.int .i64 2) x7 x8 x9 dR (5::l))=some (dC Tryz.prog wg qb gb ab ib (.slice (some ⟨A,0,none⟩) 5 5) (.int .i64 2) x7 x8 x9 (.pointer (some ⟨A,10,none⟩)) l,#[]):=by kernel_rfl
theorem OA (A:Nat):bX Tryz.prog (dC Tryz.prog wg qb gb ab ib (.slice (some ⟨A,0,none⟩) 5 5) (.int .i64 3) x7 x8 x9 dR (5::l))=some (dC Tryz.prog wg qb gb ab ib (.slice (some ⟨A,0,none⟩) 5 5) (.int .i64 3) x7 x8 x9 (.pointer (some ⟨A,15,none⟩)) l,#[]):=by kernel_rfl
theorem OC (A:Nat):bX Tryz.prog (dC Tryz.prog wg qb gb ab ib (.slice (some ⟨A,0,none⟩) 5 5) (.int .i64 4) x7 x8 x9 dR (5::l))=some (dC Tryz.prog wg qb gb ab ib (.slice (some ⟨A,0,none⟩) 5 5) (.int .i64 4) x7 x8 x9 (.pointer (some ⟨A,20,none⟩)) l,#[]):=by kernel_rfl
theorem YE (A o:Nat)(a:eQ):j_ Tryz.prog (dC Tryz.prog wg qb gb ab ib x5 x6 x7 x8 a.val (.pointer (some ⟨A,o,none⟩)) (6::l))=some (dC Tryz.prog wg qb gb ab ib x5 x6 x7 x8 a.val (.pointer (some ⟨A,o,none⟩)) l,
  #[dq ⟨A,o,none⟩ true,dq ⟨A,o+1,none⟩ true,dq ⟨A,o+2,none⟩ true,dq ⟨A,o+3,none⟩ true,dq ⟨A,o+4,none⟩ true],
  [(⟨A,o,none⟩,a.cell 0),(⟨A,o+1,none⟩,a.cell 1),(⟨A,o+2,none⟩,a.cell 2),(⟨A,o+3,none⟩,a.cell 3),(⟨A,o+4,none⟩,a.cell 4)]):=by kernel_rfl
theorem Um:mute Tryz.prog 1 (dC Tryz.prog wg qb gb ab ib x5 x6 x7 x8 x9 dR [])=true:=by kernel_rfl
theorem Q8:aN Tryz.prog 1 (dC Tryz.prog wg qb gb ab ib x5 x6 x7 x8 x9 dR [])=Uj Tryz.prog wg #[ptr wg,ptr qb,ptr gb,ptr ab,ptr ib,x5,x6,x7,x8,x9,dR]:=by kernel_rfl
end
end Go.Proofs.YtjklkppncmhehaaGreat.Sr
