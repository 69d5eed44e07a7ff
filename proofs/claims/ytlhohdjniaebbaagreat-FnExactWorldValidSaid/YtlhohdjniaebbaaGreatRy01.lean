/-
What is proved: the facts of the tables and of the functions at a second program: impl.entriesOf's body is another there: it escapes, or asks one group after the other. No condition.
-/
import Derived.Test.YtlhohdjniaebbaaGreatProg
import Derived.KernelRfl
set_option linter.unusedVariables false
set_option linter.unusedSimpArgs false
namespace Go.Proofs.YtlhohdjniaebbaaGreat.Tw
open Go
noncomputable def Fh:Func:={name:= "twin.ask",origin:= "",params:= #[31,46,3],resultTypes:= #[166],nfree:=0,ntmps:=7,results:= #[.tmp 6],norace:=false,tmpNames:= #[],body:=some (.seq (.region 0 #[{dst:=some 3,op:= .move (.const (.bool true)),type:=0,pos:= "",after:= #[],guard:=none},{dst:=some 3,op:= .move (.const (.bool false)),type:=0,pos:= "",after:= #[],guard:=none}] true)
 (.seq (.cond (.tmp 3) (.region 1 #[{dst:=some 4,op:= .makeFunc (.func 147) #[.tmp 0,.tmp 1,.tmp 2] #[],type:=0,pos:= "",after:= #[],guard:=none},
   {dst:=some 5,op:= .makeInterface 203 (.tmp 4),type:=0,pos:= "",after:= #[],guard:=none},{dst:=none,op:= .panic (.tmp 5),type:=0,pos:= "",after:= #[],guard:=none}] false) .skip)
 (.seq (.region 2 #[{dst:=some 6,op:= .call {callee:= .value (.func 273),args:= #[.tmp 0,.tmp 1,.tmp 2],argTypes:= #[31,46,3]},type:=0,pos:= "",after:= #[],guard:=none}] false) .ret)))}
noncomputable def NL:Func:={name:= "twin.seq",origin:= "",params:= #[31,46,3],resultTypes:= #[166],nfree:=0,ntmps:=14,results:= #[.tmp 7],norace:=false,tmpNames:= #[],body:=some (.seq (.region 0 #[{dst:=some 3,op:= .box 31 (.tmp 0),type:=0,pos:= "",after:= #[],guard:=none},{dst:=some 4,op:= .box 3 (.tmp 2),type:=0,pos:= "",after:= #[],guard:=none},
   {dst:=some 5,op:= .makeFunc (.func 187) #[] #[.tmp 3,.tmp 4],type:=203,pos:= "",after:= #[],guard:=none},
   {dst:=some 6,op:= .call {callee:= .builtin .len,args:= #[.tmp 1],argTypes:= #[46]},type:=3,pos:= "",after:= #[],guard:=none},
   {dst:=some 7,op:= .makeSlice 166 (.tmp 6) (.tmp 6),type:=166,pos:= "",after:= #[],guard:=none},
   {dst:=some 8,op:= .move (.const (.int .i64 0)),type:=3,pos:= "",after:= #[],guard:=none}] false)
 (.seq (.block 0 (.loop (.seq (.region 1 #[{dst:=some 9,op:= .binOp .lss 3 (.tmp 8) (.tmp 6) 3,type:=0,pos:= "",after:= #[],guard:=none}] false)
   (.seq (.cond (.tmp 9) .skip (.exit 0))
   (.seq (.region 2 #[{dst:=some 10,op:= .indexAddr 46 (.tmp 1) (.tmp 8),type:=0,pos:= "",after:= #[],guard:=none},{dst:=some 11,op:= .load 3 (.tmp 10),type:=3,pos:= "",after:= #[],guard:=none},
     {dst:=some 12,op:= .call {callee:= .value (.tmp 5),args:= #[.tmp 11],argTypes:= #[3]},type:=170,pos:= "",after:= #[],guard:=none}] false)
   (.region 3 #[{dst:=some 13,op:= .indexAddr 166 (.tmp 7) (.tmp 8),type:=0,pos:= "",after:= #[],guard:=none},{dst:=none,op:= .store 170 (.tmp 13) (.tmp 12),type:=0,pos:= "",after:= #[],guard:=none},
     {dst:=some 8,op:= .binOp .add 3 (.tmp 8) (.const (.int .i64 1)) 3,type:=3,pos:= "",after:= #[],guard:=none}] false))))))
 .ret))}
noncomputable def AE:Code:=match Tryz.f77.body with|some (.seq _ (.seq _ (.seq _ k)))=>k|_=> .skip
noncomputable def YK (i:Nat):Code:=match Tryz.f77.body with|some (.seq a (.seq b (.seq c _)))=>if i=0 then a else if i=1 then b else c|_=> .skip
def X_:Code→Array Oper→Code
 | .region id ops d,x=> .region id (ops.extract 0 3++x) d
 |c,_=>c
def aaI:Code:= .seq (.region 90 #[{dst:=some 4,op:= .load 21 (.tmp 6),type:=21,pos:= "",after:= #[],guard:=none},{dst:=some 5,op:= .binOp .eql 21 (.tmp 4) (.const (.int .i32 1)) 21,type:=4,pos:= "",after:= #[],guard:=none}] false)
 (.cond (.tmp 5) (.region 91 #[{dst:=none,op:= .store 21 (.tmp 6) (.const (.int .i32 0)),type:=0,pos:= "",after:= #[],guard:=none}] false) (.loop .skip))
noncomputable def OC:Func:={Tryz.f77 with body:=some (.seq (.region 70 #[{dst:=some 4,op:= .move (.const (.bool true)),type:=0,pos:= "",after:= #[],guard:=none},{dst:=some 4,op:= .move (.const (.bool false)),type:=0,pos:= "",after:= #[],guard:=none}] true) (.seq (.cond (.tmp 4) (.region 71 #[{dst:=some 5,op:= .makeFunc (.func 77) #[.tmp 0,.tmp 1] #[],type:=0,pos:= "",after:= #[],guard:=none},{dst:=some 6,op:= .makeInterface 203 (.tmp 5),type:=0,pos:= "",after:= #[],guard:=none},{dst:=none,op:= .panic (.tmp 6),type:=0,pos:= "",after:= #[],guard:=none}] false) .skip) (.seq (YK 0) (.seq (X_ (YK 1) #[{dst:=none,op:= .store 21 (.tmp 6) (.const (.int .i32 1)),type:=0,pos:= "",after:= #[],guard:=none}]) (.seq (X_ (YK 2) #[]) (.seq AE aaI))))))}
noncomputable def funcs:Array Func:=(Tryz.funcs.setIfInBounds 147 Fh |>.setIfInBounds 77 OC).push NL
noncomputable def prog:Program:={toTables:=Tryz.progTables,funcs:=funcs}
abbrev iy:FuncId:=273
theorem yc:prog.funcs[147]?=some Fh:=by kernel_rfl
theorem tD:prog.funcs[77]?=some OC:=by kernel_rfl
theorem R7:prog.funcs[273]?=some NL:=by kernel_rfl
@[simp] theorem aaJ:∀(args:Array Go.Value) (w:Go.World),Go.Sem.run prog (Go.callFunc 273 args) w=Go.Result.ok (Go.Next.enter 273 args) w:=by intros;kernel_rfl
theorem OD:Fh.ntmps=7:=rfl
theorem OE:NL.ntmps=14:=rfl
@[simp] theorem call3:∀(args:Array Go.Value) (w:Go.World),Go.Sem.run prog (Go.callFunc 3 args) w=Go.Result.ok (Go.Next.enter 3 args) w:=by intros;kernel_rfl
@[simp] theorem call4:∀(args:Array Go.Value) (w:Go.World),Go.Sem.run prog (Go.callFunc 4 args) w=Go.Result.ok (Go.Next.enter 4 args) w:=by intros;kernel_rfl
@[simp] theorem call31:∀(args:Array Go.Value) (w:Go.World),Go.Sem.run prog (Go.callFunc 31 args) w=Go.Result.ok (Go.Next.enter 31 args) w:=by intros;kernel_rfl
@[simp] theorem call46:∀(args:Array Go.Value) (w:Go.World),Go.Sem.run prog (Go.callFunc 46 args) w=Go.Result.ok (Go.Next.enter 46 args) w:=by intros;kernel_rfl
@[simp] theorem call166:∀(args:Array Go.Value) (w:Go.World),Go.Sem.run prog (Go.callFunc 166 args) w=Go.Result.ok (Go.Next.enter 166 args) w:=by intros;kernel_rfl
@[simp] theorem call170:∀(args:Array Go.Value) (w:Go.World),Go.Sem.run prog (Go.callFunc 170 args) w=Go.Result.ok (Go.Next.enter 170 args) w:=by intros;kernel_rfl
@[simp] theorem call203:∀(args:Array Go.Value) (w:Go.World),Go.Sem.run prog (Go.callFunc 203 args) w=Go.Result.ok (Go.Next.enter 203 args) w:=by intros;kernel_rfl
@[simp] theorem eqGuardType170:prog.eqGuardType prog.depth 170=false:=by kernel_rfl
theorem func3:prog.funcs[3]?=Option.some Tryz.f3:=by kernel_rfl
@[simp] theorem globals_size:prog.globals.size=0:=by kernel_rfl
@[simp] theorem isAgg0:∀(w:Go.World),Go.Sem.run prog (Go.isAgg 0) w=Go.Result.ok false w:=by intros;kernel_rfl
@[simp] theorem isAgg3:∀(w:Go.World),Go.Sem.run prog (Go.isAgg 3) w=Go.Result.ok false w:=by intros;kernel_rfl
@[simp] theorem isAgg4:∀(w:Go.World),Go.Sem.run prog (Go.isAgg 4) w=Go.Result.ok false w:=by intros;kernel_rfl
@[simp] theorem isAgg31:∀(w:Go.World),Go.Sem.run prog (Go.isAgg 31) w=Go.Result.ok false w:=by intros;kernel_rfl
@[simp] theorem isAgg46:∀(w:Go.World),Go.Sem.run prog (Go.isAgg 46) w=Go.Result.ok false w:=by intros;kernel_rfl
@[simp] theorem isAgg166:∀(w:Go.World),Go.Sem.run prog (Go.isAgg 166) w=Go.Result.ok false w:=by intros;kernel_rfl
@[simp] theorem isAgg170:∀(w:Go.World),Go.Sem.run prog (Go.isAgg 170) w=Go.Result.ok true w:=by intros;kernel_rfl
@[simp] theorem isAgg203:∀(w:Go.World),Go.Sem.run prog (Go.isAgg 203) w=Go.Result.ok false w:=by intros;kernel_rfl
theorem ntmps3:Tryz.f3.ntmps=27:=Tryz.ntmps3
theorem ntmps15:Tryz.f15.ntmps=36:=Tryz.ntmps15
theorem ntmps16:Tryz.f16.ntmps=91:=Tryz.ntmps16
theorem ntmps17:Tryz.f17.ntmps=25:=Tryz.ntmps17
theorem ntmps18:Tryz.f18.ntmps=37:=Tryz.ntmps18
theorem ntmps19:Tryz.f19.ntmps=35:=Tryz.ntmps19
theorem ntmps22:Tryz.f22.ntmps=27:=Tryz.ntmps22
theorem ntmps39:Tryz.f39.ntmps=27:=Tryz.ntmps39
theorem ntmps40:Tryz.f40.ntmps=27:=Tryz.ntmps40
theorem ntmps41:Tryz.f41.ntmps=27:=Tryz.ntmps41
theorem ntmps42:Tryz.f42.ntmps=12:=Tryz.ntmps42
theorem ntmps43:Tryz.f43.ntmps=12:=Tryz.ntmps43
theorem ntmps44:Tryz.f44.ntmps=19:=Tryz.ntmps44
theorem ntmps45:Tryz.f45.ntmps=103:=Tryz.ntmps45
theorem ntmps46:Tryz.f46.ntmps=30:=Tryz.ntmps46
theorem ntmps47:Tryz.f47.ntmps=112:=Tryz.ntmps47
theorem ntmps48:Tryz.f48.ntmps=62:=Tryz.ntmps48
theorem ntmps49:Tryz.f49.ntmps=23:=Tryz.ntmps49
theorem ntmps50:Tryz.f50.ntmps=23:=Tryz.ntmps50
theorem ntmps51:Tryz.f51.ntmps=23:=Tryz.ntmps51
theorem ntmps52:Tryz.f52.ntmps=22:=Tryz.ntmps52
theorem ntmps53:Tryz.f53.ntmps=23:=Tryz.ntmps53
theorem ntmps54:Tryz.f54.ntmps=34:=Tryz.ntmps54
theorem ntmps55:Tryz.f55.ntmps=89:=Tryz.ntmps55
theorem ntmps56:Tryz.f56.ntmps=58:=Tryz.ntmps56
theorem ntmps57:Tryz.f57.ntmps=60:=Tryz.ntmps57
theorem ntmps58:Tryz.f58.ntmps=27:=Tryz.ntmps58
theorem ntmps59:Tryz.f59.ntmps=27:=Tryz.ntmps59
theorem ntmps60:Tryz.f60.ntmps=26:=Tryz.ntmps60
theorem ntmps61:Tryz.f61.ntmps=27:=Tryz.ntmps61
theorem ntmps63:Tryz.f63.ntmps=26:=Tryz.ntmps63
theorem ntmps74:Tryz.f74.ntmps=94:=Tryz.ntmps74
theorem ntmps83:Tryz.f83.ntmps=12:=Tryz.ntmps83
theorem ntmps84:Tryz.f84.ntmps=18:=Tryz.ntmps84
theorem ntmps85:Tryz.f85.ntmps=18:=Tryz.ntmps85
theorem ntmps86:Tryz.f86.ntmps=35:=Tryz.ntmps86
theorem ntmps87:Tryz.f87.ntmps=87:=Tryz.ntmps87
theorem ntmps88:Tryz.f88.ntmps=24:=Tryz.ntmps88
theorem ntmps89:Tryz.f89.ntmps=20:=Tryz.ntmps89
theorem ntmps90:Tryz.f90.ntmps=58:=Tryz.ntmps90
theorem ntmps91:Tryz.f91.ntmps=67:=Tryz.ntmps91
theorem ntmps92:Tryz.f92.ntmps=18:=Tryz.ntmps92
theorem ntmps93:Tryz.f93.ntmps=80:=Tryz.ntmps93
theorem ntmps94:Tryz.f94.ntmps=15:=Tryz.ntmps94
theorem ntmps95:Tryz.f95.ntmps=11:=Tryz.ntmps95
theorem ntmps96:Tryz.f96.ntmps=22:=Tryz.ntmps96
theorem ntmps97:Tryz.f97.ntmps=19:=Tryz.ntmps97
theorem ntmps98:Tryz.f98.ntmps=16:=Tryz.ntmps98
theorem ntmps99:Tryz.f99.ntmps=18:=Tryz.ntmps99
theorem ntmps100:Tryz.f100.ntmps=62:=Tryz.ntmps100
theorem ntmps101:Tryz.f101.ntmps=5:=Tryz.ntmps101
theorem ntmps102:Tryz.f102.ntmps=54:=Tryz.ntmps102
theorem ntmps103:Tryz.f103.ntmps=15:=Tryz.ntmps103
theorem ntmps104:Tryz.f104.ntmps=58:=Tryz.ntmps104
theorem ntmps105:Tryz.f105.ntmps=8:=Tryz.ntmps105
theorem ntmps106:Tryz.f106.ntmps=17:=Tryz.ntmps106
theorem ntmps107:Tryz.f107.ntmps=70:=Tryz.ntmps107
theorem ntmps108:Tryz.f108.ntmps=27:=Tryz.ntmps108
theorem ntmps109:Tryz.f109.ntmps=22:=Tryz.ntmps109
theorem ntmps110:Tryz.f110.ntmps=26:=Tryz.ntmps110
theorem ntmps120:Tryz.f120.ntmps=9:=Tryz.ntmps120
theorem ntmps121:Tryz.f121.ntmps=9:=Tryz.ntmps121
theorem ntmps122:Tryz.f122.ntmps=60:=Tryz.ntmps122
theorem ntmps123:Tryz.f123.ntmps=24:=Tryz.ntmps123
theorem ntmps139:Tryz.f139.ntmps=12:=Tryz.ntmps139
theorem ntmps140:Tryz.f140.ntmps=12:=Tryz.ntmps140
theorem ntmps141:Tryz.f141.ntmps=5:=Tryz.ntmps141
theorem ntmps142:Tryz.f142.ntmps=71:=Tryz.ntmps142
theorem ntmps143:Tryz.f143.ntmps=5:=Tryz.ntmps143
theorem ntmps144:Tryz.f144.ntmps=23:=Tryz.ntmps144
theorem ntmps145:Tryz.f145.ntmps=23:=Tryz.ntmps145
theorem ntmps146:Tryz.f146.ntmps=11:=Tryz.ntmps146
theorem ntmps148:Tryz.f148.ntmps=2:=Tryz.ntmps148
theorem ntmps149:Tryz.f149.ntmps=14:=Tryz.ntmps149
theorem ntmps150:Tryz.f150.ntmps=8:=Tryz.ntmps150
theorem ntmps151:Tryz.f151.ntmps=9:=Tryz.ntmps151
theorem ntmps152:Tryz.f152.ntmps=16:=Tryz.ntmps152
theorem ntmps153:Tryz.f153.ntmps=18:=Tryz.ntmps153
theorem ntmps154:Tryz.f154.ntmps=13:=Tryz.ntmps154
theorem ntmps155:Tryz.f155.ntmps=32:=Tryz.ntmps155
theorem ntmps156:Tryz.f156.ntmps=27:=Tryz.ntmps156
theorem ntmps157:Tryz.f157.ntmps=27:=Tryz.ntmps157
theorem ntmps158:Tryz.f158.ntmps=15:=Tryz.ntmps158
theorem ntmps185:Tryz.f185.ntmps=15:=Tryz.ntmps185
theorem ntmps187:Tryz.f187.ntmps=19:=Tryz.ntmps187
theorem ntmps188:Tryz.f188.ntmps=20:=Tryz.ntmps188
theorem ntmps189:Tryz.f189.ntmps=24:=Tryz.ntmps189
theorem ntmps190:Tryz.f190.ntmps=20:=Tryz.ntmps190
theorem ntmps191:Tryz.f191.ntmps=21:=Tryz.ntmps191
@[simp] theorem rt_eq:prog.rt={boundsError:=8,errorString:=10,plainError:=11,errorAddressString:=14,typeAssertionError:=15,panicNilError:=16,unhashableTypeError:=19,string:=9,any:=20,int:=3,bool:=4,rune:=21,byte:=5}:=by kernel_rfl
@[simp] theorem runUnderlying0:∀(w:Go.World),Go.Sem.run prog (Go.underlying 0) w=Go.Result.ok (Go.TypeDesc.tuple #[]) w:=by intros;kernel_rfl
@[simp] theorem runUnderlying3:∀(w:Go.World),Go.Sem.run prog (Go.underlying 3) w=Go.Result.ok (Go.TypeDesc.int Go.IntKind.i64) w:=by intros;kernel_rfl
@[simp] theorem runUnderlying4:∀(w:Go.World),Go.Sem.run prog (Go.underlying 4) w=Go.Result.ok Go.TypeDesc.bool w:=by intros;kernel_rfl
@[simp] theorem runUnderlying31:∀(w:Go.World),Go.Sem.run prog (Go.underlying 31) w=Go.Result.ok (Go.TypeDesc.slice 50) w:=by intros;kernel_rfl
@[simp] theorem runUnderlying46:∀(w:Go.World),Go.Sem.run prog (Go.underlying 46) w=Go.Result.ok (Go.TypeDesc.slice 3) w:=by intros;kernel_rfl
@[simp] theorem runUnderlying166:∀(w:Go.World),Go.Sem.run prog (Go.underlying 166) w=Go.Result.ok (Go.TypeDesc.slice 170) w:=by intros;kernel_rfl
@[simp] theorem runUnderlying170:∀(w:Go.World),Go.Sem.run prog (Go.underlying 170) w=Go.Result.ok (Go.TypeDesc.struct #[{name:= "entry",type:=75,offset:=0,embedded:=false,tag:= "",pkgPath:= "loop.example/groupmulticast/impl",byteOffset:=0},{name:= "known",type:=4,offset:=4,embedded:=false,tag:= "",pkgPath:= "loop.example/groupmulticast/impl",byteOffset:=32}]) w:=by intros;kernel_rfl
@[simp] theorem runUnderlying203:∀(w:Go.World),Go.Sem.run prog (Go.underlying 203) w=Go.Result.ok (Go.TypeDesc.func #[3] #[170] false) w:=by intros;kernel_rfl
@[simp] theorem sizeOf0:∀(w:Go.World),Go.Sem.run prog (Go.sizeOf 0) w=Go.Result.ok 1 w:=by intros;kernel_rfl
@[simp] theorem sizeOf3:∀(w:Go.World),Go.Sem.run prog (Go.sizeOf 3) w=Go.Result.ok 1 w:=by intros;kernel_rfl
@[simp] theorem sizeOf4:∀(w:Go.World),Go.Sem.run prog (Go.sizeOf 4) w=Go.Result.ok 1 w:=by intros;kernel_rfl
@[simp] theorem sizeOf31:∀(w:Go.World),Go.Sem.run prog (Go.sizeOf 31) w=Go.Result.ok 1 w:=by intros;kernel_rfl
@[simp] theorem sizeOf46:∀(w:Go.World),Go.Sem.run prog (Go.sizeOf 46) w=Go.Result.ok 1 w:=by intros;kernel_rfl
@[simp] theorem sizeOf166:∀(w:Go.World),Go.Sem.run prog (Go.sizeOf 166) w=Go.Result.ok 1 w:=by intros;kernel_rfl
@[simp] theorem sizeOf170:∀(w:Go.World),Go.Sem.run prog (Go.sizeOf 170) w=Go.Result.ok 5 w:=by intros;kernel_rfl
@[simp] theorem sizeOf203:∀(w:Go.World),Go.Sem.run prog (Go.sizeOf 203) w=Go.Result.ok 1 w:=by intros;kernel_rfl
@[simp] theorem stoodInHeld170:prog.stoodInHeld 170=false:=by kernel_rfl
@[simp] theorem type0:prog.types[0]?=Option.some Tryz.t0:=by kernel_rfl
@[simp] theorem type3:prog.types[3]?=Option.some Tryz.t3:=by kernel_rfl
@[simp] theorem type4:prog.types[4]?=Option.some Tryz.t4:=by kernel_rfl
@[simp] theorem type31:prog.types[31]?=Option.some Tryz.t31:=by kernel_rfl
@[simp] theorem type46:prog.types[46]?=Option.some Tryz.t46:=by kernel_rfl
@[simp] theorem type166:prog.types[166]?=Option.some Tryz.t166:=by kernel_rfl
@[simp] theorem type170:prog.types[170]?=Option.some Tryz.t170:=by kernel_rfl
@[simp] theorem type203:prog.types[203]?=Option.some Tryz.t203:=by kernel_rfl
@[simp] theorem typeInfo0:∀(w:Go.World),Go.Sem.run prog (Go.typeInfo 0) w=Go.Result.ok Tryz.t0 w:=by intros;kernel_rfl
@[simp] theorem typeInfo3:∀(w:Go.World),Go.Sem.run prog (Go.typeInfo 3) w=Go.Result.ok Tryz.t3 w:=by intros;kernel_rfl
@[simp] theorem typeInfo4:∀(w:Go.World),Go.Sem.run prog (Go.typeInfo 4) w=Go.Result.ok Tryz.t4 w:=by intros;kernel_rfl
@[simp] theorem typeInfo31:∀(w:Go.World),Go.Sem.run prog (Go.typeInfo 31) w=Go.Result.ok Tryz.t31 w:=by intros;kernel_rfl
@[simp] theorem typeInfo46:∀(w:Go.World),Go.Sem.run prog (Go.typeInfo 46) w=Go.Result.ok Tryz.t46 w:=by intros;kernel_rfl
@[simp] theorem typeInfo166:∀(w:Go.World),Go.Sem.run prog (Go.typeInfo 166) w=Go.Result.ok Tryz.t166 w:=by intros;kernel_rfl
@[simp] theorem typeInfo170:∀(w:Go.World),Go.Sem.run prog (Go.typeInfo 170) w=Go.Result.ok Tryz.t170 w:=by intros;kernel_rfl
@[simp] theorem typeInfo203:∀(w:Go.World),Go.Sem.run prog (Go.typeInfo 203) w=Go.Result.ok Tryz.t203 w:=by intros;kernel_rfl
@[simp] theorem types_size:prog.types.size=279:=by kernel_rfl
@[simp] theorem underlying0:prog.underlying 0=Option.some (Go.TypeDesc.tuple #[]):=by kernel_rfl
@[simp] theorem underlying3:prog.underlying 3=Option.some (Go.TypeDesc.int Go.IntKind.i64):=by kernel_rfl
@[simp] theorem underlying4:prog.underlying 4=Option.some Go.TypeDesc.bool:=by kernel_rfl
@[simp] theorem underlying22:prog.underlying 22=Option.some (Go.TypeDesc.slice 46):=by kernel_rfl
@[simp] theorem underlying23:prog.underlying 23=Option.some (Go.TypeDesc.slice 116):=by kernel_rfl
@[simp] theorem underlying24:prog.underlying 24=Option.some (Go.TypeDesc.slice 120):=by kernel_rfl
@[simp] theorem underlying25:prog.underlying 25=Option.some (Go.TypeDesc.slice 4):=by kernel_rfl
@[simp] theorem underlying26:prog.underlying 26=Option.some (Go.TypeDesc.slice 135):=by kernel_rfl
@[simp] theorem underlying28:prog.underlying 28=Option.some (Go.TypeDesc.struct #[{name:= "Sets",type:=22,offset:=0,embedded:=false,tag:= "",pkgPath:= "",byteOffset:=0},{name:= "Groups",type:=23,offset:=1,embedded:=false,tag:= "",pkgPath:= "",byteOffset:=24},{name:= "Rounds",type:=24,offset:=2,embedded:=false,tag:= "",pkgPath:= "",byteOffset:=48},{name:= "Stopped",type:=25,offset:=3,embedded:=false,tag:= "",pkgPath:= "",byteOffset:=72},{name:= "Net",type:=26,offset:=4,embedded:=false,tag:= "",pkgPath:= "",byteOffset:=96}]):=by kernel_rfl
@[simp] theorem underlying31:prog.underlying 31=Option.some (Go.TypeDesc.slice 50):=by kernel_rfl
@[simp] theorem underlying46:prog.underlying 46=Option.some (Go.TypeDesc.slice 3):=by kernel_rfl
@[simp] theorem underlying114:prog.underlying 114=Option.some (Go.TypeDesc.slice 201):=by kernel_rfl
@[simp] theorem underlying116:prog.underlying 116=Option.some (Go.TypeDesc.struct #[{name:= "Id",type:=3,offset:=0,embedded:=false,tag:= "",pkgPath:= "",byteOffset:=0},{name:= "Clock",type:=3,offset:=1,embedded:=false,tag:= "",pkgPath:= "",byteOffset:=8},{name:= "Pending",type:=114,offset:=2,embedded:=false,tag:= "",pkgPath:= "",byteOffset:=16},{name:= "Done",type:=114,offset:=3,embedded:=false,tag:= "",pkgPath:= "",byteOffset:=40}]):=by kernel_rfl
@[simp] theorem underlying118:prog.underlying 118=Option.some (Go.TypeDesc.slice 133):=by kernel_rfl
@[simp] theorem underlying120:prog.underlying 120=Option.some (Go.TypeDesc.struct #[{name:= "Message",type:=3,offset:=0,embedded:=false,tag:= "",pkgPath:= "",byteOffset:=0},{name:= "Groups",type:=46,offset:=1,embedded:=false,tag:= "",pkgPath:= "",byteOffset:=8},{name:= "Got",type:=118,offset:=2,embedded:=false,tag:= "",pkgPath:= "",byteOffset:=32}]):=by kernel_rfl
@[simp] theorem underlying133:prog.underlying 133=Option.some (Go.TypeDesc.struct #[{name:= "Time",type:=3,offset:=0,embedded:=false,tag:= "",pkgPath:= "",byteOffset:=0},{name:= "Group",type:=3,offset:=1,embedded:=false,tag:= "",pkgPath:= "",byteOffset:=8}]):=by kernel_rfl
@[simp] theorem underlying135:prog.underlying 135=Option.some (Go.TypeDesc.struct #[{name:= "Kind",type:=3,offset:=0,embedded:=false,tag:= "",pkgPath:= "",byteOffset:=0},{name:= "Message",type:=3,offset:=1,embedded:=false,tag:= "",pkgPath:= "",byteOffset:=8},{name:= "Group",type:=3,offset:=2,embedded:=false,tag:= "",pkgPath:= "",byteOffset:=16},{name:= "Stamp",type:=133,offset:=3,embedded:=false,tag:= "",pkgPath:= "",byteOffset:=24}]):=by kernel_rfl
@[simp] theorem underlying166:prog.underlying 166=Option.some (Go.TypeDesc.slice 170):=by kernel_rfl
@[simp] theorem underlying170:prog.underlying 170=Option.some (Go.TypeDesc.struct #[{name:= "entry",type:=75,offset:=0,embedded:=false,tag:= "",pkgPath:= "loop.example/groupmulticast/impl",byteOffset:=0},{name:= "known",type:=4,offset:=4,embedded:=false,tag:= "",pkgPath:= "loop.example/groupmulticast/impl",byteOffset:=32}]):=by kernel_rfl
@[simp] theorem underlying201:prog.underlying 201=Option.some (Go.TypeDesc.struct #[{name:= "Message",type:=3,offset:=0,embedded:=false,tag:= "",pkgPath:= "",byteOffset:=0},{name:= "Stamp",type:=133,offset:=1,embedded:=false,tag:= "",pkgPath:= "",byteOffset:=8},{name:= "Final",type:=4,offset:=3,embedded:=false,tag:= "",pkgPath:= "",byteOffset:=24}]):=by kernel_rfl
@[simp] theorem underlying203:prog.underlying 203=Option.some (Go.TypeDesc.func #[3] #[170] false):=by kernel_rfl
@[simp] theorem zeroValue0:∀(w:Go.World),Go.Sem.run prog (Go.zeroValue 0) w=Go.Result.ok (Go.Value.tuple #[]) w:=by intros;kernel_rfl
@[simp] theorem zeroValue3:∀(w:Go.World),Go.Sem.run prog (Go.zeroValue 3) w=Go.Result.ok (Go.Value.int Go.IntKind.i64 0) w:=by intros;kernel_rfl
@[simp] theorem zeroValue4:∀(w:Go.World),Go.Sem.run prog (Go.zeroValue 4) w=Go.Result.ok (Go.Value.bool false) w:=by intros;kernel_rfl
@[simp] theorem zeroValue31:∀(w:Go.World),Go.Sem.run prog (Go.zeroValue 31) w=Go.Result.ok (Go.Value.slice Option.none 0 0) w:=by intros;kernel_rfl
@[simp] theorem zeroValue46:∀(w:Go.World),Go.Sem.run prog (Go.zeroValue 46) w=Go.Result.ok (Go.Value.slice Option.none 0 0) w:=by intros;kernel_rfl
@[simp] theorem zeroValue166:∀(w:Go.World),Go.Sem.run prog (Go.zeroValue 166) w=Go.Result.ok (Go.Value.slice Option.none 0 0) w:=by intros;kernel_rfl
@[simp] theorem zeroValue170:∀(w:Go.World),Go.Sem.run prog (Go.zeroValue 170) w=Go.Result.ok (Go.Value.agg #[Go.Value.int Go.IntKind.i64 0,Go.Value.int Go.IntKind.i64 0,Go.Value.int Go.IntKind.i64 0,Go.Value.bool false,Go.Value.bool false]) w:=by intros;kernel_rfl
@[simp] theorem zeroValue203:∀(w:Go.World),Go.Sem.run prog (Go.zeroValue 203) w=Go.Result.ok Go.Value.nilFunc w:=by intros;kernel_rfl
end Go.Proofs.YtlhohdjniaebbaaGreat.Tw
