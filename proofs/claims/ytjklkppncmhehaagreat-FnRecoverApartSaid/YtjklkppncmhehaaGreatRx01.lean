/-
What is proved: the facts of the tables and of the functions at a second program: impl.entriesOf's body is another there: it escapes, or asks one group after the other. No condition.
-/
import Derived.Test.YtjklkppncmhehaaGreatProg
import Derived.KernelRfl
set_option linter.unusedVariables false
set_option linter.unusedSimpArgs false
namespace Go.Proofs.YtjklkppncmhehaaGreat.Tw
open Go
noncomputable def FI:Func:={name:= "twin.ask",origin:= "",params:= #[23,24,3],resultTypes:= #[104],nfree:=0,ntmps:=7,results:= #[.tmp 6],norace:=false,tmpNames:= #[],body:=some (.seq (.region 0 #[{dst:=some 3,op:= .move (.const (.bool true)),type:=0,pos:= "",after:= #[],guard:=none},{dst:=some 3,op:= .move (.const (.bool false)),type:=0,pos:= "",after:= #[],guard:=none}] true)
 (.seq (.cond (.tmp 3) (.region 1 #[{dst:=some 4,op:= .makeFunc (.func 69) #[.tmp 0,.tmp 1,.tmp 2] #[],type:=0,pos:= "",after:= #[],guard:=none},
   {dst:=some 5,op:= .makeInterface 145 (.tmp 4),type:=0,pos:= "",after:= #[],guard:=none},{dst:=none,op:= .panic (.tmp 5),type:=0,pos:= "",after:= #[],guard:=none}] false) .skip)
 (.seq (.region 2 #[{dst:=some 6,op:= .call {callee:= .value (.func 237),args:= #[.tmp 0,.tmp 1,.tmp 2],argTypes:= #[23,24,3]},type:=0,pos:= "",after:= #[],guard:=none}] false) .ret)))}
noncomputable def MW:Func:={name:= "twin.seq",origin:= "",params:= #[23,24,3],resultTypes:= #[104],nfree:=0,ntmps:=14,results:= #[.tmp 7],norace:=false,tmpNames:= #[],body:=some (.seq (.region 0 #[{dst:=some 3,op:= .box 23 (.tmp 0),type:=0,pos:= "",after:= #[],guard:=none},{dst:=some 4,op:= .box 3 (.tmp 2),type:=0,pos:= "",after:= #[],guard:=none},
   {dst:=some 5,op:= .makeFunc (.func 121) #[] #[.tmp 3,.tmp 4],type:=145,pos:= "",after:= #[],guard:=none},
   {dst:=some 6,op:= .call {callee:= .builtin .len,args:= #[.tmp 1],argTypes:= #[24]},type:=3,pos:= "",after:= #[],guard:=none},
   {dst:=some 7,op:= .makeSlice 104 (.tmp 6) (.tmp 6),type:=104,pos:= "",after:= #[],guard:=none},
   {dst:=some 8,op:= .move (.const (.int .i64 0)),type:=3,pos:= "",after:= #[],guard:=none}] false)
 (.seq (.block 0 (.loop (.seq (.region 1 #[{dst:=some 9,op:= .binOp .lss 3 (.tmp 8) (.tmp 6) 3,type:=0,pos:= "",after:= #[],guard:=none}] false)
   (.seq (.cond (.tmp 9) .skip (.exit 0))
   (.seq (.region 2 #[{dst:=some 10,op:= .indexAddr 24 (.tmp 1) (.tmp 8),type:=0,pos:= "",after:= #[],guard:=none},{dst:=some 11,op:= .load 3 (.tmp 10),type:=3,pos:= "",after:= #[],guard:=none},
     {dst:=some 12,op:= .call {callee:= .value (.tmp 5),args:= #[.tmp 11],argTypes:= #[3]},type:=107,pos:= "",after:= #[],guard:=none}] false)
   (.region 3 #[{dst:=some 13,op:= .indexAddr 104 (.tmp 7) (.tmp 8),type:=0,pos:= "",after:= #[],guard:=none},{dst:=none,op:= .store 107 (.tmp 13) (.tmp 12),type:=0,pos:= "",after:= #[],guard:=none},
     {dst:=some 8,op:= .binOp .add 3 (.tmp 8) (.const (.int .i64 1)) 3,type:=3,pos:= "",after:= #[],guard:=none}] false))))))
 .ret))}
noncomputable def funcs:Array Func:=(Tryz.funcs.setIfInBounds 69 FI).push MW
noncomputable def prog:Program:={toTables:=Tryz.progTables,funcs:=funcs}
abbrev iV:FuncId:=237
theorem yH:prog.funcs[69]?=some FI:=by kernel_rfl
theorem QJ:prog.funcs[237]?=some MW:=by kernel_rfl
@[simp] theorem Yq:∀(args:Array Go.Value) (w:Go.World),Go.Sem.run prog (Go.callFunc 237 args) w=Go.Result.ok (Go.Next.enter 237 args) w:=by intros;kernel_rfl
theorem NN:FI.ntmps=7:=rfl
theorem NO:MW.ntmps=14:=rfl
@[simp] theorem call3:∀(args:Array Go.Value) (w:Go.World),Go.Sem.run prog (Go.callFunc 3 args) w=Go.Result.ok (Go.Next.enter 3 args) w:=by intros;kernel_rfl
@[simp] theorem call4:∀(args:Array Go.Value) (w:Go.World),Go.Sem.run prog (Go.callFunc 4 args) w=Go.Result.ok (Go.Next.enter 4 args) w:=by intros;kernel_rfl
@[simp] theorem call23:∀(args:Array Go.Value) (w:Go.World),Go.Sem.run prog (Go.callFunc 23 args) w=Go.Result.ok (Go.Next.enter 23 args) w:=by intros;kernel_rfl
@[simp] theorem call24:∀(args:Array Go.Value) (w:Go.World),Go.Sem.run prog (Go.callFunc 24 args) w=Go.Result.ok (Go.Next.enter 24 args) w:=by intros;kernel_rfl
@[simp] theorem call104:∀(args:Array Go.Value) (w:Go.World),Go.Sem.run prog (Go.callFunc 104 args) w=Go.Result.ok (Go.Next.enter 104 args) w:=by intros;kernel_rfl
@[simp] theorem call107:∀(args:Array Go.Value) (w:Go.World),Go.Sem.run prog (Go.callFunc 107 args) w=Go.Result.ok (Go.Next.enter 107 args) w:=by intros;kernel_rfl
@[simp] theorem call145:∀(args:Array Go.Value) (w:Go.World),Go.Sem.run prog (Go.callFunc 145 args) w=Go.Result.ok (Go.Next.enter 145 args) w:=by intros;kernel_rfl
@[simp] theorem eqGuardType107:prog.eqGuardType prog.depth 107=false:=by kernel_rfl
theorem func5:prog.funcs[5]?=Option.some Tryz.f5:=by kernel_rfl
theorem func6:prog.funcs[6]?=Option.some Tryz.f6:=by kernel_rfl
theorem func7:prog.funcs[7]?=Option.some Tryz.f7:=by kernel_rfl
theorem func8:prog.funcs[8]?=Option.some Tryz.f8:=by kernel_rfl
theorem func9:prog.funcs[9]?=Option.some Tryz.f9:=by kernel_rfl
theorem func10:prog.funcs[10]?=Option.some Tryz.f10:=by kernel_rfl
@[simp] theorem globals_size:prog.globals.size=0:=by kernel_rfl
@[simp] theorem isAgg0:∀(w:Go.World),Go.Sem.run prog (Go.isAgg 0) w=Go.Result.ok false w:=by intros;kernel_rfl
@[simp] theorem isAgg3:∀(w:Go.World),Go.Sem.run prog (Go.isAgg 3) w=Go.Result.ok false w:=by intros;kernel_rfl
@[simp] theorem isAgg4:∀(w:Go.World),Go.Sem.run prog (Go.isAgg 4) w=Go.Result.ok false w:=by intros;kernel_rfl
@[simp] theorem isAgg23:∀(w:Go.World),Go.Sem.run prog (Go.isAgg 23) w=Go.Result.ok false w:=by intros;kernel_rfl
@[simp] theorem isAgg24:∀(w:Go.World),Go.Sem.run prog (Go.isAgg 24) w=Go.Result.ok false w:=by intros;kernel_rfl
@[simp] theorem isAgg104:∀(w:Go.World),Go.Sem.run prog (Go.isAgg 104) w=Go.Result.ok false w:=by intros;kernel_rfl
@[simp] theorem isAgg107:∀(w:Go.World),Go.Sem.run prog (Go.isAgg 107) w=Go.Result.ok true w:=by intros;kernel_rfl
@[simp] theorem isAgg145:∀(w:Go.World),Go.Sem.run prog (Go.isAgg 145) w=Go.Result.ok false w:=by intros;kernel_rfl
theorem ntmps5:Tryz.f5.ntmps=102:=Tryz.ntmps5
theorem ntmps6:Tryz.f6.ntmps=61:=Tryz.ntmps6
theorem ntmps7:Tryz.f7.ntmps=74:=Tryz.ntmps7
theorem ntmps8:Tryz.f8.ntmps=111:=Tryz.ntmps8
theorem ntmps9:Tryz.f9.ntmps=134:=Tryz.ntmps9
theorem ntmps10:Tryz.f10.ntmps=131:=Tryz.ntmps10
theorem ntmps13:Tryz.f13.ntmps=43:=Tryz.ntmps13
theorem ntmps16:Tryz.f16.ntmps=32:=Tryz.ntmps16
theorem ntmps17:Tryz.f17.ntmps=16:=Tryz.ntmps17
theorem ntmps18:Tryz.f18.ntmps=16:=Tryz.ntmps18
theorem ntmps22:Tryz.f22.ntmps=10:=Tryz.ntmps22
theorem ntmps23:Tryz.f23.ntmps=98:=Tryz.ntmps23
theorem ntmps24:Tryz.f24.ntmps=36:=Tryz.ntmps24
theorem ntmps25:Tryz.f25.ntmps=27:=Tryz.ntmps25
theorem ntmps26:Tryz.f26.ntmps=103:=Tryz.ntmps26
theorem ntmps27:Tryz.f27.ntmps=18:=Tryz.ntmps27
theorem ntmps28:Tryz.f28.ntmps=31:=Tryz.ntmps28
theorem ntmps29:Tryz.f29.ntmps=18:=Tryz.ntmps29
theorem ntmps30:Tryz.f30.ntmps=24:=Tryz.ntmps30
theorem ntmps42:Tryz.f42.ntmps=11:=Tryz.ntmps42
theorem ntmps43:Tryz.f43.ntmps=59:=Tryz.ntmps43
theorem ntmps44:Tryz.f44.ntmps=99:=Tryz.ntmps44
theorem ntmps45:Tryz.f45.ntmps=38:=Tryz.ntmps45
theorem ntmps46:Tryz.f46.ntmps=13:=Tryz.ntmps46
theorem ntmps47:Tryz.f47.ntmps=17:=Tryz.ntmps47
theorem ntmps48:Tryz.f48.ntmps=47:=Tryz.ntmps48
theorem ntmps49:Tryz.f49.ntmps=35:=Tryz.ntmps49
theorem ntmps50:Tryz.f50.ntmps=5:=Tryz.ntmps50
theorem ntmps51:Tryz.f51.ntmps=52:=Tryz.ntmps51
theorem ntmps52:Tryz.f52.ntmps=94:=Tryz.ntmps52
theorem ntmps53:Tryz.f53.ntmps=20:=Tryz.ntmps53
theorem ntmps54:Tryz.f54.ntmps=24:=Tryz.ntmps54
theorem ntmps55:Tryz.f55.ntmps=9:=Tryz.ntmps55
theorem ntmps56:Tryz.f56.ntmps=9:=Tryz.ntmps56
theorem ntmps57:Tryz.f57.ntmps=5:=Tryz.ntmps57
theorem ntmps66:Tryz.f66.ntmps=20:=Tryz.ntmps66
theorem ntmps67:Tryz.f67.ntmps=68:=Tryz.ntmps67
theorem ntmps68:Tryz.f68.ntmps=130:=Tryz.ntmps68
theorem ntmps70:Tryz.f70.ntmps=115:=Tryz.ntmps70
theorem ntmps71:Tryz.f71.ntmps=21:=Tryz.ntmps71
theorem ntmps72:Tryz.f72.ntmps=87:=Tryz.ntmps72
theorem ntmps73:Tryz.f73.ntmps=30:=Tryz.ntmps73
theorem ntmps74:Tryz.f74.ntmps=24:=Tryz.ntmps74
theorem ntmps75:Tryz.f75.ntmps=26:=Tryz.ntmps75
theorem ntmps76:Tryz.f76.ntmps=26:=Tryz.ntmps76
theorem ntmps90:Tryz.f90.ntmps=34:=Tryz.ntmps90
theorem ntmps106:Tryz.f106.ntmps=22:=Tryz.ntmps106
theorem ntmps107:Tryz.f107.ntmps=123:=Tryz.ntmps107
theorem ntmps108:Tryz.f108.ntmps=5:=Tryz.ntmps108
theorem ntmps109:Tryz.f109.ntmps=15:=Tryz.ntmps109
theorem ntmps110:Tryz.f110.ntmps=25:=Tryz.ntmps110
theorem ntmps111:Tryz.f111.ntmps=9:=Tryz.ntmps111
theorem ntmps112:Tryz.f112.ntmps=60:=Tryz.ntmps112
theorem ntmps113:Tryz.f113.ntmps=8:=Tryz.ntmps113
theorem ntmps114:Tryz.f114.ntmps=14:=Tryz.ntmps114
theorem ntmps116:Tryz.f116.ntmps=18:=Tryz.ntmps116
theorem ntmps118:Tryz.f118.ntmps=14:=Tryz.ntmps118
theorem ntmps119:Tryz.f119.ntmps=27:=Tryz.ntmps119
theorem ntmps121:Tryz.f121.ntmps=19:=Tryz.ntmps121
theorem ntmps122:Tryz.f122.ntmps=69:=Tryz.ntmps122
theorem ntmps123:Tryz.f123.ntmps=141:=Tryz.ntmps123
theorem ntmps124:Tryz.f124.ntmps=14:=Tryz.ntmps124
theorem ntmps125:Tryz.f125.ntmps=71:=Tryz.ntmps125
theorem ntmps126:Tryz.f126.ntmps=20:=Tryz.ntmps126
theorem ntmps130:Tryz.f130.ntmps=58:=Tryz.ntmps130
theorem ntmps132:Tryz.f132.ntmps=18:=Tryz.ntmps132
theorem ntmps134:Tryz.f134.ntmps=11:=Tryz.ntmps134
theorem ntmps139:Tryz.f139.ntmps=62:=Tryz.ntmps139
theorem ntmps149:Tryz.f149.ntmps=51:=Tryz.ntmps149
theorem ntmps150:Tryz.f150.ntmps=26:=Tryz.ntmps150
theorem ntmps151:Tryz.f151.ntmps=23:=Tryz.ntmps151
theorem ntmps152:Tryz.f152.ntmps=84:=Tryz.ntmps152
theorem ntmps153:Tryz.f153.ntmps=12:=Tryz.ntmps153
theorem ntmps154:Tryz.f154.ntmps=27:=Tryz.ntmps154
theorem ntmps155:Tryz.f155.ntmps=20:=Tryz.ntmps155
theorem ntmps156:Tryz.f156.ntmps=24:=Tryz.ntmps156
theorem ntmps157:Tryz.f157.ntmps=17:=Tryz.ntmps157
theorem ntmps158:Tryz.f158.ntmps=15:=Tryz.ntmps158
theorem ntmps168:Tryz.f168.ntmps=2:=Tryz.ntmps168
theorem ntmps173:Tryz.f173.ntmps=50:=Tryz.ntmps173
theorem ntmps174:Tryz.f174.ntmps=20:=Tryz.ntmps174
theorem ntmps175:Tryz.f175.ntmps=21:=Tryz.ntmps175
theorem ntmps176:Tryz.f176.ntmps=23:=Tryz.ntmps176
theorem ntmps177:Tryz.f177.ntmps=49:=Tryz.ntmps177
theorem ntmps178:Tryz.f178.ntmps=70:=Tryz.ntmps178
theorem ntmps179:Tryz.f179.ntmps=48:=Tryz.ntmps179
theorem ntmps200:Tryz.f200.ntmps=14:=Tryz.ntmps200
theorem ntmps201:Tryz.f201.ntmps=18:=Tryz.ntmps201
theorem ntmps202:Tryz.f202.ntmps=103:=Tryz.ntmps202
theorem ntmps203:Tryz.f203.ntmps=44:=Tryz.ntmps203
theorem ntmps204:Tryz.f204.ntmps=52:=Tryz.ntmps204
theorem ntmps210:Tryz.f210.ntmps=69:=Tryz.ntmps210
theorem ntmps211:Tryz.f211.ntmps=15:=Tryz.ntmps211
theorem ntmps229:Tryz.f229.ntmps=5:=Tryz.ntmps229
theorem ntmps230:Tryz.f230.ntmps=18:=Tryz.ntmps230
theorem ntmps231:Tryz.f231.ntmps=20:=Tryz.ntmps231
theorem ntmps232:Tryz.f232.ntmps=25:=Tryz.ntmps232
@[simp] theorem rt_eq:prog.rt={boundsError:=8,errorString:=10,plainError:=11,errorAddressString:=14,typeAssertionError:=15,panicNilError:=16,unhashableTypeError:=19,string:=9,any:=20,int:=3,bool:=4,rune:=21,byte:=5}:=by kernel_rfl
@[simp] theorem runUnderlying0:∀(w:Go.World),Go.Sem.run prog (Go.underlying 0) w=Go.Result.ok (Go.TypeDesc.tuple #[]) w:=by intros;kernel_rfl
@[simp] theorem runUnderlying3:∀(w:Go.World),Go.Sem.run prog (Go.underlying 3) w=Go.Result.ok (Go.TypeDesc.int Go.IntKind.i64) w:=by intros;kernel_rfl
@[simp] theorem runUnderlying4:∀(w:Go.World),Go.Sem.run prog (Go.underlying 4) w=Go.Result.ok Go.TypeDesc.bool w:=by intros;kernel_rfl
@[simp] theorem runUnderlying23:∀(w:Go.World),Go.Sem.run prog (Go.underlying 23) w=Go.Result.ok (Go.TypeDesc.slice 37) w:=by intros;kernel_rfl
@[simp] theorem runUnderlying24:∀(w:Go.World),Go.Sem.run prog (Go.underlying 24) w=Go.Result.ok (Go.TypeDesc.slice 3) w:=by intros;kernel_rfl
@[simp] theorem runUnderlying104:∀(w:Go.World),Go.Sem.run prog (Go.underlying 104) w=Go.Result.ok (Go.TypeDesc.slice 107) w:=by intros;kernel_rfl
@[simp] theorem runUnderlying107:∀(w:Go.World),Go.Sem.run prog (Go.underlying 107) w=Go.Result.ok (Go.TypeDesc.struct #[{name:= "entry",type:=32,offset:=0,embedded:=false,tag:= "",pkgPath:= "loop.example/groupmulticast/impl",byteOffset:=0},{name:= "known",type:=4,offset:=4,embedded:=false,tag:= "",pkgPath:= "loop.example/groupmulticast/impl",byteOffset:=32}]) w:=by intros;kernel_rfl
@[simp] theorem runUnderlying145:∀(w:Go.World),Go.Sem.run prog (Go.underlying 145) w=Go.Result.ok (Go.TypeDesc.func #[3] #[107] false) w:=by intros;kernel_rfl
@[simp] theorem sizeOf0:∀(w:Go.World),Go.Sem.run prog (Go.sizeOf 0) w=Go.Result.ok 1 w:=by intros;kernel_rfl
@[simp] theorem sizeOf3:∀(w:Go.World),Go.Sem.run prog (Go.sizeOf 3) w=Go.Result.ok 1 w:=by intros;kernel_rfl
@[simp] theorem sizeOf4:∀(w:Go.World),Go.Sem.run prog (Go.sizeOf 4) w=Go.Result.ok 1 w:=by intros;kernel_rfl
@[simp] theorem sizeOf23:∀(w:Go.World),Go.Sem.run prog (Go.sizeOf 23) w=Go.Result.ok 1 w:=by intros;kernel_rfl
@[simp] theorem sizeOf24:∀(w:Go.World),Go.Sem.run prog (Go.sizeOf 24) w=Go.Result.ok 1 w:=by intros;kernel_rfl
@[simp] theorem sizeOf104:∀(w:Go.World),Go.Sem.run prog (Go.sizeOf 104) w=Go.Result.ok 1 w:=by intros;kernel_rfl
@[simp] theorem sizeOf107:∀(w:Go.World),Go.Sem.run prog (Go.sizeOf 107) w=Go.Result.ok 5 w:=by intros;kernel_rfl
@[simp] theorem sizeOf145:∀(w:Go.World),Go.Sem.run prog (Go.sizeOf 145) w=Go.Result.ok 1 w:=by intros;kernel_rfl
@[simp] theorem stoodInHeld107:prog.stoodInHeld 107=false:=by kernel_rfl
@[simp] theorem type0:prog.types[0]?=Option.some Tryz.t0:=by kernel_rfl
@[simp] theorem type3:prog.types[3]?=Option.some Tryz.t3:=by kernel_rfl
@[simp] theorem type4:prog.types[4]?=Option.some Tryz.t4:=by kernel_rfl
@[simp] theorem type23:prog.types[23]?=Option.some Tryz.t23:=by kernel_rfl
@[simp] theorem type24:prog.types[24]?=Option.some Tryz.t24:=by kernel_rfl
@[simp] theorem type104:prog.types[104]?=Option.some Tryz.t104:=by kernel_rfl
@[simp] theorem type107:prog.types[107]?=Option.some Tryz.t107:=by kernel_rfl
@[simp] theorem type145:prog.types[145]?=Option.some Tryz.t145:=by kernel_rfl
@[simp] theorem typeInfo0:∀(w:Go.World),Go.Sem.run prog (Go.typeInfo 0) w=Go.Result.ok Tryz.t0 w:=by intros;kernel_rfl
@[simp] theorem typeInfo3:∀(w:Go.World),Go.Sem.run prog (Go.typeInfo 3) w=Go.Result.ok Tryz.t3 w:=by intros;kernel_rfl
@[simp] theorem typeInfo4:∀(w:Go.World),Go.Sem.run prog (Go.typeInfo 4) w=Go.Result.ok Tryz.t4 w:=by intros;kernel_rfl
@[simp] theorem typeInfo23:∀(w:Go.World),Go.Sem.run prog (Go.typeInfo 23) w=Go.Result.ok Tryz.t23 w:=by intros;kernel_rfl
@[simp] theorem typeInfo24:∀(w:Go.World),Go.Sem.run prog (Go.typeInfo 24) w=Go.Result.ok Tryz.t24 w:=by intros;kernel_rfl
@[simp] theorem typeInfo104:∀(w:Go.World),Go.Sem.run prog (Go.typeInfo 104) w=Go.Result.ok Tryz.t104 w:=by intros;kernel_rfl
@[simp] theorem typeInfo107:∀(w:Go.World),Go.Sem.run prog (Go.typeInfo 107) w=Go.Result.ok Tryz.t107 w:=by intros;kernel_rfl
@[simp] theorem typeInfo145:∀(w:Go.World),Go.Sem.run prog (Go.typeInfo 145) w=Go.Result.ok Tryz.t145 w:=by intros;kernel_rfl
@[simp] theorem types_size:prog.types.size=255:=by kernel_rfl
@[simp] theorem underlying0:prog.underlying 0=Option.some (Go.TypeDesc.tuple #[]):=by kernel_rfl
@[simp] theorem underlying3:prog.underlying 3=Option.some (Go.TypeDesc.int Go.IntKind.i64):=by kernel_rfl
@[simp] theorem underlying4:prog.underlying 4=Option.some Go.TypeDesc.bool:=by kernel_rfl
@[simp] theorem underlying5:prog.underlying 5=Option.some (Go.TypeDesc.int Go.IntKind.u8):=by kernel_rfl
@[simp] theorem underlying22:prog.underlying 22=Option.some (Go.TypeDesc.slice 5):=by kernel_rfl
@[simp] theorem underlying23:prog.underlying 23=Option.some (Go.TypeDesc.slice 37):=by kernel_rfl
@[simp] theorem underlying24:prog.underlying 24=Option.some (Go.TypeDesc.slice 3):=by kernel_rfl
@[simp] theorem underlying104:prog.underlying 104=Option.some (Go.TypeDesc.slice 107):=by kernel_rfl
@[simp] theorem underlying107:prog.underlying 107=Option.some (Go.TypeDesc.struct #[{name:= "entry",type:=32,offset:=0,embedded:=false,tag:= "",pkgPath:= "loop.example/groupmulticast/impl",byteOffset:=0},{name:= "known",type:=4,offset:=4,embedded:=false,tag:= "",pkgPath:= "loop.example/groupmulticast/impl",byteOffset:=32}]):=by kernel_rfl
@[simp] theorem underlying145:prog.underlying 145=Option.some (Go.TypeDesc.func #[3] #[107] false):=by kernel_rfl
@[simp] theorem zeroValue0:∀(w:Go.World),Go.Sem.run prog (Go.zeroValue 0) w=Go.Result.ok (Go.Value.tuple #[]) w:=by intros;kernel_rfl
@[simp] theorem zeroValue3:∀(w:Go.World),Go.Sem.run prog (Go.zeroValue 3) w=Go.Result.ok (Go.Value.int Go.IntKind.i64 0) w:=by intros;kernel_rfl
@[simp] theorem zeroValue4:∀(w:Go.World),Go.Sem.run prog (Go.zeroValue 4) w=Go.Result.ok (Go.Value.bool false) w:=by intros;kernel_rfl
@[simp] theorem zeroValue23:∀(w:Go.World),Go.Sem.run prog (Go.zeroValue 23) w=Go.Result.ok (Go.Value.slice Option.none 0 0) w:=by intros;kernel_rfl
@[simp] theorem zeroValue24:∀(w:Go.World),Go.Sem.run prog (Go.zeroValue 24) w=Go.Result.ok (Go.Value.slice Option.none 0 0) w:=by intros;kernel_rfl
@[simp] theorem zeroValue104:∀(w:Go.World),Go.Sem.run prog (Go.zeroValue 104) w=Go.Result.ok (Go.Value.slice Option.none 0 0) w:=by intros;kernel_rfl
@[simp] theorem zeroValue107:∀(w:Go.World),Go.Sem.run prog (Go.zeroValue 107) w=Go.Result.ok (Go.Value.agg #[Go.Value.int Go.IntKind.i64 0,Go.Value.int Go.IntKind.i64 0,Go.Value.int Go.IntKind.i64 0,Go.Value.bool false,Go.Value.bool false]) w:=by intros;kernel_rfl
@[simp] theorem zeroValue145:∀(w:Go.World),Go.Sem.run prog (Go.zeroValue 145) w=Go.Result.ok Go.Value.nilFunc w:=by intros;kernel_rfl
end Go.Proofs.YtjklkppncmhehaaGreat.Tw
