/-
What is proved: the facts of the tables and of the functions at a second program: impl.entriesOf's body is another there: it escapes, or asks one group after the other. No condition.
-/
import Derived.Test.YtabjbdnokpjipaaGreatProg
import Derived.KernelRfl
set_option linter.unusedVariables false
set_option linter.unusedSimpArgs false
namespace Go.Proofs.YtabjbdnokpjipaaGreat.Tw
open Go
noncomputable def Je:Func:={name:= "twin.ask",origin:= "",params:= #[26,45,3],resultTypes:= #[142],nfree:=0,ntmps:=7,results:= #[.tmp 6],norace:=false,tmpNames:= #[],body:=some (.seq (.region 0 #[{dst:=some 3,op:= .move (.const (.bool true)),type:=0,pos:= "",after:= #[],guard:=none},{dst:=some 3,op:= .move (.const (.bool false)),type:=0,pos:= "",after:= #[],guard:=none}] true)
 (.seq (.cond (.tmp 3) (.region 1 #[{dst:=some 4,op:= .makeFunc (.func 112) #[.tmp 0,.tmp 1,.tmp 2] #[],type:=0,pos:= "",after:= #[],guard:=none},
   {dst:=some 5,op:= .makeInterface 168 (.tmp 4),type:=0,pos:= "",after:= #[],guard:=none},{dst:=none,op:= .panic (.tmp 5),type:=0,pos:= "",after:= #[],guard:=none}] false) .skip)
 (.seq (.region 2 #[{dst:=some 6,op:= .call {callee:= .value (.func 204),args:= #[.tmp 0,.tmp 1,.tmp 2],argTypes:= #[26,45,3]},type:=0,pos:= "",after:= #[],guard:=none}] false) .ret)))}
noncomputable def Rm:Func:={name:= "twin.seq",origin:= "",params:= #[26,45,3],resultTypes:= #[142],nfree:=0,ntmps:=14,results:= #[.tmp 7],norace:=false,tmpNames:= #[],body:=some (.seq (.region 0 #[{dst:=some 3,op:= .box 26 (.tmp 0),type:=0,pos:= "",after:= #[],guard:=none},{dst:=some 4,op:= .box 3 (.tmp 2),type:=0,pos:= "",after:= #[],guard:=none},
   {dst:=some 5,op:= .makeFunc (.func 139) #[] #[.tmp 3,.tmp 4],type:=168,pos:= "",after:= #[],guard:=none},
   {dst:=some 6,op:= .call {callee:= .builtin .len,args:= #[.tmp 1],argTypes:= #[45]},type:=3,pos:= "",after:= #[],guard:=none},
   {dst:=some 7,op:= .makeSlice 142 (.tmp 6) (.tmp 6),type:=142,pos:= "",after:= #[],guard:=none},
   {dst:=some 8,op:= .move (.const (.int .i64 0)),type:=3,pos:= "",after:= #[],guard:=none}] false)
 (.seq (.block 0 (.loop (.seq (.region 1 #[{dst:=some 9,op:= .binOp .lss 3 (.tmp 8) (.tmp 6) 3,type:=0,pos:= "",after:= #[],guard:=none}] false)
   (.seq (.cond (.tmp 9) .skip (.exit 0))
   (.seq (.region 2 #[{dst:=some 10,op:= .indexAddr 45 (.tmp 1) (.tmp 8),type:=0,pos:= "",after:= #[],guard:=none},{dst:=some 11,op:= .load 3 (.tmp 10),type:=3,pos:= "",after:= #[],guard:=none},
     {dst:=some 12,op:= .call {callee:= .value (.tmp 5),args:= #[.tmp 11],argTypes:= #[3]},type:=146,pos:= "",after:= #[],guard:=none}] false)
   (.region 3 #[{dst:=some 13,op:= .indexAddr 142 (.tmp 7) (.tmp 8),type:=0,pos:= "",after:= #[],guard:=none},{dst:=none,op:= .store 146 (.tmp 13) (.tmp 12),type:=0,pos:= "",after:= #[],guard:=none},
     {dst:=some 8,op:= .binOp .add 3 (.tmp 8) (.const (.int .i64 1)) 3,type:=3,pos:= "",after:= #[],guard:=none}] false))))))
 .ret))}
noncomputable def Ee:Code:=match Tryz.f44.body with|some (.seq _ (.seq _ (.seq _ k)))=>k|_=> .skip
noncomputable def apR (i:Nat):Code:=match Tryz.f44.body with|some (.seq a (.seq b (.seq c _)))=>if i=0 then a else if i=1 then b else c|_=> .skip
def aa':Code→Array Oper→Code
 | .region id ops d,x=> .region id (ops.extract 0 3++x) d
 |c,_=>c
def acH:Code:= .seq (.region 90 #[{dst:=some 4,op:= .load 21 (.tmp 6),type:=21,pos:= "",after:= #[],guard:=none},{dst:=some 5,op:= .binOp .eql 21 (.tmp 4) (.const (.int .i32 1)) 21,type:=4,pos:= "",after:= #[],guard:=none}] false)
 (.cond (.tmp 5) (.region 91 #[{dst:=none,op:= .store 21 (.tmp 6) (.const (.int .i32 0)),type:=0,pos:= "",after:= #[],guard:=none}] false) (.loop .skip))
noncomputable def GD:Func:={Tryz.f44 with body:=some (.seq (.region 70 #[{dst:=some 4,op:= .move (.const (.bool true)),type:=0,pos:= "",after:= #[],guard:=none},{dst:=some 4,op:= .move (.const (.bool false)),type:=0,pos:= "",after:= #[],guard:=none}] true) (.seq (.cond (.tmp 4) (.region 71 #[{dst:=some 5,op:= .makeFunc (.func 44) #[.tmp 0,.tmp 1] #[],type:=0,pos:= "",after:= #[],guard:=none},{dst:=some 6,op:= .makeInterface 168 (.tmp 5),type:=0,pos:= "",after:= #[],guard:=none},{dst:=none,op:= .panic (.tmp 6),type:=0,pos:= "",after:= #[],guard:=none}] false) .skip) (.seq (apR 0) (.seq (aa' (apR 1) #[{dst:=none,op:= .store 21 (.tmp 6) (.const (.int .i32 1)),type:=0,pos:= "",after:= #[],guard:=none}]) (.seq (aa' (apR 2) #[]) (.seq Ee acH))))))}
noncomputable def funcs:Array Func:=(Tryz.funcs.setIfInBounds 112 Je |>.setIfInBounds 44 GD).push Rm
noncomputable def prog:Program:={toTables:=Tryz.progTables,funcs:=funcs}
abbrev kg:FuncId:=204
theorem BQ:prog.funcs[112]?=some Je:=by kernel_rfl
theorem uL:prog.funcs[44]?=some GD:=by kernel_rfl
theorem V_:prog.funcs[204]?=some Rm:=by kernel_rfl
@[simp] theorem acI:∀(args:Array Go.Value) (w:Go.World),Go.Sem.run prog (Go.callFunc 204 args) w=Go.Result.ok (Go.Next.enter 204 args) w:=by intros;kernel_rfl
theorem Sp:Je.ntmps=7:=rfl
theorem Sq:Rm.ntmps=14:=rfl
@[simp] theorem call3:∀(args:Array Go.Value) (w:Go.World),Go.Sem.run prog (Go.callFunc 3 args) w=Go.Result.ok (Go.Next.enter 3 args) w:=by intros;kernel_rfl
@[simp] theorem call4:∀(args:Array Go.Value) (w:Go.World),Go.Sem.run prog (Go.callFunc 4 args) w=Go.Result.ok (Go.Next.enter 4 args) w:=by intros;kernel_rfl
@[simp] theorem call26:∀(args:Array Go.Value) (w:Go.World),Go.Sem.run prog (Go.callFunc 26 args) w=Go.Result.ok (Go.Next.enter 26 args) w:=by intros;kernel_rfl
@[simp] theorem call45:∀(args:Array Go.Value) (w:Go.World),Go.Sem.run prog (Go.callFunc 45 args) w=Go.Result.ok (Go.Next.enter 45 args) w:=by intros;kernel_rfl
@[simp] theorem call168:∀(args:Array Go.Value) (w:Go.World),Go.Sem.run prog (Go.callFunc 168 args) w=Go.Result.ok (Go.Next.enter 168 args) w:=by intros;kernel_rfl
@[simp] theorem eqGuardType146:prog.eqGuardType prog.depth 146=false:=by kernel_rfl
theorem func3:prog.funcs[3]?=Option.some Tryz.f3:=by kernel_rfl
theorem func4:prog.funcs[4]?=Option.some Tryz.f4:=by kernel_rfl
theorem func5:prog.funcs[5]?=Option.some Tryz.f5:=by kernel_rfl
theorem func6:prog.funcs[6]?=Option.some Tryz.f6:=by kernel_rfl
theorem func7:prog.funcs[7]?=Option.some Tryz.f7:=by kernel_rfl
theorem func8:prog.funcs[8]?=Option.some Tryz.f8:=by kernel_rfl
theorem func9:prog.funcs[9]?=Option.some Tryz.f9:=by kernel_rfl
@[simp] theorem globals_size:prog.globals.size=0:=by kernel_rfl
@[simp] theorem isAgg0:∀(w:Go.World),Go.Sem.run prog (Go.isAgg 0) w=Go.Result.ok false w:=by intros;kernel_rfl
@[simp] theorem isAgg3:∀(w:Go.World),Go.Sem.run prog (Go.isAgg 3) w=Go.Result.ok false w:=by intros;kernel_rfl
@[simp] theorem isAgg4:∀(w:Go.World),Go.Sem.run prog (Go.isAgg 4) w=Go.Result.ok false w:=by intros;kernel_rfl
@[simp] theorem isAgg26:∀(w:Go.World),Go.Sem.run prog (Go.isAgg 26) w=Go.Result.ok false w:=by intros;kernel_rfl
@[simp] theorem isAgg45:∀(w:Go.World),Go.Sem.run prog (Go.isAgg 45) w=Go.Result.ok false w:=by intros;kernel_rfl
@[simp] theorem isAgg142:∀(w:Go.World),Go.Sem.run prog (Go.isAgg 142) w=Go.Result.ok false w:=by intros;kernel_rfl
@[simp] theorem isAgg146:∀(w:Go.World),Go.Sem.run prog (Go.isAgg 146) w=Go.Result.ok true w:=by intros;kernel_rfl
@[simp] theorem isAgg168:∀(w:Go.World),Go.Sem.run prog (Go.isAgg 168) w=Go.Result.ok false w:=by intros;kernel_rfl
theorem ntmps3:Tryz.f3.ntmps=87:=Tryz.ntmps3
theorem ntmps4:Tryz.f4.ntmps=123:=Tryz.ntmps4
theorem ntmps5:Tryz.f5.ntmps=51:=Tryz.ntmps5
theorem ntmps6:Tryz.f6.ntmps=112:=Tryz.ntmps6
theorem ntmps7:Tryz.f7.ntmps=95:=Tryz.ntmps7
theorem ntmps8:Tryz.f8.ntmps=47:=Tryz.ntmps8
theorem ntmps9:Tryz.f9.ntmps=110:=Tryz.ntmps9
theorem ntmps10:Tryz.f10.ntmps=43:=Tryz.ntmps10
theorem ntmps11:Tryz.f11.ntmps=23:=Tryz.ntmps11
theorem ntmps12:Tryz.f12.ntmps=25:=Tryz.ntmps12
theorem ntmps13:Tryz.f13.ntmps=84:=Tryz.ntmps13
theorem ntmps14:Tryz.f14.ntmps=32:=Tryz.ntmps14
theorem ntmps15:Tryz.f15.ntmps=18:=Tryz.ntmps15
theorem ntmps16:Tryz.f16.ntmps=24:=Tryz.ntmps16
theorem ntmps17:Tryz.f17.ntmps=24:=Tryz.ntmps17
theorem ntmps18:Tryz.f18.ntmps=26:=Tryz.ntmps18
theorem ntmps19:Tryz.f19.ntmps=18:=Tryz.ntmps19
theorem ntmps20:Tryz.f20.ntmps=17:=Tryz.ntmps20
theorem ntmps21:Tryz.f21.ntmps=11:=Tryz.ntmps21
theorem ntmps22:Tryz.f22.ntmps=26:=Tryz.ntmps22
theorem ntmps23:Tryz.f23.ntmps=99:=Tryz.ntmps23
theorem ntmps24:Tryz.f24.ntmps=84:=Tryz.ntmps24
theorem ntmps25:Tryz.f25.ntmps=23:=Tryz.ntmps25
theorem ntmps26:Tryz.f26.ntmps=22:=Tryz.ntmps26
theorem ntmps27:Tryz.f27.ntmps=21:=Tryz.ntmps27
theorem ntmps28:Tryz.f28.ntmps=50:=Tryz.ntmps28
theorem ntmps29:Tryz.f29.ntmps=27:=Tryz.ntmps29
theorem ntmps30:Tryz.f30.ntmps=27:=Tryz.ntmps30
theorem ntmps31:Tryz.f31.ntmps=26:=Tryz.ntmps31
theorem ntmps32:Tryz.f32.ntmps=24:=Tryz.ntmps32
theorem ntmps33:Tryz.f33.ntmps=94:=Tryz.ntmps33
theorem ntmps34:Tryz.f34.ntmps=20:=Tryz.ntmps34
theorem ntmps35:Tryz.f35.ntmps=37:=Tryz.ntmps35
theorem ntmps36:Tryz.f36.ntmps=49:=Tryz.ntmps36
theorem ntmps37:Tryz.f37.ntmps=24:=Tryz.ntmps37
theorem ntmps38:Tryz.f38.ntmps=23:=Tryz.ntmps38
theorem ntmps39:Tryz.f39.ntmps=12:=Tryz.ntmps39
theorem ntmps40:Tryz.f40.ntmps=51:=Tryz.ntmps40
theorem ntmps41:Tryz.f41.ntmps=49:=Tryz.ntmps41
theorem ntmps42:Tryz.f42.ntmps=70:=Tryz.ntmps42
theorem ntmps43:Tryz.f43.ntmps=10:=Tryz.ntmps43
theorem ntmps44:Tryz.f44.ntmps=45:=Tryz.ntmps44
theorem ntmps45:Tryz.f45.ntmps=21:=Tryz.ntmps45
theorem ntmps46:Tryz.f46.ntmps=14:=Tryz.ntmps46
theorem ntmps47:Tryz.f47.ntmps=26:=Tryz.ntmps47
theorem ntmps48:Tryz.f48.ntmps=31:=Tryz.ntmps48
theorem ntmps49:Tryz.f49.ntmps=26:=Tryz.ntmps49
theorem ntmps50:Tryz.f50.ntmps=9:=Tryz.ntmps50
theorem ntmps51:Tryz.f51.ntmps=9:=Tryz.ntmps51
theorem ntmps52:Tryz.f52.ntmps=60:=Tryz.ntmps52
theorem ntmps53:Tryz.f53.ntmps=8:=Tryz.ntmps53
theorem ntmps54:Tryz.f54.ntmps=24:=Tryz.ntmps54
theorem ntmps55:Tryz.f55.ntmps=34:=Tryz.ntmps55
theorem ntmps56:Tryz.f56.ntmps=89:=Tryz.ntmps56
theorem ntmps57:Tryz.f57.ntmps=58:=Tryz.ntmps57
theorem ntmps58:Tryz.f58.ntmps=60:=Tryz.ntmps58
theorem ntmps59:Tryz.f59.ntmps=20:=Tryz.ntmps59
theorem ntmps60:Tryz.f60.ntmps=8:=Tryz.ntmps60
theorem ntmps61:Tryz.f61.ntmps=8:=Tryz.ntmps61
theorem ntmps62:Tryz.f62.ntmps=8:=Tryz.ntmps62
theorem ntmps63:Tryz.f63.ntmps=12:=Tryz.ntmps63
theorem ntmps64:Tryz.f64.ntmps=9:=Tryz.ntmps64
theorem ntmps65:Tryz.f65.ntmps=5:=Tryz.ntmps65
theorem ntmps66:Tryz.f66.ntmps=15:=Tryz.ntmps66
theorem ntmps67:Tryz.f67.ntmps=20:=Tryz.ntmps67
theorem ntmps68:Tryz.f68.ntmps=21:=Tryz.ntmps68
theorem ntmps69:Tryz.f69.ntmps=23:=Tryz.ntmps69
theorem ntmps70:Tryz.f70.ntmps=18:=Tryz.ntmps70
theorem ntmps71:Tryz.f71.ntmps=103:=Tryz.ntmps71
theorem ntmps72:Tryz.f72.ntmps=44:=Tryz.ntmps72
theorem ntmps73:Tryz.f73.ntmps=52:=Tryz.ntmps73
theorem ntmps74:Tryz.f74.ntmps=115:=Tryz.ntmps74
theorem ntmps77:Tryz.f77.ntmps=65:=Tryz.ntmps77
theorem ntmps78:Tryz.f78.ntmps=62:=Tryz.ntmps78
theorem ntmps79:Tryz.f79.ntmps=76:=Tryz.ntmps79
theorem ntmps80:Tryz.f80.ntmps=14:=Tryz.ntmps80
theorem ntmps81:Tryz.f81.ntmps=26:=Tryz.ntmps81
theorem ntmps82:Tryz.f82.ntmps=16:=Tryz.ntmps82
theorem ntmps83:Tryz.f83.ntmps=62:=Tryz.ntmps83
theorem ntmps84:Tryz.f84.ntmps=5:=Tryz.ntmps84
theorem ntmps85:Tryz.f85.ntmps=54:=Tryz.ntmps85
theorem ntmps86:Tryz.f86.ntmps=15:=Tryz.ntmps86
theorem ntmps87:Tryz.f87.ntmps=58:=Tryz.ntmps87
theorem ntmps88:Tryz.f88.ntmps=17:=Tryz.ntmps88
theorem ntmps89:Tryz.f89.ntmps=70:=Tryz.ntmps89
theorem ntmps90:Tryz.f90.ntmps=14:=Tryz.ntmps90
theorem ntmps91:Tryz.f91.ntmps=8:=Tryz.ntmps91
theorem ntmps92:Tryz.f92.ntmps=5:=Tryz.ntmps92
theorem ntmps93:Tryz.f93.ntmps=35:=Tryz.ntmps93
theorem ntmps94:Tryz.f94.ntmps=69:=Tryz.ntmps94
theorem ntmps95:Tryz.f95.ntmps=69:=Tryz.ntmps95
theorem ntmps96:Tryz.f96.ntmps=141:=Tryz.ntmps96
theorem ntmps97:Tryz.f97.ntmps=15:=Tryz.ntmps97
theorem ntmps98:Tryz.f98.ntmps=58:=Tryz.ntmps98
theorem ntmps99:Tryz.f99.ntmps=52:=Tryz.ntmps99
theorem ntmps100:Tryz.f100.ntmps=30:=Tryz.ntmps100
theorem ntmps103:Tryz.f103.ntmps=18:=Tryz.ntmps103
theorem ntmps104:Tryz.f104.ntmps=9:=Tryz.ntmps104
theorem ntmps105:Tryz.f105.ntmps=19:=Tryz.ntmps105
theorem ntmps106:Tryz.f106.ntmps=39:=Tryz.ntmps106
theorem ntmps107:Tryz.f107.ntmps=109:=Tryz.ntmps107
theorem ntmps108:Tryz.f108.ntmps=29:=Tryz.ntmps108
theorem ntmps109:Tryz.f109.ntmps=11:=Tryz.ntmps109
theorem ntmps110:Tryz.f110.ntmps=29:=Tryz.ntmps110
theorem ntmps111:Tryz.f111.ntmps=98:=Tryz.ntmps111
theorem ntmps113:Tryz.f113.ntmps=2:=Tryz.ntmps113
theorem ntmps114:Tryz.f114.ntmps=14:=Tryz.ntmps114
theorem ntmps115:Tryz.f115.ntmps=8:=Tryz.ntmps115
theorem ntmps116:Tryz.f116.ntmps=13:=Tryz.ntmps116
theorem ntmps117:Tryz.f117.ntmps=20:=Tryz.ntmps117
theorem ntmps118:Tryz.f118.ntmps=18:=Tryz.ntmps118
theorem ntmps119:Tryz.f119.ntmps=24:=Tryz.ntmps119
theorem ntmps120:Tryz.f120.ntmps=25:=Tryz.ntmps120
theorem ntmps121:Tryz.f121.ntmps=11:=Tryz.ntmps121
theorem ntmps130:Tryz.f130.ntmps=68:=Tryz.ntmps130
theorem ntmps131:Tryz.f131.ntmps=74:=Tryz.ntmps131
theorem ntmps132:Tryz.f132.ntmps=130:=Tryz.ntmps132
theorem ntmps133:Tryz.f133.ntmps=14:=Tryz.ntmps133
theorem ntmps134:Tryz.f134.ntmps=19:=Tryz.ntmps134
theorem ntmps135:Tryz.f135.ntmps=19:=Tryz.ntmps135
theorem ntmps136:Tryz.f136.ntmps=17:=Tryz.ntmps136
theorem ntmps137:Tryz.f137.ntmps=47:=Tryz.ntmps137
theorem ntmps139:Tryz.f139.ntmps=19:=Tryz.ntmps139
theorem ntmps140:Tryz.f140.ntmps=20:=Tryz.ntmps140
theorem ntmps141:Tryz.f141.ntmps=24:=Tryz.ntmps141
theorem ntmps149:Tryz.f149.ntmps=27:=Tryz.ntmps149
theorem ntmps150:Tryz.f150.ntmps=39:=Tryz.ntmps150
theorem ntmps155:Tryz.f155.ntmps=17:=Tryz.ntmps155
theorem ntmps156:Tryz.f156.ntmps=15:=Tryz.ntmps156
theorem ntmps171:Tryz.f171.ntmps=48:=Tryz.ntmps171
theorem ntmps193:Tryz.f193.ntmps=5:=Tryz.ntmps193
theorem ntmps194:Tryz.f194.ntmps=5:=Tryz.ntmps194
theorem ntmps195:Tryz.f195.ntmps=5:=Tryz.ntmps195
theorem ntmps196:Tryz.f196.ntmps=5:=Tryz.ntmps196
theorem ntmps197:Tryz.f197.ntmps=18:=Tryz.ntmps197
theorem ntmps198:Tryz.f198.ntmps=20:=Tryz.ntmps198
theorem ntmps199:Tryz.f199.ntmps=25:=Tryz.ntmps199
@[simp] theorem rt_eq:prog.rt={boundsError:=8,errorString:=10,plainError:=11,errorAddressString:=14,typeAssertionError:=15,panicNilError:=16,unhashableTypeError:=19,string:=9,any:=20,int:=3,bool:=4,rune:=21,byte:=5}:=by kernel_rfl
@[simp] theorem runUnderlying0:∀(w:Go.World),Go.Sem.run prog (Go.underlying 0) w=Go.Result.ok (Go.TypeDesc.tuple #[]) w:=by intros;kernel_rfl
@[simp] theorem runUnderlying3:∀(w:Go.World),Go.Sem.run prog (Go.underlying 3) w=Go.Result.ok (Go.TypeDesc.int Go.IntKind.i64) w:=by intros;kernel_rfl
@[simp] theorem runUnderlying4:∀(w:Go.World),Go.Sem.run prog (Go.underlying 4) w=Go.Result.ok Go.TypeDesc.bool w:=by intros;kernel_rfl
@[simp] theorem runUnderlying26:∀(w:Go.World),Go.Sem.run prog (Go.underlying 26) w=Go.Result.ok (Go.TypeDesc.slice 43) w:=by intros;kernel_rfl
@[simp] theorem runUnderlying45:∀(w:Go.World),Go.Sem.run prog (Go.underlying 45) w=Go.Result.ok (Go.TypeDesc.slice 3) w:=by intros;kernel_rfl
@[simp] theorem runUnderlying142:∀(w:Go.World),Go.Sem.run prog (Go.underlying 142) w=Go.Result.ok (Go.TypeDesc.slice 146) w:=by intros;kernel_rfl
@[simp] theorem runUnderlying146:∀(w:Go.World),Go.Sem.run prog (Go.underlying 146) w=Go.Result.ok (Go.TypeDesc.struct #[{name:= "entry",type:=38,offset:=0,embedded:=false,tag:= "",pkgPath:= "loop.example/groupmulticast/impl",byteOffset:=0},{name:= "known",type:=4,offset:=4,embedded:=false,tag:= "",pkgPath:= "loop.example/groupmulticast/impl",byteOffset:=32}]) w:=by intros;kernel_rfl
@[simp] theorem runUnderlying168:∀(w:Go.World),Go.Sem.run prog (Go.underlying 168) w=Go.Result.ok (Go.TypeDesc.func #[3] #[146] false) w:=by intros;kernel_rfl
@[simp] theorem sizeOf0:∀(w:Go.World),Go.Sem.run prog (Go.sizeOf 0) w=Go.Result.ok 1 w:=by intros;kernel_rfl
@[simp] theorem sizeOf3:∀(w:Go.World),Go.Sem.run prog (Go.sizeOf 3) w=Go.Result.ok 1 w:=by intros;kernel_rfl
@[simp] theorem sizeOf4:∀(w:Go.World),Go.Sem.run prog (Go.sizeOf 4) w=Go.Result.ok 1 w:=by intros;kernel_rfl
@[simp] theorem sizeOf26:∀(w:Go.World),Go.Sem.run prog (Go.sizeOf 26) w=Go.Result.ok 1 w:=by intros;kernel_rfl
@[simp] theorem sizeOf45:∀(w:Go.World),Go.Sem.run prog (Go.sizeOf 45) w=Go.Result.ok 1 w:=by intros;kernel_rfl
@[simp] theorem sizeOf142:∀(w:Go.World),Go.Sem.run prog (Go.sizeOf 142) w=Go.Result.ok 1 w:=by intros;kernel_rfl
@[simp] theorem sizeOf146:∀(w:Go.World),Go.Sem.run prog (Go.sizeOf 146) w=Go.Result.ok 5 w:=by intros;kernel_rfl
@[simp] theorem sizeOf168:∀(w:Go.World),Go.Sem.run prog (Go.sizeOf 168) w=Go.Result.ok 1 w:=by intros;kernel_rfl
@[simp] theorem stoodInHeld146:prog.stoodInHeld 146=false:=by kernel_rfl
@[simp] theorem type0:prog.types[0]?=Option.some Tryz.t0:=by kernel_rfl
@[simp] theorem type3:prog.types[3]?=Option.some Tryz.t3:=by kernel_rfl
@[simp] theorem type4:prog.types[4]?=Option.some Tryz.t4:=by kernel_rfl
@[simp] theorem type26:prog.types[26]?=Option.some Tryz.t26:=by kernel_rfl
@[simp] theorem type45:prog.types[45]?=Option.some Tryz.t45:=by kernel_rfl
@[simp] theorem type142:prog.types[142]?=Option.some Tryz.t142:=by kernel_rfl
@[simp] theorem type146:prog.types[146]?=Option.some Tryz.t146:=by kernel_rfl
@[simp] theorem type168:prog.types[168]?=Option.some Tryz.t168:=by kernel_rfl
@[simp] theorem typeInfo0:∀(w:Go.World),Go.Sem.run prog (Go.typeInfo 0) w=Go.Result.ok Tryz.t0 w:=by intros;kernel_rfl
@[simp] theorem typeInfo3:∀(w:Go.World),Go.Sem.run prog (Go.typeInfo 3) w=Go.Result.ok Tryz.t3 w:=by intros;kernel_rfl
@[simp] theorem typeInfo4:∀(w:Go.World),Go.Sem.run prog (Go.typeInfo 4) w=Go.Result.ok Tryz.t4 w:=by intros;kernel_rfl
@[simp] theorem typeInfo26:∀(w:Go.World),Go.Sem.run prog (Go.typeInfo 26) w=Go.Result.ok Tryz.t26 w:=by intros;kernel_rfl
@[simp] theorem typeInfo45:∀(w:Go.World),Go.Sem.run prog (Go.typeInfo 45) w=Go.Result.ok Tryz.t45 w:=by intros;kernel_rfl
@[simp] theorem typeInfo142:∀(w:Go.World),Go.Sem.run prog (Go.typeInfo 142) w=Go.Result.ok Tryz.t142 w:=by intros;kernel_rfl
@[simp] theorem typeInfo146:∀(w:Go.World),Go.Sem.run prog (Go.typeInfo 146) w=Go.Result.ok Tryz.t146 w:=by intros;kernel_rfl
@[simp] theorem typeInfo168:∀(w:Go.World),Go.Sem.run prog (Go.typeInfo 168) w=Go.Result.ok Tryz.t168 w:=by intros;kernel_rfl
@[simp] theorem types_size:prog.types.size=222:=by kernel_rfl
@[simp] theorem underlying0:prog.underlying 0=Option.some (Go.TypeDesc.tuple #[]):=by kernel_rfl
@[simp] theorem underlying3:prog.underlying 3=Option.some (Go.TypeDesc.int Go.IntKind.i64):=by kernel_rfl
@[simp] theorem underlying4:prog.underlying 4=Option.some Go.TypeDesc.bool:=by kernel_rfl
@[simp] theorem underlying5:prog.underlying 5=Option.some (Go.TypeDesc.int Go.IntKind.u8):=by kernel_rfl
@[simp] theorem underlying22:prog.underlying 22=Option.some (Go.TypeDesc.slice 5):=by kernel_rfl
@[simp] theorem underlying26:prog.underlying 26=Option.some (Go.TypeDesc.slice 43):=by kernel_rfl
@[simp] theorem underlying45:prog.underlying 45=Option.some (Go.TypeDesc.slice 3):=by kernel_rfl
@[simp] theorem underlying142:prog.underlying 142=Option.some (Go.TypeDesc.slice 146):=by kernel_rfl
@[simp] theorem underlying146:prog.underlying 146=Option.some (Go.TypeDesc.struct #[{name:= "entry",type:=38,offset:=0,embedded:=false,tag:= "",pkgPath:= "loop.example/groupmulticast/impl",byteOffset:=0},{name:= "known",type:=4,offset:=4,embedded:=false,tag:= "",pkgPath:= "loop.example/groupmulticast/impl",byteOffset:=32}]):=by kernel_rfl
@[simp] theorem underlying168:prog.underlying 168=Option.some (Go.TypeDesc.func #[3] #[146] false):=by kernel_rfl
@[simp] theorem zeroValue0:∀(w:Go.World),Go.Sem.run prog (Go.zeroValue 0) w=Go.Result.ok (Go.Value.tuple #[]) w:=by intros;kernel_rfl
@[simp] theorem zeroValue3:∀(w:Go.World),Go.Sem.run prog (Go.zeroValue 3) w=Go.Result.ok (Go.Value.int Go.IntKind.i64 0) w:=by intros;kernel_rfl
@[simp] theorem zeroValue4:∀(w:Go.World),Go.Sem.run prog (Go.zeroValue 4) w=Go.Result.ok (Go.Value.bool false) w:=by intros;kernel_rfl
@[simp] theorem zeroValue26:∀(w:Go.World),Go.Sem.run prog (Go.zeroValue 26) w=Go.Result.ok (Go.Value.slice Option.none 0 0) w:=by intros;kernel_rfl
@[simp] theorem zeroValue45:∀(w:Go.World),Go.Sem.run prog (Go.zeroValue 45) w=Go.Result.ok (Go.Value.slice Option.none 0 0) w:=by intros;kernel_rfl
@[simp] theorem zeroValue142:∀(w:Go.World),Go.Sem.run prog (Go.zeroValue 142) w=Go.Result.ok (Go.Value.slice Option.none 0 0) w:=by intros;kernel_rfl
@[simp] theorem zeroValue146:∀(w:Go.World),Go.Sem.run prog (Go.zeroValue 146) w=Go.Result.ok (Go.Value.agg #[Go.Value.int Go.IntKind.i64 0,Go.Value.int Go.IntKind.i64 0,Go.Value.int Go.IntKind.i64 0,Go.Value.bool false,Go.Value.bool false]) w:=by intros;kernel_rfl
@[simp] theorem zeroValue168:∀(w:Go.World),Go.Sem.run prog (Go.zeroValue 168) w=Go.Result.ok Go.Value.nilFunc w:=by intros;kernel_rfl
end Go.Proofs.YtabjbdnokpjipaaGreat.Tw
