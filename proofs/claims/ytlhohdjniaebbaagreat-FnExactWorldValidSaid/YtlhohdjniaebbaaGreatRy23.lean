/-
What is proved: the starter's way through impl.entriesOf and impl.ask: reckoned by the kernel: which steps are silent, which touch memory. No condition.
-/
import Derived.Test.YtlhohdjniaebbaaGreatRy22
import Derived.Test.YtlhohdjniaebbaaGreatRy10
import Derived.Test.YtlhohdjniaebbaaGreatRy17
import Derived.Test.YtlhohdjniaebbaaGreatRy18
set_option linter.unusedVariables false
set_option linter.unusedSimpArgs false
namespace Go.Proofs.YtlhohdjniaebbaaGreat.Sr
open Go Go.Conc
def nx (P:Program)(r:Nat)(g:Goroutine):Goroutine:=match cT P r g with|some (g',_)=>g'|none=>g
def sx (P:Program)(g:Goroutine):Goroutine:=match jQ P g with|some (g',_)=>g'|none=>g
def WO (P:Program)(ga:Addr)(gl gc sb so sc:Nat)(ms:Int)(N n:Nat)(c:Frame)(cs:List Frame):Goroutine:={frame:=Frame.enter P 147 #[.slice (some ga) gl gc,.slice (some ⟨sb,so,none⟩) n sc,.int .i64 ms] .normal,callers:=c::cs,status:= .running,dying:=none}
def Ts (P:Program)(ga:Addr)(gl gc sb so sc:Nat)(ms:Int)(N n:Nat)(c:Frame)(cs:List Frame):Goroutine:=aL P 2 (WO P ga gl gc sb so sc ms N n c cs)
def Qi (P:Program)(ga:Addr)(gl gc sb so sc:Nat)(ms:Int)(N n:Nat)(c:Frame)(cs:List Frame):Goroutine:=nx P N (Ts P ga gl gc sb so sc ms N n c cs)
def Qj (P:Program)(ga:Addr)(gl gc sb so sc:Nat)(ms:Int)(N n:Nat)(c:Frame)(cs:List Frame):Goroutine:=aL P 9 (nx P (N+1) (Qi P ga gl gc sb so sc ms N n c cs))
def DI (P:Program)(ga:Addr)(gl gc sb so sc:Nat)(ms:Int)(N n:Nat)(c:Frame)(cs:List Frame):Goroutine:=aL P 6 (nx P (N+2) (Qj P ga gl gc sb so sc ms N n c cs))
def vJ (P:Program)(ga:Addr)(gl gc sb so sc:Nat)(ms:Int)(N n:Nat)(c:Frame)(cs:List Frame):Goroutine:=nx P (N+3) (DI P ga gl gc sb so sc ms N n c cs)
def jG (P:Program)(ga:Addr)(gl gc sb so sc:Nat)(ms:Int)(N n:Nat)(c:Frame)(cs:List Frame):Goroutine:=nx P (N+4) (vJ P ga gl gc sb so sc ms N n c cs)
def lR (P:Program)(ga:Addr)(gl gc sb so sc:Nat)(ms:Int)(N n:Nat)(c:Frame)(cs:List Frame):Goroutine:=aL P 3 (sx P (jG P ga gl gc sb so sc ms N n c cs))
def DJ (P:Program)(ga:Addr)(gl gc sb so sc:Nat)(ms:Int)(N n:Nat)(c:Frame)(cs:List Frame):Goroutine:=aL P 10 (nx P (N+5) (lR P ga gl gc sb so sc ms N n c cs))
def nAd:Addr:=⟨0,0,none⟩
def f51 (P:Program)(ga:Addr)(gl gc sb so sc:Nat)(ms:Int)(N n:Nat):Frame:=match(DI P ga gl gc sb so sc ms N n default []).callers with
 |f::_=>f
 |[]=>default
def Hx (N:Nat):Value:= .func (.func 187) #[] #[ptr N,ptr (N+1)]
def lpF (ga:Addr)(gl gc sb so sc:Nat)(ms:Int)(N n:Nat)(i:Int)(x:Nat→Value)(todo:List Item):Frame:=
 {fn:=186,tmps:= #[.slice (some ⟨sb,so,none⟩) n sc,Hx N,undef,ptr (N+2),.slice none 0 0,ptr (N+4),ptr (N+5),x 0,x 1,.slice (some ⟨sb,so,none⟩) n sc,.int .i64 n,.slice (some ⟨N+3,0,none⟩) n n,.slice (some ⟨sb,so,none⟩) n sc,.int .i64 n,.int .i64 i,
   x 2,x 3,x 4,x 5,x 6,x 7,x 8,x 9,x 10],todo,defers:=[],mode:= .run,kind:= .normal}
def xE (P:Program)(ga:Addr)(gl gc sb so sc:Nat)(ms:Int)(N n:Nat)(c:Frame)(cs:List Frame):List Frame:=f51 P ga gl gc sb so sc ms N n::c::cs
def cJ (P:Program)(ga:Addr)(gl gc sb so sc:Nat)(ms:Int)(N n:Nat)(c:Frame)(cs:List Frame)(i:Int)(x:Nat→Value)(todo:List Item):Goroutine:={frame:=lpF ga gl gc sb so sc ms N n i x todo,callers:=xE P ga gl gc sb so sc ms N n c cs,status:= .running,dying:=none}
def cN (P:Program):List Item:=(DJ P nAd 0 0 0 0 0 0 0 1 default []).frame.todo
def lqT (P:Program):List Item:=(aZ (aL P 13 (DJ P nAd 0 0 0 0 0 0 0 1 default [])) (.int .i64 0)).frame.todo
def x0 (_:Nat):Value:=undef
def xl (x:Nat→Value)(i:Int)(a:Addr)(g:Int):Nat→Value
 |0=>x 0
 |1=>x 1
 |2=> .bool true
 |3=> .int .i64 i
 |4=> .pointer (some a)
 |5=> .int .i64 g
 |6=>x 6
 |7=>x 7
 |8=>x 8
 |9=>x 9
 |_=>x 10
def pG (P:Program)(ga:Addr)(gl gc sb so sc:Nat)(ms:Int)(N n:Nat)(c:Frame)(cs:List Frame)(i:Int)(x:Nat→Value):Goroutine:=cJ P ga gl gc sb so sc ms N n c cs i x (lqT P)
def Zt (P:Program)(ga:Addr)(gl gc sb so sc:Nat)(ms:Int)(N n:Nat)(c:Frame)(cs:List Frame)(i:Int)(x:Nat→Value)(r1:Nat):Goroutine:=nx P r1 (pG P ga gl gc sb so sc ms N n c cs i x)
def Zu (P:Program)(ga:Addr)(gl gc sb so sc:Nat)(ms:Int)(N n:Nat)(c:Frame)(cs:List Frame)(i:Int)(x:Nat→Value)(r1 r2:Nat):Goroutine:=nx P r2 (Zt P ga gl gc sb so sc ms N n c cs i x r1)
def Zv (P:Program)(ga:Addr)(gl gc sb so sc:Nat)(ms:Int)(N n:Nat)(c:Frame)(cs:List Frame)(i:Int)(x:Nat→Value)(r1 r2:Nat):Goroutine:=sx P (Zu P ga gl gc sb so sc ms N n c cs i x r1 r2)
def WQ (P:Program)(ga:Addr)(gl gc sb so sc:Nat)(ms:Int)(N n:Nat)(c:Frame)(cs:List Frame)(i:Int)(x:Nat→Value)(r1 r2:Nat):Goroutine:=sx P (Zv P ga gl gc sb so sc ms N n c cs i x r1 r2)
def Zw (P:Program)(ga:Addr)(gl gc sb so sc:Nat)(ms:Int)(N n:Nat)(c:Frame)(cs:List Frame)(i:Int)(x:Nat→Value)(r1 r2:Nat):Frame:=(aL P 3 (WQ P ga gl gc sb so sc ms N n c cs i x r1 r2)).frame
def WS (P:Program)(ga:Addr)(gl gc sb so sc:Nat)(ms:Int)(N n:Nat)(c:Frame)(cs:List Frame)(i:Int)(x:Nat→Value)(r1 r2:Nat):Goroutine:=iY (Zw P ga gl gc sb so sc ms N n c cs i x r1 r2) (xE P ga gl gc sb so sc ms N n c cs)
def px (P:Program)(g:Goroutine):Goroutine:=match DF P g with|some (g',_)=>g'|none=>g
def WT (P:Program)(ga:Addr)(gl gc sb so sc:Nat)(ms:Int)(N n:Nat)(c:Frame)(cs:List Frame)(i:Int)(x:Nat→Value)(r1 r2:Nat):Goroutine:=aL P 3 (WS P ga gl gc sb so sc ms N n c cs i x r1 r2)
def oz (P:Program)(ga:Addr)(gl gc sb so sc:Nat)(ms:Int)(N n:Nat)(c:Frame)(cs:List Frame)(i:Int)(x:Nat→Value)(r1 r2:Nat):Goroutine:=px P (WT P ga gl gc sb so sc ms N n c cs i x r1 r2)
def xn (g:Goroutine):Nat→Value
 |0=>g.frame.tmps.getD 7 undef
 |1=>g.frame.tmps.getD 8 undef
 |k+2=>g.frame.tmps.getD (k+15) undef
def Hy (P:Program)(ga:Addr)(gl gc sb so sc:Nat)(ms:Int)(N n:Nat)(c:Frame)(cs:List Frame)(x:Nat→Value):Frame:=(aL P 9 (cJ P ga gl gc sb so sc ms N n c cs n x (cN P))).frame
def DK (P:Program)(ga:Addr)(gl gc sb so sc:Nat)(ms:Int)(N n:Nat)(c:Frame)(cs:List Frame)(x:Nat→Value):Goroutine:=iY (Hy P ga gl gc sb so sc ms N n c cs x) (xE P ga gl gc sb so sc ms N n c cs)
def kP (P:Program)(ga:Addr)(gl gc sb so sc:Nat)(ms:Int)(N n:Nat)(c:Frame)(cs:List Frame)(x:Nat→Value):Goroutine:=aL P 3 (DK P ga gl gc sb so sc ms N n c cs x)
section
variable(ga:Addr)(gl gc sb so sc:Nat)(ms:Int)(N n:Nat)(c:Frame)(cs:List Frame)(i:Int)(x:Nat→Value)(r1 r2:Nat)
set_option maxRecDepth 100000
theorem Qk:mute Tryz.prog 2 (WO Tryz.prog ga gl gc sb so sc ms N n c cs)=true:=by kernel_rfl
theorem Hz:cT Tryz.prog N (Ts Tryz.prog ga gl gc sb so sc ms N n c cs)=some (Qi Tryz.prog ga gl gc sb so sc ms N n c cs,#[],.cells #[.slice (some ga) gl gc] 31):=by kernel_rfl
theorem Ty:cT Tryz.prog (N+1) (Qi Tryz.prog ga gl gc sb so sc ms N n c cs)=some (nx Tryz.prog (N+1) (Qi Tryz.prog ga gl gc sb so sc ms N n c cs),#[],.cells #[.int .i64 ms] 3):=by kernel_rfl
theorem Ql:mute Tryz.prog 9 (nx Tryz.prog (N+1) (Qi Tryz.prog ga gl gc sb so sc ms N n c cs))=true:=by kernel_rfl
theorem Tz:cT Tryz.prog (N+2) (Qj Tryz.prog ga gl gc sb so sc ms N n c cs)=some (nx Tryz.prog (N+2) (Qj Tryz.prog ga gl gc sb so sc ms N n c cs),#[],.cells #[Hx N] 203):=by kernel_rfl
theorem Qm:mute Tryz.prog 6 (nx Tryz.prog (N+2) (Qj Tryz.prog ga gl gc sb so sc ms N n c cs))=true:=by kernel_rfl
theorem LI:cT Tryz.prog (N+3) (DI Tryz.prog ga gl gc sb so sc ms N 1 c cs)=some (vJ Tryz.prog ga gl gc sb so sc ms N 1 c cs,#[],.cells #[.int .i64 0,.int .i64 0,.int .i64 0,.bool false,.bool false] 170):=by kernel_rfl
theorem LJ:cT Tryz.prog (N+4) (vJ Tryz.prog ga gl gc sb so sc ms N 1 c cs)=some (jG Tryz.prog ga gl gc sb so sc ms N 1 c cs,#[],.cells #[.slice none 0 0] 166):=by kernel_rfl
theorem LK:jQ Tryz.prog (jG Tryz.prog ga gl gc sb so sc ms N 1 c cs)=some (sx Tryz.prog (jG Tryz.prog ga gl gc sb so sc ms N 1 c cs),#[db ⟨N+4,0,none⟩ true],[(⟨N+4,0,none⟩,.slice (some ⟨N+3,0,none⟩) 1 1)]):=by kernel_rfl
theorem HD:mute Tryz.prog 3 (sx Tryz.prog (jG Tryz.prog ga gl gc sb so sc ms N 1 c cs))=true:=by kernel_rfl
theorem LL:cT Tryz.prog (N+5) (lR Tryz.prog ga gl gc sb so sc ms N 1 c cs)=some (nx Tryz.prog (N+5) (lR Tryz.prog ga gl gc sb so sc ms N 1 c cs),#[],.cells #[.int .u64 0,.int .u32 0] 231):=by kernel_rfl
theorem HF:mute Tryz.prog 10 (nx Tryz.prog (N+5) (lR Tryz.prog ga gl gc sb so sc ms N 1 c cs))=true:=by kernel_rfl
theorem HG:DJ Tryz.prog ga gl gc sb so sc ms N 1 c cs=cJ Tryz.prog ga gl gc sb so sc ms N 1 c cs 0 x0 (cN Tryz.prog):=by kernel_rfl
theorem DL:mute Tryz.prog 13 (cJ Tryz.prog ga gl gc sb so sc ms N 1 c cs 0 x (cN Tryz.prog))=true:=by kernel_rfl
theorem DN (g:Int):fB Tryz.prog (.int .i64 g) (aL Tryz.prog 13 (cJ Tryz.prog ga gl gc sb so sc ms N 1 c cs 0 x (cN Tryz.prog)))=some (pG Tryz.prog ga gl gc sb so sc ms N 1 c cs 0 (xl x 0 ⟨sb,so+0,none⟩ g),#[db ⟨sb,so+0,none⟩ false],[⟨sb,so+0,none⟩]):=by kernel_rfl
theorem LM:mute Tryz.prog 10 (cJ Tryz.prog ga gl gc sb so sc ms N 1 c cs 1 x (cN Tryz.prog))=true:=by kernel_rfl
theorem HH:aL Tryz.prog 10 (cJ Tryz.prog ga gl gc sb so sc ms N 1 c cs 1 x (cN Tryz.prog))=Dt Tryz.prog (N+5) (Hy Tryz.prog ga gl gc sb so sc ms N 1 c cs x) (xE Tryz.prog ga gl gc sb so sc ms N 1 c cs):=by kernel_rfl
theorem LN:cT Tryz.prog (N+3) (DI Tryz.prog ga gl gc sb so sc ms N 2 c cs)=some (vJ Tryz.prog ga gl gc sb so sc ms N 2 c cs,#[],.cells #[.int .i64 0,.int .i64 0,.int .i64 0,.bool false,.bool false,.int .i64 0,.int .i64 0,.int .i64 0,.bool false,.bool false] 170):=by kernel_rfl
theorem LO:cT Tryz.prog (N+4) (vJ Tryz.prog ga gl gc sb so sc ms N 2 c cs)=some (jG Tryz.prog ga gl gc sb so sc ms N 2 c cs,#[],.cells #[.slice none 0 0] 166):=by kernel_rfl
theorem LP:jQ Tryz.prog (jG Tryz.prog ga gl gc sb so sc ms N 2 c cs)=some (sx Tryz.prog (jG Tryz.prog ga gl gc sb so sc ms N 2 c cs),#[db ⟨N+4,0,none⟩ true],[(⟨N+4,0,none⟩,.slice (some ⟨N+3,0,none⟩) 2 2)]):=by kernel_rfl
theorem HI:mute Tryz.prog 3 (sx Tryz.prog (jG Tryz.prog ga gl gc sb so sc ms N 2 c cs))=true:=by kernel_rfl
theorem LQ:cT Tryz.prog (N+5) (lR Tryz.prog ga gl gc sb so sc ms N 2 c cs)=some (nx Tryz.prog (N+5) (lR Tryz.prog ga gl gc sb so sc ms N 2 c cs),#[],.cells #[.int .u64 0,.int .u32 0] 231):=by kernel_rfl
theorem HJ:mute Tryz.prog 10 (nx Tryz.prog (N+5) (lR Tryz.prog ga gl gc sb so sc ms N 2 c cs))=true:=by kernel_rfl
theorem HK:DJ Tryz.prog ga gl gc sb so sc ms N 2 c cs=cJ Tryz.prog ga gl gc sb so sc ms N 2 c cs 0 x0 (cN Tryz.prog):=by kernel_rfl
theorem DO:mute Tryz.prog 13 (cJ Tryz.prog ga gl gc sb so sc ms N 2 c cs 0 x (cN Tryz.prog))=true:=by kernel_rfl
theorem DQ (g:Int):fB Tryz.prog (.int .i64 g) (aL Tryz.prog 13 (cJ Tryz.prog ga gl gc sb so sc ms N 2 c cs 0 x (cN Tryz.prog)))=some (pG Tryz.prog ga gl gc sb so sc ms N 2 c cs 0 (xl x 0 ⟨sb,so+0,none⟩ g),#[db ⟨sb,so+0,none⟩ false],[⟨sb,so+0,none⟩]):=by kernel_rfl
theorem DR:mute Tryz.prog 13 (cJ Tryz.prog ga gl gc sb so sc ms N 2 c cs 1 x (cN Tryz.prog))=true:=by kernel_rfl
theorem DS (g:Int):fB Tryz.prog (.int .i64 g) (aL Tryz.prog 13 (cJ Tryz.prog ga gl gc sb so sc ms N 2 c cs 1 x (cN Tryz.prog)))=some (pG Tryz.prog ga gl gc sb so sc ms N 2 c cs 1 (xl x 1 ⟨sb,so+1,none⟩ g),#[db ⟨sb,so+1,none⟩ false],[⟨sb,so+1,none⟩]):=by kernel_rfl
theorem LS:mute Tryz.prog 10 (cJ Tryz.prog ga gl gc sb so sc ms N 2 c cs 2 x (cN Tryz.prog))=true:=by kernel_rfl
theorem HL:aL Tryz.prog 10 (cJ Tryz.prog ga gl gc sb so sc ms N 2 c cs 2 x (cN Tryz.prog))=Dt Tryz.prog (N+5) (Hy Tryz.prog ga gl gc sb so sc ms N 2 c cs x) (xE Tryz.prog ga gl gc sb so sc ms N 2 c cs):=by kernel_rfl
theorem LU:cT Tryz.prog (N+3) (DI Tryz.prog ga gl gc sb so sc ms N 3 c cs)=some (vJ Tryz.prog ga gl gc sb so sc ms N 3 c cs,#[],.cells #[.int .i64 0,.int .i64 0,.int .i64 0,.bool false,.bool false,.int .i64 0,.int .i64 0,.int .i64 0,.bool false,.bool false,.int .i64 0,.int .i64 0,.int .i64 0,.bool false,.bool false] 170):=by kernel_rfl
theorem LV:cT Tryz.prog (N+4) (vJ Tryz.prog ga gl gc sb so sc ms N 3 c cs)=some (jG Tryz.prog ga gl gc sb so sc ms N 3 c cs,#[],.cells #[.slice none 0 0] 166):=by kernel_rfl
theorem LW:jQ Tryz.prog (jG Tryz.prog ga gl gc sb so sc ms N 3 c cs)=some (sx Tryz.prog (jG Tryz.prog ga gl gc sb so sc ms N 3 c cs),#[db ⟨N+4,0,none⟩ true],[(⟨N+4,0,none⟩,.slice (some ⟨N+3,0,none⟩) 3 3)]):=by kernel_rfl
theorem HM:mute Tryz.prog 3 (sx Tryz.prog (jG Tryz.prog ga gl gc sb so sc ms N 3 c cs))=true:=by kernel_rfl
theorem LX:cT Tryz.prog (N+5) (lR Tryz.prog ga gl gc sb so sc ms N 3 c cs)=some (nx Tryz.prog (N+5) (lR Tryz.prog ga gl gc sb so sc ms N 3 c cs),#[],.cells #[.int .u64 0,.int .u32 0] 231):=by kernel_rfl
theorem HN:mute Tryz.prog 10 (nx Tryz.prog (N+5) (lR Tryz.prog ga gl gc sb so sc ms N 3 c cs))=true:=by kernel_rfl
theorem HO:DJ Tryz.prog ga gl gc sb so sc ms N 3 c cs=cJ Tryz.prog ga gl gc sb so sc ms N 3 c cs 0 x0 (cN Tryz.prog):=by kernel_rfl
theorem DT:mute Tryz.prog 13 (cJ Tryz.prog ga gl gc sb so sc ms N 3 c cs 0 x (cN Tryz.prog))=true:=by kernel_rfl
theorem DU (g:Int):fB Tryz.prog (.int .i64 g) (aL Tryz.prog 13 (cJ Tryz.prog ga gl gc sb so sc ms N 3 c cs 0 x (cN Tryz.prog)))=some (pG Tryz.prog ga gl gc sb so sc ms N 3 c cs 0 (xl x 0 ⟨sb,so+0,none⟩ g),#[db ⟨sb,so+0,none⟩ false],[⟨sb,so+0,none⟩]):=by kernel_rfl
theorem DV:mute Tryz.prog 13 (cJ Tryz.prog ga gl gc sb so sc ms N 3 c cs 1 x (cN Tryz.prog))=true:=by kernel_rfl
theorem DW (g:Int):fB Tryz.prog (.int .i64 g) (aL Tryz.prog 13 (cJ Tryz.prog ga gl gc sb so sc ms N 3 c cs 1 x (cN Tryz.prog)))=some (pG Tryz.prog ga gl gc sb so sc ms N 3 c cs 1 (xl x 1 ⟨sb,so+1,none⟩ g),#[db ⟨sb,so+1,none⟩ false],[⟨sb,so+1,none⟩]):=by kernel_rfl
theorem DX:mute Tryz.prog 13 (cJ Tryz.prog ga gl gc sb so sc ms N 3 c cs 2 x (cN Tryz.prog))=true:=by kernel_rfl
theorem DY (g:Int):fB Tryz.prog (.int .i64 g) (aL Tryz.prog 13 (cJ Tryz.prog ga gl gc sb so sc ms N 3 c cs 2 x (cN Tryz.prog)))=some (pG Tryz.prog ga gl gc sb so sc ms N 3 c cs 2 (xl x 2 ⟨sb,so+2,none⟩ g),#[db ⟨sb,so+2,none⟩ false],[⟨sb,so+2,none⟩]):=by kernel_rfl
theorem LY:mute Tryz.prog 10 (cJ Tryz.prog ga gl gc sb so sc ms N 3 c cs 3 x (cN Tryz.prog))=true:=by kernel_rfl
theorem HP:aL Tryz.prog 10 (cJ Tryz.prog ga gl gc sb so sc ms N 3 c cs 3 x (cN Tryz.prog))=Dt Tryz.prog (N+5) (Hy Tryz.prog ga gl gc sb so sc ms N 3 c cs x) (xE Tryz.prog ga gl gc sb so sc ms N 3 c cs):=by kernel_rfl
theorem LZ:cT Tryz.prog (N+3) (DI Tryz.prog ga gl gc sb so sc ms N 4 c cs)=some (vJ Tryz.prog ga gl gc sb so sc ms N 4 c cs,#[],.cells #[.int .i64 0,.int .i64 0,.int .i64 0,.bool false,.bool false,.int .i64 0,.int .i64 0,.int .i64 0,.bool false,.bool false,.int .i64 0,.int .i64 0,.int .i64 0,.bool false,.bool false,.int .i64 0,.int .i64 0,.int .i64 0,.bool false,.bool false] 170):=by kernel_rfl
theorem L0:cT Tryz.prog (N+4) (vJ Tryz.prog ga gl gc sb so sc ms N 4 c cs)=some (jG Tryz.prog ga gl gc sb so sc ms N 4 c cs,#[],.cells #[.slice none 0 0] 166):=by kernel_rfl
theorem L1:jQ Tryz.prog (jG Tryz.prog ga gl gc sb so sc ms N 4 c cs)=some (sx Tryz.prog (jG Tryz.prog ga gl gc sb so sc ms N 4 c cs),#[db ⟨N+4,0,none⟩ true],[(⟨N+4,0,none⟩,.slice (some ⟨N+3,0,none⟩) 4 4)]):=by kernel_rfl
theorem HR:mute Tryz.prog 3 (sx Tryz.prog (jG Tryz.prog ga gl gc sb so sc ms N 4 c cs))=true:=by kernel_rfl
theorem L2:cT Tryz.prog (N+5) (lR Tryz.prog ga gl gc sb so sc ms N 4 c cs)=some (nx Tryz.prog (N+5) (lR Tryz.prog ga gl gc sb so sc ms N 4 c cs),#[],.cells #[.int .u64 0,.int .u32 0] 231):=by kernel_rfl
theorem HT:mute Tryz.prog 10 (nx Tryz.prog (N+5) (lR Tryz.prog ga gl gc sb so sc ms N 4 c cs))=true:=by kernel_rfl
theorem HU:DJ Tryz.prog ga gl gc sb so sc ms N 4 c cs=cJ Tryz.prog ga gl gc sb so sc ms N 4 c cs 0 x0 (cN Tryz.prog):=by kernel_rfl
theorem DZ:mute Tryz.prog 13 (cJ Tryz.prog ga gl gc sb so sc ms N 4 c cs 0 x (cN Tryz.prog))=true:=by kernel_rfl
theorem D4 (g:Int):fB Tryz.prog (.int .i64 g) (aL Tryz.prog 13 (cJ Tryz.prog ga gl gc sb so sc ms N 4 c cs 0 x (cN Tryz.prog)))=some (pG Tryz.prog ga gl gc sb so sc ms N 4 c cs 0 (xl x 0 ⟨sb,so+0,none⟩ g),#[db ⟨sb,so+0,none⟩ false],[⟨sb,so+0,none⟩]):=by kernel_rfl
theorem D5:mute Tryz.prog 13 (cJ Tryz.prog ga gl gc sb so sc ms N 4 c cs 1 x (cN Tryz.prog))=true:=by kernel_rfl
theorem D6 (g:Int):fB Tryz.prog (.int .i64 g) (aL Tryz.prog 13 (cJ Tryz.prog ga gl gc sb so sc ms N 4 c cs 1 x (cN Tryz.prog)))=some (pG Tryz.prog ga gl gc sb so sc ms N 4 c cs 1 (xl x 1 ⟨sb,so+1,none⟩ g),#[db ⟨sb,so+1,none⟩ false],[⟨sb,so+1,none⟩]):=by kernel_rfl
theorem D7:mute Tryz.prog 13 (cJ Tryz.prog ga gl gc sb so sc ms N 4 c cs 2 x (cN Tryz.prog))=true:=by kernel_rfl
theorem D8 (g:Int):fB Tryz.prog (.int .i64 g) (aL Tryz.prog 13 (cJ Tryz.prog ga gl gc sb so sc ms N 4 c cs 2 x (cN Tryz.prog)))=some (pG Tryz.prog ga gl gc sb so sc ms N 4 c cs 2 (xl x 2 ⟨sb,so+2,none⟩ g),#[db ⟨sb,so+2,none⟩ false],[⟨sb,so+2,none⟩]):=by kernel_rfl
theorem D9:mute Tryz.prog 13 (cJ Tryz.prog ga gl gc sb so sc ms N 4 c cs 3 x (cN Tryz.prog))=true:=by kernel_rfl
theorem D_ (g:Int):fB Tryz.prog (.int .i64 g) (aL Tryz.prog 13 (cJ Tryz.prog ga gl gc sb so sc ms N 4 c cs 3 x (cN Tryz.prog)))=some (pG Tryz.prog ga gl gc sb so sc ms N 4 c cs 3 (xl x 3 ⟨sb,so+3,none⟩ g),#[db ⟨sb,so+3,none⟩ false],[⟨sb,so+3,none⟩]):=by kernel_rfl
theorem L3:mute Tryz.prog 10 (cJ Tryz.prog ga gl gc sb so sc ms N 4 c cs 4 x (cN Tryz.prog))=true:=by kernel_rfl
theorem HV:aL Tryz.prog 10 (cJ Tryz.prog ga gl gc sb so sc ms N 4 c cs 4 x (cN Tryz.prog))=Dt Tryz.prog (N+5) (Hy Tryz.prog ga gl gc sb so sc ms N 4 c cs x) (xE Tryz.prog ga gl gc sb so sc ms N 4 c cs):=by kernel_rfl
theorem L4:cT Tryz.prog (N+3) (DI Tryz.prog ga gl gc sb so sc ms N 5 c cs)=some (vJ Tryz.prog ga gl gc sb so sc ms N 5 c cs,#[],.cells #[.int .i64 0,.int .i64 0,.int .i64 0,.bool false,.bool false,.int .i64 0,.int .i64 0,.int .i64 0,.bool false,.bool false,.int .i64 0,.int .i64 0,.int .i64 0,.bool false,.bool false,.int .i64 0,.int .i64 0,.int .i64 0,.bool false,.bool false,.int .i64 0,.int .i64 0,.int .i64 0,.bool false,.bool false] 170):=by kernel_rfl
theorem L5:cT Tryz.prog (N+4) (vJ Tryz.prog ga gl gc sb so sc ms N 5 c cs)=some (jG Tryz.prog ga gl gc sb so sc ms N 5 c cs,#[],.cells #[.slice none 0 0] 166):=by kernel_rfl
theorem L6:jQ Tryz.prog (jG Tryz.prog ga gl gc sb so sc ms N 5 c cs)=some (sx Tryz.prog (jG Tryz.prog ga gl gc sb so sc ms N 5 c cs),#[db ⟨N+4,0,none⟩ true],[(⟨N+4,0,none⟩,.slice (some ⟨N+3,0,none⟩) 5 5)]):=by kernel_rfl
theorem HW:mute Tryz.prog 3 (sx Tryz.prog (jG Tryz.prog ga gl gc sb so sc ms N 5 c cs))=true:=by kernel_rfl
theorem L7:cT Tryz.prog (N+5) (lR Tryz.prog ga gl gc sb so sc ms N 5 c cs)=some (nx Tryz.prog (N+5) (lR Tryz.prog ga gl gc sb so sc ms N 5 c cs),#[],.cells #[.int .u64 0,.int .u32 0] 231):=by kernel_rfl
theorem HX:mute Tryz.prog 10 (nx Tryz.prog (N+5) (lR Tryz.prog ga gl gc sb so sc ms N 5 c cs))=true:=by kernel_rfl
theorem HY:DJ Tryz.prog ga gl gc sb so sc ms N 5 c cs=cJ Tryz.prog ga gl gc sb so sc ms N 5 c cs 0 x0 (cN Tryz.prog):=by kernel_rfl
theorem Ea:mute Tryz.prog 13 (cJ Tryz.prog ga gl gc sb so sc ms N 5 c cs 0 x (cN Tryz.prog))=true:=by kernel_rfl
theorem Eb (g:Int):fB Tryz.prog (.int .i64 g) (aL Tryz.prog 13 (cJ Tryz.prog ga gl gc sb so sc ms N 5 c cs 0 x (cN Tryz.prog)))=some (pG Tryz.prog ga gl gc sb so sc ms N 5 c cs 0 (xl x 0 ⟨sb,so+0,none⟩ g),#[db ⟨sb,so+0,none⟩ false],[⟨sb,so+0,none⟩]):=by kernel_rfl
theorem Ec:mute Tryz.prog 13 (cJ Tryz.prog ga gl gc sb so sc ms N 5 c cs 1 x (cN Tryz.prog))=true:=by kernel_rfl
theorem Ed (g:Int):fB Tryz.prog (.int .i64 g) (aL Tryz.prog 13 (cJ Tryz.prog ga gl gc sb so sc ms N 5 c cs 1 x (cN Tryz.prog)))=some (pG Tryz.prog ga gl gc sb so sc ms N 5 c cs 1 (xl x 1 ⟨sb,so+1,none⟩ g),#[db ⟨sb,so+1,none⟩ false],[⟨sb,so+1,none⟩]):=by kernel_rfl
theorem Ee:mute Tryz.prog 13 (cJ Tryz.prog ga gl gc sb so sc ms N 5 c cs 2 x (cN Tryz.prog))=true:=by kernel_rfl
theorem Ef (g:Int):fB Tryz.prog (.int .i64 g) (aL Tryz.prog 13 (cJ Tryz.prog ga gl gc sb so sc ms N 5 c cs 2 x (cN Tryz.prog)))=some (pG Tryz.prog ga gl gc sb so sc ms N 5 c cs 2 (xl x 2 ⟨sb,so+2,none⟩ g),#[db ⟨sb,so+2,none⟩ false],[⟨sb,so+2,none⟩]):=by kernel_rfl
theorem Eg:mute Tryz.prog 13 (cJ Tryz.prog ga gl gc sb so sc ms N 5 c cs 3 x (cN Tryz.prog))=true:=by kernel_rfl
theorem Eh (g:Int):fB Tryz.prog (.int .i64 g) (aL Tryz.prog 13 (cJ Tryz.prog ga gl gc sb so sc ms N 5 c cs 3 x (cN Tryz.prog)))=some (pG Tryz.prog ga gl gc sb so sc ms N 5 c cs 3 (xl x 3 ⟨sb,so+3,none⟩ g),#[db ⟨sb,so+3,none⟩ false],[⟨sb,so+3,none⟩]):=by kernel_rfl
theorem Ei:mute Tryz.prog 13 (cJ Tryz.prog ga gl gc sb so sc ms N 5 c cs 4 x (cN Tryz.prog))=true:=by kernel_rfl
theorem Ej (g:Int):fB Tryz.prog (.int .i64 g) (aL Tryz.prog 13 (cJ Tryz.prog ga gl gc sb so sc ms N 5 c cs 4 x (cN Tryz.prog)))=some (pG Tryz.prog ga gl gc sb so sc ms N 5 c cs 4 (xl x 4 ⟨sb,so+4,none⟩ g),#[db ⟨sb,so+4,none⟩ false],[⟨sb,so+4,none⟩]):=by kernel_rfl
theorem L8:mute Tryz.prog 10 (cJ Tryz.prog ga gl gc sb so sc ms N 5 c cs 5 x (cN Tryz.prog))=true:=by kernel_rfl
theorem H0:aL Tryz.prog 10 (cJ Tryz.prog ga gl gc sb so sc ms N 5 c cs 5 x (cN Tryz.prog))=Dt Tryz.prog (N+5) (Hy Tryz.prog ga gl gc sb so sc ms N 5 c cs x) (xE Tryz.prog ga gl gc sb so sc ms N 5 c cs):=by kernel_rfl
theorem H2:cT Tryz.prog r1 (pG Tryz.prog ga gl gc sb so sc ms N n c cs i x)=some (Zt Tryz.prog ga gl gc sb so sc ms N n c cs i x r1,#[],.cells #[.int .i64 0] 3):=by kernel_rfl
theorem H3:cT Tryz.prog r2 (Zt Tryz.prog ga gl gc sb so sc ms N n c cs i x r1)=some (Zu Tryz.prog ga gl gc sb so sc ms N n c cs i x r1 r2,#[],.cells #[.int .i64 0] 3):=by kernel_rfl
theorem TA (y:Nat→Value)(a:Addr)(g:Int):jQ Tryz.prog (Zu Tryz.prog ga gl gc sb so sc ms N n c cs i (xl y i a g) r1 r2)=some (Zv Tryz.prog ga gl gc sb so sc ms N n c cs i (xl y i a g) r1 r2,#[db ⟨r1,0,none⟩ true],[(⟨r1,0,none⟩,.int .i64 i)]):=by kernel_rfl
theorem TB (y:Nat→Value)(a:Addr)(g:Int):jQ Tryz.prog (Zv Tryz.prog ga gl gc sb so sc ms N n c cs i (xl y i a g) r1 r2)=some (WQ Tryz.prog ga gl gc sb so sc ms N n c cs i (xl y i a g) r1 r2,#[db ⟨r2,0,none⟩ true],[(⟨r2,0,none⟩,.int .i64 g)]):=by kernel_rfl
theorem Qn (y:Nat→Value)(a:Addr)(g:Int):mute Tryz.prog 4 (WQ Tryz.prog ga gl gc sb so sc ms N n c cs i (xl y i a g) r1 r2)=true:=by kernel_rfl
theorem TE (y:Nat→Value)(a:Addr)(g:Int):aL Tryz.prog 4 (WQ Tryz.prog ga gl gc sb so sc ms N n c cs i (xl y i a g) r1 r2)=Wz Tryz.prog (N+5) (Zw Tryz.prog ga gl gc sb so sc ms N n c cs i (xl y i a g) r1 r2) (xE Tryz.prog ga gl gc sb so sc ms N n c cs):=by kernel_rfl
theorem Qo (y:Nat→Value)(a:Addr)(g:Int):mute Tryz.prog 3 (WS Tryz.prog ga gl gc sb so sc ms N n c cs i (xl y i a g) r1 r2)=true:=by kernel_rfl
theorem WU (y:Nat→Value)(a:Addr)(g:Int):DF Tryz.prog (WT Tryz.prog ga gl gc sb so sc ms N n c cs i (xl y i a g) r1 r2)=some (oz Tryz.prog ga gl gc sb so sc ms N n c cs i (xl y i a g) r1 r2,KH Tryz.prog (N+5) (N+2) r2 (N+4) r1):=by kernel_rfl
theorem H4 (y:Nat→Value)(a:Addr)(g:Int):mute Tryz.prog 7 (oz Tryz.prog ga gl gc sb so sc ms N n c cs 0 (xl y 0 a g) r1 r2)=true:=by kernel_rfl
theorem H5 (y:Nat→Value)(a:Addr)(g:Int):aL Tryz.prog 7 (oz Tryz.prog ga gl gc sb so sc ms N n c cs 0 (xl y 0 a g) r1 r2)=cJ Tryz.prog ga gl gc sb so sc ms N n c cs 1 (xn (aL Tryz.prog 7 (oz Tryz.prog ga gl gc sb so sc ms N n c cs 0 (xl y 0 a g) r1 r2))) (cN Tryz.prog):=by kernel_rfl
theorem H6 (y:Nat→Value)(a:Addr)(g:Int):mute Tryz.prog 7 (oz Tryz.prog ga gl gc sb so sc ms N n c cs 1 (xl y 1 a g) r1 r2)=true:=by kernel_rfl
theorem H7 (y:Nat→Value)(a:Addr)(g:Int):aL Tryz.prog 7 (oz Tryz.prog ga gl gc sb so sc ms N n c cs 1 (xl y 1 a g) r1 r2)=cJ Tryz.prog ga gl gc sb so sc ms N n c cs 2 (xn (aL Tryz.prog 7 (oz Tryz.prog ga gl gc sb so sc ms N n c cs 1 (xl y 1 a g) r1 r2))) (cN Tryz.prog):=by kernel_rfl
theorem H9 (y:Nat→Value)(a:Addr)(g:Int):mute Tryz.prog 7 (oz Tryz.prog ga gl gc sb so sc ms N n c cs 2 (xl y 2 a g) r1 r2)=true:=by kernel_rfl
theorem H_ (y:Nat→Value)(a:Addr)(g:Int):aL Tryz.prog 7 (oz Tryz.prog ga gl gc sb so sc ms N n c cs 2 (xl y 2 a g) r1 r2)=cJ Tryz.prog ga gl gc sb so sc ms N n c cs 3 (xn (aL Tryz.prog 7 (oz Tryz.prog ga gl gc sb so sc ms N n c cs 2 (xl y 2 a g) r1 r2))) (cN Tryz.prog):=by kernel_rfl
theorem H' (y:Nat→Value)(a:Addr)(g:Int):mute Tryz.prog 7 (oz Tryz.prog ga gl gc sb so sc ms N n c cs 3 (xl y 3 a g) r1 r2)=true:=by kernel_rfl
theorem Ia (y:Nat→Value)(a:Addr)(g:Int):aL Tryz.prog 7 (oz Tryz.prog ga gl gc sb so sc ms N n c cs 3 (xl y 3 a g) r1 r2)=cJ Tryz.prog ga gl gc sb so sc ms N n c cs 4 (xn (aL Tryz.prog 7 (oz Tryz.prog ga gl gc sb so sc ms N n c cs 3 (xl y 3 a g) r1 r2))) (cN Tryz.prog):=by kernel_rfl
theorem Ib (y:Nat→Value)(a:Addr)(g:Int):mute Tryz.prog 7 (oz Tryz.prog ga gl gc sb so sc ms N n c cs 4 (xl y 4 a g) r1 r2)=true:=by kernel_rfl
theorem Ic (y:Nat→Value)(a:Addr)(g:Int):aL Tryz.prog 7 (oz Tryz.prog ga gl gc sb so sc ms N n c cs 4 (xl y 4 a g) r1 r2)=cJ Tryz.prog ga gl gc sb so sc ms N n c cs 5 (xn (aL Tryz.prog 7 (oz Tryz.prog ga gl gc sb so sc ms N n c cs 4 (xl y 4 a g) r1 r2))) (cN Tryz.prog):=by kernel_rfl
theorem Ie:mute Tryz.prog 3 (DK Tryz.prog ga gl gc sb so sc ms N 1 c cs x)=true:=by kernel_rfl
theorem Ig (v:Value):bn Tryz.prog v none (kP Tryz.prog ga gl gc sb so sc ms N 1 c cs x)=some ⟨aZ (kP Tryz.prog ga gl gc sb so sc ms N 1 c cs x) v,#[db ⟨N+4,0,none⟩ false],[⟨N+4,0,none⟩],[],none⟩:=by kernel_rfl
theorem Ih (A l q:Nat):mute Tryz.prog 8 (aZ (kP Tryz.prog ga gl gc sb so sc ms N 1 c cs x) (.slice (some ⟨A,0,none⟩) l q))=true:=by kernel_rfl
theorem L9 (A l q:Nat):aL Tryz.prog 8 (aZ (kP Tryz.prog ga gl gc sb so sc ms N 1 c cs x) (.slice (some ⟨A,0,none⟩) l q))={frame:=c.finish (.slice (some ⟨A,0,none⟩) l q),callers:=cs,status:= .running,dying:=none}:=by kernel_rfl
theorem Ii:mute Tryz.prog 3 (DK Tryz.prog ga gl gc sb so sc ms N 2 c cs x)=true:=by kernel_rfl
theorem Ij (v:Value):bn Tryz.prog v none (kP Tryz.prog ga gl gc sb so sc ms N 2 c cs x)=some ⟨aZ (kP Tryz.prog ga gl gc sb so sc ms N 2 c cs x) v,#[db ⟨N+4,0,none⟩ false],[⟨N+4,0,none⟩],[],none⟩:=by kernel_rfl
theorem Ik (A l q:Nat):mute Tryz.prog 8 (aZ (kP Tryz.prog ga gl gc sb so sc ms N 2 c cs x) (.slice (some ⟨A,0,none⟩) l q))=true:=by kernel_rfl
theorem L_ (A l q:Nat):aL Tryz.prog 8 (aZ (kP Tryz.prog ga gl gc sb so sc ms N 2 c cs x) (.slice (some ⟨A,0,none⟩) l q))={frame:=c.finish (.slice (some ⟨A,0,none⟩) l q),callers:=cs,status:= .running,dying:=none}:=by kernel_rfl
theorem Il:mute Tryz.prog 3 (DK Tryz.prog ga gl gc sb so sc ms N 3 c cs x)=true:=by kernel_rfl
theorem Im (v:Value):bn Tryz.prog v none (kP Tryz.prog ga gl gc sb so sc ms N 3 c cs x)=some ⟨aZ (kP Tryz.prog ga gl gc sb so sc ms N 3 c cs x) v,#[db ⟨N+4,0,none⟩ false],[⟨N+4,0,none⟩],[],none⟩:=by kernel_rfl
theorem Io (A l q:Nat):mute Tryz.prog 8 (aZ (kP Tryz.prog ga gl gc sb so sc ms N 3 c cs x) (.slice (some ⟨A,0,none⟩) l q))=true:=by kernel_rfl
theorem L' (A l q:Nat):aL Tryz.prog 8 (aZ (kP Tryz.prog ga gl gc sb so sc ms N 3 c cs x) (.slice (some ⟨A,0,none⟩) l q))={frame:=c.finish (.slice (some ⟨A,0,none⟩) l q),callers:=cs,status:= .running,dying:=none}:=by kernel_rfl
theorem Ip:mute Tryz.prog 3 (DK Tryz.prog ga gl gc sb so sc ms N 4 c cs x)=true:=by kernel_rfl
theorem Iq (v:Value):bn Tryz.prog v none (kP Tryz.prog ga gl gc sb so sc ms N 4 c cs x)=some ⟨aZ (kP Tryz.prog ga gl gc sb so sc ms N 4 c cs x) v,#[db ⟨N+4,0,none⟩ false],[⟨N+4,0,none⟩],[],none⟩:=by kernel_rfl
theorem Ir (A l q:Nat):mute Tryz.prog 8 (aZ (kP Tryz.prog ga gl gc sb so sc ms N 4 c cs x) (.slice (some ⟨A,0,none⟩) l q))=true:=by kernel_rfl
theorem Mc (A l q:Nat):aL Tryz.prog 8 (aZ (kP Tryz.prog ga gl gc sb so sc ms N 4 c cs x) (.slice (some ⟨A,0,none⟩) l q))={frame:=c.finish (.slice (some ⟨A,0,none⟩) l q),callers:=cs,status:= .running,dying:=none}:=by kernel_rfl
theorem Is:mute Tryz.prog 3 (DK Tryz.prog ga gl gc sb so sc ms N 5 c cs x)=true:=by kernel_rfl
theorem It (v:Value):bn Tryz.prog v none (kP Tryz.prog ga gl gc sb so sc ms N 5 c cs x)=some ⟨aZ (kP Tryz.prog ga gl gc sb so sc ms N 5 c cs x) v,#[db ⟨N+4,0,none⟩ false],[⟨N+4,0,none⟩],[],none⟩:=by kernel_rfl
theorem Iu (A l q:Nat):mute Tryz.prog 8 (aZ (kP Tryz.prog ga gl gc sb so sc ms N 5 c cs x) (.slice (some ⟨A,0,none⟩) l q))=true:=by kernel_rfl
theorem Md (A l q:Nat):aL Tryz.prog 8 (aZ (kP Tryz.prog ga gl gc sb so sc ms N 5 c cs x) (.slice (some ⟨A,0,none⟩) l q))={frame:=c.finish (.slice (some ⟨A,0,none⟩) l q),callers:=cs,status:= .running,dying:=none}:=by kernel_rfl
end
section
variable(ga:Addr)(gl gc sb so sc:Nat)(ms:Int)(N n:Nat)(c:Frame)(cs:List Frame)(x:Nat→Value)(r1 r2:Nat)
theorem TF (h1:1≤n)(h5:n≤5):∃z:Array Value,z.size=5*n∧cT Tryz.prog (N+3) (DI Tryz.prog ga gl gc sb so sc ms N n c cs)=some (vJ Tryz.prog ga gl gc sb so sc ms N n c cs,#[],.cells z 170):=by
 obtain rfl|rfl|rfl|rfl|rfl:n=1∨n=2∨n=3∨n=4∨n=5:=by omega
 ·exact⟨_,by rfl,LI ga gl gc sb so sc ms N c cs⟩
 ·exact⟨_,by rfl,LN ga gl gc sb so sc ms N c cs⟩
 ·exact⟨_,by rfl,LU ga gl gc sb so sc ms N c cs⟩
 ·exact⟨_,by rfl,LZ ga gl gc sb so sc ms N c cs⟩
 ·exact⟨_,by rfl,L4 ga gl gc sb so sc ms N c cs⟩
theorem TG (h1:1≤n)(h5:n≤5):cT Tryz.prog (N+4) (vJ Tryz.prog ga gl gc sb so sc ms N n c cs)=some (jG Tryz.prog ga gl gc sb so sc ms N n c cs,#[],.cells #[.slice none 0 0] 166):=by
 obtain rfl|rfl|rfl|rfl|rfl:n=1∨n=2∨n=3∨n=4∨n=5:=by omega
 ·exact LJ ga gl gc sb so sc ms N c cs
 ·exact LO ga gl gc sb so sc ms N c cs
 ·exact LV ga gl gc sb so sc ms N c cs
 ·exact L0 ga gl gc sb so sc ms N c cs
 ·exact L5 ga gl gc sb so sc ms N c cs
theorem TH (h1:1≤n)(h5:n≤5):jQ Tryz.prog (jG Tryz.prog ga gl gc sb so sc ms N n c cs)=some (sx Tryz.prog (jG Tryz.prog ga gl gc sb so sc ms N n c cs),#[db ⟨N+4,0,none⟩ true],[(⟨N+4,0,none⟩,.slice (some ⟨N+3,0,none⟩) n n)]):=by
 obtain rfl|rfl|rfl|rfl|rfl:n=1∨n=2∨n=3∨n=4∨n=5:=by omega
 ·exact LK ga gl gc sb so sc ms N c cs
 ·exact LP ga gl gc sb so sc ms N c cs
 ·exact LW ga gl gc sb so sc ms N c cs
 ·exact L1 ga gl gc sb so sc ms N c cs
 ·exact L6 ga gl gc sb so sc ms N c cs
theorem Qp (h1:1≤n)(h5:n≤5):mute Tryz.prog 3 (sx Tryz.prog (jG Tryz.prog ga gl gc sb so sc ms N n c cs))=true:=by
 obtain rfl|rfl|rfl|rfl|rfl:n=1∨n=2∨n=3∨n=4∨n=5:=by omega
 ·exact HD ga gl gc sb so sc ms N c cs
 ·exact HI ga gl gc sb so sc ms N c cs
 ·exact HM ga gl gc sb so sc ms N c cs
 ·exact HR ga gl gc sb so sc ms N c cs
 ·exact HW ga gl gc sb so sc ms N c cs
theorem TI (h1:1≤n)(h5:n≤5):cT Tryz.prog (N+5) (lR Tryz.prog ga gl gc sb so sc ms N n c cs)=some (nx Tryz.prog (N+5) (lR Tryz.prog ga gl gc sb so sc ms N n c cs),#[],.cells #[.int .u64 0,.int .u32 0] 231):=by
 obtain rfl|rfl|rfl|rfl|rfl:n=1∨n=2∨n=3∨n=4∨n=5:=by omega
 ·exact LL ga gl gc sb so sc ms N c cs
 ·exact LQ ga gl gc sb so sc ms N c cs
 ·exact LX ga gl gc sb so sc ms N c cs
 ·exact L2 ga gl gc sb so sc ms N c cs
 ·exact L7 ga gl gc sb so sc ms N c cs
theorem Qq (h1:1≤n)(h5:n≤5):mute Tryz.prog 10 (nx Tryz.prog (N+5) (lR Tryz.prog ga gl gc sb so sc ms N n c cs))=true:=by
 obtain rfl|rfl|rfl|rfl|rfl:n=1∨n=2∨n=3∨n=4∨n=5:=by omega
 ·exact HF ga gl gc sb so sc ms N c cs
 ·exact HJ ga gl gc sb so sc ms N c cs
 ·exact HN ga gl gc sb so sc ms N c cs
 ·exact HT ga gl gc sb so sc ms N c cs
 ·exact HX ga gl gc sb so sc ms N c cs
theorem Qr (h1:1≤n)(h5:n≤5):DJ Tryz.prog ga gl gc sb so sc ms N n c cs=cJ Tryz.prog ga gl gc sb so sc ms N n c cs ((0:Nat):Int) x0 (cN Tryz.prog):=by
 obtain rfl|rfl|rfl|rfl|rfl:n=1∨n=2∨n=3∨n=4∨n=5:=by omega
 ·exact HG ga gl gc sb so sc ms N c cs
 ·exact HK ga gl gc sb so sc ms N c cs
 ·exact HO ga gl gc sb so sc ms N c cs
 ·exact HU ga gl gc sb so sc ms N c cs
 ·exact HY ga gl gc sb so sc ms N c cs
theorem TL (h1:1≤n)(h5:n≤5):mute Tryz.prog 10 (cJ Tryz.prog ga gl gc sb so sc ms N n c cs n x (cN Tryz.prog))=true:=by
 obtain rfl|rfl|rfl|rfl|rfl:n=1∨n=2∨n=3∨n=4∨n=5:=by omega
 ·exact LM ga gl gc sb so sc ms N c cs x
 ·exact LS ga gl gc sb so sc ms N c cs x
 ·exact LY ga gl gc sb so sc ms N c cs x
 ·exact L3 ga gl gc sb so sc ms N c cs x
 ·exact L8 ga gl gc sb so sc ms N c cs x
theorem Qs (h1:1≤n)(h5:n≤5):aL Tryz.prog 10 (cJ Tryz.prog ga gl gc sb so sc ms N n c cs n x (cN Tryz.prog))=Dt Tryz.prog (N+5) (Hy Tryz.prog ga gl gc sb so sc ms N n c cs x) (xE Tryz.prog ga gl gc sb so sc ms N n c cs):=by
 obtain rfl|rfl|rfl|rfl|rfl:n=1∨n=2∨n=3∨n=4∨n=5:=by omega
 ·exact HH ga gl gc sb so sc ms N c cs x
 ·exact HL ga gl gc sb so sc ms N c cs x
 ·exact HP ga gl gc sb so sc ms N c cs x
 ·exact HV ga gl gc sb so sc ms N c cs x
 ·exact H0 ga gl gc sb so sc ms N c cs x
theorem Qt (h1:1≤n)(h5:n≤5):mute Tryz.prog 3 (DK Tryz.prog ga gl gc sb so sc ms N n c cs x)=true:=by
 obtain rfl|rfl|rfl|rfl|rfl:n=1∨n=2∨n=3∨n=4∨n=5:=by omega
 ·exact Ie ga gl gc sb so sc ms N c cs x
 ·exact Ii ga gl gc sb so sc ms N c cs x
 ·exact Il ga gl gc sb so sc ms N c cs x
 ·exact Ip ga gl gc sb so sc ms N c cs x
 ·exact Is ga gl gc sb so sc ms N c cs x
theorem Qu (h1:1≤n)(h5:n≤5)(v:Value):bn Tryz.prog v none (kP Tryz.prog ga gl gc sb so sc ms N n c cs x)=some ⟨aZ (kP Tryz.prog ga gl gc sb so sc ms N n c cs x) v,#[db ⟨N+4,0,none⟩ false],[⟨N+4,0,none⟩],[],none⟩:=by
 obtain rfl|rfl|rfl|rfl|rfl:n=1∨n=2∨n=3∨n=4∨n=5:=by omega
 ·exact Ig ga gl gc sb so sc ms N c cs x v
 ·exact Ij ga gl gc sb so sc ms N c cs x v
 ·exact Im ga gl gc sb so sc ms N c cs x v
 ·exact Iq ga gl gc sb so sc ms N c cs x v
 ·exact It ga gl gc sb so sc ms N c cs x v
theorem Qv (h1:1≤n)(h5:n≤5)(A l q:Nat):mute Tryz.prog 8 (aZ (kP Tryz.prog ga gl gc sb so sc ms N n c cs x) (.slice (some ⟨A,0,none⟩) l q))=true:=by
 obtain rfl|rfl|rfl|rfl|rfl:n=1∨n=2∨n=3∨n=4∨n=5:=by omega
 ·exact Ih ga gl gc sb so sc ms N c cs x A l q
 ·exact Ik ga gl gc sb so sc ms N c cs x A l q
 ·exact Io ga gl gc sb so sc ms N c cs x A l q
 ·exact Ir ga gl gc sb so sc ms N c cs x A l q
 ·exact Iu ga gl gc sb so sc ms N c cs x A l q
theorem TM (h1:1≤n)(h5:n≤5)(A l q:Nat):aL Tryz.prog 8 (aZ (kP Tryz.prog ga gl gc sb so sc ms N n c cs x) (.slice (some ⟨A,0,none⟩) l q))={frame:=c.finish (.slice (some ⟨A,0,none⟩) l q),callers:=cs,status:= .running,dying:=none}:=by
 obtain rfl|rfl|rfl|rfl|rfl:n=1∨n=2∨n=3∨n=4∨n=5:=by omega
 ·exact L9 ga gl gc sb so sc ms N c cs x A l q
 ·exact L_ ga gl gc sb so sc ms N c cs x A l q
 ·exact L' ga gl gc sb so sc ms N c cs x A l q
 ·exact Mc ga gl gc sb so sc ms N c cs x A l q
 ·exact Md ga gl gc sb so sc ms N c cs x A l q
theorem TN (i:Nat)(hi:i<n)(h5:n≤5):mute Tryz.prog 13 (cJ Tryz.prog ga gl gc sb so sc ms N n c cs (i:Nat) x (cN Tryz.prog))=true:=by
 obtain rfl|rfl|rfl|rfl|rfl:n=1∨n=2∨n=3∨n=4∨n=5:=by omega
 ·obtain rfl:i=0:=by omega
  exact DL ga gl gc sb so sc ms N c cs x
 ·obtain rfl|rfl:i=0∨i=1:=by omega
  ·exact DO ga gl gc sb so sc ms N c cs x
  ·exact DR ga gl gc sb so sc ms N c cs x
 ·obtain rfl|rfl|rfl:i=0∨i=1∨i=2:=by omega
  ·exact DT ga gl gc sb so sc ms N c cs x
  ·exact DV ga gl gc sb so sc ms N c cs x
  ·exact DX ga gl gc sb so sc ms N c cs x
 ·obtain rfl|rfl|rfl|rfl:i=0∨i=1∨i=2∨i=3:=by omega
  ·exact DZ ga gl gc sb so sc ms N c cs x
  ·exact D5 ga gl gc sb so sc ms N c cs x
  ·exact D7 ga gl gc sb so sc ms N c cs x
  ·exact D9 ga gl gc sb so sc ms N c cs x
 ·obtain rfl|rfl|rfl|rfl|rfl:i=0∨i=1∨i=2∨i=3∨i=4:=by omega
  ·exact Ea ga gl gc sb so sc ms N c cs x
  ·exact Ec ga gl gc sb so sc ms N c cs x
  ·exact Ee ga gl gc sb so sc ms N c cs x
  ·exact Eg ga gl gc sb so sc ms N c cs x
  ·exact Ei ga gl gc sb so sc ms N c cs x
theorem TO (i:Nat)(hi:i<n)(h5:n≤5)(g:Int):fB Tryz.prog (.int .i64 g) (aL Tryz.prog 13 (cJ Tryz.prog ga gl gc sb so sc ms N n c cs (i:Nat) x (cN Tryz.prog)))=some (pG Tryz.prog ga gl gc sb so sc ms N n c cs (i:Nat) (xl x (i:Nat) ⟨sb,so+i,none⟩ g),#[db ⟨sb,so+i,none⟩ false],[⟨sb,so+i,none⟩]):=by
 obtain rfl|rfl|rfl|rfl|rfl:n=1∨n=2∨n=3∨n=4∨n=5:=by omega
 ·obtain rfl:i=0:=by omega
  exact DN ga gl gc sb so sc ms N c cs x g
 ·obtain rfl|rfl:i=0∨i=1:=by omega
  ·exact DQ ga gl gc sb so sc ms N c cs x g
  ·exact DS ga gl gc sb so sc ms N c cs x g
 ·obtain rfl|rfl|rfl:i=0∨i=1∨i=2:=by omega
  ·exact DU ga gl gc sb so sc ms N c cs x g
  ·exact DW ga gl gc sb so sc ms N c cs x g
  ·exact DY ga gl gc sb so sc ms N c cs x g
 ·obtain rfl|rfl|rfl|rfl:i=0∨i=1∨i=2∨i=3:=by omega
  ·exact D4 ga gl gc sb so sc ms N c cs x g
  ·exact D6 ga gl gc sb so sc ms N c cs x g
  ·exact D8 ga gl gc sb so sc ms N c cs x g
  ·exact D_ ga gl gc sb so sc ms N c cs x g
 ·obtain rfl|rfl|rfl|rfl|rfl:i=0∨i=1∨i=2∨i=3∨i=4:=by omega
  ·exact Eb ga gl gc sb so sc ms N c cs x g
  ·exact Ed ga gl gc sb so sc ms N c cs x g
  ·exact Ef ga gl gc sb so sc ms N c cs x g
  ·exact Eh ga gl gc sb so sc ms N c cs x g
  ·exact Ej ga gl gc sb so sc ms N c cs x g
theorem Qw (i:Nat)(hi:i<5)(y:Nat→Value)(a:Addr)(g:Int):mute Tryz.prog 7 (oz Tryz.prog ga gl gc sb so sc ms N n c cs (i:Nat) (xl y (i:Nat) a g) r1 r2)=true:=by
 obtain rfl|rfl|rfl|rfl|rfl:i=0∨i=1∨i=2∨i=3∨i=4:=by omega
 ·exact H4 ga gl gc sb so sc ms N n c cs r1 r2 y a g
 ·exact H6 ga gl gc sb so sc ms N n c cs r1 r2 y a g
 ·exact H9 ga gl gc sb so sc ms N n c cs r1 r2 y a g
 ·exact H' ga gl gc sb so sc ms N n c cs r1 r2 y a g
 ·exact Ib ga gl gc sb so sc ms N n c cs r1 r2 y a g
theorem Qx (i:Nat)(hi:i<5)(y:Nat→Value)(a:Addr)(g:Int):∃x',aL Tryz.prog 7 (oz Tryz.prog ga gl gc sb so sc ms N n c cs (i:Nat) (xl y (i:Nat) a g) r1 r2)=cJ Tryz.prog ga gl gc sb so sc ms N n c cs ((i+1:Nat):Int) x' (cN Tryz.prog):=by
 obtain rfl|rfl|rfl|rfl|rfl:i=0∨i=1∨i=2∨i=3∨i=4:=by omega
 ·exact⟨_,H5 ga gl gc sb so sc ms N n c cs r1 r2 y a g⟩
 ·exact⟨_,H7 ga gl gc sb so sc ms N n c cs r1 r2 y a g⟩
 ·exact⟨_,H_ ga gl gc sb so sc ms N n c cs r1 r2 y a g⟩
 ·exact⟨_,Ia ga gl gc sb so sc ms N n c cs r1 r2 y a g⟩
 ·exact⟨_,Ic ga gl gc sb so sc ms N n c cs r1 r2 y a g⟩
end
end Go.Proofs.YtlhohdjniaebbaaGreat.Sr
