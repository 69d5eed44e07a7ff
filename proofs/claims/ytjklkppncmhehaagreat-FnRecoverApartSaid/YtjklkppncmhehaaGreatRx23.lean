/-
What is proved: the starter's way through impl.entriesOf and impl.ask: reckoned by the kernel: which steps are silent, which touch memory. No condition.
-/
import Derived.Test.YtjklkppncmhehaaGreatRx22
import Derived.Test.YtjklkppncmhehaaGreatRx10
import Derived.Test.YtjklkppncmhehaaGreatRx17
import Derived.Test.YtjklkppncmhehaaGreatRx18
set_option linter.unusedVariables false
set_option linter.unusedSimpArgs false
namespace Go.Proofs.YtjklkppncmhehaaGreat.Sr
open Go Go.Conc
def nx (P:Program)(r:Nat)(g:Goroutine):Goroutine:=match dh P r g with|some (g',_)=>g'|none=>g
def sx (P:Program)(g:Goroutine):Goroutine:=match j_ P g with|some (g',_)=>g'|none=>g
def UY (P:Program)(ga:Addr)(gl gc sb so sc:Nat)(ms:Int)(N n:Nat)(c:Frame)(cs:List Frame):Goroutine:={frame:=Frame.enter P 69 #[.slice (some ga) gl gc,.slice (some ⟨sb,so,none⟩) n sc,.int .i64 ms] .normal,callers:=c::cs,status:= .running,dying:=none}
def Lj (P:Program)(ga:Addr)(gl gc sb so sc:Nat)(ms:Int)(N n:Nat)(c:Frame)(cs:List Frame):Goroutine:=aN P 2 (UY P ga gl gc sb so sc ms N n c cs)
def H2 (P:Program)(ga:Addr)(gl gc sb so sc:Nat)(ms:Int)(N n:Nat)(c:Frame)(cs:List Frame):Goroutine:=nx P N (Lj P ga gl gc sb so sc ms N n c cs)
def Px (P:Program)(ga:Addr)(gl gc sb so sc:Nat)(ms:Int)(N n:Nat)(c:Frame)(cs:List Frame):Goroutine:=aN P 9 (nx P (N+1) (H2 P ga gl gc sb so sc ms N n c cs))
def D6 (P:Program)(ga:Addr)(gl gc sb so sc:Nat)(ms:Int)(N n:Nat)(c:Frame)(cs:List Frame):Goroutine:=aN P 6 (nx P (N+2) (Px P ga gl gc sb so sc ms N n c cs))
def wo (P:Program)(ga:Addr)(gl gc sb so sc:Nat)(ms:Int)(N n:Nat)(c:Frame)(cs:List Frame):Goroutine:=nx P (N+3) (D6 P ga gl gc sb so sc ms N n c cs)
def jU (P:Program)(ga:Addr)(gl gc sb so sc:Nat)(ms:Int)(N n:Nat)(c:Frame)(cs:List Frame):Goroutine:=nx P (N+4) (wo P ga gl gc sb so sc ms N n c cs)
def mK (P:Program)(ga:Addr)(gl gc sb so sc:Nat)(ms:Int)(N n:Nat)(c:Frame)(cs:List Frame):Goroutine:=aN P 3 (sx P (jU P ga gl gc sb so sc ms N n c cs))
def D7 (P:Program)(ga:Addr)(gl gc sb so sc:Nat)(ms:Int)(N n:Nat)(c:Frame)(cs:List Frame):Goroutine:=aN P 10 (nx P (N+5) (mK P ga gl gc sb so sc ms N n c cs))
def Zq:Addr:=⟨0,0,none⟩
def f51 (P:Program)(ga:Addr)(gl gc sb so sc:Nat)(ms:Int)(N n:Nat):Frame:=match(D6 P ga gl gc sb so sc ms N n default []).callers with
 |f::_=>f
 |[]=>default
def H3 (N:Nat):Value:= .func (.func 121) #[] #[ptr N,ptr (N+1)]
def lpF (ga:Addr)(gl gc sb so sc:Nat)(ms:Int)(N n:Nat)(i:Int)(x:Nat→Value)(todo:List Item):Frame:=
 {fn:=120,tmps:= #[.slice (some ⟨sb,so,none⟩) n sc,H3 N,undef,ptr (N+2),.slice none 0 0,ptr (N+4),ptr (N+5),x 0,x 1,.slice (some ⟨sb,so,none⟩) n sc,.int .i64 n,.slice (some ⟨N+3,0,none⟩) n n,.slice (some ⟨sb,so,none⟩) n sc,.int .i64 n,.int .i64 i,
   x 2,x 3,x 4,x 5,x 6,x 7,x 8,x 9,x 10],todo,defers:=[],mode:= .run,kind:= .normal}
def yd (P:Program)(ga:Addr)(gl gc sb so sc:Nat)(ms:Int)(N n:Nat)(c:Frame)(cs:List Frame):List Frame:=f51 P ga gl gc sb so sc ms N n::c::cs
def cV (P:Program)(ga:Addr)(gl gc sb so sc:Nat)(ms:Int)(N n:Nat)(c:Frame)(cs:List Frame)(i:Int)(x:Nat→Value)(todo:List Item):Goroutine:={frame:=lpF ga gl gc sb so sc ms N n i x todo,callers:=yd P ga gl gc sb so sc ms N n c cs,status:= .running,dying:=none}
def cZ (P:Program):List Item:=(D7 P Zq 0 0 0 0 0 0 0 1 default []).frame.todo
def lqT (P:Program):List Item:=(bu (aN P 13 (D7 P Zq 0 0 0 0 0 0 0 1 default [])) (.int .i64 0)).frame.todo
def x0 (_:Nat):Value:=undef
def xl (x:Nat→Value)(i:Int)(a:Addr)(g:Int):Nat→Value
 |0=>x 0
 |1=>x 1
 |2=> .bool true
 |3=> .int .i64 i
 |4=> .pointer (some a)
 |5=> .int .i64 g
 |6=>x 6
 |7=>x 7
 |8=>x 8
 |9=>x 9
 |_=>x 10
def qu (P:Program)(ga:Addr)(gl gc sb so sc:Nat)(ms:Int)(N n:Nat)(c:Frame)(cs:List Frame)(i:Int)(x:Nat→Value):Goroutine:=cV P ga gl gc sb so sc ms N n c cs i x (lqT P)
def Xb (P:Program)(ga:Addr)(gl gc sb so sc:Nat)(ms:Int)(N n:Nat)(c:Frame)(cs:List Frame)(i:Int)(x:Nat→Value)(r1:Nat):Goroutine:=nx P r1 (qu P ga gl gc sb so sc ms N n c cs i x)
def Xc (P:Program)(ga:Addr)(gl gc sb so sc:Nat)(ms:Int)(N n:Nat)(c:Frame)(cs:List Frame)(i:Int)(x:Nat→Value)(r1 r2:Nat):Goroutine:=nx P r2 (Xb P ga gl gc sb so sc ms N n c cs i x r1)
def Xd (P:Program)(ga:Addr)(gl gc sb so sc:Nat)(ms:Int)(N n:Nat)(c:Frame)(cs:List Frame)(i:Int)(x:Nat→Value)(r1 r2:Nat):Goroutine:=sx P (Xc P ga gl gc sb so sc ms N n c cs i x r1 r2)
def UZ (P:Program)(ga:Addr)(gl gc sb so sc:Nat)(ms:Int)(N n:Nat)(c:Frame)(cs:List Frame)(i:Int)(x:Nat→Value)(r1 r2:Nat):Goroutine:=sx P (Xd P ga gl gc sb so sc ms N n c cs i x r1 r2)
def Xe (P:Program)(ga:Addr)(gl gc sb so sc:Nat)(ms:Int)(N n:Nat)(c:Frame)(cs:List Frame)(i:Int)(x:Nat→Value)(r1 r2:Nat):Frame:=(aN P 3 (UZ P ga gl gc sb so sc ms N n c cs i x r1 r2)).frame
def U0 (P:Program)(ga:Addr)(gl gc sb so sc:Nat)(ms:Int)(N n:Nat)(c:Frame)(cs:List Frame)(i:Int)(x:Nat→Value)(r1 r2:Nat):Goroutine:=lZ (Xe P ga gl gc sb so sc ms N n c cs i x r1 r2) (yd P ga gl gc sb so sc ms N n c cs)
def px (P:Program)(g:Goroutine):Goroutine:=match DZ P g with|some (g',_)=>g'|none=>g
def U1 (P:Program)(ga:Addr)(gl gc sb so sc:Nat)(ms:Int)(N n:Nat)(c:Frame)(cs:List Frame)(i:Int)(x:Nat→Value)(r1 r2:Nat):Goroutine:=aN P 3 (U0 P ga gl gc sb so sc ms N n c cs i x r1 r2)
def pf (P:Program)(ga:Addr)(gl gc sb so sc:Nat)(ms:Int)(N n:Nat)(c:Frame)(cs:List Frame)(i:Int)(x:Nat→Value)(r1 r2:Nat):Goroutine:=px P (U1 P ga gl gc sb so sc ms N n c cs i x r1 r2)
def xn (g:Goroutine):Nat→Value
 |0=>g.frame.tmps.getD 7 undef
 |1=>g.frame.tmps.getD 8 undef
 |k+2=>g.frame.tmps.getD (k+15) undef
def H4 (P:Program)(ga:Addr)(gl gc sb so sc:Nat)(ms:Int)(N n:Nat)(c:Frame)(cs:List Frame)(x:Nat→Value):Frame:=(aN P 9 (cV P ga gl gc sb so sc ms N n c cs n x (cZ P))).frame
def D8 (P:Program)(ga:Addr)(gl gc sb so sc:Nat)(ms:Int)(N n:Nat)(c:Frame)(cs:List Frame)(x:Nat→Value):Goroutine:=lZ (H4 P ga gl gc sb so sc ms N n c cs x) (yd P ga gl gc sb so sc ms N n c cs)
def lu (P:Program)(ga:Addr)(gl gc sb so sc:Nat)(ms:Int)(N n:Nat)(c:Frame)(cs:List Frame)(x:Nat→Value):Goroutine:=aN P 3 (D8 P ga gl gc sb so sc ms N n c cs x)
section
variable(ga:Addr)(gl gc sb so sc:Nat)(ms:Int)(N n:Nat)(c:Frame)(cs:List Frame)(i:Int)(x:Nat→Value)(r1 r2:Nat)
set_option maxRecDepth 100000
theorem Py:mute Tryz.prog 2 (UY Tryz.prog ga gl gc sb so sc ms N n c cs)=true:=by kernel_rfl
theorem H5:dh Tryz.prog N (Lj Tryz.prog ga gl gc sb so sc ms N n c cs)=some (H2 Tryz.prog ga gl gc sb so sc ms N n c cs,#[],.cells #[.slice (some ga) gl gc] 23):=by kernel_rfl
theorem R2:dh Tryz.prog (N+1) (H2 Tryz.prog ga gl gc sb so sc ms N n c cs)=some (nx Tryz.prog (N+1) (H2 Tryz.prog ga gl gc sb so sc ms N n c cs),#[],.cells #[.int .i64 ms] 3):=by kernel_rfl
theorem Pz:mute Tryz.prog 9 (nx Tryz.prog (N+1) (H2 Tryz.prog ga gl gc sb so sc ms N n c cs))=true:=by kernel_rfl
theorem R3:dh Tryz.prog (N+2) (Px Tryz.prog ga gl gc sb so sc ms N n c cs)=some (nx Tryz.prog (N+2) (Px Tryz.prog ga gl gc sb so sc ms N n c cs),#[],.cells #[H3 N] 145):=by kernel_rfl
theorem PA:mute Tryz.prog 6 (nx Tryz.prog (N+2) (Px Tryz.prog ga gl gc sb so sc ms N n c cs))=true:=by kernel_rfl
theorem Ls:dh Tryz.prog (N+3) (D6 Tryz.prog ga gl gc sb so sc ms N 1 c cs)=some (wo Tryz.prog ga gl gc sb so sc ms N 1 c cs,#[],.cells #[.int .i64 0,.int .i64 0,.int .i64 0,.bool false,.bool false] 107):=by kernel_rfl
theorem Lu:dh Tryz.prog (N+4) (wo Tryz.prog ga gl gc sb so sc ms N 1 c cs)=some (jU Tryz.prog ga gl gc sb so sc ms N 1 c cs,#[],.cells #[.slice none 0 0] 104):=by kernel_rfl
theorem Lv:j_ Tryz.prog (jU Tryz.prog ga gl gc sb so sc ms N 1 c cs)=some (sx Tryz.prog (jU Tryz.prog ga gl gc sb so sc ms N 1 c cs),#[dq ⟨N+4,0,none⟩ true],[(⟨N+4,0,none⟩,.slice (some ⟨N+3,0,none⟩) 1 1)]):=by kernel_rfl
theorem H6:mute Tryz.prog 3 (sx Tryz.prog (jU Tryz.prog ga gl gc sb so sc ms N 1 c cs))=true:=by kernel_rfl
theorem Lw:dh Tryz.prog (N+5) (mK Tryz.prog ga gl gc sb so sc ms N 1 c cs)=some (nx Tryz.prog (N+5) (mK Tryz.prog ga gl gc sb so sc ms N 1 c cs),#[],.cells #[.int .u64 0,.int .u32 0] 191):=by kernel_rfl
theorem H7:mute Tryz.prog 10 (nx Tryz.prog (N+5) (mK Tryz.prog ga gl gc sb so sc ms N 1 c cs))=true:=by kernel_rfl
theorem H9:D7 Tryz.prog ga gl gc sb so sc ms N 1 c cs=cV Tryz.prog ga gl gc sb so sc ms N 1 c cs 0 x0 (cZ Tryz.prog):=by kernel_rfl
theorem D9:mute Tryz.prog 13 (cV Tryz.prog ga gl gc sb so sc ms N 1 c cs 0 x (cZ Tryz.prog))=true:=by kernel_rfl
theorem D_ (g:Int):fJ Tryz.prog (.int .i64 g) (aN Tryz.prog 13 (cV Tryz.prog ga gl gc sb so sc ms N 1 c cs 0 x (cZ Tryz.prog)))=some (qu Tryz.prog ga gl gc sb so sc ms N 1 c cs 0 (xl x 0 ⟨sb,so+0,none⟩ g),#[dq ⟨sb,so+0,none⟩ false],[⟨sb,so+0,none⟩]):=by kernel_rfl
theorem Lx:mute Tryz.prog 10 (cV Tryz.prog ga gl gc sb so sc ms N 1 c cs 1 x (cZ Tryz.prog))=true:=by kernel_rfl
theorem H_:aN Tryz.prog 10 (cV Tryz.prog ga gl gc sb so sc ms N 1 c cs 1 x (cZ Tryz.prog))=DR Tryz.prog (N+5) (H4 Tryz.prog ga gl gc sb so sc ms N 1 c cs x) (yd Tryz.prog ga gl gc sb so sc ms N 1 c cs):=by kernel_rfl
theorem Ly:dh Tryz.prog (N+3) (D6 Tryz.prog ga gl gc sb so sc ms N 2 c cs)=some (wo Tryz.prog ga gl gc sb so sc ms N 2 c cs,#[],.cells #[.int .i64 0,.int .i64 0,.int .i64 0,.bool false,.bool false,.int .i64 0,.int .i64 0,.int .i64 0,.bool false,.bool false] 107):=by kernel_rfl
theorem Lz:dh Tryz.prog (N+4) (wo Tryz.prog ga gl gc sb so sc ms N 2 c cs)=some (jU Tryz.prog ga gl gc sb so sc ms N 2 c cs,#[],.cells #[.slice none 0 0] 104):=by kernel_rfl
theorem LA:j_ Tryz.prog (jU Tryz.prog ga gl gc sb so sc ms N 2 c cs)=some (sx Tryz.prog (jU Tryz.prog ga gl gc sb so sc ms N 2 c cs),#[dq ⟨N+4,0,none⟩ true],[(⟨N+4,0,none⟩,.slice (some ⟨N+3,0,none⟩) 2 2)]):=by kernel_rfl
theorem H':mute Tryz.prog 3 (sx Tryz.prog (jU Tryz.prog ga gl gc sb so sc ms N 2 c cs))=true:=by kernel_rfl
theorem LB:dh Tryz.prog (N+5) (mK Tryz.prog ga gl gc sb so sc ms N 2 c cs)=some (nx Tryz.prog (N+5) (mK Tryz.prog ga gl gc sb so sc ms N 2 c cs),#[],.cells #[.int .u64 0,.int .u32 0] 191):=by kernel_rfl
theorem Ia:mute Tryz.prog 10 (nx Tryz.prog (N+5) (mK Tryz.prog ga gl gc sb so sc ms N 2 c cs))=true:=by kernel_rfl
theorem Ib:D7 Tryz.prog ga gl gc sb so sc ms N 2 c cs=cV Tryz.prog ga gl gc sb so sc ms N 2 c cs 0 x0 (cZ Tryz.prog):=by kernel_rfl
theorem Ea:mute Tryz.prog 13 (cV Tryz.prog ga gl gc sb so sc ms N 2 c cs 0 x (cZ Tryz.prog))=true:=by kernel_rfl
theorem Eb (g:Int):fJ Tryz.prog (.int .i64 g) (aN Tryz.prog 13 (cV Tryz.prog ga gl gc sb so sc ms N 2 c cs 0 x (cZ Tryz.prog)))=some (qu Tryz.prog ga gl gc sb so sc ms N 2 c cs 0 (xl x 0 ⟨sb,so+0,none⟩ g),#[dq ⟨sb,so+0,none⟩ false],[⟨sb,so+0,none⟩]):=by kernel_rfl
theorem Ec:mute Tryz.prog 13 (cV Tryz.prog ga gl gc sb so sc ms N 2 c cs 1 x (cZ Tryz.prog))=true:=by kernel_rfl
theorem Ed (g:Int):fJ Tryz.prog (.int .i64 g) (aN Tryz.prog 13 (cV Tryz.prog ga gl gc sb so sc ms N 2 c cs 1 x (cZ Tryz.prog)))=some (qu Tryz.prog ga gl gc sb so sc ms N 2 c cs 1 (xl x 1 ⟨sb,so+1,none⟩ g),#[dq ⟨sb,so+1,none⟩ false],[⟨sb,so+1,none⟩]):=by kernel_rfl
theorem LC:mute Tryz.prog 10 (cV Tryz.prog ga gl gc sb so sc ms N 2 c cs 2 x (cZ Tryz.prog))=true:=by kernel_rfl
theorem Ic:aN Tryz.prog 10 (cV Tryz.prog ga gl gc sb so sc ms N 2 c cs 2 x (cZ Tryz.prog))=DR Tryz.prog (N+5) (H4 Tryz.prog ga gl gc sb so sc ms N 2 c cs x) (yd Tryz.prog ga gl gc sb so sc ms N 2 c cs):=by kernel_rfl
theorem LD:dh Tryz.prog (N+3) (D6 Tryz.prog ga gl gc sb so sc ms N 3 c cs)=some (wo Tryz.prog ga gl gc sb so sc ms N 3 c cs,#[],.cells #[.int .i64 0,.int .i64 0,.int .i64 0,.bool false,.bool false,.int .i64 0,.int .i64 0,.int .i64 0,.bool false,.bool false,.int .i64 0,.int .i64 0,.int .i64 0,.bool false,.bool false] 107):=by kernel_rfl
theorem LF:dh Tryz.prog (N+4) (wo Tryz.prog ga gl gc sb so sc ms N 3 c cs)=some (jU Tryz.prog ga gl gc sb so sc ms N 3 c cs,#[],.cells #[.slice none 0 0] 104):=by kernel_rfl
theorem LG:j_ Tryz.prog (jU Tryz.prog ga gl gc sb so sc ms N 3 c cs)=some (sx Tryz.prog (jU Tryz.prog ga gl gc sb so sc ms N 3 c cs),#[dq ⟨N+4,0,none⟩ true],[(⟨N+4,0,none⟩,.slice (some ⟨N+3,0,none⟩) 3 3)]):=by kernel_rfl
theorem Ie:mute Tryz.prog 3 (sx Tryz.prog (jU Tryz.prog ga gl gc sb so sc ms N 3 c cs))=true:=by kernel_rfl
theorem LH:dh Tryz.prog (N+5) (mK Tryz.prog ga gl gc sb so sc ms N 3 c cs)=some (nx Tryz.prog (N+5) (mK Tryz.prog ga gl gc sb so sc ms N 3 c cs),#[],.cells #[.int .u64 0,.int .u32 0] 191):=by kernel_rfl
theorem Ig:mute Tryz.prog 10 (nx Tryz.prog (N+5) (mK Tryz.prog ga gl gc sb so sc ms N 3 c cs))=true:=by kernel_rfl
theorem Ih:D7 Tryz.prog ga gl gc sb so sc ms N 3 c cs=cV Tryz.prog ga gl gc sb so sc ms N 3 c cs 0 x0 (cZ Tryz.prog):=by kernel_rfl
theorem Ee:mute Tryz.prog 13 (cV Tryz.prog ga gl gc sb so sc ms N 3 c cs 0 x (cZ Tryz.prog))=true:=by kernel_rfl
theorem Ef (g:Int):fJ Tryz.prog (.int .i64 g) (aN Tryz.prog 13 (cV Tryz.prog ga gl gc sb so sc ms N 3 c cs 0 x (cZ Tryz.prog)))=some (qu Tryz.prog ga gl gc sb so sc ms N 3 c cs 0 (xl x 0 ⟨sb,so+0,none⟩ g),#[dq ⟨sb,so+0,none⟩ false],[⟨sb,so+0,none⟩]):=by kernel_rfl
theorem Eg:mute Tryz.prog 13 (cV Tryz.prog ga gl gc sb so sc ms N 3 c cs 1 x (cZ Tryz.prog))=true:=by kernel_rfl
theorem Eh (g:Int):fJ Tryz.prog (.int .i64 g) (aN Tryz.prog 13 (cV Tryz.prog ga gl gc sb so sc ms N 3 c cs 1 x (cZ Tryz.prog)))=some (qu Tryz.prog ga gl gc sb so sc ms N 3 c cs 1 (xl x 1 ⟨sb,so+1,none⟩ g),#[dq ⟨sb,so+1,none⟩ false],[⟨sb,so+1,none⟩]):=by kernel_rfl
theorem Ei:mute Tryz.prog 13 (cV Tryz.prog ga gl gc sb so sc ms N 3 c cs 2 x (cZ Tryz.prog))=true:=by kernel_rfl
theorem Ej (g:Int):fJ Tryz.prog (.int .i64 g) (aN Tryz.prog 13 (cV Tryz.prog ga gl gc sb so sc ms N 3 c cs 2 x (cZ Tryz.prog)))=some (qu Tryz.prog ga gl gc sb so sc ms N 3 c cs 2 (xl x 2 ⟨sb,so+2,none⟩ g),#[dq ⟨sb,so+2,none⟩ false],[⟨sb,so+2,none⟩]):=by kernel_rfl
theorem LI:mute Tryz.prog 10 (cV Tryz.prog ga gl gc sb so sc ms N 3 c cs 3 x (cZ Tryz.prog))=true:=by kernel_rfl
theorem Ii:aN Tryz.prog 10 (cV Tryz.prog ga gl gc sb so sc ms N 3 c cs 3 x (cZ Tryz.prog))=DR Tryz.prog (N+5) (H4 Tryz.prog ga gl gc sb so sc ms N 3 c cs x) (yd Tryz.prog ga gl gc sb so sc ms N 3 c cs):=by kernel_rfl
theorem LJ:dh Tryz.prog (N+3) (D6 Tryz.prog ga gl gc sb so sc ms N 4 c cs)=some (wo Tryz.prog ga gl gc sb so sc ms N 4 c cs,#[],.cells #[.int .i64 0,.int .i64 0,.int .i64 0,.bool false,.bool false,.int .i64 0,.int .i64 0,.int .i64 0,.bool false,.bool false,.int .i64 0,.int .i64 0,.int .i64 0,.bool false,.bool false,.int .i64 0,.int .i64 0,.int .i64 0,.bool false,.bool false] 107):=by kernel_rfl
theorem LK:dh Tryz.prog (N+4) (wo Tryz.prog ga gl gc sb so sc ms N 4 c cs)=some (jU Tryz.prog ga gl gc sb so sc ms N 4 c cs,#[],.cells #[.slice none 0 0] 104):=by kernel_rfl
theorem LL:j_ Tryz.prog (jU Tryz.prog ga gl gc sb so sc ms N 4 c cs)=some (sx Tryz.prog (jU Tryz.prog ga gl gc sb so sc ms N 4 c cs),#[dq ⟨N+4,0,none⟩ true],[(⟨N+4,0,none⟩,.slice (some ⟨N+3,0,none⟩) 4 4)]):=by kernel_rfl
theorem Ij:mute Tryz.prog 3 (sx Tryz.prog (jU Tryz.prog ga gl gc sb so sc ms N 4 c cs))=true:=by kernel_rfl
theorem LM:dh Tryz.prog (N+5) (mK Tryz.prog ga gl gc sb so sc ms N 4 c cs)=some (nx Tryz.prog (N+5) (mK Tryz.prog ga gl gc sb so sc ms N 4 c cs),#[],.cells #[.int .u64 0,.int .u32 0] 191):=by kernel_rfl
theorem Ik:mute Tryz.prog 10 (nx Tryz.prog (N+5) (mK Tryz.prog ga gl gc sb so sc ms N 4 c cs))=true:=by kernel_rfl
theorem Il:D7 Tryz.prog ga gl gc sb so sc ms N 4 c cs=cV Tryz.prog ga gl gc sb so sc ms N 4 c cs 0 x0 (cZ Tryz.prog):=by kernel_rfl
theorem Ek:mute Tryz.prog 13 (cV Tryz.prog ga gl gc sb so sc ms N 4 c cs 0 x (cZ Tryz.prog))=true:=by kernel_rfl
theorem El (g:Int):fJ Tryz.prog (.int .i64 g) (aN Tryz.prog 13 (cV Tryz.prog ga gl gc sb so sc ms N 4 c cs 0 x (cZ Tryz.prog)))=some (qu Tryz.prog ga gl gc sb so sc ms N 4 c cs 0 (xl x 0 ⟨sb,so+0,none⟩ g),#[dq ⟨sb,so+0,none⟩ false],[⟨sb,so+0,none⟩]):=by kernel_rfl
theorem Em:mute Tryz.prog 13 (cV Tryz.prog ga gl gc sb so sc ms N 4 c cs 1 x (cZ Tryz.prog))=true:=by kernel_rfl
theorem En (g:Int):fJ Tryz.prog (.int .i64 g) (aN Tryz.prog 13 (cV Tryz.prog ga gl gc sb so sc ms N 4 c cs 1 x (cZ Tryz.prog)))=some (qu Tryz.prog ga gl gc sb so sc ms N 4 c cs 1 (xl x 1 ⟨sb,so+1,none⟩ g),#[dq ⟨sb,so+1,none⟩ false],[⟨sb,so+1,none⟩]):=by kernel_rfl
theorem Eo:mute Tryz.prog 13 (cV Tryz.prog ga gl gc sb so sc ms N 4 c cs 2 x (cZ Tryz.prog))=true:=by kernel_rfl
theorem Ep (g:Int):fJ Tryz.prog (.int .i64 g) (aN Tryz.prog 13 (cV Tryz.prog ga gl gc sb so sc ms N 4 c cs 2 x (cZ Tryz.prog)))=some (qu Tryz.prog ga gl gc sb so sc ms N 4 c cs 2 (xl x 2 ⟨sb,so+2,none⟩ g),#[dq ⟨sb,so+2,none⟩ false],[⟨sb,so+2,none⟩]):=by kernel_rfl
theorem Er:mute Tryz.prog 13 (cV Tryz.prog ga gl gc sb so sc ms N 4 c cs 3 x (cZ Tryz.prog))=true:=by kernel_rfl
theorem Es (g:Int):fJ Tryz.prog (.int .i64 g) (aN Tryz.prog 13 (cV Tryz.prog ga gl gc sb so sc ms N 4 c cs 3 x (cZ Tryz.prog)))=some (qu Tryz.prog ga gl gc sb so sc ms N 4 c cs 3 (xl x 3 ⟨sb,so+3,none⟩ g),#[dq ⟨sb,so+3,none⟩ false],[⟨sb,so+3,none⟩]):=by kernel_rfl
theorem LN:mute Tryz.prog 10 (cV Tryz.prog ga gl gc sb so sc ms N 4 c cs 4 x (cZ Tryz.prog))=true:=by kernel_rfl
theorem Im:aN Tryz.prog 10 (cV Tryz.prog ga gl gc sb so sc ms N 4 c cs 4 x (cZ Tryz.prog))=DR Tryz.prog (N+5) (H4 Tryz.prog ga gl gc sb so sc ms N 4 c cs x) (yd Tryz.prog ga gl gc sb so sc ms N 4 c cs):=by kernel_rfl
theorem LO:dh Tryz.prog (N+3) (D6 Tryz.prog ga gl gc sb so sc ms N 5 c cs)=some (wo Tryz.prog ga gl gc sb so sc ms N 5 c cs,#[],.cells #[.int .i64 0,.int .i64 0,.int .i64 0,.bool false,.bool false,.int .i64 0,.int .i64 0,.int .i64 0,.bool false,.bool false,.int .i64 0,.int .i64 0,.int .i64 0,.bool false,.bool false,.int .i64 0,.int .i64 0,.int .i64 0,.bool false,.bool false,.int .i64 0,.int .i64 0,.int .i64 0,.bool false,.bool false] 107):=by kernel_rfl
theorem LP:dh Tryz.prog (N+4) (wo Tryz.prog ga gl gc sb so sc ms N 5 c cs)=some (jU Tryz.prog ga gl gc sb so sc ms N 5 c cs,#[],.cells #[.slice none 0 0] 104):=by kernel_rfl
theorem LQ:j_ Tryz.prog (jU Tryz.prog ga gl gc sb so sc ms N 5 c cs)=some (sx Tryz.prog (jU Tryz.prog ga gl gc sb so sc ms N 5 c cs),#[dq ⟨N+4,0,none⟩ true],[(⟨N+4,0,none⟩,.slice (some ⟨N+3,0,none⟩) 5 5)]):=by kernel_rfl
theorem Io:mute Tryz.prog 3 (sx Tryz.prog (jU Tryz.prog ga gl gc sb so sc ms N 5 c cs))=true:=by kernel_rfl
theorem LS:dh Tryz.prog (N+5) (mK Tryz.prog ga gl gc sb so sc ms N 5 c cs)=some (nx Tryz.prog (N+5) (mK Tryz.prog ga gl gc sb so sc ms N 5 c cs),#[],.cells #[.int .u64 0,.int .u32 0] 191):=by kernel_rfl
theorem Ip:mute Tryz.prog 10 (nx Tryz.prog (N+5) (mK Tryz.prog ga gl gc sb so sc ms N 5 c cs))=true:=by kernel_rfl
theorem Iq:D7 Tryz.prog ga gl gc sb so sc ms N 5 c cs=cV Tryz.prog ga gl gc sb so sc ms N 5 c cs 0 x0 (cZ Tryz.prog):=by kernel_rfl
theorem Et:mute Tryz.prog 13 (cV Tryz.prog ga gl gc sb so sc ms N 5 c cs 0 x (cZ Tryz.prog))=true:=by kernel_rfl
theorem Eu (g:Int):fJ Tryz.prog (.int .i64 g) (aN Tryz.prog 13 (cV Tryz.prog ga gl gc sb so sc ms N 5 c cs 0 x (cZ Tryz.prog)))=some (qu Tryz.prog ga gl gc sb so sc ms N 5 c cs 0 (xl x 0 ⟨sb,so+0,none⟩ g),#[dq ⟨sb,so+0,none⟩ false],[⟨sb,so+0,none⟩]):=by kernel_rfl
theorem Ev:mute Tryz.prog 13 (cV Tryz.prog ga gl gc sb so sc ms N 5 c cs 1 x (cZ Tryz.prog))=true:=by kernel_rfl
theorem Ew (g:Int):fJ Tryz.prog (.int .i64 g) (aN Tryz.prog 13 (cV Tryz.prog ga gl gc sb so sc ms N 5 c cs 1 x (cZ Tryz.prog)))=some (qu Tryz.prog ga gl gc sb so sc ms N 5 c cs 1 (xl x 1 ⟨sb,so+1,none⟩ g),#[dq ⟨sb,so+1,none⟩ false],[⟨sb,so+1,none⟩]):=by kernel_rfl
theorem Ex:mute Tryz.prog 13 (cV Tryz.prog ga gl gc sb so sc ms N 5 c cs 2 x (cZ Tryz.prog))=true:=by kernel_rfl
theorem Ey (g:Int):fJ Tryz.prog (.int .i64 g) (aN Tryz.prog 13 (cV Tryz.prog ga gl gc sb so sc ms N 5 c cs 2 x (cZ Tryz.prog)))=some (qu Tryz.prog ga gl gc sb so sc ms N 5 c cs 2 (xl x 2 ⟨sb,so+2,none⟩ g),#[dq ⟨sb,so+2,none⟩ false],[⟨sb,so+2,none⟩]):=by kernel_rfl
theorem Ez:mute Tryz.prog 13 (cV Tryz.prog ga gl gc sb so sc ms N 5 c cs 3 x (cZ Tryz.prog))=true:=by kernel_rfl
theorem EA (g:Int):fJ Tryz.prog (.int .i64 g) (aN Tryz.prog 13 (cV Tryz.prog ga gl gc sb so sc ms N 5 c cs 3 x (cZ Tryz.prog)))=some (qu Tryz.prog ga gl gc sb so sc ms N 5 c cs 3 (xl x 3 ⟨sb,so+3,none⟩ g),#[dq ⟨sb,so+3,none⟩ false],[⟨sb,so+3,none⟩]):=by kernel_rfl
theorem EB:mute Tryz.prog 13 (cV Tryz.prog ga gl gc sb so sc ms N 5 c cs 4 x (cZ Tryz.prog))=true:=by kernel_rfl
theorem EC (g:Int):fJ Tryz.prog (.int .i64 g) (aN Tryz.prog 13 (cV Tryz.prog ga gl gc sb so sc ms N 5 c cs 4 x (cZ Tryz.prog)))=some (qu Tryz.prog ga gl gc sb so sc ms N 5 c cs 4 (xl x 4 ⟨sb,so+4,none⟩ g),#[dq ⟨sb,so+4,none⟩ false],[⟨sb,so+4,none⟩]):=by kernel_rfl
theorem LU:mute Tryz.prog 10 (cV Tryz.prog ga gl gc sb so sc ms N 5 c cs 5 x (cZ Tryz.prog))=true:=by kernel_rfl
theorem Ir:aN Tryz.prog 10 (cV Tryz.prog ga gl gc sb so sc ms N 5 c cs 5 x (cZ Tryz.prog))=DR Tryz.prog (N+5) (H4 Tryz.prog ga gl gc sb so sc ms N 5 c cs x) (yd Tryz.prog ga gl gc sb so sc ms N 5 c cs):=by kernel_rfl
theorem Is:dh Tryz.prog r1 (qu Tryz.prog ga gl gc sb so sc ms N n c cs i x)=some (Xb Tryz.prog ga gl gc sb so sc ms N n c cs i x r1,#[],.cells #[.int .i64 0] 3):=by kernel_rfl
theorem It:dh Tryz.prog r2 (Xb Tryz.prog ga gl gc sb so sc ms N n c cs i x r1)=some (Xc Tryz.prog ga gl gc sb so sc ms N n c cs i x r1 r2,#[],.cells #[.int .i64 0] 3):=by kernel_rfl
theorem R4 (y:Nat→Value)(a:Addr)(g:Int):j_ Tryz.prog (Xc Tryz.prog ga gl gc sb so sc ms N n c cs i (xl y i a g) r1 r2)=some (Xd Tryz.prog ga gl gc sb so sc ms N n c cs i (xl y i a g) r1 r2,#[dq ⟨r1,0,none⟩ true],[(⟨r1,0,none⟩,.int .i64 i)]):=by kernel_rfl
theorem R5 (y:Nat→Value)(a:Addr)(g:Int):j_ Tryz.prog (Xd Tryz.prog ga gl gc sb so sc ms N n c cs i (xl y i a g) r1 r2)=some (UZ Tryz.prog ga gl gc sb so sc ms N n c cs i (xl y i a g) r1 r2,#[dq ⟨r2,0,none⟩ true],[(⟨r2,0,none⟩,.int .i64 g)]):=by kernel_rfl
theorem PB (y:Nat→Value)(a:Addr)(g:Int):mute Tryz.prog 4 (UZ Tryz.prog ga gl gc sb so sc ms N n c cs i (xl y i a g) r1 r2)=true:=by kernel_rfl
theorem R6 (y:Nat→Value)(a:Addr)(g:Int):aN Tryz.prog 4 (UZ Tryz.prog ga gl gc sb so sc ms N n c cs i (xl y i a g) r1 r2)=UL Tryz.prog (N+5) (Xe Tryz.prog ga gl gc sb so sc ms N n c cs i (xl y i a g) r1 r2) (yd Tryz.prog ga gl gc sb so sc ms N n c cs):=by kernel_rfl
theorem PC (y:Nat→Value)(a:Addr)(g:Int):mute Tryz.prog 3 (U0 Tryz.prog ga gl gc sb so sc ms N n c cs i (xl y i a g) r1 r2)=true:=by kernel_rfl
theorem U2 (y:Nat→Value)(a:Addr)(g:Int):DZ Tryz.prog (U1 Tryz.prog ga gl gc sb so sc ms N n c cs i (xl y i a g) r1 r2)=some (pf Tryz.prog ga gl gc sb so sc ms N n c cs i (xl y i a g) r1 r2,Kr Tryz.prog (N+5) (N+2) r2 (N+4) r1):=by kernel_rfl
theorem Iu (y:Nat→Value)(a:Addr)(g:Int):mute Tryz.prog 7 (pf Tryz.prog ga gl gc sb so sc ms N n c cs 0 (xl y 0 a g) r1 r2)=true:=by kernel_rfl
theorem Iv (y:Nat→Value)(a:Addr)(g:Int):aN Tryz.prog 7 (pf Tryz.prog ga gl gc sb so sc ms N n c cs 0 (xl y 0 a g) r1 r2)=cV Tryz.prog ga gl gc sb so sc ms N n c cs 1 (xn (aN Tryz.prog 7 (pf Tryz.prog ga gl gc sb so sc ms N n c cs 0 (xl y 0 a g) r1 r2))) (cZ Tryz.prog):=by kernel_rfl
theorem Iw (y:Nat→Value)(a:Addr)(g:Int):mute Tryz.prog 7 (pf Tryz.prog ga gl gc sb so sc ms N n c cs 1 (xl y 1 a g) r1 r2)=true:=by kernel_rfl
theorem Ix (y:Nat→Value)(a:Addr)(g:Int):aN Tryz.prog 7 (pf Tryz.prog ga gl gc sb so sc ms N n c cs 1 (xl y 1 a g) r1 r2)=cV Tryz.prog ga gl gc sb so sc ms N n c cs 2 (xn (aN Tryz.prog 7 (pf Tryz.prog ga gl gc sb so sc ms N n c cs 1 (xl y 1 a g) r1 r2))) (cZ Tryz.prog):=by kernel_rfl
theorem Iy (y:Nat→Value)(a:Addr)(g:Int):mute Tryz.prog 7 (pf Tryz.prog ga gl gc sb so sc ms N n c cs 2 (xl y 2 a g) r1 r2)=true:=by kernel_rfl
theorem Iz (y:Nat→Value)(a:Addr)(g:Int):aN Tryz.prog 7 (pf Tryz.prog ga gl gc sb so sc ms N n c cs 2 (xl y 2 a g) r1 r2)=cV Tryz.prog ga gl gc sb so sc ms N n c cs 3 (xn (aN Tryz.prog 7 (pf Tryz.prog ga gl gc sb so sc ms N n c cs 2 (xl y 2 a g) r1 r2))) (cZ Tryz.prog):=by kernel_rfl
theorem IA (y:Nat→Value)(a:Addr)(g:Int):mute Tryz.prog 7 (pf Tryz.prog ga gl gc sb so sc ms N n c cs 3 (xl y 3 a g) r1 r2)=true:=by kernel_rfl
theorem IB (y:Nat→Value)(a:Addr)(g:Int):aN Tryz.prog 7 (pf Tryz.prog ga gl gc sb so sc ms N n c cs 3 (xl y 3 a g) r1 r2)=cV Tryz.prog ga gl gc sb so sc ms N n c cs 4 (xn (aN Tryz.prog 7 (pf Tryz.prog ga gl gc sb so sc ms N n c cs 3 (xl y 3 a g) r1 r2))) (cZ Tryz.prog):=by kernel_rfl
theorem IC (y:Nat→Value)(a:Addr)(g:Int):mute Tryz.prog 7 (pf Tryz.prog ga gl gc sb so sc ms N n c cs 4 (xl y 4 a g) r1 r2)=true:=by kernel_rfl
theorem ID (y:Nat→Value)(a:Addr)(g:Int):aN Tryz.prog 7 (pf Tryz.prog ga gl gc sb so sc ms N n c cs 4 (xl y 4 a g) r1 r2)=cV Tryz.prog ga gl gc sb so sc ms N n c cs 5 (xn (aN Tryz.prog 7 (pf Tryz.prog ga gl gc sb so sc ms N n c cs 4 (xl y 4 a g) r1 r2))) (cZ Tryz.prog):=by kernel_rfl
theorem IE:mute Tryz.prog 3 (D8 Tryz.prog ga gl gc sb so sc ms N 1 c cs x)=true:=by kernel_rfl
theorem IF (v:Value):bn Tryz.prog v none (lu Tryz.prog ga gl gc sb so sc ms N 1 c cs x)=some ⟨bu (lu Tryz.prog ga gl gc sb so sc ms N 1 c cs x) v,#[dq ⟨N+4,0,none⟩ false],[⟨N+4,0,none⟩],[],none⟩:=by kernel_rfl
theorem IG (A l q:Nat):mute Tryz.prog 8 (bu (lu Tryz.prog ga gl gc sb so sc ms N 1 c cs x) (.slice (some ⟨A,0,none⟩) l q))=true:=by kernel_rfl
theorem LV (A l q:Nat):aN Tryz.prog 8 (bu (lu Tryz.prog ga gl gc sb so sc ms N 1 c cs x) (.slice (some ⟨A,0,none⟩) l q))={frame:=c.finish (.slice (some ⟨A,0,none⟩) l q),callers:=cs,status:= .running,dying:=none}:=by kernel_rfl
theorem IH:mute Tryz.prog 3 (D8 Tryz.prog ga gl gc sb so sc ms N 2 c cs x)=true:=by kernel_rfl
theorem II (v:Value):bn Tryz.prog v none (lu Tryz.prog ga gl gc sb so sc ms N 2 c cs x)=some ⟨bu (lu Tryz.prog ga gl gc sb so sc ms N 2 c cs x) v,#[dq ⟨N+4,0,none⟩ false],[⟨N+4,0,none⟩],[],none⟩:=by kernel_rfl
theorem IJ (A l q:Nat):mute Tryz.prog 8 (bu (lu Tryz.prog ga gl gc sb so sc ms N 2 c cs x) (.slice (some ⟨A,0,none⟩) l q))=true:=by kernel_rfl
theorem LW (A l q:Nat):aN Tryz.prog 8 (bu (lu Tryz.prog ga gl gc sb so sc ms N 2 c cs x) (.slice (some ⟨A,0,none⟩) l q))={frame:=c.finish (.slice (some ⟨A,0,none⟩) l q),callers:=cs,status:= .running,dying:=none}:=by kernel_rfl
theorem IK:mute Tryz.prog 3 (D8 Tryz.prog ga gl gc sb so sc ms N 3 c cs x)=true:=by kernel_rfl
theorem IL (v:Value):bn Tryz.prog v none (lu Tryz.prog ga gl gc sb so sc ms N 3 c cs x)=some ⟨bu (lu Tryz.prog ga gl gc sb so sc ms N 3 c cs x) v,#[dq ⟨N+4,0,none⟩ false],[⟨N+4,0,none⟩],[],none⟩:=by kernel_rfl
theorem IM (A l q:Nat):mute Tryz.prog 8 (bu (lu Tryz.prog ga gl gc sb so sc ms N 3 c cs x) (.slice (some ⟨A,0,none⟩) l q))=true:=by kernel_rfl
theorem LX (A l q:Nat):aN Tryz.prog 8 (bu (lu Tryz.prog ga gl gc sb so sc ms N 3 c cs x) (.slice (some ⟨A,0,none⟩) l q))={frame:=c.finish (.slice (some ⟨A,0,none⟩) l q),callers:=cs,status:= .running,dying:=none}:=by kernel_rfl
theorem IN:mute Tryz.prog 3 (D8 Tryz.prog ga gl gc sb so sc ms N 4 c cs x)=true:=by kernel_rfl
theorem IP (v:Value):bn Tryz.prog v none (lu Tryz.prog ga gl gc sb so sc ms N 4 c cs x)=some ⟨bu (lu Tryz.prog ga gl gc sb so sc ms N 4 c cs x) v,#[dq ⟨N+4,0,none⟩ false],[⟨N+4,0,none⟩],[],none⟩:=by kernel_rfl
theorem IQ (A l q:Nat):mute Tryz.prog 8 (bu (lu Tryz.prog ga gl gc sb so sc ms N 4 c cs x) (.slice (some ⟨A,0,none⟩) l q))=true:=by kernel_rfl
theorem LY (A l q:Nat):aN Tryz.prog 8 (bu (lu Tryz.prog ga gl gc sb so sc ms N 4 c cs x) (.slice (some ⟨A,0,none⟩) l q))={frame:=c.finish (.slice (some ⟨A,0,none⟩) l q),callers:=cs,status:= .running,dying:=none}:=by kernel_rfl
theorem IS:mute Tryz.prog 3 (D8 Tryz.prog ga gl gc sb so sc ms N 5 c cs x)=true:=by kernel_rfl
theorem IT (v:Value):bn Tryz.prog v none (lu Tryz.prog ga gl gc sb so sc ms N 5 c cs x)=some ⟨bu (lu Tryz.prog ga gl gc sb so sc ms N 5 c cs x) v,#[dq ⟨N+4,0,none⟩ false],[⟨N+4,0,none⟩],[],none⟩:=by kernel_rfl
theorem IU (A l q:Nat):mute Tryz.prog 8 (bu (lu Tryz.prog ga gl gc sb so sc ms N 5 c cs x) (.slice (some ⟨A,0,none⟩) l q))=true:=by kernel_rfl
theorem LZ (A l q:Nat):aN Tryz.prog 8 (bu (lu Tryz.prog ga gl gc sb so sc ms N 5 c cs x) (.slice (some ⟨A,0,none⟩) l q))={frame:=c.finish (.slice (some ⟨A,0,none⟩) l q),callers:=cs,status:= .running,dying:=none}:=by kernel_rfl
end
section
variable(ga:Addr)(gl gc sb so sc:Nat)(ms:Int)(N n:Nat)(c:Frame)(cs:List Frame)(x:Nat→Value)(r1 r2:Nat)
theorem R7 (h1:1≤n)(h5:n≤5):∃z:Array Value,z.size=5*n∧dh Tryz.prog (N+3) (D6 Tryz.prog ga gl gc sb so sc ms N n c cs)=some (wo Tryz.prog ga gl gc sb so sc ms N n c cs,#[],.cells z 107):=by
 obtain rfl|rfl|rfl|rfl|rfl:n=1∨n=2∨n=3∨n=4∨n=5:=by omega
 ·exact⟨_,by rfl,Ls ga gl gc sb so sc ms N c cs⟩
 ·exact⟨_,by rfl,Ly ga gl gc sb so sc ms N c cs⟩
 ·exact⟨_,by rfl,LD ga gl gc sb so sc ms N c cs⟩
 ·exact⟨_,by rfl,LJ ga gl gc sb so sc ms N c cs⟩
 ·exact⟨_,by rfl,LO ga gl gc sb so sc ms N c cs⟩
theorem R8 (h1:1≤n)(h5:n≤5):dh Tryz.prog (N+4) (wo Tryz.prog ga gl gc sb so sc ms N n c cs)=some (jU Tryz.prog ga gl gc sb so sc ms N n c cs,#[],.cells #[.slice none 0 0] 104):=by
 obtain rfl|rfl|rfl|rfl|rfl:n=1∨n=2∨n=3∨n=4∨n=5:=by omega
 ·exact Lu ga gl gc sb so sc ms N c cs
 ·exact Lz ga gl gc sb so sc ms N c cs
 ·exact LF ga gl gc sb so sc ms N c cs
 ·exact LK ga gl gc sb so sc ms N c cs
 ·exact LP ga gl gc sb so sc ms N c cs
theorem R9 (h1:1≤n)(h5:n≤5):j_ Tryz.prog (jU Tryz.prog ga gl gc sb so sc ms N n c cs)=some (sx Tryz.prog (jU Tryz.prog ga gl gc sb so sc ms N n c cs),#[dq ⟨N+4,0,none⟩ true],[(⟨N+4,0,none⟩,.slice (some ⟨N+3,0,none⟩) n n)]):=by
 obtain rfl|rfl|rfl|rfl|rfl:n=1∨n=2∨n=3∨n=4∨n=5:=by omega
 ·exact Lv ga gl gc sb so sc ms N c cs
 ·exact LA ga gl gc sb so sc ms N c cs
 ·exact LG ga gl gc sb so sc ms N c cs
 ·exact LL ga gl gc sb so sc ms N c cs
 ·exact LQ ga gl gc sb so sc ms N c cs
theorem PD (h1:1≤n)(h5:n≤5):mute Tryz.prog 3 (sx Tryz.prog (jU Tryz.prog ga gl gc sb so sc ms N n c cs))=true:=by
 obtain rfl|rfl|rfl|rfl|rfl:n=1∨n=2∨n=3∨n=4∨n=5:=by omega
 ·exact H6 ga gl gc sb so sc ms N c cs
 ·exact H' ga gl gc sb so sc ms N c cs
 ·exact Ie ga gl gc sb so sc ms N c cs
 ·exact Ij ga gl gc sb so sc ms N c cs
 ·exact Io ga gl gc sb so sc ms N c cs
theorem R_ (h1:1≤n)(h5:n≤5):dh Tryz.prog (N+5) (mK Tryz.prog ga gl gc sb so sc ms N n c cs)=some (nx Tryz.prog (N+5) (mK Tryz.prog ga gl gc sb so sc ms N n c cs),#[],.cells #[.int .u64 0,.int .u32 0] 191):=by
 obtain rfl|rfl|rfl|rfl|rfl:n=1∨n=2∨n=3∨n=4∨n=5:=by omega
 ·exact Lw ga gl gc sb so sc ms N c cs
 ·exact LB ga gl gc sb so sc ms N c cs
 ·exact LH ga gl gc sb so sc ms N c cs
 ·exact LM ga gl gc sb so sc ms N c cs
 ·exact LS ga gl gc sb so sc ms N c cs
theorem PE (h1:1≤n)(h5:n≤5):mute Tryz.prog 10 (nx Tryz.prog (N+5) (mK Tryz.prog ga gl gc sb so sc ms N n c cs))=true:=by
 obtain rfl|rfl|rfl|rfl|rfl:n=1∨n=2∨n=3∨n=4∨n=5:=by omega
 ·exact H7 ga gl gc sb so sc ms N c cs
 ·exact Ia ga gl gc sb so sc ms N c cs
 ·exact Ig ga gl gc sb so sc ms N c cs
 ·exact Ik ga gl gc sb so sc ms N c cs
 ·exact Ip ga gl gc sb so sc ms N c cs
theorem PF (h1:1≤n)(h5:n≤5):D7 Tryz.prog ga gl gc sb so sc ms N n c cs=cV Tryz.prog ga gl gc sb so sc ms N n c cs ((0:Nat):Int) x0 (cZ Tryz.prog):=by
 obtain rfl|rfl|rfl|rfl|rfl:n=1∨n=2∨n=3∨n=4∨n=5:=by omega
 ·exact H9 ga gl gc sb so sc ms N c cs
 ·exact Ib ga gl gc sb so sc ms N c cs
 ·exact Ih ga gl gc sb so sc ms N c cs
 ·exact Il ga gl gc sb so sc ms N c cs
 ·exact Iq ga gl gc sb so sc ms N c cs
theorem R' (h1:1≤n)(h5:n≤5):mute Tryz.prog 10 (cV Tryz.prog ga gl gc sb so sc ms N n c cs n x (cZ Tryz.prog))=true:=by
 obtain rfl|rfl|rfl|rfl|rfl:n=1∨n=2∨n=3∨n=4∨n=5:=by omega
 ·exact Lx ga gl gc sb so sc ms N c cs x
 ·exact LC ga gl gc sb so sc ms N c cs x
 ·exact LI ga gl gc sb so sc ms N c cs x
 ·exact LN ga gl gc sb so sc ms N c cs x
 ·exact LU ga gl gc sb so sc ms N c cs x
theorem PG (h1:1≤n)(h5:n≤5):aN Tryz.prog 10 (cV Tryz.prog ga gl gc sb so sc ms N n c cs n x (cZ Tryz.prog))=DR Tryz.prog (N+5) (H4 Tryz.prog ga gl gc sb so sc ms N n c cs x) (yd Tryz.prog ga gl gc sb so sc ms N n c cs):=by
 obtain rfl|rfl|rfl|rfl|rfl:n=1∨n=2∨n=3∨n=4∨n=5:=by omega
 ·exact H_ ga gl gc sb so sc ms N c cs x
 ·exact Ic ga gl gc sb so sc ms N c cs x
 ·exact Ii ga gl gc sb so sc ms N c cs x
 ·exact Im ga gl gc sb so sc ms N c cs x
 ·exact Ir ga gl gc sb so sc ms N c cs x
theorem PH (h1:1≤n)(h5:n≤5):mute Tryz.prog 3 (D8 Tryz.prog ga gl gc sb so sc ms N n c cs x)=true:=by
 obtain rfl|rfl|rfl|rfl|rfl:n=1∨n=2∨n=3∨n=4∨n=5:=by omega
 ·exact IE ga gl gc sb so sc ms N c cs x
 ·exact IH ga gl gc sb so sc ms N c cs x
 ·exact IK ga gl gc sb so sc ms N c cs x
 ·exact IN ga gl gc sb so sc ms N c cs x
 ·exact IS ga gl gc sb so sc ms N c cs x
theorem PI (h1:1≤n)(h5:n≤5)(v:Value):bn Tryz.prog v none (lu Tryz.prog ga gl gc sb so sc ms N n c cs x)=some ⟨bu (lu Tryz.prog ga gl gc sb so sc ms N n c cs x) v,#[dq ⟨N+4,0,none⟩ false],[⟨N+4,0,none⟩],[],none⟩:=by
 obtain rfl|rfl|rfl|rfl|rfl:n=1∨n=2∨n=3∨n=4∨n=5:=by omega
 ·exact IF ga gl gc sb so sc ms N c cs x v
 ·exact II ga gl gc sb so sc ms N c cs x v
 ·exact IL ga gl gc sb so sc ms N c cs x v
 ·exact IP ga gl gc sb so sc ms N c cs x v
 ·exact IT ga gl gc sb so sc ms N c cs x v
theorem PJ (h1:1≤n)(h5:n≤5)(A l q:Nat):mute Tryz.prog 8 (bu (lu Tryz.prog ga gl gc sb so sc ms N n c cs x) (.slice (some ⟨A,0,none⟩) l q))=true:=by
 obtain rfl|rfl|rfl|rfl|rfl:n=1∨n=2∨n=3∨n=4∨n=5:=by omega
 ·exact IG ga gl gc sb so sc ms N c cs x A l q
 ·exact IJ ga gl gc sb so sc ms N c cs x A l q
 ·exact IM ga gl gc sb so sc ms N c cs x A l q
 ·exact IQ ga gl gc sb so sc ms N c cs x A l q
 ·exact IU ga gl gc sb so sc ms N c cs x A l q
theorem Sa (h1:1≤n)(h5:n≤5)(A l q:Nat):aN Tryz.prog 8 (bu (lu Tryz.prog ga gl gc sb so sc ms N n c cs x) (.slice (some ⟨A,0,none⟩) l q))={frame:=c.finish (.slice (some ⟨A,0,none⟩) l q),callers:=cs,status:= .running,dying:=none}:=by
 obtain rfl|rfl|rfl|rfl|rfl:n=1∨n=2∨n=3∨n=4∨n=5:=by omega
 ·exact LV ga gl gc sb so sc ms N c cs x A l q
 ·exact LW ga gl gc sb so sc ms N c cs x A l q
 ·exact LX ga gl gc sb so sc ms N c cs x A l q
 ·exact LY ga gl gc sb so sc ms N c cs x A l q
 ·exact LZ ga gl gc sb so sc ms N c cs x A l q
theorem Sb (i:Nat)(hi:i<n)(h5:n≤5):mute Tryz.prog 13 (cV Tryz.prog ga gl gc sb so sc ms N n c cs (i:Nat) x (cZ Tryz.prog))=true:=by
 obtain rfl|rfl|rfl|rfl|rfl:n=1∨n=2∨n=3∨n=4∨n=5:=by omega
 ·obtain rfl:i=0:=by omega
  exact D9 ga gl gc sb so sc ms N c cs x
 ·obtain rfl|rfl:i=0∨i=1:=by omega
  ·exact Ea ga gl gc sb so sc ms N c cs x
  ·exact Ec ga gl gc sb so sc ms N c cs x
 ·obtain rfl|rfl|rfl:i=0∨i=1∨i=2:=by omega
  ·exact Ee ga gl gc sb so sc ms N c cs x
  ·exact Eg ga gl gc sb so sc ms N c cs x
  ·exact Ei ga gl gc sb so sc ms N c cs x
 ·obtain rfl|rfl|rfl|rfl:i=0∨i=1∨i=2∨i=3:=by omega
  ·exact Ek ga gl gc sb so sc ms N c cs x
  ·exact Em ga gl gc sb so sc ms N c cs x
  ·exact Eo ga gl gc sb so sc ms N c cs x
  ·exact Er ga gl gc sb so sc ms N c cs x
 ·obtain rfl|rfl|rfl|rfl|rfl:i=0∨i=1∨i=2∨i=3∨i=4:=by omega
  ·exact Et ga gl gc sb so sc ms N c cs x
  ·exact Ev ga gl gc sb so sc ms N c cs x
  ·exact Ex ga gl gc sb so sc ms N c cs x
  ·exact Ez ga gl gc sb so sc ms N c cs x
  ·exact EB ga gl gc sb so sc ms N c cs x
theorem Sc (i:Nat)(hi:i<n)(h5:n≤5)(g:Int):fJ Tryz.prog (.int .i64 g) (aN Tryz.prog 13 (cV Tryz.prog ga gl gc sb so sc ms N n c cs (i:Nat) x (cZ Tryz.prog)))=some (qu Tryz.prog ga gl gc sb so sc ms N n c cs (i:Nat) (xl x (i:Nat) ⟨sb,so+i,none⟩ g),#[dq ⟨sb,so+i,none⟩ false],[⟨sb,so+i,none⟩]):=by
 obtain rfl|rfl|rfl|rfl|rfl:n=1∨n=2∨n=3∨n=4∨n=5:=by omega
 ·obtain rfl:i=0:=by omega
  exact D_ ga gl gc sb so sc ms N c cs x g
 ·obtain rfl|rfl:i=0∨i=1:=by omega
  ·exact Eb ga gl gc sb so sc ms N c cs x g
  ·exact Ed ga gl gc sb so sc ms N c cs x g
 ·obtain rfl|rfl|rfl:i=0∨i=1∨i=2:=by omega
  ·exact Ef ga gl gc sb so sc ms N c cs x g
  ·exact Eh ga gl gc sb so sc ms N c cs x g
  ·exact Ej ga gl gc sb so sc ms N c cs x g
 ·obtain rfl|rfl|rfl|rfl:i=0∨i=1∨i=2∨i=3:=by omega
  ·exact El ga gl gc sb so sc ms N c cs x g
  ·exact En ga gl gc sb so sc ms N c cs x g
  ·exact Ep ga gl gc sb so sc ms N c cs x g
  ·exact Es ga gl gc sb so sc ms N c cs x g
 ·obtain rfl|rfl|rfl|rfl|rfl:i=0∨i=1∨i=2∨i=3∨i=4:=by omega
  ·exact Eu ga gl gc sb so sc ms N c cs x g
  ·exact Ew ga gl gc sb so sc ms N c cs x g
  ·exact Ey ga gl gc sb so sc ms N c cs x g
  ·exact EA ga gl gc sb so sc ms N c cs x g
  ·exact EC ga gl gc sb so sc ms N c cs x g
theorem PK (i:Nat)(hi:i<5)(y:Nat→Value)(a:Addr)(g:Int):mute Tryz.prog 7 (pf Tryz.prog ga gl gc sb so sc ms N n c cs (i:Nat) (xl y (i:Nat) a g) r1 r2)=true:=by
 obtain rfl|rfl|rfl|rfl|rfl:i=0∨i=1∨i=2∨i=3∨i=4:=by omega
 ·exact Iu ga gl gc sb so sc ms N n c cs r1 r2 y a g
 ·exact Iw ga gl gc sb so sc ms N n c cs r1 r2 y a g
 ·exact Iy ga gl gc sb so sc ms N n c cs r1 r2 y a g
 ·exact IA ga gl gc sb so sc ms N n c cs r1 r2 y a g
 ·exact IC ga gl gc sb so sc ms N n c cs r1 r2 y a g
theorem PL (i:Nat)(hi:i<5)(y:Nat→Value)(a:Addr)(g:Int):∃x',aN Tryz.prog 7 (pf Tryz.prog ga gl gc sb so sc ms N n c cs (i:Nat) (xl y (i:Nat) a g) r1 r2)=cV Tryz.prog ga gl gc sb so sc ms N n c cs ((i+1:Nat):Int) x' (cZ Tryz.prog):=by
 obtain rfl|rfl|rfl|rfl|rfl:i=0∨i=1∨i=2∨i=3∨i=4:=by omega
 ·exact⟨_,Iv ga gl gc sb so sc ms N n c cs r1 r2 y a g⟩
 ·exact⟨_,Ix ga gl gc sb so sc ms N n c cs r1 r2 y a g⟩
 ·exact⟨_,Iz ga gl gc sb so sc ms N n c cs r1 r2 y a g⟩
 ·exact⟨_,IB ga gl gc sb so sc ms N n c cs r1 r2 y a g⟩
 ·exact⟨_,ID ga gl gc sb so sc ms N n c cs r1 r2 y a g⟩
end
end Go.Proofs.YtjklkppncmhehaaGreat.Sr
