/-
What is proved: the starter's way through impl.entriesOf and impl.ask: reckoned by the kernel: which steps are silent, which touch memory. No condition.
-/
import Derived.Test.YtabjbdnokpjipaaGreatRw22
import Derived.Test.YtabjbdnokpjipaaGreatRw10
import Derived.Test.YtabjbdnokpjipaaGreatRw17
import Derived.Test.YtabjbdnokpjipaaGreatRw18
set_option linter.unusedVariables false
set_option linter.unusedSimpArgs false
namespace Go.Proofs.YtabjbdnokpjipaaGreat.Sr
open Go Go.Conc
def nx (P:Program)(r:Nat)(g:Goroutine):Goroutine:=match dB P r g with|some (g',_)=>g'|none=>g
def sx (P:Program)(g:Goroutine):Goroutine:=match lQ P g with|some (g',_)=>g'|none=>g
def as0 (P:Program)(ga:Addr)(gl gc sb so sc:Nat)(ms:Int)(N n:Nat)(c:Frame)(cs:List Frame):Goroutine:={frame:=Frame.enter P 112 #[.slice (some ga) gl gc,.slice (some ⟨sb,so,none⟩) n sc,.int .i64 ms] .normal,callers:=c::cs,status:= .running,dying:=none}
def PA (P:Program)(ga:Addr)(gl gc sb so sc:Nat)(ms:Int)(N n:Nat)(c:Frame)(cs:List Frame):Goroutine:=aR P 2 (as0 P ga gl gc sb so sc ms N n c cs)
def Lu (P:Program)(ga:Addr)(gl gc sb so sc:Nat)(ms:Int)(N n:Nat)(c:Frame)(cs:List Frame):Goroutine:=nx P N (PA P ga gl gc sb so sc ms N n c cs)
def Ue (P:Program)(ga:Addr)(gl gc sb so sc:Nat)(ms:Int)(N n:Nat)(c:Frame)(cs:List Frame):Goroutine:=aR P 9 (nx P (N+1) (Lu P ga gl gc sb so sc ms N n c cs))
def Hy (P:Program)(ga:Addr)(gl gc sb so sc:Nat)(ms:Int)(N n:Nat)(c:Frame)(cs:List Frame):Goroutine:=aR P 6 (nx P (N+2) (Ue P ga gl gc sb so sc ms N n c cs))
def zj (P:Program)(ga:Addr)(gl gc sb so sc:Nat)(ms:Int)(N n:Nat)(c:Frame)(cs:List Frame):Goroutine:=nx P (N+3) (Hy P ga gl gc sb so sc ms N n c cs)
def lH (P:Program)(ga:Addr)(gl gc sb so sc:Nat)(ms:Int)(N n:Nat)(c:Frame)(cs:List Frame):Goroutine:=nx P (N+4) (zj P ga gl gc sb so sc ms N n c cs)
def oB (P:Program)(ga:Addr)(gl gc sb so sc:Nat)(ms:Int)(N n:Nat)(c:Frame)(cs:List Frame):Goroutine:=aR P 3 (sx P (lH P ga gl gc sb so sc ms N n c cs))
def Hz (P:Program)(ga:Addr)(gl gc sb so sc:Nat)(ms:Int)(N n:Nat)(c:Frame)(cs:List Frame):Goroutine:=aR P 10 (nx P (N+5) (oB P ga gl gc sb so sc ms N n c cs))
def nAd:Addr:=⟨0,0,none⟩
def f51 (P:Program)(ga:Addr)(gl gc sb so sc:Nat)(ms:Int)(N n:Nat):Frame:=match(Hy P ga gl gc sb so sc ms N n default []).callers with
 |f::_=>f
 |[]=>default
def Lv (N:Nat):Value:= .func (.func 139) #[] #[ptr N,ptr (N+1)]
def lpF (ga:Addr)(gl gc sb so sc:Nat)(ms:Int)(N n:Nat)(i:Int)(x:Nat→Value)(todo:List Item):Frame:=
 {fn:=138,tmps:= #[.slice (some ⟨sb,so,none⟩) n sc,Lv N,undef,ptr (N+2),.slice none 0 0,ptr (N+4),ptr (N+5),x 0,x 1,.slice (some ⟨sb,so,none⟩) n sc,.int .i64 n,.slice (some ⟨N+3,0,none⟩) n n,.slice (some ⟨sb,so,none⟩) n sc,.int .i64 n,.int .i64 i,
   x 2,x 3,x 4,x 5,x 6,x 7,x 8,x 9,x 10],todo,defers:=[],mode:= .run,kind:= .normal}
def Bd (P:Program)(ga:Addr)(gl gc sb so sc:Nat)(ms:Int)(N n:Nat)(c:Frame)(cs:List Frame):List Frame:=f51 P ga gl gc sb so sc ms N n::c::cs
def dv (P:Program)(ga:Addr)(gl gc sb so sc:Nat)(ms:Int)(N n:Nat)(c:Frame)(cs:List Frame)(i:Int)(x:Nat→Value)(todo:List Item):Goroutine:={frame:=lpF ga gl gc sb so sc ms N n i x todo,callers:=Bd P ga gl gc sb so sc ms N n c cs,status:= .running,dying:=none}
def dz (P:Program):List Item:=(Hz P nAd 0 0 0 0 0 0 0 1 default []).frame.todo
def lqT (P:Program):List Item:=(bm (aR P 13 (Hz P nAd 0 0 0 0 0 0 0 1 default [])) (.int .i64 0)).frame.todo
def x0 (_:Nat):Value:=undef
def xl (x:Nat→Value)(i:Int)(a:Addr)(g:Int):Nat→Value
 |0=>x 0
 |1=>x 1
 |2=> .bool true
 |3=> .int .i64 i
 |4=> .pointer (some a)
 |5=> .int .i64 g
 |6=>x 6
 |7=>x 7
 |8=>x 8
 |9=>x 9
 |_=>x 10
def tp (P:Program)(ga:Addr)(gl gc sb so sc:Nat)(ms:Int)(N n:Nat)(c:Frame)(cs:List Frame)(i:Int)(x:Nat→Value):Goroutine:=dv P ga gl gc sb so sc ms N n c cs i x (lqT P)
def lq1 (P:Program)(ga:Addr)(gl gc sb so sc:Nat)(ms:Int)(N n:Nat)(c:Frame)(cs:List Frame)(i:Int)(x:Nat→Value)(r1:Nat):Goroutine:=nx P r1 (tp P ga gl gc sb so sc ms N n c cs i x)
def lq2 (P:Program)(ga:Addr)(gl gc sb so sc:Nat)(ms:Int)(N n:Nat)(c:Frame)(cs:List Frame)(i:Int)(x:Nat→Value)(r1 r2:Nat):Goroutine:=nx P r2 (lq1 P ga gl gc sb so sc ms N n c cs i x r1)
def lq3 (P:Program)(ga:Addr)(gl gc sb so sc:Nat)(ms:Int)(N n:Nat)(c:Frame)(cs:List Frame)(i:Int)(x:Nat→Value)(r1 r2:Nat):Goroutine:=sx P (lq2 P ga gl gc sb so sc ms N n c cs i x r1 r2)
def lq4 (P:Program)(ga:Addr)(gl gc sb so sc:Nat)(ms:Int)(N n:Nat)(c:Frame)(cs:List Frame)(i:Int)(x:Nat→Value)(r1 r2:Nat):Goroutine:=sx P (lq3 P ga gl gc sb so sc ms N n c cs i x r1 r2)
def laF (P:Program)(ga:Addr)(gl gc sb so sc:Nat)(ms:Int)(N n:Nat)(c:Frame)(cs:List Frame)(i:Int)(x:Nat→Value)(r1 r2:Nat):Frame:=(aR P 3 (lq4 P ga gl gc sb so sc ms N n c cs i x r1 r2)).frame
def lr0 (P:Program)(ga:Addr)(gl gc sb so sc:Nat)(ms:Int)(N n:Nat)(c:Frame)(cs:List Frame)(i:Int)(x:Nat→Value)(r1 r2:Nat):Goroutine:=kM (laF P ga gl gc sb so sc ms N n c cs i x r1 r2) (Bd P ga gl gc sb so sc ms N n c cs)
def px (P:Program)(g:Goroutine):Goroutine:=match Hv P g with|some (g',_)=>g'|none=>g
def lr1 (P:Program)(ga:Addr)(gl gc sb so sc:Nat)(ms:Int)(N n:Nat)(c:Frame)(cs:List Frame)(i:Int)(x:Nat→Value)(r1 r2:Nat):Goroutine:=aR P 3 (lr0 P ga gl gc sb so sc ms N n c cs i x r1 r2)
def rf (P:Program)(ga:Addr)(gl gc sb so sc:Nat)(ms:Int)(N n:Nat)(c:Frame)(cs:List Frame)(i:Int)(x:Nat→Value)(r1 r2:Nat):Goroutine:=px P (lr1 P ga gl gc sb so sc ms N n c cs i x r1 r2)
def xn (g:Goroutine):Nat→Value
 |0=>g.frame.tmps.getD 7 undef
 |1=>g.frame.tmps.getD 8 undef
 |k+2=>g.frame.tmps.getD (k+15) undef
def Lw (P:Program)(ga:Addr)(gl gc sb so sc:Nat)(ms:Int)(N n:Nat)(c:Frame)(cs:List Frame)(x:Nat→Value):Frame:=(aR P 9 (dv P ga gl gc sb so sc ms N n c cs n x (dz P))).frame
def HD (P:Program)(ga:Addr)(gl gc sb so sc:Nat)(ms:Int)(N n:Nat)(c:Frame)(cs:List Frame)(x:Nat→Value):Goroutine:=kM (Lw P ga gl gc sb so sc ms N n c cs x) (Bd P ga gl gc sb so sc ms N n c cs)
def nk (P:Program)(ga:Addr)(gl gc sb so sc:Nat)(ms:Int)(N n:Nat)(c:Frame)(cs:List Frame)(x:Nat→Value):Goroutine:=aR P 3 (HD P ga gl gc sb so sc ms N n c cs x)
section
variable(ga:Addr)(gl gc sb so sc:Nat)(ms:Int)(N n:Nat)(c:Frame)(cs:List Frame)(i:Int)(x:Nat→Value)(r1 r2:Nat)
set_option maxRecDepth 100000
theorem Uf:mute Tryz.prog 2 (as0 Tryz.prog ga gl gc sb so sc ms N n c cs)=true:=by kernel_rfl
theorem Lx:dB Tryz.prog N (PA Tryz.prog ga gl gc sb so sc ms N n c cs)=some (Lu Tryz.prog ga gl gc sb so sc ms N n c cs,#[],.cells #[.slice (some ga) gl gc] 26):=by kernel_rfl
theorem Xm:dB Tryz.prog (N+1) (Lu Tryz.prog ga gl gc sb so sc ms N n c cs)=some (nx Tryz.prog (N+1) (Lu Tryz.prog ga gl gc sb so sc ms N n c cs),#[],.cells #[.int .i64 ms] 3):=by kernel_rfl
theorem Ug:mute Tryz.prog 9 (nx Tryz.prog (N+1) (Lu Tryz.prog ga gl gc sb so sc ms N n c cs))=true:=by kernel_rfl
theorem Xn:dB Tryz.prog (N+2) (Ue Tryz.prog ga gl gc sb so sc ms N n c cs)=some (nx Tryz.prog (N+2) (Ue Tryz.prog ga gl gc sb so sc ms N n c cs),#[],.cells #[Lv N] 168):=by kernel_rfl
theorem Uh:mute Tryz.prog 6 (nx Tryz.prog (N+2) (Ue Tryz.prog ga gl gc sb so sc ms N n c cs))=true:=by kernel_rfl
theorem PJ:dB Tryz.prog (N+3) (Hy Tryz.prog ga gl gc sb so sc ms N 1 c cs)=some (zj Tryz.prog ga gl gc sb so sc ms N 1 c cs,#[],.cells #[.int .i64 0,.int .i64 0,.int .i64 0,.bool false,.bool false] 146):=by kernel_rfl
theorem PK:dB Tryz.prog (N+4) (zj Tryz.prog ga gl gc sb so sc ms N 1 c cs)=some (lH Tryz.prog ga gl gc sb so sc ms N 1 c cs,#[],.cells #[.slice none 0 0] 142):=by kernel_rfl
theorem PL:lQ Tryz.prog (lH Tryz.prog ga gl gc sb so sc ms N 1 c cs)=some (sx Tryz.prog (lH Tryz.prog ga gl gc sb so sc ms N 1 c cs),#[dT ⟨N+4,0,none⟩ true],[(⟨N+4,0,none⟩,.slice (some ⟨N+3,0,none⟩) 1 1)]):=by kernel_rfl
theorem Ly:mute Tryz.prog 3 (sx Tryz.prog (lH Tryz.prog ga gl gc sb so sc ms N 1 c cs))=true:=by kernel_rfl
theorem PM:dB Tryz.prog (N+5) (oB Tryz.prog ga gl gc sb so sc ms N 1 c cs)=some (nx Tryz.prog (N+5) (oB Tryz.prog ga gl gc sb so sc ms N 1 c cs),#[],.cells #[.int .u64 0,.int .u32 0] 181):=by kernel_rfl
theorem Lz:mute Tryz.prog 10 (nx Tryz.prog (N+5) (oB Tryz.prog ga gl gc sb so sc ms N 1 c cs))=true:=by kernel_rfl
theorem LA:Hz Tryz.prog ga gl gc sb so sc ms N 1 c cs=dv Tryz.prog ga gl gc sb so sc ms N 1 c cs 0 x0 (dz Tryz.prog):=by kernel_rfl
theorem HF:mute Tryz.prog 13 (dv Tryz.prog ga gl gc sb so sc ms N 1 c cs 0 x (dz Tryz.prog))=true:=by kernel_rfl
theorem HG (g:Int):iB Tryz.prog (.int .i64 g) (aR Tryz.prog 13 (dv Tryz.prog ga gl gc sb so sc ms N 1 c cs 0 x (dz Tryz.prog)))=some (tp Tryz.prog ga gl gc sb so sc ms N 1 c cs 0 (xl x 0 ⟨sb,so+0,none⟩ g),#[dT ⟨sb,so+0,none⟩ false],[⟨sb,so+0,none⟩]):=by kernel_rfl
theorem PN:mute Tryz.prog 10 (dv Tryz.prog ga gl gc sb so sc ms N 1 c cs 1 x (dz Tryz.prog))=true:=by kernel_rfl
theorem LB:aR Tryz.prog 10 (dv Tryz.prog ga gl gc sb so sc ms N 1 c cs 1 x (dz Tryz.prog))=Hn Tryz.prog (N+5) (Lw Tryz.prog ga gl gc sb so sc ms N 1 c cs x) (Bd Tryz.prog ga gl gc sb so sc ms N 1 c cs):=by kernel_rfl
theorem PO:dB Tryz.prog (N+3) (Hy Tryz.prog ga gl gc sb so sc ms N 2 c cs)=some (zj Tryz.prog ga gl gc sb so sc ms N 2 c cs,#[],.cells #[.int .i64 0,.int .i64 0,.int .i64 0,.bool false,.bool false,.int .i64 0,.int .i64 0,.int .i64 0,.bool false,.bool false] 146):=by kernel_rfl
theorem PQ:dB Tryz.prog (N+4) (zj Tryz.prog ga gl gc sb so sc ms N 2 c cs)=some (lH Tryz.prog ga gl gc sb so sc ms N 2 c cs,#[],.cells #[.slice none 0 0] 142):=by kernel_rfl
theorem PR:lQ Tryz.prog (lH Tryz.prog ga gl gc sb so sc ms N 2 c cs)=some (sx Tryz.prog (lH Tryz.prog ga gl gc sb so sc ms N 2 c cs),#[dT ⟨N+4,0,none⟩ true],[(⟨N+4,0,none⟩,.slice (some ⟨N+3,0,none⟩) 2 2)]):=by kernel_rfl
theorem LC:mute Tryz.prog 3 (sx Tryz.prog (lH Tryz.prog ga gl gc sb so sc ms N 2 c cs))=true:=by kernel_rfl
theorem PS:dB Tryz.prog (N+5) (oB Tryz.prog ga gl gc sb so sc ms N 2 c cs)=some (nx Tryz.prog (N+5) (oB Tryz.prog ga gl gc sb so sc ms N 2 c cs),#[],.cells #[.int .u64 0,.int .u32 0] 181):=by kernel_rfl
theorem LD:mute Tryz.prog 10 (nx Tryz.prog (N+5) (oB Tryz.prog ga gl gc sb so sc ms N 2 c cs))=true:=by kernel_rfl
theorem LF:Hz Tryz.prog ga gl gc sb so sc ms N 2 c cs=dv Tryz.prog ga gl gc sb so sc ms N 2 c cs 0 x0 (dz Tryz.prog):=by kernel_rfl
theorem HH:mute Tryz.prog 13 (dv Tryz.prog ga gl gc sb so sc ms N 2 c cs 0 x (dz Tryz.prog))=true:=by kernel_rfl
theorem HI (g:Int):iB Tryz.prog (.int .i64 g) (aR Tryz.prog 13 (dv Tryz.prog ga gl gc sb so sc ms N 2 c cs 0 x (dz Tryz.prog)))=some (tp Tryz.prog ga gl gc sb so sc ms N 2 c cs 0 (xl x 0 ⟨sb,so+0,none⟩ g),#[dT ⟨sb,so+0,none⟩ false],[⟨sb,so+0,none⟩]):=by kernel_rfl
theorem HJ:mute Tryz.prog 13 (dv Tryz.prog ga gl gc sb so sc ms N 2 c cs 1 x (dz Tryz.prog))=true:=by kernel_rfl
theorem HK (g:Int):iB Tryz.prog (.int .i64 g) (aR Tryz.prog 13 (dv Tryz.prog ga gl gc sb so sc ms N 2 c cs 1 x (dz Tryz.prog)))=some (tp Tryz.prog ga gl gc sb so sc ms N 2 c cs 1 (xl x 1 ⟨sb,so+1,none⟩ g),#[dT ⟨sb,so+1,none⟩ false],[⟨sb,so+1,none⟩]):=by kernel_rfl
theorem PT:mute Tryz.prog 10 (dv Tryz.prog ga gl gc sb so sc ms N 2 c cs 2 x (dz Tryz.prog))=true:=by kernel_rfl
theorem LG:aR Tryz.prog 10 (dv Tryz.prog ga gl gc sb so sc ms N 2 c cs 2 x (dz Tryz.prog))=Hn Tryz.prog (N+5) (Lw Tryz.prog ga gl gc sb so sc ms N 2 c cs x) (Bd Tryz.prog ga gl gc sb so sc ms N 2 c cs):=by kernel_rfl
theorem PU:dB Tryz.prog (N+3) (Hy Tryz.prog ga gl gc sb so sc ms N 3 c cs)=some (zj Tryz.prog ga gl gc sb so sc ms N 3 c cs,#[],.cells #[.int .i64 0,.int .i64 0,.int .i64 0,.bool false,.bool false,.int .i64 0,.int .i64 0,.int .i64 0,.bool false,.bool false,.int .i64 0,.int .i64 0,.int .i64 0,.bool false,.bool false] 146):=by kernel_rfl
theorem PV:dB Tryz.prog (N+4) (zj Tryz.prog ga gl gc sb so sc ms N 3 c cs)=some (lH Tryz.prog ga gl gc sb so sc ms N 3 c cs,#[],.cells #[.slice none 0 0] 142):=by kernel_rfl
theorem PW:lQ Tryz.prog (lH Tryz.prog ga gl gc sb so sc ms N 3 c cs)=some (sx Tryz.prog (lH Tryz.prog ga gl gc sb so sc ms N 3 c cs),#[dT ⟨N+4,0,none⟩ true],[(⟨N+4,0,none⟩,.slice (some ⟨N+3,0,none⟩) 3 3)]):=by kernel_rfl
theorem LH:mute Tryz.prog 3 (sx Tryz.prog (lH Tryz.prog ga gl gc sb so sc ms N 3 c cs))=true:=by kernel_rfl
theorem PX:dB Tryz.prog (N+5) (oB Tryz.prog ga gl gc sb so sc ms N 3 c cs)=some (nx Tryz.prog (N+5) (oB Tryz.prog ga gl gc sb so sc ms N 3 c cs),#[],.cells #[.int .u64 0,.int .u32 0] 181):=by kernel_rfl
theorem LI:mute Tryz.prog 10 (nx Tryz.prog (N+5) (oB Tryz.prog ga gl gc sb so sc ms N 3 c cs))=true:=by kernel_rfl
theorem LJ:Hz Tryz.prog ga gl gc sb so sc ms N 3 c cs=dv Tryz.prog ga gl gc sb so sc ms N 3 c cs 0 x0 (dz Tryz.prog):=by kernel_rfl
theorem HL:mute Tryz.prog 13 (dv Tryz.prog ga gl gc sb so sc ms N 3 c cs 0 x (dz Tryz.prog))=true:=by kernel_rfl
theorem HM (g:Int):iB Tryz.prog (.int .i64 g) (aR Tryz.prog 13 (dv Tryz.prog ga gl gc sb so sc ms N 3 c cs 0 x (dz Tryz.prog)))=some (tp Tryz.prog ga gl gc sb so sc ms N 3 c cs 0 (xl x 0 ⟨sb,so+0,none⟩ g),#[dT ⟨sb,so+0,none⟩ false],[⟨sb,so+0,none⟩]):=by kernel_rfl
theorem HN:mute Tryz.prog 13 (dv Tryz.prog ga gl gc sb so sc ms N 3 c cs 1 x (dz Tryz.prog))=true:=by kernel_rfl
theorem HO (g:Int):iB Tryz.prog (.int .i64 g) (aR Tryz.prog 13 (dv Tryz.prog ga gl gc sb so sc ms N 3 c cs 1 x (dz Tryz.prog)))=some (tp Tryz.prog ga gl gc sb so sc ms N 3 c cs 1 (xl x 1 ⟨sb,so+1,none⟩ g),#[dT ⟨sb,so+1,none⟩ false],[⟨sb,so+1,none⟩]):=by kernel_rfl
theorem HP:mute Tryz.prog 13 (dv Tryz.prog ga gl gc sb so sc ms N 3 c cs 2 x (dz Tryz.prog))=true:=by kernel_rfl
theorem HR (g:Int):iB Tryz.prog (.int .i64 g) (aR Tryz.prog 13 (dv Tryz.prog ga gl gc sb so sc ms N 3 c cs 2 x (dz Tryz.prog)))=some (tp Tryz.prog ga gl gc sb so sc ms N 3 c cs 2 (xl x 2 ⟨sb,so+2,none⟩ g),#[dT ⟨sb,so+2,none⟩ false],[⟨sb,so+2,none⟩]):=by kernel_rfl
theorem PY:mute Tryz.prog 10 (dv Tryz.prog ga gl gc sb so sc ms N 3 c cs 3 x (dz Tryz.prog))=true:=by kernel_rfl
theorem LK:aR Tryz.prog 10 (dv Tryz.prog ga gl gc sb so sc ms N 3 c cs 3 x (dz Tryz.prog))=Hn Tryz.prog (N+5) (Lw Tryz.prog ga gl gc sb so sc ms N 3 c cs x) (Bd Tryz.prog ga gl gc sb so sc ms N 3 c cs):=by kernel_rfl
theorem PZ:dB Tryz.prog (N+3) (Hy Tryz.prog ga gl gc sb so sc ms N 4 c cs)=some (zj Tryz.prog ga gl gc sb so sc ms N 4 c cs,#[],.cells #[.int .i64 0,.int .i64 0,.int .i64 0,.bool false,.bool false,.int .i64 0,.int .i64 0,.int .i64 0,.bool false,.bool false,.int .i64 0,.int .i64 0,.int .i64 0,.bool false,.bool false,.int .i64 0,.int .i64 0,.int .i64 0,.bool false,.bool false] 146):=by kernel_rfl
theorem P0:dB Tryz.prog (N+4) (zj Tryz.prog ga gl gc sb so sc ms N 4 c cs)=some (lH Tryz.prog ga gl gc sb so sc ms N 4 c cs,#[],.cells #[.slice none 0 0] 142):=by kernel_rfl
theorem P1:lQ Tryz.prog (lH Tryz.prog ga gl gc sb so sc ms N 4 c cs)=some (sx Tryz.prog (lH Tryz.prog ga gl gc sb so sc ms N 4 c cs),#[dT ⟨N+4,0,none⟩ true],[(⟨N+4,0,none⟩,.slice (some ⟨N+3,0,none⟩) 4 4)]):=by kernel_rfl
theorem LL:mute Tryz.prog 3 (sx Tryz.prog (lH Tryz.prog ga gl gc sb so sc ms N 4 c cs))=true:=by kernel_rfl
theorem P2:dB Tryz.prog (N+5) (oB Tryz.prog ga gl gc sb so sc ms N 4 c cs)=some (nx Tryz.prog (N+5) (oB Tryz.prog ga gl gc sb so sc ms N 4 c cs),#[],.cells #[.int .u64 0,.int .u32 0] 181):=by kernel_rfl
theorem LM:mute Tryz.prog 10 (nx Tryz.prog (N+5) (oB Tryz.prog ga gl gc sb so sc ms N 4 c cs))=true:=by kernel_rfl
theorem LN:Hz Tryz.prog ga gl gc sb so sc ms N 4 c cs=dv Tryz.prog ga gl gc sb so sc ms N 4 c cs 0 x0 (dz Tryz.prog):=by kernel_rfl
theorem HT:mute Tryz.prog 13 (dv Tryz.prog ga gl gc sb so sc ms N 4 c cs 0 x (dz Tryz.prog))=true:=by kernel_rfl
theorem HU (g:Int):iB Tryz.prog (.int .i64 g) (aR Tryz.prog 13 (dv Tryz.prog ga gl gc sb so sc ms N 4 c cs 0 x (dz Tryz.prog)))=some (tp Tryz.prog ga gl gc sb so sc ms N 4 c cs 0 (xl x 0 ⟨sb,so+0,none⟩ g),#[dT ⟨sb,so+0,none⟩ false],[⟨sb,so+0,none⟩]):=by kernel_rfl
theorem HV:mute Tryz.prog 13 (dv Tryz.prog ga gl gc sb so sc ms N 4 c cs 1 x (dz Tryz.prog))=true:=by kernel_rfl
theorem HW (g:Int):iB Tryz.prog (.int .i64 g) (aR Tryz.prog 13 (dv Tryz.prog ga gl gc sb so sc ms N 4 c cs 1 x (dz Tryz.prog)))=some (tp Tryz.prog ga gl gc sb so sc ms N 4 c cs 1 (xl x 1 ⟨sb,so+1,none⟩ g),#[dT ⟨sb,so+1,none⟩ false],[⟨sb,so+1,none⟩]):=by kernel_rfl
theorem HX:mute Tryz.prog 13 (dv Tryz.prog ga gl gc sb so sc ms N 4 c cs 2 x (dz Tryz.prog))=true:=by kernel_rfl
theorem HY (g:Int):iB Tryz.prog (.int .i64 g) (aR Tryz.prog 13 (dv Tryz.prog ga gl gc sb so sc ms N 4 c cs 2 x (dz Tryz.prog)))=some (tp Tryz.prog ga gl gc sb so sc ms N 4 c cs 2 (xl x 2 ⟨sb,so+2,none⟩ g),#[dT ⟨sb,so+2,none⟩ false],[⟨sb,so+2,none⟩]):=by kernel_rfl
theorem H0:mute Tryz.prog 13 (dv Tryz.prog ga gl gc sb so sc ms N 4 c cs 3 x (dz Tryz.prog))=true:=by kernel_rfl
theorem H2 (g:Int):iB Tryz.prog (.int .i64 g) (aR Tryz.prog 13 (dv Tryz.prog ga gl gc sb so sc ms N 4 c cs 3 x (dz Tryz.prog)))=some (tp Tryz.prog ga gl gc sb so sc ms N 4 c cs 3 (xl x 3 ⟨sb,so+3,none⟩ g),#[dT ⟨sb,so+3,none⟩ false],[⟨sb,so+3,none⟩]):=by kernel_rfl
theorem P3:mute Tryz.prog 10 (dv Tryz.prog ga gl gc sb so sc ms N 4 c cs 4 x (dz Tryz.prog))=true:=by kernel_rfl
theorem LO:aR Tryz.prog 10 (dv Tryz.prog ga gl gc sb so sc ms N 4 c cs 4 x (dz Tryz.prog))=Hn Tryz.prog (N+5) (Lw Tryz.prog ga gl gc sb so sc ms N 4 c cs x) (Bd Tryz.prog ga gl gc sb so sc ms N 4 c cs):=by kernel_rfl
theorem P4:dB Tryz.prog (N+3) (Hy Tryz.prog ga gl gc sb so sc ms N 5 c cs)=some (zj Tryz.prog ga gl gc sb so sc ms N 5 c cs,#[],.cells #[.int .i64 0,.int .i64 0,.int .i64 0,.bool false,.bool false,.int .i64 0,.int .i64 0,.int .i64 0,.bool false,.bool false,.int .i64 0,.int .i64 0,.int .i64 0,.bool false,.bool false,.int .i64 0,.int .i64 0,.int .i64 0,.bool false,.bool false,.int .i64 0,.int .i64 0,.int .i64 0,.bool false,.bool false] 146):=by kernel_rfl
theorem P5:dB Tryz.prog (N+4) (zj Tryz.prog ga gl gc sb so sc ms N 5 c cs)=some (lH Tryz.prog ga gl gc sb so sc ms N 5 c cs,#[],.cells #[.slice none 0 0] 142):=by kernel_rfl
theorem P6:lQ Tryz.prog (lH Tryz.prog ga gl gc sb so sc ms N 5 c cs)=some (sx Tryz.prog (lH Tryz.prog ga gl gc sb so sc ms N 5 c cs),#[dT ⟨N+4,0,none⟩ true],[(⟨N+4,0,none⟩,.slice (some ⟨N+3,0,none⟩) 5 5)]):=by kernel_rfl
theorem LP:mute Tryz.prog 3 (sx Tryz.prog (lH Tryz.prog ga gl gc sb so sc ms N 5 c cs))=true:=by kernel_rfl
theorem P7:dB Tryz.prog (N+5) (oB Tryz.prog ga gl gc sb so sc ms N 5 c cs)=some (nx Tryz.prog (N+5) (oB Tryz.prog ga gl gc sb so sc ms N 5 c cs),#[],.cells #[.int .u64 0,.int .u32 0] 181):=by kernel_rfl
theorem LQ:mute Tryz.prog 10 (nx Tryz.prog (N+5) (oB Tryz.prog ga gl gc sb so sc ms N 5 c cs))=true:=by kernel_rfl
theorem LS:Hz Tryz.prog ga gl gc sb so sc ms N 5 c cs=dv Tryz.prog ga gl gc sb so sc ms N 5 c cs 0 x0 (dz Tryz.prog):=by kernel_rfl
theorem H3:mute Tryz.prog 13 (dv Tryz.prog ga gl gc sb so sc ms N 5 c cs 0 x (dz Tryz.prog))=true:=by kernel_rfl
theorem H4 (g:Int):iB Tryz.prog (.int .i64 g) (aR Tryz.prog 13 (dv Tryz.prog ga gl gc sb so sc ms N 5 c cs 0 x (dz Tryz.prog)))=some (tp Tryz.prog ga gl gc sb so sc ms N 5 c cs 0 (xl x 0 ⟨sb,so+0,none⟩ g),#[dT ⟨sb,so+0,none⟩ false],[⟨sb,so+0,none⟩]):=by kernel_rfl
theorem H5:mute Tryz.prog 13 (dv Tryz.prog ga gl gc sb so sc ms N 5 c cs 1 x (dz Tryz.prog))=true:=by kernel_rfl
theorem H6 (g:Int):iB Tryz.prog (.int .i64 g) (aR Tryz.prog 13 (dv Tryz.prog ga gl gc sb so sc ms N 5 c cs 1 x (dz Tryz.prog)))=some (tp Tryz.prog ga gl gc sb so sc ms N 5 c cs 1 (xl x 1 ⟨sb,so+1,none⟩ g),#[dT ⟨sb,so+1,none⟩ false],[⟨sb,so+1,none⟩]):=by kernel_rfl
theorem H7:mute Tryz.prog 13 (dv Tryz.prog ga gl gc sb so sc ms N 5 c cs 2 x (dz Tryz.prog))=true:=by kernel_rfl
theorem H9 (g:Int):iB Tryz.prog (.int .i64 g) (aR Tryz.prog 13 (dv Tryz.prog ga gl gc sb so sc ms N 5 c cs 2 x (dz Tryz.prog)))=some (tp Tryz.prog ga gl gc sb so sc ms N 5 c cs 2 (xl x 2 ⟨sb,so+2,none⟩ g),#[dT ⟨sb,so+2,none⟩ false],[⟨sb,so+2,none⟩]):=by kernel_rfl
theorem H_:mute Tryz.prog 13 (dv Tryz.prog ga gl gc sb so sc ms N 5 c cs 3 x (dz Tryz.prog))=true:=by kernel_rfl
theorem H' (g:Int):iB Tryz.prog (.int .i64 g) (aR Tryz.prog 13 (dv Tryz.prog ga gl gc sb so sc ms N 5 c cs 3 x (dz Tryz.prog)))=some (tp Tryz.prog ga gl gc sb so sc ms N 5 c cs 3 (xl x 3 ⟨sb,so+3,none⟩ g),#[dT ⟨sb,so+3,none⟩ false],[⟨sb,so+3,none⟩]):=by kernel_rfl
theorem Ia:mute Tryz.prog 13 (dv Tryz.prog ga gl gc sb so sc ms N 5 c cs 4 x (dz Tryz.prog))=true:=by kernel_rfl
theorem Ib (g:Int):iB Tryz.prog (.int .i64 g) (aR Tryz.prog 13 (dv Tryz.prog ga gl gc sb so sc ms N 5 c cs 4 x (dz Tryz.prog)))=some (tp Tryz.prog ga gl gc sb so sc ms N 5 c cs 4 (xl x 4 ⟨sb,so+4,none⟩ g),#[dT ⟨sb,so+4,none⟩ false],[⟨sb,so+4,none⟩]):=by kernel_rfl
theorem P8:mute Tryz.prog 10 (dv Tryz.prog ga gl gc sb so sc ms N 5 c cs 5 x (dz Tryz.prog))=true:=by kernel_rfl
theorem LU:aR Tryz.prog 10 (dv Tryz.prog ga gl gc sb so sc ms N 5 c cs 5 x (dz Tryz.prog))=Hn Tryz.prog (N+5) (Lw Tryz.prog ga gl gc sb so sc ms N 5 c cs x) (Bd Tryz.prog ga gl gc sb so sc ms N 5 c cs):=by kernel_rfl
theorem LV:dB Tryz.prog r1 (tp Tryz.prog ga gl gc sb so sc ms N n c cs i x)=some (lq1 Tryz.prog ga gl gc sb so sc ms N n c cs i x r1,#[],.cells #[.int .i64 0] 3):=by kernel_rfl
theorem LW:dB Tryz.prog r2 (lq1 Tryz.prog ga gl gc sb so sc ms N n c cs i x r1)=some (lq2 Tryz.prog ga gl gc sb so sc ms N n c cs i x r1 r2,#[],.cells #[.int .i64 0] 3):=by kernel_rfl
theorem Xo (y:Nat→Value)(a:Addr)(g:Int):lQ Tryz.prog (lq2 Tryz.prog ga gl gc sb so sc ms N n c cs i (xl y i a g) r1 r2)=some (lq3 Tryz.prog ga gl gc sb so sc ms N n c cs i (xl y i a g) r1 r2,#[dT ⟨r1,0,none⟩ true],[(⟨r1,0,none⟩,.int .i64 i)]):=by kernel_rfl
theorem Xp (y:Nat→Value)(a:Addr)(g:Int):lQ Tryz.prog (lq3 Tryz.prog ga gl gc sb so sc ms N n c cs i (xl y i a g) r1 r2)=some (lq4 Tryz.prog ga gl gc sb so sc ms N n c cs i (xl y i a g) r1 r2,#[dT ⟨r2,0,none⟩ true],[(⟨r2,0,none⟩,.int .i64 g)]):=by kernel_rfl
theorem Ui (y:Nat→Value)(a:Addr)(g:Int):mute Tryz.prog 4 (lq4 Tryz.prog ga gl gc sb so sc ms N n c cs i (xl y i a g) r1 r2)=true:=by kernel_rfl
theorem Xq (y:Nat→Value)(a:Addr)(g:Int):aR Tryz.prog 4 (lq4 Tryz.prog ga gl gc sb so sc ms N n c cs i (xl y i a g) r1 r2)=ad0 Tryz.prog (N+5) (laF Tryz.prog ga gl gc sb so sc ms N n c cs i (xl y i a g) r1 r2) (Bd Tryz.prog ga gl gc sb so sc ms N n c cs):=by kernel_rfl
theorem Uj (y:Nat→Value)(a:Addr)(g:Int):mute Tryz.prog 3 (lr0 Tryz.prog ga gl gc sb so sc ms N n c cs i (xl y i a g) r1 r2)=true:=by kernel_rfl
theorem aat (y:Nat→Value)(a:Addr)(g:Int):Hv Tryz.prog (lr1 Tryz.prog ga gl gc sb so sc ms N n c cs i (xl y i a g) r1 r2)=some (rf Tryz.prog ga gl gc sb so sc ms N n c cs i (xl y i a g) r1 r2,OE Tryz.prog (N+5) (N+2) r2 (N+4) r1):=by kernel_rfl
theorem LX (y:Nat→Value)(a:Addr)(g:Int):mute Tryz.prog 7 (rf Tryz.prog ga gl gc sb so sc ms N n c cs 0 (xl y 0 a g) r1 r2)=true:=by kernel_rfl
theorem LY (y:Nat→Value)(a:Addr)(g:Int):aR Tryz.prog 7 (rf Tryz.prog ga gl gc sb so sc ms N n c cs 0 (xl y 0 a g) r1 r2)=dv Tryz.prog ga gl gc sb so sc ms N n c cs 1 (xn (aR Tryz.prog 7 (rf Tryz.prog ga gl gc sb so sc ms N n c cs 0 (xl y 0 a g) r1 r2))) (dz Tryz.prog):=by kernel_rfl
theorem LZ (y:Nat→Value)(a:Addr)(g:Int):mute Tryz.prog 7 (rf Tryz.prog ga gl gc sb so sc ms N n c cs 1 (xl y 1 a g) r1 r2)=true:=by kernel_rfl
theorem L0 (y:Nat→Value)(a:Addr)(g:Int):aR Tryz.prog 7 (rf Tryz.prog ga gl gc sb so sc ms N n c cs 1 (xl y 1 a g) r1 r2)=dv Tryz.prog ga gl gc sb so sc ms N n c cs 2 (xn (aR Tryz.prog 7 (rf Tryz.prog ga gl gc sb so sc ms N n c cs 1 (xl y 1 a g) r1 r2))) (dz Tryz.prog):=by kernel_rfl
theorem L1 (y:Nat→Value)(a:Addr)(g:Int):mute Tryz.prog 7 (rf Tryz.prog ga gl gc sb so sc ms N n c cs 2 (xl y 2 a g) r1 r2)=true:=by kernel_rfl
theorem L2 (y:Nat→Value)(a:Addr)(g:Int):aR Tryz.prog 7 (rf Tryz.prog ga gl gc sb so sc ms N n c cs 2 (xl y 2 a g) r1 r2)=dv Tryz.prog ga gl gc sb so sc ms N n c cs 3 (xn (aR Tryz.prog 7 (rf Tryz.prog ga gl gc sb so sc ms N n c cs 2 (xl y 2 a g) r1 r2))) (dz Tryz.prog):=by kernel_rfl
theorem L3 (y:Nat→Value)(a:Addr)(g:Int):mute Tryz.prog 7 (rf Tryz.prog ga gl gc sb so sc ms N n c cs 3 (xl y 3 a g) r1 r2)=true:=by kernel_rfl
theorem L4 (y:Nat→Value)(a:Addr)(g:Int):aR Tryz.prog 7 (rf Tryz.prog ga gl gc sb so sc ms N n c cs 3 (xl y 3 a g) r1 r2)=dv Tryz.prog ga gl gc sb so sc ms N n c cs 4 (xn (aR Tryz.prog 7 (rf Tryz.prog ga gl gc sb so sc ms N n c cs 3 (xl y 3 a g) r1 r2))) (dz Tryz.prog):=by kernel_rfl
theorem L5 (y:Nat→Value)(a:Addr)(g:Int):mute Tryz.prog 7 (rf Tryz.prog ga gl gc sb so sc ms N n c cs 4 (xl y 4 a g) r1 r2)=true:=by kernel_rfl
theorem L6 (y:Nat→Value)(a:Addr)(g:Int):aR Tryz.prog 7 (rf Tryz.prog ga gl gc sb so sc ms N n c cs 4 (xl y 4 a g) r1 r2)=dv Tryz.prog ga gl gc sb so sc ms N n c cs 5 (xn (aR Tryz.prog 7 (rf Tryz.prog ga gl gc sb so sc ms N n c cs 4 (xl y 4 a g) r1 r2))) (dz Tryz.prog):=by kernel_rfl
theorem L7:mute Tryz.prog 3 (HD Tryz.prog ga gl gc sb so sc ms N 1 c cs x)=true:=by kernel_rfl
theorem L8 (v:Value):bF Tryz.prog v none (nk Tryz.prog ga gl gc sb so sc ms N 1 c cs x)=some ⟨bm (nk Tryz.prog ga gl gc sb so sc ms N 1 c cs x) v,#[dT ⟨N+4,0,none⟩ false],[⟨N+4,0,none⟩],[],none⟩:=by kernel_rfl
theorem L9 (A l q:Nat):mute Tryz.prog 8 (bm (nk Tryz.prog ga gl gc sb so sc ms N 1 c cs x) (.slice (some ⟨A,0,none⟩) l q))=true:=by kernel_rfl
theorem P9 (A l q:Nat):aR Tryz.prog 8 (bm (nk Tryz.prog ga gl gc sb so sc ms N 1 c cs x) (.slice (some ⟨A,0,none⟩) l q))={frame:=c.finish (.slice (some ⟨A,0,none⟩) l q),callers:=cs,status:= .running,dying:=none}:=by kernel_rfl
theorem L_:mute Tryz.prog 3 (HD Tryz.prog ga gl gc sb so sc ms N 2 c cs x)=true:=by kernel_rfl
theorem L' (v:Value):bF Tryz.prog v none (nk Tryz.prog ga gl gc sb so sc ms N 2 c cs x)=some ⟨bm (nk Tryz.prog ga gl gc sb so sc ms N 2 c cs x) v,#[dT ⟨N+4,0,none⟩ false],[⟨N+4,0,none⟩],[],none⟩:=by kernel_rfl
theorem Mc (A l q:Nat):mute Tryz.prog 8 (bm (nk Tryz.prog ga gl gc sb so sc ms N 2 c cs x) (.slice (some ⟨A,0,none⟩) l q))=true:=by kernel_rfl
theorem P_ (A l q:Nat):aR Tryz.prog 8 (bm (nk Tryz.prog ga gl gc sb so sc ms N 2 c cs x) (.slice (some ⟨A,0,none⟩) l q))={frame:=c.finish (.slice (some ⟨A,0,none⟩) l q),callers:=cs,status:= .running,dying:=none}:=by kernel_rfl
theorem Md:mute Tryz.prog 3 (HD Tryz.prog ga gl gc sb so sc ms N 3 c cs x)=true:=by kernel_rfl
theorem Me (v:Value):bF Tryz.prog v none (nk Tryz.prog ga gl gc sb so sc ms N 3 c cs x)=some ⟨bm (nk Tryz.prog ga gl gc sb so sc ms N 3 c cs x) v,#[dT ⟨N+4,0,none⟩ false],[⟨N+4,0,none⟩],[],none⟩:=by kernel_rfl
theorem Mg (A l q:Nat):mute Tryz.prog 8 (bm (nk Tryz.prog ga gl gc sb so sc ms N 3 c cs x) (.slice (some ⟨A,0,none⟩) l q))=true:=by kernel_rfl
theorem Qa (A l q:Nat):aR Tryz.prog 8 (bm (nk Tryz.prog ga gl gc sb so sc ms N 3 c cs x) (.slice (some ⟨A,0,none⟩) l q))={frame:=c.finish (.slice (some ⟨A,0,none⟩) l q),callers:=cs,status:= .running,dying:=none}:=by kernel_rfl
theorem Mh:mute Tryz.prog 3 (HD Tryz.prog ga gl gc sb so sc ms N 4 c cs x)=true:=by kernel_rfl
theorem Mi (v:Value):bF Tryz.prog v none (nk Tryz.prog ga gl gc sb so sc ms N 4 c cs x)=some ⟨bm (nk Tryz.prog ga gl gc sb so sc ms N 4 c cs x) v,#[dT ⟨N+4,0,none⟩ false],[⟨N+4,0,none⟩],[],none⟩:=by kernel_rfl
theorem Mj (A l q:Nat):mute Tryz.prog 8 (bm (nk Tryz.prog ga gl gc sb so sc ms N 4 c cs x) (.slice (some ⟨A,0,none⟩) l q))=true:=by kernel_rfl
theorem Qb (A l q:Nat):aR Tryz.prog 8 (bm (nk Tryz.prog ga gl gc sb so sc ms N 4 c cs x) (.slice (some ⟨A,0,none⟩) l q))={frame:=c.finish (.slice (some ⟨A,0,none⟩) l q),callers:=cs,status:= .running,dying:=none}:=by kernel_rfl
theorem Mk:mute Tryz.prog 3 (HD Tryz.prog ga gl gc sb so sc ms N 5 c cs x)=true:=by kernel_rfl
theorem Ml (v:Value):bF Tryz.prog v none (nk Tryz.prog ga gl gc sb so sc ms N 5 c cs x)=some ⟨bm (nk Tryz.prog ga gl gc sb so sc ms N 5 c cs x) v,#[dT ⟨N+4,0,none⟩ false],[⟨N+4,0,none⟩],[],none⟩:=by kernel_rfl
theorem Mm (A l q:Nat):mute Tryz.prog 8 (bm (nk Tryz.prog ga gl gc sb so sc ms N 5 c cs x) (.slice (some ⟨A,0,none⟩) l q))=true:=by kernel_rfl
theorem Qc (A l q:Nat):aR Tryz.prog 8 (bm (nk Tryz.prog ga gl gc sb so sc ms N 5 c cs x) (.slice (some ⟨A,0,none⟩) l q))={frame:=c.finish (.slice (some ⟨A,0,none⟩) l q),callers:=cs,status:= .running,dying:=none}:=by kernel_rfl
end
section
variable(ga:Addr)(gl gc sb so sc:Nat)(ms:Int)(N n:Nat)(c:Frame)(cs:List Frame)(x:Nat→Value)(r1 r2:Nat)
theorem Xr (h1:1≤n)(h5:n≤5):∃z:Array Value,z.size=5*n∧dB Tryz.prog (N+3) (Hy Tryz.prog ga gl gc sb so sc ms N n c cs)=some (zj Tryz.prog ga gl gc sb so sc ms N n c cs,#[],.cells z 146):=by
 obtain rfl|rfl|rfl|rfl|rfl:n=1∨n=2∨n=3∨n=4∨n=5:=by omega
 ·exact⟨_,by rfl,PJ ga gl gc sb so sc ms N c cs⟩
 ·exact⟨_,by rfl,PO ga gl gc sb so sc ms N c cs⟩
 ·exact⟨_,by rfl,PU ga gl gc sb so sc ms N c cs⟩
 ·exact⟨_,by rfl,PZ ga gl gc sb so sc ms N c cs⟩
 ·exact⟨_,by rfl,P4 ga gl gc sb so sc ms N c cs⟩
theorem Xs (h1:1≤n)(h5:n≤5):dB Tryz.prog (N+4) (zj Tryz.prog ga gl gc sb so sc ms N n c cs)=some (lH Tryz.prog ga gl gc sb so sc ms N n c cs,#[],.cells #[.slice none 0 0] 142):=by
 obtain rfl|rfl|rfl|rfl|rfl:n=1∨n=2∨n=3∨n=4∨n=5:=by omega
 ·exact PK ga gl gc sb so sc ms N c cs
 ·exact PQ ga gl gc sb so sc ms N c cs
 ·exact PV ga gl gc sb so sc ms N c cs
 ·exact P0 ga gl gc sb so sc ms N c cs
 ·exact P5 ga gl gc sb so sc ms N c cs
theorem Xt (h1:1≤n)(h5:n≤5):lQ Tryz.prog (lH Tryz.prog ga gl gc sb so sc ms N n c cs)=some (sx Tryz.prog (lH Tryz.prog ga gl gc sb so sc ms N n c cs),#[dT ⟨N+4,0,none⟩ true],[(⟨N+4,0,none⟩,.slice (some ⟨N+3,0,none⟩) n n)]):=by
 obtain rfl|rfl|rfl|rfl|rfl:n=1∨n=2∨n=3∨n=4∨n=5:=by omega
 ·exact PL ga gl gc sb so sc ms N c cs
 ·exact PR ga gl gc sb so sc ms N c cs
 ·exact PW ga gl gc sb so sc ms N c cs
 ·exact P1 ga gl gc sb so sc ms N c cs
 ·exact P6 ga gl gc sb so sc ms N c cs
theorem Uk (h1:1≤n)(h5:n≤5):mute Tryz.prog 3 (sx Tryz.prog (lH Tryz.prog ga gl gc sb so sc ms N n c cs))=true:=by
 obtain rfl|rfl|rfl|rfl|rfl:n=1∨n=2∨n=3∨n=4∨n=5:=by omega
 ·exact Ly ga gl gc sb so sc ms N c cs
 ·exact LC ga gl gc sb so sc ms N c cs
 ·exact LH ga gl gc sb so sc ms N c cs
 ·exact LL ga gl gc sb so sc ms N c cs
 ·exact LP ga gl gc sb so sc ms N c cs
theorem Xu (h1:1≤n)(h5:n≤5):dB Tryz.prog (N+5) (oB Tryz.prog ga gl gc sb so sc ms N n c cs)=some (nx Tryz.prog (N+5) (oB Tryz.prog ga gl gc sb so sc ms N n c cs),#[],.cells #[.int .u64 0,.int .u32 0] 181):=by
 obtain rfl|rfl|rfl|rfl|rfl:n=1∨n=2∨n=3∨n=4∨n=5:=by omega
 ·exact PM ga gl gc sb so sc ms N c cs
 ·exact PS ga gl gc sb so sc ms N c cs
 ·exact PX ga gl gc sb so sc ms N c cs
 ·exact P2 ga gl gc sb so sc ms N c cs
 ·exact P7 ga gl gc sb so sc ms N c cs
theorem Ul (h1:1≤n)(h5:n≤5):mute Tryz.prog 10 (nx Tryz.prog (N+5) (oB Tryz.prog ga gl gc sb so sc ms N n c cs))=true:=by
 obtain rfl|rfl|rfl|rfl|rfl:n=1∨n=2∨n=3∨n=4∨n=5:=by omega
 ·exact Lz ga gl gc sb so sc ms N c cs
 ·exact LD ga gl gc sb so sc ms N c cs
 ·exact LI ga gl gc sb so sc ms N c cs
 ·exact LM ga gl gc sb so sc ms N c cs
 ·exact LQ ga gl gc sb so sc ms N c cs
theorem Um (h1:1≤n)(h5:n≤5):Hz Tryz.prog ga gl gc sb so sc ms N n c cs=dv Tryz.prog ga gl gc sb so sc ms N n c cs ((0:Nat):Int) x0 (dz Tryz.prog):=by
 obtain rfl|rfl|rfl|rfl|rfl:n=1∨n=2∨n=3∨n=4∨n=5:=by omega
 ·exact LA ga gl gc sb so sc ms N c cs
 ·exact LF ga gl gc sb so sc ms N c cs
 ·exact LJ ga gl gc sb so sc ms N c cs
 ·exact LN ga gl gc sb so sc ms N c cs
 ·exact LS ga gl gc sb so sc ms N c cs
theorem Xv (h1:1≤n)(h5:n≤5):mute Tryz.prog 10 (dv Tryz.prog ga gl gc sb so sc ms N n c cs n x (dz Tryz.prog))=true:=by
 obtain rfl|rfl|rfl|rfl|rfl:n=1∨n=2∨n=3∨n=4∨n=5:=by omega
 ·exact PN ga gl gc sb so sc ms N c cs x
 ·exact PT ga gl gc sb so sc ms N c cs x
 ·exact PY ga gl gc sb so sc ms N c cs x
 ·exact P3 ga gl gc sb so sc ms N c cs x
 ·exact P8 ga gl gc sb so sc ms N c cs x
theorem Un (h1:1≤n)(h5:n≤5):aR Tryz.prog 10 (dv Tryz.prog ga gl gc sb so sc ms N n c cs n x (dz Tryz.prog))=Hn Tryz.prog (N+5) (Lw Tryz.prog ga gl gc sb so sc ms N n c cs x) (Bd Tryz.prog ga gl gc sb so sc ms N n c cs):=by
 obtain rfl|rfl|rfl|rfl|rfl:n=1∨n=2∨n=3∨n=4∨n=5:=by omega
 ·exact LB ga gl gc sb so sc ms N c cs x
 ·exact LG ga gl gc sb so sc ms N c cs x
 ·exact LK ga gl gc sb so sc ms N c cs x
 ·exact LO ga gl gc sb so sc ms N c cs x
 ·exact LU ga gl gc sb so sc ms N c cs x
theorem Uo (h1:1≤n)(h5:n≤5):mute Tryz.prog 3 (HD Tryz.prog ga gl gc sb so sc ms N n c cs x)=true:=by
 obtain rfl|rfl|rfl|rfl|rfl:n=1∨n=2∨n=3∨n=4∨n=5:=by omega
 ·exact L7 ga gl gc sb so sc ms N c cs x
 ·exact L_ ga gl gc sb so sc ms N c cs x
 ·exact Md ga gl gc sb so sc ms N c cs x
 ·exact Mh ga gl gc sb so sc ms N c cs x
 ·exact Mk ga gl gc sb so sc ms N c cs x
theorem Up (h1:1≤n)(h5:n≤5)(v:Value):bF Tryz.prog v none (nk Tryz.prog ga gl gc sb so sc ms N n c cs x)=some ⟨bm (nk Tryz.prog ga gl gc sb so sc ms N n c cs x) v,#[dT ⟨N+4,0,none⟩ false],[⟨N+4,0,none⟩],[],none⟩:=by
 obtain rfl|rfl|rfl|rfl|rfl:n=1∨n=2∨n=3∨n=4∨n=5:=by omega
 ·exact L8 ga gl gc sb so sc ms N c cs x v
 ·exact L' ga gl gc sb so sc ms N c cs x v
 ·exact Me ga gl gc sb so sc ms N c cs x v
 ·exact Mi ga gl gc sb so sc ms N c cs x v
 ·exact Ml ga gl gc sb so sc ms N c cs x v
theorem Uq (h1:1≤n)(h5:n≤5)(A l q:Nat):mute Tryz.prog 8 (bm (nk Tryz.prog ga gl gc sb so sc ms N n c cs x) (.slice (some ⟨A,0,none⟩) l q))=true:=by
 obtain rfl|rfl|rfl|rfl|rfl:n=1∨n=2∨n=3∨n=4∨n=5:=by omega
 ·exact L9 ga gl gc sb so sc ms N c cs x A l q
 ·exact Mc ga gl gc sb so sc ms N c cs x A l q
 ·exact Mg ga gl gc sb so sc ms N c cs x A l q
 ·exact Mj ga gl gc sb so sc ms N c cs x A l q
 ·exact Mm ga gl gc sb so sc ms N c cs x A l q
theorem Xw (h1:1≤n)(h5:n≤5)(A l q:Nat):aR Tryz.prog 8 (bm (nk Tryz.prog ga gl gc sb so sc ms N n c cs x) (.slice (some ⟨A,0,none⟩) l q))={frame:=c.finish (.slice (some ⟨A,0,none⟩) l q),callers:=cs,status:= .running,dying:=none}:=by
 obtain rfl|rfl|rfl|rfl|rfl:n=1∨n=2∨n=3∨n=4∨n=5:=by omega
 ·exact P9 ga gl gc sb so sc ms N c cs x A l q
 ·exact P_ ga gl gc sb so sc ms N c cs x A l q
 ·exact Qa ga gl gc sb so sc ms N c cs x A l q
 ·exact Qb ga gl gc sb so sc ms N c cs x A l q
 ·exact Qc ga gl gc sb so sc ms N c cs x A l q
theorem Xx (i:Nat)(hi:i<n)(h5:n≤5):mute Tryz.prog 13 (dv Tryz.prog ga gl gc sb so sc ms N n c cs (i:Nat) x (dz Tryz.prog))=true:=by
 obtain rfl|rfl|rfl|rfl|rfl:n=1∨n=2∨n=3∨n=4∨n=5:=by omega
 ·obtain rfl:i=0:=by omega
  exact HF ga gl gc sb so sc ms N c cs x
 ·obtain rfl|rfl:i=0∨i=1:=by omega
  ·exact HH ga gl gc sb so sc ms N c cs x
  ·exact HJ ga gl gc sb so sc ms N c cs x
 ·obtain rfl|rfl|rfl:i=0∨i=1∨i=2:=by omega
  ·exact HL ga gl gc sb so sc ms N c cs x
  ·exact HN ga gl gc sb so sc ms N c cs x
  ·exact HP ga gl gc sb so sc ms N c cs x
 ·obtain rfl|rfl|rfl|rfl:i=0∨i=1∨i=2∨i=3:=by omega
  ·exact HT ga gl gc sb so sc ms N c cs x
  ·exact HV ga gl gc sb so sc ms N c cs x
  ·exact HX ga gl gc sb so sc ms N c cs x
  ·exact H0 ga gl gc sb so sc ms N c cs x
 ·obtain rfl|rfl|rfl|rfl|rfl:i=0∨i=1∨i=2∨i=3∨i=4:=by omega
  ·exact H3 ga gl gc sb so sc ms N c cs x
  ·exact H5 ga gl gc sb so sc ms N c cs x
  ·exact H7 ga gl gc sb so sc ms N c cs x
  ·exact H_ ga gl gc sb so sc ms N c cs x
  ·exact Ia ga gl gc sb so sc ms N c cs x
theorem Xy (i:Nat)(hi:i<n)(h5:n≤5)(g:Int):iB Tryz.prog (.int .i64 g) (aR Tryz.prog 13 (dv Tryz.prog ga gl gc sb so sc ms N n c cs (i:Nat) x (dz Tryz.prog)))=some (tp Tryz.prog ga gl gc sb so sc ms N n c cs (i:Nat) (xl x (i:Nat) ⟨sb,so+i,none⟩ g),#[dT ⟨sb,so+i,none⟩ false],[⟨sb,so+i,none⟩]):=by
 obtain rfl|rfl|rfl|rfl|rfl:n=1∨n=2∨n=3∨n=4∨n=5:=by omega
 ·obtain rfl:i=0:=by omega
  exact HG ga gl gc sb so sc ms N c cs x g
 ·obtain rfl|rfl:i=0∨i=1:=by omega
  ·exact HI ga gl gc sb so sc ms N c cs x g
  ·exact HK ga gl gc sb so sc ms N c cs x g
 ·obtain rfl|rfl|rfl:i=0∨i=1∨i=2:=by omega
  ·exact HM ga gl gc sb so sc ms N c cs x g
  ·exact HO ga gl gc sb so sc ms N c cs x g
  ·exact HR ga gl gc sb so sc ms N c cs x g
 ·obtain rfl|rfl|rfl|rfl:i=0∨i=1∨i=2∨i=3:=by omega
  ·exact HU ga gl gc sb so sc ms N c cs x g
  ·exact HW ga gl gc sb so sc ms N c cs x g
  ·exact HY ga gl gc sb so sc ms N c cs x g
  ·exact H2 ga gl gc sb so sc ms N c cs x g
 ·obtain rfl|rfl|rfl|rfl|rfl:i=0∨i=1∨i=2∨i=3∨i=4:=by omega
  ·exact H4 ga gl gc sb so sc ms N c cs x g
  ·exact H6 ga gl gc sb so sc ms N c cs x g
  ·exact H9 ga gl gc sb so sc ms N c cs x g
  ·exact H' ga gl gc sb so sc ms N c cs x g
  ·exact Ib ga gl gc sb so sc ms N c cs x g
theorem Ur (i:Nat)(hi:i<5)(y:Nat→Value)(a:Addr)(g:Int):mute Tryz.prog 7 (rf Tryz.prog ga gl gc sb so sc ms N n c cs (i:Nat) (xl y (i:Nat) a g) r1 r2)=true:=by
 obtain rfl|rfl|rfl|rfl|rfl:i=0∨i=1∨i=2∨i=3∨i=4:=by omega
 ·exact LX ga gl gc sb so sc ms N n c cs r1 r2 y a g
 ·exact LZ ga gl gc sb so sc ms N n c cs r1 r2 y a g
 ·exact L1 ga gl gc sb so sc ms N n c cs r1 r2 y a g
 ·exact L3 ga gl gc sb so sc ms N n c cs r1 r2 y a g
 ·exact L5 ga gl gc sb so sc ms N n c cs r1 r2 y a g
theorem Us (i:Nat)(hi:i<5)(y:Nat→Value)(a:Addr)(g:Int):∃x',aR Tryz.prog 7 (rf Tryz.prog ga gl gc sb so sc ms N n c cs (i:Nat) (xl y (i:Nat) a g) r1 r2)=dv Tryz.prog ga gl gc sb so sc ms N n c cs ((i+1:Nat):Int) x' (dz Tryz.prog):=by
 obtain rfl|rfl|rfl|rfl|rfl:i=0∨i=1∨i=2∨i=3∨i=4:=by omega
 ·exact⟨_,LY ga gl gc sb so sc ms N n c cs r1 r2 y a g⟩
 ·exact⟨_,L0 ga gl gc sb so sc ms N n c cs r1 r2 y a g⟩
 ·exact⟨_,L2 ga gl gc sb so sc ms N n c cs r1 r2 y a g⟩
 ·exact⟨_,L4 ga gl gc sb so sc ms N n c cs r1 r2 y a g⟩
 ·exact⟨_,L6 ga gl gc sb so sc ms N n c cs r1 r2 y a g⟩
end
end Go.Proofs.YtabjbdnokpjipaaGreat.Sr
